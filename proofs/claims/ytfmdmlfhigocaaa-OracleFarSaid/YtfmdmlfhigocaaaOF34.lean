/- A part of the proof (O11 O14 K1 F62). -/
import Derived.Test.YtfmdmlfhigocaaaOF14
import Derived.Test.YtfmdmlfhigocaaaOF16
import Derived.Test.YtfmdmlfhigocaaaOF25
import Derived.Test.YtfmdmlfhigocaaaOF28
import Derived.Test.YtfmdmlfhigocaaaOF30
import Derived.Test.YtfmdmlfhigocaaaOF31
import Derived.Test.YtfmdmlfhigocaaaOF33
set_option linter.unusedSimpArgs false
set_option linter.unusedVariables false
set_option maxRecDepth 100000
set_option maxHeartbeats 80000000
namespace Go.Proofs.Ytfmdmlfhigocaaa
open Go.VL
theorem nA (aR:List Nat) (q:Nat) (l:List Nat):eD aR (bd q l)=bd q l:=by
 unfold eD bd
 simp only[List.map_map]
 congr 1
theorem H9 (k g:Nat) (v:V) (bg:Nat) (Bs:List (List Bool)):(⟨(ez bg Bs).g,(ez bg Bs).live,(ez bg Bs).sz,(ez bg Bs).au.map fun c=>c.map (lU k g v)⟩:VL.Obj)=ez bg Bs:=by
 unfold ez
 simp only[List.map_map]
 congr 1
theorem J4 (k g:Nat) (v:V) (cg b a:Nat) (C:List av):(⟨(cr cg b a C).g,(cr cg b a C).live,(cr cg b a C).sz,(cr cg b a C).au.map fun c=>c.map (lU k g v)⟩:VL.Obj)=cr cg b a C:=by
 have hp:∀x,lU k g v (bQ b a x)=bQ b a x:=by
  intro x
  cases x with
  |none=>rfl
  |some x =>
   obtain⟨re,k⟩:=x
   unfold bQ
   simp only
   split
   ·rfl
   ·split <;> rfl
 unfold cr
 simp only[List.map_map]
 congr 1
 apply List.map_congr_left
 intro i _
 simp [av.cells,hp,lU,i64]
theorem P4 {L:Nat}{e:VL.Env}{s:List VL.Obj}{gb:Nat}{B:List Nat} (k:Nat) (ho:s[k]?=some (bd gb B)):bI L e s e (s.set k (bd gb [])):=by
 cases B with
 |nil =>
  have:s.set k (bd gb [])=s:=by
   apply List.ext_getElem?
   intro j
   by_cases hj:j=k
   ·subst hj;rw[List.getElem?_set_self (List.getElem?_eq_some_iff.1 ho).1,ho]
   ·rw[List.getElem?_set_ne (Ne.symm hj)]
  rw[this]
  exact bI.refl
 |cons x B =>
  refine bI.N8 (o:=bd gb (x::B)) k 0 ho (fun es h=>?_)
  have h1:(bd gb (x::B)).au[0]?=some [i64 (x:Int)]:=rfl
  rw[h,eB,List.getElem?_map]at h1
  obtain⟨y,_,h2⟩:=Option.map_eq_some_iff.1 h1
  have h3:=congrArg List.length h2
  simp at h3
section
variable (t:List Int) (Bs:List (List Bool)) (C:List av)
def eW (p:Nat) (l:List Nat) (st:tU):tU:=l.foldl (fun st n=>fE t Bs C p (C.length+1) (n+1) st) st
def bR:Nat->tU×Nat
 |0=>(⟨List.replicate C.length 0,List.replicate (t.length+1) false,[],0⟩,0)
 |p+1=>(fE t Bs C p (C.length+1) 0 (eW t Bs C p (bR p).1.rd ⟨(bR p).1.ad,(bR p).1.ho,[],(bR p).2⟩),(bR p).1.gn)
def n9:List Bool:=(bR t Bs C (t.length+1)).1.ho
theorem m9 (p:Nat):∀(l:List Nat) (st:tU),oO C p st (eW t Bs C p l st)
 |[],st=>.refl st
 |n::l,st=>by
  have h1:=xx t Bs C p (C.length+1) (n+1) st
  exact h1.trans (m9 p l _)
theorem BJ (p:Nat) (l:List Nat) (n:Nat) (st:tU):eW t Bs C p (l++[n]) st=fE t Bs C p (C.length+1) (n+1) (eW t Bs C p l st):=by
 unfold eW
 rw[List.foldl_append]
 rfl
theorem sS:∀p,(bR t Bs C p).1.ad.length=C.length/\(bR t Bs C p).1.ho.length=t.length+1/\(bR t Bs C p).1.rd.length<=C.length/\∀e∈(bR t Bs C p).1.rd,(db C e).op=1
 |0=>by simp [bR]
 |p+1=>by
  obtain⟨h1,h2,_,_⟩:=sS p
  have k1:=m9 t Bs C p (bR t Bs C p).1.rd ⟨(bR t Bs C p).1.ad,(bR t Bs C p).1.ho,[],(bR t Bs C p).2⟩
  have k2:=xx t Bs C p (C.length+1) 0 (eW t Bs C p (bR t Bs C p).1.rd ⟨(bR t Bs C p).1.ad,(bR t Bs C p).1.ho,[],(bR t Bs C p).2⟩)
  obtain⟨a1,a2,a3,a4,a5⟩:=k1.trans k2
  simp only[List.length_nil]at a1 a2 a3 a4
  have hc:gl p (bR t Bs C p).1.ad<=(bR t Bs C p).1.ad.length:=List.countP_le_length
  simp only[bR]
  refine⟨a1.trans h1,a2.trans h2,by omega,fun e he=>(a5 e he).resolve_left (by simp)⟩
end
section
variable (t:List Int) (root parts:D) (bg nb:Nat) (Bs:List (List Bool)) (g b a:Nat) (C:List av)
def Uh (st:tU) (gb:Nat) (B:List Nat):List VL.Obj:=ep t root parts bg nb Bs g b a C st++[bd gb B,cK 10 gb B.length]
def O4 (st:tU) (gq:Nat) (rq:List Nat):List VL.Obj :=
 [cV t root parts bg nb,ez bg Bs,cr g b a C,bd 0 st.ad,cM 0 3 C.length,bT 0 st.ho,cM 0 5 (t.length+1),bd gq rq,cK 10 st.gn st.rd.length,⟨0,true,1,[[wU g C.length]]⟩,bd st.gn st.rd,cK 7 gq rq.length]
theorem AH {p k n gq:Nat}{rq:List Nat}{st:tU} (h:Fp t root parts bg nb Bs g b a C p k) (hn:n<C.length) (h1:st.ad.length=C.length) (h2:st.ho.length=t.length+1) (hu:gl p st.ad<=k) (hr:st.rd.length+gl p st.ad<=C.length) {K:V->List VL.Obj->Prop}
  (hk:K (.tu []) (O4 t root parts bg nb Bs g b a C (fE t Bs C p (k+1) n st) gq rq)) :
  aq Try.prog 85 (dH g C.length n p) (O4 t root parts bg nb Bs g b a C st gq rq) K:=by
 have zv:∀st,(ep t root parts bg nb Bs g b a C st).map (aP [0,1,2,3,4,5,6,10,8,9])=[cV t root parts bg nb,ez bg Bs,cr g b a C,bd 0 st.ad,cM 0 3 C.length,bT 0 st.ho,cM 0 5 (t.length+1),bd st.gn st.rd,cK 10 st.gn st.rd.length,⟨0,true,1,[[wU g C.length]]⟩]:=by
  intro st
  simp only[ep,List.map_cons,List.map_nil,iI,uI,er,lO]
  simp [aP,cV,cM,cK,wU,aJ,aJ.go,i64]
 refine dk [0,1,2,3,4,5,6,10,8,9] (h n st hn h1 h2 hu hr) (by decide) rfl ?_ (by rfl) (by rfl) (HB t root parts bg nb Bs g b a C st) (r':=.tu []) rfl ?_
 ·have h3:(ep t root parts bg nb Bs g b a C st).map (fun o=>some (aP [0,1,2,3,4,5,6,10,8,9] o))=((ep t root parts bg nb Bs g b a C st).map (aP [0,1,2,3,4,5,6,10,8,9])).map some:=by rw[List.map_map];rfl
  rw[h3,zv]
  rfl
 ·rw[zv]
  exact hk
theorem Bi (hg:lg t Bs C) (ly:nb=Bs.length) (ht:t.length<=1000000) (hC:0<C.length) :
  aq Try.prog 54 [.rf 0 0 0 0,.so 2 g 0 C.length] [cV t root parts bg nb,ez bg Bs,cr g b a C] fun v s=>v=.so 3 0 0 (t.length+1)/\s=[cV t root parts bg nb,ez bg Bs,cr g b a C,bT 0 (n9 t Bs C)]:=by
 have cG:=uX t.length false
 have hlen:=hg.len
 have w1:IntKind.i64.wrap ((t.length:Int)+1)=((t.length+1:Nat):Int):=by rw[br _ (by omega)];rfl
 simp only[i64,bV]at cG
 refine Hh Try.func54 rfl Try.ntmps54 Try.results54 rfl 3 258771785723 (by simp) (by simp) ?_
 simp only[zX,Nat.reduceShiftRight,Nat.reduceMod,Nat.reduceLT,Nat.reduceMul,Nat.reduceSub,Int.reduceToNat,Int.reduceNeg,Int.reduceLT,Int.reduceLE,Int.reduceEq,Nat.reduceEqDiff,Nat.reduceAdd,Nat.reduceLeDiff,reduceIte,reduceCtorEq,Nat.reduceBEq,gv,ny,ks,ri,i64,bV,iD,bD,cV,ao,bK,aG,List.length_map,w1]
 have YS:(cr g b a C).g=g:=rfl
 refine⟨⟨by omega,by omega,by omega⟩,⟨by omega,by omega,by omega⟩,?_⟩
 refine al cG rfl rfl ?_
 simp only[zX,Nat.reduceShiftRight,Nat.reduceMod,Nat.reduceLT,Nat.reduceMul,Nat.reduceSub,Int.reduceToNat,Int.reduceNeg,Int.reduceLT,Int.reduceLE,Int.reduceEq,Nat.reduceEqDiff,Nat.reduceAdd,Nat.reduceLeDiff,reduceIte,reduceCtorEq,Nat.reduceBEq,gv,ny,ks,ri,i64,bV,iD,bD]
 refine oM.of 29 30 _ (JO t.length false) (t.length+1) (sj false t.length) (fun i s=>∃B:List Nat,s=Uh t root parts bg nb Bs g b a C (bR t Bs C i).1 (bR t Bs C i).2 B)
  (fun e=>e 0=.any/\e 5=.rf 6 0 0 0/\e 7=.rf 8 0 0 0/\e 8=.rf 11 0 0 0/\e 9=.rf 9 0 0 0/\e 29=.d (.cl (.func 106) [] (JO t.length false))/\∀t,[5,7,8,9,29].contains t=false->e t=.any)
  rfl rfl (by decide) (CS t.length ht false) ⟨_,_,(bI.JV ((bZ.bx 3 rfl rfl rfl).trans ((kJ (pre:=[]) (post:=[]) 8 1 rfl rfl rfl).trans (kJ (pre:=[]) (post:=[]) 9 1 rfl rfl rfl)))).trans (bI.zx [0,1,2,6,7,4,5,11,8,10,12,9] [5,7,8,9,29] (by rfl)),rfl,⟨rfl,rfl,rfl,rfl,rfl,rfl,fun t ht=>if_neg (by rw[ht];exact Bool.false_ne_true)⟩,?_⟩ ?_ ?_
 ·refine⟨[],?_⟩
  have hr:∀n q,(⟨q,true,1,List.replicate n [V.d (D.sc (Value.bool false))]⟩:VL.Obj)=bT q (List.replicate n false):=fun n q=>by simp [bT,bV,bD]
  have AA:([V.d (D.sc (Value.bool false))]::List.replicate t.length [V.d (D.sc (Value.bool false))])=List.replicate (t.length+1) [V.d (D.sc (Value.bool false))]:=rfl
  have zv:∀n q,(⟨q,true,1,List.replicate n [V.d (D.sc (Value.int IntKind.i64 0))]⟩:VL.Obj)=bd q (List.replicate n 0):=fun n q=>by simp [bd,i64]
  rw[AA]
  simp only[GP,bS,List.getElem?_cons_succ,List.getElem?_cons_zero,List.set_cons_succ,List.set_cons_zero,List.map_cons,List.map_nil,H9,J4,List.map_replicate,lU,lU.go,List.cons_append,List.nil_append,List.length_cons,List.length_nil,
   jZ,List.getD_cons_zero,List.getD_cons_succ,gP,jY,nA,jK _ (rfl:List.idxOf? 0 [0,1,2,6,7,4,5,11,8,10,12,9]=some 0)]
  simp only[hr,zv,jY,nA,Nat.reduceEqDiff,false_and,true_and,and_self,if_true,if_false,reduceIte]
  rfl
 ·rintro e ⟨f0,f5,f7,f8,f9,f29,fa⟩ i s hi ⟨B,rfl⟩
  have hi':i<=t.length:=by omega
  have UN:sj false t.length i=(i:Int):=by simp only[sj,Bool.false_eq_true,if_false]
  rw[UN]
  obtain⟨zw,AE,NI,TC⟩:=sS t Bs C i
  have F4:bR t Bs C (i+1)=(fE t Bs C i (C.length+1) 0 (eW t Bs C i (bR t Bs C i).1.rd ⟨(bR t Bs C i).1.ad,(bR t Bs C i).1.ho,[],(bR t Bs C i).2⟩),(bR t Bs C i).1.gn):=rfl
  rw[F4]
  generalize bR t Bs C i=ST at *
  obtain⟨⟨ad,ho,rd,gn⟩,gb⟩:=ST
  simp only at zw AE NI TC ⊢
  simp only[zX,Nat.reduceShiftRight,Nat.reduceMod,Nat.reduceLT,Nat.reduceMul,Nat.reduceSub,Int.reduceToNat,Int.reduceNeg,Int.reduceLT,Int.reduceLE,Int.reduceEq,Nat.reduceEqDiff,Nat.reduceAdd,Nat.reduceLeDiff,reduceIte,reduceCtorEq,Nat.reduceBEq,i64,bV,iD,bD,Uh,ep,f0,f5,f7,f8,f9,cM,cK,bK,aG]
  refine ar mix [3,4] [] (by rfl) ?_
  have e1:∀q l,(bd q l).g=q:=fun _ _=>rfl
  have e2:∀q l,(bd q l).sz=1:=fun _ _=>rfl
  have e3:∀q l,(bd q l).au.length=l.length:=fun _ _=>by simp [bd]
  simp only[zX,Nat.reduceShiftRight,Nat.reduceMod,Nat.reduceLT,Nat.reduceMul,Nat.reduceSub,Int.reduceToNat,Int.reduceNeg,Int.reduceLT,Int.reduceLE,Int.reduceEq,Nat.reduceEqDiff,Nat.reduceAdd,Nat.reduceLeDiff,reduceIte,reduceCtorEq,Nat.reduceBEq,i64,bV,iD,bD,f0,f5,f7,f8,f9,bK,aG,List.length_map,Nat.zero_add,e1,e2,e3,Nat.le_refl,and_self,true_and]
  have JU:=m9 t Bs C i
  have OC:∀e∈rd,e+1<C.length:=fun e he=>by
   have h1:=TC e he
   refine hg.next e ?_ (.inl h1)
   refine Decidable.byContradiction fun ib=>?_
   have:db C e=⟨0,0,0,0,none⟩:=by unfold db;rw[List.getD_eq_getElem?_getD,List.getElem?_eq_none (by omega)];rfl
   rw[this]at h1
   cases h1
  refine ay (fun n e' s=>∃m:Nat,n=rd.length-m/\m<=rd.length/\e' 0=.any/\e' 9=.rf 9 0 0 0/\e' 10=i64 i/\e' 34=.so 7 gn 0 rd.length/\e' 35=i64 rd.length/\e' 36=i64 m/\s=O4 t root parts bg nb Bs g b a C (eW t Bs C i (rd.take m) ⟨ad,ho,[],gb⟩) gn rd)
   ⟨_,_,_,P4 10 rfl,0,rfl,by omega,f0,f9,rfl,rfl,rfl,rfl,by rfl⟩ ?_
  rintro n e' s ⟨m,rfl,hm,q0,q9,gY,SP,RV,Tm,rfl⟩
  have JU:=m9 t Bs C i (rd.take m) ⟨ad,ho,[],gb⟩
  have Tx:gl i ad<=ad.length:=List.countP_le_length
  obtain⟨a1,a2,a3,a4,_⟩:=JU
  simp only[List.length_nil]at a1 a2 a3 a4
  rcases Nat.lt_or_ge m rd.length with az|ib
  ·have aK:(m:Int)<(rd.length:Int):=by omega
   obtain⟨x,hx⟩:∃x,rd[m]?=some x:=⟨_,List.getElem?_eq_getElem az⟩
   have Ym:=OC x (List.mem_of_getElem? hx)
   have hw:IntKind.i64.wrap ((x:Int)+1)=((x+1:Nat):Int):=by rw[br _ (by omega)];rfl
   have CG:(0:Int)<=(m:Int):=by omega
   have hc:=fun K hk=>AH t root parts bg nb Bs g b a C (Co t root parts bg nb Bs g b a C i hg ly ht (by omega) C.length) (n:=x+1) (st:=eW t Bs C i (rd.take m) ⟨ad,ho,[],gb⟩) Ym (by omega) (by omega) (by omega) (by omega) (gq:=gn) (rq:=rd) (K:=K) hk
   rw[<- BJ,<- bt hx]at hc
   generalize zE:eW t Bs C i (rd.take (m+1)) ⟨ad,ho,[],gb⟩=E2 at *
   unfold dH O4 at hc
   have WI:(bd gn rd).au[m]?=some [i64 (x:Int)]:=by simp [bd,hx]
   simp only[i64]at WI
   simp only[zX,Nat.reduceShiftRight,Nat.reduceMod,Nat.reduceLT,Nat.reduceMul,Nat.reduceSub,Int.reduceToNat,Int.reduceNeg,Int.reduceLT,Int.reduceLE,Int.reduceEq,Nat.reduceEqDiff,Nat.reduceAdd,Nat.reduceLeDiff,reduceIte,reduceCtorEq,Nat.reduceBEq,i64,bV,iD,bD,O4,cM,cK,q0,q9,gY,SP,RV,Tm,wU,bK,aG,aK,az,CG,e1,e2,e3,Int.toNat_natCast,Nat.zero_add,WI,hw,List.cons_append,List.nil_append]
   refine hc _ ?_
   simp only[zX,Nat.reduceShiftRight,Nat.reduceMod,Nat.reduceLT,Nat.reduceMul,Nat.reduceSub,Int.reduceToNat,Int.reduceNeg,Int.reduceLT,Int.reduceLE,Int.reduceEq,Nat.reduceEqDiff,Nat.reduceAdd,Nat.reduceLeDiff,reduceIte,reduceCtorEq,Nat.reduceBEq,i64,bV,iD,bD,q0,q9,gY,SP,RV,Tm,bK,aG,List.cons_append,List.nil_append]
   refine⟨rd.length-(m+1),_,_,by omega,bI.refl,m+1,rfl,az,?_,?_,?_,?_,?_,?_,by rw[zE];rfl⟩ <;> (try simp only[zU,Nat.reduceBEq,Nat.reduceShiftRight,Nat.reduceMod,Nat.reduceEqDiff,reduceIte])
   ·exact q0
   ·exact q9
   ·exact gY
   ·exact SP
   ·exact RV
   ·rw[br _ (by omega)];rfl
  ·have LC:m=rd.length:=by omega
   subst LC
   rw[List.take_length]at *
   have hc:=fun K hk=>AH t root parts bg nb Bs g b a C (Co t root parts bg nb Bs g b a C i hg ly ht (by omega) C.length) (n:=0) (st:=eW t Bs C i rd ⟨ad,ho,[],gb⟩) hC (by omega) (by omega) (by omega) (by omega) (gq:=gn) (rq:=rd) (K:=K) hk
   generalize fE t Bs C i (C.length+1) 0 (eW t Bs C i rd ⟨ad,ho,[],gb⟩)=E2 at *
   unfold dH O4 at hc
   simp only[zX,Nat.reduceShiftRight,Nat.reduceMod,Nat.reduceLT,Nat.reduceMul,Nat.reduceSub,Int.reduceToNat,Int.reduceNeg,Int.reduceLT,Int.reduceLE,Int.reduceEq,Nat.reduceEqDiff,Nat.reduceAdd,Nat.reduceLeDiff,reduceIte,reduceCtorEq,Nat.reduceBEq,i64,bV,iD,bD,O4,cM,cK,q0,q9,gY,SP,RV,Tm,wU,bK,aG,Int.lt_irrefl,List.cons_append,List.nil_append]
   refine hc _ ?_
   simp only[zX,Nat.reduceShiftRight,Nat.reduceMod,Nat.reduceLT,Nat.reduceMul,Nat.reduceSub,Int.reduceToNat,Int.reduceNeg,Int.reduceLT,Int.reduceLE,Int.reduceEq,Nat.reduceEqDiff,Nat.reduceAdd,Nat.reduceLeDiff,reduceIte,reduceCtorEq,Nat.reduceBEq,i64,bV,iD,bD,q0,q9,gY,SP,RV,Tm,bK,aG,List.cons_append,List.nil_append]
   have Ay:GL [0,1,2,3,4,5,6,10,8,9,7,11] [5,7,8,9,29] e=e:=by
    refine AI fa ?_
    intro x hx
    simp only[List.mem_cons,List.not_mem_nil,or_false]at hx
    rcases hx with rfl|rfl|rfl|rfl|rfl
    ·rw[f5];rfl
    ·rw[f7];rfl
    ·rw[f8];rfl
    ·rw[f9];rfl
    ·rw[f29];rfl
   refine⟨_,bI.Fs [0,1,2,3,4,5,6,10,8,9,7,11] _ (by rfl) Ay,rd,?_⟩
   simp only[jZ,List.map_cons,List.map_nil,List.getD_cons_zero,List.getD_cons_succ,gP,jY,nA,jK _ (rfl:List.idxOf? 0 [0,1,2,3,4,5,6,10,8,9,7,11]=some 0)]
   rfl
 ·rintro e ⟨f0,f5,f7,f8,f9,f29,fa⟩ s ⟨B,rfl⟩
  simp only[zX,Nat.reduceShiftRight,Nat.reduceMod,Nat.reduceLT,Nat.reduceMul,Nat.reduceSub,Int.reduceToNat,Int.reduceNeg,Int.reduceLT,Int.reduceLE,Int.reduceEq,Nat.reduceEqDiff,Nat.reduceAdd,Nat.reduceLeDiff,reduceIte,reduceCtorEq,Nat.reduceBEq,Uh,ep,cM,f0,f5,Bw,wT]
  refine⟨[0,1,2,5],rfl,?_⟩
  simp only[jZ,List.map_cons,List.map_nil,List.getD_cons_zero,List.getD_cons_succ,gP,jY,jK _ (rfl:List.idxOf? 0 [0,1,2,5]=some 0)]
  exact⟨rfl,rfl⟩
end
section
variable (t:List Int) (root parts:D) (bg nb:Nat) (Bs:List (List Bool)) (b a:Nat)
def wO (C:List av):List VL.Obj:=[cV t root parts bg nb,ez bg Bs,ma 5 C.length,
 ⟨0,true,1,[[.cl (.func 55) [] [.rf 2 0 0 0]]]⟩,
 ⟨0,true,1,[[.cl (.func 56) [] [.rf 3 0 0 0,mB b a,.rf 4 0 0 0,.rf 2 0 0 0]]]⟩,cr C.length b a C]
omit t root parts bg nb Bs in
def cT (re:Re) (k:Nat):List V:=[.d (re.aY k),.rf 3 0 0 0,mB b a,.rf 4 0 0 0,.rf 2 0 0 0]
omit t root parts bg nb Bs b a in
def Hf (re:Re):Bool:=decide ((re.op=4\/re.op=5->re.kids.length=1)/\(re.op=3->1<=re.kids.length)/\re.kids.length<=1000000/\0<=re.mn/\re.mn<=1000000/\-1<=re.mx/\re.mx<=1000000/\0<=re.n/\re.n<=1000000)
omit t root parts bg nb Bs b a in
theorem oE {re:Re}:Hf re=true ↔ (re.op=4\/re.op=5->re.kids.length=1)/\(re.op=3->1<=re.kids.length)/\re.kids.length<=1000000/\0<=re.mn/\re.mn<=1000000/\-1<=re.mx/\re.mx<=1000000/\0<=re.n/\re.n<=1000000:=by
 unfold Hf;rw[decide_eq_true_eq]
def uC (re:Re):Prop:=∀(k:Nat) (C:List av),C.length+re.fT<=1000000000000 ->
 aq Try.prog 56 (cT b a re k) (wO t root parts bg nb Bs b a C) fun v s=>v=.tu []/\s=wO t root parts bg nb Bs b a (re.emit k C)
theorem FZ (C:List av):(wO t root parts bg nb Bs b a C).map (aP [0,1,2,3,4,5])=wO t root parts bg nb Bs b a C:=by
 simp only[wO,List.map_cons,List.map_nil,iI,er]
 simp [aP,cV,ma,mB,aJ,aJ.go]
theorem tD (C:List av):(wO t root parts bg nb Bs b a C).all (aQ 6)=true:=by
 have:=fe 6 bg Bs
 simp only[wO,List.all_cons,List.all_nil,iP 6 _ _ _ (by omega),Bool.and_true]
 simp [aQ,cV,ma,mB,ah,ah.go,this]
variable {t root parts bg nb Bs b a}
theorem NM {f:FuncId}{args:List V}{r:V}{C C':List av} (h:aq Try.prog f args (wO t root parts bg nb Bs b a C) fun v s=>v=r/\s=wO t root parts bg nb Bs b a C') (ha:args=args.map (aJ [0,1,2,3,4,5])) (z8:ah.go 6 args=true) (hr:aJ [0,1,2,3,4,5] r=r) {tl:List VL.Obj}{K:V->List VL.Obj->Prop}
  (hk:K r (wO t root parts bg nb Bs b a C'++tl)):aq Try.prog f args (wO t root parts bg nb Bs b a C++tl) K:=by
 have zv:=FZ t root parts bg nb Bs b a C'
 refine dk [0,1,2,3,4,5] h (by decide) rfl ?_ ha z8 (tD t root parts bg nb Bs b a C) (r':=r) hr ?_
 ·have:=FZ t root parts bg nb Bs b a C
  have h2:(wO t root parts bg nb Bs b a C).map (fun o=>some (aP [0,1,2,3,4,5] o))=((wO t root parts bg nb Bs b a C).map (aP [0,1,2,3,4,5])).map some:=by rw[List.map_map];rfl
  rw[h2,this]
  rfl
 ·rw[zv]
  exact hk
theorem v8 {C:List av} (hC:C.length<=1000000000000) (x:av) {tl:List VL.Obj}{K:V->List VL.Obj->Prop} (hk:K (i64 C.length) (wO t root parts bg nb Bs b a (C++[x])++tl)):aq Try.prog 55 [oY b a x,.rf 2 0 0 0] (wO t root parts bg nb Bs b a C++tl) K:=by
 have e0:∀n,aP [0,1,2,5] (ma 3 n)=ma 5 n:=fun n=>by simp [aP,ma,aJ,aJ.go]
 have e1:aP [0,1,2,5] (cV t root parts bg nb)=cV t root parts bg nb:=rfl
 have hb:=fe 4 bg Bs
 refine dk [0,1,2,5] (MM t root parts bg nb Bs b a C hC x) (by simp) (by rfl) ?_ ?_ ?_ ?_ (r':=i64 C.length) rfl ?_
 ·simp only[List.map_cons,List.map_nil,e0,e1,iI,er]
  rfl
 ·simp [oY,av.cells,Aw,aJ,aJ.go,i64]
 ·simp [oY,av.cells,Eg 4 b a (by omega),ah,ah.go,i64]
 ·simp only[List.all_cons,List.all_nil,List.length_cons,List.length_nil,Nat.zero_add,Nat.reduceAdd,iP 4 _ _ _ (by omega),Bool.and_true]
  simp [aQ,ma,cV,ah,hb]
 ·simp only[List.map_cons,List.map_nil,e0,e1,iI,er,aH,wO,List.cons_append,List.nil_append,List.set_cons_zero,List.set_cons_succ]
  simpa [wO]using hk
theorem iM {C:List av} (hC:C.length<=1000000000000) (op x y n:Int) {tl:List VL.Obj}{K:V->List VL.Obj->Prop} (hk:K (i64 C.length) (wO t root parts bg nb Bs b a (C++[⟨op,x,y,n,none⟩])++tl)):aq Try.prog 55 [.ag [i64 op,i64 x,i64 y,i64 n,.d (.sc .nilFunc)],.rf 2 0 0 0] (wO t root parts bg nb Bs b a C++tl) K :=
 v8 hC ⟨op,x,y,n,none⟩ hk
theorem SM (C:List av) (v:V) (tl:List VL.Obj):GP 6 0 v (wO t root parts bg nb Bs b a C++(⟨0,true,1,[[v]]⟩:VL.Obj)::tl)=wO t root parts bg nb Bs b a C++(⟨0,false,1,[[lU 6 0 v v]]⟩:VL.Obj)::(tl.map fun o=>{ o with au:=o.au.map fun c=>c.map (lU 6 0 v) }):=by
 have e1:=H9 6 0 v bg Bs
 have e2:=J4 6 0 v C.length b a C
 simp only[wO,GP,bS,List.cons_append,List.nil_append,List.getElem?_cons_succ,List.getElem?_cons_zero,List.set_cons_succ,List.set_cons_zero,List.map_cons,List.map_nil,e1,e2]
 rfl
theorem rz {C:List av} (hC:C.length<=1000000000000) (x:av) (d:D) (arg:V) (vn:lU 6 0 (.d d) arg=oY b a x) {K:V->List VL.Obj->Prop} (hk:K (i64 C.length) (wO t root parts bg nb Bs b a (C++[x])++[⟨0,false,1,[[.d d]]⟩])) :
  aq Try.prog 55 [arg,.rf 2 0 0 0] (wO t root parts bg nb Bs b a C++[⟨0,true,1,[[.d d]]⟩]) K:=by
 refine HO (o:=⟨0,true,1,[[.d d]]⟩) (v:=.d d) 6 rfl rfl rfl ?_
 have h1:([arg,.rf 2 0 0 0].map (lU 6 (⟨0,true,1,[[.d d]]⟩:VL.Obj).g (.d d)))=[oY b a x,.rf 2 0 0 0]:=by
  show [lU 6 0 (.d d) arg,_]=_
  rw[vn];rfl
 rw[h1]
 have h2:=SM (t:=t) (root:=root) (parts:=parts) (bg:=bg) (nb:=nb) (Bs:=Bs) (b:=b) (a:=a) C (.d d) []
 rw[show (⟨0,true,1,[[.d d]]⟩:VL.Obj).g=0 from rfl,h2]
 exact v8 hC x hk
end
structure Jq where
 op:Int
 x:Int
 y:Int
 n:Int
 set:List (Int×Int)
def Jq.cells (i:Jq):List D:=[iD i.op,iD i.x,iD i.y,iD i.n,.sl (i.set.map aV)]
structure TA where
 ins:List Jq
 ai:Int
 aU:Bool
def nR (op mn mx:Int) (k n:Int):Int :=
 min (if op=1\/op=11 then 1 else if op=3 then n+2*k-2 else if op=5 then n+2 else if op=4 then (if mx=-1 then (mn+1)*n+2 else mx*n+mx-mn) else n) 10000
mutual
def Re.FE:Re->Int
 |.mk op _ kids mn mx _ _ _=>nR op mn mx kids.length (Re.vD kids)
def Re.vD:List Re->Int
 |[]=>0
 |k::l=>k.FE+Re.vD l
end
end Go.Proofs.Ytfmdmlfhigocaaa
