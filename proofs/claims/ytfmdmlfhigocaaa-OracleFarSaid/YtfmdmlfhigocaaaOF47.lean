/- A part of the proof (O36 O37). -/
import Derived.Test.YtfmdmlfhigocaaaOF45
import Derived.Test.YtfmdmlfhigocaaaOF46
set_option linter.unusedSimpArgs false
set_option linter.unusedVariables false
set_option maxRecDepth 100000
set_option maxHeartbeats 80000000
namespace Go.Proofs.Ytfmdmlfhigocaaa
open Go.VL
theorem Ss (k g':Nat) (v:V) (t:List Int) (root parts:D) (bg nb:Nat):(⟨(cV t root parts bg nb).g,(cV t root parts bg nb).live,(cV t root parts bg nb).sz,(cV t root parts bg nb).au.map fun c=>c.map (lU k g' v)⟩:VL.Obj)=cV t root parts bg nb:=rfl
theorem Nw (k g':Nat) (v:V) (q:Nat) (l:List Nat):(⟨(bd q l).g,(bd q l).live,(bd q l).sz,(bd q l).au.map fun c=>c.map (lU k g' v)⟩:VL.Obj)=bd q l:=by
 unfold bd
 simp only[List.map_map]
 congr 1
theorem J5 {α:Type} (a b:α) {N i:Nat} (h:i<N):(List.replicate i a++List.replicate (N-i) b).set i a=List.replicate (i+1) a++List.replicate (N-(i+1)) b:=by
 rw[List.set_append_right _ _ (by simp)]
 obtain⟨m,hm⟩:∃m,N-i=m+1:=⟨N-i-1,by omega⟩
 rw[hm]
 simp only[List.length_replicate,Nat.sub_self,List.replicate_succ,List.set_cons_zero]
 have:N-(i+1)=m:=by omega
 rw[this,<- List.replicate_succ,List.replicate_succ',List.append_assoc]
 rfl
def Tq (g N:Nat):VL.Obj:=⟨0,false,1,[[.so 2 g 0 N]]⟩
def QA (N:Nat):VL.Obj:=⟨0,false,1,List.replicate N [i64 (-1)]⟩
def H3 (N i:Nat):VL.Obj:=⟨0,true,1,List.replicate i [i64 (-1)]++List.replicate (N-i) [i64 0]⟩
def OS:Option lQ->VL.Obj
 |none=>HP
 |some m=>MF m.s m.e (.d (cy m.c))
theorem LX {L:Nat}{e:VL.Env}{s:List VL.Obj}{gb:Nat}{B:List jj} (k:Nat) (ho:s[k]?=some (dT gb B)):bI L e s e (s.set k (dT gb [])):=by
 cases B with
 |nil =>
  have:s.set k (dT gb [])=s:=by
   apply List.ext_getElem?
   intro j
   by_cases hj:j=k
   ·subst hj;rw[List.getElem?_set_self (List.getElem?_eq_some_iff.1 ho).1,ho]
   ·rw[List.getElem?_set_ne (Ne.symm hj)]
  rw[this]
  exact bI.refl
 |cons x B =>
  refine bI.N8 (o:=dT gb (x::B)) k 0 ho (fun es h=>?_)
  have h1:(dT gb (x::B)).au[0]?=some [.d (iD x.iN),.d (ao x.dn)]:=rfl
  rw[h,eB,List.getElem?_map]at h1
  obtain⟨y,_,h2⟩:=Option.map_eq_some_iff.1 h1
  have h3:=congrArg (fun l=>l[1]?) h2
  simp [ao]at h3
theorem Kl (aR:List Nat) (m:Option lQ):eD aR (OS m)=OS m:=by
 cases m <;> rfl
theorem PJ (n:Nat) (m:Option lQ):aQ n (OS m)=true:=by
 cases m <;> rfl
theorem KW (aR:List Nat) (n:Nat):eD aR (QA n)=QA n:=by
 unfold eD QA
 simp [dU.go,dU,i64]
theorem Qo (n N:Nat):aQ n (QA N)=true:=by
 unfold aQ QA
 rw[List.all_eq_true]
 intro e he
 rw[(List.mem_replicate.1 he).2]
 rfl
section
variable (t:List Int) (root parts:D) (bg nb:Nat) (Bs:List (List Bool)) (g b a:Nat) (C:List av) (q:Nat) (N:Nat)
def Qg (st:fS) (gb:Nat) (B:List jj) (ga:Option lQ):List VL.Obj :=
 [cV t root parts bg nb,ez bg Bs,cr g b a C,bd q st.ad,Tq g C.length,cK 3 q C.length,HP,QA N,cK 11 st.gn st.rd.length,JX st.cl,oh g C.length 9 5 8 10,dT st.gn st.rd,OS ga,dT gb B]
def wE (st:fS) (gn:Nat) (rd:List jj) (ga:Option lQ):List VL.Obj :=
 [cV t root parts bg nb,ez bg Bs,cr g b a C,bd q st.ad,Tq g C.length,cK 3 q C.length,HP,QA N,cK 13 st.gn st.rd.length,JX st.cl,oh g C.length 9 5 8 10,dT gn rd,OS ga,dT st.gn st.rd]
theorem vB (st:fS) (gn:Nat) (rd:List jj) (ga:Option lQ):(wE t root parts bg nb Bs g b a C q N st gn rd ga).all (aQ 14)=true:=by
 have:=fe 14 bg Bs
 simp only[wE,List.all_cons,List.all_nil,iP 14 _ _ _ (by omega),ll,qj,PJ,Qo,Bool.and_true]
 simp [aQ,cV,cK,JX,oh,Tq,HP,ah,ah.go,bV,i64,this]
theorem Ht (st:fS) (gn:Nat) (rd:List jj) (ga:Option lQ):jZ [0,1,2,3,4,5,6,7,8,9,10,13,12,11] (wE t root parts bg nb Bs g b a C q N st gn rd ga)=Qg t root parts bg nb Bs g b a C q N st gn rd ga:=by
 unfold wE Qg
 simp only[jZ,List.map_cons,List.map_nil,List.getD_cons_zero,List.getD_cons_succ,gP,nA,GM,Kl,KW,jK _ (rfl:List.idxOf? 0 [0,1,2,3,4,5,6,7,8,9,10,13,12,11]=some 0)]
 rfl
end
section
variable (t:List Int) (root parts:D) (bg nb:Nat) (Bs:List (List Bool)) (g b a:Nat) (C:List av) (q:Nat)
theorem IN (hg:lg t Bs C) (c:Nat) (JR:Bf C (2*c)) (hc:c<=1000) (ly:nb=Bs.length) (ht:t.length<=1000000) (hC:0<C.length) (p:Nat) (hp:p<=t.length) (ad:List Nat) (Mv:ad.length=C.length) :
  aq Try.prog 29 [.rf 0 0 0 0,.so 2 g 0 C.length,.so 3 q 0 C.length,i64 p,i64 c] [cV t root parts bg nb,ez bg Bs,cr g b a C,bd q ad] fun v s =>
   v=.tu [(Lx (fY t Bs C p c).1).v,bV (fY t Bs C p c).1.isSome]/\s=[cV t root parts bg nb,ez bg Bs,cr g b a C,bd q (fY t Bs C p c).2]:=by
 obtain⟨R,hR⟩:∃R,R=fY t Bs C p c:=⟨_,rfl⟩
 rw[<- hR]
 have Rc:=hg.len
 have wc:IntKind.i64.wrap (2*(c:Int))=((2*c:Nat):Int):=by rw[br _ (by omega)];omega
 have e1:∀q l,(bd q l).g=q:=fun _ _=>rfl
 have e2:∀q l,(bd q l).sz=1:=fun _ _=>rfl
 have e3:∀q l,(bd q l).au.length=l.length:=fun _ _=>by simp [bd]
 refine an Try.func29 rfl Try.ntmps29 Try.results29 rfl 4 16140901065307454686 (by simp) (by simp) ?_
 simp only[zX,Nat.reduceShiftRight,Nat.reduceMod,Nat.reduceLT,Nat.reduceMul,Nat.reduceSub,Int.reduceToNat,Int.reduceNeg,Int.reduceLT,Int.reduceLE,Int.reduceEq,Nat.reduceEqDiff,Nat.reduceAdd,Nat.reduceLeDiff,reduceIte,reduceCtorEq,Nat.reduceBEq,i64,bV,iD,bD,wc,e1,e2,e3,Mv,mD,Nat.zero_add,List.length_map]
 refine⟨⟨rfl,Nat.le_refl _⟩,⟨Int.le_refl _,by omega,by omega⟩,?_⟩
 obtain⟨N,hN⟩:∃N,N=2*c:=⟨_,rfl⟩
 rw[<- hN]at JR ⊢
 refine ay (fun n e s=>∃i:Nat,n=N-i/\i<=N/\e 3=i64 p/\e 6=.bx (.so 2 g 0 C.length)/\e 7=.rf 5 0 0 0/\e 10=.rf 6 0 0 0/\e 12=.so 7 0 0 N/\e 28=i64 N/\e 29=i64 i/\s=[cV t root parts bg nb,ez bg Bs,cr g b a C,bd q (List.replicate C.length 0),Tq g C.length,cK 3 q C.length,HP,H3 N i])
  ⟨_,_,_,.JV (bZ.bx 4 rfl rfl rfl),0,rfl,by omega,rfl,rfl,rfl,rfl,rfl,rfl,rfl,?_⟩ ?_
 ·simp only[GP,bS,List.getElem?_cons_succ,List.getElem?_cons_zero,List.set_cons_succ,List.set_cons_zero,List.map_cons,List.map_nil,H9,J4,Ss,Nw]
  have q1:List.map (fun c=>List.map (lU 4 0 (V.so 2 g 0 C.length)) c) (gz (bd q ad).au 0 (List.replicate C.length [V.d (D.sc (Value.int IntKind.i64 0))]))=(bd q (List.replicate C.length 0)).au:=by
   simp [bd,gz,Mv,lU,i64]
  have q2:List.map (fun c=>List.map (lU 4 0 (V.so 2 g 0 C.length)) c) (List.replicate N [V.d (D.sc (Value.int IntKind.i64 0))])=List.replicate N [V.d (D.sc (Value.int IntKind.i64 0))]:=by
   simp [lU]
  rw[q1,q2]
  rfl
 rintro n e s ⟨i,rfl,hi,h3,h6,h7,dC,iF,SI,S1,rfl⟩
 rcases Nat.lt_or_ge i N with az|ib
 ·have aK:(i:Int)<N:=by omega
  have fm:(List.replicate i [V.d (.sc (.int .i64 (-1)))]++List.replicate (N-i) [V.d (.sc (.int .i64 0))])[i]?=some [V.d (.sc (.int .i64 0))]:=by
   rw[List.getElem?_append_right (by simp)];simp [List.getElem?_replicate];omega
  simp only[zX,Nat.reduceShiftRight,Nat.reduceMod,Nat.reduceLT,Nat.reduceMul,Nat.reduceSub,Int.reduceToNat,Int.reduceNeg,Int.reduceLT,Int.reduceLE,Int.reduceEq,Nat.reduceEqDiff,Nat.reduceAdd,Nat.reduceLeDiff,reduceIte,reduceCtorEq,Nat.reduceBEq,i64,bV,iD,bD,h3,h6,h7,dC,iF,SI,S1,aK,H3,fm,Nat.zero_add]
  refine⟨N-(i+1),_,_,by omega,bI.refl,i+1,rfl,az,?_,?_,?_,?_,?_,?_,?_,?_⟩ <;> (try simp only[zU,Nat.reduceBEq,Nat.reduceShiftRight,Nat.reduceMod,Nat.reduceEqDiff,reduceIte])
  ·exact h3
  ·exact h6
  ·exact h7
  ·exact dC
  ·exact iF
  ·exact SI
  ·rw[br _ (by omega)];rfl
  ·rw[<- J5 _ _ az]
 ·have eQ:i=N:=by omega
  subst eQ
  have aK:¬(i:Int)<i:=by omega
  simp only[zX,Nat.reduceShiftRight,Nat.reduceMod,Nat.reduceLT,Nat.reduceMul,Nat.reduceSub,Int.reduceToNat,Int.reduceNeg,Int.reduceLT,Int.reduceLE,Int.reduceEq,Nat.reduceEqDiff,Nat.reduceAdd,Nat.reduceLeDiff,reduceIte,reduceCtorEq,Nat.reduceBEq,i64,bV,iD,bD,h3,h6,h7,dC,iF,SI,S1,aK]
  have RZ:H3 i i=⟨0,true,1,List.replicate i [i64 (-1)]⟩:=by simp [H3]
  have OE:rY C c ⟨List.replicate C.length 0,false,[],0⟩:=⟨by simp,by simp,by simp⟩
  have Kz:jU C p ⟨List.replicate C.length 0,false,[],0⟩:=by
   have:gl p (List.replicate C.length 0)<=(List.replicate C.length 0).length:=List.countP_le_length
   unfold jU
   simp only[List.length_replicate,List.length_nil]at *
   omega
  have Jv:(lz c).length=2*c:=by simp [lz]
  obtain⟨N3,Oi⟩:=vG (t:=t) (Bs:=Bs) (p:=p) (k:=C.length+1) (n:=0) OE Kz Jv
  have DL:=uR t root parts bg nb Bs g b a C q p i hg JR (by omega) ly ht hp C.length
  have ct:fR t Bs C p (C.length+1) 0 (lz c) ⟨List.replicate C.length 0,false,[],0⟩=uF t Bs C p c:=rfl
  rw[ct]at N3 Oi
  have Ql:R=pS t Bs C p c (t.length+2-p) p (uF t Bs C p c) 0 none:=hR
  have Kt:=fun (s:List VL.Obj) (K:V->List VL.Obj->Prop)=>vl (s:=s) (K:=K) DL (n:=0) (rg:=lz c) (st:=⟨List.replicate C.length 0,false,[],0⟩) hC (by omega) (by simp) (by simp only;have:gl p (List.replicate C.length 0)<=(List.replicate C.length 0).length:=List.countP_le_length;simpa using this) Kz 5 9 8 11 10 (by decide)
  generalize uF t Bs C p c=S at *
  rw[RZ]
  refine ye (y:=.d (ao (lz c))) [7] 2 rfl ?_ ?_
  ·simp only[ca,bS,List.getElem?_cons_succ,List.getElem?_cons_zero,List.set_cons_succ,List.set_cons_zero,List.length_cons,List.length_nil]
   rw[nD (ds:=(lz c).map fun x=>[iD x]) (by rfl) ?_ ?_ (.inr rfl)]
   ·rw[List.drop_zero,List.take_of_length_le (by simp)]
    simp [lz,iD,hN,i64]
   ·simp
  simp only[ca,bS,List.getElem?_cons_succ,List.getElem?_cons_zero,List.set_cons_succ,List.set_cons_zero]
  refine Lp (pre:=[]) (post:=[]) 8 2 rfl rfl rfl ?_
  simp only[List.set_cons_succ,List.set_cons_zero,List.cons_append,List.nil_append,List.length_cons,List.length_nil,Nat.zero_add,Nat.reduceAdd]
  refine Kt _ _ rfl rfl rfl rfl rfl rfl rfl rfl rfl ct.symm ?_
  simp only[List.set_cons_succ,List.set_cons_zero]
  simp only[zX,Nat.reduceShiftRight,Nat.reduceMod,Nat.reduceLT,Nat.reduceMul,Nat.reduceSub,Int.reduceToNat,Int.reduceNeg,Int.reduceLT,Int.reduceLE,Int.reduceEq,Nat.reduceEqDiff,Nat.reduceAdd,Nat.reduceLeDiff,reduceIte,reduceCtorEq,Nat.reduceBEq,i64,bV,iD,bD,h3,h6,h7,dC,iF,SI,S1]
  have Yx:=h3
  have XQ:=h6
  have Yq:=h7
  have V5:=dC
  clear h3 h6 h7 dC iF SI S1 Kt DL ct OE Kz aK
  have t1:∀q l,(dT q l).g=q:=fun _ _=>rfl
  have t2:∀q l,(dT q l).sz=2:=fun _ _=>rfl
  have t3:∀q l,(dT q l).au.length=l.length:=fun _ _=>by simp [dT]
  refine ay (fun n e s=>∃(p':Nat) (st:fS) (gb:Nat) (B:List jj) (ga:Option lQ),n+p'=t.length+2/\rY C c st/\jU C p' st/\(st.rd≠[]->p'<=t.length)/\pS t Bs C p c n p' st gb ga=R /\
   e 3=i64 p/\e 6=.bx (.so 2 g 0 C.length)/\e 7=.rf 5 0 0 0/\e 10=.rf 6 0 0 0/\e 14=.rf 8 0 0 0/\e 15=.so 13 gb 0 B.length/\e 16=.rf 9 0 0 0/\e 17=.rf 10 0 0 0/\e 18=.rf 12 0 0 0/\e 19=bV ga.isSome/\e 20=i64 p'/\s=Qg t root parts bg nb Bs g b a C q i st gb B ga) ?_ ?_
  ·refine⟨_,_,_,.JV (mA 15 2 rfl),p,S,0,[],none,by omega,N3,Oi,fun _=>hp,Ql.symm,?_,?_,?_,?_,?_,?_,?_,?_,?_,?_,?_,?_⟩ <;> (try simp only[zU,Nat.reduceBEq,Nat.reduceShiftRight,Nat.reduceMod,Nat.reduceEqDiff,reduceIte])
   all_goals first|exact Yx|exact XQ|exact Yq|exact V5|rfl
  rintro n e s ⟨p',st,gb,B,ga,OF,hinv,RE,Vy,hL,h3,h6,h7,dC,fQ,kS,jM,nv,iV,js,lE,rfl⟩
  by_cases MJ:st.rd=[]
  ·have hz:(st.rd.length:Int)=0:=by rw[MJ];rfl
   have Q5:=eq_true hz
   have QV:R=(ga,st.ad):=by
    rw[<- hL]
    cases n with
    |zero=>rfl
    |succ k=>rw[pS,if_pos MJ]
   rw[QV]
   have a1:((cV t root parts bg nb).au.all fun e=>e.all (ah 4))=true:=rfl
   have a2:((ez bg Bs).au.all fun e=>e.all (ah 4))=true:=fe 4 bg Bs
   have a3:((cr g b a C).au.all fun e=>e.all (ah 4))=true:=iP 4 g b a (by omega) C
   have a4:((bd q st.ad).au.all fun e=>e.all (ah 4))=true:=ll 4 q st.ad
   cases ga with
   |none =>
    simp only[zX,Nat.reduceShiftRight,Nat.reduceMod,Nat.reduceLT,Nat.reduceMul,Nat.reduceSub,Int.reduceToNat,Int.reduceNeg,Int.reduceLT,Int.reduceLE,Int.reduceEq,Nat.reduceEqDiff,Nat.reduceAdd,Nat.reduceLeDiff,reduceIte,reduceCtorEq,Nat.reduceBEq,i64,bV,iD,bD,h3,h6,h7,dC,fQ,kS,jM,nv,iV,js,lE,Qg,cK,JX,t1,hz,Int.lt_irrefl,gt_iff_lt,OS,HP,MF,a1,a2,a3,a4,Bool.and_true]
    rfl
   |some m =>
    simp only[zX,Nat.reduceShiftRight,Nat.reduceMod,Nat.reduceLT,Nat.reduceMul,Nat.reduceSub,Int.reduceToNat,Int.reduceNeg,Int.reduceLT,Int.reduceLE,Int.reduceEq,Nat.reduceEqDiff,Nat.reduceAdd,Nat.reduceLeDiff,reduceIte,reduceCtorEq,Nat.reduceBEq,i64,bV,iD,bD,h3,h6,h7,dC,fQ,kS,jM,nv,iV,js,lE,Qg,cK,JX,t1,hz,Int.lt_irrefl,gt_iff_lt,OS,HP,MF,a1,a2,a3,a4,Bool.and_true]
    rfl
  obtain⟨k,rfl⟩:∃k,n=k+1:=⟨n-1,by have:=Vy MJ;omega⟩
  have WO:=Vy MJ
  have fl:(0:Int)<(st.rd.length:Int):=by have:=List.length_pos_iff.2 MJ;omega
  rw[pS,if_neg MJ]at hL
  have Wi:st.rd.length<=C.length:=by have:=RE;unfold jU at this;omega
  have OG:rY C c ⟨st.ad,false,[],gb⟩:=⟨hinv.ad,by simp,by simp⟩
  have OD:jU C (p'+1) ⟨st.ad,false,[],gb⟩:=by
   have:gl (p'+1) st.ad<=st.ad.length:=List.countP_le_length
   have:=hinv.ad
   unfold jU
   simp only[List.length_nil]
   omega
  cases iJ:st.cl with
  |true =>
   obtain⟨x0,MS⟩:∃x0,st.rd[st.rd.length-1]?=some x0:=⟨_,List.getElem?_eq_getElem (by omega)⟩
   have Un:=hinv.th x0 (List.mem_of_getElem? MS)
   have SK:st.rd.getLastD ⟨0,[]⟩=x0:=by
    rw[List.getLastD_eq_getLast?,List.getLast?_eq_getElem?,MS];rfl
   have Me:yZ p p' c st ga=some ⟨p,p',Ia c x0.dn⟩:=by unfold yZ;rw[if_pos iJ,SK]
   rw[Me]at hL
   have w1:IntKind.i64.wrap ((st.rd.length:Int)-1)=((st.rd.length-1:Nat):Int):=by rw[br _ (by have:=RE;unfold jU at this;omega)];omega
   have b1:((st.rd.length-1:Nat):Int)<(st.rd.length:Int):=by omega
   have b0:(0:Int)<=((st.rd.length-1:Nat):Int):=by omega
   have Sl:(dT st.gn st.rd).au[st.rd.length-1]?=some [V.d (iD x0.iN),V.d (ao x0.dn)]:=by simp [dT,MS,jj.cells]
   have WD:=Ip c hc p p' x0.dn Un.1
   simp only[i64]at WD
   simp only[zX,Nat.reduceShiftRight,Nat.reduceMod,Nat.reduceLT,Nat.reduceMul,Nat.reduceSub,Int.reduceToNat,Int.reduceNeg,Int.reduceLT,Int.reduceLE,Int.reduceEq,Nat.reduceEqDiff,Nat.reduceAdd,Nat.reduceLeDiff,reduceIte,reduceCtorEq,Nat.reduceBEq,i64,bV,iD,bD,h3,h6,h7,dC,fQ,kS,jM,nv,iV,js,lE,Qg,cK,JX,t1,t2,t3,fl,gt_iff_lt,iJ,w1,b0,b1,Sl,Nat.zero_add,Int.toNat_natCast]
   refine al WD rfl rfl ?_
   obtain⟨va,vb,vc,Nd⟩:∃va vb vc,OS ga=⟨0,true,3,[[va,vb,vc]]⟩:=by cases ga <;> exact⟨_,_,_,rfl⟩
   rw[Nd]
   simp only[zX,Nat.reduceShiftRight,Nat.reduceMod,Nat.reduceLT,Nat.reduceMul,Nat.reduceSub,Int.reduceToNat,Int.reduceNeg,Int.reduceLT,Int.reduceLE,Int.reduceEq,Nat.reduceEqDiff,Nat.reduceAdd,Nat.reduceLeDiff,reduceIte,reduceCtorEq,Nat.reduceBEq,i64,bV,iD,bD,h3,h6,h7,dC,fQ,kS,jM,nv,iV,js,lE,t1,t2,t3,fl,gt_iff_lt,Nat.zero_add,lQ.v]
   refine ar mix [3,4,5] [] (by rfl) ?_
   simp only[zX,Nat.reduceShiftRight,Nat.reduceMod,Nat.reduceLT,Nat.reduceMul,Nat.reduceSub,Int.reduceToNat,Int.reduceNeg,Int.reduceLT,Int.reduceLE,Int.reduceEq,Nat.reduceEqDiff,Nat.reduceAdd,Nat.reduceLeDiff,reduceIte,reduceCtorEq,Nat.reduceBEq,i64,bV,iD,bD,h3,h6,h7,dC,fQ,kS,jM,nv,iV,js,lE,Nat.zero_add,gt_iff_lt,fl,t1,t2,t3,Nat.le_refl,Nat.zero_le,and_self,true_and,Int.le_refl,Int.natCast_nonneg]
   refine ay (fun n e s=>∃m:Nat,n=st.rd.length-m/\m<=st.rd.length/\e 3=i64 p/\e 6=.bx (.so 2 g 0 C.length)/\e 7=.rf 5 0 0 0/\e 10=.rf 6 0 0 0/\e 14=.rf 8 0 0 0/\e 15=.so 11 st.gn 0 st.rd.length/\e 16=.rf 9 0 0 0/\e 17=.rf 10 0 0 0/\e 18=.rf 12 0 0 0/\e 19=bV ((some (lQ.mk p p' (Ia c x0.dn)))).isSome/\e 20=i64 p'/\e 61=.so 11 st.gn 0 st.rd.length/\e 62=i64 st.rd.length/\e 63=i64 m/\s=wE t root parts bg nb Bs g b a C q i (iW t Bs C p' (st.rd.take m) ⟨st.ad,false,[],gb⟩) st.gn st.rd (some (lQ.mk p p' (Ia c x0.dn)))) ?_ ?_
   ·refine⟨_,_,_,LX 13 rfl,0,rfl,by omega,?_,?_,?_,?_,?_,?_,?_,?_,?_,?_,?_,?_,?_,?_,?_⟩ <;> (try simp only[zU,Nat.reduceBEq,Nat.reduceShiftRight,Nat.reduceMod,Nat.reduceEqDiff,reduceIte])
    all_goals first|exact h3|exact h6|exact h7|exact dC|exact fQ|exact jM|exact nv|exact iV|exact js|exact lE|rfl
   clear h3 h6 h7 dC fQ kS jM nv iV js lE
   rintro n e s ⟨m,rfl,hm,h3,h6,h7,dC,fQ,kS,jM,nv,iV,js,lE,rK,sg,zA,rfl⟩
   have hX:=oA (t:=t) (Bs:=Bs) (p:=p') (st.rd.take m) ⟨st.ad,false,[],gb⟩ (fun x hx=>hinv.th x (List.mem_of_mem_take hx)) OG OD
   rcases Nat.lt_or_ge m st.rd.length with az|ib
   ·have aK:(m:Int)<(st.rd.length:Int):=by omega
    have CG:(0:Int)<=(m:Int):=by omega
    obtain⟨x,hx⟩:∃x,st.rd[m]?=some x:=⟨_,List.getElem?_eq_getElem az⟩
    have Lz:=hinv.th x (List.mem_of_getElem? hx)
    have hn:=Lz.2.1
    have fU:(x.iN:Int)<(C.length:Int):=by omega
    have vH:(0:Int)<=(x.iN:Int):=by omega
    obtain⟨ins,hi⟩:∃ins,C[x.iN]?=some ins:=⟨_,List.getElem?_eq_getElem hn⟩
    have jh:db C x.iN=ins:=by unfold db;rw[List.getD_eq_getElem?_getD,hi];rfl
    have fm:(dT st.gn st.rd).au[m]?=some [V.d (D.sc (.int .i64 x.iN)),V.d (ao x.dn)]:=by simp [dT,hx,jj.cells,iD]
    have jS:iW t Bs C p' (st.rd.take (m+1)) ⟨st.ad,false,[],gb⟩=jQ t Bs C p' (iW t Bs C p' (st.rd.take m) ⟨st.ad,false,[],gb⟩) x:=by rw[bt hx,yQ]
    generalize iW t Bs C p' (st.rd.take m) ⟨st.ad,false,[],gb⟩=X at *
    by_cases o1:ins.op=1
    ·obtain⟨Ns,ai,kU,zu,rQ,pg⟩:=nH t root parts bg nb Bs b a C hg ly ht hn (.inl (by rw[jh];exact o1)) p' WO
     have LZ:=Cc (t:=t) (Bs:=Bs) (p:=p') hg hn (by rw[jh];exact o1)
     have QZ:=hg.next x.iN hn (.inl (by rw[jh];exact o1))
     have hF:jQ t Bs C p' X x=if ins.pass t Bs p'=true then fR t Bs C (p'+1) (C.length+1) (x.iN+1) x.dn X else X:=by unfold jQ;rw[jh];simp [o1]
     rw[hF]at jS
     rw[jh]at kU pg LZ
     have w1:IntKind.i64.wrap ((x.iN:Int)+1)=((x.iN+1:Nat):Int):=by rw[br _ (by omega)];rfl
     have w2:IntKind.i64.wrap ((p':Int)+1)=((p'+1:Nat):Int):=by rw[br _ (by omega)];rfl
     generalize ins.pass t Bs p'=y at *
     cases y with
     |true =>
      have Mh:=uR t root parts bg nb Bs g b a C q (p'+1) i hg JR (by omega) ly ht (LZ rfl) C.length
      have Tx:gl (p'+1) X.ad<=X.ad.length:=List.countP_le_length
      have Vp:=hX.1.ad
      have RR:=hX.2
      unfold jU at RR
      rw[if_pos rfl]at jS
      have Ag:=fun (s:List VL.Obj) (K:V->List VL.Obj->Prop)=>vl (s:=s) (K:=K) Mh (n:=x.iN+1) (rg:=x.dn) (st:=X) QZ (by rw[Lz.1,hN]) Vp (by omega) RR 5 9 8 13 10 (by decide)
      simp only[zX,Nat.reduceShiftRight,Nat.reduceMod,Nat.reduceLT,Nat.reduceMul,Nat.reduceSub,Int.reduceToNat,Int.reduceNeg,Int.reduceLT,Int.reduceLE,Int.reduceEq,Nat.reduceEqDiff,Nat.reduceAdd,Nat.reduceLeDiff,reduceIte,reduceCtorEq,Nat.reduceBEq,i64,bV,iD,bD,h3,h6,h7,dC,fQ,kS,jM,nv,iV,js,lE,rK,sg,zA,wE,oh,cr,av.cells,bK,aG,t1,t2,t3,List.getElem?_map,List.length_map,hi,Option.map_some,fU,vH,CG,aK,fm,Nat.zero_add,Int.toNat_natCast,o1,kU]
      refine dm t root parts bg nb Bs pg ?_ ?_ rfl rfl rfl ?_
      ·simp [aJ,i64,rQ]
      ·simp [ah,ah.go,i64,zu]
      simp only[zX,Nat.reduceShiftRight,Nat.reduceMod,Nat.reduceLT,Nat.reduceMul,Nat.reduceSub,Int.reduceToNat,Int.reduceNeg,Int.reduceLT,Int.reduceLE,Int.reduceEq,Nat.reduceEqDiff,Nat.reduceAdd,Nat.reduceLeDiff,reduceIte,reduceCtorEq,Nat.reduceBEq,i64,bV,iD,bD,h3,h6,h7,dC,fQ,kS,jM,nv,iV,js,lE,rK,sg,zA,wE,oh,cr,av.cells,bK,aG,t1,t2,t3,List.getElem?_map,List.length_map,hi,Option.map_some,fU,vH,CG,aK,fm,Nat.zero_add,Int.toNat_natCast,o1,kU,w1,w2]
      refine Ag _ _ rfl rfl rfl rfl rfl rfl rfl rfl rfl rfl ?_
      simp only[List.set_cons_succ,List.set_cons_zero]
      simp only[zX,Nat.reduceShiftRight,Nat.reduceMod,Nat.reduceLT,Nat.reduceMul,Nat.reduceSub,Int.reduceToNat,Int.reduceNeg,Int.reduceLT,Int.reduceLE,Int.reduceEq,Nat.reduceEqDiff,Nat.reduceAdd,Nat.reduceLeDiff,reduceIte,reduceCtorEq,Nat.reduceBEq,i64,bV,iD,bD,h3,h6,h7,dC,fQ,kS,jM,nv,iV,js,lE,rK,sg,zA,wE,oh,cr,av.cells,bK,aG,t1,t2,t3,List.getElem?_map,List.length_map,hi,Option.map_some,fU,vH,CG,aK,fm,Nat.zero_add,Int.toNat_natCast,o1,kU,w1,w2]
      refine⟨st.rd.length-(m+1),_,_,by omega,bI.cut (s':=wE t root parts bg nb Bs g b a C q i (fR t Bs C (p'+1) (C.length+1) (x.iN+1) x.dn X) st.gn st.rd (some (lQ.mk p p' (Ia c x0.dn)))) 14 (by omega) rfl (vB t root parts bg nb Bs g b a C q i _ _ _ _) [3,6,7,10,14,15,16,17,18,19,20,61,62,63] (by simp [bB,aL,ah,ah.go,h3,h6,h7,dC,fQ,kS,jM,nv,iV,js,lE,rK,sg,zA,i64,bV]),m+1,rfl,az,?_,?_,?_,?_,?_,?_,?_,?_,?_,?_,?_,?_,?_,?_,by rw[jS];rfl⟩ <;> (try simp only[zU,Nat.reduceBEq,Nat.reduceShiftRight,Nat.reduceMod,Nat.reduceEqDiff,reduceIte])
      ·exact h3
      ·exact h6
      ·exact h7
      ·exact dC
      ·exact fQ
      ·exact kS
      ·exact jM
      ·exact nv
      ·exact iV
      ·exact js
      ·exact lE
      ·exact rK
      ·exact sg
      ·rw[br _ (by omega)];rfl
     |false =>
      rw[if_neg (by simp)]at jS
      simp only[zX,Nat.reduceShiftRight,Nat.reduceMod,Nat.reduceLT,Nat.reduceMul,Nat.reduceSub,Int.reduceToNat,Int.reduceNeg,Int.reduceLT,Int.reduceLE,Int.reduceEq,Nat.reduceEqDiff,Nat.reduceAdd,Nat.reduceLeDiff,reduceIte,reduceCtorEq,Nat.reduceBEq,i64,bV,iD,bD,h3,h6,h7,dC,fQ,kS,jM,nv,iV,js,lE,rK,sg,zA,wE,oh,cr,av.cells,bK,aG,t1,t2,t3,List.getElem?_map,List.length_map,hi,Option.map_some,fU,vH,CG,aK,fm,Nat.zero_add,Int.toNat_natCast,o1,kU]
      refine dm t root parts bg nb Bs pg ?_ ?_ rfl rfl rfl ?_
      ·simp [aJ,i64,rQ]
      ·simp [ah,ah.go,i64,zu]
      simp only[zX,Nat.reduceShiftRight,Nat.reduceMod,Nat.reduceLT,Nat.reduceMul,Nat.reduceSub,Int.reduceToNat,Int.reduceNeg,Int.reduceLT,Int.reduceLE,Int.reduceEq,Nat.reduceEqDiff,Nat.reduceAdd,Nat.reduceLeDiff,reduceIte,reduceCtorEq,Nat.reduceBEq,i64,bV,iD,bD,h3,h6,h7,dC,fQ,kS,jM,nv,iV,js,lE,rK,sg,zA,wE,oh,cr,av.cells,bK,aG,t1,t2,t3,List.getElem?_map,List.length_map,hi,Option.map_some,fU,vH,CG,aK,fm,Nat.zero_add,Int.toNat_natCast,o1,kU,w1,w2]
      refine⟨st.rd.length-(m+1),_,_,by omega,bI.cut (s':=wE t root parts bg nb Bs g b a C q i (X) st.gn st.rd (some (lQ.mk p p' (Ia c x0.dn)))) 14 (by omega) rfl (vB t root parts bg nb Bs g b a C q i _ _ _ _) [3,6,7,10,14,15,16,17,18,19,20,61,62,63] (by simp [bB,aL,ah,ah.go,h3,h6,h7,dC,fQ,kS,jM,nv,iV,js,lE,rK,sg,zA,i64,bV]),m+1,rfl,az,?_,?_,?_,?_,?_,?_,?_,?_,?_,?_,?_,?_,?_,?_,by rw[jS];rfl⟩ <;> (try simp only[zU,Nat.reduceBEq,Nat.reduceShiftRight,Nat.reduceMod,Nat.reduceEqDiff,reduceIte])
      ·exact h3
      ·exact h6
      ·exact h7
      ·exact dC
      ·exact fQ
      ·exact kS
      ·exact jM
      ·exact nv
      ·exact iV
      ·exact js
      ·exact lE
      ·exact rK
      ·exact sg
      ·rw[br _ (by omega)];rfl
    ·have hF:jQ t Bs C p' X x=X:=by unfold jQ;rw[jh];simp [o1]
     rw[hF]at jS
     simp only[zX,Nat.reduceShiftRight,Nat.reduceMod,Nat.reduceLT,Nat.reduceMul,Nat.reduceSub,Int.reduceToNat,Int.reduceNeg,Int.reduceLT,Int.reduceLE,Int.reduceEq,Nat.reduceEqDiff,Nat.reduceAdd,Nat.reduceLeDiff,reduceIte,reduceCtorEq,Nat.reduceBEq,i64,bV,iD,bD,h3,h6,h7,dC,fQ,kS,jM,nv,iV,js,lE,rK,sg,zA,wE,oh,cr,av.cells,bK,aG,t1,t2,t3,List.getElem?_map,List.length_map,hi,Option.map_some,fU,vH,CG,aK,fm,Nat.zero_add,Int.toNat_natCast,o1]
     refine⟨st.rd.length-(m+1),_,_,by omega,bI.cut (s':=wE t root parts bg nb Bs g b a C q i (X) st.gn st.rd (some (lQ.mk p p' (Ia c x0.dn)))) 14 (by omega) rfl (vB t root parts bg nb Bs g b a C q i _ _ _ _) [3,6,7,10,14,15,16,17,18,19,20,61,62,63] (by simp [bB,aL,ah,ah.go,h3,h6,h7,dC,fQ,kS,jM,nv,iV,js,lE,rK,sg,zA,i64,bV]),m+1,rfl,az,?_,?_,?_,?_,?_,?_,?_,?_,?_,?_,?_,?_,?_,?_,by rw[jS];rfl⟩ <;> (try simp only[zU,Nat.reduceBEq,Nat.reduceShiftRight,Nat.reduceMod,Nat.reduceEqDiff,reduceIte])
     ·exact h3
     ·exact h6
     ·exact h7
     ·exact dC
     ·exact fQ
     ·exact kS
     ·exact jM
     ·exact nv
     ·exact iV
     ·exact js
     ·exact lE
     ·exact rK
     ·exact sg
     ·rw[br _ (by omega)];rfl
   ·have LC:m=st.rd.length:=by omega
    subst LC
    rw[List.take_length]at *
    have aK:¬(st.rd.length:Int)<(st.rd.length:Int):=by omega
    have P8:(iW t Bs C p' st.rd ⟨st.ad,false,[],gb⟩).rd≠[]->p'+1<=t.length:=by
     intro h
     refine Decidable.byContradiction fun hc=>h ?_
     rw[vY hg (c:=c) (by omega) st.rd _ hinv.th]
    generalize iW t Bs C p' st.rd ⟨st.ad,false,[],gb⟩=X at *
    simp only[zX,Nat.reduceShiftRight,Nat.reduceMod,Nat.reduceLT,Nat.reduceMul,Nat.reduceSub,Int.reduceToNat,Int.reduceNeg,Int.reduceLT,Int.reduceLE,Int.reduceEq,Nat.reduceEqDiff,Nat.reduceAdd,Nat.reduceLeDiff,reduceIte,reduceCtorEq,Nat.reduceBEq,i64,bV,iD,bD,h3,h6,h7,dC,fQ,kS,jM,nv,iV,js,lE,rK,sg,zA,wE,aK,Int.lt_irrefl]
    refine⟨k,_,_,Nat.lt_succ_self k,bI.zx [0,1,2,3,4,5,6,7,8,9,10,13,12,11] [3,6,7,10,14,15,16,17,18,19,20] (by rfl),p'+1,X,st.gn,st.rd,(some (lQ.mk p p' (Ia c x0.dn))),by omega,hX.1,hX.2,P8,hL,?_,?_,?_,?_,?_,?_,?_,?_,?_,?_,?_,Ht t root parts bg nb Bs g b a C q i X st.gn st.rd (some (lQ.mk p p' (Ia c x0.dn)))⟩
    all_goals
     rw[yb,if_pos (by rfl)]
     try simp only[zU,Nat.reduceBEq,Nat.reduceShiftRight,Nat.reduceMod,Nat.reduceEqDiff,reduceIte]
    ·rw[h3];rfl
    ·rw[h6];rfl
    ·rw[h7];rfl
    ·rw[dC];rfl
    ·rw[fQ];rfl
    ·rw[kS];rfl
    ·rw[jM];rfl
    ·rw[nv];rfl
    ·rw[iV];rfl
    ·rw[js];rfl
    ·rw[br _ (by omega)];rfl
  |false =>
   have Me:yZ p p' c st ga=ga:=by unfold yZ;rw[if_neg (by rw[iJ];simp)]
   rw[Me]at hL
   simp only[zX,Nat.reduceShiftRight,Nat.reduceMod,Nat.reduceLT,Nat.reduceMul,Nat.reduceSub,Int.reduceToNat,Int.reduceNeg,Int.reduceLT,Int.reduceLE,Int.reduceEq,Nat.reduceEqDiff,Nat.reduceAdd,Nat.reduceLeDiff,reduceIte,reduceCtorEq,Nat.reduceBEq,i64,bV,iD,bD,h3,h6,h7,dC,fQ,kS,jM,nv,iV,js,lE,Qg,cK,JX,t1,t2,t3,fl,gt_iff_lt,iJ]
   refine ar mix [3,4,5] [] (by rfl) ?_
   simp only[zX,Nat.reduceShiftRight,Nat.reduceMod,Nat.reduceLT,Nat.reduceMul,Nat.reduceSub,Int.reduceToNat,Int.reduceNeg,Int.reduceLT,Int.reduceLE,Int.reduceEq,Nat.reduceEqDiff,Nat.reduceAdd,Nat.reduceLeDiff,reduceIte,reduceCtorEq,Nat.reduceBEq,i64,bV,iD,bD,h3,h6,h7,dC,fQ,kS,jM,nv,iV,js,lE,Nat.zero_add,gt_iff_lt,fl,t1,t2,t3,Nat.le_refl,Nat.zero_le,and_self,true_and,Int.le_refl,Int.natCast_nonneg]
   refine ay (fun n e s=>∃m:Nat,n=st.rd.length-m/\m<=st.rd.length/\e 3=i64 p/\e 6=.bx (.so 2 g 0 C.length)/\e 7=.rf 5 0 0 0/\e 10=.rf 6 0 0 0/\e 14=.rf 8 0 0 0/\e 15=.so 11 st.gn 0 st.rd.length/\e 16=.rf 9 0 0 0/\e 17=.rf 10 0 0 0/\e 18=.rf 12 0 0 0/\e 19=bV (ga).isSome/\e 20=i64 p'/\e 61=.so 11 st.gn 0 st.rd.length/\e 62=i64 st.rd.length/\e 63=i64 m/\s=wE t root parts bg nb Bs g b a C q i (iW t Bs C p' (st.rd.take m) ⟨st.ad,false,[],gb⟩) st.gn st.rd ga) ?_ ?_
   ·refine⟨_,_,_,LX 13 rfl,0,rfl,by omega,?_,?_,?_,?_,?_,?_,?_,?_,?_,?_,?_,?_,?_,?_,?_⟩ <;> (try simp only[zU,Nat.reduceBEq,Nat.reduceShiftRight,Nat.reduceMod,Nat.reduceEqDiff,reduceIte])
    all_goals first|exact h3|exact h6|exact h7|exact dC|exact fQ|exact jM|exact nv|exact iV|exact js|exact lE|rfl
   clear h3 h6 h7 dC fQ kS jM nv iV js lE
   rintro n e s ⟨m,rfl,hm,h3,h6,h7,dC,fQ,kS,jM,nv,iV,js,lE,rK,sg,zA,rfl⟩
   have hX:=oA (t:=t) (Bs:=Bs) (p:=p') (st.rd.take m) ⟨st.ad,false,[],gb⟩ (fun x hx=>hinv.th x (List.mem_of_mem_take hx)) OG OD
   rcases Nat.lt_or_ge m st.rd.length with az|ib
   ·have aK:(m:Int)<(st.rd.length:Int):=by omega
    have CG:(0:Int)<=(m:Int):=by omega
    obtain⟨x,hx⟩:∃x,st.rd[m]?=some x:=⟨_,List.getElem?_eq_getElem az⟩
    have Lz:=hinv.th x (List.mem_of_getElem? hx)
    have hn:=Lz.2.1
    have fU:(x.iN:Int)<(C.length:Int):=by omega
    have vH:(0:Int)<=(x.iN:Int):=by omega
    obtain⟨ins,hi⟩:∃ins,C[x.iN]?=some ins:=⟨_,List.getElem?_eq_getElem hn⟩
    have jh:db C x.iN=ins:=by unfold db;rw[List.getD_eq_getElem?_getD,hi];rfl
    have fm:(dT st.gn st.rd).au[m]?=some [V.d (D.sc (.int .i64 x.iN)),V.d (ao x.dn)]:=by simp [dT,hx,jj.cells,iD]
    have jS:iW t Bs C p' (st.rd.take (m+1)) ⟨st.ad,false,[],gb⟩=jQ t Bs C p' (iW t Bs C p' (st.rd.take m) ⟨st.ad,false,[],gb⟩) x:=by rw[bt hx,yQ]
    generalize iW t Bs C p' (st.rd.take m) ⟨st.ad,false,[],gb⟩=X at *
    by_cases o1:ins.op=1
    ·obtain⟨Ns,ai,kU,zu,rQ,pg⟩:=nH t root parts bg nb Bs b a C hg ly ht hn (.inl (by rw[jh];exact o1)) p' WO
     have LZ:=Cc (t:=t) (Bs:=Bs) (p:=p') hg hn (by rw[jh];exact o1)
     have QZ:=hg.next x.iN hn (.inl (by rw[jh];exact o1))
     have hF:jQ t Bs C p' X x=if ins.pass t Bs p'=true then fR t Bs C (p'+1) (C.length+1) (x.iN+1) x.dn X else X:=by unfold jQ;rw[jh];simp [o1]
     rw[hF]at jS
     rw[jh]at kU pg LZ
     have w1:IntKind.i64.wrap ((x.iN:Int)+1)=((x.iN+1:Nat):Int):=by rw[br _ (by omega)];rfl
     have w2:IntKind.i64.wrap ((p':Int)+1)=((p'+1:Nat):Int):=by rw[br _ (by omega)];rfl
     generalize ins.pass t Bs p'=y at *
     cases y with
     |true =>
      have Mh:=uR t root parts bg nb Bs g b a C q (p'+1) i hg JR (by omega) ly ht (LZ rfl) C.length
      have Tx:gl (p'+1) X.ad<=X.ad.length:=List.countP_le_length
      have Vp:=hX.1.ad
      have RR:=hX.2
      unfold jU at RR
      rw[if_pos rfl]at jS
      have Ag:=fun (s:List VL.Obj) (K:V->List VL.Obj->Prop)=>vl (s:=s) (K:=K) Mh (n:=x.iN+1) (rg:=x.dn) (st:=X) QZ (by rw[Lz.1,hN]) Vp (by omega) RR 5 9 8 13 10 (by decide)
      simp only[zX,Nat.reduceShiftRight,Nat.reduceMod,Nat.reduceLT,Nat.reduceMul,Nat.reduceSub,Int.reduceToNat,Int.reduceNeg,Int.reduceLT,Int.reduceLE,Int.reduceEq,Nat.reduceEqDiff,Nat.reduceAdd,Nat.reduceLeDiff,reduceIte,reduceCtorEq,Nat.reduceBEq,i64,bV,iD,bD,h3,h6,h7,dC,fQ,kS,jM,nv,iV,js,lE,rK,sg,zA,wE,oh,cr,av.cells,bK,aG,t1,t2,t3,List.getElem?_map,List.length_map,hi,Option.map_some,fU,vH,CG,aK,fm,Nat.zero_add,Int.toNat_natCast,o1,kU]
      refine dm t root parts bg nb Bs pg ?_ ?_ rfl rfl rfl ?_
      ·simp [aJ,i64,rQ]
      ·simp [ah,ah.go,i64,zu]
      simp only[zX,Nat.reduceShiftRight,Nat.reduceMod,Nat.reduceLT,Nat.reduceMul,Nat.reduceSub,Int.reduceToNat,Int.reduceNeg,Int.reduceLT,Int.reduceLE,Int.reduceEq,Nat.reduceEqDiff,Nat.reduceAdd,Nat.reduceLeDiff,reduceIte,reduceCtorEq,Nat.reduceBEq,i64,bV,iD,bD,h3,h6,h7,dC,fQ,kS,jM,nv,iV,js,lE,rK,sg,zA,wE,oh,cr,av.cells,bK,aG,t1,t2,t3,List.getElem?_map,List.length_map,hi,Option.map_some,fU,vH,CG,aK,fm,Nat.zero_add,Int.toNat_natCast,o1,kU,w1,w2]
      refine Ag _ _ rfl rfl rfl rfl rfl rfl rfl rfl rfl rfl ?_
      simp only[List.set_cons_succ,List.set_cons_zero]
      simp only[zX,Nat.reduceShiftRight,Nat.reduceMod,Nat.reduceLT,Nat.reduceMul,Nat.reduceSub,Int.reduceToNat,Int.reduceNeg,Int.reduceLT,Int.reduceLE,Int.reduceEq,Nat.reduceEqDiff,Nat.reduceAdd,Nat.reduceLeDiff,reduceIte,reduceCtorEq,Nat.reduceBEq,i64,bV,iD,bD,h3,h6,h7,dC,fQ,kS,jM,nv,iV,js,lE,rK,sg,zA,wE,oh,cr,av.cells,bK,aG,t1,t2,t3,List.getElem?_map,List.length_map,hi,Option.map_some,fU,vH,CG,aK,fm,Nat.zero_add,Int.toNat_natCast,o1,kU,w1,w2]
      refine⟨st.rd.length-(m+1),_,_,by omega,bI.cut (s':=wE t root parts bg nb Bs g b a C q i (fR t Bs C (p'+1) (C.length+1) (x.iN+1) x.dn X) st.gn st.rd ga) 14 (by omega) rfl (vB t root parts bg nb Bs g b a C q i _ _ _ _) [3,6,7,10,14,15,16,17,18,19,20,61,62,63] (by simp [bB,aL,ah,ah.go,h3,h6,h7,dC,fQ,kS,jM,nv,iV,js,lE,rK,sg,zA,i64,bV]),m+1,rfl,az,?_,?_,?_,?_,?_,?_,?_,?_,?_,?_,?_,?_,?_,?_,by rw[jS];rfl⟩ <;> (try simp only[zU,Nat.reduceBEq,Nat.reduceShiftRight,Nat.reduceMod,Nat.reduceEqDiff,reduceIte])
      ·exact h3
      ·exact h6
      ·exact h7
      ·exact dC
      ·exact fQ
      ·exact kS
      ·exact jM
      ·exact nv
      ·exact iV
      ·exact js
      ·exact lE
      ·exact rK
      ·exact sg
      ·rw[br _ (by omega)];rfl
     |false =>
      rw[if_neg (by simp)]at jS
      simp only[zX,Nat.reduceShiftRight,Nat.reduceMod,Nat.reduceLT,Nat.reduceMul,Nat.reduceSub,Int.reduceToNat,Int.reduceNeg,Int.reduceLT,Int.reduceLE,Int.reduceEq,Nat.reduceEqDiff,Nat.reduceAdd,Nat.reduceLeDiff,reduceIte,reduceCtorEq,Nat.reduceBEq,i64,bV,iD,bD,h3,h6,h7,dC,fQ,kS,jM,nv,iV,js,lE,rK,sg,zA,wE,oh,cr,av.cells,bK,aG,t1,t2,t3,List.getElem?_map,List.length_map,hi,Option.map_some,fU,vH,CG,aK,fm,Nat.zero_add,Int.toNat_natCast,o1,kU]
      refine dm t root parts bg nb Bs pg ?_ ?_ rfl rfl rfl ?_
      ·simp [aJ,i64,rQ]
      ·simp [ah,ah.go,i64,zu]
      simp only[zX,Nat.reduceShiftRight,Nat.reduceMod,Nat.reduceLT,Nat.reduceMul,Nat.reduceSub,Int.reduceToNat,Int.reduceNeg,Int.reduceLT,Int.reduceLE,Int.reduceEq,Nat.reduceEqDiff,Nat.reduceAdd,Nat.reduceLeDiff,reduceIte,reduceCtorEq,Nat.reduceBEq,i64,bV,iD,bD,h3,h6,h7,dC,fQ,kS,jM,nv,iV,js,lE,rK,sg,zA,wE,oh,cr,av.cells,bK,aG,t1,t2,t3,List.getElem?_map,List.length_map,hi,Option.map_some,fU,vH,CG,aK,fm,Nat.zero_add,Int.toNat_natCast,o1,kU,w1,w2]
      refine⟨st.rd.length-(m+1),_,_,by omega,bI.cut (s':=wE t root parts bg nb Bs g b a C q i (X) st.gn st.rd ga) 14 (by omega) rfl (vB t root parts bg nb Bs g b a C q i _ _ _ _) [3,6,7,10,14,15,16,17,18,19,20,61,62,63] (by simp [bB,aL,ah,ah.go,h3,h6,h7,dC,fQ,kS,jM,nv,iV,js,lE,rK,sg,zA,i64,bV]),m+1,rfl,az,?_,?_,?_,?_,?_,?_,?_,?_,?_,?_,?_,?_,?_,?_,by rw[jS];rfl⟩ <;> (try simp only[zU,Nat.reduceBEq,Nat.reduceShiftRight,Nat.reduceMod,Nat.reduceEqDiff,reduceIte])
      ·exact h3
      ·exact h6
      ·exact h7
      ·exact dC
      ·exact fQ
      ·exact kS
      ·exact jM
      ·exact nv
      ·exact iV
      ·exact js
      ·exact lE
      ·exact rK
      ·exact sg
      ·rw[br _ (by omega)];rfl
    ·have hF:jQ t Bs C p' X x=X:=by unfold jQ;rw[jh];simp [o1]
     rw[hF]at jS
     simp only[zX,Nat.reduceShiftRight,Nat.reduceMod,Nat.reduceLT,Nat.reduceMul,Nat.reduceSub,Int.reduceToNat,Int.reduceNeg,Int.reduceLT,Int.reduceLE,Int.reduceEq,Nat.reduceEqDiff,Nat.reduceAdd,Nat.reduceLeDiff,reduceIte,reduceCtorEq,Nat.reduceBEq,i64,bV,iD,bD,h3,h6,h7,dC,fQ,kS,jM,nv,iV,js,lE,rK,sg,zA,wE,oh,cr,av.cells,bK,aG,t1,t2,t3,List.getElem?_map,List.length_map,hi,Option.map_some,fU,vH,CG,aK,fm,Nat.zero_add,Int.toNat_natCast,o1]
     refine⟨st.rd.length-(m+1),_,_,by omega,bI.cut (s':=wE t root parts bg nb Bs g b a C q i (X) st.gn st.rd ga) 14 (by omega) rfl (vB t root parts bg nb Bs g b a C q i _ _ _ _) [3,6,7,10,14,15,16,17,18,19,20,61,62,63] (by simp [bB,aL,ah,ah.go,h3,h6,h7,dC,fQ,kS,jM,nv,iV,js,lE,rK,sg,zA,i64,bV]),m+1,rfl,az,?_,?_,?_,?_,?_,?_,?_,?_,?_,?_,?_,?_,?_,?_,by rw[jS];rfl⟩ <;> (try simp only[zU,Nat.reduceBEq,Nat.reduceShiftRight,Nat.reduceMod,Nat.reduceEqDiff,reduceIte])
     ·exact h3
     ·exact h6
     ·exact h7
     ·exact dC
     ·exact fQ
     ·exact kS
     ·exact jM
     ·exact nv
     ·exact iV
     ·exact js
     ·exact lE
     ·exact rK
     ·exact sg
     ·rw[br _ (by omega)];rfl
   ·have LC:m=st.rd.length:=by omega
    subst LC
    rw[List.take_length]at *
    have aK:¬(st.rd.length:Int)<(st.rd.length:Int):=by omega
    have P8:(iW t Bs C p' st.rd ⟨st.ad,false,[],gb⟩).rd≠[]->p'+1<=t.length:=by
     intro h
     refine Decidable.byContradiction fun hc=>h ?_
     rw[vY hg (c:=c) (by omega) st.rd _ hinv.th]
    generalize iW t Bs C p' st.rd ⟨st.ad,false,[],gb⟩=X at *
    simp only[zX,Nat.reduceShiftRight,Nat.reduceMod,Nat.reduceLT,Nat.reduceMul,Nat.reduceSub,Int.reduceToNat,Int.reduceNeg,Int.reduceLT,Int.reduceLE,Int.reduceEq,Nat.reduceEqDiff,Nat.reduceAdd,Nat.reduceLeDiff,reduceIte,reduceCtorEq,Nat.reduceBEq,i64,bV,iD,bD,h3,h6,h7,dC,fQ,kS,jM,nv,iV,js,lE,rK,sg,zA,wE,aK,Int.lt_irrefl]
    refine⟨k,_,_,Nat.lt_succ_self k,bI.zx [0,1,2,3,4,5,6,7,8,9,10,13,12,11] [3,6,7,10,14,15,16,17,18,19,20] (by rfl),p'+1,X,st.gn,st.rd,ga,by omega,hX.1,hX.2,P8,hL,?_,?_,?_,?_,?_,?_,?_,?_,?_,?_,?_,Ht t root parts bg nb Bs g b a C q i X st.gn st.rd ga⟩
    all_goals
     rw[yb,if_pos (by rfl)]
     try simp only[zU,Nat.reduceBEq,Nat.reduceShiftRight,Nat.reduceMod,Nat.reduceEqDiff,reduceIte]
    ·rw[h3];rfl
    ·rw[h6];rfl
    ·rw[h7];rfl
    ·rw[dC];rfl
    ·rw[fQ];rfl
    ·rw[kS];rfl
    ·rw[jM];rfl
    ·rw[nv];rfl
    ·rw[iV];rfl
    ·rw[js];rfl
    ·rw[br _ (by omega)];rfl
end
section
variable (P:av->Prop) (node:Re->Bool)
structure qI:Prop where
 xy:∀i x y,P i->P ⟨i.op,x,y,i.n,i.node⟩
 Ut:∀x y,P (dS x y)
 jmp:∀x,P (jN x)
 set:∀re k,node re=true->re.op=1->P (sQ re k)
 ask:∀re k,node re=true->re.op=11\/re.op=7\/re.op=8->P (mq re k)
 WB:∀re,node re=true->re.op=5->P (gy (2*re.n-2))/\P (gy (2*re.n-1))
def jk (C:List av):Prop:=∀i∈C,P i
variable {P node}
theorem jk.add {C:List av} (h:jk P C) {i:av} (hp:P i):jk P (C++[i]):=fun j hj=>by
 rcases List.mem_append.1 hj with hj|hj
 ·exact h j hj
 ·rw[List.mem_singleton.1 hj];exact hp
theorem jk.xy (hP:qI P node) {C:List av} (h:jk P C) (c:Nat) (x y:Int):jk P (u7 C c x y):=fun j hj=>by
 unfold u7 at hj
 by_cases hc:c<C.length
 ·rcases List.mem_or_eq_of_mem_set hj with hj|rfl
  ·exact h j hj
  ·have hm:db C c∈C:=by unfold db;rw[List.getD_eq_getElem?_getD,List.getElem?_eq_getElem hc];exact List.getElem_mem hc
   exact hP.xy _ _ _ (h _ hm)
 ·rw[List.set_eq_of_length_le (by omega)]at hj
  exact h j hj
theorem jk.xs (hP:qI P node) (E:Int):∀(J:List Nat) {C:List av},jk P C->jk P (J.foldl (xO E) C)
 |[],_,h=>h
 |c::J,C,h=>jk.xs hP E J (h.xy hP c _ _)
theorem jk.Gs (hP:qI P node) (mode:Int):∀(J:List Nat) {C:List av},jk P C->jk P (J.foldl (nz mode) C)
 |[],_,h=>h
 |c::J,C,h=>by
  rw[List.foldl_cons]
  refine jk.Gs hP mode J ?_
  unfold nz
  split
  ·exact h.xy hP c _ _
  ·exact h.xy hP c _ _
theorem Bm (hP:qI P node) (re:Re):re.every node=true->∀k C,jk P C->jk P (re.emit k C):=by
 refine Re.ind (Q:=fun re=>re.every node=true->∀k C,jk P C->jk P (re.emit k C)) (fun re ih hs k C hC=>?_) re
 obtain⟨gX,pj⟩:=(Re.aS re).1 hs
 rw[Re.jE]
 by_cases o1:re.op=1
 ·rw[if_pos o1]
  exact hC.add (hP.set re k gX o1)
 rw[if_neg o1]
 by_cases o7:re.op=11\/re.op=7\/re.op=8
 ·rw[if_pos o7]
  exact hC.add (hP.ask re k gX o7)
 rw[if_neg o7]
 have hL:∀(l:List Re) (k:Nat) (C:List av),(∀x∈l,x∈re.kids)->jk P C->jk P (Re.dc l k C):=by
  intro l
  induction l with
  |nil=>intro k C _ h;exact h
  |cons x l IK =>
   intro k C hm h
   rw[Re.dc]
   exact IK _ _ (fun y hy=>hm y (by simp [hy])) (ih x (hm x (by simp)) (pj x (hm x (by simp))) k C h)
 by_cases o2:re.op=2
 ·rw[if_pos o2]
  exact hL _ _ _ (fun _ h=>h) hC
 rw[if_neg o2]
 by_cases o3:re.op=3
 ·rw[if_pos o3]
  have hA:∀(l:List Re) (k:Nat) (C:List av) (J:List Nat),(∀x∈l,x∈re.kids)->jk P C->jk P (Re.mg l k C J):=by
   intro l
   induction l with
   |nil=>intro k C J _ h;exact h
   |cons x l IK =>
    intro k C J hm h
    have hx:=fun C h=>ih x (hm x (by simp)) (pj x (hm x (by simp))) k C h
    cases l with
    |nil =>
     rw[Re.mg]
     exact jk.xs hP _ J (hx C h)
    |cons y l =>
     rw[Re.mg]
     exact IK _ _ _ (fun z hz=>hm z (by simp only[List.mem_cons]at hz ⊢;exact .inr hz)) (((hx _ (h.add (hP.Ut 0 0))).add (hP.jmp 0)).xy hP _ _ _)
   done
  exact hA _ _ _ _ (fun _ h=>h) hC
 rw[if_neg o3]
 by_cases o5:re.op=5
 ·rw[if_pos o5]
  exact(hL _ _ _ (fun _ h=>h) (hC.add (hP.WB re gX o5).1)).add (hP.WB re gX o5).2
 rw[if_neg o5]
 by_cases o4:re.op=4
 ·rw[if_pos o4]
  have hf:∀C,jk P C->jk P (Re.dc re.kids k C):=fun C h=>hL _ _ _ (fun _ h=>h) h
  have h1:∀n,jk P (gu (fun C=>Re.dc re.kids k C) n C):=by
   intro n
   induction n with
   |zero=>exact hC
   |succ n Qu=>exact hf _ Qu
  unfold kX
  simp only
  have h1:=h1 re.mn.toNat
  generalize gu (fun C=>Re.dc re.kids k C) re.mn.toNat C=C1 at *
  split
  ·exact jk.Gs hP _ _ ((hf _ (h1.add (hP.Ut 0 0))).add (hP.jmp _))
  ·refine jk.Gs hP _ _ ?_
   have:∀n,jk P (iO (fun C=>Re.dc re.kids k C) n C1).1:=by
    intro n
    induction n with
    |zero=>exact h1
    |succ n Qu=>exact hf _ (Qu.add (hP.Ut 0 0))
   exact this _
 rw[if_neg o4]
 exact hC
end
def Sy (c:Int) (re:Re):Bool:=decide (re.op=5->1<=re.n/\re.n<=c)
theorem Rf {re:Re}{ai top:Int} (h:bG re ai top=true):Sy ai re=true:=by
 obtain⟨h1,h2,h3,h4,h5⟩:=gL.1 h
 unfold Sy
 rw[decide_eq_true_eq]
 intro o5
 rw[if_pos (.inl o5)]at h4
 omega
theorem JJ {re:Re}{c:Nat}{top:Int} (h:re.whole c top=true) (k:Nat):Bf (re.emit k []++[cc]) (2*c):=by
 have hP:qI (fun i:av=>i.op=4->0<=i.n/\i.n<((2*c:Nat):Int)) (Sy c):=by
  refine⟨fun i x y h=>h,fun x y h=>by simp [dS]at h,fun x h=>by simp [jN]at h,fun re k _ _ h=>by simp [sQ]at h,fun re k _ _ h=>by simp [mq]at h,fun re h o=>?_⟩
  unfold Sy at h
  have:=of_decide_eq_true h o
  exact⟨fun _=>⟨by simp only[gy];omega,by simp only[gy];omega⟩,fun _=>⟨by simp only[gy];omega,by simp only[gy];omega⟩⟩
 have hs:re.every (Sy c)=true:=px (fun r h=>Rf h) re h
 have ha:=Bm hP re hs k [] (fun i hi=>by simp at hi)
 intro n hn ho
 have hm:db (re.emit k []++[cc]) n∈re.emit k []++[cc]:=by unfold db;rw[List.getD_eq_getElem?_getD,List.getElem?_eq_getElem hn];exact List.getElem_mem hn
 rcases List.mem_append.1 hm with hm|hm
 ·exact ha _ hm ho
 ·rw[List.mem_singleton.1 hm]at ho
  simp [cc]at ho
end Go.Proofs.Ytfmdmlfhigocaaa
