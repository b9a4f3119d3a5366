/- A part of the proof (O38 O39 O40 O41 O42 O43 O44). -/
import Derived.Test.YtfmdmlfhigocaaaOF36
import Derived.Test.YtfmdmlfhigocaaaOF45
import Derived.Test.YtfmdmlfhigocaaaOF47
set_option linter.unusedSimpArgs false
set_option linter.unusedVariables false
set_option maxRecDepth 100000
set_option maxHeartbeats 80000000
namespace Go.Proofs.Ytfmdmlfhigocaaa
open Go.VL
def m7 (p:jl):List av:=p.re.emit 0 []++[cc]
structure VS (p:jl) (t:List Int):Prop where
 O3:p.re.every Hf=true
 fT:p.re.fT<=1000000
 oz:lg t (aW t (p.re.bU 0) (p.re.bU 0).length) (m7 p)
 sv:Bf (m7 p) (2*p.ai.toNat)
 c0:0<=p.ai
 c1:p.ai<=9
 tl:t.length<=65536
 len:0<(m7 p).length
theorem AV {p:jl}{t:List Int} (h:dE p t=0):VS p t:=by
 obtain⟨a1,a2,a3⟩:=wB h
 obtain⟨b1,b2,b3⟩:=As a1
 obtain⟨v1,v2,v3,v4,v5⟩:=gx b1
 have JL:=qO v4 p.re v5 v1
 unfold pM at b3
 have hsh:=(Bool.and_eq_true_iff.1 b3).1
 have hl:1+il p.re<=8192:=of_decide_eq_true hsh
 have WY:p.re.fT<=8191:=by unfold il at hl;omega
 have Ew:=Re.qR p.re 0
 refine⟨y6 JL,by omega,vd t _ p.re JL 0 (by omega) (fun j _ hj=>jr t _ _ j (by omega) (by omega)),?_,v3,v4,a2,by simp [m7]⟩
 have hc:p.ai=(p.ai.toNat:Int):=by omega
 rw[hc]at v5
 exact JJ v5 0
theorem mh {s:List VL.Obj}{k:Nat}{o:VL.Obj} (h:s[k]?=some o):s.set k o=s:=by
 apply List.ext_getElem?;intro j
 by_cases hj:j=k
 ·subst hj;rw[List.getElem?_set_self (List.getElem?_eq_some_iff.1 h).1,h]
 ·rw[List.getElem?_set_ne (Ne.symm hj)]
def Nm (k g b a:Nat) (C:List av):VL.Obj:=aP [k] (cr g b a C)
theorem GG (k:Nat) (ρ:List Nat) (b a:Nat) (x:Option (Re×Nat)):aJ (k::ρ) (bQ b a x)=aJ [k] (bQ b a x):=by
 cases x with
 |none=>rfl
 |some x =>
  obtain⟨re,j⟩:=x
  unfold bQ
  simp only
  split
  ·rfl
  ·split <;> rfl
theorem yE (k:Nat) (ρ:List Nat) (g b a:Nat) (C:List av):aP (k::ρ) (cr g b a C)=Nm k g b a C:=by
 unfold Nm aP cr
 simp only[List.map_map]
 congr 1
 apply List.map_congr_left
 intro i _
 simp [av.cells,GG k ρ,aJ,aJ.go,i64]
theorem yc {t:List Int}{root parts:D}{nb:Nat}{Bs:List (List Bool)}{re:Re} (hs:re.every Hf=true) (hz:re.fT<=1000000) (k:Nat) {s:List VL.Obj}{K:V->List VL.Obj->Prop}
  (h0:s[k]?=some (FH t root parts (k+1) nb)) (h1:s[k+1]?=some (ez 0 Bs))
  (hk:∀b a,K (.so s.length (re.emit 0 []++[cc]).length 0 (re.emit 0 []++[cc]).length) (s++[Nm k (re.emit 0 []++[cc]).length b a (re.emit 0 []++[cc])])) :
  aq Try.prog 28 [.rf k 0 0 0,.d (re.aY 0)] s K:=by
 have hc:aq Try.prog 28 [.rf 0 0 0 0,.d (re.aY 0)] [cV t root parts 0 nb,ez 0 Bs] fun v s=>∃b a,v=.so 2 (re.emit 0 []++[cc]).length 0 (re.emit 0 []++[cc]).length/\s=[cV t root parts 0 nb,ez 0 Bs,cr (re.emit 0 []++[cc]).length b a (re.emit 0 []++[cc])] :=
  vF hs hz 0 fun b a=>⟨b,a,rfl,rfl⟩
 have e6:∀ρ,aP (k::(k+1)::ρ) (cV t root parts 0 nb)=FH t root parts (k+1) nb:=fun ρ=>rfl
 refine jy hc [k,k+1] rfl (by simp) (fun j o ho=>?_) rfl (by simp [ah,ah.go]) ?_ ?_
 ·match j with
  |0=>cases ho;rw[e6];exact h0
  |1=>cases ho;rw[er];exact h1
  |j+2=>simp at ho
 ·have hb:=fe 2 0 Bs
  simp only[List.all_cons,List.all_nil,List.length_cons,List.length_nil,Nat.zero_add,Nat.reduceAdd,Bool.and_true]
  simp [aQ,cV,ah,hb]
 rintro v s' ⟨b,a,rfl,rfl⟩ _
 generalize re.emit 0 []++[cc]=C at *
 have e1:vE [k,k+1] s [cV t root parts 0 nb,ez 0 Bs] [cV t root parts 0 nb,ez 0 Bs,cr C.length b a C]=[k,k+1,s.length]:=rfl
 rw[e1]
 have e5:aJ [k,k+1,s.length] (.so 2 C.length 0 C.length)=.so s.length C.length 0 C.length:=rfl
 rw[e5]
 simp only[List.length_cons,List.length_nil,Nat.zero_add,Nat.reduceAdd,List.take_succ_cons,List.take_zero,List.drop_succ_cons,List.drop_zero,List.map_cons,List.map_nil,e6,er,yE,aH]
 rw[mh h0,mh h1]
 exact hk b a
theorem wJ {t:List Int}{root parts:D}{nb:Nat}{Bs:List (List Bool)}{g b a:Nat}{C:List av}{q c:Nat} (hg:lg t Bs C) (JR:Bf C (2*c)) (hc:c<=1000) (ly:nb=Bs.length) (ht:t.length<=1000000) (hC:0<C.length) {p:Nat} (hp:p<=t.length) {ad:List Nat} (Mv:ad.length=C.length)
  {s:List VL.Obj}{K:V->List VL.Obj->Prop} (k j i:Nat) (uA:[k,k+1,j,i].Nodup) (h0:s[k]?=some (FH t root parts (k+1) nb)) (h1:s[k+1]?=some (ez 0 Bs)) (h2:s[j]?=some (Nm k g b a C)) (h3:s[i]?=some (bd q ad))
  (hk:K (.tu [(Lx (fY t Bs C p c).1).v,bV (fY t Bs C p c).1.isSome]) (s.set i (bd q (fY t Bs C p c).2))) :
  aq Try.prog 29 [.rf k 0 0 0,.so j g 0 C.length,.so i q 0 C.length,i64 p,i64 c] s K:=by
 have e6:∀ρ,aP (k::(k+1)::ρ) (cV t root parts 0 nb)=FH t root parts (k+1) nb:=fun ρ=>rfl
 refine dk [k,k+1,j,i] (IN t root parts 0 nb Bs g b a C q hg c JR hc ly ht hC p hp ad Mv) uA rfl ?_ ?_ (by rfl) ?_ (r':=.tu [(Lx (fY t Bs C p c).1).v,bV (fY t Bs C p c).1.isSome]) ?_ ?_
 ·simp only[List.map_cons,List.map_nil,e6,er,yE,lO,h0,h1,h2,h3]
 ·simp [aJ,i64]
 ·have hb:=fe 4 0 Bs
  simp only[List.all_cons,List.all_nil,List.length_cons,List.length_nil,Nat.zero_add,Nat.reduceAdd,iP 4 _ _ _ (by omega),ll,Bool.and_true]
  simp [aQ,cV,ah,hb]
 ·simp [aJ,aJ.go,lQ.v,i64,bV]
 ·simp only[List.map_cons,List.map_nil,e6,er,yE,lO,aH]
  rw[mh h0,mh h1,mh h2]
  exact hk
def Cw (p:jl) (t:List Int) (x:Int):Option lQ:=if dE p t≠0\/x<0\/(t.length:Int)<x then none else (fY t (aW t (p.re.bU 0) (p.re.bU 0).length) (m7 p) x.toNat p.ai.toNat).1
def Fq (p:jl) (t:List Int) (x:Int):Int:=if dE p t≠0 then dE p t else if x<0\/(t.length:Int)<x then 5 else 0
theorem NV (p:jl) (t:List Int) (x:Int) (hf:p.re.dG=true) (hl:t.length<=1000000):ba Try.prog 12 [bL p,.d (ao t),i64 x] (.tu [(Lx (Cw p t x)).v,bV (Cw p t x).isSome,i64 (Fq p t x)]):=by
 by_cases h:dE p t=0
 ·obtain⟨O3,fT,oz,sv,c0,c1,tl,Nq⟩:=AV h
  have ct:=fun s K hk=>pR hf h (s:=s) (K:=K) hk
  have Jv:=eS t (p.re.bU 0) (p.re.bU 0).length
  by_cases hx:x<0\/(t.length:Int)<x
  ·have AA:Cw p t x=none:=if_pos (.inr hx)
   have zv:Fq p t x=5:=by unfold Fq;rw[if_neg (by rw[h];simp),if_pos hx]
   rw[AA,zv]
   generalize aW t (p.re.bU 0) (p.re.bU 0).length=Bs at *
   generalize (p.re.bU 0).length=n at *
   generalize p.re.aY 0=rd at *
   generalize dp (p.re.bU 0)=pd at *
   clear AA zv h O3 fT oz sv c0 c1 Nq hf
   cases p with
   |mk re ai aU =>
   unfold bL at ct
   simp only[Re.ae,List.map_cons,List.map_nil,List.cons_append,List.nil_append,i64,iD,bD,bV,ao]at ct
   by_cases MS:x<0
   ·refine an Try.func12 rfl Try.ntmps12 Try.results12 rfl 0 16335 (by simp) (by simp) ?_
    simp only[zX,Nat.reduceShiftRight,Nat.reduceMod,Nat.reduceLT,Nat.reduceMul,Nat.reduceSub,Int.reduceToNat,Int.reduceNeg,Int.reduceLT,Int.reduceLE,Int.reduceEq,Nat.reduceEqDiff,Nat.reduceAdd,Nat.reduceLeDiff,reduceIte,reduceCtorEq,Nat.reduceBEq,i64,bL,Re.ae,bV,iD,bD,ao]
    refine ct _ _ ?_
    simp only[zX,Nat.reduceShiftRight,Nat.reduceMod,Nat.reduceLT,Nat.reduceMul,Nat.reduceSub,Int.reduceToNat,Int.reduceNeg,Int.reduceLT,Int.reduceLE,Int.reduceEq,Nat.reduceEqDiff,Nat.reduceAdd,Nat.reduceLeDiff,reduceIte,reduceCtorEq,Nat.reduceBEq,i64,bV,iD,bD,ao,FH,List.length_cons,List.length_nil,Nat.zero_add,List.cons_append,List.nil_append,ne_eq,not_true_eq_false,List.length_map,MS]
    rfl
   ·have Li:(t.length:Int)<x:=hx.resolve_left MS
    refine an Try.func12 rfl Try.ntmps12 Try.results12 rfl 0 16335 (by simp) (by simp) ?_
    simp only[zX,Nat.reduceShiftRight,Nat.reduceMod,Nat.reduceLT,Nat.reduceMul,Nat.reduceSub,Int.reduceToNat,Int.reduceNeg,Int.reduceLT,Int.reduceLE,Int.reduceEq,Nat.reduceEqDiff,Nat.reduceAdd,Nat.reduceLeDiff,reduceIte,reduceCtorEq,Nat.reduceBEq,i64,bL,Re.ae,bV,iD,bD,ao]
    refine ct _ _ ?_
    simp only[zX,Nat.reduceShiftRight,Nat.reduceMod,Nat.reduceLT,Nat.reduceMul,Nat.reduceSub,Int.reduceToNat,Int.reduceNeg,Int.reduceLT,Int.reduceLE,Int.reduceEq,Nat.reduceEqDiff,Nat.reduceAdd,Nat.reduceLeDiff,reduceIte,reduceCtorEq,Nat.reduceBEq,i64,bV,iD,bD,ao,FH,List.length_cons,List.length_nil,Nat.zero_add,List.cons_append,List.nil_append,ne_eq,not_true_eq_false,List.length_map,MS,Li,gt_iff_lt]
    rfl
  ·obtain⟨y,rfl⟩:∃y:Nat,x=y:=⟨x.toNat,by omega⟩
   have hy:y<=t.length:=by omega
   have W8:¬(t.length:Int)<(y:Int):=by omega
   have Te:¬(y:Int)<0:=by omega
   have AA:Cw p t y=(fY t (aW t (p.re.bU 0) (p.re.bU 0).length) (m7 p) y p.ai.toNat).1:=by
    unfold Cw;rw[if_neg (by rw[h];omega)];rfl
   have zv:Fq p t y=0:=by unfold Fq;rw[if_neg (by rw[h];simp),if_neg (by omega)]
   rw[AA,zv]
   have nr:=fun (s:List VL.Obj) (K:V->List VL.Obj->Prop) (root parts:D) (nb:Nat) (Bs:List (List Bool))=>yc (t:=t) (root:=root) (parts:=parts) (nb:=nb) (Bs:=Bs) O3 fT 2 (s:=s) (K:=K)
   have tc:=fun (s:List VL.Obj) (K:V->List VL.Obj->Prop) (root parts:D) (g b a:Nat)=>wJ (root:=root) (parts:=parts) (g:=g) (b:=b) (a:=a) (q:=1) oz sv (by omega) Jv.symm hl Nq hy (ad:=List.replicate (m7 p).length 0) (by simp) (s:=s) (K:=K) 2 4 5 (by decide)
   have iJ:=oz.len
   have uq:p.re.emit 0 []++[cc]=m7 p:=rfl
   rw[uq]at nr
   have DT:(p.ai.toNat:Int)=p.ai:=by omega
   rw[DT]at tc
   generalize aW t (p.re.bU 0) (p.re.bU 0).length=Bs at *
   generalize (p.re.bU 0).length=n at *
   generalize m7 p=C at *
   generalize p.re.aY 0=rd at *
   generalize dp (p.re.bU 0)=pd at *
   generalize fY t Bs C y p.ai.toNat=R at *
   clear AA zv h O3 fT oz sv c0 c1 hf uq DT
   cases p with
   |mk re ai aU =>
   unfold bL at ct
   simp only[Re.ae,List.map_cons,List.map_nil,List.cons_append,List.nil_append,i64,iD,bD,bV,ao]at ct tc nr
   refine an Try.func12 rfl Try.ntmps12 Try.results12 rfl 0 16335 (by simp) (by simp) ?_
   simp only[zX,Nat.reduceShiftRight,Nat.reduceMod,Nat.reduceLT,Nat.reduceMul,Nat.reduceSub,Int.reduceToNat,Int.reduceNeg,Int.reduceLT,Int.reduceLE,Int.reduceEq,Nat.reduceEqDiff,Nat.reduceAdd,Nat.reduceLeDiff,reduceIte,reduceCtorEq,Nat.reduceBEq,i64,bL,Re.ae,bV,iD,bD,ao]
   refine ct _ _ ?_
   simp only[zX,Nat.reduceShiftRight,Nat.reduceMod,Nat.reduceLT,Nat.reduceMul,Nat.reduceSub,Int.reduceToNat,Int.reduceNeg,Int.reduceLT,Int.reduceLE,Int.reduceEq,Nat.reduceEqDiff,Nat.reduceAdd,Nat.reduceLeDiff,reduceIte,reduceCtorEq,Nat.reduceBEq,i64,bV,iD,bD,ao,FH,List.length_cons,List.length_nil,Nat.zero_add,List.cons_append,List.nil_append,ne_eq,not_true_eq_false,List.length_map,Te,W8,gt_iff_lt]
   refine nr _ _ _ _ _ _ rfl rfl (fun b a=>?_)
   simp only[zX,Nat.reduceShiftRight,Nat.reduceMod,Nat.reduceLT,Nat.reduceMul,Nat.reduceSub,Int.reduceToNat,Int.reduceNeg,Int.reduceLT,Int.reduceLE,Int.reduceEq,Nat.reduceEqDiff,Nat.reduceAdd,Nat.reduceLeDiff,reduceIte,reduceCtorEq,Nat.reduceBEq,i64,bV,iD,bD,List.length_cons,List.length_nil,Nat.zero_add,Nat.reduceAdd,List.cons_append,List.nil_append]
   refine aT bZ.bk ?_
   refine aT bZ.bk ?_
   refine ar mix [] [(4,[5],[5]),(6,[0],[]),(7,[0],[]),(8,[2,3,4,5],[5]),(12,[6],[6]),(13,[6],[6])] (by rfl) ?_
   simp only[zX,Nat.reduceShiftRight,Nat.reduceMod,Nat.reduceLT,Nat.reduceMul,Nat.reduceSub,Int.reduceToNat,Int.reduceNeg,Int.reduceLT,Int.reduceLE,Int.reduceEq,Nat.reduceEqDiff,Nat.reduceAdd,Nat.reduceLeDiff,reduceIte,reduceCtorEq,Nat.reduceBEq,i64,bV,iD,bD,List.length_cons,List.length_nil,Nat.zero_add,Nat.reduceAdd,List.cons_append,List.nil_append,hole,NN,Value.oneCell']
   refine⟨⟨Int.le_refl _,by omega,by omega⟩,?_⟩
   have Uc:(⟨1,true,1,List.replicate C.length [V.d (.sc (.int .i64 0))]⟩:VL.Obj)=bd 1 (List.replicate C.length 0):=by simp [bd,i64]
   refine⟨.tu [(Lx R.1).v,bV R.1.isSome],[bd 1 R.2],rfl,fun s' _ jS=>?_,?_⟩
   ·exact tc s' _ _ _ _ _ _ (jS 2 (by simp)) (jS 3 (by simp)) (jS 4 (by simp)) ((jS 5 (by simp)).trans (congrArg some Uc)) ⟨rfl,rfl⟩
   ·simp only[zX,Nat.reduceShiftRight,Nat.reduceMod,Nat.reduceLT,Nat.reduceMul,Nat.reduceSub,Int.reduceToNat,Int.reduceNeg,Int.reduceLT,Int.reduceLE,Int.reduceEq,Nat.reduceEqDiff,Nat.reduceAdd,Nat.reduceLeDiff,reduceIte,reduceCtorEq,Nat.reduceBEq,i64,bV,iD,bD,lQ.v,aH,List.length_cons,List.length_nil,Nat.zero_add,Nat.reduceAdd,List.cons_append,List.nil_append]
 ·have AA:Cw p t x=none:=if_pos (.inl h)
  have zv:Fq p t x=dE p t:=by unfold Fq;rw[if_pos h]
  rw[AA,zv]
  have he:=vg p t hf h hl
  generalize dE p t=se at *
  clear hf AA zv
  cases p with
  |mk re ai aU =>
  unfold bL at he
  simp only[Re.ae,List.map_cons,List.map_nil,List.cons_append,List.nil_append,i64,iD,bD,bV,ao]at he
  refine an Try.func12 rfl Try.ntmps12 Try.results12 rfl 0 16335 (by simp) (by simp) ?_
  simp only[zX,Nat.reduceShiftRight,Nat.reduceMod,Nat.reduceLT,Nat.reduceMul,Nat.reduceSub,Int.reduceToNat,Int.reduceNeg,Int.reduceLT,Int.reduceLE,Int.reduceEq,Nat.reduceEqDiff,Nat.reduceAdd,Nat.reduceLeDiff,reduceIte,reduceCtorEq,Nat.reduceBEq,i64,bL,Re.ae,bV,iD,bD,ao]
  refine al he rfl rfl ?_
  simp only[zX,Nat.reduceShiftRight,Nat.reduceMod,Nat.reduceLT,Nat.reduceMul,Nat.reduceSub,Int.reduceToNat,Int.reduceNeg,Int.reduceLT,Int.reduceLE,Int.reduceEq,Nat.reduceEqDiff,Nat.reduceAdd,Nat.reduceLeDiff,reduceIte,reduceCtorEq,Nat.reduceBEq,i64,bV,iD,bD,ao,ne_eq,h,not_false_eq_true]
  rfl
def VD (m:lQ):List D:=[iD m.s,iD m.e,cy m.c]
def fX (t:List Int) (Bs:List (List Bool)) (C:List av) (c i:Nat):List lQ:=(List.range i).filterMap fun j=>(fY t Bs C j c).1
theorem Ei (t:List Int) (Bs:List (List Bool)) (C:List av) (c i:Nat):fX t Bs C c (i+1)=fX t Bs C c i++(fY t Bs C i c).1.toList:=by
 unfold fX
 rw[List.range_succ,List.filterMap_append]
 cases h:(fY t Bs C i c).1 <;> simp [h]
theorem FT (t:List Int) (Bs:List (List Bool)) (C:List av) (c i:Nat):(fX t Bs C c i).length<=i:=by
 unfold fX
 exact Nat.le_trans (List.length_filterMap_le _ _) (by simp)
theorem AK {t:List Int}{Bs:List (List Bool)}{C:List av}{b c:Nat}:∀(k p:Nat) (st:fS) (gb:Nat) (ga:Option lQ),rY C c st->(pS t Bs C b c k p st gb ga).2.length=C.length
 |0,_,_,_,_,h=>h.ad
 |k+1,p,st,gb,ga,h=>by
  rw[pS]
  split
  ·exact h.ad
  ·refine AK k _ _ _ _ (oA (p:=p) st.rd ⟨st.ad,false,[],gb⟩ h.th ⟨h.ad,by simp,by simp⟩ ?_).1
   have:gl (p+1) st.ad<=st.ad.length:=List.countP_le_length
   have:=h.ad
   unfold jU
   simp only[List.length_nil]
   omega
theorem Ir (t:List Int) (Bs:List (List Bool)) (C:List av) (p c:Nat):(fY t Bs C p c).2.length=C.length:=by
 unfold fY
 refine AK _ _ _ _ _ ?_
 unfold uF
 refine(vG (p:=p) ⟨by simp,by simp,by simp⟩ ?_ (by simp [lz])).1
 have:gl p (List.replicate C.length 0)<=(List.replicate C.length 0).length:=List.countP_le_length
 unfold jU
 simp only[List.length_replicate,List.length_nil]at *
 omega
def JW (g:Nat) (l:List lQ):VL.Obj:=⟨g,true,3,(l.map VD).map fun c=>c.map V.d⟩
theorem J0 (n g:Nat) (l:List lQ):aQ n (JW g l)=true:=by
 unfold aQ JW
 rw[List.all_eq_true]
 intro e he
 obtain⟨x,hx,rfl⟩:=List.mem_map.1 he
 rw[List.all_eq_true]
 intro y hy
 obtain⟨d,_,rfl⟩:=List.mem_map.1 hy
 rfl
theorem Mm (n k g b a:Nat) (hk:k<n) (C:List av):aQ n (Nm k g b a C)=true:=by
 have hp:∀x,ah n (aJ [k] (bQ b a x))=true:=by
  intro x
  cases x with
  |none=>rfl
  |some x =>
   obtain⟨re,j⟩:=x
   unfold bQ
   simp only
   split
   ·simp [aJ,aJ.go,mB,nB,ah,ah.go,hk]
   ·split <;> simp [aJ,aJ.go,mB,nB,ah,ah.go,hk]
 unfold aQ Nm aP cr
 rw[List.all_eq_true]
 intro e he
 simp only[List.map_map]at he
 obtain⟨i,_,rfl⟩:=List.mem_map.1 he
 simp [av.cells,aJ,aJ.go,i64,ah,hp]
def Bu (p:jl) (t:List Int):List lQ:=if dE p t≠0 then [] else fX t (aW t (p.re.bU 0) (p.re.bU 0).length) (m7 p) p.ai.toNat (t.length+1)
theorem Is (p:jl) (t:List Int) (hf:p.re.dG=true) (hl:t.length<=1000000):ba Try.prog 8 [bL p,.d (ao t)] (.tu [.d (.sl ((Bu p t).map VD)),i64 (dE p t)]):=by
 by_cases h:dE p t=0
 ·obtain⟨O3,fT,oz,sv,c0,c1,tl,Nq⟩:=AV h
  have ct:=fun s K hk=>pR hf h (s:=s) (K:=K) hk
  have Jv:=eS t (p.re.bU 0) (p.re.bU 0).length
  have AA:Bu p t=fX t (aW t (p.re.bU 0) (p.re.bU 0).length) (m7 p) p.ai.toNat (t.length+1):=if_neg (by rw[h];simp)
  rw[AA,h]
  have nr:=fun (s:List VL.Obj) (K:V->List VL.Obj->Prop) (root parts:D) (nb:Nat) (Bs:List (List Bool))=>yc (t:=t) (root:=root) (parts:=parts) (nb:=nb) (Bs:=Bs) O3 fT 1 (s:=s) (K:=K)
  have tc:=fun (s:List VL.Obj) (K:V->List VL.Obj->Prop) (y:Nat) (hy:y<=t.length) (ad:List Nat) (Mv:ad.length=(m7 p).length) (root parts:D) (g b a:Nat)=>wJ (root:=root) (parts:=parts) (g:=g) (b:=b) (a:=a) (q:=0) oz sv (by omega) Jv.symm hl Nq hy Mv (s:=s) (K:=K) 1 3 4 (by decide)
  have iJ:=oz.len
  have uq:p.re.emit 0 []++[cc]=m7 p:=rfl
  rw[uq]at nr
  have DT:(p.ai.toNat:Int)=p.ai:=by omega
  simp only[DT]at tc
  generalize aW t (p.re.bU 0) (p.re.bU 0).length=Bs at *
  generalize (p.re.bU 0).length=n at *
  generalize m7 p=C at *
  generalize p.re.aY 0=rd at *
  generalize dp (p.re.bU 0)=pd at *
  clear AA h O3 fT oz sv c0 c1 hf uq
  cases p with
  |mk re ai aU =>
  simp only at DT
  generalize Int.toNat ai=c at *
  unfold bL at ct
  simp only[Re.ae,List.map_cons,List.map_nil,List.cons_append,List.nil_append,i64,iD,bD,bV,ao]at ct tc nr
  have w1:IntKind.i64.wrap ((t.length:Int)+1)=((t.length+1:Nat):Int):=by rw[br _ (by omega)];rfl
  have Uc:∀g,(⟨g,true,1,List.replicate C.length [V.d (.sc (.int .i64 0))]⟩:VL.Obj)=bd g (List.replicate C.length 0):=fun g=>by simp [bd,i64]
  refine an Try.func8 rfl Try.ntmps8 Try.results8 rfl 0 51539623927 (by simp) (by simp) ?_
  simp only[zX,Nat.reduceShiftRight,Nat.reduceMod,Nat.reduceLT,Nat.reduceMul,Nat.reduceSub,Int.reduceToNat,Int.reduceNeg,Int.reduceLT,Int.reduceLE,Int.reduceEq,Nat.reduceEqDiff,Nat.reduceAdd,Nat.reduceLeDiff,reduceIte,reduceCtorEq,Nat.reduceBEq,i64,bL,Re.ae,bV,iD,bD,ao]
  refine ct _ _ ?_
  simp only[zX,Nat.reduceShiftRight,Nat.reduceMod,Nat.reduceLT,Nat.reduceMul,Nat.reduceSub,Int.reduceToNat,Int.reduceNeg,Int.reduceLT,Int.reduceLE,Int.reduceEq,Nat.reduceEqDiff,Nat.reduceAdd,Nat.reduceLeDiff,reduceIte,reduceCtorEq,Nat.reduceBEq,i64,bV,iD,bD,ao,FH,List.length_cons,List.length_nil,Nat.zero_add,List.cons_append,List.nil_append,ne_eq,not_true_eq_false,List.length_map]
  refine nr _ _ _ _ _ _ rfl rfl (fun b a=>?_)
  simp only[zX,Nat.reduceShiftRight,Nat.reduceMod,Nat.reduceLT,Nat.reduceMul,Nat.reduceSub,Int.reduceToNat,Int.reduceNeg,Int.reduceLT,Int.reduceLE,Int.reduceEq,Nat.reduceEqDiff,Nat.reduceAdd,Nat.reduceLeDiff,reduceIte,reduceCtorEq,Nat.reduceBEq,i64,bV,iD,bD,List.length_cons,List.length_nil,List.length_map,ao,Nat.zero_add,Nat.reduceAdd,List.cons_append,List.nil_append,w1]
  refine⟨⟨Int.le_refl _,by omega,by omega⟩,?_⟩
  refine ay (fun m e s=>∃(i gg:Nat) (ad:List Nat),m=t.length+1-i/\i<=t.length+1/\ad.length=C.length/\e 2=.rf 0 0 0 0/\e 6=.rf 1 0 0 0/\e 8=.so 3 C.length 0 C.length/\e 9=.so 4 0 0 C.length/\e 10=.so 5 gg 0 (fX t Bs C c i).length/\e 34=i64 ((t.length+1:Nat):Int)/\e 35=i64 i /\
    s=[⟨0,true,10,[[i64 re.op,.d (.sl (re.set.map aV)),.d (.sl (re.kids.map Re.cells)),i64 re.mn,i64 re.mx,i64 re.mode,i64 re.n,bV re.neg,i64 ai,bV aU]]⟩,FH t rd pd 2 n,ez 0 Bs,Nm 1 C.length b a C,bd 0 ad,JW gg (fX t Bs C c i)])
   ⟨_,_,_,.JV (mA 10 3 rfl),0,0,List.replicate C.length 0,rfl,by omega,by simp,rfl,rfl,rfl,rfl,rfl,rfl,rfl,by rw[<- Uc];rfl⟩ ?_
  rintro m e s ⟨i,gg,ad,rfl,hi,Mv,h2,h6,h8,h9,dC,Oe,vX,rfl⟩
  have vO:=FT t Bs C c i
  rcases Nat.lt_or_ge i (t.length+1) with az|ib
  ·have aK:(i:Int)<((t.length+1:Nat):Int):=by omega
   have F4:=Ei t Bs C c i
   have PW:=Ir t Bs C i c
   have WQ:=fun (s:List VL.Obj) (K:V->List VL.Obj->Prop)=>tc s K i (by omega) ad Mv
   generalize fY t Bs C i c=R at *
   obtain⟨r1,TV⟩:=R
   simp only at F4 PW WQ
   simp only[zX,Nat.reduceShiftRight,Nat.reduceMod,Nat.reduceLT,Nat.reduceMul,Nat.reduceSub,Int.reduceToNat,Int.reduceNeg,Int.reduceLT,Int.reduceLE,Int.reduceEq,Nat.reduceEqDiff,Nat.reduceAdd,Nat.reduceLeDiff,reduceIte,reduceCtorEq,Nat.reduceBEq,i64,bV,iD,bD,h2,h6,h8,h9,dC,Oe,vX,aK]
   refine WQ _ _ _ _ _ _ _ rfl rfl rfl rfl ?_
   simp only[List.set_cons_succ,List.set_cons_zero]
   have g1:∀g l,(JW g l).g=g:=fun _ _=>rfl
   have g2:∀g l,(JW g l).sz=3:=fun _ _=>rfl
   cases r1 with
   |none =>
    have he:fX t Bs C c (i+1)=fX t Bs C c i:=by rw[F4];simp
    simp only[zX,Nat.reduceShiftRight,Nat.reduceMod,Nat.reduceLT,Nat.reduceMul,Nat.reduceSub,Int.reduceToNat,Int.reduceNeg,Int.reduceLT,Int.reduceLE,Int.reduceEq,Nat.reduceEqDiff,Nat.reduceAdd,Nat.reduceLeDiff,reduceIte,reduceCtorEq,Nat.reduceBEq,i64,bV,iD,bD,h2,h6,h8,h9,dC,Oe,vX,lQ.v,Option.isSome_none]
    refine⟨t.length+1-(i+1),_,_,by omega,bI.cut (s':=[⟨0,true,10,[[i64 re.op,.d (.sl (re.set.map aV)),.d (.sl (re.kids.map Re.cells)),i64 re.mn,i64 re.mx,i64 re.mode,i64 re.n,bV re.neg,i64 ai,bV aU]]⟩,FH t rd pd 2 n,ez 0 Bs,Nm 1 C.length b a C,bd 0 TV,JW gg (fX t Bs C c i)]) 6 (by omega) rfl ?_ [2,6,8,9,10,34,35] (by simp [bB,aL,ah,h2,h6,h8,h9,dC,Oe,vX,i64]),i+1,gg,TV,rfl,az,PW,?_,?_,?_,?_,?_,?_,?_,by rw[he];rfl⟩ <;> (try simp only[zU,Nat.reduceBEq,Nat.reduceShiftRight,Nat.reduceMod,Nat.reduceEqDiff,reduceIte])
    ·have hb:=fe 6 0 Bs
     simp only[List.all_cons,List.all_nil,Mm 6 1 _ _ _ (by omega),ll,J0,Bool.and_true]
     simp [aQ,FH,ah,i64,bV,hb]
    ·exact h2
    ·exact h6
    ·exact h8
    ·exact h9
    ·rw[he];exact dC
    ·exact Oe
    ·rw[br _ (by omega)];rfl
   |some r =>
    have he:fX t Bs C c (i+1)=fX t Bs C c i++[r]:=by rw[F4];rfl
    simp only[zX,Nat.reduceShiftRight,Nat.reduceMod,Nat.reduceLT,Nat.reduceMul,Nat.reduceSub,Int.reduceToNat,Int.reduceNeg,Int.reduceLT,Int.reduceLE,Int.reduceEq,Nat.reduceEqDiff,Nat.reduceAdd,Nat.reduceLeDiff,reduceIte,reduceCtorEq,Nat.reduceBEq,i64,bV,iD,bD,h2,h6,h8,h9,dC,Oe,vX,lQ.v,Option.isSome_some,g1,g2,Nat.zero_add]
    have Jd:(⟨gg+1,true,3,List.take (fX t Bs C c i).length (JW gg (fX t Bs C c i)).au++[[V.d (.sc (.int .i64 (Lx (some r)).s)),V.d (.sc (.int .i64 (Lx (some r)).e)),V.d (cy (Lx (some r)).c)]]⟩:VL.Obj)=JW (gg+1) (fX t Bs C c (i+1)):=by
     rw[he]
     simp [JW,VD,Lx,iD]
     rw[List.take_of_length_le (by simp)]
    refine⟨fun e he=>by rw[List.mem_singleton.1 he];rfl,⟨rfl,by simp [JW],by omega⟩,?_⟩
    refine⟨t.length+1-(i+1),_,_,by omega,bI.cut (s':=[⟨0,true,10,[[i64 re.op,.d (.sl (re.set.map aV)),.d (.sl (re.kids.map Re.cells)),i64 re.mn,i64 re.mx,i64 re.mode,i64 re.n,bV re.neg,i64 ai,bV aU]]⟩,FH t rd pd 2 n,ez 0 Bs,Nm 1 C.length b a C,bd 0 TV,JW (gg+1) (fX t Bs C c (i+1))]) 6 (by omega) ?_ ?_ [2,6,8,9,10,34,35] (by simp [bB,aL,ah,h2,h6,h8,h9,dC,Oe,vX,i64]),i+1,gg+1,TV,rfl,az,PW,?_,?_,?_,?_,?_,?_,?_,rfl⟩ <;> (try simp only[zU,Nat.reduceBEq,Nat.reduceShiftRight,Nat.reduceMod,Nat.reduceEqDiff,reduceIte])
    ·rw[<- Jd];rfl
    ·have hb:=fe 6 0 Bs
     simp only[List.all_cons,List.all_nil,Mm 6 1 _ _ _ (by omega),ll,J0,Bool.and_true]
     simp [aQ,FH,ah,i64,bV,hb]
    ·exact h2
    ·exact h6
    ·exact h8
    ·exact h9
    ·rw[he,List.length_append];rfl
    ·exact Oe
    ·rw[br _ (by omega)];rfl
  ·have eQ:i=t.length+1:=by omega
   subst eQ
   simp only[zX,Nat.reduceShiftRight,Nat.reduceMod,Nat.reduceLT,Nat.reduceMul,Nat.reduceSub,Int.reduceToNat,Int.reduceNeg,Int.reduceLT,Int.reduceLE,Int.reduceEq,Nat.reduceEqDiff,Nat.reduceAdd,Nat.reduceLeDiff,reduceIte,reduceCtorEq,Nat.reduceBEq,i64,bV,iD,bD,h2,h6,h8,h9,dC,Oe,vX,Int.lt_irrefl,JW]
   rw[if_pos (by simp),kK 7 0 _ _ _ (by simp)]
   rfl
 ·have AA:Bu p t=[]:=if_pos h
  rw[AA]
  have he:=vg p t hf h hl
  generalize dE p t=se at *
  clear hf AA
  cases p with
  |mk re ai aU =>
  unfold bL at he
  simp only[Re.ae,List.map_cons,List.map_nil,List.cons_append,List.nil_append,i64,iD,bD,bV,ao]at he
  refine an Try.func8 rfl Try.ntmps8 Try.results8 rfl 0 51539623927 (by simp) (by simp) ?_
  simp only[zX,Nat.reduceShiftRight,Nat.reduceMod,Nat.reduceLT,Nat.reduceMul,Nat.reduceSub,Int.reduceToNat,Int.reduceNeg,Int.reduceLT,Int.reduceLE,Int.reduceEq,Nat.reduceEqDiff,Nat.reduceAdd,Nat.reduceLeDiff,reduceIte,reduceCtorEq,Nat.reduceBEq,i64,bL,Re.ae,bV,iD,bD,ao]
  refine al he rfl rfl ?_
  simp only[zX,Nat.reduceShiftRight,Nat.reduceMod,Nat.reduceLT,Nat.reduceMul,Nat.reduceSub,Int.reduceToNat,Int.reduceNeg,Int.reduceLT,Int.reduceLE,Int.reduceEq,Nat.reduceEqDiff,Nat.reduceAdd,Nat.reduceLeDiff,reduceIte,reduceCtorEq,Nat.reduceBEq,i64,bV,iD,bD,ao,ne_eq,h,not_false_eq_true]
  all_goals rfl
def NF (x:Int):Re:=.mk 1 [(x,x)] [] 0 0 0 0 false
def y5:jl:=⟨.mk 2 [] [NF 97,.mk 7 [] [NF 98] 0 0 0 0 false] 0 0 0 0 false,0,false⟩
def D8:jl:=⟨.mk 2 [] [.mk 8 [] [NF 97] 0 0 0 0 true,NF 98] 0 0 0 0 false,0,false⟩
set_option maxRecDepth 100000
set_option maxHeartbeats 4000000
theorem VQ:dE y5 [97,98,97,97]=0:=by decide +kernel
theorem Su:dE D8 [97,98]=0:=by decide +kernel
theorem Vr:py y5 [97,98,97,97]=[[false,true,false,false,false]]:=by decide +kernel
theorem U6:py D8 [97,98]=[[true,false,true]]:=by decide +kernel
theorem UB:Fq y5 [97,98,97,97] 0=0:=by decide +kernel
theorem uW {α:Type}{a b:List α}{i:Nat}{x y:α} (ha:a[i]?=some x) (hb:b[i]?=some y):a.take (i+1)=b.take (i+1) ↔ a.take i=b.take i/\x=y:=by
 rw[bt ha,bt hb]
 constructor
 ·intro h
  have hl:(a.take i).length=(b.take i).length:=by
   have:=(List.getElem?_eq_some_iff.1 ha).1
   have:=(List.getElem?_eq_some_iff.1 hb).1
   rw[List.length_take,List.length_take];omega
  obtain⟨h1,h2⟩:=List.append_inj h hl
  exact⟨h1,by simpa using h2⟩
 ·rintro ⟨h1,rfl⟩
  rw[h1]
def lD (l:List (List Bool)):D:=.sl (l.map fun l=>[.sl (l.map fun b=>[bD b])])
theorem w8 (a b:List (List Bool)) (h1:a.length<=1000000) (h2:∀x∈a,x.length<=1000000):ba Try.prog 32 [.d (lD a),.d (lD b)] (bV (decide (a=b))):=by
 refine an Try.func32 rfl Try.ntmps32 Try.results32 rfl 0 115 (by simp) (by simp) ?_
 by_cases hl:a.length=b.length
 ·have zq:((a.length:Int)=(b.length:Int))=True:=eq_true (by omega)
  simp only[zX,Nat.reduceShiftRight,Nat.reduceMod,Nat.reduceLT,Nat.reduceMul,Nat.reduceSub,Int.reduceToNat,Int.reduceNeg,Int.reduceLT,Int.reduceLE,Int.reduceEq,Nat.reduceEqDiff,Nat.reduceAdd,Nat.reduceLeDiff,reduceIte,reduceCtorEq,Nat.reduceBEq,i64,bV,iD,bD,lD,List.length_map,zq,ne_eq,not_true_eq_false]
  refine ay (fun n e s=>∃i:Nat,n=a.length-i/\i<=a.length/\e 0=.d (lD a)/\e 1=.d (lD b)/\e 5=i64 i/\a.take i=b.take i/\s=[])
   ⟨_,_,_,bI.refl,0,rfl,by omega,rfl,rfl,rfl,by simp,rfl⟩ ?_
  rintro n e s ⟨i,rfl,hi,q0,q1,q5,hT,rfl⟩
  rcases Nat.lt_or_ge i a.length with az|ib
  ·have aK:(i:Int)<(a.length:Int):=by omega
   have IG:(i:Int)<(b.length:Int):=by omega
   have hi0:(0:Int)<=(i:Int):=by omega
   obtain⟨x,hx⟩:∃x,a[i]?=some x:=⟨_,List.getElem?_eq_getElem az⟩
   obtain⟨y,hy⟩:∃y,b[i]?=some y:=⟨_,List.getElem?_eq_getElem (by omega)⟩
   have S9:=h2 x (List.mem_of_getElem? hx)
   simp only[lD]at q0 q1
   by_cases Pq:x.length=y.length
   ·have Qj:((x.length:Int)=(y.length:Int))=True:=eq_true (by omega)
    simp only[zX,Nat.reduceShiftRight,Nat.reduceMod,Nat.reduceLT,Nat.reduceMul,Nat.reduceSub,Int.reduceToNat,Int.reduceNeg,Int.reduceLT,Int.reduceLE,Int.reduceEq,Nat.reduceEqDiff,Nat.reduceAdd,Nat.reduceLeDiff,reduceIte,reduceCtorEq,Nat.reduceBEq,i64,bV,iD,bD,lD,q0,q1,q5,aK,IG,hi0,List.length_map,List.getElem?_map,hx,hy,Option.map_some,Int.toNat_natCast]
    refine ar mix [] [] (by rfl) ?_
    simp only[zX,Nat.reduceShiftRight,Nat.reduceMod,Nat.reduceLT,Nat.reduceMul,Nat.reduceSub,Int.reduceToNat,Int.reduceNeg,Int.reduceLT,Int.reduceLE,Int.reduceEq,Nat.reduceEqDiff,Nat.reduceAdd,Nat.reduceLeDiff,reduceIte,reduceCtorEq,Nat.reduceBEq,i64,bV,iD,bD,lD,q0,q1,q5,aK,IG,hi0,List.length_map,List.getElem?_map,hx,hy,Option.map_some,Int.toNat_natCast,Qj,ne_eq,not_true_eq_false]
    refine ay (fun n e s=>∃j:Nat,n=x.length-j/\j<=x.length/\e 0=.d (lD a)/\e 1=.d (lD b)/\e 5=i64 i/\e 6=i64 j/\x.take j=y.take j/\s=[])
     ⟨_,_,_,bI.refl,0,rfl,by omega,by (try simp only[zU,Nat.reduceBEq,Nat.reduceShiftRight,Nat.reduceMod,Nat.reduceEqDiff,reduceIte]);exact q0,by (try simp only[zU,Nat.reduceBEq,Nat.reduceShiftRight,Nat.reduceMod,Nat.reduceEqDiff,reduceIte]);exact q1,by (try simp only[zU,Nat.reduceBEq,Nat.reduceShiftRight,Nat.reduceMod,Nat.reduceEqDiff,reduceIte]);exact q5,rfl,by simp,rfl⟩ ?_
    clear q0 q1 q5
    rintro n e s ⟨j,rfl,hj,q0,q1,q5,q6,VE,rfl⟩
    simp only[lD]at q0 q1
    rcases Nat.lt_or_ge j x.length with Ws|Zw
    ·have L3:(j:Int)<(x.length:Int):=by omega
     have U7:(j:Int)<(y.length:Int):=by omega
     have Mu:(0:Int)<=(j:Int):=by omega
     obtain⟨u,hu⟩:∃u,x[j]?=some u:=⟨_,List.getElem?_eq_getElem Ws⟩
     obtain⟨v,hv⟩:∃v,y[j]?=some v:=⟨_,List.getElem?_eq_getElem (by omega)⟩
     have nL:∀{z:List Bool}{w:Bool},z[j]?=some w->(z.map fun b=>[D.sc (Value.bool b)])[j]?=some [D.sc (Value.bool w)]:=fun h=>by rw[List.getElem?_map,h];rfl
     have F4:=uW hu hv
     have hw:IntKind.i64.wrap ((j:Int)+1)=((j+1:Nat):Int):=by rw[br _ (by omega)];rfl
     simp only[zX,Nat.reduceShiftRight,Nat.reduceMod,Nat.reduceLT,Nat.reduceMul,Nat.reduceSub,Int.reduceToNat,Int.reduceNeg,Int.reduceLT,Int.reduceLE,Int.reduceEq,Nat.reduceEqDiff,Nat.reduceAdd,Nat.reduceLeDiff,reduceIte,reduceCtorEq,Nat.reduceBEq,i64,bV,iD,bD,lD,q0,q1,q5,q6,aK,IG,hi0,L3,U7,Mu,List.length_map,List.getElem?_map,hx,hy,hu,hv,Option.map_some,Int.toNat_natCast]
     refine ar mix [] [] (by rfl) ?_
     by_cases NA:u=v
     ·have U5:(u == v)=true:=by rw[NA];exact beq_self_eq_true v
      simp only[zX,Nat.reduceShiftRight,Nat.reduceMod,Nat.reduceLT,Nat.reduceMul,Nat.reduceSub,Int.reduceToNat,Int.reduceNeg,Int.reduceLT,Int.reduceLE,Int.reduceEq,Nat.reduceEqDiff,Nat.reduceAdd,Nat.reduceLeDiff,reduceIte,reduceCtorEq,Nat.reduceBEq,i64,bV,iD,bD,lD,q0,q1,q5,q6,aK,IG,hi0,L3,U7,Mu,List.length_map,List.getElem?_map,hx,hy,hu,hv,Option.map_some,Int.toNat_natCast,hw,U5,ne_eq,not_true_eq_false,not_false_eq_true]
      refine⟨x.length-(j+1),_,_,by omega,bI.refl,j+1,rfl,Ws,?_,?_,?_,?_,F4.2 ⟨VE,NA⟩,rfl⟩ <;> (try simp only[zU,Nat.reduceBEq,Nat.reduceShiftRight,Nat.reduceMod,Nat.reduceEqDiff,reduceIte])
      ·exact q0
      ·exact q1
      ·exact q5
     ·have U5:(u == v)=false:=by cases u <;> cases v <;> first|rfl|exact absurd rfl NA
      have eF:a≠b:=fun h=>NA (by rw[h,hy]at hx;cases hx;rw[hu]at hv;cases hv;rfl)
      simp only[zX,Nat.reduceShiftRight,Nat.reduceMod,Nat.reduceLT,Nat.reduceMul,Nat.reduceSub,Int.reduceToNat,Int.reduceNeg,Int.reduceLT,Int.reduceLE,Int.reduceEq,Nat.reduceEqDiff,Nat.reduceAdd,Nat.reduceLeDiff,reduceIte,reduceCtorEq,Nat.reduceBEq,i64,bV,iD,bD,lD,q0,q1,q5,q6,aK,IG,hi0,L3,U7,Mu,List.length_map,List.getElem?_map,hx,hy,hu,hv,Option.map_some,Int.toNat_natCast,hw,U5,ne_eq,not_true_eq_false,not_false_eq_true,decide_eq_false eF]
    ·have Lb:j=x.length:=by omega
     subst Lb
     have L3:¬(x.length:Int)<(x.length:Int):=by omega
     simp only[zX,Nat.reduceShiftRight,Nat.reduceMod,Nat.reduceLT,Nat.reduceMul,Nat.reduceSub,Int.reduceToNat,Int.reduceNeg,Int.reduceLT,Int.reduceLE,Int.reduceEq,Nat.reduceEqDiff,Nat.reduceAdd,Nat.reduceLeDiff,reduceIte,reduceCtorEq,Nat.reduceBEq,i64,bV,iD,bD,lD,q0,q1,q5,q6,aK,IG,hi0,L3,List.length_map,List.getElem?_map,hx,hy,Option.map_some,Int.toNat_natCast]
     have YN:x=y:=by
      rw[List.take_length,Pq,List.take_length]at VE
      exact VE
     have hw:IntKind.i64.wrap ((i:Int)+1)=((i+1:Nat):Int):=by rw[br _ (by omega)];rfl
     refine⟨a.length-(i+1),_,_,by omega,bI.refl,i+1,rfl,az,?_,?_,?_,(uW hx hy).2 ⟨hT,YN⟩,rfl⟩ <;> (try simp only[zU,Nat.reduceBEq,Nat.reduceShiftRight,Nat.reduceMod,Nat.reduceEqDiff,reduceIte])
     ·exact q0
     ·exact q1
     ·rw[hw]
   ·have Qj:¬((x.length:Int)=(y.length:Int)):=by omega
    have eF:a≠b:=fun h=>Pq (by rw[h,hy]at hx;cases hx;rfl)
    simp only[zX,Nat.reduceShiftRight,Nat.reduceMod,Nat.reduceLT,Nat.reduceMul,Nat.reduceSub,Int.reduceToNat,Int.reduceNeg,Int.reduceLT,Int.reduceLE,Int.reduceEq,Nat.reduceEqDiff,Nat.reduceAdd,Nat.reduceLeDiff,reduceIte,reduceCtorEq,Nat.reduceBEq,i64,bV,iD,bD,lD,q0,q1,q5,aK,IG,hi0,List.length_map,List.getElem?_map,hx,hy,Option.map_some,Int.toNat_natCast]
    refine ar mix [] [] (by rfl) ?_
    simp only[zX,Nat.reduceShiftRight,Nat.reduceMod,Nat.reduceLT,Nat.reduceMul,Nat.reduceSub,Int.reduceToNat,Int.reduceNeg,Int.reduceLT,Int.reduceLE,Int.reduceEq,Nat.reduceEqDiff,Nat.reduceAdd,Nat.reduceLeDiff,reduceIte,reduceCtorEq,Nat.reduceBEq,i64,bV,iD,bD,lD,q0,q1,q5,aK,IG,hi0,List.length_map,List.getElem?_map,hx,hy,Option.map_some,Int.toNat_natCast,Qj,ne_eq,not_false_eq_true,decide_eq_false eF]
  ·have eQ:i=a.length:=by omega
   subst eQ
   have aK:¬(a.length:Int)<(a.length:Int):=by omega
   have Sg:a=b:=by
    rw[List.take_length,hl,List.take_length]at hT
    exact hT
   simp only[lD]at q0 q1
   simp only[zX,Nat.reduceShiftRight,Nat.reduceMod,Nat.reduceLT,Nat.reduceMul,Nat.reduceSub,Int.reduceToNat,Int.reduceNeg,Int.reduceLT,Int.reduceLE,Int.reduceEq,Nat.reduceEqDiff,Nat.reduceAdd,Nat.reduceLeDiff,reduceIte,reduceCtorEq,Nat.reduceBEq,i64,bV,iD,bD,lD,q0,q1,q5,aK,List.length_map,decide_eq_true Sg]
 ·have zq:¬((a.length:Int)=(b.length:Int)):=by omega
  have eF:a≠b:=fun h=>hl (by rw[h])
  simp only[zX,Nat.reduceShiftRight,Nat.reduceMod,Nat.reduceLT,Nat.reduceMul,Nat.reduceSub,Int.reduceToNat,Int.reduceNeg,Int.reduceLT,Int.reduceLE,Int.reduceEq,Nat.reduceEqDiff,Nat.reduceAdd,Nat.reduceLeDiff,reduceIte,reduceCtorEq,Nat.reduceBEq,i64,bV,iD,bD,lD,List.length_map,zq,ne_eq,not_false_eq_true,decide_eq_false eF]
set_option maxRecDepth 100000
set_option maxHeartbeats 16000000
theorem Um:Bu D8 [97,98]=[]:=by decide +kernel
theorem RF:(Cw y5 [97,98,97,97] 0).isSome=true/\(Lx (Cw y5 [97,98,97,97] 0)).e=1:=by decide +kernel
theorem Np:y5.re.dG=true/\D8.re.dG=true:=by decide +kernel
theorem eM {P:Program}{f:FuncId}{args:List V} (cargs:List V) {s:List VL.Obj}{K:V->List VL.Obj->Prop} (hc:bh.go s.length s args=some cargs) (h:aq P f cargs s K):aq P f args s K:=bA [] hc h
theorem IA:ba Try.prog 15 [] (bV true):=by
 have b1:=nQ y5 [97,98,97,97] Np.1 (by decide)
 have b2:=NV y5 [97,98,97,97] 0 Np.1 (by decide)
 have b3:=nQ D8 [97,98] Np.2 (by decide)
 have b4:=Is D8 [97,98] Np.2 (by decide)
 rw[VQ,Vr]at b1
 rw[UB,RF.1]at b2
 rw[Su,U6]at b3
 rw[Su,Um]at b4
 have hm:=RF.2
 generalize Lx (Cw y5 [97,98,97,97] 0)=m at *
 have s1:=w8 [[false,true,false,false,false]] [[false,true,false,false,false]] (by decide) (by decide)
 have s2:=w8 [[true,false,true]] [[true,false,true]] (by decide) (by decide)
 rw[decide_eq_true rfl]at s1 s2
 refine an Try.func15 rfl Try.ntmps15 Try.results15 rfl 0 16383 (by simp) (by simp) ?_
 simp only[zX,Nat.reduceShiftRight,Nat.reduceMod,Nat.reduceLT,Nat.reduceMul,Nat.reduceSub,Int.reduceToNat,Int.reduceNeg,Int.reduceLT,Int.reduceLE,Int.reduceEq,Nat.reduceEqDiff,Nat.reduceAdd,Nat.reduceLeDiff,reduceIte,reduceCtorEq,Nat.reduceBEq,i64,bV,iD,bD,ao]
 refine eM [bL y5,.d (ao [97,98,97,97])] rfl ?_
 refine al b1 rfl rfl ?_
 simp only[zX,Nat.reduceShiftRight,Nat.reduceMod,Nat.reduceLT,Nat.reduceMul,Nat.reduceSub,Int.reduceToNat,Int.reduceNeg,Int.reduceLT,Int.reduceLE,Int.reduceEq,Nat.reduceEqDiff,Nat.reduceAdd,Nat.reduceLeDiff,reduceIte,reduceCtorEq,Nat.reduceBEq,i64,bV,iD,bD,ao,gK]
 refine eM [bL y5,.d (ao [97,98,97,97]),i64 0] rfl ?_
 refine al b2 rfl rfl ?_
 simp only[zX,Nat.reduceShiftRight,Nat.reduceMod,Nat.reduceLT,Nat.reduceMul,Nat.reduceSub,Int.reduceToNat,Int.reduceNeg,Int.reduceLT,Int.reduceLE,Int.reduceEq,Nat.reduceEqDiff,Nat.reduceAdd,Nat.reduceLeDiff,reduceIte,reduceCtorEq,Nat.reduceBEq,i64,bV,iD,bD,ao,gK,lQ.v]
 refine eM [bL D8,.d (ao [97,98])] rfl ?_
 refine al b3 rfl rfl ?_
 simp only[zX,Nat.reduceShiftRight,Nat.reduceMod,Nat.reduceLT,Nat.reduceMul,Nat.reduceSub,Int.reduceToNat,Int.reduceNeg,Int.reduceLT,Int.reduceLE,Int.reduceEq,Nat.reduceEqDiff,Nat.reduceAdd,Nat.reduceLeDiff,reduceIte,reduceCtorEq,Nat.reduceBEq,i64,bV,iD,bD,ao,gK]
 refine eM [bL D8,.d (ao [97,98])] rfl ?_
 refine al b4 rfl rfl ?_
 have VB:(((0:Nat):Int)=0)=True:=eq_true rfl
 simp only[zX,Nat.reduceShiftRight,Nat.reduceMod,Nat.reduceLT,Nat.reduceMul,Nat.reduceSub,Int.reduceToNat,Int.reduceNeg,Int.reduceLT,Int.reduceLE,Int.reduceEq,Nat.reduceEqDiff,Nat.reduceAdd,Nat.reduceLeDiff,reduceIte,reduceCtorEq,Nat.reduceBEq,i64,bV,iD,bD,ao,gK,hm,VB]
 refine eM [.d (lD [[false,true,false,false,false]]),.d (lD [[false,true,false,false,false]])] rfl ?_
 refine al s1 rfl rfl ?_
 simp only[zX,Nat.reduceShiftRight,Nat.reduceMod,Nat.reduceLT,Nat.reduceMul,Nat.reduceSub,Int.reduceToNat,Int.reduceNeg,Int.reduceLT,Int.reduceLE,Int.reduceEq,Nat.reduceEqDiff,Nat.reduceAdd,Nat.reduceLeDiff,reduceIte,reduceCtorEq,Nat.reduceBEq,i64,bV,iD,bD,ao,gK,hm,VB]
 refine eM [.d (lD [[true,false,true]]),.d (lD [[true,false,true]])] rfl ?_
 refine al s2 rfl rfl ?_
 simp only[zX,Nat.reduceShiftRight,Nat.reduceMod,Nat.reduceLT,Nat.reduceMul,Nat.reduceSub,Int.reduceToNat,Int.reduceNeg,Int.reduceLT,Int.reduceLE,Int.reduceEq,Nat.reduceEqDiff,Nat.reduceAdd,Nat.reduceLeDiff,reduceIte,reduceCtorEq,Nat.reduceBEq,i64,bV,iD,bD,ao,gK,hm,VB]
section
variable {t t':List Int}{Bs u6:List (List Bool)}{C:List av}
theorem Dm {p p':Nat}{Lt:List Bool} (h:∀n,(db C n).pass t Bs p=(db C n).pass t' u6 p'):∀(k n:Nat) (st:HI),bn t Bs C p Lt k n st=bn t' u6 C p' Lt k n st
 |0,_,_=>rfl
 |k+1,n,st=>by
  have ih:=Dm (Lt:=Lt) h k
  rw[bn,bn]
  simp only[h,ih]
theorem wV {p p':Nat}{Lt:List Bool} (h:∀n,(db C n).pass t Bs p=(db C n).pass t' u6 p'):∀n,c9 t Bs C p Lt n=c9 t' u6 C p' Lt n
 |0=>by simp [c9]
 |n+1=>by rw[ko,ko,wV h n,Dm h]
theorem sf {m:Nat} (h:∀i,i<m->∀n,(db C n).pass t Bs (t.length-i)=(db C n).pass t' u6 (t'.length-i)):∀i,i<=m->eP t Bs C i=eP t' u6 C i
 |0,_=>rfl
 |i+1,hi=>by
  rw[eP,eP,sf h i (by omega),wV (h i (by omega))]
theorem CH {i i':Nat} (hi:i<=t.length) (hi':i'<=t'.length) (hl:t.length-i=t'.length-i') (h:∀j,j<=t.length-i->∀n,(db C n).pass t Bs (t.length-j)=(db C n).pass t' u6 (t'.length-j)):(eI t Bs C)[i]?=(eI t' u6 C)[i']?:=by
 have h1:=sf (m:=t.length-i+1) (fun j hj=>h j (by omega)) (t.length-i+1) (Nat.le_refl _)
 unfold eI
 rw[List.getElem?_map,List.getElem?_map,List.getElem?_range (by omega),List.getElem?_range (by omega)]
 simp only[Option.map_some]
 rw[h1,hl]
structure BR (m:Nat) (a b:tU):Prop where
 ad:a.ad=b.ad
 rd:a.rd=b.rd
 gn:a.gn=b.gn
 ho:∀j,j<m->a.ho[j]?=b.ho[j]?
 la:m<=a.ho.length
 lb:m<=b.ho.length
structure BW (m:Nat) (a b:tU):Prop where
 ad:a.ad=b.ad
 ho:∀j,j<m->a.ho[j]?=b.ho[j]?
 la:m<=a.ho.length
 lb:m<=b.ho.length
theorem Fl {a b:List Bool}{m p:Nat} (hp:p<m) (la:m<=a.length) (lb:m<=b.length) (h:∀j,j<m->a[j]?=b[j]?):∀j,j<m->(a.set p true)[j]?=(b.set p true)[j]?:=by
 intro j hj
 by_cases UP:p=j
 ·subst UP;rw[List.getElem?_set_self (by omega),List.getElem?_set_self (by omega)]
 ·rw[List.getElem?_set_ne UP,List.getElem?_set_ne UP];exact h j hj
theorem BR.add {m p:Nat} (CI:∀n,(db C n).pass t Bs p=(db C n).pass t' u6 p) (hp:p<m):∀(k n:Nat) (a b:tU),BR m a b->BR m (fE t Bs C p k n a) (fE t' u6 C p k n b)
 |0,_,_,_,h=>h
 |k+1,n,a,b,h=>by
  have ih:=BR.add CI hp k
  rw[fE,fE,<- h.ad]
  by_cases c:a.ad[n]?=none\/a.ad[n]?=some (p+1)
  ·rw[if_pos c,if_pos c];exact h
  rw[if_neg c,if_neg c]
  have key:BR m ⟨a.ad.set n (p+1),a.ho,a.rd,a.gn⟩ ⟨a.ad.set n (p+1),b.ho,b.rd,b.gn⟩:=⟨rfl,h.rd,h.gn,h.ho,h.la,h.lb⟩
  simp only[CI]
  by_cases o0:(db C n).op=0
  ·rw[if_pos o0,if_pos o0]
   exact⟨rfl,h.rd,h.gn,Fl hp h.la h.lb h.ho,by simp [h.la],by simp [h.lb]⟩
  rw[if_neg o0,if_neg o0]
  by_cases o1:(db C n).op=1
  ·rw[if_pos o1,if_pos o1]
   by_cases cp:(db C n).pass t' u6 p=true
   ·rw[if_pos cp,if_pos cp]
    exact⟨rfl,by simp only[h.rd],by simp only[h.gn],h.ho,h.la,h.lb⟩
   ·rw[if_neg cp,if_neg cp];exact key
  rw[if_neg o1,if_neg o1]
  by_cases o2:(db C n).op=2
  ·rw[if_pos o2,if_pos o2];exact ih _ _ _ (ih _ _ _ key)
  rw[if_neg o2,if_neg o2]
  by_cases o3:(db C n).op=3
  ·rw[if_pos o3,if_pos o3];exact ih _ _ _ key
  rw[if_neg o3,if_neg o3]
  by_cases o4:(db C n).op=4
  ·rw[if_pos o4,if_pos o4];exact ih _ _ _ key
  rw[if_neg o4,if_neg o4]
  by_cases o5:(db C n).op=5
  ·rw[if_pos o5,if_pos o5]
   by_cases cp:(db C n).pass t' u6 p=true
   ·rw[if_pos cp,if_pos cp];exact ih _ _ _ key
   ·rw[if_neg cp,if_neg cp];exact key
  rw[if_neg o5,if_neg o5];exact key
theorem BW.add {m p:Nat} (hN:∀n,(db C n).op≠5) (hp:p<m):∀(k n:Nat) (a b:tU),BW m a b->BW m (fE t Bs C p k n a) (fE t' u6 C p k n b)
 |0,_,_,_,h=>h
 |k+1,n,a,b,h=>by
  have ih:=BW.add hN hp k
  rw[fE,fE,<- h.ad]
  by_cases c:a.ad[n]?=none\/a.ad[n]?=some (p+1)
  ·rw[if_pos c,if_pos c];exact h
  rw[if_neg c,if_neg c]
  have key:BW m ⟨a.ad.set n (p+1),a.ho,a.rd,a.gn⟩ ⟨a.ad.set n (p+1),b.ho,b.rd,b.gn⟩:=⟨rfl,h.ho,h.la,h.lb⟩
  simp only
  by_cases o0:(db C n).op=0
  ·rw[if_pos o0,if_pos o0]
   exact⟨rfl,Fl hp h.la h.lb h.ho,by simp [h.la],by simp [h.lb]⟩
  rw[if_neg o0,if_neg o0]
  by_cases o1:(db C n).op=1
  ·rw[if_pos o1,if_pos o1]
   by_cases cp:(db C n).pass t Bs p=true
   ·rw[if_pos cp]
    by_cases cq:(db C n).pass t' u6 p=true
    ·rw[if_pos cq];exact⟨rfl,h.ho,h.la,h.lb⟩
    ·rw[if_neg cq];exact⟨rfl,h.ho,h.la,h.lb⟩
   ·rw[if_neg cp]
    by_cases cq:(db C n).pass t' u6 p=true
    ·rw[if_pos cq];exact⟨rfl,h.ho,h.la,h.lb⟩
    ·rw[if_neg cq];exact⟨rfl,h.ho,h.la,h.lb⟩
  rw[if_neg o1,if_neg o1]
  by_cases o2:(db C n).op=2
  ·rw[if_pos o2,if_pos o2];exact ih _ _ _ (ih _ _ _ key)
  rw[if_neg o2,if_neg o2]
  by_cases o3:(db C n).op=3
  ·rw[if_pos o3,if_pos o3];exact ih _ _ _ key
  rw[if_neg o3,if_neg o3]
  by_cases o4:(db C n).op=4
  ·rw[if_pos o4,if_pos o4];exact ih _ _ _ key
  rw[if_neg o4,if_neg o4]
  rw[if_neg (hN n),if_neg (hN n)];exact key
theorem B5 {p j:Nat} (hj:j≠p):∀(k n:Nat) (a:tU),(fE t Bs C p k n a).ho[j]?=a.ho[j]?
 |0,_,_=>rfl
 |k+1,n,a=>by
  have ih:=B5 hj k
  rw[fE]
  split
  ·rfl
  simp only
  split
  ·exact List.getElem?_set_ne (Ne.symm hj)
  split
  ·split <;> rfl
  split
  ·rw[ih,ih]
  split
  ·rw[ih]
  split
  ·rw[ih]
  split
  ·split
   ·rw[ih]
   ·rfl
  ·rfl
theorem yw {p j:Nat} (hj:j≠p):∀(l:List Nat) (a:tU),(eW t Bs C p l a).ho[j]?=a.ho[j]?
 |[],_=>rfl
 |n::l,a=>by
  have h1:=yw hj l (fE t Bs C p (C.length+1) (n+1) a)
  rw[B5 hj]at h1
  exact h1
theorem BR.EX {m p:Nat} (CI:∀n,(db C n).pass t Bs p=(db C n).pass t' u6 p) (hp:p<m):∀(l:List Nat) (a b:tU),BR m a b->BR m (eW t Bs C p l a) (eW t' u6 C p l b)
 |[],_,_,h=>h
 |n::l,a,b,h=>BR.EX CI hp l _ _ (h.add CI hp _ _ _ _)
theorem BW.EX {m p:Nat} (hN:∀n,(db C n).op≠5) (hp:p<m):∀(l:List Nat) (a b:tU),BW m a b->BW m (eW t Bs C p l a) (eW t' u6 C p l b)
 |[],_,_,h=>h
 |n::l,a,b,h=>BW.EX hN hp l _ _ (h.add hN hp _ _ _ _)
theorem wL {cut:Nat} (hc:cut<=t.length) (HS:cut<=t'.length) (h:∀p,p<cut->∀n,(db C n).pass t Bs p=(db C n).pass t' u6 p):∀i,i<=cut->BR (cut+1) (bR t Bs C i).1 (bR t' u6 C i).1/\(bR t Bs C i).2=(bR t' u6 C i).2
 |0,_=>by
  refine⟨⟨rfl,rfl,rfl,fun j hj=>?_,by simp [bR];omega,by simp [bR];omega⟩,rfl⟩
  simp only[bR]
  rw[List.getElem?_replicate,List.getElem?_replicate,if_pos (by omega),if_pos (by omega)]
 |i+1,hi=>by
  obtain⟨h1,h2⟩:=wL hc HS h i (by omega)
  have hp:=h i (by omega)
  simp only[bR]
  refine⟨?_,h1.gn⟩
  rw[<- h1.rd]
  refine BR.add hp (by omega) _ _ _ _ (BR.EX hp (by omega) _ _ _ ⟨h1.ad,rfl,h2,h1.ho,h1.la,h1.lb⟩)
theorem Eu {cut:Nat} (hN:∀n,(db C n).op≠5) (hc:cut<=t.length) (HS:cut<=t'.length) (h:∀p,p<cut->∀n,(db C n).pass t Bs p=(db C n).pass t' u6 p):BW (cut+1) (bR t Bs C (cut+1)).1 (bR t' u6 C (cut+1)).1:=by
 obtain⟨h1,h2⟩:=wL hc HS h cut (Nat.le_refl _)
 simp only[bR]
 rw[<- h1.rd]
 exact BW.add hN (by omega) _ _ _ _ (BW.EX hN (by omega) _ _ _ ⟨h1.ad,h1.ho,h1.la,h1.lb⟩)
theorem vN {cut j:Nat} (hj:j<=cut):∀i,(bR t Bs C (cut+1+i)).1.ho[j]?=(bR t Bs C (cut+1)).1.ho[j]?
 |0=>rfl
 |i+1=>by
  rw[<- vN hj i,show cut+1+(i+1)=cut+1+i+1 by omega]
  simp only[bR]
  rw[B5 (by omega),yw (by omega)]
theorem Iu {cut:Nat} (hN:∀n,(db C n).op≠5) (hc:cut<=t.length) (HS:cut<=t'.length) (h:∀p,p<cut->∀n,(db C n).pass t Bs p=(db C n).pass t' u6 p) {j:Nat} (hj:j<=cut):(n9 t Bs C)[j]?=(n9 t' u6 C)[j]?:=by
 have h1:=(Eu hN hc HS h).ho j (by omega)
 have h2:=vN (t:=t) (Bs:=Bs) (C:=C) hj (t.length-cut)
 have h3:=vN (t:=t') (Bs:=u6) (C:=C) hj (t'.length-cut)
 rw[show cut+1+(t.length-cut)=t.length+1 by omega]at h2
 rw[show cut+1+(t'.length-cut)=t'.length+1 by omega]at h3
 unfold n9
 rw[h2,h3,h1]
end
end Go.Proofs.Ytfmdmlfhigocaaa
