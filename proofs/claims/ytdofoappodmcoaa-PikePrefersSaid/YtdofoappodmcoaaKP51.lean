/- A part of the proof (K10 K11). -/
import Derived.Test.YtdofoappodmcoaaKP10
import Derived.Test.YtdofoappodmcoaaKP50
import Derived.Test.YtdofoappodmcoaaKP22
set_option linter.unusedSimpArgs false
set_option linter.unusedVariables false
set_option maxRecDepth 100000
set_option maxHeartbeats 80000000
namespace Go.Proofs.Ytdofoappodmcoaa
open Go.VL Go.Proofs.Try
def opB (c:Bool) (re:Re):Bool:=decide ((re.op=0∨re.op=1∨re.op=2∨re.op=3∨re.op=4∨re.op=5∨re.op=11)∧(re.op=4→re.mode≠2∧Re.nul1 re.kids=false)∧(re.op=5→c=true))
theorem opB_comp (re:Re):re.every (opB false)=true→∀a,re.comp a=true:=by
 refine Re.ind (Q:=fun re=>re.every (opB false)=true→∀a,re.comp a=true) (fun re ih h a=>?_) re
 obtain⟨h1,h2⟩:=(Re.every_iff re).1 h
 obtain⟨q1,q2,q3⟩:=of_decide_eq_true h1
 have q5:re.op≠5:=fun h=>by have:=q3 h; cases this
 rw[Re.comp_eq,if_neg (by rintro ⟨o,hm⟩; obtain⟨x,y⟩:=q2 o; rcases hm with hm | hm; exact x hm; rw[y] at hm; cases hm),if_neg (fun h=>q5 h.1),if_neg (by omega),if_neg q5,List.all_eq_true]
 exact fun k hk=>ih k hk (h2 k hk) a
structure NoX (u:Int):Prop where
 refs:bitV .and .i64 u 1≤0
 conds:bitV .and .i64 u 2≤0
 looks:bitV .and .i64 u 4≤0
 atoms:bitV .and .i64 u 8≤0
 loops:bitV .and .i64 u 32=0
def capB (u:Int):Bool:=decide (0 < bitV .and .i64 u 64)
def TP (u S:Int) (x:Re × Mk):Prop:=x.2.uses=u∧0≤x.1.csz∧x.1.csz≤S∧x.1.every (opB (capB u))=true
theorem set_tp {u S:Int} (hS:1≤S) (m:Mk) (h:m.uses=u):TP u S m.set:=by
 refine⟨h,?_,?_,?_⟩
 ·show 0≤cszN 1 0 0 _ _; unfold cszN; omega
 ·show cszN 1 0 0 _ _≤S; unfold cszN; omega
 ·exact every_mk (decide_eq_true ⟨.inr (.inl rfl),fun h=>absurd (show (1:Int)=4 from h) (by decide),fun h=>absurd (show (1:Int)=5 from h) (by decide)⟩) (fun k hk=>by cases hk)
theorem leaf_tp {u S:Int} (hS:1≤S) (m:Mk) (h:m.uses=u):TP u S (Re.node 0 [],m):=by
 refine⟨h,?_,?_,?_⟩
 ·show 0≤cszN 0 0 0 _ _; simp [cszN,Re.cszL]; decide
 ·show cszN 0 0 0 _ _≤S; simp [cszN,Re.cszL]; omega
 ·exact every_mk (decide_eq_true ⟨.inl rfl,fun h=>absurd h (by decide),fun h=>absurd h (by decide)⟩) (fun k hk=>by cases hk)
theorem kids_tp {t:Mk→Re × Mk} {u S:Int} (ht:∀m,m.uses=u→TP u S (t m)):∀(f:Nat) (i:Int) (m:Mk),m.uses=u→(kidsFrom t f i m).2.uses=u∧0≤Re.cszL (kidsFrom t f i m).1∧Re.cszL (kidsFrom t f i m).1≤f * S∧(∀k∈(kidsFrom t f i m).1,k.every (opB (capB u))=true)
 | 0,i,m,h=>⟨h,by simp [kidsFrom,Re.cszL],by simp [kidsFrom,Re.cszL],fun k hk=>by simp [kidsFrom] at hk⟩
 | f + 1,i,m,h=>by
  simp only[kidsFrom]
  have h1:=ht (m.next 2).2 h
  obtain⟨a1,a2,a3,a4⟩:=kids_tp ht f (i + 1) (t (m.next 2).2).2 h1.1
  have hS:0≤S:=Int.le_trans h1.2.1 h1.2.2.1
  split
  ·refine⟨a1,?_,?_,fun k hk=>?_⟩
   ·simp only[Re.cszL]; have:=h1.2.1; omega
   ·simp only[Re.cszL]; have:=h1.2.2.1; push_cast; rw[Int.add_mul]; omega
   ·rcases List.mem_cons.1 hk with rfl | hk
    ·exact h1.2.2.2
    ·exact a4 k hk
  ·refine⟨h,by simp [Re.cszL],?_,fun k hk=>by cases hk⟩
   have:0≤((f + 1:Nat):Int) * S:=Int.mul_nonneg (by omega) hS
   simpa [Re.cszL] using this
theorem one_tp {t:Mk→Re × Mk} {u S:Int} {op mn mx mode n:Int} {neg:Bool} {x:Re × Mk} (h:TP u S x) (ho:op=4∨op=5) (h0:0≤mn) (h4:op=4→mode≠2∧x.1.nul=false∧0≤mn∧mn≤2∧(mx=-1∨(1≤mx∧mx≤3∧mn≤mx))) (h5:op=5→capB u=true) :
  TP u (4 * S + 6) (.mk op [] [x.1] mn mx mode n neg,x.2):=by
 obtain⟨a1,a2,a3,a4⟩:=h
 have e:(Re.mk op [] [x.1] mn mx mode n neg).csz=cszN op mn mx 1 (x.1.csz + 0):=rfl
 rw[Int.add_zero] at e
 refine⟨a1,?_,?_,?_⟩
 ·show 0≤(Re.mk op [] [x.1] mn mx mode n neg).csz
  rw[e]
  exact cszN_nonneg (by omega) a2 h0 (fun o=>by have:=h4 o; omega)
 ·show (Re.mk op [] [x.1] mn mx mode n neg).csz≤_
  rw[e]
  unfold cszN
  generalize x.1.csz=z at *
  rcases ho with rfl | rfl
  ·obtain⟨b1,b2,b3,b4,b5⟩:=h4 rfl
   have h1:(mn + 1) * z≤3 * z:=Int.mul_le_mul_of_nonneg_right (by omega) a2
   have h2:mx=-1∨mx * z≤3 * z:=by
    rcases b5 with b5 | b5
    ·exact .inl b5
    ·exact .inr (Int.mul_le_mul_of_nonneg_right (by omega) a2)
   split <;> omega
  ·omega
 ·refine every_mk (decide_eq_true ⟨?_,fun o=>?_,fun o=>h5 o⟩) (fun k hk=>by rw[List.mem_singleton.1 hk]; exact a4)
  ·show op=0∨op=1∨op=2∨op=3∨op=4∨op=5∨op=11; omega
  ·exact⟨(h4 o).1,(h4 o).2.1⟩
theorem repMode_no8 {m:Mk} (h:bitV .and .i64 m.uses 8≤0):(repMode m).1≠2∧(repMode m).2.uses=m.uses:=by
 have h8:m.has 8=false:=decide_eq_false (by omega)
 unfold repMode
 have hx:(m.next 2).2.has 8=m.has 8:=rfl
 simp only[h8,Bool.false_eq_true,if_false]
 have:=pick_range m.l m.pos 2 (by omega)
 exact⟨by simp only[Mk.next]; omega,rfl⟩
theorem rep_tp {t:Mk→Re × Mk} {u S:Int} (hu:NoX u) (hS:1≤S) (ht:∀m,m.uses=u→TP u S (t m)) (m:Mk) (h:m.uses=u):TP u (4 * S + 6) (m.rep t):=by
 have hk:=pick_range m.l m.pos 12 (by omega)
 have key:∀i:Nat,i < 12→0≤(repMins[i]?).getD 0∧(repMins[i]?).getD 0≤2∧((repMaxs[i]?).getD 0=-1∨(1≤(repMaxs[i]?).getD 0∧(repMaxs[i]?).getD 0≤3∧(repMins[i]?).getD 0≤(repMaxs[i]?).getD 0)):=by decide
 have key:=key (pick m.l m.pos 12).toNat (by omega)
 have hm:=repMode_no8 (m:=(m.next 12).2) (by show bitV .and .i64 m.uses 8≤0; rw[h]; exact hu.atoms)
 have hkid:TP u S (repKid t (repMode (m.next 12).2).2)∧(repKid t (repMode (m.next 12).2).2).1.nul=false:=by
  have h1:=ht (repMode (m.next 12).2).2 (hm.2.trans h)
  unfold repKid
  simp only
  rw[h1.1,hu.loops]
  by_cases hn:(t (repMode (m.next 12).2).2).1.nul=true
  ·rw[if_pos ⟨rfl,hn⟩]
   exact⟨set_tp hS _ h1.1,rfl⟩
  ·rw[if_neg (fun h=>hn h.2)]
   exact⟨h1,by simpa using hn⟩
 exact one_tp (t:=t) hkid.1 (.inl rfl) key.1 (fun _=>⟨hm.1,hkid.2,key.1,key.2.1,key.2.2⟩) (fun o=>absurd o (by decide))
theorem node_tp {t:Mk→Re × Mk} {u S:Int} (hu:NoX u) (hS:1≤S) (ht:∀m,m.uses=u→TP u S (t m)) (k:Int) (m:Mk) (h:m.uses=u):TP u (4 * S + 6) (Mk.node t k m):=by
 obtain⟨k1,k2,k3,k4⟩:=kids_tp ht 4 0 m h
 have k5:=(kidsFrom_gen (t:=fun m=>(Re.node 0 [],m)) (fun m=>nil_gen (by omega) (by omega) (by decide)) 4 0 m).2
 have klen:((kidsFrom t 4 0 m).1.length:Int)≤4:=by
  have:∀(f:Nat) (i:Int) (m:Mk),(kidsFrom t f i m).1.length≤f:=by
   intro f
   induction f with
   | zero=>intro i m; simp [kidsFrom]
   | succ f ih =>
    intro i m
    simp only[kidsFrom]
    split
    ·simp; exact ih _ _
    ·simp
  have:=this 4 0 m
  omega
 have kpos:1≤((kidsFrom t 4 0 m).1.length:Int):=by
  have:=kidsFrom_ne (t:=t) m
  have:=List.length_pos_iff.2 this
  omega
 have kids:∀op:Int,(op=2∨op=3)→TP u (4 * S + 6) (Re.node op (kidsFrom t 4 0 m).1,(kidsFrom t 4 0 m).2):=fun op ho=>by
  have e:(Re.node op (kidsFrom t 4 0 m).1).csz=cszN op 0 0 (kidsFrom t 4 0 m).1.length (Re.cszL (kidsFrom t 4 0 m).1):=rfl
  refine⟨k1,?_,?_,?_⟩
  ·show 0≤(Re.node op (kidsFrom t 4 0 m).1).csz
   rw[e]; unfold cszN; omega
  ·show (Re.node op (kidsFrom t 4 0 m).1).csz≤_
   rw[e]; unfold cszN
   have:((4:Nat):Int) * S=4 * S:=rfl
   omega
  ·refine every_mk (decide_eq_true ⟨?_,fun o=>?_,fun o=>?_⟩) k4
   ·show op=0∨op=1∨op=2∨op=3∨op=4∨op=5∨op=11; omega
   ·have o:op=4:=o; omega
   ·have o:op=5:=o; omega
 have big:∀x,TP u S x→TP u (4 * S + 6) x:=fun x hx=>⟨hx.1,hx.2.1,by have:=hx.2.2.1; omega,hx.2.2.2⟩
 have has:∀b,m.has b=true→¬bitV .and .i64 u b≤0:=fun b hb=>by
  have:=of_decide_eq_true hb
  rw[h] at this; omega
 have cap:m.has 64=true→TP u (4 * S + 6) (m.capture t):=fun hc=>by
  have hcb:capB u=true:=by
   have:=of_decide_eq_true hc
   rw[h] at this
   exact decide_eq_true this
  have hcu:(capNum m).2.uses=u:=by
   unfold capNum
   simp only
   split
   ·exact h
   ·split
    ·split <;> exact h
    ·exact h
  exact one_tp (t:=t) (ht _ hcu) (.inr rfl) (Int.le_refl _) (fun o=>absurd o (by decide)) (fun _=>hcb)
 unfold Mk.node
 split
 ·exact kids 2 (.inl rfl)
 split
 ·exact kids 3 (.inr rfl)
 split
 ·exact rep_tp hu hS ht m h
 split
 ·rename_i hc; exact cap hc.2
 split
 ·rename_i hc; exact cap hc.2
 split
 ·refine⟨h,?_,?_,?_⟩
  ·show 0≤cszN 11 0 0 _ _; unfold cszN; omega
  ·show cszN 11 0 0 _ _≤_; unfold cszN; omega
  ·exact every_mk (decide_eq_true ⟨by simp [Re.op],fun h=>absurd (show (11:Int)=4 from h) (by decide),fun h=>absurd (show (11:Int)=5 from h) (by decide)⟩) (fun k hk=>by cases hk)
 split
 ·rename_i hc; exact absurd hu.looks (has 4 hc.2)
 split
 ·rename_i hc; exact absurd hu.atoms (has 8 hc.2)
 split
 ·rename_i hc; exact absurd hu.refs (has 1 hc.2.1)
 split
 ·rename_i hc; exact absurd hu.conds (has 2 hc.2.1)
 ·exact big _ (set_tp hS m h)
def sD:Nat→Int
 | 0=>1
 | d + 1=>4 * sD d + 6
theorem sD_pos:∀d,1≤sD d
 | 0=>by simp [sD]
 | d + 1=>by have:=sD_pos d; simp only[sD]; omega
theorem tree_tp {u:Int} (hu:NoX u):∀(d:Nat) (m:Mk),m.uses=u→TP u (sD d) (Mk.tree d m)
 | 0,m,h=>by
  simp only[Mk.tree]
  split
  ·exact leaf_tp (sD_pos 0) _ h
  ·exact set_tp (sD_pos 0) _ h
 | d + 1,m,h=>by
  simp only[Mk.tree]
  split
  ·split
   ·exact leaf_tp (sD_pos _) _ h
   ·exact set_tp (sD_pos _) _ h
  ·exact node_tp hu (sD_pos d) (fun m=>tree_tp hu d m) _ _ h
theorem pat_tp (l:List Int) (u most:Int) (hu:NoX u):0≤(patOf l u most).re.csz∧(patOf l u most).re.csz≤4000∧(patOf l u most).re.every (opB (capB u))=true:=by
 obtain⟨_,h1,h2,h3⟩:=tree_tp hu 5 ⟨l,0,u,most,0⟩ rfl
 exact⟨h1,Int.le_trans h2 (by decide),h3⟩
structure PlainR (p:Pat) (t:List Int):Prop where
 good:∀i:Int,0≤i→i≤t.length→allE p t i (-1) 3000=0
 valid:validR p=0
 fine:p.re.fine=true
 csz0:0≤p.re.csz
 csz:p.re.csz≤4000
 len:t.length≤12
 runes:p.runes=false
theorem fits_re (p:Pat) (t:List Int) (F:Int):∀n,(fitsFrom p t F n).1=p∨(fitsFrom p t F n).1=⟨.mk 0 [] [] 0 0 0 0 false,p.caps,false⟩
 | 0=>.inr rfl
 | n + 1=>by
  rw[fitsFrom]
  split
  ·exact .inl rfl
  ·exact fits_re p t F n
theorem fits_tp (l m:List Int) (hl:∀x∈l,I64 x) (hm:∀x∈m,I64 x) (u:Int) (hu:NoX u):∃(p:Pat) (t:List Int),PureOK prog 43 [.d (intsD l),.d (intsD m),i64 u,i64 24,i64 3000] (.tu [patV p,.d (intsD t)]) ∧
  PlainR p t∧p.re.every (opB (capB u))=true:=by
 obtain⟨hv,hsz⟩:=pat_valid l u 24 hl (by omega) (by omega)
 have hsm:=pat_small l u 24 hl (by omega) (by omega)
 have hfine:(patOf l u 24).re.fine=true:=small_fine (by omega) _ hsm.ev
 have htl:(textR m 12).length≤12:=by simp [textR]; omega
 obtain⟨g1,g2,g3⟩:=fits_good (p:=patOf l u 24) (t:=textR m 12) (F:=3000) hv hfine (by omega) (by omega) ((textR m 12).length + 1) (Nat.le_refl _)
 obtain⟨s0,s1,s2⟩:=pat_tp l u 24 hu
 obtain⟨v1,v2,v3,v4,v5⟩:=validR_spec hv
 have hre:=fits_re (patOf l u 24) (textR m 12) 3000 ((textR m 12).length + 1)
 refine⟨_,_,fits_ok l m hl hm u 24 3000 (by omega) (by omega),?_,?_⟩
 ·rcases hre with h | h
  ·exact⟨g1,by rw[h]; exact hv,g2,by rw[h]; exact s0,by rw[h]; exact s1,by omega,by rw[h]; rfl⟩
  ·refine⟨g1,?_,g2,?_,?_,by omega,by rw[h]⟩
   ·rw[h]; exact empty_valid _ v3 v4
   ·rw[h]; show 0≤cszN 0 0 0 _ _; simp [cszN,Re.cszL]; decide
   ·rw[h]; show cszN 0 0 0 _ _≤4000; simp [cszN,Re.cszL]; decide
 ·rcases hre with h | h
  ·rw[h]; exact s2
  ·rw[h]
   exact every_mk (decide_eq_true ⟨.inl rfl,fun h=>absurd (show (0:Int)=4 from h) (by decide),fun h=>absurd (show (0:Int)=5 from h) (by decide)⟩) (fun k hk=>by cases hk)
theorem plain_ok (l m:List Int) (hl:∀x∈l,I64 x) (hm:∀x∈m,I64 x) (b:Bool):∃(p:Pat) (t:List Int),PureOK prog 25 [.d (intsD l),.d (intsD m),bV b] (.tu [patV p,.d (intsD t)])∧PlainR p t∧p.re.comp []=true:=by
 have fits:=fun u hu=>fits_tp l m hl hm u hu
 -- the two calls of Fits
 have two:∀u u':Int,NoX u→NoX u'→capB u'=false→IntKind.i64.wrap (u - 64)=u'→(b=false→u=64)→(b=true→bitV .or .i64 64 16=u)→∃(p:Pat) (t:List Int),PureOK prog 25 [.d (intsD l),.d (intsD m),bV b] (.tu [patV p,.d (intsD t)])∧PlainR p t∧p.re.comp []=true:=by
  intro u u' hu hu' hc' hw hb0 hb1
  obtain⟨p,t,h1,h2,h3⟩:=fits u hu
  obtain⟨p',t',h1',h2',h3'⟩:=fits u' hu'
  obtain⟨v1,v2,v3,v4,v5⟩:=validR_spec h2.valid
  have hC:=kshC_of v4 p.re v5 (by omega)
  have hcomp:=comp_ok p.re [] (every_CB hC) (by omega) (by simp; omega)
  cases hcc:p.re.comp [] with
  | true =>
   refine⟨p,t,?_,h2,hcc⟩
   rw[hcc] at hcomp
   clear h1' h3 h3'
   cases p with
   | mk re caps runes =>
   simp only[patV,Re.cells_eq re,List.map_cons,List.map_nil,List.cons_append,List.nil_append,reV_eq re,i64,iD,bD,bV] at h1 hcomp ⊢
   cases b with
   | false =>
    have:=hb0 rfl; subst this
    refine fn_ok func25 rfl ntmps25 results25 rfl 0 1991 (by simp) (by simp) ?_
    simp only[zX,Nat.reduceShiftRight,Nat.reduceMod,Nat.reduceLT,Nat.reduceMul,Nat.reduceSub,Int.reduceToNat,Int.reduceNeg,Int.reduceLT,Int.reduceLE,Int.reduceEq,Nat.reduceEqDiff,Nat.reduceAdd,Nat.reduceLeDiff,reduceIte,reduceCtorEq,Nat.reduceBEq,i64,bV,Bool.false_eq_true]
    refine call_pure h1 rfl rfl ?_
    simp only[zX,Nat.reduceShiftRight,Nat.reduceMod,Nat.reduceLT,Nat.reduceMul,Nat.reduceSub,Int.reduceToNat,Int.reduceNeg,Int.reduceLT,Int.reduceLE,Int.reduceEq,Nat.reduceEqDiff,Nat.reduceAdd,Nat.reduceLeDiff,reduceIte,reduceCtorEq,Nat.reduceBEq,i64,bV,iD,bD]
    refine call_give [] (by rfl) (call_pure hcomp rfl rfl ?_)
    simp only[zX,Nat.reduceShiftRight,Nat.reduceMod,Nat.reduceLT,Nat.reduceMul,Nat.reduceSub,Int.reduceToNat,Int.reduceNeg,Int.reduceLT,Int.reduceLE,Int.reduceEq,Nat.reduceEqDiff,Nat.reduceAdd,Nat.reduceLeDiff,reduceIte,reduceCtorEq,Nat.reduceBEq,killO,i64,bV,iD,bD,Bool.not_true,Bool.false_eq_true]
    all_goals first | exact⟨rfl,rfl⟩ | exact⟨rfl,trivial⟩ | rfl | trivial | (rw[reV_eq]; rfl)
   | true =>
    have hor:=hb1 rfl
    refine fn_ok func25 rfl ntmps25 results25 rfl 0 1991 (by simp) (by simp) ?_
    simp only[zX,Nat.reduceShiftRight,Nat.reduceMod,Nat.reduceLT,Nat.reduceMul,Nat.reduceSub,Int.reduceToNat,Int.reduceNeg,Int.reduceLT,Int.reduceLE,Int.reduceEq,Nat.reduceEqDiff,Nat.reduceAdd,Nat.reduceLeDiff,reduceIte,reduceCtorEq,Nat.reduceBEq,i64,bV,hor]
    refine call_pure h1 rfl rfl ?_
    simp only[zX,Nat.reduceShiftRight,Nat.reduceMod,Nat.reduceLT,Nat.reduceMul,Nat.reduceSub,Int.reduceToNat,Int.reduceNeg,Int.reduceLT,Int.reduceLE,Int.reduceEq,Nat.reduceEqDiff,Nat.reduceAdd,Nat.reduceLeDiff,reduceIte,reduceCtorEq,Nat.reduceBEq,i64,bV,iD,bD]
    refine call_give [] (by rfl) (call_pure hcomp rfl rfl ?_)
    simp only[zX,Nat.reduceShiftRight,Nat.reduceMod,Nat.reduceLT,Nat.reduceMul,Nat.reduceSub,Int.reduceToNat,Int.reduceNeg,Int.reduceLT,Int.reduceLE,Int.reduceEq,Nat.reduceEqDiff,Nat.reduceAdd,Nat.reduceLeDiff,reduceIte,reduceCtorEq,Nat.reduceBEq,killO,i64,bV,iD,bD,Bool.not_true,Bool.false_eq_true]
    all_goals first | exact⟨rfl,rfl⟩ | exact⟨rfl,trivial⟩ | rfl | trivial | (rw[reV_eq]; rfl)
  | false =>
   refine⟨p',t',?_,h2',opB_comp _ (by rw[← hc']; exact h3') []⟩
   rw[hcc] at hcomp
   clear h3 h3'
   cases p with
   | mk re caps runes =>
   cases p' with
   | mk re' caps' runes' =>
   simp only[patV,Re.cells_eq re,Re.cells_eq re',List.map_cons,List.map_nil,List.cons_append,List.nil_append,reV_eq re,i64,iD,bD,bV] at h1 h1' hcomp ⊢
   cases b with
   | false =>
    have:=hb0 rfl; subst this
    refine fn_ok func25 rfl ntmps25 results25 rfl 0 1991 (by simp) (by simp) ?_
    simp only[zX,Nat.reduceShiftRight,Nat.reduceMod,Nat.reduceLT,Nat.reduceMul,Nat.reduceSub,Int.reduceToNat,Int.reduceNeg,Int.reduceLT,Int.reduceLE,Int.reduceEq,Nat.reduceEqDiff,Nat.reduceAdd,Nat.reduceLeDiff,reduceIte,reduceCtorEq,Nat.reduceBEq,i64,bV,Bool.false_eq_true]
    refine call_pure h1 rfl rfl ?_
    simp only[zX,Nat.reduceShiftRight,Nat.reduceMod,Nat.reduceLT,Nat.reduceMul,Nat.reduceSub,Int.reduceToNat,Int.reduceNeg,Int.reduceLT,Int.reduceLE,Int.reduceEq,Nat.reduceEqDiff,Nat.reduceAdd,Nat.reduceLeDiff,reduceIte,reduceCtorEq,Nat.reduceBEq,i64,bV,iD,bD]
    refine call_give [] (by rfl) (call_pure hcomp rfl rfl ?_)
    simp only[zX,Nat.reduceShiftRight,Nat.reduceMod,Nat.reduceLT,Nat.reduceMul,Nat.reduceSub,Int.reduceToNat,Int.reduceNeg,Int.reduceLT,Int.reduceLE,Int.reduceEq,Nat.reduceEqDiff,Nat.reduceAdd,Nat.reduceLeDiff,reduceIte,reduceCtorEq,Nat.reduceBEq,killO,i64,bV,iD,bD,Bool.not_false,hw]
    refine call_pure h1' rfl rfl ?_
    simp only[zX,Nat.reduceShiftRight,Nat.reduceMod,Nat.reduceLT,Nat.reduceMul,Nat.reduceSub,Int.reduceToNat,Int.reduceNeg,Int.reduceLT,Int.reduceLE,Int.reduceEq,Nat.reduceEqDiff,Nat.reduceAdd,Nat.reduceLeDiff,reduceIte,reduceCtorEq,Nat.reduceBEq,i64,bV,iD,bD]
    all_goals first | exact⟨rfl,rfl⟩ | exact⟨rfl,trivial⟩ | rfl | trivial | (rw[reV_eq]; rfl)
   | true =>
    have hor:=hb1 rfl
    refine fn_ok func25 rfl ntmps25 results25 rfl 0 1991 (by simp) (by simp) ?_
    simp only[zX,Nat.reduceShiftRight,Nat.reduceMod,Nat.reduceLT,Nat.reduceMul,Nat.reduceSub,Int.reduceToNat,Int.reduceNeg,Int.reduceLT,Int.reduceLE,Int.reduceEq,Nat.reduceEqDiff,Nat.reduceAdd,Nat.reduceLeDiff,reduceIte,reduceCtorEq,Nat.reduceBEq,i64,bV,hor]
    refine call_pure h1 rfl rfl ?_
    simp only[zX,Nat.reduceShiftRight,Nat.reduceMod,Nat.reduceLT,Nat.reduceMul,Nat.reduceSub,Int.reduceToNat,Int.reduceNeg,Int.reduceLT,Int.reduceLE,Int.reduceEq,Nat.reduceEqDiff,Nat.reduceAdd,Nat.reduceLeDiff,reduceIte,reduceCtorEq,Nat.reduceBEq,i64,bV,iD,bD]
    refine call_give [] (by rfl) (call_pure hcomp rfl rfl ?_)
    simp only[zX,Nat.reduceShiftRight,Nat.reduceMod,Nat.reduceLT,Nat.reduceMul,Nat.reduceSub,Int.reduceToNat,Int.reduceNeg,Int.reduceLT,Int.reduceLE,Int.reduceEq,Nat.reduceEqDiff,Nat.reduceAdd,Nat.reduceLeDiff,reduceIte,reduceCtorEq,Nat.reduceBEq,killO,i64,bV,iD,bD,Bool.not_false,hw]
    refine call_pure h1' rfl rfl ?_
    simp only[zX,Nat.reduceShiftRight,Nat.reduceMod,Nat.reduceLT,Nat.reduceMul,Nat.reduceSub,Int.reduceToNat,Int.reduceNeg,Int.reduceLT,Int.reduceLE,Int.reduceEq,Nat.reduceEqDiff,Nat.reduceAdd,Nat.reduceLeDiff,reduceIte,reduceCtorEq,Nat.reduceBEq,i64,bV,iD,bD]
    all_goals first | exact⟨rfl,rfl⟩ | exact⟨rfl,trivial⟩ | rfl | trivial | (rw[reV_eq]; rfl)
 cases b with
 | false=>exact two 64 0 ⟨by decide,by decide,by decide,by decide,by decide⟩ ⟨by decide,by decide,by decide,by decide,by decide⟩ (by decide) (by decide) (fun _=>rfl) (fun h=>by cases h)
 | true=>exact two 80 16 ⟨by decide,by decide,by decide,by decide,by decide⟩ ⟨by decide,by decide,by decide,by decide,by decide⟩ (by decide) (by decide) (fun h=>by cases h) (fun _=>by decide)
end Go.Proofs.Ytdofoappodmcoaa
