/- A part of the proof (K63 K65). -/
import Derived.Test.YtdofoappodmcoaaKS40
import Derived.Test.YtdofoappodmcoaaKS44
set_option linter.unusedSimpArgs false
set_option linter.unusedVariables false
set_option maxRecDepth 100000
set_option maxHeartbeats 80000000
namespace Go.Proofs.Ytdofoappodmcoaa
open Go.VL Go.Proofs.Try
theorem pLoop_len {W : Type} (S : See W) (g : Prg) (hg : g.good) (t : List Int) (last : Int) : ∀ (k : Nat) (a : Int) (fd : Bool) (st : PSt) (sp : List PTh × Nat) (σ : W),st.inv g a→(pLoop S g t last k a fd st sp σ).1.length=g.ins.length
 | 0,_,_,st,_,_,h=>h.ok.len
 | k + 1,a,fd,st,sp,σ,h=>by
  have hl0 := hg.len0
  have hi : (pStart g t a last fd st).inv g a := by
   unfold pStart
   split
   ·exact pAdd_keep g hg t a a _ _ _ _ h (Int.le_refl _) (by omega) (by simp [pBlank])
   ·exact h
  rw [pLoop]
  generalize pStart g t a last fd st=st1 at *
  split
  ·exact hi.ok.len
  ·refine pLoop_len S g hg t last k (a + 1) _ _ _ _ (pFeed_keep g hg t a st1.list _ hi.th ?_)
   refine ⟨⟨hi.ok.len,Nat.zero_le _⟩,?_,fun x hx=>by simp [PSt.list] at hx⟩
   have := unm_le (a + 1) st1.marks
   have := hi.ok.len
   show 0 + unm (a + 1) st1.marks≤_; omega
theorem pFirst_len (g : Prg) (hg : g.good) (t : List Int) (a last : Int) : (pFirst g t a last).1.length=g.ins.length := by
 refine pLoop_len _ g hg t last _ a false (pBegin g) _ _ ⟨⟨by simp [pBegin],Nat.le_refl _⟩,?_,fun x hx=>by simp [PSt.list,pBegin] at hx⟩
 have := unm_le a (pBegin g).marks
 have h' : (pBegin g).marks.length=g.ins.length := by simp [pBegin]
 show 0 + unm a (pBegin g).marks≤_; omega
theorem call_firstX (g : Prg) (hg : g.good) (t : List Int) (ht : t.length≤65536) (at_ last : Int) (ha0 : 0≤at_) (ha1 : at_≤t.length) (hl1 : last≤t.length) (X Y : Nat) (hXY : X ≠ Y) (marks : List Int) (hm : marks.length=g.ins.length) {s : List VL.Obj} {K : V→List VL.Obj→Prop} (h2 : s[X]?=some (pMach g t Y (pBegin g))) (h3 : s[Y]?=some (mkO1 marks))
  (hk : K (.tu [(optM (pFirst g t at_ last).2.2).v,bV (pFirst g t at_ last).2.2.isSome]) ((s.set X (pMach g t Y (pBegin g))).set Y (mkO1 (pFirst g t at_ last).1))) : callWp prog 35 [.rf X 1 0 0,i64 at_,i64 last] s K := by
 have h := pfirst_ok g hg t ht at_ last ha0 ha1 hl1 marks hm
 have e0 : renO [X,Y] (mkO0 g t)=pMach g t Y (pBegin g) := by simp [renO,mkO0,pMach,pBegin,renV,renV.go,i64,bV]
 have e1 : ∀ m,renO [X,Y] (mkO1 m)=mkO1 m := fun m=>by simp [renO,mkO1,renV,renV.go,i64]
 have hm1 : ∀ m,objOk 2 (mkO1 m)=true := fun m=>by
  unfold objOk
  rw [List.all_eq_true]
  intro e he
  obtain ⟨c,hc,rfl⟩ := List.mem_map.1 he
  rfl
 have hm0 : objOk 2 (mkO0 g t)=true := by simp [objOk,mkO0,refsV,i64,bV]
 generalize pFirst g t at_ last=R at *
 obtain ⟨mk,fl,r⟩ := R
 refine call_map [X,Y] h (by simp [hXY]) (by rfl) ?_ (by rfl) (by rfl) ?_ (r' := .tu [(optM r).v,bV r.isSome]) ?_ ?_
 ·simp only [List.map_cons,List.map_nil,h2,h3,e0,e1]
 ·simp only [List.all_cons,List.all_nil,List.length_cons,List.length_nil,Nat.zero_add,Nat.reduceAdd,hm0,hm1,Bool.and_true]
 ·simp [renV,renV.go,Mat.v,i64,bV]
 ·simp only [List.map_cons,List.map_nil,e0,e1]
  exact hk
def firstE (g : Prg) (t : List Int) (a : Int) : Option Mat × Int := if chkE g t a=0 then (firstG g t ((t.length : Int) - a + 1).toNat a,0) else (none,chkE g t a)
theorem pikeFirst_ok (g : Prg) (hs : g.ins.length≤1000000000) (hl : ∀ x ∈ g.ins,x.set.length≤1000000000) (t : List Int) (ht : t.length≤1000000000) (at_ : Int) : PureOK prog 23 [prgV g,.d (intsD t),i64 at_] (.tu [(optM (firstE g t at_).1).v,bV (firstE g t at_).1.isSome,i64 (firstE g t at_).2]) := by
 by_cases hE : prgE g ≠ 0 ∨ 65536 < t.length
 ·have hse := start_err g t hs hl hE
  have hr : firstE g t at_=(none,if prgE g ≠ 0 then prgE g else 4) := by
   unfold firstE chkE
   by_cases h0 : prgE g ≠ 0
   ·rw [if_pos h0,if_neg h0]; try rw [if_pos h0]
   ·rw [if_neg h0,if_neg h0,if_pos (hE.resolve_left h0)]; rfl
  rw [hr]
  have hne : (if prgE g ≠ 0 then prgE g else 4) ≠ 0 := by split <;> omega
  generalize (if prgE g ≠ 0 then prgE g else 4)=E at *
  simp only [prgV_eq,i64,iD,bD] at hse
  refine fn_ok func23 rfl ntmps23 results23 rfl 0 8143 (by simp) (by simp) ?_
  simp only [zX,simprocAttr,i64,bV,iD,bD,prgV_eq]
  refine call_pure hse rfl rfl ?_
  simp only [zX,simprocAttr,i64,bV,iD,bD,prgV_eq,hne,ne_eq,not_false_eq_true,decide_true]
  rfl
 ·have hp0 : prgE g=0 := by
   by_cases h : prgE g=0
   ·exact h
   ·exact (hE (.inl h)).elim
  have ht2 : t.length≤65536 := by omega
  have hg : g.good := good_of hp0
  have hck : chkE g t at_=if at_ < 0 ∨ (t.length : Int) < at_ then 5 else 0 := by
   unfold chkE; rw [if_neg (fun h=>h hp0),if_neg (by omega)]
  refine fn_ok func23 rfl ntmps23 results23 rfl 0 8143 (by simp) (by simp) ?_
  simp only [zX,simprocAttr,i64,bV,iD,bD,prgV_eq]
  refine call_start hg hl hp0 ht2 ?_
  simp only [List.length_cons,List.length_nil,List.cons_append,List.nil_append,Nat.zero_add,Nat.reduceAdd]
  by_cases a0 : at_ < 0
  ·have hr : firstE g t at_=(none,5) := by
    have hck' : chkE g t at_=5 := by rw [hck,if_pos (.inl a0)]
    unfold firstE; rw [hck',if_neg (by decide)]
   rw [hr]
   simp only [zX,simprocAttr,i64,bV,iD,bD,prgV_eq,a0,ne_eq,not_true_eq_false,decide_false]
   rfl
  by_cases a1 : (t.length : Int) < at_
  ·have hr : firstE g t at_=(none,5) := by
    have hck' : chkE g t at_=5 := by rw [hck,if_pos (.inr a1)]
    unfold firstE; rw [hck',if_neg (by decide)]
   rw [hr]
   simp only [zX,simprocAttr,i64,bV,iD,bD,prgV_eq,a0,a1,intsD,List.length_map,ne_eq,not_true_eq_false,decide_false]
   rfl
  have hr : firstE g t at_=(firstG g t ((t.length : Int) - at_ + 1).toNat at_,0) := by
   have hck' : chkE g t at_=0 := by rw [hck,if_neg (by omega)]
   unfold firstE; rw [if_pos hck']
  rw [hr]
  simp only [zX,simprocAttr,i64,bV,iD,bD,prgV_eq,a0,a1,intsD,List.length_map,ne_eq,not_true_eq_false,decide_false]
  refine call_firstX g hg t ht2 at_ t.length (by omega) (by omega) (Int.le_refl _) 2 3 (by decide) (List.replicate g.ins.length 0) (by simp) rfl rfl ?_
  rw [first_all g hg t at_ (by omega) (by omega)]
  simp only [zX,simprocAttr,i64,bV,iD,bD,prgV_eq,Mat.v]
def resAt (g : Prg) (t : List Int) (i : Nat) : List Mat := (run0 g t i).toList
def allR (g : Prg) (t : List Int) (n : Nat) : List Mat := (List.range n).flatMap (resAt g t)
theorem allR_succ (g : Prg) (t : List Int) (n : Nat) : allR g t (n + 1)=allR g t n ++ resAt g t n := by
 unfold allR
 rw [List.range_succ,List.flatMap_append]
 simp
theorem allR_len (g : Prg) (t : List Int) : ∀ n,(allR g t n).length≤n
 | 0=>by simp [allR]
 | n + 1=>by
  rw [allR_succ,List.length_append]
  have := allR_len g t n
  have : (resAt g t n).length≤1 := by unfold resAt; cases run0 g t n <;> simp
  omega
def everyE (g : Prg) (t : List Int) : List Mat × Int := if chkE g t 0=0 then (allR g t (t.length + 1),0) else ([],chkE g t 0)
def matK (m : Mat) : List D := [iD m.s,iD m.e,capD m.c]
def arrM (L : List Mat) : VL.Obj := ⟨L.length,true,3,(L.map matK).map fun c=>c.map V.d⟩
theorem arrM_ok (n : Nat) (L : List Mat) : objOk n (arrM L)=true := by
 unfold objOk arrM
 rw [List.all_eq_true]
 intro e he
 obtain ⟨c,hc,rfl⟩ := List.mem_map.1 he
 rw [List.all_eq_true]
 intro x hx
 obtain ⟨d,_,rfl⟩ := List.mem_map.1 hx
 rfl
theorem boxP_ok' (n : Nat) (g : Prg) : objOk n (boxP g)=true := by simp [objOk,boxP,refsV,i64,bV]
theorem mkO1_ok (n : Nat) (m : List Int) : objOk n (mkO1 m)=true := by
 unfold objOk
 rw [List.all_eq_true]
 intro e he
 obtain ⟨c,hc,rfl⟩ := List.mem_map.1 he
 rfl
theorem pikeEvery_ok (g : Prg) (hs : g.ins.length≤1000000000) (hl : ∀ x ∈ g.ins,x.set.length≤1000000000) (t : List Int) (ht : t.length≤1000000000) : PureOK prog 20 [prgV g,.d (intsD t)] (.tu [.d (.sl ((everyE g t).1.map matK)),i64 (everyE g t).2]) := by
 by_cases hE : prgE g ≠ 0 ∨ 65536 < t.length
 ·have hse := start_err g t hs hl hE
  have hr : everyE g t=([],if prgE g ≠ 0 then prgE g else 4) := by
   unfold everyE chkE
   by_cases h0 : prgE g ≠ 0
   ·rw [if_pos h0,if_neg h0]; try rw [if_pos h0]
   ·rw [if_neg h0,if_neg h0,if_pos (hE.resolve_left h0)]; rfl
  rw [hr]
  have hne : (if prgE g ≠ 0 then prgE g else 4) ≠ 0 := by split <;> omega
  generalize (if prgE g ≠ 0 then prgE g else 4)=E at *
  simp only [prgV_eq,i64,iD,bD] at hse
  refine fn_ok func20 rfl ntmps20 results20 rfl 0 25169911 (by simp) (by simp) ?_
  simp only [zX,simprocAttr,i64,bV,iD,bD,prgV_eq]
  refine call_pure hse rfl rfl ?_
  simp only [zX,simprocAttr,i64,bV,iD,bD,prgV_eq,hne,ne_eq,not_false_eq_true,decide_true]
  all_goals first | exact ⟨rfl,rfl⟩ | exact ⟨rfl,trivial⟩ | rfl | trivial | (rw [reV_eq]; rfl)
 ·have hp0 : prgE g=0 := by
   by_cases h : prgE g=0
   ·exact h
   ·exact (hE (.inl h)).elim
  have ht2 : t.length≤65536 := by omega
  have hg : g.good := good_of hp0
  have hck : chkE g t 0=0 := by
   unfold chkE; rw [if_neg (fun h=>h hp0),if_neg (by omega),if_neg (by omega)]
  have hr : everyE g t=(allR g t (t.length + 1),0) := by unfold everyE; rw [if_pos hck]
  rw [hr]
  have wl : IntKind.i64.wrap ((t.length : Int) + 1)=(t.length : Int) + 1 := w64 _ (by omega)
  refine fn_ok func20 rfl ntmps20 results20 rfl 0 25169911 (by simp) (by simp) ?_
  simp only [zX,simprocAttr,i64,bV,iD,bD,prgV_eq]
  refine call_start hg hl hp0 ht2 ?_
  simp only [List.length_cons,List.length_nil,List.cons_append,List.nil_append,Nat.zero_add,Nat.reduceAdd]
  simp only [zX,simprocAttr,i64,bV,iD,bD,prgV_eq,intsD,List.length_map,ne_eq,not_true_eq_false,decide_false,wl]
  refine loop_rule (fun n e s=>∃ (i : Nat) (mk : List Int),n=t.length + 1 - i∧i≤t.length + 1∧mk.length=g.ins.length∧e 6=.rf 1 1 0 0∧e 8=.so 3 (allR g t i).length 0 (allR g t i).length∧e 23=i64 ((t.length : Int) + 1)∧e 24=i64 i∧s=[boxP g,pMach g t 2 (pBegin g),mkO1 mk,arrM (allR g t i)])
   ⟨_,_,_,.of0 (reserveSlot 8 3 rfl),0,List.replicate g.ins.length 0,rfl,by omega,by simp,rfl,rfl,rfl,rfl,by simp [boxP,i64,bV,arrM,allR]⟩ ?_
  rintro n e s ⟨i,mk,rfl,hi,hmk,h6,h8,h23,h24,rfl⟩
  rcases Nat.lt_or_ge i (t.length + 1) with hlt | hge
  ·have hlt' : (i : Int) < (t.length : Int) + 1 := by omega
   have hal := allR_len g t i
   have has := allR_succ g t i
   have hpl := pFirst_len g hg t i i
   have hcall := fun K hk=>call_firstX g hg t ht2 i i (by omega) (by omega) (by omega) 1 2 (by decide) mk hmk (s := [boxP g,pMach g t 2 (pBegin g),mkO1 mk,arrM (allR g t i)]) (K := K) rfl rfl hk
   rw [first_law g hg t i (by omega)] at hcall
   unfold resAt at has
   generalize (pFirst g t i i).1=mk2 at *
   generalize run0 g t i=R at *
   generalize hA : allR g t i=A at *
   simp only [zX,simprocAttr,i64,bV,iD,bD,h6,h8,h23,h24,hlt']
   refine hcall _ ?_
   simp only [List.set_cons_zero,List.set_cons_succ]
   cases R with
   | none =>
    simp only [zX,simprocAttr,i64,bV,iD,bD,h6,h8,h23,h24,optM,Mat.v,Option.getD_none,Option.isSome_none]
    refine ⟨t.length + 1 - (i + 1),_,_,by omega,Cln.cut (s' := [boxP g,pMach g t 2 (pBegin g),mkO1 mk2,arrM A]) 4 (by omega) rfl ?_ [6,8,23,24] ?_,i + 1,mk2,rfl,by omega,hpl,?_,?_,?_,?_,?_⟩ <;> (try simp only [zU,Nat.reduceBEq,Nat.reduceShiftRight,Nat.reduceMod,Nat.reduceEqDiff,reduceIte])
    ·simp only [List.all_cons,List.all_nil,boxP_ok',mkO1_ok,arrM_ok,Bool.and_true]
     simp [objOk,pMach,refsV,i64,bV]
    ·simp [updE,trimE_app,refsV,h6,h8,h23,h24,i64]
    ·exact h6
    ·rw [has]; simpa using h8
    ·exact h23
    ·rw [w64 _ (by omega)]; rfl
    ·rw [has]; simp
   | some m =>
    have hgA : (arrM A).g=A.length := rfl
    have hzA : (arrM A).sz=3 := rfl
    have heA : (arrM A).els=(A.map matK).map fun c=>c.map V.d := rfl
    have hlA : (arrM A).live=true := rfl
    simp only [zX,simprocAttr,i64,bV,iD,bD,h6,h8,h23,h24,optM,Mat.v,Option.getD_some,Option.isSome_some,hgA,hzA,heA,hlA,List.length_map,Nat.zero_add]
    have has2 : allR g t (i + 1)=A ++ [m] := by rw [has]; rfl
    refine ⟨fun e he=>by rw [List.mem_singleton.1 he]; rfl,⟨Nat.le_refl _,by omega⟩,t.length + 1 - (i + 1),_,_,by omega,Cln.cut (s' := [boxP g,pMach g t 2 (pBegin g),mkO1 mk2,arrM (A ++ [m])]) 4 (by omega) ?_ ?_ [6,8,23,24] ?_,i + 1,mk2,rfl,by omega,hpl,?_,?_,?_,?_,?_⟩ <;> (try simp only [zU,Nat.reduceBEq,Nat.reduceShiftRight,Nat.reduceMod,Nat.reduceEqDiff,reduceIte])
    ·simp only [List.take_succ_cons,List.take_zero,arrM]
     rw [List.take_of_length_le (by simp)]
     simp [matK,iD]
    ·simp only [List.all_cons,List.all_nil,boxP_ok',mkO1_ok,arrM_ok,Bool.and_true]
     simp [objOk,pMach,refsV,i64,bV]
    ·simp [updE,trimE_app,refsV,h6,h23,i64]
    ·exact h6
    ·rw [has2]; simp
    ·exact h23
    ·rw [w64 _ (by omega)]; rfl
    ·rw [has2]
  ·have hie : i=t.length + 1 := by omega
   subst hie
   have hlt' : ¬ ((t.length + 1 : Nat) : Int) < (t.length : Int) + 1 := by omega
   generalize allR g t (t.length + 1)=A at *
   have hgA : (arrM A).g=A.length := rfl
   have hzA : (arrM A).sz=3 := rfl
   have heA : (arrM A).els=(A.map matK).map fun c=>c.map V.d := rfl
   simp only [zX,simprocAttr,i64,bV,iD,bD,h6,h8,h23,h24,hlt',hgA,hzA,heA]
   rw [frz_data 7 0 _ _ _ (by simp),if_pos (by omega)]
   rfl
theorem runR_start (g : Prg) (t : List Int) (start : Int) : ∀ (k : Nat) (l : RList) (b : Option Mat),(∀ m,b=some m→m.s=start)→∀ m,runR g t start k l b=some m→m.s=start
 | 0,_,_,h=>h
 | k + 1,l,b,h=>by
  have hb : ∀ m,bestR g start l b=some m→m.s=start := by
   intro m hm
   unfold bestR at hm
   split at hm
   ·simp only [Option.some.injEq] at hm; rw [← hm]
   ·exact h m hm
  rw [runR]
  split
  ·exact hb
  ·exact runR_start g t start k _ _ hb
theorem resAt_start {g : Prg} {t : List Int} {i : Nat} {x : Mat} (h : x ∈ resAt g t i) : x.s=i := by
 unfold resAt at h
 exact runR_start g t i _ _ none (fun _ h=>by cases h) x (by simpa [run0] using h)
theorem firstG_head (g : Prg) (t : List Int) : ∀ (k a : Nat),firstG g t k a=((List.range' a k).flatMap (resAt g t)).head?
 | 0,_=>by simp [firstG]
 | k + 1,a=>by
  have h := firstG_head g t k (a + 1)
  rw [firstG,List.range'_succ,List.flatMap_cons]
  unfold resAt at h ⊢
  cases run0 g t a with
  | some m=>simp
  | none=>simpa using h
theorem allR_split (g : Prg) (t : List Int) (s : Nat) : ∀ d,allR g t (s + d)=allR g t s ++ (List.range' s d).flatMap (resAt g t)
 | 0=>by simp
 | d + 1=>by
  rw [← Nat.add_assoc,allR_succ,allR_split g t s d,List.range'_1_concat,List.flatMap_append]
  simp
theorem allR_lt {g : Prg} {t : List Int} {n : Nat} {x : Mat} (h : x ∈ allR g t n) : x.s < n := by
 unfold allR at h
 obtain ⟨i,hi,hx⟩ := List.mem_flatMap.1 h
 have := resAt_start hx
 have := List.mem_range.1 hi
 omega
theorem everyE_err (g : Prg) (t : List Int) : (everyE g t).2=chkE g t 0 := by
 unfold everyE
 by_cases h : chkE g t 0=0
 ·rw [if_pos h,h]
 ·rw [if_neg h]
theorem firstE_err (g : Prg) (t : List Int) (a : Int) : (firstE g t a).2=chkE g t a := by
 unfold firstE
 by_cases h : chkE g t a=0
 ·rw [if_pos h,h]
 ·rw [if_neg h]
theorem every_first (g : Prg) (t : List Int) (s : Int) (h1 : (everyE g t).2=0) (h2 : (firstE g t s).2=0) (n : Nat) (hn : n≤(everyE g t).1.length) (hlt : ∀ (j : Nat) (x : Mat),j < n→(everyE g t).1[j]?=some x→x.s < s) (hge : ∀ x,(everyE g t).1[n]?=some x→¬ x.s < s) : (firstE g t s).1=(everyE g t).1[n]? := by
 rw [everyE_err] at h1
 rw [firstE_err] at h2
 obtain ⟨_,_,s0,s1⟩ := chkE_ok h2
 unfold everyE firstE at *
 rw [if_pos h1] at *
 rw [if_pos h2]
 simp only at *
 obtain ⟨i,rfl⟩ : ∃ i : Nat,s=i := ⟨s.toNat,by omega⟩
 have hs := allR_split g t i (t.length + 1 - i)
 rw [show i + (t.length + 1 - i)=t.length + 1 by omega] at hs
 have hk : ((t.length : Int) - i + 1).toNat=t.length + 1 - i := by omega
 rw [hk,firstG_head]
 have hB : ∀ x ∈ (List.range' i (t.length + 1 - i)).flatMap (resAt g t),(i : Int)≤x.s := by
  intro x hx
  obtain ⟨j,hj,hx⟩ := List.mem_flatMap.1 hx
  have := resAt_start hx
  have := (List.mem_range'_1.1 hj).1
  omega
 have hA : ∀ x ∈ allR g t i,x.s < (i : Int) := fun x hx=>allR_lt hx
 rw [hs] at hn hlt hge ⊢
 generalize (List.range' i (t.length + 1 - i)).flatMap (resAt g t)=B at *
 generalize allR g t i=A at *
 have hnA : n=A.length := by
  rcases Nat.lt_trichotomy n A.length with h | h | h
  ·have e : (A ++ B)[n]?=some A[n] := by rw [List.getElem?_append_left h]; exact List.getElem?_eq_getElem h
   exact absurd (hA _ (List.getElem_mem h)) (hge _ e)
  ·exact h
  ·have hb : 0 < B.length := by rw [List.length_append] at hn; omega
   have e : (A ++ B)[A.length]?=some B[0] := by rw [List.getElem?_append_right (Nat.le_refl _),Nat.sub_self]; exact List.getElem?_eq_getElem hb
   have := hlt A.length _ h e
   have := hB _ (List.getElem_mem hb)
   omega
 rw [hnA,List.getElem?_append_right (Nat.le_refl _),Nat.sub_self,List.head?_eq_getElem?]
theorem everyE_len (g : Prg) (t : List Int) : (everyE g t).1.length≤t.length + 1 := by
 unfold everyE
 split
 ·exact allR_len g t _
 ·simp
end Go.Proofs.Ytdofoappodmcoaa
