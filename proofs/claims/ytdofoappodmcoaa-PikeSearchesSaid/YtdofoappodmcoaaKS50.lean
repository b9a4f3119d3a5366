/- A part of the proof (K4 K5 K6). -/
import Derived.Test.YtdofoappodmcoaaKS27
set_option linter.unusedSimpArgs false
set_option linter.unusedVariables false
set_option maxRecDepth 100000
set_option maxHeartbeats 80000000
namespace Go.Proofs.Ytdofoappodmcoaa
open Go.VL Go.Proofs.Try
def kshD (re : Re) : Bool := kshC re && decide ((re.op=0 ∨ re.op=1 ∨ re.op=2 ∨ re.op=3 ∨ re.op=4 ∨ re.op=5 ∨ re.op=11)∧(re.op=4 ∨ re.op=5→re.kids.length=1)∧(re.op=0→re.kids=[]))
theorem kshD_iff {re : Re} : kshD re=true ↔ kshC re=true∧(re.op=0 ∨ re.op=1 ∨ re.op=2 ∨ re.op=3 ∨ re.op=4 ∨ re.op=5 ∨ re.op=11)∧(re.op=4 ∨ re.op=5→re.kids.length=1)∧(re.op=0→re.kids=[]) := by
 unfold kshD
 rw [Bool.and_eq_true,decide_eq_true_eq]
theorem kshC_iff {re : Re} : kshC re=true ↔ kshB re=true∧(re.op=4→re.mx=-1 ∨ 1≤re.mx∧re.mn≤re.mx) := by
 unfold kshC
 rw [Bool.and_eq_true,decide_eq_true_eq]
theorem every_DC {re : Re} (h : re.every kshD=true) : re.every kshC=true := every_mono' (fun _ h=>(kshD_iff.1 h).1) re h
theorem every_CB {re : Re} (h : re.every kshC=true) : re.every kshB=true := every_mono' (fun _ h=>(kshC_iff.1 h).1) re h
theorem cszL_split {l : List Re} (h : ∀ k ∈ l,0≤k.csz) {k : Re} (hk : k ∈ l) : k.csz≤Re.cszL l := by
 induction l with
 | nil=>cases hk
 | cons x l ih =>
  have h1 := h x (by simp)
  have h2 : 0≤Re.cszL l := by
   have : ∀ l' : List Re,(∀ k ∈ l',0≤k.csz)→0≤Re.cszL l' := by
    intro l'
    induction l' with
    | nil=>intro _; simp [Re.cszL]
    | cons y l' ih'=>intro h'; have := h' y (by simp); have := ih' (fun z hz=>h' z (by simp [hz])); simp only [Re.cszL]; omega
   exact this l (fun y hy=>h y (by simp [hy]))
  simp only [Re.cszL]
  rcases List.mem_cons.1 hk with rfl | hk
  ·omega
  ·have := ih (fun y hy=>h y (by simp [hy])) hk; omega
theorem repPre_len {c : Int→List Ins} {n : Int} (h : ∀ f,((c f).length : Int)=n) : ∀ (k : Nat) (f : Int),((repPre c k f).length : Int)=k * n
 | 0,f=>by simp [repPre]
 | k + 1,f=>by
  rw [repPre,List.length_append]
  have h1 := repPre_len h k f
  have h2 := h (f + (repPre c k f).length)
  push_cast
  rw [Int.add_mul]; omega
theorem repPost_len {c : Int→List Ins} {n : Int} (h : ∀ f,((c f).length : Int)=n) (mode fin : Int) : ∀ (k : Nat) (f : Int),((repPost c mode fin k f).length : Int)=k * (n + 1)
 | 0,f=>by simp [repPost]
 | k + 1,f=>by
  rw [repPost,List.length_append,List.length_cons]
  have h1 := repPost_len h mode fin k f
  have h2 := h (f + (repPost c mode fin k f).length + 1)
  push_cast
  rw [Int.add_mul]; omega
theorem csz_un {re : Re} (h : re.csz≤9000) : re.csz=(if re.op=1 ∨ re.op=11 then 1 else if re.op=3 then Re.cszL re.kids + 2 * (re.kids.length : Int) - 2 else if re.op=5 then Re.cszL re.kids + 2 else if re.op=4 then (if re.mx=-1 then (re.mn + 1) * Re.cszL re.kids + 2 else re.mx * Re.cszL re.kids + re.mx - re.mn) else Re.cszL re.kids) := by
 rw [Re.csz_eq] at h ⊢
 unfold cszN at h ⊢
 omega
theorem csz_kid {re : Re} (hs : re.every kshD=true) (h : re.csz≤9000) (ho : re.op ≠ 1∧re.op ≠ 11) : Re.cszL re.kids≤9000∧∀ k ∈ re.kids,k.csz≤9000 := by
 obtain ⟨hs1,hs2⟩ := (Re.every_iff re).1 hs
 obtain ⟨hc,hop,h1k,h0⟩ := kshD_iff.1 hs1
 obtain ⟨hb,hmx⟩ := kshC_iff.1 hc
 obtain ⟨q1,q2,q3,q4,q5,q6,q7,q8,q9,q10⟩ := kshB_iff.1 hb
 have hkr : ∀ k ∈ re.kids,0≤k.csz := fun k hk=>(csz_range k (every_DC (hs2 k hk))).1
 have hz := (cszL_range (l := re.kids) (fun k hk=>csz_range k (every_DC (hs2 k hk)))).1
 have hu := csz_un h
 have hle : Re.cszL re.kids≤9000 := by
  generalize Re.cszL re.kids=z at *
  rw [if_neg (by omega)] at hu
  split at hu
  ·rename_i o3; have := q2 o3; omega
  ·split at hu
   ·omega
   ·split at hu
    ·split at hu
     ·have : 1 * z≤(re.mn + 1) * z := Int.mul_le_mul_of_nonneg_right (by omega) (by omega)
      omega
     ·rename_i o4 om
      have hm := (hmx o4).resolve_left om
      have : 1 * z≤re.mx * z := Int.mul_le_mul_of_nonneg_right (by omega) (by omega)
      omega
    ·omega
 exact ⟨hle,fun k hk=>Int.le_trans (cszL_split hkr hk) hle⟩
theorem codeCat_len {l : List Re} (h : ∀ k ∈ l,∀ f,((k.code f).length : Int)=k.csz) : ∀ f,((Re.codeCat l f).length : Int)=Re.cszL l := by
 induction l with
 | nil=>intro f; simp [Re.codeCat,Re.cszL]
 | cons k l ih =>
  intro f
  have h1 := h k (by simp) f
  have h2 := ih (fun x hx=>h x (by simp [hx])) (f + (k.code f).length)
  simp only [Re.codeCat,Re.cszL,List.length_append]
  omega
theorem codeAlt_len {l : List Re} (h : ∀ k ∈ l,∀ f,((k.code f).length : Int)=k.csz) : l ≠ []→∀ f,((Re.codeAlt l f).length : Int)=Re.cszL l + 2 * l.length - 2 := by
 induction l with
 | nil=>intro hn; exact absurd rfl hn
 | cons k l ih =>
  intro _ f
  cases l with
  | nil =>
   simp only [Re.codeAlt,Re.cszL,List.length_cons,List.length_nil]
   have := h k (by simp) f
   omega
  | cons k2 l2 =>
   have h1 := h k (by simp) (f + 1)
   have h2 := ih (fun x hx=>h x (by simp only [List.mem_cons] at hx ⊢; exact .inr hx)) (by simp) (f + (k.code (f + 1)).length + 2)
   rw [Re.codeAlt]
   generalize Re.codeAlt (k2 :: l2) (f + (k.code (f + 1)).length + 2)=z at *
   simp only [Re.cszL,List.length_cons,List.length_append] at h2 ⊢
   push_cast at h2 ⊢
   omega
theorem repC_len {c : Int→List Ins} {n : Int} (h : ∀ f,((c f).length : Int)=n) {mn mx : Int} (mode sz f : Int) (h0 : 0≤mn) (h1 : mx=-1 ∨ 1≤mx∧mn≤mx) :
  ((repC c mn mx mode sz f).length : Int)=if mx=-1 then (mn + 1) * n + 2 else mx * n + mx - mn := by
 have hp := repPre_len h mn.toNat f
 have e0 : ((mn.toNat : Nat) : Int)=mn := by omega
 rw [e0] at hp
 unfold repC
 by_cases hm : mx=-1
 ·rw [if_pos hm,if_pos hm]
  have h2 := h (f + (repPre c mn.toNat f).length + 1)
  simp only [List.length_append,List.length_cons,List.length_nil]
  push_cast
  rw [Int.add_mul]
  omega
 ·rw [if_neg hm,if_neg hm]
  have h3 := repPost_len h mode (f + sz) (mx - mn).toNat (f + (repPre c mn.toNat f).length)
  have e1 : (((mx - mn).toNat : Nat) : Int)=mx - mn := by omega
  rw [e1] at h3
  simp only [List.length_append]
  push_cast
  generalize repPost c mode (f + sz) (mx - mn).toNat (f + (repPre c mn.toNat f).length)=z at *
  rw [hp,h3,Int.mul_add,Int.sub_mul]
  omega
theorem code0_one {k : Re} {l : List Re} (hl : l=[k]) : (fun i=>Re.code0 l i)=k.code := by subst hl; funext i; simp [Re.code0]
theorem code_len (re : Re) : re.every kshD=true→re.csz≤9000→∀ f,((re.code f).length : Int)=re.csz := by
 induction re using Re.ind with
 | h re ih =>
 intro hs hz f
 obtain ⟨hs1,hs2⟩ := (Re.every_iff re).1 hs
 obtain ⟨hc,hop,h1k,h0⟩ := kshD_iff.1 hs1
 obtain ⟨hb,hmx⟩ := kshC_iff.1 hc
 obtain ⟨q1,q2,q3,q4,q5,q6,q7,q8,q9,q10⟩ := kshB_iff.1 hb
 have hu := csz_un hz
 refine Eq.trans ?_ hu.symm
 rw [Re.code_eq]
 by_cases o1 : re.op=1
 ·rw [if_pos o1,if_pos (.inl o1)]; rfl
 by_cases o11 : re.op=11
 ·rw [if_neg o1,if_pos o11,if_pos (.inr o11)]; rfl
 have hk := csz_kid hs hz ⟨o1,o11⟩
 have hkl : ∀ k ∈ re.kids,∀ f,((k.code f).length : Int)=k.csz := fun k hm f=>ih k hm (hs2 k hm) (hk.2 k hm) f
 have o3' : re.op=2→¬ re.op=3 := by omega
 have o5' : re.op=2→¬ re.op=5 := by omega
 have o4' : re.op=2→¬ re.op=4 := by omega
 have o00 : ¬ re.op=2→¬ re.op=3→¬ re.op=5→¬ re.op=4→re.op=0 := by omega
 clear hu
 rw [if_neg o1,if_neg o11,if_neg (show ¬ (re.op=1 ∨ re.op=11) from fun h=>h.elim o1 o11)]
 by_cases o2 : re.op=2
 ·rw [if_pos o2,if_neg (o3' o2),if_neg (o5' o2),if_neg (o4' o2)]
  exact codeCat_len hkl f
 rw [if_neg o2]
 by_cases o3 : re.op=3
 ·rw [if_pos o3,if_pos o3]
  exact codeAlt_len hkl (by have := q2 o3; intro h; rw [h] at this; simp at this) f
 rw [if_neg o3,if_neg o3]
 by_cases o5 : re.op=5
 ·rw [if_pos o5,if_pos o5]
  obtain ⟨k,hkk⟩ := List.length_eq_one_iff.1 (h1k (.inr o5))
  have := hkl k (by rw [hkk]; simp) (f + 1)
  rw [hkk]
  simp only [Re.code0,Re.cszL,List.length_cons,List.length_append,List.length_nil]
  push_cast; omega
 rw [if_neg o5,if_neg o5]
 by_cases o4 : re.op=4
 ·rw [if_pos o4,if_pos o4]
  obtain ⟨k,hkk⟩ := List.length_eq_one_iff.1 (h1k (.inl o4))
  rw [code0_one hkk,repC_len (n := Re.cszL re.kids) (fun f=>by rw [hkk]; have := hkl k (by rw [hkk]; simp) f; simp only [Re.cszL]; omega) _ _ _ q5 (hmx o4)]
 ·rw [if_neg o4,if_neg o4,h0 (o00 o2 o3 o5 o4)]
  rfl
def altK (l : List Re) : Re := .mk 3 [] l 0 0 0 0 false
def arrI (g : Nat) (l : List Ins) : VL.Obj := ⟨g,true,5,(l.map Ins.cells).map fun c=>c.map V.d⟩
theorem ins_len (l : List Ins) : ∀ e ∈ (l.map Ins.cells).map (fun c=>c.map V.d),e.length=5 := by
 intro e he
 obtain ⟨c,hc,rfl⟩ := List.mem_map.1 he
 obtain ⟨i,_,rfl⟩ := List.mem_map.1 hc
 rfl
theorem ins_lenD (l : List Ins) : ∀ e ∈ l.map Ins.cells,e.length=5 := by
 intro e he
 obtain ⟨i,_,rfl⟩ := List.mem_map.1 he
 rfl
theorem ins_take (l : List Ins) (n : Nat) (h : l.length≤n) : List.take n ((l.map Ins.cells).map fun c=>c.map V.d)=(l.map Ins.cells).map fun c=>c.map V.d := List.take_of_length_le (by simpa using h)
theorem arrI_ok (n g : Nat) (l : List Ins) : objOk n (arrI g l)=true := by
 unfold objOk arrI
 rw [List.all_eq_true]
 intro e he
 obtain ⟨c,hc,rfl⟩ := List.mem_map.1 he
 rw [List.all_eq_true]
 intro x hx
 obtain ⟨d,_,rfl⟩ := List.mem_map.1 hx
 rfl
theorem boxR_ok (n : Nat) (re : Re) : objOk n (boxR re)=true := by simp [objOk,boxR,Re.cells_eq re,refsV]
def CodeOK (re : Re) : Prop := ∀ f : Int,0≤f→f≤1000000000000000000 - 100000000 * re.size→PureOK prog 63 [reV re,i64 f] (.d (.sl ((re.code f).map Ins.cells)))
theorem rep_own (re k : Re) (hs : re.every kshD=true) (hz : re.csz≤8500) (o4 : re.op=4) (hk : re.kids=[k]) (hc : CodeOK k) (f : Int) (h0 : 0≤f) (h1 : f≤1000000000000000000 - 100000000 * re.size) : OwnSl prog 92 [reV re,i64 f] 5 ((re.code f).map Ins.cells) := by
 obtain ⟨hs1,hs2⟩ := (Re.every_iff re).1 hs
 obtain ⟨hcc,hop,h1k,hk0⟩ := kshD_iff.1 hs1
 obtain ⟨hb,hmx⟩ := kshC_iff.1 hcc
 obtain ⟨q1,q2,q3,q4,q5,q6,q7,q8,q9,q10⟩ := kshB_iff.1 hb
 have hlen := code_len re hs (by omega) f
 have hkz := (csz_kid hs (by omega) ⟨by omega,by omega⟩).2 k (by rw [hk]; simp)
 have hkl := code_len k (hs2 k (by rw [hk]; simp)) hkz
 have hkr := csz_range k (every_DC (hs2 k (by rw [hk]; simp)))
 have hsz := csz_ok re (every_DC hs)
 have hkg : re.kids[0]?=some k := by rw [hk]; rfl
 have hkn : (0 : Int) < (re.kids.length : Int) := by rw [hk]; simp
 have hks : k.size + 1≤re.size := Re.size_kid (by rw [hk]; simp)
 have hc0 : re.code f=repC k.code re.mn re.mx re.mode re.csz f := by
  rw [Re.code_eq,if_neg (by omega),if_neg (by omega),if_neg (by omega),if_neg (by omega),if_neg (by omega),if_pos o4,code0_one hk]
 rw [hc0]
 have hpl : ∀ i : Nat,((repPre k.code i f).length : Int)=i * k.csz := fun i=>repPre_len hkl i f
 have hpb : ∀ i : Nat,(i : Int)≤re.mn→((repPre k.code i f).length : Int)≤300000 := fun i hi=>by
  rw [hpl]
  have h2 : (i : Int) * k.csz≤32 * 9000 := Int.mul_le_mul (by omega) hkz hkr.1 (by omega)
  omega
 unfold repC OwnSl
 refine fn_own func92 rfl ntmps92 results92 rfl 0 32759 (by simp) (by simp) ?_
 simp only [zX,simprocAttr,i64,reV_eq re,iD,bD,o4]
 refine loop_rule (fun n e s=>∃ (i g : Nat),n=re.mn.toNat - i∧(i : Int)≤re.mn∧e 1=i64 f∧e 2=.rf 0 0 0 0∧e 5=.so 1 g 0 (repPre k.code i f).length∧e 6=i64 i∧s=[boxR re,arrI g (repPre k.code i f)])
  ⟨_,_,_,.of0 (reserveSlot 5 5 rfl),0,0,rfl,q5,rfl,rfl,rfl,rfl,by simp [boxR,Re.cells_eq re,iD,bD,o4,arrI,repPre]⟩ ?_
 rintro n e s ⟨i,g,rfl,hi,h1',h2,h5,h6,rfl⟩
 by_cases hlt : (i : Int) < re.mn
 ·have hcode := hc (f + (repPre k.code i f).length) (by omega) (by have := hpb i hi; omega)
  have hb1 := hpb i hi
  have hb2 := hpb (i + 1) (by omega)
  have w1 : IntKind.i64.wrap (f + ((repPre k.code i f).length : Int))=f + ((repPre k.code i f).length : Int) := w64 _ (by omega)
  have hkl1 := hkl (f + (repPre k.code i f).length)
  simp only [i64] at hcode
  simp only [zX,simprocAttr,i64,boxR,Re.cells_eq re,List.map_cons,List.map_nil,iD,bD,h1',h2,h5,h6,hlt,arrI,hkg,hkn,w1]
  refine call_pure hcode (by simp [refsV,refsV.go,reV_eq]) (by simp [refsV,refsV.go,reV_eq,i64,bV,reEl]) ?_
  simp only [zX,simprocAttr,i64,boxR,Re.cells_eq re,List.map_cons,List.map_nil,iD,bD,h1',h2,h5,h6,hlt,arrI]
  refine ⟨ins_len _,⟨by simp,by omega⟩,re.mn.toNat - (i + 1),_,_,by omega,Cln.refl,i + 1,g + 1,rfl,by omega,?_,?_,?_,?_,?_⟩ <;> (try simp only [zU,Nat.reduceBEq,Nat.reduceShiftRight,Nat.reduceMod,Nat.reduceEqDiff,reduceIte])
  ·exact h1'
  ·exact h2
  ·simp only [repPre,List.length_append,List.length_map]
  ·rw [w64 _ (by omega)]; rfl
  ·rw [ins_take _ _ (Nat.le_refl _)]
   simp [boxR,arrI,Re.cells_eq re,iD,bD,repPre]
 ·have hie : i=re.mn.toNat := by omega
  subst hie
  have hb1 := hpb re.mn.toNat hi
  generalize repPre k.code re.mn.toNat f=pre at *
  by_cases hm : re.mx=-1
  ·rw [if_pos hm]
   have hcode := hc (f + pre.length + 1) (by omega) (by omega)
   have hkl1 := hkl (f + pre.length + 1)
   have w1 : IntKind.i64.wrap (f + (pre.length : Int))=f + pre.length := w64 _ (by omega)
   have w2 : IntKind.i64.wrap (f + (pre.length : Int) + 1)=f + pre.length + 1 := w64 _ (by omega)
   generalize k.code (f + pre.length + 1)=kid at *
   have w3 : IntKind.i64.wrap (f + (pre.length : Int) + (kid.length : Int))=f + pre.length + kid.length := w64 _ (by omega)
   have w4 : IntKind.i64.wrap (f + (pre.length : Int) + (kid.length : Int) + 2)=f + pre.length + kid.length + 2 := w64 _ (by omega)
   simp only [i64] at hcode
   by_cases hmo : re.mode=1
   ·simp only [zX,simprocAttr,i64,boxR,Re.cells_eq re,List.map_cons,List.map_nil,iD,bD,h1',h2,h5,h6,hlt,arrI,hkg,hkn,w1,w2,hm]
    refine call_pure hcode (by simp [refsV,refsV.go,reV_eq]) (by simp [refsV,refsV.go,reV_eq,i64,bV,reEl]) ?_
    simp only [zX,simprocAttr,i64,boxR,Re.cells_eq re,List.map_cons,List.map_nil,iD,bD,h1',h2,h5,h6,hlt,arrI,w1,w2,w3,w4,hm,hmo]
    refine ⟨fun e he=>by rw [List.mem_singleton.1 he]; rfl,⟨by simp,by omega⟩,ins_len _,⟨by simp,by omega⟩,fun e he=>by rw [List.mem_singleton.1 he]; rfl,⟨by simp,by omega⟩,?_⟩
    simp only [zX,simprocAttr,Qown]
    refine own_exit (id := 1) (by rfl) ?_ ?_
    ·rw [ins_take _ _ (Nat.le_refl _),List.take_of_length_le (by simp),List.take_of_length_le (by simp)]
     simp [splI,jmpI,Ins.cells,hmo,iD]
    ·simp; omega
   ·simp only [zX,simprocAttr,i64,boxR,Re.cells_eq re,List.map_cons,List.map_nil,iD,bD,h1',h2,h5,h6,hlt,arrI,hkg,hkn,w1,w2,hm]
    refine call_pure hcode (by simp [refsV,refsV.go,reV_eq]) (by simp [refsV,refsV.go,reV_eq,i64,bV,reEl]) ?_
    simp only [zX,simprocAttr,i64,boxR,Re.cells_eq re,List.map_cons,List.map_nil,iD,bD,h1',h2,h5,h6,hlt,arrI,w1,w2,w3,w4,hm,hmo]
    refine ⟨fun e he=>by rw [List.mem_singleton.1 he]; rfl,⟨by simp,by omega⟩,ins_len _,⟨by simp,by omega⟩,fun e he=>by rw [List.mem_singleton.1 he]; rfl,⟨by simp,by omega⟩,?_⟩
    simp only [zX,simprocAttr,Qown]
    refine own_exit (id := 1) (by rfl) ?_ ?_
    ·rw [ins_take _ _ (Nat.le_refl _),List.take_of_length_le (by simp),List.take_of_length_le (by simp)]
     simp [splI,jmpI,Ins.cells,hmo,iD]
    ·simp; omega
  ·rw [if_neg hm]
   have hmx1 := (hmx o4).resolve_left hm
   have w1 : IntKind.i64.wrap (f + re.csz)=f + re.csz := w64 _ (by omega)
   have hpo : ∀ j : Nat,((repPost k.code re.mode (f + re.csz) j (f + pre.length)).length : Int)=j * (k.csz + 1) := fun j=>repPost_len hkl _ _ j _
   have hpob : ∀ j : Nat,(j : Int)≤32→((repPost k.code re.mode (f + re.csz) j (f + pre.length)).length : Int)≤300000 := fun j hj=>by
    rw [hpo]
    have h2 : (j : Int) * (k.csz + 1)≤32 * 9001 := Int.mul_le_mul hj (by omega) (by omega) (by omega)
    omega
   simp only [zX,simprocAttr,i64,boxR,Re.cells_eq re,List.map_cons,List.map_nil,iD,bD,h1',h2,h5,h6,hlt,arrI,hkg,hkn,hm]
   simp only [reV_eq re,i64,iD,bD] at hsz
   refine call_pure hsz (by simp [refsV,refsV.go,reV_eq,i64,bV,reEl]) (by simp [refsV,refsV.go,reV_eq,i64,bV,reEl]) ?_
   simp only [zX,simprocAttr,i64,boxR,Re.cells_eq re,List.map_cons,List.map_nil,iD,bD,h1',h2,h5,h6,hlt,arrI,w1]
   refine loop_rule (fun n e s=>∃ (j g : Nat),n=(re.mx - re.mn).toNat - j∧(j : Int)≤re.mx - re.mn∧e 1=i64 f∧e 2=.rf 0 0 0 0∧e 5=.so 1 g 0 (pre ++ repPost k.code re.mode (f + re.csz) j (f + pre.length)).length∧e 11=i64 (f + re.csz)∧e 12=i64 (re.mn + j) ∧
     s=[boxR re,arrI g (pre ++ repPost k.code re.mode (f + re.csz) j (f + pre.length))])
    ⟨_,_,_,Cln.refl,0,g,rfl,by omega,?_,?_,?_,rfl,?_,by simp [boxR,Re.cells_eq re,iD,bD,arrI,repPost]⟩ ?_ <;> (try simp only [zU,Nat.reduceBEq,Nat.reduceShiftRight,Nat.reduceMod,Nat.reduceEqDiff,reduceIte])
   ·exact h1'
   ·exact h2
   ·rw [h5]; simp [repPost]
   ·simp [i64]
   clear h5 h6 h1' h2 hlt
   rintro n e s ⟨j,g,rfl,hj,h1',h2,h5,h11,h12,rfl⟩
   by_cases hlt : re.mn + (j : Int) < re.mx
   ·have hb3 := hpob j (by omega)
    generalize hpost : repPost k.code re.mode (f + re.csz) j (f + pre.length)=post at *
    have hnext : (f + (pre.length : Int)) + (post.length : Int) + 1=f + ((pre ++ post).length : Int) + 1 := by simp; omega
    have hsucc : pre ++ repPost k.code re.mode (f + re.csz) (j + 1) (f + pre.length)=(pre ++ post) ++ splI re.mode (f + ((pre ++ post).length : Int) + 1) (f + re.csz) :: k.code (f + ((pre ++ post).length : Int) + 1) := by rw [repPost,hpost,hnext,List.append_assoc]
    have hpl2 : ((pre ++ post).length : Int)=pre.length + post.length := by simp
    have hcode := hc (f + (pre ++ post).length + 1) (by omega) (by omega)
    have hkl1 := hkl (f + (pre ++ post).length + 1)
    have w2 : IntKind.i64.wrap (f + ((pre ++ post).length : Int))=f + (pre ++ post).length := w64 _ (by omega)
    have w3 : IntKind.i64.wrap (f + ((pre ++ post).length : Int) + 1)=f + (pre ++ post).length + 1 := w64 _ (by omega)
    generalize k.code (f + (pre ++ post).length + 1)=kid at *
    generalize pre ++ post=out at *
    simp only [i64] at hcode
    by_cases hmo' : re.mode=1
    ·have hmo := eq_true hmo'
     simp only [zX,simprocAttr,i64,boxR,Re.cells_eq re,List.map_cons,List.map_nil,iD,bD,h1',h2,h5,h11,h12,hlt,arrI,hkg,hkn,w2,w3,hmo]
     refine ⟨fun e he=>by rw [List.mem_singleton.1 he]; rfl,⟨by simp,by omega⟩,?_⟩
     refine call_pure hcode (by simp [refsV,refsV.go,reV_eq]) (by simp [refsV,refsV.go,reV_eq,i64,bV,reEl]) ?_
     simp only [zX,simprocAttr,i64,boxR,Re.cells_eq re,List.map_cons,List.map_nil,iD,bD,h1',h2,h5,h11,h12,hlt,arrI]
     refine ⟨ins_len _,⟨by simp,by omega⟩,(re.mx - re.mn).toNat - (j + 1),_,_,by omega,Cln.cut (s' := [boxR re,arrI (g + 1 + 1) (out ++ splI re.mode (f + (out.length : Int) + 1) (f + re.csz) :: kid)]) 2 (by omega) ?_ (by simp [boxR_ok,arrI_ok]) [1,2,5,11,12] ?_,j + 1,g + 1 + 1,rfl,by omega,?_,?_,?_,?_,?_,?_⟩ <;> (try simp only [zU,Nat.reduceBEq,Nat.reduceShiftRight,Nat.reduceMod,Nat.reduceEqDiff,reduceIte])
     ·simp only [List.take_succ_cons,List.take_zero]
      rw [ins_take _ _ (Nat.le_refl _),List.take_of_length_le (by simp)]
      simp [splI,Ins.cells,hmo,iD,arrI,boxR,Re.cells_eq re,bD]
     ·simp [updE,trimE_app,refsV,h1',h2,h11,i64]
     ·exact h1'
     ·exact h2
     ·rw [hsucc]; simp; omega
     ·exact h11
     ·rw [w64 _ (by omega)]; simp only [Int.natCast_add,Int.natCast_one,Int.add_assoc]
     ·rw [hsucc]; simp [arrI,boxR,Re.cells_eq re,iD,bD]
    ·have hmo := hmo'
     simp only [zX,simprocAttr,i64,boxR,Re.cells_eq re,List.map_cons,List.map_nil,iD,bD,h1',h2,h5,h11,h12,hlt,arrI,hkg,hkn,w2,w3,hmo]
     refine ⟨fun e he=>by rw [List.mem_singleton.1 he]; rfl,⟨by simp,by omega⟩,?_⟩
     refine call_pure hcode (by simp [refsV,refsV.go,reV_eq]) (by simp [refsV,refsV.go,reV_eq,i64,bV,reEl]) ?_
     simp only [zX,simprocAttr,i64,boxR,Re.cells_eq re,List.map_cons,List.map_nil,iD,bD,h1',h2,h5,h11,h12,hlt,arrI]
     refine ⟨ins_len _,⟨by simp,by omega⟩,(re.mx - re.mn).toNat - (j + 1),_,_,by omega,Cln.cut (s' := [boxR re,arrI (g + 1 + 1) (out ++ splI re.mode (f + (out.length : Int) + 1) (f + re.csz) :: kid)]) 2 (by omega) ?_ (by simp [boxR_ok,arrI_ok]) [1,2,5,11,12] ?_,j + 1,g + 1 + 1,rfl,by omega,?_,?_,?_,?_,?_,?_⟩ <;> (try simp only [zU,Nat.reduceBEq,Nat.reduceShiftRight,Nat.reduceMod,Nat.reduceEqDiff,reduceIte])
     ·simp only [List.take_succ_cons,List.take_zero]
      rw [ins_take _ _ (Nat.le_refl _),List.take_of_length_le (by simp)]
      simp [splI,Ins.cells,hmo,iD,arrI,boxR,Re.cells_eq re,bD]
     ·simp [updE,trimE_app,refsV,h1',h2,h11,i64]
     ·exact h1'
     ·exact h2
     ·rw [hsucc]; simp; omega
     ·exact h11
     ·rw [w64 _ (by omega)]; simp only [Int.natCast_add,Int.natCast_one,Int.add_assoc]
     ·rw [hsucc]; simp [arrI,boxR,Re.cells_eq re,iD,bD]
   ·have hje : j=(re.mx - re.mn).toNat := by omega
    subst hje
    simp only [zX,simprocAttr,i64,boxR,Re.cells_eq re,List.map_cons,List.map_nil,iD,bD,h1',h2,h5,h11,h12,hlt,arrI,Qown]
    exact own_exit (id := 1) (by rfl) (by rfl) (by simp)
end Go.Proofs.Ytdofoappodmcoaa
