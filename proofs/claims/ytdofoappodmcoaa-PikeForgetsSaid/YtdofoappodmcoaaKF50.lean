/- A part of the proof (K83 K84 K85). -/
import Derived.Test.YtdofoappodmcoaaKF42
import Derived.Test.YtdofoappodmcoaaKF43
import Derived.Test.YtdofoappodmcoaaKF49
set_option linter.unusedSimpArgs false
set_option linter.unusedVariables false
set_option maxRecDepth 100000
set_option maxHeartbeats 80000000
namespace Go.Proofs.Ytdofoappodmcoaa
open Go.VL Go.Proofs.Try
def naB (re : Re) : Bool := decide (re.op ≠ 11)
theorem codeCat_na {l : List Re} (h : ∀ k ∈ l,∀ f,∀ x ∈ k.code f,x.op ≠ 5) : ∀ f,∀ x ∈ Re.codeCat l f,x.op ≠ 5 := by
 induction l with
 | nil=>intro f x hx; simp [Re.codeCat] at hx
 | cons k l ih =>
  intro f x hx
  rcases List.mem_append.1 hx with hx | hx
  ·exact h k (by simp) f x hx
  ·exact ih (fun y hy=>h y (by simp [hy])) _ x hx
theorem codeAlt_na {l : List Re} (h : ∀ k ∈ l,∀ f,∀ x ∈ k.code f,x.op ≠ 5) : ∀ f,∀ x ∈ Re.codeAlt l f,x.op ≠ 5 := by
 induction l with
 | nil=>intro f x hx; simp [Re.codeAlt] at hx
 | cons k l ih =>
  intro f x hx
  cases l with
  | nil=>exact h k (by simp) f x (by simpa [Re.codeAlt] using hx)
  | cons k2 l2 =>
   rw [Re.codeAlt] at hx
   simp only [List.mem_cons,List.mem_append] at hx
   rcases hx with rfl | hx | rfl | hx
   ·simp [splI]
   ·exact h k (by simp) _ x hx
   ·simp [jmpI]
   ·exact ih (fun y hy=>h y (by simp only [List.mem_cons] at hy ⊢; exact .inr hy)) _ x hx
theorem splI_na (a b c : Int) : (splI a b c).op ≠ 5 := by unfold splI; split <;> simp
theorem code0_na {l : List Re} (h : ∀ k ∈ l,∀ f,∀ x ∈ k.code f,x.op ≠ 5) : ∀ f,∀ x ∈ Re.code0 l f,x.op ≠ 5 := by
 intro f x hx
 cases l with
 | nil=>simp [Re.code0] at hx
 | cons k l=>exact h k (by simp) f x hx
theorem code_na (re : Re) : re.every naB=true→∀ f,∀ x ∈ re.code f,x.op ≠ 5 := by
 induction re using Re.ind with
 | h re ih =>
 intro hw f x hx
 obtain ⟨h1,h2⟩ := (Re.every_iff re).1 hw
 have h11 : re.op ≠ 11 := of_decide_eq_true h1
 have hkid : ∀ k ∈ re.kids,∀ f,∀ x ∈ k.code f,x.op ≠ 5 := fun k hk=>ih k hk (h2 k hk)
 have h0 := code0_na hkid
 rw [Re.code_eq,if_neg h11] at hx
 by_cases o1 : re.op=1
 ·rw [if_pos o1] at hx
  rw [List.mem_singleton.1 hx]; simp
 rw [if_neg o1] at hx
 by_cases o2 : re.op=2
 ·rw [if_pos o2] at hx
  exact codeCat_na hkid f x hx
 rw [if_neg o2] at hx
 by_cases o3 : re.op=3
 ·rw [if_pos o3] at hx
  exact codeAlt_na hkid f x hx
 rw [if_neg o3] at hx
 by_cases o5 : re.op=5
 ·rw [if_pos o5] at hx
  simp only [List.mem_cons,List.mem_append,List.not_mem_nil,or_false] at hx
  rcases hx with rfl | hx | rfl
  ·simp [savI]
  ·exact h0 _ x hx
  ·simp [savI]
 rw [if_neg o5] at hx
 by_cases o4 : re.op=4
 ·rw [if_pos o4] at hx
  unfold repC at hx
  simp only at hx
  split at hx
  ·simp only [List.mem_cons,List.mem_append,List.not_mem_nil,or_false] at hx
   rcases hx with hx | rfl | hx | rfl
   ·obtain ⟨j,j1,j2,j3⟩ := repPre_mem _ _ hx
    exact h0 j x j3
   ·exact splI_na _ _ _
   ·exact h0 _ x hx
   ·simp [jmpI]
  ·rcases List.mem_append.1 hx with hx | hx
   ·obtain ⟨j,j1,j2,j3⟩ := repPre_mem _ _ hx
    exact h0 j x j3
   ·obtain ⟨j,j1,j2,j3⟩ := repPost_mem _ _ hx
    rcases j3 with j3 | rfl
    ·exact h0 j x j3
    ·exact splI_na _ _ _
 rw [if_neg o4] at hx
 cases hx
def Prg.na (g : Prg) : Prop := ∀ pc,(insAt g pc).op ≠ 5
theorem compR_na {p : Pat} (h : p.re.every naB=true) : (compR p).na := by
 intro pc
 unfold insAt
 rw [List.getD_eq_getElem?_getD]
 cases hx : (compR p).ins[pc.toNat]? with
 | none=>simp
 | some x =>
  have hm := List.mem_of_getElem? hx
  unfold compR at hm
  rcases List.mem_append.1 hm with hm | hm
  ·exact code_na p.re h 0 x hm
  ·rw [List.mem_singleton.1 hm]; simp [doneI]
theorem hasA_of {m : Mk} {u k : Int} (h : m.uses=u) (hb : (bitV .and .i64 u k)≤0) : m.has k=false := by
 unfold Mk.has
 rw [h]
 exact decide_eq_false (by omega)
def KA (u : Int) (t : Mk→Re × Mk) : Prop := ∀ m : Mk,m.uses=u→(t m).1.every naB=true∧(t m).2.uses=u
theorem every_na {op mn mx mode n : Int} {set : List (Int × Int)} {kids : List Re} {neg : Bool} (h11 : op ≠ 11) (hk : ∀ k ∈ kids,k.every naB=true) : (Re.mk op set kids mn mx mode n neg).every naB=true :=
 (Re.every_iff _).2 ⟨decide_eq_true h11,hk⟩
theorem one_na {k : Re} (h : k.every naB=true) : ∀ x ∈ [k],x.every naB=true := fun x hx=>by rw [List.mem_singleton.1 hx]; exact h
theorem set_na (m : Mk) : m.set.1.every naB=true := every_na (by decide) (fun k hk=>by cases hk)
theorem kidsFrom_na {u : Int} {t : Mk→Re × Mk} (ht : KA u t) : ∀ (f : Nat) (i : Int) (m : Mk),m.uses=u→(∀ k ∈ (kidsFrom t f i m).1,k.every naB=true)∧(kidsFrom t f i m).2.uses=u
 | 0,i,m,h=>⟨fun k hk=>by simp [kidsFrom] at hk,h⟩
 | f + 1,i,m,h=>by
  simp only [kidsFrom]
  split
  ·obtain ⟨h1,h2⟩ := ht (m.next 2).2 h
   obtain ⟨h3,h4⟩ := kidsFrom_na ht f (i + 1) _ h2
   refine ⟨fun k hk=>?_,h4⟩
   rcases List.mem_cons.1 hk with rfl | hk
   ·exact h1
   ·exact h3 k hk
  ·exact ⟨(fun k hk=>by cases hk),h⟩
theorem rep_na {u : Int} {t : Mk→Re × Mk} (ht : KA u t) : KA u (fun m=>m.rep t) := by
 intro m h
 have hmd : ∀ m : Mk,m.uses=u→(repMode m).2.uses=u := by
  intro m h
  unfold repMode
  simp only
  split <;> exact h
 obtain ⟨h3,h4⟩ := ht _ (hmd (m.next 12).2 h)
 have hk : (repKid t (repMode (m.next 12).2).2).1.every naB=true∧(repKid t (repMode (m.next 12).2).2).2.uses=u := by
  unfold repKid
  simp only
  split
  ·exact ⟨set_na _,h4⟩
  ·exact ⟨h3,h4⟩
 exact ⟨every_na (by decide) (one_na hk.1),hk.2⟩
theorem capNum_na {u : Int} (m : Mk) (h : m.uses=u) : (capNum m).2.uses=u := by
 unfold capNum
 simp only
 split
 ·exact h
 split
 ·split <;> exact h
 ·exact h
theorem capture_na {u : Int} {t : Mk→Re × Mk} (ht : KA u t) : KA u (fun m=>m.capture t) := by
 intro m h
 have h1 := capNum_na m h
 obtain ⟨h3,h4⟩ := ht ((capNum m).2.withCaps (max (capNum m).2.caps (capNum m).1)) h1
 exact ⟨every_na (by decide) (one_na h3),h4⟩
theorem node_na {u : Int} (h16u : bitV .and .i64 u 16≤0) (hu : NoX u) {t : Mk→Re × Mk} (ht : KA u t) (k : Int) : KA u (fun m=>m.node t k) := by
 intro m h
 have h16 : m.has 16=false := hasA_of h h16u
 have h4 : m.has 4=false := hasA_of h hu.looks
 have hkf := kidsFrom_na ht 4 0 m h
 simp only [Mk.node,h16,h4,Bool.false_eq_true,and_false,if_false]
 split
 ·exact ⟨every_na (by decide) hkf.1,hkf.2⟩
 split
 ·exact ⟨every_na (by decide) hkf.1,hkf.2⟩
 split
 ·exact rep_na ht m h
 split
 ·exact capture_na ht m h
 split
 ·exact capture_na ht m h
 split
 ·exact ⟨every_na (by decide) (one_na (ht m h).1),(ht m h).2⟩
 split
 ·exact ⟨every_na (by decide) (fun k hk=>by cases hk),h⟩
 split
 ·obtain ⟨h1,h2⟩ := ht (m.next m.caps).2 h
  obtain ⟨h3,h4⟩ := ht _ h2
  refine ⟨every_na (by decide) (fun k hk=>?_),h4⟩
  rcases List.mem_cons.1 hk with rfl | hk
  ·exact h1
  ·rw [List.mem_singleton.1 hk]; exact h3
 ·exact ⟨set_na m,h⟩
theorem empty_na : (Re.node 0 []).every naB=true := every_na (by decide) (fun k hk=>by cases hk)
theorem tree_na {u : Int} (h16u : bitV .and .i64 u 16≤0) (hu : NoX u) : ∀ d,KA u (Mk.tree d)
 | 0=>by
  intro m h
  simp only [Mk.tree]
  split
  ·exact ⟨empty_na,h⟩
  ·exact ⟨set_na _,h⟩
 | d + 1=>by
  intro m h
  simp only [Mk.tree]
  split
  ·split
   ·exact ⟨empty_na,h⟩
   ·exact ⟨set_na _,h⟩
  ·exact node_na h16u hu (tree_na h16u hu d) (m.less.next 20).1 (m.less.next 20).2 h
theorem pat_na (l : List Int) (u most : Int) (h16u : bitV .and .i64 u 16≤0) (hu : NoX u) : (patOf l u most).re.every naB=true := (tree_na h16u hu 5 ⟨l,0,u,most,0⟩ rfl).1
theorem fits_tpA (l m : List Int) (hl : ∀ x ∈ l,I64 x) (hm : ∀ x ∈ m,I64 x) (u : Int) (hu : NoX u) (h16 : bitV .and .i64 u 16≤0) : ∃ (p : Pat) (t : List Int),PureOK prog 43 [.d (intsD l),.d (intsD m),i64 u,i64 24,i64 3000] (.tu [patV p,.d (intsD t)]) ∧
  PlainR p t∧p.re.every (opB (capB u))=true∧p.re.every naB=true := by
 obtain ⟨hv,hsz⟩ := pat_valid l u 24 hl (by omega) (by omega)
 have hsm := pat_small l u 24 hl (by omega) (by omega)
 have hfine : (patOf l u 24).re.fine=true := small_fine (by omega) _ hsm.ev
 have htl : (textR m 12).length≤12 := by simp [textR]; omega
 obtain ⟨g1,g2,g3⟩ := fits_good (p := patOf l u 24) (t := textR m 12) (F := 3000) hv hfine (by omega) (by omega) ((textR m 12).length + 1) (Nat.le_refl _)
 obtain ⟨s0,s1,s2⟩ := pat_tp l u 24 hu
 obtain ⟨v1,v2,v3,v4,v5⟩ := validR_spec hv
 have sn := pat_na l u 24 h16 hu
 have hre := fits_re (patOf l u 24) (textR m 12) 3000 ((textR m 12).length + 1)
 refine ⟨_,_,fits_ok l m hl hm u 24 3000 (by omega) (by omega),?_,?_⟩
 ·rcases hre with h | h
  ·exact ⟨g1,by rw [h]; exact hv,g2,by rw [h]; exact s0,by rw [h]; exact s1,by omega,by rw [h]; rfl⟩
  ·refine ⟨g1,?_,g2,?_,?_,by omega,by rw [h]⟩
   ·rw [h]; exact empty_valid _ v3 v4
   ·rw [h]; show 0≤cszN 0 0 0 _ _; simp [cszN,Re.cszL]; decide
   ·rw [h]; show cszN 0 0 0 _ _≤4000; simp [cszN,Re.cszL]; decide
 ·rcases hre with h | h
  ·rw [h]; exact ⟨s2,sn⟩
  ·rw [h]
   refine ⟨?_,empty_na⟩
   exact every_mk (decide_eq_true ⟨.inl rfl,fun h=>absurd (show (0 : Int)=4 from h) (by decide),fun h=>absurd (show (0 : Int)=5 from h) (by decide)⟩) (fun k hk=>by cases hk)
theorem plainA_ok (l m : List Int) (hl : ∀ x ∈ l,I64 x) (hm : ∀ x ∈ m,I64 x) : ∃ (p : Pat) (t : List Int),PureOK prog 25 [.d (intsD l),.d (intsD m),bV false] (.tu [patV p,.d (intsD t)])∧PlainR p t∧p.re.comp []=true∧p.re.every naB=true := by
 obtain ⟨p,t,h1,h2,h3,h4⟩ := fits_tpA l m hl hm 64 ⟨by decide,by decide,by decide,by decide,by decide⟩ (by decide)
 obtain ⟨p',t',h1',h2',h3',h4'⟩ := fits_tpA l m hl hm 0 ⟨by decide,by decide,by decide,by decide,by decide⟩ (by decide)
 have hc' : capB 0=false := by decide
 have hw : IntKind.i64.wrap (64 - 64)=0 := by decide
 obtain ⟨v1,v2,v3,v4,v5⟩ := validR_spec h2.valid
 have hC := kshC_of v4 p.re v5 (by omega)
 have hcomp := comp_ok p.re [] (every_CB hC) (by omega) (by simp; omega)
 cases hcc : p.re.comp [] with
 | true =>
  refine ⟨p,t,?_,h2,hcc,h4⟩
  rw [hcc] at hcomp
  clear h1' h3 h3'
  cases p with
  | mk re caps runes =>
  simp only [patV,Re.cells_eq re,List.map_cons,List.map_nil,List.cons_append,List.nil_append,reV_eq re,i64,iD,bD,bV] at h1 hcomp ⊢
  refine fn_ok func25 rfl ntmps25 results25 rfl 0 1991 (by simp) (by simp) ?_
  simp only [zX,simprocAttr,i64,bV,Bool.false_eq_true]
  refine call_pure h1 rfl rfl ?_
  simp only [zX,simprocAttr,i64,bV,iD,bD]
  refine call_give [] (by rfl) (call_pure hcomp rfl rfl ?_)
  simp only [zX,simprocAttr,killO,i64,bV,iD,bD,Bool.not_true,Bool.false_eq_true]
  all_goals first | exact ⟨rfl,rfl⟩ | exact ⟨rfl,trivial⟩ | rfl | trivial | (rw [reV_eq]; rfl)
 | false =>
  refine ⟨p',t',?_,h2',opB_comp _ (by rw [← hc']; exact h3') [],h4'⟩
  rw [hcc] at hcomp
  clear h3 h3'
  cases p with
  | mk re caps runes =>
  cases p' with
  | mk re' caps' runes' =>
  simp only [patV,Re.cells_eq re,Re.cells_eq re',List.map_cons,List.map_nil,List.cons_append,List.nil_append,reV_eq re,i64,iD,bD,bV] at h1 h1' hcomp ⊢
  refine fn_ok func25 rfl ntmps25 results25 rfl 0 1991 (by simp) (by simp) ?_
  simp only [zX,simprocAttr,i64,bV,Bool.false_eq_true]
  refine call_pure h1 rfl rfl ?_
  simp only [zX,simprocAttr,i64,bV,iD,bD]
  refine call_give [] (by rfl) (call_pure hcomp rfl rfl ?_)
  simp only [zX,simprocAttr,killO,i64,bV,iD,bD,Bool.not_false,hw]
  refine call_pure h1' rfl rfl ?_
  simp only [zX,simprocAttr,i64,bV,iD,bD]
  all_goals first | exact ⟨rfl,rfl⟩ | exact ⟨rfl,trivial⟩ | rfl | trivial | (rw [reV_eq]; rfl)
theorem rAdd_t {g : Prg} (hg : g.na) (t t' : List Int) (a : Int) : ∀ (k : Nat) (pc : Int) (regs : List Int) (st : RSt),rAdd g t a k pc regs st=rAdd g t' a k pc regs st
 | 0,_,_,_=>rfl
 | k + 1,pc,regs,st=>by
  simp only [rAdd,rAdd_t hg t t' a k,if_neg (hg pc)]
def ShS (st st' : RSt) : Prop := st.added=st'.added∧st.ths.map RTh.pc=st'.ths.map RTh.pc
theorem rAdd_sh {g : Prg} (hg : g.na) (t t' : List Int) (a a' : Int) : ∀ (k : Nat) (pc : Int) (regs regs' : List Int) (st st' : RSt),ShS st st'→ShS (rAdd g t a k pc regs st) (rAdd g t' a' k pc regs' st')
 | 0,_,_,_,_,_,h=>h
 | k + 1,pc,regs,regs',st,st',h=>by
  obtain ⟨h1,h2⟩ := h
  rw [rAdd,rAdd,h1]
  by_cases hc : st'.added.getD pc.toNat true=true
  ·rw [if_pos hc,if_pos hc]; exact ⟨h1,h2⟩
  rw [if_neg hc,if_neg hc]
  have hs : ShS ⟨st'.added.set pc.toNat true,st.ths⟩ ⟨st'.added.set pc.toNat true,st'.ths⟩ := ⟨rfl,h2⟩
  simp only [if_neg (hg pc)]
  split
  ·exact rAdd_sh hg t t' a a' k _ _ _ _ _ (rAdd_sh hg t t' a a' k _ _ _ _ _ hs)
  split
  ·exact rAdd_sh hg t t' a a' k _ _ _ _ _ hs
  split
  ·exact rAdd_sh hg t t' a a' k _ _ _ _ _ hs
  ·exact ⟨rfl,by simp only [List.map_append,h2,List.map_cons,List.map_nil]⟩
theorem cutR_sh (g : Prg) : ∀ (l l' : List RTh),l.map RTh.pc=l'.map RTh.pc→(cutR g l).1.map RTh.pc=(cutR g l').1.map RTh.pc∧(cutR g l).2=(cutR g l').2
 | [],[],_=>⟨rfl,rfl⟩
 | [],_ :: _,h=>by simp at h
 | _ :: _,[],h=>by simp at h
 | x :: l,y :: l',h=>by
  simp only [List.map_cons,List.cons.injEq] at h
  obtain ⟨h1,h2⟩ := h
  have ih := cutR_sh g l l' h2
  simp only [cutR,h1]
  split
  ·exact ⟨by simp [h1],rfl⟩
  ·exact ⟨by simp [h1,ih.1],ih.2⟩
theorem next_sh {g : Prg} (hg : g.na) {t t' : List Int} {a a' : Int} (ht : tAt t a=tAt t' a') : ∀ (l l' : List RTh) (st st' : RSt),l.map RTh.pc=l'.map RTh.pc→ShS st st'→ShS (l.foldl (nextS g t a) st) (l'.foldl (nextS g t' a') st')
 | [],[],_,_,_,h=>h
 | [],_ :: _,_,_,h,_=>by simp at h
 | _ :: _,[],_,_,h,_=>by simp at h
 | x :: l,y :: l',st,st',h,hs=>by
  simp only [List.map_cons,List.cons.injEq] at h
  obtain ⟨h1,h2⟩ := h
  rw [List.foldl_cons,List.foldl_cons]
  refine next_sh hg ht l l' _ _ h2 ?_
  simp only [nextS,h1,ht]
  split
  ·exact rAdd_sh hg t t' _ _ _ _ _ _ _ _ hs
  ·exact hs
def ShL (k : Int) (l l' : RList) : Prop := l'.at_=l.at_ + k∧ShS l.st l'.st
theorem begin_sh {g : Prg} (hg : g.na) (t t' : List Int) (a k : Int) : ShL k (beginR g t a) (beginR g t' (a + k)) := ⟨rfl,rAdd_sh hg t t' _ _ _ _ _ _ _ _ ⟨rfl,rfl⟩⟩
theorem nextR_sh {g : Prg} (hg : g.na) {t t' : List Int} {k : Int} {l l' : RList} (h : ShL k l l') (ht : tAt t l.at_=tAt t' l'.at_) : ShL k (nextR g t l) (nextR g t' l') := by
 obtain ⟨h1,h2⟩ := h
 refine ⟨by show l'.at_ + 1=l.at_ + 1 + k; omega,?_⟩
 exact next_sh hg ht _ _ _ _ (cutR_sh g _ _ h2.2).1 ⟨rfl,rfl⟩
theorem iter_sh {g : Prg} (hg : g.na) {t t' : List Int} {k : Int} : ∀ (m : Nat) (l l' : RList),ShL k l l'→(∀ i : Nat,i < m→tAt t (l.at_ + i)=tAt t' (l.at_ + i + k))→ShL k (iterR g t m l) (iterR g t' m l')
 | 0,_,_,h,_=>h
 | m + 1,l,l',h,ht=>by
  have h0 := ht 0 (by omega)
  rw [show l.at_ + ((0 : Nat) : Int)=l.at_ by omega,← h.1] at h0
  refine iter_sh hg m _ _ (nextR_sh hg h h0) (fun i hi=>?_)
  have := ht (i + 1) (by omega)
  have e : (nextR g t l).at_ + (i : Int)=l.at_ + ((i + 1 : Nat) : Int) := by show l.at_ + 1 + (i : Int)=_; omega
  rw [e]; exact this
def OR (k : Int) (a b : Option Mat) : Prop := a.isSome=b.isSome∧(a.isSome=true→(optM b).e=(optM a).e + k)
theorem best_sh {g : Prg} {k s s' : Int} {l l' : RList} {b b' : Option Mat} (h : ShL k l l') (hb : OR k b b') : OR k (bestR g s l b) (bestR g s' l' b') := by
 unfold bestR
 rw [(cutR_sh g _ _ h.2.2).2]
 split
 ·exact ⟨rfl,fun _=>h.1⟩
 ·exact hb
theorem cut_nil {g : Prg} {k : Int} {l l' : RList} (h : ShL k l l') : (cutR g l.st.ths).1=[] ↔ (cutR g l'.st.ths).1=[] := by
 have := (cutR_sh g _ _ h.2.2).1
 rw [← List.map_eq_nil_iff (f := RTh.pc),this,List.map_eq_nil_iff]
theorem run_sh {g : Prg} (hg : g.na) {t t' : List Int} {k s s' : Int} (hlen : (t'.length : Int)=t.length + k) (ht : ∀ i : Int,0≤i→i < t.length→tAt t i=tAt t' (i + k)) : ∀ (m m' : Nat) (l l' : RList) (b b' : Option Mat),0≤l.at_→l.at_≤t.length→(t.length : Int) - l.at_ < m→(t.length : Int) - l.at_ < m'→ShL k l l'→OR k b b'→OR k (runR g t s m l b) (runR g t' s' m' l' b')
 | 0,m',l,l',b,b',h0,ha,hm,hm',h,hb=>by omega
 | m + 1,0,l,l',b,b',h0,ha,hm,hm',h,hb=>by omega
 | m + 1,m' + 1,l,l',b,b',h0,ha,hm,hm',h,hb=>by
  have h1 := h.1
  rw [runR,runR]
  by_cases hc : (cutR g l.st.ths).1=[] ∨ (t.length : Int)≤l.at_
  ·rw [if_pos hc,if_pos (hc.elim (fun x=>.inl ((cut_nil h).1 x)) (fun x=>.inr (by omega)))]
   exact best_sh h hb
  ·rw [if_neg hc,if_neg (fun x=>hc (x.elim (fun y=>.inl ((cut_nil h).2 y)) (fun y=>.inr (by omega))))]
   have hlt : l.at_ < t.length := by omega
   refine run_sh hg hlen ht m m' _ _ _ _ (by show 0≤l.at_ + 1; omega) (by show l.at_ + 1≤t.length; omega) (by show (t.length : Int) - (l.at_ + 1) < m; omega) (by show (t.length : Int) - (l.at_ + 1) < m'; omega) (nextR_sh hg h ?_) (best_sh h hb)
   rw [h1]; exact ht _ h0 hlt
theorem next_eq {g : Prg} (hg : g.na) {t t' : List Int} {l : RList} (h : tAt t l.at_=tAt t' l.at_) : nextR g t l=nextR g t' l := by
 unfold nextR nextF
 have : nextS g t l.at_=nextS g t' l.at_ := by
  funext st x
  unfold nextS
  rw [h,rAdd_t hg t t']
 rw [this]
theorem run_forget {g : Prg} (hg : g.na) {t t' : List Int} (s : Int) : ∀ (j m m' : Nat) (l : RList) (b : Option Mat),(cutR g (iterR g t j l).st.ths).1=[]→j < m→j < m'→l.at_ + j≤t.length→l.at_ + j≤t'.length→(∀ i : Int,l.at_≤i→i < l.at_ + j→tAt t i=tAt t' i)→runR g t s m l b=runR g t' s m' l b
 | _,0,_,_,_,_,h,_,_,_,_=>by omega
 | _,_ + 1,0,_,_,_,_,h,_,_,_=>by omega
 | 0,m + 1,m' + 1,l,b,hc,_,_,_,_,_=>by
  rw [runR,runR,if_pos (.inl hc),if_pos (.inl hc)]
 | j + 1,m + 1,m' + 1,l,b,hc,h1,h2,h3,h4,ht=>by
  rw [runR,runR]
  by_cases hn : (cutR g l.st.ths).1=[]
  ·rw [if_pos (.inl hn),if_pos (.inl hn)]
  ·rw [if_neg (fun x=>x.elim hn (fun y=>by omega)),if_neg (fun x=>x.elim hn (fun y=>by omega)),← next_eq hg (ht l.at_ (by omega) (by omega))]
   refine run_forget hg s j m m' _ _ hc (by omega) (by omega) (by show l.at_ + 1 + (j : Int)≤_; omega) (by show l.at_ + 1 + (j : Int)≤_; omega) (fun i hi hi2=>ht i ?_ ?_)
   ·have hi : l.at_ + 1≤i := hi
    omega
   ·have hi2 : i < l.at_ + 1 + (j : Int) := hi2
    omega
theorem run0_forget {g : Prg} (hg : g.na) (t o : List Int) (n : Nat) (hn : n≤t.length) (h : thr0 g t 0 n=[]) : run0 g t 0=run0 g (t.take n ++ o) 0 := by
 unfold thr0 at h
 rw [List.map_eq_nil_iff,Int.sub_zero,Int.toNat_natCast] at h
 have hb : beginR g (t.take n ++ o) 0=beginR g t 0 := by
  unfold beginR; rw [rAdd_t hg _ t]
 unfold run0
 rw [hb]
 have hl : (t.take n ++ o).length=n + o.length := by rw [List.length_append,List.length_take]; omega
 refine run_forget hg 0 n _ _ _ none h (by omega) (by omega) (by show (0 : Int) + n≤_; omega) (by show (0 : Int) + n≤_; omega) (fun i hi hi2=>?_)
 have hi : (0 : Int)≤i := hi
 have hi2 : i < 0 + (n : Int) := hi2
 unfold tAt
 rw [List.getD_eq_getElem?_getD,List.getD_eq_getElem?_getD,List.getElem?_append_left (by rw [List.length_take]; omega),List.getElem?_take_of_lt (by omega)]
theorem tAt_app (o t : List Int) (i : Int) (h0 : 0≤i) : tAt t i=tAt (o ++ t) (i + o.length) := by
 unfold tAt
 rw [List.getD_eq_getElem?_getD,List.getD_eq_getElem?_getD,List.getElem?_append_right (by omega)]
 congr 2
 omega
theorem thr0_moved {g : Prg} (hg : g.na) (t o : List Int) (n : Nat) (hn : n≤t.length) : thr0 g (o ++ t) o.length (o.length + n)=thr0 g t 0 n := by
 unfold thr0
 have e1 : ((o.length : Int) + n - o.length).toNat=n := by omega
 have e2 : ((n : Int) - 0).toNat=n := by omega
 rw [e1,e2]
 have hb := begin_sh hg t (o ++ t) 0 o.length
 rw [Int.zero_add] at hb
 have hi := iter_sh hg n _ _ hb (fun i hi=>by
  have e : (beginR g t 0).at_=0 := rfl
  rw [e,Int.zero_add]
  exact tAt_app o t i (by omega))
 exact (cutR_sh g _ _ hi.2.2).1.symm
theorem run0_moved {g : Prg} (hg : g.na) (t o : List Int) : OR o.length (run0 g t 0) (run0 g (o ++ t) o.length) := by
 unfold run0
 have hb := begin_sh hg t (o ++ t) 0 o.length
 rw [Int.zero_add] at hb
 have e : (beginR g t 0).at_=0 := rfl
 have hl : ((o ++ t).length : Int)=t.length + o.length := by rw [List.length_append]; omega
 exact run_sh hg hl (fun i h0 _=>tAt_app o t i h0) _ _ _ _ none none (by omega) (by omega) (by omega) (by omega) hb ⟨rfl,fun h=>by cases h⟩
end Go.Proofs.Ytdofoappodmcoaa
