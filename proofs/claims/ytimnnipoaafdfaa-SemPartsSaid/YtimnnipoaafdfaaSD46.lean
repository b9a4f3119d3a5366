/- A part of the proof (E9). -/
import Derived.Test.YtimnnipoaafdfaaSD41
import Derived.Test.YtimnnipoaafdfaaSD45
set_option linter.unusedSimpArgs false
set_option linter.unusedVariables false
set_option maxRecDepth 100000
set_option maxHeartbeats 80000000
namespace Go.Proofs.Ytimnnipoaafdfaa
open Go.VL Go.Proofs.Try
theorem ev_enter {t : List Int} {F most i : Int} {re : Re} {nx : Goal} {c : CapsL} {st : Sst} (g : Nat) (h0 : 0≤i) (h1 : i≤t.length) (ho : re.op ≠ 4) (hs : re.set.length≤1000000000) (hk : re.kids.length≤1000000000) (hc : c.length≤1000000000) (s0 : 0≤st.steps) (s1 : st.steps + 1≤F) (hF : F≤1099511627776) (he : st.empty=false) :
  evR t F (g + 2) most (.run (.mk 0 re 0 0 nx) i c) st=nodeR t (evR t F g) most re nx i c ⟨st.steps + 1,false,st.ends,st.caps⟩ := by
 have hst : st.step F=⟨st.steps + 1,false,st.ends,st.caps⟩ := by
  unfold Sst.step
  rw [he,Bool.false_or,decide_eq_false (by omega)]
 show evStep t F (evR t F (g + 1)) most (.run (.mk 0 re 0 0 nx) i c) st=_
 simp only [evStep]
 rw [if_neg (by omega),if_neg (by decide),if_neg (by decide),if_neg (by decide),if_neg (by decide)]
 show evStep t F (evR t F g) most (.node (.mk 0 re 0 0 nx) i c) st=_
 simp only [evStep]
 rw [if_neg (by omega),if_neg ho,if_neg (by omega),if_neg (by omega),hst,if_neg (by simp)]
def bothP (p q : Pat) : Pat := ⟨.mk 3 [] [p.re,q.re] 0 0 0 0 false,p.caps,false⟩
def atomQ (p : Pat) : Pat := ⟨.mk 9 [] [p.re] 0 0 0 0 false,p.caps,false⟩
theorem valid7_of {p q : Pat} {t : List Int} {F F' : Int} (h : valid7 p t F=0) (hq : validR q=0) (hr : q.runes=p.runes) (h0 : 0≤F') (h1 : F'≤1099511627776) : valid7 q t F'=0 := by
 obtain ⟨v1,v2,v3,v4,v5⟩ := valid7_spec h
 unfold valid7
 rw [if_neg (by rw [hq]; simp),if_neg (by omega),if_neg (show ¬ (t.all (symB q.runes)=false) by rw [hr,v3]; simp),if_neg (by omega)]
theorem search_pr {p : Pat} {t : List Int} {i F F' d : Int} {E : List Int} {C : List CapsL} (h : allE p t i (-1) F=0) (hF : F + d≤F') (hF' : F'≤1099511627776) (d0 : 0≤d) (hC : C.length=E.length) (hE : E.length≤1000000000000) (hF1 : F≤100000000000) :
  ∃ n,evR t F' n (-1) (.run (.mk 0 p.re 0 0 .nil) i (cap0 p)) ⟨d,false,E,C⟩=some (false,⟨allN p t i (-1) F + d,false,E ++ (searchX p t i (-1) F).2.ends,C ++ (searchX p t i (-1) F).2.caps⟩) := by
 have hle := steps_le h
 obtain ⟨g1,_,g3,g4⟩ := fuel_same (f' := F' - d) h (by omega) (by omega)
 have hel := ends_le h
 obtain ⟨hv,h0,h1,he⟩ := allE_valid g1
 obtain ⟨n,b,x,e1,e2⟩ := search_at (most := -1) hv h0 h1
 have hN : allN p t i (-1) F=x.steps := by rw [← g3]; unfold allN; rw [if_pos g1,e1]
 rw [e1] at he g4
 rw [← g4] at hel ⊢
 simp only at he hel ⊢
 have hb : b=false := ((evI_of n _ _ _ _ _ e2).all rfl rfl he).1
 subst hb
 refine ⟨n,?_⟩
 have h2 := (ahead_all (F := F' - d) (E := E) (C := C) d0 hC n _ _ _ _ e2).2.2 (by omega) (by omega)
 rw [show F' - d + d=F' by omega] at h2
 have hz : (Sst.pr d E C ⟨0,false,[],[]⟩)=⟨d,false,E,C⟩ := by simp [Sst.pr]
 rw [hz] at h2
 rw [h2,hN]
 simp only [Sst.pr,he]
theorem both_law {p q : Pat} {t : List Int} {i F G F' : Int} (hp : allE p t i (-1) F=0) (hq : allE q t i (-1) G=0) (hcq : q.caps=p.caps) (hr : p.runes=false) (hv : validR (bothP p q)=0) (hF : F + G + 1≤F') (hF' : F'≤100000000000) :
  allE (bothP p q) t i (-1) F'=0∧allM (bothP p q) t i (-1) F'=allM p t i (-1) F ++ allM q t i (-1) G := by
 obtain ⟨hv7,h0,h1,_⟩ := allE_valid hp
 obtain ⟨v1,v2,v3,v4,v5⟩ := valid7_spec hv7
 obtain ⟨k1,k2,k3,k4,k5⟩ := validR_spec v1
 have hGz : 0≤G := by
  obtain ⟨hv7',_,_,_⟩ := allE_valid hq
  exact (valid7_spec hv7').2.2.2.1
 have hpl := steps_le hp
 have hql := steps_le hq
 have hpe := ends_le hp
 have hcl : (cap0 p).length≤9 := by unfold cap0; rw [List.length_replicate]; omega
 obtain ⟨n1,e1⟩ := search_pr (F' := F') (d := 1) (E := []) (C := []) hp (by omega) (by omega) (by omega) rfl (by simp) (by omega)
 obtain ⟨n2,e2⟩ := search_pr (F' := F') (d := allN p t i (-1) F + 1) (E := (searchX p t i (-1) F).2.ends) (C := (searchX p t i (-1) F).2.caps) hq (by omega) (by omega) (by omega) (searchX_caps hp) (by omega) (by omega)
 have hc : cap0 (bothP p q)=cap0 p := rfl
 have hc2 : cap0 q=cap0 p := by unfold cap0; rw [hcq]
 rw [hc2] at e2
 simp only [List.nil_append] at e1
 have e1 := evR_mono (Nat.le_max_left n1 n2) e1
 have e2 := evR_mono (Nat.le_max_right n1 n2) e2
 generalize max n1 n2=n at *
 have hev : evR t F' (n + 2) (-1) (.run (.mk 0 (bothP p q).re 0 0 .nil) i (cap0 (bothP p q))) ⟨0,false,[],[]⟩=some (false,⟨allN q t i (-1) G + (allN p t i (-1) F + 1),false,(searchX p t i (-1) F).2.ends ++ (searchX q t i (-1) G).2.ends,(searchX p t i (-1) F).2.caps ++ (searchX q t i (-1) G).2.caps⟩) := by
  rw [hc,ev_enter n h0 h1 (by show (3 : Int) ≠ 4; decide) (by show (0 : Nat)≤_; omega) (by show (2 : Nat)≤_; omega) (by omega) (Int.le_refl _) (by show (0 : Int) + 1≤F'; omega) (by omega) rfl]
  show nodeR t (evR t F' n) (-1) (.mk 3 [] [p.re,q.re] 0 0 0 0 false) .nil i (cap0 p) ⟨1,false,[],[]⟩=_
  unfold nodeR
  rw [if_neg (by show ¬ (3 : Int)=1; decide),if_neg (by show ¬ (3 : Int)=2; decide),if_pos (by show (3 : Int)=3; rfl)]
  show orR (evR t F' n (-1) (.run (.mk 0 p.re 0 0 .nil) i (cap0 p)) ⟨1,false,[],[]⟩) (fun s=>orR (evR t F' n (-1) (.run (.mk 0 q.re 0 0 .nil) i (cap0 p)) s) (fun s=>some (false,s)))=_
  rw [e1]
  simp only [orR]
  rw [e2]
 have hX : searchX (bothP p q) t i (-1) F'=(false,_) := evX_eq hev
 have hvb := valid7_of (F' := F') hv7 hv (by rw [hr]; rfl) (by omega) (by omega)
 have hEb : allE (bothP p q) t i (-1) F'=0 := allE_zero hvb h0 h1 (by rw [hX])
 refine ⟨hEb,?_⟩
 have hpc := searchX_caps hp
 unfold allM
 rw [if_pos hEb,if_pos hp,if_pos hq,hX]
 exact List.zip_append hpc.symm
theorem atomQ_law {p : Pat} {t : List Int} {i F : Int} (hA : allE p t i (-1) F=0) (hr : p.runes=false) (hq : validR (atomQ p)=0) (hF : F + 1≤1099511627776) :
  allE (atomQ p) t i (-1) (F + 1)=0∧allM (atomQ p) t i (-1) (F + 1)=(allM p t i (-1) F).take 1 := by
 obtain ⟨hE,hM1,_⟩ := prefix_law (n := 1) (Nat.le_refl 1) hA
 rw [show ((1 : Nat) : Int)=1 from rfl] at hE hM1
 obtain ⟨hv,h0,h1,he⟩ := allE_valid hE
 obtain ⟨v1,v2,v3,v4,v5⟩ := valid7_spec hv
 obtain ⟨k1,k2,k3,k4,k5⟩ := validR_spec v1
 obtain ⟨n,e1,e2⟩ := search_ends (most := 1) hv h0 h1
 have hcl : (cap0 p).length≤9 := by unfold cap0; rw [List.length_replicate]; omega
 have hvq := valid7_of (F' := F + 1) hv hq (by rw [hr]; rfl) (by omega) hF
 have hcapl := searchX_caps hE
 have hM : allM p t i 1 F=(searchX p t i 1 F).2.ends.zip (searchX p t i 1 F).2.caps := by unfold allM; rw [if_pos hE]
 have hlen : ((searchX p t i 1 F).2.ends).length≤1 := by
  have h3 : (allM p t i 1 F).length≤1 := by rw [hM1,List.length_take]; omega
  rw [hM,List.length_zip,hcapl] at h3
  simpa using h3
 rw [← hM1,hM]
 generalize searchX p t i 1 F=X at *
 obtain ⟨b0,xs,xe,xends,xcaps⟩ := X
 simp only at he hM e1 e2 hlen hcapl ⊢
 subst he
 have hs1 := e2.s1
 have hs0 : (0 : Int)≤xs := e2.s0
 obtain ⟨new,newc,m1,m2,m3,m4,m5,m6⟩ := e2.more
 simp only [List.nil_append] at m1 m2 hs1
 have hsh : evR t (F + 1) n 1 (.run (.mk 0 p.re 0 0 .nil) i (cap0 p)) ⟨1,false,[],[]⟩=some (b0,⟨xs + 1,false,xends,xcaps⟩) := (shift_all (F := F) (d := 1) (by omega) n 1 _ _ _ _ e1).2 (by show xs + 1≤_; omega)
 obtain ⟨n,rfl⟩ : ∃ k,n=k + 1 := by cases n with | zero=>cases e1 | succ k=>exact ⟨k,rfl⟩
 have hev : ∃ b,evR t (F + 1) (n + 1 + 2) (-1) (.run (.mk 0 (atomQ p).re 0 0 .nil) i (cap0 (atomQ p))) ⟨0,false,[],[]⟩=some (b,⟨xs + 1,false,xends,xcaps⟩) := by
  rw [show cap0 (atomQ p)=cap0 p from rfl,ev_enter (n + 1) h0 h1 (by show (9 : Int) ≠ 4; decide) (by show (0 : Nat)≤_; omega) (by show (1 : Nat)≤_; omega) (by omega) (Int.le_refl _) (by show (0 : Int) + 1≤F + 1; omega) hF rfl]
  show ∃ b,nodeR t (evR t (F + 1) (n + 1)) (-1) (.mk 9 [] [p.re] 0 0 0 0 false) .nil i (cap0 p) ⟨1,false,[],[]⟩=_
  unfold nodeR
  rw [if_neg (by show ¬ (9 : Int)=1; decide),if_neg (by show ¬ (9 : Int)=2; decide),if_neg (by show ¬ (9 : Int)=3; decide),if_neg (by show ¬ (9 : Int)=5; decide),if_neg (by show ¬ (9 : Int)=6; decide),if_neg (by show ¬ ((9 : Int)=7 ∨ (9 : Int)=8); decide),if_pos (by show (9 : Int)=9; rfl)]
  show ∃ b,(match firstR (evR t (F + 1) (n + 1)) (.mk 0 p.re 0 0 .nil) i (cap0 p) ⟨1,false,[],[]⟩ with
   | none=>none
   | some (r,st')=>if st'.empty then some (true,st') else match r with
    | some (e,d)=>evR t (F + 1) (n + 1) (-1) (.run .nil e d) st'
    | none=>some (false,st'))=_
  unfold firstR
  rw [hsh]
  simp only [Bool.false_eq_true,if_false]
  match xends,xcaps,hlen,hcapl,m1 with
  | [],[],_,_,_=>exact ⟨false,rfl⟩
  | [r],[d],_,_,m1 =>
   have hr := m5 r (by rw [← m1]; simp)
   refine ⟨decide ((0 : Int)≤-1) && decide ((-1 : Int)≤1),?_⟩
   show evStep t (F + 1) (evR t (F + 1) n) (-1) (.run .nil r d) _=_
   simp only [evStep]
   rw [if_neg (by omega),if_pos (by simp)]
   simp
  | _ :: _ :: _,_,h,_,_=>simp at h
  | [],_ :: _,_,h,_=>simp at h
  | [_],[],_,h,_=>simp at h
  | [_],_ :: _ :: _,_,h,_=>simp at h
 obtain ⟨b,hev⟩ := hev
 have hX : searchX (atomQ p) t i (-1) (F + 1)=(b,⟨xs + 1,false,xends,xcaps⟩) := evX_eq hev
 have hEq : allE (atomQ p) t i (-1) (F + 1)=0 := allE_zero hvq h0 h1 (by rw [hX])
 refine ⟨hEq,?_⟩
 unfold allM
 rw [if_pos hEq,hX]
def abRe : Re := .mk 1 [(97,98)] [] 0 0 0 0 false
def abRep (mn mx mode : Int) : Re := .mk 4 [] [abRe] mn mx mode 0 false
def abP (mn mx mode : Int) : Pat := ⟨abRep mn mx mode,0,false⟩
def abEnd (mn mx : Int) (lazy : Bool) (k i : Int) (more : List Int) : List Int :=
 if k < mn then more else if ¬ (mx=-1 ∨ k < mx) then [i] else if lazy=true then i :: more else more ++ [i]
def abR (t : List Int) (mn mx : Int) (lazy : Bool) : Nat→Int→Int→List Int
 | 0,k,i=>abEnd mn mx lazy k i []
 | d + 1,k,i=>abEnd mn mx lazy k i (if i < t.length∧inB [(97,98)] (tAt t i)=true then abR t mn mx lazy d (k + 1) (i + 1) else [])
def abMore (t : List Int) (mn mx : Int) (lazy : Bool) (d : Nat) (k i : Int) : List Int := match d with
   | 0=>[]
   | d + 1=>if i < t.length∧inB [(97,98)] (tAt t i)=true then abR t mn mx lazy d (k + 1) (i + 1) else []
theorem abR_eq (t : List Int) (mn mx : Int) (lazy : Bool) (d : Nat) (k i : Int) : abR t mn mx lazy d k i=if k < mn then abMore t mn mx lazy d k i else if ¬ (mx=-1 ∨ k < mx) then [i] else if lazy=true then i :: abMore t mn mx lazy d k i else abMore t mn mx lazy d k i ++ [i] := by
 cases d <;> rfl
theorem abR_rev (t : List Int) (mn mx : Int) : ∀ (d : Nat) (k i : Int),abR t mn mx true d k i=(abR t mn mx false d k i).reverse∧(abR t mn mx false d k i).length≤d + 1
 | 0,k,i=>by
  rw [abR_eq,abR_eq]
  simp only [abMore]
  split
  ·simp
  split <;> simp
 | d + 1,k,i=>by
  obtain ⟨h1,h2⟩ := abR_rev t mn mx d (k + 1) (i + 1)
  rw [abR_eq,abR_eq]
  have hm : abMore t mn mx true (d + 1) k i=(abMore t mn mx false (d + 1) k i).reverse∧(abMore t mn mx false (d + 1) k i).length≤d + 1 := by
   simp only [abMore]
   split
   ·exact ⟨h1,h2⟩
   ·simp
  rw [hm.1]
  obtain ⟨_,hm⟩ := hm
  generalize abMore t mn mx false (d + 1) k i=L at *
  split
  ·exact ⟨rfl,by omega⟩
  split
  ·simp
  simp only [if_true,Bool.false_eq_true,if_false,List.reverse_append,List.reverse_cons,List.reverse_nil,List.nil_append,List.singleton_append,List.length_append,List.length_cons,List.length_nil]
  exact ⟨trivial,by omega⟩
theorem ab_set {t : List Int} {F i : Int} {nx : Goal} {st : Sst} (g : Nat) (h0 : 0≤i) (h1 : i≤t.length) (s0 : 0≤st.steps) (s1 : st.steps + 1≤F) (hF : F≤1099511627776) (he : st.empty=false) :
  evR t F (g + 2) (-1) (.run (.mk 0 abRe 0 0 nx) i []) st=if i < t.length∧inB [(97,98)] (tAt t i)=true then evR t F g (-1) (.run nx (i + 1) []) ⟨st.steps + 1,false,st.ends,st.caps⟩ else some (false,⟨st.steps + 1,false,st.ends,st.caps⟩) := by
 rw [ev_enter g h0 h1 (by show (1 : Int) ≠ 4; decide) (by show (1 : Nat)≤_; omega) (by show (0 : Nat)≤_; omega) (by simp) s0 s1 hF he]
 unfold nodeR
 rw [if_pos (by show (1 : Int)=1; rfl)]
 rfl
theorem ab_nil {t : List Int} {F i : Int} {st : Sst} (g : Nat) (h0 : 0≤i) (h1 : i≤t.length) (hc : st.caps.length=st.ends.length) (hl : st.ends.length < 1000) :
  evR t F (g + 1) (-1) (.run .nil i []) st=some (false,{ st with ends := st.ends ++ [i],caps := st.caps ++ [[]] }) := by
 show evStep t F (evR t F g) (-1) (.run .nil i []) st=_
 simp only [evStep]
 rw [if_neg (by omega),if_pos ⟨by omega,hc⟩]
 rfl
def noC (L : List Int) : List CapsL := L.map fun _=>[]
theorem noC_len (L : List Int) : (noC L).length=L.length := by simp [noC]
theorem noC_app (L M : List Int) : noC (L ++ M)=noC L ++ noC M := by simp [noC]
theorem ab_rep {t : List Int} {F k f i mn mx mode : Int} {st : Sst} (g : Nat) (hm : mode=0 ∨ mode=1) (h0 : 0≤i) (h1 : i≤t.length) (s0 : 0≤st.steps) (s1 : st.steps + 1≤F) (hF : F≤1099511627776) (he : st.empty=false) :
  evR t F (g + 2) (-1) (.run (.mk 1 (abRep mn mx mode) k f .nil) i []) st =
   if k < mn then evR t F g (-1) (.run (.mk 0 abRe 0 0 (.mk 2 (abRep mn mx mode) k i .nil)) i []) ⟨st.steps + 1,false,st.ends,st.caps⟩
   else if mode=1 then orR (evR t F g (-1) (.run .nil i []) ⟨st.steps + 1,false,st.ends,st.caps⟩) (fun s=>if mx=-1 ∨ k < mx then evR t F g (-1) (.run (.mk 0 abRe 0 0 (.mk 2 (abRep mn mx mode) k i .nil)) i []) s else some (false,s))
   else orR (if mx=-1 ∨ k < mx then evR t F g (-1) (.run (.mk 0 abRe 0 0 (.mk 2 (abRep mn mx mode) k i .nil)) i []) ⟨st.steps + 1,false,st.ends,st.caps⟩ else some (false,⟨st.steps + 1,false,st.ends,st.caps⟩)) (fun s=>evR t F g (-1) (.run .nil i []) s) := by
 have hst : st.step F=⟨st.steps + 1,false,st.ends,st.caps⟩ := by
  unfold Sst.step
  rw [he,Bool.false_or,decide_eq_false (by omega)]
 show evStep t F (evR t F (g + 1)) (-1) (.run (.mk 1 (abRep mn mx mode) k f .nil) i []) st=_
 simp only [evStep]
 rw [if_neg (by omega),if_pos trivial]
 show evStep t F (evR t F g) (-1) (.rep (.mk 1 (abRep mn mx mode) k f .nil) i []) st=_
 simp only [evStep]
 rw [if_neg (by omega)]
 unfold repR
 rw [if_neg (show ¬ (abRep mn mx mode).mode=2 by show ¬ mode=2; omega),if_neg (by omega)]
 simp only [hst]
 rw [if_neg (by simp)]
 rfl
def AbMore (t : List Int) (F mn mx mode : Int) (d : Nat) (k i : Int) : Prop :=
 ∀ st : Sst,0≤st.steps→st.steps + 2 * d + 1≤F→st.empty=false→st.caps.length=st.ends.length→st.ends.length + d < 900 →
  ∃ s',evR t F (5 * d + 8) (-1) (.run (.mk 0 abRe 0 0 (.mk 2 (abRep mn mx mode) k i .nil)) i []) st=some (false,⟨s',false,st.ends ++ abMore t mn mx (decide (mode=1)) d k i,st.caps ++ noC (abMore t mn mx (decide (mode=1)) d k i)⟩)∧st.steps≤s'∧s'≤st.steps + 2 * d + 1
def AbRun (t : List Int) (F mn mx mode : Int) (d : Nat) (k i : Int) : Prop :=
 ∀ (f : Int) (st : Sst),0≤st.steps→st.steps + 2 * d + 2≤F→st.empty=false→st.caps.length=st.ends.length→st.ends.length + d + 1 < 900 →
  ∃ s',evR t F (5 * d + 10) (-1) (.run (.mk 1 (abRep mn mx mode) k f .nil) i []) st=some (false,⟨s',false,st.ends ++ abR t mn mx (decide (mode=1)) d k i,st.caps ++ noC (abR t mn mx (decide (mode=1)) d k i)⟩)∧st.steps≤s'∧s'≤st.steps + 2 * d + 2
theorem abMore_len (t : List Int) (mn mx : Int) (lazy : Bool) (d : Nat) (k i : Int) : (abMore t mn mx lazy d k i).length≤d := by
 have h : ∀ d k i,(abR t mn mx lazy d k i).length≤d + 1 := by
  intro d k i
  obtain ⟨h1,h2⟩ := abR_rev t mn mx d k i
  cases lazy with
  | true=>rw [h1,List.length_reverse]; exact h2
  | false=>exact h2
 unfold abMore
 cases d with
 | zero=>simp
 | succ d =>
  simp only
  split
  ·exact h d _ _
  ·simp
theorem ab_more_run {t : List Int} {F : Int} (hF : F≤1099511627776) {mn mx mode : Int} (hm : mode=0 ∨ mode=1) {d : Nat} {k i : Int} (h0 : 0≤i) (h1 : i + d=t.length) (h : AbMore t F mn mx mode d k i) : AbRun t F mn mx mode d k i := by
 intro f st s0 s1 he hc hl
 have hml := abMore_len t mn mx (decide (mode=1)) d k i
 rw [show 5 * d + 10=(5 * d + 8) + 2 by omega,ab_rep (5 * d + 8) hm h0 (by omega) s0 (by omega) hF he,abR_eq]
 by_cases c1 : k < mn
 ·rw [if_pos c1,if_pos c1]
  obtain ⟨s',e1,e2,e3⟩ := h ⟨st.steps + 1,false,st.ends,st.caps⟩ (by show 0≤st.steps + 1; omega) (by show st.steps + 1 + 2 * d + 1≤F; omega) rfl hc (by show st.ends.length + d < 900; omega)
  exact ⟨s',e1,by simp only at e2; omega,by simp only at e3; omega⟩
 rw [if_neg c1,if_neg c1]
 by_cases c2 : mx=-1 ∨ k < mx
 ·rw [if_neg (not_not_intro c2)]
  simp only [if_pos c2]
  rcases hm with rfl | rfl
  ·rw [if_neg (by decide),if_neg (by decide)]
   obtain ⟨s',e1,e2,e3⟩ := h ⟨st.steps + 1,false,st.ends,st.caps⟩ (by show 0≤st.steps + 1; omega) (by show st.steps + 1 + 2 * d + 1≤F; omega) rfl hc (by show st.ends.length + d < 900; omega)
   rw [e1]
   simp only [orR]
   rw [show 5 * d + 8=(5 * d + 7) + 1 by omega,ab_nil (5 * d + 7) h0 (by omega) (by simp only [List.length_append,noC_len]; omega) (by simp only [List.length_append]; omega)]
   refine ⟨s',?_,by simp only at e2; omega,by simp only at e3; omega⟩
   simp only [noC_app,List.append_assoc]
   rfl
  ·rw [if_pos rfl,if_pos (by decide)]
   rw [show 5 * d + 8=(5 * d + 7) + 1 by omega,ab_nil (5 * d + 7) h0 (by omega) (by exact hc) (by show st.ends.length < 1000; omega)]
   simp only [orR]
   rw [show (5 * d + 7) + 1=5 * d + 8 by omega]
   obtain ⟨s',e1,e2,e3⟩ := h ⟨st.steps + 1,false,st.ends ++ [i],st.caps ++ [[]]⟩ (by show 0≤st.steps + 1; omega) (by show st.steps + 1 + 2 * d + 1≤F; omega) rfl (by simp only [List.length_append,List.length_cons,List.length_nil]; omega) (by simp only [List.length_append,List.length_cons,List.length_nil]; omega)
   refine ⟨s',?_,by simp only at e2; omega,by simp only at e3; omega⟩
   rw [e1]
   simp only [List.append_assoc]
   rfl
 ·rw [if_pos c2]
  simp only [if_neg c2]
  have hn := ab_nil (t := t) (F := F) (i := i) (st := ⟨st.steps + 1,false,st.ends,st.caps⟩) (5 * d + 7) h0 (by omega) hc (by show st.ends.length < 1000; omega)
  rw [show (5 * d + 7) + 1=5 * d + 8 by omega] at hn
  simp only [hn,orR]
  refine ⟨st.steps + 1,?_,by omega,by omega⟩
  split <;> rfl
theorem ab_more_zero {t : List Int} {F : Int} (hF : F≤1099511627776) {mn mx mode : Int} {k i : Int} (h0 : 0≤i) (h1 : i=t.length) : AbMore t F mn mx mode 0 k i := by
 intro st s0 s1 he hc hl
 refine ⟨st.steps + 1,?_,by omega,by omega⟩
 show evR t F (6 + 2) (-1) _ st=_
 rw [ab_set 6 h0 (by omega) s0 (by omega) hF he,if_neg (by omega)]
 simp [abMore,noC]
theorem ab_more_succ {t : List Int} {F : Int} (hF : F≤1099511627776) {mn mx mode : Int} {d : Nat} {k i : Int} (h0 : 0≤i) (h1 : i + (d + 1 : Nat)=t.length) (hk0 : 0≤k) (hk1 : k≤1000000) (h : AbRun t F mn mx mode d (k + 1) (i + 1)) : AbMore t F mn mx mode (d + 1) k i := by
 intro st s0 s1 he hc hl
 rw [show 5 * (d + 1) + 8=(5 * d + 11) + 2 by omega,ab_set (5 * d + 11) h0 (by omega) s0 (by omega) hF he]
 simp only [abMore]
 by_cases c : i < t.length∧inB [(97,98)] (tAt t i)=true
 ·rw [if_pos c,if_pos c]
  obtain ⟨s',e1,e2,e3⟩ := h 0 ⟨st.steps + 1,false,st.ends,st.caps⟩ (by show 0≤st.steps + 1; omega) (by show st.steps + 1 + 2 * d + 2≤F; omega) rfl hc (by show st.ends.length + d + 1 < 900; omega)
  refine ⟨s',?_,by simp only at e2; omega,by simp only at e3; omega⟩
  show evStep t F (evR t F (5 * d + 10)) (-1) (.run (.mk 2 (abRep mn mx mode) k i .nil) (i + 1) []) _=_
  simp only [evStep]
  rw [if_neg (by omega),if_neg (by decide),if_pos trivial,if_neg (by omega),if_neg (by omega)]
  exact e1
 ·rw [if_neg c,if_neg c]
  exact ⟨st.steps + 1,by simp [noC],by omega,by omega⟩
theorem ab_all {t : List Int} {F : Int} (hF : F≤1099511627776) {mn mx mode : Int} (hm : mode=0 ∨ mode=1) : ∀ (d : Nat) (k i : Int),0≤i→i + d=t.length→0≤k→k + d≤1000000→AbRun t F mn mx mode d k i
 | 0,k,i,h0,h1,k0,k1=>ab_more_run hF hm h0 h1 (ab_more_zero hF h0 (by omega))
 | d + 1,k,i,h0,h1,k0,k1=>ab_more_run hF hm h0 h1 (ab_more_succ hF h0 h1 k0 (by omega) (ab_all hF hm d (k + 1) (i + 1) (by omega) (by omega) (by omega) (by omega)))
theorem ab_law {t : List Int} {i F mn mx mode : Int} (ht : t.length≤12) (h0 : 0≤i) (h1 : i≤t.length) (hm : mode=0 ∨ mode=1) (hF0 : 1000≤F) (hF : F≤1099511627776) (hv : valid7 (abP mn mx mode) t F=0) :
  allE (abP mn mx mode) t i (-1) F=0∧allM (abP mn mx mode) t i (-1) F=(abR t mn mx (decide (mode=1)) (t.length - i.toNat) 0 i).map (fun e=>(e,[])) := by
 obtain ⟨s',e1,e2,e3⟩ := ab_all (t := t) (mn := mn) (mx := mx) hF hm (t.length - i.toNat) 0 i h0 (by omega) (Int.le_refl _) (by omega) 0 ⟨0,false,[],[]⟩ (by decide) (by show (0 : Int) + _ + 2≤F; omega) rfl rfl (by show 0 + _ + 1 < 900; omega)
 simp only [List.nil_append] at e1
 generalize hd : t.length - i.toNat=d at *
 generalize abR t mn mx (decide (mode=1)) d 0 i=L at *
 have hev : evR t F (5 * d + 11) (-1) (.run (.mk 0 (abP mn mx mode).re 0 0 .nil) i (cap0 (abP mn mx mode))) ⟨0,false,[],[]⟩=some (false,⟨s',false,L,noC L⟩) := by
  rw [← e1]
  show evStep t F (evR t F (5 * d + 10)) (-1) (.run (.mk 0 (abRep mn mx mode) 0 0 .nil) i []) _=evStep t F (evR t F (5 * d + 9)) (-1) (.run (.mk 1 (abRep mn mx mode) 0 0 .nil) i []) _
  simp only [evStep]
  rw [if_neg (by omega),if_neg (by decide),if_neg (by decide),if_neg (by decide),if_neg (by decide),if_neg (by omega),if_pos trivial]
  show evStep t F (evR t F (5 * d + 9)) (-1) (.node (.mk 0 (abRep mn mx mode) 0 0 .nil) i []) _=_
  simp only [evStep]
  rw [if_neg (by omega),if_pos (show (abRep mn mx mode).op=4 from rfl)]
 have hX : searchX (abP mn mx mode) t i (-1) F=(false,⟨s',false,L,noC L⟩) := evX_eq hev
 have hEq : allE (abP mn mx mode) t i (-1) F=0 := allE_zero hv h0 h1 (by rw [hX])
 refine ⟨hEq,?_⟩
 unfold allM
 rw [if_pos hEq,hX]
 have hz : ∀ L : List Int,L.zip (noC L)=L.map (fun e=>(e,[])) := by
  intro L
  induction L with
  | nil=>rfl
  | cons x L ih=>simp only [noC,List.map_cons,List.zip_cons_cons] at ih ⊢; rw [ih]
 exact hz L
end Go.Proofs.Ytimnnipoaafdfaa
