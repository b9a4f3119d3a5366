/- A part of the proof (G50 G51 G52). -/
import Derived.Test.YtilapneoohcplaaBO22
import Derived.Test.YtilapneoohcplaaBO24
import Derived.Test.YtilapneoohcplaaBO35
import Derived.Test.YtilapneoohcplaaBO43
set_option linter.unusedSimpArgs false
set_option linter.unusedVariables false
set_option maxRecDepth 100000
set_option maxHeartbeats 80000000
namespace Go.Proofs.Ytilapneoohcplaa
open Go.VL Go.Proofs.Try
theorem vB_of_ok {re : Re} {caps top : Int} (h : nodeOk re caps top = true) (hk : re.kids.length ≤ 1000000000) : vB caps re = true := by
 have hsh := of_decide_eq_true (shape_of_ok h hk)
 obtain ⟨s1, s2, s3, s4⟩ := hsh
 obtain ⟨h1, h2, h3, h4, h5⟩ := nodeOk_iff.1 h
 refine decide_eq_true ⟨fun ho => ?_, s2, s3, s4, fun ho => ?_, fun ho => ?_, fun ho => ?_⟩
 ·rcases ho with ho | ho
  ·intro hn
   have := h1.2.2.1
   rw [hn, ho] at this
   simp [kidsR] at this
  ·exact s1 ho
 ·rw [if_pos ho] at h4; exact h4
 ·rw [if_neg (by omega), if_pos ho] at h4; exact h4
 ·rw [if_pos ho] at h3; exact h3.2.2.1
theorem vB_every {caps top : Int} (re : Re) (h : re.whole caps top = true) (hs : re.size ≤ 1000000) : re.every (vB caps) = true := by
 revert h hs
 refine Re.ind (Q := fun re => re.whole caps top = true → re.size ≤ 1000000 → re.every (vB caps) = true) (fun re ih h hs => ?_) re
 obtain ⟨a1, a2⟩ := (Re.every_iff re).1 h
 have := Re.len_le re.kids
 have := Re.size_eq re
 exact (Re.every_iff re).2 ⟨vB_of_ok a1 (by omega), fun k hk => ih k hk (a2 k hk) (by have := Re.size_kid hk; omega)⟩
theorem run_con {p : Pat} {t : List Int} {at_ most fuel : Int} (hv : valid7 p t fuel = 0) (a0 : 0 ≤ at_) (a1 : at_ ≤ t.length) (hm : 0 ≤ most → 0 < most) {m : Mst} (hp : m.p = p) :
  Con p.re t fuel p.caps.toNat 0 [] most at_ (m.set_ t at_ fuel) (runPlace m at_) true ⟨0, false, [], []⟩ (searchX p t at_ most fuel).1 (searchX p t at_ most fuel).2 := by
 obtain ⟨h1, h2, h3, h4, h5⟩ := valid7_spec hv
 obtain ⟨k1, k2, k3, k4, k5⟩ := validR_spec h1
 obtain ⟨n, e1, _⟩ := search_ends (most := most) hv a0 a1
 have hcl : (cap0 p).length = p.caps.toNat := by unfold cap0; rw [List.length_replicate]
 have hpl : runPlace m at_ = ⟨at_, cap0 p, .mk 0 .root 0 0 .nil⟩ := by unfold runPlace cap0; rw [hp]
 rw [hpl]
 refine sim_all ⟨by omega, by omega, by omega⟩ n most _ _ _ _ e1 0 [] (m.set_ t at_ fuel) ⟨at_, cap0 p, .mk 0 .root 0 0 .nil⟩ ⟨by show m.p.re = p.re; rw [hp], rfl, rfl, (fun h => by cases h), ⟨rfl, rfl, by show 0 ≤ _; omega⟩, rfl, rfl, Int.le_refl _⟩
  ⟨rfl, Int.le_refl _, h4, fun h => by have := hm h; simpa using this⟩ (Nat.le_refl _) ⟨rfl, rfl, .tree rfl .nil⟩ ?_ a0 a1 ⟨by show (cap0 p).length ≤ _; omega, fun q hq => .inl (List.eq_of_mem_replicate hq)⟩ hcl
 refine ⟨fun _ => ?_, fun h => by omega, fun h => by omega, fun h => by omega, fun h => by omega, trivial⟩
 have : ((p.caps.toNat : Nat) : Int) = p.caps := by omega
 rw [this]
 exact vB_every _ k5 (by omega)
theorem con_ev {P : Re} {t : List Int} {F : Int} {nc : Nat} {i : Int} {m : Mst} {q : BPlace} {al : Bool} {s : Int} {b : Bool} {x : Sst} (h : Con P t F nc 0 [] 1 i m q al ⟨s, false, [], []⟩ b x) :
  ∃ m1 r found, Ev m 0 q al (m1, r, found) ∧ Po m m1 ∧ m1.top ≤ m1.stk.length ∧ s ≤ x.steps ∧ r.caps.length ≤ nc ∧
   ((x.empty = false ∧ m1.spent = false ∧ m1.steps = x.steps ∧ x.steps ≤ F ∧ ((found = true ∧ ∃ e d, x.ends = [e] ∧ x.caps = [d] ∧ r = ⟨e, d, .nil⟩) ∨ (found = false ∧ x.ends = [] ∧ x.caps = []))) ∨
    (x.empty = true ∧ m1.spent = true ∧ found = false)) := by
 obtain ⟨R, m', h1, h2, h3, h4, h5, h6⟩ := h
 simp only [List.nil_append] at h1 h2
 rcases h6 with ⟨k1, k2, k3, k4, kF, p', k5⟩ | ⟨k1, k2, k3, k4, kF, S', R0, e, d, k5, k6, k7⟩ | ⟨k1, k2, k3, k4, p', S', k5, k6⟩
 ·have hx : x.ends = [] := List.eq_nil_of_length_eq_zero (by have := k3 (by omega); omega)
  have hR : R = [] := by rw [h1] at hx; exact List.map_eq_nil_iff.1 hx
  subst hR
  exact ⟨m', .zero, false, runs_ev k5 rfl (ev_none k4.stk.2.1), h4, k4.stk.len, h5, Nat.zero_le _, .inl ⟨k2, k4.spent, k4.steps, kF, .inr ⟨rfl, by simpa using h1, by simpa using h2⟩⟩⟩
 ·have hR0 : R0 = [] := by
   have := congrArg List.length h1
   rw [k6] at this
   simp at this
   exact List.eq_nil_of_length_eq_zero (by omega)
  subst hR0
  simp only [List.nil_append] at k6
  subst k6
  have he : Ev m 0 q al (m', ⟨e, d, .nil⟩, true) := by
   refine runs_ev k7 rfl ?_
   have := ev_found (m := m') (base := 0) (p := ⟨e, d, .nil⟩) rfl
   rwa [k5.spent] at this
  have hr := h3 (e, d) (by simp)
  exact ⟨m', _, true, he, h4, k5.stk.len, h5, by show d.length ≤ nc; rw [hr.2.2.2]; exact Nat.le_refl _, .inl ⟨k2, k5.spent, k5.steps, kF, .inl ⟨rfl, e, d, by simpa using h1, by simpa using h2, rfl⟩⟩⟩
 ·have hx : x.ends = [] := List.eq_nil_of_length_eq_zero (by have := k3 (by omega); omega)
  have hR : R = [] := by rw [h1] at hx; exact List.map_eq_nil_iff.1 hx
  subst hR
  have hend : ∃ m2, Ev m' 0 p' false (m2, .zero, false) ∧ m2.top ≤ m2.stk.length ∧ m2.spent = true ∧ Po m' m2 := by
   simp only [List.nil_append] at k5
   rcases List.eq_nil_or_concat S' with rfl | ⟨S2, q2, rfl⟩
   ·exact ⟨m', ev_none k5.2.1, k5.len, k4, .refl _⟩
   ·have k5' : Stk m' (S2 ++ [q2]) := by simpa [List.concat_eq_append] using k5
    refine ⟨m'.pop, ?_, k5'.last.2.len, k4, po_pop m'⟩
    have hl := k5'.len
    have ht : m'.top = S2.length + 1 := by rw [k5'.2.1, List.length_append]; rfl
    refine ⟨2, ?_⟩
    rw [srchB.eq_2, if_neg (show ¬ (false = true ∧ m'.spent = true) from fun h => by cases h.1), if_neg (fun h => by cases h.1), if_neg (fun h => by cases h), if_neg (by omega), if_neg (by have := k5'.2.2; omega), k5'.last.1]
    simp only
    rw [srchB.eq_2, if_pos ⟨rfl, k4⟩]
  obtain ⟨m2, j1, j2, j3, j4⟩ := hend
  exact ⟨m2, .zero, false, runs_ev k6 rfl j1, h4.trans j4, j2, h5, Nat.zero_le _, .inr ⟨k2, j3, rfl⟩⟩
noncomputable def resX (p : Pat) (t : List Int) (at_ fuel : Int) : List V :=
 if allE p t at_ 1 fuel ≠ 0 then [i64 0, i64 0, .d (.sl []), bV false, i64 0, i64 (allE p t at_ 1 fuel)]
 else match allM p t at_ 1 fuel with
  | [] => [i64 0, i64 0, .d (.sl []), bV false, i64 (allN p t at_ 1 fuel), i64 0]
  |(e, d) :: _ => [i64 at_, i64 e, .d (capD d), bV true, i64 (allN p t at_ 1 fuel), i64 0]
theorem run_law {p : Pat} {t : List Int} {at_ fuel : Int} (hv : valid7 p t fuel = 0) (a0 : 0 ≤ at_) (a1 : at_ ≤ t.length) {m : Mst} (hp : m.p = p) :
  ∃ k m2 r found, srchB k true (m.set_ t at_ fuel) 0 (runPlace m at_) true = some (m2, r, found) ∧ Po (m.set_ t at_ fuel) m2 ∧ m2.top ≤ m2.stk.length ∧ r.caps.length ≤ 1000000000 ∧ m2.res r found = resX p t at_ fuel ∧ (m2.done found).ready = (decide (allE p t at_ 1 fuel = 0) && !(allM p t at_ 1 fuel).isEmpty) := by
 obtain ⟨h1, h2, h3, h4, h5⟩ := valid7_spec hv
 obtain ⟨k1, k2, k3, k4, k5⟩ := validR_spec h1
 have hcon := run_con (most := 1) hv a0 a1 (fun _ => by omega) hp
 obtain ⟨m1, r, found, j1, j2, j3, _, j4, j5⟩ := con_ev hcon
 obtain ⟨k, hk⟩ := ev_out (m := m.set_ t at_ fuel) rfl j1
 have hE : allE p t at_ 1 fuel = if (searchX p t at_ 1 fuel).2.empty = true then 11 else 0 := by
  unfold allE; rw [if_neg (by rw [hv]; simp), if_neg (by omega)]
 have hst : m1.start = at_ := j2.fr.start
 refine ⟨k, m1, r, found, hk, j2, j3, by omega, ?_, ?_⟩
 ·unfold resX Mst.res
  rcases j5 with ⟨l1, l2, l3, lF, l4⟩ | ⟨l1, l2, rfl⟩
  ·have hE0 : allE p t at_ 1 fuel = 0 := by rw [hE, if_neg (by rw [l1]; simp)]
   have hN : allN p t at_ 1 fuel = (searchX p t at_ 1 fuel).2.steps := by unfold allN; rw [if_pos hE0]
   have hMm : allM p t at_ 1 fuel = (searchX p t at_ 1 fuel).2.ends.zip (searchX p t at_ 1 fuel).2.caps := by unfold allM; rw [if_pos hE0]
   rw [if_neg (by rw [l2]; simp), if_neg (show ¬ (allE p t at_ 1 fuel ≠ 0) from by rw [hE0]; simp), hMm, hN, hst, l3]
   rcases l4 with ⟨rfl, e, d, q1, q2, rfl⟩ | ⟨rfl, q1, q2⟩
   ·rw [if_pos rfl, q1, q2]; rfl
   ·rw [if_neg (by simp), q1, q2]; rfl
  ·have hE1 : allE p t at_ 1 fuel = 11 := by rw [hE, if_pos l1]
   rw [if_pos l2, if_pos (show allE p t at_ 1 fuel ≠ 0 from by rw [hE1]; simp), hE1]
 ·show (found && !m1.spent) = _
  rcases j5 with ⟨l1, l2, l3, lF, l4⟩ | ⟨l1, l2, rfl⟩
  ·have hE0 : allE p t at_ 1 fuel = 0 := by rw [hE, if_neg (by rw [l1]; simp)]
   have hMm : allM p t at_ 1 fuel = (searchX p t at_ 1 fuel).2.ends.zip (searchX p t at_ 1 fuel).2.caps := by unfold allM; rw [if_pos hE0]
   rw [l2, hE0, hMm]
   rcases l4 with ⟨rfl, e, d, q1, q2, rfl⟩ | ⟨rfl, q1, q2⟩
   ·rw [q1, q2]; rfl
   ·rw [q1, q2]; rfl
  ·rw [l2, hE, if_pos l1]; rfl
theorem callWp_post {P : Program} {f : FuncId} {args : List V} {s : List VL.Obj} {K1 K : V → List VL.Obj → Prop} (h : callWp P f args s K1)
  (hw : ∀ v s1, K1 v s1 → ∀ σ w u, Inv σ s1 w → RepV σ s1 w v u → ∃ σ2 s2 v2, Evolve σ s1 w σ2 s2 w ∧ Inv σ2 s2 w ∧ RepV σ2 s2 w v2 u ∧ K v2 s2) : callWp P f args s K := by
 refine ⟨h.1, fun σ w vals hI hl hv => (h.2 σ w vals hI hl hv).mono fun e w' ⟨u, v, σ', s', h1, h2, h3, h4, h5⟩ => ?_⟩
 obtain ⟨σ2, s2, v2, k1, k2, k3, k4⟩ := hw v s' h5 σ' w' u h3 h4
 exact ⟨u, v2, σ2, s2, h1, h2.trans k1, k2, k3, k4⟩
theorem reserve_ok {σ : Gh} {s : List VL.Obj} {w : World} (hI : Inv σ s w) {o : VL.Obj} {pre post : List V} (k sz : Nat) (ho : s[k]? = some o) (hels : o.els = [pre ++ .fu [] :: post]) (hsz : pre.length + 1 + post.length = o.sz) :
  ∃ σ', Evolve σ s w σ' (s.set k { o with els := [pre ++ .so s.length 0 0 0 :: post] } ++ [⟨0, true, sz, []⟩]) w ∧ Inv σ' (s.set k { o with els := [pre ++ .so s.length 0 0 0 :: post] } ++ [⟨0, true, sz, []⟩]) w := by
 have hk := (List.getElem?_eq_some_iff.1 ho).1
 have hp := push_obj (p := none) (o' := ⟨0, true, sz, []⟩) (w' := w) hI rfl rfl rfl (Nat.le_refl _) (fun _ _ => rfl) (fun _ _ h' => by cases h') (fun _ => .inl (.inl ⟨rfl, rfl⟩))
 have ho2 : (s ++ [(⟨0, true, sz, []⟩ : VL.Obj)])[k]? = some o := by rw [List.getElem?_append_left hk]; exact ho
 have hr := recell hp.2 (els' := [pre ++ .so s.length 0 0 0 :: post]) ho2 (by intro e he; rw [List.mem_singleton.1 he]; simp; omega) (by rw [hels]; rfl) (by
  intro es he
  rw [hels] at he
  have hm : (pre ++ .fu [] :: post) ∈ mapEls es := by rw [← he]; exact List.mem_singleton.2 rfl
  unfold mapEls at hm
  obtain ⟨x, _, hx⟩ := List.mem_map.1 hm
  have hf : V.fu [] ∈ [V.d (.sc x.key), V.d (.sc x.val)] := by rw [hx]; simp
  simp at hf) (fun i j x' hx => by
  rw [hels]
  cases i with
  | succ i => simp at hx
  | zero =>
   simp only [List.getElem?_cons_zero, Option.bind_some] at hx ⊢
   by_cases hj : j = pre.length
   ·subst hj
    rw [List.getElem?_append_right (Nat.le_refl _), Nat.sub_self] at hx ⊢
    simp only [List.getElem?_cons_zero, Option.some.injEq] at hx ⊢
    subst hx
    refine ⟨_, rfl, fun u hu => ?_⟩
    cases hu with | fu hx => ?_
    exact .so ⟨0, true, sz, []⟩ (by simp) (Nat.le_refl _) rfl (fun _ => .inl ⟨updG_same _ _ _, ⟨_, rfl⟩, rfl, rfl⟩)
   ·refine ⟨x', ?_, fun u hu => hu⟩
    rcases Nat.lt_or_ge j pre.length with hlt | hge
    ·rw [List.getElem?_append_left hlt] at hx ⊢; exact hx
    ·rw [List.getElem?_append_right hge] at hx ⊢
     cases hm : j - pre.length with
     | zero => omega
     | succ m => rw [hm] at hx; simpa using hx)
 have hset : (s ++ [(⟨0, true, sz, []⟩ : VL.Obj)]).set k { o with els := [pre ++ .so s.length 0 0 0 :: post] } = s.set k { o with els := [pre ++ .so s.length 0 0 0 :: post] } ++ [⟨0, true, sz, []⟩] := by
  rw [List.set_append_left _ _ hk]
 rw [hset] at hr
 exact ⟨_, hp.1.trans hr.1, hr.2⟩
def mO1 (Y Z : Nat) (m : Mst) (T : V) : VL.Obj := ⟨0, true, 19, [[.d (iD m.p.re.op), .d (.sl (m.p.re.set.map spanC)), .d (.sl (m.p.re.kids.map Re.cells)), .d (iD m.p.re.mn), .d (iD m.p.re.mx), .d (iD m.p.re.mode), .d (iD m.p.re.n), .d (bD m.p.re.neg), i64 m.p.caps, bV m.p.runes, T,
 .so Z m.ogen 0 m.own.length, .so Y m.gen 0 m.top, i64 m.deepest, i64 m.start, i64 m.steps, i64 m.fuel, bV m.spent, bV m.ready]]⟩
def mO2 (b a : Nat) (m : Mst) : VL.Obj := ⟨m.gen, true, 3, m.stk.map (stV b a)⟩
def mO3 (m : Mst) : VL.Obj := ⟨m.ogen, true, 1, m.own.map fun x => [.d (iD x)]⟩
theorem objsT_ren (X Y Z b a : Nat) (m : Mst) (T : V) : (m.objsT 0 b a T).map (renO [X, Y, Z]) = [mO1 Y Z m (renV [X, Y, Z] T), mO2 b a m, mO3 m] := by
 unfold Mst.objsT mO1 mO2 mO3
 simp only [List.map_cons, List.map_nil, List.cons.injEq, and_true]
 refine ⟨?_, ?_, ?_⟩
 ·unfold renO
  simp [renV.go, renV, i64, bV]
 ·unfold renO
  simp only [List.map_map]
  congr 1
  refine List.map_congr_left fun p _ => ?_
  cases p <;> rfl
 ·exact renO_d [X, Y, Z] m.ogen true 1 m.own iD
def newPre (p : Pat) : List V := [.d (iD p.re.op), .d (.sl (p.re.set.map spanC)), .d (.sl (p.re.kids.map Re.cells)), .d (iD p.re.mn), .d (iD p.re.mx), .d (iD p.re.mode), .d (iD p.re.n), .d (bD p.re.neg), i64 p.caps, bV p.runes]
def newPost : List V := [i64 0, i64 0, i64 0, i64 0, bV false, bV false]
def midO (p : Pat) (X : Nat) : VL.Obj := ⟨0, true, 19, [(newPre p ++ [.fu []]) ++ .fu [] :: (.so (X + 1) 0 0 0 :: newPost)]⟩
def fresh (p : Pat) : Mst := ⟨p, [], false, [], 0, [], 0, 0, 0, 0, 0, 0, false, false⟩
theorem call_new {p : Pat} (hf : p.re.fine = true) (hv : validR p = 0) {s : List VL.Obj} {K : V → List VL.Obj → Prop}
  (hk : ∀ b a : Nat, K (.tu [.pp s.length 0 0 0 b a, i64 0]) (s ++ [mO1 (s.length + 1) (s.length + 2) (fresh p) (.fu []), mO2 b a (fresh p), mO3 (fresh p)])) : callWp prog 12 [patV p] s K := by
 have h1 : callWp prog 12 [patV p] s fun v s1 => v = .tu [.rf s.length 0 0 0, i64 0] ∧ s1 = s ++ [newO p] := by
  refine call_frame_new (new_own p hf hv) [] rfl (by simp) (fun k o h => by simp at h) (by cases p; simp [patV, renV, renV.go, Re.cells_eq, i64, bV, iD, bD]) (by cases p; simp [patV, refsV, refsV.go, Re.cells_eq, i64, bV]) rfl ?_
  rintro v s' ⟨rfl, rfl⟩ _
  refine ⟨?_, ?_⟩
  ·simp [rhoN, renV, renV.go, i64]
  ·simp [putObjs, newO, renO, renV, renV.go, i64, bV, iD, bD]
 refine callWp_post h1 ?_
 rintro v s1 ⟨rfl, rfl⟩ σ w u hI hu
 have hX : (s ++ [newO p])[s.length]? = some (newO p) := by simp
 -- the address
 cases hu with | @tu _ arr hsz hcs => ?_
 obtain ⟨b, a, hpp⟩ := RepV.rf_pp hX rfl (hcs 0 _ rfl)
 -- the two arrays
 obtain ⟨σ1, e1, i1⟩ := reserve_ok hI s.length 3 hX (pre := newPre p ++ [.fu [], .fu []]) (post := newPost) rfl rfl
 have hs1 : (s ++ [newO p]).set s.length { newO p with els := [(newPre p ++ [.fu [], .fu []]) ++ V.so (s ++ [newO p]).length 0 0 0 :: newPost] } = s ++ [midO p s.length] := by
  rw [List.set_append_right _ _ (Nat.le_refl _), Nat.sub_self, List.length_append]
  simp [newO, midO]
 rw [hs1] at e1 i1
 have hX2 : (s ++ [midO p s.length] ++ [(⟨0, true, 3, []⟩ : VL.Obj)])[s.length]? = some (midO p s.length) := by simp
 obtain ⟨σ2, e2, i2⟩ := reserve_ok i1 s.length 1 hX2 (pre := newPre p ++ [.fu []]) (post := .so (s.length + 1) 0 0 0 :: newPost) rfl rfl
 have hs2 : (s ++ [midO p s.length] ++ [(⟨0, true, 3, []⟩ : VL.Obj)]).set s.length { midO p s.length with els := [(newPre p ++ [.fu []]) ++ V.so (s ++ [midO p s.length] ++ [(⟨0, true, 3, []⟩ : VL.Obj)]).length 0 0 0 :: (.so (s.length + 1) 0 0 0 :: newPost)] } ++ [⟨0, true, 1, []⟩] =
   s ++ [mO1 (s.length + 1) (s.length + 2) (fresh p) (.fu []), mO2 b a (fresh p), mO3 (fresh p)] := by
  rw [List.append_assoc, List.set_append_right _ _ (Nat.le_refl _), Nat.sub_self]
  simp [mO1, mO2, mO3, fresh, midO, newPre, newPost]
 rw [hs2] at e2 i2
 refine ⟨σ2, _, _, e1.trans e2, i2, ?_, hk b a⟩
 have hpp2 := hpp.evolve (e1.trans e2)
 refine .tu hsz fun i x hx => ?_
 match i with
 | 0 => cases hx; exact hpp2
 | 1 => cases hx; exact (hcs 1 _ rfl).evolve (e1.trans e2)
 | i + 2 => simp at hx
theorem call_m {f : FuncId} {cargs args : List V} {r r' : V} {m m' : Mst} {T T' TX TX' : V} {X Y Z b a : Nat} {s : List VL.Obj} {K : V → List VL.Obj → Prop} (h : callWp prog f cargs (m.objsT 0 b a T) fun v s => v = r ∧ s = m'.objsT 0 b a T')
  (hT : refsV 3 T = true) (hTX : renV [X, Y, Z] T = TX) (hTX' : renV [X, Y, Z] T' = TX') (hnd : [X, Y, Z].Nodup) (hX : s[X]? = some (mO1 Y Z m TX)) (hY : s[Y]? = some (mO2 b a m)) (hZ : s[Z]? = some (mO3 m)) (ha : args = cargs.map (renV [X, Y, Z])) (hra : refsV.go 3 cargs = true) (hr : renV [X, Y, Z] r = r')
  (hk : K r' (((s.set X (mO1 Y Z m' TX')).set Y (mO2 b a m')).set Z (mO3 m'))) : callWp prog f args s K := by
 refine call_map [X, Y, Z] h hnd (by rfl) ?_ ha hra (objsT_ok 0 b a m T 3 (Nat.le_refl _) hT) hr ?_
 ·have e : (m.objsT 0 b a T).map (fun o => some (renO [X, Y, Z] o)) = ((m.objsT 0 b a T).map (renO [X, Y, Z])).map some := by rw [List.map_map]; rfl
  rw [e, objsT_ren, hTX]
  simp only [List.map_cons, List.map_nil, hX, hY, hZ]
 ·rw [objsT_ren, hTX']
  exact hk
def setA : Re := .mk 1 [(97, 97)] [] 0 0 0 0 false
def setB : Re := .mk 1 [(98, 98)] [] 0 0 0 0 false
def pL : Pat := ⟨.mk 3 [] [setA, .mk 2 [] [setA, setB] 0 0 0 0 false] 0 0 0 0 false, 0, false⟩
def runL : Option Rs := srchB 30 true ((fresh pL).set_ [97, 98] 0 9) 0 (runPlace (fresh pL) 0) true
def rsM (o : Option Rs) : Mst := match o with | some x => x.1 | none => fresh pL
def rsP (o : Option Rs) : BPlace := match o with | some x => x.2.1 | none => .zero
def rsF (o : Option Rs) : Bool := match o with | some x => x.2.2 | none => false
theorem rs_some {o : Option Rs} (h : o.isSome = true) : o = some (rsM o, rsP o, rsF o) := by
 cases o with
 | none => cases h
 | some x => rfl
def mL1 : Mst := ((rsM runL).done (rsF runL)).kept
def nextL : Option Rs := srchB 30 true mL1 0 .zero false
def mL2 : Mst := (rsM nextL).done (rsF nextL)
def nextL2 : Option Rs := srchB 30 true mL2 0 .zero false
def mL3 : Mst := (rsM nextL2).done (rsF nextL2)
theorem runL_some : runL.isSome = true := by rfl
theorem nextL_some : nextL.isSome = true := by rfl
theorem nextL2_some : nextL2.isSome = true := by rfl
theorem runL_res : (rsM runL).res (rsP runL) (rsF runL) = [i64 0, i64 1, .d (capD []), bV true, i64 2, i64 0] := by rfl
theorem nextL_res : (rsM nextL).res (rsP nextL) (rsF nextL) = [i64 0, i64 2, .d (capD []), bV true, i64 5, i64 0] := by rfl
theorem nextL2_res : (rsM nextL2).res (rsP nextL2) (rsF nextL2) = [i64 0, i64 0, .d (.sl []), bV false, i64 5, i64 0] := by rfl
theorem mL_deep : mL3.deepest = 1 := by rfl
theorem mL1_ready : mL1.ready = true := by rfl
theorem mL2_ready : mL2.ready = true := by rfl
theorem mL1_T : ((rsM runL).done (rsF runL)).keptT = mL1.text := by rfl
theorem mL_check : checkR pL.runes [97, 98] 0 9 = 0 := by rfl
theorem mL_valid : validR pL = 0 := by decide
end Go.Proofs.Ytilapneoohcplaa
