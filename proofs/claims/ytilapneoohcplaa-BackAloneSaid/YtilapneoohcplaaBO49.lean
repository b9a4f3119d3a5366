/- A part of the proof (G63 G64 G65). -/
import Derived.Test.YtilapneoohcplaaBO46
import Derived.Test.YtilapneoohcplaaBO47
import Derived.Test.YtilapneoohcplaaBO48
set_option linter.unusedSimpArgs false
set_option linter.unusedVariables false
set_option maxRecDepth 100000
set_option maxHeartbeats 80000000
namespace Go.Proofs.Ytilapneoohcplaa
open Go.VL Go.Proofs.Try
def Outs : Mst → BPlace → Bool → List (Int × CapsL × Mst) → Mst → Prop
 | m, p, al, [], mE => Ev m 0 p al (mE, .zero, false)
 | m, p, al, r :: L, mE => Ev m 0 p al (r.2.2, ⟨r.1, r.2.1, .nil⟩, true) ∧ Outs r.2.2 .zero false L mE
def OutsP : Mst → BPlace → Bool → List (Int × CapsL × Mst) → Prop
 | _, _, _, [] => True
 | m, p, al, r :: L => Ev m 0 p al (r.2.2, ⟨r.1, r.2.1, .nil⟩, true) ∧ OutsP r.2.2 .zero false L
theorem ev_det {m : Mst} {b : Nat} {p : BPlace} {al : Bool} {x y : Rs} (h1 : Ev m b p al x) (h2 : Ev m b p al y) : x = y := by
 obtain ⟨_, h1⟩ := h1
 obtain ⟨_, h2⟩ := h2
 exact srchB_det h1 h2
theorem outs_pre : ∀ {L' L : List (Int × CapsL × Mst)} {m : Mst} {p : BPlace} {al : Bool} {mE : Mst}, Outs m p al L mE → OutsP m p al L' → ∃ L2, L = L' ++ L2
 | [], L, _, _, _, _, _, _ => ⟨L, rfl⟩
 | r' :: L', [], _, _, _, _, h, h' => by
  have := ev_det h h'.1
  simp at this
 | r' :: L', r :: L, _, _, _, _, h, h' => by
  have := ev_det h.1 h'.1
  obtain ⟨a, c, m⟩ := r
  obtain ⟨a', c', m'⟩ := r'
  simp only [Prod.mk.injEq, BPlace.mk.injEq, and_true] at this
  obtain ⟨rfl, rfl, rfl⟩ := this
  obtain ⟨L2, rfl⟩ := outs_pre h.2 h'.2
  exact ⟨L2, rfl⟩
theorem outs_det : ∀ {L L' : List (Int × CapsL × Mst)} {m : Mst} {p : BPlace} {al : Bool} {mE mE' : Mst}, Outs m p al L mE → Outs m p al L' mE' → L = L' ∧ mE = mE'
 | [], [], _, _, _, _, _, h, h' => by
  have := ev_det h h'
  simp at this
  exact ⟨rfl, this⟩
 | [], _ :: _, _, _, _, _, _, h, h' => by
  have := ev_det h h'.1
  simp at this
 | _ :: _, [], _, _, _, _, _, h, h' => by
  have := ev_det h.1 h'
  simp at this
 | r :: L, r' :: L', _, _, _, _, _, h, h' => by
  have := ev_det h.1 h'.1
  obtain ⟨a, c, m⟩ := r
  obtain ⟨a', c', m'⟩ := r'
  simp only [Prod.mk.injEq, BPlace.mk.injEq, and_true] at this
  obtain ⟨rfl, rfl, rfl⟩ := this
  obtain ⟨rfl, rfl⟩ := outs_det h.2 h'.2
  exact ⟨rfl, rfl⟩
theorem runs_outs : ∀ {R : List (Int × CapsL)} {m m' : Mst} {p p' : BPlace} {al al' : Bool}, Runs 0 m p al R m' p' al' →
  ∃ L : List (Int × CapsL × Mst), L.map (fun r => (r.1, r.2.1)) = R ∧ (∀ r ∈ L, r.2.2.spent = false) ∧ (∀ L2 mE, Outs m' p' al' L2 mE → Outs m p al (L ++ L2) mE) ∧ ∀ L2, OutsP m' p' al' L2 → OutsP m p al (L ++ L2)
 | [], _, _, _, _, _, _, h => by
  refine ⟨[], rfl, fun r hr => by simp at hr, fun L2 mE h2 => ?_, fun L2 h2 => ?_⟩
  ·cases L2 with
   | nil => exact runs_ev h rfl h2
   | cons r L2 => exact ⟨runs_ev h rfl h2.1, h2.2⟩
  ·cases L2 with
   | nil => trivial
   | cons r L2 => exact ⟨runs_ev h rfl h2.1, h2.2⟩
 | r :: R, _, _, _, _, _, _, h => by
  obtain ⟨m1, k1, k2, k3⟩ := runs_first h rfl
  obtain ⟨L, j1, j2, j3, j4⟩ := runs_outs k3
  refine ⟨(r.1, r.2, m1) :: L, by simp [j1], fun q hq => ?_, fun L2 mE h2 => ⟨k1, j3 L2 mE h2⟩, fun L2 h2 => ⟨k1, j4 L2 h2⟩⟩
  rcases List.mem_cons.1 hq with rfl | hq
  ·exact k2
  ·exact j2 q hq
theorem stk_out {m : Mst} {p : BPlace} {S : List BPlace} (hS : Stk m S) (hs : m.spent = true) : ∃ m2, Ev m 0 p false (m2, .zero, false) ∧ m2.top ≤ m2.stk.length ∧ m2.spent = true ∧ Po m m2 := by
 rcases List.eq_nil_or_concat S with rfl | ⟨S2, q2, rfl⟩
 ·exact ⟨m, ev_none hS.2.1, hS.len, hs, .refl _⟩
 ·have k5 : Stk m (S2 ++ [q2]) := by simpa [List.concat_eq_append] using hS
  refine ⟨m.pop, ?_, k5.last.2.len, hs, po_pop m⟩
  have hl := k5.len
  have ht : m.top = S2.length + 1 := by rw [k5.2.1, List.length_append]; rfl
  refine ⟨2, ?_⟩
  rw [srchB.eq_2, if_neg (show ¬ (false = true ∧ m.spent = true) from fun h => by cases h.1), if_neg (fun h => by cases h.1), if_neg (fun h => by cases h), if_neg (by omega), if_neg (by have := k5.2.2; omega), k5.last.1]
  simp only
  rw [srchB.eq_2, if_pos ⟨rfl, hs⟩]
theorem outs_law {p : Pat} {t : List Int} {at_ most F : Int} (hv : valid7 p t F = 0) (a0 : 0 ≤ at_) (a1 : at_ ≤ t.length) (hm : 0 ≤ most → 0 < most) {m : Mst} (hp : m.p = p) :
  ∃ L : List (Int × CapsL × Mst), (searchX p t at_ most F).2.ends = L.map (fun r => r.1) ∧ (searchX p t at_ most F).2.caps = L.map (fun r => r.2.1) ∧ (∀ r ∈ L, r.2.2.spent = false ∧ r.2.1.length = p.caps.toNat) ∧
   ((0 ≤ most ∧ (searchX p t at_ most F).2.empty = false ∧ (L.length : Int) = most ∧ OutsP (m.set_ t at_ F) (runPlace m at_) true L ∧ ∃ L0 r, L = L0 ++ [r] ∧ r.2.2.steps = (searchX p t at_ most F).2.steps ∧ r.2.2.top ≤ r.2.2.stk.length ∧ Po (m.set_ t at_ F) r.2.2) ∨
    ((0 ≤ most → (L.length : Int) < most) ∧ ∃ mE, Outs (m.set_ t at_ F) (runPlace m at_) true L mE ∧ mE.spent = (searchX p t at_ most F).2.empty ∧ ((searchX p t at_ most F).2.empty = false → mE.steps = (searchX p t at_ most F).2.steps) ∧ mE.top ≤ mE.stk.length ∧ Po (m.set_ t at_ F) mE)) := by
 obtain ⟨R, m', h1, h2, h3, h4, h5, h6⟩ := run_con (most := most) hv a0 a1 hm hp
 simp only [List.nil_append] at h1 h2
 have hmap : ∀ {L : List (Int × CapsL × Mst)} {R : List (Int × CapsL)}, L.map (fun r => (r.1, r.2.1)) = R → R.map Prod.fst = L.map (fun r => r.1) ∧ R.map Prod.snd = L.map (fun r => r.2.1) := by
  rintro L R rfl; simp
 rcases h6 with ⟨_, k2, k3, k4, _, p', k5⟩ | ⟨_, k2, k3, k4, _, S', R0, e, d, k5, rfl, k7⟩ | ⟨_, k2, k3, k4, p', S', k5, k6⟩
 ·obtain ⟨L, j1, j2, j3, j4⟩ := runs_outs k5
  obtain ⟨q1, q2⟩ := hmap j1
  have hl : (searchX p t at_ most F).2.ends.length = L.length := by rw [h1, q1, List.length_map]
  refine ⟨L, by rw [h1, q1], by rw [h2, q2], fun r hr => ⟨j2 r hr, (h3 (r.1, r.2.1) (by rw [← j1]; exact List.mem_map.2 ⟨r, hr, rfl⟩)).2.2.2⟩, .inr ⟨fun h0 => by have := k3 h0; omega, m', ?_, by rw [k4.spent, k2], fun _ => k4.steps, k4.stk.len, h4⟩⟩
  have := j3 [] m' (ev_none k4.stk.2.1)
  simpa using this
 ·obtain ⟨L, j1, j2, j3, j4⟩ := runs_outs k7
  have j1' : (L ++ [(e, d, m')]).map (fun r => (r.1, r.2.1)) = R0 ++ [(e, d)] := by simp [j1]
  obtain ⟨q1, q2⟩ := hmap j1'
  have hl : (searchX p t at_ most F).2.ends.length = (L ++ [(e, d, m')]).length := by rw [h1, q1, List.length_map]
  refine ⟨L ++ [(e, d, m')], by rw [h1, q1], by rw [h2, q2], fun r hr => ⟨?_, (h3 (r.1, r.2.1) (by rw [← j1']; exact List.mem_map.2 ⟨r, hr, rfl⟩)).2.2.2⟩, .inl ⟨k3, k2, by omega, j4 _ ⟨?_, trivial⟩, L, _, rfl, k5.steps, k5.stk.len, h4⟩⟩
  ·rcases List.mem_append.1 hr with hr | hr
   ·exact j2 r hr
   ·rw [List.mem_singleton.1 hr]; exact k5.spent
  ·have := ev_found (m := m') (base := 0) (p := ⟨e, d, .nil⟩) rfl
   rwa [k5.spent] at this
 ·obtain ⟨L, j1, j2, j3, j4⟩ := runs_outs k6
  obtain ⟨q1, q2⟩ := hmap j1
  have hl : (searchX p t at_ most F).2.ends.length = L.length := by rw [h1, q1, List.length_map]
  obtain ⟨m2, i1, i2, i3, i4⟩ := stk_out (p := p') (by simpa using k5) k4
  refine ⟨L, by rw [h1, q1], by rw [h2, q2], fun r hr => ⟨j2 r hr, (h3 (r.1, r.2.1) (by rw [← j1]; exact List.mem_map.2 ⟨r, hr, rfl⟩)).2.2.2⟩, .inr ⟨fun h0 => by have := k3 h0; omega, m2, ?_, by rw [i3, k2], (fun h => by rw [k2] at h; cases h), i2, h4.trans i4⟩⟩
  have := j3 [] m2 i1
  simpa using this
theorem outs_all {p : Pat} {t : List Int} {at_ F : Int} (hv : valid7 p t F = 0) (a0 : 0 ≤ at_) (a1 : at_ ≤ t.length) {m : Mst} (hp : m.p = p) :
  ∃ (L : List (Int × CapsL × Mst)) (mE : Mst), (searchX p t at_ (-1) F).2.ends = L.map (fun r => r.1) ∧ (searchX p t at_ (-1) F).2.caps = L.map (fun r => r.2.1) ∧ (∀ r ∈ L, r.2.2.spent = false ∧ r.2.1.length = p.caps.toNat) ∧
   Outs (m.set_ t at_ F) (runPlace m at_) true L mE ∧ mE.spent = (searchX p t at_ (-1) F).2.empty ∧ ((searchX p t at_ (-1) F).2.empty = false → mE.steps = (searchX p t at_ (-1) F).2.steps) ∧ mE.top ≤ mE.stk.length ∧ Po (m.set_ t at_ F) mE := by
 obtain ⟨L, h1, h2, h3, h4⟩ := outs_law (most := -1) hv a0 a1 (fun h => by omega) hp
 rcases h4 with ⟨h, _⟩ | ⟨_, mE, k1, k2, k3, k4, k5⟩
 ·omega
 ·exact ⟨L, mE, h1, h2, h3, k1, k2, k3, k4, k5⟩
theorem outs_nth {p : Pat} {t : List Int} {at_ F : Int} (hv : valid7 p t F = 0) (a0 : 0 ≤ at_) (a1 : at_ ≤ t.length) {m : Mst} (hp : m.p = p) {L : List (Int × CapsL × Mst)} {mE : Mst} (hO : Outs (m.set_ t at_ F) (runPlace m at_) true L mE) {j : Nat} {r : Int × CapsL × Mst} (hj : L[j]? = some r) :
  allE p t at_ (j + 1) F = 0 ∧ allM p t at_ (j + 1) F = (L.take (j + 1)).map (fun r => (r.1, r.2.1)) ∧ allN p t at_ (j + 1) F = r.2.2.steps ∧ r.2.2.top ≤ r.2.2.stk.length ∧ Po (m.set_ t at_ F) r.2.2 := by
 obtain ⟨L', h1, h2, h3, h4⟩ := outs_law (most := (j : Int) + 1) hv a0 a1 (fun h => by omega) hp
 have hjl := (List.getElem?_eq_some_iff.1 hj).1
 rcases h4 with ⟨_, k2, k3, k4, L0, r', k5, k6, k7, k8⟩ | ⟨k0, mE', k1, _⟩
 ·have hE := allE_zero hv a0 a1 k2
  obtain ⟨L2, rfl⟩ := outs_pre hO k4
  have hl : L'.length = j + 1 := by omega
  have hr : r' = r := by
   have hl0 : L0.length = j := by rw [k5, List.length_append] at hl; simp at hl; omega
   rw [k5, List.append_assoc, List.getElem?_append_right (by omega), hl0, Nat.sub_self] at hj
   simpa using hj
  subst hr
  refine ⟨hE, ?_, ?_, k7, k8⟩
  ·unfold allM
   rw [if_pos hE, h1, h2, List.take_append_of_le_length (by omega), List.take_of_length_le (by omega)]
   clear h1 h2 h3 k4 k5 hO hj hl hjl k3
   induction L' with
   | nil => rfl
   | cons x l ih => simp only [List.map_cons, List.zip_cons_cons, ih]
  ·unfold allN; rw [if_pos hE, k6]
 ·obtain ⟨rfl, _⟩ := outs_det hO k1
  have := k0 (by omega)
  omega
theorem outs_most {p : Pat} {t : List Int} {at_ F : Int} (hE : allE p t at_ (-1) F = 0) {m : Mst} (hp : m.p = p) :
  ∃ (L : List (Int × CapsL × Mst)) (mE : Mst), allM p t at_ (-1) F = L.map (fun r => (r.1, r.2.1)) ∧ (∀ r ∈ L, r.2.2.spent = false ∧ r.2.1.length = p.caps.toNat) ∧
   Outs (m.set_ t at_ F) (runPlace m at_) true L mE ∧ mE.spent = false ∧ mE.steps = allN p t at_ (-1) F ∧ mE.top ≤ mE.stk.length ∧ Po (m.set_ t at_ F) mE := by
 obtain ⟨hv, a0, a1, he⟩ := allE_valid hE
 obtain ⟨L, mE, h1, h2, h3, h4, h5, h6, h7, h8⟩ := outs_all hv a0 a1 hp
 refine ⟨L, mE, ?_, h3, h4, by rw [h5, he], ?_, h7, h8⟩
 ·unfold allM
  rw [if_pos hE, h1, h2]
  clear h1 h2 h3 h4
  induction L with
  | nil => rfl
  | cons x l ih => simp only [List.map_cons, List.zip_cons_cons, ih]
 ·unfold allN; rw [if_pos hE, h6 he]
def AtR (m mm : Mst) (T : V) : Prop := m.spent = false ∧ mm.ready = true ∧ ((∃ o w g, mm = m.up true o w g ∧ (o = true → w = m.t) ∧ T = mm.text) ∨ (m.top = 0 ∧ mm = { m with ready := true, t := [], ownText := false } ∧ T = .fu []))
theorem at_T {m mm : Mst} {T : V} (h : AtR m mm T) : refsV 3 T = true ∧ renV [0, 1, 2] T = T := by
 rcases h.2.2 with ⟨o, w, g, rfl, _, rfl⟩ | ⟨_, _, rfl⟩
 ·unfold Mst.text; split <;> exact ⟨rfl, rfl⟩
 ·exact ⟨rfl, rfl⟩
theorem at_same {m mm : Mst} {T : V} (h : AtR m mm T) : mm.p = m.p ∧ mm.deepest = m.deepest ∧ mm.top = m.top ∧ mm.stk = m.stk := by
 rcases h.2.2 with ⟨o, w, g, rfl, _, rfl⟩ | ⟨_, rfl, rfl⟩ <;> exact ⟨rfl, rfl, rfl, rfl⟩
theorem at_run {m : Mst} (hs : m.spent = false) : AtR m (m.done true).kept (m.done true).keptT := by
 have hr : (m.done true).ready = true := by show (true && !m.spent) = true; rw [hs]; rfl
 have hk : (m.done true).kept.ready = true := by unfold Mst.kept; split <;> exact hr
 refine ⟨hs, hk, ?_⟩
 by_cases c : 0 < m.top
 ·refine .inl ⟨true, m.t, m.ogen + 1, ?_, fun _ => rfl, ?_⟩
  ·rw [kept_up m true ⟨hr, c⟩, hr]
  ·rw [kept_up m true ⟨hr, c⟩]
   unfold Mst.keptT
   rw [if_pos ⟨hr, c⟩]
   rfl
 ·refine .inr ⟨by omega, ?_, ?_⟩
  ·unfold Mst.kept
   rw [if_neg (show ¬ ((m.done true).ready = true ∧ 0 < (m.done true).top) from fun h => c h.2)]
   have h2 : (m.done true).ready = true := hr
   unfold Mst.done at h2 ⊢
   simp only at h2
   rw [h2]
  ·unfold Mst.keptT
   rw [if_neg (show ¬ ((m.done true).ready = true ∧ 0 < (m.done true).top) from fun h => c h.2)]
theorem next_at {m mm : Mst} {T : V} (h : AtR m mm T) {m2 : Mst} {q : BPlace} {f : Bool} (he : Ev m 0 .zero false (m2, q, f)) (hq : q.caps.length ≤ 1000000000) :
  ∃ mm' T', (∀ b a : Nat, callWp prog 19 [.pp 0 0 0 0 b a] (mm.objsT 0 b a T) fun v s => v = outV (m2.res q f) ∧ s = mm'.objsT 0 b a T') ∧ refsV 3 T' = true ∧ renV [0, 1, 2] T' = T' ∧
   mm'.p = m2.p ∧ mm'.deepest = m2.deepest ∧ mm'.top = m2.top ∧ mm'.stk = m2.stk ∧ (f = true → m2.spent = false → AtR m2 mm' T') ∧ (f = false → mm'.ready = false) := by
 obtain ⟨hs, hr, h⟩ := h
 rcases h with ⟨o, w, g, rfl, hw, rfl⟩ | ⟨ht, rfl, rfl⟩
 ·obtain ⟨k, hk⟩ := ev_up hs he true o w g hw
  have hn := fun b a => mnext_ok 0 b a (m.up true o w g) rfl hk hq
  have hfr : m.Fr m2 := by obtain ⟨k, hk⟩ := he; exact fr_srch _ _ _ _ _ _ _ hk
  refine ⟨(m2.up true o w g).done f, ((m2.up true o w g).done f).text, fun b a => hn b a, mtext_refs _, by unfold Mst.text; split <;> rfl, rfl, rfl, rfl, rfl, fun hf hsp => ?_, fun hf => ?_⟩
  ·have e : (m2.up true o w g).done f = m2.up true o w g := by rw [done_up, hf, hsp]; rfl
   rw [e]
   exact ⟨hsp, rfl, .inl ⟨o, w, g, rfl, fun ho => by rw [hw ho, hfr.t], rfl⟩⟩
  ·rw [done_up, hf]; rfl
 ·have hd := ev_det he (ev_none ht)
  cases hd
  have hsr : srchB 1 true { m with ready := true, t := [], ownText := false } 0 .zero false = some ({ m with ready := true, t := [], ownText := false }, .zero, false) := by
   rw [srchB.eq_2, if_neg (show ¬ (true = true ∧ m.spent = true) from fun h => by rw [hs] at h; cases h.2), if_neg (fun h => by cases h.1), if_neg (fun h => by cases h), if_pos (show m.top = 0 from ht)]
  have hn := fun b a => mnext_ok 0 b a { m with ready := true, t := [], ownText := false } rfl hsr (Nat.zero_le _)
  refine ⟨({ m with ready := true, t := [], ownText := false } : Mst).done false, (({ m with ready := true, t := [], ownText := false } : Mst).done false).text, fun b a => ?_, mtext_refs _, by unfold Mst.text; split <;> rfl, rfl, rfl, rfl, rfl, fun hf => (by cases hf), fun _ => rfl⟩
  have := call_tfu (ext := []) (m := { m with ready := true, t := [], ownText := false }) (by rw [List.append_nil]; exact hn b a)
  rw [List.append_nil] at this
  exact this
theorem outs_zero {m : Mst} {p : BPlace} {al : Bool} {L : List (Int × CapsL × Mst)} {mE : Mst} (h : Outs m p al L mE) : (∀ r, L[0]? = some r → Ev m 0 p al (r.2.2, ⟨r.1, r.2.1, .nil⟩, true)) ∧ (L[0]? = none → Ev m 0 p al (mE, .zero, false)) := by
 cases L with
 | nil => exact ⟨fun r hr => (by cases hr), fun _ => h⟩
 | cons x L => exact ⟨fun r hr => by cases hr; exact h.1, fun hr => (by cases hr)⟩
theorem outs_cons {m : Mst} {p : BPlace} {al : Bool} {x : Int × CapsL × Mst} {L : List (Int × CapsL × Mst)} {mE : Mst} (h : Outs m p al (x :: L) mE) : Ev m 0 p al (x.2.2, ⟨x.1, x.2.1, .nil⟩, true) ∧ Outs x.2.2 .zero false L mE := h
theorem outs_succ {L : List (Int × CapsL × Mst)} : ∀ {k : Nat} {m : Mst} {p : BPlace} {al : Bool} {mE : Mst} {q : Int × CapsL × Mst}, Outs m p al L mE → L[k]? = some q →
  (∀ r, L[k + 1]? = some r → Ev q.2.2 0 .zero false (r.2.2, ⟨r.1, r.2.1, .nil⟩, true)) ∧ (L[k + 1]? = none → Ev q.2.2 0 .zero false (mE, .zero, false)) := by
 induction L with
 | nil => intro k m p al mE q h hq; cases hq
 | cons x L ih =>
  intro k m p al mE q h hq
  have h2 := (outs_cons h).2
  clear h
  cases k with
  | zero =>
   have hq : x = q := Option.some.inj hq
   rw [hq] at h2
   have := outs_zero h2
   exact this
  | succ k => exact ih h2 hq
def outRes (i : Int) (L : List (Int × CapsL × Mst)) (mE : Mst) (k : Nat) : List V :=
 match L[k]? with
 | some r => [i64 i, i64 r.1, .d (capD r.2.1), bV true, i64 r.2.2.steps, i64 0]
 | none => [i64 0, i64 0, .d (.sl []), bV false, i64 mE.steps, i64 0]
def NSt (p : Pat) (L : List (Int × CapsL × Mst)) (k : Nat) (m : Mst) (T : V) : Prop :=
 refsV 3 T = true ∧ renV [0, 1, 2] T = T ∧ if k = 0 then m = fresh p ∧ T = .fu [] else match L[k - 1]? with
  | some r => AtR r.2.2 m T
  | none => m.ready = false
theorem run_outs {p : Pat} {t : List Int} {i F : Int} (hv : valid7 p t F = 0) (a0 : 0 ≤ i) (a1 : i ≤ t.length) {L : List (Int × CapsL × Mst)} {mE m0 : Mst} {T0 : V} (hm : Rst p m0) (hT : refsV 3 T0 = true) (hT2 : renV [0, 1, 2] T0 = T0)
  (hL : ∀ r ∈ L, r.2.2.spent = false ∧ r.2.1.length = p.caps.toNat) (hO : Outs (m0.set_ t i F) (runPlace m0 i) true L mE) :
  (∀ r, L[0]? = some r → ∃ (m' : Mst) (T' : V), AtR r.2.2 m' T' ∧ ∀ b a : Nat, callWp prog 15 [.pp 0 0 0 0 b a, .d (intsD t), i64 i, i64 F] (m0.objsT 0 b a T0) fun v s => v = outV [i64 i, i64 r.1, .d (capD r.2.1), bV true, i64 r.2.2.steps, i64 0] ∧ s = m'.objsT 0 b a T') ∧
  (L[0]? = none → ∃ (m' : Mst) (T' : V), m'.ready = false ∧ refsV 3 T' = true ∧ renV [0, 1, 2] T' = T' ∧ m'.p = mE.p ∧ m'.deepest = mE.deepest ∧ m'.top = mE.top ∧ m'.stk = mE.stk ∧ ∀ b a : Nat, callWp prog 15 [.pp 0 0 0 0 b a, .d (intsD t), i64 i, i64 F] (m0.objsT 0 b a T0) fun v s => v = outV (mE.res .zero false) ∧ s = m'.objsT 0 b a T') := by
 obtain ⟨v1, v2, v3, v4, v5⟩ := valid7_spec hv
 obtain ⟨k1, k2, k3, k4, k5⟩ := validR_spec v1
 have hck : checkR m0.p.runes t i F = 0 := by rw [hm.p]; exact check_valid hv a0 a1
 have hrun : ∀ {k : Nat} {m2 : Mst} {p2 : BPlace} {found : Bool}, srchB k true (m0.set_ t i F) 0 (runPlace m0 i) true = some (m2, p2, found) → p2.caps.length ≤ 1000000000 → ∀ b a : Nat, callWp prog 15 [.pp 0 0 0 0 b a, .d (intsD t), i64 i, i64 F] (m0.objsT 0 b a T0) fun v s => v = outV (m2.res p2 found) ∧ s = (m2.done found).kept.objsT 0 b a (m2.done found).keptT :=
  fun hx hp b a => mrun_ok 0 b a m0 T0 hT hT2 hm.top t i F (by omega) (sym_i64 hv) hck p.caps.toNat (by rw [hm.p]; omega) (by omega) hx hp
 refine ⟨fun r h0 => ?_, fun h0 => ?_⟩
 ·have hr := hL r (List.mem_of_getElem? h0)
  have hev := (outs_zero hO).1 r h0
  have hfr : (m0.set_ t i F).Fr r.2.2 := by obtain ⟨k, hk⟩ := hev; exact fr_srch _ _ _ _ _ _ _ hk
  obtain ⟨k, hk⟩ := ev_out rfl hev
  refine ⟨_, _, at_run hr.1, fun b a => ?_⟩
  have := hrun hk (by show r.2.1.length ≤ _; omega) b a
  have e : r.2.2.res ⟨r.1, r.2.1, .nil⟩ true = [i64 i, i64 r.1, .d (capD r.2.1), bV true, i64 r.2.2.steps, i64 0] := by
   unfold Mst.res
   rw [if_neg (by rw [hr.1]; simp), if_pos rfl, hfr.start]; rfl
  rw [← e]
  exact this
 ·have hev := (outs_zero hO).2 h0
  obtain ⟨k, hk⟩ := ev_out rfl hev
  have hT := kept_T (mE.done false)
  have hkk : (mE.done false).kept.ready = false ∧ (mE.done false).kept.p = mE.p ∧ (mE.done false).kept.deepest = mE.deepest ∧ (mE.done false).kept.top = mE.top ∧ (mE.done false).kept.stk = mE.stk := by unfold Mst.kept; split <;> exact ⟨rfl, rfl, rfl, rfl, rfl⟩
  exact ⟨_, _, hkk.1, hT.1, hT.2, hkk.2.1, hkk.2.2.1, hkk.2.2.2.1, hkk.2.2.2.2, fun b a => hrun hk (Nat.zero_le _) b a⟩
section steps
variable {p : Pat} {t : List Int} {i F : Int} (hE : allE p t i (-1) F = 0) {L : List (Int × CapsL × Mst)} {mE : Mst} (hL : ∀ r ∈ L, r.2.2.spent = false ∧ r.2.1.length = p.caps.toNat) (hO : Outs ((fresh p).set_ t i F) (runPlace (fresh p) i) true L mE) (hs : mE.spent = false)
include hE hL hO hs
theorem step_run : ∃ (m' : Mst) (T' : V), NSt p L 1 m' T' ∧ ∀ b a : Nat, callWp prog 15 [.pp 0 0 0 0 b a, .d (intsD t), i64 i, i64 F] ((fresh p).objsT 0 b a (.fu [])) fun v s => v = outV (outRes i L mE 0) ∧ s = m'.objsT 0 b a T' := by
 obtain ⟨hv, a0, a1, he⟩ := allE_valid hE
 obtain ⟨c1, c2⟩ := run_outs hv a0 a1 (m0 := fresh p) (T0 := .fu []) ⟨rfl, Nat.le_refl _⟩ rfl rfl hL hO
 unfold outRes NSt
 cases h0 : L[0]? with
 | some r =>
  obtain ⟨m', T', hat, hc⟩ := c1 r h0
  refine ⟨m', T', ⟨(at_T hat).1, (at_T hat).2, ?_⟩, hc⟩
  rw [if_neg (by omega)]
  simp only [Nat.sub_self, h0]
  exact hat
 | none =>
  obtain ⟨m', T', hr, hT, hT2, _, _, _, _, hc⟩ := c2 h0
  refine ⟨m', T', ⟨hT, hT2, ?_⟩, fun b a => ?_⟩
  ·rw [if_neg (by omega)]
   simp only [Nat.sub_self, h0]
   exact hr
  ·have e : mE.res .zero false = [i64 0, i64 0, .d (.sl []), bV false, i64 mE.steps, i64 0] := by
    unfold Mst.res
    rw [if_neg (by rw [hs]; simp), if_neg (by simp)]
   have := hc b a
   rw [e] at this
   exact this
theorem step_next (hst : ∀ r ∈ L, r.2.2.start = i) {k : Nat} {q : Int × CapsL × Mst} (hk : L[k]? = some q) {m : Mst} {T : V} (hn : NSt p L (k + 1) m T) : ∃ (m' : Mst) (T' : V), NSt p L (k + 2) m' T' ∧ ∀ b a : Nat, callWp prog 19 [.pp 0 0 0 0 b a] (m.objsT 0 b a T) fun v s => v = outV (outRes i L mE (k + 1)) ∧ s = m'.objsT 0 b a T' := by
 obtain ⟨n1, n2, n3⟩ := hn
 rw [if_neg (by omega)] at n3
 simp only [Nat.add_sub_cancel, hk] at n3
 cases h0 : L[k + 1]? with
 | some r =>
  have hr := hL r (List.mem_of_getElem? h0)
  obtain ⟨m', T', c, t1, t2, _, _, _, _, x1, _⟩ := next_at n3 ((outs_succ hO hk).1 r h0) (by show r.2.1.length ≤ 1000000000; have := (validR_spec (valid7_spec (allE_valid hE).1).1).2.2.2.1; omega)
  refine ⟨m', T', ⟨t1, t2, ?_⟩, fun b a => ?_⟩
  ·rw [if_neg (by omega)]
   simp only [Nat.add_sub_cancel, show k + 2 - 1 = k + 1 by omega, h0]
   exact x1 rfl hr.1
  ·have e : r.2.2.res ⟨r.1, r.2.1, .nil⟩ true = outRes i L mE (k + 1) := by
    unfold Mst.res outRes
    rw [h0, if_neg (by rw [hr.1]; simp), if_pos rfl, hst r (List.mem_of_getElem? h0)]
   rw [← e]
   exact c b a
 | none =>
  obtain ⟨m', T', c, t1, t2, _, _, _, _, _, x2⟩ := next_at n3 ((outs_succ hO hk).2 h0) (Nat.zero_le _)
  refine ⟨m', T', ⟨t1, t2, ?_⟩, fun b a => ?_⟩
  ·rw [if_neg (by omega)]
   simp only [show k + 2 - 1 = k + 1 by omega, h0]
   exact x2 rfl
  ·have e : mE.res .zero false = outRes i L mE (k + 1) := by
    unfold Mst.res outRes
    rw [h0, if_neg (by rw [hs]; simp), if_neg (by simp)]
   rw [← e]
   exact c b a
end steps
theorem outs_start {L : List (Int × CapsL × Mst)} : ∀ {m : Mst} {p : BPlace} {al : Bool} {mE : Mst}, Outs m p al L mE → ∀ r ∈ L, r.2.2.start = m.start := by
 induction L with
 | nil => intro m p al mE h r hr; cases hr
 | cons x L ih =>
  intro m p al mE h r hr
  obtain ⟨h1, h2⟩ := outs_cons h
  clear h
  have hx : x.2.2.start = m.start := by obtain ⟨k, hk⟩ := h1; exact (fr_srch _ _ _ _ _ _ _ hk).start
  rcases List.mem_cons.1 hr with rfl | hr
  ·exact hx
  ·rw [ih h2 r hr, hx]
end Go.Proofs.Ytilapneoohcplaa
