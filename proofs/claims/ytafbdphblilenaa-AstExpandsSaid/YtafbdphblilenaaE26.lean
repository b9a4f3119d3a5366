/- Part of the proof: the program logic, or what some functions compute (F67 F69). -/
import Derived.Test.YtafbdphblilenaaE25
set_option linter.unusedSimpArgs false
set_option linter.unusedVariables false
set_option linter.unusedSimpArgs false
set_option linter.unusedVariables false
namespace Go.Proofs.Ytafbdphblilenaa
open Go.VL

/-! ### The plain law of Expand -/

theorem joinR_one (x : Re) : joinR [x] = x := rfl
theorem joinR_two (l : List Re) (h : l.length ≠ 1) : joinR l = .mk 2 [] l 0 0 0 0 false := by
  unfold joinR
  split
  · simp at h
  · rfl

/-- What stands behind the copies. -/
def tailR (re x : Re) : List Re := if re.mx = -1 then [rept x (-1) re.mode] else if re.mn < re.mx then [restR re.mode x (re.mx - re.mn - 1).toNat] else []

theorem unrollR_eq (re x : Re) : unrollR re x = joinR (List.replicate re.mn.toNat x ++ tailR re x) := rfl

/-- A repetition that is unrolled: its numbers. -/
def UnB (re : Re) : Prop := 0 ≤ re.mn ∧ re.mn ≤ 32 ∧ (re.mx = -1 ∨ (1 ≤ re.mx ∧ re.mx ≤ 32 ∧ re.mn ≤ re.mx)) ∧ ¬ (re.mn = 0 ∧ (re.mx = -1 ∨ re.mx = 1)) ∧ re.mode ≠ 2

theorem un_cases {re : Re} (hv : valB re = true) (ha : re.exa = true) : (re.op ≠ 4 ∨ re.kept = true) ∨
    (re.op = 4 ∧ re.kept = false ∧ UnB re ∧ ∃ k, re.kids = [k] ∧ k.anul = false) := by
  have h1 := of_decide_eq_true hv
  by_cases o : re.op = 4
  · cases hk : re.kept with
    | true => exact .inl (.inr rfl)
    | false =>
      obtain ⟨k1, k2, k3, k4⟩ := h1.2.2.1 o
      obtain ⟨k, hkk⟩ := List.length_eq_one_iff.1 k1
      have hk' : (decide (re.mn = 0) && (decide (re.mx = -1) || decide (re.mx = 1))) = false := hk
      rw [Re.exa_eq, Bool.and_eq_true] at ha
      have hn := ha.1
      unfold exaNode at hn
      rw [hk', hkk] at hn
      simp [o] at hn
      refine .inr ⟨o, rfl, ⟨k2, k3, k4, ?_, hn.1⟩, k, hkk, hn.2⟩
      rintro ⟨e1, e2⟩
      simp [e1] at hk'
      exact e2.elim hk'.1 hk'.2
  · exact .inl (.inl o)

theorem tail_ne {re x : Re} (h : UnB re) : List.replicate re.mn.toNat x ++ tailR re x ≠ [] := by
  obtain ⟨h1, h2, h3, h4, h5⟩ := h
  unfold tailR
  by_cases m : re.mx = -1
  · simp [m]
  · by_cases m2 : re.mn < re.mx
    · simp [m, m2]
    · have : re.mn.toNat ≠ 0 := by omega
      simp [m, m2]; omega

theorem parts_all {Q : Re → Prop} {re x : Re} (hx : Q x) (hr : Q (rept x (-1) re.mode)) (hrest : ∀ j, Q (restR re.mode x j)) : ∀ y ∈ List.replicate re.mn.toNat x ++ tailR re x, Q y := by
  intro y hy
  rcases List.mem_append.1 hy with h | h
  · rw [(List.mem_replicate.1 h).2]; exact hx
  · unfold tailR at h
    split at h
    · rw [List.mem_singleton.1 h]; exact hr
    · split at h
      · rw [List.mem_singleton.1 h]; exact hrest _
      · cases h

theorem parts_len {re x : Re} (h : UnB re) : (List.replicate re.mn.toNat x ++ tailR re x).length ≤ 33 := by
  obtain ⟨h1, h2, _⟩ := h
  have ht : (tailR re x).length ≤ 1 := by
    unfold tailR
    split
    · simp
    · split <;> simp
  rw [List.length_append, List.length_replicate]; omega

theorem restR_ind {Q : Re → Prop} {mode : Int} {x : Re} (h0 : Q (rept x 1 mode)) (h : ∀ y, Q y → Q (rept (joinR [x, y]) 1 mode)) : ∀ j, Q (restR mode x j)
  | 0 => h0
  | j + 1 => h _ (restR_ind h0 h j)

/-! A predicate of all nodes. -/

theorem every_join {p : Re → Bool} {l : List Re} (hc : ∀ l : List Re, l.length ≤ 40 → p (.mk 2 [] l 0 0 0 0 false) = true) (hl : l.length ≤ 40) (h : ∀ y ∈ l, y.every p = true) : (joinR l).every p = true := by
  by_cases h1 : l.length = 1
  · obtain ⟨x, rfl⟩ := List.length_eq_one_iff.1 h1
    exact h x (by simp)
  · rw [joinR_two l h1, Re.every_iff]
    exact ⟨hc l hl, h⟩

theorem every_exp {p : Re → Bool} (hc : ∀ l : List Re, l.length ≤ 40 → p (.mk 2 [] l 0 0 0 0 false) = true) (hr : ∀ x most mode, most = -1 ∨ most = 1 → mode ≠ 2 → p (rept x most mode) = true)
    (hout : ∀ re, valB re = true → re.exa = true → p re = true → (re.op ≠ 4 ∨ re.kept = true) → p re.out = true) (re : Re) (hp : re.every p = true) (hv : re.every valB = true) (ha : re.exa = true) : re.exp.every p = true := by
  revert hp hv ha
  refine Re.ind (Q := fun re => re.every p = true → re.every valB = true → re.exa = true → re.exp.every p = true) (fun re ih hp hv ha => ?_) re
  obtain ⟨hp1, hp2⟩ := (Re.every_iff re).1 hp
  obtain ⟨hv1, hv2⟩ := (Re.every_iff re).1 hv
  have ha2 := (exa_spec ha).2
  rcases un_cases hv1 ha with h | ⟨o, hk, hb, k, hkk, hn⟩
  · rw [Re.exp_keep h, Re.every_iff]
    refine ⟨hout re hv1 ha hp1 h, fun y hy => ?_⟩
    obtain ⟨k, hk, rfl⟩ := List.mem_map.1 (show y ∈ re.kids.map Re.exp from hy)
    exact ih k hk (hp2 k hk) (hv2 k hk) (ha2 k hk)
  · have hm : k ∈ re.kids := by rw [hkk]; simp
    have hx := ih k hm (hp2 k hm) (hv2 k hm) (ha2 k hm)
    rw [Re.exp_un o hk hkk, unrollR_eq]
    have hrep : ∀ (y : Re) most, (most = -1 ∨ most = 1) → y.every p = true → (rept y most re.mode).every p = true := fun y most hm hy => by
      rw [Re.every_iff]
      exact ⟨hr y most re.mode hm hb.2.2.2.2, fun z hz => by rw [show z = y by simpa [rept, Re.kids] using hz]; exact hy⟩
    refine every_join hc (by have := parts_len (x := k.exp) hb; omega) (parts_all (Q := fun y => y.every p = true) hx (hrep _ _ (.inl rfl) hx) (restR_ind (Q := fun y => y.every p = true) (hrep _ _ (.inr rfl) hx) (fun y hy => hrep _ _ (.inr rfl) (every_join hc (by simp) (fun z hz => ?_)))))
    simp only [List.mem_cons, List.not_mem_nil, or_false] at hz
    rcases hz with rfl | rfl
    · exact hx
    · exact hy

/-- All repetitions are kept. -/
def keptB (re : Re) : Bool := decide (re.op = 4 → re.kids.length = 1 ∧ re.kept = true ∧ re.mode ≠ 2)

theorem true_every (re : Re) : re.every (fun _ => true) = true := by
  refine Re.ind (Q := fun re => re.every (fun _ => true) = true) (fun re ih => ?_) re
  exact (Re.every_iff re).2 ⟨rfl, ih⟩

theorem kept_exp (re : Re) (hv : re.every valB = true) (ha : re.exa = true) : re.exp.every keptB = true := by
  revert hv ha
  refine Re.ind (Q := fun re => re.every valB = true → re.exa = true → re.exp.every keptB = true) (fun re ih hv ha => ?_) re
  obtain ⟨hv1, hv2⟩ := (Re.every_iff re).1 hv
  have ha2 := (exa_spec ha).2
  have hc : ∀ l : List Re, l.length ≤ 40 → keptB (.mk 2 [] l 0 0 0 0 false) = true := fun l _ => decide_eq_true (fun h => by cases h)
  have hr : ∀ x most mode, most = -1 ∨ most = 1 → mode ≠ 2 → keptB (rept x most mode) = true := fun x most mode hm h2 => decide_eq_true (fun _ => ⟨rfl, by rcases hm with rfl | rfl <;> rfl, h2⟩)
  rcases un_cases hv1 ha with h | ⟨o, hk, hb, k, hkk, hn⟩
  · rw [Re.exp_keep h, Re.every_iff]
    refine ⟨decide_eq_true fun o => ?_, fun y hy => ?_⟩
    · have o' : re.op = 4 := o
      have h1 := of_decide_eq_true hv1
      have hk : re.kept = true := h.resolve_left (fun h => h o')
      refine ⟨by simpa [Re.out, Re.kids] using (h1.2.2.1 o').1, hk, ?_⟩
      intro h2
      have h2' : re.mode = 2 := h2
      rw [Re.exa_eq] at ha
      simp [exaNode, o', h2'] at ha
    · obtain ⟨k, hk, rfl⟩ := List.mem_map.1 (show y ∈ re.kids.map Re.exp from hy)
      exact ih k hk (hv2 k hk) (ha2 k hk)
  · have hm : k ∈ re.kids := by rw [hkk]; simp
    have hx := ih k hm (hv2 k hm) (ha2 k hm)
    rw [Re.exp_un o hk hkk, unrollR_eq]
    have hrep : ∀ (y : Re) most, (most = -1 ∨ most = 1) → y.every keptB = true → (rept y most re.mode).every keptB = true := fun y most hm hy => by
      rw [Re.every_iff]
      exact ⟨hr y most re.mode hm hb.2.2.2.2, fun z hz => by rw [show z = y by simpa [rept, Re.kids] using hz]; exact hy⟩
    refine every_join hc (by have := parts_len (x := k.exp) hb; omega) (parts_all (Q := fun y => y.every keptB = true) hx (hrep _ _ (.inl rfl) hx) (restR_ind (Q := fun y => y.every keptB = true) (hrep _ _ (.inr rfl) hx) (fun y hy => hrep _ _ (.inr rfl) (every_join hc (by simp) (fun z hz => ?_)))))
    simp only [List.mem_cons, List.not_mem_nil, or_false] at hz
    rcases hz with rfl | rfl
    · exact hx
    · exact hy

theorem Re.eta (re : Re) : Re.mk re.op re.set re.kids re.mn re.mx re.mode re.n re.neg = re := by cases re; rfl

theorem exp_of_kept (re : Re) (h : re.every keptB = true) : re.exp = re := by
  revert h
  refine Re.ind (Q := fun re => re.every keptB = true → re.exp = re) (fun re ih h => ?_) re
  obtain ⟨h1, h2⟩ := (Re.every_iff re).1 h
  have h1 := of_decide_eq_true h1
  rw [Re.exp_keep (by
    by_cases o : re.op = 4
    · exact .inr (h1 o).2.1
    · exact .inl o), Re.out, show re.kids.map Re.exp = re.kids by
      conv => rhs; rw [← List.map_id re.kids]
      exact List.map_congr_left (fun k hk => ih k hk (h2 k hk))]
  exact Re.eta re

theorem exa_of_kept (re : Re) (h : re.every keptB = true) : re.exa = true := by
  revert h
  refine Re.ind (Q := fun re => re.every keptB = true → re.exa = true) (fun re ih h => ?_) re
  obtain ⟨h1, h2⟩ := (Re.every_iff re).1 h
  have h1 := of_decide_eq_true h1
  rw [Re.exa_eq, Bool.and_eq_true, List.all_eq_true]
  refine ⟨?_, fun k hk => ih k hk (h2 k hk)⟩
  by_cases o : re.op = 4
  · obtain ⟨a, b, c⟩ := h1 o
    have b' : (decide (re.mn = 0) && (decide (re.mx = -1) || decide (re.mx = 1))) = true := b
    unfold exaNode
    rw [b']; simp [a, c]
  · simp [exaNode, o]

theorem val_exp (re : Re) (hv : re.every valB = true) (ha : re.exa = true) : re.exp.every valB = true := by
  refine every_exp (p := valB) (fun l _ => decide_eq_true ?_) (fun x most mode hm _ => decide_eq_true ?_) (fun re hv _ _ _ => ?_) re hv hv ha
  · refine ⟨by simp [Re.op], by simp [Re.op], fun h => ?_, fun h => ?_, fun h => ?_⟩ <;> simp [Re.op] at h
  · refine ⟨by simp [rept, Re.op], by simp [rept, Re.op], fun _ => ⟨rfl, by simp [rept, Re.mn], by simp [rept, Re.mn], ?_⟩, fun h => by simp [rept, Re.op] at h, fun h => by simp [rept, Re.op] at h⟩
    simp only [rept, Re.mx, Re.mn]
    omega
  · have h := of_decide_eq_true hv
    refine decide_eq_true ⟨h.1, h.2.1, fun o => ?_, fun o => ?_, fun o => ?_⟩
    · have := h.2.2.1 o
      exact ⟨by simpa [Re.out, Re.kids] using this.1, this.2⟩
    · have := h.2.2.2.1 o
      simpa [Re.out, Re.kids] using this
    · have := h.2.2.2.2 o
      simpa [Re.out, Re.kids] using this

/-! Whether it can be empty. -/

theorem nul_catX (l : List Re) : (Re.mk 2 [] l 0 0 0 0 false).nul = l.all Re.nul := by
  rw [Re.nul_eq]
  simp [Re.op, Re.kids, Re.nulAll_all]

theorem nul_join_two (x y : Re) (hx : x.nul = false) : (joinR [x, y]).nul = false := by
  rw [joinR_two _ (by simp), nul_catX]; simp [hx]

theorem nul_rept (x : Re) (most mode : Int) : (rept x most mode).nul = true := by
  rw [Re.nul_eq]; simp [rept, Re.op, Re.mn]

theorem nul1_head : ∀ l : List Re, Re.nul1 l = headNul l
  | [] => rfl
  | _ :: _ => rfl

theorem headNul_map {l : List Re} (h : ∀ k ∈ l, k.exp.nul = k.nul) : headNul (l.map Re.exp) = headNul l := by
  cases l with
  | nil => rfl
  | cons k l => exact h k (by simp)

theorem nul_exp (re : Re) (hv : re.every valB = true) (ha : re.exa = true) : re.exp.nul = re.nul := by
  revert hv ha
  refine Re.ind (Q := fun re => re.every valB = true → re.exa = true → re.exp.nul = re.nul) (fun re ih hv ha => ?_) re
  obtain ⟨hv1, hv2⟩ := (Re.every_iff re).1 hv
  have ha2 := (exa_spec ha).2
  have hk : ∀ k ∈ re.kids, k.exp.nul = k.nul := fun k hk => ih k hk (hv2 k hk) (ha2 k hk)
  rcases un_cases hv1 ha with h | ⟨o, hkp, hb, k, hkk, hn⟩
  · rw [Re.exp_keep h, Re.nul_eq, Re.nul_eq re]
    have e1 : (re.kids.map Re.exp).all Re.nul = re.kids.all Re.nul := by
      rw [Bool.eq_iff_iff, List.all_eq_true, List.all_eq_true]; exact ⟨fun h k hm => by rw [← hk k hm]; exact h _ (List.mem_map_of_mem hm), fun h y hy => by obtain ⟨k, hm, rfl⟩ := List.mem_map.1 hy; rw [hk k hm]; exact h k hm⟩
    have e2 : (re.kids.map Re.exp).any Re.nul = re.kids.any Re.nul := by
      rw [Bool.eq_iff_iff, List.any_eq_true, List.any_eq_true]; exact ⟨fun ⟨y, hy, hz⟩ => by obtain ⟨k, hm, rfl⟩ := List.mem_map.1 hy; exact ⟨k, hm, by rw [← hk k hm]; exact hz⟩, fun ⟨k, hm, hz⟩ => ⟨k.exp, List.mem_map_of_mem hm, by rw [hk k hm]; exact hz⟩⟩
    have e3 := headNul_map hk
    show (if re.op = 1 then false else if re.op = 2 then Re.nulAll (re.kids.map Re.exp) else if re.op = 3 ∨ re.op = 10 then Re.nulAny (re.kids.map Re.exp) else if re.op = 4 then decide (re.mn ≤ 0) || Re.nul1 (re.kids.map Re.exp) else if re.op = 5 ∨ re.op = 9 then Re.nul1 (re.kids.map Re.exp) else true) = _
    rw [Re.nulAll_all, Re.nulAny_any, nul1_head, e1, e2, e3, Re.nulAll_all, Re.nulAny_any, nul1_head]
  · have hm : k ∈ re.kids := by rw [hkk]; simp
    have hx : k.exp.nul = false := by rw [hk k hm, ← anul_nul k (hv2 k hm)]; exact hn
    obtain ⟨b1, b2, b3, b4, b5⟩ := hb
    rw [Re.exp_un o hkp hkk, unrollR_eq, Re.nul_eq re, hkk]
    have hk0 : Re.nul1 [k] = false := by show k.nul = false; rw [← hk k hm]; exact hx
    simp only [o, Int.reduceEq, if_false, if_true, reduceIte, false_or, or_self, hk0, Bool.or_false]
    by_cases m0 : re.mn = 0
    · have hmx : ¬ re.mx = -1 := fun h => b4 ⟨m0, .inl h⟩
      have hlt : re.mn < re.mx := by omega
      have : List.replicate re.mn.toNat k.exp ++ tailR re k.exp = [restR re.mode k.exp (re.mx - re.mn - 1).toNat] := by
        rw [tailR, if_neg hmx, if_pos hlt, m0]; rfl
      rw [this, joinR_one, m0]
      cases (re.mx - 0 - 1).toNat with
      | zero => exact nul_rept _ _ _
      | succ j => exact nul_rept _ _ _
    · obtain ⟨m, hmn⟩ : ∃ m, re.mn.toNat = m + 1 := ⟨re.mn.toNat - 1, by omega⟩
      rw [hmn, List.replicate_succ, List.cons_append, decide_eq_false (by omega)]
      generalize List.replicate m k.exp ++ tailR re k.exp = rest
      cases rest with
      | nil => exact hx
      | cons y l => rw [joinR_two _ (by simp), nul_catX]; simp [hx]

/-! What it uses. -/

def useNode (op mode : Int) (b : Bool) : Nat :=
  if op = 6 then 1 else if op = 10 then 2 else if op = 7 ∨ op = 8 then 4 else if op = 9 then 8 else if op = 11 then 16 else if op = 5 then 64
  else if op = 4 then (if b = true then (if mode = 2 then 40 else 32) else (if mode = 2 then 8 else 0))
  else 0

mutual
def Re.useB : Re → Nat
  | .mk op _ kids _ _ mode _ _ => useNode op mode (headNul kids) ||| Re.useBL kids
def Re.useBL : List Re → Nat
  | [] => 0
  | k :: l => k.useB ||| Re.useBL l
end

theorem Re.useB_eq (re : Re) : re.useB = useNode re.op re.mode (headNul re.kids) ||| Re.useBL re.kids := by
  cases re; simp only [Re.useB, Re.op, Re.mode, Re.kids]

theorem useNode_lt (op mode : Int) (b : Bool) : useNode op mode b < 128 ∧ usesRN op mode b = (useNode op mode b : Nat) := by
  unfold useNode usesRN
  repeat' split
  all_goals first | (exact ⟨by decide, rfl⟩) | (exact ⟨by decide, by decide⟩) | (simp_all; done) | skip

theorem useB_spec (re : Re) : re.useB < 128 ∧ re.usesR = (re.useB : Nat) := by
  refine Re.ind (Q := fun re => re.useB < 128 ∧ re.usesR = (re.useB : Nat)) (fun re ih => ?_) re
  have aux : ∀ (l : List Re), (∀ k ∈ l, k.useB < 128 ∧ k.usesR = (k.useB : Nat)) → Re.useBL l < 128 ∧ ∀ n : Nat, n < 128 → Re.usesRL l n = ((n ||| Re.useBL l : Nat) : Int) := by
    intro l
    induction l with
    | nil => intro _; exact ⟨by simp [Re.useBL], fun n _ => by simp [Re.usesRL, Re.useBL]⟩
    | cons k l ihl =>
      intro h
      obtain ⟨k1, k2⟩ := h k (by simp)
      obtain ⟨l1, l2⟩ := ihl (fun x hx => h x (by simp [hx]))
      refine ⟨Nat.or_lt_two_pow (n := 7) k1 l1, fun n hn => ?_⟩
      obtain ⟨o1, o2⟩ := or_nat hn k1
      simp only [Re.usesRL, Re.useBL, k2, o1]
      rw [l2 _ o2, Nat.or_assoc]
  obtain ⟨l1, l2⟩ := aux re.kids ih
  obtain ⟨u1, u2⟩ := useNode_lt re.op re.mode (headNul re.kids)
  rw [Re.useB_eq, Re.usesR_eq, u2, l2 _ u1]
  exact ⟨Nat.or_lt_two_pow (n := 7) u1 l1, rfl⟩

theorem useBL_all {u : Nat} : ∀ {l : List Re}, l ≠ [] → (∀ k ∈ l, k.useB = u) → Re.useBL l = u
  | [], h, _ => absurd rfl h
  | [k], _, h => by simp [Re.useBL, h k]
  | k :: k' :: l, _, h => by
    rw [Re.useBL, h k (by simp), useBL_all (by simp) (fun x hx => h x (by simp [hx])), Nat.or_self]

theorem use_join {u : Nat} {l : List Re} (hne : l ≠ []) (h : ∀ k ∈ l, k.useB = u) : (joinR l).useB = u := by
  by_cases h1 : l.length = 1
  · obtain ⟨x, rfl⟩ := List.length_eq_one_iff.1 h1
    exact h x (by simp)
  · rw [joinR_two l h1, Re.useB_eq]
    have : useNode 2 0 (headNul l) = 0 := by simp [useNode]
    simp only [Re.op, Re.mode, Re.kids, this, Nat.zero_or]
    exact useBL_all hne h

theorem use_rept {x : Re} {most mode : Int} (hn : x.nul = false) (hm : mode ≠ 2) : (rept x most mode).useB = x.useB := by
  rw [Re.useB_eq]
  have : useNode 4 mode false = 0 := by simp [useNode, hm]
  simp only [rept, Re.op, Re.mode, Re.kids, headNul, hn, this, Re.useBL, Nat.zero_or, Nat.or_zero]

theorem use_exp (re : Re) (hv : re.every valB = true) (ha : re.exa = true) : re.exp.useB = re.useB := by
  revert hv ha
  refine Re.ind (Q := fun re => re.every valB = true → re.exa = true → re.exp.useB = re.useB) (fun re ih hv ha => ?_) re
  obtain ⟨hv1, hv2⟩ := (Re.every_iff re).1 hv
  have ha2 := (exa_spec ha).2
  have hk : ∀ k ∈ re.kids, k.exp.useB = k.useB := fun k hk => ih k hk (hv2 k hk) (ha2 k hk)
  rcases un_cases hv1 ha with h | ⟨o, hkp, hb, k, hkk, hn⟩
  · have aux : ∀ l : List Re, (∀ k ∈ l, k.exp.useB = k.useB) → Re.useBL (l.map Re.exp) = Re.useBL l := by
      intro l
      induction l with
      | nil => intro _; rfl
      | cons k l ihl => intro h; rw [List.map_cons, Re.useBL, Re.useBL, h k (by simp), ihl (fun x hx => h x (by simp [hx]))]
    rw [Re.exp_keep h, Re.useB_eq, Re.useB_eq re]
    show useNode re.op re.mode (headNul (re.kids.map Re.exp)) ||| Re.useBL (re.kids.map Re.exp) = _
    rw [headNul_map (fun k hk => nul_exp k (hv2 k hk) (ha2 k hk)), aux re.kids hk]
  · have hm : k ∈ re.kids := by rw [hkk]; simp
    have hx : k.exp.nul = false := by rw [nul_exp k (hv2 k hm) (ha2 k hm), ← anul_nul k (hv2 k hm)]; exact hn
    have hkn : k.nul = false := by rw [← anul_nul k (hv2 k hm)]; exact hn
    have h5 := hb.2.2.2.2
    rw [Re.exp_un o hkp hkk, unrollR_eq, Re.useB_eq re, hkk]
    have h0 : useNode re.op re.mode (headNul [k]) = 0 := by simp [useNode, o, h5, headNul, hkn]
    rw [h0, Nat.zero_or, Re.useBL, Re.useBL, Nat.or_zero, ← hk k hm]
    refine use_join (tail_ne hb) (parts_all (Q := fun y => y.useB = k.exp.useB) rfl (use_rept hx h5) (restR_ind (Q := fun y => y.useB = k.exp.useB) (use_rept hx h5) (fun y hy => ?_)))
    rw [use_rept (nul_join_two _ _ hx) h5]
    exact use_join (by simp) (fun z hz => by
      simp only [List.mem_cons, List.not_mem_nil, or_false] at hz
      rcases hz with rfl | rfl
      · rfl
      · exact hy)

/-! The numbers of captures. -/

theorem addAll_sub {a : List Int} : ∀ {l : List Int}, (∀ x ∈ l, x ∈ a) → addAll a l = a
  | [], _ => rfl
  | x :: l, h => by
    show addAll (if x ∈ a then a else a ++ [x]) l = a
    rw [if_pos (h x (by simp))]
    exact addAll_sub (fun y hy => h y (by simp [hy]))

theorem numsL_same {ns : List Int} : ∀ {l : List Re}, (∀ k ∈ l, k.numsR = ns) → Re.numsRL l ns = ns
  | [], _ => rfl
  | k :: l, h => by
    rw [Re.numsRL, h k (by simp), addAll_sub (fun x hx => hx)]
    exact numsL_same (fun x hx => h x (by simp [hx]))

theorem numsL_all {ns : List Int} {l : List Re} (hne : l ≠ []) (h : ∀ k ∈ l, k.numsR = ns) : Re.numsRL l [] = ns := by
  obtain ⟨k, l, rfl⟩ := List.exists_cons_of_ne_nil hne
  have hk := h k (by simp)
  rw [Re.numsRL, Re.addAll_nil, hk]
  exact numsL_same (fun x hx => h x (by simp [hx]))

theorem nums_join {ns : List Int} {l : List Re} (hne : l ≠ []) (h : ∀ k ∈ l, k.numsR = ns) : (joinR l).numsR = ns := by
  by_cases h1 : l.length = 1
  · obtain ⟨x, rfl⟩ := List.length_eq_one_iff.1 h1
    exact h x (by simp)
  · rw [joinR_two l h1, Re.numsR_eq]
    exact numsL_all hne h

theorem nums_rept {x : Re} {most mode : Int} : (rept x most mode).numsR = x.numsR := by
  rw [Re.numsR_eq]
  exact numsL_all (by simp [rept, Re.kids]) (fun k hk => by rw [show k = x by simpa [rept, Re.kids] using hk])

theorem nums_exp (re : Re) (hv : re.every valB = true) (ha : re.exa = true) : re.exp.numsR = re.numsR := by
  revert hv ha
  refine Re.ind (Q := fun re => re.every valB = true → re.exa = true → re.exp.numsR = re.numsR) (fun re ih hv ha => ?_) re
  obtain ⟨hv1, hv2⟩ := (Re.every_iff re).1 hv
  have ha2 := (exa_spec ha).2
  have hk : ∀ k ∈ re.kids, k.exp.numsR = k.numsR := fun k hk => ih k hk (hv2 k hk) (ha2 k hk)
  rcases un_cases hv1 ha with h | ⟨o, hkp, hb, k, hkk, hn⟩
  · have aux : ∀ (l : List Re) (a : List Int), (∀ k ∈ l, k.exp.numsR = k.numsR) → Re.numsRL (l.map Re.exp) a = Re.numsRL l a := by
      intro l
      induction l with
      | nil => intro _ _; rfl
      | cons k l ihl => intro a h; rw [List.map_cons, Re.numsRL, Re.numsRL, h k (by simp), ihl _ (fun x hx => h x (by simp [hx]))]
    rw [Re.exp_keep h, Re.numsR_eq, Re.numsR_eq re]
    exact aux re.kids _ hk
  · have hm : k ∈ re.kids := by rw [hkk]; simp
    rw [Re.exp_un o hkp hkk, unrollR_eq, Re.numsR_eq re, hkk, o]
    have h0 : Re.numsRL [k] (if (4 : Int) = 5 then [re.n] else []) = k.exp.numsR := by
      rw [hk k hm]; exact numsL_all (by simp) (fun x hx => by rw [List.mem_singleton.1 hx])
    rw [h0]
    refine nums_join (tail_ne hb) (parts_all (Q := fun y => y.numsR = k.exp.numsR) rfl nums_rept (restR_ind (Q := fun y => y.numsR = k.exp.numsR) nums_rept (fun y hy => ?_)))
    rw [nums_rept]
    exact nums_join (by simp) (fun z hz => by
      simp only [List.mem_cons, List.not_mem_nil, or_false] at hz
      rcases hz with rfl | rfl
      · rfl
      · exact hy)

end Go.Proofs.Ytafbdphblilenaa

set_option linter.unusedSimpArgs false
set_option linter.unusedVariables false
namespace Go.Proofs.Ytafbdphblilenaa
open Go.VL

/-! ### The size of what Expand returns -/

theorem join_size (l : List Re) : (joinR l).size = if l.length = 1 then Re.sizeL l else 1 + Re.sizeL l := by
  split
  · rename_i h
    obtain ⟨x, rfl⟩ := List.length_eq_one_iff.1 h
    simp [joinR_one, Re.sizeL]
  · rename_i h
    rw [joinR_two l h, Re.size_eq]; rfl

theorem sizeL_rep (x : Re) : ∀ n : Nat, Re.sizeL (List.replicate n x) = n * x.size
  | 0 => by simp [Re.sizeL]
  | n + 1 => by rw [List.replicate_succ, Re.sizeL, sizeL_rep x n, Nat.add_mul]; omega

theorem rept_size (x : Re) (most mode : Int) : (rept x most mode).size = 1 + x.size := by
  rw [Re.size_eq]; simp [rept, Re.kids, Re.sizeL]

theorem rest_size (mode : Int) (x : Re) : ∀ j : Nat, (restR mode x j).size = (1 + x.size) + j * (2 + x.size)
  | 0 => by simp [restR, rept_size]
  | j + 1 => by
    rw [restR, rept_size, join_size, if_neg (by simp), Re.sizeL, Re.sizeL, Re.sizeL, rest_size mode x j, Nat.add_mul]; omega

/-- The size of an unrolled repetition of a part of size X. -/
def unS (mn mx X : Int) : Int :=
  if mx = -1 then mn * X + (1 + X) + 1
  else if mn < mx then mn * X + ((1 + X) + (mx - mn - 1) * (2 + X)) + (if 0 < mn then 1 else 0)
  else mn * X + (if 1 < mn then 1 else 0)

theorem un_size {re x : Re} (h : UnB re) : ((joinR (List.replicate re.mn.toNat x ++ tailR re x)).size : Int) = unS re.mn re.mx x.size := by
  obtain ⟨h0, h1, h2, h3, _⟩ := h
  have hm : ((re.mn.toNat : Nat) : Int) = re.mn := Int.toNat_of_nonneg h0
  rw [join_size, Re.sizeL_append, sizeL_rep, List.length_append, List.length_replicate]
  unfold unS tailR
  have hp : ((re.mn.toNat * x.size : Nat) : Int) = re.mn * x.size := by rw [Int.natCast_mul, hm]
  by_cases m : re.mx = -1
  · rw [if_pos m, if_pos m]
    simp only [List.length_cons, List.length_nil, Re.sizeL, rept_size]
    have : ¬ re.mn.toNat + (0 + 1) = 1 := by omega
    rw [if_neg this]
    omega
  · rw [if_neg m, if_neg m]
    by_cases m2 : re.mn < re.mx
    · rw [if_pos m2, if_pos m2]
      simp only [List.length_cons, List.length_nil, Re.sizeL, rest_size]
      have hq : (((re.mx - re.mn - 1).toNat * (2 + x.size) : Nat) : Int) = (re.mx - re.mn - 1) * (2 + x.size) := by
        rw [Int.natCast_mul, Int.toNat_of_nonneg (by omega)]; rfl
      generalize (re.mx - re.mn - 1).toNat * (2 + x.size) = B at *
      rw [← hq, ← hp]
      generalize re.mn.toNat * x.size = A at *
      by_cases p : 0 < re.mn
      · rw [if_pos p, if_neg (by omega)]; omega
      · rw [if_neg p, if_pos (by omega)]; omega
    · rw [if_neg m2, if_neg m2]
      simp only [List.length_nil, Re.sizeL]
      rw [← hp]
      generalize re.mn.toNat * x.size = A at *
      by_cases p : 1 < re.mn
      · rw [if_pos p, if_neg (by omega)]; omega
      · rw [if_neg p, if_pos (by omega)]; omega

theorem esz_fold : ∀ (l : List Re) (A : Nat), (∀ k ∈ l, k.esz = min (k.exp.size : Int) 4097) → (l.map Re.esz).foldl (fun a k => min (IntKind.i64.wrap (a + k)) 4097) (min (A : Int) 4097) = min ((A + Re.sizeL (l.map Re.exp) : Nat) : Int) 4097
  | [], A, _ => by simp [Re.sizeL]
  | k :: l, A, h => by
    rw [List.map_cons, List.foldl_cons, h k (by simp), w64 _ (by omega)]
    have : min (min (A : Int) 4097 + min (k.exp.size : Int) 4097) 4097 = min ((A + k.exp.size : Nat) : Int) 4097 := by omega
    rw [this, esz_fold l _ (fun x hx => h x (by simp [hx])), List.map_cons, Re.sizeL, Nat.add_assoc]

theorem lrg_fold : ∀ (l : List Re) (A : Nat), (∀ k ∈ l, k.lrg = min (k.exp.size : Int) 10000) → (l.map Re.lrg).foldl (fun a k => min (a + k) 10000) (min (A : Int) 10000) = min ((A + Re.sizeL (l.map Re.exp) : Nat) : Int) 10000
  | [], A, _ => by simp [Re.sizeL]
  | k :: l, A, h => by
    rw [List.map_cons, List.foldl_cons, h k (by simp)]
    have : min (min (A : Int) 10000 + min (k.exp.size : Int) 10000) 10000 = min ((A + k.exp.size : Nat) : Int) 10000 := by omega
    rw [this, lrg_fold l _ (fun x hx => h x (by simp [hx])), List.map_cons, Re.sizeL, Nat.add_assoc]

theorem esz_un {mn mx : Int} {X : Nat} (h0 : 0 ≤ mn) (h1 : mn ≤ 32) (h2 : mx = -1 ∨ (1 ≤ mx ∧ mx ≤ 32 ∧ mn ≤ mx)) (h3 : ¬ (mn = 0 ∧ (mx = -1 ∨ mx = 1))) (hX : 0 < X) :
    eszNode 4 mn mx (min (X : Int) 4097) = min (unS mn mx X) 4097 := by
  unfold eszNode
  rw [if_neg (by
    rintro (h | h)
    · exact h rfl
    · simp only [Bool.and_eq_true, Bool.or_eq_true, decide_eq_true_eq] at h
      exact h3 h)]
  have hl : min (max mn 0) 4097 = mn := by omega
  simp only [hl]
  have key : ∀ kid : Int, 1 ≤ kid → kid ≤ 4097 → (kid = X ∨ (kid = 4097 ∧ 4097 < (X : Int))) →
      (let least := mn
       let sum := IntKind.i64.wrap (least * kid)
       let more := min (IntKind.i64.wrap (mx - mn)) 4097
       let ps : Int × Int :=
         if mx = -1 then (IntKind.i64.wrap (least + 1), IntKind.i64.wrap (IntKind.i64.wrap (sum + 1) + kid))
         else if 0 < more then (IntKind.i64.wrap (least + 1), IntKind.i64.wrap (IntKind.i64.wrap (IntKind.i64.wrap (sum + 1) + kid) + IntKind.i64.wrap (IntKind.i64.wrap (more - 1) * IntKind.i64.wrap (2 + kid))))
         else (least, sum)
       min (if 1 < ps.1 then IntKind.i64.wrap (ps.2 + 1) else ps.2) 4097) = min (unS mn mx X) 4097 := by
    intro kid k0 k1 hk
    have p1 : 0 ≤ mn * kid ∧ mn * kid ≤ 131104 ∧ (1 ≤ mn → kid ≤ mn * kid) := ⟨Int.mul_nonneg h0 (by omega), by have := Int.mul_le_mul h1 k1 (by omega) (by omega); omega, fun h => by have := Int.mul_le_mul_of_nonneg_right h (show 0 ≤ kid by omega); omega⟩
    have q1 : 0 ≤ mn * (X : Int) ∧ (1 ≤ mn → (X : Int) ≤ mn * X) := ⟨Int.mul_nonneg h0 (by omega), fun h => by have := Int.mul_le_mul_of_nonneg_right h (show 0 ≤ (X : Int) by omega); omega⟩
    unfold unS
    by_cases m : mx = -1
    · simp only [if_pos m]
      have e1 : mn * kid = mn * X ∨ (4097 < (X : Int) ∧ kid = 4097) := by rcases hk with rfl | h; exact .inl rfl; exact .inr h.symm
      generalize mn * kid = P at *
      generalize mn * (X : Int) = Q at *
      simp (disch := omega) only [w64, if_pos, if_neg]
      omega
    · have hw : min (IntKind.i64.wrap (mx - mn)) 4097 = mx - mn := by rw [w64 _ (by omega)]; omega
      simp only [hw, if_neg m]
      by_cases m2 : mn < mx
      · have p2 : 0 ≤ (mx - mn - 1) * (2 + kid) ∧ (mx - mn - 1) * (2 + kid) ≤ 131168 := ⟨Int.mul_nonneg (by omega) (by omega), by have := Int.mul_le_mul (show mx - mn - 1 ≤ 32 by omega) (show 2 + kid ≤ 4099 by omega) (by omega) (by omega); omega⟩
        have q2 : 0 ≤ (mx - mn - 1) * (2 + (X : Int)) := Int.mul_nonneg (by omega) (by omega)
        have e1 : (mn * kid = mn * X ∧ (mx - mn - 1) * (2 + kid) = (mx - mn - 1) * (2 + (X : Int)) ∧ kid = X) ∨ (4097 < (X : Int) ∧ kid = 4097) := by rcases hk with rfl | h; exact .inl ⟨rfl, rfl, rfl⟩; exact .inr h.symm
        have w1 : IntKind.i64.wrap (mx - mn - 1) = mx - mn - 1 := w64 _ (by omega)
        have w2 : IntKind.i64.wrap (2 + kid) = 2 + kid := w64 _ (by omega)
        simp only [w1, w2, if_pos m2, if_pos (show 0 < mx - mn by omega)]
        generalize (mx - mn - 1) * (2 + kid) = P2 at *
        generalize (mx - mn - 1) * (2 + (X : Int)) = Q2 at *
        generalize mn * kid = P at *
        generalize mn * (X : Int) = Q at *
        by_cases m3 : 0 < mn
        · simp (disch := omega) only [w64, if_pos, if_neg]
          omega
        · simp (disch := omega) only [w64, if_pos, if_neg]
          omega
      · have e1 : (mn * kid = mn * X ∧ kid = X) ∨ (4097 < (X : Int) ∧ kid = 4097) := by rcases hk with rfl | h; exact .inl ⟨rfl, rfl⟩; exact .inr h.symm
        simp only [if_neg m2, if_neg (show ¬ 0 < mx - mn by omega)]
        generalize mn * kid = P at *
        generalize mn * (X : Int) = Q at *
        by_cases m3 : 1 < mn
        · simp (disch := omega) only [w64, if_pos, if_neg]
          omega
        · simp (disch := omega) only [w64, if_pos, if_neg]
          omega
  exact key (min (X : Int) 4097) (by omega) (by omega) (by omega)

theorem lrg_un {mn mx : Int} {A : Int} {X : Nat} (h0 : 0 ≤ mn) (h1 : mn ≤ 32) (h2 : mx = -1 ∨ (1 ≤ mx ∧ mx ≤ 32 ∧ mn ≤ mx)) (h3 : ¬ (mn = 0 ∧ (mx = -1 ∨ mx = 1))) (hX : 0 < X) :
    lrgNode 4 mn mx A (min (X : Int) 10000) = min (unS mn mx X) 10000 := by
  unfold lrgNode
  rw [if_neg (by
    rintro (h | h)
    · exact h rfl
    · simp only [Bool.and_eq_true, Bool.or_eq_true, decide_eq_true_eq] at h
      exact h3 h)]
  have key : ∀ kid : Int, 1 ≤ kid → (kid = X ∨ (kid = 10000 ∧ 10000 < (X : Int))) →
      (if mx = -1 then min ((mn + 1) * kid + 2) 10000
       else
         let c := mx - mn
         let n1 := mx * kid + c
         let n2 := if 1 < c then n1 + c - 1 else n1
         min (if 1 < mn ∨ mn = 1 ∧ 0 < c then n2 + 1 else n2) 10000) = min (unS mn mx X) 10000 := by
    intro kid k0 hk
    have q1 : 0 ≤ mn * (X : Int) ∧ (1 ≤ mn → (X : Int) ≤ mn * X) := ⟨Int.mul_nonneg h0 (by omega), fun h => by have := Int.mul_le_mul_of_nonneg_right h (show 0 ≤ (X : Int) by omega); omega⟩
    unfold unS
    by_cases m : mx = -1
    · simp only [if_pos m]
      have e0 : (mn + 1) * kid = mn * kid + kid := by rw [Int.add_mul, Int.one_mul]
      have p1 : 0 ≤ mn * kid := Int.mul_nonneg h0 (by omega)
      have e1 : (mn * kid = mn * X ∧ kid = X) ∨ (10000 < (X : Int) ∧ kid = 10000) := by rcases hk with rfl | h; exact .inl ⟨rfl, rfl⟩; exact .inr h.symm
      rw [e0]
      omega
    · have p1 : 0 ≤ mx * kid ∧ kid ≤ mx * kid := ⟨Int.mul_nonneg (by omega) (by omega), by have := Int.mul_le_mul_of_nonneg_right (show 1 ≤ mx by omega) (show 0 ≤ kid by omega); omega⟩
      have e1 : (mx * kid = mx * X ∧ kid = X) ∨ (10000 < (X : Int) ∧ kid = 10000) := by rcases hk with rfl | h; exact .inl ⟨rfl, rfl⟩; exact .inr h.symm
      simp only [if_neg m]
      by_cases m2 : mn < mx
      · have q2 : 0 ≤ (mx - mn - 1) * (2 + (X : Int)) := Int.mul_nonneg (by omega) (by omega)
        have e2 : (mx - mn - 1) * (2 + (X : Int)) = 2 * (mx - mn - 1) + (mx * X - mn * X - X) := by
          have e4 : (mx - mn - 1) * (X : Int) = mx * X - mn * X - X := by rw [Int.sub_mul, Int.sub_mul, Int.one_mul]
          rw [Int.mul_add, e4]; omega
        simp only [if_pos m2]
        generalize (mx - mn - 1) * (2 + (X : Int)) = Q2 at *
        generalize mx * kid = P at *
        generalize mx * (X : Int) = R at *
        generalize mn * (X : Int) = Q at *
        by_cases m3 : 0 < mn
        · by_cases m4 : 1 < mx - mn
          · simp (disch := omega) only [if_pos, if_neg]; omega
          · simp (disch := omega) only [if_pos, if_neg]; omega
        · by_cases m4 : 1 < mx - mn
          · simp (disch := omega) only [if_pos, if_neg]; omega
          · simp (disch := omega) only [if_pos, if_neg]; omega
      · have e3 : mx = mn := by omega
        subst e3
        simp only [if_neg m2]
        generalize mx * kid = P at *
        generalize mx * (X : Int) = R at *
        by_cases m3 : 1 < mx
        · simp (disch := omega) only [if_pos, if_neg]; omega
        · simp (disch := omega) only [if_pos, if_neg]; omega
  exact key (min (X : Int) 10000) (by omega) (by omega)

theorem exp_sizes (re : Re) (hv : re.every valB = true) (ha : re.exa = true) : re.esz = min (re.exp.size : Int) 4097 ∧ re.lrg = min (re.exp.size : Int) 10000 := by
  revert hv ha
  refine Re.ind (Q := fun re => re.every valB = true → re.exa = true → re.esz = min (re.exp.size : Int) 4097 ∧ re.lrg = min (re.exp.size : Int) 10000) (fun re ih hv ha => ?_) re
  obtain ⟨hv1, hv2⟩ := (Re.every_iff re).1 hv
  have ha2 := (exa_spec ha).2
  have hk : ∀ k ∈ re.kids, k.esz = min (k.exp.size : Int) 4097 ∧ k.lrg = min (k.exp.size : Int) 10000 := fun k hk => ih k hk (hv2 k hk) (ha2 k hk)
  have e1 := esz_fold re.kids 0 (fun k h => (hk k h).1)
  have e2 := lrg_fold re.kids 1 (fun k h => (hk k h).2)
  rw [show min ((0 : Nat) : Int) 4097 = 0 from rfl] at e1
  rw [show min ((1 : Nat) : Int) 10000 = 1 from rfl] at e2
  have e1' : kidSum (re.kids.map Re.esz) = min ((0 + Re.sizeL (re.kids.map Re.exp) : Nat) : Int) 4097 := e1
  have e2' : lrgSum (re.kids.map Re.lrg) = min ((1 + Re.sizeL (re.kids.map Re.exp) : Nat) : Int) 10000 := e2
  rw [Re.esz_eq, Re.lrg_eq]
  rcases un_cases hv1 ha with h | ⟨o, hkp, hb, k, hkk, hn⟩
  · have hc : ¬ re.op = 4 ∨ (decide (re.mn = 0) && (decide (re.mx = -1) || decide (re.mx = 1))) = true := h
    rw [eszNode, if_pos hc, lrgNode, if_pos hc, Re.exp_keep h, e1', e2', Re.size_eq re.out, show re.out.kids = re.kids.map Re.exp from rfl]
    refine ⟨?_, by omega⟩
    rw [w64 _ (by omega)]
    omega
  · rw [hkk] at e1' e2' ⊢
    have hkz := hk k (by rw [hkk]; simp)
    have hx := k.exp.size_pos
    rw [Re.exp_un o hkp hkk, unrollR_eq, un_size hb, o, e1']
    obtain ⟨b0, b1, b2, b3, _⟩ := hb
    have h1 := esz_un (X := k.exp.size) b0 b1 b2 b3 hx
    have h2 := lrg_un (A := lrgSum ([k].map Re.lrg)) (X := k.exp.size) b0 b1 b2 b3 hx
    refine ⟨?_, ?_⟩
    · rw [← h1]; simp [Re.sizeL]
    · rw [← h2]; simp [hkz.2]

theorem every_two {p q r : Re → Bool} (h : ∀ re, p re = true → q re = true → r re = true) (re : Re) (hp : re.every p = true) (hq : re.every q = true) : re.every r = true := by
  revert hp hq
  refine Re.ind (Q := fun re => re.every p = true → re.every q = true → re.every r = true) (fun re ih hp hq => ?_) re
  obtain ⟨p1, p2⟩ := (Re.every_iff re).1 hp
  obtain ⟨q1, q2⟩ := (Re.every_iff re).1 hq
  exact (Re.every_iff re).2 ⟨h re p1 q1, fun k hk => ih k hk (p2 k hk) (q2 k hk)⟩

theorem exq_val {c : Nat} (hc : c ≤ 1000000) (re : Re) (hs : re.every (smallB c) = true) (hv : re.every valB = true) : re.every exq = true := by
  refine every_two (fun re hs hv => decide_eq_true ?_) re hs hv
  have h1 := (smallB_iff.1 hs).1
  have h2 := of_decide_eq_true hv
  exact ⟨by omega, by omega, fun o => by have := h2.2.2.1 o; omega⟩

theorem exq_exp (re : Re) (hq : re.every exq = true) (hv : re.every valB = true) (ha : re.exa = true) : re.exp.every exq = true := by
  refine every_exp (p := exq) (fun l hl => decide_eq_true ?_) (fun x most mode hm _ => decide_eq_true ?_) (fun re hv _ hq _ => ?_) re hq hv ha
  · refine ⟨by simp [Re.set], by simp [Re.kids]; omega, fun h => by simp [Re.op] at h⟩
  · refine ⟨by simp [rept, Re.set], by simp [rept, Re.kids], fun _ => ?_⟩
    simp only [rept, Re.mn, Re.mx]; omega
  · have h := of_decide_eq_true hq
    exact decide_eq_true ⟨h.1, by simpa [Re.out, Re.kids] using h.2.1, h.2.2⟩

/-- All that the law asks of a valid tree that is expanded. -/
theorem expand_facts (re : Re) (hv : re.every valB = true) (ha : re.exa = true) (hq : re.every exq = true) (hz : re.esz ≤ 4096) :
    re.exp.every exq = true ∧ re.exp.every valB = true ∧ re.exp.exa = true ∧ re.exp.esz ≤ 4096 ∧ re.exp.exp = re.exp ∧ re.exp.size ≤ 4096 ∧ re.exp.anul = re.anul ∧ re.exp.usesA 0 = re.usesA 0 ∧ re.exp.numsR = re.numsR := by
  have hvx := val_exp re hv ha
  have hk := kept_exp re hv ha
  have hax := exa_of_kept _ hk
  have hex := exp_of_kept _ hk
  have h1 := (exp_sizes re hv ha).1
  have h2 := (exp_sizes re.exp hvx hax).1
  rw [hex] at h2
  refine ⟨exq_exp re hq hv ha, hvx, hax, by omega, hex, by omega, ?_, ?_, nums_exp re hv ha⟩
  · rw [anul_nul _ hvx, anul_nul _ hv, nul_exp re hv ha]
  · rw [uses_eq _ hvx, uses_eq _ hv, (useB_spec re.exp).2, (useB_spec re).2, use_exp re hv ha]

end Go.Proofs.Ytafbdphblilenaa
