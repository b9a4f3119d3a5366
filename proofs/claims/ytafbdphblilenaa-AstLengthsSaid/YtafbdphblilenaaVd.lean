/- The V-logic, part 4: addresses, parts of values, new objects. -/
import Derived.Test.YtafbdphblilenaaVc
namespace Go.VL

/-! ### Field and element addresses -/

def fOff (P : Program) (t : TypeId) (f : Nat) : Option Nat :=
  match P.underlying t with
  | some (.struct fields) => match fields[f]? with
    | some fd => match P.info? fd.type with
      | some i => if i.size = 0 then none else some fd.offset
      | none => none
    | none => none
  | _ => none

theorem fOff_spec {P : Program} {t f off} (h : fOff P t f = some off) : ∃ fields fd, P.underlying t = some (.struct fields) ∧ fields[f]? = some fd ∧ fd.offset = off ∧
    ∀ (a : Addr) (w : World), (fieldPlace a fd).run P w = .ok (a.add off) w := by
  unfold fOff at h
  split at h
  · rename_i fields hu
    split at h
    · rename_i fd hf
      split at h
      · rename_i i hi
        split at h
        · cases h
        · rename_i hne
          simp only [Option.some.injEq] at h
          exact ⟨fields, fd, hu, hf, h, fun a w => by simp [fieldPlace, sizeOf, typeInfo, hi, hne, h]⟩
      · cases h
    · cases h
  · cases h

/-- The object is there, at that generation. -/
def atG (s : List Obj) (id g : Nat) (K : Obj → Prop) : Prop :=
  match s[id]? with
  | none => False
  | some o => o.g = g ∧ K o

theorem atG_spec {s : List Obj} {id g : Nat} {K : Obj → Prop} (h : atG s id g K) : ∃ o, s[id]? = some o ∧ o.g = g ∧ K o := by
  unfold atG at h
  split at h
  · exact h.elim
  · rename_i o ho; exact ⟨o, ho, h.1, h.2⟩

def fieldAddrWp (P : Program) (t : TypeId) (s : List Obj) (p : V) (f : Nat) (K : V → Prop) : Prop :=
  match fOff P t f with
  | none => False
  | some d => match p with
    | .d (.el cs) => K (.d (.el (cs.drop d)))
    | .rf id g k off => atG s id g fun _ => K (.rf id g k (off + d))
    | _ => False

theorem rf_ptr {σ : Gh} {s : List Obj} {w : World} {id g k off : Nat} {u : Value} (hp : RepV σ s w (.rf id g k off) u) {o : Obj} (ho : s[id]? = some o) (hg : o.g = g) :
    ∃ b base, σ id = some (b, base) ∧ u = .pointer (some ⟨b, base + k * o.sz + off, none⟩) := by
  cases hp with
  | rf o' ho' hg' hu hk =>
    rw [ho] at ho'; cases ho'
    exact hk hg

theorem RepD.drop {O : Nat → Prop} {w : World} {cs : List D} {a : Addr} (h : RepD O w (.el cs) (.pointer (some a))) (d : Nat) : RepD O w (.el (cs.drop d)) (.pointer (some (a.add d))) := by
  cases h with
  | el _ _ f h1 h2 h3 =>
    rw [addr_add h1]
    refine .el _ _ (fun j => f (d + j)) rfl (fun j x hx => ?_) (fun j x hx => ?_)
    · rw [List.getElem?_drop] at hx
      have := h2 (d + j) x hx
      simpa [Nat.add_assoc] using this
    · rw [List.getElem?_drop] at hx
      exact h3 (d + j) x hx

theorem fieldAddr_sound {P : Program} {t : TypeId} {σ : Gh} {s : List Obj} {w : World} {p : V} {u : Value} {f : Nat} {K : V → Prop} (hp : RepV σ s w p u) (h : fieldAddrWp P t s p f K) :
    ∃ v c, (Instr.fieldAt t u f).run P w = .ok c w ∧ RepV σ s w v c ∧ K v := by
  unfold fieldAddrWp at h
  split at h
  · exact h.elim
  · rename_i d hd
    obtain ⟨fields, fd, h1, h2, h3, h4⟩ := fOff_spec hd
    have hrun : ∀ a : Addr, (Instr.fieldAt t (.pointer (some a)) f).run P w = .ok (.pointer (some (a.add d))) w := fun a => by
      simp [Instr.fieldAt, run_underlying h1, h2, Instr.sureAddr, h4]
    cases hp with
    | d hx =>
      cases hx with
      | el cs a f' k1 k2 k3 => exact ⟨_, _, hrun a, .d (RepD.drop (.el cs a f' k1 k2 k3) d), h⟩
      | _ => exact h.elim
    | rf o ho hg hu hk =>
      obtain ⟨o', e1, e2, e3⟩ := atG_spec h
      rw [ho] at e1; cases e1
      obtain ⟨b, base, k1, rfl⟩ := hk e2
      refine ⟨_, _, hrun _, .rf o ho hg rfl (fun _ => ⟨b, base, k1, ?_⟩), e3⟩
      rw [addr_add rfl]
      simp [Nat.add_assoc]
    | _ => exact h.elim


def slE (P : Program) (t : TypeId) : Option Nat :=
  match P.underlying t with
  | some (.slice e) => (P.info? e).map (·.size)
  | _ => none

def arE (P : Program) (t : TypeId) : Option (Nat × Nat) :=
  match P.underlying t with
  | some (.array n e) => (P.info? e).map fun i => (n, i.size)
  | _ => none

theorem slE_spec {P : Program} {t z} (h : slE P t = some z) : ∃ e i, P.underlying t = some (.slice e) ∧ P.info? e = some i ∧ i.size = z := by
  unfold slE at h
  split at h
  · rename_i e hu
    obtain ⟨i, h1, h2⟩ := Option.map_eq_some_iff.1 h
    exact ⟨e, i, hu, h1, h2⟩
  · cases h

theorem arE_spec {P : Program} {t n z} (h : arE P t = some (n, z)) : ∃ e i, P.underlying t = some (.array n e) ∧ P.info? e = some i ∧ i.size = z := by
  unfold arE at h
  split at h
  · rename_i m e hu
    obtain ⟨i, h1, h2⟩ := Option.map_eq_some_iff.1 h
    simp only [Prod.mk.injEq] at h2
    obtain ⟨rfl, h2⟩ := h2
    exact ⟨e, i, hu, h1, h2⟩
  · cases h

def elP (els : List (List D)) (i z : Nat) (K : V → Prop) : Prop :=
  match els[i]? with
  | none => False
  | some cs => cs.length = z ∧ K (.d (.el cs))

def indexAddrWp (P : Program) (t : TypeId) (s : List Obj) (x i : V) (K : V → Prop) : Prop :=
  match i with
  | .d (.sc (.int _ n)) => match slE P t with
    | some z => match x with
      | .d (.sl els) => 0 ≤ n ∧ n < els.length ∧ elP els n.toNat z K
      | .fu els => 0 ≤ n ∧ n < els.length ∧ elP els n.toNat z K
      | .so id g lo m => atG s id g fun o => 0 ≤ n ∧ n < m ∧ o.sz = z ∧ K (.rf id g (lo + n.toNat) 0)
      | _ => False
    | none => match arE P t with
      | some (len, z) => match x with
        | .d (.el cs) => 0 ≤ n ∧ n < len ∧ K (.d (.el (cs.drop (n.toNat * z))))
        | .rf id g k off => atG s id g fun _ => 0 ≤ n ∧ n < len ∧ K (.rf id g k (off + n.toNat * z))
        | _ => False
      | none => False
  | _ => False

theorem RepD.elem {O : Nat → Prop} {w : World} {els : List (List D)} {a : Option Addr} {n cap : Nat} (h : RepD O w (.sl els) (.slice a n cap)) {i : Nat} {cs : List D} (hcs : els[i]? = some cs) {z : Nat} (hz : cs.length = z) :
    ∃ ad, a = some ad ∧ n = els.length ∧ RepD O w (.el cs) (.pointer (some (ad.add (i * z)))) := by
  have hlt := (List.getElem?_eq_some_iff.1 hcs).1
  cases h with
  | nil => simp at hlt
  | sl _ ad _ sz f h1 h2 h3 h4 h5 =>
    have hne : els ≠ [] := by intro e; rw [e] at hlt; simp at hlt
    have hsz : sz = z := by rw [← hz]; exact (h3 cs (List.mem_of_getElem? hcs)).symm
    subst hsz
    refine ⟨ad, rfl, rfl, ?_⟩
    rw [addr_add (h2 hne)]
    exact .el _ _ (f i) rfl (fun j x hx => h4 i j x (by rw [hcs]; exact hx)) (fun j x hx => h5 i j x (by rw [hcs]; exact hx))

theorem indexAddr_sound {P : Program} {t : TypeId} {σ : Gh} {s : List Obj} {w : World} {x i : V} {u ui : Value} {K : V → Prop} (hx : RepV σ s w x u) (hi : RepV σ s w i ui) (h : indexAddrWp P t s x i K) :
    ∃ v c, (Instr.indexAt t u ui).run P w = .ok c w ∧ RepV σ s w v c ∧ K v := by
  unfold indexAddrWp at h
  split at h
  case h_2 => exact h.elim
  rename_i k n
  cases hi with | d hi => ?_
  cases hi with | sc _ _ => ?_
  split at h
  · rename_i z hz
    obtain ⟨e, ti, h1, h2, h3⟩ := slE_spec hz
    have hrun : ∀ (ad : Addr) (len cap : Nat), 0 ≤ n → n < len → (Instr.indexAt t (.slice (some ad) len cap) (.int k n)).run P w = .ok (.pointer (some (ad.add (n.toNat * z)))) w := by
      intro ad len cap g1 g2
      simp [Instr.indexAt, asIntOf, run_underlying h1, g1, g2, sizeOf, typeInfo, h2, h3]
    have byval : ∀ (els : List (List D)) (a : Option Addr) (m cap : Nat), RepD (Own σ s) w (.sl els) (.slice a m cap) → 0 ≤ n ∧ n < els.length ∧ elP els n.toNat z K →
        ∃ v c, (Instr.indexAt t (.slice a m cap) (.int k n)).run P w = .ok c w ∧ RepV σ s w v c ∧ K v := by
      intro els a m cap hr ⟨g1, g2, g3⟩
      unfold elP at g3
      split at g3
      · exact g3.elim
      · rename_i cs hcs
        obtain ⟨ad, rfl, rfl, hel⟩ := hr.elem hcs g3.1
        exact ⟨_, _, hrun ad _ cap g1 g2, .d hel, g3.2⟩
    cases hx with
    | d hx =>
      cases hx with
      | nil => exact byval _ _ _ _ .nil h
      | sl els a cap sz f k1 k2 k3 k4 k5 => exact byval _ _ _ _ (.sl els a cap sz f k1 k2 k3 k4 k5) h
      | _ => exact h.elim
    | fu hx => exact byval _ _ _ _ hx h
    | so o ho hg hu hk =>
      obtain ⟨o', e1, e2, e3, e4, e5, e6⟩ := atG_spec h
      rw [ho] at e1; cases e1
      rcases hk e2 with ⟨_, ⟨a, rfl⟩, _, rfl⟩ | ⟨b, base, cap, E, arr, g1, g2, rfl, g4, g5⟩
      · omega
      · refine ⟨_, _, hrun _ _ _ e3 e4, .rf o ho hg rfl (fun _ => ⟨b, base, g1, ?_⟩), e6⟩
        rw [addr_add rfl, e5, Nat.add_mul]
        simp [Nat.add_assoc]
    | _ => exact h.elim
  · split at h
    · rename_i hsl len z hz
      obtain ⟨e, ti, h1, h2, h3⟩ := arE_spec hz
      have hrun : ∀ (ad : Addr), 0 ≤ n → n < len → (Instr.indexAt t (.pointer (some ad)) (.int k n)).run P w = .ok (.pointer (some (ad.add (n.toNat * z)))) w := by
        intro ad g1 g2
        simp [Instr.indexAt, asIntOf, run_underlying h1, Instr.sureAddr, g1, g2, sizeOf, typeInfo, h2, h3]
      cases hx with
      | d hx =>
        cases hx with
        | el cs a f k1 k2 k3 => exact ⟨_, _, hrun a h.1 h.2.1, .d (RepD.drop (.el cs a f k1 k2 k3) _), h.2.2⟩
        | _ => exact h.elim
      | rf o ho hg hu hk =>
        obtain ⟨o', e1, e2, e3, e4, e5⟩ := atG_spec h
        rw [ho] at e1; cases e1
        obtain ⟨b, base, k1, rfl⟩ := hk e2
        refine ⟨_, _, hrun _ e3 e4, .rf o ho hg rfl (fun _ => ⟨b, base, k1, ?_⟩), e5⟩
        rw [addr_add rfl]
        simp [Nat.add_assoc]
      | _ => exact h.elim
    · exact h.elim

/-! ### Parts of a value that is no memory -/

/-- The value of type t at offset off of cells. -/
def partWp (P : Program) (t : TypeId) (cs : List V) (off : Nat) (K : V → Prop) : Prop :=
  match tyI P t with
  | none => False
  | some i => match i.agg with
    | true => off + i.sz ≤ cs.length ∧ K (.ag ((cs.drop off).take i.sz))
    | false => match cs[off]? with
      | none => False
      | some v => K v

theorem part_sound {P : Program} {t : TypeId} {σ : Gh} {s : List Obj} {w : World} {cs : List V} {arr : Array Value} {off : Nat} {K : V → Prop} (hx : RepV σ s w (.ag cs) (.agg arr)) (h : partWp P t cs off K) :
    ∃ v c, (part t arr off).run P w = .ok c w ∧ RepV σ s w v c ∧ K v := by
  unfold partWp at h
  cases hx with | ag h1 h2 h3 => ?_
  split at h
  · exact h.elim
  · rename_i i hi
    obtain ⟨ti, d, z, k1, k2, k3, k4, k5, k6, k7, k8, k9⟩ := tyI_spec hi
    have hsz : ∀ w, (sizeOf t).run P w = .ok i.sz w := fun w => by simp [sizeOf, typeInfo, k1, k4]
    split at h
    · rename_i hagg
      rw [hagg] at k9
      refine ⟨_, .agg (arr.extract off (off + i.sz)), by simp [part, k9, hsz], ?_, h.2⟩
      have e : ∀ (j : Nat) (x : V), ((cs.drop off).take i.sz)[j]? = some x → cs[off + j]? = some x ∧ (arr.extract off (off + i.sz)).getD j undef = arr.getD (off + j) undef := by
        intro j x hx
        rw [List.getElem?_take] at hx
        split at hx
        · rename_i hj
          rw [List.getElem?_drop] at hx
          refine ⟨hx, ?_⟩
          have e2 : (arr.extract off (off + i.sz))[j]? = arr[off + j]? := by
            rw [Array.getElem?_extract, if_pos (by rw [h1]; omega)]
          rw [Array.getD_eq_getD_getElem?, Array.getD_eq_getD_getElem?, e2]
        · cases hx
      refine .ag (by simp [h1]; omega) (fun j x hx => ?_) (fun j x hx => ?_)
      · rw [(e j x hx).2]; exact h2 _ _ (e j x hx).1
      · rw [(e j x hx).2]; exact h3 _ _ (e j x hx).1
    · rename_i hagg
      rw [hagg] at k9
      split at h
      · exact h.elim
      · rename_i v hv
        have hlt := (List.getElem?_eq_some_iff.1 hv).1
        obtain ⟨c, hc⟩ : ∃ c, arr[off]? = some c := ⟨arr[off]'(by omega), by rw [Array.getElem?_eq_getElem]⟩
        have hd : arr.getD off undef = c := by rw [Array.getD_eq_getD_getElem?, hc]; rfl
        exact ⟨v, c, by simp [part, k9, hc], by rw [← hd]; exact h3 _ _ hv, h⟩

def fieldWp (P : Program) (t : TypeId) (x : V) (f : Nat) (K : V → Prop) : Prop :=
  match x with
  | .ag cs => match P.underlying t with
    | some (.struct fields) => match fields[f]? with
      | some fd => partWp P fd.type cs fd.offset K
      | none => False
    | _ => False
  | _ => False

theorem field_sound {P : Program} {t : TypeId} {σ : Gh} {s : List Obj} {w : World} {x : V} {u : Value} {f : Nat} {K : V → Prop} (hx : RepV σ s w x u) (h : fieldWp P t x f K) :
    ∃ v c, (Instr.field t u f).run P w = .ok c w ∧ RepV σ s w v c ∧ K v := by
  unfold fieldWp at h
  split at h
  case h_2 => exact h.elim
  split at h
  case h_2 => exact h.elim
  split at h
  case h_2 => exact h.elim
  rename_i hu _ fd hfd
  cases hx with | ag h1 h2 h3 => ?_
  obtain ⟨v, c, r1, r2, r3⟩ := part_sound (.ag h1 h2 h3) h
  exact ⟨v, c, by simp [Instr.field, run_underlying hu, hfd, asAgg, r1], r2, r3⟩

def indexWp (P : Program) (t : TypeId) (x i : V) (K : V → Prop) : Prop :=
  match i with
  | .d (.sc (.int _ n)) => match x with
    | .ag cs => match P.underlying t with
      | some (.array len e) => match (P.info? e).map (·.size) with
        | some z => 0 ≤ n ∧ n < len ∧ partWp P e cs (n.toNat * z) K
        | none => False
      | _ => False
    | _ => False
  | _ => False

theorem index_sound {P : Program} {t : TypeId} {σ : Gh} {s : List Obj} {w : World} {x i : V} {u ui : Value} {K : V → Prop} (hx : RepV σ s w x u) (hi : RepV σ s w i ui) (h : indexWp P t x i K) :
    ∃ v c, (Instr.index t u ui).run P w = .ok c w ∧ RepV σ s w v c ∧ K v := by
  unfold indexWp at h
  split at h
  case h_2 => exact h.elim
  rename_i k n
  cases hi with | d hi => ?_
  cases hi with | sc _ _ => ?_
  split at h
  case h_2 => exact h.elim
  split at h
  case h_2 => exact h.elim
  rename_i hu
  split at h
  case h_2 => exact h.elim
  rename_i z hz
  obtain ⟨ti, h1, h2⟩ := Option.map_eq_some_iff.1 hz
  cases hx with | ag k1 k2 k3 => ?_
  obtain ⟨v, c, r1, r2, r3⟩ := part_sound (.ag k1 k2 k3) h.2.2
  refine ⟨v, c, ?_, r2, r3⟩
  simp [Instr.index, asIntOf, run_underlying hu, h.1, h.2.1, sizeOf, typeInfo, h1, h2, r1]

end Go.VL
