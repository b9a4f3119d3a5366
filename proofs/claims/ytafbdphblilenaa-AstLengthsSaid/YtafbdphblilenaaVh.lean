/- The V-logic, part 8: reslicing, len, arithmetic. -/
import Derived.Test.YtafbdphblilenaaVg
namespace Go.VL

/-! ### Reslicing -/

def obnd (x : Option V) (dflt : Int) : Option Int :=
  match x with
  | none => some dflt
  | some v => intV v

def sliceWp (P : Program) (t : TypeId) (x : V) (lo hi mx : Option V) (s : List Obj) (K : V → Prop) : Prop :=
  match slE P t with
  | none => False
  | some z => match elsV s x with
    | none => False
    | some es => match obnd lo 0, obnd hi es.length with
      | some l, some h => (0 ≤ l ∧ l ≤ h ∧ h ≤ es.length) ∧ match x, mx with
        | .d (.sl els), none => (l = 0 ∨ ∀ e ∈ els, e.length = z) ∧ K (.d (.sl ((els.drop l.toNat).take (h - l).toNat)))
        | .fu els, none => (l = 0 ∨ ∀ e ∈ els, e.length = z) ∧ K (.d (.sl ((els.drop l.toNat).take (h - l).toNat)))
        | .d (.sl els), some m => hi.isSome = true ∧ intV m = some h ∧ (l = 0 ∨ ∀ e ∈ els, e.length = z) ∧ K (.fu ((els.drop l.toNat).take (h - l).toNat))
        | .so id g lo' _, none => atG s id g fun o => (o.sz = z ∧ (l = 0 ∨ l < h)) ∧ K (.so id g (lo' + l.toNat) (h - l).toNat)
        | _, _ => False
      | _, _ => False

theorem RepD.sub {O : Nat → Prop} {w : World} {els : List (List D)} {a : Option Addr} {n cap l h m z : Nat} (hr : RepD O w (.sl els) (.slice a n cap)) (hl : l ≤ h) (hh : h ≤ els.length) (hm : h ≤ m) (hm' : m ≤ cap)
    (hz : l = 0 ∨ ∀ e ∈ els, e.length = z) : RepD O w (.sl ((els.drop l).take (h - l))) (.slice (if m = l then a else a.map (·.add (l * z))) (h - l) (m - l)) := by
  have hlen : ((els.drop l).take (h - l)).length = h - l := by simp; omega
  cases hr with
  | nil =>
    simp only [List.length_nil] at hh
    obtain rfl : h = 0 := by omega
    obtain rfl : l = 0 := by omega
    obtain rfl : m = 0 := by omega
    exact .nil
  | sl _ ad _ sz f h1 h2 h3 h4 h5 =>
    by_cases hml : m = l
    · rw [if_pos hml]
      have e0 : (els.drop l).take (h - l) = [] := List.eq_nil_of_length_eq_zero (by rw [hlen]; omega)
      have := RepD.sl (O := O) (w := w) [] ad (m - l) sz f (by simp) (by simp) (by simp) (by simp) (by simp)
      rw [e0, show h - l = 0 by omega]
      exact this
    · rw [if_neg hml]
      simp only [Option.map_some]
      have hget : ∀ (i : Nat) (e : List D), ((els.drop l).take (h - l))[i]? = some e → els[l + i]? = some e := by
        intro i e he
        rw [List.getElem?_take] at he
        split at he
        · rw [List.getElem?_drop] at he; exact he
        · cases he
      have hszz : ∀ e ∈ (els.drop l).take (h - l), e.length = sz := fun e he => h3 e (List.mem_of_mem_drop (List.mem_of_mem_take he))
      have hmul : ∀ (i j : Nat) (x : D), (((els.drop l).take (h - l))[i]?.bind (·[j]?)) = some x → (els[l + i]?.bind (·[j]?)) = some x ∧ ad.add (l * z) = ⟨ad.block, ad.off + l * sz, none⟩ := by
        intro i j x hx
        cases he : ((els.drop l).take (h - l))[i]? with
        | none => rw [he] at hx; cases hx
        | some e =>
          rw [he] at hx
          have he' := hget i e he
          refine ⟨by rw [he']; exact hx, ?_⟩
          have hne : els ≠ [] := by intro h'; subst h'; simp at he'
          rw [addr_add (h2 hne)]
          rcases hz with rfl | hz
          · simp
          · have := hz e (List.mem_of_getElem? he')
            have := h3 e (List.mem_of_getElem? he')
            rw [show z = sz by omega]
      have := RepD.sl (O := O) (w := w) ((els.drop l).take (h - l)) (ad.add (l * z)) (m - l) sz (fun i j => f (l + i) j) (by rw [hlen]; omega)
        (fun hne => by
          have hne' : els ≠ [] := by intro h'; subst h'; simp at hne
          rw [addr_add (h2 hne')]) hszz
        (fun i j x hx => by
          obtain ⟨g1, g2⟩ := hmul i j x hx
          have := h4 (l + i) j x g1
          rw [g2]
          simpa [Nat.add_mul, Nat.add_assoc] using this)
        (fun i j x hx => h5 (l + i) j x (hmul i j x hx).1)
      rw [hlen] at this
      exact this

theorem obnd_run {σ : Gh} {s : List Obj} {w : World} {x : Option V} {u : Option Value} {dflt n : Int} (hr : ∀ v, x = some v → ∃ c, u = some c ∧ RepV σ s w v c) (hn : x = none → u = none) (h : obnd x dflt = some n) :
    (u = none ∧ n = dflt) ∨ ∃ k, u = some (.int k n) := by
  cases x with
  | none => simp only [obnd, Option.some.injEq] at h; exact .inl ⟨hn rfl, h.symm⟩
  | some v =>
    obtain ⟨c, rfl, hc⟩ := hr v rfl
    obtain ⟨k, rfl⟩ := intV_spec hc h
    exact .inr ⟨k, rfl⟩

theorem run_slice {P : Program} {t e : TypeId} {ti : TypeInfo} (hu : P.underlying t = some (.slice e)) (hi : P.info? e = some ti) {a : Option Addr} {n cap : Nat} {lo hi' mx : Option Value} {l h m : Nat}
    (hlo : (lo = none ∧ l = 0) ∨ ∃ k, lo = some (.int k l)) (hhi : (hi' = none ∧ h = n) ∨ ∃ k, hi' = some (.int k h)) (hmx : (mx = none ∧ m = cap) ∨ (hi' ≠ none ∧ ∃ k, mx = some (.int k m)))
    (hlh : l ≤ h) (hhm : h ≤ m) (hmc : m ≤ cap) (w : World) :
    (Instr.sliceAt t (.slice a n cap) lo hi' mx).run P w = .ok (.slice (if m = l then a else a.map (·.add (l * ti.size))) (h - l) (m - l)) w := by
  have b : ∀ (k : IntKind) (i y : Nat) (c : BoundsCode), i ≤ y → (Instr.sliceBound (.int k i) y c).run P w = .ok i w := by
    intro k i y c hh
    simp [Instr.sliceBound, asIntOf, hh]
  rcases hlo with ⟨rfl, rfl⟩ | ⟨kl, rfl⟩ <;> rcases hhi with ⟨rfl, rfl⟩ | ⟨kh, rfl⟩ <;> rcases hmx with ⟨rfl, rfl⟩ | ⟨hne, km, rfl⟩ <;>
    first
      | (exact absurd rfl hne)
      | simp [Instr.sliceAt, Instr.slice, run_underlying hu, Instr.sliceBounds, b, hlh, hhm, hmc, sizeOf, typeInfo, hi]

theorem slice_sound {P : Program} {t : TypeId} {x : V} {ux : Value} {lo hi mx : Option V} {ul uh um : Option Value} {σ : Gh} {s : List Obj} {w : World} {K : V → Prop} (hx : RepV σ s w x ux)
    (hl : ∀ v, lo = some v → ∃ c, ul = some c ∧ RepV σ s w v c) (hln : lo = none → ul = none) (hh : ∀ v, hi = some v → ∃ c, uh = some c ∧ RepV σ s w v c) (hhn : hi = none → uh = none)
    (hm : ∀ v, mx = some v → ∃ c, um = some c ∧ RepV σ s w v c) (hmn : mx = none → um = none) (h : sliceWp P t x lo hi mx s K) :
    ∃ v c, (Instr.sliceAt t ux ul uh um).run P w = .ok c w ∧ RepV σ s w v c ∧ K v := by
  unfold sliceWp at h
  split at h
  · exact h.elim
  rename_i z hz
  obtain ⟨e, ti, e1, e2, e3⟩ := slE_spec hz
  split at h
  · exact h.elim
  rename_i es hes
  split at h
  case h_2 => exact h.elim
  rename_i l h' hl0 hh0
  obtain ⟨⟨b1, b2, b3⟩, h⟩ := h
  obtain ⟨L, rfl⟩ := Int.eq_ofNat_of_zero_le b1
  obtain ⟨H, rfl⟩ := Int.eq_ofNat_of_zero_le (show 0 ≤ h' by omega)
  have hl1 := obnd_run hl hln hl0
  have hh1 := obnd_run hh hhn hh0
  have hl2 : (ul = none ∧ L = 0) ∨ ∃ k, ul = some (.int k (L : Int)) := hl1.imp (fun h => ⟨h.1, by omega⟩) id
  have e4 : ((H : Int) - L).toNat = H - L := by omega
  simp only [Int.toNat_natCast, e4] at h
  have data : ∀ (els : List (List D)), RepD (Own σ s) w (.sl els) ux → es.length = els.length → (L = 0 ∨ ∀ e ∈ els, e.length = z) → ∀ (M : Nat), H ≤ M → (∀ a n cap, ux = .slice a n cap → M ≤ cap ∧ ((um = none ∧ M = cap) ∨ (uh ≠ none ∧ ∃ k, um = some (.int k (M : Int))))) →
      ∃ c a cap, ux = .slice a els.length cap ∧ (Instr.sliceAt t ux ul uh um).run P w = .ok c w ∧ RepD (Own σ s) w (.sl ((els.drop L).take (H - L))) c ∧ c = .slice (if M = L then a else a.map (·.add (L * z))) (H - L) (M - L) := by
    intro els hd hlen hzz M hM hcond
    have hu : ∃ a n cap, ux = .slice a n cap := by cases hd <;> exact ⟨_, _, _, rfl⟩
    obtain ⟨a, n, cap, rfl⟩ := hu
    have hn : n = els.length ∧ els.length ≤ cap := by cases hd <;> simp_all
    obtain ⟨rfl, hcap⟩ := hn
    obtain ⟨c1, c2⟩ := hcond a _ cap rfl
    have hrun := run_slice (P := P) e1 e2 (a := a) (n := els.length) (cap := cap) (lo := ul) (hi' := uh) (mx := um) (l := L) (h := H) (m := M) hl2 (hh1.imp (fun h => ⟨h.1, by omega⟩) id) c2 (by omega) hM c1 w
    rw [e3] at hrun
    exact ⟨_, a, cap, rfl, hrun, RepD.sub hd (by omega) (by omega) hM c1 hzz, rfl⟩
  split at h
  · -- data, no max
    rename_i els
    have hd : RepD (Own σ s) w (.sl els) ux := toD_spec hx rfl
    have hlen : es.length = els.length := by simp only [elsV, Option.some.injEq] at hes; rw [← hes]; simp
    have hu : ∃ a n cap, ux = .slice a n cap := by cases hd <;> exact ⟨_, _, _, rfl⟩
    obtain ⟨a, n, cap, rfl⟩ := hu
    have hn : n = els.length ∧ els.length ≤ cap := by cases hd <;> simp_all
    obtain ⟨c, _, _, _, r1, r2, _⟩ := data els hd hlen (h.1.imp (by omega) id) cap (by omega) (fun a' n' cap' he => by cases he; exact ⟨Nat.le_refl _, .inl ⟨hmn rfl, rfl⟩⟩)
    exact ⟨_, c, r1, .d r2, h.2⟩
  · rename_i els
    have hd : RepD (Own σ s) w (.sl els) ux := toD_spec hx rfl
    have hlen : es.length = els.length := by simp only [elsV, Option.some.injEq] at hes; rw [← hes]; simp
    have hu : ∃ a n cap, ux = .slice a n cap := by cases hd <;> exact ⟨_, _, _, rfl⟩
    obtain ⟨a, n, cap, rfl⟩ := hu
    have hn : n = els.length ∧ els.length ≤ cap := by cases hd <;> simp_all
    obtain ⟨c, _, _, _, r1, r2, _⟩ := data els hd hlen (h.1.imp (by omega) id) cap (by omega) (fun a' n' cap' he => by cases he; exact ⟨Nat.le_refl _, .inl ⟨hmn rfl, rfl⟩⟩)
    exact ⟨_, c, r1, .d r2, h.2⟩
  · rename_i els m
    obtain ⟨h1, h2, h3, h⟩ := h
    have hd : RepD (Own σ s) w (.sl els) ux := toD_spec hx rfl
    have hlen : es.length = els.length := by simp only [elsV, Option.some.injEq] at hes; rw [← hes]; simp
    obtain ⟨cm, hcm, hrm⟩ := hm m rfl
    obtain ⟨km, rfl⟩ := intV_spec hrm h2
    have hhne : uh ≠ none := by
      cases hi with
      | none => simp at h1
      | some v => obtain ⟨c, rfl, _⟩ := hh v rfl; simp
    have hu : ∃ a n cap, ux = .slice a n cap := by cases hd <;> exact ⟨_, _, _, rfl⟩
    obtain ⟨a, n, cap, rfl⟩ := hu
    have hn : n = els.length ∧ els.length ≤ cap := by cases hd <;> simp_all
    obtain ⟨c, a', cap', _, r1, r2, r3⟩ := data els hd hlen (h3.imp (by omega) id) H (Nat.le_refl _) (fun a' n' cap' he => by cases he; exact ⟨by omega, .inr ⟨hhne, km, hcm⟩⟩)
    refine ⟨_, c, r1, ?_, h⟩
    have hl' : ((els.drop L).take (H - L)).length = H - L := by simp; omega
    rw [r3] at r2 ⊢
    have : RepV σ s w (.fu ((els.drop L).take (H - L))) (.slice (if H = L then a' else a'.map (·.add (L * z))) ((els.drop L).take (H - L)).length ((els.drop L).take (H - L)).length) := .fu (by rw [hl']; exact r2)
    rw [hl'] at this
    exact this
  · rename_i oid g lo' n
    obtain ⟨o, ho, hg, ⟨hz', hlt⟩, h⟩ := atG_spec h
    cases hx with | so o' ho' hg' hu' hk => ?_
    rw [ho] at ho'; cases ho'
    have hn : es.length = n := by
      simp only [elsV, ho, hg] at hes
      split at hes
      · simp only [Option.some.injEq] at hes; rw [← hes]; simp; omega
      · cases hes
    rcases hk hg with ⟨hs0, ⟨aa, rfl⟩, rfl, rfl⟩ | ⟨b, bs, cp, E, arr, hs1, hhp, rfl, hcp, hfit⟩
    · obtain rfl : L = 0 := by omega
      obtain rfl : H = 0 := by omega
      have hrun := run_slice (P := P) e1 e2 (a := aa) (n := 0) (cap := 0) (lo := ul) (hi' := uh) (mx := um) (l := 0) (h := 0) (m := 0) hl2 (hh1.imp (fun h => ⟨h.1, rfl⟩) id) (.inl ⟨hmn rfl, rfl⟩) (by omega) (by omega) (by omega) w
      refine ⟨_, _, hrun, ?_, h⟩
      exact .so o ho hg' (by simp [Value.oneCell']) (fun _ => .inl ⟨hs0, ⟨aa, by simp⟩, rfl, rfl⟩)
    · have hrun := run_slice (P := P) e1 e2 (a := some ⟨b, bs + lo' * o.sz, none⟩) (n := n) (cap := cp) (lo := ul) (hi' := uh) (mx := um) (l := L) (h := H) (m := cp) hl2 (hh1.imp (fun h => ⟨h.1, by omega⟩) id) (.inl ⟨hmn rfl, rfl⟩) (by omega) (by omega) (by omega) w
      refine ⟨_, _, hrun, ?_, h⟩
      refine .so o ho hg' (by simp [Value.oneCell']) (fun _ => .inr ⟨b, bs, cp - L, E, arr, hs1, hhp, ?_, by omega, ?_⟩)
      · rcases hlt with h0 | h0
        · obtain rfl : L = 0 := by omega
          simp [Addr.add]
        · rw [if_neg (by omega)]
          simp only [Option.map_some]
          rw [addr_add rfl, e3, hz', Nat.add_mul]
          simp [Nat.add_assoc]
      · rw [show lo' + L + (cp - L) = lo' + cp by omega]; exact hfit
  · exact h.elim

/-! ### len -/

def lenWp (P : Program) (t : TypeId) (x : V) (s : List Obj) (K : V → Prop) : Prop :=
  match P.underlying t with
  | some (.slice _) => match x with
    | .d (.sl els) => K (.d (.sc (.int .i64 els.length)))
    | .fu els => K (.d (.sc (.int .i64 els.length)))
    | .so id g _ n => atG s id g fun _ => K (.d (.sc (.int .i64 n)))
    | _ => False
  | some .string => match x with
    | .d (.sc (.string b)) => K (.d (.sc (.int .i64 b.size)))
    | _ => False
  | _ => False

theorem len_sound {P : Program} {t ty : TypeId} {x : V} {ux : Value} {σ : Gh} {s : List Obj} {w : World} {K : V → Prop} (hx : RepV σ s w x ux) (h : lenWp P t x s K) :
    ∃ v c, (Builtin.len_ #[t] ty #[ux]).run P w = .ok c w ∧ RepV σ s w v c ∧ K v := by
  unfold lenWp at h
  split at h
  · rename_i e hu
    have fin : ∀ (a : Option Addr) (n cap : Nat), ux = .slice a n cap → K (.d (.sc (.int .i64 n))) → ∃ v c, (Builtin.len_ #[t] ty #[ux]).run P w = .ok c w ∧ RepV σ s w v c ∧ K v := by
      rintro a n cap rfl hk
      exact ⟨_, .int .i64 n, by simp [Builtin.len_, run_underlying hu, goInt], .d (.sc _ rfl), hk⟩
    split at h
    · have hd := toD_spec hx rfl
      cases hd <;> exact fin _ _ _ rfl h
    · have hd := toD_spec hx rfl
      cases hd <;> exact fin _ _ _ rfl h
    · obtain ⟨o, ho, hg, h⟩ := atG_spec h
      cases hx with | so o' ho' hg' hu' hk => ?_
      rw [ho] at ho'; cases ho'
      rcases hk hg with ⟨hs0, ⟨aa, rfl⟩, rfl, rfl⟩ | ⟨b, bs, cp, E, arr, hs1, hhp, rfl, hcp, hfit⟩
      · exact fin _ _ _ rfl h
      · exact fin _ _ _ rfl h
    · exact h.elim
  · rename_i hu
    split at h
    · cases hx with | d hx => ?_
      cases hx with | sc _ _ => ?_
      exact ⟨_, _, by simp [Builtin.len_, run_underlying hu, goInt], .d (.sc _ rfl), h⟩
    · exact h.elim
  · exact h.elim

end Go.VL
