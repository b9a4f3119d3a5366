/- The V-logic, part 20: at the end of a loop's body the objects behind some one are forgotten. -/
import Derived.Test.YtafbdphblilenaaVs
namespace Go.VL

def keepE (keep : List Nat) (e : Env) : Env := fun t => if keep.contains t then e t else .any

theorem keepE_app {keep : List Nat} {e : Env} {t : Nat} : keepE keep e t = if keep.contains t then e t else .any := (rfl)

theorem Cln.cut {L : Nat} {e : Env} {s s' : List Obj} (lim : Nat) (hL : L ≤ lim) (hs : s.take lim = s') (ho : s'.all (objOk lim) = true) (keep : List Nat) (hk : keep.all (fun t => refsV lim (e t)) = true) : Cln L e s (keepE keep e) s' := by
  subst hs
  intro σ0 s0 w0 σ w N a hs0 hE hI hR
  refine ⟨hE.take (by omega), hI.take ho, hR.1, hR.2.1, fun t => ?_⟩
  unfold keepE
  split
  · rename_i ht
    rw [List.all_eq_true] at hk
    exact (hR.2.2 t).take (hk t (by simpa using ht))
  · exact .any

theorem objOk_data {lim g z : Nat} {lv : Bool} {l : List (List D)} : objOk lim ⟨g, lv, z, l.map fun c => c.map V.d⟩ = true := by
  simp [objOk, refsV]

/-- A call in a drawn region whose arguments hold slices of no one's else. -/
theorem callC_give {P : Program} {f : FuncId} {args cargs : List V} {r : V} {s : List Obj} {K : V → List Obj → Prop} (h : PureOK P f cargs r) (hc : ∀ s' : List Obj, frzV.go s'.length s' args = some cargs) (ha : refsV.go 0 cargs = true) (hr : refsV 0 r = true) (hk : K r s) : callC P f args s K :=
  ⟨r, fun s' => call_give [] (hc s') (call_pure h ha hr ⟨rfl, rfl⟩), hk⟩

def keepWp (lim : Nat) (s : List Obj) (r : V) (K : V → List Obj → Prop) : Prop := (s.take lim).all (objOk lim) = true ∧ refsV lim r = true ∧ K r (s.take lim)

def Qkeep (P : Program) (rs : List ResultVar) (lim : Nat) (K : V → List Obj → Prop) (ex : Exit) (e : Env) (s : List Obj) : Prop := Qend ex ∧ resWp P rs e s fun r => keepWp lim s r K

theorem Qkeep_app {P : Program} {rs : List ResultVar} {lim : Nat} {K : V → List Obj → Prop} {ex : Exit} {e : Env} {s : List Obj} : Qkeep P rs lim K ex e s = (Qend ex ∧ resWp P rs e s fun r => keepWp lim s r K) := (rfl)

/-- The same, with the result as it is. -/
theorem fn_keep {P : Program} {f : FuncId} {fn : Func} {c : Code} {args : List V} {exts : List Obj} {K : V → List Obj → Prop} (hf : P.funcs[f]? = some fn) (hb : fn.body = some c) {N : Nat} (hN : fn.ntmps = N) {rs : Array ResultVar} (hrs : fn.results = rs) (hn : (fn.name != "runtime.NumGoroutine") = true)
    (lim M : Nat) (hl : exts.length ≤ lim) (ha : args.length ≤ N)
    (h : codeWp P N lim M c (Qkeep P rs.toList lim K) (envOf args) exts) : callWp P f args exts K := by
  subst hN; subst hrs
  refine ⟨by simp only [okFn, hf, hn, hb, Option.isSome_some, Bool.and_self], fun σ w vals hI hvl hv => ?_⟩
  refine calls_of_wp hf hb ?_
  have hR : RepE σ exts w fn.ntmps (envOf args) { tmps := vals ++ Array.replicate (fn.ntmps - vals.size) undef, defers := [] } := by
    refine ⟨rfl, by simp; omega, fun t => ?_⟩
    rw [envOf_get]
    by_cases ht : t < args.length
    · have h1 := hv t args[t] (by simp [ht])
      have : (vals ++ Array.replicate (fn.ntmps - vals.size) undef).getD t undef = vals.getD t undef := by
        rw [Array.getD_eq_getD_getElem?, Array.getElem?_append_left (by omega), Array.getD_eq_getD_getElem?]
      rw [this]
      simpa [ht] using h1
    · have : (vals ++ Array.replicate (fn.ntmps - vals.size) undef).getD t undef = undef := by
        rw [Array.getD_eq_getD_getElem?, Array.getElem?_append_right (by omega), Array.getElem?_replicate]
        split <;> rfl
      rw [this]
      simp [ht]
      exact .un
  refine wp_mono (codeWp_sound hl c _ (envOf args) exts σ w _ (Evolve.refl _ _ _) hI hR h) fun ex a' w' ⟨e', σ', s', hE, hI', hR', hex, hq⟩ => ?_
  obtain ⟨v, u, k1, k2, k3⟩ := resWp_sound hI' hR' hq
  obtain ⟨h1, h2⟩ := k3
  have fin : a'.defers = [] ∧ ∃ v, (results fn a'.tmps).run P w' = .ok v w' ∧ ∃ u v_1 σ'_1 s'_1, Ending.returned v = .returned u ∧ Evolve σ exts w σ'_1 s'_1 w' ∧ Inv σ'_1 s'_1 w' ∧ RepV σ'_1 s'_1 w' v_1 u ∧ K v_1 s'_1 := by
    refine ⟨hR'.1, u, k1, ?_⟩
    exact ⟨u, v, σ', s'.take lim, rfl, hE.take hl, hI'.take h1, k2.take h2.1, h2.2⟩
  rcases Qend_spec hex with rfl | rfl
  · exact fin
  · exact fin


/-- A call of a function that works on two objects, the caller's objects a and b. -/
theorem call_at2 {P : Program} {f : FuncId} (a b : Nat) (hab : a ≠ b) {cargs args : List V} {s : List Obj} {o1 o1' o2 o2' : Obj} {r r' : V} {K : V → List Obj → Prop} (h : callWp P f cargs [o1, o2] fun v s' => v = r ∧ s' = [o1', o2']) (ha : args = cargs.map (renV [a, b])) (hra : refsV.go 2 cargs = true)
    (hoo : objOk 2 o1 = true) (hoo' : objOk 2 o2 = true) (ho1 : s[a]? = some (renO [a, b] o1)) (ho2 : s[b]? = some (renO [a, b] o2)) (hr : renV [a, b] r = r') (hk : K r' ((s.set a (renO [a, b] o1')).set b (renO [a, b] o2'))) : callWp P f args s K := by
  refine call_frame h [a, b] rfl (by simp [hab]) (fun j ob hj => ?_) ha hra (by simp [hoo, hoo']) fun v s' hv => ?_
  · match j with
    | 0 => simp at hj; subst hj; simpa using ho1
    | 1 => simp at hj; subst hj; simpa using ho2
    | j + 2 => simp at hj
  · obtain ⟨rfl, rfl⟩ := hv
    refine ⟨rfl, ?_⟩
    rw [hr]
    simpa [putObjs] using hk

/-- In a drawn region, on the objects 0 and 1. -/
theorem callF_two {P : Program} {f : FuncId} {args : List V} {o1 o1' o2 o2' : Obj} {r : V} {rest : List Obj} {K : V → List Obj → Prop} (h : callWp P f args [o1, o2] fun v s' => v = r ∧ s' = [o1', o2']) (ha : args = args.map (renV [0, 1])) (hra : refsV.go 2 args = true)
    (hoo : objOk 2 o1 = true) (hoo' : objOk 2 o2 = true) (ho1 : o1 = renO [0, 1] o1) (ho2 : o2 = renO [0, 1] o2) (ho1' : renO [0, 1] o1' = o1') (ho2' : renO [0, 1] o2' = o2') (hr : renV [0, 1] r = r) (hk : K r (o1' :: o2' :: rest)) : callF P [0, 1] [0, 1] f args (o1 :: o2 :: rest) K := by
  refine ⟨r, [o1', o2'], rfl, fun s' hl hs => ?_, by simpa [putObjs] using hk⟩
  have e0 := hs 0 (by simp)
  have e1 := hs 1 (by simp)
  refine call_at2 0 1 (by decide) h ha hra hoo hoo' (by rw [e0, ← ho1]; rfl) (by rw [e1, ← ho2]; rfl) hr ⟨rfl, ?_⟩
  simp [putObjs, ho1', ho2']

/-- The equations for simp, as one. -/
theorem vsA : type_of% (
  And.intro @codeWp_skip <|
  And.intro @codeWp_region <|
  And.intro @codeWp_draw <|
  And.intro @codeWp_seq <|
  And.intro @codeW_cond <|
  And.intro @codeWp_block <|
  And.intro @codeWp_exit <|
  And.intro @codeWp_ret <|
  And.intro @opsWp_nil <|
  And.intro @opsW_none <|
  And.intro @opsW_some <|
  And.intro @gA_app <|
  And.intro @gB_app <|
  And.intro @hA_app <|
  And.intro @hB_app <|
  And.intro @guardS_some <|
  And.intro @guardV_tt <|
  And.intro @guardV_ff <|
  And.intro @guardV_tf <|
  And.intro @guardV_ft <|
  And.intro @guardV_un <|
  And.intro @guardV_dt <|
  And.intro @guardV_df <|
  And.intro @guardV_ndt <|
  And.intro @guardV_ndf <|
  And.intro @condF_true <|
  And.intro @condF_false <|
  And.intro @condF_dec <|
  And.intro @condF_not <|
  And.intro @condK_true <|
  And.intro @condK_false <|
  And.intro @condK_dec <|
  And.intro @condK_not <|
  And.intro @atS_app <|
  And.intro @unS_app <|
  And.intro @callV_cl <|
  And.intro @cont_app <|
  And.intro @Qn_app <|
  And.intro @Qseq_normal <|
  And.intro @Qseq_ret <|
  And.intro @Qseq_exit <|
  And.intro @Qblk_normal <|
  And.intro @Qblk_ret <|
  And.intro @Qblk_exit <|
  And.intro @lexC_nil <|
  And.intro @lexW_move <|
  And.intro @lexW_assign <|
  And.intro @lexW_alloc <|
  And.intro @lexW_box <|
  And.intro @lexW_build <|
  And.intro @lexW_buildSlice <|
  And.intro @lexW_load <|
  And.intro @lexW_store <|
  And.intro @lexW_nil <|
  And.intro @lexW_bin <|
  And.intro @lexW_unop <|
  And.intro @lexW_convert <|
  And.intro @lexW_makeFunc <|
  And.intro @lexW_makeSlice <|
  And.intro @lexW_slice <|
  And.intro @lexW_fieldAddr <|
  And.intro @lexW_field <|
  And.intro @lexW_indexAddr <|
  And.intro @lexW_index <|
  And.intro @lexW_extract <|
  And.intro @lexW_call <|
  And.intro @lexW_pick <|
  And.intro @lexW_some <|
  And.intro @contC_app <|
  And.intro @sameS_app <|
  And.intro @opW_move <|
  And.intro @opW_assign <|
  And.intro @opW_pick <|
  And.intro @opW_alloc <|
  And.intro @opW_box <|
  And.intro @opW_build <|
  And.intro @opW_buildSlice <|
  And.intro @opW_load <|
  And.intro @opW_store <|
  And.intro @opW_nil <|
  And.intro @opW_binT <|
  And.intro @opW_binI <|
  And.intro @opW_binB <|
  And.intro @opW_binP <|
  And.intro @opW_binN <|
  And.intro @condF_ub <|
  And.intro @opW_unop <|
  And.intro @opW_convert <|
  And.intro @opW_makeFunc <|
  And.intro @opW_makeSlice <|
  And.intro @opW_slice <|
  And.intro @opW_fieldAddr <|
  And.intro @opW_field <|
  And.intro @opW_indexAddr <|
  And.intro @opW_index <|
  And.intro @opW_extract <|
  And.intro @opW_call <|
  And.intro @opW_callT <|
  And.intro @opW_len <|
  And.intro @opW_append <|
  And.intro @opW_min <|
  And.intro @opW_max <|
  And.intro @Qfin_app <|
  And.intro @trimE_upd <|
  And.intro @trimE_trim <|
  And.intro @trimE_app <|
  And.intro @cellsV_ag <|
  And.intro @cellsV_d <|
  And.intro @cellsV_fu <|
  And.intro @cellsV_so <|
  And.intro @cellsV_rf <|
  And.intro @cellsV_cl <|
  And.intro @true_and <|
  And.intro @and_true <|
  And.intro @true_or <|
  And.intro @or_true <|
  And.intro @Bool.not_true <|
  And.intro @Bool.not_false <|
  And.intro @false_or <|
  And.intro @or_false <|
  And.intro @decide_eq_true_eq <|
  And.intro @true_imp_iff <|
  And.intro @false_imp_iff <|
  And.intro @not_true_eq_false <|
  And.intro @not_false_eq_true <|
  And.intro @decide_eq_false_iff_not <|
  And.intro @Bool.and_self <|
  And.intro @Bool.or_false <|
  And.intro @Bool.false_or <|
  And.intro @Bool.or_true <|
  And.intro @Bool.true_or <|
  And.intro @Bool.and_true <|
  And.intro @Bool.true_and <|
  And.intro @Int.toNat_natCast <|
  And.intro @Int.ofNat_lt <|
  And.intro @Int.natCast_nonneg <|
  And.intro @decide_true <|
  And.intro @decide_false <|
  And.intro @V.d.injEq <|
  And.intro @D.sc.injEq <|
  And.intro @Go.Value.int.injEq <|
  @Go.Value.bool.injEq) :=
  And.intro @codeWp_skip <|
  And.intro @codeWp_region <|
  And.intro @codeWp_draw <|
  And.intro @codeWp_seq <|
  And.intro @codeW_cond <|
  And.intro @codeWp_block <|
  And.intro @codeWp_exit <|
  And.intro @codeWp_ret <|
  And.intro @opsWp_nil <|
  And.intro @opsW_none <|
  And.intro @opsW_some <|
  And.intro @gA_app <|
  And.intro @gB_app <|
  And.intro @hA_app <|
  And.intro @hB_app <|
  And.intro @guardS_some <|
  And.intro @guardV_tt <|
  And.intro @guardV_ff <|
  And.intro @guardV_tf <|
  And.intro @guardV_ft <|
  And.intro @guardV_un <|
  And.intro @guardV_dt <|
  And.intro @guardV_df <|
  And.intro @guardV_ndt <|
  And.intro @guardV_ndf <|
  And.intro @condF_true <|
  And.intro @condF_false <|
  And.intro @condF_dec <|
  And.intro @condF_not <|
  And.intro @condK_true <|
  And.intro @condK_false <|
  And.intro @condK_dec <|
  And.intro @condK_not <|
  And.intro @atS_app <|
  And.intro @unS_app <|
  And.intro @callV_cl <|
  And.intro @cont_app <|
  And.intro @Qn_app <|
  And.intro @Qseq_normal <|
  And.intro @Qseq_ret <|
  And.intro @Qseq_exit <|
  And.intro @Qblk_normal <|
  And.intro @Qblk_ret <|
  And.intro @Qblk_exit <|
  And.intro @lexC_nil <|
  And.intro @lexW_move <|
  And.intro @lexW_assign <|
  And.intro @lexW_alloc <|
  And.intro @lexW_box <|
  And.intro @lexW_build <|
  And.intro @lexW_buildSlice <|
  And.intro @lexW_load <|
  And.intro @lexW_store <|
  And.intro @lexW_nil <|
  And.intro @lexW_bin <|
  And.intro @lexW_unop <|
  And.intro @lexW_convert <|
  And.intro @lexW_makeFunc <|
  And.intro @lexW_makeSlice <|
  And.intro @lexW_slice <|
  And.intro @lexW_fieldAddr <|
  And.intro @lexW_field <|
  And.intro @lexW_indexAddr <|
  And.intro @lexW_index <|
  And.intro @lexW_extract <|
  And.intro @lexW_call <|
  And.intro @lexW_pick <|
  And.intro @lexW_some <|
  And.intro @contC_app <|
  And.intro @sameS_app <|
  And.intro @opW_move <|
  And.intro @opW_assign <|
  And.intro @opW_pick <|
  And.intro @opW_alloc <|
  And.intro @opW_box <|
  And.intro @opW_build <|
  And.intro @opW_buildSlice <|
  And.intro @opW_load <|
  And.intro @opW_store <|
  And.intro @opW_nil <|
  And.intro @opW_binT <|
  And.intro @opW_binI <|
  And.intro @opW_binB <|
  And.intro @opW_binP <|
  And.intro @opW_binN <|
  And.intro @condF_ub <|
  And.intro @opW_unop <|
  And.intro @opW_convert <|
  And.intro @opW_makeFunc <|
  And.intro @opW_makeSlice <|
  And.intro @opW_slice <|
  And.intro @opW_fieldAddr <|
  And.intro @opW_field <|
  And.intro @opW_indexAddr <|
  And.intro @opW_index <|
  And.intro @opW_extract <|
  And.intro @opW_call <|
  And.intro @opW_callT <|
  And.intro @opW_len <|
  And.intro @opW_append <|
  And.intro @opW_min <|
  And.intro @opW_max <|
  And.intro @Qfin_app <|
  And.intro @trimE_upd <|
  And.intro @trimE_trim <|
  And.intro @trimE_app <|
  And.intro @cellsV_ag <|
  And.intro @cellsV_d <|
  And.intro @cellsV_fu <|
  And.intro @cellsV_so <|
  And.intro @cellsV_rf <|
  And.intro @cellsV_cl <|
  And.intro @true_and <|
  And.intro @and_true <|
  And.intro @true_or <|
  And.intro @or_true <|
  And.intro @Bool.not_true <|
  And.intro @Bool.not_false <|
  And.intro @false_or <|
  And.intro @or_false <|
  And.intro @decide_eq_true_eq <|
  And.intro @true_imp_iff <|
  And.intro @false_imp_iff <|
  And.intro @not_true_eq_false <|
  And.intro @not_false_eq_true <|
  And.intro @decide_eq_false_iff_not <|
  And.intro @Bool.and_self <|
  And.intro @Bool.or_false <|
  And.intro @Bool.false_or <|
  And.intro @Bool.or_true <|
  And.intro @Bool.true_or <|
  And.intro @Bool.and_true <|
  And.intro @Bool.true_and <|
  And.intro @Int.toNat_natCast <|
  And.intro @Int.ofNat_lt <|
  And.intro @Int.natCast_nonneg <|
  And.intro @decide_true <|
  And.intro @decide_false <|
  And.intro @V.d.injEq <|
  And.intro @D.sc.injEq <|
  And.intro @Go.Value.int.injEq <|
  @Go.Value.bool.injEq

end Go.VL
