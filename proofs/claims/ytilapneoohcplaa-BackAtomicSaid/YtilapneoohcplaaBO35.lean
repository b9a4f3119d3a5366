/- A part of the proof (G40). -/
import Derived.Test.YtilapneoohcplaaBO34
set_option linter.unusedSimpArgs false
set_option linter.unusedVariables false
set_option maxRecDepth 100000
set_option maxHeartbeats 80000000
namespace Go.Proofs.Ytilapneoohcplaa
open Go.VL Go.Proofs.Try
def outV : List V → V
 | [x, y, c, d, e, f] => .tu [.ag [x, y, c], d, e, f]
 | _ => .un
def Mst.rest (m : Mst) : Mst := { m with ready := false, top := 0 }
def Mst.set_ (m : Mst) (t : List Int) (at_ fuel : Int) : Mst := { m.rest with t := t, ownText := false, start := at_, steps := 0, fuel := fuel, spent := false }
def runPlace (m : Mst) (at_ : Int) : BPlace := ⟨at_, List.replicate m.p.caps.toNat (-1, -1), .mk 0 .root 0 0 .nil⟩
theorem call_msT {f : FuncId} {g b a : Nat} {cargs : List V} {m m' : Mst} {r T T' : V} (h : callWp prog f cargs (m.objsT g b a T) fun v s => v = r ∧ s = m'.objsT g b a T') (hT : refsV 3 T = true) (hT2 : renV [0, 1, 2] T = T) (hT' : refsV 3 T' = true) (hT2' : renV [0, 1, 2] T' = T')
  (ha : cargs.map (renV [0, 1, 2]) = cargs) (hra : refsV.go 3 cargs = true) (hr : renV [0, 1, 2] r = r) (ext : List VL.Obj) : callWp prog f cargs (m.objsT g b a T ++ ext) fun v s => v = r ∧ s = m'.objsT g b a T' ++ ext := by
 have hren : ∀ (m : Mst) (T : V), renV [0, 1, 2] T = T → (m.objsT g b a T).map (renO [0, 1, 2]) = m.objsT g b a T := by
  intro m T hT
  unfold Mst.objsT
  simp only [List.map_cons, List.map_nil, List.cons.injEq, and_true]
  refine ⟨?_, ?_, ?_⟩
  ·unfold renO
   simp [renV.go, renV, hT, i64, bV]
  ·unfold renO
   simp only [List.map_map]
   congr 1
   refine List.map_congr_left fun p _ => ?_
   cases p <;> rfl
  ·exact renO_d [0, 1, 2] m.ogen true 1 m.own iD
 refine call_map [0, 1, 2] h (by decide) (by rfl) ?_ ha.symm hra (objsT_ok g b a m _ 3 (Nat.le_refl _) hT) hr ?_
 ·have e : (m.objsT g b a T).map (fun o => some (renO [0, 1, 2] o)) = (m.objsT g b a T).map some := by
   conv => rhs; rw [← hren m T hT2]
   rw [List.map_map]; rfl
  rw [e]; rfl
 ·rw [hren m' T' hT2']
  exact ⟨rfl, rfl⟩
theorem mrun_err (g b a : Nat) (m : Mst) (T : V) (hT : refsV 3 T = true) (hT2 : renV [0, 1, 2] T = T) (htop : m.top ≤ m.stk.length) (t : List Int) (at_ fuel : Int) (ht : t.length ≤ 1000000000) (hI : ∀ x ∈ t, I64 x) (hc : checkR m.p.runes t at_ fuel ≠ 0) :
  callWp prog 15 [.pp 0 g 0 0 b a, .d (intsD t), i64 at_, i64 fuel] (m.objsT g b a T) fun v s =>
   v = outV [i64 0, i64 0, .d (.sl []), bV false, i64 0, i64 (checkR m.p.runes t at_ fuel)] ∧ s = m.rest.objsT g b a T := by
 have hM := mobjsT_ok m.rest b a T hT
 have hck := fun ext => call_msT (check_ok g b a m.rest T hT t at_ fuel ht hI) hT hT2 hT hT2 rfl rfl rfl ext
 have hce : checkR m.rest.p.runes t at_ fuel = checkR m.p.runes t at_ fuel := rfl
 rw [hce] at hck
 generalize checkR m.p.runes t at_ fuel = c at *
 unfold Mst.objsT at hck
 simp only [zM, rsV] at hck
 have hmin : min m.top m.stk.length = m.top := by omega
 have q1 : (0 : Int) ≤ (m.top : Int) := by omega
 unfold Mst.objsT
 refine fn_ok func15 rfl ntmps15 results15 rfl 3 6917529027641147151 (by simp) (by simp) ?_
 try simp only [zX, simprocAttr, zM, rsV, htop, hmin, q1, List.length_take, List.length_map, Int.le_refl, Int.sub_self, Int.toNat_zero, Nat.zero_add, true_or]
 refine callWp_mono (hck _) (fun v s' hv => ?_); obtain ⟨rfl, rfl⟩ := hv
 try simp only [zX, simprocAttr, zM, rsV, hc, outV]
 first | exact ⟨hM, rfl⟩ | exact hM
theorem call_msK {f : FuncId} {g b a : Nat} {m : Mst} (h : callWp prog f [.pp 0 g 0 0 b a] (m.objs g b a) fun v s => v = .tu [] ∧ s = m.kept.objsT g b a m.keptT) (ext : List VL.Obj) : callWp prog f [.pp 0 g 0 0 b a] (m.objs g b a ++ ext) fun v s => v = .tu [] ∧ s = m.kept.objsT g b a m.keptT ++ ext := by
 unfold Mst.objs at h ⊢
 refine call_msT h (mtext_refs m) (by unfold Mst.text; split <;> rfl) (by unfold Mst.keptT; split <;> rfl) (by unfold Mst.keptT; split <;> rfl) rfl rfl rfl ext
theorem res_d (m : Mst) (p : BPlace) (found : Bool) : ∃ d0 d1 d2 d3 d4 d5 : D, m.res p found = [.d d0, .d d1, .d d2, .d d3, .d d4, .d d5] := by
 unfold Mst.res
 split
 ·exact ⟨_, _, _, _, _, _, rfl⟩
 ·split
  ·exact ⟨_, _, _, _, _, _, rfl⟩
  ·exact ⟨_, _, _, _, _, _, rfl⟩
def fillL (n i : Nat) : CapsL := List.replicate i (-1, -1) ++ List.replicate (n - i) (0, 0)
theorem fill_zero (n : Nat) : (fillL n 0).map capV = List.replicate n [V.d (D.sc (.int .i64 0)), V.d (D.sc (.int .i64 0))] := by
 unfold fillL
 simp only [List.replicate_zero, List.nil_append, Nat.sub_zero, List.map_replicate]
 rfl
theorem fill_set (n i : Nat) (h : i < n) : ((fillL n i).map capV).set i [V.d (D.sc (.int .i64 (-1))), V.d (D.sc (.int .i64 (-1)))] = (fillL n (i + 1)).map capV := by
 have : (fillL n i).set i (-1, -1) = fillL n (i + 1) := by
  unfold fillL
  rw [List.set_append_right _ _ (by simp), List.length_replicate, Nat.sub_self, show n - i = (n - (i + 1)) + 1 by omega, List.replicate_succ, List.set_cons_zero, List.replicate_succ', List.append_assoc]
  rfl
 rw [← this, List.map_set]; rfl
theorem fill_get (n i : Nat) (h : i < n) : ((fillL n i).map capV)[i]? = some [V.d (D.sc (.int .i64 0)), V.d (D.sc (.int .i64 0))] := by
 unfold fillL
 rw [List.getElem?_map, List.getElem?_append_right (by simp), List.length_replicate, Nat.sub_self, show n - i = (n - (i + 1)) + 1 by omega, List.replicate_succ]
 rfl
theorem fill_full (n : Nat) : fillL n n = List.replicate n (-1, -1) := by simp [fillL]
theorem fill_len (n i : Nat) (h : i ≤ n) : (fillL n i).length = n := by simp [fillL]; omega
theorem mrun_ok (g b a : Nat) (m : Mst) (T : V) (hT : refsV 3 T = true) (hT2 : renV [0, 1, 2] T = T) (htop : m.top ≤ m.stk.length) (t : List Int) (at_ fuel : Int) (ht : t.length ≤ 1000000) (hI : ∀ x ∈ t, I64 x) (hc : checkR m.p.runes t at_ fuel = 0) (n : Nat) (hcaps : m.p.caps = n) (hn : n ≤ 1000000)
  {k : Nat} {m2 : Mst} {p2 : BPlace} {found : Bool} (hx : srchB k true (m.set_ t at_ fuel) 0 (runPlace m at_) true = some (m2, p2, found)) (hp2 : p2.caps.length ≤ 1000000000) :
  callWp prog 15 [.pp 0 g 0 0 b a, .d (intsD t), i64 at_, i64 fuel] (m.objsT g b a T) fun v s =>
   v = outV (m2.res p2 found) ∧ s = (m2.done found).kept.objsT g b a (m2.done found).keptT := by
 have hck := fun ext => call_msT (check_ok g b a m.rest T hT t at_ fuel (by omega) hI) hT hT2 hT hT2 rfl rfl rfl ext
 have hce : checkR m.rest.p.runes t at_ fuel = 0 := hc
 rw [hce] at hck
 unfold Mst.objsT at hck
 simp only [zM, rsV] at hck
 have hmin : min m.top m.stk.length = m.top := by omega
 have q1 : (0 : Int) ≤ (m.top : Int) := by omega
 have hmt := match_ok b a .root .nil
 simp only [BGoal.d, BRef.d, iD] at hmt
 have hsr := fun ext => call_ms (search_ok k g b a (m.set_ t at_ fuel) 0 (runPlace m at_) true _ hx) rfl rfl rfl ext
 have hfr : (m.set_ t at_ fuel).Fr m2 := fr_srch _ _ _ _ _ _ _ hx
 have hrp := fun ext => call_ms (report_ok g b a m2 p2 found hp2) rfl rfl (by obtain ⟨_, _, _, _, _, _, h⟩ := res_d m2 p2 found; rw [h]; rfl) ext
 have hkp := fun ext => call_msK (keep_ok g b a (m2.done found) (by rw [show (m2.done found).t = m2.t from rfl, hfr.t]; exact ht) (by rw [show (m2.done found).ownText = m2.ownText from rfl, hfr.ownText]; rfl)) ext
 obtain ⟨d0, d1, d2, d3, d4, d5, hres⟩ := res_d m2 p2 found
 rw [hres] at hrp ⊢
 have htk : (m2.done found).kept.objsT g b a (m2.done found).keptT = (m2.done found).kept.objsT g b a (m2.done found).keptT := rfl
 have hM := mobjsT_ok (m2.done found).kept b a (m2.done found).keptT (by unfold Mst.keptT; split <;> rfl)
 generalize hm4 : (m2.done found).kept = m4 at *
 generalize hT4 : (m2.done found).keptT = T4 at *
 generalize hm3 : m2.done found = m3 at *
 unfold Mst.objs at hsr
 rw [show (m.set_ t at_ fuel).text = .d (intsD t) from rfl] at hsr
 unfold Mst.objs Mst.objsT at hrp hkp
 unfold Mst.objsT at hsr
 simp only [zM, rsV, runPlace, hcaps, Int.toNat_natCast, BGoal.d, BRef.d, capD] at hsr hrp hkp
 have z0 : (0 : Int) ≤ (n : Int) := by omega
 have hfz : ∀ (lim : Nat) (s : List VL.Obj), (List.take n (List.map capV (fillL n n))).mapM (fun e => e.mapM (frzD 7 lim s)) = some ((List.replicate n ((-1 : Int), (-1 : Int))).map spanC) := by
  intro lim s
  rw [List.take_of_length_le (by rw [List.length_map, fill_len n n (Nat.le_refl _)]; exact Nat.le_refl _), frz_capV 6 lim s, fill_full]
 unfold Mst.objsT
 refine fn_ok func15 rfl ntmps15 results15 rfl 3 6917529027641147151 (by simp) (by simp) ?_
 try simp only [zX, simprocAttr, zM, rsV, htop, hmin, q1, List.length_take, List.length_map, Int.le_refl, Int.sub_self, Int.toNat_zero, Nat.zero_add, true_or]
 refine callWp_mono (hck _) (fun v s' hv => ?_); obtain ⟨rfl, rfl⟩ := hv
 have hcaps' : m.rest.p.caps = n := hcaps
 try simp only [zX, simprocAttr, zM, rsV, hcaps', z0, Int.toNat_natCast]
 refine ⟨⟨Int.le_refl _, by (try simp); omega, by omega⟩, ?_⟩
 refine loop_rule (fun q e s => ∃ i : Nat, q = n - i ∧ i ≤ n ∧ e 0 = .pp 0 g 0 0 b a ∧ e 2 = i64 at_ ∧ e 8 = .rf 3 0 0 0 ∧ e 13 = .so 4 0 0 n ∧ e 61 = i64 n ∧ e 62 = i64 i ∧ s = (m.set_ t at_ fuel).objsT g b a (.d (intsD t)) ++ [⟨0, true, 3, [[.d (iD 0), .d (iD 0), .fu []]]⟩, ⟨0, true, 2, (fillL n i).map capV⟩])
  ⟨_, _, _, Cln.refl, 0, rfl, by omega, rfl, rfl, rfl, rfl, rfl, rfl, ?_⟩ ?_
 ·rw [fill_zero]
  unfold Mst.objsT
  rw [show (m.set_ t at_ fuel).p.caps = n from hcaps]
  rfl
 rintro q e s ⟨i, rfl, hi, h0, h2, h8, h13, h61, h62, rfl⟩
 unfold Mst.objsT
 rcases Nat.lt_or_ge i n with hlt | hge
 ·have l0 : (0 : Int) ≤ (i : Int) := by omega
  have l1 : (i : Int) < (n : Int) := by omega
  have hg := fill_get n i hlt
  have hst := fill_set n i hlt
  try simp only [zX, simprocAttr, zM, rsV, h0, h2, h8, h13, h61, h62, l0, l1, Int.toNat_natCast, Nat.zero_add, hg, hst]
  refine ⟨n - (i + 1), _, _, by omega, Cln.refl, i + 1, rfl, hlt, ?_, ?_, ?_, ?_, ?_, ?_, rfl⟩ <;> (try simp only [zU, Nat.reduceBEq, Nat.reduceShiftRight, Nat.reduceMod, Nat.reduceEqDiff, reduceIte])
  ·exact h0
  ·exact h2
  ·exact h8
  ·exact h13
  ·exact h61
  ·rw [w64 _ (by omega)]; rfl
 ·have hie : i = n := by omega
  subst hie
  try simp only [zX, simprocAttr, zM, rsV, h0, h2, h8, h13, h61, h62, Int.lt_irrefl]
  refine call_raw ?_
  simp only [List.map_cons, List.map_nil, rawV, Nat.add_zero]
  refine call_pure hmt rfl rfl ?_
  try simp only [zX, simprocAttr, zM, rsV, h0, h2, h8, h13, h61, h62]
  refine call_give [4] (by simp [killO, kill1, frzV.go, frzV, frzD, iD, hfz, fill_len i i (Nat.le_refl _)]) (callWp_mono (hsr _) (fun v s' hv => ?_))
  obtain ⟨rfl, rfl⟩ := hv
  try simp only [zX, simprocAttr, zM, rsV, h0, h2, h8, h13, h61, h62]
  refine callWp_mono (hrp _) (fun v s' hv => ?_); obtain ⟨rfl, rfl⟩ := hv
  try simp only [zX, simprocAttr, zM, rsV, h0, h2, h8, h13, h61, h62]
  refine callWp_mono (hkp _) (fun v s' hv => ?_); obtain ⟨rfl, rfl⟩ := hv
  try simp only [zX, simprocAttr, zM, rsV, h0, h2, h8, h13, h61, h62]
  refine draw_c mix [] [(0,[5],[]),(1,[5],[]),(2,[5],[]),(3,[5],[]),(4,[5],[]),(5,[5],[]),(6,[5],[]),(7,[5],[]),(8,[3],[3])] (by rfl) ?_
  try simp only [zX, simprocAttr, zM, rsV, h0, h2, h8, h13, h61, h62, outV]
  exact hM
theorem call_told {P : Program} {f : FuncId} {args : List V} {s : List VL.Obj} {o : VL.Obj} {pre post : List V} (k : Nat) {K : V → List VL.Obj → Prop} (ho : s[k]? = some o) (hels : o.els = [pre ++ .fu [] :: post]) (hsz : pre.length + 1 + post.length = o.sz)
  (h : callWp P f args (s.set k { o with els := [pre ++ .d (.sl []) :: post] }) K) : callWp P f args s K := by
 refine ⟨h.1, fun σ w vals hI hl hv => ?_⟩
 have hr := recell hI (els' := [pre ++ .d (.sl []) :: post]) ho (by intro e he; rw [List.mem_singleton.1 he]; simp; omega) (by rw [hels]; rfl) (by
  intro es he
  rw [hels] at he
  have hm : (pre ++ .fu [] :: post) ∈ mapEls es := by rw [← he]; exact List.mem_singleton.2 rfl
  unfold mapEls at hm
  obtain ⟨x, _, hx⟩ := List.mem_map.1 hm
  have hf : V.fu [] ∈ [V.d (.sc x.key), V.d (.sc x.val)] := by rw [hx]; simp
  simp at hf) (fun i j x' hx => by
  rw [hels]
  cases i with
  | succ i => simp at hx
  | zero =>
   simp only [List.getElem?_cons_zero, Option.bind_some] at hx ⊢
   by_cases hj : j = pre.length
   ·subst hj
    rw [List.getElem?_append_right (Nat.le_refl _), Nat.sub_self] at hx ⊢
    simp only [List.getElem?_cons_zero, Option.some.injEq] at hx ⊢
    subst hx
    refine ⟨_, rfl, fun u hu => ?_⟩
    cases hu with | fu hx => ?_
    exact .d hx
   ·refine ⟨x', ?_, fun u hu => hu⟩
    rcases Nat.lt_or_ge j pre.length with hlt | hge
    ·rw [List.getElem?_append_left hlt] at hx ⊢; exact hx
    ·rw [List.getElem?_append_right hge] at hx ⊢
     cases hm : j - pre.length with
     | zero => omega
     | succ m => rw [hm] at hx; simpa using hx)
 exact (h.2 _ w vals hr.2 (by simpa using hl) (fun i x hx => (hv i x hx).evolve hr.1)).mono fun _ _ ⟨u, v, σ', s', a, b, c, d, e⟩ => ⟨u, v, σ', s', a, hr.1.trans b, c, d, e⟩
theorem call_tfu {P : Program} {f : FuncId} {args : List V} {g b a : Nat} {m : Mst} {ext : List VL.Obj} {K : V → List VL.Obj → Prop} (h : callWp P f args (m.objsT g b a (.d (.sl [])) ++ ext) K) : callWp P f args (m.objsT g b a (.fu []) ++ ext) K := by
 refine call_told (o := ⟨g, true, 19, [[.d (iD m.p.re.op), .d (.sl (m.p.re.set.map spanC)), .d (.sl (m.p.re.kids.map Re.cells)), .d (iD m.p.re.mn), .d (iD m.p.re.mx), .d (iD m.p.re.mode), .d (iD m.p.re.n), .d (bD m.p.re.neg), i64 m.p.caps, bV m.p.runes, .fu [], .so 2 m.ogen 0 m.own.length, .so 1 m.gen 0 m.top, i64 m.deepest, i64 m.start, i64 m.steps, i64 m.fuel, bV m.spent, bV m.ready]]⟩)
  (pre := [.d (iD m.p.re.op), .d (.sl (m.p.re.set.map spanC)), .d (.sl (m.p.re.kids.map Re.cells)), .d (iD m.p.re.mn), .d (iD m.p.re.mx), .d (iD m.p.re.mode), .d (iD m.p.re.n), .d (bD m.p.re.neg), i64 m.p.caps, bV m.p.runes])
  (post := [.so 2 m.ogen 0 m.own.length, .so 1 m.gen 0 m.top, i64 m.deepest, i64 m.start, i64 m.steps, i64 m.fuel, bV m.spent, bV m.ready]) 0 rfl rfl rfl ?_
 exact h
theorem mnext_ok (g b a : Nat) (m : Mst) (hr : m.ready = true) {k : Nat} {m2 : Mst} {p2 : BPlace} {found : Bool} (hx : srchB k true m 0 .zero false = some (m2, p2, found)) (hp2 : p2.caps.length ≤ 1000000000) :
  callWp prog 19 [.pp 0 g 0 0 b a] (m.objs g b a) fun v s => v = outV (m2.res p2 found) ∧ s = (m2.done found).objs g b a := by
 have hsr := fun ext => call_ms (search_ok k g b a m 0 .zero false _ hx) rfl rfl rfl ext
 have hrp := fun ext => call_ms (report_ok g b a m2 p2 found hp2) rfl rfl (by obtain ⟨_, _, _, _, _, _, h⟩ := res_d m2 p2 found; rw [h]; rfl) ext
 obtain ⟨d0, d1, d2, d3, d4, d5, hres⟩ := res_d m2 p2 found
 rw [hres] at hrp ⊢
 have hM := mobjs_ok (m2.done found) b a
 generalize hm3 : m2.done found = m3 at *
 unfold Mst.objs Mst.objsT at hrp hsr
 simp only [zM, rsV, BPlace.zero, hr, capD, BGoal.d] at hrp hsr
 unfold Mst.objs Mst.objsT
 refine fn_ok func19 rfl ntmps19 results19 rfl 3 125 (by simp) (by simp) ?_
 try simp only [zX, simprocAttr, zM, rsV, hr]
 refine call_give [] (by simp [killO, kill1, frzV.go, frzV, frzD]) (callWp_mono (hsr _) (fun v s' hv => ?_))
 obtain ⟨rfl, rfl⟩ := hv
 try simp only [zX, simprocAttr, zM, rsV]
 refine callWp_mono (hrp _) (fun v s' hv => ?_); obtain ⟨rfl, rfl⟩ := hv
 try simp only [zX, simprocAttr, zM, rsV]
 refine draw_c mix [] [(0,[4],[]),(1,[4],[]),(2,[4],[]),(3,[4],[]),(4,[4],[]),(5,[4],[]),(6,[4],[]),(7,[4],[]),(8,[3],[3])] (by rfl) ?_
 try simp only [zX, simprocAttr, zM, rsV, outV]
 first | exact ⟨hM, rfl⟩ | exact hM
end Go.Proofs.Ytilapneoohcplaa
