/- A part of the proof (K45 K46 K47). -/
import Derived.Test.YtdofoappodmcoaaKS17
import Derived.Test.YtdofoappodmcoaaKS47
import Derived.Test.YtdofoappodmcoaaKS40
import Derived.Test.YtdofoappodmcoaaKS53
set_option linter.unusedSimpArgs false
set_option linter.unusedVariables false
set_option maxRecDepth 100000
set_option maxHeartbeats 80000000
namespace Go.Proofs.Ytdofoappodmcoaa
open Go.VL Go.Proofs.Try
def rlO (g : Prg) (i : Nat) : VL.Obj := ⟨0,true,3,[[.so 3 i 0 i,i64 g.caps,bV g.runes]]⟩
def rlA (g : Prg) (i : Nat) : VL.Obj := ⟨i,true,5,(g.ins.take i).map fun x=>x.cells.map V.d⟩
def rlZ : VL.Obj := ⟨0,true,3,[[.fu [],i64 0,bV false]]⟩
theorem rlA_ok (n : Nat) (g : Prg) (i : Nat) : objOk n (rlA g i)=true := by
 unfold objOk rlA
 rw [List.all_eq_true]
 intro e he
 obtain ⟨c,hc,rfl⟩ := List.mem_map.1 he
 rfl
theorem real_ok (g : Prg) (hs : g.ins.length≤1000000) : PureOK prog 12 [prgV g] (prgV g) := by
 refine fn_ok func12 rfl ntmps12 results12 rfl 0 63 (by simp) (by simp) ?_
 simp only [zX,simprocAttr,i64,bV,iD,bD,prgV_eq]
 refine loop_rule (fun n e s=>∃ i : Nat,n=g.ins.length - i∧i≤g.ins.length∧e 1=.rf 0 0 0 0∧e 2=.rf 1 0 0 0∧e 3=.rf 2 0 0 0∧e 4=i64 i∧s=[boxP g,rlZ,rlO g i,rlA g i])
  ⟨_,_,_,.of0 (reserveCell (pre := []) (post := [.d (.sc (.int .i64 g.caps)),.d (.sc (.bool g.runes))]) 2 5 rfl rfl rfl),0,rfl,by omega,rfl,rfl,rfl,rfl,by simp [boxP,rlZ,rlO,rlA,i64,bV]⟩ ?_
 rintro n e s ⟨i,rfl,hi,h1,h2,h3,h4,rfl⟩
 rcases Nat.lt_or_ge i g.ins.length with hlt | hge
 ·obtain ⟨x,hx⟩ : ∃ x,g.ins[i]?=some x := ⟨_,List.getElem?_eq_getElem hlt⟩
  have hlt' : (i : Int) < g.ins.length := by omega
  simp only [zX,simprocAttr,i64,bV,iD,bD,boxP,rlO,rlA,h1,h2,h3,h4,hlt',hx,Ins.cells,List.length_map]
  refine ⟨fun e he=>by rw [List.mem_singleton.1 he]; rfl,⟨by simp; omega,by omega⟩,g.ins.length - (i + 1),_,_,by omega,Cln.cut (s' := [boxP g,rlZ,rlO g (i + 1),rlA g (i + 1)]) 4 (by omega) ?_ ?_ [1,2,3,4] ?_,i + 1,rfl,hlt,?_,?_,?_,?_,?_⟩ <;> (try simp only [zU,Nat.reduceBEq,Nat.reduceShiftRight,Nat.reduceMod,Nat.reduceEqDiff,reduceIte])
  ·simp only [List.take_succ_cons,List.take_zero]
   have hll : ((g.ins.take i).map fun x=>x.cells.map V.d).length=i := by simp; omega
   simp only [boxP,rlO,rlA,i64,bV,take_get hx,List.map_append,List.cons.injEq,and_true,true_and]
   simp [Ins.cells,iD,List.take_take]
  ·simp only [List.all_cons,List.all_nil,rlA_ok,Bool.and_true]
   simp [boxP,rlZ,rlO,objOk,refsV,i64,bV]
  ·simp [updE,trimE_app,refsV,h1,h2,h3,i64]
  ·exact h1
  ·exact h2
  ·exact h3
  ·rw [w64 _ (by omega)]; rfl
  ·rfl
 ·have hie : i=g.ins.length := by omega
  subst hie
  have hlt' : ¬ (g.ins.length : Int) < g.ins.length := by omega
  have htk : g.ins.take g.ins.length=g.ins := List.take_length
  have e3 : (g.ins.map fun x=>x.cells.map V.d)=((g.ins.map Ins.cells).map fun c=>c.map V.d) := by simp
  simp only [zX,simprocAttr,i64,bV,iD,bD,boxP,rlO,rlA,rlZ,h1,h2,h3,h4,hlt',htk,e3,List.length_map]
  rw [frz_data 7 0 _ _ _ (by simp),if_pos (by simp)]
  rfl
def SpOK (g : Prg) (a b c : Int) : Prop := ∃ g' : Prg,PureOK prog 33 [prgV g,i64 a,i64 b,i64 c] (prgV g')∧(∀ n,g.small n→g'.small (n + 1))
theorem ins_len5 (l : List Ins) : ∀ e ∈ List.map (fun x=>List.map V.d x) (List.map Ins.cells l),e.length=5 := by
 intro e he
 obtain ⟨x,hx,rfl⟩ := List.mem_map.1 he
 obtain ⟨y,_,rfl⟩ := List.mem_map.1 hx
 rfl
theorem span_len2 (l : List (Int × Int)) : ∀ e ∈ List.map (fun x=>List.map V.d x) (List.map spanC l),e.length=2 := by
 intro e he
 obtain ⟨x,hx,rfl⟩ := List.mem_map.1 he
 obtain ⟨y,_,rfl⟩ := List.mem_map.1 hx
 rfl
theorem small_set {g : Prg} {n : Nat} {i : Nat} {x : Ins} {cp : Int} {r : Bool} (h : g.small n) (hx : x.set.length≤n + 1) : (⟨g.ins.set i x,cp,r⟩ : Prg).small (n + 1) := by
 refine ⟨by have := h.len; simp; omega,fun y hy=>?_⟩
 rcases List.mem_or_eq_of_mem_set hy with hy | rfl
 ·have := h.sets y hy; omega
 ·exact hx
theorem frz_set (n lim : Nat) (s : List VL.Obj) (x : List V) (c' : List D) (hx : x.mapM (frzD n lim s)=some c') : ∀ (ds : List (List D)) (i : Nat),((ds.map fun c=>c.map V.d).set i x).mapM (fun (e : List V)=>e.mapM (frzD n lim s))=some (ds.set i c')
 | [],i=>by simp
 | d :: ds,0=>by
  rw [List.map_cons,List.set_cons_zero,List.mapM_cons,hx,mapM_frzE]; rfl
 | d :: ds,i + 1=>by
  have hd : (d.map V.d).mapM (frzD n lim s)=some d := by
   have := mapM_frzE (n := n) (lim := lim) (s := s) [d]
   rw [List.map_cons,List.map_nil,List.mapM_cons] at this
   cases hq : (d.map V.d).mapM (frzD n lim s) with
   | none=>rw [hq] at this; cases this
   | some y=>rw [hq] at this; simp at this; rw [this]
  rw [List.map_cons,List.set_cons_succ,List.mapM_cons,frz_set n lim s x c' hx ds i,hd]; rfl
theorem idx_lit' (l : List Int) (n : Int) (h0 : 0≤n) (h1 : n < l.length) : ∃ v,(l.map fun x=>[V.d (iD x)])[n.toNat]?=some [V.d (iD v)]∧(l.map fun x=>[iD x])[n.toNat]?=some [iD v] := by
 have hlt : n.toNat < l.length := by omega
 exact ⟨l[n.toNat],by rw [List.getElem?_map,List.getElem?_eq_getElem hlt]; rfl,by rw [List.getElem?_map,List.getElem?_eq_getElem hlt]; rfl⟩
theorem spoilt10_0 (g : Prg) (hs : g.ins.length≤1000000) (hset : ∀ x ∈ g.ins,x.set.length≤1000000) (h0 : g.ins.length ≠ 0) (a b c : Int) (ha : I64 a) (hb : I64 b) (hc : I64 c) (hk : around b 8=0) : SpOK g a b c := by
 have hz : ¬ (g.ins.length : Int)=0 := by omega
 have har := around_ok a g.ins.length (by omega) ha
 obtain ⟨ha0,ha1⟩ := around_in a g.ins.length (by omega) ha
 have har2 := around_ok b 8 (by omega) hb
 rw [hk] at har2
 obtain ⟨x,hx⟩ : ∃ x,g.ins[(around a g.ins.length).toNat]?=some x := ⟨_,List.getElem?_eq_getElem (by omega)⟩
 have hxs := hset x (List.mem_of_getElem? hx)
 have hcut : ((List.map (fun x=>List.map V.d x) (List.map Ins.cells g.ins)).drop 0).take g.ins.length=List.map (fun x=>List.map V.d x) (List.map Ins.cells g.ins) := by rw [List.drop_zero,List.take_of_length_le (by simp)]
 have htk : (List.map (fun x=>List.map V.d x) (List.map Ins.cells g.ins)).take g.ins.length=List.map (fun x=>List.map V.d x) (List.map Ins.cells g.ins) := List.take_of_length_le (by simp)
 generalize around a g.ins.length=ia at *
 simp only [i64] at har har2
 have hin := around_in c 5 (by omega) hc
 have hy := around_ok c 5 (by omega) hc
 obtain ⟨v,hv1,hv2⟩ := idx_lit' [c,-1,6,1,4] (around c 5) hin.1 (by simp; omega)
 obtain ⟨hi0,hi1⟩ := hin
 generalize around c 5=ic at *
 simp only [List.map_cons,List.map_nil,iD] at hv1 hv2
 simp only [i64] at hy
 refine ⟨⟨g.ins.set ia.toNat ⟨v,x.x,x.y,x.n,x.set⟩,g.caps,g.runes⟩,?_,fun n h=>small_set h (by have := h.sets x (List.mem_of_getElem? hx); simp; omega)⟩
 refine fn_ok func33 rfl ntmps33 results33 rfl 0 67110687 (by simp) (by simp) ?_
 simp only [zX,simprocAttr,i64,bV,iD,bD,prgV_eq,hz,hcut,htk,List.length_map,Nat.zero_add]
 refine ⟨ins_len5 _,⟨by omega,by simp⟩,?_⟩
 refine call_pure har rfl rfl ?_
 simp only [zX,simprocAttr,i64,bV,iD,bD,prgV_eq,hz,hcut,htk,List.length_map,Nat.zero_add]
 refine call_pure har2 rfl rfl ?_
 simp only [zX,simprocAttr,i64,bV,iD,bD,prgV_eq,hz,hcut,htk,List.length_map,Nat.zero_add]
 refine call_pure hy rfl rfl ?_
 simp only [zX,simprocAttr,i64,bV,iD,bD,prgV_eq,hz,hcut,htk,List.length_map,Nat.zero_add,ha0,ha1,hi0,hi1,hv1,hv2,hx,Ins.cells]
 try refine ⟨by omega,?_⟩
 have hE : (List.map (fun x=>List.map V.d x) (List.map Ins.cells g.ins)).set ia.toNat ((Ins.cells ⟨v,x.x,x.y,x.n,x.set⟩).map V.d)=List.map (fun x=>List.map V.d x) (List.map Ins.cells (g.ins.set ia.toNat ⟨v,x.x,x.y,x.n,x.set⟩)) := by rw [List.map_set,List.map_set]
 simp only [Ins.cells,iD,List.map_cons,List.map_nil] at hE
 have hlen : (g.ins.set ia.toNat ⟨v,x.x,x.y,x.n,x.set⟩).length=g.ins.length := by simp
 rw [hE,← hlen,frz_data 7 0 _ _ _ (by simp),if_pos (by simp)]
 rfl
theorem spoilt10_1 (g : Prg) (hs : g.ins.length≤1000000) (hset : ∀ x ∈ g.ins,x.set.length≤1000000) (h0 : g.ins.length ≠ 0) (a b c : Int) (ha : I64 a) (hb : I64 b) (hc : I64 c) (hk : around b 8=1) : SpOK g a b c := by
 have hz : ¬ (g.ins.length : Int)=0 := by omega
 have har := around_ok a g.ins.length (by omega) ha
 obtain ⟨ha0,ha1⟩ := around_in a g.ins.length (by omega) ha
 have har2 := around_ok b 8 (by omega) hb
 rw [hk] at har2
 obtain ⟨x,hx⟩ : ∃ x,g.ins[(around a g.ins.length).toNat]?=some x := ⟨_,List.getElem?_eq_getElem (by omega)⟩
 have hxs := hset x (List.mem_of_getElem? hx)
 have hcut : ((List.map (fun x=>List.map V.d x) (List.map Ins.cells g.ins)).drop 0).take g.ins.length=List.map (fun x=>List.map V.d x) (List.map Ins.cells g.ins) := by rw [List.drop_zero,List.take_of_length_le (by simp)]
 have htk : (List.map (fun x=>List.map V.d x) (List.map Ins.cells g.ins)).take g.ins.length=List.map (fun x=>List.map V.d x) (List.map Ins.cells g.ins) := List.take_of_length_le (by simp)
 generalize around a g.ins.length=ia at *
 simp only [i64] at har har2
 have hin := around_in c 4 (by omega) hc
 have hy := around_ok c 4 (by omega) hc
 obtain ⟨v,hv1,hv2⟩ := idx_lit' [c,-1,(g.ins.length : Int),(g.ins.length : Int) - 1] (around c 4) hin.1 (by simp; omega)
 obtain ⟨hi0,hi1⟩ := hin
 generalize around c 4=ic at *
 simp only [List.map_cons,List.map_nil,iD] at hv1 hv2
 simp only [i64] at hy
 refine ⟨⟨g.ins.set ia.toNat ⟨x.op,v,x.y,x.n,x.set⟩,g.caps,g.runes⟩,?_,fun n h=>small_set h (by have := h.sets x (List.mem_of_getElem? hx); simp; omega)⟩
 refine fn_ok func33 rfl ntmps33 results33 rfl 0 67110687 (by simp) (by simp) ?_
 simp only [zX,simprocAttr,i64,bV,iD,bD,prgV_eq,hz,hcut,htk,List.length_map,Nat.zero_add]
 refine ⟨ins_len5 _,⟨by omega,by simp⟩,?_⟩
 refine call_pure har rfl rfl ?_
 simp only [zX,simprocAttr,i64,bV,iD,bD,prgV_eq,hz,hcut,htk,List.length_map,Nat.zero_add]
 refine call_pure har2 rfl rfl ?_
 simp only [zX,simprocAttr,i64,bV,iD,bD,prgV_eq,hz,hcut,htk,List.length_map,Nat.zero_add]
 have w1 : IntKind.i64.wrap ((g.ins.length : Int) - 1)=(g.ins.length : Int) - 1 := w64 _ (by omega)
 refine call_pure hy rfl rfl ?_
 simp only [zX,simprocAttr,i64,bV,iD,bD,prgV_eq,hz,hcut,htk,List.length_map,Nat.zero_add,ha0,ha1,hi0,hi1,hv1,hv2,hx,Ins.cells,w1]
 try refine ⟨by omega,?_⟩
 have hE : (List.map (fun x=>List.map V.d x) (List.map Ins.cells g.ins)).set ia.toNat ((Ins.cells ⟨x.op,v,x.y,x.n,x.set⟩).map V.d)=List.map (fun x=>List.map V.d x) (List.map Ins.cells (g.ins.set ia.toNat ⟨x.op,v,x.y,x.n,x.set⟩)) := by rw [List.map_set,List.map_set]
 simp only [Ins.cells,iD,List.map_cons,List.map_nil] at hE
 have hlen : (g.ins.set ia.toNat ⟨x.op,v,x.y,x.n,x.set⟩).length=g.ins.length := by simp
 rw [hE,← hlen,frz_data 7 0 _ _ _ (by simp),if_pos (by simp)]
 rfl
theorem spoilt10_2 (g : Prg) (hs : g.ins.length≤1000000) (hset : ∀ x ∈ g.ins,x.set.length≤1000000) (h0 : g.ins.length ≠ 0) (a b c : Int) (ha : I64 a) (hb : I64 b) (hc : I64 c) (hk : around b 8=2) : SpOK g a b c := by
 have hz : ¬ (g.ins.length : Int)=0 := by omega
 have har := around_ok a g.ins.length (by omega) ha
 obtain ⟨ha0,ha1⟩ := around_in a g.ins.length (by omega) ha
 have har2 := around_ok b 8 (by omega) hb
 rw [hk] at har2
 obtain ⟨x,hx⟩ : ∃ x,g.ins[(around a g.ins.length).toNat]?=some x := ⟨_,List.getElem?_eq_getElem (by omega)⟩
 have hxs := hset x (List.mem_of_getElem? hx)
 have hcut : ((List.map (fun x=>List.map V.d x) (List.map Ins.cells g.ins)).drop 0).take g.ins.length=List.map (fun x=>List.map V.d x) (List.map Ins.cells g.ins) := by rw [List.drop_zero,List.take_of_length_le (by simp)]
 have htk : (List.map (fun x=>List.map V.d x) (List.map Ins.cells g.ins)).take g.ins.length=List.map (fun x=>List.map V.d x) (List.map Ins.cells g.ins) := List.take_of_length_le (by simp)
 generalize around a g.ins.length=ia at *
 simp only [i64] at har har2
 have hin := around_in c 4 (by omega) hc
 have hy := around_ok c 4 (by omega) hc
 obtain ⟨v,hv1,hv2⟩ := idx_lit' [c,-1,(g.ins.length : Int),0] (around c 4) hin.1 (by simp; omega)
 obtain ⟨hi0,hi1⟩ := hin
 generalize around c 4=ic at *
 simp only [List.map_cons,List.map_nil,iD] at hv1 hv2
 simp only [i64] at hy
 refine ⟨⟨g.ins.set ia.toNat ⟨x.op,x.x,v,x.n,x.set⟩,g.caps,g.runes⟩,?_,fun n h=>small_set h (by have := h.sets x (List.mem_of_getElem? hx); simp; omega)⟩
 refine fn_ok func33 rfl ntmps33 results33 rfl 0 67110687 (by simp) (by simp) ?_
 simp only [zX,simprocAttr,i64,bV,iD,bD,prgV_eq,hz,hcut,htk,List.length_map,Nat.zero_add]
 refine ⟨ins_len5 _,⟨by omega,by simp⟩,?_⟩
 refine call_pure har rfl rfl ?_
 simp only [zX,simprocAttr,i64,bV,iD,bD,prgV_eq,hz,hcut,htk,List.length_map,Nat.zero_add]
 refine call_pure har2 rfl rfl ?_
 simp only [zX,simprocAttr,i64,bV,iD,bD,prgV_eq,hz,hcut,htk,List.length_map,Nat.zero_add]
 refine call_pure hy rfl rfl ?_
 simp only [zX,simprocAttr,i64,bV,iD,bD,prgV_eq,hz,hcut,htk,List.length_map,Nat.zero_add,ha0,ha1,hi0,hi1,hv1,hv2,hx,Ins.cells]
 try refine ⟨by omega,?_⟩
 have hE : (List.map (fun x=>List.map V.d x) (List.map Ins.cells g.ins)).set ia.toNat ((Ins.cells ⟨x.op,x.x,v,x.n,x.set⟩).map V.d)=List.map (fun x=>List.map V.d x) (List.map Ins.cells (g.ins.set ia.toNat ⟨x.op,x.x,v,x.n,x.set⟩)) := by rw [List.map_set,List.map_set]
 simp only [Ins.cells,iD,List.map_cons,List.map_nil] at hE
 have hlen : (g.ins.set ia.toNat ⟨x.op,x.x,v,x.n,x.set⟩).length=g.ins.length := by simp
 rw [hE,← hlen,frz_data 7 0 _ _ _ (by simp),if_pos (by simp)]
 rfl
theorem spoilt10_3 (g : Prg) (hs : g.ins.length≤1000000) (hset : ∀ x ∈ g.ins,x.set.length≤1000000) (h0 : g.ins.length ≠ 0) (a b c : Int) (ha : I64 a) (hb : I64 b) (hc : I64 c) (hk : around b 8=3) : SpOK g a b c := by
 have hz : ¬ (g.ins.length : Int)=0 := by omega
 have har := around_ok a g.ins.length (by omega) ha
 obtain ⟨ha0,ha1⟩ := around_in a g.ins.length (by omega) ha
 have har2 := around_ok b 8 (by omega) hb
 rw [hk] at har2
 obtain ⟨x,hx⟩ : ∃ x,g.ins[(around a g.ins.length).toNat]?=some x := ⟨_,List.getElem?_eq_getElem (by omega)⟩
 have hxs := hset x (List.mem_of_getElem? hx)
 have hcut : ((List.map (fun x=>List.map V.d x) (List.map Ins.cells g.ins)).drop 0).take g.ins.length=List.map (fun x=>List.map V.d x) (List.map Ins.cells g.ins) := by rw [List.drop_zero,List.take_of_length_le (by simp)]
 have htk : (List.map (fun x=>List.map V.d x) (List.map Ins.cells g.ins)).take g.ins.length=List.map (fun x=>List.map V.d x) (List.map Ins.cells g.ins) := List.take_of_length_le (by simp)
 generalize around a g.ins.length=ia at *
 simp only [i64] at har har2
 have hin := around_in c 5 (by omega) hc
 have hy := around_ok c 5 (by omega) hc
 obtain ⟨v,hv1,hv2⟩ := idx_lit' [c,-1,5,6,IntKind.i64.wrap (2 * g.caps)] (around c 5) hin.1 (by simp; omega)
 obtain ⟨hi0,hi1⟩ := hin
 generalize around c 5=ic at *
 simp only [List.map_cons,List.map_nil,iD] at hv1 hv2
 simp only [i64] at hy
 refine ⟨⟨g.ins.set ia.toNat ⟨x.op,x.x,x.y,v,x.set⟩,g.caps,g.runes⟩,?_,fun n h=>small_set h (by have := h.sets x (List.mem_of_getElem? hx); simp; omega)⟩
 refine fn_ok func33 rfl ntmps33 results33 rfl 0 67110687 (by simp) (by simp) ?_
 simp only [zX,simprocAttr,i64,bV,iD,bD,prgV_eq,hz,hcut,htk,List.length_map,Nat.zero_add]
 refine ⟨ins_len5 _,⟨by omega,by simp⟩,?_⟩
 refine call_pure har rfl rfl ?_
 simp only [zX,simprocAttr,i64,bV,iD,bD,prgV_eq,hz,hcut,htk,List.length_map,Nat.zero_add]
 refine call_pure har2 rfl rfl ?_
 simp only [zX,simprocAttr,i64,bV,iD,bD,prgV_eq,hz,hcut,htk,List.length_map,Nat.zero_add]
 refine draw_c mix [] [(11,[2],[]),(12,[2],[]),(13,[2],[2])] (by rfl) ?_
 simp only [zX,simprocAttr,i64,bV,iD,bD,prgV_eq,hz,hcut,htk,List.length_map,Nat.zero_add]
 refine callC_pure hy rfl rfl ?_
 simp only [zX,simprocAttr,i64,bV,iD,bD,prgV_eq,hz,hcut,htk,List.length_map,Nat.zero_add,ha0,ha1,hi0,hi1,hv1,hv2,hx,Ins.cells]
 try refine ⟨by omega,?_⟩
 have hE : (List.map (fun x=>List.map V.d x) (List.map Ins.cells g.ins)).set ia.toNat ((Ins.cells ⟨x.op,x.x,x.y,v,x.set⟩).map V.d)=List.map (fun x=>List.map V.d x) (List.map Ins.cells (g.ins.set ia.toNat ⟨x.op,x.x,x.y,v,x.set⟩)) := by rw [List.map_set,List.map_set]
 simp only [Ins.cells,iD,List.map_cons,List.map_nil] at hE
 have hlen : (g.ins.set ia.toNat ⟨x.op,x.x,x.y,v,x.set⟩).length=g.ins.length := by simp
 rw [hE,← hlen,frz_data 7 0 _ _ _ (by simp),if_pos (by simp)]
 rfl
theorem spoilt10_4 (g : Prg) (hs : g.ins.length≤1000000) (hset : ∀ x ∈ g.ins,x.set.length≤1000000) (h0 : g.ins.length ≠ 0) (a b c : Int) (ha : I64 a) (hb : I64 b) (hc : I64 c) (hk : around b 8=4) : SpOK g a b c := by
 have hz : ¬ (g.ins.length : Int)=0 := by omega
 have har := around_ok a g.ins.length (by omega) ha
 obtain ⟨ha0,ha1⟩ := around_in a g.ins.length (by omega) ha
 have har2 := around_ok b 8 (by omega) hb
 rw [hk] at har2
 obtain ⟨x,hx⟩ : ∃ x,g.ins[(around a g.ins.length).toNat]?=some x := ⟨_,List.getElem?_eq_getElem (by omega)⟩
 have hxs := hset x (List.mem_of_getElem? hx)
 have hcut : ((List.map (fun x=>List.map V.d x) (List.map Ins.cells g.ins)).drop 0).take g.ins.length=List.map (fun x=>List.map V.d x) (List.map Ins.cells g.ins) := by rw [List.drop_zero,List.take_of_length_le (by simp)]
 have htk : (List.map (fun x=>List.map V.d x) (List.map Ins.cells g.ins)).take g.ins.length=List.map (fun x=>List.map V.d x) (List.map Ins.cells g.ins) := List.take_of_length_le (by simp)
 generalize around a g.ins.length=ia at *
 simp only [i64] at har har2
 have hin := around_in c 5 (by omega) hc
 have hy := around_ok c 5 (by omega) hc
 obtain ⟨v,hv1,hv2⟩ := idx_lit' [c,255,256,1114111,1114112] (around c 5) hin.1 (by simp; omega)
 obtain ⟨hi0,hi1⟩ := hin
 generalize around c 5=ic at *
 simp only [List.map_cons,List.map_nil,iD] at hv1 hv2
 simp only [i64] at hy
 refine ⟨⟨g.ins.set ia.toNat ⟨x.op,x.x,x.y,x.n,x.set ++ [(c,v)]⟩,g.caps,g.runes⟩,?_,fun n h=>small_set h (by have := h.sets x (List.mem_of_getElem? hx); simp; omega)⟩
 refine fn_ok func33 rfl ntmps33 results33 rfl 0 67110687 (by simp) (by simp) ?_
 simp only [zX,simprocAttr,i64,bV,iD,bD,prgV_eq,hz,hcut,htk,List.length_map,Nat.zero_add]
 refine ⟨ins_len5 _,⟨by omega,by simp⟩,?_⟩
 refine call_pure har rfl rfl ?_
 simp only [zX,simprocAttr,i64,bV,iD,bD,prgV_eq,hz,hcut,htk,List.length_map,Nat.zero_add]
 refine call_pure har2 rfl rfl ?_
 simp only [zX,simprocAttr,i64,bV,iD,bD,prgV_eq,hz,hcut,htk,List.length_map,Nat.zero_add]
 simp only [zX,simprocAttr,i64,bV,iD,bD,prgV_eq,hz,hcut,htk,List.length_map,Nat.zero_add,ha0,ha1,hx,Ins.cells]
 refine ⟨span_len2 _,⟨by omega,by simp⟩,?_⟩
 refine call_pure hy rfl rfl ?_
 simp only [zX,simprocAttr,i64,bV,iD,bD,prgV_eq,hz,hcut,htk,List.length_map,Nat.zero_add,ha0,ha1,hi0,hi1,hv1,hv2,hx,Ins.cells]
 first
  | refine ⟨by omega,fun e he=>by rw [List.mem_singleton.1 he]; rfl,⟨by omega,by omega⟩,?_⟩
  | refine ⟨fun e he=>by rw [List.mem_singleton.1 he]; rfl,⟨by omega,by omega⟩,?_⟩
 generalize hS : [({ g := 0,live := true,sz := 3,els := _ } : VL.Obj),_,_,_]=S
 have hE : List.mapM (frzD 7 0 S) [V.d (.sc (.int .i64 x.op)),V.d (.sc (.int .i64 x.x)),V.d (.sc (.int .i64 x.y)),V.d (.sc (.int .i64 x.n)),V.so 3 1 0 (x.set.length + 1)]=some (Ins.cells ⟨x.op,x.x,x.y,x.n,x.set ++ [(c,v)]⟩) := by
  have h3 : frzD 7 0 S (.so 3 1 0 (x.set.length + 1))=some (.sl ((x.set ++ [(c,v)]).map spanC)) := by
   have hg : S[3]?=some ⟨1,true,2,((x.set ++ [(c,v)]).map spanC).map fun c=>c.map V.d⟩ := by
    rw [← hS,List.take_of_length_le (by simp)]; simp [spanC,iD]
   simp only [frzD,hg]
   rw [if_pos (by simp),List.drop_zero,frz_data 6 0 S _ _ (by simp)]
   rfl
  simp only [List.mapM_cons,List.mapM_nil,h3]
  rfl
 rw [List.take_of_length_le (by simp),frz_set 7 0 S _ _ hE,if_pos (by simp)]
 have hm : (List.map Ins.cells g.ins).set ia.toNat (Ins.cells ⟨x.op,x.x,x.y,x.n,x.set ++ [(c,v)]⟩)=List.map Ins.cells (g.ins.set ia.toNat ⟨x.op,x.x,x.y,x.n,x.set ++ [(c,v)]⟩) := by rw [List.map_set]
 rw [hm]
 rfl
theorem spoilt10_5 (g : Prg) (hs : g.ins.length≤1000000) (hset : ∀ x ∈ g.ins,x.set.length≤1000000) (h0 : g.ins.length ≠ 0) (a b c : Int) (ha : I64 a) (hb : I64 b) (hc : I64 c) (hk : around b 8=5) : SpOK g a b c := by
 have hz : ¬ (g.ins.length : Int)=0 := by omega
 have har := around_ok a g.ins.length (by omega) ha
 obtain ⟨ha0,ha1⟩ := around_in a g.ins.length (by omega) ha
 have har2 := around_ok b 8 (by omega) hb
 rw [hk] at har2
 obtain ⟨x,hx⟩ : ∃ x,g.ins[(around a g.ins.length).toNat]?=some x := ⟨_,List.getElem?_eq_getElem (by omega)⟩
 have hxs := hset x (List.mem_of_getElem? hx)
 have hcut : ((List.map (fun x=>List.map V.d x) (List.map Ins.cells g.ins)).drop 0).take g.ins.length=List.map (fun x=>List.map V.d x) (List.map Ins.cells g.ins) := by rw [List.drop_zero,List.take_of_length_le (by simp)]
 have htk : (List.map (fun x=>List.map V.d x) (List.map Ins.cells g.ins)).take g.ins.length=List.map (fun x=>List.map V.d x) (List.map Ins.cells g.ins) := List.take_of_length_le (by simp)
 generalize around a g.ins.length=ia at *
 simp only [i64] at har har2
 have hin := around_in c 4 (by omega) hc
 have hy := around_ok c 4 (by omega) hc
 obtain ⟨v,hv1,hv2⟩ := idx_lit' [c,-1,9,10] (around c 4) hin.1 (by simp; omega)
 obtain ⟨hi0,hi1⟩ := hin
 generalize around c 4=ic at *
 simp only [List.map_cons,List.map_nil,iD] at hv1 hv2
 simp only [i64] at hy
 refine ⟨⟨g.ins,v,g.runes⟩,?_,fun n h=>⟨by have := h.len; simp; omega,fun y hy=>by have := h.sets y hy; omega⟩⟩
 refine fn_ok func33 rfl ntmps33 results33 rfl 0 67110687 (by simp) (by simp) ?_
 simp only [zX,simprocAttr,i64,bV,iD,bD,prgV_eq,hz,hcut,htk,List.length_map,Nat.zero_add]
 refine ⟨ins_len5 _,⟨by omega,by simp⟩,?_⟩
 refine call_pure har rfl rfl ?_
 simp only [zX,simprocAttr,i64,bV,iD,bD,prgV_eq,hz,hcut,htk,List.length_map,Nat.zero_add]
 refine call_pure har2 rfl rfl ?_
 simp only [zX,simprocAttr,i64,bV,iD,bD,prgV_eq,hz,hcut,htk,List.length_map,Nat.zero_add]
 refine call_pure hy rfl rfl ?_
 simp only [zX,simprocAttr,i64,bV,iD,bD,prgV_eq,hz,hcut,htk,List.length_map,Nat.zero_add,ha0,ha1,hi0,hi1,hv1,hv2,hx,Ins.cells]
 try refine ⟨by omega,?_⟩
 rw [if_pos (Nat.le_refl _)]
 rfl
theorem spoilt10_6 (g : Prg) (hs : g.ins.length≤1000000) (hset : ∀ x ∈ g.ins,x.set.length≤1000000) (h0 : g.ins.length ≠ 0) (a b c : Int) (ha : I64 a) (hb : I64 b) (hc : I64 c) (hk : around b 8=6) : SpOK g a b c := by
 have hz : ¬ (g.ins.length : Int)=0 := by omega
 have har := around_ok a g.ins.length (by omega) ha
 obtain ⟨ha0,ha1⟩ := around_in a g.ins.length (by omega) ha
 have har2 := around_ok b 8 (by omega) hb
 rw [hk] at har2
 obtain ⟨x,hx⟩ : ∃ x,g.ins[(around a g.ins.length).toNat]?=some x := ⟨_,List.getElem?_eq_getElem (by omega)⟩
 have hxs := hset x (List.mem_of_getElem? hx)
 have hcut : ((List.map (fun x=>List.map V.d x) (List.map Ins.cells g.ins)).drop 0).take g.ins.length=List.map (fun x=>List.map V.d x) (List.map Ins.cells g.ins) := by rw [List.drop_zero,List.take_of_length_le (by simp)]
 have htk : (List.map (fun x=>List.map V.d x) (List.map Ins.cells g.ins)).take g.ins.length=List.map (fun x=>List.map V.d x) (List.map Ins.cells g.ins) := List.take_of_length_le (by simp)
 generalize around a g.ins.length=ia at *
 simp only [i64] at har har2
 refine ⟨⟨g.ins.take (g.ins.length - 1),g.caps,g.runes⟩,?_,fun n h=>⟨by have := h.len; simp; omega,fun y hy=>by have := h.sets y (List.mem_of_mem_take hy); omega⟩⟩
 refine fn_ok func33 rfl ntmps33 results33 rfl 0 67110687 (by simp) (by simp) ?_
 simp only [zX,simprocAttr,i64,bV,iD,bD,prgV_eq,hz,hcut,htk,List.length_map,Nat.zero_add]
 refine ⟨ins_len5 _,⟨by omega,by simp⟩,?_⟩
 refine call_pure har rfl rfl ?_
 simp only [zX,simprocAttr,i64,bV,iD,bD,prgV_eq,hz,hcut,htk,List.length_map,Nat.zero_add]
 refine call_pure har2 rfl rfl ?_
 simp only [zX,simprocAttr,i64,bV,iD,bD,prgV_eq,hz,hcut,htk,List.length_map,Nat.zero_add]
 have w1 : IntKind.i64.wrap ((g.ins.length : Int) - 1)=((g.ins.length - 1 : Nat) : Int) := by rw [w64 _ (by omega)]; omega
 simp only [zX,simprocAttr,i64,bV,iD,bD,prgV_eq,hz,hcut,htk,List.length_map,Nat.zero_add,w1,Nat.le_refl,if_true]
 refine ⟨by omega,?_⟩
 rw [show (((g.ins.length - 1 : Nat) : Int) - 0).toNat=g.ins.length - 1 by omega]
 have hT : List.take (g.ins.length - 1) (List.map (fun x=>List.map V.d x) (List.map Ins.cells g.ins))=List.take (g.ins.length - 1) (List.map (fun x=>List.map V.d x) (List.map Ins.cells (g.ins.take (g.ins.length - 1)))) := by
  rw [List.take_of_length_le (l := List.map (fun x=>List.map V.d x) (List.map Ins.cells (g.ins.take (g.ins.length - 1)))) (by simp),List.map_take,List.map_take]
 rw [hT,frz_data 7 0 _ _ _ (by simp),if_pos (by omega)]
 rfl
theorem spoilt10_7 (g : Prg) (hs : g.ins.length≤1000000) (hset : ∀ x ∈ g.ins,x.set.length≤1000000) (h0 : g.ins.length ≠ 0) (a b c : Int) (ha : I64 a) (hb : I64 b) (hc : I64 c) (hk : around b 8=7) : SpOK g a b c := by
 have hz : ¬ (g.ins.length : Int)=0 := by omega
 have har := around_ok a g.ins.length (by omega) ha
 obtain ⟨ha0,ha1⟩ := around_in a g.ins.length (by omega) ha
 have har2 := around_ok b 8 (by omega) hb
 rw [hk] at har2
 obtain ⟨x,hx⟩ : ∃ x,g.ins[(around a g.ins.length).toNat]?=some x := ⟨_,List.getElem?_eq_getElem (by omega)⟩
 have hxs := hset x (List.mem_of_getElem? hx)
 have hcut : ((List.map (fun x=>List.map V.d x) (List.map Ins.cells g.ins)).drop 0).take g.ins.length=List.map (fun x=>List.map V.d x) (List.map Ins.cells g.ins) := by rw [List.drop_zero,List.take_of_length_le (by simp)]
 have htk : (List.map (fun x=>List.map V.d x) (List.map Ins.cells g.ins)).take g.ins.length=List.map (fun x=>List.map V.d x) (List.map Ins.cells g.ins) := List.take_of_length_le (by simp)
 generalize around a g.ins.length=ia at *
 simp only [i64] at har har2
 refine ⟨⟨g.ins,g.caps,!g.runes⟩,?_,fun n h=>⟨by have := h.len; simp; omega,fun y hy=>by have := h.sets y hy; omega⟩⟩
 refine fn_ok func33 rfl ntmps33 results33 rfl 0 67110687 (by simp) (by simp) ?_
 simp only [zX,simprocAttr,i64,bV,iD,bD,prgV_eq,hz,hcut,htk,List.length_map,Nat.zero_add]
 refine ⟨ins_len5 _,⟨by omega,by simp⟩,?_⟩
 refine call_pure har rfl rfl ?_
 simp only [zX,simprocAttr,i64,bV,iD,bD,prgV_eq,hz,hcut,htk,List.length_map,Nat.zero_add]
 refine call_pure har2 rfl rfl ?_
 simp only [zX,simprocAttr,i64,bV,iD,bD,prgV_eq,hz,hcut,htk,List.length_map,Nat.zero_add]
 rw [if_pos (Nat.le_refl _)]
 rfl
theorem spoilt10_ok (g : Prg) (hs : g.ins.length≤1000000) (hset : ∀ x ∈ g.ins,x.set.length≤1000000) (a b c : Int) (ha : I64 a) (hb : I64 b) (hc : I64 c) : SpOK g a b c := by
 by_cases z0 : g.ins.length=0
 ·refine ⟨g,?_,fun n h=>⟨by have := h.len; omega,fun y hy=>by have := h.sets y hy; omega⟩⟩
  have hz := eq_true (show (g.ins.length : Int)=0 by omega)
  refine fn_ok func33 rfl ntmps33 results33 rfl 0 67110687 (by simp) (by simp) ?_
  simp only [zX,simprocAttr,i64,bV,iD,bD,prgV_eq,hz,List.length_map,Nat.zero_add]
  refine ⟨ins_len5 _,⟨by omega,by simp⟩,?_⟩
  rw [frz_data 7 0 _ _ _ (by simp),if_pos (by simp)]
  rfl
 obtain ⟨h0,h1⟩ := around_in b 8 (by omega) hb
 have hcs : around b 8=0 ∨ around b 8=1 ∨ around b 8=2 ∨ around b 8=3 ∨ around b 8=4 ∨ around b 8=5 ∨ around b 8=6 ∨ around b 8=7 := by omega
 rcases hcs with h | h | h | h | h | h | h | h
 ·exact spoilt10_0 g hs hset z0 a b c ha hb hc h
 ·exact spoilt10_1 g hs hset z0 a b c ha hb hc h
 ·exact spoilt10_2 g hs hset z0 a b c ha hb hc h
 ·exact spoilt10_3 g hs hset z0 a b c ha hb hc h
 ·exact spoilt10_4 g hs hset z0 a b c ha hb hc h
 ·exact spoilt10_5 g hs hset z0 a b c ha hb hc h
 ·exact spoilt10_6 g hs hset z0 a b c ha hb hc h
 ·exact spoilt10_7 g hs hset z0 a b c ha hb hc h
def progsD (l : List Prg) : D := .sl (l.map Prg.cells)
theorem Prg.small.mono {g : Prg} {a b : Nat} (h : g.small a) (hab : a≤b) : g.small b := ⟨by have := h.len; omega,fun x hx=>by have := h.sets x hx; omega⟩
theorem compR_small {p : Pat} {t : List Int} (h : PlainR p t) (hc : p.re.comp []=true) : (compR p).small 9000 := ⟨by have := (compR_good h hc).len1; omega,fun x hx=>by have := (compR_good h hc).sets x hx; omega⟩
theorem programs_ok (l m : List Int) (hl : ∀ x ∈ l,I64 x) (hm : ∀ x ∈ m,I64 x) (a b c : Int) (ha : I64 a) (hb : I64 b) (hc : I64 c) : ∃ (p : Pat) (t : List Int) (h g1 g2 : Prg),
  PureOK prog 9 [.d (intsD l),.d (intsD m),i64 a,i64 b,i64 c] (.tu [.d (progsD [compR p,h,g1,g2]),.d (intsD t)])∧PlainR p t∧p.re.comp []=true∧∀ g ∈ [compR p,h,g1,g2],g.small 10000 := by
 obtain ⟨p,t,h1,h2,h3⟩ := plain_ok l m hl hm true
 have hcomp := compile_ok p h2.valid h3 (by have := h2.csz; omega)
 have hcs : (compR p).small 9000 := compR_small h2 h3
 obtain ⟨h,h4,h5⟩ := some_ok l hl
 have har := around_ok c 13 (by omega) hc
 have hin := around_in c 13 (by omega) hc
 obtain ⟨g1,k1,k2⟩ := spoilt10_ok (compR p) (by have := hcs.len; omega) (fun x hx=>by have := hcs.sets x hx; omega) a b c ha hb hc
 obtain ⟨g2,k3,k4⟩ := spoilt10_ok h (by have := h5.len; omega) (fun x hx=>by have := h5.sets x hx; omega) a b (around c 13 - 2) ha hb (by unfold I64; omega)
 refine ⟨p,t,h,g1,g2,?_,h2,h3,?_⟩
 ·have w1 : IntKind.i64.wrap (around c 13 - 2)=around c 13 - 2 := w64 _ (by omega)
  generalize around c 13=ic at *
  generalize compR p=g at *
  cases p with
  | mk re caps runes =>
  simp only [patV,Re.cells_eq re,List.map_cons,List.map_nil,List.cons_append,List.nil_append,i64,iD,bD,bV,prgV_eq] at h1 hcomp h4 k1 k3 har
  refine fn_ok func9 rfl ntmps9 results9 rfl 0 97311 (by simp) (by simp) ?_
  simp only [zX,simprocAttr,i64,bV,iD,bD]
  refine call_pure h1 rfl rfl ?_
  simp only [zX,simprocAttr,i64,bV,iD,bD]
  refine call_pure hcomp rfl rfl ?_
  simp only [zX,simprocAttr,i64,bV,iD,bD]
  refine call_pure h4 rfl rfl ?_
  simp only [zX,simprocAttr,i64,bV,iD,bD]
  refine draw_c mix [] [] (by rfl) ?_
  simp only [zX,simprocAttr,i64,bV,iD,bD]
  refine callC_pure k1 rfl rfl ?_
  simp only [zX,simprocAttr,i64,bV,iD,bD]
  refine callC_pure har rfl rfl ?_
  simp only [zX,simprocAttr,i64,bV,iD,bD,w1]
  refine callC_pure k3 rfl rfl ?_
  simp only [zX,simprocAttr,i64,bV,iD,bD]
  rfl
 ·intro x hx
  simp only [List.mem_cons,List.not_mem_nil,or_false] at hx
  rcases hx with rfl | rfl | rfl | rfl
  ·exact hcs.mono (by omega)
  ·exact h5.mono (by omega)
  ·exact (k2 9000 hcs).mono (by omega)
  ·exact (k4 20 h5).mono (by omega)
end Go.Proofs.Ytdofoappodmcoaa
