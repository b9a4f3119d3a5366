/- A part of the proof (S51 S54). -/
import Derived.Test.YtimnnipoaafdfaaSD44
import Derived.Test.YtimnnipoaafdfaaSD46
import Derived.Test.YtimnnipoaafdfaaSD47
import Derived.Test.YtimnnipoaafdfaaSD43
import Derived.Test.YtimnnipoaafdfaaSD19
set_option linter.unusedSimpArgs false
set_option linter.unusedVariables false
set_option maxRecDepth 100000
set_option maxHeartbeats 80000000
namespace Go.Proofs.Ytimnnipoaafdfaa
open Go.VL Go.Proofs.Try
structure SpanOK (p : Pat) (t : List Int) (x : Int) (m : Mat) : Prop where
 s : m.s=x
 e0 : m.s≤m.e
 e1 : m.e≤t.length
 len : InL p.re.lens (m.e - m.s)
 caps : (m.c.length : Int)=p.caps
 ok : ∀ q ∈ m.c,q=(-1,-1) ∨ (0≤q.1∧q.1≤q.2∧q.2≤t.length)
theorem all_big {p : Pat} {t : List Int} {i F N : Int} (hv : valid7 p t F=0) (h0 : 0≤i) (h1 : i≤t.length) (hN : F + 2 < N) : searchX p t i N F=searchX p t i (-1) F∧allE p t i N F=allE p t i (-1) F∧allM p t i N F=allM p t i (-1) F∧allN p t i N F=allN p t i (-1) F := by
 obtain ⟨n,e1,e2⟩ := search_ends (most := -1) hv h0 h1
 obtain ⟨new,newc,z1,_,_,z4,_,_⟩ := e2.more
 have hs := e2.s1
 have hlen : ((searchX p t i (-1) F).2.ends.length : Int) < N := by
  rw [z1,List.nil_append]
  have z4 : (new.length : Int)≤(searchX p t i (-1) F).2.steps - 0 + 0 := z4
  omega
 have hX : searchX p t i N F=searchX p t i (-1) F := by
  generalize searchX p t i (-1) F=Y at *
  obtain ⟨b,X⟩ := Y
  exact evX_eq ((big_all (N := N) n _ _ _ _ e1).2 hlen)
 have hE : allE p t i N F=allE p t i (-1) F := by unfold allE; rw [hX]
 exact ⟨hX,hE,by unfold allM; rw [hE,hX],by unfold allN; rw [hE,hX]⟩
theorem semAll_few (p : Pat) (t : List Int) (x f : Int) (hf : p.re.fine=true) (ht : t.length≤12) (hf1 : f≤50000000) : PureOK prog 12 [patV p,.d (intsD t),i64 x,i64 1073741824,i64 f] (.tu [.d (.sl ((matsL x (allM p t x (-1) f)).map matD)),i64 (allN p t x (-1) f),i64 (allE p t x (-1) f)]) := by
 have h := semAll_ok p t x 1073741824 f hf (by omega) (by omega) (fun hv h0 h1=>by
  obtain ⟨_,_,e2⟩ := search_ends (most := 1073741824) hv h0 h1
  have := e2.s1
  omega)
 rw [matsL_D] at h
 by_cases hv : valid7 p t f=0
 ·by_cases hr : x < 0 ∨ (t.length : Int) < x
  ·have e1 : ∀ most,allE p t x most f=5 := fun most=>by unfold allE; rw [if_neg (by rw [hv]; simp),if_pos hr]
   have e2 : ∀ most,allM p t x most f=[] := fun most=>by unfold allM; rw [e1,if_neg (by decide)]
   have e3 : ∀ most,allN p t x most f=0 := fun most=>by unfold allN; rw [e1,if_neg (by decide)]
   rw [e1,e2,e3] at h
   rw [e1,e2,e3]
   exact h
  ·obtain ⟨_,e1,e2,e3⟩ := all_big (i := x) (N := 1073741824) hv (by omega) (by omega) (by omega)
   rw [e1,e2,e3] at h
   exact h
 ·have e1 : ∀ most,allE p t x most f=valid7 p t f := fun most=>by unfold allE; rw [if_pos hv]
  have e2 : ∀ most,allM p t x most f=[] := fun most=>by unfold allM; rw [e1,if_neg hv]
  have e3 : ∀ most,allN p t x most f=0 := fun most=>by unfold allN; rw [e1,if_neg hv]
  rw [e1,e2,e3] at h
  rw [e1,e2,e3]
  exact h
structure SmP (p : Pat) : Prop where
 ev : p.re.every (smallB 256)=true
 size : p.re.size≤100
 depth : p.re.depth≤6
 runes : p.runes=false
 whole : p.re.whole p.caps 255=true
 c0 : 0≤p.caps
 c1 : p.caps≤9
theorem SmP.valid {p : Pat} (h : SmP p) : validR p=0 := by
 unfold validR
 rw [if_neg (by have := h.size; have := h.depth; omega),h.runes]
 rw [if_neg]
 rintro (h' | h' | h')
 ·have := h.c0; omega
 ·have := h.c1; omega
 ·have := h.whole
  rw [show topR false=255 from rfl] at h'
  rw [this] at h'; cases h'
theorem SmP.fine {p : Pat} (h : SmP p) : p.re.fine=true := small_fine (by omega) _ h.ev
theorem pat_smp (l : List Int) (uses most : Int) (hl : ∀ x ∈ l,I64 x) (h0 : 0≤most) (h1 : most≤12) : SmP (patOf l uses most) := by
 obtain ⟨b1,b2,b3⟩ := pat_bounds l uses most hl h0 h1
 obtain ⟨hv,_⟩ := pat_valid l uses most hl h0 (by omega)
 obtain ⟨_,_,c0,c9,_⟩ := validR_spec hv
 exact ⟨(pat_small l uses most hl h0 (by omega)).ev,b1,b2,rfl,b3,c0,c9⟩
theorem empty_smp (c : Int) (h0 : 0≤c) (h1 : c≤9) : SmP ⟨.mk 0 [] [] 0 0 0 0 false,c,false⟩ := by
 refine ⟨zero_every 256,(by decide : (Re.mk 0 [] [] 0 0 0 0 false).size≤100),(by decide : (Re.mk 0 [] [] 0 0 0 0 false).depth≤6),rfl,?_,h0,h1⟩
 exact whole_mk (simple_node (by omega) (by omega) (by omega) (by simp [kidsR]) (by simp) (by simp)) (fun k hk=>by cases hk)
theorem fitsFrom_smp {p : Pat} {t : List Int} {F : Int} (h : SmP p) : ∀ n,SmP (fitsFrom p t F n).1
 | 0=>empty_smp _ h.c0 h.c1
 | n + 1=>by
  unfold fitsFrom
  split
  ·exact h
  ·exact fitsFrom_smp h n
theorem fits_smp (l m : List Int) (hl : ∀ x ∈ l,I64 x) (hm : ∀ x ∈ m,I64 x) (uses most F : Int) (h0 : 0≤most) (h1 : most≤12) (hF0 : 1≤F) (hF1 : F≤1099511627776) : ∃ (p : Pat) (t : List Int),PureOK prog 10 [.d (intsD l),.d (intsD m),i64 uses,i64 most,i64 F] (.tu [patV p,.d (intsD t)]) ∧
  (∀ i : Int,0≤i→i≤t.length→allE p t i (-1) F=0)∧SmP p∧t.length≤12 := by
 obtain ⟨hv,hsz⟩ := pat_valid l uses most hl h0 (by omega)
 have hsp := pat_smp l uses most hl h0 h1
 have htl : (textR m 12).length≤12 := by simp [textR]; omega
 obtain ⟨g1,g2,g3⟩ := fits_good (p := patOf l uses most) (t := textR m 12) (F := F) hv hsp.fine hF0 hF1 ((textR m 12).length + 1) (Nat.le_refl _)
 exact ⟨_,_,fits_ok l m hl hm uses most F h0 (by omega),g1,fitsFrom_smp hsp _,by omega⟩
theorem both_smp {p q : Pat} (hp : SmP p) (hq : SmP q) (hc : q.caps≤p.caps) : validR (bothP p q)=0∧(bothP p q).re.fine=true := by
 have hn : nodeOk (.mk 3 [] [p.re,q.re] 0 0 0 0 false) p.caps 255=true := simple_node (by omega) (by omega) (by omega) (by simp [kidsR]) (by simp) (by simp)
 have hw : (bothP p q).re.whole p.caps 255=true := whole_mk hn (fun k hk=>by
  rcases List.mem_cons.1 hk with rfl | hk
  ·exact hp.whole
  ·rw [List.mem_singleton.1 hk]; exact whole_mono hc hq.whole)
 have hsz : (bothP p q).re.size≤256 := by
  have a1 := hp.size
  have a2 := hq.size
  simp only [bothP,Re.size,Re.sizeL]; omega
 have hd : (bothP p q).re.depth≤6 + 1 := Re.depth_mk (by omega) (fun k hk=>by
  rcases List.mem_cons.1 hk with rfl | hk
  ·exact hp.depth
  ·rw [List.mem_singleton.1 hk]; exact hq.depth)
 refine ⟨?_,small_fine (c := 256) (by omega) _ (mk_small (by simp) (by simp) (by decide) (fun s hs=>by cases hs) (fun k hk=>?_))⟩
 ·unfold validR
  rw [if_neg (by omega),if_neg]
  have := hp.c0
  have := hp.c1
  rintro (h' | h' | h')
  ·have h' : p.caps < 0 := h'; omega
  ·have h' : 9 < p.caps := h'; omega
  ·have h' : (bothP p q).re.whole p.caps 255=false := h'
   rw [hw] at h'; cases h'
 ·rcases List.mem_cons.1 hk with rfl | hk
  ·exact hp.ev
  ·rw [List.mem_singleton.1 hk]; exact hq.ev
theorem atomQ_smp {p : Pat} (hp : SmP p) : validR (atomQ p)=0∧(atomQ p).re.fine=true := by
 have hn : nodeOk (.mk 9 [] [p.re] 0 0 0 0 false) p.caps 255=true := simple_node (by omega) (by omega) (by omega) (by simp [kidsR]) (by simp) (by simp)
 have hw : (atomQ p).re.whole p.caps 255=true := whole_mk hn (fun k hk=>by
  rw [List.mem_singleton.1 hk]; exact hp.whole)
 have hsz : (atomQ p).re.size≤256 := by
  have a1 := hp.size
  simp only [atomQ,Re.size,Re.sizeL]; omega
 have hd : (atomQ p).re.depth≤6 + 1 := Re.depth_mk (by omega) (fun k hk=>by
  rw [List.mem_singleton.1 hk]; exact hp.depth)
 refine ⟨?_,small_fine (c := 256) (by omega) _ (mk_small (by simp) (by simp) (by decide) (fun s hs=>by cases hs) (fun k hk=>?_))⟩
 ·unfold validR
  rw [if_neg (by omega),if_neg]
  have := hp.c0
  have := hp.c1
  rintro (h' | h' | h')
  ·have h' : p.caps < 0 := h'; omega
  ·have h' : 9 < p.caps := h'; omega
  ·have h' : (atomQ p).re.whole p.caps 255=false := h'
   rw [hw] at h'; cases h'
 ·rw [List.mem_singleton.1 hk]; exact hp.ev
theorem ab_smp (n mx mode : Int) (h0 : 0≤n) (h1 : n≤3) (hx : mx=-1 ∨ (1≤mx∧n≤mx∧mx≤9)) (hm : mode=0 ∨ mode=1) : validR (abP n mx mode)=0∧(abP n mx mode).re.fine=true := by
 have hset : nodeOk abRe 0 255=true := by decide
 have hn : nodeOk (abRep n mx mode) 0 255=true := nodeOk_iff.2 ⟨⟨by show (0 : Int)≤4; decide,by show (4 : Int)≤11; decide,by simp [abRep,kidsR,Re.op,Re.kids],by simp [abRep,kidsR,Re.op,Re.kids]⟩,(by rw [if_neg (by show ¬ (4 : Int)=1; decide)]; rfl),(by rw [if_pos (by show (4 : Int)=4; rfl)]; simp only [abRep,Re.mn,Re.mx,Re.mode]; omega),(by rw [if_neg (by show ¬ ((4 : Int)=5 ∨ (4 : Int)=6 ∨ (4 : Int)=10); decide),if_neg (by show ¬ (4 : Int)=11; decide)]; rfl),(fun h=>by cases h)⟩
 have hw : (abRep n mx mode).whole 0 255=true := (Re.every_iff _).2 ⟨hn,fun k hk=>by
  have hk : k ∈ [abRe] := hk
  rw [List.mem_singleton.1 hk]
  exact (Re.every_iff _).2 ⟨hset,fun k hk=>by cases hk⟩⟩
 refine ⟨?_,small_fine (c := 256) (by omega) _ (mk_small (by simp) (by simp) (by unfold I64; omega) (fun s hs=>by cases hs) (fun k hk=>?_))⟩
 ·unfold validR
  rw [if_neg,if_neg]
  ·rintro (h' | h' | h')
   ·have h' : (0 : Int) < 0 := h'; omega
   ·have h' : (9 : Int) < 0 := h'; omega
   ·have h' : (abRep n mx mode).whole 0 255=false := h'
    rw [hw] at h'; cases h'
  ·rintro (h' | h')
   ·have e : (abP n mx mode).re.size=2 := rfl
    omega
   ·have e : (abP n mx mode).re.depth≤1 + 1 := Re.depth_mk (by omega) (fun k hk=>by rw [List.mem_singleton.1 hk]; decide)
    omega
 ·rw [List.mem_singleton.1 hk]; decide
end Go.Proofs.Ytimnnipoaafdfaa
