/- A part of the proof (K60). -/
import Derived.Test.YtdofoappodmcoaaKS37
import Derived.Test.YtdofoappodmcoaaKS42
set_option linter.unusedSimpArgs false
set_option linter.unusedVariables false
set_option maxRecDepth 100000
set_option maxHeartbeats 80000000
namespace Go.Proofs.Ytdofoappodmcoaa
open Go.VL Go.Proofs.Try
inductive Live (g : Prg) (t : List Int) : Int→Int→Prop
 | done {pc p : Int} : (insAt g pc).op=0→Live g t pc p
 | sym {pc p : Int} : (insAt g pc).op=1→p < t.length→hasB (insAt g pc).set (tAt t p)=true→Live g t (pc + 1) (p + 1)→Live g t pc p
 | left {pc p : Int} : (insAt g pc).op=2→Live g t (insAt g pc).x p→Live g t pc p
 | right {pc p : Int} : (insAt g pc).op=2→Live g t (insAt g pc).y p→Live g t pc p
 | jump {pc p : Int} : (insAt g pc).op=3→Live g t (insAt g pc).x p→Live g t pc p
 | save {pc p : Int} : (insAt g pc).op=4→Live g t (pc + 1) p→Live g t pc p
 | assert {pc p : Int} : (insAt g pc).op=5→holdsR (insAt g pc).n t p=true→Live g t (pc + 1) p→Live g t pc p
def Eps (g : Prg) (t : List Int) (p a b : Int) : Prop :=
 ((insAt g a).op=2∧(b=(insAt g a).x ∨ b=(insAt g a).y)) ∨ ((insAt g a).op=3∧b=(insAt g a).x) ∨ ((insAt g a).op=4∧b=a + 1) ∨ ((insAt g a).op=5∧holdsR (insAt g a).n t p=true∧b=a + 1)
theorem Eps.rng {g : Prg} (hg : g.good) {t : List Int} {p a b : Int} (h0 : 0≤a) (h1 : a < g.ins.length) (h : Eps g t p a b) : 0≤b∧b < g.ins.length := by
 have hx := insAt_get h0 h1
 have hs := hg.split a.toNat _ hx
 have hj := hg.jump a.toNat _ hx
 have hn := hg.next a.toNat _ hx
 rcases h with ⟨o,rfl | rfl⟩ | ⟨o,rfl⟩ | ⟨o,rfl⟩ | ⟨o,_,rfl⟩
 ·have := hs o; omega
 ·have := hs o; omega
 ·have := hj o; omega
 ·have := hn (.inr (by omega)); omega
 ·have := hn (.inr (by omega)); omega
structure RCl (g : Prg) (t : List Int) (p : Int) (st st' : RSt) : Prop where
 mono : ∀ i,st.added.getD i true=true→st'.added.getD i true=true
 ext : ∀ x ∈ st.ths,x ∈ st'.ths
 new : ∀ i : Int,0≤i→i < g.ins.length→st.added.getD i.toNat true=false→st'.added.getD i.toNat true=true →
  (∀ b,Eps g t p i b→st'.added.getD b.toNat true=true)∧((insAt g i).op=0 ∨ (insAt g i).op=1→∃ x ∈ st'.ths,x.pc=i)
theorem RCl.refl {g : Prg} {t : List Int} {p : Int} {st : RSt} : RCl g t p st st := ⟨fun _ h=>h,fun _ h=>h,fun i _ _ h1 h2=>by rw [h1] at h2; cases h2⟩
theorem RCl.trans {g : Prg} {t : List Int} {p : Int} {st st1 st2 : RSt} (h : RCl g t p st st1) (k : RCl g t p st1 st2) : RCl g t p st st2 := by
 refine ⟨fun i hi=>k.mono i (h.mono i hi),fun x hx=>k.ext x (h.ext x hx),fun i i0 i1 h1 h2=>?_⟩
 cases hc : st1.added.getD i.toNat true with
 | true =>
  obtain ⟨a,b⟩ := h.new i i0 i1 h1 hc
  exact ⟨fun b' hb=>k.mono _ (a b' hb),fun ho=>let ⟨x,hx,e⟩ := b ho; ⟨x,k.ext x hx,e⟩⟩
 | false=>exact k.new i i0 i1 hc h2
theorem RCl.ofMark {g : Prg} {t : List Int} {p : Int} {st st' : RSt} {pc : Int} (h0 : 0≤pc) (h : RCl g t p ⟨st.added.set pc.toNat true,st.ths⟩ st') (h1 : ∀ b,Eps g t p pc b→st'.added.getD b.toNat true=true) (h2 : (insAt g pc).op=0 ∨ (insAt g pc).op=1→∃ x ∈ st'.ths,x.pc=pc) : RCl g t p st st' := by
 refine ⟨fun i hi=>h.mono i (getD_set_true hi),h.ext,fun i i0 i1 k1 k2=>?_⟩
 by_cases hi : i=pc
 ·subst hi; exact ⟨h1,h2⟩
 ·refine h.new i i0 i1 ?_ k2
  show (st.added.set pc.toNat true).getD i.toNat true=false
  rw [List.getD_eq_getElem?_getD,List.getElem?_set_ne (by omega),← List.getD_eq_getElem?_getD]
  exact k1
theorem rAdd_cl (g : Prg) (hg : g.good) (t : List Int) (p : Int) : ∀ (k : Nat) (pc : Int) (regs : List Int) (st : RSt),0≤pc→pc < g.ins.length→st.added.length=g.ins.length→free st.added < k →
  RCl g t p st (rAdd g t p k pc regs st)∧(rAdd g t p k pc regs st).added.getD pc.toNat true=true
 | 0,_,_,_,_,_,_,h=>by omega
 | k + 1,pc,regs,st,h0,h1,hl,hf=>by
  have hx := insAt_get h0 h1
  have hs := hg.split pc.toNat _ hx
  have hj := hg.jump pc.toNat _ hx
  have hn := hg.next pc.toNat _ hx
  have ho := hg.ops _ (List.mem_of_getElem? hx)
  rw [rAdd]
  by_cases ha : st.added.getD pc.toNat true=true
  ·rw [if_pos ha]; exact ⟨RCl.refl,ha⟩
  rw [if_neg ha]
  have haf : st.added.getD pc.toNat true=false := by simpa using ha
  have hfs := free_set haf
  have hl1 : (st.added.set pc.toNat true).length=g.ins.length := by simpa using hl
  have hp1 : (st.added.set pc.toNat true).getD pc.toNat true=true := by
   simp only [List.getD_eq_getElem?_getD,List.getElem?_set,if_true]
   split <;> simp
  simp only
  by_cases o2 : (insAt g pc).op=2
  ·rw [if_pos o2]
   have := hs o2
   obtain ⟨a1,a2⟩ := rAdd_cl g hg t p k (insAt g pc).x regs ⟨st.added.set pc.toNat true,st.ths⟩ (by omega) (by omega) hl1 (by show free (st.added.set pc.toNat true) < k; omega)
   obtain ⟨l1,l2,_⟩ := rAdd_len g t p k (insAt g pc).x regs ⟨st.added.set pc.toNat true,st.ths⟩
   simp only at l1 l2
   obtain ⟨b1,b2⟩ := rAdd_cl g hg t p k (insAt g pc).y regs _ (by omega) (by omega) (l1.trans hl1) (by omega)
   refine ⟨RCl.ofMark h0 (a1.trans b1) (fun b hb=>?_) (fun h=>by omega),(a1.trans b1).mono _ hp1⟩
   rcases hb with ⟨_,rfl | rfl⟩ | hb
   ·exact b1.mono _ a2
   ·exact b2
   ·omega
  rw [if_neg o2]
  by_cases o3 : (insAt g pc).op=3
  ·rw [if_pos o3]
   have := hj o3
   obtain ⟨a1,a2⟩ := rAdd_cl g hg t p k (insAt g pc).x regs ⟨st.added.set pc.toNat true,st.ths⟩ (by omega) (by omega) hl1 (by show free (st.added.set pc.toNat true) < k; omega)
   refine ⟨RCl.ofMark h0 a1 (fun b hb=>?_) (fun h=>by omega),a1.mono _ hp1⟩
   rcases hb with ⟨_,_⟩ | ⟨_,rfl⟩ | hb
   ·omega
   ·exact a2
   ·omega
  rw [if_neg o3]
  by_cases o4 : (insAt g pc).op=4
  ·rw [if_pos o4]
   have := hn (.inr (by omega))
   obtain ⟨a1,a2⟩ := rAdd_cl g hg t p k (pc + 1) (regs.set (insAt g pc).n.toNat p) ⟨st.added.set pc.toNat true,st.ths⟩ (by omega) (by omega) hl1 (by show free (st.added.set pc.toNat true) < k; omega)
   refine ⟨RCl.ofMark h0 a1 (fun b hb=>?_) (fun h=>by omega),a1.mono _ hp1⟩
   rcases hb with ⟨_,_⟩ | ⟨_,_⟩ | ⟨_,rfl⟩ | hb
   ·omega
   ·omega
   ·exact a2
   ·omega
  rw [if_neg o4]
  by_cases o5 : (insAt g pc).op=5
  ·rw [if_pos o5]
   have := hn (.inr (by omega))
   by_cases hh : holdsR (insAt g pc).n t p=true
   ·rw [if_pos hh]
    obtain ⟨a1,a2⟩ := rAdd_cl g hg t p k (pc + 1) regs ⟨st.added.set pc.toNat true,st.ths⟩ (by omega) (by omega) hl1 (by show free (st.added.set pc.toNat true) < k; omega)
    refine ⟨RCl.ofMark h0 a1 (fun b hb=>?_) (fun h=>by omega),a1.mono _ hp1⟩
    rcases hb with ⟨_,_⟩ | ⟨_,_⟩ | ⟨_,_⟩ | ⟨_,_,rfl⟩
    ·omega
    ·omega
    ·omega
    ·exact a2
   ·rw [if_neg hh]
    refine ⟨RCl.ofMark h0 RCl.refl (fun b hb=>?_) (fun h=>by omega),hp1⟩
    rcases hb with ⟨_,_⟩ | ⟨_,_⟩ | ⟨_,_⟩ | ⟨_,h',_⟩
    ·omega
    ·omega
    ·omega
    ·exact absurd h' hh
  rw [if_neg o5]
  refine ⟨RCl.ofMark (st' := ⟨st.added.set pc.toNat true,st.ths ++ [⟨pc,regs⟩]⟩) h0 ⟨fun _ h=>h,fun x hx=>List.mem_append_left _ hx,fun i _ _ h1 h2=>by rw [h1] at h2; cases h2⟩ (fun b hb=>?_) (fun _=>⟨⟨pc,regs⟩,by simp,rfl⟩),hp1⟩
  rcases hb with ⟨_,_⟩ | ⟨_,_⟩ | ⟨_,_⟩ | ⟨_,_,_⟩ <;> omega
def AllCl (g : Prg) (t : List Int) (p : Int) (st : RSt) : Prop := RCl g t p (rNone g) st
theorem none_false (g : Prg) {i : Int} (h0 : 0≤i) (h1 : i < g.ins.length) : (rNone g).added.getD i.toNat true=false := by
 show (List.replicate g.ins.length false).getD i.toNat true=false
 rw [List.getD_eq_getElem?_getD,List.getElem?_replicate,if_pos (by omega)]; rfl
theorem live_th {g : Prg} (hg : g.good) {t : List Int} {p : Int} {st : RSt} (hc : AllCl g t p st) {pc : Int} (hL : Live g t pc p) : 0≤pc→pc < g.ins.length→st.added.getD pc.toNat true=true→∃ x ∈ st.ths,Live g t x.pc p := by
 induction hL with
 | done o =>
  intro h0 h1 ha
  obtain ⟨x,hx,e⟩ := (hc.new _ h0 h1 (none_false g h0 h1) ha).2 (.inl o)
  exact ⟨x,hx,by rw [e]; exact .done o⟩
 | sym o hp hh hl _ =>
  intro h0 h1 ha
  obtain ⟨x,hx,e⟩ := (hc.new _ h0 h1 (none_false g h0 h1) ha).2 (.inr o)
  exact ⟨x,hx,by rw [e]; exact .sym o hp hh hl⟩
 | @left pc p o _ ih =>
  intro h0 h1 ha
  have he : Eps g t p pc (insAt g pc).x := .inl ⟨o,.inl rfl⟩
  exact ih hc (he.rng hg h0 h1).1 (he.rng hg h0 h1).2 ((hc.new _ h0 h1 (none_false g h0 h1) ha).1 _ he)
 | @right pc p o _ ih =>
  intro h0 h1 ha
  have he : Eps g t p pc (insAt g pc).y := .inl ⟨o,.inr rfl⟩
  exact ih hc (he.rng hg h0 h1).1 (he.rng hg h0 h1).2 ((hc.new _ h0 h1 (none_false g h0 h1) ha).1 _ he)
 | @jump pc p o _ ih =>
  intro h0 h1 ha
  have he : Eps g t p pc (insAt g pc).x := .inr (.inl ⟨o,rfl⟩)
  exact ih hc (he.rng hg h0 h1).1 (he.rng hg h0 h1).2 ((hc.new _ h0 h1 (none_false g h0 h1) ha).1 _ he)
 | @save pc p o _ ih =>
  intro h0 h1 ha
  have he : Eps g t p pc (pc + 1) := .inr (.inr (.inl ⟨o,rfl⟩))
  exact ih hc (he.rng hg h0 h1).1 (he.rng hg h0 h1).2 ((hc.new _ h0 h1 (none_false g h0 h1) ha).1 _ he)
 | @assert pc p o hh _ ih =>
  intro h0 h1 ha
  have he : Eps g t p pc (pc + 1) := .inr (.inr (.inr ⟨o,hh,rfl⟩))
  exact ih hc (he.rng hg h0 h1).1 (he.rng hg h0 h1).2 ((hc.new _ h0 h1 (none_false g h0 h1) ha).1 _ he)
theorem cut_live {g : Prg} {t : List Int} {p : Int} : ∀ (l : List RTh),(∃ x ∈ l,Live g t x.pc p)→∃ x ∈ (cutR g l).1,Live g t x.pc p
 | [],⟨_,h,_⟩=>by cases h
 | y :: l,⟨x,hx,hL⟩=>by
  rw [cutR]
  by_cases hc : (insAt g y.pc).op=0
  ·rw [if_pos hc]; exact ⟨y,by simp,.done hc⟩
  ·rw [if_neg hc]
   rcases List.mem_cons.1 hx with rfl | hx
   ·exact ⟨x,by simp,hL⟩
   ·obtain ⟨z,hz,hzL⟩ := cut_live l ⟨x,hx,hL⟩
    exact ⟨z,by simp [hz],hzL⟩
theorem begin_cl (g : Prg) (hg : g.good) (t : List Int) (at_ : Int) : AllCl g t at_ (beginR g t at_).st∧(beginR g t at_).st.added.getD 0 true=true := by
 have hl0 := hg.len0
 have h := rAdd_cl g hg t at_ (rGas g) 0 (List.replicate (2 * g.caps).toNat (-1)) (rNone g) (Int.le_refl _) (by omega) (by simp [rNone]) (by show free (List.replicate g.ins.length false) < g.ins.length + 1; rw [free_none]; omega)
 exact ⟨h.1,h.2⟩
theorem nextS_cl (g : Prg) (hg : g.good) (t : List Int) (at_ : Int) : ∀ (l : List RTh) (st : RSt),(∀ x ∈ l,x.ok g)→st.added.length=g.ins.length→AllCl g t (at_ + 1) st→AllCl g t (at_ + 1) (l.foldl (nextS g t at_) st)∧(∀ i,st.added.getD i true=true→(l.foldl (nextS g t at_) st).added.getD i true=true) ∧
  ∀ x ∈ l,(insAt g x.pc).op=1→hasB (insAt g x.pc).set (tAt t at_)=true→(l.foldl (nextS g t at_) st).added.getD (x.pc + 1).toNat true=true
 | [],st,_,_,h=>⟨h,fun _ h=>h,fun x hx=>by cases hx⟩
 | x :: l,st,hl,hlen,h=>by
  have hx := hl x (by simp)
  have hp0 := hx.p0
  rw [List.foldl_cons]
  by_cases hc : (insAt g x.pc).op=1∧hasB (insAt g x.pc).set (tAt t at_)=true
  ·have hn := hg.next x.pc.toNat _ (insAt_get hx.p0 hx.p1) (.inl hc.1)
   have e : nextS g t at_ st x=rAdd g t (at_ + 1) (rGas g) (x.pc + 1) x.regs st := if_pos hc
   have hfr := free_le st.added
   obtain ⟨a1,a2⟩ := rAdd_cl g hg t (at_ + 1) (rGas g) (x.pc + 1) x.regs st (by omega) (by omega) hlen (by unfold rGas; omega)
   have hlen2 := (rAdd_len g t (at_ + 1) (rGas g) (x.pc + 1) x.regs st).1
   rw [e]
   obtain ⟨b1,b2,b3⟩ := nextS_cl g hg t at_ l _ (fun y hy=>hl y (by simp [hy])) (hlen2.trans hlen) (RCl.trans h a1)
   refine ⟨b1,fun i hi=>b2 i (a1.mono i hi),fun y hy o hh=>?_⟩
   rcases List.mem_cons.1 hy with rfl | hy
   ·exact b2 _ a2
   ·exact b3 y hy o hh
  ·have e : nextS g t at_ st x=st := if_neg hc
   rw [e]
   obtain ⟨b1,b2,b3⟩ := nextS_cl g hg t at_ l st (fun y hy=>hl y (by simp [hy])) hlen h
   refine ⟨b1,b2,fun y hy o hh=>?_⟩
   rcases List.mem_cons.1 hy with rfl | hy
   ·exact absurd ⟨o,hh⟩ hc
   ·exact b3 y hy o hh
theorem next_live (g : Prg) (hg : g.good) (t : List Int) (l : RList) (hl : ∀ x ∈ l.st.ths,x.ok g) (hd : (cutR g l.st.ths).2=false) (h : ∃ x ∈ (cutR g l.st.ths).1,Live g t x.pc l.at_) : l.at_ < t.length∧∃ x ∈ (cutR g (nextR g t l).st.ths).1,Live g t x.pc (l.at_ + 1) := by
 obtain ⟨x,hx,hL⟩ := h
 have hxo := hl x (cutR_sub g _ x hx)
 have hno := cutR_no g l.st.ths hd x hx
 have hop := hxo.op
 have hp0 := hxo.p0
 cases hL with
 | sym o hp hh hl1 =>
  refine ⟨hp,cut_live _ ?_⟩
  have hn := hg.next x.pc.toNat _ (insAt_get hxo.p0 hxo.p1) (.inl o)
  obtain ⟨c1,_,c3⟩ := nextS_cl g hg t l.at_ (cutR g l.st.ths).1 (rNone g) (fun y hy=>hl y (cutR_sub g _ y hy)) (by simp [rNone]) RCl.refl
  exact live_th hg c1 hl1 (by omega) (by omega) (c3 x hx o hh)
 | done o=>exact absurd o hno
 | left o _=>omega
 | right o _=>omega
 | jump o _=>omega
 | save o _=>omega
 | assert o _ _=>omega
theorem rAdd_dead (g : Prg) (hg : g.good) (t : List Int) (p : Int) : ∀ (k : Nat) (pc : Int) (regs : List Int) (st : RSt),¬ Live g t pc p→(∀ x ∈ st.ths,¬ Live g t x.pc p)→∀ x ∈ (rAdd g t p k pc regs st).ths,¬ Live g t x.pc p
 | 0,_,_,st,_,h=>by simpa [rAdd] using h
 | k + 1,pc,regs,st,hd,h=>by
  rw [rAdd]
  split
  ·exact h
  simp only
  split
  ·rename_i o2
   exact rAdd_dead g hg t p k _ _ _ (fun hL=>hd (.right o2 hL)) (rAdd_dead g hg t p k _ _ _ (fun hL=>hd (.left o2 hL)) h)
  split
  ·rename_i o3
   exact rAdd_dead g hg t p k _ _ _ (fun hL=>hd (.jump o3 hL)) h
  split
  ·rename_i o4
   exact rAdd_dead g hg t p k _ _ _ (fun hL=>hd (.save o4 hL)) h
  split
  ·rename_i o5
   split
   ·rename_i hh
    exact rAdd_dead g hg t p k _ _ _ (fun hL=>hd (.assert o5 hh hL)) h
   ·exact h
  ·intro x hx
   rcases List.mem_append.1 hx with hx | hx
   ·exact h x hx
   ·rw [List.mem_singleton.1 hx]; exact hd
theorem nextS_dead (g : Prg) (hg : g.good) (t : List Int) (at_ : Int) (hat : at_ < t.length) : ∀ (l : List RTh) (st : RSt),(∀ x ∈ l,¬ Live g t x.pc at_)→(∀ x ∈ st.ths,¬ Live g t x.pc (at_ + 1))→∀ x ∈ (l.foldl (nextS g t at_) st).ths,¬ Live g t x.pc (at_ + 1)
 | [],_,_,h=>h
 | x :: l,st,hl,h=>by
  rw [List.foldl_cons]
  refine nextS_dead g hg t at_ hat l _ (fun y hy=>hl y (by simp [hy])) ?_
  unfold nextS
  split
  ·rename_i hc
   exact rAdd_dead g hg t (at_ + 1) _ _ _ _ (fun hL=>hl x (by simp) (.sym hc.1 hat hc.2 hL)) h
  ·exact h
theorem cutR_dead {g : Prg} {t : List Int} {p : Int} : ∀ (l : List RTh),(∀ x ∈ (cutR g l).1,¬ Live g t x.pc p)→(cutR g l).2=false
 | [],_=>by simp [cutR]
 | y :: l,h=>by
  rw [cutR] at h ⊢
  by_cases hc : (insAt g y.pc).op=0
  ·rw [if_pos hc] at h; exact absurd (.done hc) (h y (by simp))
  ·rw [if_neg hc] at h ⊢
   exact cutR_dead l (fun x hx=>h x (by simp [hx]))
theorem best_dead {g : Prg} {t : List Int} {s : Int} {l : RList} {b : Option Mat} (h : ∀ x ∈ (cutR g l.st.ths).1,¬ Live g t x.pc l.at_) : bestR g s l b=b := by
 unfold bestR
 rw [cutR_dead _ h]
 rfl
theorem runR_dead (g : Prg) (hg : g.good) (t : List Int) (s : Int) : ∀ (k : Nat) (l : RList) (b : Option Mat),(∀ x ∈ (cutR g l.st.ths).1,¬ Live g t x.pc l.at_)→runR g t s k l b=b
 | 0,_,_,_=>rfl
 | k + 1,l,b,h=>by
  rw [runR,best_dead h]
  split
  ·rfl
  ·rename_i hc
   refine runR_dead g hg t s k _ _ (fun x hx=>?_)
   exact nextS_dead g hg t l.at_ (by omega) _ _ h (fun x hx=>by simp [rNone] at hx) x (cutR_sub g _ x hx)
theorem runR_step (g : Prg) (hg : g.good) (t : List Int) (s : Int) (k : Nat) (l : RList) (b : Option Mat) (h : l.at_ < t.length) : runR g t s (k + 1) l b=runR g t s k (nextR g t l) (bestR g s l b) := by
 rw [runR]
 split
 ·rename_i hc
  have hc : (cutR g l.st.ths).1=[] := hc.resolve_right (by omega)
  rw [runR_dead g hg t s k _ _ (fun x hx=>by rw [next_empty g t l hc] at hx; cases hx)]
 ·rfl
theorem run0_dead (g : Prg) (hg : g.good) (t : List Int) (s : Int) (h : ¬ Live g t 0 s) : run0 g t s=none :=
 runR_dead g hg t s _ _ _ (fun x hx=>rAdd_dead g hg t s _ _ _ _ h (fun x hx=>by simp [rNone] at hx) x (cutR_sub g _ x hx))
end Go.Proofs.Ytdofoappodmcoaa
