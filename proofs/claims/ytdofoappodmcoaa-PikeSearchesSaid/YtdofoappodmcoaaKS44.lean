/- A part of the proof (K61 K62). -/
import Derived.Test.YtdofoappodmcoaaKS37
import Derived.Test.YtdofoappodmcoaaKS43
set_option linter.unusedSimpArgs false
set_option linter.unusedVariables false
set_option maxRecDepth 100000
set_option maxHeartbeats 80000000
namespace Go.Proofs.Ytdofoappodmcoaa
open Go.VL Go.Proofs.Try
open Classical in
noncomputable def liveP (g : Prg) (t : List Int) (p : Int) (x : PTh) : Bool := decide (Live g t x.insn p)
open Classical in
noncomputable def liveR (g : Prg) (t : List Int) (p : Int) (x : RTh) : Bool := decide (Live g t x.pc p)
theorem liveP_iff {g : Prg} {t : List Int} {p : Int} {x : PTh} : liveP g t p x=true ↔ Live g t x.insn p := by unfold liveP; simp
theorem liveR_iff {g : Prg} {t : List Int} {p : Int} {x : RTh} : liveR g t p x=true ↔ Live g t x.pc p := by unfold liveR; simp
structure Sim2 (g : Prg) (t : List Int) (at_ s0 : Int) (st : PSt) (r : RSt) : Prop where
 added : r.added.length=g.ins.length
 marks : st.closed=false→∀ i : Nat,i < g.ins.length→Live g t i at_→(st.marks.getD i 0=at_ + 1 ↔ r.added.getD i true=true)
 list : (st.list.filter (liveP g t at_)).map PTh.toR=(cutR g r.ths).1.filter (liveR g t at_)
 done : st.closed=(cutR g r.ths).2
 last : st.closed=true→∃ l x,st.list=l ++ [x]∧(insAt g x.insn).op=0
 from1 : ∀ x ∈ st.list,x.from_≤s0
 from2 : ∀ x ∈ st.list,Live g t x.insn at_→x.from_=s0
 le : ∀ m ∈ st.marks,m≤at_ + 1
theorem Sim2.noDone {g : Prg} {t : List Int} {at_ s0 : Int} {st : PSt} {r : RSt} (h : Sim2 g t at_ s0 st r) (hc : st.closed=false) : ∀ x ∈ st.list,(insAt g x.insn).op ≠ 0 := by
 intro x hx o
 have hm : x.toR ∈ (st.list.filter (liveP g t at_)).map PTh.toR := List.mem_map.2 ⟨x,List.mem_filter.2 ⟨hx,liveP_iff.2 (.done o)⟩,rfl⟩
 rw [h.list] at hm
 exact cutR_no g r.ths (by rw [← h.done]; exact hc) _ (List.mem_filter.1 hm).1 o
theorem Sim2.markDead {g : Prg} {t : List Int} {at_ s0 : Int} {st : PSt} {r : RSt} (h : Sim2 g t at_ s0 st r) {pc : Int} (h0 : 0≤pc) (hd : ¬ Live g t pc at_) : Sim2 g t at_ s0 (st.mark pc (at_ + 1)) r := by
 refine ⟨h.added,fun hc i hi hL=>?_,h.list,h.done,h.last,h.from1,h.from2,fun m hm=>?_⟩
 ·have hne : pc.toNat ≠ i := fun e=>hd (by rw [show pc=(i : Int) by omega]; exact hL)
  rw [← h.marks hc i hi hL]
  show (st.marks.set pc.toNat (at_ + 1)).getD i 0=_ ↔ _
  rw [List.getD_eq_getElem?_getD,List.getElem?_set_ne hne,← List.getD_eq_getElem?_getD]
 ·rcases List.mem_or_eq_of_mem_set hm with hm | rfl
  ·exact h.le m hm
  ·exact Int.le_refl _
theorem add_dead_p (g : Prg) (hg : g.good) (t : List Int) (at_ s0 frm : Int) (hf : frm≤s0) : ∀ (k : Nat) (pc : Int) (regs : List Int) (st : PSt) (r : RSt),st.ok g→Sim2 g t at_ s0 st r→0≤pc→pc < g.ins.length→¬ Live g t pc at_→Sim2 g t at_ s0 (pAdd g t at_ frm k pc regs st) r
 | 0,_,_,st,r,_,h,_,_,_=>by simpa [pAdd] using h
 | k + 1,pc,regs,st,r,hok,h,h0,h1,hd=>by
  have hx := insAt_get h0 h1
  have hs := hg.split pc.toNat _ hx
  have hj := hg.jump pc.toNat _ hx
  have hn := hg.next pc.toNat _ hx
  have ho := hg.ops _ (List.mem_of_getElem? hx)
  rw [pAdd]
  by_cases hc : st.closed=true ∨ st.marks.getD pc.toNat 0=at_ + 1
  ·rw [if_pos hc]; exact h
  rw [if_neg hc]
  have hS := h.markDead h0 hd
  have hok1 := hok.mark' pc (at_ + 1)
  have hcl : (st.mark pc (at_ + 1)).closed=false := by
   show st.closed=false
   cases hcc : st.closed with
   | true=>exact absurd (.inl hcc) hc
   | false=>rfl
  simp only
  generalize st.mark pc (at_ + 1)=st1 at *
  by_cases o0 : (insAt g pc).op=0
  ·exact absurd (.done o0) hd
  by_cases o1 : (insAt g pc).op=1
  ·rw [if_pos (.inr o1),decide_eq_false o0]
   have hl := PSt.list_push hok1.n ⟨pc,frm,regs⟩ false
   have hlv : liveP g t at_ ⟨pc,frm,regs⟩=false := by
    cases hq : liveP g t at_ ⟨pc,frm,regs⟩ with
    | true=>exact absurd (liveP_iff.1 hq) hd
    | false=>rfl
   refine ⟨hS.added,fun _=>hS.marks hcl,?_,?_,fun hh=>(by cases hh),fun x hx=>?_,fun x hx hL=>?_,hS.le⟩
   ·rw [hl,List.filter_append,List.filter_cons,hlv]
    simpa using hS.list
   ·show false=_
    rw [← hS.done,hcl]
   ·rw [hl] at hx
    rcases List.mem_append.1 hx with hx | hx
    ·exact hS.from1 x hx
    ·rw [List.mem_singleton.1 hx]; exact hf
   ·rw [hl] at hx
    rcases List.mem_append.1 hx with hx | hx
    ·exact hS.from2 x hx hL
    ·rw [List.mem_singleton.1 hx] at hL; exact absurd hL hd
  rw [if_neg (fun hh=>hh.elim o0 o1)]
  by_cases o2 : (insAt g pc).op=2
  ·rw [if_pos o2]
   have := hs o2
   have k1 := add_dead_p g hg t at_ s0 frm hf k (insAt g pc).x regs st1 r hok1 hS (by omega) (by omega) (fun hL=>hd (.left o2 hL))
   have k2 := (pAdd_inv g t at_ frm k (insAt g pc).x regs st1 hg hok1 (by omega) (by omega)).1
   exact add_dead_p g hg t at_ s0 frm hf k _ regs _ r k2 k1 (by omega) (by omega) (fun hL=>hd (.right o2 hL))
  rw [if_neg o2]
  by_cases o3 : (insAt g pc).op=3
  ·rw [if_pos o3]
   have := hj o3
   exact add_dead_p g hg t at_ s0 frm hf k _ _ _ r hok1 hS (by omega) (by omega) (fun hL=>hd (.jump o3 hL))
  rw [if_neg o3]
  by_cases o4 : (insAt g pc).op=4
  ·rw [if_pos o4]
   have := hn (.inr (by omega))
   exact add_dead_p g hg t at_ s0 frm hf k _ _ _ r hok1 hS (by omega) (by omega) (fun hL=>hd (.save o4 hL))
  rw [if_neg o4]
  split
  ·rename_i hh
   have := hn (.inr (by omega))
   exact add_dead_p g hg t at_ s0 frm hf k _ _ _ r hok1 hS (by omega) (by omega) (fun hL=>hd (.assert (by omega) hh hL))
  ·exact hS
theorem Sim2.addDead {g : Prg} {t : List Int} {at_ s0 : Int} {st : PSt} {r : RSt} (h : Sim2 g t at_ s0 st r) {pc : Int} (h0 : 0≤pc) (hd : ¬ Live g t pc at_) : Sim2 g t at_ s0 st ⟨r.added.set pc.toNat true,r.ths⟩ := by
 refine ⟨by simpa using h.added,fun hc i hi hL=>?_,h.list,h.done,h.last,h.from1,h.from2,h.le⟩
 have hne : pc.toNat ≠ i := fun e=>hd (by rw [show pc=(i : Int) by omega]; exact hL)
 rw [h.marks hc i hi hL]
 show _ ↔ (r.added.set pc.toNat true).getD i true=true
 rw [List.getD_eq_getElem?_getD (l := r.added.set _ _),List.getElem?_set_ne hne,← List.getD_eq_getElem?_getD]
theorem add_dead_r (g : Prg) (hg : g.good) (t : List Int) (at_ s0 : Int) : ∀ (k : Nat) (pc : Int) (regs : List Int) (st : PSt) (r : RSt),Sim2 g t at_ s0 st r→0≤pc→pc < g.ins.length→¬ Live g t pc at_→Sim2 g t at_ s0 st (rAdd g t at_ k pc regs r)
 | 0,_,_,st,r,h,_,_,_=>by simpa [rAdd] using h
 | k + 1,pc,regs,st,r,h,h0,h1,hd=>by
  have hx := insAt_get h0 h1
  have hs := hg.split pc.toNat _ hx
  have hj := hg.jump pc.toNat _ hx
  have hn := hg.next pc.toNat _ hx
  have ho := hg.ops _ (List.mem_of_getElem? hx)
  rw [rAdd]
  split
  ·exact h
  have hS := h.addDead h0 hd
  simp only
  split
  ·rename_i o2
   have := hs o2
   exact add_dead_r g hg t at_ s0 k _ _ _ _ (add_dead_r g hg t at_ s0 k _ _ _ _ hS (by omega) (by omega) (fun hL=>hd (.left o2 hL))) (by omega) (by omega) (fun hL=>hd (.right o2 hL))
  split
  ·rename_i o3
   have := hj o3
   exact add_dead_r g hg t at_ s0 k _ _ _ _ hS (by omega) (by omega) (fun hL=>hd (.jump o3 hL))
  split
  ·rename_i o4
   have := hn (.inr (by omega))
   exact add_dead_r g hg t at_ s0 k _ _ _ _ hS (by omega) (by omega) (fun hL=>hd (.save o4 hL))
  split
  ·rename_i o5
   have := hn (.inr (by omega))
   split
   ·rename_i hh
    exact add_dead_r g hg t at_ s0 k _ _ _ _ hS (by omega) (by omega) (fun hL=>hd (.assert o5 hh hL))
   ·exact hS
  ·have hlv : liveR g t at_ ⟨pc,regs⟩=false := by
    cases hq : liveR g t at_ ⟨pc,regs⟩ with
    | true=>exact absurd (liveR_iff.1 hq) hd
    | false=>rfl
   cases hc : (cutR g r.ths).2 with
   | true =>
    have e := cutR_app g [⟨pc,regs⟩] r.ths hc
    exact ⟨hS.added,hS.marks,by rw [hS.list]; show _=(cutR g (r.ths ++ [⟨pc,regs⟩])).1.filter _; rw [e],by rw [hS.done]; show _=(cutR g (r.ths ++ [⟨pc,regs⟩])).2; rw [e],hS.last,hS.from1,hS.from2,hS.le⟩
   | false =>
    obtain ⟨q1,q2⟩ := cutR_snoc g ⟨pc,regs⟩ r.ths hc
    refine ⟨hS.added,hS.marks,?_,?_,hS.last,hS.from1,hS.from2,hS.le⟩
    ·rw [hS.list]
     show _=(cutR g (r.ths ++ [⟨pc,regs⟩])).1.filter _
     rw [q2,List.filter_append,List.filter_cons,hlv,q1]
     simp
    ·rw [hS.done]
     show _=(cutR g (r.ths ++ [⟨pc,regs⟩])).2
     rw [q2,hc]
     exact (decide_eq_false fun o=>hd (.done o)).symm
theorem add_sim2 (g : Prg) (hg : g.good) (t : List Int) (at_ s0 frm : Int) (hf : frm≤s0) : ∀ (k : Nat) (pc : Int) (regs : List Int) (st : PSt) (r : RSt),st.ok g→Sim2 g t at_ s0 st r→0≤pc→pc < g.ins.length→(Live g t pc at_→frm=s0)→Sim2 g t at_ s0 (pAdd g t at_ frm k pc regs st) (rAdd g t at_ k pc regs r)
 | 0,_,_,st,r,_,h,_,_,_=>by simpa [pAdd,rAdd] using h
 | k + 1,pc,regs,st,r,hok,h,h0,h1,hfr=>by
  by_cases hL : Live g t pc at_
  rotate_left
  ·exact add_dead_r g hg t at_ s0 (k + 1) pc regs _ r (add_dead_p g hg t at_ s0 frm hf (k + 1) pc regs st r hok h h0 h1 hL) h0 h1 hL
  have hfs := hfr hL
  by_cases hc : st.closed=true
  ·rw [pAdd,if_pos (.inl hc)]
   obtain ⟨m,hm⟩ := rAdd_ext g t at_ (k + 1) pc regs r
   have hcut : cutR g (rAdd g t at_ (k + 1) pc regs r).ths=cutR g r.ths := by rw [hm]; exact cutR_app g m _ (by rw [← h.done]; exact hc)
   exact ⟨by rw [(rAdd_len g t at_ (k + 1) pc regs r).1]; exact h.added,fun hcl=>(by rw [hc] at hcl; cases hcl),by rw [hcut]; exact h.list,by rw [hcut]; exact h.done,h.last,h.from1,h.from2,h.le⟩
  have hcf : st.closed=false := by simpa using hc
  have hmk := h.marks hcf pc.toNat (by omega) (by rw [Int.toNat_of_nonneg h0]; exact hL)
  by_cases hm : st.marks.getD pc.toNat 0=at_ + 1
  ·rw [pAdd,rAdd,if_pos (.inr hm),if_pos (hmk.1 hm)]
   exact h
  rw [pAdd,rAdd,if_neg (fun hh=>hh.elim hc hm),if_neg (fun hh=>hm (hmk.2 hh))]
  have hx := insAt_get h0 h1
  have hs := hg.split pc.toNat _ hx
  have hj := hg.jump pc.toNat _ hx
  have hn := hg.next pc.toNat _ hx
  have ho := hg.ops _ (List.mem_of_getElem? hx)
  have hok1 := hok.mark' pc (at_ + 1)
  have hlen := hok.len
  have hS : Sim2 g t at_ s0 (st.mark pc (at_ + 1)) ⟨r.added.set pc.toNat true,r.ths⟩ := by
   refine ⟨by simpa using h.added,fun _ i hi hLi=>?_,h.list,h.done,h.last,h.from1,h.from2,fun m hmm=>?_⟩
   ·have ha := h.added
    have hi2 := h.marks hcf i hi hLi
    show (st.marks.set pc.toNat (at_ + 1)).getD i 0=at_ + 1 ↔ (r.added.set pc.toNat true).getD i true=true
    simp only [List.getD_eq_getElem?_getD,List.getElem?_set] at hi2 ⊢
    by_cases he : pc.toNat=i
    ·subst he
     simp [show pc.toNat < st.marks.length by omega,show pc.toNat < r.added.length by omega]
    ·simpa [he] using hi2
   ·rcases List.mem_or_eq_of_mem_set hmm with hmm | rfl
    ·exact h.le m hmm
    ·exact Int.le_refl _
  simp only
  have hcl1 : (st.mark pc (at_ + 1)).closed=false := hcf
  generalize st.mark pc (at_ + 1)=st1 at *
  have hpush : ∀ c : Bool,c=decide ((insAt g pc).op=0)→Sim2 g t at_ s0 (st1.push ⟨pc,frm,regs⟩ c) ⟨r.added.set pc.toNat true,r.ths ++ [⟨pc,regs⟩]⟩ := by
   rintro c rfl
   obtain ⟨q1,q2⟩ := cutR_snoc g ⟨pc,regs⟩ r.ths (by rw [← hS.done]; exact hcl1)
   have hl := PSt.list_push hok1.n ⟨pc,frm,regs⟩ (decide ((insAt g pc).op=0))
   have hlv : liveP g t at_ ⟨pc,frm,regs⟩=true := liveP_iff.2 hL
   have hlr : liveR g t at_ ⟨pc,regs⟩=true := liveR_iff.2 hL
   refine ⟨hS.added,fun _=>hS.marks hcl1,?_,?_,fun hd=>?_,?_,?_,hS.le⟩
   ·rw [hl,List.filter_append,List.map_append,hS.list,q1,q2,List.filter_append,List.filter_cons,List.filter_cons,hlv,hlr]; rfl
   ·rw [q2]; rfl
   ·exact ⟨_,_,hl,of_decide_eq_true hd⟩
   ·rw [hl]
    intro x hx
    rcases List.mem_append.1 hx with hx | hx
    ·exact hS.from1 x hx
    ·rw [List.mem_singleton.1 hx]; exact hf
   ·rw [hl]
    intro x hx hLx
    rcases List.mem_append.1 hx with hx | hx
    ·exact hS.from2 x hx hLx
    ·rw [List.mem_singleton.1 hx]; exact hfs
  by_cases o0 : (insAt g pc).op=0
  ·rw [if_pos (.inl o0),if_neg (by omega),if_neg (by omega),if_neg (by omega),if_neg (by omega)]
   exact hpush _ rfl
  by_cases o1 : (insAt g pc).op=1
  ·rw [if_pos (.inr o1),if_neg (by omega),if_neg (by omega),if_neg (by omega),if_neg (by omega)]
   exact hpush _ rfl
  rw [if_neg (fun hh=>hh.elim o0 o1)]
  by_cases o2 : (insAt g pc).op=2
  ·rw [if_pos o2,if_pos o2]
   have := hs o2
   have k1 := add_sim2 g hg t at_ s0 frm hf k (insAt g pc).x regs st1 ⟨r.added.set pc.toNat true,r.ths⟩ hok1 hS (by omega) (by omega) (fun _=>hfs)
   have k2 := (pAdd_inv g t at_ frm k (insAt g pc).x regs st1 hg hok1 (by omega) (by omega)).1
   exact add_sim2 g hg t at_ s0 frm hf k (insAt g pc).y regs _ _ k2 k1 (by omega) (by omega) (fun _=>hfs)
  rw [if_neg o2,if_neg o2]
  by_cases o3 : (insAt g pc).op=3
  ·rw [if_pos o3,if_pos o3]
   have := hj o3
   exact add_sim2 g hg t at_ s0 frm hf k _ _ _ _ hok1 hS (by omega) (by omega) (fun _=>hfs)
  rw [if_neg o3,if_neg o3]
  by_cases o4 : (insAt g pc).op=4
  ·rw [if_pos o4,if_pos o4]
   have := hn (.inr (by omega))
   exact add_sim2 g hg t at_ s0 frm hf k _ _ _ _ hok1 hS (by omega) (by omega) (fun _=>hfs)
  rw [if_neg o4,if_neg o4,if_pos (by omega : (insAt g pc).op=5)]
  split
  ·have := hn (.inr (by omega))
   exact add_sim2 g hg t at_ s0 frm hf k _ _ _ _ hok1 hS (by omega) (by omega) (fun _=>hfs)
  ·exact hS
theorem feed1_dead (g : Prg) (hg : g.good) (t : List Int) (at_ s0 : Int) (hat : at_ < t.length) {st : PSt} {r : RSt} {x : PTh} (hok : st.ok g) (hx : x.ok g) (hf : x.from_≤s0) (hd : ¬ Live g t x.insn at_) (h : Sim2 g t (at_ + 1) s0 st r) : Sim2 g t (at_ + 1) s0 (pFeed1 g t at_ st x) r := by
 unfold pFeed1
 split
 ·rename_i hc
  have hn := hg.next x.insn.toNat _ (insAt_get hx.p0 hx.p1) (.inl hc.1)
  have := hx.p0
  exact add_dead_p g hg t (at_ + 1) s0 x.from_ hf (rGas g) (x.insn + 1) x.regs st r hok h (by omega) (by omega) (fun hL=>hd (.sym hc.1 hat hc.2 hL))
 ·exact h
theorem nextS_deadS (g : Prg) (hg : g.good) (t : List Int) (at_ s0 : Int) (hat : at_ < t.length) {st : PSt} : ∀ (m : List RTh) (r : RSt),(∀ y ∈ m,y.ok g∧¬ Live g t y.pc at_)→Sim2 g t (at_ + 1) s0 st r→Sim2 g t (at_ + 1) s0 st (m.foldl (nextS g t at_) r)
 | [],_,_,h=>h
 | y :: m,r,hm,h=>by
  obtain ⟨hy,hd⟩ := hm y (by simp)
  rw [List.foldl_cons]
  refine nextS_deadS g hg t at_ s0 hat m _ (fun z hz=>hm z (by simp [hz])) ?_
  unfold nextS
  split
  ·rename_i hc
   have hn := hg.next y.pc.toNat _ (insAt_get hy.p0 hy.p1) (.inl hc.1)
   have := hy.p0
   exact add_dead_r g hg t (at_ + 1) s0 _ _ _ st r h (by omega) (by omega) (fun hL=>hd (.sym hc.1 hat hc.2 hL))
  ·exact h
theorem pFeed1_ok (g : Prg) (hg : g.good) (t : List Int) (at_ : Int) {st : PSt} {x : PTh} (hok : st.ok g) (hx : x.ok g) : (pFeed1 g t at_ st x).ok g := by
 unfold pFeed1
 split
 ·rename_i hc
  have hn := hg.next x.insn.toNat _ (insAt_get hx.p0 hx.p1) (.inl hc.1)
  have := hx.p0
  exact (pAdd_inv g t (at_ + 1) x.from_ (rGas g) (x.insn + 1) x.regs st hg hok (by omega) (by omega)).1
 ·exact hok
theorem feed_sim2 (g : Prg) (hg : g.good) (t : List Int) (at_ s0 : Int) (hat : at_ < t.length) : ∀ (l : List PTh) (m : List RTh) (st : PSt) (r : RSt),(∀ x ∈ l,x.ok g∧x.from_≤s0∧(Live g t x.insn at_→x.from_=s0))→(∀ y ∈ m,y.ok g) →
  (l.filter (liveP g t at_)).map PTh.toR=m.filter (liveR g t at_)→st.ok g→Sim2 g t (at_ + 1) s0 st r→Sim2 g t (at_ + 1) s0 (pFeed g t at_ l st) (m.foldl (nextS g t at_) r)
 | [],m,st,r,_,hm,he,_,h=>by
  have hd : ∀ y ∈ m,¬ Live g t y.pc at_ := fun y hy hL=>by
   have : y ∈ m.filter (liveR g t at_) := List.mem_filter.2 ⟨hy,liveR_iff.2 hL⟩
   rw [← he] at this; cases this
  exact nextS_deadS g hg t at_ s0 hat m r (fun y hy=>⟨hm y hy,hd y hy⟩) h
 | x :: l,m,st,r,hl,hm,he,hok,h=>by
  obtain ⟨hx,hf1,hf2⟩ := hl x (by simp)
  have hok2 := pFeed1_ok g hg t at_ hok hx
  show Sim2 g t (at_ + 1) s0 (pFeed g t at_ l (pFeed1 g t at_ st x)) _
  by_cases hL : Live g t x.insn at_
  ·have hlv : liveP g t at_ x=true := liveP_iff.2 hL
   rw [List.filter_cons,if_pos hlv,List.map_cons] at he
   obtain ⟨m1,m2,rfl,hm1,_,hm2⟩ := List.filter_eq_cons_iff.1 he.symm
   rw [List.foldl_append,List.foldl_cons]
   have h1 := nextS_deadS g hg t at_ s0 hat m1 r (fun y hy=>⟨hm y (by simp [hy]),fun hL=>hm1 y hy (liveR_iff.2 hL)⟩) h
   refine feed_sim2 g hg t at_ s0 hat l m2 _ _ (fun y hy=>hl y (by simp [hy])) (fun y hy=>hm y (by simp [hy])) hm2.symm hok2 ?_
   by_cases hc : pReads g t at_ x
   ·have hn := hg.next x.insn.toNat _ (insAt_get hx.p0 hx.p1) (.inl hc.1)
    have hp := hx.p0
    have e1 : pFeed1 g t at_ st x=pAdd g t (at_ + 1) x.from_ (rGas g) (x.insn + 1) x.regs st := if_pos hc
    have e2 : nextS g t at_ (m1.foldl (nextS g t at_) r) x.toR=rAdd g t (at_ + 1) (rGas g) (x.insn + 1) x.regs (m1.foldl (nextS g t at_) r) := if_pos hc
    rw [e1,e2]
    exact add_sim2 g hg t (at_ + 1) s0 x.from_ hf1 (rGas g) (x.insn + 1) x.regs st _ hok h1 (by omega) (by omega) (fun _=>hf2 hL)
   ·have e1 : pFeed1 g t at_ st x=st := if_neg hc
    have e2 : nextS g t at_ (m1.foldl (nextS g t at_) r) x.toR=m1.foldl (nextS g t at_) r := if_neg hc
    rw [e1,e2]
    exact h1
  ·have hlv : ¬ liveP g t at_ x=true := fun h=>hL (liveP_iff.1 h)
   rw [List.filter_cons,if_neg hlv] at he
   exact feed_sim2 g hg t at_ s0 hat l m _ r (fun y hy=>hl y (by simp [hy])) hm he hok2 (feed1_dead g hg t at_ s0 hat hok hx hf1 hL h)
theorem pAdd_ext (g : Prg) (hg : g.good) (t : List Int) (at_ frm : Int) : ∀ (k : Nat) (pc : Int) (regs : List Int) (st : PSt),st.ok g→0≤pc→pc < g.ins.length→(∀ m ∈ st.marks,m≤at_ + 1) →
  (∃ m,(pAdd g t at_ frm k pc regs st).list=st.list ++ m∧∀ x ∈ m,x.from_=frm)∧∀ m ∈ (pAdd g t at_ frm k pc regs st).marks,m≤at_ + 1
 | 0,_,_,st,_,_,_,h=>⟨⟨[],by simp [pAdd]⟩,h⟩
 | k + 1,pc,regs,st,hok,h0,h1,h=>by
  have hx := insAt_get h0 h1
  have hs := hg.split pc.toNat _ hx
  have hj := hg.jump pc.toNat _ hx
  have hn := hg.next pc.toNat _ hx
  have ho := hg.ops _ (List.mem_of_getElem? hx)
  rw [pAdd]
  split
  ·exact ⟨⟨[],by simp⟩,h⟩
  have hok1 := hok.mark' pc (at_ + 1)
  have hl : (st.mark pc (at_ + 1)).list=st.list := rfl
  have hmk : ∀ m ∈ (st.mark pc (at_ + 1)).marks,m≤at_ + 1 := fun m hm=>by
   rcases List.mem_or_eq_of_mem_set hm with hm | rfl
   ·exact h m hm
   ·exact Int.le_refl _
  simp only
  rw [← hl]
  generalize st.mark pc (at_ + 1)=st1 at *
  split
  ·exact ⟨⟨_,PSt.list_push hok1.n _ _,fun x hx=>by rw [List.mem_singleton.1 hx]⟩,hmk⟩
  split
  ·rename_i o2
   have := hs o2
   obtain ⟨⟨m1,a1,a2⟩,a3⟩ := pAdd_ext g hg t at_ frm k (insAt g pc).x regs st1 hok1 (by omega) (by omega) hmk
   have k2 := (pAdd_inv g t at_ frm k (insAt g pc).x regs st1 hg hok1 (by omega) (by omega)).1
   obtain ⟨⟨m2,b1,b2⟩,b3⟩ := pAdd_ext g hg t at_ frm k (insAt g pc).y regs _ k2 (by omega) (by omega) a3
   exact ⟨⟨m1 ++ m2,by rw [b1,a1,List.append_assoc],fun x hx=>(List.mem_append.1 hx).elim (a2 x) (b2 x)⟩,b3⟩
  split
  ·rename_i o3
   have := hj o3
   exact pAdd_ext g hg t at_ frm k _ _ st1 hok1 (by omega) (by omega) hmk
  split
  ·rename_i o4
   have := hn (.inr (by omega))
   exact pAdd_ext g hg t at_ frm k _ _ st1 hok1 (by omega) (by omega) hmk
  split
  ·have := hn (.inr (by omega))
   exact pAdd_ext g hg t at_ frm k _ _ st1 hok1 (by omega) (by omega) hmk
  ·exact ⟨⟨[],by simp⟩,hmk⟩
theorem pAdd_closed (g : Prg) (t : List Int) (at_ frm : Int) (k : Nat) (pc : Int) (regs : List Int) (st : PSt) (h : st.closed=true) : pAdd g t at_ frm k pc regs st=st := by
 cases k with
 | zero=>rfl
 | succ k=>rw [pAdd,if_pos (.inl h)]
theorem pFeed_closed (g : Prg) (t : List Int) (at_ : Int) : ∀ (l : List PTh) (st : PSt),st.closed=true→pFeed g t at_ l st=st
 | [],_,_=>rfl
 | x :: l,st,h=>by
  have e : pFeed1 g t at_ st x=st := by
   unfold pFeed1
   split
   ·exact pAdd_closed _ _ _ _ _ _ _ _ h
   ·rfl
  show pFeed g t at_ l (pFeed1 g t at_ st x)=st
  rw [e]
  exact pFeed_closed g t at_ l st h
theorem pFeed_ext (g : Prg) (hg : g.good) (t : List Int) (at_ s0 : Int) : ∀ (l : List PTh) (st : PSt),(∀ x ∈ l,x.ok g∧s0 < x.from_)→st.ok g→(∀ m ∈ st.marks,m≤at_ + 1 + 1) →
  (∃ m,(pFeed g t at_ l st).list=st.list ++ m∧∀ x ∈ m,s0 < x.from_)∧(∀ m ∈ (pFeed g t at_ l st).marks,m≤at_ + 1 + 1)∧(pFeed g t at_ l st).ok g
 | [],st,_,hok,h=>⟨⟨[],by simp [pFeed]⟩,h,hok⟩
 | x :: l,st,hl,hok,h=>by
  obtain ⟨hx,hf⟩ := hl x (by simp)
  have hok2 := pFeed1_ok g hg t at_ hok hx
  have h1 : (∃ m,(pFeed1 g t at_ st x).list=st.list ++ m∧∀ y ∈ m,s0 < y.from_)∧∀ m ∈ (pFeed1 g t at_ st x).marks,m≤at_ + 1 + 1 := by
   unfold pFeed1
   split
   ·rename_i hc
    have hn := hg.next x.insn.toNat _ (insAt_get hx.p0 hx.p1) (.inl hc.1)
    have := hx.p0
    obtain ⟨⟨m,a1,a2⟩,a3⟩ := pAdd_ext g hg t (at_ + 1) x.from_ (rGas g) (x.insn + 1) x.regs st hok (by omega) (by omega) h
    exact ⟨⟨m,a1,fun y hy=>by rw [a2 y hy]; exact hf⟩,a3⟩
   ·exact ⟨⟨[],by simp⟩,h⟩
  obtain ⟨⟨m1,a1,a2⟩,a3⟩ := h1
  obtain ⟨⟨m2,b1,b2⟩,b3,b4⟩ := pFeed_ext g hg t at_ s0 l (pFeed1 g t at_ st x) (fun y hy=>hl y (by simp [hy])) hok2 a3
  exact ⟨⟨m1 ++ m2,by show (pFeed g t at_ l (pFeed1 g t at_ st x)).list=_; rw [b1,a1,List.append_assoc],fun y hy=>(List.mem_append.1 hy).elim (a2 y) (b2 y)⟩,b3,b4⟩
structure Pos2 (g : Prg) (t : List Int) (a s0 : Int) (st : PSt) (l : RList) : Prop where
 split : ∃ P C,st.list=P ++ C∧(P.filter (liveP g t a)).map PTh.toR=(cutR g l.st.ths).1.filter (liveR g t a)∧(∀ x ∈ P,x.from_≤s0∧(Live g t x.insn a→x.from_=s0))∧(∀ x ∈ C,s0 < x.from_) ∧
  ((cutR g l.st.ths).2=true→C=[]∧∃ l' x,P=l' ++ [x]∧(insAt g x.insn).op=0)
 closed : (cutR g l.st.ths).2=true→st.closed=true
 le : ∀ m ∈ st.marks,m≤a + 1
theorem Pos2.of {g : Prg} {t : List Int} {a s0 : Int} {st : PSt} {l : RList} (h : Sim2 g t a s0 st l.st) : Pos2 g t a s0 st l :=
 ⟨⟨st.list,[],by simp,h.list,fun x hx=>⟨h.from1 x hx,h.from2 x hx⟩,fun x hx=>(by cases hx),fun hc=>⟨rfl,h.last (by rw [h.done]; exact hc)⟩⟩,fun hc=>by rw [h.done]; exact hc,h.le⟩
theorem Pos2.more {g : Prg} {t : List Int} {a s0 : Int} {st st' : PSt} {l : RList} (h : Pos2 g t a s0 st l) (hc : st.closed=true→st'=st) (hm : ∃ m,st'.list=st.list ++ m∧∀ x ∈ m,s0 < x.from_) (hle : ∀ m ∈ st'.marks,m≤a + 1) : Pos2 g t a s0 st' l := by
 obtain ⟨P,C,h1,h2,h3,h4,h5⟩ := h.split
 obtain ⟨m,m1,m2⟩ := hm
 cases hcut : (cutR g l.st.ths).2 with
 | true=>rw [hc (h.closed hcut)]; exact h
 | false=>exact ⟨⟨P,C ++ m,by rw [m1,h1,List.append_assoc],h2,h3,fun x hx=>(List.mem_append.1 hx).elim (h4 x) (m2 x),fun h=>(by rw [hcut] at h; cases h)⟩,fun h=>(by rw [hcut] at h; cases h),hle⟩
theorem sim2_zero (g : Prg) (t : List Int) (a s0 : Int) (marks : List Int) (arr : List PTh) (gen : Nat) (hm : marks.length=g.ins.length) (hle : ∀ m ∈ marks,m≤a) : Sim2 g t a s0 ⟨marks,false,arr,0,gen⟩ (rNone g) := by
 have h := none_sim g a s0 marks arr gen hm hle
 refine ⟨h.added,fun hc i hi _=>h.marks hc i hi,by simp [PSt.list,rNone,cutR],h.done,fun hc=>(by cases hc),fun x hx=>(by simp [PSt.list] at hx),fun x hx=>(by simp [PSt.list] at hx),h.le⟩
theorem pos_next (g : Prg) (hg : g.good) (t : List Int) (a s0 last : Int) (hat : a < t.length) (hs : s0≤a) {st1 : PSt} {l : RList} (hl : l.at_=a) (hth : ∀ y ∈ l.st.ths,y.ok g) (hi : st1.inv g a) (h : Pos2 g t a s0 st1 l) (fd : Bool) (sp : List PTh × Nat) :
  Pos2 g t (a + 1) s0 (pStart g t (a + 1) last fd (pFeed g t a st1.list ⟨st1.marks,false,sp.1,0,sp.2⟩)) (nextR g t l)∧(pStart g t (a + 1) last fd (pFeed g t a st1.list ⟨st1.marks,false,sp.1,0,sp.2⟩)).inv g (a + 1)∧(fd=true→(∀ x ∈ st1.list,x.from_≤s0)→∀ x ∈ (pStart g t (a + 1) last fd (pFeed g t a st1.list ⟨st1.marks,false,sp.1,0,sp.2⟩)).list,x.from_≤s0) := by
 obtain ⟨P,C,h1,h2,h3,h4,h5⟩ := h.split
 have hl0 := hg.len0
 obtain ⟨z,hz⟩ : ∃ z : PSt,z=⟨st1.marks,false,sp.1,0,sp.2⟩ := ⟨_,rfl⟩
 have hinv0 : z.inv g (a + 1) := by
  have hm1 := hi.ok.len
  rw [hz]
  refine ⟨⟨hm1,Nat.zero_le _⟩,?_,fun x hx=>by simp [PSt.list] at hx⟩
  have := unm_le (a + 1) st1.marks
  show 0 + unm (a + 1) st1.marks≤_; omega
 have hz0 : Sim2 g t (a + 1) s0 z (rNone g) := by rw [hz]; exact sim2_zero g t (a + 1) s0 st1.marks sp.1 sp.2 hi.ok.len h.le
 have hPth : ∀ x ∈ P,x.ok g := fun x hx=>hi.th x (by rw [h1]; simp [hx])
 have hCth : ∀ x ∈ C,x.ok g := fun x hx=>hi.th x (by rw [h1]; simp [hx])
 have s1 := feed_sim2 g hg t a s0 hat P (cutR g l.st.ths).1 z (rNone g) (fun x hx=>⟨hPth x hx,(h3 x hx).1,(h3 x hx).2⟩) (fun y hy=>hth y (cutR_sub g _ y hy)) h2 hinv0.ok hz0
 have ok1 := (pFeed_keep g hg t a P z hPth hinv0).ok
 have e1 : pFeed g t a st1.list z=pFeed g t a C (pFeed g t a P z) := by rw [h1]; unfold pFeed; rw [List.foldl_append]
 have p1 : Pos2 g t (a + 1) s0 (pFeed g t a P z) (nextR g t l) := by
  refine Pos2.of ?_
  unfold nextR nextF
  rw [hl]
  exact s1
 obtain ⟨c1,c2,c3⟩ := pFeed_ext g hg t a s0 C (pFeed g t a P z) (fun x hx=>⟨hCth x hx,h4 x hx⟩) ok1 s1.le
 have p2 : Pos2 g t (a + 1) s0 (pFeed g t a C (pFeed g t a P z)) (nextR g t l) := p1.more (fun hc=>pFeed_closed g t a C _ hc) c1 c2
 have i2 := pFeed_keep g hg t a st1.list z hi.th hinv0
 rw [← hz,e1]
 rw [e1] at i2
 have f1 : (∀ x ∈ st1.list,x.from_≤s0)→∀ x ∈ (pFeed g t a C (pFeed g t a P z)).list,x.from_≤s0 := fun hf=>by
  have hC : C=[] := by
   cases C with
   | nil=>rfl
   | cons c C=>have := hf c (by rw [h1]; simp); have := h4 c (by simp); omega
  subst hC
  exact s1.from1
 generalize pFeed g t a C (pFeed g t a P z)=w at *
 unfold pStart
 split
 ·rename_i hc
  obtain ⟨⟨m,a1,a2⟩,a3⟩ := pAdd_ext g hg t (a + 1) (a + 1) (rGas g) 0 (pBlank g) w i2.ok (Int.le_refl _) (by omega) p2.le
  refine ⟨p2.more (fun h=>pAdd_closed _ _ _ _ _ _ _ _ h) ⟨m,a1,fun x hx=>by rw [a2 x hx]; omega⟩ a3,pAdd_keep g hg t (a + 1) (a + 1) _ _ _ _ i2 (Int.le_refl _) (by omega) (by simp [pBlank]),fun hfd=>?_⟩
  rw [hfd] at hc; cases hc.2
 ·exact ⟨p2,i2,fun _ hf=>f1 hf⟩
theorem last_toR {l : List PTh} {x : PTh} : (l ++ [x])[(l ++ [x]).length - 1]?=some x := by simp
theorem best2 (g : Prg) (t : List Int) (a s0 : Int) {st : PSt} {l : RList} (hl : l.at_=a) (h : Pos2 g t a s0 st l) (b : Option Mat) (σ : FSt) (hb : b.isSome=true→σ.2=b∧∀ x ∈ st.list,x.from_≤s0) :
  (bestR g s0 l b).isSome=true→(fF g σ a st.list).2=bestR g s0 l b∧(∀ x ∈ st.list,x.from_≤s0)∧((cutR g l.st.ths).2=true→st.closed=true)∧((cutR g l.st.ths).2=false→b.isSome=true) := by
 obtain ⟨P,C,h1,h2,h3,h4,h5⟩ := h.split
 cases hc : (cutR g l.st.ths).2 with
 | true =>
  obtain ⟨rfl,l',x,rfl,ho⟩ := h5 hc
  obtain ⟨y,hy1,hy2⟩ := cutR_last g l.st.ths hc
  rw [List.append_nil] at h1
  have hxL : Live g t x.insn a := .done ho
  have hyL : Live g t y.pc a := .done hy2
  have hxf : x.from_=s0 := (h3 x (by simp)).2 hxL
  have hxy : x.toR=y := by
   have e := congrArg List.getLast? h2
   obtain ⟨ys,hys⟩ := List.getLast?_eq_some_iff.1 hy1
   rw [List.filter_append,List.filter_cons,if_pos (liveP_iff.2 hxL),List.map_append,hys,List.filter_append,List.filter_cons,if_pos (liveR_iff.2 hyL)] at e
   simpa using e
  intro _
  refine ⟨?_,fun z hz=>?_,fun _=>h.closed hc,fun h=>(by cases h)⟩
  ·unfold fF bestR lastRegs
   rw [h1,last_toR,if_pos hc,← List.getLast?_eq_getElem?,hy1]
   simp only
   rw [if_pos ho,hl,hxf,← hxy]
   rfl
  ·rw [h1] at hz; exact (h3 z hz).1
 | false =>
  intro hs
  have hbb : bestR g s0 l b=b := by unfold bestR; rw [hc]; rfl
  rw [hbb] at hs ⊢
  obtain ⟨q1,q2⟩ := hb hs
  refine ⟨?_,q2,fun h=>(by cases h),fun _=>hs⟩
  rw [← q1]
  have hno : ∀ x ∈ st.list,(insAt g x.insn).op ≠ 0 := by
   intro x hx o
   rw [h1] at hx
   rcases List.mem_append.1 hx with hx | hx
   ·have : x.toR ∈ (P.filter (liveP g t a)).map PTh.toR := List.mem_map.2 ⟨x,List.mem_filter.2 ⟨hx,liveP_iff.2 (.done o)⟩,rfl⟩
    rw [h2] at this
    exact cutR_no g _ hc _ (List.mem_filter.1 this).1 o
   ·have := q2 x (by rw [h1]; simp [hx])
    have := h4 x hx
    omega
  unfold fF
  cases hq : st.list[st.list.length - 1]? with
  | none=>rfl
  | some x=>simp only; rw [if_neg (hno x (List.mem_of_getElem? hq))]
theorem search_law (g : Prg) (hg : g.good) (t : List Int) (s0 last : Int) (hl1 : s0≤last) : ∀ (k : Nat) (a : Int) (fd : Bool) (st : PSt) (sp : List PTh × Nat) (σ : FSt) (l : RList) (b : Option Mat),s0≤a→a≤t.length→(t.length : Int) - a < k→l.at_=a→(∀ y ∈ l.st.ths,y.ok g) →
  (pStart g t a last fd st).inv g a→Pos2 g t a s0 (pStart g t a last fd st) l→(b.isSome=true→σ.2=b∧fd=true∧∀ x ∈ (pStart g t a last fd st).list,x.from_≤s0)→(b.isSome=true ∨ ∃ y ∈ (cutR g l.st.ths).1,Live g t y.pc a) →
  (pLoop (firstSee g) g t last k a fd st sp σ).2.2=runR g t s0 k l b∧(runR g t s0 k l b).isSome=true
 | 0,a,_,_,_,_,_,_,_,_,h,_,_,_,_,_,_=>by omega
 | k + 1,a,fd,st,sp,σ,l,b,h0,h1,hk,hl,hth,hi,hp,hb,hlive=>by
  rw [pLoop]
  generalize pStart g t a last fd st=st1 at *
  have hσ : (firstSee g).F σ a st1.list=fF g σ a st1.list := rfl
  have hB : (firstSee g).B σ a st1.list=true := rfl
  rw [hσ,hB]
  have hbest := best2 g t a s0 hl hp b σ (fun h=>⟨(hb h).1,(hb h).2.2⟩)
  -- a result,or a live thread
  have hlive2 : (bestR g s0 l b).isSome=true ∨ ((cutR g l.st.ths).2=false∧∃ y ∈ (cutR g l.st.ths).1,Live g t y.pc l.at_) := by
   cases hc : (cutR g l.st.ths).2 with
   | true=>left; unfold bestR; rw [hc]; rfl
   | false =>
    rcases hlive with h | h
    ·left; unfold bestR; rw [hc]; exact h
    ·right; rw [hl]; exact ⟨rfl,h⟩
  have hnl := fun hd hx=>next_live g hg t l hth hd hx
  have hstep := fun h=>runR_step g hg t s0 k l b h
  by_cases hal : (t.length : Int)≤a
  ·rw [if_pos (.inr (.inr hal)),runR,if_pos (.inr (by omega))]
   rcases hlive2 with h | ⟨h,h'⟩
   ·exact ⟨(hbest h).1,h⟩
   ·have := (hnl h h').1; omega
  rw [hstep (by omega)]
  by_cases hst : st1.list=[]∧((fd || st1.closed)=true ∨ last≤a)
  ·rw [if_pos (.inr (.inl hst))]
   obtain ⟨P,C,e1,e2,_⟩ := hp.split
   have hP : P=[] := by rw [hst.1] at e1; exact (List.append_eq_nil_iff.1 e1.symm).1
   subst hP
   have hd : ∀ x ∈ (cutR g l.st.ths).1,¬ Live g t x.pc l.at_ := fun x hx hL=>by
    have : x ∈ (cutR g l.st.ths).1.filter (liveR g t a) := List.mem_filter.2 ⟨hx,liveR_iff.2 (by rw [← hl]; exact hL)⟩
    rw [← e2] at this; cases this
   have hsome : (bestR g s0 l b).isSome=true := by
    rcases hlive2 with h | ⟨_,x,hx,hL⟩
    ·exact h
    ·exact absurd hL (hd x hx)
   have hdn := runR_dead g hg t s0 k (nextR g t l) (bestR g s0 l b) (fun x hx=>nextS_dead g hg t l.at_ (by omega) _ _ hd (fun x hx=>by simp [rNone] at hx) x (cutR_sub g _ x hx))
   rw [hdn]
   exact ⟨(hbest hsome).1,hsome⟩
  ·rw [if_neg (fun h=>h.elim (fun h=>by cases h) (fun h=>h.elim hst hal))]
   obtain ⟨n1,n2,n3⟩ := pos_next g hg t a s0 last (by omega) h0 hl hth hi hp (fd || st1.closed) sp
   have hat : (nextR g t l).at_=a + 1 := by show l.at_ + 1=a + 1; rw [hl]
   refine search_law g hg t s0 last hl1 k (a + 1) (fd || st1.closed) (pFeed g t a st1.list ⟨st1.marks,false,sp.1,0,sp.2⟩) (st1.arr,st1.gen) (fF g σ a st1.list) (nextR g t l) (bestR g s0 l b) (by omega) (by omega) (by omega) hat (next_th g hg t l hth).1 n2 n1 (fun hs=>?_) ?_
   ·obtain ⟨q1,q2,q3,q4⟩ := hbest hs
    have hfd : (fd || st1.closed)=true := by
     cases hc : (cutR g l.st.ths).2 with
     | true=>rw [q3 hc]; simp
     | false=>rw [(hb (q4 hc)).2.1]; simp
    exact ⟨q1,hfd,n3 hfd q2⟩
   ·rcases hlive2 with h | ⟨h,h'⟩
    ·exact .inl h
    ·right; rw [← hl]; exact (hnl h h').2
def firstG (g : Prg) (t : List Int) : Nat→Int→Option Mat
 | 0,_=>none
 | k + 1,a=>match run0 g t a with
  | some m=>some m
  | none=>firstG g t k (a + 1)
theorem runR_succ (g : Prg) (t : List Int) (s : Int) (k : Nat) (l : RList) (b : Option Mat) : runR g t s (k + 1) l b=if (cutR g l.st.ths).1=[] ∨ (t.length : Int)≤l.at_ then bestR g s l b else runR g t s k (nextR g t l) (bestR g s l b) := rfl
theorem runR_gas (g : Prg) (t : List Int) (s : Int) : ∀ (k : Nat) (m : RList) (b : Option Mat),m.at_≤t.length→(t.length : Int) - m.at_ < k→runR g t s (k + 1) m b=runR g t s k m b
 | 0,m,b,h,h'=>by omega
 | k + 1,m,b,h,h'=>by
  rw [runR_succ g t s (k + 1) m b,runR_succ g t s k m b]
  split
  ·rfl
  ·rename_i hc
   exact runR_gas g t s k _ _ (by show m.at_ + 1≤_; omega) (by show (t.length : Int) - (m.at_ + 1) < k; omega)
theorem first_phase (g : Prg) (hg : g.good) (t : List Int) : ∀ (k : Nat) (a : Int) (st : PSt) (sp : List PTh × Nat) (σ : FSt),0≤a→a≤t.length→(t.length : Int) - a < k→st.inv g a→Sim2 g t a a st (rNone g)→σ.2=none →
  (pLoop (firstSee g) g t t.length k a false st sp σ).2.2=firstG g t ((t.length : Int) - a + 1).toNat a
 | 0,a,_,_,_,_,_,h,_,_,_=>by omega
 | k + 1,a,st,sp,σ,h0,h1,hk,hi,hs,hσ=>by
  have hl0 := hg.len0
  have hst : pStart g t a t.length false st=pAdd g t a a (rGas g) 0 (pBlank g) st := if_pos ⟨h1,rfl⟩
  have hi1 : (pStart g t a t.length false st).inv g a := by rw [hst]; exact pAdd_keep g hg t a a _ _ _ _ hi (Int.le_refl _) (by omega) (by simp [pBlank])
  by_cases hL : Live g t 0 a
  ·have hs1 := add_sim2 g hg t a a a (Int.le_refl _) (rGas g) 0 (pBlank g) st (rNone g) hi.ok hs (Int.le_refl _) (by omega) (fun _=>rfl)
   have hb := begin_cl g hg t a
   have hlv := cut_live _ (live_th hg hb.1 hL (Int.le_refl _) (by omega) hb.2)
   have h := search_law g hg t a t.length h1 (k + 1) a false st sp σ (beginR g t a) none (Int.le_refl _) h1 (by omega) rfl (begin_th g hg t a).1 hi1 (by rw [hst]; exact Pos2.of hs1) (fun h=>by cases h) (.inr hlv)
   have e2 : ∀ (K d : Nat),(t.length : Int) - a < K→runR g t a (K + d) (beginR g t a) none=runR g t a K (beginR g t a) none := by
    intro K d hK
    induction d with
    | zero=>rfl
    | succ d ih=>rw [← ih]; exact runR_gas g t a (K + d) _ _ (by show a≤_; exact h1) (by show (t.length : Int) - a < _; omega)
   have hrun : run0 g t a=runR g t a (k + 1) (beginR g t a) none := by
    unfold run0
    have q1 := e2 ((t.length : Int) - a + 1).toNat a.toNat (by omega)
    have q2 := e2 ((t.length : Int) - a + 1).toNat (k + 1 - ((t.length : Int) - a + 1).toNat) (by omega)
    rw [show ((t.length : Int) - a + 1).toNat + a.toNat=t.length + 1 by omega] at q1
    rw [show ((t.length : Int) - a + 1).toNat + (k + 1 - ((t.length : Int) - a + 1).toNat)=k + 1 by omega] at q2
    rw [q1,q2]
   obtain ⟨j,hj⟩ : ∃ j,((t.length : Int) - a + 1).toNat=j + 1 := ⟨((t.length : Int) - a + 1).toNat - 1,by omega⟩
   rw [h.1,← hrun,hj,firstG]
   rw [← hrun] at h
   cases hr : run0 g t a with
   | none=>rw [hr] at h; cases h.2
   | some m=>rfl
  ·have hr := run0_dead g hg t a hL
   obtain ⟨j,hj⟩ : ∃ j,((t.length : Int) - a + 1).toNat=j + 1 := ⟨((t.length : Int) - a + 1).toNat - 1,by omega⟩
   rw [hj,firstG,hr]
   simp only
   have hs1 : Sim2 g t a a (pStart g t a t.length false st) (rNone g) := by rw [hst]; exact add_dead_p g hg t a a a (Int.le_refl _) (rGas g) 0 (pBlank g) st (rNone g) hi.ok hs (Int.le_refl _) (by omega) hL
   rw [pLoop]
   generalize pStart g t a t.length false st=st1 at *
   have hcl : st1.closed=false := by rw [hs1.done]; rfl
   have hno := hs1.noDone hcl
   have hσ1 : (fF g σ a st1.list).2=none := by
    unfold fF
    cases hq : st1.list[st1.list.length - 1]? with
    | none=>exact hσ
    | some x=>simp only; rw [if_neg (hno x (List.mem_of_getElem? hq))]; exact hσ
   have hdead : ∀ x ∈ st1.list,¬ Live g t x.insn a := fun x hx hLx=>by
    have : x.toR ∈ (st1.list.filter (liveP g t a)).map PTh.toR := List.mem_map.2 ⟨x,List.mem_filter.2 ⟨hx,liveP_iff.2 hLx⟩,rfl⟩
    rw [hs1.list] at this
    simp [rNone,cutR] at this
   have hF : (firstSee g).F σ a st1.list=fF g σ a st1.list := rfl
   have hB : (firstSee g).B σ a st1.list=true := rfl
   rw [hF,hB]
   simp only [hcl,Bool.or_false]
   by_cases hal : (t.length : Int)≤a
   ·rw [if_pos (.inr (.inr hal))]
    have hj0 : j=0 := by omega
    subst hj0
    exact hσ1
   ·rw [if_neg (fun h=>h.elim (fun h=>by cases h) (fun h=>h.elim (fun h=>h.2.elim (fun h=>by cases h) hal) hal))]
    have hinv0 : (⟨st1.marks,false,sp.1,0,sp.2⟩ : PSt).inv g (a + 1) := by
     have hm1 := hi1.ok.len
     refine ⟨⟨hm1,Nat.zero_le _⟩,?_,fun x hx=>by simp [PSt.list] at hx⟩
     have := unm_le (a + 1) st1.marks
     show 0 + unm (a + 1) st1.marks≤_; omega
    have hz := sim2_zero g t (a + 1) a st1.marks sp.1 sp.2 hi1.ok.len hs1.le
    have hfs := feed_sim2 g hg t a a (by omega) st1.list [] _ _ (fun x hx=>⟨hi1.th x hx,hs1.from1 x hx,fun hLx=>absurd hLx (hdead x hx)⟩) (fun y hy=>by cases hy) (by
     rw [List.filter_eq_nil_iff.2 (fun x hx h=>hdead x hx (liveP_iff.1 h))]; rfl) hinv0.ok hz
    have hfk := pFeed_keep g hg t a st1.list _ hi1.th hinv0
    have ej : j=((t.length : Int) - (a + 1) + 1).toNat := by omega
    rw [ej]
    refine first_phase g hg t k (a + 1) _ _ _ (by omega) (by omega) (by omega) hfk ?_ hσ1
    exact ⟨hfs.added,hfs.marks,hfs.list,hfs.done,hfs.last,fun x hx=>by have := hfs.from1 x hx; omega,fun x hx hLx=>by
     have : x.toR ∈ ((pFeed g t a st1.list ⟨st1.marks,false,sp.1,0,sp.2⟩).list.filter (liveP g t (a + 1))).map PTh.toR := List.mem_map.2 ⟨x,List.mem_filter.2 ⟨hx,liveP_iff.2 hLx⟩,rfl⟩
     rw [hfs.list] at this
     simp [rNone,cutR] at this,hfs.le⟩
theorem first_all (g : Prg) (hg : g.good) (t : List Int) (a : Int) (h0 : 0≤a) (h1 : a≤t.length) : (pFirst g t a t.length).2.2=firstG g t ((t.length : Int) - a + 1).toNat a := by
 have hinv : (pBegin g).inv g a := by
  refine ⟨⟨by simp [pBegin],Nat.le_refl _⟩,?_,fun x hx=>by simp [PSt.list,pBegin] at hx⟩
  have := unm_le a (pBegin g).marks
  have h' : (pBegin g).marks.length=g.ins.length := by simp [pBegin]
  show 0 + unm a (pBegin g).marks≤_; omega
 have hs : Sim2 g t a a (pBegin g) (rNone g) := sim2_zero g t a a _ [] 0 (by simp) (fun m hm=>by rw [(List.mem_replicate.1 hm).2]; exact h0)
 exact first_phase g hg t (t.length + 1) a (pBegin g) ([],0) (false,none) h0 h1 (by omega) hinv hs rfl
end Go.Proofs.Ytdofoappodmcoaa
