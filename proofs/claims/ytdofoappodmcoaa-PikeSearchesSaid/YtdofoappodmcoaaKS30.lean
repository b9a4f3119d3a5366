/- A part of the proof (K21 K22 K23). -/
import Derived.Test.YtdofoappodmcoaaKS29
set_option linter.unusedSimpArgs false
set_option linter.unusedVariables false
set_option maxRecDepth 100000
set_option maxHeartbeats 80000000
namespace Go.Proofs.Ytdofoappodmcoaa
open Go.VL Go.Proofs.Try
def rGas (g : Prg) : Nat := g.ins.length + 1
def rNone (g : Prg) : RSt := ⟨List.replicate g.ins.length false,[]⟩
structure RList where
 at_ : Int
 st : RSt
def thsD (l : List RTh) : D := .sl (l.map RTh.cells)
def rlD (l : RList) : D := .el [iD l.at_,thsD l.st.ths,.sl (l.st.added.map fun b=>[bD b])]
def beginR (g : Prg) (t : List Int) (at_ : Int) : RList := ⟨at_,rAdd g t at_ (rGas g) 0 (List.replicate (2 * g.caps).toNat (-1)) (rNone g)⟩
theorem free_none (n : Nat) : free (List.replicate n false)=n := by
 induction n with
 | zero=>rfl
 | succ n ih=>unfold free at *; rw [List.replicate_succ,List.countP_cons]; simp; omega
theorem free_le (l : List Bool) : free l≤l.length := List.countP_le_length
def boxP (g : Prg) : VL.Obj := ⟨0,true,3,[[.d (.sl (g.ins.map Ins.cells)),i64 g.caps,bV g.runes]]⟩
theorem begin_ok (g : Prg) (hg : g.good) (t : List Int) (ht : t.length≤65536) (at_ : Int) (ha0 : 0≤at_) (ha1 : at_≤t.length) : PureOK prog 40 [prgV g,.d (intsD t),i64 at_] (.d (rlD (beginR g t at_))) := by
 have hl1 := hg.len1
 have hl0 := hg.len0
 have hc0 := hg.caps0
 have hc1 := hg.caps1
 have w1 : IntKind.i64.wrap (2 * g.caps)=2 * g.caps := w64 _ (by omega)
 have hadd := rAdd_ok 0 g hg t ht at_ ha0 ha1 g.ins.length 0 (List.replicate (2 * g.caps).toNat (-1)) (rNone g) (Int.le_refl _) (by omega) (by simp) (by simp [rNone]) (by simp only [rNone]; rw [free_none]; omega) (by simp only [rNone]; rw [free_none]; simp; omega)
 unfold beginR rGas
 generalize rAdd g t at_ (g.ins.length + 1) 0 (List.replicate (2 * g.caps).toNat (-1)) (rNone g)=R at *
 refine fn_ok func40 rfl ntmps40 results40 rfl 0 975 (by simp) (by simp) ?_
 simp only [zX,simprocAttr,i64,bV,iD,bD,prgV_eq]
 refine ⟨⟨Int.le_refl _,by omega,by omega⟩,?_⟩
 refine loop_rule (fun m e s=>∃ i gg : Nat,m=(2 * g.caps).toNat - i∧(i : Int)≤2 * g.caps∧e 1=.d (intsD t)∧e 3=.rf 0 0 0 0∧e 7=.rf 2 0 0 0∧e 8=.so 3 gg 0 i∧e 9=i64 i∧s=[boxP g,⟨0,true,1,List.replicate g.ins.length [bV false]⟩,⟨0,true,3,[[i64 at_,.fu [],.so 1 0 0 g.ins.length]]⟩,⟨gg,true,1,(List.replicate i (-1 : Int)).map fun x=>[.d (iD x)]⟩])
  ⟨_,_,_,.of0 (reserveSlot 8 1 rfl),0,0,rfl,by omega,rfl,rfl,rfl,rfl,rfl,rfl⟩ ?_
 rintro m e s ⟨i,gg,rfl,hi,h1,h3,h7,h8,h9,rfl⟩
 by_cases hlt : (i : Int) < 2 * g.caps
 ·simp only [zX,simprocAttr,i64,bV,iD,bD,boxP,h1,h3,h7,h8,h9,w1,hlt]
  refine ⟨fun e he=>by rw [List.mem_singleton.1 he]; rfl,⟨by simp,by omega⟩,(2 * g.caps).toNat - (i + 1),_,_,by omega,Cln.refl,i + 1,gg + 1,rfl,by omega,?_,?_,?_,?_,?_,?_⟩ <;> (try simp only [zU,Nat.reduceBEq,Nat.reduceShiftRight,Nat.reduceMod,Nat.reduceEqDiff,reduceIte])
  ·exact h1
  ·exact h3
  ·exact h7
  ·rw [w64 _ (by omega)]; rfl
  ·rw [List.take_of_length_le (by simp),List.replicate_succ']; simp
 ·have hie : i=(2 * g.caps).toNat := by omega
  simp only [zX,simprocAttr,i64,bV,iD,bD,boxP,h1,h3,h7,h8,h9,w1,hlt]
  subst hie
  have hf : ∀ s2 : List VL.Obj,s2[3]?=some ⟨gg,false,1,(List.replicate (2 * g.caps).toNat (-1 : Int)).map fun x=>[V.d (.sc (.int .i64 x))]⟩→frzV 4 s2 (.so 3 gg 0 (2 * g.caps).toNat)=some (.d (intsD (List.replicate (2 * g.caps).toNat (-1)))) := fun s2 h=>by
   refine frz_ownK (ds := (List.replicate (2 * g.caps).toNat (-1 : Int)).map fun x=>[iD x]) h ?_ (by simp) (.inr rfl)
   rw [List.drop_zero,List.take_of_length_le (by simp)]
   simp [iD]
  refine call_give (cargs := [.rf 2 0 0 0,prgV g,.d (intsD t),i64 0,.d (intsD (List.replicate (2 * g.caps).toNat (-1)))]) [3] ?_ ?_
  ·simp only [killO,kill1,List.getElem?_cons_succ,List.getElem?_cons_zero,List.set_cons_succ,List.set_cons_zero,List.length_cons,List.length_nil,frzV.go]
   rw [hf _ rfl]
   simp [frzV,frzV.go,frzD,prgV_eq,i64,iD,bD]
  ·simp only [killO,kill1,List.getElem?_cons_succ,List.getElem?_cons_zero,List.set_cons_succ,List.set_cons_zero]
   refine call_reserve (pre := [.d (.sc (.int .i64 at_))]) (post := [.so 1 0 0 g.ins.length]) 2 2 rfl rfl rfl ?_
   refine call_list (X := 2) (Y := 1) (Z := 4) hadd (by decide) ?_ ?_ ?_ rfl rfl rfl ?_
   ·simp [lO1,rNone,i64]
   ·simp [lO2,rNone,bV]
   ·simp [lO3,rNone]
   simp only [List.set_cons_succ,List.set_cons_zero,List.cons_append,List.nil_append]
   have e2 : (R.added.map fun b=>[V.d (.sc (.bool b))])=((R.added.map fun b=>[bD b]).map fun c=>c.map V.d) := by simp [bD]
   have e3 : (R.ths.map fun x=>x.cells.map V.d)=((R.ths.map RTh.cells).map fun c=>c.map V.d) := by simp
   unfold lO1 lO2 lO3
   simp only [bV,e2,e3]
   simp only [zX,simprocAttr,i64,bV,iD,boxP,h1,h3,h7,h8,h9]
   rw [frz_data 6 0 _ _ _ (by simp),frz_data 6 0 _ _ _ (by simp),if_pos (by simp),if_pos (by simp)]
   rfl
structure RTh.ok (g : Prg) (x : RTh) : Prop where
 p0 : 0≤x.pc
 p1 : x.pc < g.ins.length
 regs : x.regs.length=(2 * g.caps).toNat
 op : (insAt g x.pc).op=0 ∨ (insAt g x.pc).op=1
theorem rAdd_all (g : Prg) (hg : g.good) (t : List Int) (at_ : Int) : ∀ (k : Nat) (pc : Int) (regs : List Int) (st : RSt),0≤pc→pc < g.ins.length→regs.length=(2 * g.caps).toNat→(∀ x ∈ st.ths,x.ok g)→∀ x ∈ (rAdd g t at_ k pc regs st).ths,x.ok g
 | 0,_,_,st,_,_,_,h=>by simpa [rAdd] using h
 | k + 1,pc,regs,st,h0,h1,hr,h=>by
  have hx := insAt_get h0 h1
  have hs := hg.split pc.toNat _ hx
  have hj := hg.jump pc.toNat _ hx
  have hn := hg.next pc.toNat _ hx
  have ho := hg.ops _ (List.mem_of_getElem? hx)
  rw [rAdd]
  split
  ·exact h
  simp only
  split
  ·rename_i o2
   have := hs o2
   exact rAdd_all g hg t at_ k _ _ _ (by omega) (by omega) hr (rAdd_all g hg t at_ k _ _ _ (by omega) (by omega) hr h)
  split
  ·rename_i o3
   have := hj o3
   exact rAdd_all g hg t at_ k _ _ _ (by omega) (by omega) hr h
  split
  ·rename_i o4
   have := hn (.inr (by omega))
   exact rAdd_all g hg t at_ k _ _ _ (by omega) (by omega) (by simpa using hr) h
  split
  ·rename_i o5
   have := hn (.inr (by omega))
   split
   ·exact rAdd_all g hg t at_ k _ _ _ (by omega) (by omega) hr h
   ·exact h
  ·intro x hx
   rcases List.mem_append.1 hx with hx | hx
   ·exact h x hx
   ·rw [List.mem_singleton.1 hx]
    exact ⟨h0,h1,hr,by show (insAt g pc).op=0 ∨ (insAt g pc).op=1; omega⟩
def cutR (g : Prg) : List RTh→List RTh × Bool
 | []=>([],false)
 | x :: l=>if (insAt g x.pc).op=0 then ([x],true) else (x :: (cutR g l).1,(cutR g l).2)
theorem cutR_at (g : Prg) : ∀ (l : List RTh) (i : Nat) (x : RTh),(∀ y ∈ l.take i,(insAt g y.pc).op ≠ 0)→l[i]?=some x→(insAt g x.pc).op=0→cutR g l=(l.take (i + 1),true)
 | [],i,x,_,h,_=>by simp at h
 | y :: l,0,x,_,h,h0=>by
  simp only [List.getElem?_cons_zero,Option.some.injEq] at h
  subst h
  simp [cutR,h0]
 | y :: l,i + 1,x,hn,h,h0=>by
  have hy := hn y (by simp)
  have := cutR_at g l i x (fun z hz=>hn z (by simp [hz])) (by simpa using h) h0
  rw [cutR,if_neg hy,this]; simp
theorem cutR_none (g : Prg) : ∀ (l : List RTh),(∀ y ∈ l,(insAt g y.pc).op ≠ 0)→cutR g l=(l,false)
 | [],_=>rfl
 | y :: l,h=>by rw [cutR,if_neg (h y (by simp)),cutR_none g l (fun z hz=>h z (by simp [hz]))]
theorem cutR_sub (g : Prg) : ∀ (l : List RTh),∀ x ∈ (cutR g l).1,x ∈ l
 | [],x,h=>by simp [cutR] at h
 | y :: l,x,h=>by
  rw [cutR] at h
  split at h
  ·simp only [List.mem_singleton] at h; subst h; simp
  ·rcases List.mem_cons.1 h with rfl | h
   ·simp
   ·exact List.mem_cons_of_mem _ (cutR_sub g l x h)
theorem cutR_len (g : Prg) : ∀ (l : List RTh),(cutR g l).1.length≤l.length
 | []=>by simp [cutR]
 | y :: l=>by
  rw [cutR]
  split
  ·simp
  ·simp only [List.length_cons]; have := cutR_len g l; omega
theorem cut_ok (g : Prg) (hg : g.good) (l : RList) (hl : ∀ x ∈ l.st.ths,x.ok g) (hn : l.st.ths.length≤1000000) : PureOK prog 42 [.d (rlD l),prgV g] (.tu [.d (thsD (cutR g l.st.ths).1),bV (cutR g l.st.ths).2]) := by
 unfold rlD thsD
 generalize l.st.ths=L at *
 generalize l.st.added=A at *
 refine fn_ok func42 rfl ntmps42 results42 rfl 0 123 (by simp) (by simp) ?_
 simp only [zX,simprocAttr,i64,bV,iD,bD,prgV_eq]
 refine loop_rule (fun n e s=>∃ i : Nat,n=L.length - i∧i≤L.length∧e 0=.d (.el [iD l.at_,.sl (L.map RTh.cells),.sl (A.map fun b=>[bD b])])∧e 3=.rf 0 0 0 0∧e 6=i64 i∧s=[boxP g]∧∀ y ∈ L.take i,(insAt g y.pc).op ≠ 0)
  ⟨_,_,_,Cln.refl,0,rfl,by omega,rfl,rfl,rfl,rfl,by simp⟩ ?_
 rintro n e s ⟨i,rfl,hi,h0,h3,h6,rfl,hno⟩
 rcases Nat.lt_or_ge i L.length with hlt | hge
 ·obtain ⟨x,hx⟩ : ∃ x,L[i]?=some x := ⟨_,List.getElem?_eq_getElem hlt⟩
  have hlt' : (i : Int) < L.length := by omega
  have hxo := hl x (List.mem_of_getElem? hx)
  have hp0 := hxo.p0
  have hp1 := hxo.p1
  have hins := insAt_get hp0 hp1
  have w1 : IntKind.i64.wrap ((i : Int) + 1)=i + 1 := w64 _ (by omega)
  simp only [zX,simprocAttr,i64,bV,iD,bD,boxP,h0,h3,h6,hlt',hx]
  refine draw_c mix [] [] (by rfl) ?_
  by_cases ho : (insAt g x.pc).op=0
  ·have ho' := eq_true ho
   rw [cutR_at g L i x hno hx ho]
   have b1 : (i : Int) + 1≤L.length := by omega
   simp only [zX,simprocAttr,i64,bV,iD,bD,boxP,h0,h3,h6,hlt',hx,RTh.cells,hp0,hp1,hins,Ins.cells,ho',w1,b1,List.length_map]
   refine ⟨by omega,?_⟩
   rw [show ((i : Int) + 1 - 0).toNat=i + 1 by omega,List.map_take]
  ·simp only [zX,simprocAttr,i64,bV,iD,bD,boxP,h0,h3,h6,hlt',hx,RTh.cells,hp0,hp1,hins,Ins.cells,ho]
   refine ⟨L.length - (i + 1),_,_,by omega,Cln.refl,i + 1,rfl,hlt,?_,?_,?_,rfl,?_⟩ <;> (try simp only [zU,Nat.reduceBEq,Nat.reduceShiftRight,Nat.reduceMod,Nat.reduceEqDiff,reduceIte])
   ·exact h0
   ·exact h3
   ·rw [w64 _ (by omega)]; rfl
   ·intro y hy
    rcases mem_take_succ hx hy with h | rfl
    ·exact hno y h
    ·exact ho
 ·have hie : i=L.length := by omega
  subst hie
  have hlt' : ¬ (L.length : Int) < L.length := by omega
  rw [List.take_length] at hno
  rw [cutR_none g L hno]
  simp only [zX,simprocAttr,i64,bV,iD,bD,boxP,h0,h3,h6,hlt']
def hasB (l : List (Int × Int)) (x : Int) : Bool := l.any fun s=>decide (s.1≤x∧x≤s.2)
theorem has3_ok (l : List (Int × Int)) (x : Int) (hl : l.length≤1000000) : PureOK prog 71 [.d (.sl (l.map spanC)),i64 x] (bV (hasB l x)) := by
 refine fn_ok func71 rfl ntmps71 results71 rfl 0 51 (by simp) (by simp) ?_
 simp only [zX,simprocAttr,i64]
 refine loop_rule (fun n e s=>∃ i : Nat,n=l.length - i∧i≤l.length∧e 0=.d (.sl (l.map spanC))∧e 1=i64 x∧e 5=i64 i∧s=[]∧(l.take i).any (fun s=>decide (s.1≤x∧x≤s.2))=false)
  ⟨_,_,_,Cln.refl,0,rfl,by omega,rfl,rfl,rfl,rfl,by simp⟩ ?_
 rintro n e s ⟨i,rfl,hi,h0,h1,h5,rfl,hno⟩
 rcases Nat.lt_or_ge i l.length with hlt | hge
 ·obtain ⟨k,hk⟩ : ∃ k,l[i]?=some k := ⟨_,List.getElem?_eq_getElem hlt⟩
  have hlt' : (i : Int) < l.length := by omega
  have hm := List.mem_of_getElem? hk
  by_cases c1 : k.1≤x
  ·by_cases c2 : x≤k.2
   ·simp only [zX,simprocAttr,i64,bV,iD,bD,spanC,h0,h1,h5,hlt',hk,c1,c2]
    have : hasB l x=true := List.any_eq_true.2 ⟨k,hm,by simp [c1,c2]⟩
    rw [this]
   ·simp only [zX,simprocAttr,i64,bV,iD,bD,spanC,h0,h1,h5,hlt',hk,c1,c2]
    refine ⟨l.length - (i + 1),_,_,by omega,Cln.refl,i + 1,rfl,hlt,?_,?_,?_,rfl,by rw [take_get hk,List.any_append,hno]; simp [c2]⟩ <;> (try simp only [zU,Nat.reduceBEq,Nat.reduceShiftRight,Nat.reduceMod,Nat.reduceEqDiff,reduceIte])
    ·exact h0
    ·exact h1
    ·rw [w64 _ (by omega)]; rfl
  ·simp only [zX,simprocAttr,i64,bV,iD,bD,spanC,h0,h1,h5,hlt',hk,c1]
   refine ⟨l.length - (i + 1),_,_,by omega,Cln.refl,i + 1,rfl,hlt,?_,?_,?_,rfl,by rw [take_get hk,List.any_append,hno]; simp [c1]⟩ <;> (try simp only [zU,Nat.reduceBEq,Nat.reduceShiftRight,Nat.reduceMod,Nat.reduceEqDiff,reduceIte])
   ·exact h0
   ·exact h1
   ·rw [w64 _ (by omega)]; rfl
 ·have hie : i=l.length := by omega
  subst hie
  have hlt' : ¬ (l.length : Int) < l.length := by omega
  rw [List.take_length] at hno
  simp only [zX,simprocAttr,i64,bV,iD,bD,h0,h1,h5,hlt']
  have : hasB l x=false := hno
  rw [this]
def nextS (g : Prg) (t : List Int) (at_ : Int) (st : RSt) (x : RTh) : RSt :=
 if (insAt g x.pc).op=1∧hasB (insAt g x.pc).set (tAt t at_)=true then rAdd g t (at_ + 1) (rGas g) (x.pc + 1) x.regs st else st
def nextF (g : Prg) (t : List Int) (at_ : Int) (l : List RTh) : RSt := l.foldl (nextS g t at_) (rNone g)
def nextR (g : Prg) (t : List Int) (l : RList) : RList := ⟨l.at_ + 1,nextF g t l.at_ (cutR g l.st.ths).1⟩
theorem nextF_snoc (g : Prg) (t : List Int) (at_ : Int) (l : List RTh) (x : RTh) : nextF g t at_ (l ++ [x])=nextS g t at_ (nextF g t at_ l) x := by
 unfold nextF; rw [List.foldl_append]; rfl
theorem nextF_inv (g : Prg) (hg : g.good) (t : List Int) (at_ : Int) : ∀ (l : List RTh) (st : RSt),(∀ x ∈ l,x.ok g)→st.added.length=g.ins.length→st.ths.length + free st.added≤g.ins.length→(∀ x ∈ st.ths,x.ok g) →
  (l.foldl (nextS g t at_) st).added.length=g.ins.length∧(l.foldl (nextS g t at_) st).ths.length + free (l.foldl (nextS g t at_) st).added≤g.ins.length∧∀ x ∈ (l.foldl (nextS g t at_) st).ths,x.ok g
 | [],st,_,h1,h2,h3=>⟨h1,h2,h3⟩
 | x :: l,st,hl,h1,h2,h3=>by
  rw [List.foldl_cons]
  have hx := hl x (by simp)
  have hins := insAt_get hx.p0 hx.p1
  refine nextF_inv g hg t at_ l _ (fun y hy=>hl y (by simp [hy])) ?_ ?_ ?_
  all_goals
   unfold nextS
   split
   ·rename_i hc
    have hn := hg.next x.pc.toNat _ hins (.inl hc.1)
    have hp0 := hx.p0
    have hb := rAdd_len g t (at_ + 1) (rGas g) (x.pc + 1) x.regs st
    first
     | omega
     | exact rAdd_all g hg t (at_ + 1) (rGas g) (x.pc + 1) x.regs st (by omega) (by omega) hx.regs h3
   ·first | exact h1 | exact h2 | exact h3
theorem nextF_ok (g : Prg) (hg : g.good) (t : List Int) (at_ : Int) (l : List RTh) (hl : ∀ x ∈ l,x.ok g) : (nextF g t at_ l).added.length=g.ins.length∧(nextF g t at_ l).ths.length + free (nextF g t at_ l).added≤g.ins.length∧∀ x ∈ (nextF g t at_ l).ths,x.ok g :=
 nextF_inv g hg t at_ l _ hl (by simp [rNone]) (by simp only [rNone]; rw [free_none]; simp) (fun x hx=>by simp [rNone] at hx)
theorem next_ok11 (g : Prg) (hg : g.good) (t : List Int) (ht : t.length≤65536) (l : RList) (hl : ∀ x ∈ l.st.ths,x.ok g) (hn : l.st.ths.length≤1000000) (ha0 : 0≤l.at_) (ha1 : l.at_ < t.length) : PureOK prog 41 [.d (rlD l),prgV g,.d (intsD t)] (.d (rlD (nextR g t l))) := by
 have hcut := cut_ok g hg l hl hn
 have hsub := cutR_sub g l.st.ths
 have hcl := cutR_len g l.st.ths
 have hl1 := hg.len1
 have hl0 := hg.len0
 have w1 : IntKind.i64.wrap (l.at_ + 1)=l.at_ + 1 := w64 _ (by omega)
 have htx : t[l.at_.toNat]?=some (tAt t l.at_) := tAt_get ha0 ha1
 unfold nextR
 generalize hC : (cutR g l.st.ths).1=C at *
 have hC' : ∀ x ∈ C,x.ok g := fun x hx=>hl x (hsub x hx)
 generalize (cutR g l.st.ths).2=cb at *
 unfold rlD at *
 simp only [iD,bD,bV,prgV_eq] at hcut
 refine fn_ok func41 rfl ntmps41 results41 rfl 0 7639 (by simp) (by simp) ?_
 simp only [zX,simprocAttr,i64,bV,iD,bD,prgV_eq]
 refine draw_first Cln0.reserve ?_
 refine draw_first Cln0.reserve ?_
 refine draw_c mix [] [(8,[1],[1]),(10,[2],[2])] (by rfl) ?_
 simp only [zX,simprocAttr,i64,bV,iD,bD,prgV_eq,w1,msAt,hole]
 refine ⟨⟨Int.le_refl _,by omega,by omega⟩,?_⟩
 refine call_pure hcut rfl rfl ?_
 simp only [zX,simprocAttr,i64,bV,iD,bD,prgV_eq,w1,hole]
 obtain ⟨LD,hLD⟩ : ∃ LD,LD=D.el [D.sc (Value.int IntKind.i64 l.at_),thsD l.st.ths,D.sl (l.st.added.map fun b=>[D.sc (Value.bool b)])] := ⟨_,rfl⟩
 refine loop_rule (fun n e s=>∃ (i : Nat) (st : RSt),n=C.length - i∧i≤C.length∧st=nextF g t l.at_ (C.take i)∧e 0=.d LD∧e 2=.d (intsD t)∧e 4=.rf 0 0 0 0∧e 7=.rf 2 1 0 0∧e 8=.d (thsD C)∧e 10=i64 i∧s=[boxP g,lO2 1 st,lO1 1 1 3 (l.at_ + 1) st,lO3 st])
  ⟨_,_,_,.of0 (reserveCell (pre := [.d (.sc (.int .i64 (l.at_ + 1)))]) (post := [.so 1 1 0 g.ins.length]) 2 2 rfl rfl rfl),0,rNone g,rfl,by omega,rfl,by rw [hLD]; rfl,rfl,rfl,rfl,rfl,rfl,by simp [boxP,lO1,lO2,lO3,rNone,i64,bV]⟩ ?_
 rintro n e s ⟨i,st,rfl,hi,hst,h0,h2,h4,h7,h8,h10,rfl⟩
 obtain ⟨n1,n2,n3⟩ := nextF_ok g hg t l.at_ (C.take i) (fun x hx=>hC' x (List.mem_of_mem_take hx))
 rw [← hst] at n1 n2 n3
 have hfl := free_le st.added
 rcases Nat.lt_or_ge i C.length with hlt | hge
 ·obtain ⟨x,hx⟩ : ∃ x,C[i]?=some x := ⟨_,List.getElem?_eq_getElem hlt⟩
  have hlt' : (i : Int) < C.length := by omega
  have hxo := hC' x (List.mem_of_getElem? hx)
  have hp0 := hxo.p0
  have hp1 := hxo.p1
  have hins := insAt_get hp0 hp1
  have hsl := hg.sets _ (List.mem_of_getElem? hins)
  have hhas := has3_ok (insAt g x.pc).set (tAt t l.at_) (by omega)
  have hnx := hg.next x.pc.toNat _ hins
  have w2 : IntKind.i64.wrap (x.pc + 1)=x.pc + 1 := w64 _ (by omega)
  have hst' : nextF g t l.at_ (C.take (i + 1))=nextS g t l.at_ st x := by rw [take_get hx,nextF_snoc,← hst]
  simp only [i64,bV] at hhas
  rw [hLD] at h0
  unfold thsD at h8
  simp only [zX,simprocAttr,i64,bV,iD,bD,prgV_eq,boxP,h0,h2,h4,h7,h8,h10,hlt']
  refine draw_first Cln0.reserve ?_
  refine draw_c mix [] [(9,[4],[4]),(10,[4],[4])] (by rfl) ?_
  simp only [zX,simprocAttr,i64,bV,iD,bD,prgV_eq,boxP,h0,h2,h4,h7,h8,h10,hlt',hx,RTh.cells,hp0,hp1,hins,Ins.cells,hole]
  refine draw_c mix [] [] (by rfl) ?_
  simp only [zX,simprocAttr,i64,bV,iD,bD,prgV_eq,boxP,h0,h2,h4,h7,h8,h10,hlt',hx,RTh.cells,hp0,hp1,hins,Ins.cells,hole,ha0,ha1,htx]
  refine callC_pure hhas rfl rfl ?_
  simp only [zX,simprocAttr,i64,bV,iD,bD,prgV_eq,boxP,h0,h2,h4,h7,h8,h10,hlt',hx,RTh.cells,hp0,hp1,hins,Ins.cells,hole]
  have hobj : ∀ st' : RSt,([boxP g,lO2 1 st',lO1 1 1 3 (l.at_ + 1) st',lO3 st'].all (objOk 4))=true := fun st'=>by
   simp only [List.all_cons,List.all_nil,lO2_ok,lO3_ok,Bool.and_true]
   simp [boxP,lO1,objOk,refsV,i64,bV]
  by_cases ho : (insAt g x.pc).op=1
  ·have ho' := eq_true ho
   cases hh' : hasB (insAt g x.pc).set (tAt t l.at_) with
   | true =>
    have hS : nextS g t l.at_ st x=rAdd g t (l.at_ + 1) (g.ins.length + 1) (x.pc + 1) x.regs st := by unfold nextS rGas; rw [if_pos ⟨ho,hh'⟩]
    have hadd := rAdd_ok 1 g hg t ht (l.at_ + 1) (by omega) (by omega) g.ins.length (x.pc + 1) x.regs st (by omega) (by have := hnx (.inl ho); omega) hxo.regs n1 (by omega) (by omega)
    generalize rAdd g t (l.at_ + 1) (g.ins.length + 1) (x.pc + 1) x.regs st=R at *
    simp only [zX,simprocAttr,i64,bV,iD,bD,prgV_eq,boxP,h0,h2,h4,h7,h8,h10,hlt',hx,RTh.cells,hp0,hp1,hins,Ins.cells,hole,ho',hh',w2]
    refine draw_c mix [14] [] (by rfl) ?_
    simp only [zX,simprocAttr,i64,bV,iD,bD,prgV_eq,boxP,h0,h2,h4,h7,h8,h10,hlt',hx,RTh.cells,hp0,hp1,hins,Ins.cells,hole,ho',hh',w2]
    refine callD_of (call_list (X := 2) (Y := 1) (Z := 3) hadd (by decide) rfl rfl rfl rfl rfl rfl ⟨rfl,rfl⟩) ?_
    simp only [List.set_cons_zero,List.set_cons_succ]
    simp only [zX,simprocAttr,i64,bV,iD,bD,prgV_eq,boxP,h0,h2,h4,h7,h8,h10,hlt',hx,RTh.cells,hp0,hp1,hins,Ins.cells,hole,ho',hh',w2]
    refine ⟨C.length - (i + 1),_,_,by omega,Cln.cut (s' := [boxP g,lO2 1 (R),lO1 1 1 3 (l.at_ + 1) (R),lO3 (R)]) 4 (by omega) ?_ (hobj _) [0,2,4,7,8,10] ?_,i + 1,R,rfl,hlt,by rw [hst',hS],?_,?_,?_,?_,?_,?_,rfl⟩ <;> (try simp only [zU,Nat.reduceBEq,Nat.reduceShiftRight,Nat.reduceMod,Nat.reduceEqDiff,reduceIte])
    ·simp [boxP,i64,bV,iD,bD]
    ·simp [updE,trimE_app,refsV,h0,h2,h4,h7,h8,i64]
    ·rw [hLD]; exact h0
    ·exact h2
    ·exact h4
    ·exact h7
    ·exact h8
    ·rw [w64 _ (by omega)]; rfl
   | false =>
    have hS : nextS g t l.at_ st x=st := by unfold nextS; rw [if_neg (by rw [hh']; simp)]
    simp only [zX,simprocAttr,i64,bV,iD,bD,prgV_eq,boxP,h0,h2,h4,h7,h8,h10,hlt',hx,RTh.cells,hp0,hp1,hins,Ins.cells,hole,ho',hh',w2]
    refine ⟨C.length - (i + 1),_,_,by omega,Cln.cut (s' := [boxP g,lO2 1 (st),lO1 1 1 3 (l.at_ + 1) (st),lO3 (st)]) 4 (by omega) ?_ (hobj _) [0,2,4,7,8,10] ?_,i + 1,st,rfl,hlt,by rw [hst',hS],?_,?_,?_,?_,?_,?_,rfl⟩ <;> (try simp only [zU,Nat.reduceBEq,Nat.reduceShiftRight,Nat.reduceMod,Nat.reduceEqDiff,reduceIte])
    ·simp [boxP,i64,bV,iD,bD]
    ·simp [updE,trimE_app,refsV,h0,h2,h4,h7,h8,i64]
    ·rw [hLD]; exact h0
    ·exact h2
    ·exact h4
    ·exact h7
    ·exact h8
    ·rw [w64 _ (by omega)]; rfl
  ·have ho' := ho
   have hS : nextS g t l.at_ st x=st := by unfold nextS; rw [if_neg (fun h=>ho h.1)]
   have hh' : True := trivial
   simp only [zX,simprocAttr,i64,bV,iD,bD,prgV_eq,boxP,h0,h2,h4,h7,h8,h10,hlt',hx,RTh.cells,hp0,hp1,hins,Ins.cells,hole,ho',hh',w2]
   refine ⟨C.length - (i + 1),_,_,by omega,Cln.cut (s' := [boxP g,lO2 1 (st),lO1 1 1 3 (l.at_ + 1) (st),lO3 (st)]) 4 (by omega) ?_ (hobj _) [0,2,4,7,8,10] ?_,i + 1,st,rfl,hlt,by rw [hst',hS],?_,?_,?_,?_,?_,?_,rfl⟩ <;> (try simp only [zU,Nat.reduceBEq,Nat.reduceShiftRight,Nat.reduceMod,Nat.reduceEqDiff,reduceIte])
   ·simp [boxP,i64,bV,iD,bD]
   ·simp [updE,trimE_app,refsV,h0,h2,h4,h7,h8,i64]
   ·rw [hLD]; exact h0
   ·exact h2
   ·exact h4
   ·exact h7
   ·exact h8
   ·rw [w64 _ (by omega)]; rfl
 ·have hie : i=C.length := by omega
  subst hie
  have hlt' : ¬ (C.length : Int) < C.length := by omega
  rw [List.take_length] at hst
  rw [← hst]
  unfold thsD at h8
  have e2 : (st.added.map fun b=>[V.d (.sc (.bool b))])=((st.added.map fun b=>[bD b]).map fun c=>c.map V.d) := by simp [bD]
  have e3 : (st.ths.map fun x=>x.cells.map V.d)=((st.ths.map RTh.cells).map fun c=>c.map V.d) := by simp
  unfold lO1 lO2 lO3
  simp only [bV,e2,e3]
  simp only [zX,simprocAttr,i64,bV,iD,boxP,h0,h2,h4,h7,h8,h10,hlt']
  rw [frz_data 6 0 _ _ _ (by simp),frz_data 6 0 _ _ _ (by simp),if_pos (by simp),if_pos (by simp)]
  rfl
end Go.Proofs.Ytdofoappodmcoaa
