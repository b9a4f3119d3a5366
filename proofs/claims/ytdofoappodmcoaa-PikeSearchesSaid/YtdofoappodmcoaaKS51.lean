/- A part of the proof (K7 K8 K9). -/
import Derived.Test.YtdofoappodmcoaaKS18
import Derived.Test.YtdofoappodmcoaaKS19
import Derived.Test.YtdofoappodmcoaaKS50
set_option linter.unusedSimpArgs false
set_option linter.unusedVariables false
set_option maxRecDepth 100000
set_option maxHeartbeats 80000000
namespace Go.Proofs.Ytdofoappodmcoaa
open Go.VL Go.Proofs.Try
def isLeaf (re : Re) : Prop := re.op=0 ∨ re.op=1 ∨ re.op=11
theorem code_leaf (re : Re) (hs : re.every kshD=true) (hl : isLeaf re) (f : Int) : PureOK prog 63 [reV re,i64 f] (.fu ((re.code f).map Ins.cells)) := by
 obtain ⟨hs1,hs2⟩ := (Re.every_iff re).1 hs
 obtain ⟨hcc,hop,h1k,hk0⟩ := kshD_iff.1 hs1
 rcases hl with o | o | o
 ·have hc : re.code f=[] := by rw [Re.code_eq,if_neg (by omega),if_neg (by omega),if_neg (by omega),if_neg (by omega),if_neg (by omega),if_neg (by omega)]
  rw [hc]
  refine fn_keep func63 rfl ntmps63 results63 rfl 0 3063 (by simp) (by simp) ?_
  simp only [zX,simprocAttr,i64,reV_eq re,iD,bD,o,Qkeep_app,keepWp,refsV,refsV.go]
  all_goals first | exact ⟨rfl,rfl⟩ | exact ⟨rfl,trivial⟩ | rfl | trivial | (rw [reV_eq]; rfl)
 ·have hc : re.code f=[⟨1,0,0,0,re.set⟩] := by rw [Re.code_eq,if_pos o]
  rw [hc]
  refine fn_keep func63 rfl ntmps63 results63 rfl 0 3063 (by simp) (by simp) ?_
  simp only [zX,simprocAttr,i64,reV_eq re,iD,bD,o,Qkeep_app,keepWp,refsV,refsV.go]
  all_goals first | exact ⟨rfl,rfl⟩ | exact ⟨rfl,trivial⟩ | rfl | trivial | (rw [reV_eq]; rfl)
 ·have hc : re.code f=[⟨5,0,0,re.n,[]⟩] := by rw [Re.code_eq,if_neg (by omega),if_pos o]
  rw [hc]
  refine fn_keep func63 rfl ntmps63 results63 rfl 0 3063 (by simp) (by simp) ?_
  simp only [zX,simprocAttr,i64,reV_eq re,iD,bD,o,Qkeep_app,keepWp,refsV,refsV.go]
  all_goals first | exact ⟨rfl,rfl⟩ | exact ⟨rfl,trivial⟩ | rfl | trivial | (rw [reV_eq]; rfl)
theorem code_cat (re : Re) (hs : re.every kshD=true) (hz : re.csz≤8500) (o : re.op=2) (hc : ∀ k ∈ re.kids,CodeOK k) (f : Int) (h0 : 0≤f) (h1 : f≤1000000000000000000 - 100000000 * re.size) : OwnSl prog 63 [reV re,i64 f] 5 ((re.code f).map Ins.cells) := by
 obtain ⟨hs1,hs2⟩ := (Re.every_iff re).1 hs
 obtain ⟨q1,q2,q3,_⟩ := kshB_iff.1 (kshC_iff.1 (kshD_iff.1 hs1).1).1
 have hkz := csz_kid hs (by omega) ⟨by omega,by omega⟩
 have hkl : ∀ k ∈ re.kids,∀ f,((k.code f).length : Int)=k.csz := fun k hk=>code_len k (hs2 k hk) (hkz.2 k hk)
 have hc0 : re.code f=Re.codeCat re.kids f := by rw [Re.code_eq,if_neg (by omega),if_neg (by omega),if_pos o]
 have hcl : ∀ i,((Re.codeCat (re.kids.take i) f).length : Int)≤10000000 := fun i=>by
  rw [codeCat_len (fun k hk=>hkl k (List.mem_of_mem_take hk)) f]
  have := (cszL_range (l := re.kids.take i) (fun k hk=>csz_range k (every_DC (hs2 k (List.mem_of_mem_take hk))))).2
  rw [List.length_take] at this
  omega
 rw [hc0]
 unfold OwnSl
 refine fn_own func63 rfl ntmps63 results63 rfl 0 3063 (by simp) (by simp) ?_
 simp only [zX,simprocAttr,i64,reV_eq re,iD,bD,o]
 refine loop_rule (fun n e s=>∃ (i g : Nat),n=re.kids.length - i∧i≤re.kids.length∧e 1=i64 f∧e 2=.rf 0 0 0 0∧e 5=.so 1 g 0 (Re.codeCat (re.kids.take i) f).length∧e 6=i64 i∧s=[boxR re,arrI g (Re.codeCat (re.kids.take i) f)])
  ⟨_,_,_,.of0 (reserveSlot 5 5 rfl),0,0,rfl,by omega,rfl,rfl,rfl,rfl,by simp [boxR,Re.cells_eq re,iD,bD,o,arrI,Re.codeCat]⟩ ?_
 rintro n e s ⟨i,g,rfl,hi,h1',h2,h5,h6,rfl⟩
 rcases Nat.lt_or_ge i re.kids.length with hlt | hge
 ·obtain ⟨k,hk⟩ : ∃ k,re.kids[i]?=some k := ⟨_,List.getElem?_eq_getElem hlt⟩
  have hm := List.mem_of_getElem? hk
  have hlt' : (i : Int) < re.kids.length := by omega
  have hb := hcl i
  have hsk : k.size < re.size := Re.size_kid hm
  have hcode := hc k hm (f + (Re.codeCat (re.kids.take i) f).length) (by omega) (by omega)
  have hkl1 := hkl k hm (f + (Re.codeCat (re.kids.take i) f).length)
  have hkz1 := hkz.2 k hm
  have hsucc : Re.codeCat (re.kids.take (i + 1)) f=Re.codeCat (re.kids.take i) f ++ k.code (f + (Re.codeCat (re.kids.take i) f).length) := by rw [take_get hk,Re.codeCat_snoc]
  generalize k.code (f + (Re.codeCat (re.kids.take i) f).length)=kid at *
  generalize Re.codeCat (re.kids.take i) f=out at *
  have w1 : IntKind.i64.wrap (f + (out.length : Int))=f + (out.length : Int) := w64 _ (by omega)
  simp only [i64] at hcode
  simp only [zX,simprocAttr,i64,boxR,Re.cells_eq re,List.map_cons,List.map_nil,iD,bD,h1',h2,h5,h6,hlt',arrI,hk,w1]
  refine call_pure hcode (by simp [refsV,refsV.go,reV_eq]) (by simp [refsV,refsV.go,reV_eq,i64,bV,reEl]) ?_
  simp only [zX,simprocAttr,i64,boxR,Re.cells_eq re,List.map_cons,List.map_nil,iD,bD,h1',h2,h5,h6,arrI]
  refine ⟨ins_len _,⟨by simp,by omega⟩,re.kids.length - (i + 1),_,_,by omega,Cln.refl,i + 1,g + 1,rfl,by omega,?_,?_,?_,?_,?_⟩ <;> (try simp only [zU,Nat.reduceBEq,Nat.reduceShiftRight,Nat.reduceMod,Nat.reduceEqDiff,reduceIte])
  ·exact h1'
  ·exact h2
  ·rw [hsucc]; simp
  ·rw [w64 _ (by omega)]; rfl
  ·rw [ins_take _ _ (Nat.le_refl _),hsucc]
   simp [boxR,arrI,Re.cells_eq re,iD,bD]
 ·have hie : i=re.kids.length := by omega
  subst hie
  have hlt' : ¬ (re.kids.length : Int) < re.kids.length := by omega
  rw [List.take_length] at h5
  rw [List.take_length]
  simp only [zX,simprocAttr,i64,boxR,Re.cells_eq re,List.map_cons,List.map_nil,iD,bD,h1',h2,h5,h6,hlt',arrI,Qown]
  exact own_exit (id := 1) (by rfl) (by rfl) (by simp)
theorem code_cap (re k : Re) (hs : re.every kshD=true) (hz : re.csz≤8500) (o : re.op=5) (hk : re.kids=[k]) (hc : CodeOK k) (f : Int) (h0 : 0≤f) (h1 : f≤1000000000000000000 - 100000000 * re.size) : OwnSl prog 63 [reV re,i64 f] 5 ((re.code f).map Ins.cells) := by
 obtain ⟨hs1,hs2⟩ := (Re.every_iff re).1 hs
 obtain ⟨q1,q2,q3,q4,q5,q6,q7,q8,q9,q10⟩ := kshB_iff.1 (kshC_iff.1 (kshD_iff.1 hs1).1).1
 have hm : k ∈ re.kids := by rw [hk]; simp
 have hkz := (csz_kid hs (by omega) ⟨by omega,by omega⟩).2 k hm
 have hkl := code_len k (hs2 k hm) hkz (f + 1)
 have hkg : re.kids[0]?=some k := by rw [hk]; rfl
 have hkn : (0 : Int) < (re.kids.length : Int) := by rw [hk]; simp
 have hsk : k.size < re.size := Re.size_kid hm
 have hcode := hc (f + 1) (by omega) (by omega)
 have hc0 : re.code f=savI (2 * re.n - 2) :: (k.code (f + 1) ++ [savI (2 * re.n - 1)]) := by
  rw [Re.code_eq,if_neg (by omega),if_neg (by omega),if_neg (by omega),if_neg (by omega),if_pos o,hk]; rfl
 rw [hc0]
 generalize k.code (f + 1)=kid at *
 have w1 : IntKind.i64.wrap (f + 1)=f + 1 := w64 _ (by omega)
 have w2 : IntKind.i64.wrap (2 * re.n)=2 * re.n := w64 _ (by omega)
 have w3 : IntKind.i64.wrap (2 * re.n - 2)=2 * re.n - 2 := w64 _ (by omega)
 have w4 : IntKind.i64.wrap (2 * re.n - 1)=2 * re.n - 1 := w64 _ (by omega)
 simp only [i64] at hcode
 generalize hR : List.map Ins.cells (savI (2 * re.n - 2) :: (kid ++ [savI (2 * re.n - 1)]))=R
 unfold OwnSl
 refine fn_own func63 rfl ntmps63 results63 rfl 0 3063 (by simp) (by simp) ?_
 simp only [zX,simprocAttr,i64,reV_eq re,iD,bD,o]
 refine draw_first (reserveSlot 5 5 rfl) ?_
 refine draw_c mix [] [(7,[1],[1]),(15,[1],[1])] (by rfl) ?_
 simp only [zX,simprocAttr,i64,reV_eq re,iD,bD,o,hkg,hkn,w1,w2,w3]
 refine ⟨rfl,fun e he=>by rw [List.mem_singleton.1 he]; rfl,?_⟩
 refine callC_pure hcode (by simp [refsV,refsV.go,reV_eq]) (by simp [refsV,refsV.go,reV_eq,i64,bV,reEl]) ?_
 simp only [zX,simprocAttr,i64,reV_eq re,iD,bD,o,w2,w4]
 refine ⟨rfl,ins_len _,by omega,fun e he=>by rw [List.mem_singleton.1 he]; rfl,⟨by omega,by omega⟩,?_⟩
 simp only [zX,simprocAttr,i64,reV_eq re,iD,bD,o,w2,w4,Qown]
 refine own_exit (id := 1) (by rfl) ?_ ?_
 ·rw [List.take_of_length_le (by simp; omega),← hR]
  simp [savI,Ins.cells,iD]
 ·rw [← hR]; simp; omega
theorem code_alt (re k k2 : Re) (l : List Re) (hs : re.every kshD=true) (hz : re.csz≤8500) (o : re.op=3) (hk : re.kids=k :: k2 :: l) (hc : CodeOK k) (hc2 : CodeOK k2) (hc3 : l ≠ []→CodeOK (altK (k2 :: l))) (f : Int) (h0 : 0≤f) (h1 : f≤1000000000000000000 - 100000000 * re.size) : OwnSl prog 63 [reV re,i64 f] 5 ((re.code f).map Ins.cells) := by
 obtain ⟨hs1,hs2⟩ := (Re.every_iff re).1 hs
 obtain ⟨q1,q2,q3,q4,q5,q6,q7,q8,q9,q10⟩ := kshB_iff.1 (kshC_iff.1 (kshD_iff.1 hs1).1).1
 have hm : k ∈ re.kids := by rw [hk]; simp
 have hm2 : k2 ∈ re.kids := by rw [hk]; simp
 have hkz := csz_kid hs (by omega) ⟨by omega,by omega⟩
 have hkl := code_len k (hs2 k hm) (hkz.2 k hm) (f + 1)
 have hk1z := hkz.2 k hm
 have hk2z := hkz.2 k2 hm2
 have hkg : re.kids[0]?=some k := by rw [hk]; rfl
 have hkg2 : re.kids[1]?=some k2 := by rw [hk]; rfl
 have hkn : (0 : Int) < (re.kids.length : Int) := by rw [hk]; simp; omega
 have hkn2 : (1 : Int) < (re.kids.length : Int) := by rw [hk]; simp; omega
 have hsk : k.size < re.size := Re.size_kid hm
 have hsk2 : k2.size < re.size := Re.size_kid hm2
 have hcode := hc (f + 1) (by omega) (by omega)
 have hlen := code_len re hs (by omega) f
 have hc0 : re.code f=Re.codeAlt (k :: k2 :: l) f := by
  rw [Re.code_eq,if_neg (by omega),if_neg (by omega),if_neg (by omega),if_pos o,hk]
 have hc1 : Re.codeAlt (k :: k2 :: l) f=splI 0 (f + 1) (f + (k.code (f + 1)).length + 2) :: (k.code (f + 1) ++ jmpI (f + (k.code (f + 1)).length + 2 + (Re.codeAlt (k2 :: l) (f + (k.code (f + 1)).length + 2)).length) :: Re.codeAlt (k2 :: l) (f + (k.code (f + 1)).length + 2)) := by rw [Re.codeAlt]
 rw [hc0,hc1] at hlen ⊢
 generalize k.code (f + 1)=fst at *
 -- the later alternatives
 obtain ⟨rest,hrest,hrv,hrs,hrz,hrc⟩ : ∃ rest : Re,rest.code (f + fst.length + 2)=Re.codeAlt (k2 :: l) (f + fst.length + 2)∧(l=[]→rest=k2)∧(l ≠ []→rest=altK (k2 :: l))∧((Re.codeAlt (k2 :: l) (f + fst.length + 2)).length : Int)≤9000∧PureOK prog 63 [reV rest,i64 (f + fst.length + 2)] (.d (.sl ((Re.codeAlt (k2 :: l) (f + fst.length + 2)).map Ins.cells))) := by
  have hb : ((Re.codeAlt (k2 :: l) (f + fst.length + 2)).length : Int)≤9000 := by
   simp only [List.length_cons,List.length_append] at hlen
   omega
  by_cases hl : l=[]
  ·have e : k2.code (f + fst.length + 2)=Re.codeAlt (k2 :: l) (f + fst.length + 2) := by rw [hl,Re.codeAlt]
   refine ⟨k2,e,fun _=>rfl,fun h=>absurd hl h,hb,?_⟩
   rw [← e]
   exact hc2 _ (by omega) (by omega)
  ·have e : (altK (k2 :: l)).code (f + fst.length + 2)=Re.codeAlt (k2 :: l) (f + fst.length + 2) := by rw [Re.code_eq]; rfl
   refine ⟨altK (k2 :: l),e,fun h=>absurd h hl,fun _=>rfl,hb,?_⟩
   rw [← e]
   have hsz : (altK (k2 :: l)).size < re.size := by
    have e1 : (altK (k2 :: l)).size=1 + Re.sizeL (k2 :: l) := Re.size_eq _
    have e2 : re.size=1 + Re.sizeL (k :: k2 :: l) := by rw [← hk]; exact Re.size_eq _
    have := k.size_pos
    rw [e1,e2]
    simp only [Re.sizeL]
    omega
   exact hc3 hl _ (by omega) (by omega)
 have w1 : IntKind.i64.wrap (f + 1)=f + 1 := w64 _ (by omega)
 have w2 : IntKind.i64.wrap (f + (fst.length : Int))=f + fst.length := w64 _ (by omega)
 have w3 : IntKind.i64.wrap (f + (fst.length : Int) + 2)=f + fst.length + 2 := w64 _ (by omega)
 clear hrest hlen hc0 hc1
 generalize Re.codeAlt (k2 :: l) (f + fst.length + 2)=snd at *
 have w4 : IntKind.i64.wrap (f + (fst.length : Int) + 2 + (snd.length : Int))=f + fst.length + 2 + snd.length := w64 _ (by omega)
 generalize hR : List.map Ins.cells (splI 0 (f + 1) (f + fst.length + 2) :: (fst ++ jmpI (f + fst.length + 2 + snd.length) :: snd))=R
 simp only [i64] at hcode hrc
 unfold OwnSl
 by_cases hl : l=[]
 ·have hlen2 : ¬ (2 : Int) < (re.kids.length : Int) := by rw [hk,hl]; simp
  rw [hrv hl,reV_eq k2] at hrc
  simp only [iD,bD] at hrc
  refine fn_own func63 rfl ntmps63 results63 rfl 0 3063 (by simp) (by simp) ?_
  simp only [zX,simprocAttr,i64,reV_eq re,iD,bD,o,hkg,hkg2,hkn,hkn2,w1]
  refine call_pure hcode (by simp [refsV,refsV.go,reV_eq]) (by simp [refsV,refsV.go,reV_eq,i64,bV,reEl]) ?_
  simp only [zX,simprocAttr,i64,reV_eq re,reV_eq k2,Re.cells_eq k2,iD,bD,o,hkg,hkg2,hkn2,w1,w2,w3,hlen2,gt_iff_lt]
  refine call_pure hrc (by simp [refsV,refsV.go,reV_eq,i64,bV,reEl]) (by simp [refsV,refsV.go,reV_eq,i64,bV,reEl]) ?_
  simp only [zX,simprocAttr,i64,reV_eq re,iD,bD,o,w1,w2,w3,w4]
  refine ⟨fun e he=>by rw [List.mem_singleton.1 he]; rfl,fun e he=>by (cases he),ins_len _,by omega,fun e he=>by rw [List.mem_singleton.1 he]; rfl,⟨by omega,by omega⟩,ins_len _,⟨by simp; omega,by omega⟩,?_⟩
  simp only [zX,simprocAttr,Qown]
  refine own_exit (id := 2) (by rfl) ?_ ?_
  ·rw [← hR]
   rw [List.take_of_length_le (i := 1 + fst.length) (by simp; omega),List.take_of_length_le (by simp; omega)]
   simp [splI,jmpI,Ins.cells,iD]
  ·rw [← hR]; simp; omega
 ·have hlen2 : (2 : Int) < (re.kids.length : Int) := by
   rw [hk]
   have : 0 < l.length := List.length_pos_iff.2 hl
   simp; omega
  rw [hrs hl] at hrc
  have hdr : List.take ((re.kids.length : Int) - 1).toNat (List.drop 1 (re.kids.map Re.cells))=(k2 :: l).map Re.cells := by rw [hk,List.take_of_length_le (by simp)]; rfl
  have halt : reV (altK (k2 :: l))=.ag [.d (iD 3),.d (.sl []),.d (.sl ((k2 :: l).map Re.cells)),.d (iD 0),.d (iD 0),.d (iD 0),.d (iD 0),.d (bD false)] := by rw [reV_eq]; rfl
  rw [halt,← hdr] at hrc
  simp only [iD,bD] at hrc
  refine fn_own func63 rfl ntmps63 results63 rfl 0 3063 (by simp) (by simp) ?_
  simp only [zX,simprocAttr,i64,reV_eq re,iD,bD,o,hkg,hkg2,hkn,hkn2,w1]
  refine call_pure hcode (by simp [refsV,refsV.go,reV_eq]) (by simp [refsV,refsV.go,reV_eq,i64,bV,reEl]) ?_
  simp only [zX,simprocAttr,i64,reV_eq re,reV_eq k2,Re.cells_eq k2,iD,bD,o,hkg,hkg2,hkn2,w1,w2,w3,hlen2,gt_iff_lt]
  refine ⟨⟨by omega,Int.le_refl _⟩,fun e he=>by obtain ⟨x,_,rfl⟩ := List.mem_map.1 he; exact x.cells_len,?_⟩
  refine call_give [] (by rfl) ?_
  refine call_pure hrc (by simp [refsV,refsV.go,reV_eq,i64,bV,reEl]) (by simp [refsV,refsV.go,reV_eq,i64,bV,reEl]) ?_
  simp only [killO]
  simp only [zX,simprocAttr,i64,reV_eq re,iD,bD,o,w1,w2,w3,w4]
  refine ⟨fun e he=>by rw [List.mem_singleton.1 he]; rfl,fun e he=>by (cases he),ins_len _,by omega,fun e he=>by rw [List.mem_singleton.1 he]; rfl,⟨by omega,by omega⟩,ins_len _,⟨by simp; omega,by omega⟩,?_⟩
  simp only [zX,simprocAttr,Qown]
  refine own_exit (id := 2) (by rfl) ?_ ?_
  ·rw [← hR]
   rw [List.take_of_length_le (i := 1 + fst.length) (by simp; omega),List.take_of_length_le (by simp; omega)]
   simp [splI,jmpI,Ins.cells,iD]
  ·rw [← hR]; simp; omega
theorem PureOK.weak {P : Program} {f : FuncId} {args : List V} {l : List (List D)} (h : PureOK P f args (.fu l)) : PureOK P f args (.d (.sl l)) := by
 refine ⟨h.1,fun σ w vals hI hl hv=>(h.2 σ w vals hI hl hv).mono fun e w' ⟨u,v,σ',s',h1,h2,h3,h4,h5,h6⟩=>?_⟩
 subst h5 h6
 cases h4 with | fu hx=>?_
 exact ⟨_,_,σ',[],h1,h2,h3,.d hx,rfl,rfl⟩
theorem csz_le {re : Re} (hs : re.every kshD=true) (h : re.csz≤8500) (ho : ¬ isLeaf re) : Re.cszL re.kids≤8500 := by
 obtain ⟨hs1,hs2⟩ := (Re.every_iff re).1 hs
 obtain ⟨hc,hop,h1k,h0⟩ := kshD_iff.1 hs1
 obtain ⟨hb,hmx⟩ := kshC_iff.1 hc
 obtain ⟨q1,q2,q3,q4,q5,q6,q7,q8,q9,q10⟩ := kshB_iff.1 hb
 have hz := (cszL_range (l := re.kids) (fun k hk=>csz_range k (every_DC (hs2 k hk)))).1
 have hu := csz_un (re := re) (by omega)
 unfold isLeaf at ho
 generalize Re.cszL re.kids=z at *
 rw [if_neg (by omega)] at hu
 by_cases o3 : re.op=3
 ·rw [if_pos o3] at hu; have := q2 o3; omega
 rw [if_neg o3] at hu
 by_cases o5 : re.op=5
 ·rw [if_pos o5] at hu; omega
 rw [if_neg o5] at hu
 by_cases o4 : re.op=4
 ·rw [if_pos o4] at hu
  by_cases om : re.mx=-1
  ·rw [if_pos om] at hu
   have : 1 * z≤(re.mn + 1) * z := Int.mul_le_mul_of_nonneg_right (by omega) (by omega)
   omega
  ·rw [if_neg om] at hu
   have hm := (hmx o4).resolve_left om
   have : 1 * z≤re.mx * z := Int.mul_le_mul_of_nonneg_right (by omega) (by omega)
   omega
 ·rw [if_neg o4] at hu; omega
theorem csz_kid' {re : Re} (hs : re.every kshD=true) (h : re.csz≤8500) (ho : ¬ isLeaf re) : ∀ k ∈ re.kids,k.csz≤8500 := fun k hk =>
 Int.le_trans (cszL_split (fun x hx=>(csz_range x (every_DC (((Re.every_iff re).1 hs).2 x hx))).1) hk) (csz_le hs h ho)
theorem alt_tail {re k k2 : Re} {l : List Re} (hs : re.every kshD=true) (hz : re.csz≤8500) (o : re.op=3) (hk : re.kids=k :: k2 :: l) (hne : l ≠ []) : (altK (k2 :: l)).every kshD=true∧(altK (k2 :: l)).csz≤8500∧(altK (k2 :: l)).size≤re.size - 1 := by
 obtain ⟨hs1,hs2⟩ := (Re.every_iff re).1 hs
 obtain ⟨q1,q2,q3,q4,q5,q6,q7,q8,q9,q10⟩ := kshB_iff.1 (kshC_iff.1 (kshD_iff.1 hs1).1).1
 have hl : 1≤l.length := by cases l with | nil=>exact absurd rfl hne | cons a l=>simp
 have hk2 : ∀ x ∈ k2 :: l,x ∈ re.kids := fun x hx=>by rw [hk]; exact List.mem_cons_of_mem _ hx
 have hr : (altK (k2 :: l)).every kshD=true := by
  have e0 : (altK (k2 :: l)).op=3 := rfl
  have e1 : (altK (k2 :: l)).mn=0 := rfl
  have e2 : (altK (k2 :: l)).mx=0 := rfl
  have e3 : (altK (k2 :: l)).n=0 := rfl
  have e4 : (altK (k2 :: l)).kids=k2 :: l := rfl
  have e5 : (altK (k2 :: l)).set=[] := rfl
  rw [hk] at q3
  refine (Re.every_iff _).2 ⟨kshD_iff.2 ⟨kshC_iff.2 ⟨kshB_iff.2 ?_,?_⟩,?_⟩,fun x hx=>hs2 x (hk2 x hx)⟩ <;> rw [e0] <;> simp only [e1,e2,e3,e4,e5]
  ·simp only [List.length_cons] at q3 ⊢
   exact ⟨fun h=>by omega,fun _=>by omega,by omega,Nat.zero_le _,by omega,by omega,by omega,by omega,by omega,by decide,by omega,by omega⟩
  ·omega
  ·exact ⟨by decide,fun h=>absurd h (by decide),fun h=>absurd h (by decide)⟩
 have hu := csz_un (re := re) (by omega)
 rw [o,if_neg (by omega),if_pos rfl,hk] at hu
 have hk0 := (csz_range k (every_DC (hs2 k (by rw [hk]; simp)))).1
 refine ⟨hr,?_,?_⟩
 ·have : (altK (k2 :: l)).csz=min (Re.cszL (k2 :: l) + 2 * ((k2 :: l).length : Int) - 2) 10000 := by rw [Re.csz_eq]; rfl
  rw [this]
  simp only [Re.cszL,List.length_cons] at hu ⊢
  push_cast at hu ⊢
  omega
 ·have e1 : (altK (k2 :: l)).size=1 + Re.sizeL (k2 :: l) := Re.size_eq _
  have e2 : re.size=1 + Re.sizeL (k :: k2 :: l) := by rw [← hk]; exact Re.size_eq _
  rw [e1,e2]
  have := k.size_pos
  simp only [Re.sizeL]
  omega
theorem code_rep (re : Re) (o : re.op=4) (f : Int) (hrep : OwnSl prog 92 [reV re,i64 f] 5 ((re.code f).map Ins.cells)) : OwnSl prog 63 [reV re,i64 f] 5 ((re.code f).map Ins.cells) := by
 generalize List.map Ins.cells (re.code f)=R at *
 simp only [reV_eq re,i64,iD,bD,o] at hrep
 show callWp _ _ _ _ _
 refine fn_own func63 rfl ntmps63 results63 rfl 0 3063 (by simp) (by simp) ?_
 simp only [zX,simprocAttr,i64,reV_eq re,iD,bD,o]
 refine OwnSl.call hrep rfl rfl fun g=>?_
 simp only [zX,simprocAttr,i64,reV_eq re,iD,bD,o,Qown]
 exact own_exit (id := 1) (by rfl) (by rfl) rfl
theorem code_all : ∀ (n : Nat) (re : Re),re.size≤n→re.every kshD=true→re.csz≤8500→CodeOK re∧(¬ isLeaf re→∀ f : Int,0≤f→f≤1000000000000000000 - 100000000 * re.size→OwnSl prog 63 [reV re,i64 f] 5 ((re.code f).map Ins.cells))
 | 0,re,h,_,_=>by have := re.size_pos; omega
 | n + 1,re,h,hs,hz=>by
  obtain ⟨hs1,hs2⟩ := (Re.every_iff re).1 hs
  obtain ⟨hcc,hop,h1k,hk0⟩ := kshD_iff.1 hs1
  obtain ⟨q1,q2,q3,q4,q5,q6,q7,q8,q9,q10⟩ := kshB_iff.1 (kshC_iff.1 hcc).1
  by_cases hl : isLeaf re
  ·refine ⟨fun f _ _=>?_,fun h=>absurd hl h⟩
   exact PureOK.weak (code_leaf re hs hl f)
  have hnl : re.op=2 ∨ re.op=3 ∨ re.op=4 ∨ re.op=5 := by unfold isLeaf at hl; omega
  have hck := csz_kid' hs hz hl
  have hkid : ∀ k ∈ re.kids,CodeOK k := fun k hk=>(code_all n k (by have := Re.size_kid hk; omega) (hs2 k hk) (hck k hk)).1
  have own : ∀ f : Int,0≤f→f≤1000000000000000000 - 100000000 * re.size→OwnSl prog 63 [reV re,i64 f] 5 ((re.code f).map Ins.cells) := by
   intro f h0 h1
   rcases hnl with o | o | o | o
   ·exact code_cat re hs hz o hkid f h0 h1
   ·have h2 := q2 o
    obtain ⟨k,k2,l,hk⟩ : ∃ k k2 l,re.kids=k :: k2 :: l := by
     match hm : re.kids with
     | []=>rw [hm] at h2; simp at h2
     | [_]=>rw [hm] at h2; simp at h2
     | k :: k2 :: l=>exact ⟨k,k2,l,rfl⟩
    refine code_alt re k k2 l hs hz o hk (hkid k (by rw [hk]; simp)) (hkid k2 (by rw [hk]; simp)) (fun hne=>?_) f h0 h1
    obtain ⟨a1,a2,a3⟩ := alt_tail hs hz o hk hne
    exact (code_all n (altK (k2 :: l)) (by omega) a1 a2).1
   ·obtain ⟨k,hk⟩ := List.length_eq_one_iff.1 (h1k (.inl o))
    have hrep := rep_own re k hs hz o hk (hkid k (by rw [hk]; simp)) f h0 h1
    exact code_rep re o f hrep
   ·obtain ⟨k,hk⟩ := List.length_eq_one_iff.1 (h1k (.inr o))
    exact code_cap re k hs hz o hk (hkid k (by rw [hk]; simp)) f h0 h1
  exact ⟨fun f h0 h1=>(own f h0 h1).pure,fun _=>own⟩
theorem ksh_node {re : Re} {caps top : Int} (hc : caps≤9) (hn : nodeOk re caps top=true) (hk : re.kids.length≤1000) : kshC re=true := by
 obtain ⟨⟨a1,a2,a3,a4⟩,b,c,d,e⟩ := nodeOk_iff.1 hn
 have hset : re.set.length≤64 := by
  split at b
  ·unfold spansR at b; rw [Bool.and_eq_true] at b; exact of_decide_eq_true b.1
  ·omega
 have hnn : 0≤re.n∧re.n≤9 := by
  split at d
  ·omega
  ·split at d <;> omega
 have hkk : (re.op=4 ∨ re.op=5→1≤re.kids.length)∧(re.op=3→2≤re.kids.length) := by
  unfold kidsR at a3
  refine ⟨fun h=>?_,fun h=>?_⟩
  ·rw [if_neg (by omega),if_pos (by omega)] at a3
   simp only at a3; omega
  ·rw [if_pos (by omega)] at a3
   simp only at a3; omega
 have hm : 0≤re.mn∧re.mn≤32∧-1≤re.mx∧re.mx≤32∧(re.mx=-1 ∨ re.mx=0 ∨ re.mn≤re.mx)∧(re.op=4→re.mx=-1 ∨ 1≤re.mx∧re.mn≤re.mx) := by
  split at c
  ·omega
  ·omega
 exact kshC_iff.2 ⟨kshB_iff.2 ⟨hkk.1,hkk.2,hk,by omega,hm.1,hm.2.1,hm.2.2.1,hm.2.2.2.1,hm.2.2.2.2.1,by unfold I64; omega,by omega,by omega⟩,hm.2.2.2.2.2⟩
theorem kshC_of {caps top : Int} (hc : caps≤9) (re : Re) (hw : re.whole caps top=true) (hz : re.size≤1000) : re.every kshC=true := by
 revert hw hz
 refine Re.ind (Q := fun re=>re.whole caps top=true→re.size≤1000→re.every kshC=true) (fun re ih hw hz=>?_) re
 obtain ⟨h1,h2⟩ := (Re.every_iff re).1 hw
 have hl := Re.len_le re.kids
 have hs := Re.size_eq re
 exact (Re.every_iff re).2 ⟨ksh_node hc h1 (by omega),fun k hk=>ih k hk (h2 k hk) (by have := Re.size_kid hk; omega)⟩
theorem kshD_of {caps top : Int} (hc : caps≤9) (re : Re) (hw : re.whole caps top=true) (hz : re.size≤1000) : ∀ a,re.comp a=true→re.every kshD=true := by
 revert hw hz
 refine Re.ind (Q := fun re=>re.whole caps top=true→re.size≤1000→∀ a,re.comp a=true→re.every kshD=true) (fun re ih hw hz a ha=>?_) re
 obtain ⟨h1,h2⟩ := (Re.every_iff re).1 hw
 have hl := Re.len_le re.kids
 have hs := Re.size_eq re
 have hsh := ksh_node hc h1 (by omega)
 obtain ⟨⟨a1,a2,a3,a4⟩,_⟩ := nodeOk_iff.1 h1
 rw [Re.comp_eq] at ha
 split at ha
 ·cases ha
 ·split at ha
  ·cases ha
  ·split at ha
   ·cases ha
   ·rename_i c1 c2 c3
    rw [List.all_eq_true] at ha
    refine (Re.every_iff re).2 ⟨kshD_iff.2 ⟨hsh,by omega,fun h=>?_,fun h=>?_⟩,fun k hk=>ih k hk (h2 k hk) (by have := Re.size_kid hk; omega) _ (ha k hk)⟩
    ·unfold kidsR at a3 a4
     rw [if_neg (by omega),if_pos (by omega)] at a3 a4
     simp only at a3 a4; omega
    ·unfold kidsR at a4
     rw [if_neg (by omega),if_neg (by omega),if_neg (by omega)] at a4
     simp only at a4
     exact List.eq_nil_of_length_eq_zero (by omega)
def doneI : Ins := ⟨0,0,0,0,[]⟩
def compR (p : Pat) : Prg := ⟨p.re.code 0 ++ [doneI],p.caps,p.runes⟩
theorem compile_ok (p : Pat) (hv : validR p=0) (hc : p.re.comp []=true) (hz : p.re.csz≤8000) : PureOK prog 31 [patV p] (.tu [prgV (compR p),i64 0]) := by
 obtain ⟨v1,v2,v3,v4,v5⟩ := validR_spec hv
 have hC := kshC_of v4 p.re v5 (by omega)
 have hD := kshD_of v4 p.re v5 (by omega) [] hc
 have hf : p.re.fine=true := by
  have : ∀ re : Re,re.every kshC=true→re.fine=true := fun re=>Re.ind (Q := fun re=>re.every kshC=true→re.fine=true) (fun re ih h=>by
   obtain ⟨h1,h2⟩ := (Re.every_iff re).1 h
   obtain ⟨q1,q2,q3,q4,_⟩ := kshB_iff.1 (kshC_iff.1 h1).1
   exact (Re.fine_iff re).2 ⟨by omega,by omega,fun k hk=>ih k hk (h2 k hk)⟩) re
  exact this p.re hC
 have h1 := refValid_ok p hf (by omega)
 have h2 := comp_ok p.re [] (every_CB hC) (by omega) (by simp; omega)
 have h3 := csz_ok p.re hC
 have h4 := code_all p.re.size p.re (Nat.le_refl _) hD (by omega)
 have hcr := csz_range p.re hC
 have hln := code_len p.re hD (by omega) 0
 have w1 : IntKind.i64.wrap (p.re.csz + 1)=p.re.csz + 1 := w64 _ (by omega)
 have c1 : ¬ 8192 < p.re.csz + 1 := by omega
 have hleaf := code_leaf p.re hD
 rw [hv] at h1
 rw [hc] at h2
 unfold compR prgV
 cases p with
 | mk re caps runes =>
 have hkey : re.code 0 ++ [doneI]=re.code 0 ++ [doneI] := rfl
 simp only at *
 have hown := fun h=>h4.2 h 0 (Int.le_refl _) (by omega)
 have hleaf0 := fun h=>hleaf h 0
 generalize re.code 0=L at *
 simp only [patV,Re.cells_eq re,List.map_cons,List.map_nil,List.cons_append,List.nil_append,reV_eq re,i64,iD,bD,bV] at h1 h2 h3 hown hleaf0
 clear hleaf h4
 by_cases hl : isLeaf re
 ·have hcode := hleaf0 hl
  refine fn_ok func31 rfl ntmps31 results31 rfl 0 31 (by simp) (by simp) ?_
  simp only [zX,simprocAttr,i64,patV,Re.cells_eq,bV,iD,bD]
  refine call_pure h1 rfl rfl ?_
  simp only [zX,simprocAttr,i64,patV,Re.cells_eq,bV,iD,bD,ne_eq,not_true_eq_false]
  refine call_give [] (by rfl) (call_pure h2 rfl rfl ?_)
  simp only [zX,simprocAttr,killO,i64,patV,Re.cells_eq,bV,iD,bD,Bool.not_true,Bool.false_eq_true]
  refine call_pure h3 rfl rfl ?_
  simp only [zX,simprocAttr,i64,patV,Re.cells_eq,bV,iD,bD,w1,c1,gt_iff_lt]
  refine draw_first Cln0.reserve ?_
  refine draw_c mix [] [(5,[2],[2]),(11,[1],[1])] (by rfl) ?_
  simp only [zX,simprocAttr,i64,patV,Re.cells_eq,bV,iD,bD]
  refine callC_pure hcode rfl rfl ?_
  simp only [zX,simprocAttr,i64,patV,Re.cells_eq,bV,iD,bD,fuAt]
  refine ⟨⟨by omega,ins_lenD _,fun e he=>by rw [List.mem_singleton.1 he]; rfl⟩,?_⟩
  rw [frz_data 7 0 _ _ _ (by simp),if_pos (by simp)]
  simp [Prg.cells,Ins.cells,doneI,iD,bD]
 ·have hcode := hown hl
  refine fn_ok func31 rfl ntmps31 results31 rfl 0 31 (by simp) (by simp) ?_
  simp only [zX,simprocAttr,i64,patV,Re.cells_eq,bV,iD,bD]
  refine call_pure h1 rfl rfl ?_
  simp only [zX,simprocAttr,i64,patV,Re.cells_eq,bV,iD,bD,ne_eq,not_true_eq_false]
  refine call_give [] (by rfl) (call_pure h2 rfl rfl ?_)
  simp only [zX,simprocAttr,killO,i64,patV,Re.cells_eq,bV,iD,bD,Bool.not_true,Bool.false_eq_true]
  refine call_pure h3 rfl rfl ?_
  simp only [zX,simprocAttr,i64,patV,Re.cells_eq,bV,iD,bD,w1,c1,gt_iff_lt]
  refine draw_first Cln0.reserve ?_
  refine draw_c mix [] [(2,[2],[2]),(5,[2],[2]),(11,[1],[1])] (by rfl) ?_
  simp only [zX,simprocAttr,i64,patV,Re.cells_eq,bV,iD,bD]
  refine ⟨_,[_],rfl,fun s' hs1 hs2=>OwnSl.hole (k := 2) (ob := hole) hcode rfl rfl (by rw [hs2 2 (by simp)]; rfl) ⟨rfl,rfl⟩,?_⟩
  simp only [zX,simprocAttr,i64,patV,Re.cells_eq,bV,iD,bD,putObjs,hole]
  refine ⟨rfl,fun e he=>by rw [List.mem_singleton.1 he]; rfl,⟨by omega,by omega⟩,?_⟩
  have hk : (List.map (fun c=>List.map V.d c) (List.map Ins.cells L)) ++ [[V.d (D.sc (Value.int IntKind.i64 0)),V.d (D.sc (Value.int IntKind.i64 0)),V.d (D.sc (Value.int IntKind.i64 0)),V.d (D.sc (Value.int IntKind.i64 0)),V.d (D.sl [])]]=List.map (fun c=>List.map V.d c) (List.map Ins.cells (L ++ [doneI])) := by simp [Ins.cells,doneI,iD]
  rw [ins_take _ _ (Nat.le_refl _),hk,frz_data 7 0 _ _ _ (by simp),if_pos (by simp)]
  simp [Prg.cells,Ins.cells,doneI,iD,bD]
end Go.Proofs.Ytdofoappodmcoaa
