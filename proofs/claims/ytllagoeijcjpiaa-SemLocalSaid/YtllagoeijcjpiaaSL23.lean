/- A part of the proof (G54 G55 E3 E4). -/
import Derived.Test.YtllagoeijcjpiaaSL18
import Derived.Test.YtllagoeijcjpiaaSL21
import Derived.Test.YtllagoeijcjpiaaSL22
set_option linter.unusedSimpArgs false
set_option linter.unusedVariables false
set_option maxRecDepth 100000
set_option maxHeartbeats 80000000
namespace Go.Proofs.Ytllagoeijcjpiaa
open Go.VL Go.Proofs.Try
def FA (F F':Int) (st st':Sst) (b:Bool) (o:Option (Bool × Sst)):Prop :=
 st.steps≤st'.steps∧(st'.empty=true→b=true∧F < st'.steps)∧(st.steps≤F'→(st'.steps≤F'→o=some (b,st'))∧(F' < st'.steps→∃s2,o=some (true,s2)∧s2.empty=true))
section fuel
variable {t:List Int} {F F':Int} {rec rec':Int→Task→Sst→Option (Bool × Sst)}
variable (h:∀most task st b st',rec most task st=some (b,st')→st.empty=false→FA F F' st st' b (rec' most task st))
include h
end fuel
section fuel
variable {t:List Int} {F F':Int} (hFF:F'≤F)
include hFF
variable {rec rec':Int→Task→Sst→Option (Bool × Sst)} (h:∀most task st b st',rec most task st=some (b,st')→st.empty=false→FA F F' st st' b (rec' most task st))
include h
end fuel
theorem allE_valid {p:Pat} {t:List Int} {i most f:Int} (h:allE p t i most f=0):valid7 p t f=0∧0≤i∧i≤t.length∧(searchX p t i most f).2.empty=false:=by
 unfold allE at h
 by_cases c1:valid7 p t f≠0
 ·rw[if_pos c1] at h; exact absurd h c1
 rw[if_neg c1] at h
 have c1:valid7 p t f=0:=by simpa using c1
 by_cases c2:i < 0∨(t.length:Int) < i
 ·rw[if_pos c2] at h; omega
 rw[if_neg c2] at h
 by_cases c3:(searchX p t i most f).2.empty=true
 ·rw[if_pos c3] at h; omega
 ·exact⟨c1,by omega,by omega,by simpa using c3⟩
theorem allE_zero {p:Pat} {t:List Int} {i most f:Int} (hv:valid7 p t f=0) (h0:0≤i) (h1:i≤t.length) (he:(searchX p t i most f).2.empty=false):allE p t i most f=0:=by
 unfold allE
 rw[if_neg (by rw[hv]; simp),if_neg (by omega),if_neg (by rw[he]; simp)]
theorem search_at {p:Pat} {t:List Int} {i most f:Int} (hv:valid7 p t f=0) (h0:0≤i) (h1:i≤t.length):∃n b x,searchX p t i most f=(b,x)∧evR t f n most (.run (.mk 0 p.re 0 0 .nil) i (cap0 p)) ⟨0,false,[],[]⟩=some (b,x):=by
 obtain⟨n,e,_⟩:=search_ends (most:=most) hv h0 h1
 exact⟨n,_,_,rfl,e⟩
theorem steps_le {p:Pat} {t:List Int} {i most f:Int} (h:allE p t i most f=0):0≤allN p t i most f∧allN p t i most f≤f:=by
 obtain⟨hv,h0,h1,he⟩:=allE_valid h
 obtain⟨k,_,e2⟩:=search_ends (most:=most) hv h0 h1
 unfold allN
 rw[if_pos h]
 have h2:=e2.empty
 rw[he] at h2
 have:=of_decide_eq_false h2.symm
 have:=e2.s0
 simp only at this
 omega
theorem searchX_caps {p:Pat} {t:List Int} {i most f:Int} (h:allE p t i most f=0):(searchX p t i most f).2.caps.length=(searchX p t i most f).2.ends.length:=by
 obtain⟨hv,h0,h1,he⟩:=allE_valid h
 obtain⟨k,_,e2⟩:=search_ends (most:=most) hv h0 h1
 obtain⟨new,newc,z1,z2,z3,_⟩:=e2.more
 rw[z1,z2]; simpa using z3
theorem ends_le {p:Pat} {t:List Int} {i most f:Int} (h:allE p t i most f=0):((searchX p t i most f).2.ends.length:Int)≤allN p t i most f + 1:=by
 obtain⟨hv,h0,h1,he⟩:=allE_valid h
 obtain⟨_,_,e2⟩:=search_ends (most:=most) hv h0 h1
 obtain⟨new,newc,z1,z2,z3,z4,_⟩:=e2.more
 have hN:allN p t i most f=(searchX p t i most f).2.steps:=by unfold allN; rw[if_pos h]
 rw[hN,z1]
 simp only[List.nil_append] at *
 omega
theorem empty_valid (caps:Int) (h0:0≤caps) (h1:caps≤9):validR ⟨.mk 0 [] [] 0 0 0 0 false,caps,false⟩=0:=by
 have hw:Re.whole (.mk 0 [] [] 0 0 0 0 false) caps (topR false)=true:=by
  rw[Re.whole,Re.every_iff]
  refine⟨?_,fun k hk=>by simp [Re.kids] at hk⟩
  simp [nodeOk,Re.op,Re.kids,Re.set,Re.mn,Re.mx,Re.mode,Re.n,Re.neg,kidsR]
 have hs:Re.size (.mk 0 [] [] 0 0 0 0 false)=1:=by rfl
 have hd:Re.depth (.mk 0 [] [] 0 0 0 0 false)=1:=by rfl
 unfold validR
 rw[if_neg (by show ¬(256 < Re.size (.mk 0 [] [] 0 0 0 0 false)∨24 < Re.depth (.mk 0 [] [] 0 0 0 0 false)); rw[hs,hd]; omega),if_neg]
 show ¬(caps < 0∨9 < caps∨Re.whole (.mk 0 [] [] 0 0 0 0 false) caps (topR false)=false)
 rw[hw]
 simp
 omega
theorem empty_good (caps:Int) (h0:0≤caps) (h1:caps≤9) (F:Int) (hF0:1≤F) (hF1:F≤1099511627776):allE ⟨.mk 0 [] [] 0 0 0 0 false,caps,false⟩ [] 0 (-1) F=0:=by
 have hv7:valid7 ⟨.mk 0 [] [] 0 0 0 0 false,caps,false⟩ [] F=0:=by
  unfold valid7
  rw[if_neg (by rw[empty_valid caps h0 h1]; simp),if_neg (by simp),if_neg (by simp),if_neg (by omega)]
 refine allE_zero hv7 (Int.le_refl _) (by simp) ?_
 obtain⟨n,e1,e2⟩:=search_ends (most:=-1) hv7 (Int.le_refl 0) (by simp)
 have hlen:(cap0 ⟨.mk 0 [] [] 0 0 0 0 false,caps,false⟩).length≤9:=by unfold cap0; rw[List.length_replicate]; show caps.toNat≤9; omega
 have hev:evR [] F 3 (-1) (.run (.mk 0 (.mk 0 [] [] 0 0 0 0 false) 0 0 .nil) 0 (cap0 ⟨.mk 0 [] [] 0 0 0 0 false,caps,false⟩)) ⟨0,false,[],[]⟩=some (false,⟨1,false,[0],[cap0 ⟨.mk 0 [] [] 0 0 0 0 false,caps,false⟩]⟩):=by
  generalize cap0 ⟨.mk 0 [] [] 0 0 0 0 false,caps,false⟩=c at *
  show evStep [] F (evR [] F 2) (-1) (.run (.mk 0 (.mk 0 [] [] 0 0 0 0 false) 0 0 .nil) 0 c) ⟨0,false,[],[]⟩=_
  have hst:(Sst.step F ⟨0,false,[],[]⟩)=⟨1,false,[],[]⟩:=by
   simp only[Sst.step,Bool.false_or]
   congr 1
   exact decide_eq_false (by omega)
  simp only[evStep]
  rw[if_neg (by simp),if_neg (by decide),if_neg (by decide),if_neg (by decide),if_neg (by decide)]
  show evStep [] F (evR [] F 1) (-1) (.node (.mk 0 (.mk 0 [] [] 0 0 0 0 false) 0 0 .nil) 0 c) ⟨0,false,[],[]⟩=_
  simp only[evStep]
  rw[if_neg (by simp),if_neg (by simp [Re.op]),if_neg (by simp [Re.set,Re.kids]; omega),if_neg (by simp),hst,if_neg (by simp)]
  unfold nodeR
  rw[if_neg (show ¬(Re.mk 0 [] [] 0 0 0 0 false).op=1 by decide),if_neg (show ¬(Re.mk 0 [] [] 0 0 0 0 false).op=2 by decide),if_neg (show ¬(Re.mk 0 [] [] 0 0 0 0 false).op=3 by decide),if_neg (show ¬(Re.mk 0 [] [] 0 0 0 0 false).op=5 by decide),if_neg (show ¬(Re.mk 0 [] [] 0 0 0 0 false).op=6 by decide),if_neg (show ¬((Re.mk 0 [] [] 0 0 0 0 false).op=7∨(Re.mk 0 [] [] 0 0 0 0 false).op=8) by decide),if_neg (show ¬(Re.mk 0 [] [] 0 0 0 0 false).op=9 by decide),if_neg (show ¬(Re.mk 0 [] [] 0 0 0 0 false).op=10 by decide),if_neg (show ¬(Re.mk 0 [] [] 0 0 0 0 false).op=11 by decide)]
  show evStep [] F (evR [] F 0) (-1) (.run .nil 0 c) ⟨1,false,[],[]⟩=_
  simp only[evStep]
  rw[if_neg (by simp),if_pos (by simp)]
  simp
 have hX:searchX ⟨.mk 0 [] [] 0 0 0 0 false,caps,false⟩ [] 0 (-1) F=_:=evX_eq hev
 rw[hX]
theorem fits_good {p:Pat} {t:List Int} {F:Int} (hv:validR p=0) (hf:p.re.fine=true) (hF0:1≤F) (hF1:F≤1099511627776):∀n,n≤t.length + 1→(∀i:Int,0≤i→i≤(fitsFrom p t F n).2.length→allE (fitsFrom p t F n).1 (fitsFrom p t F n).2 i (-1) F=0)∧(fitsFrom p t F n).1.re.fine=true∧(fitsFrom p t F n).2.length≤t.length
 | 0,_=>by
  obtain⟨_,_,k3,k4,_⟩:=validR_spec hv
  refine⟨fun i h0 h1=>?_,by rfl,Nat.zero_le _⟩
  have h1:i≤0:=by simpa [fitsFrom] using h1
  have:i=0:=by omega
  subst this
  exact empty_good p.caps k3 k4 F hF0 hF1
 | n + 1,hn=>by
  simp only[fitsFrom]
  by_cases c:(List.range (n + 1)).all (goodAt p t n F)=true
  ·rw[if_pos c]
   refine⟨fun i h0 h1=>?_,hf,by rw[List.length_take]; omega⟩
   have hl:(t.take n).length=n:=by rw[List.length_take]; omega
   have h1:i≤((t.take n).length:Int):=h1
   rw[hl] at h1
   have:=List.all_eq_true.1 c i.toNat (List.mem_range.2 (by omega))
   unfold goodAt at this
   have:=of_decide_eq_true this
   rwa [show ((i.toNat:Nat):Int)=i by omega] at this
  ·rw[if_neg c]
   exact fits_good hv hf hF0 hF1 n (by omega)
end Go.Proofs.Ytllagoeijcjpiaa
