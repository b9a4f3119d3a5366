/- A part of the proof (G54 G55 E3 G56 E4 G57). -/
import Derived.Test.YtllagoeijcjpiaaBD18
import Derived.Test.YtllagoeijcjpiaaBD20
import Derived.Test.YtllagoeijcjpiaaBD48
import Derived.Test.YtllagoeijcjpiaaBD49
import Derived.Test.YtllagoeijcjpiaaBD7
set_option linter.unusedSimpArgs false
set_option linter.unusedVariables false
set_option maxRecDepth 100000
set_option maxHeartbeats 80000000
namespace Go.Proofs.Ytllagoeijcjpiaa
open Go.VL Go.Proofs.Try
def FA (F F':Int) (st st':aU) (b:Bool) (o:Option (Bool×aU)):Prop :=
 st.steps≤st'.steps∧(st'.empty=true→b=true∧F<st'.steps)∧(st.steps≤F'→(st'.steps≤F'→o=some (b,st'))∧(F'<st'.steps→∃s2,o=some (true,s2)∧s2.empty=true))
theorem Ci {p:ic}{t:List Int}{f f':Int} (h:cF p t f=0) (h0:0≤f') (h1:f'≤1099511627776):cF p t f'=0:=by
 obtain⟨v1,v2,v3,_,_⟩:=dA h
 unfold cF
 rw[if_neg (by rw[v1];simp),if_neg (by omega),if_neg (by rw[v3];simp),if_neg (by omega)]
theorem xw {p:ic}{t:List Int}{i ah f:Int} (h:gU p t i ah f=0):cF p t f=0∧0≤i∧i≤t.length∧(bK p t i ah f).2.empty=false:=by
 unfold gU at h
 by_cases c1:cF p t f≠0
 ·rw[if_pos c1]at h;exact absurd h c1
 rw[if_neg c1]at h
 have c1:cF p t f=0:=by simpa using c1
 by_cases c2:i<0∨(t.length:Int)<i
 ·rw[if_pos c2]at h;omega
 rw[if_neg c2]at h
 by_cases c3:(bK p t i ah f).2.empty=true
 ·rw[if_pos c3]at h;omega
 ·exact⟨c1,by omega,by omega,by simpa using c3⟩
theorem zH {p:ic}{t:List Int}{i ah f:Int} (hv:cF p t f=0) (h0:0≤i) (h1:i≤t.length) (he:(bK p t i ah f).2.empty=false):gU p t i ah f=0:=by
 unfold gU
 rw[if_neg (by rw[hv];simp),if_neg (by omega),if_neg (by rw[he];simp)]
theorem DC {p:ic}{t:List Int}{f i:Int} (h:cF p t f=0) (h0:0≤i) (h1:i≤t.length):fQ p.bG t i f=0:=by
 obtain⟨v1,v2,v3,v4,v5⟩:=dA h
 unfold fQ
 rw[if_neg (by omega),if_neg (by rw[v3];simp),if_neg (by omega),if_neg (by omega)]
theorem FN {p:ic}{t:List Int}{f:Int} (h:cF p t f=0):∀x∈t,iV x:=by
 intro x hx
 have:=List.all_eq_true.1 (dA h).2.2.1 x hx
 unfold mS at this
 have hr:=jP p.bG
 simp only[VE,decide_eq_true_eq]at this
 unfold iV;omega
theorem CE (ai:Int) (h0:0≤ai) (h1:ai≤9):dV ⟨.mk 0 [] [] 0 0 0 0 false,ai,false⟩=0:=by
 have hw:Re.whole (.mk 0 [] [] 0 0 0 0 false) ai (fk false)=true:=by
  rw[Re.whole,Re.cS]
  refine⟨?_,fun k hk=>by simp [Re.kids]at hk⟩
  simp [cg,Re.op,Re.kids,Re.set,Re.mn,Re.mx,Re.mode,Re.n,Re.neg,da]
 have hs:Re.size (.mk 0 [] [] 0 0 0 0 false)=1:=by rfl
 have hd:Re.depth (.mk 0 [] [] 0 0 0 0 false)=1:=by rfl
 unfold dV
 rw[if_neg (by show ¬(256<Re.size (.mk 0 [] [] 0 0 0 0 false)∨24<Re.depth (.mk 0 [] [] 0 0 0 0 false));rw[hs,hd];omega),if_neg]
 show ¬(ai<0∨9<ai∨Re.whole (.mk 0 [] [] 0 0 0 0 false) ai (fk false)=false)
 rw[hw]
 simp
 omega
theorem FH (ai:Int) (h0:0≤ai) (h1:ai≤9) (F:Int) (Q9:1≤F) (O3:F≤1099511627776):gU ⟨.mk 0 [] [] 0 0 0 0 false,ai,false⟩ [] 0 (-1) F=0:=by
 have Nc:cF ⟨.mk 0 [] [] 0 0 0 0 false,ai,false⟩ [] F=0:=by
  unfold cF
  rw[if_neg (by rw[CE ai h0 h1];simp),if_neg (by simp),if_neg (by simp),if_neg (by omega)]
 refine zH Nc (Vr _) (by simp) ?_
 obtain⟨n,e1,e2⟩:=iY (ah:=-1) Nc (Vr 0) (by simp)
 have hlen:(iv ⟨.mk 0 [] [] 0 0 0 0 false,ai,false⟩).length≤9:=by unfold iv;rw[V7];show ai.toNat≤9;omega
 have eT:eh [] F 3 (-1) (.run (.mk 0 (.mk 0 [] [] 0 0 0 0 false) 0 0 .nil) 0 (iv ⟨.mk 0 [] [] 0 0 0 0 false,ai,false⟩)) ⟨0,false,[],[]⟩=some (false,⟨1,false,[0],[iv ⟨.mk 0 [] [] 0 0 0 0 false,ai,false⟩]⟩):=by
  generalize iv ⟨.mk 0 [] [] 0 0 0 0 false,ai,false⟩=c at *
  show b8 [] F (eh [] F 2) (-1) (.run (.mk 0 (.mk 0 [] [] 0 0 0 0 false) 0 0 .nil) 0 c) ⟨0,false,[],[]⟩=_
  have aH:(aU.step F ⟨0,false,[],[]⟩)=⟨1,false,[],[]⟩:=by
   simp only[aU.step,VM]
   congr 1
   exact decide_eq_false (by omega)
  simp only[b8]
  rw[if_neg (by simp),if_neg (by decide),if_neg (by decide),if_neg (by decide),if_neg (by decide)]
  show b8 [] F (eh [] F 1) (-1) (.node (.mk 0 (.mk 0 [] [] 0 0 0 0 false) 0 0 .nil) 0 c) ⟨0,false,[],[]⟩=_
  simp only[b8]
  rw[if_neg (by simp),if_neg (by simp [Re.op]),if_neg (by simp [Re.set,Re.kids];omega),if_neg (by simp),aH,if_neg (by simp)]
  unfold eQ
  rw[if_neg (show ¬(Re.mk 0 [] [] 0 0 0 0 false).op=1 by decide),if_neg (show ¬(Re.mk 0 [] [] 0 0 0 0 false).op=2 by decide),if_neg (show ¬(Re.mk 0 [] [] 0 0 0 0 false).op=3 by decide),if_neg (show ¬(Re.mk 0 [] [] 0 0 0 0 false).op=5 by decide),if_neg (show ¬(Re.mk 0 [] [] 0 0 0 0 false).op=6 by decide),if_neg (show ¬((Re.mk 0 [] [] 0 0 0 0 false).op=7∨(Re.mk 0 [] [] 0 0 0 0 false).op=8) by decide),if_neg (show ¬(Re.mk 0 [] [] 0 0 0 0 false).op=9 by decide),if_neg (show ¬(Re.mk 0 [] [] 0 0 0 0 false).op=10 by decide),if_neg (show ¬(Re.mk 0 [] [] 0 0 0 0 false).op=11 by decide)]
  show b8 [] F (eh [] F 0) (-1) (.run .nil 0 c) ⟨1,false,[],[]⟩=_
  simp only[b8]
  rw[if_neg (by simp),if_pos (by simp)]
  simp
 have hX:bK ⟨.mk 0 [] [] 0 0 0 0 false,ai,false⟩ [] 0 (-1) F=_:=JS eT
 rw[hX]
theorem za {p:ic}{t:List Int}{F:Int} (hv:dV p=0) (hf:p.re.gi=true) (Q9:1≤F) (O3:F≤1099511627776):∀n,n≤t.length+1→(∀i:Int,0≤i→i≤(eV p t F n).2.length→gU (eV p t F n).1 (eV p t F n).2 i (-1) F=0)∧(eV p t F n).1.re.gi=true∧(eV p t F n).2.length≤t.length
 |0,_=>by
  obtain⟨_,_,k3,k4,_⟩:=eF hv
  refine⟨fun i h0 h1=>?_,by rfl,Nat.zero_le _⟩
  have h1:i≤0:=by simpa [eV]using h1
  have:i=0:=by omega
  subst this
  exact FH p.ai k3 k4 F Q9 O3
 |n+1,hn=>by
  simp only[eV]
  by_cases c:(List.range (n+1)).all (rP p t n F)=true
  ·rw[if_pos c]
   refine⟨fun i h0 h1=>?_,hf,by rw[V3];omega⟩
   have hl:(t.take n).length=n:=by rw[V3];omega
   have h1:i≤((t.take n).length:Int):=h1
   rw[hl]at h1
   have:=List.all_eq_true.1 c i.toNat (List.mem_range.2 (by omega))
   unfold rP at this
   have:=of_decide_eq_true this
   rwa [show ((i.toNat:Nat):Int)=i by omega]at this
  ·rw[if_neg c]
   exact za hv hf Q9 O3 n (by omega)
theorem IX (l m:List Int) (hl:∀x∈l,iV x) (hm:∀x∈m,iV x):∃(p:ic) (t:List Int),bI prog 21 [.d (ay l),.d (ay m),i64 127,i64 14,i64 3000] (.tu [eb p,.d (ay t)]) ∧
  (∀i:Int,0≤i→i≤t.length→gU p t i (-1) 3000=0)∧p.re.gi=true∧t.length≤12:=by
 obtain⟨hv,gH⟩:=uT l 127 14 hl (by omega) (by omega)
 have J4:=zQ l 127 14 hl (by omega) (by omega)
 have w8:(mM l 127 14).re.gi=true:=yb (by omega) _ J4.ev
 have PJ:(mw m 12).length≤12:=by simp [mw];omega
 obtain⟨g1,g2,g3⟩:=za (p:=mM l 127 14) (t:=mw m 12) (F:=3000) hv w8 (by omega) (by omega) ((mw m 12).length+1) (VA _)
 exact⟨_,_,Mi l m hl hm 127 14 3000 (by omega) (by omega),g1,g2,by omega⟩
end Go.Proofs.Ytllagoeijcjpiaa
