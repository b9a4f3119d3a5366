/- A part of the proof (Vu Vx). -/
import Derived.ProofKit
import Derived.OpenShut
import Derived.Test.YtjjfioalgbecmaaGreatOQ12
set_option linter.unusedSimpArgs false
set_option linter.unusedVariables false
set_option maxRecDepth 100000
set_option maxHeartbeats 80000000
namespace Go.VL
open Go.ChangeShapes Go.WideShapes Go.ChangeAt Go.RowKit
variable{W:World}
def Xx:Gh:=⟨λ_=>none,λ_=>False⟩
theorem abE (b:Nat):¬Own Xx [] b:=by
 rintro (h|⟨id,o,base,h1,_⟩)
 ·exact h
 ·simp at h1
theorem aex (w:World):Inv Xx [] w :=
 ⟨λid o h=>by simp at h,λid kX o o' b base bN h=>by simp at h,λb h=>h.elim,λid o b base h=>by simp at h⟩
theorem run_pure {P:Program}{f:FuncId}{args:List V}{r:Bool}{vals:Array Value} (h:aM P f args (.d (.sc (.bool r)))) (hv:vals.size=args.length) (hrep:∀(i:Nat) (x:V),args[i]?=some x->ay Xx [] W x (vals.getD i undef)) :
  Calls P f vals W λe w'=>e=.returned (.bool r)/\Below W.heap.size W w':=by
 refine(h.2 Xx W vals (aex W) hv hrep).mono λe w' ⟨u,v,σ',s',h1,h2,h3,h4,h5,h6⟩=>?_;subst h5;cases h4 with|d h4=>?_
 cases h4 with|sc _ _=>?_
 exact⟨h1,h2.os,h2.tape,h2.output,h2.size,λb hb=>h2.aZ b hb (abE b)⟩
theorem U8 (k:IntKind) (n:Int):ay Xx [] W (.d (.sc (.int k n))) (.int k n):=.d (.sc _ rfl)
theorem Th{a:Addr}{len cap:Nat}{zs:List Int}{k:IntKind} (hl:len<=cap) (hz:zs.length=cap) (qx:∀i,i<zs.length->W.cell? (a.add i)=some (.int k (zs.getD i 0))) :
  ay Xx [] W (.d (.sl ((zs.take len).map λx=>[D.sc (.int k x)]))) (.slice (some a) len cap):=by
 have hlen:((zs.take len).map λx=>[D.sc (Value.int k x)]).length=len:=cC;have abg:=cU.sl (O:=Own Xx []) (w:=W) ((zs.take len).map λx=>[D.sc (.int k x)]) a cap 1 (λi _=>.int k (zs.getD i 0)) (by rw[hlen];exact hl)
  (λeU=>by
   have:0<len:=by
    rcases Nat.eq_zero_or_pos len with h|h
    ·subst h;simp at eU
    ·exact h
   have:=World.cell?_spot (qx 0 ae);simpa [Addr.add]using this)
  (λe he=>by obtain⟨x,_,rfl⟩:=List.mem_map.1 he;rfl)
  (λi j x hx=>by
   simp only[List.getElem?_map]at hx;cases hi:(zs.take len)[i]? with
   |none=>simp [hi]at hx
   |some y =>
    simp only[hi,ajS,akA]at hx;have hj:j=0:=by cases j with|zero=>rfl|succ j=>simp at hx
    subst hj;have hil:i<len/\i<zs.length:=by have:=(List.getElem?_eq_some_iff.1 hi).1;simp at this;omega
    refine⟨?_,abE _⟩;have jO:=World.cell?_spot (qx 0 ae);have hc:=qx i hil.2;obtain⟨b,off,sp⟩:=a;have ad0:sp=none:=by simpa [Addr.add]using jO
    subst ad0;rw[add_plain]at hc;simpa using hc)
  (λi j x hx=>by
   simp only[List.getElem?_map]at hx;cases hi:(zs.take len)[i]? with
   |none=>simp [hi]at hx
   |some y =>
    simp only[hi,ajS,akA]at hx;have hj:j=0:=by cases j with|zero=>rfl|succ j=>simp at hx
    subst hj;simp only[List.getElem?_cons_zero,ajU]at hx;subst hx;have hil:i<len/\i<zs.length:=by have:=(List.getElem?_eq_some_iff.1 hi).1;simp at this;omega
    have hy:zs.getD i 0=y:=by rw[List.getElem?_take,be hil.1]at hi;simp [List.getD,hi]
    rw[hy];exact .sc _ rfl)
 rw[hlen]at abg;exact .d abg
open Go.ChangeShapes Go.WideShapes Go.ChangeAt Go.RowKit
theorem yO {H:Type}{enc:TypeId×Value->H}{P:Program}{W:World}{t e:TypeId}{k:IntKind}{a0:Option Addr}{len cap:Nat}{d:DataW H}{ps:List MemPlace} (ht:P.underlying t=some (.slice e)) (he:P.underlying e=some (.int k)) (hc:P.cellsOf e=1)
  (h:DataW.Trod enc P W 0 (λ_=>true) true t (.slice a0 len cap) d ps) :
  ∃l:List Int,(∀x∈l,(Lit.int k x).wf=true)/\ay Xx [] W (.d (.sl (l.map λx=>[D.sc (.int k x)]))) (.slice a0 len cap):=by
 obtain⟨agp,hf⟩:=h;rcases open_ints ht he hc hf with ⟨oL,hx⟩|⟨a,ahm,lA,zs,oL,_,hl,hm,hz,hx,qx,hwz⟩
 ·simp [Value.cells]at oL;obtain⟨rfl,rfl,rfl⟩:=oL;exact⟨[],λx hx=>by (cases hx),.d .nil⟩
 ·simp [Value.cells]at oL;obtain⟨rfl,rfl,rfl⟩:=oL;simp only[if_true]at hz;exact⟨zs.take len,λx hx=>hwz x (akv hx),Th hl hz qx⟩
section
variable {H:Type}{enc:TypeId×Value->H}{P:Program}{w:World}{base:Nat}{spare:Nat->Bool}{held:Bool}
end
end Go.VL
