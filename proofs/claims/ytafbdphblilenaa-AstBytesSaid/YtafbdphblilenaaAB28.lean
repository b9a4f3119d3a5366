/- A part of the proof (Vzs Vzt). -/
import Derived.Test.YtafbdphblilenaaAB2
set_option linter.unusedSimpArgs false
set_option linter.unusedVariables false
set_option maxRecDepth 100000
set_option maxHeartbeats 80000000
namespace Go.VL
inductive Mix (lim:Nat) (s:List Obj):V→V→Prop
 | frz {x y:V}:frzV lim s x=some y→Mix lim s x y
 | keep {x:V}:refsV lim x=true→Mix lim s x x
 | ag {cs ds:List V}:ds.length=cs.length→(∀(i:Nat) (x y:V),cs[i]?=some x→ds[i]?=some y→Mix lim s x y)→Mix lim s (.ag cs) (.ag ds)
 | tu {cs ds:List V}:ds.length=cs.length→(∀(i:Nat) (x y:V),cs[i]?=some x→ds[i]?=some y→Mix lim s x y)→Mix lim s (.tu cs) (.tu ds)
theorem Mix.spec {σ:Gh} {s:List Obj} {w:World} (hI:Inv σ s w) {lim:Nat} {x y:V} (h:Mix lim s x y):∀{u:Value},RepV σ s w x u→RepV σ (s.take lim) w y u:=by
 induction h with
 | frz h=>intro u hr; exact frzV_spec hI hr h
 | keep h=>intro u hr; exact hr.take h
 | @ag cs ds hl _ ih =>
  intro u hr
  cases hr with | ag h1 h2 h3=>?_
  refine .ag (by omega) (fun i y hy=>?_) (fun i y hy=>?_)
  ·obtain⟨x,hx⟩:∃x,cs[i]?=some x:=⟨_,List.getElem?_eq_getElem (by have:=(List.getElem?_eq_some_iff.1 hy).1; omega)⟩
   exact h2 i x hx
  ·obtain⟨x,hx⟩:∃x,cs[i]?=some x:=⟨_,List.getElem?_eq_getElem (by have:=(List.getElem?_eq_some_iff.1 hy).1; omega)⟩
   exact ih i x y hx hy (h3 i x hx)
 | @tu cs ds hl _ ih =>
  intro u hr
  cases hr with | tu h1 h3=>?_
  refine .tu (by omega) (fun i y hy=>?_)
  obtain⟨x,hx⟩:∃x,cs[i]?=some x:=⟨_,List.getElem?_eq_getElem (by have:=(List.getElem?_eq_some_iff.1 hy).1; omega)⟩
  exact ih i x y hx hy (h3 i x hx)
theorem mix_nil {lim:Nat} {s:List Obj}:∀(i:Nat) (x y:V),([]:List V)[i]?=some x→([]:List V)[i]?=some y→Mix lim s x y:=by
 intro i x y h
 simp at h
theorem mix_cons {lim:Nat} {s:List Obj} {a b:V} {as bs:List V} (h:Mix lim s a b) (hs:∀(i:Nat) (x y:V),as[i]?=some x→bs[i]?=some y→Mix lim s x y):∀(i:Nat) (x y:V),(a::as)[i]?=some x→(b::bs)[i]?=some y→Mix lim s x y:=by
 intro i x y hx hy
 cases i with
 | zero =>
  simp only[List.getElem?_cons_zero,Option.some.injEq] at hx hy
  subst hx hy
  exact h
 | succ i=>exact hs i x y (by simpa using hx) (by simpa using hy)
def mixWp (lim:Nat) (s:List Obj) (r:V) (K:V→List Obj→Prop):Prop:=(s.take lim).all (objOk lim)=true∧∃r',Mix lim s r r'∧K r' (s.take lim)
def Qmix (P:Program) (rs:List ResultVar) (lim:Nat) (K:V→List Obj→Prop) (ex:Exit) (e:Env) (s:List Obj):Prop:=Qend ex∧resWp P rs e s fun r=>mixWp lim s r K
theorem Qmix_app {P:Program} {rs:List ResultVar} {lim:Nat} {K:V→List Obj→Prop} {ex:Exit} {e:Env} {s:List Obj}:Qmix P rs lim K ex e s=(Qend ex∧resWp P rs e s fun r=>mixWp lim s r K):=(rfl)
theorem fn_mix {P : Program} {f : FuncId} {fn : Func} {c : Code} {args : List V} {exts : List Obj} {K : V → List Obj → Prop} (hf : P.funcs[f]? = some fn) (hb : fn.body = some c) {N : Nat} (hN : fn.ntmps = N) {rs : Array ResultVar} (hrs : fn.results = rs) (hn : (fn.name != "runtime.NumGoroutine") = true)
  (lim M:Nat) (hl:exts.length≤lim) (ha:args.length≤N)
  (h:codeWp P N lim M c (Qmix P rs.toList lim K) (envOf args) exts):callWp P f args exts K:=by
 subst hN; subst hrs
 refine⟨by simp only[okFn,hf,hn,hb,Option.isSome_some,Bool.and_self],fun σ w vals hI hvl hv=>?_⟩
 refine calls_of_wp hf hb ?_
 have hR:RepE σ exts w fn.ntmps (envOf args) { tmps:=vals++Array.replicate (fn.ntmps - vals.size) undef,defers:=[] }:=by
  refine⟨rfl,by simp; omega,fun t=>?_⟩
  rw[envOf_get]
  by_cases ht:t < args.length
  ·have h1:=hv t args[t] (by simp [ht])
   have:(vals++Array.replicate (fn.ntmps - vals.size) undef).getD t undef=vals.getD t undef:=by
    rw[Array.getD_eq_getD_getElem?,Array.getElem?_append_left (by omega),Array.getD_eq_getD_getElem?]
   rw[this]
   simpa [ht] using h1
  ·have:(vals++Array.replicate (fn.ntmps - vals.size) undef).getD t undef=undef:=by
    rw[Array.getD_eq_getD_getElem?,Array.getElem?_append_right (by omega),Array.getElem?_replicate]
    split <;> rfl
   rw[this]
   simp [ht]
   exact .un
 refine wp_mono (codeWp_sound hl c _ (envOf args) exts σ w _ (Evolve.refl _ _ _) hI hR h) fun ex a' w' ⟨e',σ',s',hE,hI',hR',hex,hq⟩=>?_
 obtain⟨v,u,k1,k2,k3⟩:=resWp_sound hI' hR' hq
 obtain⟨h1,r',h2,h3⟩:=k3
 have fin:a'.defers=[]∧∃v,(results fn a'.tmps).run P w'=.ok v w'∧∃u v_1 σ'_1 s'_1,Ending.returned v=.returned u∧Evolve σ exts w σ'_1 s'_1 w'∧Inv σ'_1 s'_1 w'∧RepV σ'_1 s'_1 w' v_1 u∧K v_1 s'_1:=by
  refine⟨hR'.1,u,k1,?_⟩
  exact⟨u,r',σ',s'.take lim,rfl,hE.take hl,hI'.take h1,h2.spec hI' k2,h3⟩
 rcases Qend_spec hex with rfl | rfl
 ·exact fin
 ·exact fin
end Go.VL
