/- A part of the proof (K24 K25 K26). -/
import Derived.Test.YtdofoappodmcoaaKP31
import Derived.Test.YtdofoappodmcoaaKP32
import Derived.Test.YtdofoappodmcoaaKP35
set_option linter.unusedSimpArgs false
set_option linter.unusedVariables false
set_option maxRecDepth 100000
set_option maxHeartbeats 80000000
namespace Go.Proofs.Ytdofoappodmcoaa
open Go.VL Go.Proofs.Try
def pairAt (regs:List Int) (j:Nat):Int × Int :=
 if regs.getD (2 * j) 0=-1∨regs.getD (2 * j + 1) 0=-1 then (-1,-1) else (regs.getD (2 * j) 0,regs.getD (2 * j + 1) 0)
def capsOf (c:Nat) (regs:List Int):CapsL:=(List.range c).map (pairAt regs)
theorem getD_get {l:List Int} {i:Nat} (h:i < l.length):l[i]?=some (l.getD i 0):=by
 rw[List.getD,List.getElem?_eq_getElem h]; rfl
def matB (st en:Int) (v:V):VL.Obj:=⟨0,true,3,[[i64 st,i64 en,v]]⟩
def zeroMO:VL.Obj:=⟨0,true,3,[[i64 0,i64 0,.fu []]]⟩
def capA (g:Nat) (c:CapsL):VL.Obj:=⟨g,true,2,(c.map spanC).map fun x=>x.map V.d⟩
theorem capA_ok (n g:Nat) (c:CapsL):objOk n (capA g c)=true:=by
 unfold objOk capA
 rw[List.all_eq_true]
 intro e he
 obtain⟨x,hx,rfl⟩:=List.mem_map.1 he
 rw[List.all_eq_true]
 intro y hy
 obtain⟨d,_,rfl⟩:=List.mem_map.1 hy
 rfl
theorem good_of {g:Prg} (h:prgE g=0):g.good:=by
 unfold prgE at h
 by_cases c1:8192 < g.ins.length
 ·rw[if_pos c1] at h; omega
 rw[if_neg c1] at h
 by_cases c2:g.ins.length=0∨g.caps < 0∨9 < g.caps
 ·rw[if_pos c2] at h; omega
 rw[if_neg c2] at h
 have c3:g.ins.all (insB g.ins.length g.caps g.runes)=true:=by
  cases hc:g.ins.all (insB g.ins.length g.caps g.runes) with
  | true=>rfl
  | false=>rw[if_neg (by rw[hc]; simp)] at h; omega
 rw[if_pos c3] at h
 by_cases c4:lastOp g=1∨4≤lastOp g
 ·rw[if_pos c4] at h; omega
 rw[List.all_eq_true] at c3
 have hop:∀x∈g.ins,unusedB x=true∧opOk g.ins.length g.caps g.runes x=true:=fun x hx=>by
  have:=c3 x hx
  unfold insB at this
  rwa [Bool.and_eq_true] at this
 have hops:∀x∈g.ins,0≤x.op∧x.op≤5:=fun x hx=>by
  have:=(hop x hx).2
  unfold opOk at this
  by_cases o0:x.op=0
  ·omega
  by_cases o1:x.op=1
  ·omega
  by_cases o2:x.op=2
  ·omega
  by_cases o3:x.op=3
  ·omega
  by_cases o4:x.op=4
  ·omega
  by_cases o5:x.op=5
  ·omega
  rw[if_neg o0,if_neg o1,if_neg o2,if_neg o3,if_neg o4,if_neg o5] at this
  cases this
 refine⟨by omega,by omega,by omega,by omega,fun x hx=>?_,fun i x hx o=>?_,fun i x hx o=>?_,fun i x hx o=>?_,fun i x hx o=>?_,fun i x hx o=>?_,hops⟩
 ·obtain⟨hu,ho⟩:=hop x hx
  by_cases o1:x.op=1
  ·unfold opOk at ho
   rw[if_neg (by omega),if_pos o1,Bool.and_eq_true] at ho
   have:=of_decide_eq_true ho.1
   unfold setE at this
   split at this
   ·split at this
    ·omega
    ·omega
   ·omega
  ·have:=(of_decide_eq_true hu).1 o1
   omega
 ·have ho:=(hop x (List.mem_of_getElem? hx)).2
  unfold opOk tgtB at ho
  rw[if_neg (by omega),if_neg (by omega),if_pos o,Bool.and_eq_true,decide_eq_true_eq,decide_eq_true_eq] at ho
  omega
 ·have ho:=(hop x (List.mem_of_getElem? hx)).2
  unfold opOk tgtB at ho
  rw[if_neg (by omega),if_neg (by omega),if_neg (by omega),if_pos o,decide_eq_true_eq] at ho
  omega
 ·have ho:=(hop x (List.mem_of_getElem? hx)).2
  unfold opOk at ho
  rw[if_neg (by omega),if_neg (by omega),if_neg (by omega),if_neg (by omega),if_pos o,decide_eq_true_eq] at ho
  exact ho
 ·have ho:=(hop x (List.mem_of_getElem? hx)).2
  unfold opOk at ho
  rw[if_neg (by omega),if_neg (by omega),if_neg (by omega),if_neg (by omega),if_neg (by omega),if_pos o,decide_eq_true_eq] at ho
  exact ho
 ·have hlt:=(List.getElem?_eq_some_iff.1 hx).1
  rcases Nat.lt_or_ge (i + 1) g.ins.length with h' | h'
  ·exact h'
  ·exfalso
   have hi:g.ins.length - 1=i:=by omega
   apply c4
   unfold lastOp
   rw[hi,hx]
   exact o
def chkE (g:Prg) (t:List Int) (at_:Int):Int:=if prgE g≠0 then prgE g else if 65536 < t.length then 4 else if at_ < 0∨(t.length:Int) < at_ then 5 else 0
def lastRegs (l:List RTh):List Int:=match l[l.length - 1]? with | none=>[] | some x=>x.regs
def bestR (g:Prg) (start:Int) (l:RList) (b:Option Mat):Option Mat :=
 if (cutR g l.st.ths).2=true then some ⟨start,l.at_,capsOf g.caps.toNat (lastRegs (cutR g l.st.ths).1)⟩ else b
def runR (g:Prg) (t:List Int) (start:Int):Nat→RList→Option Mat→Option Mat
 | 0,_,b=>b
 | k + 1,l,b=>if (cutR g l.st.ths).1=[]∨(t.length:Int)≤l.at_ then bestR g start l b else runR g t start k (nextR g t l) (bestR g start l b)
def run0 (g:Prg) (t:List Int) (at_:Int):Option Mat:=runR g t at_ (t.length + 1) (beginR g t at_) none
def optM (b:Option Mat):Mat:=b.getD ⟨0,0,[]⟩
theorem begin_th (g:Prg) (hg:g.good) (t:List Int) (at_:Int):(∀x∈(beginR g t at_).st.ths,x.ok g)∧(beginR g t at_).st.ths.length≤1000000:=by
 have hl0:=hg.len0
 have hl1:=hg.len1
 have h:=rAdd_len g t at_ (rGas g) 0 (List.replicate (2 * g.caps).toNat (-1)) (rNone g)
 have e:free (rNone g).added=g.ins.length:=free_none _
 have e2:(rNone g).ths.length=0:=rfl
 refine⟨rAdd_all g hg t at_ _ _ _ _ (Int.le_refl _) (by omega) (by simp) (fun x hx=>by simp [rNone] at hx),?_⟩
 show (rAdd g t at_ (rGas g) 0 (List.replicate (2 * g.caps).toNat (-1)) (rNone g)).ths.length≤_
 omega
def runE (g:Prg) (t:List Int) (at_:Int):Option Mat × Int:=if chkE g t at_=0 then (run0 g t at_,0) else (none,chkE g t at_)
end Go.Proofs.Ytdofoappodmcoaa
