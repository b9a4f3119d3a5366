/- A part of the proof (K20). -/
import Derived.Test.YtdofoappodmcoaaKP33
import Derived.Test.YtdofoappodmcoaaKP32
import Derived.Test.YtdofoappodmcoaaKP8
set_option linter.unusedSimpArgs false
set_option linter.unusedVariables false
set_option maxRecDepth 100000
set_option maxHeartbeats 80000000
namespace Go.Proofs.Ytdofoappodmcoaa
open Go.VL Go.Proofs.Try
structure RTh where
 pc:Int
 regs:List Int
structure RSt where
 added:List Bool
 ths:List RTh
def insAt (g:Prg) (n:Int):Ins:=g.ins.getD n.toNat ⟨0,0,0,0,[]⟩
def rAdd (g:Prg) (t:List Int) (at_:Int):Nat→Int→List Int→RSt→RSt
 | 0,_,_,st=>st
 | k + 1,pc,regs,st =>
  if st.added.getD pc.toNat true=true then st
  else
   let st:RSt:=⟨st.added.set pc.toNat true,st.ths⟩
   let x:=insAt g pc
   if x.op=2 then rAdd g t at_ k x.y regs (rAdd g t at_ k x.x regs st)
   else if x.op=3 then rAdd g t at_ k x.x regs st
   else if x.op=4 then rAdd g t at_ k (pc + 1) (regs.set x.n.toNat at_) st
   else if x.op=5 then (if holdsR x.n t at_=true then rAdd g t at_ k (pc + 1) regs st else st)
   else ⟨st.added,st.ths++[⟨pc,regs⟩]⟩
structure Prg.good (g:Prg):Prop where
 len0:1≤g.ins.length
 len1:g.ins.length≤8192
 caps0:0≤g.caps
 caps1:g.caps≤9
 sets:∀x∈g.ins,x.set.length≤64
 split:∀(i:Nat) (x:Ins),g.ins[i]?=some x→x.op=2→0≤x.x∧x.x < g.ins.length∧0≤x.y∧x.y < g.ins.length
 jump:∀(i:Nat) (x:Ins),g.ins[i]?=some x→x.op=3→0≤x.x∧x.x < g.ins.length
 save:∀(i:Nat) (x:Ins),g.ins[i]?=some x→x.op=4→0≤x.n∧x.n < 2 * g.caps
 assert:∀(i:Nat) (x:Ins),g.ins[i]?=some x→x.op=5→0≤x.n∧x.n≤5
 next:∀(i:Nat) (x:Ins),g.ins[i]?=some x→(x.op=1∨4≤x.op)→i + 1 < g.ins.length
 ops:∀x∈g.ins,0≤x.op∧x.op≤5
def free (l:List Bool):Nat:=l.countP (fun b=>!b)
theorem free_set {l:List Bool} {i:Nat} (h:l.getD i true=false):free (l.set i true) + 1=free l:=by
 induction l generalizing i with
 | nil=>simp at h
 | cons b l ih =>
  cases i with
  | zero=>simp at h; subst h; simp [free]
  | succ i =>
   have:=ih (i:=i) (by simpa using h)
   unfold free at *
   simp only[List.set_cons_succ,List.countP_cons]
   omega
theorem rAdd_len (g:Prg) (t:List Int) (at_:Int):∀(k:Nat) (pc:Int) (regs:List Int) (st:RSt),(rAdd g t at_ k pc regs st).added.length=st.added.length∧free (rAdd g t at_ k pc regs st).added≤free st.added ∧
  (rAdd g t at_ k pc regs st).ths.length + free (rAdd g t at_ k pc regs st).added≤st.ths.length + free st.added
 | 0,_,_,st=>by simp [rAdd]
 | k + 1,pc,regs,st=>by
  rw[rAdd]
  by_cases h:st.added.getD pc.toNat true=true
  ·rw[if_pos h]; simp
  rw[if_neg h]
  have hf:=free_set (l:=st.added) (i:=pc.toNat) (by simpa using h)
  have hl:(st.added.set pc.toNat true).length=st.added.length:=by simp
  simp only
  generalize hst:(⟨st.added.set pc.toNat true,st.ths⟩:RSt)=st1
  have e1:st1.added=st.added.set pc.toNat true:=by rw[← hst]
  have e2:st1.ths=st.ths:=by rw[← hst]
  have hf0:=hf
  have hl0:=hl
  rw[← e1] at hf hl
  split
  ·have h1:=rAdd_len g t at_ k (insAt g pc).x regs st1
   have h2:=rAdd_len g t at_ k (insAt g pc).y regs (rAdd g t at_ k (insAt g pc).x regs st1)
   rw[e2] at h1
   omega
  split
  ·have h1:=rAdd_len g t at_ k (insAt g pc).x regs st1
   rw[e2] at h1
   omega
  split
  ·have h1:=rAdd_len g t at_ k (pc + 1) (regs.set (insAt g pc).n.toNat at_) st1
   rw[e2] at h1
   omega
  split
  ·split
   ·have h1:=rAdd_len g t at_ k (pc + 1) regs st1
    rw[e2] at h1
    omega
   ·rw[e2]; omega
  ·show (st.added.set pc.toNat true).length=_∧free (st.added.set pc.toNat true)≤_∧(st.ths++[(⟨pc,regs⟩:RTh)]).length + free (st.added.set pc.toNat true)≤_
   simp only[List.length_append,List.length_cons,List.length_nil]
   omega
theorem insAt_get {g:Prg} {pc:Int} (h0:0≤pc) (h1:pc < g.ins.length):g.ins[pc.toNat]?=some (insAt g pc):=by
 unfold insAt
 rw[List.getD,List.getElem?_eq_getElem (by omega:pc.toNat < g.ins.length)]
 rfl
theorem intEls (l:List Int):∀e∈(l.map fun x=>[iD x]).map (fun x=>x.map V.d),e.length=1:=fun e he=>by
 obtain⟨x,hx,rfl⟩:=List.mem_map.1 he
 obtain⟨p,_,rfl⟩:=List.mem_map.1 hx
 rfl
end Go.Proofs.Ytdofoappodmcoaa
