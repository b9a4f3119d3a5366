/- A part of the proof (K20). -/
import Derived.Test.YtphfjhaffbfpfaaPM18
import Derived.Test.YtphfjhaffbfpfaaPM19
import Derived.Test.YtphfjhaffbfpfaaPM20
set_option linter.all false
set_option maxRecDepth 100000
set_option maxHeartbeats 80000000
namespace Go.Proofs.Ytphfjhaffbfpfaa
open Go.VL Go.Proofs.Try
structure rv where
 pc:Int
 aE:List Int
structure zA where
 added:List Bool
 jg:List rv
def bk (g:cJ) (n:Int):bR:=g.ins.getD n.toNat ⟨0,0,0,0,[]⟩
def iE (g:cJ) (t:List Int) (at_:Int):Nat->Int->List Int->zA->zA
 |0,_,_,st=>st
 |k+1,pc,aE,st =>
  if st.added.getD pc.toNat true=true then st
  else
   let st:zA:=⟨st.added.set pc.toNat true,st.jg⟩
   let x:=bk g pc
   if x.op=2 then iE g t at_ k x.y aE (iE g t at_ k x.x aE st)
   else if x.op=3 then iE g t at_ k x.x aE st
   else if x.op=4 then iE g t at_ k (pc+1) (aE.set x.n.toNat at_) st
   else if x.op=5 then (if bN x.n t at_=true then iE g t at_ k (pc+1) aE st else st)
   else ⟨st.added,st.jg++[⟨pc,aE⟩]⟩
structure cJ.bW (g:cJ):Prop where
 IQ:1<=g.ins.length
 CI:g.ins.length<=8192
 O7:0<=g.ah
 NC:g.ah<=9
 VQ:∀x∈g.ins,x.set.length<=64
 split:∀(i:Nat) (x:bR),g.ins[i]?=some x->x.op=2->0<=x.x/\x.x<g.ins.length/\0<=x.y/\x.y<g.ins.length
 jump:∀(i:Nat) (x:bR),g.ins[i]?=some x->x.op=3->0<=x.x/\x.x<g.ins.length
 save:∀(i:Nat) (x:bR),g.ins[i]?=some x->x.op=4->0<=x.n/\x.n<2*g.ah
 assert:∀(i:Nat) (x:bR),g.ins[i]?=some x->x.op=5->0<=x.n/\x.n<=5
 next:∀(i:Nat) (x:bR),g.ins[i]?=some x->(x.op=1\/4<=x.op)->i+1<g.ins.length
 ops:∀x∈g.ins,0<=x.op/\x.op<=5
def free (l:List Bool):Nat:=l.countP (λb=>!b)
theorem E4 {l:List Bool}{i:Nat} (h:l.getD i true=false):free (l.set i true)+1=free l:=by
 induction l generalizing i with
 |nil=>simp at h
 |cons b l ih =>
  cases i with
  |zero=>simp at h;subst h;simp [free]
  |succ i =>
   have:=ih (i:=i) (by simpa using h);unfold free at *;simp only[ad6,List.countP_cons];omega
theorem jj (g:cJ) (t:List Int) (at_:Int):∀(k:Nat) (pc:Int) (aE:List Int) (st:zA),(iE g t at_ k pc aE st).added.length=st.added.length/\free (iE g t at_ k pc aE st).added<=free st.added /\
  (iE g t at_ k pc aE st).jg.length+free (iE g t at_ k pc aE st).added<=st.jg.length+free st.added
 |0,_,_,st=>by simp [iE]
 |k+1,pc,aE,st=>by
  rw[iE];by_cases h:st.added.getD pc.toNat true=true
  ·rw[ap h];simp
  rw[am h];have hf:=E4 (l:=st.added) (i:=pc.toNat) (by simpa using h);have hl:(st.added.set pc.toNat true).length=st.added.length:=by simp
  simp only;generalize aU:(⟨st.added.set pc.toNat true,st.jg⟩:zA)=c8;have e1:c8.added=st.added.set pc.toNat true:=by rw[<- aU]
  have e2:c8.jg=st.jg:=by rw[<- aU]
  have hf0:=hf;have ek:=hl;rw[<- e1]at hf hl;split
  ·have h1:=jj g t at_ k (bk g pc).x aE c8;have h2:=jj g t at_ k (bk g pc).y aE (iE g t at_ k (bk g pc).x aE c8);rw[e2]at h1;omega
  split
  ·have h1:=jj g t at_ k (bk g pc).x aE c8;rw[e2]at h1;omega
  split
  ·have h1:=jj g t at_ k (pc+1) (aE.set (bk g pc).n.toNat at_) c8;rw[e2]at h1;omega
  split
  ·split
   ·have h1:=jj g t at_ k (pc+1) aE c8;rw[e2]at h1;omega
   ·rw[e2];omega
  ·show (st.added.set pc.toNat true).length=_/\free (st.added.set pc.toNat true)<=_/\(st.jg++[(⟨pc,aE⟩:rv)]).length+free (st.added.set pc.toNat true)<=_;simp only[adx,adA,adF];omega
theorem fE {g:cJ}{pc:Int} (h0:0<=pc) (h1:pc<g.ins.length):g.ins[pc.toNat]?=some (bk g pc):=by unfold bk;rw[List.getD,adn (by omega:pc.toNat<g.ins.length)];rfl
theorem Td (l:List Int):∀e∈(l.map λx=>[iD x]).map (λx=>x.map V.d),e.length=1:=λe he=>by obtain⟨x,hx,rfl⟩:=List.mem_map.1 he;obtain⟨p,_,rfl⟩:=List.mem_map.1 hx;rfl
end Go.Proofs.Ytphfjhaffbfpfaa
