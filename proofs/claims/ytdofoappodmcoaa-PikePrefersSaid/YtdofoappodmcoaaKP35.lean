/- A part of the proof (K21 K22 K23). -/
import Derived.Test.YtdofoappodmcoaaKP34
set_option linter.unusedSimpArgs false
set_option linter.unusedVariables false
set_option maxRecDepth 100000
set_option maxHeartbeats 80000000
namespace Go.Proofs.Ytdofoappodmcoaa
open Go.VL Go.Proofs.Try
def rGas (g:Prg):Nat:=g.ins.length + 1
def rNone (g:Prg):RSt:=⟨List.replicate g.ins.length false,[]⟩
structure RList where
 at_:Int
 st:RSt
def beginR (g:Prg) (t:List Int) (at_:Int):RList:=⟨at_,rAdd g t at_ (rGas g) 0 (List.replicate (2 * g.caps).toNat (-1)) (rNone g)⟩
theorem free_none (n:Nat):free (List.replicate n false)=n:=by
 induction n with
 | zero=>rfl
 | succ n ih=>unfold free at *; rw[List.replicate_succ,List.countP_cons]; simp; omega
theorem free_le (l:List Bool):free l≤l.length:=List.countP_le_length
def boxP (g:Prg):VL.Obj:=⟨0,true,3,[[.d (.sl (g.ins.map Ins.cells)),i64 g.caps,bV g.runes]]⟩
structure RTh.ok (g:Prg) (x:RTh):Prop where
 p0:0≤x.pc
 p1:x.pc < g.ins.length
 regs:x.regs.length=(2 * g.caps).toNat
 op:(insAt g x.pc).op=0∨(insAt g x.pc).op=1
theorem rAdd_all (g:Prg) (hg:g.good) (t:List Int) (at_:Int):∀(k:Nat) (pc:Int) (regs:List Int) (st:RSt),0≤pc→pc < g.ins.length→regs.length=(2 * g.caps).toNat→(∀x∈st.ths,x.ok g)→∀x∈(rAdd g t at_ k pc regs st).ths,x.ok g
 | 0,_,_,st,_,_,_,h=>by simpa [rAdd] using h
 | k + 1,pc,regs,st,h0,h1,hr,h=>by
  have hx:=insAt_get h0 h1
  have hs:=hg.split pc.toNat _ hx
  have hj:=hg.jump pc.toNat _ hx
  have hn:=hg.next pc.toNat _ hx
  have ho:=hg.ops _ (List.mem_of_getElem? hx)
  rw[rAdd]
  split
  ·exact h
  simp only
  split
  ·rename_i o2
   have:=hs o2
   exact rAdd_all g hg t at_ k _ _ _ (by omega) (by omega) hr (rAdd_all g hg t at_ k _ _ _ (by omega) (by omega) hr h)
  split
  ·rename_i o3
   have:=hj o3
   exact rAdd_all g hg t at_ k _ _ _ (by omega) (by omega) hr h
  split
  ·rename_i o4
   have:=hn (.inr (by omega))
   exact rAdd_all g hg t at_ k _ _ _ (by omega) (by omega) (by simpa using hr) h
  split
  ·rename_i o5
   have:=hn (.inr (by omega))
   split
   ·exact rAdd_all g hg t at_ k _ _ _ (by omega) (by omega) hr h
   ·exact h
  ·intro x hx
   rcases List.mem_append.1 hx with hx | hx
   ·exact h x hx
   ·rw[List.mem_singleton.1 hx]
    exact⟨h0,h1,hr,by show (insAt g pc).op=0∨(insAt g pc).op=1; omega⟩
def cutR (g:Prg):List RTh→List RTh × Bool
 | []=>([],false)
 | x::l=>if (insAt g x.pc).op=0 then ([x],true) else (x::(cutR g l).1,(cutR g l).2)
def hasB (l:List (Int × Int)) (x:Int):Bool:=l.any fun s=>decide (s.1≤x∧x≤s.2)
def nextS (g:Prg) (t:List Int) (at_:Int) (st:RSt) (x:RTh):RSt :=
 if (insAt g x.pc).op=1∧hasB (insAt g x.pc).set (tAt t at_)=true then rAdd g t (at_ + 1) (rGas g) (x.pc + 1) x.regs st else st
def nextF (g:Prg) (t:List Int) (at_:Int) (l:List RTh):RSt:=l.foldl (nextS g t at_) (rNone g)
def nextR (g:Prg) (t:List Int) (l:RList):RList:=⟨l.at_ + 1,nextF g t l.at_ (cutR g l.st.ths).1⟩
theorem nextF_inv (g:Prg) (hg:g.good) (t:List Int) (at_:Int):∀(l:List RTh) (st:RSt),(∀x∈l,x.ok g)→st.added.length=g.ins.length→st.ths.length + free st.added≤g.ins.length→(∀x∈st.ths,x.ok g) →
  (l.foldl (nextS g t at_) st).added.length=g.ins.length∧(l.foldl (nextS g t at_) st).ths.length + free (l.foldl (nextS g t at_) st).added≤g.ins.length∧∀x∈(l.foldl (nextS g t at_) st).ths,x.ok g
 | [],st,_,h1,h2,h3=>⟨h1,h2,h3⟩
 | x::l,st,hl,h1,h2,h3=>by
  rw[List.foldl_cons]
  have hx:=hl x (by simp)
  have hins:=insAt_get hx.p0 hx.p1
  refine nextF_inv g hg t at_ l _ (fun y hy=>hl y (by simp [hy])) ?_ ?_ ?_
  all_goals
   unfold nextS
   split
   ·rename_i hc
    have hn:=hg.next x.pc.toNat _ hins (.inl hc.1)
    have hp0:=hx.p0
    have hb:=rAdd_len g t (at_ + 1) (rGas g) (x.pc + 1) x.regs st
    first
     | omega
     | exact rAdd_all g hg t (at_ + 1) (rGas g) (x.pc + 1) x.regs st (by omega) (by omega) hx.regs h3
   ·first | exact h1 | exact h2 | exact h3
theorem nextF_ok (g:Prg) (hg:g.good) (t:List Int) (at_:Int) (l:List RTh) (hl:∀x∈l,x.ok g):(nextF g t at_ l).added.length=g.ins.length∧(nextF g t at_ l).ths.length + free (nextF g t at_ l).added≤g.ins.length∧∀x∈(nextF g t at_ l).ths,x.ok g :=
 nextF_inv g hg t at_ l _ hl (by simp [rNone]) (by simp only[rNone]; rw[free_none]; simp) (fun x hx=>by simp [rNone] at hx)
end Go.Proofs.Ytdofoappodmcoaa
