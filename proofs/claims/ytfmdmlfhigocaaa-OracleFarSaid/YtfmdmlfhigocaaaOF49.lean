/- A part of the proof (O45 K3 K4 K5 K6). -/
import Derived.Test.YtfmdmlfhigocaaaOF35
import Derived.Test.YtfmdmlfhigocaaaOF48
set_option linter.unusedSimpArgs false
set_option linter.unusedVariables false
set_option maxRecDepth 100000
set_option maxHeartbeats 80000000
namespace Go.Proofs.Ytfmdmlfhigocaaa
open Go.VL
def N0 (re:Re):Bool:=decide (re.op≠11/\re.op≠7/\re.op≠8)
theorem LS (re:Re):re.every N0=true->re.looks=0:=by
 refine Re.ind (Q:=fun re=>re.every N0=true->re.looks=0) (fun re ih h=>?_) re
 obtain⟨h1,h2⟩:=(Re.aS re).1 h
 have h1:=of_decide_eq_true h1
 have hL:∀l:List Re,(∀x∈l,x∈re.kids)->Re.aN l=0:=by
  intro l
  induction l with
  |nil=>intro _;simp [Re.aN]
  |cons x l IK =>
   intro hm
   rw[Re.aN,ih x (hm x (by simp)) (h2 x (hm x (by simp))),IK fun y hy=>hm y (by simp [hy])]
 rw[Re.iu,if_neg (by omega),hL re.kids fun _ h=>h]
def TK (i:av):Prop:=i.op≠5/\(i.node=none\/∃re k,i.node=some (re,k)/\re.op=1)
def iz (re:Re):List av:=re.emit 1 []++[cc]
theorem Cq {re:Re} (h:re.every N0=true) (n:Nat):TK (db (iz re) n):=by
 have hP:qI TK N0:=by
  refine⟨fun i x y h=>h,fun x y=>⟨by simp [dS],.inl rfl⟩,fun x=>⟨by simp [jN],.inl rfl⟩,fun re k _ o=>⟨by simp [sQ],.inr ⟨re,k,rfl,o⟩⟩,fun re k h o=>?_,fun re _ _=>⟨⟨by simp [gy],.inl rfl⟩,by simp [gy],.inl rfl⟩⟩
  have:=of_decide_eq_true h
  omega
 have ha:=Bm hP re h 1 [] (fun i hi=>by simp at hi)
 have bM:jk TK (iz re):=ha.add ⟨by simp [cc],.inl rfl⟩
 by_cases hn:n<(iz re).length
 ·have hm:db (iz re) n∈iz re:=by unfold db;rw[List.getD_eq_getElem?_getD,List.getElem?_eq_getElem hn];exact List.getElem_mem hn
  exact bM _ hm
 ·have:db (iz re) n=⟨0,0,0,0,none⟩:=by unfold db;rw[List.getD_eq_getElem?_getD,List.getElem?_eq_none (by omega)];rfl
  rw[this]
  exact⟨by simp,.inl rfl⟩
theorem Al {t t':List Int}{Bs u6:List (List Bool)}{i:av} (h:TK i) {p p':Nat} (h1:p<t.length ↔ p'<t'.length) (h2:p<t.length->t[p]?=t'[p']?):i.pass t Bs p=i.pass t' u6 p':=by
 unfold av.pass
 rcases h.2 with hn|⟨re,k,hn,o⟩
 ·rw[hn]
 ·rw[hn]
  simp only[o,if_true]
  by_cases c:p<t.length
  ·have c':=h1.1 c
   have e1:t[p]?=some (kW t p):=lF (i:=(p:Int)) (by omega) (by omega)
   have e2:t'[p']?=some (kW t' p'):=lF (i:=(p':Int)) (by omega) (by omega)
   have e3:kW t p=kW t' p':=by
    have:=h2 c
    rw[e1,e2]at this
    exact Option.some.inj this
   rw[e3,decide_eq_true (by omega:(p:Int)<t.length),decide_eq_true (by omega:(p':Int)<t'.length)]
  ·have c':¬p'<t'.length:=fun h=>c (h1.2 h)
   rw[decide_eq_false (by omega:¬(p:Int)<t.length),decide_eq_false (by omega:¬(p':Int)<t'.length)]
   rfl
theorem Jl {re:Re} (h:re.every N0=true) (t a:List Int) {cut i:Nat} (hc:cut<=i) (hi:i<=t.length):(eI t [[]] (iz re))[i]?=(eI (a++t.drop cut) [[]] (iz re))[i-cut+a.length]?:=by
 have JU:(a++t.drop cut).length=a.length+(t.length-cut):=by simp
 refine CH hi (by omega) (by omega) (fun j hj n=>Al (Cq h n) (by omega) (fun az=>?_))
 rw[List.getElem?_append_right (by omega),List.getElem?_drop,JU]
 congr 1
 omega
theorem Dw {re:Re} (h:re.every N0=true) (t a:List Int) {cut j:Nat} (hc:cut<=t.length) (hj:j<=cut):(n9 t [[]] (iz re))[j]?=(n9 (t.take cut++a) [[]] (iz re))[j]?:=by
 have JU:(t.take cut++a).length=cut+a.length:=by simp;omega
 refine Iu (fun n=>(Cq h n).1) hc (by omega) (fun p hp n=>Al (Cq h n) (by omega) (fun az=>?_)) hj
 rw[List.getElem?_append_left (by simp;omega),List.getElem?_take,if_pos hp]
def cC (op:Int) (re:Re):jl:=⟨.mk op [] [re] 0 0 0 0 false,0,false⟩
theorem Es (l:List Bool):(l.map fun b=>b != false)=l:=by
 rw[show (fun b:Bool=>b != false)=id from funext fun b=>by cases b <;> rfl,List.map_id]
theorem rl {re:Re} (h:re.every N0=true) {op:Int} (ho:op=7\/op=8) {t:List Int} (h0:dE (cC op re) t=0):py (cC op re) t=[if op=7 then eI t [[]] (iz re) else n9 t [[]] (iz re)]:=by
 have hk:re.bU 1=[]:=List.eq_nil_of_length_eq_zero (by rw[Re.qR];exact LS re h)
 have hL:(cC op re).re.bU 0=[((cC op re).re,0)]:=by
  rw[Re.Db,if_pos (show (cC op re).re.op=7\/(cC op re).re.op=8 from ho)]
  show _::Re.kg [re] (0+1)=_
  rw[Re.kg,hk]
  rfl
 unfold py
 rw[if_pos h0,hL]
 show [gT t [[]] (cC op re).re 0]=_
 unfold gT
 have e1:Re.dc (cC op re).re.kids (0+1) []++[cc]=iz re:=rfl
 rw[e1]
 have e2:(cC op re).re.neg=false:=rfl
 have e3:(cC op re).re.op=op:=rfl
 rw[e2,e3]
 simp only
 rw[Es]
theorem rm {p:jl}{t:List Int} (hl:t.length<=65536) (hs:t.all (eH p.aU)=true):dE p t=yJ p:=by
 unfold dE
 split
 ·rfl
 ·rename_i h
  rw[if_neg (by omega),if_neg (by rw[hs];simp)]
  omega
theorem C7 {op mn mx k n:Int} (hk:op=3->2<=k) (hn:0<=n) (h0:0<=mn) (h1:op=4->mx=-1\/1<=mx/\mn<=mx):0<=nR op mn mx k n:=by
 unfold nR
 by_cases o1:op=1\/op=11
 ·rw[if_pos o1];omega
 rw[if_neg o1]
 by_cases o3:op=3
 ·rw[if_pos o3];have:=hk o3;omega
 rw[if_neg o3]
 by_cases o5:op=5
 ·rw[if_pos o5];omega
 rw[if_neg o5]
 by_cases o4:op=4
 ·rw[if_pos o4]
  have h1:=h1 o4
  by_cases om:mx=-1
  ·rw[if_pos om]
   have:0<=(mn+1)*n:=Int.mul_nonneg (by omega) hn
   omega
  ·rw[if_neg om]
   have:0<=mx*n:=Int.mul_nonneg (by omega) hn
   omega
 ·rw[if_neg o4];omega
end Go.Proofs.Ytfmdmlfhigocaaa
namespace Go.Proofs.Ytfmdmlfhigocaaa
open Go.VL Go.Proofs.Try
def JH (g:Nat) (l:List Jq):VL.Obj:=⟨g,true,5,(l.map Jq.cells).map fun c=>c.map V.d⟩
end Go.Proofs.Ytfmdmlfhigocaaa
