/- A part of the proof (F39). -/
import Derived.Test.YtpppfpaalcbggaaMB13
import Derived.Test.YtpppfpaalcbggaaMB14
set_option linter.unusedSimpArgs false
set_option linter.unusedVariables false
set_option maxRecDepth 100000
set_option maxHeartbeats 80000000
set_option linter.unusedSimpArgs false
set_option linter.unusedVariables false
namespace Go.Proofs.Ytpppfpaalcbggaa
open Go.VL Go.Proofs.Try
instance (n:Int):Decidable (I64 n):=by unfold I64; infer_instance
def smallB (c:Nat) (r:Re):Bool:=decide (r.set.length≤c∧r.kids.length≤c∧I64 r.op∧I64 r.mn∧I64 r.mx∧I64 r.mode∧I64 r.n)&&r.set.all fun s=>decide (I64 s.1∧I64 s.2)
structure Pat.small (p:Pat) (c:Nat):Prop where
 ev:p.re.every (smallB c)=true
 sz:p.re.size≤c
 caps:I64 p.caps
theorem smallB_iff {c:Nat} {r:Re}:smallB c r=true ↔ (r.set.length≤c∧r.kids.length≤c∧I64 r.op∧I64 r.mn∧I64 r.mx∧I64 r.mode∧I64 r.n)∧∀s∈r.set,I64 s.1∧I64 s.2:=by
 unfold smallB
 rw[Bool.and_eq_true,decide_eq_true_eq,List.all_eq_true]
 exact and_congr Iff.rfl ⟨fun h s hs=>of_decide_eq_true (h s hs),fun h s hs=>decide_eq_true (h s hs)⟩
theorem smallB_mono {c c':Nat} (h:c≤c') (r:Re) (hr:smallB c r=true):smallB c' r=true:=by
 obtain⟨⟨h1,h2,h3⟩,h4⟩:=smallB_iff.1 hr
 exact smallB_iff.2 ⟨⟨by omega,by omega,h3⟩,h4⟩
theorem every_mono' {p q:Re→Bool} (h:∀re,p re=true→q re=true) (re:Re) (hp:re.every p=true):re.every q=true:=by
 revert hp
 refine Re.ind (Q:=fun re=>re.every p=true→re.every q=true) (fun re ih hp=>?_) re
 obtain⟨h1,h2⟩:=(Re.every_iff re).1 hp
 exact(Re.every_iff re).2 ⟨h re h1,fun k hk=>ih k hk (h2 k hk)⟩
theorem small_fine {c:Nat} (hc:c≤1000000000) (re:Re) (h:re.every (smallB c)=true):re.fine=true:=by
 revert h
 refine Re.ind (Q:=fun re=>re.every (smallB c)=true→re.fine=true) (fun re ih h=>?_) re
 obtain⟨h1,h2⟩:=(Re.every_iff re).1 h
 obtain⟨⟨a1,a2,_⟩,_⟩:=smallB_iff.1 h1
 exact(Re.fine_iff re).2 ⟨by omega,by omega,fun k hk=>ih k hk (h2 k hk)⟩
theorem zero_small (c:Nat):smallB c zeroRe=true :=
 smallB_iff.2 ⟨⟨Nat.zero_le _,Nat.zero_le _,by decide⟩,fun s hs=>by cases hs⟩
theorem zero_every (c:Nat):zeroRe.every (smallB c)=true:=(Re.every_iff _).2 ⟨zero_small c,fun k hk=>by cases hk⟩
theorem at_every {q:Re→Bool} (hz:zeroRe.every q=true):∀(p:List Int) (re:Re),re.every q=true→(re.atR p).1.every q=true
 | [],re,h=>by cases re; exact h
 | i::p,re,h=>by
  rw[Re.atR]
  split
  ·exact hz
  ·split
   ·rename_i k hk
    exact at_every hz p k (((Re.every_iff re).1 h).2 k (List.mem_of_getElem? hk))
   ·exact hz
theorem at_size:∀(p:List Int) (re:Re),(re.atR p).1.size≤re.size
 | [],re=>by cases re; exact Nat.le_refl _
 | i::p,re=>by
  have h1:=re.size_pos
  rw[Re.atR]
  split
  ·exact h1
  ·split
   ·rename_i k hk
    have:=at_size p k
    have:=Re.size_kid (List.mem_of_getElem? hk)
    omega
   ·exact h1
theorem setKids_every {q:Re→Bool} (hq:∀(r:Re) (l:List Re),l.length=r.kids.length→q r=true→q (r.setKids l)=true) {re:Re} {l:List Re} (h:q re=true) (hl:l.length=re.kids.length) (hk:∀k∈l,k.every q=true):(re.setKids l).every q=true:=by
 refine(Re.every_iff _).2 ⟨hq re l hl h,fun k hk'=>hk k ?_⟩
 cases re; exact hk'
theorem put_every {q:Re→Bool} (hq:∀(r:Re) (l:List Re),l.length=r.kids.length→q r=true→q (r.setKids l)=true) (hz:zeroRe.every q=true) {x:Re} (hx:x.every q=true):∀(p:List Int) (re:Re),re.every q=true→(re.putR p x).1.every q=true
 | [],re,h=>by cases re; exact hx
 | i::p,re,h=>by
  rw[Re.putR]
  split
  ·exact hz
  ·rename_i hb
   split
   ·rename_i k hk
    obtain⟨h1,h2⟩:=(Re.every_iff re).1 h
    have hlt:=(List.getElem?_eq_some_iff.1 hk).1
    split
    ·exact hz
    ·refine setKids_every hq h1 ?_ ?_
     ·simp; omega
     ·intro y hy
      rcases List.mem_append.1 hy with hy | hy
      ·exact h2 y (List.mem_of_mem_take hy)
      ·rcases List.mem_cons.1 hy with rfl | hy
       ·exact put_every hq hz hx p k (h2 k (List.mem_of_getElem? hk))
       ·exact h2 y (List.mem_of_mem_drop hy)
   ·exact hz
theorem setKids_size (re:Re) (l:List Re):(re.setKids l).size=1 + Re.sizeL l:=by cases re; simp [Re.setKids,Re.size]
theorem put_size (x:Re):∀(p:List Int) (re:Re),(re.putR p x).1.size≤re.size + x.size
 | [],re=>by cases re; simp [Re.putR]
 | i::p,re=>by
  have h1:=re.size_pos
  have hz:zeroRe.size=1:=rfl
  rw[Re.putR]
  split
  ·simp only[hz]; omega
  ·split
   ·rename_i k hk
    have hlt:=(List.getElem?_eq_some_iff.1 hk).1
    have:=put_size x p k
    split
    ·simp only[hz]; omega
    ·simp only[setKids_size,Re.sizeL_append,Re.sizeL]
     have e:re.kids=re.kids.take i.toNat++k::re.kids.drop (i.toNat + 1):=by
      have hd:=List.drop_eq_getElem_cons hlt
      rw[List.getElem?_eq_getElem hlt] at hk
      simp only[Option.some.injEq] at hk
      rw[← hk,← hd,List.take_append_drop]
     have es:Re.sizeL re.kids=Re.sizeL (re.kids.take i.toNat) + (k.size + Re.sizeL (re.kids.drop (i.toNat + 1))):=by
      conv=>lhs; rw[e]
      rw[Re.sizeL_append,Re.sizeL]
     rw[Re.size_eq re,es]
     omega
   ·simp only[hz]; omega
theorem smallB_setKids (c:Nat) (r:Re) (l:List Re) (hl:l.length=r.kids.length) (h:smallB c r=true):smallB c (r.setKids l)=true:=by
 obtain⟨⟨h1,h2,h3⟩,h4⟩:=smallB_iff.1 h
 cases r
 exact smallB_iff.2 ⟨⟨h1,by show l.length≤c; omega,h3⟩,h4⟩
theorem mk_small {c:Nat} {op mn mx mode n:Int} {set:List (Int × Int)} {kids:List Re} {neg:Bool} (h1:set.length≤c) (h2:kids.length≤c) (h3:I64 op∧I64 mn∧I64 mx∧I64 mode∧I64 n) (h4:∀s∈set,I64 s.1∧I64 s.2) (h5:∀k∈kids,k.every (smallB c)=true):(Re.mk op set kids mn mx mode n neg).every (smallB c)=true :=
 (Re.every_iff _).2 ⟨smallB_iff.2 ⟨⟨h1,h2,h3⟩,h4⟩,h5⟩
theorem around_in (n m:Int) (hm:1≤m) (hn:I64 n):0≤around n m∧around n m < m:=by
 unfold I64 at hn
 unfold around
 split
 ·exact⟨Int.tmod_nonneg _ (by omega),Int.tmod_lt_of_pos _ (by omega)⟩
 ·exact⟨Int.tmod_nonneg _ (by omega),Int.tmod_lt_of_pos _ (by omega)⟩
theorem idx_lit (l:List Int) (n:Int) (h0:0≤n) (h1:n < l.length) (hl:∀x∈l,I64 x):∃v,I64 v∧(l.map fun x=>[iD x])[n.toNat]?=some [iD v]:=by
 have hlt:n.toNat < l.length:=by omega
 exact⟨l[n.toNat],hl _ (List.getElem_mem hlt),by rw[List.getElem?_map,List.getElem?_eq_getElem hlt]; rfl⟩
end Go.Proofs.Ytpppfpaalcbggaa
