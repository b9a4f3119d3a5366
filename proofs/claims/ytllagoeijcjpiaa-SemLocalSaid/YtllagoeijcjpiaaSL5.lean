/- A part of the proof (F19 F20 F21 F23 F24 F25). -/
import Derived.Test.YtllagoeijcjpiaaSL3
import Derived.Test.YtllagoeijcjpiaaSL4
set_option linter.unusedSimpArgs false
set_option linter.unusedVariables false
set_option maxRecDepth 100000
set_option maxHeartbeats 80000000
set_option linter.unusedSimpArgs false
set_option linter.unusedVariables false
namespace Go.Proofs.Ytllagoeijcjpiaa
open Go.VL Go.Proofs.Try
end Go.Proofs.Ytllagoeijcjpiaa
namespace Go.Proofs.Ytllagoeijcjpiaa
open Go.VL Go.Proofs.Try
mutual
def Re.every (p:Re→Bool):Re→Bool
 | .mk op set kids mn mx mode n neg=>p (.mk op set kids mn mx mode n neg)&&Re.everyL p kids
def Re.everyL (p:Re→Bool):List Re→Bool
 | []=>true
 | k::l=>Re.every p k&&Re.everyL p l
end
theorem Re.everyL_all (p:Re→Bool):∀l:List Re,Re.everyL p l=l.all (Re.every p)
 | []=>rfl
 | k::l=>by simp [Re.everyL,Re.everyL_all p l]
theorem Re.every_iff {p:Re→Bool} (re:Re):re.every p=true ↔ p re=true∧∀k∈re.kids,k.every p=true:=by
 cases re with
 | mk op set kids mn mx mode n neg=>simp only[Re.every,Bool.and_eq_true,Re.everyL_all,List.all_eq_true,Re.kids]
end Go.Proofs.Ytllagoeijcjpiaa
namespace Go.Proofs.Ytllagoeijcjpiaa
open Go.VL Go.Proofs.Try
structure LR (nul:Bool) (p:Int × Int):Prop where
 a0:0≤p.1
 a1:p.1≤1000000
 b0:-1≤p.2
 b1:p.2≤1000000
 ab:p.2=-1∨p.1≤p.2
 nl:nul=true ↔ p.1=0
theorem lplus_in {a b:Int} (h1:-1≤a∧a≤1000000) (h2:-1≤b∧b≤1000000):lplus a b=if a < 0∨b < 0 then -1 else min (a + b) 1000000:=by
 unfold lplus
 rw[w64 _ (by omega)]
theorem cat_step {na nk:Bool} {a k:Int × Int} (ha:LR na a) (hk:LR nk k):LR (na&&nk) (lplus a.1 k.1,lplus a.2 k.2):=by
 obtain⟨a0,a1,b0,b1,ab,nl⟩:=ha
 obtain⟨c0,c1,d0,d1,cd,nl'⟩:=hk
 have e1:lplus a.1 k.1=min (a.1 + k.1) 1000000:=by rw[lplus_in ⟨by omega,a1⟩ ⟨by omega,c1⟩,if_neg (by omega)]
 have e2:=lplus_in ⟨b0,b1⟩ ⟨d0,d1⟩
 refine⟨?_,?_,?_,?_,?_,?_⟩ <;> simp only[e1,e2]
 ·omega
 ·omega
 ·split <;> omega
 ·split <;> omega
 ·split <;> omega
 ·rw[Bool.and_eq_true,nl,nl']; omega
theorem cat_foldl:∀(l:List (Bool × (Int × Int))) (na:Bool) (a:Int × Int),LR na a→(∀x∈l,LR x.1 x.2) →
  LR (na&&(l.map (·.1)).all id) ((l.map (·.2)).foldl (fun a k=>(lplus a.1 k.1,lplus a.2 k.2)) a)
 | [],na,a,h,_=>by simpa using h
 | x::l,na,a,h,hl=>by
  have:=cat_foldl l (na&&x.1) _ (cat_step h (hl x (by simp))) (fun y hy=>hl y (by simp [hy]))
  simpa [Bool.and_assoc] using this
theorem alt_step {na nk:Bool} {a k:Int × Int} (ha:LR na a) (hk:LR nk k):LR (na||nk) (altF a k):=by
 obtain⟨a0,a1,b0,b1,ab,nl⟩:=ha
 obtain⟨c0,c1,d0,d1,cd,nl'⟩:=hk
 refine⟨?_,?_,?_,?_,?_,?_⟩ <;> simp only[altF,lgreater]
 ·omega
 ·omega
 ·split <;> omega
 ·split <;> omega
 ·split <;> omega
 ·rw[Bool.or_eq_true,nl,nl']; omega
theorem alt_foldl:∀(l:List (Bool × (Int × Int))) (na:Bool) (a:Int × Int),LR na a→(∀x∈l,LR x.1 x.2) →
  LR (na||(l.map (·.1)).any id) ((l.map (·.2)).foldl altF a)
 | [],na,a,h,_=>by simpa using h
 | x::l,na,a,h,hl=>by
  have:=alt_foldl l (na||x.1) _ (alt_step h (hl x (by simp))) (fun y hy=>hl y (by simp [hy]))
  simpa [Bool.or_assoc] using this
theorem altF_self {n:Bool} {k:Int × Int} (h:LR n k):altF k k=k:=by
 obtain⟨a0,a1,b0,b1,ab,nl⟩:=h
 refine Prod.ext ?_ ?_ <;> simp only[altF,lgreater]
 ·omega
 ·split <;> omega
theorem lt_nn {b n:Int} (h0:0≤b) (h1:b≤1000000) (n0:0≤n) (n1:n≤1000000):ltimes b n=min (b * n) 1000000:=by
 have hle:b * n≤1000000 * 1000000:=Int.mul_le_mul h1 n1 n0 (by omega)
 have hge:0≤b * n:=Int.mul_nonneg h0 n0
 unfold ltimes
 split
 ·rename_i h
  rcases h with h | h <;> subst h <;> simp <;> omega
 ·rw[if_neg (by omega),w64 _ (by omega)]
theorem lt_neg {n:Int} (n0:0 < n):ltimes (-1) n=-1:=by
 unfold ltimes
 rw[if_neg (by omega),if_pos (by omega)]
theorem lt_any {b:Int} (h:¬b=0):ltimes b (-1)=-1:=by
 unfold ltimes
 rw[if_neg (by omega),if_pos (by omega)]
theorem lt_zero' (n:Int):ltimes 0 n=0:=by simp [ltimes]
def genB (re:Re):Bool:=decide (re.set.length≤10∧re.kids.length≤4∧0≤re.op∧re.op≤11∧(re.op=4→re.kids.length=1∧0≤re.mn∧re.mn≤2∧(re.mx=-1∨(1≤re.mx∧re.mx≤3∧re.mn≤re.mx))) ∧
 (re.op=3∨re.op=10∨re.op=5∨re.op=9→re.kids≠[]))
theorem nul_lens (re:Re) (h:re.every genB=true):LR re.anul re.lens:=by
 revert h
 refine Re.ind (Q:=fun re=>re.every genB=true→LR re.anul re.lens) (fun re ih h=>?_) re
 obtain⟨h1,h2⟩:=(Re.every_iff re).1 h
 obtain⟨_,_,o0,o11,h4,hne⟩:=of_decide_eq_true h1
 have hk:∀k∈re.kids,LR k.anul k.lens:=fun k hk=>ih k hk (h2 k hk)
 have hp:∀x∈re.kids.map (fun k=>(k.anul,k.lens)),LR x.1 x.2:=fun x hx=>by
  obtain⟨k,hk',rfl⟩:=List.mem_map.1 hx
  exact hk k hk'
 rw[Re.anul_eq,Re.lens_eq]
 have m1:(re.kids.map (fun k=>(k.anul,k.lens))).map (·.1)=re.kids.map Re.anul:=by simp
 have m2:(re.kids.map (fun k=>(k.anul,k.lens))).map (·.2)=re.kids.map Re.lens:=by simp
 have alt:re.kids≠[]→LR ((re.kids.map Re.anul).any id) (altL (re.kids.map Re.lens)):=fun hn=>by
  obtain⟨k,l,hkl⟩:=List.exists_cons_of_ne_nil hn
  have hkk:=hk k (by rw[hkl]; simp)
  have:=alt_foldl (l.map fun k=>(k.anul,k.lens)) k.anul k.lens hkk (fun x hx=>by
   obtain⟨y,hy,rfl⟩:=List.mem_map.1 hx
   exact hk y (by rw[hkl]; simp [hy]))
  rw[hkl]
  simp only[List.map_cons,altL,altF_self hkk,List.any_cons,id_eq]
  simpa [List.map_map,Function.comp_def] using this
 have hop:re.op=0∨re.op=1∨re.op=2∨re.op=3∨re.op=4∨re.op=5∨re.op=6∨re.op=7∨re.op=8∨re.op=9∨re.op=10∨re.op=11:=by omega
 have zz:LR true (0,0):=⟨by decide,by decide,by decide,by decide,.inr (by decide),by decide⟩
 rcases hop with o | o | o | o | o | o | o | o | o | o | o | o
 ·rw[o]; exact zz
 ·have one:LR false (1,1):=⟨by decide,by decide,by decide,by decide,.inr (by decide),by decide⟩
  rw[o]; exact one
 ·have:=cat_foldl _ true (0,0) zz hp
  rw[m1,m2,Bool.true_and] at this
  rw[o]; exact this
 ·have:=alt (hne (.inl o))
  rw[o]; exact this
 ·obtain⟨q1,q2,q3,q4⟩:=h4 o
  have:=alt (by intro he; rw[he] at q1; cases q1)
  rw[o]
  simp only[anulOp,lensOp]
  generalize altL (re.kids.map Re.lens)=p at *
  generalize (re.kids.map Re.anul).any id=na at *
  obtain⟨a0,a1,b0,b1,ab,nl⟩:=this
  have e1:=lt_nn a0 a1 q2 (by omega)
  have e2:0≤p.1 * re.mn:=Int.mul_nonneg a0 q2
  simp only[reduceCtorEq,Int.reduceEq,if_false,false_or,or_false,or_self,if_true,true_or,or_true]
  have key:(ltimes p.2 re.mx=-1∨(0≤ltimes p.2 re.mx∧ltimes p.1 re.mn≤ltimes p.2 re.mx))∧ltimes p.2 re.mx≤1000000:=by
   by_cases hm:re.mx=-1
   ·rw[hm]
    by_cases hb:p.2=0
    ·have ha:p.1=0:=by omega
     rw[hb,ha,lt_zero',lt_zero']; omega
    ·rw[lt_any hb]; omega
   ·have q5:1≤re.mx∧re.mx≤3∧re.mn≤re.mx:=by omega
    by_cases hb:p.2=-1
    ·rw[hb,lt_neg (by omega)]; omega
    ·rw[lt_nn (by omega) b1 (by omega) (by omega),e1]
     have:p.1 * re.mn≤p.2 * re.mx:=Int.mul_le_mul (by omega) q5.2.2 q2 (by omega)
     have:=Int.mul_nonneg (show 0≤p.2 by omega) (show 0≤re.mx by omega)
     omega
  refine⟨?_,?_,?_,key.2,?_,?_⟩ <;> simp only
  ·rw[e1]; omega
  ·rw[e1]; omega
  ·omega
  ·omega
  ·rw[e1]
   split
   ·rename_i hm
    rw[hm,Int.mul_zero]; exact⟨fun _=>by omega,fun _=>rfl⟩
   ·rename_i hm
    rw[nl]
    constructor
    ·intro hz; rw[hz,Int.zero_mul]; omega
    ·intro hz
     by_cases hz':p.1=0
     ·exact hz'
     ·have:0 < p.1 * re.mn:=Int.mul_pos (by omega) (by omega)
      omega
 ·have:=alt (hne (.inr (.inr (.inl o))))
  rw[o]; exact this
 ·have far:LR true (0,-1):=⟨by decide,by decide,by decide,by decide,.inl (by decide),by decide⟩
  rw[o]; exact far
 ·rw[o]; exact zz
 ·rw[o]; exact zz
 ·have:=alt (hne (.inr (.inr (.inr o))))
  rw[o]; exact this
 ·have:=alt (hne (.inr (.inl o)))
  rw[o]; exact this
 ·rw[o]; exact zz
end Go.Proofs.Ytllagoeijcjpiaa
