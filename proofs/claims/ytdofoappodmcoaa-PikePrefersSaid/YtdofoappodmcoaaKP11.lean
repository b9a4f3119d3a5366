/- A part of the proof (F41 F32 F33 F43 F44). -/
import Derived.Test.YtdofoappodmcoaaKP3
import Derived.Test.YtdofoappodmcoaaKP6
import Derived.Test.YtdofoappodmcoaaKP10
set_option linter.unusedSimpArgs false
set_option linter.unusedVariables false
set_option maxRecDepth 100000
set_option maxHeartbeats 80000000
set_option linter.unusedSimpArgs false
set_option linter.unusedVariables false
namespace Go.Proofs.Ytdofoappodmcoaa
open Go.VL Go.Proofs.Try
end Go.Proofs.Ytdofoappodmcoaa
namespace Go.Proofs.Ytdofoappodmcoaa
open Go.VL Go.Proofs.Try
def valB (re:Re):Bool:=decide (0≤re.op∧re.op≤11∧(re.op=4→re.kids.length=1∧0≤re.mn∧re.mn≤32∧(re.mx=-1∨(1≤re.mx∧re.mx≤32∧re.mn≤re.mx))) ∧
 (re.op=3∨re.op=10∨re.op=5∨re.op=9→re.kids≠[])∧(re.op=5∨re.op=9→re.kids.length=1))
theorem val_of_ok {re:Re} {caps top:Int} (h:nodeOk re caps top=true):valB re=true:=by
 obtain⟨⟨h1,h2,h3,h4⟩,_,h5,_,_⟩:=nodeOk_iff.1 h
 refine decide_eq_true ⟨h1,h2,fun o=>?_,fun o=>?_,fun o=>?_⟩
 ·rw[o] at h3 h4 h5
  simp only[kidsR,Int.reduceEq,or_self,if_false,or_true,true_or,or_false,false_or,if_true,reduceIte] at h3 h4 h5
  omega
 ·intro hn
  rw[hn] at h3
  rcases o with o | o | o | o <;> rw[o] at h3 <;> simp [kidsR] at h3
 ·rcases o with o | o
  all_goals
   rw[o] at h3 h4
   simp only[kidsR,Int.reduceEq,or_self,if_false,or_true,true_or,or_false,false_or,if_true,reduceIte] at h3 h4
   omega
theorem val_whole {re:Re} {caps top:Int} (h:re.whole caps top=true):re.every valB=true:=every_mono' (fun _=>val_of_ok) re h
theorem nul_lensV (re:Re) (h:re.every valB=true):LR re.anul re.lens:=by
 revert h
 refine Re.ind (Q:=fun re=>re.every valB=true→LR re.anul re.lens) (fun re ih h=>?_) re
 obtain⟨h1,h2⟩:=(Re.every_iff re).1 h
 obtain⟨o0,o11,h4,hne,_⟩:=of_decide_eq_true h1
 have hk:∀k∈re.kids,LR k.anul k.lens:=fun k hk=>ih k hk (h2 k hk)
 have hp:∀x∈re.kids.map (fun k=>(k.anul,k.lens)),LR x.1 x.2:=fun x hx=>by
  obtain⟨k,hk',rfl⟩:=List.mem_map.1 hx
  exact hk k hk'
 rw[Re.anul_eq,Re.lens_eq]
 have m1:(re.kids.map (fun k=>(k.anul,k.lens))).map (·.1)=re.kids.map Re.anul:=by simp
 have m2:(re.kids.map (fun k=>(k.anul,k.lens))).map (·.2)=re.kids.map Re.lens:=by simp
 have alt:re.kids≠[]→LR ((re.kids.map Re.anul).any id) (altL (re.kids.map Re.lens)):=fun hn=>by
  obtain⟨k,l,hkl⟩:=List.exists_cons_of_ne_nil hn
  have hkk:=hk k (by rw[hkl]; simp)
  have:=alt_foldl (l.map fun k=>(k.anul,k.lens)) k.anul k.lens hkk (fun x hx=>by
   obtain⟨y,hy,rfl⟩:=List.mem_map.1 hx
   exact hk y (by rw[hkl]; simp [hy]))
  rw[hkl]
  simp only[List.map_cons,altL,altF_self hkk,List.any_cons,id_eq]
  simpa [List.map_map,Function.comp_def] using this
 have hop:re.op=0∨re.op=1∨re.op=2∨re.op=3∨re.op=4∨re.op=5∨re.op=6∨re.op=7∨re.op=8∨re.op=9∨re.op=10∨re.op=11:=by omega
 have zz:LR true (0,0):=⟨by decide,by decide,by decide,by decide,.inr (by decide),by decide⟩
 rcases hop with o | o | o | o | o | o | o | o | o | o | o | o
 ·rw[o]; exact zz
 ·have one:LR false (1,1):=⟨by decide,by decide,by decide,by decide,.inr (by decide),by decide⟩
  rw[o]; exact one
 ·have:=cat_foldl _ true (0,0) zz hp
  rw[m1,m2,Bool.true_and] at this
  rw[o]; exact this
 ·have:=alt (hne (.inl o))
  rw[o]; exact this
 ·obtain⟨q1,q2,q3,q4⟩:=h4 o
  have:=alt (by intro he; rw[he] at q1; cases q1)
  rw[o]
  simp only[anulOp,lensOp]
  generalize altL (re.kids.map Re.lens)=p at *
  generalize (re.kids.map Re.anul).any id=na at *
  obtain⟨a0,a1,b0,b1,ab,nl⟩:=this
  have e1:=lt_nn a0 a1 q2 (by omega)
  have e2:0≤p.1 * re.mn:=Int.mul_nonneg a0 q2
  simp only[reduceCtorEq,Int.reduceEq,if_false,false_or,or_false,or_self,if_true,true_or,or_true]
  have key:(ltimes p.2 re.mx=-1∨(0≤ltimes p.2 re.mx∧ltimes p.1 re.mn≤ltimes p.2 re.mx))∧ltimes p.2 re.mx≤1000000:=by
   by_cases hm:re.mx=-1
   ·rw[hm]
    by_cases hb:p.2=0
    ·have ha:p.1=0:=by omega
     rw[hb,ha,lt_zero',lt_zero']; omega
    ·rw[lt_any hb]; omega
   ·have q5:1≤re.mx∧re.mx≤32∧re.mn≤re.mx:=by omega
    by_cases hb:p.2=-1
    ·rw[hb,lt_neg (by omega)]; omega
    ·rw[lt_nn (by omega) b1 (by omega) (by omega),e1]
     have:p.1 * re.mn≤p.2 * re.mx:=Int.mul_le_mul (by omega) q5.2.2 q2 (by omega)
     have:=Int.mul_nonneg (show 0≤p.2 by omega) (show 0≤re.mx by omega)
     omega
  refine⟨?_,?_,?_,key.2,?_,?_⟩ <;> simp only
  ·rw[e1]; omega
  ·rw[e1]; omega
  ·omega
  ·omega
  ·rw[e1]
   split
   ·rename_i hm
    rw[hm,Int.mul_zero]; exact⟨fun _=>by omega,fun _=>rfl⟩
   ·rename_i hm
    rw[nl]
    constructor
    ·intro hz; rw[hz,Int.zero_mul]; omega
    ·intro hz
     by_cases hz':p.1=0
     ·exact hz'
     ·have:0 < p.1 * re.mn:=Int.mul_pos (by omega) (by omega)
      omega
 ·have:=alt (hne (.inr (.inr (.inl o))))
  rw[o]; exact this
 ·have far:LR true (0,-1):=⟨by decide,by decide,by decide,by decide,.inl (by decide),by decide⟩
  rw[o]; exact far
 ·rw[o]; exact zz
 ·rw[o]; exact zz
 ·have:=alt (hne (.inr (.inr (.inr o))))
  rw[o]; exact this
 ·have:=alt (hne (.inr (.inl o)))
  rw[o]; exact this
 ·rw[o]; exact zz
theorem one_kid {l:List Re} (h:l.length=1):∃k,l=[k]:=by
 match l,h with
 | [k],_=>exact⟨k,rfl⟩
theorem anul_nul (re:Re) (h:re.every valB=true):re.anul=re.nul:=by
 revert h
 refine Re.ind (Q:=fun re=>re.every valB=true→re.anul=re.nul) (fun re ih h=>?_) re
 obtain⟨h1,h2⟩:=(Re.every_iff re).1 h
 obtain⟨o0,o11,h4,h5,h6⟩:=of_decide_eq_true h1
 have hm:re.kids.map Re.anul=re.kids.map Re.nul:=List.map_congr_left (fun k hk=>ih k hk (h2 k hk))
 rw[Re.anul_eq,Re.nul_eq,hm,Re.nulAll_all,Re.nulAny_any]
 have hop:re.op=0∨re.op=1∨re.op=2∨re.op=3∨re.op=4∨re.op=5∨re.op=6∨re.op=7∨re.op=8∨re.op=9∨re.op=10∨re.op=11:=by omega
 rcases hop with o | o | o | o | o | o | o | o | o | o | o | o
 case inr.inr.inr.inr.inl =>
  obtain⟨q1,q2,_⟩:=h4 o
  obtain⟨k,hk⟩:=one_kid q1
  rw[o,hk]
  by_cases hz:re.mn=0
  ·simp [anulOp,hz]
  ·have:¬re.mn≤0:=by omega
   simp [anulOp,hz,this,Re.nul1]
 case inr.inr.inr.inr.inr.inl =>
  obtain⟨k,hk⟩:=one_kid (h6 (.inl o))
  rw[o,hk]; simp [anulOp,Re.nul1]
 case inr.inr.inr.inr.inr.inr.inr.inr.inr.inl =>
  obtain⟨k,hk⟩:=one_kid (h6 (.inr o))
  rw[o,hk]; simp [anulOp,Re.nul1]
 all_goals (rw[o]; simp [anulOp])
 all_goals (try (congr 1))
def patC (p:Pat):List D:=p.re.cells++[iD p.caps,bD p.runes]
theorem patC_eq (p:Pat):patC p=[iD p.re.op,.sl (p.re.set.map spanC),.sl (p.re.kids.map Re.cells),iD p.re.mn,iD p.re.mx,iD p.re.mode,iD p.re.n,bD p.re.neg,iD p.caps,bD p.runes]:=by
 unfold patC; rw[Re.cells_eq]; rfl
end Go.Proofs.Ytdofoappodmcoaa
