/- A part of the proof (F95). -/
import Derived.Test.YtafbdphblilenaaAB28
import Derived.Test.YtafbdphblilenaaAB27
set_option linter.unusedSimpArgs false
set_option linter.unusedVariables false
set_option maxRecDepth 100000
set_option maxHeartbeats 80000000
set_option linter.unusedSimpArgs false
set_option linter.unusedVariables false
namespace Go.Proofs.Ytafbdphblilenaa
open Go.VL Go.Proofs.Try
theorem rNs_len:∀(n:Nat) (xs:List Nat),(rNs n xs).1.length≤n
 | 0,xs=>Nat.le_refl _
 | n + 1,xs=>by
  have:=rNs_len n (rU xs).2.1
  rw[rNs]
  split
  ·exact Nat.zero_le _
  split
  ·exact Nat.zero_le _
  ·simp only[List.length_cons]; omega
theorem rIsW_len (xs:List Nat) (w:Int):(rIsW xs w).1.length≤xs.length:=by
 rw[rIsW_eq]
 have h:=(rUW_suf xs w).length_le
 split
 ·exact Nat.zero_le _
 split
 ·exact Nat.zero_le _
 ·have:=rNs_len (rUW xs w).1 (rUW xs w).2.1
  omega
def rnM:Option (Re × Nat)→V
 | some (re,k)=>.tu [.ag [i64 re.op,.d (.sl (re.set.map spanC)),.fu [],i64 re.mn,i64 re.mx,i64 re.mode,i64 re.n,bV re.neg],i64 k,bV true]
 | none=>.tu [reV (.mk 0 [] [] 0 0 0 0 false),i64 0,bV false]
def rnO (op mn mx mode n:Int) (ng:Bool) (v:V):VL.Obj:=⟨1,true,8,[[i64 op,v,.fu [],i64 mn,i64 mx,i64 mode,i64 n,bV ng]]⟩
def spO (g:Nat) (L:List (Int × Int)):VL.Obj:=⟨g,true,2,(L.map spanC).map fun c=>c.map V.d⟩
theorem readNode_ok (bs xs:List Nat) (w:Int) (hs:xs <:+ bs) (hb:bs.length≤1000000000) (hB:∀b∈bs,b < 256) :
  callWp prog 93 [.rf 0 0 0 0] [rdO bs xs w] fun v s=>v=rnM (rNode xs w).1∧s=[rdO bs (rNode xs w).2.1 (rNode xs w).2.2]:=by
 cases hgood:nodeBad (rIsW xs w).1 (rIsW (rIsW xs w).2.1 (rIsW xs w).2.2).1 (rI (rIsW (rIsW xs w).2.1 (rIsW xs w).2.2).2.1 (rIsW (rIsW xs w).2.1 (rIsW xs w).2.2).2.2).1 with
 | true=>rw[rNode_bad hgood]; exact readNode_bad bs xs w hs hb hB hgood
 | false =>
 obtain⟨op,L,mn,mx,mode,n,neg,k,g1,g2,g3,g4,g5,g6,g7⟩:=rNode_good hgood
 rw[g7]
 have hLl:(rIsW xs w).1.length≤1000000000:=by have:=rIsW_len xs w; have:=hs.length_le; omega
 have k1:=rdInts_ok bs xs w hs hb hB
 have s1:=(rIsW_suf xs w).trans hs
 rw[rNode_rest]
 clear hgood g7
 generalize rIsW xs w=H at *
 have k2:=rdInts_ok bs H.2.1 H.2.2 s1 hb hB
 have s2:=(rIsW_suf H.2.1 H.2.2).trans s1
 generalize rIsW H.2.1 H.2.2=T at *
 have k3:=rdInt_ok bs T.2.1 T.2.2 s2 hb hB
 generalize rI T.2.1 T.2.2=K at *
 obtain⟨H1,H2,H3⟩:=H
 obtain⟨T1,T2,T3⟩:=T
 obtain⟨K1,K2,K3⟩:=K
 simp only at g1 g2 g3
 subst g1 g2 g3
 have hflen:(op::L.flatMap fun s=>[s.1,s.2]).length=2 * L.length + 1:=by rw[List.length_cons,flat_two_len]
 have hL:L.length≤500000000:=by simp only[hflen] at hLl; omega
 have hget:∀(j:Nat) (x:Int × Int),L[j]?=some x→(op::L.flatMap fun s=>[s.1,s.2])[1 + 2 * j]?=some x.1∧(op::L.flatMap fun s=>[s.1,s.2])[1 + 2 * j + 1]?=some x.2:=by
  intro j x hx
  have:=flat_two L j x hx
  rw[show 1 + 2 * j=2 * j + 1 by omega,List.getElem?_cons_succ,show 2 * j + 1 + 1=(2 * j + 1) + 1 by omega,List.getElem?_cons_succ]
  exact this
 have hget0:(op::L.flatMap fun s=>[s.1,s.2])[0]?=some op:=rfl
 generalize hHH:(op::L.flatMap fun s=>[s.1,s.2])=HH at *
 have c1:¬HH.length % 2=0:=by omega
 have f1:(((HH.length:Int)).tmod 2=0)=False:=eq_false (fun h=>c1 (lenBad.1 h))
 have f2:(((5:Nat):Int)=5)=True:=eq_true rfl
 have q4:(4:Int) < ((5:Nat):Int):=by decide
 have q3:(3:Int) < ((5:Nat):Int):=by decide
 have q2:(2:Int) < ((5:Nat):Int):=by decide
 have q1:(1:Int) < ((5:Nat):Int):=by decide
 have q0:(0:Int) < ((5:Nat):Int):=by decide
 have p4:(0:Int)≤4:=by decide
 have p3:(0:Int)≤3:=by decide
 have p2:(0:Int)≤2:=by decide
 have p1:(0:Int)≤1:=by decide
 have qh:(0:Int) < (HH.length:Int):=by omega
 have n1:¬(k:Int) < 0:=by omega
 have n2:¬256 < (k:Int):=by omega
 simp only[i64,intsD,List.map_cons,List.map_nil,iD] at *
 refine fn_mix func93 rfl ntmps93 results93 rfl 1 1021 (by simp) (by simp) ?_
 simp only[zX,Nat.reduceShiftRight,Nat.reduceMod,Nat.reduceLT,Nat.reduceMul,Nat.reduceSub,Int.reduceToNat,Int.reduceNeg,Int.reduceLT,Int.reduceLE,Int.reduceEq,Nat.reduceEqDiff,Nat.reduceAdd,Nat.reduceLeDiff,reduceIte,reduceCtorEq,Nat.reduceBEq,i64]
 refine call_one k1 rfl rfl rfl rfl rfl rfl ?_
 simp only[zX,Nat.reduceShiftRight,Nat.reduceMod,Nat.reduceLT,Nat.reduceMul,Nat.reduceSub,Int.reduceToNat,Int.reduceNeg,Int.reduceLT,Int.reduceLE,Int.reduceEq,Nat.reduceEqDiff,Nat.reduceAdd,Nat.reduceLeDiff,reduceIte,reduceCtorEq,Nat.reduceBEq,i64]
 refine call_one k2 rfl rfl rfl rfl rfl rfl ?_
 simp only[zX,Nat.reduceShiftRight,Nat.reduceMod,Nat.reduceLT,Nat.reduceMul,Nat.reduceSub,Int.reduceToNat,Int.reduceNeg,Int.reduceLT,Int.reduceLE,Int.reduceEq,Nat.reduceEqDiff,Nat.reduceAdd,Nat.reduceLeDiff,reduceIte,reduceCtorEq,Nat.reduceBEq,i64]
 refine call_one k3 rfl rfl rfl rfl rfl rfl ?_
 simp only[zX,Nat.reduceShiftRight,Nat.reduceMod,Nat.reduceLT,Nat.reduceMul,Nat.reduceSub,Int.reduceToNat,Int.reduceNeg,Int.reduceLT,Int.reduceLE,Int.reduceEq,Nat.reduceEqDiff,Nat.reduceAdd,Nat.reduceLeDiff,reduceIte,reduceCtorEq,Nat.reduceBEq,i64,iD,List.length_map,f1,f2,p4,q4,g5,g6,n1,n2,gt_iff_lt,ne_eq,not_true_eq_false,not_false_eq_true,decide_true,decide_false]
 refine draw_first Cln0.reserve ?_
 refine draw_c mix [] [(20,[2],[2]),(21,[2],[2])] (by rfl) ?_
 simp only[zX,Nat.reduceShiftRight,Nat.reduceMod,Nat.reduceLT,Nat.reduceMul,Nat.reduceSub,Int.reduceToNat,Int.reduceNeg,Int.reduceLT,Int.reduceLE,Int.reduceEq,Nat.reduceEqDiff,Nat.reduceAdd,Nat.reduceLeDiff,reduceIte,reduceCtorEq,Nat.reduceBEq,i64,iD,List.length_map,List.getElem?_map,hget0,Option.map_some,qh,p4,p3,p2,p1,q4,q3,q2,q1,q0,hole]
 have hspl:∀i,i≤L.length→((L.take i).map spanC).length=i:=fun i hi=>by rw[List.length_map,List.length_take]; omega
 have hcut:∀i,i≤L.length→(((L.take i).map spanC).map fun c=>c.map V.d).take i=((L.take i).map spanC).map fun c=>c.map V.d:=fun i hi=>List.take_of_length_le (by rw[List.length_map,hspl i hi]; omega)
 refine loop_rule (fun m e s=>∃j:Nat,m=L.length - j∧j≤L.length∧e 2=.rf 1 0 0 0∧e 5=.d (intsD HH)∧e 7=i64 k∧e 8=.rf 2 1 0 0∧e 9=i64 ((1 + 2 * j:Nat):Int) ∧
   ((j=0∧s=[rdO bs K2 K3,zeroO8,rnO op mn mx mode n (decide (neg=1)) (.fu [])])∨∃g,s=[rdO bs K2 K3,zeroO8,rnO op mn mx mode n (decide (neg=1)) (.so 3 g 0 j),spO g (L.take j)]))
  ⟨_,_,_,Cln.refl,0,rfl,by omega,rfl,rfl,rfl,rfl,rfl,.inl ⟨rfl,rfl⟩⟩ ?_
 rintro m e s ⟨j,rfl,hj,h2,h5,h7,h8,h9,hacc⟩
 simp only[i64,intsD,iD] at h2 h5 h7 h8 h9
 by_cases hlt:j < L.length
 case neg =>
  have hje:j=L.length:=by omega
  subst hje
  have hlt':¬((1 + 2 * L.length:Nat):Int) < (HH.length:Int):=by omega
  rcases hacc with ⟨hz,rfl⟩ | ⟨g,rfl⟩
  ·have hL0:L=[]:=List.eq_nil_of_length_eq_zero hz
   simp only[zX,Nat.reduceShiftRight,Nat.reduceMod,Nat.reduceLT,Nat.reduceMul,Nat.reduceSub,Int.reduceToNat,Int.reduceNeg,Int.reduceLT,Int.reduceLE,Int.reduceEq,Nat.reduceEqDiff,Nat.reduceAdd,Nat.reduceLeDiff,reduceIte,reduceCtorEq,Nat.reduceBEq,i64,iD,h2,h5,h7,h8,h9,List.length_map,hlt',decide_false,rnO,zeroO8,Qmix_app,mixWp,bV]
   subst hL0
   refine⟨rfl,_,?_,rfl⟩
   exact .tu rfl (mix_cons (.ag rfl (mix_cons (.keep rfl) (mix_cons (.frz (y:=.d (.sl [])) rfl) (mix_cons (.keep rfl) (mix_cons (.keep rfl) (mix_cons (.keep rfl) (mix_cons (.keep rfl) (mix_cons (.keep rfl) (mix_cons (.keep rfl) mix_nil))))))))) (mix_cons (.keep rfl) (mix_cons (.keep rfl) mix_nil)))
  ·rw[List.take_length]
   have hf:∀n lim s,((L.map spanC).map fun c=>c.map V.d).mapM (fun (e:List V)=>e.mapM (frzD n lim s))=some (L.map spanC):=fun n lim s=>mapM_frzE ..
   simp only[zX,Nat.reduceShiftRight,Nat.reduceMod,Nat.reduceLT,Nat.reduceMul,Nat.reduceSub,Int.reduceToNat,Int.reduceNeg,Int.reduceLT,Int.reduceLE,Int.reduceEq,Nat.reduceEqDiff,Nat.reduceAdd,Nat.reduceLeDiff,reduceIte,reduceCtorEq,Nat.reduceBEq,i64,iD,h2,h5,h7,h8,h9,List.length_map,hlt',decide_false,rnO,zeroO8,spO,Qmix_app,mixWp,bV]
   have hfz:∀(s:List VL.Obj),s[3]?=some (spO g L)→frzV 1 s (.so 3 g 0 L.length)=some (.d (.sl (L.map spanC))):=by
    intro s hs3
    unfold spO at hs3
    simp only[frzV,frzD,hs3,true_and,List.drop_zero]
    rw[if_pos ⟨by simp,.inl (by decide)⟩,List.take_of_length_le (by simp),hf]
    rfl
   refine⟨rfl,_,?_,rfl⟩
   exact .tu rfl (mix_cons (.ag rfl (mix_cons (.keep rfl) (mix_cons (.frz (y:=.d (.sl (L.map spanC))) (hfz _ rfl)) (mix_cons (.keep rfl) (mix_cons (.keep rfl) (mix_cons (.keep rfl) (mix_cons (.keep rfl) (mix_cons (.keep rfl) (mix_cons (.keep rfl) mix_nil))))))))) (mix_cons (.keep rfl) (mix_cons (.keep rfl) mix_nil)))
 have hlt':((1 + 2 * j:Nat):Int) < (HH.length:Int):=by omega
 obtain⟨x,hx⟩:∃x,L[j]?=some x:=⟨_,List.getElem?_eq_getElem hlt⟩
 obtain⟨x1,x2⟩:=hget j x hx
 have p5:(0:Int)≤((1 + 2 * j:Nat):Int):=by omega
 have w1:IntKind.i64.wrap (((1 + 2 * j:Nat):Int) + 1)=((1 + 2 * j + 1:Nat):Int):=by rw[w64 _ (by omega)]; omega
 have w2:IntKind.i64.wrap (((1 + 2 * j:Nat):Int) + 2)=((1 + 2 * (j + 1):Nat):Int):=by rw[w64 _ (by omega)]; omega
 have p6:(0:Int)≤((1 + 2 * j + 1:Nat):Int):=by omega
 have hlt2:((1 + 2 * j + 1:Nat):Int) < (HH.length:Int):=by omega
 have e1:(((1 + 2 * j:Nat):Int)).toNat=1 + 2 * j:=by omega
 have e2:(((1 + 2 * j + 1:Nat):Int)).toNat=1 + 2 * j + 1:=by omega
 generalize hA:1 + 2 * (j + 1)=A' at *
 generalize hB2:1 + 2 * j + 1=B' at *
 generalize hC:1 + 2 * j=C' at *
 rcases hacc with ⟨rfl,rfl⟩ | ⟨g,rfl⟩
 ·simp only[zX,Nat.reduceShiftRight,Nat.reduceMod,Nat.reduceLT,Nat.reduceMul,Nat.reduceSub,Int.reduceToNat,Int.reduceNeg,Int.reduceLT,Int.reduceLE,Int.reduceEq,Nat.reduceEqDiff,Nat.reduceAdd,Nat.reduceLeDiff,reduceIte,reduceCtorEq,Nat.reduceBEq,i64,iD,h2,h5,h7,h8,h9,List.length_map,hlt',rnO,zeroO8]
  refine draw_c mix [13,15] [] (by rfl) ?_
  simp only[zX,Nat.reduceShiftRight,Nat.reduceMod,Nat.reduceLT,Nat.reduceMul,Nat.reduceSub,Int.reduceToNat,Int.reduceNeg,Int.reduceLT,Int.reduceLE,Int.reduceEq,Nat.reduceEqDiff,Nat.reduceAdd,Nat.reduceLeDiff,reduceIte,reduceCtorEq,Nat.reduceBEq,i64,iD,h2,h5,h7,h8,h9,List.length_map,List.getElem?_map,Option.map_some,x1,x2,e1,e2,p5,p6,hlt',hlt2,w1,w2]
  refine⟨by simp,by simp,L.length - 1,_,_,by omega,Cln.refl,1,rfl,by omega,?_,?_,?_,?_,?_,.inr ⟨0,?_⟩⟩ <;> (try simp only[zU,Nat.reduceBEq,Nat.reduceShiftRight,Nat.reduceMod,Nat.reduceEqDiff,reduceIte])
  ·exact h2
  ·exact h5
  ·exact h7
  ·exact h8
  ·rw[← hA]
  ·have t1:L.take 1=[x]:=by rw[show (1:Nat)=0 + 1 from rfl,take_get hx]; rfl
   rw[t1]
   rfl
 ·simp only[zX,Nat.reduceShiftRight,Nat.reduceMod,Nat.reduceLT,Nat.reduceMul,Nat.reduceSub,Int.reduceToNat,Int.reduceNeg,Int.reduceLT,Int.reduceLE,Int.reduceEq,Nat.reduceEqDiff,Nat.reduceAdd,Nat.reduceLeDiff,reduceIte,reduceCtorEq,Nat.reduceBEq,i64,iD,h2,h5,h7,h8,h9,List.length_map,hlt',rnO,zeroO8,spO]
  refine draw_c mix [13,15] [] (by rfl) ?_
  simp only[zX,Nat.reduceShiftRight,Nat.reduceMod,Nat.reduceLT,Nat.reduceMul,Nat.reduceSub,Int.reduceToNat,Int.reduceNeg,Int.reduceLT,Int.reduceLE,Int.reduceEq,Nat.reduceEqDiff,Nat.reduceAdd,Nat.reduceLeDiff,reduceIte,reduceCtorEq,Nat.reduceBEq,i64,iD,h2,h5,h7,h8,h9,List.length_map,List.getElem?_map,Option.map_some,x1,x2,e1,e2,p5,p6,hlt',hlt2,w1,w2,hcut j hj,hspl j hj]
  refine⟨by simp,⟨by simp,by omega⟩,L.length - (j + 1),_,_,by omega,Cln.refl,j + 1,rfl,hlt,?_,?_,?_,?_,?_,.inr ⟨g + 1,?_⟩⟩ <;> (try simp only[zU,Nat.reduceBEq,Nat.reduceShiftRight,Nat.reduceMod,Nat.reduceEqDiff,reduceIte])
  ·exact h2
  ·exact h5
  ·exact h7
  ·exact h8
  ·rw[← hA]
  ·rw[take_get hx]
   simp [spO,spanC,iD]
end Go.Proofs.Ytafbdphblilenaa
