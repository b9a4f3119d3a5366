/- A part of the proof (F92 F93). -/
import Derived.Test.YtafbdphblilenaaAB25
set_option linter.unusedSimpArgs false
set_option linter.unusedVariables false
set_option maxRecDepth 100000
set_option maxHeartbeats 80000000
set_option linter.unusedSimpArgs false
set_option linter.unusedVariables false
namespace Go.Proofs.Ytafbdphblilenaa
open Go.VL Go.Proofs.Try
theorem shr1 (m:Nat):shV .shr .u64 (m:Int) 1=((m / 2:Nat):Int):=by
 show (m:Int).fdiv (2 ^ min (1:Int).toNat IntKind.u64.bits)=_
 have:(2:Int) ^ min (1:Int).toNat IntKind.u64.bits=2:=by decide
 rw[this,Int.fdiv_eq_ediv_of_nonneg _ (by omega)]
 omega
theorem and1 (m:Nat) (h:m < 18446744073709551616):bitV .and .u64 (m:Int) 1=((m % 2:Nat):Int):=by
 show IntKind.u64.wrap ((BitVec.ofInt 64 (m:Int) &&& BitVec.ofInt 64 1).toNat:Int)=_
 have e:(BitVec.ofInt 64 (m:Int)).toNat=m:=by rw[BitVec.toNat_ofInt]; omega
 have e1:(BitVec.ofInt 64 1).toNat=1:=by decide
 rw[BitVec.toNat_and,e,e1,Nat.and_one_is_mod,wrapu _ (by omega)]
theorem rdO_ren (ρ:List Nat) (bs xs:List Nat) (w:Int):renO ρ (rdO bs xs w)=rdO bs xs w:=rfl
theorem rdInt_ok (bs xs:List Nat) (w:Int) (hs:xs <:+ bs) (hb:bs.length≤1000000000) (hB:∀b∈bs,b < 256):callWp prog 50 [.rf 0 0 0 0] [rdO bs xs w] fun v s=>v=i64 (rI xs w).1∧s=[rdO bs (rI xs w).2.1 (rI xs w).2.2]:=by
 have hu:=rdUint_ok bs xs w hs hb hB
 have hlt:=rUW_lt (bs:=bs) (xs:=xs) w (fun b h=>hB b (hs.subset h))
 rw[rI_eq]
 generalize rUW xs w=R at *
 obtain⟨u,ys,w'⟩:=R
 simp only[u64] at *
 have h1:=shr1 u
 have h2:=and1 u hlt
 have h3:IntKind.i64.wrap ((u / 2:Nat):Int)=((u / 2:Nat):Int):=w64 _ (by omega)
 have h4:IntKind.i64.wrap ((u % 2:Nat):Int)=((u % 2:Nat):Int):=w64 _ (by omega)
 have h5:IntKind.i64.wrap (-((u % 2:Nat):Int))=-((u % 2:Nat):Int):=w64 _ (by omega)
 have h5':IntKind.i64.wrap (0 - ((u % 2:Nat):Int))=-((u % 2:Nat):Int):=by rw[w64 _ (by omega)]; omega
 have h6:=xor_unz u hlt
 refine fn_ok func50 rfl ntmps50 results50 rfl 1 13 (by simp) (by simp) ?_
 simp only[zX,Nat.reduceShiftRight,Nat.reduceMod,Nat.reduceLT,Nat.reduceMul,Nat.reduceSub,Int.reduceToNat,Int.reduceNeg,Int.reduceLT,Int.reduceLE,Int.reduceEq,Nat.reduceEqDiff,Nat.reduceAdd,Nat.reduceLeDiff,reduceIte,reduceCtorEq,Nat.reduceBEq,i64]
 refine call_same hu ?_
 simp only[zX,Nat.reduceShiftRight,Nat.reduceMod,Nat.reduceLT,Nat.reduceMul,Nat.reduceSub,Int.reduceToNat,Int.reduceNeg,Int.reduceLT,Int.reduceLE,Int.reduceEq,Nat.reduceEqDiff,Nat.reduceAdd,Nat.reduceLeDiff,reduceIte,reduceCtorEq,Nat.reduceBEq,i64,h1,h2,h3,h4,h5,h5',h6,rdO]
 all_goals first | exact⟨rfl,rfl⟩ | exact⟨rfl,trivial⟩ | rfl | trivial | (rw[reV_eq]; rfl)
theorem rdBool_ok (bs xs:List Nat) (w:Int) (hs:xs <:+ bs) (hb:bs.length≤1000000000):callWp prog 91 [.rf 0 0 0 0] [rdO bs xs w] fun v s=>v=bV (rB xs w).1∧s=[rdO bs (rB xs w).2.1 (rB xs w).2.2]:=by
 have ho:=octet_ok bs xs w hs hb
 have hgo:(1 < (rO xs w).1→rB xs w=(false,(rO xs w).2.1,2))∧(¬1 < (rO xs w).1→rB xs w=(decide ((rO xs w).1=1),(rO xs w).2.1,(rO xs w).2.2)):=by
  unfold rO rB
  split
  ·exact⟨fun h=>absurd h (show ¬1 < 0 by decide),fun _=>rfl⟩
  ·cases xs with
   | nil=>exact⟨fun h=>absurd h (by decide),fun _=>rfl⟩
   | cons b xs =>
    refine⟨fun h=>?_,fun h=>?_⟩
    ·have h:1 < b:=h
     simp only[if_pos h]
     rw[decide_eq_false (by omega)]
    ·have h:¬1 < b:=h
     simp only[if_neg h]
 obtain⟨g1,g2⟩:=hgo
 generalize rO xs w=R at *
 obtain⟨b,ys,w'⟩:=R
 simp only[u8] at *
 by_cases hb1:1 < b
 ·rw[g1 hb1]
  have hb1':(1:Int) < (b:Int):=by omega
  have hb2:¬(b:Int)=1:=by omega
  refine fn_ok func91 rfl ntmps91 results91 rfl 1 13 (by simp) (by simp) ?_
  simp only[zX,Nat.reduceShiftRight,Nat.reduceMod,Nat.reduceLT,Nat.reduceMul,Nat.reduceSub,Int.reduceToNat,Int.reduceNeg,Int.reduceLT,Int.reduceLE,Int.reduceEq,Nat.reduceEqDiff,Nat.reduceAdd,Nat.reduceLeDiff,reduceIte,reduceCtorEq,Nat.reduceBEq,i64,bV]
  refine call_same ho ?_
  simp only[zX,Nat.reduceShiftRight,Nat.reduceMod,Nat.reduceLT,Nat.reduceMul,Nat.reduceSub,Int.reduceToNat,Int.reduceNeg,Int.reduceLT,Int.reduceLE,Int.reduceEq,Nat.reduceEqDiff,Nat.reduceAdd,Nat.reduceLeDiff,reduceIte,reduceCtorEq,Nat.reduceBEq,i64,bV,hb1',hb2,rdO,gt_iff_lt,decide_false]
  all_goals first | exact⟨rfl,rfl⟩ | exact⟨rfl,trivial⟩ | rfl | trivial | (rw[reV_eq]; rfl)
 ·rw[g2 hb1]
  have hb1':¬(1:Int) < (b:Int):=by omega
  have hb2:decide ((b:Int)=1)=decide (b=1):=decide_eq_decide.2 (by omega)
  refine fn_ok func91 rfl ntmps91 results91 rfl 1 13 (by simp) (by simp) ?_
  simp only[zX,Nat.reduceShiftRight,Nat.reduceMod,Nat.reduceLT,Nat.reduceMul,Nat.reduceSub,Int.reduceToNat,Int.reduceNeg,Int.reduceLT,Int.reduceLE,Int.reduceEq,Nat.reduceEqDiff,Nat.reduceAdd,Nat.reduceLeDiff,reduceIte,reduceCtorEq,Nat.reduceBEq,i64,bV]
  refine call_same ho ?_
  simp only[zX,Nat.reduceShiftRight,Nat.reduceMod,Nat.reduceLT,Nat.reduceMul,Nat.reduceSub,Int.reduceToNat,Int.reduceNeg,Int.reduceLT,Int.reduceLE,Int.reduceEq,Nat.reduceEqDiff,Nat.reduceAdd,Nat.reduceLeDiff,reduceIte,reduceCtorEq,Nat.reduceBEq,i64,bV,hb1',hb2,rdO,gt_iff_lt]
  all_goals first | exact⟨rfl,rfl⟩ | exact⟨rfl,trivial⟩ | rfl | trivial | (rw[reV_eq]; rfl)
def rEnd (xs:List Nat) (w:Int):Int:=if w≠0 then w else if xs=[] then 0 else 2
theorem rdEnd_ok (bs xs:List Nat) (w:Int) (hs:xs <:+ bs) (hb:bs.length≤1000000000):callWp prog 94 [.rf 0 0 0 0] [rdO bs xs w] fun v s=>v=i64 (rEnd xs w)∧s=[rdO bs xs w]:=by
 have hl:=hs.length_le
 by_cases hw:w=0
 case neg =>
  have e:rEnd xs w=w:=by unfold rEnd; rw[if_pos hw]
  rw[e]
  refine fn_ok func94 rfl ntmps94 results94 rfl 1 5 (by simp) (by simp) ?_
  simp only[zX,Nat.reduceShiftRight,Nat.reduceMod,Nat.reduceLT,Nat.reduceMul,Nat.reduceSub,Int.reduceToNat,Int.reduceNeg,Int.reduceLT,Int.reduceLE,Int.reduceEq,Nat.reduceEqDiff,Nat.reduceAdd,Nat.reduceLeDiff,reduceIte,reduceCtorEq,Nat.reduceBEq,rdO,i64,hw,ne_eq,not_false_eq_true,decide_true]
  all_goals first | exact⟨rfl,rfl⟩ | exact⟨rfl,trivial⟩ | rfl | trivial | (rw[reV_eq]; rfl)
 subst hw
 cases xs with
 | nil =>
  have e:rEnd [] 0=0:=rfl
  rw[e]
  refine fn_ok func94 rfl ntmps94 results94 rfl 1 5 (by simp) (by simp) ?_
  simp only[zX,Nat.reduceShiftRight,Nat.reduceMod,Nat.reduceLT,Nat.reduceMul,Nat.reduceSub,Int.reduceToNat,Int.reduceNeg,Int.reduceLT,Int.reduceLE,Int.reduceEq,Nat.reduceEqDiff,Nat.reduceAdd,Nat.reduceLeDiff,reduceIte,reduceCtorEq,Nat.reduceBEq,rdO,i64,ne_eq,not_true_eq_false,decide_false]
  refine draw_c mix [] [] (by rfl) ?_
  simp only[zX,Nat.reduceShiftRight,Nat.reduceMod,Nat.reduceLT,Nat.reduceMul,Nat.reduceSub,Int.reduceToNat,Int.reduceNeg,Int.reduceLT,Int.reduceLE,Int.reduceEq,Nat.reduceEqDiff,Nat.reduceAdd,Nat.reduceLeDiff,reduceIte,reduceCtorEq,Nat.reduceBEq,rdO,i64,bytesD,List.length_map,List.length_nil,Nat.sub_zero,Int.lt_irrefl,decide_false]
  all_goals first | exact⟨rfl,rfl⟩ | exact⟨rfl,trivial⟩ | rfl | trivial | (rw[reV_eq]; rfl)
 | cons b xs =>
  have e:rEnd (b::xs) 0=2:=rfl
  rw[e]
  have q:((bs.length - (xs.length + 1):Nat):Int) < (bs.length:Int):=by
   have:(b::xs).length=xs.length + 1:=rfl
   omega
  generalize hn:bs.length - (xs.length + 1)=n at *
  refine fn_ok func94 rfl ntmps94 results94 rfl 1 5 (by simp) (by simp) ?_
  simp only[zX,Nat.reduceShiftRight,Nat.reduceMod,Nat.reduceLT,Nat.reduceMul,Nat.reduceSub,Int.reduceToNat,Int.reduceNeg,Int.reduceLT,Int.reduceLE,Int.reduceEq,Nat.reduceEqDiff,Nat.reduceAdd,Nat.reduceLeDiff,reduceIte,reduceCtorEq,Nat.reduceBEq,rdO,hn,i64,ne_eq,not_true_eq_false,decide_false]
  refine draw_c mix [] [] (by rfl) ?_
  simp only[zX,Nat.reduceShiftRight,Nat.reduceMod,Nat.reduceLT,Nat.reduceMul,Nat.reduceSub,Int.reduceToNat,Int.reduceNeg,Int.reduceLT,Int.reduceLE,Int.reduceEq,Nat.reduceEqDiff,Nat.reduceAdd,Nat.reduceLeDiff,reduceIte,reduceCtorEq,Nat.reduceBEq,rdO,hn,i64,bytesD,List.length_map,q]
  all_goals first | exact⟨rfl,rfl⟩ | exact⟨rfl,trivial⟩ | rfl | trivial | (rw[reV_eq]; rfl)
theorem rNs_err:∀(n:Nat) (xs:List Nat),(rNs n xs).2.2≠0→(rNs n xs).1=[]
 | 0,_,h=>absurd rfl h
 | n + 1,xs,h=>by
  rw[rNs] at h ⊢
  split
  ·rfl
  ·rename_i h1
   rw[if_neg h1] at h
   split
   ·rfl
   ·rename_i h2
    rw[if_neg h2] at h
    exact absurd rfl h
theorem rIsW_eq (xs:List Nat) (w:Int):rIsW xs w=if (rUW xs w).2.2≠0 then ([],(rUW xs w).2.1,(rUW xs w).2.2) else if (rUW xs w).2.1.length < (rUW xs w).1 then ([],(rUW xs w).2.1,3) else rNs (rUW xs w).1 (rUW xs w).2.1:=by
 unfold rIsW
 by_cases hw:w=0
 ·subst hw
  have e:rUW xs 0=rU xs:=by unfold rUW; rw[if_neg (by simp)]
  rw[if_neg (by simp),e]
  rfl
 ·have e:rUW xs w=(0,xs,w):=by unfold rUW; rw[if_pos hw]
  rw[if_pos hw,e,if_pos hw]
def combNs (l:List Int) (r:List Int × List Nat × Int):List Int × List Nat × Int:=if r.2.2≠0 then ([],r.2.1,r.2.2) else (l++r.1,r.2.1,0)
theorem combNs_start (n:Nat) (xs:List Nat):combNs [] (rNs n xs)=rNs n xs:=by
 unfold combNs
 split
 ·rename_i h
  exact Prod.ext (rNs_err n xs h).symm rfl
 ·rename_i h
  simp only[ne_eq,Decidable.not_not] at h
  exact Prod.ext (by simp) (Prod.ext rfl h.symm)
theorem combNs_bad (l:List Int) (n:Nat) {xs:List Nat} (h:(rU xs).2.2≠0):combNs l (rNs (n + 1) xs)=([],(rU xs).2.1,(rU xs).2.2):=by
 rw[rNs,if_pos h]
 unfold combNs
 rw[if_pos h]
theorem combNs_step (l:List Int) (n:Nat) {xs:List Nat} (h:(rU xs).2.2=0):combNs l (rNs (n + 1) xs)=combNs (l++[unz (rU xs).1]) (rNs n (rU xs).2.1):=by
 rw[rNs,if_neg (by simp [h])]
 unfold combNs
 by_cases he:(rNs n (rU xs).2.1).2.2=0
 ·simp only[he,ne_eq,not_true_eq_false,if_false,List.append_assoc,List.cons_append,List.nil_append]
 ·simp only[he,ne_eq,not_false_eq_true,if_true]
theorem combNs_end (l:List Int) (xs:List Nat):combNs l (rNs 0 xs)=(l,xs,0):=by
 unfold combNs rNs
 simp
def litO (g:Nat) (l:List Int):VL.Obj:=⟨g,true,1,(l.map fun x=>[iD x]).map fun c=>c.map V.d⟩
def rdLI (bs ys0:List Nat) (N:Nat):Nat→Env→List VL.Obj→Prop:=fun n e s=>∃(i g:Nat) (l:List Int) (ys:List Nat),n=N - i∧i≤N∧l.length=i∧ys <:+ bs∧combNs l (rNs (N - i) ys)=rNs N ys0 ∧
 e 0=.rf 0 0 0 0∧e 1=.cl (.func 50) [.rf 0 0 0 0] []∧e 6=.so 1 g 0 i∧e 32=u64 N∧e 33=u64 i∧s=[rdO bs ys 0,litO g l]
theorem rdList_ok (bs xs:List Nat) (w:Int) (hs:xs <:+ bs) (hb:bs.length≤1000000000) (hB:∀b∈bs,b < 256):callWp prog 120 [.rf 0 0 0 0,.cl (.func 50) [.rf 0 0 0 0] []] [rdO bs xs w] fun v s=>v=.d (intsD (rIsW xs w).1)∧s=[rdO bs (rIsW xs w).2.1 (rIsW xs w).2.2]:=by
 have hu:=rdUint_ok bs xs w hs hb hB
 have hsu:=(rUW_suf xs w).trans hs
 rw[rIsW_eq]
 generalize rUW xs w=R at *
 obtain⟨N,ys0,w'⟩:=R
 simp only[u64] at *
 by_cases hw:w'=0
 case neg =>
  rw[if_pos hw]
  refine fn_ok func120 rfl ntmps120 results120 rfl 1 12884902003 (by simp) (by simp) ?_
  simp only[zX,Nat.reduceShiftRight,Nat.reduceMod,Nat.reduceLT,Nat.reduceMul,Nat.reduceSub,Int.reduceToNat,Int.reduceNeg,Int.reduceLT,Int.reduceLE,Int.reduceEq,Nat.reduceEqDiff,Nat.reduceAdd,Nat.reduceLeDiff,reduceIte,reduceCtorEq,Nat.reduceBEq,i64]
  refine call_same hu ?_
  simp only[zX,Nat.reduceShiftRight,Nat.reduceMod,Nat.reduceLT,Nat.reduceMul,Nat.reduceSub,Int.reduceToNat,Int.reduceNeg,Int.reduceLT,Int.reduceLE,Int.reduceEq,Nat.reduceEqDiff,Nat.reduceAdd,Nat.reduceLeDiff,reduceIte,reduceCtorEq,Nat.reduceBEq,i64,rdO,hw,ne_eq,not_false_eq_true,decide_true]
  all_goals first | exact⟨rfl,rfl⟩ | exact⟨rfl,trivial⟩ | rfl | trivial | (rw[reV_eq]; rfl)
 subst hw
 rw[if_neg (by simp)]
 have hl0:=hsu.length_le
 have w1:IntKind.i64.wrap ((bs.length:Int) - ((bs.length - ys0.length:Nat):Int))=(ys0.length:Int):=by rw[w64 _ (by omega)]; omega
 have w2:IntKind.u64.wrap (ys0.length:Int)=(ys0.length:Int):=wrapu _ (by omega)
 by_cases hn:ys0.length < N
 ·rw[if_pos hn]
  have hn':(ys0.length:Int) < (N:Int):=by omega
  refine fn_ok func120 rfl ntmps120 results120 rfl 1 12884902003 (by simp) (by simp) ?_
  simp only[zX,Nat.reduceShiftRight,Nat.reduceMod,Nat.reduceLT,Nat.reduceMul,Nat.reduceSub,Int.reduceToNat,Int.reduceNeg,Int.reduceLT,Int.reduceLE,Int.reduceEq,Nat.reduceEqDiff,Nat.reduceAdd,Nat.reduceLeDiff,reduceIte,reduceCtorEq,Nat.reduceBEq,i64]
  refine call_same hu ?_
  simp only[zX,Nat.reduceShiftRight,Nat.reduceMod,Nat.reduceLT,Nat.reduceMul,Nat.reduceSub,Int.reduceToNat,Int.reduceNeg,Int.reduceLT,Int.reduceLE,Int.reduceEq,Nat.reduceEqDiff,Nat.reduceAdd,Nat.reduceLeDiff,reduceIte,reduceCtorEq,Nat.reduceBEq,i64,rdO,ne_eq,not_true_eq_false,decide_false]
  refine draw_c mix [] [] (by rfl) ?_
  simp only[zX,Nat.reduceShiftRight,Nat.reduceMod,Nat.reduceLT,Nat.reduceMul,Nat.reduceSub,Int.reduceToNat,Int.reduceNeg,Int.reduceLT,Int.reduceLE,Int.reduceEq,Nat.reduceEqDiff,Nat.reduceAdd,Nat.reduceLeDiff,reduceIte,reduceCtorEq,Nat.reduceBEq,i64,rdO,bytesD,List.length_map,w1,w2,hn',gt_iff_lt]
  all_goals first | exact⟨rfl,rfl⟩ | exact⟨rfl,trivial⟩ | rfl | trivial | (rw[reV_eq]; rfl)
 rw[if_neg hn]
 have hn':¬(ys0.length:Int) < (N:Int):=by omega
 refine fn_ok func120 rfl ntmps120 results120 rfl 1 12884902003 (by simp) (by simp) ?_
 simp only[zX,Nat.reduceShiftRight,Nat.reduceMod,Nat.reduceLT,Nat.reduceMul,Nat.reduceSub,Int.reduceToNat,Int.reduceNeg,Int.reduceLT,Int.reduceLE,Int.reduceEq,Nat.reduceEqDiff,Nat.reduceAdd,Nat.reduceLeDiff,reduceIte,reduceCtorEq,Nat.reduceBEq,i64]
 refine call_same hu ?_
 simp only[zX,Nat.reduceShiftRight,Nat.reduceMod,Nat.reduceLT,Nat.reduceMul,Nat.reduceSub,Int.reduceToNat,Int.reduceNeg,Int.reduceLT,Int.reduceLE,Int.reduceEq,Nat.reduceEqDiff,Nat.reduceAdd,Nat.reduceLeDiff,reduceIte,reduceCtorEq,Nat.reduceBEq,i64,rdO,ne_eq,not_true_eq_false,decide_false]
 refine draw_c mix [] [] (by rfl) ?_
 simp only[zX,Nat.reduceShiftRight,Nat.reduceMod,Nat.reduceLT,Nat.reduceMul,Nat.reduceSub,Int.reduceToNat,Int.reduceNeg,Int.reduceLT,Int.reduceLE,Int.reduceEq,Nat.reduceEqDiff,Nat.reduceAdd,Nat.reduceLeDiff,reduceIte,reduceCtorEq,Nat.reduceBEq,i64,rdO,bytesD,List.length_map,w1,w2,hn',gt_iff_lt,decide_false]
 refine⟨⟨by omega,by omega⟩,?_⟩
 refine loop_rule (rdLI bs ys0 N) ⟨_,_,_,Cln.refl,0,0,[],ys0,rfl,by omega,rfl,hsu,combNs_start N ys0,rfl,rfl,rfl,rfl,rfl,rfl⟩ ?_
 rintro n e s ⟨i,g,l,ys,rfl,hi,hli,hys,hc,h0,h1,h6,h32,h33,rfl⟩
 by_cases hlt:i < N
 case neg =>
  have hie:i=N:=by omega
  subst hie
  rw[Nat.sub_self,combNs_end] at hc
  rw[← hc]
  simp only[zX,Nat.reduceShiftRight,Nat.reduceMod,Nat.reduceLT,Nat.reduceMul,Nat.reduceSub,Int.reduceToNat,Int.reduceNeg,Int.reduceLT,Int.reduceLE,Int.reduceEq,Nat.reduceEqDiff,Nat.reduceAdd,Nat.reduceLeDiff,reduceIte,reduceCtorEq,Nat.reduceBEq,i64,u64,h0,h1,h6,h32,h33,Int.lt_irrefl,decide_false]
  unfold litO
  subst hli
  refine⟨rfl,?_⟩
  rw[if_pos ⟨rfl,by simp⟩,List.take_of_length_le (by simp),mapM_frzE]
  exact⟨rfl,rfl⟩
 have hlt':(i:Int) < (N:Int):=by omega
 have hI:=rdInt_ok bs ys 0 hys hb hB
 have e0:rI ys 0=(unz (rU ys).1,(rU ys).2.1,(rU ys).2.2):=by
  rw[rI_eq]
  have:rUW ys 0=rU ys:=by unfold rUW; rw[if_neg (by simp)]
  rw[this]
 rw[e0] at hI
 have hsy:=(rU_suf ys).trans hys
 obtain⟨k,hk⟩:∃k,N - i=k + 1:=⟨N - i - 1,by omega⟩
 rw[hk] at hc
 have wi:IntKind.u64.wrap ((i:Int) + 1)=((i + 1:Nat):Int):=by rw[wrapu _ (by omega)]; omega
 have hcut:∀l:List Int,((l.map fun x=>[iD x]).map fun c=>c.map V.d).take l.length=(l.map fun x=>[iD x]).map fun c=>c.map V.d:=fun l=>List.take_of_length_le (by simp)
 simp only[i64] at hI
 by_cases he:(rU ys).2.2=0
 ·rw[combNs_step l k he] at hc
  rw[he] at hI
  generalize rU ys=R at *
  obtain⟨u,zs,w''⟩:=R
  simp only at *
  subst hli
  simp only[zX,Nat.reduceShiftRight,Nat.reduceMod,Nat.reduceLT,Nat.reduceMul,Nat.reduceSub,Int.reduceToNat,Int.reduceNeg,Int.reduceLT,Int.reduceLE,Int.reduceEq,Nat.reduceEqDiff,Nat.reduceAdd,Nat.reduceLeDiff,reduceIte,reduceCtorEq,Nat.reduceBEq,i64,u64,h0,h1,h6,h32,h33,hlt']
  refine call_one hI rfl rfl rfl rfl rfl rfl ?_
  simp only[zX,Nat.reduceShiftRight,Nat.reduceMod,Nat.reduceLT,Nat.reduceMul,Nat.reduceSub,Int.reduceToNat,Int.reduceNeg,Int.reduceLT,Int.reduceLE,Int.reduceEq,Nat.reduceEqDiff,Nat.reduceAdd,Nat.reduceLeDiff,reduceIte,reduceCtorEq,Nat.reduceBEq,i64,u64,h0,h1,h6,h32,h33,litO,hcut,List.length_map]
  refine⟨by simp,⟨by omega,by omega⟩,?_⟩
  simp only[zX,Nat.reduceShiftRight,Nat.reduceMod,Nat.reduceLT,Nat.reduceMul,Nat.reduceSub,Int.reduceToNat,Int.reduceNeg,Int.reduceLT,Int.reduceLE,Int.reduceEq,Nat.reduceEqDiff,Nat.reduceAdd,Nat.reduceLeDiff,reduceIte,reduceCtorEq,Nat.reduceBEq,i64,u64,rdO,h0,h1,h6,h32,h33,ne_eq,not_true_eq_false,decide_false,wi]
  refine⟨N - (l.length + 1),_,_,by omega,Cln.refl,l.length + 1,g + 1,l++[unz u],zs,rfl,hlt,by simp,hsy,?_,?_,?_,?_,?_,?_,?_⟩ <;> (try simp only[zU,Nat.reduceBEq,Nat.reduceShiftRight,Nat.reduceMod,Nat.reduceEqDiff,reduceIte])
  ·rw[← hc,show N - (l.length + 1)=k by omega]
  ·exact h0
  ·exact h1
  ·exact h32
  ·rfl
  ·simp [rdO,litO,i64,iD]
 ·rw[combNs_bad l k he] at hc
  rw[← hc]
  generalize rU ys=R at *
  obtain⟨u,zs,w''⟩:=R
  simp only at *
  subst hli
  simp only[zX,Nat.reduceShiftRight,Nat.reduceMod,Nat.reduceLT,Nat.reduceMul,Nat.reduceSub,Int.reduceToNat,Int.reduceNeg,Int.reduceLT,Int.reduceLE,Int.reduceEq,Nat.reduceEqDiff,Nat.reduceAdd,Nat.reduceLeDiff,reduceIte,reduceCtorEq,Nat.reduceBEq,i64,u64,h0,h1,h6,h32,h33,hlt']
  refine call_one hI rfl rfl rfl rfl rfl rfl ?_
  simp only[zX,Nat.reduceShiftRight,Nat.reduceMod,Nat.reduceLT,Nat.reduceMul,Nat.reduceSub,Int.reduceToNat,Int.reduceNeg,Int.reduceLT,Int.reduceLE,Int.reduceEq,Nat.reduceEqDiff,Nat.reduceAdd,Nat.reduceLeDiff,reduceIte,reduceCtorEq,Nat.reduceBEq,i64,u64,h0,h1,h6,h32,h33,litO,hcut,List.length_map]
  refine⟨by simp,⟨by omega,by omega⟩,?_⟩
  simp only[zX,Nat.reduceShiftRight,Nat.reduceMod,Nat.reduceLT,Nat.reduceMul,Nat.reduceSub,Int.reduceToNat,Int.reduceNeg,Int.reduceLT,Int.reduceLE,Int.reduceEq,Nat.reduceEqDiff,Nat.reduceAdd,Nat.reduceLeDiff,reduceIte,reduceCtorEq,Nat.reduceBEq,i64,u64,rdO,h0,h1,h6,h32,h33,he,ne_eq,not_false_eq_true,decide_true]
  all_goals first | exact⟨rfl,rfl⟩ | exact⟨rfl,trivial⟩ | rfl | trivial | (rw[reV_eq]; rfl)
theorem rdInts_ok (bs xs:List Nat) (w:Int) (hs:xs <:+ bs) (hb:bs.length≤1000000000) (hB:∀b∈bs,b < 256):callWp prog 113 [.rf 0 0 0 0] [rdO bs xs w] fun v s=>v=.d (intsD (rIsW xs w).1)∧s=[rdO bs (rIsW xs w).2.1 (rIsW xs w).2.2]:=by
 have hl:=rdList_ok bs xs w hs hb hB
 refine fn_ok func113 rfl ntmps113 results113 rfl 1 5 (by simp) (by simp) ?_
 simp only[zX,Nat.reduceShiftRight,Nat.reduceMod,Nat.reduceLT,Nat.reduceMul,Nat.reduceSub,Int.reduceToNat,Int.reduceNeg,Int.reduceLT,Int.reduceLE,Int.reduceEq,Nat.reduceEqDiff,Nat.reduceAdd,Nat.reduceLeDiff,reduceIte,reduceCtorEq,Nat.reduceBEq,i64]
 refine call_same hl ?_
 simp only[zX,Nat.reduceShiftRight,Nat.reduceMod,Nat.reduceLT,Nat.reduceMul,Nat.reduceSub,Int.reduceToNat,Int.reduceNeg,Int.reduceLT,Int.reduceLE,Int.reduceEq,Nat.reduceEqDiff,Nat.reduceAdd,Nat.reduceLeDiff,reduceIte,reduceCtorEq,Nat.reduceBEq,i64,rdO]
 all_goals first | exact⟨rfl,rfl⟩ | exact⟨rfl,trivial⟩ | rfl | trivial | (rw[reV_eq]; rfl)
end Go.Proofs.Ytafbdphblilenaa
