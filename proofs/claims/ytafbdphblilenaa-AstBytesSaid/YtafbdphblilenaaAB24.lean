/- A part of the proof (F87 F88 F89 F90). -/
import Derived.Test.YtafbdphblilenaaAB23
set_option linter.unusedSimpArgs false
set_option linter.unusedVariables false
set_option maxRecDepth 100000
set_option maxHeartbeats 80000000
set_option linter.unusedSimpArgs false
set_option linter.unusedVariables false
namespace Go.Proofs.Ytafbdphblilenaa
open Go.VL Go.Proofs.Try
theorem and127 (b:Nat) (h:b < 256):bitV .and .u8 (b:Int) 127=((b % 128:Nat):Int):=by
 have h:∀x:Nat,x < 256→bitV .and .u8 (x:Int) 127=((x % 128:Nat):Int):=by decide
 exact h b ‹_›
theorem shl7 (x i:Nat) (hi:i≤9) (h:x * 2 ^ (7 * i) < 18446744073709551616):shV .shl .u64 (x:Int) ((7 * i:Nat):Int)=((x * 2 ^ (7 * i):Nat):Int):=by
 show IntKind.u64.wrap ((x:Int) * 2 ^ min ((7 * i:Nat):Int).toNat IntKind.u64.bits)=_
 have e:min ((7 * i:Nat):Int).toNat IntKind.u64.bits=7 * i:=by
  show min ((7 * i:Nat):Int).toNat 64=_
  omega
 have this:(x:Int) * 2 ^ (7 * i)=((x * 2 ^ (7 * i):Nat):Int):=by push_cast; rfl
 rw[e,this,wrapu _ (by omega)]
theorem or_add (a x k:Nat) (ha:a < 2 ^ k) (h:a + x * 2 ^ k < 18446744073709551616):bitV .or .u64 (a:Int) ((x * 2 ^ k:Nat):Int)=((a + x * 2 ^ k:Nat):Int):=by
 show IntKind.u64.wrap ((BitVec.ofInt 64 (a:Int) ||| BitVec.ofInt 64 ((x * 2 ^ k:Nat):Int)).toNat:Int)=_
 have e1:(BitVec.ofInt 64 (a:Int)).toNat=a:=by rw[BitVec.toNat_ofInt]; omega
 have e2:(BitVec.ofInt 64 ((x * 2 ^ k:Nat):Int)).toNat=x * 2 ^ k:=by rw[BitVec.toNat_ofInt]; omega
 have e3:a ||| x * 2 ^ k=a + x * 2 ^ k:=by
  rw[Nat.or_comm,← Nat.shiftLeft_eq,← Nat.shiftLeft_add_eq_or_of_lt ha,Nat.add_comm]
 rw[BitVec.toNat_or,e1,e2,e3,wrapu _ (by omega)]
theorem xor_unz (u:Nat) (h:u < 18446744073709551616):bitV .xor .i64 ((u / 2:Nat):Int) (-((u % 2:Nat):Int))=unz u:=by
 unfold unz
 by_cases hu:u % 2=1
 ·rw[if_pos hu,hu]
  show IntKind.i64.wrap ((BitVec.ofInt 64 ((u / 2:Nat):Int) ^^^ BitVec.ofInt 64 (-((1:Nat):Int))).toNat:Int)=_
  have z:BitVec.ofInt 64 (-((1:Nat):Int))=BitVec.allOnes 64:=by decide
  have e:(BitVec.ofInt 64 ((u / 2:Nat):Int)).toNat=u / 2:=by rw[BitVec.toNat_ofInt]; omega
  have e3:2 ^ 64 - 1 - u / 2=18446744073709551615 - u / 2:=by
   have:(2:Nat) ^ 64=18446744073709551616:=(by decide)
   omega
  rw[z,BitVec.xor_allOnes,BitVec.toNat_not,e,e3]
  simp [IntKind.wrap,IntKind.bits,IntKind.signed]
  omega
 ·have h0:u % 2=0:=by omega
  rw[if_neg hu,h0]
  show IntKind.i64.wrap ((BitVec.ofInt 64 ((u / 2:Nat):Int) ^^^ BitVec.ofInt 64 (-((0:Nat):Int))).toNat:Int)=_
  have z:BitVec.ofInt 64 (-((0:Nat):Int))=0#64:=by decide
  have e:(BitVec.ofInt 64 ((u / 2:Nat):Int)).toNat=u / 2:=by rw[BitVec.toNat_ofInt]; omega
  rw[z,BitVec.xor_zero,e,w64 _ (by omega)]
def combU (acc i:Nat) (r:Nat × List Nat × Int):Nat × List Nat × Int:=if r.2.2≠0 then (0,r.2.1,r.2.2) else (acc + r.1 * 2 ^ (7 * i),r.2.1,0)
theorem combU_start (xs:List Nat):combU 0 0 (rU xs)=rU xs:=by
 unfold combU
 split
 ·rename_i h
  unfold rU at h ⊢
  have:∀(k:Nat) (nf:Bool) (xs:List Nat),(ruF k nf xs).2.2≠0→(ruF k nf xs).1=0:=by
   intro k nf xs h
   match k,xs with
   | 0,_=>rfl
   | k + 1,[]=>rfl
   | k + 1,b::xs =>
    rw[ruF] at h ⊢
    split
    ·rfl
    ·rename_i h1
     rw[if_neg h1] at h
     split
     ·rename_i h2
      rw[if_pos h2] at h
      exact absurd rfl h
     ·rename_i h2
      rw[if_neg h2] at h
      split
      ·rfl
      ·rename_i h3
       rw[if_neg h3] at h
       exact absurd rfl h
  exact Prod.ext (this _ _ _ h).symm rfl
 ·rename_i h
  simp only[ne_eq,Decidable.not_not] at h
  exact Prod.ext (by simp) (Prod.ext rfl h.symm)
theorem combU_more (acc i k b:Nat) (nf:Bool) (xs:List Nat) (h1:¬((k=0∧1 < b)∨(nf=true∧b=0))) (h2:¬b < 128):combU acc i (ruF (k + 1) nf (b::xs))=combU (acc + b % 128 * 2 ^ (7 * i)) (i + 1) (ruF k true xs):=by
 rw[ruF,if_neg h1,if_neg h2]
 unfold combU
 by_cases he:(ruF k true xs).2.2≠0
 ·rw[if_pos he,if_pos he]
  exact(if_pos he).symm
 ·rw[if_neg he,if_neg he]
  simp only[ne_eq,not_true_eq_false,if_false]
  congr 1
  have:(2:Nat) ^ (7 * (i + 1))=128 * 2 ^ (7 * i):=by
   rw[show 7 * (i + 1)=7 + 7 * i by omega,Nat.pow_add]
  rw[this,Nat.add_mul,Nat.add_assoc]
  congr 2
  rw[Nat.mul_comm 128 _,Nat.mul_assoc]
theorem combU_last (acc i k b:Nat) (nf:Bool) (xs:List Nat) (h1:¬((k=0∧1 < b)∨(nf=true∧b=0))) (h2:b < 128):combU acc i (ruF (k + 1) nf (b::xs))=(acc + b * 2 ^ (7 * i),xs,0):=by
 rw[ruF,if_neg h1,if_pos h2]
 unfold combU
 simp
theorem combU_bad (acc i k b:Nat) (nf:Bool) (xs:List Nat) (h1:(k=0∧1 < b)∨(nf=true∧b=0)):combU acc i (ruF (k + 1) nf (b::xs))=(0,xs,2):=by
 rw[ruF,if_pos h1]
 rfl
theorem combU_end (acc i k:Nat) (nf:Bool):combU acc i (ruF (k + 1) nf [])=(0,[],3):=rfl
theorem ruF_suf:∀(k:Nat) (nf:Bool) (xs:List Nat),(ruF k nf xs).2.1 <:+ xs
 | 0,_,xs=>List.suffix_refl _
 | _ + 1,_,[]=>List.suffix_refl _
 | k + 1,nf,b::xs=>by
  have ih:=ruF_suf k true xs
  rw[ruF]
  split
  ·exact List.suffix_cons _ _
  split
  ·exact List.suffix_cons _ _
  split
  ·exact ih.trans (List.suffix_cons _ _)
  ·exact ih.trans (List.suffix_cons _ _)
theorem rU_suf (xs:List Nat):(rU xs).2.1 <:+ xs:=ruF_suf _ _ _
theorem rNs_suf:∀(n:Nat) (xs:List Nat),(rNs n xs).2.1 <:+ xs
 | 0,xs=>List.suffix_refl _
 | n + 1,xs=>by
  have h1:=rU_suf xs
  have h2:=rNs_suf n (rU xs).2.1
  rw[rNs]
  split
  ·exact h1
  split
  ·exact h2.trans h1
  ·exact h2.trans h1
theorem rIs_suf (xs:List Nat):(rIs xs).2.1 <:+ xs:=by
 have h1:=rU_suf xs
 unfold rIs
 split
 ·exact h1
 split
 ·exact h1
 ·exact(rNs_suf _ _).trans h1
theorem rI_suf (xs:List Nat) (w:Int):(rI xs w).2.1 <:+ xs:=by
 have h1:=rU_suf xs
 unfold rI
 split
 ·exact List.suffix_refl _
 split
 ·exact h1
 ·exact h1
theorem rIsW_suf (xs:List Nat) (w:Int):(rIsW xs w).2.1 <:+ xs:=by
 unfold rIsW
 split
 ·exact List.suffix_refl _
 ·exact rIs_suf xs
theorem rB_suf (xs:List Nat) (w:Int):(rB xs w).2.1 <:+ xs:=by
 unfold rB
 split
 ·exact List.suffix_refl _
 ·cases xs with
  | nil=>exact List.suffix_refl _
  | cons b xs=>exact List.suffix_cons _ _
theorem rNode_rest (xs:List Nat) (w:Int):(rNode xs w).2=(rI (rIsW (rIsW xs w).2.1 (rIsW xs w).2.2).2.1 (rIsW (rIsW xs w).2.1 (rIsW xs w).2.2).2.2).2:=by
 unfold rNode
 simp only
 split
 ·split <;> rfl
 ·rfl
theorem rNode_suf (xs:List Nat) (w:Int):(rNode xs w).2.1 <:+ xs:=by
 rw[rNode_rest]
 exact(rI_suf _ _).trans ((rIsW_suf _ _).trans (rIsW_suf _ _))
def rO (xs:List Nat) (w:Int):Nat × List Nat × Int :=
 if w≠0 then (0,xs,w) else match xs with
  | []=>(0,[],3)
  | b::xs=>(b,xs,0)
def rdO (bs xs:List Nat) (w:Int):VL.Obj:=⟨0,true,3,[[.d (bytesD bs),i64 ((bs.length - xs.length:Nat):Int),i64 w]]⟩
theorem suf_get {bs xs:List Nat} {b:Nat} (h:(b::xs) <:+ bs):bs[bs.length - (xs.length + 1)]?=some b∧bs.length - xs.length=bs.length - (xs.length + 1) + 1∧xs <:+ bs:=by
 obtain⟨l,rfl⟩:=h
 refine⟨?_,?_,⟨l++[b],by simp⟩⟩
 ·simp only[List.length_append,List.length_cons,Nat.add_sub_cancel]
  simp
 ·simp only[List.length_append,List.length_cons]; omega
def u8 (n:Nat):V:=.d (.sc (.int .u8 (n:Int)))
theorem octet_ok (bs xs:List Nat) (w:Int) (hs:xs <:+ bs) (hb:bs.length≤1000000000):callWp prog 112 [.rf 0 0 0 0] [rdO bs xs w] fun v s=>v=u8 (rO xs w).1∧s=[rdO bs (rO xs w).2.1 (rO xs w).2.2]:=by
 have hl:=hs.length_le
 by_cases hw:w=0
 case neg =>
  refine fn_ok func112 rfl ntmps112 results112 rfl 1 5 (by simp) (by simp) ?_
  simp only[zX,Nat.reduceShiftRight,Nat.reduceMod,Nat.reduceLT,Nat.reduceMul,Nat.reduceSub,Int.reduceToNat,Int.reduceNeg,Int.reduceLT,Int.reduceLE,Int.reduceEq,Nat.reduceEqDiff,Nat.reduceAdd,Nat.reduceLeDiff,reduceIte,reduceCtorEq,Nat.reduceBEq,rdO,i64,rO,u8,hw,ne_eq,not_false_eq_true,decide_true]
  all_goals first | exact⟨rfl,rfl⟩ | exact⟨rfl,trivial⟩ | rfl | trivial | (rw[reV_eq]; rfl)
 subst hw
 cases xs with
 | nil =>
  refine fn_ok func112 rfl ntmps112 results112 rfl 1 5 (by simp) (by simp) ?_
  simp only[zX,Nat.reduceShiftRight,Nat.reduceMod,Nat.reduceLT,Nat.reduceMul,Nat.reduceSub,Int.reduceToNat,Int.reduceNeg,Int.reduceLT,Int.reduceLE,Int.reduceEq,Nat.reduceEqDiff,Nat.reduceAdd,Nat.reduceLeDiff,reduceIte,reduceCtorEq,Nat.reduceBEq,rdO,i64,rO,u8,ne_eq,not_true_eq_false,decide_false]
  refine draw_c mix [] [] (by rfl) ?_
  simp only[zX,Nat.reduceShiftRight,Nat.reduceMod,Nat.reduceLT,Nat.reduceMul,Nat.reduceSub,Int.reduceToNat,Int.reduceNeg,Int.reduceLT,Int.reduceLE,Int.reduceEq,Nat.reduceEqDiff,Nat.reduceAdd,Nat.reduceLeDiff,reduceIte,reduceCtorEq,Nat.reduceBEq,rdO,i64,bytesD,rO,u8,List.length_map,List.length_nil,Nat.sub_zero,ge_iff_le,Int.le_refl,decide_true]
  all_goals first | exact⟨rfl,rfl⟩ | exact⟨rfl,trivial⟩ | rfl | trivial | (rw[reV_eq]; rfl)
 | cons b xs =>
  obtain⟨g1,g2,g3⟩:=suf_get hs
  have hl:xs.length + 1≤bs.length:=hl
  have q:¬((bs.length:Int)≤((bs.length - (xs.length + 1):Nat):Int)):=by omega
  have w1:IntKind.i64.wrap (((bs.length - (xs.length + 1):Nat):Int) + 1)=((bs.length - xs.length:Nat):Int):=by rw[w64 _ (by omega)]; omega
  have w2:IntKind.i64.wrap (((bs.length - xs.length:Nat):Int) - 1)=((bs.length - (xs.length + 1):Nat):Int):=by rw[w64 _ (by omega)]; omega
  have q0:(0:Int)≤((bs.length - (xs.length + 1):Nat):Int):=by omega
  have q1:((bs.length - (xs.length + 1):Nat):Int) < (bs.length:Int):=by omega
  generalize hn:bs.length - (xs.length + 1)=n at *
  generalize hm:bs.length - xs.length=m at *
  refine fn_ok func112 rfl ntmps112 results112 rfl 1 5 (by simp) (by simp) ?_
  simp only[zX,Nat.reduceShiftRight,Nat.reduceMod,Nat.reduceLT,Nat.reduceMul,Nat.reduceSub,Int.reduceToNat,Int.reduceNeg,Int.reduceLT,Int.reduceLE,Int.reduceEq,Nat.reduceEqDiff,Nat.reduceAdd,Nat.reduceLeDiff,reduceIte,reduceCtorEq,Nat.reduceBEq,rdO,hn,i64,rO,u8,ne_eq,not_true_eq_false,decide_false]
  refine draw_c mix [] [] (by rfl) ?_
  simp only[zX,Nat.reduceShiftRight,Nat.reduceMod,Nat.reduceLT,Nat.reduceMul,Nat.reduceSub,Int.reduceToNat,Int.reduceNeg,Int.reduceLT,Int.reduceLE,Int.reduceEq,Nat.reduceEqDiff,Nat.reduceAdd,Nat.reduceLeDiff,reduceIte,reduceCtorEq,Nat.reduceBEq,rdO,i64,bytesD,rO,u8,List.length_map,hn,ge_iff_le,q,w1]
  refine draw_c mix [] [] (by rfl) ?_
  simp only[zX,Nat.reduceShiftRight,Nat.reduceMod,Nat.reduceLT,Nat.reduceMul,Nat.reduceSub,Int.reduceToNat,Int.reduceNeg,Int.reduceLT,Int.reduceLE,Int.reduceEq,Nat.reduceEqDiff,Nat.reduceAdd,Nat.reduceLeDiff,reduceIte,reduceCtorEq,Nat.reduceBEq,rdO,i64,bytesD,rO,u8,List.length_map,hm,w2,q0,q1,Int.toNat_natCast,List.getElem?_map,g1,Option.map_some]
  all_goals first | exact⟨rfl,rfl⟩ | exact⟨rfl,trivial⟩ | rfl | trivial | (rw[reV_eq]; rfl)
theorem rU_err {xs:List Nat} (h:(rU xs).2.2≠0):(rU xs).1=0:=by
 have e:=combU_start xs
 unfold combU at e
 rw[if_pos h] at e
 exact(congrArg Prod.fst e).symm
def rUW (xs:List Nat) (w:Int):Nat × List Nat × Int:=if w≠0 then (0,xs,w) else rU xs
theorem rUW_suf (xs:List Nat) (w:Int):(rUW xs w).2.1 <:+ xs:=by
 unfold rUW
 split
 ·exact List.suffix_refl _
 ·exact rU_suf xs
theorem rI_eq (xs:List Nat) (w:Int):rI xs w=(unz (rUW xs w).1,(rUW xs w).2.1,(rUW xs w).2.2):=by
 have hz:unz 0=0:=by decide
 unfold rI rUW
 split
 ·rw[hz]
 split
 ·rename_i h
  rw[rU_err h,hz]
 ·rename_i h
  simp only[ne_eq,Decidable.not_not] at h
  rw[h]
theorem round_lt {acc x i:Nat} (hi:i≤9) (ha:acc < 2 ^ (7 * i)) (hx:x < 128) (h9:i=9→x≤1):acc + x * 2 ^ (7 * i) < 18446744073709551616∧acc + x * 2 ^ (7 * i) < 2 ^ (7 * (i + 1)):=by
 have e:(2:Nat) ^ (7 * (i + 1))=128 * 2 ^ (7 * i):=by rw[show 7 * (i + 1)=7 + 7 * i by omega,Nat.pow_add]
 have h1:x * 2 ^ (7 * i)≤127 * 2 ^ (7 * i):=Nat.mul_le_mul_right _ (by omega)
 rw[e]
 refine⟨?_,by omega⟩
 rcases Nat.lt_or_ge i 9 with h | h
 ·have:(2:Nat) ^ (7 * i)≤2 ^ 56:=Nat.pow_le_pow_right (by omega) (by omega)
  have e2:(2:Nat) ^ 56=72057594037927936:=by decide
  omega
 ·have hi9:i=9:=by omega
  subst hi9
  have e2:(2:Nat) ^ (7 * 9)=9223372036854775808:=by decide
  rw[e2] at *
  have h2:x * 9223372036854775808≤1 * 9223372036854775808:=Nat.mul_le_mul_right _ (h9 rfl)
  omega
theorem rUW_lt {bs xs:List Nat} (w:Int) (hb:∀b∈xs,b < 256):(rUW xs w).1 < 18446744073709551616:=by
 unfold rUW
 split
 ·show (0:Nat) < _; omega
 by_cases h:(rU xs).2.2=0
 ·exact(rU_dec (m:=(rU xs).1) (rest:=(rU xs).2.1) hb (Prod.ext rfl (Prod.ext rfl h))).2
 ·rw[rU_err h]; decide
end Go.Proofs.Ytafbdphblilenaa
