/- A part of the proof (K79 K80 K81 K82). -/
import Derived.Test.YtdofoappodmcoaaKP30
import Derived.Test.YtdofoappodmcoaaKP38
import Derived.Test.YtdofoappodmcoaaKP25
set_option linter.unusedSimpArgs false
set_option linter.unusedVariables false
set_option maxRecDepth 100000
set_option maxHeartbeats 80000000
namespace Go.Proofs.Ytdofoappodmcoaa
open Go.VL Go.Proofs.Try
theorem write_all (re:Re):re.every kshD=true→re.csz≤8500→WOK re:=by
 refine Re.ind (Q:=fun re=>re.every kshD=true→re.csz≤8500→WOK re) (fun re ih hs hz=>?_) re
 obtain⟨hs1,hs2⟩:=(Re.every_iff re).1 hs
 obtain⟨hcc,hop,h1k,hk0⟩:=kshD_iff.1 hs1
 obtain⟨q1,q2,q3,q4,_⟩:=kshB_iff.1 (kshC_iff.1 hcc).1
 have hW:¬isLeaf re→∀k∈re.kids,WOK k:=fun hl k hk=>ih k hk (hs2 k hk) (csz_kid' hs hz hl k hk)
 refine write_ok re hs hz hW (fun o4=>?_) (fun o3=>?_)
 ·obtain⟨k,hk⟩:∃k,re.kids=[k]:=List.length_eq_one_iff.1 (h1k (.inl o4))
  exact repeatP_ok re k hs hz o4 hk (hW (by unfold isLeaf; omega) k (by rw[hk]; simp))
 ·have hl:¬isLeaf re:=by unfold isLeaf; omega
  have hck:=csz_kid' hs hz hl
  have hkl:∀k∈re.kids,∀f,((k.code f).length:Int)=k.csz:=fun k hk=>code_len k (hs2 k hk) (by have:=hck k hk; omega)
  have hkz:∀k∈re.kids,0≤k.csz∧k.csz≤9000:=fun k hk=>⟨(csz_range k (every_DC (hs2 k hk))).1,by have:=hck k hk; omega⟩
  have hne:re.kids≠[]:=by have:=q2 o3; intro h; rw[h] at this; simp at this
  have hWk:=hW hl
  clear hW ih
  rw[← List.dropLast_concat_getLast hne] at hWk hkl hkz ⊢
  exact alts_ok _ _ hWk (by rw[List.length_dropLast]; omega) hkl hkz
theorem codeOf_ok (re:Re) (hs:re.every kshD=true) (hz:re.csz≤8500) (hsz:re.size≤1000):OwnSl prog 48 [.d (.el re.cells)] 5 ((re.code 0).map Ins.cells):=by
 have hw:=write_all re hs hz [] (by simp; omega)
 rw[List.nil_append,show (([]:List Ins).length:Int)=0 from rfl] at hw
 generalize re.code 0=L at *
 unfold OwnSl
 refine fn_own func48 rfl ntmps48 results48 rfl 0 253 (by simp) (by simp) ?_
 simp only[zX,simprocAttr,i64,bV,iD,bD]
 refine call_reserve (pre:=[]) (post:=[]) 0 5 rfl rfl rfl ?_
 refine call_w (C:=[]) (C':=L) hw (by rfl) (by rfl) (tl:=[]) ?_
 simp only[zX,simprocAttr,i64,bV,iD,bD,wCode,cVar,List.cons_append,List.nil_append,List.append_nil,Qown]
 exact own_exit (id:=5) (by rfl) rfl (by simp)
theorem csz_le8 {re:Re} (hs:re.every kshD=true) (h:re.csz≤8000) (ho:¬isLeaf re):Re.cszL re.kids≤8000:=by
 obtain⟨hs1,hs2⟩:=(Re.every_iff re).1 hs
 obtain⟨hc,hop,h1k,h0⟩:=kshD_iff.1 hs1
 obtain⟨hb,hmx⟩:=kshC_iff.1 hc
 obtain⟨q1,q2,q3,q4,q5,q6,q7,q8,q9,q10⟩:=kshB_iff.1 hb
 have hz:=(cszL_range (l:=re.kids) (fun k hk=>csz_range k (every_DC (hs2 k hk)))).1
 have hu:=csz_un (re:=re) (by omega)
 unfold isLeaf at ho
 generalize Re.cszL re.kids=z at *
 rw[if_neg (by omega)] at hu
 by_cases o3:re.op=3
 ·rw[if_pos o3] at hu; have:=q2 o3; omega
 rw[if_neg o3] at hu
 by_cases o5:re.op=5
 ·rw[if_pos o5] at hu; omega
 rw[if_neg o5] at hu
 by_cases o4:re.op=4
 ·rw[if_pos o4] at hu
  by_cases om:re.mx=-1
  ·rw[if_pos om] at hu
   have:1 * z≤(re.mn + 1) * z:=Int.mul_le_mul_of_nonneg_right (by omega) (by omega)
   omega
  ·rw[if_neg om] at hu
   have hm:=(hmx o4).resolve_left om
   have:1 * z≤re.mx * z:=Int.mul_le_mul_of_nonneg_right (by omega) (by omega)
   omega
 ·rw[if_neg o4] at hu; omega
theorem cszL_app:∀a b:List Re,Re.cszL (a++b)=Re.cszL a + Re.cszL b
 | [],b=>by simp [Re.cszL]
 | x::a,b=>by simp only[List.cons_append,Re.cszL,cszL_app a b]; omega
def leafB (re:Re):Bool:=decide (re.op=1∨re.op=11→re.kids=[])
theorem leaf_of {caps top:Int} (re:Re) (hw:re.whole caps top=true):re.every leafB=true:=by
 revert hw
 refine Re.ind (Q:=fun re=>re.whole caps top=true→re.every leafB=true) (fun re ih hw=>?_) re
 obtain⟨h1,h2⟩:=(Re.every_iff re).1 hw
 obtain⟨⟨a1,a2,a3,a4⟩,_⟩:=nodeOk_iff.1 h1
 refine(Re.every_iff re).2 ⟨decide_eq_true fun h=>?_,fun k hk=>ih k hk (h2 k hk)⟩
 unfold kidsR at a4
 rw[if_neg (by omega),if_neg (by omega),if_neg (by omega)] at a4
 simp only at a4
 exact List.eq_nil_of_length_eq_zero (by omega)
theorem lenOf_ok (re:Re):re.every kshD=true→re.every leafB=true→re.csz≤8000→PureOK prog 47 [.d (.el re.cells)] (i64 re.csz):=by
 refine Re.ind (Q:=fun re=>re.every kshD=true→re.every leafB=true→re.csz≤8000→PureOK prog 47 [.d (.el re.cells)] (i64 re.csz)) (fun re ih hs hlf hz=>?_) re
 obtain⟨hs1,hs2⟩:=(Re.every_iff re).1 hs
 obtain⟨hl1,hl2⟩:=(Re.every_iff re).1 hlf
 obtain⟨hcc,hop,h1k,hk0⟩:=kshD_iff.1 hs1
 obtain⟨hb,hmx⟩:=kshC_iff.1 hcc
 obtain⟨q1,q2,q3,q4,q5,q6,q7,q8,q9,q10⟩:=kshB_iff.1 hb
 have hkr:∀k∈re.kids,0≤k.csz∧k.csz≤10000:=fun k hk=>csz_range k (every_DC (hs2 k hk))
 have hLe:Re.cszL re.kids≤8000:=by
  by_cases hl:isLeaf re
  ·have:re.kids=[]:=by
    rcases hl with o | o
    ·exact hk0 o
    ·exact of_decide_eq_true hl1 o
   rw[this]; simp [Re.cszL]
  ·exact csz_le8 hs hz hl
 have hck:∀k∈re.kids,k.csz≤8000:=fun k hk=>Int.le_trans (cszL_split (fun x hx=>(hkr x hx).1) hk) hLe
 have hT:∀i,0≤Re.cszL (re.kids.take i)∧Re.cszL (re.kids.take i)≤8000:=fun i=>by
  have h1:=(cszL_range (l:=re.kids.take i) (fun k hk=>hkr k (List.mem_of_mem_take hk))).1
  have h2:=(cszL_range (l:=re.kids.drop i) (fun k hk=>hkr k (List.mem_of_mem_drop hk))).1
  have h3:Re.cszL re.kids=Re.cszL (re.kids.take i) + Re.cszL (re.kids.drop i):=by
   conv=>lhs; rw[← List.take_append_drop i re.kids]
   exact cszL_app _ _
  omega
 have hcr:=csz_range re (every_DC hs)
 have hun:=csz_un (re:=re) (by omega)
 refine fn_ok func47 rfl ntmps47 results47 rfl 0 1610615869 (by simp) (by simp) ?_
 simp only[zX,Nat.reduceShiftRight,Nat.reduceMod,Nat.reduceLT,Nat.reduceMul,Nat.reduceSub,Int.reduceToNat,Int.reduceNeg,Int.reduceLT,Int.reduceLE,Int.reduceEq,Nat.reduceEqDiff,Nat.reduceAdd,Nat.reduceLeDiff,reduceIte,reduceCtorEq,Nat.reduceBEq,i64,bV,iD,bD,Re.cells_eq re,List.length_map]
 refine loop_rule (fun n e s=>∃i:Nat,n=re.kids.length - i∧i≤re.kids.length∧e 0=.d (.el re.cells)∧e 3=i64 (Re.cszL (re.kids.take i))∧e 10=i64 re.kids.length∧e 11=i64 i∧s=[]) ⟨_,_,_,Cln.refl,0,rfl,by omega,by rw[Re.cells_eq re]; rfl,rfl,rfl,rfl,rfl⟩ ?_
 rintro n e s ⟨i,rfl,hi,h0,h3,h10,h11,rfl⟩
 rcases Nat.lt_or_ge i re.kids.length with hlt | hge
 ·obtain⟨k,hk⟩:∃k,re.kids[i]?=some k:=⟨_,List.getElem?_eq_getElem hlt⟩
  have hm:=List.mem_of_getElem? hk
  have hlt':(i:Int) < re.kids.length:=by omega
  have hi0:(0:Int)≤(i:Int):=by omega
  have h5:=hT (i + 1)
  have h6:=hT i
  have hkc:=ih k hm (hs2 k hm) (hl2 k hm) (hck k hm)
  have hsn:Re.cszL (re.kids.take (i + 1))=Re.cszL (re.kids.take i) + k.csz:=by rw[take_get hk,Re.cszL_snoc]
  have w1:IntKind.i64.wrap (Re.cszL (re.kids.take i) + k.csz)=Re.cszL (re.kids.take (i + 1)):=by rw[← hsn]; exact w64 _ (by omega)
  have m1:min (Re.cszL (re.kids.take (i + 1))) 8193=Re.cszL (re.kids.take (i + 1)):=by omega
  simp only[zX,Nat.reduceShiftRight,Nat.reduceMod,Nat.reduceLT,Nat.reduceMul,Nat.reduceSub,Int.reduceToNat,Int.reduceNeg,Int.reduceLT,Int.reduceLE,Int.reduceEq,Nat.reduceEqDiff,Nat.reduceAdd,Nat.reduceLeDiff,reduceIte,reduceCtorEq,Nat.reduceBEq,Re.cells_eq re,iD,bD,h0,h3,h10,h11,i64,hlt',hi0,hlt,Int.toNat_natCast,hk,List.length_map]
  refine call_pure hkc rfl rfl ?_
  simp only[zX,Nat.reduceShiftRight,Nat.reduceMod,Nat.reduceLT,Nat.reduceMul,Nat.reduceSub,Int.reduceToNat,Int.reduceNeg,Int.reduceLT,Int.reduceLE,Int.reduceEq,Nat.reduceEqDiff,Nat.reduceAdd,Nat.reduceLeDiff,reduceIte,reduceCtorEq,Nat.reduceBEq,Re.cells_eq re,iD,bD,h0,h3,h10,h11,i64,w1,m1]
  refine⟨re.kids.length - (i + 1),_,_,by omega,Cln.refl,i + 1,rfl,hlt,?_,?_,?_,?_,rfl⟩ <;> (try simp only[zU,Nat.reduceBEq,Nat.reduceShiftRight,Nat.reduceMod,Nat.reduceEqDiff,reduceIte])
  ·rw[h0,Re.cells_eq re]; rfl
  ·exact h10
  ·rw[w64 _ (by omega)]; rfl
 ·have hie:i=re.kids.length:=by omega
  subst hie
  rw[List.take_length] at h3
  have hz0:0≤Re.cszL re.kids:=by have:=hT re.kids.length; rw[List.take_length] at this; exact this.1
  generalize Re.cszL re.kids=z at *
  have hmn1:0≤re.mn * z∧re.mn * z≤32 * z:=⟨Int.mul_nonneg (by omega) (by omega),Int.mul_le_mul_of_nonneg_right (by omega) (by omega)⟩
  have w64':∀x:Int,-1000000000≤x∧x≤1000000000→IntKind.i64.wrap x=x:=fun x h=>w64 x (by omega)
  have ml:∀x:Int,x=re.csz→min x 8193=re.csz:=fun x h=>by omega
  clear hs hlf hs1 hs2 hl1 hl2 ih hb hcc hkr hck hT h1k hk0
  by_cases o1:re.op=1
  ·rw[if_pos (.inl o1)] at hun
   simp only[zX,Nat.reduceShiftRight,Nat.reduceMod,Nat.reduceLT,Nat.reduceMul,Nat.reduceSub,Int.reduceToNat,Int.reduceNeg,Int.reduceLT,Int.reduceLE,Int.reduceEq,Nat.reduceEqDiff,Nat.reduceAdd,Nat.reduceLeDiff,reduceIte,reduceCtorEq,Nat.reduceBEq,h0,h3,h10,h11,i64,Re.cells_eq re,iD,bD,List.length_map,Int.lt_irrefl,o1,ml 1 hun.symm]
  by_cases o11:re.op=11
  ·rw[if_pos (.inr o11)] at hun
   simp only[zX,Nat.reduceShiftRight,Nat.reduceMod,Nat.reduceLT,Nat.reduceMul,Nat.reduceSub,Int.reduceToNat,Int.reduceNeg,Int.reduceLT,Int.reduceLE,Int.reduceEq,Nat.reduceEqDiff,Nat.reduceAdd,Nat.reduceLeDiff,reduceIte,reduceCtorEq,Nat.reduceBEq,h0,h3,h10,h11,i64,Re.cells_eq re,iD,bD,List.length_map,Int.lt_irrefl,o11,ml 1 hun.symm]
  rw[if_neg (fun h=>h.elim o1 o11)] at hun
  by_cases o3:re.op=3
  ·rw[if_pos o3] at hun
   have w1:=w64' ((re.kids.length:Int) - 1) (by omega)
   have w2:=w64' (2 * ((re.kids.length:Int) - 1)) (by omega)
   have w3:=w64' (z + 2 * ((re.kids.length:Int) - 1)) (by omega)
   have m:=ml (z + 2 * ((re.kids.length:Int) - 1)) (by omega)
   simp only[zX,Nat.reduceShiftRight,Nat.reduceMod,Nat.reduceLT,Nat.reduceMul,Nat.reduceSub,Int.reduceToNat,Int.reduceNeg,Int.reduceLT,Int.reduceLE,Int.reduceEq,Nat.reduceEqDiff,Nat.reduceAdd,Nat.reduceLeDiff,reduceIte,reduceCtorEq,Nat.reduceBEq,h0,h3,h10,h11,i64,Re.cells_eq re,iD,bD,List.length_map,Int.lt_irrefl,o3,w1,w2,w3,m]
  rw[if_neg o3] at hun
  by_cases o5:re.op=5
  ·rw[if_pos o5] at hun
   have w1:=w64' (z + 2) (by omega)
   have m:=ml (z + 2) (by omega)
   simp only[zX,Nat.reduceShiftRight,Nat.reduceMod,Nat.reduceLT,Nat.reduceMul,Nat.reduceSub,Int.reduceToNat,Int.reduceNeg,Int.reduceLT,Int.reduceLE,Int.reduceEq,Nat.reduceEqDiff,Nat.reduceAdd,Nat.reduceLeDiff,reduceIte,reduceCtorEq,Nat.reduceBEq,h0,h3,h10,h11,i64,Re.cells_eq re,iD,bD,List.length_map,Int.lt_irrefl,o5,w1,m]
  rw[if_neg o5] at hun
  by_cases o4:re.op=4
  ·rw[if_pos o4] at hun
   have w1:=w64' (re.mn * z) (by omega)
   by_cases om:re.mx=-1
   ·rw[if_pos om,Int.add_mul] at hun
    have w2:=w64' (z + 2) (by omega)
    have w3:=w64' (re.mn * z + (z + 2)) (by omega)
    have m:=ml (re.mn * z + (z + 2)) (by omega)
    simp only[zX,Nat.reduceShiftRight,Nat.reduceMod,Nat.reduceLT,Nat.reduceMul,Nat.reduceSub,Int.reduceToNat,Int.reduceNeg,Int.reduceLT,Int.reduceLE,Int.reduceEq,Nat.reduceEqDiff,Nat.reduceAdd,Nat.reduceLeDiff,reduceIte,reduceCtorEq,Nat.reduceBEq,h0,h3,h10,h11,i64,Re.cells_eq re,iD,bD,List.length_map,Int.lt_irrefl,o4,om,w1,w2,w3,m]
   ·rw[if_neg om] at hun
    have hmm:=(hmx o4).resolve_left om
    have e1:(re.mx - re.mn) * (z + 1)=re.mx * z - re.mn * z + (re.mx - re.mn):=by rw[Int.mul_add,Int.sub_mul,Int.mul_one]
    have hmx1:0≤re.mx * z∧re.mx * z≤32 * z:=⟨Int.mul_nonneg (by omega) (by omega),Int.mul_le_mul_of_nonneg_right (by omega) (by omega)⟩
    have w2:=w64' (z + 1) (by omega)
    have w3:=w64' (re.mx - re.mn) (by omega)
    have w4:=w64' ((re.mx - re.mn) * (z + 1)) (by omega)
    have w5:=w64' (re.mn * z + (re.mx - re.mn) * (z + 1)) (by omega)
    have m:=ml (re.mn * z + (re.mx - re.mn) * (z + 1)) (by omega)
    simp only[zX,Nat.reduceShiftRight,Nat.reduceMod,Nat.reduceLT,Nat.reduceMul,Nat.reduceSub,Int.reduceToNat,Int.reduceNeg,Int.reduceLT,Int.reduceLE,Int.reduceEq,Nat.reduceEqDiff,Nat.reduceAdd,Nat.reduceLeDiff,reduceIte,reduceCtorEq,Nat.reduceBEq,h0,h3,h10,h11,i64,Re.cells_eq re,iD,bD,List.length_map,Int.lt_irrefl,o4,om,w1]
    refine draw_c mix [] [] (by rfl) ?_
    simp only[zX,Nat.reduceShiftRight,Nat.reduceMod,Nat.reduceLT,Nat.reduceMul,Nat.reduceSub,Int.reduceToNat,Int.reduceNeg,Int.reduceLT,Int.reduceLE,Int.reduceEq,Nat.reduceEqDiff,Nat.reduceAdd,Nat.reduceLeDiff,reduceIte,reduceCtorEq,Nat.reduceBEq,h0,h3,h10,h11,i64,Re.cells_eq re,iD,bD,List.length_map,Int.lt_irrefl,o4,om,w1,w2,w3,w4,w5,m]
  rw[if_neg o4] at hun
  have m:=ml z hun.symm
  simp only[zX,Nat.reduceShiftRight,Nat.reduceMod,Nat.reduceLT,Nat.reduceMul,Nat.reduceSub,Int.reduceToNat,Int.reduceNeg,Int.reduceLT,Int.reduceLE,Int.reduceEq,Nat.reduceEqDiff,Nat.reduceAdd,Nat.reduceLeDiff,reduceIte,reduceCtorEq,Nat.reduceBEq,h0,h3,h10,h11,i64,Re.cells_eq re,iD,bD,List.length_map,Int.lt_irrefl,o1,o11,o3,o5,o4,m]
theorem compP_pure (re:Re) (hv:re.every valB=true) (hf:re.fine=true) (hsz:re.size≤1000):PureOK prog 46 [.d (.el re.cells),.fu []] (bV (re.comp [])):=by
 have h:=compilable_ok re hv hf [] [] 0 (List.prefix_refl _) (by simp; omega)
 refine⟨h.1,fun σ w vals hI hl hv=>?_⟩
 have hp:=push_obj (p:=none) (o':=⟨0,true,1,[]⟩) (w':=w) hI rfl rfl rfl (Nat.le_refl _) (fun _ _=>rfl) (fun _ _ h'=>by cases h') (fun _=>.inl (.inl ⟨rfl,rfl⟩))
 refine(h.2 _ w vals hp.2 hl (fun i x hx=>?_)).mono fun e w' ⟨u,v,σ',s',h1,h2,h3,h4,h5,E',h6,h7⟩=>?_
 ·match i with
  | 0 =>
   simp only[List.getElem?_cons_zero,Option.some.injEq] at hx
   subst hx
   exact(hv 0 _ rfl).evolve hp.1
  | 1 =>
   simp only[List.getElem?_cons_succ,List.getElem?_cons_zero,Option.some.injEq] at hx
   subst hx
   have hu:=(hv 1 (.fu []) rfl).evolve hp.1
   generalize vals.getD 1 undef=u at hu
   cases hu with | fu hx=>?_
   exact .so ⟨0,true,1,[]⟩ (by simp [insO]) (Nat.le_refl _) rfl (fun _=>.inl ⟨updG_same _ _ _,⟨_,rfl⟩,rfl,rfl⟩)
  | i + 2=>simp at hx
 ·subst h5 h6
  have:=frzV_spec h3 (lim:=0) h4 (y:=bV (re.comp [])) rfl
  exact⟨u,_,σ',[],h1,(hp.1.trans h2).take (lim:=0) (Nat.le_refl _),h3.take (lim:=0) (by rfl),this,rfl,rfl⟩
theorem call_lendN {P:Program} {f:FuncId} {x y:V} {c:Value} {s:List VL.Obj} {K:V→List VL.Obj→Prop} (ids:List Nat) (h:PureOK P f [y,.fu []] (.d (.sc c)))
  (hc:frzV (killO s ids).length (killO s ids) x=some y) (hy:refsV 0 y=true) (hk:K (.d (.sc c)) s):callWp P f [x,.fu []] s K:=by
 refine⟨h.1,fun σ w vals hI hl hv=>?_⟩
 obtain⟨hE0,hI0⟩:=killO_ok ids s hI
 have e1:∀b,Own ⟨fun _=>none,Own σ (killO s ids)⟩ [] b→Own σ (killO s ids) b:=by
  rintro b (h | ⟨id,o,base,h1,_⟩)
  ·exact h
  ·simp at h1
 refine(h.2 ⟨fun _=>none,Own σ (killO s ids)⟩ w vals ⟨fun id o ho=>by simp at ho,fun id _ o _ _ _ _ ho=>by simp at ho,fun b hb=>own_lt hI0 hb,fun id o _ _ ho=>by simp at ho⟩ hl
  (fun i x' hx=>by
   match i with
   | 0 =>
    simp only[List.getElem?_cons_zero,Option.some.injEq] at hx
    subst hx
    have:=frzV_spec hI0 ((hv 0 x rfl).evolve hE0) hc
    rw[List.take_length] at this
    exact this.move hy e1
   | 1 =>
    simp only[List.getElem?_cons_succ,List.getElem?_cons_zero,Option.some.injEq] at hx
    subst hx
    exact((hv 1 (.fu []) rfl).evolve hE0).move (by rfl) e1
   | i + 2=>simp at hx)).mono fun e w' ⟨u,v,σ',s',he,hE,hI',hR,hv',hs'⟩=>?_
 subst hv'; subst hs'
 have same:=same_obj (w':=w') hI hE.os hE.tape hE.output hE.size fun b hb=>by
  by_cases ho:Own σ (killO s ids) b
  ·exact hE.foreign b hb ho
  ·exact hE.keep b hb fun h'=>ho (e1 b h')
 exact⟨u,_,σ,s,he,same.1,same.2,hR.scal,hk⟩
theorem prgCompile_ok (p:Pat) (hv:validR p=0) (hc:p.re.comp []=true) (hz:p.re.csz≤8000):PureOK prog 26 [patV p] (.tu [prgV (compR p),i64 0]):=by
 obtain⟨v1,v2,v3,v4,v5⟩:=validR_spec hv
 have hC:=kshC_of v4 p.re v5 (by omega)
 have hD:=kshD_of v4 p.re v5 (by omega) [] hc
 have hf:p.re.fine=true:=by
  have:∀re:Re,re.every kshC=true→re.fine=true:=fun re=>Re.ind (Q:=fun re=>re.every kshC=true→re.fine=true) (fun re ih h=>by
   obtain⟨h1,h2⟩:=(Re.every_iff re).1 h
   obtain⟨q1,q2,q3,q4,_⟩:=kshB_iff.1 (kshC_iff.1 h1).1
   exact(Re.fine_iff re).2 ⟨by omega,by omega,fun k hk=>ih k hk (h2 k hk)⟩) re
  exact this p.re hC
 have h1:=valid_ok p hf
 rw[hv] at h1
 have h2:=call_weak (ex:=[iD p.caps,bD p.runes]) (compP_pure p.re (val_whole v5) hf (by omega))
 have h3:=call_weak (ex:=[iD p.caps,bD p.runes]) (lenOf_ok p.re hD (leaf_of p.re v5) hz)
 have h4:=call_weak (ex:=[iD p.caps,bD p.runes]) (codeOf_ok p.re hD (by omega) (by omega))
 have hcr:=csz_range p.re hC
 have hln:=code_len p.re hD (by omega) 0
 have w1:IntKind.i64.wrap (p.re.csz + 1)=p.re.csz + 1:=w64 _ (by omega)
 have c1:¬8192 < p.re.csz + 1:=by omega
 rw[hc] at h2
 unfold compR prgV
 cases p with
 | mk re caps runes =>
 simp only at *
 generalize re.code 0=L at *
 have h2:PureOK prog 46 _ _:=h2
 have h3:PureOK prog 47 _ _:=h3
 have h4:OwnSl prog 48 _ 5 (L.map Ins.cells):=h4
 simp only[patC,Re.cells_eq re,List.map_cons,List.map_nil,List.cons_append,List.nil_append,reV_eq re,i64,iD,bD,bV] at h1 h2 h3 h4
 refine fn_ok func26 rfl ntmps26 results26 rfl 0 31 (by simp) (by simp) ?_
 simp only[zX,Nat.reduceShiftRight,Nat.reduceMod,Nat.reduceLT,Nat.reduceMul,Nat.reduceSub,Int.reduceToNat,Int.reduceNeg,Int.reduceLT,Int.reduceLE,Int.reduceEq,Nat.reduceEqDiff,Nat.reduceAdd,Nat.reduceLeDiff,reduceIte,reduceCtorEq,Nat.reduceBEq,i64,patV,Re.cells_eq,bV,iD,bD]
 refine call_pure h1 rfl rfl ?_
 simp only[zX,Nat.reduceShiftRight,Nat.reduceMod,Nat.reduceLT,Nat.reduceMul,Nat.reduceSub,Int.reduceToNat,Int.reduceNeg,Int.reduceLT,Int.reduceLE,Int.reduceEq,Nat.reduceEqDiff,Nat.reduceAdd,Nat.reduceLeDiff,reduceIte,reduceCtorEq,Nat.reduceBEq,i64,patV,Re.cells_eq,bV,iD,bD,ne_eq,not_true_eq_false]
 refine call_lendN [0] h2 (by rfl) rfl ?_
 simp only[zX,Nat.reduceShiftRight,Nat.reduceMod,Nat.reduceLT,Nat.reduceMul,Nat.reduceSub,Int.reduceToNat,Int.reduceNeg,Int.reduceLT,Int.reduceLE,Int.reduceEq,Nat.reduceEqDiff,Nat.reduceAdd,Nat.reduceLeDiff,reduceIte,reduceCtorEq,Nat.reduceBEq,i64,patV,Re.cells_eq,bV,iD,bD,Bool.not_true,Bool.false_eq_true]
 refine call_lend [0] h3 (by rfl) rfl ?_
 simp only[zX,Nat.reduceShiftRight,Nat.reduceMod,Nat.reduceLT,Nat.reduceMul,Nat.reduceSub,Int.reduceToNat,Int.reduceNeg,Int.reduceLT,Int.reduceLE,Int.reduceEq,Nat.reduceEqDiff,Nat.reduceAdd,Nat.reduceLeDiff,reduceIte,reduceCtorEq,Nat.reduceBEq,i64,patV,Re.cells_eq,bV,iD,bD,w1,c1,gt_iff_lt]
 refine draw_first (Cln0.frz2 [0] 1 (by rfl)) ?_
 refine draw_first Cln0.reserve ?_
 refine draw_c mix [] [(1,[2],[2]),(4,[2],[2]),(10,[1],[1])] (by rfl) ?_
 simp only[zX,Nat.reduceShiftRight,Nat.reduceMod,Nat.reduceLT,Nat.reduceMul,Nat.reduceSub,Int.reduceToNat,Int.reduceNeg,Int.reduceLT,Int.reduceLE,Int.reduceEq,Nat.reduceEqDiff,Nat.reduceAdd,Nat.reduceLeDiff,reduceIte,reduceCtorEq,Nat.reduceBEq,killO,kill1,List.getElem?_cons_zero,List.set_cons_zero,List.reverse_cons,List.reverse_nil,i64,patV,Re.cells_eq,bV,iD,bD,List.cons_append,List.nil_append,List.append_nil]
 refine⟨_,[_],rfl,fun s' hs1 hs2=>OwnSl.hole (k:=2) (ob:=hole) h4 rfl rfl (by rw[hs2 2 (by simp)]; rfl) ⟨rfl,rfl⟩,?_⟩
 simp only[zX,Nat.reduceShiftRight,Nat.reduceMod,Nat.reduceLT,Nat.reduceMul,Nat.reduceSub,Int.reduceToNat,Int.reduceNeg,Int.reduceLT,Int.reduceLE,Int.reduceEq,Nat.reduceEqDiff,Nat.reduceAdd,Nat.reduceLeDiff,reduceIte,reduceCtorEq,Nat.reduceBEq,i64,patV,Re.cells_eq,bV,iD,bD,putObjs,hole]
 refine⟨rfl,fun e he=>by rw[List.mem_singleton.1 he]; rfl,⟨by omega,by omega⟩,?_⟩
 have hk:(List.map (fun c=>List.map V.d c) (List.map Ins.cells L))++[[V.d (D.sc (Value.int IntKind.i64 0)),V.d (D.sc (Value.int IntKind.i64 0)),V.d (D.sc (Value.int IntKind.i64 0)),V.d (D.sc (Value.int IntKind.i64 0)),V.d (D.sl [])]]=List.map (fun c=>List.map V.d c) (List.map Ins.cells (L++[doneI])):=by simp [Ins.cells,doneI,iD]
 rw[ins_take _ _ (Nat.le_refl _),hk,frz_data 7 0 _ _ _ (by simp),if_pos (by simp)]
 simp [Prg.cells,Ins.cells,doneI,iD,bD]
end Go.Proofs.Ytdofoappodmcoaa
