/- A part of the proof (K100 K101). -/
import Derived.Test.YtdofoappodmcoaaKP54
import Derived.Test.YtdofoappodmcoaaKP39
import Derived.Test.YtdofoappodmcoaaKP48
import Derived.Test.YtdofoappodmcoaaKP53
set_option linter.unusedSimpArgs false
set_option linter.unusedVariables false
set_option maxRecDepth 100000
set_option maxHeartbeats 80000000
namespace Go.Proofs.Ytdofoappodmcoaa
open Go.VL Go.Proofs.Try
theorem Way.take {g:Prg} {t:List Int} {pc a:Int} {regs:List Int} {n:Nat} {r:Option (Int × List Int)} (w:Way g t pc a regs n r) (m:Nat):Way g t pc a (regs.take m) n (r.map fun x=>(x.1,x.2.take m)):=by
 induction w with
 | done h=>exact .done h
 | symN h hc=>exact .symN h hc
 | sym h h1 h2 w ih=>exact .sym h h1 h2 ih
 | spl h w ih=>exact .spl h ih
 | spr h w w2 ih ih2=>exact .spr h ih ih2
 | jmp h w ih=>exact .jmp h ih
 | sav h w ih=>exact .sav h (by rw[← List.take_set]; exact ih)
 | ass h hc w ih=>exact .ass h hc ih
 | assN h hc=>exact .assN h hc
theorem capsOf_take (c:Nat) (R:List Int):capsOf c (R.take (2 * c))=capsOf c R:=by
 unfold capsOf
 refine List.map_congr_left fun j hj=>?_
 have hj:=List.mem_range.1 hj
 have h:∀i,i < 2 * c→(R.take (2 * c)).getD i 0=R.getD i 0:=fun i hi=>by
  simp only[List.getD_eq_getElem?_getD,List.getElem?_take_of_lt hi]
 unfold pairAt
 rw[h _ (by omega),h _ (by omega)]
theorem paths_tie {p:Pat} {t:List Int} (hP:PlainR p t) (hc:p.re.comp []=true) (i:Int) (h0:0≤i) (h1:i≤t.length):∃r:Option (Int × List Int),
  PureOK prog 28 [prgV (compR p),.d (intsD t),i64 i,i64 1,i64 1048576] (.tu [.d (.sl (onePathD (compR p) i r)),i64 0]) ∧
  run0 (compR p) t i=r.map fun x=>⟨i,x.1,capsOf (compR p).caps.toNat x.2⟩:=by
 obtain⟨n,r,w,hn⟩:=way_ex hP hc i h0 h1 (List.replicate 18 (-1))
 have hg:=compR_good hP hc
 have hcsz:=hP.csz
 have hvalid:=compR_valid p hP.valid hc (by omega)
 have htl:=hP.len
 have hgl:=hg.len1
 have hl0:=hg.len0
 obtain⟨v1,v2,v3,v4,v5⟩:=validR_spec hP.valid
 have hcaps:(compR p).caps=p.caps:=rfl
 refine⟨r,paths_ok (compR p) hg (by omega) (fun x hx=>by have:=hg.sets x hx; omega) hvalid t (by omega) i h0 h1 n hn r ?_,?_⟩
 ·have hok:Wy.ok (compR p) t ⟨0,i,0,List.replicate 18 (-1)⟩ n r:=⟨w,Int.le_refl _,by show (0:Int) < _; omega,[],rfl,Met.nil _ _ _ _⟩
  cases r with
  | none=>exact .miss (m:=0) hok .nil
  | some r=>exact .hit hok
 ·have w2:=w.take (2 * p.caps.toNat)
  rw[List.take_replicate,Nat.min_eq_left (by omega)] at w2
  have:=run0_out hg h0 h1 (r:=r.map fun x=>(x.1,x.2.take (2 * p.caps.toNat))) (n:=n) (by rw[hcaps,show (2 * p.caps).toNat=2 * p.caps.toNat by omega]; exact w2)
  rw[this]
  cases r with
  | none=>rfl
  | some x=>simp only[outM,Option.map_some,hcaps,capsOf_take]
theorem chkz_zero {g:Prg} {t:List Int} {a:Int} (h:prgE g=0) (ht:t.length≤65536) (h0:0≤a) (h1:a≤t.length):chkE g t a=0:=by
 unfold chkE
 rw[if_neg (by simp [h]),if_neg (by omega),if_neg (by omega)]
def ppO (re:Re) (caps:Int) (runes:Bool):VL.Obj:=⟨0,true,10,[[i64 re.op,.d (.sl (re.set.map spanC)),.d (.sl (re.kids.map Re.cells)),i64 re.mn,i64 re.mx,i64 re.mode,i64 re.n,bV re.neg,i64 caps,bV runes]]⟩
theorem pikePrefersL_ok (l:List Int) (hl:∀x∈l,I64 x) (m:List Int) (hm:∀x∈m,I64 x) :
  PureOK prog 7 [.d (intsD l),.d (intsD m)] (bV true):=by
 obtain⟨p,t,hplain,hP,hcomp⟩:=plain_ok l m hl hm true
 have hcsz:=hP.csz
 have hvalid:=compR_valid p hP.valid hcomp (by omega)
 have hcmp:=prgCompile_ok p hP.valid hcomp (by omega)
 have hgood:=compR_good hP hcomp
 have htl:=hP.len
 have hlv:=lives11_ok
 have hgl:=hgood.len1
 have hgset:∀x∈(compR p).ins,x.set.length≤1000000000:=fun x hx=>by have:=hgood.sets x hx; omega
 have htie:=fun (i:Nat) (hi:i≤t.length)=>paths_tie hP hcomp i (by omega) (by omega)
 have hrun:=fun (i:Nat) (hi:i≤t.length)=>by
  have:=pikeRun_ok (compR p) (by omega) hgset t (by omega) i
  rw[runE,if_pos (chkz_zero hvalid (by omega) (by omega) (by omega))] at this
  exact this
 have hc9:=hgood.caps1
 generalize compR p=g at *
 clear hgset hgood hcomp hvalid hP
 cases p with
 | mk re caps runes =>
 simp only[patV,Re.cells_eq re,List.map_cons,List.map_nil,List.cons_append,List.nil_append,prgV_eq,i64,iD,bD,bV] at hplain hcmp hlv
 refine fn_ok func7 rfl ntmps7 results7 rfl 0 32755 (by simp) (by simp) ?_
 simp only[zX,Nat.reduceShiftRight,Nat.reduceMod,Nat.reduceLT,Nat.reduceMul,Nat.reduceSub,Int.reduceToNat,Int.reduceNeg,Int.reduceLT,Int.reduceLE,Int.reduceEq,Nat.reduceEqDiff,Nat.reduceAdd,Nat.reduceLeDiff,reduceIte,reduceCtorEq,Nat.reduceBEq,i64,bV,iD,bD]
 refine call_pure hplain rfl rfl ?_
 simp only[zX,Nat.reduceShiftRight,Nat.reduceMod,Nat.reduceLT,Nat.reduceMul,Nat.reduceSub,Int.reduceToNat,Int.reduceNeg,Int.reduceLT,Int.reduceLE,Int.reduceEq,Nat.reduceEqDiff,Nat.reduceAdd,Nat.reduceLeDiff,reduceIte,reduceCtorEq,Nat.reduceBEq,i64,bV,iD,bD]
 refine call_pure hcmp rfl rfl ?_
 simp only[zX,Nat.reduceShiftRight,Nat.reduceMod,Nat.reduceLT,Nat.reduceMul,Nat.reduceSub,Int.reduceToNat,Int.reduceNeg,Int.reduceLT,Int.reduceLE,Int.reduceEq,Nat.reduceEqDiff,Nat.reduceAdd,Nat.reduceLeDiff,reduceIte,reduceCtorEq,Nat.reduceBEq,i64,bV,iD,bD,ne_eq,not_true_eq_false,intsD,List.length_map]
 refine loop_rule (fun n e s=>∃i:Nat,n=t.length + 1 - i∧i≤t.length + 1∧e 5=.rf 0 0 0 0∧e 6=.d (intsD t)∧e 7=.rf 1 0 0 0∧e 9=i64 i∧s=[ppO re caps runes,prgO g])
  ⟨_,_,_,Cln.refl,0,rfl,by omega,rfl,rfl,rfl,rfl,rfl⟩ ?_
 rintro n e s ⟨i,rfl,hi,h5,h6,h7,h9,rfl⟩
 by_cases hle:i≤t.length
 case neg =>
  have hle':¬((i:Int)≤t.length):=by omega
  simp only[zX,Nat.reduceShiftRight,Nat.reduceMod,Nat.reduceLT,Nat.reduceMul,Nat.reduceSub,Int.reduceToNat,Int.reduceNeg,Int.reduceLT,Int.reduceLE,Int.reduceEq,Nat.reduceEqDiff,Nat.reduceAdd,Nat.reduceLeDiff,reduceIte,reduceCtorEq,Nat.reduceBEq,i64,bV,iD,bD,prgO,h5,h6,h7,h9,hle',intsD,List.length_map]
  refine call_pure hlv rfl rfl ?_
  simp only[zX,Nat.reduceShiftRight,Nat.reduceMod,Nat.reduceLT,Nat.reduceMul,Nat.reduceSub,Int.reduceToNat,Int.reduceNeg,Int.reduceLT,Int.reduceLE,Int.reduceEq,Nat.reduceEqDiff,Nat.reduceAdd,Nat.reduceLeDiff,reduceIte,reduceCtorEq,Nat.reduceBEq,i64,bV,iD,bD,prgO,h5,h6,h7,h9,hle',intsD,List.length_map]
 have hle':(i:Int)≤t.length:=by omega
 have hr:=hrun i hle
 obtain⟨r,hp,htr⟩:=htie i hle
 rw[htr] at hr
 have z3:¬((0:Int) < ((0:Nat):Int)):=by decide
 have z4:(0:Int) < ((1:Nat):Int):=by decide
 cases r with
 | none =>
  simp only[onePathD,optM,Option.map_none,Option.getD_none,Option.isSome_none,Mat.v,capD,List.map_nil,prgV_eq,i64,bV,iD,bD,intsD] at hr hp
  simp only[zX,Nat.reduceShiftRight,Nat.reduceMod,Nat.reduceLT,Nat.reduceMul,Nat.reduceSub,Int.reduceToNat,Int.reduceNeg,Int.reduceLT,Int.reduceLE,Int.reduceEq,Nat.reduceEqDiff,Nat.reduceAdd,Nat.reduceLeDiff,reduceIte,reduceCtorEq,Nat.reduceBEq,i64,bV,iD,bD,prgO,h5,h6,h7,h9,hle',intsD,List.length_map]
  refine call_pure hr rfl rfl ?_
  simp only[zX,Nat.reduceShiftRight,Nat.reduceMod,Nat.reduceLT,Nat.reduceMul,Nat.reduceSub,Int.reduceToNat,Int.reduceNeg,Int.reduceLT,Int.reduceLE,Int.reduceEq,Nat.reduceEqDiff,Nat.reduceAdd,Nat.reduceLeDiff,reduceIte,reduceCtorEq,Nat.reduceBEq,i64,bV,iD,bD,prgO,h5,h6,h7,h9,hle',intsD,List.length_map]
  refine call_pure hp rfl rfl ?_
  simp only[zX,Nat.reduceShiftRight,Nat.reduceMod,Nat.reduceLT,Nat.reduceMul,Nat.reduceSub,Int.reduceToNat,Int.reduceNeg,Int.reduceLT,Int.reduceLE,Int.reduceEq,Nat.reduceEqDiff,Nat.reduceAdd,Nat.reduceLeDiff,reduceIte,reduceCtorEq,Nat.reduceBEq,i64,bV,iD,bD,prgO,h5,h6,h7,h9,hle',intsD,List.length_map]
  refine draw_c mix [] [] (by rfl) ?_
  simp only[zX,Nat.reduceShiftRight,Nat.reduceMod,Nat.reduceLT,Nat.reduceMul,Nat.reduceSub,Int.reduceToNat,Int.reduceNeg,Int.reduceLT,Int.reduceLE,Int.reduceEq,Nat.reduceEqDiff,Nat.reduceAdd,Nat.reduceLeDiff,reduceIte,reduceCtorEq,Nat.reduceBEq,i64,bV,iD,bD,prgO,h5,h6,h7,h9,hle',z3,z4,gt_iff_lt,beq_self_eq_true,Bool.not_true,Bool.not_false,decide_false,decide_true,Bool.false_eq_true,intsD,List.length_map]
  refine⟨t.length + 1 - (i + 1),_,_,by omega,Cln.cut (s':=[ppO re caps runes,prgO g]) 2 (by omega) rfl rfl [5,6,7,9] (by simp [updE,trimE_app,refsV,h5,h6,h7,h9,i64]),i + 1,rfl,by omega,?_,?_,?_,?_,rfl⟩ <;> (try simp only[zU,Nat.reduceBEq,Nat.reduceShiftRight,Nat.reduceMod,Nat.reduceEqDiff,reduceIte])
  ·exact h5
  ·exact h6
  ·exact h7
  ·rw[w64 _ (by omega)]; rfl
 | some x =>
  have heq:=equal_ok ⟨i,x.1,capsOf g.caps.toNat x.2⟩ ⟨i,x.1,capsOf g.caps.toNat x.2⟩ (by show (capsOf _ _).length≤_; simp [capsOf]; omega)
  simp only[decide_true] at heq
  simp only[onePathD,optM,Option.map_some,Option.getD_some,Option.isSome_some,Mat.v,prgV_eq,i64,bV,iD,bD,intsD] at hr hp heq
  simp only[zX,Nat.reduceShiftRight,Nat.reduceMod,Nat.reduceLT,Nat.reduceMul,Nat.reduceSub,Int.reduceToNat,Int.reduceNeg,Int.reduceLT,Int.reduceLE,Int.reduceEq,Nat.reduceEqDiff,Nat.reduceAdd,Nat.reduceLeDiff,reduceIte,reduceCtorEq,Nat.reduceBEq,i64,bV,iD,bD,prgO,h5,h6,h7,h9,hle',intsD,List.length_map]
  refine call_pure hr rfl rfl ?_
  simp only[zX,Nat.reduceShiftRight,Nat.reduceMod,Nat.reduceLT,Nat.reduceMul,Nat.reduceSub,Int.reduceToNat,Int.reduceNeg,Int.reduceLT,Int.reduceLE,Int.reduceEq,Nat.reduceEqDiff,Nat.reduceAdd,Nat.reduceLeDiff,reduceIte,reduceCtorEq,Nat.reduceBEq,i64,bV,iD,bD,prgO,h5,h6,h7,h9,hle',intsD,List.length_map]
  refine call_pure hp rfl rfl ?_
  simp only[zX,Nat.reduceShiftRight,Nat.reduceMod,Nat.reduceLT,Nat.reduceMul,Nat.reduceSub,Int.reduceToNat,Int.reduceNeg,Int.reduceLT,Int.reduceLE,Int.reduceEq,Nat.reduceEqDiff,Nat.reduceAdd,Nat.reduceLeDiff,reduceIte,reduceCtorEq,Nat.reduceBEq,i64,bV,iD,bD,prgO,h5,h6,h7,h9,hle',intsD,List.length_map]
  refine draw_c mix [] [] (by rfl) ?_
  simp only[zX,Nat.reduceShiftRight,Nat.reduceMod,Nat.reduceLT,Nat.reduceMul,Nat.reduceSub,Int.reduceToNat,Int.reduceNeg,Int.reduceLT,Int.reduceLE,Int.reduceEq,Nat.reduceEqDiff,Nat.reduceAdd,Nat.reduceLeDiff,reduceIte,reduceCtorEq,Nat.reduceBEq,i64,bV,iD,bD,prgO,h5,h6,h7,h9,hle',z3,z4,gt_iff_lt,beq_self_eq_true,Bool.not_true,Bool.not_false,decide_false,decide_true,Bool.false_eq_true,intsD,List.length_map]
  refine callC_pure heq rfl rfl ?_
  simp only[zX,Nat.reduceShiftRight,Nat.reduceMod,Nat.reduceLT,Nat.reduceMul,Nat.reduceSub,Int.reduceToNat,Int.reduceNeg,Int.reduceLT,Int.reduceLE,Int.reduceEq,Nat.reduceEqDiff,Nat.reduceAdd,Nat.reduceLeDiff,reduceIte,reduceCtorEq,Nat.reduceBEq,i64,bV,iD,bD,prgO,h5,h6,h7,h9,hle',z3,z4,gt_iff_lt,beq_self_eq_true,Bool.not_true,Bool.not_false,decide_false,decide_true,Bool.false_eq_true,intsD,List.length_map]
  refine⟨t.length + 1 - (i + 1),_,_,by omega,Cln.cut (s':=[ppO re caps runes,prgO g]) 2 (by omega) rfl rfl [5,6,7,9] (by simp [updE,trimE_app,refsV,h5,h6,h7,h9,i64]),i + 1,rfl,by omega,?_,?_,?_,?_,rfl⟩ <;> (try simp only[zU,Nat.reduceBEq,Nat.reduceShiftRight,Nat.reduceMod,Nat.reduceEqDiff,reduceIte])
  ·exact h5
  ·exact h6
  ·exact h7
  ·rw[w64 _ (by omega)]; rfl
end Go.Proofs.Ytdofoappodmcoaa
