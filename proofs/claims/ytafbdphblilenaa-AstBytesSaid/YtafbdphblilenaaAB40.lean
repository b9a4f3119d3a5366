/- A part of the proof (F102). -/
import Derived.Test.YtafbdphblilenaaAB39
set_option linter.unusedSimpArgs false
set_option linter.unusedVariables false
set_option maxRecDepth 100000
set_option maxHeartbeats 80000000
set_option linter.unusedSimpArgs false
set_option linter.unusedVariables false
namespace Go.Proofs.Ytafbdphblilenaa
open Go.VL Go.Proofs.Try
def hdG (g:Nat) (re:Re) (i:Nat):VL.Obj:=⟨g,true,1,((headP re (re.set.take i)).map fun x=>[iD x]).map fun c=>c.map V.d⟩
theorem bytes_exit1 {g n m:Nat} {b0:VL.Obj} {bs:List Nat} (hn:n=bs.length) (hm:m=bs.length):ownWp 0 [b0,arG g bs] (.so 1 g 0 n) fun v s1=>∃g,v=.so 0 g 0 m∧s1=[⟨g,true,1,bs.map u8V⟩]:=by
 have h:=own_exit (s:=[b0,arG g bs]) (id:=1) (g:=g) (n:=n) (m:=m) (sz:=1) (els:=bs.map u8V) (l:=bytesL bs) rfl (by unfold bytesL; rw[bytes_up]) (by omega)
 simp only[bytesL,bytes_up] at h
 exact h
def NodeOwn (re:Re):Prop:=re.enc.length≤1000000000→OwnSl prog 97 [reV re] 1 (bytesL re.enc)
theorem node_own (c:Nat) (hc:c≤400000000) (re:Re) (hs:re.every (smallB c)=true):NodeOwn re:=by
 revert hs
 refine Re.ind (Q:=fun re=>re.every (smallB c)=true→NodeOwn re) (fun re ih hs hb=>?_) re
 obtain⟨s1,s2⟩:=(Re.every_iff re).1 hs
 obtain⟨⟨hset,hkids,_⟩,_⟩:=smallB_iff.1 s1
 have hhl:=headI_len re
 rw[Re.enc_eq] at hb ⊢
 simp only[List.length_append] at hb
 have k1:=refInts_own (headI re) (headI_in s1) (by omega) (by omega)
 have k2:=(refInts_own (tailI re) (tailI_in s1) (by simp [tailI]) (by omega)).pure
 have k3:=(refInt_own re.kids.length (by unfold I64; omega)).pure
 have hkid:∀k∈re.kids,k.enc.length≤1000000000→PureOK prog 97 [reV k] (.d (.sl (bytesL k.enc))):=fun k hk hl=>(ih k hk (s2 k hk) hl).pure
 obtain⟨B1,hB1⟩:∃B,intsB (headI re)=B:=⟨_,rfl⟩
 obtain⟨B2,hB2⟩:∃B,intsB (tailI re)=B:=⟨_,rfl⟩
 obtain⟨B3,hB3⟩:∃B,uv (zz (re.kids.length:Int))=B:=⟨_,rfl⟩
 have htl:tailI re=[re.mn,re.mx,re.mode,re.n,digI re.neg]:=rfl
 rw[htl] at k2 hB2
 rw[hB1] at hb k1 ⊢
 have hB2':intsB (tailI re)=B2:=hB2
 rw[hB2'] at hb ⊢
 rw[hB2] at k2
 rw[hB3] at hb k3 ⊢
 simp only[i64] at k3
 unfold OwnSl
 have hl0:(0:Int)=((0:Nat):Int):=rfl
 refine fn_own func97 rfl ntmps97 results97 rfl 0 255 (by simp) (by simp) ?_
 simp only[zX,Nat.reduceShiftRight,Nat.reduceMod,Nat.reduceLT,Nat.reduceMul,Nat.reduceSub,Int.reduceToNat,Int.reduceNeg,Int.reduceLT,Int.reduceLE,Int.reduceEq,Nat.reduceEqDiff,Nat.reduceAdd,Nat.reduceLeDiff,reduceIte,reduceCtorEq,Nat.reduceBEq,i64,reV_eq,iD,bD]
 refine loop_rule (fun n e s=>∃i:Nat,n=re.set.length - i∧i≤re.set.length∧e 1=.rf 0 0 0 0∧e 4=i64 i ∧
   ((i=0∧e 3=.fu [[iD re.op]]∧s=[boxR re,hole])∨∃g,e 3=.so 2 g 0 (1 + 2 * i)∧s=[boxR re,hole,hdG g re i]))
  ⟨_,_,_,.of0 .reserve,0,rfl,by omega,rfl,rfl,.inl ⟨rfl,rfl,?_⟩⟩ ?_
 ·simp only[boxR,Re.cells_eq re,iD,bD,List.map_cons,List.map_nil]
  rfl
 rintro n e s ⟨i,rfl,hi,h1,h4,hacc⟩
 simp only[i64,iD] at h4 hacc
 have hpl:=headP_len re (re.set.take i)
 rw[List.length_take_of_le hi] at hpl
 rcases Nat.lt_or_ge i re.set.length with hlt | hge
 ·obtain⟨x,hx⟩:∃x,re.set[i]?=some x:=⟨_,List.getElem?_eq_getElem hlt⟩
  have hlt':(i:Int) < (re.set.length:Int):=by omega
  have wi:IntKind.i64.wrap ((i:Int) + 1)=((i + 1:Nat):Int):=by rw[w64 _ (by omega)]; omega
  rcases hacc with ⟨hi0,h3,rfl⟩ | ⟨g,h3,rfl⟩
  ·simp only[zX,Nat.reduceShiftRight,Nat.reduceMod,Nat.reduceLT,Nat.reduceMul,Nat.reduceSub,Int.reduceToNat,Int.reduceNeg,Int.reduceLT,Int.reduceLE,Int.reduceEq,Nat.reduceEqDiff,Nat.reduceAdd,Nat.reduceLeDiff,reduceIte,reduceCtorEq,Nat.reduceBEq,i64,iD,bD,spanC,boxR,Re.cells_eq re,List.map_cons,List.map_nil,h1,h3,h4,hlt',hx,List.length_map]
   refine draw_c mix [14] [] (by rfl) ?_
   simp only[zX,Nat.reduceShiftRight,Nat.reduceMod,Nat.reduceLT,Nat.reduceMul,Nat.reduceSub,Int.reduceToNat,Int.reduceNeg,Int.reduceLT,Int.reduceLE,Int.reduceEq,Nat.reduceEqDiff,Nat.reduceAdd,Nat.reduceLeDiff,reduceIte,reduceCtorEq,Nat.reduceBEq,i64,iD,bD,spanC,hole,List.map_cons,List.map_nil,h1,h3,h4,hlt',hx,List.length_map,wi,List.getElem?_map,Option.map_some]
   refine⟨by simp,by simp,re.set.length - (i + 1),_,_,by omega,Cln.refl,i + 1,rfl,by omega,?_,?_,.inr ⟨0,?_,?_⟩⟩ <;> (try simp only[zU,Nat.reduceBEq,Nat.reduceShiftRight,Nat.reduceMod,Nat.reduceEqDiff,reduceIte])
   ·exact h1
   ·rw[hi0]
   ·subst hi0
    have t1:re.set.take 1=[x]:=by rw[show (1:Nat)=0 + 1 from rfl,take_get hx]; rfl
    simp only[hdG,headP,Nat.zero_add,t1]
    rfl
  ·simp only[zX,Nat.reduceShiftRight,Nat.reduceMod,Nat.reduceLT,Nat.reduceMul,Nat.reduceSub,Int.reduceToNat,Int.reduceNeg,Int.reduceLT,Int.reduceLE,Int.reduceEq,Nat.reduceEqDiff,Nat.reduceAdd,Nat.reduceLeDiff,reduceIte,reduceCtorEq,Nat.reduceBEq,i64,iD,bD,spanC,boxR,hdG,Re.cells_eq re,List.map_cons,List.map_nil,h1,h3,h4,hlt',hx,List.length_map]
   refine draw_c mix [14] [] (by rfl) ?_
   have hcut:(((headP re (re.set.take i)).map fun x=>[D.sc (Value.int .i64 x)]).map fun c=>c.map V.d).take (1 + 2 * i)=((headP re (re.set.take i)).map fun x=>[D.sc (Value.int .i64 x)]).map fun c=>c.map V.d:=List.take_of_length_le (by simp [hpl])
   simp only[zX,Nat.reduceShiftRight,Nat.reduceMod,Nat.reduceLT,Nat.reduceMul,Nat.reduceSub,Int.reduceToNat,Int.reduceNeg,Int.reduceLT,Int.reduceLE,Int.reduceEq,Nat.reduceEqDiff,Nat.reduceAdd,Nat.reduceLeDiff,reduceIte,reduceCtorEq,Nat.reduceBEq,i64,iD,bD,spanC,hole,List.map_cons,List.map_nil,h1,h3,h4,hlt',hx,List.length_map,wi,List.getElem?_map,Option.map_some,hcut]
   refine⟨by simp,⟨by omega,by omega⟩,re.set.length - (i + 1),_,_,by omega,Cln.refl,i + 1,rfl,by omega,?_,?_,.inr ⟨g + 1,?_,?_⟩⟩ <;> (try simp only[zU,Nat.reduceBEq,Nat.reduceShiftRight,Nat.reduceMod,Nat.reduceEqDiff,reduceIte])
   ·exact h1
   ·rw[show 1 + 2 * (i + 1)=1 + 2 * i + 2 by omega]
   ·rw[take_get hx]
    simp [hdG,headP,iD]
 have hie:i=re.set.length:=by omega
 subst hie
 rw[List.take_length,headP_eq] at hpl
 have hge':¬(re.set.length:Int) < (re.set.length:Int):=by omega
 have hu8:∀l:List Nat,∀e∈List.map u8V l,e.length=1:=by
  intro l e he
  obtain⟨b,_,rfl⟩:=List.mem_map.1 he
  rfl
 obtain⟨DD,hDD⟩:∃DD:Nat→List Nat,∀i,DD i=B1++(B2++(B3++Re.encL (re.kids.take i))):=⟨_,fun i=>rfl⟩
 cases hneg:re.neg
 case' true=>rw[hneg] at k2
 case' false=>rw[hneg] at k2
 all_goals simp only[digI] at k2
 all_goals rcases hacc with ⟨hi0,h3,rfl⟩ | ⟨g,h3,rfl⟩
 all_goals first
  |(have hse:re.set=[]:=List.eq_nil_of_length_eq_zero hi0
    have hh1:headI re=[re.op]:=by simp [headI,hse]
    rw[hh1] at k1
    simp only[zX,Nat.reduceShiftRight,Nat.reduceMod,Nat.reduceLT,Nat.reduceMul,Nat.reduceSub,Int.reduceToNat,Int.reduceNeg,Int.reduceLT,Int.reduceLE,Int.reduceEq,Nat.reduceEqDiff,Nat.reduceAdd,Nat.reduceLeDiff,reduceIte,reduceCtorEq,Nat.reduceBEq,i64,iD,bD,boxR,Re.cells_eq re,List.map_cons,List.map_nil,h1,h3,h4,hge',List.length_map]
    refine call_give [] rfl ?_
    refine k1.hole (k:=1) rfl rfl rfl ?_
    rw[← arG_eq]
    simp only[zX,Nat.reduceShiftRight,Nat.reduceMod,Nat.reduceLT,Nat.reduceMul,Nat.reduceSub,Int.reduceToNat,Int.reduceNeg,Int.reduceLT,Int.reduceLE,Int.reduceEq,Nat.reduceEqDiff,Nat.reduceAdd,Nat.reduceLeDiff,reduceIte,reduceCtorEq,Nat.reduceBEq,i64,iD,bD,hole,killO,kill1,List.set_cons_succ,List.set_cons_zero,List.getElem?_cons_succ,List.getElem?_cons_zero,h1,h4,hneg]
    refine call_give [] rfl ?_
    refine call_pure k2 rfl rfl ?_
    rw[bytesL_len]
    simp only[zX,Nat.reduceShiftRight,Nat.reduceMod,Nat.reduceLT,Nat.reduceMul,Nat.reduceSub,Int.reduceToNat,Int.reduceNeg,Int.reduceLT,Int.reduceLE,Int.reduceEq,Nat.reduceEqDiff,Nat.reduceAdd,Nat.reduceLeDiff,reduceIte,reduceCtorEq,Nat.reduceBEq,i64,iD,bD,h1,h4,killO,arG,arG_cut,bytesL,bytes_up,List.length_map]
    refine⟨hu8 _,⟨by omega,by omega⟩,?_⟩
    refine call_pure k3 rfl rfl ?_
    have hcut2:(List.map u8V B1++List.map u8V B2).take (B1.length + B2.length)=List.map u8V B1++List.map u8V B2:=List.take_of_length_le (by simp)
    simp only[zX,Nat.reduceShiftRight,Nat.reduceMod,Nat.reduceLT,Nat.reduceMul,Nat.reduceSub,Int.reduceToNat,Int.reduceNeg,Int.reduceLT,Int.reduceLE,Int.reduceEq,Nat.reduceEqDiff,Nat.reduceAdd,Nat.reduceLeDiff,reduceIte,reduceCtorEq,Nat.reduceBEq,i64,iD,bD,h1,h4,hcut2,bytesL,bytes_up,List.length_map,List.length_append]
    refine⟨hu8 _,⟨by omega,by omega⟩,?_⟩
    refine loop_rule (fun n e s=>∃i g:Nat,n=re.kids.length - i∧i≤re.kids.length∧e 1=.rf 0 0 0 0∧e 7=i64 i∧e 5=.so 1 g 0 (DD i).length∧s=[boxR re,arG g (DD i)])
     ⟨_,_,_,Cln.cut 2 (by omega) rfl ?_ [1,7,5] ?_,0,3,rfl,by omega,?_,?_,?_,?_⟩ ?_ <;> (try simp only[zU,Nat.reduceBEq,Nat.reduceShiftRight,Nat.reduceMod,Nat.reduceEqDiff,reduceIte])
    ·simp only[List.take_succ_cons,List.take_zero,List.all_cons,List.all_nil,Bool.and_true]
     simp [objOk,u8V,refsV]
    ·simp [updE,trimE_app,refsV,h1,h4]
    ·exact h1
    ·rfl
    ·rw[hDD]
     simp [Re.encL,Nat.add_assoc]
    ·rw[hDD]
     simp [Re.encL,boxR,Re.cells_eq re,hneg,arG,iD,bD])
  |(have hd2:hdG g re re.set.length=⟨g,true,1,((headI re).map fun x=>[iD x]).map fun c=>c.map V.d⟩:=by simp [hdG,List.take_length,headP_eq]
    rw[hd2]
    simp only[zX,Nat.reduceShiftRight,Nat.reduceMod,Nat.reduceLT,Nat.reduceMul,Nat.reduceSub,Int.reduceToNat,Int.reduceNeg,Int.reduceLT,Int.reduceLE,Int.reduceEq,Nat.reduceEqDiff,Nat.reduceAdd,Nat.reduceLeDiff,reduceIte,reduceCtorEq,Nat.reduceBEq,i64,iD,bD,boxR,Re.cells_eq re,List.map_cons,List.map_nil,h1,h3,h4,hge',List.length_map]
    refine call_give [2] (cargs:=[.d (intsD (headI re))]) ?_ ?_
    ·simp only[killO,kill1,List.getElem?_cons_succ,List.getElem?_cons_zero,List.set_cons_succ,List.set_cons_zero,frzV.go]
     rw[frz_ownK (ds:=(headI re).map fun x=>[iD x]) rfl (by rw[List.drop_zero,List.take_of_length_le (by simp [hhl])]; rfl) (by simp [hhl]) (.inr rfl)]
    refine k1.hole (k:=1) rfl rfl rfl ?_
    rw[← arG_eq]
    simp only[zX,Nat.reduceShiftRight,Nat.reduceMod,Nat.reduceLT,Nat.reduceMul,Nat.reduceSub,Int.reduceToNat,Int.reduceNeg,Int.reduceLT,Int.reduceLE,Int.reduceEq,Nat.reduceEqDiff,Nat.reduceAdd,Nat.reduceLeDiff,reduceIte,reduceCtorEq,Nat.reduceBEq,i64,iD,bD,hole,killO,kill1,List.set_cons_succ,List.set_cons_zero,List.getElem?_cons_succ,List.getElem?_cons_zero,h1,h4,hneg]
    refine call_give [] rfl ?_
    refine call_pure k2 rfl rfl ?_
    rw[bytesL_len]
    simp only[zX,Nat.reduceShiftRight,Nat.reduceMod,Nat.reduceLT,Nat.reduceMul,Nat.reduceSub,Int.reduceToNat,Int.reduceNeg,Int.reduceLT,Int.reduceLE,Int.reduceEq,Nat.reduceEqDiff,Nat.reduceAdd,Nat.reduceLeDiff,reduceIte,reduceCtorEq,Nat.reduceBEq,i64,iD,bD,h1,h4,killO,arG,arG_cut,bytesL,bytes_up,List.length_map]
    refine⟨hu8 _,⟨by omega,by omega⟩,?_⟩
    refine call_pure k3 rfl rfl ?_
    have hcut2:(List.map u8V B1++List.map u8V B2).take (B1.length + B2.length)=List.map u8V B1++List.map u8V B2:=List.take_of_length_le (by simp)
    simp only[zX,Nat.reduceShiftRight,Nat.reduceMod,Nat.reduceLT,Nat.reduceMul,Nat.reduceSub,Int.reduceToNat,Int.reduceNeg,Int.reduceLT,Int.reduceLE,Int.reduceEq,Nat.reduceEqDiff,Nat.reduceAdd,Nat.reduceLeDiff,reduceIte,reduceCtorEq,Nat.reduceBEq,i64,iD,bD,h1,h4,hcut2,bytesL,bytes_up,List.length_map,List.length_append]
    refine⟨hu8 _,⟨by omega,by omega⟩,?_⟩
    refine loop_rule (fun n e s=>∃i g:Nat,n=re.kids.length - i∧i≤re.kids.length∧e 1=.rf 0 0 0 0∧e 7=i64 i∧e 5=.so 1 g 0 (DD i).length∧s=[boxR re,arG g (DD i)])
     ⟨_,_,_,Cln.cut 2 (by omega) rfl ?_ [1,7,5] ?_,0,3,rfl,by omega,?_,?_,?_,?_⟩ ?_ <;> (try simp only[zU,Nat.reduceBEq,Nat.reduceShiftRight,Nat.reduceMod,Nat.reduceEqDiff,reduceIte])
    ·simp only[List.take_succ_cons,List.take_zero,List.all_cons,List.all_nil,Bool.and_true]
     simp [objOk,u8V,refsV]
    ·simp [updE,trimE_app,refsV,h1,h4]
    ·exact h1
    ·rfl
    ·rw[hDD]
     simp [Re.encL,Nat.add_assoc]
    ·rw[hDD]
     simp [Re.encL,boxR,Re.cells_eq re,hneg,arG,iD,bD])
 all_goals rintro n e s ⟨i,g,rfl,hi,h1,h7,h5,rfl⟩
 all_goals simp only[i64] at h7
 all_goals have hbox:boxR re=⟨0,true,8,[[i64 re.op,.d (.sl (re.set.map spanC)),.d (.sl (re.kids.map Re.cells)),i64 re.mn,i64 re.mx,i64 re.mode,i64 re.n,bV re.neg]]⟩:=by unfold boxR; rw[Re.cells_eq]; rfl
 all_goals rw[hbox]
 all_goals by_cases hlt:i < re.kids.length
 all_goals first
  |(obtain⟨k,hk⟩:∃k,re.kids[i]?=some k:=⟨_,List.getElem?_eq_getElem hlt⟩
    have hlt':(i:Int) < (re.kids.length:Int):=by omega
    have wi:IntKind.i64.wrap ((i:Int) + 1)=((i + 1:Nat):Int):=by rw[w64 _ (by omega)]; omega
    have hD1:DD (i + 1)=DD i++k.enc:=by rw[hDD,hDD,take_get hk,Re.encL_append]; simp [Re.encL,List.append_assoc]
    have hDl:(DD (i + 1)).length≤1000000000:=by
     have:=Re.encL_take_le re.kids (i + 1)
     rw[hDD]; simp only[List.length_append]; omega
    rw[hD1,List.length_append] at hDl
    have hkk:=hkid k (List.mem_of_getElem? hk) (by omega)
    simp only[zX,Nat.reduceShiftRight,Nat.reduceMod,Nat.reduceLT,Nat.reduceMul,Nat.reduceSub,Int.reduceToNat,Int.reduceNeg,Int.reduceLT,Int.reduceLE,Int.reduceEq,Nat.reduceEqDiff,Nat.reduceAdd,Nat.reduceLeDiff,reduceIte,reduceCtorEq,Nat.reduceBEq,i64,iD,bD,h1,h7,h5,hlt',hk,List.length_map,take_cells,reV_fold]
    refine call_pure hkk (by simp [refsV,refsV.go,refsV_reV]) rfl ?_
    simp only[zX,Nat.reduceShiftRight,Nat.reduceMod,Nat.reduceLT,Nat.reduceMul,Nat.reduceSub,Int.reduceToNat,Int.reduceNeg,Int.reduceLT,Int.reduceLE,Int.reduceEq,Nat.reduceEqDiff,Nat.reduceAdd,Nat.reduceLeDiff,reduceIte,reduceCtorEq,Nat.reduceBEq,i64,iD,bD,h1,h7,h5,arG,arG_cut,bytesL,bytes_up,List.length_map,wi]
    refine⟨hu8 _,⟨by omega,by omega⟩,re.kids.length - (i + 1),_,_,by omega,Cln.refl,i + 1,g + 1,rfl,by omega,?_,?_,?_,?_⟩ <;> (try simp only[zU,Nat.reduceBEq,Nat.reduceShiftRight,Nat.reduceMod,Nat.reduceEqDiff,reduceIte])
    ·exact h1
    ·rw[hD1,List.length_append]
    ·rw[hD1]; simp only[List.map_append,hbox,arG,i64,bV])
  |(have hie:i=re.kids.length:=by omega
    have hge:¬(i:Int) < (re.kids.length:Int):=by omega
    have hDe:DD i=B1++(B2++(B3++Re.encL re.kids)):=by rw[hDD,hie,List.take_length]
    rw[← hDe]
    simp only[zX,Nat.reduceShiftRight,Nat.reduceMod,Nat.reduceLT,Nat.reduceMul,Nat.reduceSub,Int.reduceToNat,Int.reduceNeg,Int.reduceLT,Int.reduceLE,Int.reduceEq,Nat.reduceEqDiff,Nat.reduceAdd,Nat.reduceLeDiff,reduceIte,reduceCtorEq,Nat.reduceBEq,i64,iD,bD,h1,h7,h5,hge,List.length_map,Qown,bytesL_len]
    exact bytes_exit1 rfl (by rw[hDe]; simp only[List.length_append]))
end Go.Proofs.Ytafbdphblilenaa
