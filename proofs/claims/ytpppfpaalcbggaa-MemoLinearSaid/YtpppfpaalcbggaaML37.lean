/- A part of the proof (S5 S6). -/
import Derived.Test.YtpppfpaalcbggaaML36
set_option linter.unusedSimpArgs false
set_option linter.unusedVariables false
set_option maxRecDepth 100000
set_option maxHeartbeats 80000000
namespace Go.Proofs.Ytpppfpaalcbggaa
open Go.VL Go.Proofs.Try
def Smt.push (m:Smt) (p:SPlace):Smt:={ m with stk:=m.stk.take m.top++[p],top:=m.top + 1,gen:=m.gen + 1 }
def altP (kids:List Re) (p:SPlace) (m:Smt):Smt:=kids.foldr (fun k m=>m.push { p with todo:=.tree k [] p.todo }) m
theorem altP_len:∀(kids:List Re) (p:SPlace) (m:Smt),m.top≤m.stk.length→(altP kids p m).top≤(altP kids p m).stk.length∧(altP kids p m).top=m.top + kids.length
 | [],_,_,h=>⟨h,rfl⟩
 | k::l,p,m,h=>by
  obtain⟨h1,h2⟩:=altP_len l p m h
  have e:altP (k::l) p m=(altP l p m).push { p with todo:=.tree k [] p.todo }:=rfl
  rw[e]
  unfold Smt.push
  simp only[List.length_append,List.length_take,List.length_cons,List.length_nil]
  omega
theorem putF (g b a:Nat) (m:Smt) (re:Re) (next:SGoal) {ext:List VL.Obj} {K:V→List VL.Obj→Prop} (hk:K (.d ((SGoal.tree re [] next).d b a)) (m.objs g b a++ext)) :
  callF prog [0,1,2] [] 63 [.pp 0 g 0 0 b a,.d (.el re.cells),.d (next.d b a)] (m.objs g b a++ext) K:=by
 refine⟨_,[],rfl,fun s' hl hr=>?_,hk⟩
 have h:s'=m.objs g b a++s'.drop 3:=by
  have h0:=hr 0 (by simp); have h1:=hr 1 (by simp); have h2:=hr 2 (by simp)
  match s',hl,h0,h1,h2 with
  | [],hl,_,_,_=>simp [Smt.objs] at hl
  | [_],hl,_,_,_=>simp [Smt.objs] at hl
  | [_,_],hl,_,_,_=>simp [Smt.objs] at hl
  | x::y::z::l,_,h0,h1,h2 =>
   unfold Smt.objs at *
   simp at h0 h1 h2
   subst h0 h1 h2
   rfl
 have hp:=call_sm (put_okS g b a m re [] next) rfl rfl rfl (s'.drop 3)
 rw[← reP_kid,← h] at hp
 exact hp
theorem alt_okS (g b a:Nat) (m:Smt) (re:Re) (ext:List D) (p:SPlace) {kid:Re} {l:List Re} (hk0:re.kids=kid::l) (hkids:re.kids.length≤1000000000) (htop:m.top≤m.stk.length) (htm:m.top≤1000000000000):callWp prog 75 [.pp 0 g 0 0 b a,.d (reP re ext),p.v b a] (m.objs g b a) fun v s=>v=srV b a { p with todo:=.tree kid [] p.todo } true∧s=(altP l p m).objs g b a:=by
 have hM:=sobj_ok (altP l p m) b a 3
 have wl:IntKind.i64.wrap ((re.kids.length:Int) - 1)=(re.kids.length:Int) - 1:=w64 _ (by omega)
 unfold Smt.objs
 refine fn_ok func75 rfl ntmps75 results75 rfl 3 999 (by simp) (by simp) ?_
 simp only[zX,Nat.reduceShiftRight,Nat.reduceMod,Nat.reduceLT,Nat.reduceMul,Nat.reduceSub,Int.reduceToNat,Int.reduceNeg,Int.reduceLT,Int.reduceLE,Int.reduceEq,Nat.reduceEqDiff,Nat.reduceAdd,Nat.reduceLeDiff,reduceIte,reduceCtorEq,Nat.reduceBEq,i64,bV,iD,srV,SPlace.v,SPlace.cells,List.map_cons,List.map_nil,reP,Re.cells_eq re,List.cons_append,List.nil_append,wl,List.length_map]
 refine loop_rule (fun n e s=>∃(j:Nat) (m':Smt),n=j∧j≤l.length∧m'=altP (l.drop j) p m∧e 0=.pp 0 g 0 0 b a∧e 1=.d (reP re ext)∧e 5=.rf 3 0 0 0∧e 6=.rf 4 0 0 0∧e 8=.d (p.todo.d b a)∧e 9=i64 j∧s=m'.objs g b a++[placeO b a p,zeroS])
  ⟨_,_,_,Cln.refl,l.length,m,rfl,Nat.le_refl _,by rw[List.drop_length]; rfl,rfl,?_,rfl,rfl,rfl,?_,rfl⟩ ?_
 ·unfold reP; rw[Re.cells_eq re]; rfl
 ·have:(re.kids.length:Int) - 1=l.length:=by rw[hk0]; simp
  rw[this]; rfl
 rintro j e s ⟨_,m',rfl,hj,hm',h0,h1,h5,h6,h8,h9,rfl⟩
 cases j with
 | zero =>
  have h9:e 9=i64 0:=h9
  rw[List.drop_zero] at hm'
  subst hm'
  have hput:=fun ext=>call_sm (put_okS g b a (altP l p m) kid [] p.todo) rfl rfl rfl ext
  rw[← reP_kid] at hput
  unfold Smt.objs at *
  have l3:(0:Int) < ((l.length + 1:Nat):Int):=by omega
  simp only[zX,Nat.reduceShiftRight,Nat.reduceMod,Nat.reduceLT,Nat.reduceMul,Nat.reduceSub,Int.reduceToNat,Int.reduceNeg,Int.reduceLT,Int.reduceLE,Int.reduceEq,Nat.reduceEqDiff,Nat.reduceAdd,Nat.reduceLeDiff,reduceIte,reduceCtorEq,Nat.reduceBEq,i64,bV,iD,srV,placeO,zeroS,SPlace.v,SPlace.cells,List.map_cons,List.map_nil,List.cons_append,List.nil_append,h0,h1,h5,h6,h8,h9,gt_iff_lt,Int.lt_irrefl,reP,Re.cells_eq re,hk0,List.length_cons,l3]
  refine callWp_mono (hput _) (fun v s' hv=>?_); obtain⟨rfl,rfl⟩:=hv
  simp only[zX,Nat.reduceShiftRight,Nat.reduceMod,Nat.reduceLT,Nat.reduceMul,Nat.reduceSub,Int.reduceToNat,Int.reduceNeg,Int.reduceLT,Int.reduceLE,Int.reduceEq,Nat.reduceEqDiff,Nat.reduceAdd,Nat.reduceLeDiff,reduceIte,reduceCtorEq,Nat.reduceBEq,i64,bV,iD,srV,h0,h1,h5,h6,h8,h9,List.cons_append,List.nil_append]
  exact⟨hM,rfl⟩
 | succ j =>
  obtain⟨k,hk⟩:∃k,l[j]?=some k:=⟨_,List.getElem?_eq_getElem (by omega)⟩
  have hkk:re.kids[j + 1]?=some k:=by rw[hk0]; exact hk
  have l0:(0:Int) < ((j + 1:Nat):Int):=by omega
  have l00:(0:Int)≤((j + 1:Nat):Int):=by omega
  have l1:((j + 1:Nat):Int) < (re.kids.length:Int):=by rw[hk0,List.length_cons]; omega
  have l2:j + 1 < re.kids.length:=by rw[hk0,List.length_cons]; omega
  have hlen:=altP_len (l.drop (j + 1)) p m htop
  rw[← hm',List.length_drop] at hlen
  obtain⟨hl1,hl2⟩:=hlen
  have hll:l.length≤1000000000:=by rw[hk0,List.length_cons] at hkids; omega
  have hl3:m'.top≤2000000000000:=by omega
  have w9:IntKind.i64.wrap (((j + 1:Nat):Int) - 1)=(j:Int):=by rw[w64 _ (by omega)]; omega
  have hmin:min m'.top m'.stk.length=m'.top:=by omega
  have hm2:altP (l.drop j) p m=m'.push { p with todo:=.tree k [] p.todo }:=by
   obtain⟨hlt,he⟩:=List.getElem?_eq_some_iff.1 hk
   rw[List.drop_eq_getElem_cons hlt,he,hm']
   rfl
  have hput:=fun ext K=>putF g b a m' k p.todo (ext:=ext) (K:=K)
  unfold Smt.objs at *
  simp only[zX,Nat.reduceShiftRight,Nat.reduceMod,Nat.reduceLT,Nat.reduceMul,Nat.reduceSub,Int.reduceToNat,Int.reduceNeg,Int.reduceLT,Int.reduceLE,Int.reduceEq,Nat.reduceEqDiff,Nat.reduceAdd,Nat.reduceLeDiff,reduceIte,reduceCtorEq,Nat.reduceBEq,i64,bV,iD,srV,placeO,zeroS,SPlace.v,SPlace.cells,List.map_cons,List.map_nil,List.cons_append,List.nil_append,h0,h1,h5,h6,h8,h9,gt_iff_lt,l0]
  refine draw_c mix [] [(2,[0],[]),(3,[0],[]),(4,[0],[]),(17,[0,1,2],[]),(20,[2],[2]),(21,[0],[]),(22,[0],[]),(23,[0],[0])] (by rfl) ?_
  simp only[zX,Nat.reduceShiftRight,Nat.reduceMod,Nat.reduceLT,Nat.reduceMul,Nat.reduceSub,Int.reduceToNat,Int.reduceNeg,Int.reduceLT,Int.reduceLE,Int.reduceEq,Nat.reduceEqDiff,Nat.reduceAdd,Nat.reduceLeDiff,reduceIte,reduceCtorEq,Nat.reduceBEq,i64,bV,iD,srV,SPlace.v,SPlace.cells,List.map_cons,List.map_nil,List.cons_append,List.nil_append,reP,Re.cells_eq re,h0,h1,h5,h6,h8,h9,l00,l1,l2,hkk,List.length_map,Int.toNat_natCast]
  refine hput _ _ ?_
  simp only[zX,Nat.reduceShiftRight,Nat.reduceMod,Nat.reduceLT,Nat.reduceMul,Nat.reduceSub,Int.reduceToNat,Int.reduceNeg,Int.reduceLT,Int.reduceLE,Int.reduceEq,Nat.reduceEqDiff,Nat.reduceAdd,Nat.reduceLeDiff,reduceIte,reduceCtorEq,Nat.reduceBEq,i64,bV,iD,srV,SPlace.v,SPlace.cells,List.map_cons,List.map_nil,List.cons_append,List.nil_append,h0,h1,h5,h6,h8,h9,hl1,hmin,List.length_map]
  refine⟨rfl,by simp,⟨by omega,by omega⟩,j,_,_,Nat.lt_succ_self j,Cln.refl,j,_,rfl,by omega,hm2.symm,?_,?_,?_,?_,?_,?_,?_⟩ <;> (try simp only[zU,Nat.reduceBEq,Nat.reduceShiftRight,Nat.reduceMod,Nat.reduceEqDiff,reduceIte])
  ·exact h0
  ·rw[h1]; unfold reP; rw[Re.cells_eq re]; rfl
  ·exact h5
  ·exact h6
  ·exact h8
  ·rw[w9]
  ·unfold Smt.push
   simp only[List.cons.injEq,and_true,List.drop_zero,Nat.zero_add,List.map_append,List.map_take,List.map_cons,List.map_nil,SPlace.cells,iD]
theorem flat_take (c:CapsL):∀k:Nat,(c.flatMap fun p=>[iD p.1,iD p.2]).take (2 * k)=(c.take k).flatMap fun p=>[iD p.1,iD p.2]:=by
 induction c with
 | nil=>intro k; simp
 | cons x l ih =>
  intro k
  cases k with
  | zero=>rfl
  | succ k =>
   rw[show 2 * (k + 1)=2 * k + 2 by omega]
   show iD x.1::iD x.2::(l.flatMap fun p=>[iD p.1,iD p.2]).take (2 * k)=_
   rw[ih k]
   rfl
theorem flat_set {c:CapsL} {k:Nat} (h:k < c.length) (x:Int × Int):((c.set k x).flatMap fun p=>[iD p.1,iD p.2])=(c.flatMap fun p=>[iD p.1,iD p.2]).take (2 * k)++[iD x.1,iD x.2]++(c.flatMap fun p=>[iD p.1,iD p.2]).drop (2 * k + 2):=by
 rw[flat_take,show 2 * k + 2=2 * (k + 1) by omega,flat_drop,List.set_eq_take_append_cons_drop,if_pos h]
 simp
theorem put_flat {c:CapsL} {k:Nat} (h:k < c.length) (x:Int × Int):putCells ((c.flatMap fun p=>[iD p.1,iD p.2]).map V.d) (k * 2) [.d (iD x.1),.d (iD x.2)]=((c.set k x).flatMap fun p=>[iD p.1,iD p.2]).map V.d:=by
 rw[flat_set h,Nat.mul_comm k 2]
 unfold putCells
 simp
theorem fin_okS (b a:Nat) (p:SPlace) (frm:Int) (re:Re) (ext:List D) (hn:1≤re.n) (hn9:re.n≤9) {c:CapsL} (hc:p.caps=some c) (hl:c.length=9):PureOK prog 95 [i64 p.at_,.d (capsO p.caps),.d (p.todo.d b a),.bx (i64 frm),.bx (.d (reP re ext))] (srV b a { p with caps:=some (c.set (re.n - 1).toNat (frm,p.at_)) } true):=by
 have hput:=put_flat (c:=c) (k:=(re.n - 1).toNat) (by omega) (frm,p.at_)
 have hcl:=flat_len hl
 have hr:capsO (some (c.set (re.n - 1).toNat (frm,p.at_)))=.el ((c.set (re.n - 1).toNat (frm,p.at_)).flatMap fun p=>[iD p.1,iD p.2]):=rfl
 have hc9:capsO p.caps=.el (c.flatMap fun p=>[iD p.1,iD p.2]):=by rw[hc]; rfl
 generalize ((c.set (re.n - 1).toNat (frm,p.at_)).flatMap fun p=>[iD p.1,iD p.2])=C' at *
 generalize (c.flatMap fun p=>[iD p.1,iD p.2])=C at *
 have htk:List.take 18 (C.map V.d)=C.map V.d:=List.take_of_length_le (by rw[List.length_map]; omega)
 have wn:IntKind.i64.wrap (re.n - 1)=re.n - 1:=w64 _ (by omega)
 have n0:(0:Int)≤re.n - 1:=by omega
 have n9:re.n - 1 < ((9:Nat):Int):=by omega
 have n18:(re.n - 1).toNat * 2≤16:=by omega
 unfold putCells at hput
 simp only[iD,List.length_cons,List.length_nil,Nat.zero_add,Nat.reduceAdd] at hput
 have hz:=fun (lim:Nat) (s:List VL.Obj)=>mapM_frzD 6 lim s C'
 refine fn_ok func95 rfl ntmps95 results95 rfl 0 1823 (by simp) (by simp) ?_
 simp only[zX,Nat.reduceShiftRight,Nat.reduceMod,Nat.reduceLT,Nat.reduceMul,Nat.reduceSub,Int.reduceToNat,Int.reduceNeg,Int.reduceLT,Int.reduceLE,Int.reduceEq,Nat.reduceEqDiff,Nat.reduceAdd,Nat.reduceLeDiff,reduceIte,reduceCtorEq,Nat.reduceBEq,i64,bV,srV,SPlace.v,SPlace.cells,iD,rawAt_bx,List.map_cons,List.map_nil,hc9,hr,reP,Re.cells_eq re,List.cons_append,List.nil_append,htk,hcl,List.length_map]
 refine draw_c mix [] [(8,[1],[]),(9,[1],[1])] (by rfl) ?_
 simp only[zX,Nat.reduceShiftRight,Nat.reduceMod,Nat.reduceLT,Nat.reduceMul,Nat.reduceSub,Int.reduceToNat,Int.reduceNeg,Int.reduceLT,Int.reduceLE,Int.reduceEq,Nat.reduceEqDiff,Nat.reduceAdd,Nat.reduceLeDiff,reduceIte,reduceCtorEq,Nat.reduceBEq,i64,bV,srV,SPlace.v,SPlace.cells,iD,rawAt_bx,List.map_cons,List.map_nil,hcl,List.length_map,wn,n0,n9,n18,Nat.zero_add,hput,hz]
theorem set_outS (g b a:Nat) (m:Smt) (re:Re) (ext:List D) (p:SPlace) (hq:¬p.at_ < m.t.length):callWp prog 73 [.pp 0 g 0 0 b a,.d (reP re ext),p.v b a] (m.objs g b a) fun v s=>v=srV b a .zero false∧s=m.objs g b a:=by
 have hq':(m.t.length:Int)≤p.at_:=by omega
 have hM:=sobj_ok m b a 3
 unfold Smt.objs
 refine fn_ok func73 rfl ntmps73 results73 rfl 3 15032387047 (by simp) (by simp) ?_
 simp only[zX,Nat.reduceShiftRight,Nat.reduceMod,Nat.reduceLT,Nat.reduceMul,Nat.reduceSub,Int.reduceToNat,Int.reduceNeg,Int.reduceLT,Int.reduceLE,Int.reduceEq,Nat.reduceEqDiff,Nat.reduceAdd,Nat.reduceLeDiff,reduceIte,reduceCtorEq,Nat.reduceBEq,i64,bV,iD,srV,SPlace.v,SPlace.cells,List.map_cons,List.map_nil,intsD]
 refine draw_c mix [] [] (by rfl) ?_
 simp only[zX,Nat.reduceShiftRight,Nat.reduceMod,Nat.reduceLT,Nat.reduceMul,Nat.reduceSub,Int.reduceToNat,Int.reduceNeg,Int.reduceLT,Int.reduceLE,Int.reduceEq,Nat.reduceEqDiff,Nat.reduceAdd,Nat.reduceLeDiff,reduceIte,reduceCtorEq,Nat.reduceBEq,i64,bV,iD,ge_iff_le,List.length_map,hq',srV,SPlace.zero,SPlace.v,SPlace.cells,capsO,SGoal.d,List.map_cons,List.map_nil]
 exact hM
end Go.Proofs.Ytpppfpaalcbggaa
