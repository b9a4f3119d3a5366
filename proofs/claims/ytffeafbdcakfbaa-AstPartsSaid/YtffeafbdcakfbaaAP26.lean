/- A part of the proof (F51 F52). -/
import Derived.Test.YtffeafbdcakfbaaAP2
import Derived.Test.YtffeafbdcakfbaaAP8
set_option linter.unusedSimpArgs false
set_option linter.unusedVariables false
set_option maxRecDepth 100000
set_option maxHeartbeats 80000000
set_option linter.unusedSimpArgs false
set_option linter.unusedVariables false
namespace Go.Proofs.Ytffeafbdcakfbaa
open Go.VL Go.Proofs.Try
def lexI:List Int→List Int→Int
 | [],_=>0
 | _,[]=>0
 | x::xs,y::ys=>if x < y then -1 else if y < x then 1 else lexI xs ys
def sgI (x y:Int):Int:=if x < y then -1 else if y < x then 1 else 0
theorem lexI_sg (x y:Int) (xs ys:List Int):lexI (x::xs) (y::ys)=if sgI x y≠0 then sgI x y else lexI xs ys:=by
 simp only[lexI,sgI]
 split
 ·rfl
 ·split <;> rfl
def lexP:List (Int × Int)→Int
 | []=>0
 | p::l=>if sgI p.1 p.2≠0 then sgI p.1 p.2 else lexP l
theorem lexP_zip:∀xs ys:List Int,lexP (xs.zip ys)=lexI xs ys
 | [],ys=>by simp [lexP,lexI]
 | x::xs,[]=>by simp [lexP,lexI]
 | x::xs,y::ys=>by rw[List.zip_cons_cons,lexP,lexI_sg,lexP_zip xs ys]
theorem lexP_append:∀a b:List (Int × Int),lexP (a++b)=if lexP a≠0 then lexP a else lexP b
 | [],b=>by simp [lexP]
 | p::a,b=>by
  simp only[List.cons_append,lexP,lexP_append a b]
  split
  ·rename_i h; first | rfl | rw[if_pos h]
  ·rfl
theorem lexP_two {p q:Int × Int} (h:sgI q.1 q.2≠0):lexP [p,q]≠0:=by
 simp only[lexP]
 by_cases hp:sgI p.1 p.2≠0
 ·rw[if_pos hp]; exact hp
 ·rw[if_neg hp,if_pos h]; exact h
theorem sgI_ne {x y:Int} (h:x≠y):sgI x y≠0:=by
 unfold sgI
 split
 ·decide
 ·rw[if_pos (by omega)]; decide
def pairsV (l:List (Int × Int)):D:=.sl (l.map fun p=>[iD p.1,iD p.2])
mutual
def Re.cmp:Re→Re→Int
 | .mk op set kids mn mx mode n neg,b =>
  if lexI (ordL (.mk op set kids mn mx mode n neg)) (ordL b)≠0 then lexI (ordL (.mk op set kids mn mx mode n neg)) (ordL b) else Re.cmpL kids b.kids
def Re.cmpL:List Re→List Re→Int
 | [],_=>0
 | _::_,[]=>0
 | k::l,k'::l'=>if k.cmp k'≠0 then k.cmp k' else Re.cmpL l l'
end
theorem Re.cmp_eq (a b:Re):a.cmp b=if lexI (ordL a) (ordL b)≠0 then lexI (ordL a) (ordL b) else Re.cmpL a.kids b.kids:=by
 cases a; simp only[Re.cmp,Re.kids]
theorem ordL_kids {a b:Re}:∀{xs ys:List Int},xs.length=ys.length→lexI xs ys=0→xs=ys:=by
 intro xs
 induction xs with
 | nil=>intro ys h _; cases ys with | nil=>rfl | cons y ys=>simp at h
 | cons x xs ih =>
  intro ys h h0
  cases ys with
  | nil=>simp at h
  | cons y ys =>
   simp only[lexI] at h0
   split at h0
   ·cases h0
   ·split at h0
    ·cases h0
    ·have:x=y:=by omega
     subst this
     rw[ih (by simpa using h) h0]
theorem astOrder_ok (l:List (Int × Int)) (hl:l.length≤1000000):PureOK prog 84 [.d (pairsV l)] (i64 (lexP l)):=by
 refine fn_ok func84 rfl ntmps84 results84 rfl 0 245 (by simp) (by simp) ?_
 simp only[zX,Nat.reduceShiftRight,Nat.reduceMod,Nat.reduceLT,Nat.reduceMul,Nat.reduceSub,Int.reduceToNat,Int.reduceNeg,Int.reduceLT,Int.reduceLE,Int.reduceEq,Nat.reduceEqDiff,Nat.reduceAdd,Nat.reduceLeDiff,reduceIte,reduceCtorEq,Nat.reduceBEq,i64,pairsV]
 refine loop_rule (fun n e s=>∃i:Nat,n=l.length - i∧i≤l.length∧e 5=.d (pairsV l)∧e 6=i64 l.length∧e 7=i64 i∧s=[]∧lexP l=lexP (l.drop i))
  ⟨_,_,_,Cln.refl,0,rfl,by omega,rfl,rfl,rfl,rfl,rfl⟩ ?_
 rintro n e s ⟨i,rfl,hi,h5,h6,h7,rfl,hlx⟩
 rcases Nat.lt_or_ge i l.length with hlt | hge
 ·obtain⟨p,hp⟩:∃p,l[i]?=some p:=⟨_,List.getElem?_eq_getElem hlt⟩
  have hd:l.drop i=p::l.drop (i + 1):=by
   rw[List.drop_eq_getElem_cons hlt]
   rw[List.getElem?_eq_getElem hlt] at hp
   simp only[Option.some.injEq] at hp
   rw[hp]
  rw[hd,lexP] at hlx
  have hcs:p.1 < p.2∨(¬p.1 < p.2∧p.2 < p.1)∨(¬p.1 < p.2∧¬p.2 < p.1):=by omega
  rcases hcs with c1 | ⟨c1,c2⟩ | ⟨c1,c2⟩
  ·rw[hlx,show sgI p.1 p.2=-1 by simp [sgI,c1],if_pos (by decide)]
   simp only[zX,Nat.reduceShiftRight,Nat.reduceMod,Nat.reduceLT,Nat.reduceMul,Nat.reduceSub,Int.reduceToNat,Int.reduceNeg,Int.reduceLT,Int.reduceLE,Int.reduceEq,Nat.reduceEqDiff,Nat.reduceAdd,Nat.reduceLeDiff,reduceIte,reduceCtorEq,Nat.reduceBEq,i64,h5,h6,h7,pairsV,hlt,hp,iD,c1]
   all_goals first | exact⟨rfl,rfl⟩ | exact⟨rfl,trivial⟩ | rfl | trivial | (rw[reV_eq]; rfl)
  ·rw[hlx,show sgI p.1 p.2=1 by simp [sgI,c1,c2],if_pos (by decide)]
   simp only[zX,Nat.reduceShiftRight,Nat.reduceMod,Nat.reduceLT,Nat.reduceMul,Nat.reduceSub,Int.reduceToNat,Int.reduceNeg,Int.reduceLT,Int.reduceLE,Int.reduceEq,Nat.reduceEqDiff,Nat.reduceAdd,Nat.reduceLeDiff,reduceIte,reduceCtorEq,Nat.reduceBEq,i64,h5,h6,h7,pairsV,hlt,hp,iD,c1,c2]
   all_goals first | exact⟨rfl,rfl⟩ | exact⟨rfl,trivial⟩ | rfl | trivial | (rw[reV_eq]; rfl)
  ·rw[show sgI p.1 p.2=0 by simp [sgI,c1,c2],if_neg (by decide)] at hlx
   simp only[zX,Nat.reduceShiftRight,Nat.reduceMod,Nat.reduceLT,Nat.reduceMul,Nat.reduceSub,Int.reduceToNat,Int.reduceNeg,Int.reduceLT,Int.reduceLE,Int.reduceEq,Nat.reduceEqDiff,Nat.reduceAdd,Nat.reduceLeDiff,reduceIte,reduceCtorEq,Nat.reduceBEq,i64,h5,h6,h7,pairsV,hlt,hp,iD,c1,c2]
   refine⟨by decide,by decide,by decide,by decide,l.length - (i + 1),_,_,by omega,Cln.cut 0 (by omega) rfl rfl [5,6,7] ?_,i + 1,rfl,hlt,?_,?_,?_,rfl,hlx⟩ <;> (try simp only[zU,Nat.reduceBEq,Nat.reduceShiftRight,Nat.reduceMod,Nat.reduceEqDiff,reduceIte])
   ·simp [updE,trimE_app,refsV,h5,h6,i64]
   ·exact h5
   ·exact h6
   ·rw[w64 _ (by omega)]; rfl
 ·have hie:i=l.length:=by omega
  subst hie
  rw[List.drop_length] at hlx
  simp only[zX,Nat.reduceShiftRight,Nat.reduceMod,Nat.reduceLT,Nat.reduceMul,Nat.reduceSub,Int.reduceToNat,Int.reduceNeg,Int.reduceLT,Int.reduceLE,Int.reduceEq,Nat.reduceEqDiff,Nat.reduceAdd,Nat.reduceLeDiff,reduceIte,reduceCtorEq,Nat.reduceBEq,i64,h5,h6,h7,Nat.lt_irrefl]
  rw[hlx]; rfl
def digI (b:Bool):Int:=if b=true then 1 else 0
theorem digit_ok (b:Bool):PureOK prog 85 [bV b] (i64 (digI b)):=by
 refine fn_ok func85 rfl ntmps85 results85 rfl 0 5 (by simp) (by simp) ?_
 cases b
 ·simp only[zX,Nat.reduceShiftRight,Nat.reduceMod,Nat.reduceLT,Nat.reduceMul,Nat.reduceSub,Int.reduceToNat,Int.reduceNeg,Int.reduceLT,Int.reduceLE,Int.reduceEq,Nat.reduceEqDiff,Nat.reduceAdd,Nat.reduceLeDiff,reduceIte,reduceCtorEq,Nat.reduceBEq,i64,bV,digI,Bool.false_eq_true]
 ·simp only[zX,Nat.reduceShiftRight,Nat.reduceMod,Nat.reduceLT,Nat.reduceMul,Nat.reduceSub,Int.reduceToNat,Int.reduceNeg,Int.reduceLT,Int.reduceLE,Int.reduceEq,Nat.reduceEqDiff,Nat.reduceAdd,Nat.reduceLeDiff,reduceIte,reduceCtorEq,Nat.reduceBEq,i64,bV,digI]
def cmpN (a b:Re):Int:=lexI (ordL a) (ordL b)
def setP (a b:List (Int × Int)):List (Int × Int):=(a.zip b).flatMap fun x=>[(x.1.1,x.2.1),(x.1.2,x.2.2)]
theorem zip_flat:∀a b:List (Int × Int),a.length=b.length→(a.flatMap fun s=>[s.1,s.2]).zip (b.flatMap fun s=>[s.1,s.2])=setP a b
 | [],b,h=>by cases b with | nil=>rfl | cons y b=>simp at h
 | x::a,[],h=>by simp at h
 | x::a,y::b,h=>by
  have:=zip_flat a b (by simpa using h)
  simp only[List.flatMap_cons,List.cons_append,List.nil_append,List.zip_cons_cons,setP] at this ⊢
  rw[this]
def tailP (a b:Re):List (Int × Int):=[(a.mn,b.mn),(a.mx,b.mx),(a.mode,b.mode),(a.n,b.n),(digI a.neg,digI b.neg),((a.kids.length:Int),(b.kids.length:Int))]
theorem cmpN_eq (a b:Re):cmpN a b=if lexP [(a.op,b.op),((a.set.length:Int),(b.set.length:Int))]≠0 then lexP [(a.op,b.op),((a.set.length:Int),(b.set.length:Int))] else
  if lexP (setP a.set b.set)≠0 then lexP (setP a.set b.set) else lexP (tailP a b):=by
 unfold cmpN
 rw[← lexP_zip]
 by_cases h:a.set.length=b.set.length
 ·have e:(ordL a).zip (ordL b)=[(a.op,b.op),((a.set.length:Int),(b.set.length:Int))]++(setP a.set b.set++tailP a b):=by
   rw[← zip_flat _ _ h]
   simp only[ordL,ordP,List.cons_append,List.nil_append,List.zip_cons_cons]
   congr 2
   rw[List.zip_append]
   ·rfl
   ·have hfl:∀l:List (Int × Int),(l.flatMap fun s=>[s.1,s.2]).length=2 * l.length:=by
     intro l
     induction l with
     | nil=>rfl
     | cons x l ih=>simp only[List.flatMap_cons,List.length_append,ih,List.length_cons,List.length_nil]; omega
    rw[hfl,hfl,h]
  rw[e,lexP_append,lexP_append]
 ·have hne:lexP [(a.op,b.op),((a.set.length:Int),(b.set.length:Int))]≠0:=by
   exact lexP_two (sgI_ne (by show (a.set.length:Int)≠b.set.length; omega))
  have e:∃r,(ordL a).zip (ordL b)=[(a.op,b.op),((a.set.length:Int),(b.set.length:Int))]++r:=by
   simp only[ordL,ordP,List.cons_append,List.nil_append,List.zip_cons_cons]
   exact⟨_,rfl⟩
  obtain⟨r,hr⟩:=e
  rw[hr,lexP_append,if_pos hne,if_pos hne]
theorem call_pairs {l:List (Int × Int)} {ds:List (List D)} (h:ds=l.map fun p=>[iD p.1,iD p.2]) (hl:l.length≤1000000):PureOK prog 84 [.fu ds] (i64 (lexP l)):=by
 subst h
 refine call_give [] rfl ?_
 exact astOrder_ok l hl
theorem compareNodes_ok (a b:Re) (ha:a.fine=true) (hb:b.fine=true):PureOK prog 45 [reEl a,reEl b] (i64 (cmpN a b)):=by
 obtain⟨ha1,ha2,_⟩:=Re.fine_spec ha
 obtain⟨hb1,hb2,_⟩:=Re.fine_spec hb
 rw[cmpN_eq]
 have k1:=call_pairs (l:=[(a.op,b.op),((a.set.length:Int),(b.set.length:Int))]) rfl (by simp)
 have k3:=call_pairs (l:=tailP a b) rfl (by simp [tailP])
 have d1:=digit_ok a.neg
 have d2:=digit_ok b.neg
 simp only[List.map_cons,List.map_nil,iD,bV,i64,tailP] at k1 k3 d1 d2
 have hlen:lexP [(a.op,b.op),((a.set.length:Int),(b.set.length:Int))]=0→a.set.length=b.set.length:=by
  intro h
  by_cases he:a.set.length=b.set.length
  ·exact he
  ·exact absurd h (lexP_two (sgI_ne (by show (a.set.length:Int)≠b.set.length; omega)))
 generalize lexP [(a.op,b.op),((a.set.length:Int),(b.set.length:Int))]=c1 at *
 have ht3:tailP a b=[(a.mn,b.mn),(a.mx,b.mx),(a.mode,b.mode),(a.n,b.n),(digI a.neg,digI b.neg),((a.kids.length:Int),(b.kids.length:Int))]:=rfl
 rw[← ht3] at k3
 generalize lexP (tailP a b)=c3 at *
 refine fn_ok func45 rfl ntmps45 results45 rfl 0 962072674803 (by simp) (by simp) ?_
 simp only[zX,Nat.reduceShiftRight,Nat.reduceMod,Nat.reduceLT,Nat.reduceMul,Nat.reduceSub,Int.reduceToNat,Int.reduceNeg,Int.reduceLT,Int.reduceLE,Int.reduceEq,Nat.reduceEqDiff,Nat.reduceAdd,Nat.reduceLeDiff,reduceIte,reduceCtorEq,Nat.reduceBEq,i64]
 refine draw_c mix [] [] (by rfl) ?_
 simp only[zX,Nat.reduceShiftRight,Nat.reduceMod,Nat.reduceLT,Nat.reduceMul,Nat.reduceSub,Int.reduceToNat,Int.reduceNeg,Int.reduceLT,Int.reduceLE,Int.reduceEq,Nat.reduceEqDiff,Nat.reduceAdd,Nat.reduceLeDiff,reduceIte,reduceCtorEq,Nat.reduceBEq,i64,reEl,Re.cells_eq a,Re.cells_eq b,iD,bD]
 refine callC_pure k1 rfl rfl ?_
 simp only[zX,Nat.reduceShiftRight,Nat.reduceMod,Nat.reduceLT,Nat.reduceMul,Nat.reduceSub,Int.reduceToNat,Int.reduceNeg,Int.reduceLT,Int.reduceLE,Int.reduceEq,Nat.reduceEqDiff,Nat.reduceAdd,Nat.reduceLeDiff,reduceIte,reduceCtorEq,Nat.reduceBEq,i64]
 by_cases h1:c1=0
 rotate_left
 ·rw[if_pos h1]
  simp only[zX,Nat.reduceShiftRight,Nat.reduceMod,Nat.reduceLT,Nat.reduceMul,Nat.reduceSub,Int.reduceToNat,Int.reduceNeg,Int.reduceLT,Int.reduceLE,Int.reduceEq,Nat.reduceEqDiff,Nat.reduceAdd,Nat.reduceLeDiff,reduceIte,reduceCtorEq,Nat.reduceBEq,i64,h1]
 have hab:=hlen h1
 rw[if_neg (by simpa using h1)]
 simp only[zX,Nat.reduceShiftRight,Nat.reduceMod,Nat.reduceLT,Nat.reduceMul,Nat.reduceSub,Int.reduceToNat,Int.reduceNeg,Int.reduceLT,Int.reduceLE,Int.reduceEq,Nat.reduceEqDiff,Nat.reduceAdd,Nat.reduceLeDiff,reduceIte,reduceCtorEq,Nat.reduceBEq,i64,h1,reEl,Re.cells_eq a,Re.cells_eq b,iD,bD]
 refine loop_rule (fun n e s=>∃i:Nat,n=a.set.length - i∧i≤a.set.length∧e 0=reEl a∧e 1=reEl b∧e 37=.d (.sl (a.set.map spanC))∧e 38=i64 a.set.length∧e 39=i64 i∧s=[]∧lexP (setP a.set b.set)=lexP (setP (a.set.drop i) (b.set.drop i)))
  ⟨_,_,_,Cln.refl,0,rfl,by omega,by simp [reEl,Re.cells_eq a,iD,bD]; rfl,by simp [reEl,Re.cells_eq b,iD,bD]; rfl,rfl,rfl,rfl,rfl,rfl⟩ ?_
 rintro n e s ⟨i,rfl,hi,h0,h1',h37,h38,h39,rfl,hlx⟩
 rcases Nat.lt_or_ge i a.set.length with hlt | hge
 ·obtain⟨x,hx⟩:∃x,a.set[i]?=some x:=⟨_,List.getElem?_eq_getElem hlt⟩
  obtain⟨y,hy⟩:∃y,b.set[i]?=some y:=⟨_,List.getElem?_eq_getElem (by omega)⟩
  have hltb:i < b.set.length:=by omega
  have hdx:a.set.drop i=x::a.set.drop (i + 1):=by
   rw[List.drop_eq_getElem_cons hlt]
   rw[List.getElem?_eq_getElem hlt] at hx
   simp only[Option.some.injEq] at hx
   rw[hx]
  have hdy:b.set.drop i=y::b.set.drop (i + 1):=by
   rw[List.drop_eq_getElem_cons hltb]
   rw[List.getElem?_eq_getElem hltb] at hy
   simp only[Option.some.injEq] at hy
   rw[hy]
  have hstep:lexP (setP a.set b.set)=if lexP [(x.1,y.1),(x.2,y.2)]≠0 then lexP [(x.1,y.1),(x.2,y.2)] else lexP (setP (a.set.drop (i + 1)) (b.set.drop (i + 1))):=by
   rw[hlx,hdx,hdy,← lexP_append]; rfl
  have k2:=call_pairs (l:=[(x.1,y.1),(x.2,y.2)]) rfl (by simp)
  simp only[List.map_cons,List.map_nil,iD,i64] at k2
  generalize lexP [(x.1,y.1),(x.2,y.2)]=c2 at *
  simp only[zX,Nat.reduceShiftRight,Nat.reduceMod,Nat.reduceLT,Nat.reduceMul,Nat.reduceSub,Int.reduceToNat,Int.reduceNeg,Int.reduceLT,Int.reduceLE,Int.reduceEq,Nat.reduceEqDiff,Nat.reduceAdd,Nat.reduceLeDiff,reduceIte,reduceCtorEq,Nat.reduceBEq,i64,h0,h1',h37,h38,h39,hlt,hx,spanC,iD]
  refine draw_c mix [] [] (by rfl) ?_
  simp only[zX,Nat.reduceShiftRight,Nat.reduceMod,Nat.reduceLT,Nat.reduceMul,Nat.reduceSub,Int.reduceToNat,Int.reduceNeg,Int.reduceLT,Int.reduceLE,Int.reduceEq,Nat.reduceEqDiff,Nat.reduceAdd,Nat.reduceLeDiff,reduceIte,reduceCtorEq,Nat.reduceBEq,i64,h0,h1',h37,h38,h39,hltb,hy,reEl,Re.cells_eq b,spanC,iD,bD]
  refine callC_pure k2 rfl rfl ?_
  by_cases h2:c2=0
  ·rw[if_neg (by simpa using h2)] at hstep
   simp only[zX,Nat.reduceShiftRight,Nat.reduceMod,Nat.reduceLT,Nat.reduceMul,Nat.reduceSub,Int.reduceToNat,Int.reduceNeg,Int.reduceLT,Int.reduceLE,Int.reduceEq,Nat.reduceEqDiff,Nat.reduceAdd,Nat.reduceLeDiff,reduceIte,reduceCtorEq,Nat.reduceBEq,i64,h0,h1',h37,h38,h39,h2]
   refine⟨a.set.length - (i + 1),_,_,by omega,Cln.cut 0 (by omega) rfl rfl [0,1,37,38,39] ?_,i + 1,rfl,hlt,?_,?_,?_,?_,?_,rfl,hstep⟩ <;> (try simp only[zU,Nat.reduceBEq,Nat.reduceShiftRight,Nat.reduceMod,Nat.reduceEqDiff,reduceIte])
   ·simp [updE,trimE_app,refsV,h0,h1',h37,h38,i64,reEl]
   ·simpa [reEl,Re.cells_eq b,iD,bD] using h0
   ·simpa [reEl,Re.cells_eq b,iD,bD] using h1'
   ·exact h37
   ·exact h38
   ·rw[w64 _ (by omega)]; rfl
  ·rw[if_pos h2] at hstep
   rw[hstep,if_pos h2]
   simp only[zX,Nat.reduceShiftRight,Nat.reduceMod,Nat.reduceLT,Nat.reduceMul,Nat.reduceSub,Int.reduceToNat,Int.reduceNeg,Int.reduceLT,Int.reduceLE,Int.reduceEq,Nat.reduceEqDiff,Nat.reduceAdd,Nat.reduceLeDiff,reduceIte,reduceCtorEq,Nat.reduceBEq,i64,h0,h1',h37,h38,h39,h2]
   all_goals first | exact⟨rfl,rfl⟩ | exact⟨rfl,trivial⟩ | rfl | trivial | (rw[reV_eq]; rfl)
 ·have hie:i=a.set.length:=by omega
  subst hie
  have hz:lexP (setP a.set b.set)=0:=by
   rw[hlx,List.drop_length]; rfl
  rw[hz,if_neg (by simp)]
  simp only[zX,Nat.reduceShiftRight,Nat.reduceMod,Nat.reduceLT,Nat.reduceMul,Nat.reduceSub,Int.reduceToNat,Int.reduceNeg,Int.reduceLT,Int.reduceLE,Int.reduceEq,Nat.reduceEqDiff,Nat.reduceAdd,Nat.reduceLeDiff,reduceIte,reduceCtorEq,Nat.reduceBEq,i64,h0,h1',h37,h38,h39,Nat.lt_irrefl]
  refine draw_c mix [] [] (by rfl) ?_
  simp only[zX,Nat.reduceShiftRight,Nat.reduceMod,Nat.reduceLT,Nat.reduceMul,Nat.reduceSub,Int.reduceToNat,Int.reduceNeg,Int.reduceLT,Int.reduceLE,Int.reduceEq,Nat.reduceEqDiff,Nat.reduceAdd,Nat.reduceLeDiff,reduceIte,reduceCtorEq,Nat.reduceBEq,i64,h0,h1',reEl,Re.cells_eq a,Re.cells_eq b,iD,bD]
  refine callC_pure d1 rfl rfl ?_
  simp only[zX,Nat.reduceShiftRight,Nat.reduceMod,Nat.reduceLT,Nat.reduceMul,Nat.reduceSub,Int.reduceToNat,Int.reduceNeg,Int.reduceLT,Int.reduceLE,Int.reduceEq,Nat.reduceEqDiff,Nat.reduceAdd,Nat.reduceLeDiff,reduceIte,reduceCtorEq,Nat.reduceBEq,i64,h0,h1',reEl,Re.cells_eq a,Re.cells_eq b,iD,bD]
  refine callC_pure d2 rfl rfl ?_
  simp only[zX,Nat.reduceShiftRight,Nat.reduceMod,Nat.reduceLT,Nat.reduceMul,Nat.reduceSub,Int.reduceToNat,Int.reduceNeg,Int.reduceLT,Int.reduceLE,Int.reduceEq,Nat.reduceEqDiff,Nat.reduceAdd,Nat.reduceLeDiff,reduceIte,reduceCtorEq,Nat.reduceBEq,i64,h0,h1',reEl,Re.cells_eq a,Re.cells_eq b,iD,bD]
  refine callC_pure k3 rfl rfl ?_
  simp only[zX,Nat.reduceShiftRight,Nat.reduceMod,Nat.reduceLT,Nat.reduceMul,Nat.reduceSub,Int.reduceToNat,Int.reduceNeg,Int.reduceLT,Int.reduceLE,Int.reduceEq,Nat.reduceEqDiff,Nat.reduceAdd,Nat.reduceLeDiff,reduceIte,reduceCtorEq,Nat.reduceBEq,i64]
  all_goals first | exact⟨rfl,rfl⟩ | exact⟨rfl,trivial⟩ | rfl | trivial | (rw[reV_eq]; rfl)
theorem ordL_len (re:Re):(ordL re).length=2 + 2 * re.set.length + 6:=by
 unfold ordL; rw[List.length_append,ordP_len]; rfl
theorem cmpN_zero {a b:Re} (h:cmpN a b=0):ordL a=ordL b:=by
 have hl:a.set.length=b.set.length:=by
  rw[cmpN_eq] at h
  by_cases he:a.set.length=b.set.length
  ·exact he
  ·have:=lexP_two (p:=(a.op,b.op)) (q:=((a.set.length:Int),(b.set.length:Int))) (sgI_ne (by show (a.set.length:Int)≠b.set.length; omega))
   rw[if_pos this] at h
   exact absurd h this
 exact ordL_kids (a:=a) (b:=b) (by rw[ordL_len,ordL_len,hl]) h
theorem flat_inj:∀{l l':List (Int × Int)},(l.flatMap fun s=>[s.1,s.2])=(l'.flatMap fun s=>[s.1,s.2])→l=l'
 | [],[],_=>rfl
 | [],y::l',h=>by simp at h
 | x::l,[],h=>by simp at h
 | x::l,y::l',h=>by
  simp only[List.flatMap_cons,List.cons_append,List.nil_append,List.cons.injEq] at h
  rw[flat_inj h.2.2,Prod.ext h.1 h.2.1]
theorem ordL_inj {a b:Re} (h:ordL a=ordL b):a.op=b.op∧a.set=b.set∧a.mn=b.mn∧a.mx=b.mx∧a.mode=b.mode∧a.n=b.n∧a.neg=b.neg∧a.kids.length=b.kids.length:=by
 have hl:a.set.length=b.set.length:=by
  have:=congrArg List.length h
  rw[ordL_len,ordL_len] at this; omega
 unfold ordL at h
 have h2:=List.append_inj h (by rw[ordP_len,ordP_len,hl])
 obtain⟨e1,e2⟩:=h2
 simp only[List.cons.injEq,and_true] at e2
 unfold ordP at e1
 simp only[List.cons_append,List.nil_append,List.cons.injEq] at e1
 obtain⟨f1,f2,f3,f4,f5,f6⟩:=e2
 refine⟨e1.1,flat_inj e1.2.2,f1,f2,f3,f4,?_,by omega⟩
 cases ha:a.neg <;> cases hb:b.neg <;> simp [ha,hb] at f5 <;> rfl
def CmpOK (a:Re):Prop:=∀b:Re,b.fine=true→callWp prog 44 [reEl a,reEl b,.rf 0 0 0 0] [cellO 44] fun v s=>v=i64 (a.cmp b)∧s=[cellO 44]
theorem cmpL_cons (k k':Re) (l l':List Re):Re.cmpL (k::l) (k'::l')=if k.cmp k'≠0 then k.cmp k' else Re.cmpL l l':=by rw[Re.cmpL]
theorem compare_rec (a:Re) (ha:a.fine=true):CmpOK a:=by
 revert ha
 refine Re.ind (Q:=fun a=>a.fine=true→CmpOK a) (fun a ih ha b hb=>?_) a
 obtain⟨ha1,ha2,ha3⟩:=Re.fine_spec ha
 obtain⟨hb1,hb2,hb3⟩:=Re.fine_spec hb
 have hn:=compareNodes_ok a b ha hb
 rw[reEl,reEl,Re.cells_eq a,Re.cells_eq b] at hn
 rw[Re.cmp_eq]
 have hz:cmpN a b=0→a.kids.length=b.kids.length:=fun h=>(ordL_inj (cmpN_zero h)).2.2.2.2.2.2.2
 rw[show lexI (ordL a) (ordL b)=cmpN a b from rfl]
 generalize cmpN a b=c at *
 simp only[iD,bD,i64] at hn
 refine fn_ok func44 rfl ntmps44 results44 rfl 1 1573351 (by simp) (by simp) ?_
 simp only[zX,Nat.reduceShiftRight,Nat.reduceMod,Nat.reduceLT,Nat.reduceMul,Nat.reduceSub,Int.reduceToNat,Int.reduceNeg,Int.reduceLT,Int.reduceLE,Int.reduceEq,Nat.reduceEqDiff,Nat.reduceAdd,Nat.reduceLeDiff,reduceIte,reduceCtorEq,Nat.reduceBEq,i64,reEl,Re.cells_eq a,Re.cells_eq b,iD,bD,cellO]
 refine call_pure hn (by simp [refsV,refsV.go,reV_eq,i64,bV,reEl]) (by simp [refsV,refsV.go,reV_eq,i64,bV,reEl]) ?_
 by_cases hc:c=0
 rotate_left
 ·rw[if_pos hc]
  simp only[zX,Nat.reduceShiftRight,Nat.reduceMod,Nat.reduceLT,Nat.reduceMul,Nat.reduceSub,Int.reduceToNat,Int.reduceNeg,Int.reduceLT,Int.reduceLE,Int.reduceEq,Nat.reduceEqDiff,Nat.reduceAdd,Nat.reduceLeDiff,reduceIte,reduceCtorEq,Nat.reduceBEq,i64,hc,cellO]
  all_goals first | exact⟨rfl,rfl⟩ | exact⟨rfl,trivial⟩ | rfl | trivial | (rw[reV_eq]; rfl)
 have hkl:=hz hc
 rw[if_neg (by simpa using hc)]
 simp only[zX,Nat.reduceShiftRight,Nat.reduceMod,Nat.reduceLT,Nat.reduceMul,Nat.reduceSub,Int.reduceToNat,Int.reduceNeg,Int.reduceLT,Int.reduceLE,Int.reduceEq,Nat.reduceEqDiff,Nat.reduceAdd,Nat.reduceLeDiff,reduceIte,reduceCtorEq,Nat.reduceBEq,i64,hc,iD,bD]
 refine loop_rule (fun n e s=>∃i:Nat,n=a.kids.length - i∧i≤a.kids.length∧e 0=reEl a∧e 1=reEl b∧e 2=.rf 0 0 0 0∧e 19=i64 a.kids.length∧e 20=i64 i∧s=[cellO 44]∧Re.cmpL a.kids b.kids=Re.cmpL (a.kids.drop i) (b.kids.drop i))
  ⟨_,_,_,Cln.refl,0,rfl,by omega,by simp [reEl,Re.cells_eq a,iD,bD]; rfl,by simp [reEl,Re.cells_eq b,iD,bD]; rfl,rfl,rfl,rfl,rfl,rfl⟩ ?_
 rintro n e s ⟨i,rfl,hi,h0,h1,h2,h19,h20,rfl,hlx⟩
 rcases Nat.lt_or_ge i a.kids.length with hlt | hge
 ·obtain⟨x,hx⟩:∃x,a.kids[i]?=some x:=⟨_,List.getElem?_eq_getElem hlt⟩
  obtain⟨y,hy⟩:∃y,b.kids[i]?=some y:=⟨_,List.getElem?_eq_getElem (by omega)⟩
  have hltb:i < b.kids.length:=by omega
  have hmx:=List.mem_of_getElem? hx
  have hmy:=List.mem_of_getElem? hy
  have hdx:a.kids.drop i=x::a.kids.drop (i + 1):=by
   rw[List.drop_eq_getElem_cons hlt]
   rw[List.getElem?_eq_getElem hlt] at hx
   simp only[Option.some.injEq] at hx
   rw[hx]
  have hdy:b.kids.drop i=y::b.kids.drop (i + 1):=by
   rw[List.drop_eq_getElem_cons hltb]
   rw[List.getElem?_eq_getElem hltb] at hy
   simp only[Option.some.injEq] at hy
   rw[hy]
  rw[hdx,hdy,cmpL_cons] at hlx
  have hrec:=ih x hmx (ha3 x hmx) y (hb3 y hmy)
  generalize x.cmp y=d at *
  simp only[zX,Nat.reduceShiftRight,Nat.reduceMod,Nat.reduceLT,Nat.reduceMul,Nat.reduceSub,Int.reduceToNat,Int.reduceNeg,Int.reduceLT,Int.reduceLE,Int.reduceEq,Nat.reduceEqDiff,Nat.reduceAdd,Nat.reduceLeDiff,reduceIte,reduceCtorEq,Nat.reduceBEq,i64,cellO,h0,h1,h2,h19,h20,hlt]
  refine draw_c mix [] [(0,[0],[]),(13,[0],[0])] (by rfl) ?_
  simp only[zX,Nat.reduceShiftRight,Nat.reduceMod,Nat.reduceLT,Nat.reduceMul,Nat.reduceSub,Int.reduceToNat,Int.reduceNeg,Int.reduceLT,Int.reduceLE,Int.reduceEq,Nat.reduceEqDiff,Nat.reduceAdd,Nat.reduceLeDiff,reduceIte,reduceCtorEq,Nat.reduceBEq,i64,cellO,h0,h1,h2,h19,h20,hlt,hltb,hx,hy,reEl,Re.cells_eq a,Re.cells_eq b,iD,bD]
  refine callF_whole hrec (by intro j hj; simp only[List.length_cons,List.length_nil] at hj; simp only[List.mem_cons,List.not_mem_nil,or_false]; omega) rfl rfl ?_
  by_cases hd:d=0
  ·rw[if_neg (by simpa using hd)] at hlx
   simp only[zX,Nat.reduceShiftRight,Nat.reduceMod,Nat.reduceLT,Nat.reduceMul,Nat.reduceSub,Int.reduceToNat,Int.reduceNeg,Int.reduceLT,Int.reduceLE,Int.reduceEq,Nat.reduceEqDiff,Nat.reduceAdd,Nat.reduceLeDiff,reduceIte,reduceCtorEq,Nat.reduceBEq,i64,cellO,h0,h1,h2,h19,h20,hd]
   refine⟨a.kids.length - (i + 1),_,_,by omega,Cln.refl,i + 1,rfl,hlt,?_,?_,?_,?_,?_,rfl,hlx⟩ <;> (try simp only[zU,Nat.reduceBEq,Nat.reduceShiftRight,Nat.reduceMod,Nat.reduceEqDiff,reduceIte])
   ·simpa [reEl,Re.cells_eq a,iD,bD] using h0
   ·simpa [reEl,Re.cells_eq b,iD,bD] using h1
   ·exact h2
   ·exact h19
   ·rw[w64 _ (by omega)]; rfl
  ·rw[if_pos hd] at hlx
   rw[hlx]
   simp only[zX,Nat.reduceShiftRight,Nat.reduceMod,Nat.reduceLT,Nat.reduceMul,Nat.reduceSub,Int.reduceToNat,Int.reduceNeg,Int.reduceLT,Int.reduceLE,Int.reduceEq,Nat.reduceEqDiff,Nat.reduceAdd,Nat.reduceLeDiff,reduceIte,reduceCtorEq,Nat.reduceBEq,i64,cellO,h0,h1,h2,h19,h20,hd]
   all_goals first | exact⟨rfl,rfl⟩ | exact⟨rfl,trivial⟩ | rfl | trivial | (rw[reV_eq]; rfl)
 ·have hie:i=a.kids.length:=by omega
  subst hie
  rw[List.drop_length] at hlx
  rw[hlx]
  simp only[zX,Nat.reduceShiftRight,Nat.reduceMod,Nat.reduceLT,Nat.reduceMul,Nat.reduceSub,Int.reduceToNat,Int.reduceNeg,Int.reduceLT,Int.reduceLE,Int.reduceEq,Nat.reduceEqDiff,Nat.reduceAdd,Nat.reduceLeDiff,reduceIte,reduceCtorEq,Nat.reduceBEq,i64,cellO,h0,h1,h2,h19,h20,Nat.lt_irrefl]
  all_goals first | exact⟨rfl,rfl⟩ | exact⟨rfl,trivial⟩ | rfl | trivial | (rw[reV_eq]; rfl)
theorem compare_ok (a b:Re) (ha:a.fine=true) (hb:b.fine=true):PureOK prog 20 [reV a,reV b] (i64 (a.cmp b)):=by
 refine fn_ok func20 rfl ntmps20 results20 rfl 0 63 (by simp) (by simp) ?_
 simp only[zX,Nat.reduceShiftRight,Nat.reduceMod,Nat.reduceLT,Nat.reduceMul,Nat.reduceSub,Int.reduceToNat,Int.reduceNeg,Int.reduceLT,Int.reduceLE,Int.reduceEq,Nat.reduceEqDiff,Nat.reduceAdd,Nat.reduceLeDiff,reduceIte,reduceCtorEq,Nat.reduceBEq,i64,reV_eq a,reV_eq b,iD,bD]
 refine call_give [0,1] rfl ?_
 refine call_at (r':=i64 (a.cmp b)) 2 (compare_rec a ha b hb) (by rw[reEl,reEl,Re.cells_eq a,Re.cells_eq b]; rfl) (by simp [refsV,refsV.go,reEl]) rfl rfl rfl ?_
 simp only[zX,Nat.reduceShiftRight,Nat.reduceMod,Nat.reduceLT,Nat.reduceMul,Nat.reduceSub,Int.reduceToNat,Int.reduceNeg,Int.reduceLT,Int.reduceLE,Int.reduceEq,Nat.reduceEqDiff,Nat.reduceAdd,Nat.reduceLeDiff,reduceIte,reduceCtorEq,Nat.reduceBEq,i64,killO,kill1,renO,renV,renV.go,cellO]
 all_goals first | exact⟨rfl,rfl⟩ | exact⟨rfl,trivial⟩ | rfl | trivial | (rw[reV_eq]; rfl)
end Go.Proofs.Ytffeafbdcakfbaa
