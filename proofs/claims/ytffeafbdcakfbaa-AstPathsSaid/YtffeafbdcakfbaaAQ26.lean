/- A part of the proof (F51 F52). -/
import Derived.Test.YtffeafbdcakfbaaAQ2
import Derived.Test.YtffeafbdcakfbaaAQ8
set_option linter.unusedSimpArgs false
set_option linter.unusedVariables false
set_option maxRecDepth 100000
set_option maxHeartbeats 80000000
set_option linter.unusedSimpArgs false
set_option linter.unusedVariables false
namespace Go.Proofs.Ytffeafbdcakfbaa
open Go.VL Go.Proofs.Try
def lexI:List Int→List Int→Int
 | [],_=>0
 | _,[]=>0
 | x::xs,y::ys=>if x < y then -1 else if y < x then 1 else lexI xs ys
def sgI (x y:Int):Int:=if x < y then -1 else if y < x then 1 else 0
theorem lexI_sg (x y:Int) (xs ys:List Int):lexI (x::xs) (y::ys)=if sgI x y≠0 then sgI x y else lexI xs ys:=by
 simp only[lexI,sgI]
 split
 ·rfl
 ·split <;> rfl
def lexP:List (Int × Int)→Int
 | []=>0
 | p::l=>if sgI p.1 p.2≠0 then sgI p.1 p.2 else lexP l
theorem lexP_zip:∀xs ys:List Int,lexP (xs.zip ys)=lexI xs ys
 | [],ys=>by simp [lexP,lexI]
 | x::xs,[]=>by simp [lexP,lexI]
 | x::xs,y::ys=>by rw[List.zip_cons_cons,lexP,lexI_sg,lexP_zip xs ys]
theorem lexP_append:∀a b:List (Int × Int),lexP (a++b)=if lexP a≠0 then lexP a else lexP b
 | [],b=>by simp [lexP]
 | p::a,b=>by
  simp only[List.cons_append,lexP,lexP_append a b]
  split
  ·rename_i h; first | rfl | rw[if_pos h]
  ·rfl
theorem lexP_two {p q:Int × Int} (h:sgI q.1 q.2≠0):lexP [p,q]≠0:=by
 simp only[lexP]
 by_cases hp:sgI p.1 p.2≠0
 ·rw[if_pos hp]; exact hp
 ·rw[if_neg hp,if_pos h]; exact h
theorem sgI_ne {x y:Int} (h:x≠y):sgI x y≠0:=by
 unfold sgI
 split
 ·decide
 ·rw[if_pos (by omega)]; decide
mutual
def Re.cmp:Re→Re→Int
 | .mk op set kids mn mx mode n neg,b =>
  if lexI (ordL (.mk op set kids mn mx mode n neg)) (ordL b)≠0 then lexI (ordL (.mk op set kids mn mx mode n neg)) (ordL b) else Re.cmpL kids b.kids
def Re.cmpL:List Re→List Re→Int
 | [],_=>0
 | _::_,[]=>0
 | k::l,k'::l'=>if k.cmp k'≠0 then k.cmp k' else Re.cmpL l l'
end
theorem Re.cmp_eq (a b:Re):a.cmp b=if lexI (ordL a) (ordL b)≠0 then lexI (ordL a) (ordL b) else Re.cmpL a.kids b.kids:=by
 cases a; simp only[Re.cmp,Re.kids]
theorem ordL_kids {a b:Re}:∀{xs ys:List Int},xs.length=ys.length→lexI xs ys=0→xs=ys:=by
 intro xs
 induction xs with
 | nil=>intro ys h _; cases ys with | nil=>rfl | cons y ys=>simp at h
 | cons x xs ih =>
  intro ys h h0
  cases ys with
  | nil=>simp at h
  | cons y ys =>
   simp only[lexI] at h0
   split at h0
   ·cases h0
   ·split at h0
    ·cases h0
    ·have:x=y:=by omega
     subst this
     rw[ih (by simpa using h) h0]
def digI (b:Bool):Int:=if b=true then 1 else 0
def cmpN (a b:Re):Int:=lexI (ordL a) (ordL b)
def setP (a b:List (Int × Int)):List (Int × Int):=(a.zip b).flatMap fun x=>[(x.1.1,x.2.1),(x.1.2,x.2.2)]
theorem zip_flat:∀a b:List (Int × Int),a.length=b.length→(a.flatMap fun s=>[s.1,s.2]).zip (b.flatMap fun s=>[s.1,s.2])=setP a b
 | [],b,h=>by cases b with | nil=>rfl | cons y b=>simp at h
 | x::a,[],h=>by simp at h
 | x::a,y::b,h=>by
  have:=zip_flat a b (by simpa using h)
  simp only[List.flatMap_cons,List.cons_append,List.nil_append,List.zip_cons_cons,setP] at this ⊢
  rw[this]
def tailP (a b:Re):List (Int × Int):=[(a.mn,b.mn),(a.mx,b.mx),(a.mode,b.mode),(a.n,b.n),(digI a.neg,digI b.neg),((a.kids.length:Int),(b.kids.length:Int))]
theorem cmpN_eq (a b:Re):cmpN a b=if lexP [(a.op,b.op),((a.set.length:Int),(b.set.length:Int))]≠0 then lexP [(a.op,b.op),((a.set.length:Int),(b.set.length:Int))] else
  if lexP (setP a.set b.set)≠0 then lexP (setP a.set b.set) else lexP (tailP a b):=by
 unfold cmpN
 rw[← lexP_zip]
 by_cases h:a.set.length=b.set.length
 ·have e:(ordL a).zip (ordL b)=[(a.op,b.op),((a.set.length:Int),(b.set.length:Int))]++(setP a.set b.set++tailP a b):=by
   rw[← zip_flat _ _ h]
   simp only[ordL,ordP,List.cons_append,List.nil_append,List.zip_cons_cons]
   congr 2
   rw[List.zip_append]
   ·rfl
   ·have hfl:∀l:List (Int × Int),(l.flatMap fun s=>[s.1,s.2]).length=2 * l.length:=by
     intro l
     induction l with
     | nil=>rfl
     | cons x l ih=>simp only[List.flatMap_cons,List.length_append,ih,List.length_cons,List.length_nil]; omega
    rw[hfl,hfl,h]
  rw[e,lexP_append,lexP_append]
 ·have hne:lexP [(a.op,b.op),((a.set.length:Int),(b.set.length:Int))]≠0:=by
   exact lexP_two (sgI_ne (by show (a.set.length:Int)≠b.set.length; omega))
  have e:∃r,(ordL a).zip (ordL b)=[(a.op,b.op),((a.set.length:Int),(b.set.length:Int))]++r:=by
   simp only[ordL,ordP,List.cons_append,List.nil_append,List.zip_cons_cons]
   exact⟨_,rfl⟩
  obtain⟨r,hr⟩:=e
  rw[hr,lexP_append,if_pos hne,if_pos hne]
theorem ordL_len (re:Re):(ordL re).length=2 + 2 * re.set.length + 6:=by
 unfold ordL; rw[List.length_append,ordP_len]; rfl
theorem cmpN_zero {a b:Re} (h:cmpN a b=0):ordL a=ordL b:=by
 have hl:a.set.length=b.set.length:=by
  rw[cmpN_eq] at h
  by_cases he:a.set.length=b.set.length
  ·exact he
  ·have:=lexP_two (p:=(a.op,b.op)) (q:=((a.set.length:Int),(b.set.length:Int))) (sgI_ne (by show (a.set.length:Int)≠b.set.length; omega))
   rw[if_pos this] at h
   exact absurd h this
 exact ordL_kids (a:=a) (b:=b) (by rw[ordL_len,ordL_len,hl]) h
theorem flat_inj:∀{l l':List (Int × Int)},(l.flatMap fun s=>[s.1,s.2])=(l'.flatMap fun s=>[s.1,s.2])→l=l'
 | [],[],_=>rfl
 | [],y::l',h=>by simp at h
 | x::l,[],h=>by simp at h
 | x::l,y::l',h=>by
  simp only[List.flatMap_cons,List.cons_append,List.nil_append,List.cons.injEq] at h
  rw[flat_inj h.2.2,Prod.ext h.1 h.2.1]
theorem ordL_inj {a b:Re} (h:ordL a=ordL b):a.op=b.op∧a.set=b.set∧a.mn=b.mn∧a.mx=b.mx∧a.mode=b.mode∧a.n=b.n∧a.neg=b.neg∧a.kids.length=b.kids.length:=by
 have hl:a.set.length=b.set.length:=by
  have:=congrArg List.length h
  rw[ordL_len,ordL_len] at this; omega
 unfold ordL at h
 have h2:=List.append_inj h (by rw[ordP_len,ordP_len,hl])
 obtain⟨e1,e2⟩:=h2
 simp only[List.cons.injEq,and_true] at e2
 unfold ordP at e1
 simp only[List.cons_append,List.nil_append,List.cons.injEq] at e1
 obtain⟨f1,f2,f3,f4,f5,f6⟩:=e2
 refine⟨e1.1,flat_inj e1.2.2,f1,f2,f3,f4,?_,by omega⟩
 cases ha:a.neg <;> cases hb:b.neg <;> simp [ha,hb] at f5 <;> rfl
theorem cmpL_cons (k k':Re) (l l':List Re):Re.cmpL (k::l) (k'::l')=if k.cmp k'≠0 then k.cmp k' else Re.cmpL l l':=by rw[Re.cmpL]
end Go.Proofs.Ytffeafbdcakfbaa
