/- A part of the proof (F53 F54 F55). -/
import Derived.Test.YtffeafbdcakfbaaAQ2
import Derived.Test.YtffeafbdcakfbaaAQ8
import Derived.Test.YtffeafbdcakfbaaAQ14
import Derived.Test.YtffeafbdcakfbaaAQ26
set_option linter.unusedSimpArgs false
set_option linter.unusedVariables false
set_option maxRecDepth 100000
set_option maxHeartbeats 80000000
set_option linter.unusedSimpArgs false
set_option linter.unusedVariables false
namespace Go.Proofs.Ytffeafbdcakfbaa
open Go.VL Go.Proofs.Try
def zz (n:Int):Nat:=if 0≤n then (2 * n).toNat else (-2 * n - 1).toNat
def u64 (n:Nat):V:=.d (.sc (.int .u64 (n:Int)))
end Go.Proofs.Ytffeafbdcakfbaa
namespace Go.Proofs.Ytffeafbdcakfbaa
open Go.VL Go.Proofs.Try
theorem lexI_swap:∀xs ys:List Int,lexI ys xs=-lexI xs ys
 | [],[]=>rfl
 | [],_::_=>rfl
 | _::_,[]=>rfl
 | x::xs,y::ys=>by
  simp only[lexI]
  rcases Int.lt_trichotomy x y with h | h | h
  ·rw[if_neg (by omega),if_pos h,if_pos h]; rfl
  ·subst h; rw[if_neg (by omega),if_neg (by omega),if_neg (by omega),if_neg (by omega),lexI_swap xs ys]
  ·rw[if_pos h,if_neg (by omega),if_pos h]
theorem lexI_append {xs ys:List Int} (xs' ys':List Int):lexI xs ys≠0→lexI (xs++xs') (ys++ys')=lexI xs ys:=by
 induction xs generalizing ys with
 | nil=>intro h; exact absurd rfl h
 | cons x xs ih =>
  intro h
  cases ys with
  | nil=>exact absurd rfl h
  | cons y ys =>
   simp only[List.cons_append,lexI] at h ⊢
   split
   ·rfl
   ·rename_i a
    rw[if_neg a] at h
    split
    ·rfl
    ·rename_i b
     rw[if_neg b] at h
     exact ih h
theorem lexI_same (xs xs' ys':List Int):lexI (xs++xs') (xs++ys')=lexI xs' ys':=by
 induction xs with
 | nil=>rfl
 | cons x xs ih=>simp only[List.cons_append,lexI]; rw[if_neg (by omega),if_neg (by omega),ih]
mutual
def Re.tok:Re→List Int
 | .mk op set kids mn mx mode n neg=>ordL (.mk op set kids mn mx mode n neg)++Re.tokL kids
def Re.tokL:List Re→List Int
 | []=>[]
 | k::l=>k.tok++Re.tokL l
end
theorem Re.tok_eq (re:Re):re.tok=ordL re++Re.tokL re.kids:=by cases re; simp only[Re.tok,Re.kids]
theorem re_ext {a b:Re} (h1:a.op=b.op) (h2:a.set=b.set) (h3:a.kids=b.kids) (h4:a.mn=b.mn) (h5:a.mx=b.mx) (h6:a.mode=b.mode) (h7:a.n=b.n) (h8:a.neg=b.neg):a=b:=by
 cases a; cases b
 simp only[Re.op,Re.set,Re.kids,Re.mn,Re.mx,Re.mode,Re.n,Re.neg] at *
 subst h1 h2 h3 h4 h5 h6 h7 h8; rfl
def CmpLaw (a:Re):Prop:=∀b:Re,a.cmp b=lexI a.tok b.tok∧(a.cmp b=0→a=b)
theorem cmpL_law:∀(l l':List Re),l.length=l'.length→(∀k∈l,CmpLaw k)→Re.cmpL l l'=lexI (Re.tokL l) (Re.tokL l')∧(Re.cmpL l l'=0→l=l')
 | [],l',h,_=>by
  cases l' with
  | nil=>exact⟨rfl,fun _=>rfl⟩
  | cons k l=>simp at h
 | k::l,[],h,_=>by simp at h
 | k::l,k'::l',h,hk=>by
  obtain⟨h1,h2⟩:=hk k (by simp) k'
  obtain⟨i1,i2⟩:=cmpL_law l l' (by simpa using h) (fun x hx=>hk x (by simp [hx]))
  rw[cmpL_cons]
  simp only[Re.tokL]
  by_cases hc:k.cmp k'=0
  ·rw[if_neg (by simpa using hc)]
   have:=h2 hc
   subst this
   rw[lexI_same]
   exact⟨i1,fun h0=>by rw[i2 h0]⟩
  ·rw[if_pos hc]
   rw[h1] at hc
   exact⟨by rw[lexI_append _ _ hc]; exact h1,fun h0=>by rw[h1] at h0; exact absurd h0 hc⟩
theorem cmp_law (a:Re):CmpLaw a:=by
 refine Re.ind (Q:=CmpLaw) (fun a ih b=>?_) a
 rw[Re.cmp_eq,Re.tok_eq,Re.tok_eq]
 by_cases hc:lexI (ordL a) (ordL b)=0
 ·rw[if_neg (by simpa using hc)]
  have he:=cmpN_zero (a:=a) (b:=b) hc
  obtain⟨e1,e2,e3,e4,e5,e6,e7,e8⟩:=ordL_inj he
  obtain⟨i1,i2⟩:=cmpL_law a.kids b.kids e8 ih
  rw[he,lexI_same]
  exact⟨i1,fun h0=>re_ext e1 e2 (i2 h0) e3 e4 e5 e6 e7⟩
 ·rw[if_pos hc,lexI_append _ _ hc]
  exact⟨rfl,fun h0=>absurd h0 hc⟩
theorem cmp_swap (a b:Re):b.cmp a=-a.cmp b:=by rw[(cmp_law a b).1,(cmp_law b a).1]; exact lexI_swap _ _
theorem cmp_self (a:Re):a.cmp a=0:=by have:=cmp_swap a a; omega
theorem cmp_zero {a b:Re}:a.cmp b=0 ↔ a=b:=⟨(cmp_law a b).2,fun h=>by rw[h]; exact cmp_self b⟩
end Go.Proofs.Ytffeafbdcakfbaa
