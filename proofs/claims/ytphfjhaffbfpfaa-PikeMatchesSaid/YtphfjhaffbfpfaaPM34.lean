/- A part of the proof (G54 G55 E1 E2 E3 E4). -/
import Derived.Test.YtphfjhaffbfpfaaPM7
import Derived.Test.YtphfjhaffbfpfaaPM12
import Derived.Test.YtphfjhaffbfpfaaPM14
import Derived.Test.YtphfjhaffbfpfaaPM16
set_option linter.all false
set_option maxRecDepth 100000
set_option maxHeartbeats 80000000
namespace Go.Proofs.Ytphfjhaffbfpfaa
open Go.VL Go.Proofs.Try
def FA (F F':Int) (st st':bd) (b:Bool) (o:Option (Bool×bd)):Prop :=
 st.steps<=st'.steps/\(st'.empty=true->b=true/\F<st'.steps)/\(st.steps<=F'->(st'.steps<=F'->o=some (b,st'))/\(F'<st'.steps->∃s2,o=some (true,s2)/\s2.empty=true))
def FB {α:Type} (F F':Int) (st st':bd) (r:Option α) (o:Option (Option α×bd)):Prop :=
 st.steps<=st'.steps/\(st'.empty=true->r=none/\F<st'.steps)/\(st.steps<=F'->(st'.steps<=F'->o=some (r,st'))/\(F'<st'.steps->∃s2,o=some (none,s2)/\s2.empty=true))
section fuel
variable {t:List Int}{F F':Int}{rec rec':Int->Task->bd->Option (Bool×bd)}
theorem FA.no {st:bd}{o:Option (Bool×bd)} (he:st.empty=false) (ho:o=some (false,st)):FA F F' st st false o :=
 ⟨ady _,λh=>(by rw[he]at h;cases h),λhs=>⟨λ_=>ho,λh=>by omega⟩⟩
theorem JO {st s1 st':bd}{b1 b:Bool}{a':Option (Bool×bd)}{k k':bd->Option (Bool×bd)} (h1:FA F F' st s1 b1 a') (hr:mz (some (b1,s1)) k=some (b,st')) (hk:s1.empty=false->k s1=some (b,st')->FA F F' s1 st' b (k' s1)):FA F F' st st' b (mz a' k'):=by
 cases b1 with
 |true =>
  simp only[mz,adp,ad3]at hr;obtain⟨rfl,rfl⟩:=hr;obtain⟨a1,a2,a3⟩:=h1;refine⟨a1,a2,λh0=>⟨λhs=>by rw[(a3 h0).1 hs];rfl,λhs=>?_⟩⟩;obtain⟨s2,q1,q2⟩:=(a3 h0).2 hs;exact⟨s2,by rw[q1];rfl,q2⟩
 |false =>
  simp only[mz]at hr;have he:s1.empty=false:=by
   cases hx:s1.empty with
   |false=>rfl
   |true=>have:=(h1.2.1 hx).1;cases this
  obtain⟨a1,a2,a3⟩:=h1;obtain⟨b1,b2,b3⟩:=hk he hr;refine⟨by omega,b2,λh0=>?_⟩;by_cases eC:s1.steps<=F'
  ·rw[(a3 h0).1 eC];exact b3 eC
  ·obtain⟨s2,q1,q2⟩:=(a3 h0).2 (by omega);exact⟨λhs=>by omega,λ_=>⟨s2,by rw[q1];rfl,q2⟩⟩
def Vi {α:Type} (o:Option (Option α×bd)) (k:Option α->bd->Option (Bool×bd)):Option (Bool×bd) :=
 match o with
 |none=>none
 |some (r,s)=>k r s
theorem Ic {α:Type}{st s1 st':bd}{b:Bool}{r:Option α}{o:Option (Option α×bd)}{o2:Option (Bool×bd)}{k':Option α->bd->Option (Bool×bd)} (h1:FB F F' st s1 r o) (ho:o2=Vi o k')
  (hem:s1.empty=true->b=true/\st'=s1) (hex:∀s2,s2.empty=true->k' none s2=some (true,s2)) (hk:s1.empty=false->FA F F' s1 st' b (k' r s1)):FA F F' st st' b o2:=by
 obtain⟨a1,a2,a3⟩:=h1;subst ho;unfold Vi;by_cases he:s1.empty=true
 ·obtain⟨rfl,rfl⟩:=hem he;refine⟨a1,λ_=>⟨rfl,(a2 he).2⟩,λh0=>⟨λhs=>?_,λhs=>?_⟩⟩
  ·rw[(a3 h0).1 hs];have:=(a2 he).1;rw[this];exact hex _ he
  ·obtain⟨s2,q1,q2⟩:=(a3 h0).2 hs;exact⟨s2,by rw[q1];exact hex _ q2,q2⟩
 ·obtain⟨b1,b2,b3⟩:=hk (by simpa using he);refine⟨by omega,b2,λh0=>?_⟩;by_cases eC:s1.steps<=F'
  ·rw[(a3 h0).1 eC];exact b3 eC
  ·obtain⟨s2,q1,q2⟩:=(a3 h0).2 (by omega);exact⟨λhs=>by omega,λ_=>⟨s2,by rw[q1];exact hex _ q2,q2⟩⟩
theorem Cb {f f':Int->bd->Option (Option (Int×aC)×bd)} (hf:∀k st o s2,f k st=some (o,s2)->st.empty=false->FB F F' st s2 o (f' k st)):∀(j:Nat) (st s2:bd) (r:Option aC),
  cz f j st=some (r,s2)->st.empty=false->FB F F' st s2 r (cz f' j st)
 |0,st,s2,r,hr,he=>by simp only[cz]at hr;cases hr;exact⟨ady _,λh=>(by rw[he]at h;cases h),λ_=>⟨λ_=>rfl,λh=>by omega⟩⟩
 |j+1,st,s2,r,hr,he=>by
  simp only[cz]at hr;rw[am (by rw[he];simp)]at hr;have oh:∀(g:Int->bd->Option (Option (Int×aC)×bd)) (s3:bd),s3.empty=true->cz g j s3=some (none,s3):=by
   intro g s3 h3;cases j with
   |zero=>simp only[cz]
   |succ j=>simp only[cz];rw[ap h3]
  cases hx:f j st with
  |none=>rw[hx]at hr;cases hr
  |some y =>
   obtain⟨o,s1⟩:=y;rw[hx]at hr;obtain⟨a1,a2,a3⟩:=hf _ _ _ _ hx he;simp only[cz];rw[am (by rw[he];simp)];cases o with
   |some p =>
    obtain⟨e,d⟩:=p;simp only at hr;cases hr;refine⟨a1,λhh=>?_,λh0=>⟨λhle=>by rw[(a3 h0).1 hle],λaH=>?_⟩⟩
    ·have:=(a2 hh).1;cases this
    ·obtain⟨s3,q1,q2⟩:=(a3 h0).2 aH;exact⟨s3,by rw[q1];exact oh _ _ q2,q2⟩
   |none =>
    simp only at hr;by_cases nj:s1.empty=true
    ·rw[oh _ _ nj]at hr;cases hr;refine⟨a1,λ_=>⟨rfl,(a2 nj).2⟩,λh0=>⟨λhle=>by rw[(a3 h0).1 hle];exact oh _ _ nj,λaH=>?_⟩⟩;obtain⟨s3,q1,q2⟩:=(a3 h0).2 aH;exact⟨s3,by rw[q1];exact oh _ _ q2,q2⟩
    ·obtain⟨b1,b2,b3⟩:=Cb hf j s1 s2 r hr (by simpa using nj);refine⟨by omega,b2,λh0=>?_⟩;by_cases eC:s1.steps<=F'
     ·rw[(a3 h0).1 eC];exact b3 eC
     ·obtain⟨s3,q1,q2⟩:=(a3 h0).2 (by omega);exact⟨λhs=>by omega,λ_=>⟨s3,by rw[q1];exact oh _ _ q2,q2⟩⟩
variable (h:∀ai task st b st',rec ai task st=some (b,st')->st.empty=false->FA F F' st st' b (rec' ai task st))
include h
theorem vj {g:Goal}{i:Int}{c:aC}{st s2:bd}{o:Option (Int×aC)} (hr:bS rec g i c st=some (o,s2)):FB F F' st s2 o (bS rec' g i c st):=by
 unfold bS at hr;cases hx:rec 1 (.run g i c) ⟨st.steps,false,[],[]⟩ with
 |none=>rw[hx]at hr;cases hr
 |some y =>
  obtain⟨b,x⟩:=y;rw[hx]at hr;simp only at hr;obtain⟨a1,a2,a3⟩:=h _ _ _ _ _ hx rfl;have aU:s2.steps=x.steps/\s2.empty=x.empty:=by
   split at hr
   ·cases hr;exact⟨rfl,rfl⟩
   ·split at hr
    ·cases hr;exact⟨rfl,rfl⟩
    ·cases hr;exact⟨rfl,rfl⟩
    ·cases hr
  refine⟨by rw[aU.1];exact a1,λhe=>?_,λh0=>⟨λhle=>?_,λaH=>?_⟩⟩
  ·rw[aU.2]at he;rw[ap he]at hr;cases hr;exact⟨rfl,(a2 he).2⟩
  ·rw[aU.1]at hle;unfold bS;rw[(a3 h0).1 hle];exact hr
  ·rw[aU.1]at aH;obtain⟨s3,q1,q2⟩:=(a3 h0).2 aH;refine⟨{ st with steps:=s3.steps,empty:=s3.empty },?_,q2⟩;unfold bS;rw[q1];simp only;rw[ap q2]
theorem ND {g:Re->Task}{ai:Int}:∀(l:List Re) (st st':bd) (b:Bool),lL (λk st=>rec ai (g k) st) l st=some (b,st')->st.empty=false->FA F F' st st' b (lL (λk st=>rec' ai (g k) st) l st)
 |[],st,st',b,hr,he=>by simp only[lL]at hr ⊢;cases hr;exact FA.no he rfl
 |k::l,st,st',b,hr,he=>by
  simp only[lL]at hr ⊢;cases hx:rec ai (g k) st with
  |none=>rw[hx]at hr;cases hr
  |some y =>
   obtain⟨b1,s1⟩:=y;rw[hx]at hr;exact JO (h _ _ _ _ _ hx he) hr λnj hk=>ND l s1 st' b hk nj
end fuel
section fuel
variable {t:List Int}{F F':Int} (TB:F'<=F)
include TB
theorem Ka {st st':bd}{b:Bool}{K K':bd->Option (Bool×bd)} (VG:st.empty=false) (hr:(if (st.step F).empty=true then some (true,st.step F) else K (st.step F))=some (b,st')) (hk:(st.step F).empty=false->K (st.step F)=some (b,st')->FA F F' (st.step F) st' b (K' (st.step F))) :
  FA F F' st st' b (if (st.step F').empty=true then some (true,st.step F') else K' (st.step F')):=by
 have hs:∀f,(st.step f).steps=st.steps+1:=λ_=>rfl;have hem:∀f,(st.step f).empty=decide (f<st.steps+1):=λf=>by simp [bd.step,VG]
 by_cases he:(st.step F).empty=true
 ·rw[ap he]at hr;cases hr;have aH:F<st.steps+1:=by rw[hem]at he;exact of_decide_eq_true he
  refine⟨by rw[hs];omega,λ_=>⟨rfl,by rw[hs];exact aH⟩,λh0=>⟨λh1=>by rw[hs]at h1;omega,λ_=>⟨st.step F',?_,?_⟩⟩⟩
  ·rw[ap];rw[hem,adu (by omega)]
  ·rw[hem,adu (by omega)]
 ·rw[am he]at hr;have he:(st.step F).empty=false:=by simpa using he
  have iP:¬F<st.steps+1:=by rw[hem]at he;exact of_decide_eq_false he
  obtain⟨b1,b2,b3⟩:=hk he hr;rw[hs]at b1 b3;refine⟨by omega,b2,λh0=>?_⟩;by_cases hle:st.steps+1<=F'
  ·have heq:st.step F'=st.step F:=by
    have h1:(st.step F').empty=(st.step F).empty:=by rw[he,hem,adl (by omega)]
    have:st.step F'={ st.step F with empty:=(st.step F').empty }:=rfl;rw[this,h1]
   rw[heq,am (by rw[he];simp)];exact b3 hle
  ·refine⟨λh1=>by omega,λ_=>⟨st.step F',?_,?_⟩⟩
   ·rw[ap];rw[hem,adu (by omega)]
   ·rw[hem,adu (by omega)]
variable {rec rec':Int->Task->bd->Option (Bool×bd)} (h:∀ai task st b st',rec ai task st=some (b,st')->st.empty=false->FA F F' st st' b (rec' ai task st))
variable{next:Goal}{ai:Int}{st':bd}{b:Bool}
include h
omit TB in
theorem Rp{re:Re}{i:Int}{c:aC}{st:bd} (hr:dw t rec ai re next i c st=some (b,st')) (he:st.empty=false):FA F F' st st' b (dw t rec' ai re next i c st):=by
 unfold dw at hr ⊢;have no:∀{b:Bool}{st':bd},some (false,st)=some (b,st')->FA F F' st st' b (some (false,st)):=by intro b st' hh;cases hh;exact FA.no he rfl
 by_cases o1:re.op=1
 ·rw[ap o1]at hr ⊢;by_cases q:i<t.length/\tv re.set (gQ t i)=true
  ·rw[ap q]at hr ⊢;exact h _ _ _ _ _ hr he
  ·rw[am q]at hr ⊢;exact no hr
 rw[am o1]at hr ⊢;by_cases o2:re.op=2
 ·rw[ap o2]at hr ⊢;exact h _ _ _ _ _ hr he
 rw[am o2]at hr ⊢;by_cases o3:re.op=3
 ·rw[ap o3]at hr ⊢;exact ND (g:=λk=>.run (.mk 0 k 0 0 next) i c) h re.kids st st' b hr he
 rw[am o3]at hr ⊢;by_cases o5:re.op=5
 ·rw[ap o5]at hr ⊢;cases hk:re.kids with
  |nil=>rw[hk]at hr;cases hr
  |cons aL l=>rw[hk]at hr;exact h _ _ _ _ _ hr he
 rw[am o5]at hr ⊢;by_cases o6:re.op=6
 ·rw[ap o6]at hr ⊢;simp only at hr ⊢;by_cases q1:(bH c re.n).1<0
  ·rw[ap q1]at hr ⊢;exact no hr
  rw[am q1]at hr ⊢;by_cases q2:(bH c re.n).2<(bH c re.n).1\/(t.length:Int)<(bH c re.n).2
  ·rw[ap q2]at hr;cases hr
  rw[am q2]at hr ⊢;by_cases q3:t.length<i+(bH c re.n).2-(bH c re.n).1
  ·rw[ap q3]at hr ⊢;exact no hr
  rw[am q3]at hr ⊢;by_cases q4:dI t (bH c re.n).1 i ((bH c re.n).2-(bH c re.n).1).toNat=true
  ·rw[ap q4]at hr ⊢;exact h _ _ _ _ _ hr he
  ·rw[am q4]at hr ⊢;exact no hr
 rw[am o6]at hr ⊢;by_cases o7:re.op=7\/re.op=8
 ·rw[ap o7]at hr ⊢;cases hk:re.kids with
  |nil=>rw[hk]at hr;cases hr
  |cons aL l =>
   rw[hk]at hr;simp only at hr ⊢;cases hl:iR rec re.op aL i c st with
   |none=>rw[hl]at hr;cases hr
   |some y =>
    obtain⟨ro,s1⟩:=y;rw[hl]at hr;simp only at hr;have Xp:FB F F' st s1 ro (iR rec' re.op aL i c st):=by
     unfold iR at hl ⊢;by_cases p7:re.op=7
     ·rw[ap p7]at hl ⊢;cases hf:bS rec (.mk 0 aL 0 0 .nil) i c st with
      |none=>rw[hf]at hl;cases hl
      |some z =>
       obtain⟨o,s3⟩:=z;rw[hf]at hl;cases hl;obtain⟨a1,a2,a3⟩:=vj h hf;refine⟨a1,λhh=>⟨by rw[(a2 hh).1];rfl,(a2 hh).2⟩,λh0=>⟨λhle=>by rw[(a3 h0).1 hle],λaH=>?_⟩⟩;obtain⟨s4,q1,q2⟩:=(a3 h0).2 aH;exact⟨s4,by rw[q1];rfl,q2⟩
     ·rw[am p7]at hl ⊢;exact Cb (λk st o s2 hf _=>vj h hf) _ _ _ _ hl he
    refine Ic (k':=λr st'=>if st'.empty=true then some (true,st') else if re.neg=true then (match r with|some _=>some (false,st')|none=>rec' ai (.run next i c) st') else match r with|some d=>rec' ai (.run next i d) st'|none=>some (false,st')) Xp ?_ (λnj=>?_) (λs2 h2=>by simp only;rw[ap h2]) (λnj=>?_)
    ·generalize iR rec' re.op aL i c st=z;rcases z with _|⟨r,s⟩ <;> rfl
    ·rw[ap nj]at hr;cases hr;exact⟨rfl,rfl⟩
    ·rw[am (by rw[nj];simp)]at hr;try simp only
     rw[am (by rw[nj];simp)];by_cases hn:re.neg=true
     ·rw[ap hn]at hr ⊢;cases ro with
      |some d=>simp only at hr ⊢;cases hr;exact FA.no nj rfl
      |none=>exact h _ _ _ _ _ hr nj
     ·rw[am hn]at hr ⊢;cases ro with
      |some d=>exact h _ _ _ _ _ hr nj
      |none=>simp only at hr ⊢;cases hr;exact FA.no nj rfl
 rw[am o7]at hr ⊢;by_cases o9:re.op=9
 ·rw[ap o9]at hr ⊢;cases hk:re.kids with
  |nil=>rw[hk]at hr;cases hr
  |cons aL l =>
   rw[hk]at hr;simp only at hr ⊢;cases hf:bS rec (.mk 0 aL 0 0 .nil) i c st with
   |none=>rw[hf]at hr;cases hr
   |some y =>
    obtain⟨o,s1⟩:=y;rw[hf]at hr;simp only at hr;refine Ic (k':=λr st'=>if st'.empty=true then some (true,st') else match r with|some (e,d)=>rec' ai (.run next e d) st'|none=>some (false,st')) (vj h hf) ?_ (λnj=>?_) (λs2 h2=>by simp only;rw[ap h2]) (λnj=>?_)
    ·generalize bS rec' (.mk 0 aL 0 0 .nil) i c st=z;rcases z with _|⟨r,s⟩ <;> rfl
    ·rw[ap nj]at hr;cases hr;exact⟨rfl,rfl⟩
    ·rw[am (by rw[nj];simp)]at hr;try simp only
     rw[am (by rw[nj];simp)];cases o with
     |some p=>exact h _ _ _ _ _ hr nj
     |none=>simp only at hr ⊢;cases hr;exact FA.no nj rfl
 rw[am o9]at hr ⊢;by_cases rF:re.op=10
 ·rw[ap rF]at hr ⊢
  match hk:re.kids with
  |[]=>rw[hk]at hr;cases hr
  |[_]=>rw[hk]at hr;cases hr
  |yes::Z9::l=>rw[hk]at hr;exact h _ _ _ _ _ hr he
 rw[am rF]at hr ⊢;by_cases nb:re.op=11
 ·rw[ap nb]at hr ⊢;by_cases q:bN re.n t i=true
  ·rw[ap q]at hr ⊢;exact h _ _ _ _ _ hr he
  ·rw[am q]at hr ⊢;exact no hr
 rw[am nb]at hr ⊢;exact h _ _ _ _ _ hr he
theorem TA{re:Re}{k:Int}{i:Int}{c:aC}{st:bd} (hr:lR F rec ai re k next i c st=some (b,st')) (he:st.empty=false):FA F F' st st' b (lR F' rec' ai re k next i c st):=by
 unfold lR at hr ⊢;by_cases m2:re.mode=2
 ·rw[ap m2]at hr ⊢;cases hf:bS rec (.mk 1 (re.db 0) 0 0 .nil) i c st with
  |none=>rw[hf]at hr;cases hr
  |some y =>
   obtain⟨o,s1⟩:=y;rw[hf]at hr;simp only at hr;have Xp:=vj h hf;refine Ic (k':=λr st'=>match r with|some (e,d)=>rec' ai (.run next e d) st'|none=>some (st'.empty,st')) Xp ?_ (λnj=>?_) (λs2 h2=>by simp only;rw[h2]) (λnj=>?_)
   ·generalize bS rec' (.mk 1 (re.db 0) 0 0 .nil) i c st=z;rcases z with _|⟨r,s⟩ <;> rfl
   ·have:=(Xp.2.1 nj).1;subst this;simp only at hr;cases hr;exact⟨nj,rfl⟩
   ·cases o with
    |some p=>exact h _ _ _ _ _ hr nj
    |none =>
     simp only at hr ⊢;cases hr;rw[nj];exact FA.no nj rfl
 rw[am m2]at hr ⊢;by_cases c0:st.steps<0\/10000000000000<st.steps
 ·rw[ap c0]at hr;cases hr
 rw[am c0]at hr ⊢;simp only at hr ⊢;refine Ka TB (K:=λs1=>match re.kids with
   |[]=>none
   |aL::_=>if k<re.mn then rec ai (.run (.mk 0 aL 0 0 (.mk 2 re k i next)) i c) s1
    else if re.mode=1 then mz (rec ai (.run next i c) s1) (λs=>if re.mx=-1\/k<re.mx then rec ai (.run (.mk 0 aL 0 0 (.mk 2 re k i next)) i c) s else some (false,s))
    else mz (if re.mx=-1\/k<re.mx then rec ai (.run (.mk 0 aL 0 0 (.mk 2 re k i next)) i c) s1 else some (false,s1)) (λs=>rec ai (.run next i c) s))
  (K':=λs1=>match re.kids with
   |[]=>none
   |aL::_=>if k<re.mn then rec' ai (.run (.mk 0 aL 0 0 (.mk 2 re k i next)) i c) s1
    else if re.mode=1 then mz (rec' ai (.run next i c) s1) (λs=>if re.mx=-1\/k<re.mx then rec' ai (.run (.mk 0 aL 0 0 (.mk 2 re k i next)) i c) s else some (false,s))
    else mz (if re.mx=-1\/k<re.mx then rec' ai (.run (.mk 0 aL 0 0 (.mk 2 re k i next)) i c) s1 else some (false,s1)) (λs=>rec' ai (.run next i c) s)) he hr (λnj hk=>?_)
 generalize st.step F=s1 at *;cases PW:re.kids with
 |nil=>rw[PW]at hk;cases hk
 |cons aL l =>
  rw[PW]at hk;simp only at hk ⊢;by_cases c2:k<re.mn
  ·rw[ap c2]at hk ⊢;exact h _ _ _ _ _ hk nj
  rw[am c2]at hk ⊢;by_cases m1:re.mode=1
  ·rw[ap m1]at hk ⊢;cases hx:rec ai (.run next i c) s1 with
   |none=>rw[hx]at hk;cases hk
   |some y =>
    obtain⟨b1,s2⟩:=y;rw[hx]at hk;refine JO (h _ _ _ _ _ hx nj) hk λym AT=>?_;by_cases cM:re.mx=-1\/k<re.mx
    ·rw[ap cM]at AT ⊢;exact h _ _ _ _ _ AT ym
    ·rw[am cM]at AT ⊢;cases AT;exact FA.no ym rfl
  ·rw[am m1]at hk ⊢;by_cases cM:re.mx=-1\/k<re.mx
   ·rw[ap cM]at hk ⊢;cases hx:rec ai (.run (.mk 0 aL 0 0 (.mk 2 re k i next)) i c) s1 with
    |none=>rw[hx]at hk;cases hk
    |some y =>
     obtain⟨b1,s2⟩:=y;rw[hx]at hk;exact JO (h _ _ _ _ _ hx nj) hk λym AT=>h _ _ _ _ _ AT ym
   ·rw[am cM]at hk ⊢;exact JO (FA.no (F:=F) (F':=F') nj rfl) hk λym AT=>h _ _ _ _ _ AT ym
end fuel
theorem zB {t:List Int}{F F':Int} (TB:F'<=F):∀(n:Nat) (ai:Int) (task:Task) (st:bd) (b:Bool) (st':bd),dO t F n ai task st=some (b,st')->st.empty=false->FA F F' st st' b (dO t F' n ai task st)
 |0,_,_,_,_,_,hr,_=>by cases hr
 |n+1,ai,task,st,b,st',hr,he=>by
  have ih:=zB (t:=t) TB n;have hr:bL t F (dO t F n) ai task st=some (b,st'):=hr;show FA F F' st st' b (bL t F' (dO t F' n) ai task st);cases task with
  |run g i c =>
   simp only[bL]at hr ⊢;by_cases c0:i<0\/(t.length:Int)<i
   ·rw[ap c0]at hr;cases hr
   rw[am c0]at hr ⊢;cases g with
   |nil =>
    simp only at hr ⊢;split at hr
    ·rename_i hc;cases hr;exact⟨ady _,λhh=>(by have hh:st.empty=true:=hh;rw[he]at hh;cases hh),λh0=>⟨λ_=>by rw[ap hc],λhl=>by have hl:F'<st.steps:=hl;omega⟩⟩
    ·cases hr
   |mk kind re k cq next =>
    simp only at hr ⊢;by_cases k1:kind=1
    ·rw[ap k1]at hr ⊢;exact ih _ _ _ _ _ hr he
    rw[am k1]at hr ⊢;by_cases k2:kind=2
    ·rw[ap k2]at hr ⊢;by_cases q:re.mn<=k/\i=cq
     ·rw[ap q]at hr ⊢;cases hr;exact FA.no he rfl
     ·rw[am q]at hr ⊢;by_cases q2:k<0\/10000000000000<k
      ·rw[ap q2]at hr;cases hr
      ·rw[am q2]at hr ⊢;exact ih _ _ _ _ _ hr he
    rw[am k2]at hr ⊢;by_cases k3:kind=3
    ·rw[ap k3]at hr ⊢;by_cases q:1000000000<c.length
     ·rw[ap q]at hr;cases hr
     ·rw[am q]at hr ⊢;exact ih _ _ _ _ _ hr he
    rw[am k3]at hr ⊢;by_cases k4:kind=4
    ·rw[ap k4]at hr ⊢;by_cases q:i=cq
     ·rw[ap q]at hr ⊢;exact ih _ _ _ _ _ hr he
     ·rw[am q]at hr ⊢;cases hr;exact FA.no he rfl
    rw[am k4]at hr ⊢;exact ih _ _ _ _ _ hr he
  |rep g i c =>
   simp only[bL]at hr ⊢;by_cases c0:i<0\/(t.length:Int)<i
   ·rw[ap c0]at hr;cases hr
   rw[am c0]at hr ⊢;cases g with
   |nil=>cases hr
   |mk kind re k cq next=>exact TA TB ih hr he
  |node g i c =>
   simp only[bL]at hr ⊢;by_cases c0:i<0\/(t.length:Int)<i
   ·rw[ap c0]at hr;cases hr
   rw[am c0]at hr ⊢;cases g with
   |nil=>cases hr
   |mk kind re k cq next =>
    simp only at hr ⊢;by_cases o4:re.op=4
    ·rw[ap o4]at hr ⊢;exact ih _ _ _ _ _ hr he
    rw[am o4]at hr ⊢;by_cases q1:1000000000<re.set.length\/1000000000<re.kids.length\/1000000000<c.length
    ·rw[ap q1]at hr;cases hr
    rw[am q1]at hr ⊢;by_cases q2:st.steps<0\/10000000000000<st.steps
    ·rw[ap q2]at hr;cases hr
    rw[am q2]at hr ⊢;exact Ka TB (K:=λs=>dw t (dO t F n) ai re next i c s) (K':=λs=>dw t (dO t F' n) ai re next i c s) he hr λnj hk=>Rp ih hk nj
inductive ETask where
 |run (g:Goal) (i:Int) (c:aC)
 |rep (re:Re) (k:Int) (nx:Goal) (i:Int) (c:aC)
 |node (re:Re) (nx:Goal) (i:Int) (c:aC)
 |body (re:Re) (nx:Goal) (i:Int) (c:aC)
 |alt (l:List Re) (nx:Goal) (i:Int) (c:aC)
 |behind (re aL:Re) (nx:Goal) (i:Int) (c:aC) (j:Nat)
def bd.sub (st:bd):bd:=⟨st.steps,false,[],[]⟩
def bd.yN (st x:bd):bd:={ st with steps:=x.steps,empty:=x.empty }
def BJ (i:Int):Goal:=.mk 4 (.mk 0 [] [] 0 0 0 0 false) 0 i .nil
inductive eb (t:List Int) (F:Int):Int->ETask->bd->Bool->bd->Prop where
 |found {ai:Int}{i:Int}{c:aC}{st:bd} (h0:0<=i) (h1:i<=t.length) (hl:st.ah.length=st.ends.length) (oV:st.ends.length<2000000000000):eb t F ai (.run .nil i c) st (decide (0<=ai)&&decide (ai<=(st.ends.length:Int)+1)) { st with ends:=st.ends++[i],ah:=st.ah++[c] }
 |tree {ai kind k f i:Int}{re:Re}{nx:Goal}{c:aC}{st st':bd}{b:Bool} (oG:kind≠1) (AT:kind≠2) (KE:kind≠3) (hk4:kind≠4) (h0:0<=i) (h1:i<=t.length) (h:eb t F ai (.node re nx i c) st b st'):eb t F ai (.run (.mk kind re k f nx) i c) st b st'
 |JD {ai k f i:Int}{re:Re}{nx:Goal}{c:aC}{st st':bd}{b:Bool} (h0:0<=i) (h1:i<=t.length) (h:eb t F ai (.rep re k nx i c) st b st'):eb t F ai (.run (.mk 1 re k f nx) i c) st b st'
 |stay {ai k f i:Int}{re:Re}{nx:Goal}{c:aC}{st:bd} (h0:0<=i) (h1:i<=t.length) (hk:re.mn<=k) (hi:i=f):eb t F ai (.run (.mk 2 re k f nx) i c) st false st
 |iter {ai k f i:Int}{re:Re}{nx:Goal}{c:aC}{st st':bd}{b:Bool} (h0:0<=i) (h1:i<=t.length) (hk:¬(re.mn<=k/\i=f)) (hk0:0<=k) (oG:k<=10000000000000) (h:eb t F ai (.run (.mk 1 re (k+1) 0 nx) i c) st b st'):eb t F ai (.run (.mk 2 re k f nx) i c) st b st'
 |save {ai k f i:Int}{re:Re}{nx:Goal}{c:aC}{st st':bd}{b:Bool} (h0:0<=i) (h1:i<=t.length) (h:eb t F ai (.run nx i (kD c re.n f i)) st b st'):eb t F ai (.run (.mk 3 re k f nx) i c) st b st'
 |here {ai k f i:Int}{re:Re}{nx:Goal}{c:aC}{st st':bd}{b:Bool} (h0:0<=i) (h1:i<=t.length) (hi:i=f) (h:eb t F ai (.run nx i c) st b st'):eb t F ai (.run (.mk 4 re k f nx) i c) st b st'
 |gone {ai k f i:Int}{re:Re}{nx:Goal}{c:aC}{st:bd} (h0:0<=i) (h1:i<=t.length) (hi:i≠f):eb t F ai (.run (.mk 4 re k f nx) i c) st false st
 |yq {ai k i:Int}{re:Re}{nx:Goal}{c:aC}{st x:bd}{b:Bool} (hm:re.mode=2) (h:eb t F 1 (.run (.mk 1 (re.db 0) 0 0 .nil) i c) st.sub b x) (hx:x.empty=true):eb t F ai (.rep re k nx i c) st true (st.yN x)
 |CK {ai k i:Int}{re:Re}{nx:Goal}{c:aC}{st x:bd}{b:Bool} (hm:re.mode=2) (h:eb t F 1 (.run (.mk 1 (re.db 0) 0 0 .nil) i c) st.sub b x) (hx:x.empty=false) (he:x.ends=[]):eb t F ai (.rep re k nx i c) st false (st.yN x)
 |yK {ai k i e:Int}{re:Re}{nx:Goal}{c d:aC}{le:List Int}{ld:List aC}{st x st':bd}{b b':Bool} (hm:re.mode=2) (h:eb t F 1 (.run (.mk 1 (re.db 0) 0 0 .nil) i c) st.sub b x) (hx:x.empty=false) (he:x.ends=e::le) (hd:x.ah=d::ld) (h2:eb t F ai (.run nx e d) (st.yN x) b' st'):eb t F ai (.rep re k nx i c) st b' st'
 |Dw {ai k i:Int}{re:Re}{nx:Goal}{c:aC}{st:bd} (hm:re.mode≠2) (hs:0<=st.steps) (he:(st.step F).empty=true):eb t F ai (.rep re k nx i c) st true (st.step F)
 |D7 {ai k i:Int}{re aL:Re}{l:List Re}{nx:Goal}{c:aC}{st st':bd}{b:Bool} (hm:re.mode≠2) (hs:0<=st.steps) (he:(st.step F).empty=false) (iZ:re.kids=aL::l) (hk:k<re.mn) (h:eb t F ai (.run (.mk 0 aL 0 0 (.mk 2 re k i nx)) i c) (st.step F) b st'):eb t F ai (.rep re k nx i c) st b st'
 |wH {ai k i:Int}{re aL:Re}{l:List Re}{nx:Goal}{c:aC}{st st':bd}{b:Bool} (hm:re.mode≠2) (hs:0<=st.steps) (he:(st.step F).empty=false) (iZ:re.kids=aL::l) (hk:¬k<re.mn) (hx:¬(re.mx=-1\/k<re.mx)) (h:eb t F ai (.run nx i c) (st.step F) b st'):eb t F ai (.rep re k nx i c) st b st'
 |Kl {ai k i:Int}{re aL:Re}{l:List Re}{nx:Goal}{c:aC}{st st':bd} (hm:re.mode=1) (hs:0<=st.steps) (he:(st.step F).empty=false) (iZ:re.kids=aL::l) (hk:¬k<re.mn) (hx:re.mx=-1\/k<re.mx) (h:eb t F ai (.run nx i c) (st.step F) true st'):eb t F ai (.rep re k nx i c) st true st'
 |KW {ai k i:Int}{re aL:Re}{l:List Re}{nx:Goal}{c:aC}{st s2 st':bd}{b:Bool} (hm:re.mode=1) (hs:0<=st.steps) (he:(st.step F).empty=false) (iZ:re.kids=aL::l) (hk:¬k<re.mn) (hx:re.mx=-1\/k<re.mx) (h:eb t F ai (.run nx i c) (st.step F) false s2)
   (h2:eb t F ai (.run (.mk 0 aL 0 0 (.mk 2 re k i nx)) i c) s2 b st'):eb t F ai (.rep re k nx i c) st b st'
 |KA {ai k i:Int}{re aL:Re}{l:List Re}{nx:Goal}{c:aC}{st st':bd} (hm:re.mode≠2) (oa:re.mode≠1) (hs:0<=st.steps) (he:(st.step F).empty=false) (iZ:re.kids=aL::l) (hk:¬k<re.mn) (hx:re.mx=-1\/k<re.mx) (h:eb t F ai (.run (.mk 0 aL 0 0 (.mk 2 re k i nx)) i c) (st.step F) true st'):eb t F ai (.rep re k nx i c) st true st'
 |JH {ai k i:Int}{re aL:Re}{l:List Re}{nx:Goal}{c:aC}{st s2 st':bd}{b:Bool} (hm:re.mode≠2) (oa:re.mode≠1) (hs:0<=st.steps) (he:(st.step F).empty=false) (iZ:re.kids=aL::l) (hk:¬k<re.mn) (hx:re.mx=-1\/k<re.mx) (h:eb t F ai (.run (.mk 0 aL 0 0 (.mk 2 re k i nx)) i c) (st.step F) false s2)
   (h2:eb t F ai (.run nx i c) s2 b st'):eb t F ai (.rep re k nx i c) st b st'
 |yH {ai i:Int}{re:Re}{nx:Goal}{c:aC}{st st':bd}{b:Bool} (ho:re.op=4) (h0:0<=i) (h1:i<=t.length) (h:eb t F ai (.rep re 0 nx i c) st b st'):eb t F ai (.node re nx i c) st b st'
 |yL {ai i:Int}{re:Re}{nx:Goal}{c:aC}{st:bd} (ho:re.op≠4) (hs:0<=st.steps) (he:(st.step F).empty=true):eb t F ai (.node re nx i c) st true (st.step F)
 |node {ai i:Int}{re:Re}{nx:Goal}{c:aC}{st st':bd}{b:Bool} (ho:re.op≠4) (hs:0<=st.steps) (he:(st.step F).empty=false) (h:eb t F ai (.body re nx i c) (st.step F) b st'):eb t F ai (.node re nx i c) st b st'
 |empty {ai i:Int}{re:Re}{nx:Goal}{c:aC}{st st':bd}{b:Bool} (ho:re.op ∉ ([1,2,3,5,6,7,8,9,10,11]:List Int)) (h:eb t F ai (.run nx i c) st b st'):eb t F ai (.body re nx i c) st b st'
 |CN {ai i:Int}{re:Re}{nx:Goal}{c:aC}{st st':bd}{b:Bool} (ho:re.op=1) (hi:i<t.length) (hs:tv re.set (gQ t i)=true) (h:eb t F ai (.run nx (i+1) c) st b st'):eb t F ai (.body re nx i c) st b st'
 |Kq {ai i:Int}{re:Re}{nx:Goal}{c:aC}{st:bd} (ho:re.op=1) (hn:¬(i<t.length/\tv re.set (gQ t i)=true)):eb t F ai (.body re nx i c) st false st
 |cat {ai i:Int}{re:Re}{nx:Goal}{c:aC}{st st':bd}{b:Bool} (ho:re.op=2) (h:eb t F ai (.run (ft re.kids nx) i c) st b st'):eb t F ai (.body re nx i c) st b st'
 |alt {ai i:Int}{re:Re}{nx:Goal}{c:aC}{st st':bd}{b:Bool} (ho:re.op=3) (h:eb t F ai (.alt re.kids nx i c) st b st'):eb t F ai (.body re nx i c) st b st'
 |D9 {ai i:Int}{nx:Goal}{c:aC}{st:bd}:eb t F ai (.alt [] nx i c) st false st
 |Qc {ai i:Int}{aL:Re}{l:List Re}{nx:Goal}{c:aC}{st st':bd} (h:eb t F ai (.run (.mk 0 aL 0 0 nx) i c) st true st'):eb t F ai (.alt (aL::l) nx i c) st true st'
 |x5 {ai i:Int}{aL:Re}{l:List Re}{nx:Goal}{c:aC}{st s2 st':bd}{b:Bool} (h:eb t F ai (.run (.mk 0 aL 0 0 nx) i c) st false s2) (h2:eb t F ai (.alt l nx i c) s2 b st'):eb t F ai (.alt (aL::l) nx i c) st b st'
 |cap {ai i:Int}{re aL:Re}{l:List Re}{nx:Goal}{c:aC}{st st':bd}{b:Bool} (ho:re.op=5) (iZ:re.kids=aL::l) (h:eb t F ai (.run (.mk 0 aL 0 0 (.mk 3 re 0 i nx)) i c) st b st'):eb t F ai (.body re nx i c) st b st'
 |Dy {ai i:Int}{re:Re}{nx:Goal}{c:aC}{st:bd} (ho:re.op=6) (hx:(bH c re.n).1<0):eb t F ai (.body re nx i c) st false st
 |DS {ai i:Int}{re:Re}{nx:Goal}{c:aC}{st:bd} (ho:re.op=6) (hx:¬(bH c re.n).1<0) (dZ:¬(bH c re.n).2<(bH c re.n).1) (h2:(bH c re.n).2<=t.length) (hl:t.length<i+(bH c re.n).2-(bH c re.n).1):eb t F ai (.body re nx i c) st false st
 |Iz {ai i:Int}{re:Re}{nx:Goal}{c:aC}{st st':bd}{b:Bool} (ho:re.op=6) (hx:¬(bH c re.n).1<0) (dZ:¬(bH c re.n).2<(bH c re.n).1) (h2:(bH c re.n).2<=t.length) (hl:¬t.length<i+(bH c re.n).2-(bH c re.n).1) (hs:dI t (bH c re.n).1 i ((bH c re.n).2-(bH c re.n).1).toNat=true)
   (h:eb t F ai (.run nx (i+(bH c re.n).2-(bH c re.n).1) c) st b st'):eb t F ai (.body re nx i c) st b st'
 |OD {ai i:Int}{re:Re}{nx:Goal}{c:aC}{st:bd} (ho:re.op=6) (hx:¬(bH c re.n).1<0) (dZ:¬(bH c re.n).2<(bH c re.n).1) (h2:(bH c re.n).2<=t.length) (hl:¬t.length<i+(bH c re.n).2-(bH c re.n).1) (hs:dI t (bH c re.n).1 i ((bH c re.n).2-(bH c re.n).1).toNat=false):eb t F ai (.body re nx i c) st false st
 |z9 {ai i:Int}{re aL:Re}{l:List Re}{nx:Goal}{c:aC}{st x:bd}{b:Bool} (ho:re.op=7) (iZ:re.kids=aL::l) (h:eb t F 1 (.run (.mk 0 aL 0 0 .nil) i c) st.sub b x) (hx:x.empty=true):eb t F ai (.body re nx i c) st true (st.yN x)
 |DH {ai i:Int}{re aL:Re}{l:List Re}{nx:Goal}{c:aC}{st x:bd}{b:Bool} (ho:re.op=7) (iZ:re.kids=aL::l) (h:eb t F 1 (.run (.mk 0 aL 0 0 .nil) i c) st.sub b x) (hx:x.empty=false) (he:x.ends=[]) (hn:re.neg=false):eb t F ai (.body re nx i c) st false (st.yN x)
 |uu {ai i:Int}{re aL:Re}{l:List Re}{nx:Goal}{c:aC}{st x st':bd}{b b':Bool} (ho:re.op=7) (iZ:re.kids=aL::l) (h:eb t F 1 (.run (.mk 0 aL 0 0 .nil) i c) st.sub b x) (hx:x.empty=false) (he:x.ends=[]) (hn:re.neg=true) (h2:eb t F ai (.run nx i c) (st.yN x) b' st'):eb t F ai (.body re nx i c) st b' st'
 |AH {ai i e:Int}{re aL:Re}{l:List Re}{nx:Goal}{c d:aC}{le:List Int}{ld:List aC}{st x st':bd}{b b':Bool} (ho:re.op=7) (iZ:re.kids=aL::l) (h:eb t F 1 (.run (.mk 0 aL 0 0 .nil) i c) st.sub b x) (hx:x.empty=false) (he:x.ends=e::le) (hd:x.ah=d::ld) (hn:re.neg=false) (h2:eb t F ai (.run nx i d) (st.yN x) b' st'):eb t F ai (.body re nx i c) st b' st'
 |qN {ai i e:Int}{re aL:Re}{l:List Re}{nx:Goal}{c d:aC}{le:List Int}{ld:List aC}{st x:bd}{b:Bool} (ho:re.op=7) (iZ:re.kids=aL::l) (h:eb t F 1 (.run (.mk 0 aL 0 0 .nil) i c) st.sub b x) (hx:x.empty=false) (he:x.ends=e::le) (hd:x.ah=d::ld) (hn:re.neg=true):eb t F ai (.body re nx i c) st false (st.yN x)
 |behind {ai i:Int}{re aL:Re}{l:List Re}{nx:Goal}{c:aC}{st st':bd}{b:Bool} (ho:re.op=8) (iZ:re.kids=aL::l) (he:st.empty=false) (h:eb t F ai (.behind re aL nx i c (i.toNat+1)) st b st'):eb t F ai (.body re nx i c) st b st'
 |Rg {ai i:Int}{re aL:Re}{nx:Goal}{c:aC}{st:bd} (hn:re.neg=false):eb t F ai (.behind re aL nx i c 0) st false st
 |yC {ai i:Int}{re aL:Re}{nx:Goal}{c:aC}{st st':bd}{b:Bool} (hn:re.neg=true) (h:eb t F ai (.run nx i c) st b st'):eb t F ai (.behind re aL nx i c 0) st b st'
 |Jy {ai i:Int}{j:Nat}{re aL:Re}{nx:Goal}{c:aC}{st x:bd}{b:Bool} (h:eb t F 1 (.run (.mk 0 aL 0 0 (BJ i)) j c) st.sub b x) (hx:x.empty=true):eb t F ai (.behind re aL nx i c (j+1)) st true (st.yN x)
 |JQ {ai i e:Int}{j:Nat}{re aL:Re}{nx:Goal}{c d:aC}{le:List Int}{ld:List aC}{st x st':bd}{b b':Bool} (h:eb t F 1 (.run (.mk 0 aL 0 0 (BJ i)) j c) st.sub b x) (hx:x.empty=false) (he:x.ends=e::le) (hd:x.ah=d::ld) (hn:re.neg=false) (h2:eb t F ai (.run nx i d) (st.yN x) b' st'):eb t F ai (.behind re aL nx i c (j+1)) st b' st'
 |vS {ai i e:Int}{j:Nat}{re aL:Re}{nx:Goal}{c d:aC}{le:List Int}{ld:List aC}{st x:bd}{b:Bool} (h:eb t F 1 (.run (.mk 0 aL 0 0 (BJ i)) j c) st.sub b x) (hx:x.empty=false) (he:x.ends=e::le) (hd:x.ah=d::ld) (hn:re.neg=true):eb t F ai (.behind re aL nx i c (j+1)) st false (st.yN x)
 |Dd {ai i:Int}{j:Nat}{re aL:Re}{nx:Goal}{c:aC}{st x st':bd}{b b':Bool} (h:eb t F 1 (.run (.mk 0 aL 0 0 (BJ i)) j c) st.sub b x) (hx:x.empty=false) (he:x.ends=[]) (h2:eb t F ai (.behind re aL nx i c j) (st.yN x) b' st'):eb t F ai (.behind re aL nx i c (j+1)) st b' st'
 |DQ {ai i:Int}{re aL:Re}{l:List Re}{nx:Goal}{c:aC}{st x:bd}{b:Bool} (ho:re.op=9) (iZ:re.kids=aL::l) (h:eb t F 1 (.run (.mk 0 aL 0 0 .nil) i c) st.sub b x) (hx:x.empty=true):eb t F ai (.body re nx i c) st true (st.yN x)
 |Jr {ai i:Int}{re aL:Re}{l:List Re}{nx:Goal}{c:aC}{st x:bd}{b:Bool} (ho:re.op=9) (iZ:re.kids=aL::l) (h:eb t F 1 (.run (.mk 0 aL 0 0 .nil) i c) st.sub b x) (hx:x.empty=false) (he:x.ends=[]):eb t F ai (.body re nx i c) st false (st.yN x)
 |CY {ai i e:Int}{re aL:Re}{l:List Re}{nx:Goal}{c d:aC}{le:List Int}{ld:List aC}{st x st':bd}{b b':Bool} (ho:re.op=9) (iZ:re.kids=aL::l) (h:eb t F 1 (.run (.mk 0 aL 0 0 .nil) i c) st.sub b x) (hx:x.empty=false) (he:x.ends=e::le) (hd:x.ah=d::ld) (h2:eb t F ai (.run nx e d) (st.yN x) b' st'):eb t F ai (.body re nx i c) st b' st'
 |cond {ai i:Int}{re yes no:Re}{l:List Re}{nx:Goal}{c:aC}{st st':bd}{b:Bool} (ho:re.op=10) (iZ:re.kids=yes::no::l) (h:eb t F ai (.run (.mk 0 (if 0<=(bH c re.n).1 then yes else no) 0 0 nx) i c) st b st'):eb t F ai (.body re nx i c) st b st'
 |r9 {ai i:Int}{re:Re}{nx:Goal}{c:aC}{st st':bd}{b:Bool} (ho:re.op=11) (hh:bN re.n t i=true) (h:eb t F ai (.run nx i c) st b st'):eb t F ai (.body re nx i c) st b st'
 |vk {ai i:Int}{re:Re}{nx:Goal}{c:aC}{st:bd} (ho:re.op=11) (hh:bN re.n t i=false):eb t F ai (.body re nx i c) st false st
theorem mJ {rec:Int->Task->bd->Option (Bool×bd)}{g:Goal}{i:Int}{c:aC}{st s2:bd}{o:Option (Int×aC)} (h:bS rec g i c st=some (o,s2)) :
  ∃b x,rec 1 (.run g i c) st.sub=some (b,x)/\s2=st.yN x/\((x.empty=true/\o=none)\/(x.empty=false/\x.ends=[]/\o=none)\/(x.empty=false/\∃e le d ld,x.ends=e::le/\x.ah=d::ld/\o=some (e,d))):=by
 unfold bS at h;unfold bd.sub bd.yN;cases hx:rec 1 (.run g i c) ⟨st.steps,false,[],[]⟩ with
 |none=>rw[hx]at h;cases h
 |some y =>
  obtain⟨b,x⟩:=y;rw[hx]at h;simp only at h;refine⟨b,x,rfl,?_⟩;cases he:x.empty with
  |true =>
   rw[he,ap rfl]at h;cases h;exact⟨rfl,.inl ⟨rfl,rfl⟩⟩
  |false =>
   rw[he,am ad2]at h;cases hE:x.ends with
   |nil =>
    rw[hE]at h;cases h;exact⟨rfl,.inr (.inl ⟨rfl,rfl,rfl⟩)⟩
   |cons e le =>
    cases hD:x.ah with
    |nil=>rw[hE,hD]at h;cases h
    |cons d ld =>
     rw[hE,hD]at h;cases h;exact⟨rfl,.inr (.inr ⟨rfl,e,le,d,ld,rfl,rfl,rfl⟩)⟩
def Task.e:Task->ETask
 |.run g i c=>.run g i c
 |.rep (.mk _ re k _ nx) i c=>.rep re k nx i c
 |.rep .nil i c=>.alt [] .nil i c
 |.node (.mk _ re _ _ nx) i c=>.node re nx i c
 |.node .nil i c=>.alt [] .nil i c
section conv
variable {t:List Int}{F:Int}{rec:Int->Task->bd->Option (Bool×bd)} (dp:∀ai task st b st',rec ai task st=some (b,st')->eb t F ai task.e st b st')
variable{nx:Goal}{ai:Int}{st':bd}{b:Bool}
include dp
theorem Dg {ai:Int}{nx:Goal}{i:Int}{c:aC}:∀(l:List Re) (st st':bd) (b:Bool),lL (λk st=>rec ai (.run (.mk 0 k 0 0 nx) i c) st) l st=some (b,st')->eb t F ai (.alt l nx i c) st b st'
 |[],st,st',b,h=>by simp only[lL]at h;cases h;exact .D9
 |k::l,st,st',b,h=>by
  simp only[lL]at h;cases hx:rec ai (.run (.mk 0 k 0 0 nx) i c) st with
  |none=>rw[hx]at h;cases h
  |some y =>
   obtain⟨b1,s2⟩:=y;rw[hx]at h;have h1:=dp _ _ _ _ _ hx;cases b1 with
   |true=>simp only[mz]at h;cases h;exact .Qc h1
   |false=>simp only[mz]at h;exact .x5 h1 (Dg l s2 st' b h)
theorem AA {ai:Int}{re aL:Re}{nx:Goal}{i:Int}{c:aC}{b:Bool}{st':bd}:∀(j:Nat) (st s2:bd) (ro:Option aC),st.empty=false->cz (λk st=>bS rec (.mk 0 aL 0 0 (BJ i)) k c st) j st=some (ro,s2) ->
  (if s2.empty then some (true,s2) else if re.neg=true then (match ro with|some _=>some (false,s2)|none=>rec ai (.run nx i c) s2) else match ro with|some d=>rec ai (.run nx i d) s2|none=>some (false,s2))=some (b,st')->eb t F ai (.behind re aL nx i c j) st b st'
 |0,st,s2,ro,he,hb,h=>by
  simp only[cz]at hb;cases hb;rw[am (by rw[he];exact ad2)]at h;by_cases hn:re.neg=true
  ·rw[ap hn]at h;exact .yC hn (dp _ _ _ _ _ h)
  ·rw[am hn]at h;cases h;exact .Rg (by simpa using hn)
 |j+1,st,s2,ro,he,hb,h=>by
  simp only[cz]at hb;rw[am (by rw[he];exact ad2)]at hb;cases hf:bS rec (.mk 0 aL 0 0 (BJ i)) j c st with
  |none=>rw[hf]at hb;cases hb
  |some y =>
   obtain⟨o,s3⟩:=y;rw[hf]at hb;obtain⟨b1,x,k1,rfl,k2⟩:=mJ hf;have h1:=dp _ _ _ _ _ k1;rcases k2 with ⟨e1,rfl⟩|⟨e1,e2,rfl⟩|⟨e1,e,le,d,ld,e2,e3,rfl⟩
   ·have hae:(st.yN x).empty=true:=e1;simp only at hb;have NV:(ro,s2)=(none,st.yN x):=by
     cases j with
     |zero=>simp only[cz]at hb;exact(Option.some.inj hb).symm
     |succ j=>simp only[cz]at hb;rw[ap hae]at hb;exact(Option.some.inj hb).symm
    cases NV;rw[ap hae]at h;cases h;exact .Jy h1 e1
   ·simp only at hb;exact .Dd h1 e1 e2 (AA j _ s2 ro e1 hb h)
   ·simp only at hb;cases hb;rw[am (by show ¬x.empty=true;rw[e1];exact ad2)]at h;by_cases hn:re.neg=true
    ·rw[ap hn]at h;cases h;exact .vS h1 e1 e2 e3 hn
    ·rw[am hn]at h;exact .JQ h1 e1 e2 e3 (by simpa using hn) (dp _ _ _ _ _ h)
theorem OP{re:Re}{i:Int}{c:aC}{st:bd} (ni:st.empty=false) (h:dw t rec ai re nx i c st=some (b,st')):eb t F ai (.body re nx i c) st b st':=by
 unfold dw at h;by_cases o1:re.op=1
 ·rw[ap o1]at h;by_cases hc:i<t.length/\tv re.set (gQ t i)=true
  ·rw[ap hc]at h;exact .CN o1 hc.1 hc.2 (dp _ _ _ _ _ h)
  ·rw[am hc]at h;cases h;exact .Kq o1 hc
 rw[am o1]at h;by_cases o2:re.op=2
 ·rw[ap o2]at h;exact .cat o2 (dp _ _ _ _ _ h)
 rw[am o2]at h;by_cases o3:re.op=3
 ·rw[ap o3]at h;exact .alt o3 (Dg dp _ _ _ _ h)
 rw[am o3]at h;by_cases o5:re.op=5
 ·rw[ap o5]at h;cases hk:re.kids with
  |nil=>rw[hk]at h;cases h
  |cons k l=>rw[hk]at h;exact .cap o5 hk (dp _ _ _ _ _ h)
 rw[am o5]at h;by_cases o6:re.op=6
 ·rw[ap o6]at h;simp only at h;by_cases c1:(bH c re.n).1<0
  ·rw[ap c1]at h;cases h;exact .Dy o6 c1
  rw[am c1]at h;by_cases c2:(bH c re.n).2<(bH c re.n).1\/(t.length:Int)<(bH c re.n).2
  ·rw[ap c2]at h;cases h
  rw[am c2]at h;by_cases c3:t.length<i+(bH c re.n).2-(bH c re.n).1
  ·rw[ap c3]at h;cases h;exact .DS o6 c1 (by omega) (by omega) c3
  rw[am c3]at h;by_cases c4:dI t (bH c re.n).1 i ((bH c re.n).2-(bH c re.n).1).toNat=true
  ·rw[ap c4]at h;exact .Iz o6 c1 (by omega) (by omega) c3 c4 (dp _ _ _ _ _ h)
  ·rw[am c4]at h;cases h;exact .OD o6 c1 (by omega) (by omega) c3 (by simpa using c4)
 rw[am o6]at h;by_cases o7:re.op=7\/re.op=8
 ·rw[ap o7]at h;cases hk:re.kids with
  |nil=>rw[hk]at h;cases h
  |cons k l =>
   rw[hk]at h;simp only at h;cases hx:iR rec re.op k i c st with
   |none=>rw[hx]at h;cases h
   |some y =>
    obtain⟨ro,s2⟩:=y;rw[hx]at h;simp only at h;unfold iR at hx;by_cases p7:re.op=7
    ·rw[ap p7]at hx;cases hf:bS rec (.mk 0 k 0 0 .nil) i c st with
     |none=>rw[hf]at hx;cases hx
     |some z =>
      obtain⟨o,s3⟩:=z;rw[hf]at hx;cases hx;obtain⟨b1,x,k1,rfl,k2⟩:=mJ hf;have h1:=dp _ _ _ _ _ k1;rcases k2 with ⟨e1,rfl⟩|⟨e1,e2,rfl⟩|⟨e1,e,le,d,ld,e2,e3,rfl⟩
      ·rw[ap (show (st.yN x).empty=true from e1)]at h;cases h;exact .z9 p7 hk h1 e1
      ·rw[am (by show ¬x.empty=true;rw[e1];exact ad2)]at h;by_cases hn:re.neg=true
       ·rw[ap hn]at h;exact .uu p7 hk h1 e1 e2 hn (dp _ _ _ _ _ h)
       ·rw[am hn]at h;cases h;exact .DH p7 hk h1 e1 e2 (by simpa using hn)
      ·rw[am (by show ¬x.empty=true;rw[e1];exact ad2)]at h;by_cases hn:re.neg=true
       ·rw[ap hn]at h;cases h;exact .qN p7 hk h1 e1 e2 e3 hn
       ·rw[am hn]at h;exact .AH p7 hk h1 e1 e2 e3 (by simpa using hn) (dp _ _ _ _ _ h)
    ·rw[am p7]at hx;exact .behind (by omega) hk ni (AA dp _ _ _ _ ni hx h)
 rw[am o7]at h;by_cases o9:re.op=9
 ·rw[ap o9]at h;cases hk:re.kids with
  |nil=>rw[hk]at h;cases h
  |cons k l =>
   rw[hk]at h;simp only at h;cases hf:bS rec (.mk 0 k 0 0 .nil) i c st with
   |none=>rw[hf]at h;cases h
   |some z =>
    obtain⟨o,s3⟩:=z;rw[hf]at h;simp only at h;obtain⟨b1,x,k1,rfl,k2⟩:=mJ hf;have h1:=dp _ _ _ _ _ k1;rcases k2 with ⟨e1,rfl⟩|⟨e1,e2,rfl⟩|⟨e1,e,le,d,ld,e2,e3,rfl⟩
    ·rw[ap (show (st.yN x).empty=true from e1)]at h;cases h;exact .DQ o9 hk h1 e1
    ·rw[am (by show ¬x.empty=true;rw[e1];exact ad2)]at h;cases h;exact .Jr o9 hk h1 e1 e2
    ·rw[am (by show ¬x.empty=true;rw[e1];exact ad2)]at h;exact .CY o9 hk h1 e1 e2 e3 (dp _ _ _ _ _ h)
 rw[am o9]at h;by_cases rF:re.op=10
 ·rw[ap rF]at h
  match hk:re.kids with
  |[]=>rw[hk]at h;cases h
  |[_]=>rw[hk]at h;cases h
  |yes::no::l=>rw[hk]at h;exact .cond rF hk (dp _ _ _ _ _ h)
 rw[am rF]at h;by_cases nb:re.op=11
 ·rw[ap nb]at h;by_cases q:bN re.n t i=true
  ·rw[ap q]at h;exact .r9 nb q (dp _ _ _ _ _ h)
  ·rw[am q]at h;cases h;exact .vk nb (by simpa using q)
 rw[am nb]at h;exact .empty (by simp;omega) (dp _ _ _ _ _ h)
theorem QT{re:Re}{k:Int}{i:Int}{c:aC}{st:bd} (h:lR F rec ai re k nx i c st=some (b,st')):eb t F ai (.rep re k nx i c) st b st':=by
 unfold lR at h;by_cases hm:re.mode=2
 ·rw[ap hm]at h;cases hf:bS rec (.mk 1 (re.db 0) 0 0 .nil) i c st with
  |none=>rw[hf]at h;cases h
  |some z =>
   obtain⟨o,s3⟩:=z;rw[hf]at h;simp only at h;obtain⟨b1,x,k1,rfl,k2⟩:=mJ hf;have h1:=dp _ _ _ _ _ k1;rcases k2 with ⟨e1,rfl⟩|⟨e1,e2,rfl⟩|⟨e1,e,le,d,ld,e2,e3,rfl⟩
   ·simp only at h;obtain⟨rfl,rfl⟩:=Prod.mk.inj (Option.some.inj h);have:=eb.yq (ai:=ai) (k:=k) (nx:=nx) hm h1 e1;rwa [<- show (st.yN x).empty=true from e1]at this
   ·simp only at h;obtain⟨rfl,rfl⟩:=Prod.mk.inj (Option.some.inj h);have:=eb.CK (ai:=ai) (k:=k) (nx:=nx) hm h1 e1 e2;rwa [<- show (st.yN x).empty=false from e1]at this
   ·simp only at h;exact .yK hm h1 e1 e2 e3 (dp _ _ _ _ _ h)
 rw[am hm]at h;by_cases hs:st.steps<0\/10000000000000<st.steps
 ·rw[ap hs]at h;cases h
 rw[am hs]at h;simp only at h;have fW:0<=st.steps:=by omega
 by_cases he:(st.step F).empty=true
 ·rw[ap he]at h;cases h;exact .Dw hm fW he
 rw[am he]at h;have he:(st.step F).empty=false:=by simpa using he
 cases hk:re.kids with
 |nil=>rw[hk]at h;cases h
 |cons aL l =>
  rw[hk]at h;simp only at h;by_cases c2:k<re.mn
  ·rw[ap c2]at h;exact .D7 hm fW he hk c2 (dp _ _ _ _ _ h)
  rw[am c2]at h;by_cases m1:re.mode=1
  ·rw[ap m1]at h;cases hx:rec ai (.run nx i c) (st.step F) with
   |none=>rw[hx]at h;cases h
   |some y =>
    obtain⟨b1,s2⟩:=y;rw[hx]at h;have h1:=dp _ _ _ _ _ hx;by_cases cM:re.mx=-1\/k<re.mx
    ·cases b1 with
     |true=>simp only[mz]at h;cases h;exact .Kl m1 fW he hk c2 cM h1
     |false=>simp only[mz]at h;rw[ap cM]at h;exact .KW m1 fW he hk c2 cM h1 (dp _ _ _ _ _ h)
    ·cases b1 with
     |true=>simp only[mz]at h;cases h;exact .wH hm fW he hk c2 cM h1
     |false=>simp only[mz]at h;rw[am cM]at h;cases h;exact .wH hm fW he hk c2 cM h1
  ·rw[am m1]at h;by_cases cM:re.mx=-1\/k<re.mx
   ·rw[ap cM]at h;cases hx:rec ai (.run (.mk 0 aL 0 0 (.mk 2 re k i nx)) i c) (st.step F) with
    |none=>rw[hx]at h;cases h
    |some y =>
     obtain⟨b1,s2⟩:=y;rw[hx]at h;have h1:=dp _ _ _ _ _ hx;cases b1 with
     |true=>simp only[mz]at h;cases h;exact .KA hm m1 fW he hk c2 cM h1
     |false=>simp only[mz]at h;exact .JH hm m1 fW he hk c2 cM h1 (dp _ _ _ _ _ h)
   ·rw[am cM]at h;simp only[mz]at h;exact .wH hm fW he hk c2 cM (dp _ _ _ _ _ h)
end conv
variable{st:bd}{t:List Int}{task:ETask}{F:Int}{ai:Int}{st':bd}{b:Bool}
theorem HZ {t:List Int}{F:Int}:∀(n:Nat) (ai:Int) (task:Task) (st:bd) (b:Bool) (st':bd),dO t F n ai task st=some (b,st')->eb t F ai task.e st b st'
 |0,_,_,_,_,_,h=>by cases h
 |n+1,ai,task,st,b,st',h=>by
  have dp:=HZ (t:=t) (F:=F) n
  replace h:bL t F (dO t F n) ai task st=some (b,st'):=h
  cases task with
  |run g i c =>
   simp only[bL]at h;split at h
   ·cases h
   rename_i hi;have h0:0<=i:=by omega
   have h1:i<=t.length:=by omega
   cases g with
   |nil =>
    simp only at h;split at h
    ·rename_i hl;obtain⟨rfl,rfl⟩:=Prod.mk.inj (Option.some.inj h);exact .found h0 h1 hl.2 hl.1
    ·cases h
   |mk kind re k f nx =>
    simp only at h;by_cases k1:kind=1
    ·rw[ap k1]at h;subst k1;exact .JD h0 h1 (dp _ _ _ _ _ h)
    rw[am k1]at h;by_cases k2:kind=2
    ·rw[ap k2]at h;subst k2;by_cases q:re.mn<=k/\i=f
     ·rw[ap q]at h;cases h;exact .stay h0 h1 q.1 q.2
     rw[am q]at h;split at h
     ·cases h
     exact .iter h0 h1 q (by omega) (by omega) (dp _ _ _ _ _ h)
    rw[am k2]at h;by_cases k3:kind=3
    ·rw[ap k3]at h;subst k3;split at h
     ·cases h
     exact .save h0 h1 (dp _ _ _ _ _ h)
    rw[am k3]at h;by_cases k4:kind=4
    ·rw[ap k4]at h;subst k4;by_cases q:i=f
     ·rw[ap q]at h;exact .here h0 h1 q (dp _ _ _ _ _ h)
     ·rw[am q]at h;cases h;exact .gone h0 h1 q
    rw[am k4]at h;exact .tree k1 k2 k3 k4 h0 h1 (dp _ _ _ _ _ h)
  |rep g i c =>
   simp only[bL]at h;split at h
   ·cases h
   cases g with
   |nil=>cases h
   |mk kind re k f nx=>exact QT dp h
  |node g i c =>
   simp only[bL]at h;split at h
   ·cases h
   rename_i hi;cases g with
   |nil=>cases h
   |mk kind re k f nx =>
    simp only at h;by_cases o4:re.op=4
    ·rw[ap o4]at h;exact .yH o4 (by omega) (by omega) (dp _ _ _ _ _ h)
    rw[am o4]at h;split at h
    ·cases h
    split at h
    ·cases h
    rename_i hs;have fW:0<=st.steps:=by omega
    by_cases he:(st.step F).empty=true
    ·rw[ap he]at h;cases h;exact .yL o4 fW he
    ·rw[am he]at h;have he:(st.step F).empty=false:=by simpa using he
     exact .node o4 fW he (OP dp he h)
theorem eb.steps (h:eb t F ai task st b st'):st.steps<=st'.steps:=by
 induction h <;> (try simp only[bd.sub,bd.yN,bd.step]at *) <;> omega
theorem eb.full (h:eb t F ai task st b st'):st.empty=false->b=false->st'.empty=false:=by
 induction h with
 |found=>exact λh _=>h
 |tree _ _ _ _ _ _ _ ih=>exact ih
 |JD _ _ _ ih=>exact ih
 |stay=>exact λh _=>h
 |iter _ _ _ _ _ _ ih=>exact ih
 |save _ _ _ ih=>exact ih
 |here _ _ _ _ ih=>exact ih
 |gone=>exact λh _=>h
 |yq=>exact λ_ h=>by cases h
 |CK _ _ hx=>exact λ_ _=>hx
 |yK _ _ hx _ _ _ _ ie=>exact λ_ hb=>ie hx hb
 |Dw=>exact λ_ h=>by cases h
 |D7 _ _ he _ _ _ ih=>exact λ_ hb=>ih he hb
 |wH _ _ he _ _ _ _ ih=>exact λ_ hb=>ih he hb
 |Kl=>exact λ_ h=>by cases h
 |KW _ _ he _ _ _ _ _ ih ie=>exact λ_ hb=>ie (ih he rfl) hb
 |KA=>exact λ_ h=>by cases h
 |JH _ _ _ he _ _ _ _ _ ih ie=>exact λ_ hb=>ie (ih he rfl) hb
 |yH _ _ _ _ ih=>exact ih
 |yL=>exact λ_ h=>by cases h
 |node _ _ he _ ih=>exact λ_ hb=>ih he hb
 |empty _ _ ih=>exact ih
 |CN _ _ _ _ ih=>exact ih
 |Kq=>exact λh _=>h
 |cat _ _ ih=>exact ih
 |alt _ _ ih=>exact ih
 |D9=>exact λh _=>h
 |Qc=>exact λ_ h=>by cases h
 |x5 _ _ ih ie=>exact λh hb=>ie (ih h rfl) hb
 |cap _ _ _ ih=>exact ih
 |Dy=>exact λh _=>h
 |DS=>exact λh _=>h
 |Iz _ _ _ _ _ _ _ ih=>exact ih
 |OD=>exact λh _=>h
 |z9=>exact λ_ h=>by cases h
 |DH _ _ _ hx=>exact λ_ _=>hx
 |uu _ _ _ hx _ _ _ _ ie=>exact λ_ hb=>ie hx hb
 |AH _ _ _ hx _ _ _ _ _ ie=>exact λ_ hb=>ie hx hb
 |qN _ _ _ hx=>exact λ_ _=>hx
 |behind _ _ _ _ ih=>exact ih
 |Rg=>exact λh _=>h
 |yC _ _ ih=>exact ih
 |Jy=>exact λ_ h=>by cases h
 |JQ _ hx _ _ _ _ _ ie=>exact λ_ hb=>ie hx hb
 |vS _ hx=>exact λ_ _=>hx
 |Dd _ hx _ _ _ ie=>exact λ_ hb=>ie hx hb
 |DQ=>exact λ_ h=>by cases h
 |Jr _ _ _ hx=>exact λ_ _=>hx
 |CY _ _ _ hx _ _ _ _ ie=>exact λ_ hb=>ie hx hb
 |cond _ _ _ ih=>exact ih
 |r9 _ _ _ ih=>exact ih
 |vk=>exact λh _=>h
def Ext (st st':bd):Prop:=∃new mR,st'.ends=st.ends++new/\st'.ah=st.ah++mR/\mR.length=new.length
theorem Ext.refl (st:bd):Ext st st:=⟨[],[],by simp,by simp,rfl⟩
theorem Ext.trans {a b c:bd} (h:Ext a b) (k:Ext b c):Ext a c:=by obtain⟨n1,m1,a1,a2,a3⟩:=h;obtain⟨n2,m2,b1,b2,b3⟩:=k;exact⟨n1++n2,m1++m2,by rw[b1,a1,adX],by rw[b2,a2,adX],by rw[adx,adx,a3,b3]⟩
theorem eb.all (h:eb t F ai task st b st'):ai=-1->st.empty=false->st'.empty=false->b=false/\Ext st st':=by
 induction h with
 |found =>
  intro hm _ _;subst hm;exact⟨by simp,⟨_,_,rfl,rfl,rfl⟩⟩
 |tree _ _ _ _ _ _ _ ih=>exact ih
 |JD _ _ _ ih=>exact ih
 |stay=>exact λ_ _ _=>⟨rfl,.refl _⟩
 |iter _ _ _ _ _ _ ih=>exact ih
 |save _ _ _ ih=>exact ih
 |here _ _ _ _ ih=>exact ih
 |gone=>exact λ_ _ _=>⟨rfl,.refl _⟩
 |yq _ _ hx=>exact λ_ _ h=>absurd (h.symm.trans hx) ad2
 |CK=>exact λ_ _ _=>⟨rfl,.refl _⟩
 |yK _ _ hx _ _ _ _ ie=>exact λhm _ he=>ie hm hx he
 |Dw _ _ he=>exact λ_ _ h=>absurd (h.symm.trans he) ad2
 |D7 _ _ he _ _ _ ih=>exact λhm _ h=>ih hm he h
 |wH _ _ he _ _ _ _ ih=>exact λhm _ h=>ih hm he h
 |Kl _ _ he _ _ _ _ ih=>exact λhm _ h=>absurd (ih hm he h).1 (by decide)
 |KW _ _ he _ _ _ h1 _ ih ie =>
  intro hm _ h;have ym:=h1.full he rfl;have a:=ih hm he ym;have b:=ie hm ym h;exact⟨b.1,a.2.trans b.2⟩
 |KA _ _ _ he _ _ _ _ ih=>exact λhm _ h=>absurd (ih hm he h).1 (by decide)
 |JH _ _ _ he _ _ _ h1 _ ih ie =>
  intro hm _ h;have ym:=h1.full he rfl;have a:=ih hm he ym;have b:=ie hm ym h;exact⟨b.1,a.2.trans b.2⟩
 |yH _ _ _ _ ih=>exact ih
 |yL _ _ he=>exact λ_ _ h=>absurd (h.symm.trans he) ad2
 |node _ _ he _ ih=>exact λhm _ h=>ih hm he h
 |empty _ _ ih=>exact ih
 |CN _ _ _ _ ih=>exact ih
 |Kq=>exact λ_ _ _=>⟨rfl,.refl _⟩
 |cat _ _ ih=>exact ih
 |alt _ _ ih=>exact ih
 |D9=>exact λ_ _ _=>⟨rfl,.refl _⟩
 |Qc _ ih=>exact λhm h1 h=>absurd (ih hm h1 h).1 (by decide)
 |x5 h1 _ ih ie =>
  intro hm he h;have ym:=h1.full he rfl;have a:=ih hm he ym;have b:=ie hm ym h;exact⟨b.1,a.2.trans b.2⟩
 |cap _ _ _ ih=>exact ih
 |Dy=>exact λ_ _ _=>⟨rfl,.refl _⟩
 |DS=>exact λ_ _ _=>⟨rfl,.refl _⟩
 |Iz _ _ _ _ _ _ _ ih=>exact ih
 |OD=>exact λ_ _ _=>⟨rfl,.refl _⟩
 |z9 _ _ _ hx=>exact λ_ _ h=>absurd (h.symm.trans hx) ad2
 |DH=>exact λ_ _ _=>⟨rfl,.refl _⟩
 |uu _ _ _ hx _ _ _ _ ie=>exact λhm _ h=>ie hm hx h
 |AH _ _ _ hx _ _ _ _ _ ie=>exact λhm _ h=>ie hm hx h
 |qN=>exact λ_ _ _=>⟨rfl,.refl _⟩
 |behind _ _ _ _ ih=>exact ih
 |Rg=>exact λ_ _ _=>⟨rfl,.refl _⟩
 |yC _ _ ih=>exact ih
 |Jy _ hx=>exact λ_ _ h=>absurd (h.symm.trans hx) ad2
 |JQ _ hx _ _ _ _ _ ie=>exact λhm _ h=>ie hm hx h
 |vS=>exact λ_ _ _=>⟨rfl,.refl _⟩
 |Dd _ hx _ _ _ ie=>exact λhm _ h=>ie hm hx h
 |DQ _ _ _ hx=>exact λ_ _ h=>absurd (h.symm.trans hx) ad2
 |Jr=>exact λ_ _ _=>⟨rfl,.refl _⟩
 |CY _ _ _ hx _ _ _ _ ie=>exact λhm _ h=>ie hm hx h
 |cond _ _ _ ih=>exact ih
 |r9 _ _ _ ih=>exact ih
 |vk=>exact λ_ _ _=>⟨rfl,.refl _⟩
inductive Shape (t:List Int) (rec:Int->Task->bd->Option (Bool×bd)) (X:Int->Option (Bool×bd)) (st:bd):Prop where
 |yf (b:Bool) (s:bd) (h:∀m,X m=some (b,s)) (he:b=s.empty) (h1:s.ends=st.ends) (h2:s.ah=st.ah)
 |on (task:Task) (s:bd) (h:∀m,X m=rec m task s) (he:s.empty=false) (h1:s.ends=st.ends) (h2:s.ah=st.ah)
 |alts (l:List Re) (nx:Goal) (i:Int) (c:aC) (h:∀m,X m=lL (λk st=>rec m (.run (.mk 0 k 0 0 nx) i c) st) l st)
theorem jD {rec:Int->Task->bd->Option (Bool×bd)}{g:Goal}{i:Int}{c:aC}{s2:bd}{o:Option (Int×aC)} (h:bS rec g i c st=some (o,s2)):s2.ends=st.ends/\s2.ah=st.ah/\(s2.empty=true->o=none):=by
 obtain⟨b,x,_,rfl,h3⟩:=mJ h;refine⟨rfl,rfl,λhe=>?_⟩;rcases h3 with ⟨_,h⟩|⟨_,_,h⟩|⟨hx,_⟩
 ·exact h
 ·exact h
 ·rw[show x.empty=true from he]at hx;cases hx
theorem vg {f:Int->bd->Option (Option (Int×aC)×bd)} (hf:∀k st o s2,f k st=some (o,s2)->s2.ends=st.ends/\s2.ah=st.ah):∀(j:Nat) (st s2:bd) (r:Option aC),cz f j st=some (r,s2)->s2.ends=st.ends/\s2.ah=st.ah
 |0,st,s2,r,h=>by simp only[cz]at h;cases h;exact⟨rfl,rfl⟩
 |j+1,st,s2,r,h=>by
  simp only[cz]at h;split at h
  ·cases h;exact⟨rfl,rfl⟩
  ·cases hx:f j st with
   |none=>rw[hx]at h;cases h
   |some y =>
    obtain⟨o,s3⟩:=y;rw[hx]at h;have h1:=hf _ _ _ _ hx;cases o with
    |none =>
     simp only at h;have h2:=vg hf j s3 s2 r h;exact⟨h2.1.trans h1.1,h2.2.trans h1.2⟩
    |some z=>simp only at h;cases h;exact h1
theorem ID{rec:Int->Task->bd->Option (Bool×bd)}{re:Re}{nx:Goal}{i:Int}{c:aC}{r:Bool×bd} (he:st.empty=false) (h:dw t rec ai re nx i c st=some r):Shape t rec (λm=>dw t rec m re nx i c st) st:=by
 unfold dw at h ⊢;by_cases o1:re.op=1
 ·simp only[ap o1]at h ⊢;by_cases hc:i<t.length/\tv re.set (gQ t i)=true
  ·simp only[ap hc];exact .on _ st (λ_=>rfl) he rfl rfl
  ·simp only[am hc];exact .yf false st (λ_=>rfl) he.symm rfl rfl
 simp only[am o1]at h ⊢;by_cases o2:re.op=2
 ·simp only[ap o2];exact .on _ st (λ_=>rfl) he rfl rfl
 simp only[am o2]at h ⊢;by_cases o3:re.op=3
 ·simp only[ap o3];exact .alts _ _ _ _ (λ_=>rfl)
 simp only[am o3]at h ⊢;by_cases o5:re.op=5
 ·simp only[ap o5]at h ⊢;cases hk:re.kids with
  |nil=>rw[hk]at h;cases h
  |cons k l=>exact .on _ st (λ_=>rfl) he rfl rfl
 simp only[am o5]at h ⊢;by_cases o6:re.op=6
 ·simp only[ap o6]at h ⊢;by_cases c1:(bH c re.n).1<0
  ·simp only[ap c1];exact .yf false st (λ_=>rfl) he.symm rfl rfl
  simp only[am c1]at h ⊢;by_cases c2:(bH c re.n).2<(bH c re.n).1\/(t.length:Int)<(bH c re.n).2
  ·rw[ap c2]at h;cases h
  simp only[am c2]at h ⊢;by_cases c3:t.length<i+(bH c re.n).2-(bH c re.n).1
  ·simp only[ap c3];exact .yf false st (λ_=>rfl) he.symm rfl rfl
  simp only[am c3]at h ⊢;by_cases c4:dI t (bH c re.n).1 i ((bH c re.n).2-(bH c re.n).1).toNat=true
  ·simp only[ap c4];exact .on _ st (λ_=>rfl) he rfl rfl
  ·simp only[am c4];exact .yf false st (λ_=>rfl) he.symm rfl rfl
 simp only[am o6]at h ⊢;by_cases o7:re.op=7\/re.op=8
 ·simp only[ap o7]at h ⊢;cases hk:re.kids with
  |nil=>rw[hk]at h;cases h
  |cons k l =>
   rw[hk]at h;simp only at h ⊢;cases hx:iR rec re.op k i c st with
   |none=>rw[hx]at h;cases h
   |some y =>
    obtain⟨ro,s2⟩:=y;have lP:s2.ends=st.ends/\s2.ah=st.ah:=by
     unfold iR at hx;split at hx
     ·cases hf:bS rec (.mk 0 k 0 0 .nil) i c st with
      |none=>rw[hf]at hx;cases hx
      |some z =>
       obtain⟨o,s3⟩:=z;rw[hf]at hx;cases hx;exact⟨(jD hf).1,(jD hf).2.1⟩
     ·exact vg (λk st o s2 h=>⟨(jD h).1,(jD h).2.1⟩) _ _ _ _ hx
    simp only;by_cases e2:s2.empty=true
    ·simp only[ap e2];exact .yf true s2 (λ_=>rfl) e2.symm lP.1 lP.2
    have Tr:s2.empty=false:=by simpa using e2
    simp only[am e2];by_cases hn:re.neg=true
    ·simp only[ap hn];cases ro with
     |none=>exact .on _ s2 (λ_=>rfl) Tr lP.1 lP.2
     |some d=>exact .yf false s2 (λ_=>rfl) Tr.symm lP.1 lP.2
    ·simp only[am hn];cases ro with
     |none=>exact .yf false s2 (λ_=>rfl) Tr.symm lP.1 lP.2
     |some d=>exact .on _ s2 (λ_=>rfl) Tr lP.1 lP.2
 simp only[am o7]at h ⊢;by_cases o9:re.op=9
 ·simp only[ap o9]at h ⊢;cases hk:re.kids with
  |nil=>rw[hk]at h;cases h
  |cons k l =>
   rw[hk]at h;simp only at h ⊢;cases hf:bS rec (.mk 0 k 0 0 .nil) i c st with
   |none=>rw[hf]at h;cases h
   |some z =>
    obtain⟨o,s2⟩:=z;obtain⟨f1,f2,_⟩:=jD hf;simp only;by_cases e2:s2.empty=true
    ·simp only[ap e2];exact .yf true s2 (λ_=>rfl) e2.symm f1 f2
    have Tr:s2.empty=false:=by simpa using e2
    simp only[am e2];cases o with
    |none=>exact .yf false s2 (λ_=>rfl) Tr.symm f1 f2
    |some x=>exact .on _ s2 (λ_=>rfl) Tr f1 f2
 simp only[am o9]at h ⊢;by_cases rF:re.op=10
 ·simp only[ap rF]at h ⊢
  match hk:re.kids with
  |[]=>rw[hk]at h;cases h
  |[_]=>rw[hk]at h;cases h
  |yes::no::l=>exact .on _ st (λ_=>rfl) he rfl rfl
 simp only[am rF]at h ⊢;by_cases nb:re.op=11
 ·simp only[ap nb]at h ⊢;by_cases q:bN re.n t i=true
  ·simp only[ap q];exact .on _ st (λ_=>rfl) he rfl rfl
  ·simp only[am q];exact .yf false st (λ_=>rfl) he.symm rfl rfl
 simp only[am nb]at h ⊢;exact .on _ st (λ_=>rfl) he rfl rfl
def Ql (N:Nat) (st':bd) (o:Option (Bool×bd)):Prop :=
 (st'.ends.length<N/\o=some (false,st'))\/(N<=st'.ends.length/\∃s2,o=some (true,s2)/\s2.empty=false/\s2.steps<=st'.steps/\s2.ends=st'.ends.take N/\s2.ah=st'.ah.take N)
theorem Ep {α:Type}{l new:List α}{N:Nat} (h:N<=l.length):(l++new).take N=l.take N:=by rw[List.take_append_of_le_length h]
theorem Dp {N:Nat}{a a':Option (Bool×bd)}{k k':bd->Option (Bool×bd)} (fS:st.ah.length=st.ends.length) (VG:st.empty=false)
  (ha0:∀b1 s1,a=some (b1,s1)->s1.empty=false->b1=false/\Ext st s1) (Vx:∀s1,a=some (false,s1)->s1.empty=false) (ha:∀s1,a=some (false,s1)->s1.empty=false->Ql N s1 a')
  (hk0:∀s1 b2 s2,k s1=some (b2,s2)->s1.empty=false->s2.empty=false->b2=false/\Ext s1 s2/\s1.steps<=s2.steps)
  (hk:∀s1 s2,k s1=some (false,s2)->s1.empty=false->s2.empty=false->s1.ends.length<N->s1.ah.length=s1.ends.length->Ql N s2 (k' s1)) (h:mz a k=some (b,st')) (he:st'.empty=false):Ql N st' (mz a' k'):=by
 cases hx:a with
 |none=>rw[hx]at h;cases h
 |some y =>
  obtain⟨b1,s1⟩:=y;rw[hx]at h;cases b1 with
  |true =>
   simp only[mz]at h;obtain⟨rfl,rfl⟩:=Prod.mk.inj (Option.some.inj h);exact absurd (ha0 _ _ hx he).1 (by decide)
  |false =>
   simp only[mz]at h;have nj:=Vx _ hx;obtain⟨_,new,mR,n1,n2,n3⟩:=ha0 _ _ hx nj;have Wk:s1.ah.length=s1.ends.length:=by rw[n1,n2,adx,adx,n3,fS]
   obtain⟨rfl,⟨V2,Sw,m1,m2,m3⟩,aU⟩:=hk0 _ _ _ h nj he;rcases ha _ hx nj with ⟨c1,c2⟩|⟨c1,s2,c2,c3,c4,c5,c6⟩
   ·rw[c2];simp only[mz];exact hk _ _ h nj he c1 Wk
   ·rw[c2];simp only[mz];exact .inr ⟨by rw[m1,adx];omega,s2,rfl,c3,by omega,by rw[c5,m1,Ep c1],by rw[c6,m2,Ep (by omega)]⟩
section pfx
variable {t:List Int}{F:Int}{N:Nat}{rec:Int->Task->bd->Option (Bool×bd)} (dp:∀task st b st',rec (-1) task st=some (b,st')->st.empty=false->st'.empty=false->st.ends.length<N->st.ah.length=st.ends.length->Ql N st' (rec N task st)) (qy:∀ai task st b st',rec ai task st=some (b,st')->eb t F ai task.e st b st')
variable{nx:Goal}{st':bd}{b:Bool}
include dp qy
theorem JS {nx:Goal}{i:Int}{c:aC}:∀(l:List Re) (st st':bd) (b:Bool),lL (λk st=>rec (-1) (.run (.mk 0 k 0 0 nx) i c) st) l st=some (b,st')->st.empty=false->st'.empty=false->st.ends.length<N->st.ah.length=st.ends.length ->
  Ql N st' (lL (λk st=>rec N (.run (.mk 0 k 0 0 nx) i c) st) l st)
 |[],st,st',b,h,he,lu,hN,hc=>by simp only[lL]at h ⊢;obtain⟨_,rfl⟩:=Prod.mk.inj (Option.some.inj h);exact .inl ⟨hN,rfl⟩
 |aL::l,st,st',b,h,he,lu,hN,hc=>by simp only[lL]at h ⊢;refine Dp hc he (λb1 s1 hx h1=>(qy _ _ _ _ _ hx).all rfl he h1) (λs1 hx=>(qy _ _ _ _ _ hx).full he rfl) (λs1 hx h1=>dp _ _ _ _ hx he h1 hN hc) (λs1 b2 s2 hx h1 h2=>?_) (λs1 s2 hx h1 h2 h3 h4=>JS l s1 s2 false hx h1 h2 h3 h4) h lu;have hE:=Dg (t:=t) (F:=F) (λai task st b st' h=>qy ai task st b st' h) l s1 s2 b2 hx;exact⟨(hE.all rfl h1 h2).1,(hE.all rfl h1 h2).2,hE.steps⟩
theorem PA {re:Re}{i:Int}{c:aC}{st:bd} (h:dw t rec (-1) re nx i c st=some (b,st')) (he:st.empty=false) (lu:st'.empty=false) (hN:st.ends.length<N) (hc:st.ah.length=st.ends.length):Ql N st' (dw t rec N re nx i c st):=by
 cases ID he h with
 |yf b0 s hX hb h1 h2 =>
  rw[hX (-1)]at h;obtain⟨rfl,rfl⟩:=Prod.mk.inj (Option.some.inj h);rw[hX N];rw[lu]at hb;subst hb;exact .inl ⟨by rw[h1];exact hN,rfl⟩
 |on task s hX hs h1 h2 =>
  rw[hX (-1)]at h;rw[hX N];exact dp _ _ _ _ h hs lu (by rw[h1];exact hN) (by rw[h1,h2];exact hc)
 |alts l nx i c hX =>
  rw[hX (-1)]at h;rw[hX N];exact JS dp qy l st st' b h he lu hN hc
theorem Ri {re:Re}{k:Int}{i:Int}{c:aC}{st:bd} (h:lR F rec (-1) re k nx i c st=some (b,st')) (he:st.empty=false) (lu:st'.empty=false) (hN:st.ends.length<N) (hc:st.ah.length=st.ends.length):Ql N st' (lR F rec N re k nx i c st):=by
 unfold lR at h ⊢;by_cases hm:re.mode=2
 ·simp only[ap hm]at h ⊢;cases hf:bS rec (.mk 1 (re.db 0) 0 0 .nil) i c st with
  |none=>rw[hf]at h;cases h
  |some z =>
   obtain⟨o,s3⟩:=z;rw[hf]at h;obtain⟨f1,f2,f3⟩:=jD hf;simp only at h ⊢;cases o with
   |none =>
    simp only at h ⊢;obtain⟨rfl,rfl⟩:=Prod.mk.inj (Option.some.inj h);rw[lu];exact .inl ⟨by rw[f1];exact hN,rfl⟩
   |some x =>
    obtain⟨e,d⟩:=x;simp only at h ⊢;have UN:s3.empty=false:=by
     cases hh:s3.empty with
     |false=>rfl
     |true=>cases f3 hh
    exact dp _ _ _ _ h UN lu (by rw[f1];exact hN) (by rw[f1,f2];exact hc)
 simp only[am hm]at h ⊢;by_cases hs:st.steps<0\/10000000000000<st.steps
 ·rw[ap hs]at h;cases h
 simp only[am hs]at h ⊢;by_cases ni:(st.step F).empty=true
 ·rw[ap ni]at h;cases h;rw[ni]at lu;cases lu
 simp only[am ni]at h ⊢;have ni:(st.step F).empty=false:=by simpa using ni
 have R6:(st.step F).ends.length<N:=hN;have x0:(st.step F).ah.length=(st.step F).ends.length:=hc;cases hk:re.kids with
 |nil=>rw[hk]at h;cases h
 |cons aL l =>
  rw[hk]at h;simp only at h ⊢;have one:∀{task:Task}{s1 s2:bd}{b2:Bool},rec (-1) task s1=some (b2,s2)->s1.empty=false->s2.empty=false->b2=false/\Ext s1 s2/\s1.steps<=s2.steps:=λhx h1 h2=>by have hE:=qy _ _ _ _ _ hx;exact⟨(hE.all rfl h1 h2).1,(hE.all rfl h1 h2).2,hE.steps⟩
  by_cases c2:k<re.mn
  ·simp only[ap c2]at h ⊢;exact dp _ _ _ _ h ni lu R6 x0
  simp only[am c2]at h ⊢;by_cases m1:re.mode=1
  ·simp only[ap m1]at h ⊢;by_cases cM:re.mx=-1\/k<re.mx
   ·simp only[ap cM]at h ⊢;exact Dp x0 ni (λb1 s1 hx h1=>⟨(one hx ni h1).1,(one hx ni h1).2.1⟩) (λs1 hx=>(qy _ _ _ _ _ hx).full ni rfl) (λs1 hx h1=>dp _ _ _ _ hx ni h1 R6 x0) (λs1 b2 s2 hx h1 h2=>one hx h1 h2) (λs1 s2 hx h1 h2 h3 h4=>dp _ _ _ _ hx h1 h2 h3 h4) h lu
   ·simp only[am cM]at h ⊢;exact Dp x0 ni (λb1 s1 hx h1=>⟨(one hx ni h1).1,(one hx ni h1).2.1⟩) (λs1 hx=>(qy _ _ _ _ _ hx).full ni rfl) (λs1 hx h1=>dp _ _ _ _ hx ni h1 R6 x0)
     (λs1 b2 s2 hx h1 h2=>by obtain⟨rfl,rfl⟩:=Prod.mk.inj (Option.some.inj hx);exact⟨rfl,.refl _,ady _⟩) (λs1 s2 hx h1 h2 h3 h4=>by obtain⟨_,rfl⟩:=Prod.mk.inj (Option.some.inj hx);exact .inl ⟨h3,rfl⟩) h lu
  ·simp only[am m1]at h ⊢;by_cases cM:re.mx=-1\/k<re.mx
   ·simp only[ap cM]at h ⊢;exact Dp x0 ni (λb1 s1 hx h1=>⟨(one hx ni h1).1,(one hx ni h1).2.1⟩) (λs1 hx=>(qy _ _ _ _ _ hx).full ni rfl) (λs1 hx h1=>dp _ _ _ _ hx ni h1 R6 x0) (λs1 b2 s2 hx h1 h2=>one hx h1 h2) (λs1 s2 hx h1 h2 h3 h4=>dp _ _ _ _ hx h1 h2 h3 h4) h lu
   ·simp only[am cM,mz]at h ⊢;exact dp _ _ _ _ h ni lu R6 x0
end pfx
variable{f':Int}{t:List Int}{f:Int}{p:iF}{ai:Int}{i:Int}
theorem y4 {t:List Int}{F:Int}{N:Nat}:∀(n:Nat) (task:Task) (st:bd) (b:Bool) (st':bd),dO t F n (-1) task st=some (b,st')->st.empty=false->st'.empty=false->st.ends.length<N->st.ah.length=st.ends.length->Ql N st' (dO t F n N task st)
 |0,_,_,_,_,h,_,_,_,_=>by cases h
 |n+1,task,st,b,st',h,he,lu,hN,hc=>by
  have dp:=y4 (t:=t) (F:=F) (N:=N) n;have qy:=HZ (t:=t) (F:=F) n
  replace h:bL t F (dO t F n) (-1) task st=some (b,st'):=h
  show Ql N st' (bL t F (dO t F n) N task st);cases task with
  |run g i c =>
   simp only[bL]at h ⊢;by_cases hi:i<0\/(t.length:Int)<i
   ·rw[ap hi]at h;cases h
   simp only[am hi]at h ⊢;cases g with
   |nil =>
    simp only at h ⊢;by_cases hl:st.ends.length<2000000000000/\st.ah.length=st.ends.length
    ·simp only[ap hl]at h ⊢;obtain⟨_,rfl⟩:=Prod.mk.inj (Option.some.inj h);by_cases aH:(st.ends++[i]).length<N
     ·refine .inl ⟨aH,?_⟩;have:decide ((N:Int)<=(st.ends.length:Int)+1)=false:=adl (by rw[adx]at aH;simp at aH;omega);rw[this,Bool.and_false]
     ·have hlN:N=st.ends.length+1:=by rw[adx]at aH;simp at aH;omega
      refine .inr ⟨by show N<=(st.ends++[i]).length;omega,_,?_,lu,ady _,?_,?_⟩
      ·have h1:decide ((N:Int)<=(st.ends.length:Int)+1)=true:=adu (by omega);have h0:decide ((0:Int)<=(N:Int))=true:=adu (by omega);rw[h1,h0];rfl
      ·exact(adT (by rw[adx];simp;omega)).symm
      ·exact(adT (by rw[adx];simp;omega)).symm
    ·rw[am hl]at h;cases h
   |mk kind re k f nx =>
    simp only at h ⊢;by_cases k1:kind=1
    ·simp only[ap k1]at h ⊢;exact dp _ _ _ _ h he lu hN hc
    simp only[am k1]at h ⊢;by_cases k2:kind=2
    ·simp only[ap k2]at h ⊢;by_cases q:re.mn<=k/\i=f
     ·simp only[ap q]at h ⊢;obtain⟨_,rfl⟩:=Prod.mk.inj (Option.some.inj h);exact .inl ⟨hN,rfl⟩
     simp only[am q]at h ⊢;by_cases q2:k<0\/10000000000000<k
     ·rw[ap q2]at h;cases h
     simp only[am q2]at h ⊢;exact dp _ _ _ _ h he lu hN hc
    simp only[am k2]at h ⊢;by_cases k3:kind=3
    ·simp only[ap k3]at h ⊢;by_cases q2:1000000000<c.length
     ·rw[ap q2]at h;cases h
     simp only[am q2]at h ⊢;exact dp _ _ _ _ h he lu hN hc
    simp only[am k3]at h ⊢;by_cases k4:kind=4
    ·simp only[ap k4]at h ⊢;by_cases q:i=f
     ·simp only[ap q]at h ⊢;exact dp _ _ _ _ h he lu hN hc
     ·simp only[am q]at h ⊢;obtain⟨_,rfl⟩:=Prod.mk.inj (Option.some.inj h);exact .inl ⟨hN,rfl⟩
    simp only[am k4]at h ⊢;exact dp _ _ _ _ h he lu hN hc
  |rep g i c =>
   simp only[bL]at h ⊢;by_cases hi:i<0\/(t.length:Int)<i
   ·rw[ap hi]at h;cases h
   simp only[am hi]at h ⊢;cases g with
   |nil=>cases h
   |mk kind re k f nx=>exact Ri dp qy h he lu hN hc
  |node g i c =>
   simp only[bL]at h ⊢;by_cases hi:i<0\/(t.length:Int)<i
   ·rw[ap hi]at h;cases h
   simp only[am hi]at h ⊢;cases g with
   |nil=>cases h
   |mk kind re k f nx =>
    simp only at h ⊢;by_cases o4:re.op=4
    ·simp only[ap o4]at h ⊢;exact dp _ _ _ _ h he lu hN hc
    simp only[am o4]at h ⊢;by_cases q1:1000000000<re.set.length\/1000000000<re.kids.length\/1000000000<c.length
    ·rw[ap q1]at h;cases h
    simp only[am q1]at h ⊢;by_cases q2:st.steps<0\/10000000000000<st.steps
    ·rw[ap q2]at h;cases h
    simp only[am q2]at h ⊢;by_cases ni:(st.step F).empty=true
    ·rw[ap ni]at h;cases h;rw[ni]at lu;cases lu
    ·simp only[am ni]at h ⊢;exact PA dp qy h (by simpa using ni) lu hN hc
theorem GJ (h:dW p t f=0) (h0:0<=f') (h1:f'<=1099511627776):dW p t f'=0:=by obtain⟨v1,v2,v3,_,_⟩:=im h;unfold dW;rw[am (by rw[v1];simp),am (by omega),am (by rw[v3];simp),am (by omega)]
theorem jw (h:fv p t i ai f=0):dW p t f=0/\0<=i/\i<=t.length/\(cO p t i ai f).2.empty=false:=by
 unfold fv at h;by_cases c1:dW p t f≠0
 ·rw[ap c1]at h;exact absurd h c1
 rw[am c1]at h;have c1:dW p t f=0:=by simpa using c1
 by_cases c2:i<0\/(t.length:Int)<i
 ·rw[ap c2]at h;omega
 rw[am c2]at h;by_cases c3:(cO p t i ai f).2.empty=true
 ·rw[ap c3]at h;omega
 ·exact⟨c1,by omega,by omega,by simpa using c3⟩
theorem rT (hv:dW p t f=0) (h0:0<=i) (h1:i<=t.length) (he:(cO p t i ai f).2.empty=false):fv p t i ai f=0:=by unfold fv;rw[am (by rw[hv];simp),am (by omega),am (by rw[he];simp)]
theorem sX (hv:dW p t f=0) (h0:0<=i) (h1:i<=t.length):∃n b x,cO p t i ai f=(b,x)/\dO t f n ai (.run (.mk 0 p.re 0 0 .nil) i (lD p)) ⟨0,false,[],[]⟩=some (b,x):=by obtain⟨n,e,_⟩:=gE (ai:=ai) hv h0 h1;exact⟨n,_,_,rfl,e⟩
theorem GG (h:fv p t i ai f=0):0<=jy p t i ai f/\jy p t i ai f<=f:=by obtain⟨hv,h0,h1,he⟩:=jw h;obtain⟨k,_,e2⟩:=gE (ai:=ai) hv h0 h1;unfold jy;rw[ap h];have h2:=e2.empty;rw[he]at h2;have:=of_decide_eq_false h2.symm;have:=e2.s0;simp only at this;omega
theorem MM (h:fv p t i ai f=0) (hN:jy p t i ai f<=f') (UX:f'<=1099511627776):fv p t i ai f'=0/\allM p t i ai f'=allM p t i ai f/\jy p t i ai f'=jy p t i ai f/\cO p t i ai f'=cO p t i ai f:=by
 obtain⟨hv,h0,h1,he⟩:=jw h;obtain⟨fW,eC⟩:=GG h;have hNe:jy p t i ai f=(cO p t i ai f).2.steps:=by unfold jy;rw[ap h]
 have RW:=GJ (f':=f') hv (by omega) UX;obtain⟨k,b,x,hx,e1⟩:=sX (ai:=ai) hv h0 h1;obtain⟨k',b',x',nK,e1'⟩:=sX (ai:=ai) RW h0 h1;rw[hx]at hNe he;have zS:cO p t i ai f'=cO p t i ai f:=by
  rw[hx,nK];rcases Int.le_total f' f with hle|hle
  ·have XC:=(zB hle k ai _ _ _ _ e1 rfl).2.2 (by show (0:Int)<=_;omega);have:=(uG (XC.1 (by show x.steps<=f';have:jy p t i ai f=x.steps:=hNe;omega)))
   rw[<- nK];exact this
  ·have XC:=(zB hle k' ai _ _ _ _ e1' rfl).2.2 (by show (0:Int)<=_;omega);by_cases aU:x'.steps<=f
   ·have:=uG (XC.1 aU);rw[<- hx];exact this.symm
   ·obtain⟨s2,q1,q2⟩:=XC.2 (by omega);have h3:cO p t i ai f=(true,s2):=uG q1;rw[hx]at h3;cases h3;rw[show x.empty=true from q2]at he;cases he
 have hE:fv p t i ai f'=0:=rT RW h0 h1 (by rw[zS,hx];exact he);refine⟨hE,?_,?_,zS⟩
 ·unfold allM;rw[ap hE,ap h,zS]
 ·unfold jy;rw[ap hE,ap h,zS]
theorem C7 (h:fv p t i ai f=0):(cO p t i ai f).2.ah.length=(cO p t i ai f).2.ends.length:=by obtain⟨hv,h0,h1,he⟩:=jw h;obtain⟨k,_,e2⟩:=gE (ai:=ai) hv h0 h1;obtain⟨new,mR,z1,z2,z3,_⟩:=e2.more;rw[z1,z2];simpa using z3
theorem GH {α β:Type}:∀(n:Nat) (a:List α) (b:List β),(a.take n).zip (b.take n)=(a.zip b).take n
 |0,a,b=>by simp
 |n+1,[],b=>by simp
 |n+1,x::a,[]=>by simp
 |n+1,x::a,y::b=>by simp [GH n a b]
theorem I2{n:Nat} (hn:1<=n) (h:fv p t i (-1) f=0):fv p t i n f=0/\allM p t i n f=(allM p t i (-1) f).take n/\jy p t i n f<=jy p t i (-1) f:=by
 obtain⟨hv,h0,h1,he⟩:=jw h;obtain⟨k,b,x,hx,e1⟩:=sX (ai:=-1) hv h0 h1;have fS:=C7 h;have DJ:allM p t i (-1) f=x.ends.zip x.ah:=by unfold allM;rw[ap h,hx]
 have R6:jy p t i (-1) f=x.steps:=by unfold jy;rw[ap h,hx]
 rw[hx]at he fS;simp only at he fS;rcases y4 (N:=n) k _ _ _ _ e1 rfl he (by show 0<n;omega) rfl with ⟨c1,c2⟩|⟨c1,s2,c2,c3,c4,c5,c6⟩
 ·have MV:cO p t i n f=(false,x):=uG c2;have hE:fv p t i n f=0:=rT hv h0 h1 (by rw[MV];exact he);refine⟨hE,?_,?_⟩
  ·rw[DJ];unfold allM;rw[ap hE,MV];exact(adT (by rw[List.length_zip,fS];simp;omega)).symm
  ·rw[R6];unfold jy;rw[ap hE,MV];exact ady _
 ·have MV:cO p t i n f=(true,s2):=uG c2;have hE:fv p t i n f=0:=rT hv h0 h1 (by rw[MV];exact c3);refine⟨hE,?_,?_⟩
  ·rw[DJ];unfold allM;rw[ap hE,MV];show s2.ends.zip s2.ah=_;rw[c5,c6,GH]
  ·rw[R6];unfold jy;rw[ap hE,MV];exact c4
theorem xx (ah:Int) (h0:0<=ah) (h1:ah<=9):dR ⟨.mk 0 [] [] 0 0 0 0 false,ah,false⟩=0:=by
 have hw:Re.whole (.mk 0 [] [] 0 0 0 0 false) ah (fi false)=true:=by rw[Re.whole,Re.aQ];refine⟨?_,λk hk=>by simp [Re.kids]at hk⟩;simp [b9,Re.op,Re.kids,Re.set,Re.mn,Re.mx,Re.mode,Re.n,Re.neg,cR]
 have hs:Re.size (.mk 0 [] [] 0 0 0 0 false)=1:=by rfl
 have hd:Re.depth (.mk 0 [] [] 0 0 0 0 false)=1:=by rfl
 unfold dR;rw[am (by show ¬(256<Re.size (.mk 0 [] [] 0 0 0 0 false)\/24<Re.depth (.mk 0 [] [] 0 0 0 0 false));rw[hs,hd];omega),am];show ¬(ah<0\/9<ah\/Re.whole (.mk 0 [] [] 0 0 0 0 false) ah (fi false)=false);rw[hw];simp;omega
theorem Je (ah:Int) (h0:0<=ah) (h1:ah<=9) (F:Int) (Y7:1<=F) (VB:F<=1099511627776):fv ⟨.mk 0 [] [] 0 0 0 0 false,ah,false⟩ [] 0 (-1) F=0:=by
 have Th:dW ⟨.mk 0 [] [] 0 0 0 0 false,ah,false⟩ [] F=0:=by unfold dW;rw[am (by rw[xx ah h0 h1];simp),am (by simp),am (by simp),am (by omega)]
 refine rT Th (ady _) (by simp) ?_;obtain⟨n,e1,e2⟩:=gE (ai:=-1) Th (ady 0) (by simp);have hlen:(lD ⟨.mk 0 [] [] 0 0 0 0 false,ah,false⟩).length<=9:=by unfold lD;rw[List.length_replicate];show ah.toNat<=9;omega
 have qy:dO [] F 3 (-1) (.run (.mk 0 (.mk 0 [] [] 0 0 0 0 false) 0 0 .nil) 0 (lD ⟨.mk 0 [] [] 0 0 0 0 false,ah,false⟩)) ⟨0,false,[],[]⟩=some (false,⟨1,false,[0],[lD ⟨.mk 0 [] [] 0 0 0 0 false,ah,false⟩]⟩):=by
  generalize lD ⟨.mk 0 [] [] 0 0 0 0 false,ah,false⟩=c at *;show bL [] F (dO [] F 2) (-1) (.run (.mk 0 (.mk 0 [] [] 0 0 0 0 false) 0 0 .nil) 0 c) ⟨0,false,[],[]⟩=_;have aU:(bd.step F ⟨0,false,[],[]⟩)=⟨1,false,[],[]⟩:=by simp only[bd.step,adY];congr 1;exact adl (by omega)
  simp only[bL];rw[am (by simp),am (by decide),am (by decide),am (by decide),am (by decide)];show bL [] F (dO [] F 1) (-1) (.node (.mk 0 (.mk 0 [] [] 0 0 0 0 false) 0 0 .nil) 0 c) ⟨0,false,[],[]⟩=_;simp only[bL];rw[am (by simp),am (by simp [Re.op]),am (by simp [Re.set,Re.kids];omega),am (by simp),aU,am (by simp)];unfold dw;rw[am (show ¬(Re.mk 0 [] [] 0 0 0 0 false).op=1 by decide),am (show ¬(Re.mk 0 [] [] 0 0 0 0 false).op=2 by decide),am (show ¬(Re.mk 0 [] [] 0 0 0 0 false).op=3 by decide),am (show ¬(Re.mk 0 [] [] 0 0 0 0 false).op=5 by decide),am (show ¬(Re.mk 0 [] [] 0 0 0 0 false).op=6 by decide),am (show ¬((Re.mk 0 [] [] 0 0 0 0 false).op=7\/(Re.mk 0 [] [] 0 0 0 0 false).op=8) by decide),am (show ¬(Re.mk 0 [] [] 0 0 0 0 false).op=9 by decide),am (show ¬(Re.mk 0 [] [] 0 0 0 0 false).op=10 by decide),am (show ¬(Re.mk 0 [] [] 0 0 0 0 false).op=11 by decide)];show bL [] F (dO [] F 0) (-1) (.run .nil 0 c) ⟨1,false,[],[]⟩=_;simp only[bL];rw[am (by simp),ap (by simp)];simp
 have hX:cO ⟨.mk 0 [] [] 0 0 0 0 false,ah,false⟩ [] 0 (-1) F=_:=uG qy;rw[hX]
theorem BK {p:iF}{t:List Int}{F:Int} (hv:dR p=0) (hf:p.re.eN=true) (Y7:1<=F) (VB:F<=1099511627776):∀n,n<=t.length+1->(∀i:Int,0<=i->i<=(dX p t F n).2.length->fv (dX p t F n).1 (dX p t F n).2 i (-1) F=0)/\(dX p t F n).1.re.eN=true/\(dX p t F n).2.length<=t.length
 |0,_=>by
  obtain⟨_,_,k3,k4,_⟩:=eL hv;refine⟨λi h0 h1=>?_,by rfl,Nat.zero_le _⟩;have h1:i<=0:=by simpa [dX]using h1
  have:i=0:=by omega
  subst this;exact Je p.ah k3 k4 F Y7 VB
 |n+1,hn=>by
  simp only[dX];by_cases c:(List.range (n+1)).all (tO p t n F)=true
  ·rw[ap c];refine⟨λi h0 h1=>?_,hf,by rw[ad5];omega⟩;have hl:(t.take n).length=n:=by rw[ad5];omega
   have h1:i<=((t.take n).length:Int):=h1;rw[hl]at h1;have:=List.all_eq_true.1 c i.toNat (List.mem_range.2 (by omega));unfold tO at this;have:=of_decide_eq_true this;rwa [show ((i.toNat:Nat):Int)=i by omega]at this
  ·rw[am c];exact BK hv hf Y7 VB n (by omega)
end Go.Proofs.Ytphfjhaffbfpfaa
