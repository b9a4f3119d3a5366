/- A part of the proof (E2 E3 E4 K11 K16 K13 K20 K21 K22 K23 K14 K14B K14C K14D K14E K24 K25 K39 K83). -/
import Derived.Test.YtfmdmlfhigocaaaOR15
import Derived.Test.YtfmdmlfhigocaaaOR23
import Derived.Test.YtfmdmlfhigocaaaOR25
import Derived.Test.YtfmdmlfhigocaaaOR26
import Derived.Test.YtfmdmlfhigocaaaOR31
import Derived.Test.YtfmdmlfhigocaaaOR46
set_option linter.unusedSimpArgs false
set_option linter.unusedVariables false
set_option maxRecDepth 100000
set_option maxHeartbeats 80000000
namespace Go.Proofs.Ytfmdmlfhigocaaa
open Go.VL Go.Proofs.Try
variable{task:ETask}{st':bh}{most:Int}{t:List Int}{b:Bool}{st:bh}{rec:Int->Task->bh->Option (Bool×bh)}
theorem eB.full{F:Int} (h:eB t F most task st b st'):st.empty=false->b=false->st'.empty=false:=by
 induction h with
 |found=>exact λh _=>h
 |tree _ _ _ _ _ _ _ ih=>exact ih
 |PM _ _ _ ih=>exact ih
 |stay=>exact λh _=>h
 |iter _ _ _ _ _ _ ih=>exact ih
 |save _ _ _ ih=>exact ih
 |here _ _ _ _ ih=>exact ih
 |gone=>exact λh _=>h
 |CJ=>exact λ_ h=>by cases h
 |IS _ _ hx=>exact λ_ _=>hx
 |Di _ _ hx _ _ _ _ gy=>exact λ_ hb=>gy hx hb
 |IK=>exact λ_ h=>by cases h
 |IJ _ _ he _ _ _ ih=>exact λ_ hb=>ih he hb
 |Ar _ _ he _ _ _ _ ih=>exact λ_ hb=>ih he hb
 |Fj=>exact λ_ h=>by cases h
 |D8 _ _ he _ _ _ _ _ ih gy=>exact λ_ hb=>gy (ih he rfl) hb
 |OK=>exact λ_ h=>by cases h
 |PC _ _ _ he _ _ _ _ _ ih gy=>exact λ_ hb=>gy (ih he rfl) hb
 |C5 _ _ _ _ ih=>exact ih
 |Dg=>exact λ_ h=>by cases h
 |node _ _ he _ ih=>exact λ_ hb=>ih he hb
 |empty _ _ ih=>exact ih
 |IB _ _ _ _ ih=>exact ih
 |OL=>exact λh _=>h
 |cat _ _ ih=>exact ih
 |alt _ _ ih=>exact ih
 |IW=>exact λh _=>h
 |U2=>exact λ_ h=>by cases h
 |Cp _ _ ih gy=>exact λh hb=>gy (ih h rfl) hb
 |cap _ _ _ ih=>exact ih
 |Jn=>exact λh _=>h
 |Iz=>exact λh _=>h
 |Nx _ _ _ _ _ _ _ ih=>exact ih
 |Un=>exact λh _=>h
 |yN=>exact λ_ h=>by cases h
 |CH _ _ _ hx=>exact λ_ _=>hx
 |sk _ _ _ hx _ _ _ _ gy=>exact λ_ hb=>gy hx hb
 |zj _ _ _ hx _ _ _ _ _ gy=>exact λ_ hb=>gy hx hb
 |qg _ _ _ hx=>exact λ_ _=>hx
 |behind _ _ _ _ ih=>exact ih
 |VI=>exact λh _=>h
 |CN _ _ ih=>exact ih
 |Pc=>exact λ_ h=>by cases h
 |Pn _ hx _ _ _ _ _ gy=>exact λ_ hb=>gy hx hb
 |y4 _ hx=>exact λ_ _=>hx
 |Jd _ hx _ _ _ gy=>exact λ_ hb=>gy hx hb
 |Ia=>exact λ_ h=>by cases h
 |Oq _ _ _ hx=>exact λ_ _=>hx
 |Jb _ _ _ hx _ _ _ _ gy=>exact λ_ hb=>gy hx hb
 |cond _ _ _ ih=>exact ih
 |vZ _ _ _ ih=>exact ih
 |zx=>exact λh _=>h
def Ext (st st':bh):Prop:=∃new oP,st'.ends=st.ends++new/\st'.ai=st.ai++oP/\oP.length=new.length
theorem Ext.refl (st:bh):Ext st st:=⟨[],[],aj,aj,rfl⟩
theorem Ext.trans {a b c:bh} (h:Ext a b) (k:Ext b c):Ext a c:=by obtain⟨n1,m1,a1,a2,a3⟩:=h;obtain⟨n2,m2,b1,b2,b3⟩:=k;exact⟨n1++n2,m1++m2,by rw[b1,a1,ajq],by rw[b2,a2,ajq],by rw[ai6,ai6,a3,b3]⟩
theorem eB.all{F:Int} (h:eB t F most task st b st'):most=-1->st.empty=false->st'.empty=false->b=false/\Ext st st':=by
 induction h with
 |found =>
  intro hm _ _;subst hm;exact⟨aj,⟨_,_,rfl,rfl,rfl⟩⟩
 |tree _ _ _ _ _ _ _ ih=>exact ih
 |PM _ _ _ ih=>exact ih
 |stay=>exact λ_ _ _=>⟨rfl,.refl _⟩
 |iter _ _ _ _ _ _ ih=>exact ih
 |save _ _ _ ih=>exact ih
 |here _ _ _ _ ih=>exact ih
 |gone=>exact λ_ _ _=>⟨rfl,.refl _⟩
 |CJ _ _ hx=>exact λ_ _ h=>absurd (h.symm.trans hx) Bool.false_ne_true
 |IS=>exact λ_ _ _=>⟨rfl,.refl _⟩
 |Di _ _ hx _ _ _ _ gy=>exact λhm _ he=>gy hm hx he
 |IK _ _ he=>exact λ_ _ h=>absurd (h.symm.trans he) Bool.false_ne_true
 |IJ _ _ he _ _ _ ih=>exact λhm _ h=>ih hm he h
 |Ar _ _ he _ _ _ _ ih=>exact λhm _ h=>ih hm he h
 |Fj _ _ he _ _ _ _ ih=>exact λhm _ h=>absurd (ih hm he h).1 aJ
 |D8 _ _ he _ _ _ h1 _ ih gy =>
  intro hm _ h;have Kw:=h1.full he rfl;have a:=ih hm he Kw;have b:=gy hm Kw h;exact⟨b.1,a.2.trans b.2⟩
 |OK _ _ _ he _ _ _ _ ih=>exact λhm _ h=>absurd (ih hm he h).1 aJ
 |PC _ _ _ he _ _ _ h1 _ ih gy =>
  intro hm _ h;have Kw:=h1.full he rfl;have a:=ih hm he Kw;have b:=gy hm Kw h;exact⟨b.1,a.2.trans b.2⟩
 |C5 _ _ _ _ ih=>exact ih
 |Dg _ _ he=>exact λ_ _ h=>absurd (h.symm.trans he) Bool.false_ne_true
 |node _ _ he _ ih=>exact λhm _ h=>ih hm he h
 |empty _ _ ih=>exact ih
 |IB _ _ _ _ ih=>exact ih
 |OL=>exact λ_ _ _=>⟨rfl,.refl _⟩
 |cat _ _ ih=>exact ih
 |alt _ _ ih=>exact ih
 |IW=>exact λ_ _ _=>⟨rfl,.refl _⟩
 |U2 _ ih=>exact λhm h1 h=>absurd (ih hm h1 h).1 aJ
 |Cp h1 _ ih gy =>
  intro hm he h;have Kw:=h1.full he rfl;have a:=ih hm he Kw;have b:=gy hm Kw h;exact⟨b.1,a.2.trans b.2⟩
 |cap _ _ _ ih=>exact ih
 |Jn=>exact λ_ _ _=>⟨rfl,.refl _⟩
 |Iz=>exact λ_ _ _=>⟨rfl,.refl _⟩
 |Nx _ _ _ _ _ _ _ ih=>exact ih
 |Un=>exact λ_ _ _=>⟨rfl,.refl _⟩
 |yN _ _ _ hx=>exact λ_ _ h=>absurd (h.symm.trans hx) Bool.false_ne_true
 |CH=>exact λ_ _ _=>⟨rfl,.refl _⟩
 |sk _ _ _ hx _ _ _ _ gy=>exact λhm _ h=>gy hm hx h
 |zj _ _ _ hx _ _ _ _ _ gy=>exact λhm _ h=>gy hm hx h
 |qg=>exact λ_ _ _=>⟨rfl,.refl _⟩
 |behind _ _ _ _ ih=>exact ih
 |VI=>exact λ_ _ _=>⟨rfl,.refl _⟩
 |CN _ _ ih=>exact ih
 |Pc _ hx=>exact λ_ _ h=>absurd (h.symm.trans hx) Bool.false_ne_true
 |Pn _ hx _ _ _ _ _ gy=>exact λhm _ h=>gy hm hx h
 |y4=>exact λ_ _ _=>⟨rfl,.refl _⟩
 |Jd _ hx _ _ _ gy=>exact λhm _ h=>gy hm hx h
 |Ia _ _ _ hx=>exact λ_ _ h=>absurd (h.symm.trans hx) Bool.false_ne_true
 |Oq=>exact λ_ _ _=>⟨rfl,.refl _⟩
 |Jb _ _ _ hx _ _ _ _ gy=>exact λhm _ h=>gy hm hx h
 |cond _ _ _ ih=>exact ih
 |vZ _ _ _ ih=>exact ih
 |zx=>exact λ_ _ _=>⟨rfl,.refl _⟩
inductive Shape (t:List Int) (rec:Int->Task->bh->Option (Bool×bh)) (X:Int->Option (Bool×bh)) (st:bh):Prop where
 |Ed (b:Bool) (s:bh) (h:∀m,X m=some (b,s)) (he:b=s.empty) (h1:s.ends=st.ends) (h2:s.ai=st.ai)
 |on (task:Task) (s:bh) (h:∀m,X m=rec m task s) (he:s.empty=false) (h1:s.ends=st.ends) (h2:s.ai=st.ai)
 |alts (l:List Re) (nx:Goal) (i:Int) (c:aD) (h:∀m,X m=po (λk st=>rec m (.run (.mk 0 k 0 0 nx) i c) st) l st)
theorem lz{g:Goal}{i:Int}{c:aD}{s2:bh}{o:Option (Int×aD)} (h:cF rec g i c st=some (o,s2)):s2.ends=st.ends/\s2.ai=st.ai/\(s2.empty=true->o=none):=by
 obtain⟨b,x,_,rfl,h3⟩:=pf h;refine⟨rfl,rfl,λhe=>?_⟩;rcases h3 with ⟨_,h⟩|⟨_,_,h⟩|⟨hx,_⟩
 ·exact h
 ·exact h
 ·rw[show x.empty=true from he]at hx;cases hx
theorem yX {f:Int->bh->Option (Option (Int×aD)×bh)} (hf:∀k st o s2,f k st=some (o,s2)->s2.ends=st.ends/\s2.ai=st.ai):∀(j:Nat) (st s2:bh) (r:Option aD),dh f j st=some (r,s2)->s2.ends=st.ends/\s2.ai=st.ai
 |0,st,s2,r,h=>by simp only[dh]at h;cases h;exact⟨rfl,rfl⟩
 |j+1,st,s2,r,h=>by
  simp only[dh]at h;split at h
  ·cases h;exact⟨rfl,rfl⟩
  ·cases hx:f j st with
   |none=>rw[hx]at h;cases h
   |some y =>
    obtain⟨o,s3⟩:=y;rw[hx]at h;have h1:=hf _ _ _ _ hx;cases o with
    |none =>
     simp only at h;have h2:=yX hf j s3 s2 r h;exact⟨h2.1.trans h1.1,h2.2.trans h1.2⟩
    |some z=>simp only at h;cases h;exact h1
theorem Oy{re:Re}{nx:Goal}{i:Int}{c:aD}{r:Bool×bh} (he:st.empty=false) (h:dI t rec most re nx i c st=some r):Shape t rec (λm=>dI t rec m re nx i c st) st:=by
 unfold dI at h ⊢;by_cases o1:re.op=1
 ·simp only[be o1]at h ⊢;by_cases hc:i<t.length/\E7 re.set (oo t i)=true
  ·simp only[be hc];exact .on _ st (λ_=>rfl) he rfl rfl
  ·simp only[ap hc];exact .Ed false st (λ_=>rfl) he.symm rfl rfl
 simp only[ap o1]at h ⊢;by_cases o2:re.op=2
 ·simp only[be o2];exact .on _ st (λ_=>rfl) he rfl rfl
 simp only[ap o2]at h ⊢;by_cases o3:re.op=3
 ·simp only[be o3];exact .alts _ _ _ _ (λ_=>rfl)
 simp only[ap o3]at h ⊢;by_cases o5:re.op=5
 ·simp only[be o5]at h ⊢;cases hk:re.kids with
  |nil=>rw[hk]at h;cases h
  |cons k l=>exact .on _ st (λ_=>rfl) he rfl rfl
 simp only[ap o5]at h ⊢;by_cases o6:re.op=6
 ·simp only[be o6]at h ⊢;by_cases c1:(bG c re.n).1<0
  ·simp only[be c1];exact .Ed false st (λ_=>rfl) he.symm rfl rfl
  simp only[ap c1]at h ⊢;by_cases c2:(bG c re.n).2<(bG c re.n).1\/(t.length:Int)<(bG c re.n).2
  ·rw[be c2]at h;cases h
  simp only[ap c2]at h ⊢;by_cases c3:t.length<i+(bG c re.n).2-(bG c re.n).1
  ·simp only[be c3];exact .Ed false st (λ_=>rfl) he.symm rfl rfl
  simp only[ap c3]at h ⊢;by_cases c4:ph t (bG c re.n).1 i ((bG c re.n).2-(bG c re.n).1).toNat=true
  ·simp only[be c4];exact .on _ st (λ_=>rfl) he rfl rfl
  ·simp only[ap c4];exact .Ed false st (λ_=>rfl) he.symm rfl rfl
 simp only[ap o6]at h ⊢;by_cases o7:re.op=7\/re.op=8
 ·simp only[be o7]at h ⊢;cases hk:re.kids with
  |nil=>rw[hk]at h;cases h
  |cons k l =>
   rw[hk]at h;simp only at h ⊢;cases hx:lG rec re.op k i c st with
   |none=>rw[hx]at h;cases h
   |some y =>
    obtain⟨ro,s2⟩:=y;have fU:s2.ends=st.ends/\s2.ai=st.ai:=by
     unfold lG at hx;split at hx
     ·cases hf:cF rec (.mk 0 k 0 0 .nil) i c st with
      |none=>rw[hf]at hx;cases hx
      |some z =>
       obtain⟨o,s3⟩:=z;rw[hf]at hx;cases hx;exact⟨(lz hf).1,(lz hf).2.1⟩
     ·exact yX (λk st o s2 h=>⟨(lz h).1,(lz h).2.1⟩) _ _ _ _ hx
    simp only;by_cases e2:s2.empty=true
    ·simp only[be e2];exact .Ed true s2 (λ_=>rfl) e2.symm fU.1 fU.2
    have Yf:s2.empty=false:=by simpa using e2
    simp only[ap e2];by_cases hn:re.neg=true
    ·simp only[be hn];cases ro with
     |none=>exact .on _ s2 (λ_=>rfl) Yf fU.1 fU.2
     |some d=>exact .Ed false s2 (λ_=>rfl) Yf.symm fU.1 fU.2
    ·simp only[ap hn];cases ro with
     |none=>exact .Ed false s2 (λ_=>rfl) Yf.symm fU.1 fU.2
     |some d=>exact .on _ s2 (λ_=>rfl) Yf fU.1 fU.2
 simp only[ap o7]at h ⊢;by_cases o9:re.op=9
 ·simp only[be o9]at h ⊢;cases hk:re.kids with
  |nil=>rw[hk]at h;cases h
  |cons k l =>
   rw[hk]at h;simp only at h ⊢;cases hf:cF rec (.mk 0 k 0 0 .nil) i c st with
   |none=>rw[hf]at h;cases h
   |some z =>
    obtain⟨o,s2⟩:=z;obtain⟨f1,f2,_⟩:=lz hf;simp only;by_cases e2:s2.empty=true
    ·simp only[be e2];exact .Ed true s2 (λ_=>rfl) e2.symm f1 f2
    have Yf:s2.empty=false:=by simpa using e2
    simp only[ap e2];cases o with
    |none=>exact .Ed false s2 (λ_=>rfl) Yf.symm f1 f2
    |some x=>exact .on _ s2 (λ_=>rfl) Yf f1 f2
 simp only[ap o9]at h ⊢;by_cases Bt:re.op=10
 ·simp only[be Bt]at h ⊢
  match hk:re.kids with
  |[]=>rw[hk]at h;cases h
  |[_]=>rw[hk]at h;cases h
  |yes::no::l=>exact .on _ st (λ_=>rfl) he rfl rfl
 simp only[ap Bt]at h ⊢;by_cases oh:re.op=11
 ·simp only[be oh]at h ⊢;by_cases q:bY re.n t i=true
  ·simp only[be q];exact .on _ st (λ_=>rfl) he rfl rfl
  ·simp only[ap q];exact .Ed false st (λ_=>rfl) he.symm rfl rfl
 simp only[ap oh]at h ⊢;exact .on _ st (λ_=>rfl) he rfl rfl
def Vx (N:Nat) (st':bh) (o:Option (Bool×bh)):Prop :=
 (st'.ends.length<N/\o=some (false,st'))\/(N<=st'.ends.length/\∃s2,o=some (true,s2)/\s2.empty=false/\s2.steps<=st'.steps/\s2.ends=st'.ends.take N/\s2.ai=st'.ai.take N)
theorem MD {α:Type}{l new:List α}{N:Nat} (h:N<=l.length):(l++new).take N=l.take N:=by rw[List.take_append_of_le_length h]
theorem H4 {N:Nat}{a a':Option (Bool×bh)}{k k':bh->Option (Bool×bh)} (tJ:st.ai.length=st.ends.length) (ZG:st.empty=false)
  (ha0:∀b1 s1,a=some (b1,s1)->s1.empty=false->b1=false/\Ext st s1) (abp:∀s1,a=some (false,s1)->s1.empty=false) (ha:∀s1,a=some (false,s1)->s1.empty=false->Vx N s1 a')
  (hk0:∀s1 b2 s2,k s1=some (b2,s2)->s1.empty=false->s2.empty=false->b2=false/\Ext s1 s2/\s1.steps<=s2.steps)
  (hk:∀s1 s2,k s1=some (false,s2)->s1.empty=false->s2.empty=false->s1.ends.length<N->s1.ai.length=s1.ends.length->Vx N s2 (k' s1)) (h:rS a k=some (b,st')) (he:st'.empty=false):Vx N st' (rS a' k'):=by
 cases hx:a with
 |none=>rw[hx]at h;cases h
 |some y =>
  obtain⟨b1,s1⟩:=y;rw[hx]at h;cases b1 with
  |true =>
   simp only[rS]at h;obtain⟨rfl,rfl⟩:=Prod.mk.inj (Option.some.inj h);exact absurd (ha0 _ _ hx he).1 aJ
  |false =>
   simp only[rS]at h;have rh:=abp _ hx;obtain⟨_,new,oP,n1,n2,n3⟩:=ha0 _ _ hx rh;have aap:s1.ai.length=s1.ends.length:=by rw[n1,n2,ai6,ai6,n3,tJ]
   obtain⟨rfl,⟨abC,WR,m1,m2,m3⟩,ck⟩:=hk0 _ _ _ h rh he;rcases ha _ hx rh with ⟨c1,c2⟩|⟨c1,s2,c2,c3,c4,c5,c6⟩
   ·rw[c2];simp only[rS];exact hk _ _ h rh he c1 aap
   ·rw[c2];simp only[rS];exact .inr ⟨by rw[m1,ai6];omega,s2,rfl,c3,ae,by rw[c5,m1,MD c1],by rw[c6,m2,MD ae]⟩
section pfx
variable {t:List Int}{F:Int}{N:Nat}{rec:Int->Task->bh->Option (Bool×bh)} (di:∀task st b st',rec (-1) task st=some (b,st')->st.empty=false->st'.empty=false->st.ends.length<N->st.ai.length=st.ends.length->Vx N st' (rec N task st)) (uS:∀most task st b st',rec most task st=some (b,st')->eB t F most task.e st b st')
variable{nx:Goal}{st':bh}{b:Bool}
include di uS
theorem PV {nx:Goal}{i:Int}{c:aD}:∀(l:List Re) (st st':bh) (b:Bool),po (λk st=>rec (-1) (.run (.mk 0 k 0 0 nx) i c) st) l st=some (b,st')->st.empty=false->st'.empty=false->st.ends.length<N->st.ai.length=st.ends.length ->
  Vx N st' (po (λk st=>rec N (.run (.mk 0 k 0 0 nx) i c) st) l st)
 |[],st,st',b,h,he,jn,hN,hc=>by simp only[po]at h ⊢;obtain⟨_,rfl⟩:=Prod.mk.inj (Option.some.inj h);exact .inl ⟨hN,rfl⟩
 |aP::l,st,st',b,h,he,jn,hN,hc=>by simp only[po]at h ⊢;refine H4 hc he (λb1 s1 hx h1=>(uS _ _ _ _ _ hx).all rfl he h1) (λs1 hx=>(uS _ _ _ _ _ hx).full he rfl) (λs1 hx h1=>di _ _ _ _ hx he h1 hN hc) (λs1 b2 s2 hx h1 h2=>?_) (λs1 s2 hx h1 h2 h3 h4=>PV l s1 s2 false hx h1 h2 h3 h4) h jn;have hE:=Ik (t:=t) (F:=F) (λmost task st b st' h=>uS most task st b st' h) l s1 s2 b2 hx;exact⟨(hE.all rfl h1 h2).1,(hE.all rfl h1 h2).2,hE.steps⟩
theorem SD {re:Re}{i:Int}{c:aD}{st:bh} (h:dI t rec (-1) re nx i c st=some (b,st')) (he:st.empty=false) (jn:st'.empty=false) (hN:st.ends.length<N) (hc:st.ai.length=st.ends.length):Vx N st' (dI t rec N re nx i c st):=by
 cases Oy he h with
 |Ed b0 s hX hb h1 h2 =>
  rw[hX (-1)]at h;obtain⟨rfl,rfl⟩:=Prod.mk.inj (Option.some.inj h);rw[hX N];rw[jn]at hb;subst hb;exact .inl ⟨by rw[h1];exact hN,rfl⟩
 |on task s hX hs h1 h2 =>
  rw[hX (-1)]at h;rw[hX N];exact di _ _ _ _ h hs jn (by rw[h1];exact hN) (by rw[h1,h2];exact hc)
 |alts l nx i c hX =>
  rw[hX (-1)]at h;rw[hX N];exact PV di uS l st st' b h he jn hN hc
theorem U5 {re:Re}{k:Int}{i:Int}{c:aD}{st:bh} (h:qT F rec (-1) re k nx i c st=some (b,st')) (he:st.empty=false) (jn:st'.empty=false) (hN:st.ends.length<N) (hc:st.ai.length=st.ends.length):Vx N st' (qT F rec N re k nx i c st):=by
 unfold qT at h ⊢;by_cases hm:re.mode=2
 ·simp only[be hm]at h ⊢;cases hf:cF rec (.mk 1 (re.eo 0) 0 0 .nil) i c st with
  |none=>rw[hf]at h;cases h
  |some z =>
   obtain⟨o,s3⟩:=z;rw[hf]at h;obtain⟨f1,f2,f3⟩:=lz hf;simp only at h ⊢;cases o with
   |none =>
    simp only at h ⊢;obtain⟨rfl,rfl⟩:=Prod.mk.inj (Option.some.inj h);rw[jn];exact .inl ⟨by rw[f1];exact hN,rfl⟩
   |some x =>
    obtain⟨e,d⟩:=x;simp only at h ⊢;have WH:s3.empty=false:=by
     cases hh:s3.empty with
     |false=>rfl
     |true=>cases f3 hh
    exact di _ _ _ _ h WH jn (by rw[f1];exact hN) (by rw[f1,f2];exact hc)
 simp only[ap hm]at h ⊢;by_cases hs:st.steps<0\/10000000000000<st.steps
 ·rw[be hs]at h;cases h
 simp only[ap hs]at h ⊢;by_cases uw:(st.step F).empty=true
 ·rw[be uw]at h;cases h;rw[uw]at jn;cases jn
 simp only[ap uw]at h ⊢;have uw:(st.step F).empty=false:=by simpa using uw
 have Vj:(st.step F).ends.length<N:=hN;have vO:(st.step F).ai.length=(st.step F).ends.length:=hc;cases hk:re.kids with
 |nil=>rw[hk]at h;cases h
 |cons aP l =>
  rw[hk]at h;simp only at h ⊢;have one:∀{task:Task}{s1 s2:bh}{b2:Bool},rec (-1) task s1=some (b2,s2)->s1.empty=false->s2.empty=false->b2=false/\Ext s1 s2/\s1.steps<=s2.steps:=λhx h1 h2=>by have hE:=uS _ _ _ _ _ hx;exact⟨(hE.all rfl h1 h2).1,(hE.all rfl h1 h2).2,hE.steps⟩
  by_cases c2:k<re.mn
  ·simp only[be c2]at h ⊢;exact di _ _ _ _ h uw jn Vj vO
  simp only[ap c2]at h ⊢;by_cases m1:re.mode=1
  ·simp only[be m1]at h ⊢;by_cases cM:re.mx=-1\/k<re.mx
   ·simp only[be cM]at h ⊢;exact H4 vO uw (λb1 s1 hx h1=>⟨(one hx uw h1).1,(one hx uw h1).2.1⟩) (λs1 hx=>(uS _ _ _ _ _ hx).full uw rfl) (λs1 hx h1=>di _ _ _ _ hx uw h1 Vj vO) (λs1 b2 s2 hx h1 h2=>one hx h1 h2) (λs1 s2 hx h1 h2 h3 h4=>di _ _ _ _ hx h1 h2 h3 h4) h jn
   ·simp only[ap cM]at h ⊢;exact H4 vO uw (λb1 s1 hx h1=>⟨(one hx uw h1).1,(one hx uw h1).2.1⟩) (λs1 hx=>(uS _ _ _ _ _ hx).full uw rfl) (λs1 hx h1=>di _ _ _ _ hx uw h1 Vj vO)
     (λs1 b2 s2 hx h1 h2=>by obtain⟨rfl,rfl⟩:=Prod.mk.inj (Option.some.inj hx);exact⟨rfl,.refl _,ajs _⟩) (λs1 s2 hx h1 h2 h3 h4=>by obtain⟨_,rfl⟩:=Prod.mk.inj (Option.some.inj hx);exact .inl ⟨h3,rfl⟩) h jn
  ·simp only[ap m1]at h ⊢;by_cases cM:re.mx=-1\/k<re.mx
   ·simp only[be cM]at h ⊢;exact H4 vO uw (λb1 s1 hx h1=>⟨(one hx uw h1).1,(one hx uw h1).2.1⟩) (λs1 hx=>(uS _ _ _ _ _ hx).full uw rfl) (λs1 hx h1=>di _ _ _ _ hx uw h1 Vj vO) (λs1 b2 s2 hx h1 h2=>one hx h1 h2) (λs1 s2 hx h1 h2 h3 h4=>di _ _ _ _ hx h1 h2 h3 h4) h jn
   ·simp only[ap cM,rS]at h ⊢;exact di _ _ _ _ h uw jn Vj vO
end pfx
variable{f':Int}{p:eJ}{f:Int}{t:List Int}{most:Int}{i:Int}
theorem Dy {t:List Int}{F:Int}{N:Nat}:∀(n:Nat) (task:Task) (st:bh) (b:Bool) (st':bh),fV t F n (-1) task st=some (b,st')->st.empty=false->st'.empty=false->st.ends.length<N->st.ai.length=st.ends.length->Vx N st' (fV t F n N task st)
 |0,_,_,_,_,h,_,_,_,_=>by cases h
 |n+1,task,st,b,st',h,he,jn,hN,hc=>by
  have di:=Dy (t:=t) (F:=F) (N:=N) n;have uS:=NX (t:=t) (F:=F) n
  replace h:bI t F (fV t F n) (-1) task st=some (b,st'):=h
  show Vx N st' (bI t F (fV t F n) N task st);cases task with
  |run g i c =>
   simp only[bI]at h ⊢;by_cases hi:i<0\/(t.length:Int)<i
   ·rw[be hi]at h;cases h
   simp only[ap hi]at h ⊢;cases g with
   |nil =>
    simp only at h ⊢;by_cases hl:st.ends.length<2000000000000/\st.ai.length=st.ends.length
    ·simp only[be hl]at h ⊢;obtain⟨_,rfl⟩:=Prod.mk.inj (Option.some.inj h);by_cases aB:(st.ends++[i]).length<N
     ·refine .inl ⟨aB,?_⟩;have:decide ((N:Int)<=(st.ends.length:Int)+1)=false:=ce (by rw[ai6]at aB;simp at aB;omega);rw[this,Bool.and_false]
     ·have hlN:N=st.ends.length+1:=by rw[ai6]at aB;simp at aB;omega
      refine .inr ⟨by show N<=(st.ends++[i]).length;omega,_,?_,jn,ajs _,?_,?_⟩
      ·have h1:decide ((N:Int)<=(st.ends.length:Int)+1)=true:=bi ae;have h0:decide ((0:Int)<=(N:Int))=true:=bi ae;rw[h1,h0];rfl
      ·exact(ajb (by rw[ai6];simp;omega)).symm
      ·exact(ajb (by rw[ai6];simp;omega)).symm
    ·rw[ap hl]at h;cases h
   |mk kind re k f nx =>
    simp only at h ⊢;by_cases k1:kind=1
    ·simp only[be k1]at h ⊢;exact di _ _ _ _ h he jn hN hc
    simp only[ap k1]at h ⊢;by_cases k2:kind=2
    ·simp only[be k2]at h ⊢;by_cases q:re.mn<=k/\i=f
     ·simp only[be q]at h ⊢;obtain⟨_,rfl⟩:=Prod.mk.inj (Option.some.inj h);exact .inl ⟨hN,rfl⟩
     simp only[ap q]at h ⊢;by_cases q2:k<0\/10000000000000<k
     ·rw[be q2]at h;cases h
     simp only[ap q2]at h ⊢;exact di _ _ _ _ h he jn hN hc
    simp only[ap k2]at h ⊢;by_cases k3:kind=3
    ·simp only[be k3]at h ⊢;by_cases q2:1000000000<c.length
     ·rw[be q2]at h;cases h
     simp only[ap q2]at h ⊢;exact di _ _ _ _ h he jn hN hc
    simp only[ap k3]at h ⊢;by_cases k4:kind=4
    ·simp only[be k4]at h ⊢;by_cases q:i=f
     ·simp only[be q]at h ⊢;exact di _ _ _ _ h he jn hN hc
     ·simp only[ap q]at h ⊢;obtain⟨_,rfl⟩:=Prod.mk.inj (Option.some.inj h);exact .inl ⟨hN,rfl⟩
    simp only[ap k4]at h ⊢;exact di _ _ _ _ h he jn hN hc
  |rep g i c =>
   simp only[bI]at h ⊢;by_cases hi:i<0\/(t.length:Int)<i
   ·rw[be hi]at h;cases h
   simp only[ap hi]at h ⊢;cases g with
   |nil=>cases h
   |mk kind re k f nx=>exact U5 di uS h he jn hN hc
  |node g i c =>
   simp only[bI]at h ⊢;by_cases hi:i<0\/(t.length:Int)<i
   ·rw[be hi]at h;cases h
   simp only[ap hi]at h ⊢;cases g with
   |nil=>cases h
   |mk kind re k f nx =>
    simp only at h ⊢;by_cases o4:re.op=4
    ·simp only[be o4]at h ⊢;exact di _ _ _ _ h he jn hN hc
    simp only[ap o4]at h ⊢;by_cases q1:1000000000<re.set.length\/1000000000<re.kids.length\/1000000000<c.length
    ·rw[be q1]at h;cases h
    simp only[ap q1]at h ⊢;by_cases q2:st.steps<0\/10000000000000<st.steps
    ·rw[be q2]at h;cases h
    simp only[ap q2]at h ⊢;by_cases uw:(st.step F).empty=true
    ·rw[be uw]at h;cases h;rw[uw]at jn;cases jn
    ·simp only[ap uw]at h ⊢;exact SD di uS h (by simpa using uw) jn hN hc
theorem KE (h:dp p t f=0) (h0:0<=f') (h1:f'<=1099511627776):dp p t f'=0:=by obtain⟨v1,v2,v3,_,_⟩:=qL h;unfold dp;rw[ap (by rw[v1];simp),bd,ap (by rw[v3];simp),bd]
theorem mU (h:gU p t i most f=0):dp p t f=0/\0<=i/\i<=t.length/\(cW p t i most f).2.empty=false:=by
 unfold gU at h;by_cases c1:dp p t f≠0
 ·rw[be c1]at h;exact absurd h c1
 rw[ap c1]at h;have c1:dp p t f=0:=by simpa using c1
 by_cases c2:i<0\/(t.length:Int)<i
 ·rw[be c2]at h;omega
 rw[ap c2]at h;by_cases c3:(cW p t i most f).2.empty=true
 ·rw[be c3]at h;omega
 ·exact⟨c1,ae,ae,by simpa using c3⟩
theorem rJ (hv:dp p t f=0) (h0:0<=i) (h1:i<=t.length) (he:(cW p t i most f).2.empty=false):gU p t i most f=0:=by unfold gU;rw[ap (by rw[hv];simp),bd,ap (by rw[he];simp)]
theorem vY (hv:dp p t f=0) (h0:0<=i) (h1:i<=t.length):∃n b x,cW p t i most f=(b,x)/\fV t f n most (.run (.mk 0 p.re 0 0 .nil) i (oB p)) ⟨0,false,[],[]⟩=some (b,x):=by obtain⟨n,e,_⟩:=jN (most:=most) hv h0 h1;exact⟨n,_,_,rfl,e⟩
theorem zf (h:gU p t i most f=0):0<=jI p t i most f/\jI p t i most f<=f:=by obtain⟨hv,h0,h1,he⟩:=mU h;obtain⟨k,_,e2⟩:=jN (most:=most) hv h0 h1;unfold jI;rw[be h];have h2:=e2.empty;rw[he]at h2;have:=of_decide_eq_false h2.symm;have:=e2.s0;simp only at this;omega
theorem Rw (h:gU p t i most f=0) (hN:jI p t i most f<=f') (uV:f'<=1099511627776):gU p t i most f'=0/\allM p t i most f'=allM p t i most f/\jI p t i most f'=jI p t i most f/\cW p t i most f'=cW p t i most f:=by
 obtain⟨hv,h0,h1,he⟩:=mU h;obtain⟨nR,ef⟩:=zf h;have hNe:jI p t i most f=(cW p t i most f).2.steps:=by unfold jI;rw[be h]
 have hv':=KE (f':=f') hv ae uV;obtain⟨k,b,x,hx,e1⟩:=vY (most:=most) hv h0 h1;obtain⟨k',b',x',kS,e1'⟩:=vY (most:=most) hv' h0 h1;rw[hx]at hNe he;have Es:cW p t i most f'=cW p t i most f:=by
  rw[hx,kS];rcases Int.le_total f' f with hle|hle
  ·have hfa:=(Er hle k most _ _ _ _ e1 rfl).2.2 (by show (0:Int)<=_;omega);have:=(uN (hfa.1 (by show x.steps<=f';have:jI p t i most f=x.steps:=hNe;omega)))
   rw[<- kS];exact this
  ·have hfa:=(Er hle k' most _ _ _ _ e1' rfl).2.2 (by show (0:Int)<=_;omega);by_cases ck:x'.steps<=f
   ·have:=uN (hfa.1 ck);rw[<- hx];exact this.symm
   ·obtain⟨s2,q1,q2⟩:=hfa.2 ae;have h3:cW p t i most f=(true,s2):=uN q1;rw[hx]at h3;cases h3;rw[show x.empty=true from q2]at he;cases he
 have hE:gU p t i most f'=0:=rJ hv' h0 h1 (by rw[Es,hx];exact he);refine⟨hE,?_,?_,Es⟩
 ·unfold allM;rw[be hE,be h,Es]
 ·unfold jI;rw[be hE,be h,Es]
theorem yW (h:gU p t i most f=0):(cW p t i most f).2.ai.length=(cW p t i most f).2.ends.length:=by obtain⟨hv,h0,h1,he⟩:=mU h;obtain⟨k,_,e2⟩:=jN (most:=most) hv h0 h1;obtain⟨new,oP,z1,z2,z3,_⟩:=e2.more;rw[z1,z2];simpa using z3
theorem Jw {α β:Type}:∀(n:Nat) (a:List α) (b:List β),(a.take n).zip (b.take n)=(a.zip b).take n
 |0,a,b=>aj
 |n+1,[],b=>aj
 |n+1,x::a,[]=>aj
 |n+1,x::a,y::b=>by simp [Jw n a b]
theorem NC{n:Nat} (hn:1<=n) (h:gU p t i (-1) f=0):gU p t i n f=0/\allM p t i n f=(allM p t i (-1) f).take n/\jI p t i n f<=jI p t i (-1) f:=by
 obtain⟨hv,h0,h1,he⟩:=mU h;obtain⟨k,b,x,hx,e1⟩:=vY (most:=-1) hv h0 h1;have tJ:=yW h;have hM1:allM p t i (-1) f=x.ends.zip x.ai:=by unfold allM;rw[be h,hx]
 have Vj:jI p t i (-1) f=x.steps:=by unfold jI;rw[be h,hx]
 rw[hx]at he tJ;simp only at he tJ;rcases Dy (N:=n) k _ _ _ _ e1 rfl he (by show 0<n;omega) rfl with ⟨c1,c2⟩|⟨c1,s2,c2,c3,c4,c5,c6⟩
 ·have U6:cW p t i n f=(false,x):=uN c2;have hE:gU p t i n f=0:=rJ hv h0 h1 (by rw[U6];exact he);refine⟨hE,?_,?_⟩
  ·rw[hM1];unfold allM;rw[be hE,U6];exact(ajb (by rw[List.length_zip,tJ];simp;omega)).symm
  ·rw[Vj];unfold jI;rw[be hE,U6];exact ajs _
 ·have U6:cW p t i n f=(true,s2):=uN c2;have hE:gU p t i n f=0:=rJ hv h0 h1 (by rw[U6];exact c3);refine⟨hE,?_,?_⟩
  ·rw[hM1];unfold allM;rw[be hE,U6];show s2.ends.zip s2.ai=_;rw[c5,c6,Jw]
  ·rw[Vj];unfold jI;rw[be hE,U6];exact c4
theorem VB (h:gU p t i most f=0):((cW p t i most f).2.ends.length:Int)<=jI p t i most f+1:=by
 obtain⟨hv,h0,h1,he⟩:=mU h;obtain⟨_,_,e2⟩:=jN (most:=most) hv h0 h1;obtain⟨new,oP,z1,z2,z3,z4,_⟩:=e2.more;have hN:jI p t i most f=(cW p t i most f).2.steps:=by unfold jI;rw[be h]
 rw[hN,z1];simp only[ai0]at *;omega
theorem BQ (ai:Int) (h0:0<=ai) (h1:ai<=9):cz ⟨.mk 0 [] [] 0 0 0 0 false,ai,false⟩=0:=by
 have hw:Re.whole (.mk 0 [] [] 0 0 0 0 false) ai (hU false)=true:=by rw[Re.whole,Re.av];refine⟨?_,λk hk=>by simp [Re.kids]at hk⟩;simp [bS,Re.op,Re.kids,Re.set,Re.mn,Re.mx,Re.mode,Re.n,Re.neg,cw]
 have hs:Re.size (.mk 0 [] [] 0 0 0 0 false)=1:=aN;have hd:Re.depth (.mk 0 [] [] 0 0 0 0 false)=1:=aN;unfold cz;rw[ap (by show ¬(256<Re.size (.mk 0 [] [] 0 0 0 0 false)\/24<Re.depth (.mk 0 [] [] 0 0 0 0 false));rw[hs,hd];omega),ap];show ¬(ai<0\/9<ai\/Re.whole (.mk 0 [] [] 0 0 0 0 false) ai (hU false)=false);rw[hw];simp;omega
theorem OF (ai:Int) (h0:0<=ai) (h1:ai<=9) (F:Int) (hF0:1<=F) (hF1:F<=1099511627776):gU ⟨.mk 0 [] [] 0 0 0 0 false,ai,false⟩ [] 0 (-1) F=0:=by
 have Wt:dp ⟨.mk 0 [] [] 0 0 0 0 false,ai,false⟩ [] F=0:=by unfold dp;rw[ap (by rw[BQ ai h0 h1];simp),ap aj,ap aj,bd]
 refine rJ Wt (ajs _) aj ?_;obtain⟨n,e1,e2⟩:=jN (most:=-1) Wt (ajs 0) aj;have hlen:(oB ⟨.mk 0 [] [] 0 0 0 0 false,ai,false⟩).length<=9:=by unfold oB;rw[aj6];show ai.toNat<=9;omega
 have uS:fV [] F 3 (-1) (.run (.mk 0 (.mk 0 [] [] 0 0 0 0 false) 0 0 .nil) 0 (oB ⟨.mk 0 [] [] 0 0 0 0 false,ai,false⟩)) ⟨0,false,[],[]⟩=some (false,⟨1,false,[0],[oB ⟨.mk 0 [] [] 0 0 0 0 false,ai,false⟩]⟩):=by
  generalize oB ⟨.mk 0 [] [] 0 0 0 0 false,ai,false⟩=c at *;show bI [] F (fV [] F 2) (-1) (.run (.mk 0 (.mk 0 [] [] 0 0 0 0 false) 0 0 .nil) 0 c) ⟨0,false,[],[]⟩=_;have ck:(bh.step F ⟨0,false,[],[]⟩)=⟨1,false,[],[]⟩:=by simp only[bh.step,ajx];congr 1;exact ce ae
  simp only[bI];rw[ap aj,ap aJ,ap aJ,ap aJ,ap aJ];show bI [] F (fV [] F 1) (-1) (.node (.mk 0 (.mk 0 [] [] 0 0 0 0 false) 0 0 .nil) 0 c) ⟨0,false,[],[]⟩=_;simp only[bI];rw[ap aj,ap (by simp [Re.op]),ap (by simp [Re.set,Re.kids];omega),ap aj,ck,ap aj];unfold dI;rw[ap (show ¬(Re.mk 0 [] [] 0 0 0 0 false).op=1 by decide),ap (show ¬(Re.mk 0 [] [] 0 0 0 0 false).op=2 by decide),ap (show ¬(Re.mk 0 [] [] 0 0 0 0 false).op=3 by decide),ap (show ¬(Re.mk 0 [] [] 0 0 0 0 false).op=5 by decide),ap (show ¬(Re.mk 0 [] [] 0 0 0 0 false).op=6 by decide),ap (show ¬((Re.mk 0 [] [] 0 0 0 0 false).op=7\/(Re.mk 0 [] [] 0 0 0 0 false).op=8) by decide),ap (show ¬(Re.mk 0 [] [] 0 0 0 0 false).op=9 by decide),ap (show ¬(Re.mk 0 [] [] 0 0 0 0 false).op=10 by decide),ap (show ¬(Re.mk 0 [] [] 0 0 0 0 false).op=11 by decide)];show bI [] F (fV [] F 0) (-1) (.run .nil 0 c) ⟨1,false,[],[]⟩=_;simp only[bI];rw[ap aj,be aj];simp
 have hX:cW ⟨.mk 0 [] [] 0 0 0 0 false,ai,false⟩ [] 0 (-1) F=_:=uN uS;rw[hX]
theorem Gx {p:eJ}{t:List Int}{F:Int} (hv:cz p=0) (hf:p.re.cN=true) (hF0:1<=F) (hF1:F<=1099511627776):∀n,n<=t.length+1->(∀i:Int,0<=i->i<=(dx p t F n).2.length->gU (dx p t F n).1 (dx p t F n).2 i (-1) F=0)/\(dx p t F n).1.re.cN=true/\(dx p t F n).2.length<=t.length
 |0,_=>by
  obtain⟨_,_,k3,k4,_⟩:=cT hv;refine⟨λi h0 h1=>?_,aN,Nat.zero_le _⟩;have h1:i<=0:=by simpa [dx]using h1
  have:i=0:=ae;subst this;exact OF p.ai k3 k4 F hF0 hF1
 |n+1,hn=>by
  simp only[dx];by_cases c:(List.range (n+1)).all (x6 p t n F)=true
  ·rw[be c];refine⟨λi h0 h1=>?_,hf,by rw[aj3];omega⟩;have hl:(t.take n).length=n:=by rw[aj3];omega
   have h1:i<=((t.take n).length:Int):=h1;rw[hl]at h1;have:=List.all_eq_true.1 c i.toNat (List.mem_range.2 ae);unfold x6 at this;have:=of_decide_eq_true this;rwa [show ((i.toNat:Nat):Int)=i by omega]at this
  ·rw[ap c];exact Gx hv hf hF0 hF1 n ae
structure acH (p:eJ) (t:List Int):Prop where
 qW:∀i:Int,0<=i->i<=t.length->gU p t i (-1) 3000=0
 valid:cz p=0
 cN:p.re.cN=true
 afW:0<=p.re.kK
 kK:p.re.kK<=4000
 len:t.length<=12
 aF:p.aF=false
theorem Ph (p:eJ) (t:List Int) (F:Int):∀n,(dx p t F n).1=p\/(dx p t F n).1=⟨.mk 0 [] [] 0 0 0 0 false,p.ai,false⟩
 |0=>.inr rfl
 |n+1=>by
  rw[dx];split
  ·exact .inl rfl
  ·exact Ph p t F n
theorem Lp (p:eJ) (t:List Int) (F:Int):∀n,∀x∈(dx p t F n).2,x∈t
 |0=>λx hx=>by cases hx
 |n+1=>by
  rw[dx];split
  ·exact λx hx=>ajT hx
  ·exact Lp p t F n
end Go.Proofs.Ytfmdmlfhigocaaa
namespace Go.Proofs.Ytfmdmlfhigocaaa
open Go.VL Go.Proofs.Try
def ac2 (l:List (Int×Int)):Int:=if sh 1114111 (-2) l=true then (if 64<l.length then 4 else 0) else 1
structure RTh where
 pc:Int
 aL:List Int
structure RSt where
 added:List Bool
 ths:List RTh
def WS (g:MY) (n:Int):kL:=g.ins.getD n.toNat ⟨0,0,0,0,[]⟩
structure MY.qW (g:MY):Prop where
 Y2:1<=g.ins.length
 YA:g.ins.length<=8192
 Wy:0<=g.ai
 aeB:g.ai<=9
 agQ:∀x∈g.ins,x.set.length<=64
 split:∀(i:Nat) (x:kL),g.ins[i]?=some x->x.op=2->0<=x.x/\x.x<g.ins.length/\0<=x.y/\x.y<g.ins.length
 jump:∀(i:Nat) (x:kL),g.ins[i]?=some x->x.op=3->0<=x.x/\x.x<g.ins.length
 save:∀(i:Nat) (x:kL),g.ins[i]?=some x->x.op=4->0<=x.n/\x.n<2*g.ai
 assert:∀(i:Nat) (x:kL),g.ins[i]?=some x->x.op=5->0<=x.n/\x.n<=5
 next:∀(i:Nat) (x:kL),g.ins[i]?=some x->(x.op=1\/4<=x.op)->i+1<g.ins.length
 ops:∀x∈g.ins,0<=x.op/\x.op<=5
structure aeW where
 at_:Int
 st:RSt
structure RTh.ok (g:MY) (x:RTh):Prop where
 p0:0<=x.pc
 p1:x.pc<g.ins.length
 aL:x.aL.length=(2*g.ai).toNat
 op:(WS g x.pc).op=0\/(WS g x.pc).op=1
end Go.Proofs.Ytfmdmlfhigocaaa
namespace Go.Proofs.Ytfmdmlfhigocaaa
open Go.VL Go.Proofs.Try
def hiB (aF:Bool) (l:List (Int×Int)):Bool:=aF||(match l[l.length-1]? with|none=>true|some s=>decide (s.2<=255))
def Wh (x:kL):Bool:=decide ((x.op≠1->x.set.length=0)/\(x.op≠2->x.y=0)/\(x.op≠2->x.op≠3->x.x=0)/\(x.op≠4->x.op≠5->x.n=0))
end Go.Proofs.Ytfmdmlfhigocaaa
namespace Go.Proofs.Ytfmdmlfhigocaaa
open Go.VL Go.Proofs.Try
end Go.Proofs.Ytfmdmlfhigocaaa
namespace Go.Proofs.Ytfmdmlfhigocaaa
open Go.VL Go.Proofs.Try
end Go.Proofs.Ytfmdmlfhigocaaa
namespace Go.Proofs.Ytfmdmlfhigocaaa
open Go.VL Go.Proofs.Try
structure afc (lo hi ai:Int) (aF:Bool) (x:kL):Prop where
 un:Wh x=true
 op:x.op=0\/(x.op=1/\ac2 x.set=0/\hiB aF x.set=true)\/(x.op=2/\lo<=x.x/\x.x<=hi/\lo<=x.y/\x.y<=hi)\/(x.op=3/\lo<=x.x/\x.x<=hi)\/(x.op=4/\0<=x.n/\x.n<2*ai)\/(x.op=5/\0<=x.n/\x.n<=5)
end Go.Proofs.Ytfmdmlfhigocaaa
