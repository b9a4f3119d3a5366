/- A part of the proof (K97 K98 K99 K110 K111 K112). -/
import Derived.Test.YtphfjhaffbfpfaaPM49
import Derived.Test.YtphfjhaffbfpfaaPM52
import Derived.Test.YtphfjhaffbfpfaaPM37
import Derived.Test.YtphfjhaffbfpfaaPM33
set_option linter.all false
set_option maxRecDepth 100000
set_option maxHeartbeats 80000000
namespace Go.Proofs.Ytphfjhaffbfpfaa
open Go.VL Go.Proofs.Try
variable{l:List bR}{g:cJ}{pc:Int}{re:Re}{k:Int}{nx:Goal}{b:Int}
def xZ (g:cJ) (pc:Int) (l:List bR):Prop:=∃A B,g.ins=A++(l++B)/\pc=(A.length:Int)
theorem xZ.app{l':List bR} (h:xZ g pc (l++l')):xZ g pc l/\xZ g (pc+l.length) l':=by obtain⟨A,B,h1,h2⟩:=h;exact⟨⟨A,l'++B,by rw[h1,adX],h2⟩,⟨A++l,B,by rw[h1];simp,by rw[adx,h2];push_cast;rfl⟩⟩
theorem xZ.cons{x:bR} (h:xZ g pc (x::l)):bk g pc=x/\xZ g (pc+1) l:=by obtain⟨A,B,h1,h2⟩:=h;refine⟨?_,⟨A++[x],B,by rw[h1];simp,by rw[adx,h2];rfl⟩⟩;unfold bk;rw[h1,h2];simp [List.getD_eq_getElem?_getD]
inductive Jm (g:cJ):Int->Nat->Int->Prop
 |refl {pc:Int}:Jm g pc 0 pc
 |step {pc q:Int}{j:Nat} (h:(bk g pc).op=3) (k:Jm g (bk g pc).x j q):Jm g pc (j+1) q
theorem Jm.way{t:List Int}{q a:Int}{j n:Nat}{aE:List Int}{r:Option (Int×List Int)} (h:Jm g pc j q) (w:Way g t q a aE n r):Way g t pc a aE (n+j) r:=by
 induction h with
 |refl=>exact w
 |step h k ih=>exact .jmp h (ih w)
structure FR (re:Re):Prop where
 ev:re.every pZ=true
 sz:re.fw<=9000
 co:∃a,re.comp a=true
theorem FR.aL {k:Re} (h:FR re) (ho:re.op≠1/\re.op≠11) (hk:k∈re.kids):FR k:=by
 refine⟨((Re.aQ re).1 h.ev).2 k hk,(rS h.ev h.sz ho).2 k hk,?_⟩;obtain⟨a,ha⟩:=h.co;rw[Re.js]at ha;split at ha
 ·cases ha
 ·split at ha
  ·cases ha
  ·split at ha
   ·cases ha
   ·rw[adE]at ha;exact⟨_,ha k hk⟩
theorem FR.rep (h:FR re) (ho:re.op=4):re.mode≠2/\Re.lC re.kids=false:=by
 obtain⟨a,ha⟩:=h.co;rw[Re.js]at ha;split at ha
 ·cases ha
 ·rename_i hn;refine⟨λe=>hn ⟨ho,.inl e⟩,?_⟩;cases hh:Re.lC re.kids with
  |false=>rfl
  |true=>exact absurd ⟨ho,.inr hh⟩ hn
theorem FR.len (h:FR re) (f:Int):((re.code f).length:Int)=re.fw:=jY re h.ev h.sz f
theorem m6 {k:Re} (hk:k∈re.kids):k.depth+1<=re.depth:=by
 rw[Re.oN re];have:∀(l:List Int) (a:Int),a<=l.foldl max a/\∀x∈l,x<=l.foldl max a:=by
  intro l;induction l with
  |nil=>intro a;exact⟨ady _,λx hx=>by cases hx⟩
  |cons y l ih =>
   intro a;obtain⟨h1,h2⟩:=ih (max a y);rw[List.foldl_cons];refine⟨by omega,λx hx=>?_⟩;rcases List.mem_cons.1 hx with rfl|hx
   ·omega
   ·exact h2 x hx
 have h:=(this (re.kids.map Re.depth) 0).2 k.depth (List.mem_map.2 ⟨k,hk,rfl⟩);unfold s6;omega
def tI (re:Re) (b k:Int):Int:=b+min k re.mn*Re.cA re.kids+(if re.mx=-1 then 0 else max (k-re.mn) 0*(Re.cA re.kids+1))
structure kx (g:cJ) (re:Re) (b k pc:Int):Prop where
 hs:xZ g b (re.code b)
 hf:FR re
 ho:re.op=4
 k0:0<=k
 k1:re.mx=-1\/k<=re.mx
 hp:pc=tI re b k
inductive CG (g:cJ):Goal->Int->Int->Prop
 |nil {pc:Int} (h:(bk g pc).op=0):CG g .nil pc 1
 |tree {kind k f pc q d:Int}{re:Re}{nx:Goal}{j:Nat} (hk:kind=0) (hs:xZ g pc (re.code pc)) (hf:FR re) (hj:Jm g (pc+(re.code pc).length) j q) (hn:CG g nx q d) (he:re.depth+j+d<=30):CG g (.mk kind re k f nx) pc (-1)
 |save {kind k f pc q d:Int}{re:Re}{nx:Goal}{j:Nat} (hk:kind=3) (ho:(bk g pc).op=4) (hx:(bk g pc).n=2*re.n-1) (hj:Jm g (pc+1) j q) (hn:CG g nx q d):CG g (.mk kind re k f nx) pc (1+j+d)
 |rep {kind k f pc b q d:Int}{re:Re}{nx:Goal}{j:Nat} (hk:kind=1) (h:kx g re b k pc) (hj:Jm g (b+(re.code b).length) j q) (hn:CG g nx q d) (he:re.depth+j+d<=30):CG g (.mk kind re k f nx) pc (-1)
 |more {kind k f pc b q d:Int}{re:Re}{nx:Goal}{j:Nat} (hk:kind=2) (h:kx g re b (k+1) pc) (hj:Jm g (b+(re.code b).length) j q) (hn:CG g nx q d) (he:re.depth+j+d<=30):CG g (.mk kind re k f nx) pc (-1)
theorem CG.lo{gl:Goal}{d:Int} (h:CG g gl pc d):-1<=d:=by
 induction h <;> omega
def PG:Bool->Goal->Int->Prop
 |_,.nil,_=>True
 |s,.mk kind re k f nx,i=>if kind=0 then PG (s&&re.pg) nx i else if kind=2 then (if s=true then f<i else f<=i)/\PG s nx i else PG s nx i
theorem PG.mono:∀{gl:Goal}{s s':Bool}{i:Int},(s'=true->s=true)->PG s gl i->PG s' gl i
 |.nil,_,_,_,_,_=>trivial
 |.mk kind re k f nx,s,s',i,hs,h=>by
  unfold PG at h ⊢;by_cases h0:kind=0
  ·rw[ap h0]at h ⊢;exact PG.mono (λe=>by
    simp only[adD]at e ⊢;exact⟨hs e.1,e.2⟩) h
  rw[am h0]at h ⊢;by_cases h2:kind=2
  ·rw[ap h2]at h ⊢;refine⟨?_,PG.mono hs h.2⟩;have h1:=h.1;cases s' with
   |true=>rw[hs rfl]at h1;exact h1
   |false =>
    rw[am ad2];split at h1 <;> omega
  rw[am h2]at h ⊢;exact PG.mono hs h
theorem PG.succ:∀{gl:Goal}{s:Bool}{i:Int},PG false gl i->PG s gl (i+1)
 |.nil,_,_,_=>trivial
 |.mk kind re k f nx,s,i,h=>by
  unfold PG at h ⊢;by_cases h0:kind=0
  ·rw[ap h0]at h ⊢;rw[Bool.false_and]at h;exact PG.succ h
  rw[am h0]at h ⊢;by_cases h2:kind=2
  ·rw[ap h2]at h ⊢;have h1:=h.1;rw[am ad2]at h1;refine⟨by split <;> omega,PG.succ h.2⟩
  rw[am h2]at h ⊢;exact PG.succ h
theorem PG.push{i:Int}:∀{l:List Re}{s:Bool},PG (s&&Re.oq l) nx i->PG s (ft l nx) i
 |[],s,h=>by simpa [Re.oq,ft]using h
 |k::l,s,h=>by show PG s (.mk 0 k 0 0 (ft l nx)) i;unfold PG;rw[ap rfl];refine PG.push ?_;rw[Re.oq,<- Bool.and_assoc]at h;exact h
theorem CG.push{q d:Int}{j:Nat} (hn:CG g nx q d):∀{l:List Re}{pc:Int},xZ g pc (Re.da l pc)->(∀k∈l,FR k/\k.depth+j+d<=30/\k.depth<=30)->Jm g (pc+(Re.da l pc).length) j q->j+d<=30 ->
  ∃j' q' d',Jm g pc j' q'/\CG g (ft l nx) q' d'/\(j':Int)+d'<=30/\(l≠[]->j'=0/\d'=-1)/\(l=[]->j'=j/\d'=d)
 |[],pc,hs,hl,hj,he=>⟨j,q,d,by simpa [Re.da]using hj,hn,he,λh=>absurd rfl h,λ_=>⟨rfl,rfl⟩⟩
 |k::l,pc,hs,hl,hj,he=>by
  rw[Re.da]at hs hj;obtain⟨h1,h2⟩:=hs.app;rw[adx]at hj;obtain⟨j',q',d',a1,a2,a3,a4,a5⟩:=CG.push hn (l:=l) h2 (λx hx=>hl x (by simp [hx])) (by rw[Int.add_assoc];exact_mod_cast hj) he;have hk:=hl k (by simp);refine⟨0,pc,-1,.refl,.tree rfl h1 hk.1 a1 a2 ?_,by omega,λ_=>⟨rfl,rfl⟩,λe=>by cases e⟩;by_cases e:l=[]
  ·have:=a5 e;omega
  ·have:=a4 e;omega
theorem Km {g:cJ}{c:Int->List bR}{n:Int} (hc:∀f,((c f).length:Int)=n) {f:Int}:∀(m:Nat),xZ g f (bZ c m f)->∀j:Nat,j<m->xZ g (f+j*n) (c (f+j*n))
 |0,_,j,hj=>by omega
 |m+1,h,j,hj=>by
  rw[bZ]at h;obtain⟨h1,h2⟩:=h.app;by_cases e:j<m
  ·exact Km hc m h1 j e
  ·have:j=m:=by omega
   subst this;rw[kL hc]at h2;exact h2
theorem Gl {g:cJ}{c:Int->List bR}{n:Int} (hc:∀f,((c f).length:Int)=n) {f mode fin:Int}:∀(m:Nat),xZ g f (dU c mode fin m f)->∀j:Nat,j<m->xZ g (f+j*(n+1)) (n6 mode (f+j*(n+1)+1) fin::c (f+j*(n+1)+1))
 |0,_,j,hj=>by omega
 |m+1,h,j,hj=>by
  rw[dU]at h;obtain⟨h1,h2⟩:=h.app;by_cases e:j<m
  ·exact Gl hc m h1 j e
  ·have:j=m:=by omega
   subst this;rw[nR hc]at h2;exact h2
theorem zl (h:k<=re.mn):tI re b k=b+k*Re.cA re.kids:=by unfold tI;rw[Int.min_eq_left h,show max (k-re.mn) 0=0 by omega,Int.zero_mul];split <;> omega
theorem zR (h:re.mn<=k) (hx:re.mx=-1):tI re b k=b+re.mn*Re.cA re.kids:=by unfold tI;rw[Int.min_eq_right h,ap hx];omega
theorem y5 (h:re.mn<=k) (hx:re.mx≠-1):tI re b k=b+re.mn*Re.cA re.kids+(k-re.mn)*(Re.cA re.kids+1):=by unfold tI;rw[Int.min_eq_right h,am hx,show max (k-re.mn) 0=k-re.mn by omega]
section
variable {g:cJ}{re aL:Re}{b k pc:Int}
theorem kx.shape (h:kx g re b k pc) (hk:re.kids=[aL]):(∀f,((aL.code f).length:Int)=Re.cA re.kids)/\FR aL/\0<=re.mn/\(re.mx=-1\/1<=re.mx/\re.mn<=re.mx)/\((re.code b).length:Int)=(if re.mx=-1 then (re.mn+1)*Re.cA re.kids+2 else re.mx*Re.cA re.kids+re.mx-re.mn)/\xZ g b (tg aL.code re.mn re.mx re.mode re.fw b):=by
 have kS:=h.hf.aL (by have:=h.ho;omega) (k:=aL) (by rw[hk];simp);have nn:Re.cA re.kids=aL.fw:=by rw[hk];simp [Re.cA]
 obtain⟨eC,lP⟩:=(Re.aQ re).1 h.hf.ev;obtain⟨hb,AV⟩:=eU.1 (eY.1 eC).1;obtain⟨q1,q2,q3,q4,q5⟩:=eW.1 hb;have hu:=wV h.hf.sz;have ho:=h.ho;rw[am (by omega),am (by omega),am (by omega),ap ho]at hu;have hs:=h.hs;rw[Re.fe,am (by omega),am (by omega),am (by omega),am (by omega),am (by omega),ap ho,oF hk]at hs;exact⟨λf=>by rw[nn];exact kS.len f,kS,by omega,AV ho,by rw[h.hf.len];exact hu,hs⟩
theorem kx.less (h:kx g re b k pc) (hk:re.kids=[aL]) (aH:k<re.mn):xZ g pc (aL.code pc)/\kx g re b (k+1) (pc+(aL.code pc).length):=by
 obtain⟨hc,kS,Pe,AV,hlen,hs⟩:=h.shape hk;have hk0:=h.k0;have hp:=h.hp;rw[zl (by omega)]at hp;have S0:xZ g b (bZ aL.code re.mn.toNat b):=by
  unfold tg at hs;simp only at hs;split at hs
  ·exact hs.app.1
  ·exact hs.app.1
 have h1:=Km hc re.mn.toNat S0 k.toNat (by omega);rw[Int.toNat_of_nonneg hk0,<- hp]at h1;refine⟨h1,h.hs,h.hf,h.ho,by omega,by omega,?_⟩;rw[zl (by omega),hc,hp,Int.add_mul];omega
theorem kx.loop (h:kx g re b k pc) (hk:re.kids=[aL]) (aH:¬k<re.mn) (hx:re.mx=-1):bk g pc=n6 re.mode (pc+1) (b+(re.code b).length)/\xZ g (pc+1) (aL.code (pc+1))/\bk g (pc+1+(aL.code (pc+1)).length)=s8 pc/\kx g re b (k+1) pc:=by
 obtain⟨hc,kS,Pe,AV,hlen,hs⟩:=h.shape hk;have hk0:=h.k0;have hp:=h.hp;rw[zR (by omega) hx]at hp;rw[ap hx,Int.add_mul]at hlen;unfold tg at hs;simp only at hs;rw[ap hx]at hs;have h1:=hs.app.2;have tW:=kL hc re.mn.toNat b;rw[Int.toNat_of_nonneg Pe]at tW;rw[tW,<- hp,hc]at h1;obtain⟨h2,h3⟩:=h1.cons;obtain⟨h4,h5⟩:=h3.app;refine⟨?_,h4,h5.cons.1,h.hs,h.hf,h.ho,by omega,.inl hx,?_⟩
 ·rw[h2,hlen];congr 1;omega
 ·rw[zR (by omega) hx];exact hp
theorem kx.count (h:kx g re b k pc) (hk:re.kids=[aL]) (aH:¬k<re.mn) (hx:re.mx≠-1) (hlx:k<re.mx):bk g pc=n6 re.mode (pc+1) (b+(re.code b).length)/\xZ g (pc+1) (aL.code (pc+1))/\kx g re b (k+1) (pc+1+(aL.code (pc+1)).length):=by obtain⟨hc,kS,Pe,AV,hlen,hs⟩:=h.shape hk;have hk0:=h.k0;have hp:=h.hp;rw[y5 (by omega) hx]at hp;unfold tg at hs;simp only at hs;rw[am hx]at hs;have h1:=hs.app.2;have tW:=kL hc re.mn.toNat b;rw[Int.toNat_of_nonneg Pe]at tW;rw[tW]at h1;have h2:=Gl hc (re.mx-re.mn).toNat h1 (k-re.mn).toNat (by omega);rw[Int.toNat_of_nonneg (by omega),<- hp]at h2;obtain⟨h3,h4⟩:=h2.cons;refine⟨by rw[h3,h.hf.len],h4,h.hs,h.hf,h.ho,by omega,.inr (by omega),?_⟩;rw[y5 (by omega) hx,hc,hp,show k+1-re.mn=(k-re.mn)+1 by omega,Int.add_mul (k-re.mn) 1];omega
theorem kx.last (h:kx g re b k pc) (hk:re.kids=[aL]) (aH:¬k<re.mn) (hx:¬(re.mx=-1\/k<re.mx)):pc=b+(re.code b).length:=by obtain⟨hc,kS,Pe,AV,hlen,hs⟩:=h.shape hk;have hk0:=h.k0;have oG:=h.k1;have hp:=h.hp;rw[y5 (by omega) (by omega),show k=re.mx by omega]at hp;rw[am (by omega)]at hlen;rw[hp,hlen,Int.mul_add,Int.sub_mul];omega
end
variable{re:Re}{g:cJ}{pc:Int}{k:Int}{b:Int}{nx:Goal}{i:Int}{c:aC}{f:Int}{st:bd}{s2:bd}{r:Option (Int×List Int)}{st':bd}{t:List Int}{aE:List Int}{mode:Int}{a:Int}{kind:Int}{p:iF}
theorem JA (mode a b:Int):(n6 mode a b).op=2:=by unfold n6;split <;> rfl
theorem RS (h:FR re):re.op=0\/re.op=1\/re.op=2\/re.op=3\/re.op=4\/re.op=5\/re.op=11:=(eY.1 ((Re.aQ re).1 h.ev).1).2.1
theorem yA{aL:Re}{l:List Re} (h:kx g re b k pc) (hk:re.kids=aL::l):re.kids=[aL]/\aL.pg=false/\FR aL/\aL.depth+1<=re.depth/\re.mode≠2:=by
 have h1:=(eY.1 ((Re.aQ re).1 h.hf.ev).1).2.2.1 (.inl h.ho);rw[hk,adA]at h1;have hl:l=[]:=adJ (by omega);subst hl;obtain⟨m1,m2⟩:=h.hf.rep h.ho;rw[hk]at m2;have mw:aL∈re.kids:=by rw[hk];simp
 exact⟨hk,m2,h.hf.aL (by have:=h.ho;omega) mw,m6 mw,m1⟩
theorem uP{aL:Re}{q d:Int}{j:Nat}{pk:Int}{m:Nat}{p':Int} (hk:re.kids=[aL]) (hs:xZ g pk (aL.code pk)) (hf:FR aL) (hd:aL.depth+1<=re.depth) (hn:aL.pg=false) (hm:Jm g (pk+(aL.code pk).length) m p') (oa:m<=1) (hR:kx g re b (k+1) p')
  (hj:Jm g (b+(re.code b).length) j q) (ZQ:CG g nx q d) (he:re.depth+j+d<=30) (hpg:PG false nx i):CG g (.mk 0 aL 0 0 (.mk 2 re k i nx)) pk (-1)/\PG true (.mk 0 aL 0 0 (.mk 2 re k i nx)) i:=by
 have hlo:=ZQ.lo;refine⟨.tree rfl hs hf hm (.more rfl hR hj ZQ he) (by omega),?_⟩;unfold PG;rw[ap rfl,hn,Bool.and_false];unfold PG;rw[am (by decide),ap rfl];exact⟨by rw[am ad2];omega,hpg⟩
def gT (c:aC):List Int:=c.flatMap λp=>[p.1,p.2]
theorem Mf (c:aC):(gT c).length=2*c.length:=by
 unfold gT;induction c with
 |nil=>rfl
 |cons p c ih=>rw[List.flatMap_cons,adx,ih,adA];simp only[adA,adF];omega
theorem BE:∀(c:aC) (m:Nat) (x y:Int),gT (c.set m (x,y))=((gT c).set (2*m) x).set (2*m+1) y
 |[],m,x,y=>by simp [gT]
 |p::c,0,x,y=>by simp [gT]
 |p::c,m+1,x,y=>by have ih:=BE c m x y;have e1:gT ((p::c).set (m+1) (x,y))=p.1::p.2::gT (c.set m (x,y)):=rfl;have e2:gT (p::c)=p.1::p.2::gT c:=rfl;rw[e1,ih,e2,show 2*(m+1)=2*m+1+1 by omega,show 2*m+1+1+1=(2*m+1)+1+1 by omega];simp only[ad6]
theorem IB{n:Int} (hn:1<=n):gT (kD c n f i)=((gT c).set (2*n-2).toNat f).set (2*n-1).toNat i:=by
 unfold kD;have e1:(2*n-2).toNat=2*(n-1).toNat:=by omega
 have e2:(2*n-1).toNat=2*(n-1).toNat+1:=by omega
 by_cases h:n<=c.length
 ·rw[ap ⟨hn,h⟩,BE,e1,e2]
 ·have hl:=Mf c;rw[am (by omega),List.set_eq_of_length_le (l:=gT c) (by omega),List.set_eq_of_length_le (by omega)]
def opens:Goal->List Int
 |.nil=>[]
 |.mk kind re _ _ nx=>if kind=3 then re.n::opens nx else opens nx
def jn:Goal->aC->List Int
 |.nil,c=>gT c
 |.mk kind re _ f nx,c=>if kind=3 then (jn nx c).set (2*re.n-2).toNat f else jn nx c
def TJ (re:Re):Bool:=decide (re.op=5->1<=re.n)
structure CS (S:List Int) (re:Re):Prop where
 cn:re.every TJ=true
 co:∃a,re.comp a=true/\∀x∈S,x∈a
theorem CS.aL {S:List Int}{k:Re} (h:CS S re) (hk:k∈re.kids) (ho:re.op≠5):CS S k:=by
 refine⟨((Re.aQ re).1 h.cn).2 k hk,?_⟩;obtain⟨a,ha,hS⟩:=h.co;rw[Re.js]at ha;split at ha
 ·cases ha
 ·split at ha
  ·cases ha
  ·split at ha
   ·cases ha
   ·rw[adE]at ha;exact⟨a,ha k hk,hS⟩
theorem CS.cap {S:List Int}{re k:Re} (h:CS S re) (hk:k∈re.kids) (ho:re.op=5):CS (re.n::S) k/\1<=re.n/\re.n ∉ S:=by
 have h1:=of_decide_eq_true ((Re.aQ re).1 h.cn).1 ho;obtain⟨a,ha,hS⟩:=h.co;rw[Re.js]at ha;split at ha
 ·cases ha
 ·split at ha
  ·cases ha
  ·rename_i Z7;split at ha
   ·cases ha
   ·rw[adE]at ha;refine⟨⟨((Re.aQ re).1 h.cn).2 k hk,_,ha k hk,λx hx=>?_⟩,h1,λhx=>Z7 ⟨ho,hS _ hx⟩⟩;rcases List.mem_cons.1 hx with rfl|hx
    ·simp
    ·simp [hS x hx]
def GS:Goal->Prop
 |.nil=>True
 |.mk kind re _ _ nx=>(if kind=3 then 1<=re.n/\re.n ∉ opens nx else CS (opens nx) re)/\GS nx
theorem wJ {n f i:Int} (hn:1<=n):∀{gl:Goal}{c:aC},GS gl->n ∉ opens gl->jn gl (kD c n f i)=((jn gl c).set (2*n-2).toNat f).set (2*n-1).toNat i
 |.nil,c,_,_=>IB hn
 |.mk kind re k f1 nx,c,hG,ho=>by
  unfold GS at hG;unfold opens at ho;unfold jn;by_cases h3:kind=3
  ·rw[ap h3]at hG ho;simp only[aeg,not_or]at ho;rw[ap h3,ap h3,wJ hn hG.2 ho.2];have h1:=hG.1.1;have fG:=ho.1;rw[List.set_comm _ _ (show (2*n-1).toNat≠(2*re.n-2).toNat by omega),List.set_comm _ _ (show (2*n-2).toNat≠(2*re.n-2).toNat by omega)]
  ·rw[am h3]at hG ho;rw[am h3,am h3,wJ hn hG.2 ho]
def As (st st':bd):Option (Int×List Int)->Prop
 |none=>st'.ends=st.ends/\st'.ah=st.ah
 |some x=>∃(le:List Int) (d:aC) (ld:List aC),st'.ends=st.ends++x.1::le/\st'.ah=st.ah++d::ld/\x.2=gT d
theorem As.more {st st':bd}{r:Option (Int×List Int)} (h:As st st' r):∃le ld,st'.ends=st.ends++le/\st'.ah=st.ah++ld:=by
 cases r with
 |none=>exact⟨[],[],by rw[h.1,adS],by rw[h.2,adS]⟩
 |some x =>
  obtain⟨le,d,ld,h1,h2,_⟩:=h;exact⟨_,_,h1,h2⟩
theorem As.then{x:Int×List Int} (h:As st s2 (some x)) (h2:As s2 st' r):As st st' (some x):=by obtain⟨le,d,ld,h1,h3,h4⟩:=h;obtain⟨le2,ld2,k1,k2⟩:=h2.more;exact⟨le++le2,d,ld++ld2,by rw[k1,h1];simp,by rw[k2,h3];simp,h4⟩
theorem As.K5 (h:As st s2 none) (h2:As s2 st' r):As st st' r:=by
 obtain⟨e1,e2⟩:=h;cases r with
 |none=>exact⟨h2.1.trans e1,h2.2.trans e2⟩
 |some x =>
  obtain⟨le,d,ld,h1,h3,h4⟩:=h2;exact⟨le,d,ld,by rw[h1,e1],by rw[h3,e2],h4⟩
def iK (g:cJ) (t:List Int) (pc i:Int) (aE:List Int) (st st':bd):Prop:=∃(n:Nat) (r:Option (Int×List Int)),Way g t pc i aE n r/\As st st' r
theorem iK.jm{q:Int}{j:Nat} (h:iK g t q i aE st st') (hj:Jm g pc j q):iK g t pc i aE st st' :=
 let ⟨_,_,w,hw⟩:=h;⟨_,_,hj.way w,hw⟩
theorem iK.split (ho:(bk g pc).op=2) (h1:iK g t (bk g pc).x i aE st s2) (h2:iK g t (bk g pc).y i aE s2 st'):iK g t pc i aE st st':=by
 obtain⟨n,r,w,hw⟩:=h1;obtain⟨m,r',w',hw'⟩:=h2;cases r with
 |some r=>exact⟨_,_,.Yo ho w,hw.then hw'⟩
 |none=>exact⟨_,_,.Yx ho w w',hw.K5 hw'⟩
theorem iK.U7 (ho:(bk g pc).op=4) (h:iK g t (pc+1) i (aE.set (bk g pc).n.toNat i) st st'):iK g t pc i aE st st' :=
 let ⟨_,_,w,hw⟩:=h;⟨_,_,.U7 ho w,hw⟩
theorem iK.Iu (hi:bk g pc=n6 mode a b) (hm:mode≠1) (h1:iK g t a i aE st s2) (h2:iK g t b i aE s2 st'):iK g t pc i aE st st':=by
 have ho:(bk g pc).op=2:=by rw[hi,JA]
 have hx:(bk g pc).x=a/\(bk g pc).y=b:=by rw[hi,n6,am hm];exact⟨rfl,rfl⟩
 exact iK.split ho (hx.1 ▸ h1) (hx.2 ▸ h2)
theorem iK.lazy (hi:bk g pc=n6 mode a b) (hm:mode=1) (h1:iK g t b i aE st s2) (h2:iK g t a i aE s2 st'):iK g t pc i aE st st':=by
 have ho:(bk g pc).op=2:=by rw[hi,JA]
 have hx:(bk g pc).x=b/\(bk g pc).y=a:=by rw[hi,n6,ap hm];exact⟨rfl,rfl⟩
 exact iK.split ho (hx.1 ▸ h1) (hx.2 ▸ h2)
def Vz (g:cJ) (t:List Int) (st st':bd):ETask->Prop
 |.run gl i c=>∀(pc q d:Int) (j:Nat),Jm g pc j q->CG g gl q d->PG true gl i->GS gl->iK g t pc i (jn gl c) st st'
 |.node re nx i c=>∀(pc q d:Int) (j:Nat),xZ g pc (re.code pc)->FR re->Jm g (pc+(re.code pc).length) j q->CG g nx q d->re.depth+j+d<=30->PG re.pg nx i->CS (opens nx) re->GS nx->iK g t pc i (jn nx c) st st'
 |.body re nx i c=>∀(pc q d:Int) (j:Nat),re.op≠4->xZ g pc (re.code pc)->FR re->Jm g (pc+(re.code pc).length) j q->CG g nx q d->re.depth+j+d<=30->PG re.pg nx i->CS (opens nx) re->GS nx->iK g t pc i (jn nx c) st st'
 |.alt l nx i c=>∀(pc q d:Int) (j:Nat),l≠[]->xZ g pc (Re.dA l pc)->(∀k∈l,FR k/\k.depth+1+j+d<=30)->Jm g (pc+(Re.dA l pc).length) j q->CG g nx q d->PG (Re.od l) nx i->(∀k∈l,CS (opens nx) k)->GS nx->iK g t pc i (jn nx c) st st'
 |.rep re k nx i c=>∀(pc b q d:Int) (j:Nat),kx g re b k pc->Jm g (b+(re.code b).length) j q->CG g nx q d->re.depth+j+d<=30->PG (decide (re.mn<=k)) nx i->CS (opens nx) re->GS nx->iK g t pc i (jn nx c) st st'
 |.behind ..=>True
theorem kf (h:kind≠3):jn (.mk kind re k f nx) c=jn nx c:=am h
theorem F0 (h:kind≠3):opens (.mk kind re k f nx)=opens nx:=am h
theorem SF:GS (.mk kind re k f nx)=((if kind=3 then 1<=re.n/\re.n ∉ opens nx else CS (opens nx) re)/\GS nx):=rfl
theorem tp (h:kind≠3):GS (.mk kind re k f nx) ↔ CS (opens nx) re/\GS nx:=by rw[SF,am h]
theorem OL:GS (.mk 3 re k f nx) ↔ (1<=re.n/\re.n ∉ opens nx)/\GS nx:=by rw[SF,ap rfl]
theorem J6:∀{l:List Re}{nx:Goal},(∀k∈l,CS (opens nx) k)->GS nx->GS (ft l nx)/\opens (ft l nx)=opens nx/\∀c,jn (ft l nx) c=jn nx c
 |[],nx,_,h=>⟨h,rfl,λ_=>rfl⟩
 |k::l,nx,hk,h=>by obtain⟨h1,h2,h3⟩:=J6 (l:=l) (λx hx=>hk x (by simp [hx])) h;have e:ft (k::l) nx=.mk 0 k 0 0 (ft l nx):=rfl;rw[e];refine⟨(tp (by decide)).2 ⟨by rw[h2];exact hk k (by simp),h1⟩,by rw[F0 (by decide),h2],λc=>by rw[kf (by decide),h3]⟩
theorem Df {aL:Re} (hk:re.kids=[aL]) (ho:re.op=4) (hc:CS (opens nx) re) (h:GS nx):GS (.mk 0 aL 0 0 (.mk 2 re k i nx))/\∀c,jn (.mk 0 aL 0 0 (.mk 2 re k i nx)) c=jn nx c:=by refine⟨(tp (by decide)).2 ⟨?_,(tp (by decide)).2 ⟨hc,h⟩⟩,λc=>by rw[kf (by decide),kf (by decide)]⟩;rw[F0 (by decide)];exact hc.aL (by rw[hk];simp) (by omega)
theorem eb.Wf{F ai:Int}{task:ETask}{b:Bool} (h:eb t F ai task st b st'):ai=-1->b=false->Vz g t st st' task:=by
 induction h with
 |found h0 h1 hl oV =>
  intro _ _ pc q d j hj hc hp hG;cases hc with
  |nil h=>exact iK.jm ⟨1,_,.done h,[],_,[],rfl,rfl,rfl⟩ hj
 |tree oG AT KE hk4 h0 h1 h ih =>
  intro hm hb pc q d j hj hc hp hG;rw[kf KE];obtain⟨g1,g2⟩:=(tp KE).1 hG;cases hc with
  |tree hk hs hf OK hn he =>
   unfold PG at hp;rw[ap hk,Bool.true_and]at hp;exact(ih hm hb _ _ _ _ hs hf OK hn he hp g1 g2).jm hj
  |save hk=>exact absurd hk KE
  |rep hk=>exact absurd hk oG
  |more hk=>exact absurd hk AT
 |JD h0 h1 h ih =>
  intro hm hb pc q d j hj hc hp hG;rw[kf (by decide)];obtain⟨g1,g2⟩:=(tp (by decide)).1 hG;cases hc with
  |tree hk=>exact absurd hk (by decide)
  |save hk=>exact absurd hk (by decide)
  |rep hk hR OK hn he =>
   unfold PG at hp;rw[am (by decide),am (by decide)]at hp;exact(ih hm hb _ _ _ _ _ hR OK hn he (hp.mono (λ_=>rfl)) g1 g2).jm hj
  |more hk=>exact absurd hk (by decide)
 |stay h0 h1 hk hi =>
  intro hm hb pc q d j hj hc hp;unfold PG at hp;rw[am (by decide),ap rfl,ap rfl]at hp;omega
 |iter h0 h1 hk hk0 oG h ih =>
  intro hm hb pc q d j hj hc hp hG;unfold PG at hp;rw[am (by decide),ap rfl,ap rfl]at hp;obtain⟨g1,g2⟩:=(tp (by decide)).1 hG;cases hc with
  |tree hk=>exact absurd hk (by decide)
  |save hk=>exact absurd hk (by decide)
  |rep hk=>exact absurd hk (by decide)
  |more hk hR OK hn he =>
   have h2:=ih hm hb _ _ _ _ hj (.rep rfl hR OK hn he) (by
    unfold PG;rw[am (by decide),am (by decide)];exact hp.2) ((tp (by decide)).2 ⟨g1,g2⟩)
   rw[kf (by decide)]at h2 ⊢;exact h2
 |save h0 h1 h ih =>
  intro hm hb pc q d j hj hc hp hG;unfold PG at hp;rw[am (by decide),am (by decide)]at hp;obtain⟨⟨g0,g1⟩,g2⟩:=OL.1 hG;cases hc with
  |tree hk=>exact absurd hk (by decide)
  |save hk ho hx OK hn =>
   have h2:=ih hm hb _ _ _ _ OK hn hp g2;rw[wJ g0 g2 g1]at h2;refine iK.jm (iK.U7 ho ?_) hj;rw[hx];exact h2
  |rep hk=>exact absurd hk (by decide)
  |more hk=>exact absurd hk (by decide)
 |here h0 h1 hi h ih =>
  intro hm hb pc q d j hj hc hp;cases hc with
  |tree hk=>exact absurd hk (by decide)
  |save hk=>exact absurd hk (by decide)
  |rep hk=>exact absurd hk (by decide)
  |more hk=>exact absurd hk (by decide)
 |gone h0 h1 hi =>
  intro hm hb pc q d j hj hc hp;cases hc with
  |tree hk=>exact absurd hk (by decide)
  |save hk=>exact absurd hk (by decide)
  |rep hk=>exact absurd hk (by decide)
  |more hk=>exact absurd hk (by decide)
 |yq mr=>intro _ _ pc b q d j hR;exact absurd mr (hR.hf.rep hR.ho).1
 |CK mr=>intro _ _ pc b q d j hR;exact absurd mr (hR.hf.rep hR.ho).1
 |yK mr=>intro _ _ pc b q d j hR;exact absurd mr (hR.hf.rep hR.ho).1
 |Dw=>intro _ hb;cases hb
 |@D7 ai k i re aL l nx c st st' b mr hs he iZ hk h ih =>
  intro hm hb pc b q d j hR hj hc hd hp hC hG;obtain⟨k1,k2,k3,k4,k5⟩:=yA hR iZ;obtain⟨r1,r2⟩:=hR.less k1 hk;obtain⟨o1,o2⟩:=uP (i:=i) k1 r1 k3 k4 k2 .refl (by omega) r2 hj hc hd (hp.mono (λe=>by cases e));obtain⟨w1,w2⟩:=Df (k:=k) (i:=i) k1 hR.ho hC hG;have h2:=ih hm hb _ _ _ _ .refl o1 o2 w1;rw[w2]at h2;exact h2
 |@wH ai k i re aL l nx c st st' b mr hs he iZ hk hx h ih =>
  intro hm hb pc b q d j hR hj hc hd hp hC hG;obtain⟨k1,k2,k3,k4,k5⟩:=yA hR iZ;have Z3:=hR.last k1 hk hx;rw[<- Z3]at hj;exact ih hm hb _ _ _ _ hj hc (hp.mono (λ_=>adu (by omega))) hG
 |Kl=>intro _ hb;cases hb
 |@KW ai k i re aL l nx c st s2 st' b mr hs he iZ hk hx h h2 ih ie =>
  intro hm hb pc b q d j hR hj hc hd hp hC hG;obtain⟨k1,k2,k3,k4,k5⟩:=yA hR iZ;have hp:=hp.mono (s':=true) (λ_=>adu (by omega));have hE:=ih hm rfl _ _ _ _ hj hc hp hG;obtain⟨w1,w2⟩:=Df (k:=k) (i:=i) k1 hR.ho hC hG;by_cases A0:re.mx=-1
  ·obtain⟨i1,s1,i2,r1⟩:=hR.loop k1 hk A0;obtain⟨o1,o2⟩:=uP (i:=i) k1 s1 k3 k4 k2 (.step (by rw[i2];rfl) (by rw[i2];exact .refl)) (by omega) r1 hj hc hd (hp.mono (λe=>by cases e));have h3:=ie hm hb _ _ _ 0 .refl o1 o2 w1;rw[w2]at h3;exact iK.lazy i1 mr hE h3
  ·obtain⟨i1,s1,r1⟩:=hR.count k1 hk A0 (by omega);obtain⟨o1,o2⟩:=uP (i:=i) k1 s1 k3 k4 k2 .refl (by omega) r1 hj hc hd (hp.mono (λe=>by cases e));have h3:=ie hm hb _ _ _ 0 .refl o1 o2 w1;rw[w2]at h3;exact iK.lazy i1 mr hE h3
 |KA=>intro _ hb;cases hb
 |@JH ai k i re aL l nx c st s2 st' b mr oa hs he iZ hk hx h h2 ih ie =>
  intro hm hb pc b q d j hR hj hc hd hp hC hG;obtain⟨k1,k2,k3,k4,k5⟩:=yA hR iZ;have hp:=hp.mono (s':=true) (λ_=>adu (by omega));have hE:=ie hm hb _ _ _ _ hj hc hp hG;obtain⟨w1,w2⟩:=Df (k:=k) (i:=i) k1 hR.ho hC hG;by_cases A0:re.mx=-1
  ·obtain⟨i1,s1,i2,r1⟩:=hR.loop k1 hk A0;obtain⟨o1,o2⟩:=uP (i:=i) k1 s1 k3 k4 k2 (.step (by rw[i2];rfl) (by rw[i2];exact .refl)) (by omega) r1 hj hc hd (hp.mono (λe=>by cases e));have h3:=ih hm rfl _ _ _ 0 .refl o1 o2 w1;rw[w2]at h3;exact iK.Iu i1 oa h3 hE
  ·obtain⟨i1,s1,r1⟩:=hR.count k1 hk A0 (by omega);obtain⟨o1,o2⟩:=uP (i:=i) k1 s1 k3 k4 k2 .refl (by omega) r1 hj hc hd (hp.mono (λe=>by cases e));have h3:=ih hm rfl _ _ _ 0 .refl o1 o2 w1;rw[w2]at h3;exact iK.Iu i1 oa h3 hE
 |@yH ai i re nx c st st' b ho h0 h1 h ih =>
  intro hm hb pc q d j hS hf hj hc hd hp hC hG;obtain⟨rm,AV⟩:=eU.1 (eY.1 ((Re.aQ re).1 hf.ev).1).1;obtain⟨q1,q2,q3,q4,q5⟩:=eW.1 rm;have AV:=AV ho;refine ih hm hb pc pc q d j ⟨hS,hf,ho,ady _,by omega,by rw[zl (by omega)];omega⟩ hj hc hd ?_ hC hG;rw[Re.jA,am (by omega),am (by omega),am (by omega),ap ho,(hf.rep ho).2,aea]at hp;exact hp
 |yL=>intro _ hb;cases hb
 |node ho hs he h ih =>
  intro hm hb pc q d j hS hf hj hc hd hp hC hG;exact ih hm hb _ _ _ _ ho hS hf hj hc hd hp hC hG
 |@empty ai i re nx c st st' b ho h ih =>
  intro hm hb pc q d j h4 hS hf hj hc hd hp hC hG;have xV:=RS hf;simp only[aeg,List.not_mem_nil,or_false,not_or]at ho;have h0:re.op=0:=by omega
  rw[Re.fe,am (by omega),am (by omega),am (by omega),am (by omega),am (by omega),am (by omega),adF]at hj;rw[Re.jA,am (by omega),am (by omega),am (by omega),am (by omega),am (by omega)]at hp;exact ih hm hb _ _ _ _ (by simpa using hj) hc hp hG
 |@CN ai i re nx c st st' b ho hi hs h ih =>
  intro hm hb pc q d j h4 hS hf hj hc hd hp hC hG;rw[Re.fe,ap ho]at hj hS;rw[Re.jA,ap ho]at hp;have tD:=hS.cons.1;obtain⟨n,r,w,hw⟩:=ih hm hb _ _ _ _ (by simpa using hj) hc hp.succ hG;refine⟨n+1,r,.sym (by rw[tD]) hi ?_ w,hw⟩;rw[tD];simpa only[hasB,tv,Bool.decide_and]using hs
 |@Kq ai i re nx c st ho hn =>
  intro hm hb pc q d j h4 hS hf hj hc hd hp hC hG;rw[Re.fe,ap ho]at hS;have tD:=hS.cons.1;refine⟨1,none,.M7 (by rw[tD]) ?_,rfl,rfl⟩;rw[tD];simpa only[hasB,tv,Bool.decide_and]using hn
 |@cat ai i re nx c st st' b ho h ih =>
  intro hm hb pc q d j h4 hS hf hj hc hd hp hC hG;have hlo:=hc.lo;have hdp:=(Re.vO re).1;rw[Re.fe,am (by omega),am (by omega),ap ho]at hS hj;rw[Re.jA,am (by omega),ap ho]at hp;obtain⟨j',q',d',a1,a2,a3,_,_⟩:=CG.push hc hS (λk hk=>⟨hf.aL (by omega) hk,by have:=m6 hk;omega,by have:=m6 hk;omega⟩) hj (by omega);obtain⟨w1,_,w3⟩:=J6 (l:=re.kids) (λk hk=>hC.aL hk (by omega)) hG;have h2:=ih hm hb _ _ _ _ a1 a2 (PG.push (by rw[Bool.true_and];exact hp)) w1;rw[w3]at h2;exact h2
 |@alt ai i re nx c st st' b ho h ih =>
  intro hm hb pc q d j h4 hS hf hj hc hd hp hC hG;have rm:=(eU.1 (eY.1 ((Re.aQ re).1 hf.ev).1).1).1;obtain⟨q1,q2,q3,q4,q5⟩:=eW.1 rm;rw[Re.fe,am (by omega),am (by omega),am (by omega),ap ho]at hS hj;rw[Re.jA,am (by omega),am (by omega),ap (.inl ho)]at hp;refine ih hm hb _ _ _ _ (λe=>?_) hS (λk hk=>⟨hf.aL (by omega) hk,by have:=m6 hk;omega⟩) hj hc hp (λk hk=>hC.aL hk (by omega)) hG;have h2:=q2 ho;rw[e]at h2;simp at h2
 |D9=>intro _ _ pc q d j hl;exact absurd rfl hl
 |Qc=>intro _ hb;cases hb
 |@x5 ai i aL l nx c st s2 st' b h h2 ih ie =>
  intro hm hb pc q d j hl hS hF hj hc hp hC hG;obtain⟨f1,f2⟩:=hF aL (by simp);have hdk:=(Re.vO aL).1;rw[Re.od]at hp;have ZR:PG true (.mk 0 aL 0 0 nx) i:=by unfold PG;rw[ap rfl,Bool.true_and];exact hp.mono (λe=>by rw[e,ad4])
  have XF:GS (.mk 0 aL 0 0 nx):=(tp (by decide)).2 ⟨hC aL (by simp),hG⟩;have er:jn (.mk 0 aL 0 0 nx) c=jn nx c:=kf (by decide);cases l with
  |nil =>
   simp only[Re.dA]at hS hj;have w:=ih hm rfl _ _ _ 0 .refl (.tree rfl hS f1 hj hc (by omega)) ZR XF;rw[er]at w;cases h2;exact w
  |cons k2 l2 =>
   rw[Re.dA]at hS hj;obtain⟨i1,s1⟩:=hS.cons;obtain⟨YX,s3⟩:=s1.app;obtain⟨i2,s4⟩:=s3.cons;have dx:pc+1+((aL.code (pc+1)).length:Int)+1=pc+(aL.code (pc+1)).length+2:=by omega
   rw[dx]at s4;generalize hz:Re.dA (k2::l2) (pc+(aL.code (pc+1)).length+2)=z at *;simp only[adA,adx]at hj;have hj2:Jm g (pc+(aL.code (pc+1)).length+2+z.length) j q:=by
    have:pc+(((aL.code (pc+1)).length+(z.length+1)+1:Nat):Int)=pc+(aL.code (pc+1)).length+2+z.length:=by push_cast;omega
    rw[<- this];exact hj
   have YR:Jm g (pc+1+(aL.code (pc+1)).length) (j+1) q:=.step (by rw[i2];rfl) (by rw[i2];exact hj2);have w1:=ih hm rfl _ _ _ 0 .refl (.tree rfl YX f1 YR hc (by push_cast;omega)) ZR XF;rw[er]at w1;have w2:=ie hm hb _ _ _ j (by simp) (by rw[hz];exact s4) (λk hk=>hF k (by simp only[aeg]at hk ⊢;exact .inr hk)) (by rw[hz];exact hj2) hc (hp.mono (λe=>by rw[e,Bool.or_true])) (λk hk=>hC k (by simp only[aeg]at hk ⊢;exact .inr hk)) hG;exact iK.Iu i1 (by decide) w1 w2
 |@cap ai i re aL l nx c st st' b ho iZ h ih =>
  intro hm hb pc q d j h4 hS hf hj hc hd hp hC hG;have mw:aL∈re.kids:=by rw[iZ];simp
  have hdk:=m6 mw;obtain⟨c1,c2,c3⟩:=hC.cap mw ho;rw[Re.fe,am (by omega),am (by omega),am (by omega),am (by omega),ap ho,iZ]at hS hj;simp only[Re.oM]at hS hj;rw[Re.jA,am (by omega),am (by omega),am (by omega),am (by omega),ap (.inl ho),iZ]at hp;simp only[Re.lC]at hp;obtain⟨i1,s1⟩:=hS.cons;obtain⟨YX,s3⟩:=s1.app;have i2:=s3.cons.1;have YR:Jm g (pc+1+(aL.code (pc+1)).length+1) j q:=by
   have:pc+((kE (2*re.n-2)::(aL.code (pc+1)++[kE (2*re.n-1)])).length:Int)=pc+1+(aL.code (pc+1)).length+1:=by simp;omega
   rw[<- this];exact hj
  have h2:=ih hm hb _ _ _ 0 .refl (.tree rfl YX (hf.aL (by omega) mw) .refl (.save rfl (by rw[i2];rfl) (by rw[i2];rfl) YR hc) (by omega)) (by
   unfold PG;rw[ap rfl,Bool.true_and];unfold PG;rw[am (by decide),am (by decide)];exact hp) ((tp (by decide)).2 ⟨by rw[show opens (.mk 3 re 0 i nx)=re.n::opens nx from ap rfl];exact c1,OL.2 ⟨⟨c2,c3⟩,hG⟩⟩)
  have er:jn (.mk 0 aL 0 0 (.mk 3 re 0 i nx)) c=(jn nx c).set (2*re.n-2).toNat i:=by rw[kf (by decide)];exact ap rfl
  rw[er]at h2;refine iK.U7 (by rw[i1];rfl) ?_;rw[i1];exact h2
 |@r9 ai i re nx c st st' b ho hh h ih =>
  intro hm hb pc q d j h4 hS hf hj hc hd hp hC hG;rw[Re.fe,am (by omega),ap ho]at hj hS;rw[Re.jA,am (by omega),am (by omega),am (by omega),am (by omega),am (by omega)]at hp;have tD:=hS.cons.1;obtain⟨n,r,w,hw⟩:=ih hm hb _ _ _ _ (by simpa using hj) hc hp hG;exact⟨n+1,r,.Zb (by rw[tD]) (by rw[tD];exact hh) w,hw⟩
 |@vk ai i re nx c st ho hh =>
  intro hm hb pc q d j h4 hS hf hj hc hd hp hC hG;rw[Re.fe,am (by omega),ap ho]at hS;have tD:=hS.cons.1;exact⟨1,none,.S5 (by rw[tD]) (by rw[tD];show ¬bN re.n t i=true;rw[hh];exact ad2),rfl,rfl⟩
 |Rg=>intro _ _;trivial
 |yC=>intro _ _;trivial
 |Jy=>intro _ _;trivial
 |JQ=>intro _ _;trivial
 |vS=>intro _ _;trivial
 |Dd=>intro _ _;trivial
 |_=>rename_i ho _;intro _ _ pc q d j _ _ hf;have:=RS hf;omega
theorem Li (n:Nat):gT (List.replicate n (-1,-1))=List.replicate (2*n) (-1):=by
 induction n with
 |zero=>rfl
 |succ n ih =>
  have e:gT (List.replicate (n+1) (-1,-1))=(-1)::(-1)::gT (List.replicate n (-1,-1)):=rfl;rw[e,ih,show 2*(n+1)=2*n+1+1 by omega,List.replicate_succ,List.replicate_succ]
theorem Fe:∀(c:aC) (j:Nat) (x:Int×Int),c[j]?=some x->(gT c).getD (2*j) 0=x.1/\(gT c).getD (2*j+1) 0=x.2
 |[],j,x,h=>by simp at h
 |p::c,0,x,h=>by simp only[adU,adp]at h;subst h;exact⟨rfl,rfl⟩
 |p::c,j+1,x,h=>by rw[List.getElem?_cons_succ]at h;have ih:=Fe c j x h;have e2:gT (p::c)=p.1::p.2::gT c:=rfl;rw[e2,show 2*(j+1)=2*j+1+1 by omega,show 2*j+1+1+1=(2*j+1)+1+1 by omega];simp only[List.getD_cons_succ];exact ih
theorem EZ (h:dj t c):mL c.length (gT c)=c:=by
 apply List.ext_getElem?;intro j;unfold mL;rw[adL];by_cases hj:j<c.length
 ·rw[List.getElem?_range hj];obtain⟨x,hx⟩:∃x,c[j]?=some x:=⟨_,adn hj⟩
  obtain⟨g1,g2⟩:=Fe c j x hx;rw[hx];simp only[ad9,adp];unfold tU;rw[g1,g2];obtain⟨x1,x2⟩:=x;rcases h.2 _ (adw hx) with he|⟨a1,a2,a3⟩
  ·cases he;rw[ap (.inl rfl)]
  ·simp only at a1 a2;rw[am (by simp only;omega)]
 ·rw[List.getElem?_eq_none (by simpa using hj),List.getElem?_eq_none (by omega)];rfl
theorem Qo {ah top:Int} (re:Re) (hw:re.whole ah top=true):re.every TJ=true:=by revert hw;refine Re.ind (Q:=λre=>re.whole ah top=true->re.every TJ=true) (λre ih h=>?_) re;obtain⟨a1,a2⟩:=(Re.aQ re).1 h;refine(Re.aQ re).2 ⟨adu (λho=>?_),λk hk=>ih k hk (a2 k hk)⟩;unfold b9 at a1;simp only[ho]at a1;simp at a1;omega
theorem LO (hP:zT p t) (hc:p.re.comp []=true) (hg:(hU p).bW) (i:Int) (h0:0<=i) (h1:i<=t.length) (hf0:3000<=f) (hf1:f<=1099511627776) :
  fv p t i 1 f=0/\Dz (hU p) t i=(allM p t i 1 f).head?.map λx=>⟨i,x.1,x.2⟩:=by
 have Jd:=hP.bW i h0 h1;obtain⟨hv,_,_,he⟩:=jw Jd;have aU:=GG Jd;obtain⟨p1,p2,p3⟩:=I2 (n:=1) (adB _) Jd;have p1:fv p t i 1 3000=0:=p1;have p2:allM p t i 1 3000=(allM p t i (-1) 3000).take 1:=p2;have p3:jy p t i 1 3000<=jy p t i (-1) 3000:=p3;obtain⟨f1,f2,_,_⟩:=MM (f':=f) p1 (by omega) hf1;refine⟨f1,?_⟩;rw[f2,p2];obtain⟨k,b,x,hx,ev⟩:=sX (ai:=-1) hv h0 h1;obtain⟨_,_,e2⟩:=gE (ai:=-1) hv h0 h1;have hM:allM p t i (-1) 3000=x.ends.zip x.ah:=by unfold allM;rw[ap Jd,hx]
 rw[hx]at he e2;have qy:=HZ k _ _ _ _ _ ev;have hb:=(qy.all rfl rfl he).1;obtain⟨v1,v2,v3,v4,v5⟩:=eL hP.valid;have hF:FR p.re:=⟨Dh v4 p.re v5 (by omega) [] hc,by have:=hP.fw;omega,[],hc⟩
 have hS:xZ (hU p) 0 (p.re.code 0):=⟨[],[Ae],by simp [hU],rfl⟩
 have R4:xZ (hU p) (p.re.code 0).length [Ae]:=⟨p.re.code 0,[],by simp [hU],rfl⟩
 have hd:(bk (hU p) (0+(p.re.code 0).length)).op=0:=by rw[Int.zero_add,R4.cons.1];rfl
 have hCS:CS [] p.re:=⟨Qo p.re v5,[],hc,λx hx=>by cases hx⟩
 obtain⟨n,r,w,ho⟩:=qy.Wf rfl hb 0 0 (-1) 0 .refl (.tree rfl hS hF .refl (.nil hd) (by omega)) (by unfold PG;rw[ap rfl];trivial) ((tp (by decide)).2 ⟨hCS,trivial⟩);have BA:(hU p).ah=p.ah:=rfl;have er:jn (.mk 0 p.re 0 0 .nil) (lD p)=List.replicate (2*(hU p).ah).toNat (-1):=by rw[kf (by decide)];show gT (List.replicate p.ah.toNat (-1,-1))=_;rw[Li,BA];congr 1;omega
 rw[er]at w;rw[Oz hg h0 h1 w,hM];obtain⟨new,mR,z1,z2,z3,z4,z5,z6⟩:=e2.more;cases r with
 |none =>
  obtain⟨o1,o2⟩:=ho;rw[o1];rfl
 |some y =>
  obtain⟨ye,yr⟩:=y;obtain⟨le,d,ld,o1,o2,o3⟩:=ho;simp only[adt]at o1 o2 z2;rw[o1,o2];have hdm:d∈mR:=by rw[<- z2,o2];simp
  obtain⟨c1,c2⟩:=z6 d hdm;simp only at o3;rw[o3];show some (ra.mk i ye (mL (hU p).ah.toNat (gT d)))=some ⟨i,ye,d⟩;have hl:(hU p).ah.toNat=d.length:=by rw[c2,BA];simp [lD]
  rw[hl,EZ c1]
theorem Lv (h:gV g=0) (ht:t.length<=65536) (h0:0<=a) (h1:a<=t.length):Bb g t a=0:=by unfold Bb;rw[am (by simp [h]),am (by omega),am (by omega)]
theorem Q5 (h:fv p t i 1 f=0):Er p t i f=match allM p t i 1 f with
  |[]=>[i64 0,i64 0,.d (.sl []),bV false,i64 (jy p t i 1 f),i64 0]
  |(e,d)::_=>[i64 i,i64 e,.d (bQ d),bV true,i64 (jy p t i 1 f),i64 0]:=by
 unfold Er;rw[am (by rw[h];simp)];cases allM p t i 1 f <;> rfl
theorem LS{n:Int}:∀x∈allM p t i n f,x.2.length<=1000000000:=by
 intro x hx;by_cases h:fv p t i n f=0
 ·obtain⟨Th,h0,h1,he⟩:=jw h;obtain⟨_,_,e2⟩:=gE (ai:=n) Th h0 h1;obtain⟨new,mR,z1,z2,z3,z4,z5,z6⟩:=e2.more;unfold allM at hx;rw[ap h]at hx;have hd:=(List.of_mem_zip hx).2;rw[z2]at hd;exact(z6 _ (by simpa using hd)).1.1
 ·unfold allM at hx;rw[am h]at hx;cases hx
def xU (p:iF):VL.Obj:=⟨0,true,10,[[.d (.sc (.int .i64 p.re.op)),.d (.sl (p.re.set.map aN)),.d (.sl (p.re.kids.map Re.cells)),.d (.sc (.int .i64 p.re.mn)),.d (.sc (.int .i64 p.re.mx)),.d (.sc (.int .i64 p.re.mode)),.d (.sc (.int .i64 p.re.n)),.d (.sc (.bool p.re.neg)),.d (.sc (.int .i64 p.ah)),.d (.sc (.bool p.aK))]]⟩
def yi (g:cJ):VL.Obj:=⟨0,true,3,[[.d (.sl (g.ins.map bR.cells)),.d (.sc (.int .i64 g.ah)),.d (.sc (.bool g.aK))]]⟩
def Z2 (p:iF) (g:cJ) (t:List Int) (b a:Nat):Nat->Env->List VL.Obj->Prop:=λn e s=>∃(i:Nat) (m:aA) (T:V),n=t.length+1-i/\i<=t.length+1/\Zw p m/\ak 3 T=true/\aX [0,1,2] T=T /\
 e 5=.rf 0 0 0 0/\e 6=.d (av t)/\e 7=.rf 1 0 0 0/\e 9=.pp 2 0 0 0 b a/\e 11=i64 i /\
 s=[xU p,yi g,MN 3 4 m (aX [2,3,4] T),Od b a m,PS m]
theorem yb (l:List Int) (hl:∀x∈l,kg x) (m:List Int) (hm:∀x∈m,kg x) :
  ba prog 3 [.d (av l),.d (av m)] (bV true):=by
 obtain⟨p,t,Ie,hP,gz⟩:=On l m hl hm true;have aa2:=hP.fw;have hvalid:=xt p hP.valid gz (by omega);have Uj:=A6 p hP.valid gz (by omega);have jd:=Im hP gz;have Up:=hP.len;have P3:=Il;have Xr:=jd.CI;have SA:∀x∈(hU p).ins,x.set.length<=1000000000:=λx hx=>by have:=jd.VQ x hx;omega
 have hvr:=hP.valid;have EE:=hP.eN;have X0:∀x∈t,kg x:=Rc (jw (hP.bW 0 (by omega) (by omega))).1;have Yy:=λ(i:Nat) (hi:i<=t.length)=>LO hP gz jd (i:Int) (by omega) (by omega) (f:=1048576) (by omega) (by omega);have dJ:=λ(i:Nat) (hi:i<=t.length)=>by have:=zb (hU p) (by omega) SA t (by omega) i;rw[wk,ap (Lv hvalid (by omega) (by omega) (by omega))]at this;exact this
 have s5:=λs K hk=>PT EE hvr (s:=s) (K:=K) hk;generalize hU p=g at *;clear SA jd gz hvalid hP;simp only[dF,Re.ae p.re,adG,adP,adr,adt,aM,i64,iD,bD,bV]at Ie Uj s5 P3;refine ar func3 rfl ntmps3 results3 rfl 0 393203 (by simp) (by simp) ?_;simp only[zX,simprocAttr,zY,vy];refine az Ie rfl rfl ?_;simp only[zX,simprocAttr,zY,vy];refine az Uj rfl rfl ?_;simp only[zX,simprocAttr,zY,vy];refine s5 _ _ (λb a=>?_);simp only[zX,simprocAttr,zY,vy];refine⟨rfl,⟨_,rfl⟩,?_⟩;refine aJ (Z2 p g t b a) ⟨_,_,_,cU.refl,0,fresh p,.fu [],rfl,by omega,⟨rfl,adB _⟩,rfl,rfl,rfl,rfl,rfl,rfl,rfl,rfl⟩ ?_;clear Ie Uj s5;rintro n e s ⟨i,m,T,rfl,hi,X4,hT,Lk,h5,h6,h7,h9,fm,rfl⟩;simp only[i64]at fm;by_cases hle:i<=t.length
 case neg =>
  have Bl:¬((i:Int)<=t.length):=by omega
  simp only[zX,simprocAttr,zY,vy,h5,h6,h7,h9,fm,Bl];refine az P3 rfl rfl ?_;simp only[zX,simprocAttr,zY,vy]
 have Bl:(i:Int)<=t.length:=by omega
 have hr:=dJ i hle;obtain⟨a4,htr⟩:=Yy i hle;rw[htr]at hr;have NX:=Q5 a4;obtain⟨m',T',WW,ZB,Ub,_,_,_,_,zq⟩:=Qk hvr (t:=t) (by omega) X0 (i:Int) 1048576 X4 T hT Lk;have fS:=λx hx=>LS (p:=p) (t:=t) (i:=(i:Int)) (n:=1) (f:=1048576) x hx;rw[NX]at zq;have wi:IntKind.i64.wrap ((i:Int)+1)=((i+1:Nat):Int):=by rw[bM _ (by omega)];omega
 generalize jy p t (i:Int) 1 1048576=N at *;generalize allM p t (i:Int) 1 1048576=M at *;have oh:∀(e1:Env) (X Y:List V),
   e1 5=.rf 0 0 0 0->e1 6=.d (av t)->e1 7=.rf 1 0 0 0->e1 9=.pp 2 0 0 0 b a->e1 11=.d (.sc (.int .i64 ((i+1:Nat):Int))) ->
   M5 0 (Z2 p g t b a) (t.length+1-i) e1 [xU p,yi g,MN 3 4 m' (aX [2,3,4] T'),Od b a m',PS m',⟨0,true,3,[X]⟩,⟨0,true,3,[Y]⟩]:=by
  intro e1 X Y g5 g6 g7 g9 g11;refine⟨t.length+1-(i+1),_,_,by omega,cU.cut 5 (by omega) rfl ?_ [5,6,7,9,11] ?_,i+1,m',T',rfl,by omega,WW,ZB,Ub,?_,?_,?_,?_,?_,rfl⟩
  ·have:=Wo (m:=m') b a (Y:=3) (Z:=4) (n:=5) (by omega) (by omega) (Zc (X:=2) (Y:=3) (Z:=4) (n:=5) (by omega) (by omega) (by omega) ZB);show (bJ 5 (xU p)&&(bJ 5 (yi g)&&(bJ 5 (MN 3 4 m' (aX [2,3,4] T'))&&(bJ 5 (Od b a m')&&(bJ 5 (PS m')&&_)))))=true;rw[this.1,this.2.1,this.2.2];simp [bJ,xU,yi,ak]
  ·simp [g5,g6,g7,g9,g11,ak,av]
  all_goals simp only[mc,ad7,ad8,Nat.reduceBEq,aea,adY,Bool.or_true,ad4,if_true,i64,bV,g5,g6,g7,g9,g11,reduceIte]
 have UO:(!(false == false))=false:=by decide
 have rm:(!(true == true))=false:=by decide
 cases M with
 |nil =>
  have heq:=Ew ⟨0,0,[]⟩ ⟨0,0,[]⟩ (by simp);simp only[decide_true,ra.v,bQ,adP,i64,bV]at heq;have YO:Ib [i64 0,i64 0,.d (.sl []),bV false,i64 N,i64 0]=.tu [.ag [i64 0,i64 0,.d (.sl [])],bV false,i64 N,i64 0]:=rfl;simp only at zq;rw[YO]at zq;simp only[List.head?_nil,Et,Option.map_none,Option.getD_none,Option.isSome_none,ra.v,bQ,adP,aM,i64,bV,iD,bD]at hr;simp only[zX,simprocAttr,zY,vy,xU,yi,h5,h6,h7,h9,fm,Bl];refine az hr rfl rfl ?_;simp only[zX,simprocAttr,zY,vy,xU,yi,h5,h6,h7,h9,fm,Bl];refine NG (X:=2) (Y:=3) (Z:=4) (r':=.tu [.ag [i64 0,i64 0,.d (.sl [])],bV false,i64 N,i64 0]) (zq b a) hT rfl rfl (by decide) rfl rfl rfl rfl rfl rfl ?_;simp only[zX,simprocAttr,zY,vy,xU,yi,h5,h6,h7,h9,fm,Bl,UO,rm];refine az heq rfl rfl ?_;simp only[zX,simprocAttr,zY,vy,xU,yi,h5,h6,h7,h9,fm,Bl,UO,rm,wi];refine oh _ _ _ ?_ ?_ ?_ ?_ ?_ <;> (try simp only[zU,Nat.reduceBEq,Nat.reduceShiftRight,Nat.reduceMod,Nat.reduceEqDiff,reduceIte])
  all_goals first|exact h5|exact h6|exact h7|exact h9|rfl
 |cons y tl =>
  obtain⟨ye,yd⟩:=y;have heq:=Ew ⟨i,ye,yd⟩ ⟨i,ye,yd⟩ (fS (ye,yd) (by simp));simp only[decide_true,ra.v,i64,bV]at heq;have YO:Ib [i64 i,i64 ye,.d (bQ yd),bV true,i64 N,i64 0]=.tu [.ag [i64 i,i64 ye,.d (bQ yd)],bV true,i64 N,i64 0]:=rfl;simp only at zq;rw[YO]at zq;simp only[List.head?_cons,Et,ad9,Option.getD_some,Option.isSome_some,ra.v,aM,i64,bV,iD,bD]at hr;simp only[zX,simprocAttr,zY,vy,xU,yi,h5,h6,h7,h9,fm,Bl];refine az hr rfl rfl ?_;simp only[zX,simprocAttr,zY,vy,xU,yi,h5,h6,h7,h9,fm,Bl];refine NG (X:=2) (Y:=3) (Z:=4) (r':=.tu [.ag [i64 i,i64 ye,.d (bQ yd)],bV true,i64 N,i64 0]) (zq b a) hT rfl rfl (by decide) rfl rfl rfl rfl rfl rfl ?_;simp only[zX,simprocAttr,zY,vy,xU,yi,h5,h6,h7,h9,fm,Bl,UO,rm];refine az heq rfl rfl ?_;simp only[zX,simprocAttr,zY,vy,xU,yi,h5,h6,h7,h9,fm,Bl,UO,rm,wi];refine oh _ _ _ ?_ ?_ ?_ ?_ ?_ <;> (try simp only[zU,Nat.reduceBEq,Nat.reduceShiftRight,Nat.reduceMod,Nat.reduceEqDiff,reduceIte])
  all_goals first|exact h5|exact h6|exact h7|exact h9|rfl
end Go.Proofs.Ytphfjhaffbfpfaa
