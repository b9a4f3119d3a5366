/- A part of the proof (K90 K91 K79 K80 K81 K82). -/
import Derived.Test.YtphfjhaffbfpfaaPM27
import Derived.Test.YtphfjhaffbfpfaaPM22
import Derived.Test.YtphfjhaffbfpfaaPM29
import Derived.Test.YtphfjhaffbfpfaaPM32
set_option linter.all false
set_option maxRecDepth 100000
set_option maxHeartbeats 80000000
namespace Go.Proofs.Ytphfjhaffbfpfaa
open Go.VL Go.Proofs.Try
variable{t:List Int}{g:cJ}{a:Int}{r:Option (Int×List Int)}{l':List rv}{o:Int×List Int}{l:List rv}
inductive Way (g:cJ) (t:List Int):Int->Int->List Int->Nat->Option (Int×List Int)->Prop
 |done {pc a:Int}{aE:List Int} (h:(bk g pc).op=0):Way g t pc a aE 1 (some (a,aE))
 |M7 {pc a:Int}{aE:List Int} (h:(bk g pc).op=1) (hc:¬(a<t.length/\hasB (bk g pc).set (gQ t a)=true)):Way g t pc a aE 1 none
 |sym {pc a:Int}{aE:List Int}{n:Nat}{r:Option (Int×List Int)} (h:(bk g pc).op=1) (h1:a<t.length) (h2:hasB (bk g pc).set (gQ t a)=true) (w:Way g t (pc+1) (a+1) aE n r):Way g t pc a aE (n+1) r
 |Yo {pc a:Int}{aE:List Int}{n:Nat}{r:Int×List Int} (h:(bk g pc).op=2) (w:Way g t (bk g pc).x a aE n (some r)):Way g t pc a aE (n+1) (some r)
 |Yx {pc a:Int}{aE:List Int}{n m:Nat}{r:Option (Int×List Int)} (h:(bk g pc).op=2) (w:Way g t (bk g pc).x a aE n none) (w2:Way g t (bk g pc).y a aE m r):Way g t pc a aE (n+m+1) r
 |jmp {pc a:Int}{aE:List Int}{n:Nat}{r:Option (Int×List Int)} (h:(bk g pc).op=3) (w:Way g t (bk g pc).x a aE n r):Way g t pc a aE (n+1) r
 |U7 {pc a:Int}{aE:List Int}{n:Nat}{r:Option (Int×List Int)} (h:(bk g pc).op=4) (w:Way g t (pc+1) a (aE.set (bk g pc).n.toNat a) n r):Way g t pc a aE (n+1) r
 |Zb {pc a:Int}{aE:List Int}{n:Nat}{r:Option (Int×List Int)} (h:(bk g pc).op=5) (hc:bN (bk g pc).n t a=true) (w:Way g t (pc+1) a aE n r):Way g t pc a aE (n+1) r
 |S5 {pc a:Int}{aE:List Int} (h:(bk g pc).op=5) (hc:¬bN (bk g pc).n t a=true):Way g t pc a aE 1 none
theorem Way.WR{pc:Int}{aE:List Int}{n:Nat} (w:Way g t pc a aE n r):∀{kd:List Int}{n':Nat}{r':Option (Int×List Int)},Way g t pc a kd n' r'->n=n'/\r.isSome=r'.isSome/\(aE=kd->r=r'):=by
 induction w with
 |done h =>
  intro kd n' r' w';cases w' <;> (try (exfalso;simp_all;done))
  exact⟨rfl,rfl,λe=>by rw[e]⟩
 |M7 h hc =>
  intro kd n' r' w';cases w' <;> (try (exfalso;simp_all;done))
  exact⟨rfl,rfl,λe=>rfl⟩
 |sym h h1 h2 w ih =>
  intro kd n' r' w';cases w' <;> (try (exfalso;simp_all;done))
  rename_i w';obtain⟨e1,e2,e3⟩:=ih w';exact⟨by omega,e2,e3⟩
 |Yo h w ih =>
  intro kd n' r' w';cases w' <;> (try (exfalso;simp_all;done))
  ·rename_i w';obtain⟨e1,e2,e3⟩:=ih w';exact⟨by omega,e2,e3⟩
  ·rename_i w' _;obtain⟨e1,e2,e3⟩:=ih w';cases e2
 |Yx h w w2 ih ie =>
  intro kd n' r' w';cases w' <;> (try (exfalso;simp_all;done))
  ·rename_i w';obtain⟨e1,e2,e3⟩:=ih w';cases e2
  ·rename_i w' w2';obtain⟨e1,e2,e3⟩:=ih w';obtain⟨f1,f2,f3⟩:=ie w2';exact⟨by omega,f2,f3⟩
 |jmp h w ih =>
  intro kd n' r' w';cases w' <;> (try (exfalso;simp_all;done))
  rename_i w';obtain⟨e1,e2,e3⟩:=ih w';exact⟨by omega,e2,e3⟩
 |U7 h w ih =>
  intro kd n' r' w';cases w' <;> (try (exfalso;simp_all;done))
  rename_i w';obtain⟨e1,e2,e3⟩:=ih w';exact⟨by omega,e2,λe=>e3 (by rw[e])⟩
 |Zb h hc w ih =>
  intro kd n' r' w';cases w' <;> (try (exfalso;simp_all;done))
  rename_i w';obtain⟨e1,e2,e3⟩:=ih w';exact⟨by omega,e2,e3⟩
 |S5 h hc =>
  intro kd n' r' w';cases w' <;> (try (exfalso;simp_all;done))
  exact⟨rfl,rfl,λe=>rfl⟩
def VF (g:cJ) (t:List Int) (a q:Int):Prop:=∃n aE,Way g t q a aE n none
inductive Out (g:cJ) (t:List Int) (a:Int):List rv->Option (Int×List Int)->Prop
 |nil:Out g t a [] none
 |P6 {x l n r} (w:Way g t x.pc a x.aE n (some r)):Out g t a (x::l) (some r)
 |Ar {x l n r} (w:Way g t x.pc a x.aE n none) (h:Out g t a l r):Out g t a (x::l) r
theorem Out.Pq (h:Out g t a l (some o)):Out g t a (l++l') (some o):=by
 generalize hr:some o=r at h;induction h with
 |nil=>cases hr
 |P6 w=>exact hr ▸ .P6 (hr ▸ w)
 |Ar w h ih=>exact .Ar w (ih hr)
theorem Out.Ok (h:Out g t a l none) (h':Out g t a l' r):Out g t a (l++l') r:=by
 generalize hr:(none:Option (Int×List Int))=r0 at h;induction h with
 |nil=>exact h'
 |P6 w=>cases hr
 |Ar w h ih=>exact .Ar w (ih hr)
theorem mY (g:cJ) (t:List Int) (a:Int):∀(k:Nat) (pc:Int) (aE:List Int) (st:zA),st.jg <+: (iE g t a k pc aE st).jg
 |0,_,_,st=>List.prefix_refl _
 |k+1,pc,aE,st=>by
  rw[iE];split
  ·exact List.prefix_refl _
  simp only;split
  ·exact(mY g t a k _ aE ⟨st.added.set pc.toNat true,st.jg⟩).trans (mY g t a k _ _ _)
  split
  ·exact mY g t a k _ aE ⟨st.added.set pc.toNat true,st.jg⟩
  split
  ·exact mY g t a k _ _ ⟨st.added.set pc.toNat true,st.jg⟩
  split
  ·split
   ·exact mY g t a k _ aE ⟨st.added.set pc.toNat true,st.jg⟩
   ·exact List.prefix_refl _
  ·exact List.prefix_append _ _
theorem Out.pre (h:Out g t a l (some o)) (hp:l <+: l'):Out g t a l' (some o):=by obtain⟨r,rfl⟩:=hp;exact h.Pq
def B6 (g:cJ) (t:List Int) (a:Int) (S:Int->Prop) (st:zA):Prop:=∀q:Int,0<=q->q<g.ins.length->st.added.getD q.toNat true=true->VF g t a q\/S q
theorem ko {g:cJ} (hg:g.bW) {t:List Int}{a:Int}:∀(k:Nat) (pc:Int) (aE:List Int) (st:zA) (S:Int->Prop) (n:Nat) (r:Option (Int×List Int)),Way g t pc a aE n r->0<=pc->pc<g.ins.length->st.added.length=g.ins.length->free st.added<k ->
  B6 g t a S st->(∀q,S q->∃m kd r',n<m/\Way g t q a kd m r')->Out g t a st.jg none->Out g t a (iE g t a k pc aE st).jg r/\(r=none->B6 g t a S (iE g t a k pc aE st))
 |0,_,_,_,_,_,_,_,_,_,_,h,_,_,_=>by omega
 |k+1,pc,aE,st,S,n,r,w,p0,p1,hl,hf,hA,hS,ho=>by
  rw[iE];by_cases hc:st.added.getD pc.toNat true=true
  ·rw[ap hc];rcases hA pc p0 p1 hc with ⟨m,kd,w'⟩|hs
   ·have:=w.WR w';have hr:r=none:=by cases r with
     |none=>rfl
     |some r=>have:=this.2.1;cases this
    exact⟨hr ▸ ho,λ_=>hA⟩
   ·obtain⟨m,kd,r',hm,w'⟩:=hS pc hs;have:=(w.WR w').1;omega
  rw[am hc];have rb:=fE p0 p1;have hf1:=E4 (l:=st.added) (i:=pc.toNat) (by simpa using hc);simp only;generalize aU:(⟨st.added.set pc.toNat true,st.jg⟩:zA)=c8;have oV:c8.added.length=g.ins.length:=by rw[<- aU];simpa using hl
  have Aa:free c8.added<k:=by rw[<- aU];show free (st.added.set pc.toNat true)<k;omega
  have T7:Out g t a c8.jg none:=by rw[<- aU];exact ho
  have Sb:B6 g t a (λq=>S q\/q=pc) c8:=by
   intro q q0 q1 hq;by_cases e:q=pc
   ·exact .inr (.inr e)
   ·rw[<- aU]at hq;have fG:pc.toNat≠q.toNat:=by omega
    have:st.added.getD q.toNat true=true:=by simp only[List.getD_eq_getElem?_getD,List.getElem?_set_ne fG]at hq ⊢;exact hq
    rcases hA q q0 q1 this with h|h
    ·exact .inl h
    ·exact .inr (.inl h)
  have yU:∀YS:zA,r=none->B6 g t a (λq=>S q\/q=pc) YS->B6 g t a S YS:=λYS hr h2 q q0 q1 hq=>by
   rcases h2 q q0 q1 hq with h|h|h
   ·exact .inl h
   ·exact .inr h
   ·exact .inl (h ▸ ⟨n,aE,hr ▸ w⟩)
  have rz:∀n',n'<n->∀q,(S q\/q=pc)->∃m kd r',n'<m/\Way g t q a kd m r':=λn' hn q hq=>by
   rcases hq with hq|rfl
   ·obtain⟨m,kd,r',hm,w'⟩:=hS q hq;exact⟨m,kd,r',by omega,w'⟩
   ·exact⟨n,aE,r,hn,w⟩
  have P4:∀(o:Option (Int×List Int)) (m:Nat),Way g t pc a aE m o->Out g t a (c8.jg++[⟨pc,aE⟩]) o:=λo m w'=>by
   refine T7.Ok ?_;cases o with
   |none=>exact .Ar w' .nil
   |some o=>exact .P6 w'
  cases w with
  |done h =>
   rw[am (by omega),am (by omega),am (by omega),am (by omega)];subst aU;exact⟨P4 _ _ (.done h),λe=>by cases e⟩
  |M7 h hn =>
   rw[am (by omega),am (by omega),am (by omega),am (by omega)];subst aU;exact⟨P4 _ _ (.M7 h hn),λe=>yU _ e Sb⟩
  |sym h h1 h2 w =>
   rw[am (by omega),am (by omega),am (by omega),am (by omega)];subst aU;exact⟨P4 _ _ (.sym h h1 h2 w),λe=>yU _ e Sb⟩
  |Yo h w =>
   rw[ap h];have du:=hg.split _ _ rb h;have ih:=ko hg k _ aE c8 _ _ _ w du.1 du.2.1 oV Aa Sb (rz _ (by omega)) T7;exact⟨ih.1.pre (mY g t a k _ _ _),λe=>by cases e⟩
  |Yx h w w2 =>
   rw[ap h];have du:=hg.split _ _ rb h;have ih:=ko hg k _ aE c8 _ _ _ w du.1 du.2.1 oV Aa Sb (rz _ (by omega)) T7;have hlen:=jj g t a k (bk g pc).x aE c8;have ie:=ko hg k _ aE _ _ _ _ w2 du.2.2.1 du.2.2.2 (by omega) (by omega) (ih.2 rfl) (rz _ (by omega)) ih.1;exact⟨ie.1,λe=>yU _ e (ie.2 e)⟩
  |jmp h w =>
   rw[am (by omega),ap h];have du:=hg.jump _ _ rb h;have ih:=ko hg k _ aE c8 _ _ _ w du.1 du.2 oV Aa Sb (rz _ (by omega)) T7;exact⟨ih.1,λe=>yU _ e (ih.2 e)⟩
  |U7 h w =>
   rw[am (by omega),am (by omega),ap h];have du:=hg.next _ _ rb (.inr (by omega));have ih:=ko hg k _ _ c8 _ _ _ w (by omega) (by omega) oV Aa Sb (rz _ (by omega)) T7;exact⟨ih.1,λe=>yU _ e (ih.2 e)⟩
  |Zb h hh w =>
   rw[am (by omega),am (by omega),am (by omega),ap h,ap hh];have du:=hg.next _ _ rb (.inr (by omega));have ih:=ko hg k _ aE c8 _ _ _ w (by omega) (by omega) oV Aa Sb (rz _ (by omega)) T7;exact⟨ih.1,λe=>yU _ e (ih.2 e)⟩
  |S5 h hh =>
   rw[am (by omega),am (by omega),am (by omega),ap h,am hh];exact⟨T7,λe=>yU _ e Sb⟩
def Jk (g:cJ) (l:List rv):List rv:=l.filter λx=>decide ((bk g x.pc).op≠0)
theorem oL (g:cJ) (x:rv) (l:List rv):Jk g (x::l)=if (bk g x.pc).op=0 then Jk g l else x::Jk g l:=by
 unfold Jk;rw[List.filter_cons];by_cases h:(bk g x.pc).op=0
 ·rw[am (by simp [h]),ap h]
 ·rw[ap (by simp [h]),am h]
theorem EG (g:cJ) (t:List Int) (a:Int):∀(l:List rv) (st:zA),st.jg <+: (l.foldl (ly g t a) st).jg
 |[],st=>List.prefix_refl _
 |x::l,st=>by
  rw[List.foldl_cons];refine List.IsPrefix.trans ?_ (EG g t a l _);unfold ly;split
  ·exact mY g t (a+1) _ _ _ _
  ·exact List.prefix_refl _
theorem ve {g:cJ} (hg:g.bW) {t:List Int}{a:Int} (ha:a<t.length):∀(l:List rv) (st:zA) (r:Option (Int×List Int)),(∀x∈l,x.ok g)->st.added.length=g.ins.length->B6 g t (a+1) (λ_=>False) st->Out g t (a+1) st.jg none->Out g t a (Jk g l) r->Out g t (a+1) (l.foldl (ly g t a) st).jg r
 |[],st,r,_,_,_,ho,h=>by cases h;exact ho
 |x::l,st,r,jB,hl,hA,ho,h=>by
  rw[List.foldl_cons];have hx:=jB x (by simp);have rb:=fE hx.p0 hx.p1;rw[oL]at h;have x9:∀y∈l,y.ok g:=λy hy=>jB y (by simp [hy]);by_cases h0:(bk g x.pc).op=0
  ·rw[ap h0]at h;have e:ly g t a st x=st:=am (λhh=>by omega);rw[e];exact ve hg ha l st r x9 hl hA ho h
  ·rw[am h0]at h;have h1:(bk g x.pc).op=1:=hx.op.resolve_left h0;have hn:=hg.next x.pc.toNat _ rb (.inl h1);have Cj:=hx.p0;have Sl:free st.added<mu g:=by have:=Kx st.added;unfold mu;omega
   by_cases hm:hasB (bk g x.pc).set (gQ t a)=true
   ·have e:ly g t a st x=iE g t (a+1) (mu g) (x.pc+1) x.aE st:=ap ⟨h1,hm⟩;rw[e];have hlen:=jj g t (a+1) (mu g) (x.pc+1) x.aE st;have key:∀n o,Way g t x.pc a x.aE n o->∃m,Way g t (x.pc+1) (a+1) x.aE m o:=by
     intro n o w;cases w <;> (try (exfalso;simp_all;done))
     rename_i w;exact⟨_,w⟩
    cases h with
    |P6 w =>
     obtain⟨m,w'⟩:=key _ _ w;have:=ko hg (mu g) _ _ st (λ_=>False) _ _ w' (by omega) (by omega) hl Sl hA (λq hq=>hq.elim) ho;exact this.1.pre (EG g t a l _)
    |Ar w h =>
     obtain⟨m,w'⟩:=key _ _ w;have:=ko hg (mu g) _ _ st (λ_=>False) _ _ w' (by omega) (by omega) hl Sl hA (λq hq=>hq.elim) ho;exact ve hg ha l _ r x9 (by omega) (this.2 rfl) this.1 h
   ·have e:ly g t a st x=st:=am (λhh=>hm hh.2);rw[e];cases h with
    |P6 w =>
     exfalso;cases w <;> simp_all
    |Ar w h=>exact ve hg ha l st r x9 hl hA ho h
def QC (g:cJ) (s:Int) (b:Option ra):Option (Int×List Int)->Option ra
 |none=>b
 |some (e,aE)=>some ⟨s,e,mL g.ah.toNat aE⟩
theorem A2 (x:rv) (h:l≠[]):mQ (x::l)=mQ l:=by unfold mQ;obtain⟨y,l',rfl⟩:=List.exists_cons_of_ne_nil h;simp
theorem Tn:∀{l:List rv},(ef g l).2=true->(ef g l).1≠[]
 |[],h=>by simp [ef]at h
 |x::l,h=>by unfold ef;split <;> simp
theorem Kw {g:cJ}{t:List Int}{a:Int}:∀{l:List rv}{r:Option (Int×List Int)},Out g t a l r->∃r1,Out g t a (Jk g (ef g l).1) r1/\∀s b,QC g s b r=QC g s (if (ef g l).2=true then some ⟨s,a,mL g.ah.toNat (mQ (ef g l).1)⟩ else b) r1
 |[],r,h=>by
  cases h;exact⟨none,.nil,λs b=>rfl⟩
 |x::l,r,h=>by
  by_cases h0:(bk g x.pc).op=0
  ·have e:ef g (x::l)=([x],true):=by rw[ef,ap h0]
   rw[e];refine⟨none,?_,λs b=>?_⟩
   ·rw[oL,ap h0];exact .nil
   ·have hr:r=some (a,x.aE):=by
     cases h with
     |P6 w=>exact((w.WR (.done h0)).2.2 rfl)
     |Ar w h=>have:=(w.WR (.done h0 (aE:=x.aE))).2.1;cases this
    rw[hr];rfl
  ·have e:ef g (x::l)=(x::(ef g l).1,(ef g l).2):=by rw[ef,am h0]
   rw[e];simp only;cases h with
   |P6 w =>
    refine⟨some _,?_,λs b=>rfl⟩;rw[oL,am h0];exact .P6 w
   |Ar w h =>
    obtain⟨r1,h1,h2⟩:=Kw h;refine⟨r1,?_,λs b=>?_⟩
    ·rw[oL,am h0];exact .Ar w h1
    ·rw[h2 s b];by_cases hc:(ef g l).2=true
     ·rw[ap hc,ap hc,A2 x (Tn hc)]
     ·rw[am hc,am hc]
theorem GW (g:cJ):∀{l:List rv}{x:rv},x∈(ef g l).1->x∈l
 |[],_,h=>by simp [ef]at h
 |y::l,x,h=>by
  rw[ef]at h;split at h
  ·rw[List.mem_singleton.1 h];simp
  ·rcases List.mem_cons.1 h with rfl|h
   ·simp
   ·exact List.mem_cons_of_mem _ (GW g h)
theorem DR {g:cJ}{t:List Int}{a:Int} (ha:(t.length:Int)<=a):∀{l:List rv}{r:Option (Int×List Int)},(∀x∈l,x.ok g)->Out g t a (Jk g l) r->r=none
 |[],r,_,h=>by cases h;rfl
 |x::l,r,jB,h=>by
  rw[oL]at h;have x9:∀y∈l,y.ok g:=λy hy=>jB y (by simp [hy]);by_cases h0:(bk g x.pc).op=0
  ·rw[ap h0]at h;exact DR ha x9 h
  ·rw[am h0]at h;have h1:(bk g x.pc).op=1:=(jB x (by simp)).op.resolve_left h0;cases h with
   |P6 w =>
    exfalso;have:=(w.WR (.M7 (aE:=x.aE) h1 (λhh=>by omega))).2.1;cases this
   |Ar w h=>exact DR ha x9 h
theorem Hx {g:cJ} (hg:g.bW) {t:List Int} (s:Int):∀(k:Nat) (l:xw) (b:Option ra) (r:Option (Int×List Int)),(∀x∈l.st.jg,x.ok g)->l.at_<=t.length->(t.length:Int)-l.at_<k->Out g t l.at_ l.st.jg r->LJ g t s k l b=QC g s b r
 |0,_,_,_,_,_,h,_=>by omega
 |k+1,l,b,r,jB,ha,hk,h=>by
  obtain⟨r1,h1,h2⟩:=Kw h;have zd:∀x∈(ef g l.st.jg).1,x.ok g:=λx hx=>jB x (GW g hx);rw[LJ,h2 s b];have hbe:G2 g s l b=if (ef g l.st.jg).2=true then some ⟨s,l.at_,mL g.ah.toNat (mQ (ef g l.st.jg).1)⟩ else b:=rfl
  rw[hbe];by_cases hc:(ef g l.st.jg).1=[]\/(t.length:Int)<=l.at_
  ·rw[ap hc];have hr1:r1=none:=by
    rcases hc with hc|hc
    ·rw[hc]at h1;cases h1;rfl
    ·exact DR hc zd h1
   rw[hr1];rfl
  ·rw[am hc];have aH:l.at_<t.length:=by omega
   have Ym:=ve hg aH _ (fY g) r1 zd (by simp [fY]) (λq q0 q1 hq=>by
    exfalso;simp only[fY,List.getD_eq_getElem?_getD]at hq;rw[List.getElem?_replicate,ap (by omega)]at hq;cases hq) .nil h1
   exact Hx hg s k (J0 g t l) _ r1 ((PJ g hg t l.at_ _ zd).2.2) (by show l.at_+1<=t.length;omega) (by show (t.length:Int)-(l.at_+1)<k;omega) Ym
theorem Oz (hg:g.bW) (ha0:0<=a) (ha:a<=t.length) {n:Nat} (w:Way g t 0 a (List.replicate (2*g.ah).toNat (-1)) n r):Dz g t a=QC g a none r:=by
 have h0:=hg.IQ;have hb:=ko hg (a:=a) (mu g) 0 (List.replicate (2*g.ah).toNat (-1)) (fY g) (λ_=>False) n r w (ady _) (by omega) (by simp [fY]) (by have:=Kx (fY g).added;simp [fY]at this;unfold mu;simp only[fY];omega) (λq q0 q1 hq=>by
  exfalso;simp only[fY,List.getD_eq_getElem?_getD]at hq;rw[List.getElem?_replicate,ap (by omega)]at hq;cases hq) (λq hq=>hq.elim) .nil
 exact Hx hg a _ (zx g t a) none r (NS g hg t a).1 ha (by show (t.length:Int)-a<((t.length+1:Nat):Int);omega) hb.1
theorem Ln (re:Re):re.every pZ=true->re.fw<=8500->Ug re:=by
 refine Re.ind (Q:=λre=>re.every pZ=true->re.fw<=8500->Ug re) (λre ih hs hz=>?_) re;obtain⟨eC,lP⟩:=(Re.aQ re).1 hs;obtain⟨vZ,xV,Ig,hk0⟩:=eY.1 eC;obtain⟨q1,q2,q3,q4,_⟩:=eW.1 (eU.1 vZ).1;have hW:¬gY re->∀k∈re.kids,Ug k:=λhl k hk=>ih k hk (lP k hk) (FC hs hz hl k hk);refine O2 re hs hz hW (λo4=>?_) (λo3=>?_)
 ·obtain⟨k,hk⟩:∃k,re.kids=[k]:=List.length_eq_one_iff.1 (Ig (.inl o4));exact HT re k hs hz o4 hk (hW (by unfold gY;omega) k (by rw[hk];simp))
 ·have hl:¬gY re:=by unfold gY;omega
  have s7:=FC hs hz hl;have AZ:∀k∈re.kids,∀f,((k.code f).length:Int)=k.fw:=λk hk=>jY k (lP k hk) (by have:=s7 k hk;omega);have Q6:∀k∈re.kids,0<=k.fw/\k.fw<=9000:=λk hk=>⟨(fo k (iB (lP k hk))).1,by have:=s7 k hk;omega⟩
  have fG:re.kids≠[]:=by have:=q2 o3;intro h;rw[h]at this;simp at this
  have ZC:=hW hl;clear hW ih;rw[<- List.dropLast_concat_getLast fG]at ZC AZ Q6 ⊢;exact Q9 _ _ ZC (by rw[List.length_dropLast];omega) AZ Q6
theorem Lz (re:Re) (hs:re.every pZ=true) (hz:re.fw<=8500) (gf:re.size<=1000):xH prog 16 [.d (.el re.cells)] 5 ((re.code 0).map bR.cells):=by have hw:=Ln re hs hz [] (by simp;omega);rw[adt,show (([]:List bR).length:Int)=0 from rfl]at hw;generalize re.code 0=L at *;unfold xH;refine IU func16 rfl ntmps16 results16 rfl 0 253 (by simp) (by simp) ?_;simp only[zX,simprocAttr,i64,bV,iD,bD];refine iL (pre:=[]) (post:=[]) 0 5 rfl rfl rfl ?_;refine pN (C:=[]) (C':=L) hw (by rfl) (by rfl) (tl:=[]) ?_;simp only[zX,simprocAttr,i64,bV,iD,bD,bI,fq,adr,adt,adS,Qz];exact Pk (id:=5) (by rfl) rfl (by simp)
theorem QU {re:Re} (hs:re.every pZ=true) (h:re.fw<=8000) (ho:¬gY re):Re.cA re.kids<=8000:=by
 obtain⟨eC,lP⟩:=(Re.aQ re).1 hs;obtain⟨hc,xV,Ig,h0⟩:=eY.1 eC;obtain⟨hb,AV⟩:=eU.1 hc;obtain⟨q1,q2,q3,q4,q5,q6,q7,q8,q9,SD⟩:=eW.1 hb;have hz:=(iz (l:=re.kids) (λk hk=>fo k (iB (lP k hk)))).1;have hu:=wV (re:=re) (by omega);unfold gY at ho;generalize Re.cA re.kids=z at *;rw[am (by omega)]at hu;by_cases o3:re.op=3
 ·rw[ap o3]at hu;have:=q2 o3;omega
 rw[am o3]at hu;by_cases o5:re.op=5
 ·rw[ap o5]at hu;omega
 rw[am o5]at hu;by_cases o4:re.op=4
 ·rw[ap o4]at hu;by_cases om:re.mx=-1
  ·rw[ap om]at hu;have:1*z<=(re.mn+1)*z:=aec (by omega) (by omega);omega
  ·rw[am om]at hu;have hm:=(AV o4).resolve_left om;have:1*z<=re.mx*z:=aec (by omega) (by omega);omega
 ·rw[am o4]at hu;omega
theorem Ha:∀a b:List Re,Re.cA (a++b)=Re.cA a+Re.cA b
 |[],b=>by simp [Re.cA]
 |x::a,b=>by simp only[adr,Re.cA,Ha a b];omega
def KJ (re:Re):Bool:=decide (re.op=1\/re.op=11->re.kids=[])
theorem Rb {ah top:Int} (re:Re) (hw:re.whole ah top=true):re.every KJ=true:=by revert hw;refine Re.ind (Q:=λre=>re.whole ah top=true->re.every KJ=true) (λre ih hw=>?_) re;obtain⟨h1,h2⟩:=(Re.aQ re).1 hw;obtain⟨⟨a1,a2,a3,a4⟩,_⟩:=eT.1 h1;refine(Re.aQ re).2 ⟨adu λh=>?_,λk hk=>ih k hk (h2 k hk)⟩;unfold cR at a4;rw[am (by omega),am (by omega),am (by omega)]at a4;simp only at a4;exact adJ (by omega)
theorem NT (re:Re):re.every pZ=true->re.every KJ=true->re.fw<=8000->ba prog 15 [.d (.el re.cells)] (i64 re.fw):=by
 refine Re.ind (Q:=λre=>re.every pZ=true->re.every KJ=true->re.fw<=8000->ba prog 15 [.d (.el re.cells)] (i64 re.fw)) (λre ih hs hlf hz=>?_) re;obtain⟨eC,lP⟩:=(Re.aQ re).1 hs;obtain⟨oV,MQ⟩:=(Re.aQ re).1 hlf;obtain⟨vZ,xV,Ig,hk0⟩:=eY.1 eC;obtain⟨hb,AV⟩:=eU.1 vZ;obtain⟨q1,q2,q3,q4,q5,q6,q7,q8,q9,SD⟩:=eW.1 hb;have Qf:∀k∈re.kids,0<=k.fw/\k.fw<=10000:=λk hk=>fo k (iB (lP k hk));have hLe:Re.cA re.kids<=8000:=by
  by_cases hl:gY re
  ·have:re.kids=[]:=by
    rcases hl with o|o
    ·exact hk0 o
    ·exact of_decide_eq_true oV o
   rw[this];simp [Re.cA]
  ·exact QU hs hz hl
 have s7:∀k∈re.kids,k.fw<=8000:=λk hk=>Int.le_trans (tM (λx hx=>(Qf x hx).1) hk) hLe;have hT:∀i,0<=Re.cA (re.kids.take i)/\Re.cA (re.kids.take i)<=8000:=λi=>by
  have h1:=(iz (l:=re.kids.take i) (λk hk=>Qf k (List.mem_of_mem_take hk))).1;have h2:=(iz (l:=re.kids.drop i) (λk hk=>Qf k (List.mem_of_mem_drop hk))).1;have h3:Re.cA re.kids=Re.cA (re.kids.take i)+Re.cA (re.kids.drop i):=by
   conv=>lhs;rw[<- List.take_append_drop i re.kids]
   exact Ha _ _
  omega
 have hcr:=fo re (iB hs);have Jw:=wV (re:=re) (by omega);refine ar func15 rfl ntmps15 results15 rfl 0 1610615869 (by simp) (by simp) ?_;simp only[zX,simprocAttr,-Int.reduceNatCast',i64,bV,iD,bD,Re.ae re,ado];refine aJ (λn e s=>∃i:Nat,n=re.kids.length-i/\i<=re.kids.length/\e 0=.d (.el re.cells)/\e 3=i64 (Re.cA (re.kids.take i))/\e 10=i64 re.kids.length/\e 11=i64 i/\s=[]) ⟨_,_,_,cU.refl,0,rfl,by omega,by rw[Re.ae re];rfl,rfl,rfl,rfl,rfl⟩ ?_;rintro n e s ⟨i,rfl,hi,h0,h3,eh,fm,rfl⟩;rcases adV i re.kids.length with aH|iP
 ·obtain⟨k,hk⟩:∃k,re.kids[i]?=some k:=⟨_,adn aH⟩
  have hm:=adw hk;have bo:(i:Int)<re.kids.length:=by omega
  have hi0:(0:Int)<=(i:Int):=by omega
  have h5:=hT (i+1);have h6:=hT i;have JZ:=ih k hm (lP k hm) (MQ k hm) (s7 k hm);have HX:Re.cA (re.kids.take (i+1))=Re.cA (re.kids.take i)+k.fw:=by rw[cy hk,Re.B9]
  have w1:IntKind.i64.wrap (Re.cA (re.kids.take i)+k.fw)=Re.cA (re.kids.take (i+1)):=by rw[<- HX];exact bM _ (by omega)
  have m1:min (Re.cA (re.kids.take (i+1))) 8193=Re.cA (re.kids.take (i+1)):=by omega
  simp only[zX,simprocAttr,-Int.reduceNatCast',Re.ae re,iD,bD,h0,h3,eh,fm,i64,bo,hi0,aH,adR,hk,ado];refine az JZ rfl rfl ?_;simp only[zX,simprocAttr,-Int.reduceNatCast',Re.ae re,iD,bD,h0,h3,eh,fm,i64,w1,m1];refine⟨re.kids.length-(i+1),_,_,by omega,cU.refl,i+1,rfl,aH,?_,?_,?_,?_,rfl⟩ <;> (try simp only[zU,Nat.reduceBEq,Nat.reduceShiftRight,Nat.reduceMod,Nat.reduceEqDiff,reduceIte])
  ·rw[h0,Re.ae re];rfl
  ·exact eh
  ·rw[bM _ (by omega)];rfl
 ·have fy:i=re.kids.length:=by omega
  subst fy;rw[adZ]at h3;have hz0:0<=Re.cA re.kids:=by have:=hT re.kids.length;rw[adZ]at this;exact this.1
  generalize Re.cA re.kids=z at *;have abh:0<=re.mn*z/\re.mn*z<=32*z:=⟨Int.mul_nonneg (by omega) (by omega),aec (by omega) (by omega)⟩
  have AO:∀x:Int,-1000000000<=x/\x<=1000000000->IntKind.i64.wrap x=x:=λx h=>bM x (by omega);have ml:∀x:Int,x=re.fw->min x 8193=re.fw:=λx h=>by omega
  clear hs hlf eC lP oV MQ ih hb vZ Qf s7 hT Ig hk0;by_cases o1:re.op=1
  ·rw[ap (.inl o1)]at Jw;simp only[zX,simprocAttr,-Int.reduceNatCast',h0,h3,eh,fm,i64,Re.ae re,iD,bD,ado,Int.lt_irrefl,o1,ml 1 Jw.symm]
  by_cases nb:re.op=11
  ·rw[ap (.inr nb)]at Jw;simp only[zX,simprocAttr,-Int.reduceNatCast',h0,h3,eh,fm,i64,Re.ae re,iD,bD,ado,Int.lt_irrefl,nb,ml 1 Jw.symm]
  rw[am (λh=>h.elim o1 nb)]at Jw;by_cases o3:re.op=3
  ·rw[ap o3]at Jw;have w1:=AO ((re.kids.length:Int)-1) (by omega);have w2:=AO (2*((re.kids.length:Int)-1)) (by omega);have w3:=AO (z+2*((re.kids.length:Int)-1)) (by omega);have m:=ml (z+2*((re.kids.length:Int)-1)) (by omega);simp only[zX,simprocAttr,-Int.reduceNatCast',h0,h3,eh,fm,i64,Re.ae re,iD,bD,ado,Int.lt_irrefl,o3,w1,w2,w3,m]
  rw[am o3]at Jw;by_cases o5:re.op=5
  ·rw[ap o5]at Jw;have w1:=AO (z+2) (by omega);have m:=ml (z+2) (by omega);simp only[zX,simprocAttr,-Int.reduceNatCast',h0,h3,eh,fm,i64,Re.ae re,iD,bD,ado,Int.lt_irrefl,o5,w1,m]
  rw[am o5]at Jw;by_cases o4:re.op=4
  ·rw[ap o4]at Jw;have w1:=AO (re.mn*z) (by omega);by_cases om:re.mx=-1
   ·rw[ap om,Int.add_mul]at Jw;have w2:=AO (z+2) (by omega);have w3:=AO (re.mn*z+(z+2)) (by omega);have m:=ml (re.mn*z+(z+2)) (by omega);simp only[zX,simprocAttr,-Int.reduceNatCast',h0,h3,eh,fm,i64,Re.ae re,iD,bD,ado,Int.lt_irrefl,o4,om,w1,w2,w3,m]
   ·rw[am om]at Jw;have P2:=(AV o4).resolve_left om;have e1:(re.mx-re.mn)*(z+1)=re.mx*z-re.mn*z+(re.mx-re.mn):=by rw[Int.mul_add,Int.sub_mul,Int.mul_one]
    have aaT:0<=re.mx*z/\re.mx*z<=32*z:=⟨Int.mul_nonneg (by omega) (by omega),aec (by omega) (by omega)⟩
    have w2:=AO (z+1) (by omega);have w3:=AO (re.mx-re.mn) (by omega);have w4:=AO ((re.mx-re.mn)*(z+1)) (by omega);have w5:=AO (re.mn*z+(re.mx-re.mn)*(z+1)) (by omega);have m:=ml (re.mn*z+(re.mx-re.mn)*(z+1)) (by omega);simp only[zX,simprocAttr,-Int.reduceNatCast',h0,h3,eh,fm,i64,Re.ae re,iD,bD,ado,Int.lt_irrefl,o4,om,w1];refine ao mix [] [] (by rfl) ?_;simp only[zX,simprocAttr,-Int.reduceNatCast',h0,h3,eh,fm,i64,Re.ae re,iD,bD,ado,Int.lt_irrefl,o4,om,w1,w2,w3,w4,w5,m]
  rw[am o4]at Jw;have m:=ml z Jw.symm;simp only[zX,simprocAttr,-Int.reduceNatCast',h0,h3,eh,fm,i64,Re.ae re,iD,bD,ado,Int.lt_irrefl,o1,nb,o3,o5,o4,m]
theorem Jc (re:Re) (hv:re.every zj=true) (hf:re.eN=true) (gf:re.size<=1000):ba prog 14 [.d (.el re.cells),.fu []] (bV (re.comp [])):=by
 have h:=Bg re hv hf [] [] 0 (List.prefix_refl _) (by simp;omega);refine⟨h.1,λσ w vals hI hl hv=>?_⟩;have hp:=lE (p:=none) (o':=⟨0,true,1,[]⟩) (w':=w) hI rfl rfl rfl (adB _) (λ_ _=>rfl) (λ_ _ h'=>by cases h') (λ_=>.inl (.inl ⟨rfl,rfl⟩));refine(h.2 _ w vals hp.2 hl (λi x hx=>?_)).mono λe w' ⟨u,v,σ',s',h1,h2,h3,h4,h5,E',h6,h7⟩=>?_
 ·match i with
  |0 =>
   simp only[adU,adp]at hx;subst hx;exact(hv 0 _ rfl).bF hp.1
  |1 =>
   simp only[List.getElem?_cons_succ,adU,adp]at hx;subst hx;have hu:=(hv 1 (.fu []) rfl).bF hp.1;generalize vals.getD 1 undef=u at hu;cases hu with|fu hx=>?_
   exact .so ⟨0,true,1,[]⟩ (by simp [dQ]) (adB _) rfl (λ_=>.inl ⟨cg _ _ _,⟨_,rfl⟩,rfl,rfl⟩)
  |i+2=>simp at hx
 ·subst h5 h6;have:=iM h3 (ck:=0) h4 (y:=bV (re.comp [])) rfl;exact⟨u,_,σ',[],h1,(hp.1.trans h2).take (ck:=0) (adB _),h3.take (ck:=0) (by rfl),this,rfl,rfl⟩
theorem HW {P:Program}{f:FuncId}{x y:V}{c:Value}{s:List VL.Obj}{K:V->List VL.Obj->Prop} (ids:List Nat) (h:ba P f [y,.fu []] (.d (.sc c)))
  (hc:bf (bg s ids).length (bg s ids) x=some y) (hy:ak 0 y=true) (hk:K (.d (.sc c)) s):au P f [x,.fu []] s K:=by
 refine⟨h.1,λσ w vals hI hl hv=>?_⟩;obtain⟨Ov,Um⟩:=qJ ids s hI;have e1:∀b,Own ⟨λ_=>none,Own σ (bg s ids)⟩ [] b->Own σ (bg s ids) b:=by
  rintro b (h|⟨id,o,base,h1,_⟩)
  ·exact h
  ·simp at h1
 refine(h.2 ⟨λ_=>none,Own σ (bg s ids)⟩ w vals ⟨λid o ho=>by simp at ho,λid _ o _ _ _ _ ho=>by simp at ho,λb hb=>ud Um hb,λid o _ _ ho=>by simp at ho⟩ hl
  (λi x' hx=>by
   match i with
   |0 =>
    simp only[adU,adp]at hx;subst hx;have:=iM Um ((hv 0 x rfl).bF Ov) hc;rw[adZ]at this;exact this.move hy e1
   |1 =>
    simp only[List.getElem?_cons_succ,adU,adp]at hx;subst hx;exact((hv 1 (.fu []) rfl).bF Ov).move (by rfl) e1
   |i+2=>simp at hx)).mono λe w' ⟨u,v,σ',s',he,hE,gS,hR,RW,ng⟩=>?_
 subst RW;subst ng;have same:=qI (w':=w') hI hE.os hE.tape hE.output hE.size λb hb=>by
  by_cases ho:Own σ (bg s ids) b
  ·exact hE.ga b hb ho
  ·exact hE.bO b hb λh'=>ho (e1 b h')
 exact⟨u,_,σ,s,he,same.1,same.2,hR.W4,hk⟩
theorem A6 (p:iF) (hv:dR p=0) (hc:p.re.comp []=true) (hz:p.re.fw<=8000):ba prog 5 [dF p] (.tu [qP (hU p),i64 0]):=by
 obtain⟨v1,v2,v3,v4,v5⟩:=eL hv;have hC:=DU v4 p.re v5 (by omega);have hD:=Dh v4 p.re v5 (by omega) [] hc;have hf:p.re.eN=true:=by
  have:∀re:Re,re.every w7=true->re.eN=true:=λre=>Re.ind (Q:=λre=>re.every w7=true->re.eN=true) (λre ih h=>by
   obtain⟨h1,h2⟩:=(Re.aQ re).1 h;obtain⟨q1,q2,q3,q4,_⟩:=eW.1 (eU.1 h1).1;exact(Re.Aw re).2 ⟨by omega,by omega,λk hk=>ih k hk (h2 k hk)⟩) re
  exact this p.re hC
 have h1:=zV p hf;rw[hv]at h1;have h2:=sj (ex:=[iD p.ah,bD p.aK]) (Jc p.re (L9 v5) hf (by omega));have h3:=sj (ex:=[iD p.ah,bD p.aK]) (NT p.re hD (Rb p.re v5) hz);have h4:=sj (ex:=[iD p.ah,bD p.aK]) (Lz p.re hD (by omega) (by omega));have hcr:=fo p.re hC;have T0:=jY p.re hD (by omega) 0;have w1:IntKind.i64.wrap (p.re.fw+1)=p.re.fw+1:=bM _ (by omega);have c1:¬8192<p.re.fw+1:=by omega
 rw[hc]at h2;unfold hU qP;cases p with
 |mk re ah aK =>
 simp only at *;generalize re.code 0=L at *;have h2:ba prog 14 _ _:=h2;have h3:ba prog 15 _ _:=h3;have h4:xH prog 16 _ 5 (L.map bR.cells):=h4;simp only[Ac,Re.ae re,adG,adP,adr,adt,aq re,i64,iD,bD,bV]at h1 h2 h3 h4;refine ar func5 rfl ntmps5 results5 rfl 0 31 (by simp) (by simp) ?_;simp only[zX,simprocAttr,-Int.reduceNatCast',i64,dF,Re.ae,bV,iD,bD];refine az h1 rfl rfl ?_;simp only[zX,simprocAttr,-Int.reduceNatCast',i64,dF,Re.ae,bV,iD,bD,ne_eq,aeh];refine HW [0] h2 (by rfl) rfl ?_;simp only[zX,simprocAttr,-Int.reduceNatCast',i64,dF,Re.ae,bV,iD,bD,ads,adq];refine eP [0] h3 (by rfl) rfl ?_;simp only[zX,simprocAttr,-Int.reduceNatCast',i64,dF,Re.ae,bV,iD,bD,w1,c1,gt_iff_lt];refine aS (ca.VX [0] 1 (by rfl)) ?_;refine aS ca.bh ?_;refine ao mix [] [(1,[2],[2]),(4,[2],[2]),(10,[1],[1])] (by rfl) ?_;simp only[zX,simprocAttr,-Int.reduceNatCast',bg,bT,adU,ad0,List.reverse_cons,List.reverse_nil,i64,dF,Re.ae,bV,iD,bD,adr,adt,adS];refine⟨_,[_],rfl,λs' eC lP=>xH.hole (k:=2) (ob:=hole) h4 rfl rfl (by rw[lP 2 (by simp)];rfl) ⟨rfl,rfl⟩,?_⟩;simp only[zX,simprocAttr,-Int.reduceNatCast',i64,dF,Re.ae,bV,iD,bD,aZ,hole];refine⟨rfl,λe he=>by rw[List.mem_singleton.1 he];rfl,⟨by omega,by omega⟩,?_⟩;have hk:(List.map (λc=>List.map V.d c) (List.map bR.cells L))++[[V.d (D.sc (Value.int IntKind.i64 0)),V.d (D.sc (Value.int IntKind.i64 0)),V.d (D.sc (Value.int IntKind.i64 0)),V.d (D.sc (Value.int IntKind.i64 0)),V.d (D.sl [])]]=List.map (λc=>List.map V.d c) (List.map bR.cells (L++[Ae])):=by simp [bR.cells,Ae,iD]
 rw[Oe _ _ (adB _),hk,lB 7 0 _ _ _ (by simp),ap (by simp)];simp [cJ.cells,bR.cells,Ae,iD,bD]
end Go.Proofs.Ytphfjhaffbfpfaa
