/- A part of the proof (O66 O55 E51). -/
import Derived.Test.YtfmdmlfhigocaaaOR25
import Derived.Test.YtfmdmlfhigocaaaOR44
import Derived.Test.YtfmdmlfhigocaaaOR48
import Derived.Test.YtfmdmlfhigocaaaOR51
import Derived.Test.YtfmdmlfhigocaaaOR47
set_option linter.unusedSimpArgs false
set_option linter.unusedVariables false
set_option maxRecDepth 100000
set_option maxHeartbeats 80000000
namespace Go.Proofs.Ytfmdmlfhigocaaa
open Go.VL Go.Proofs.Try
variable{re:Re}{kind:Int}{nx:Goal}{f:Int}{k:Int}
structure Lo (S:List Int) (re:Re):Prop where
 fr:re.every RG=true
 co:∃a,re.nest a=false/\∀x∈S,x∈a
theorem Lo.aP {S:List Int}{k:Re} (h:Lo S re) (hk:k∈re.kids) (ho:re.op≠5):Lo S k:=by refine⟨(rC h.fr).2 k hk,?_⟩;obtain⟨a,ha,hS⟩:=h.co;rw[Re.zP,ap (λh=>ho h.1),ap ho,List.any_eq_false]at ha;exact⟨a,by simpa using ha k hk,hS⟩
theorem Lo.cap {S:List Int}{re k:Re} (h:Lo S re) (hk:k∈re.kids) (ho:re.op=5):Lo (re.n::S) k/\1<=re.n/\re.n ∉ S:=by
 obtain⟨hN,kB⟩:=rC h.fr;obtain⟨a,ha,hS⟩:=h.co;rw[Re.zP]at ha;by_cases hc:re.op=5/\re.n∈a
 ·rw[be hc]at ha;cases ha
 ·rw[ap hc,be ho,List.any_eq_false]at ha;refine⟨⟨kB k hk,_,by simpa using ha k hk,λx hx=>?_⟩,hN.cap ho,λhx=>hc ⟨ho,hS _ hx⟩⟩;rcases List.mem_cons.1 hx with rfl|hx
  ·simp
  ·simp [hS x hx]
def GL:Goal->Prop
 |.nil=>True
 |.mk kind re _ _ nx=>(if kind=3 then 1<=re.n/\re.n ∉ opens nx else if kind=4 then True else Lo (opens nx) re)/\GL nx
theorem Bh:GL (.mk kind re k f nx)=((if kind=3 then 1<=re.n/\re.n ∉ opens nx else if kind=4 then True else Lo (opens nx) re)/\GL nx):=rfl
theorem jy (h:kind≠3) (h4:kind≠4):GL (.mk kind re k f nx) ↔ Lo (opens nx) re/\GL nx:=by rw[Bh,ap h,ap h4]
theorem PJ:GL (.mk 3 re k f nx) ↔ (1<=re.n/\re.n ∉ opens nx)/\GL nx:=by rw[Bh,be rfl]
theorem xZ {n f i:Int} (hn:1<=n):∀{gl:Goal}{c:aD},GL gl->n ∉ opens gl->jC gl (ou c n f i)=((jC gl c).set (2*n-2).toNat f).set (2*n-1).toNat i
 |.nil,c,_,_=>Oi hn
 |.mk kind re k f1 nx,c,hG,ho=>by
  rw[Bh]at hG;unfold opens at ho;unfold jC;by_cases h3:kind=3
  ·rw[be h3]at hG ho;simp only[ajF,not_or]at ho;rw[be h3,be h3,xZ hn hG.2 ho.2];have h1:=hG.1.1;have dP:=ho.1;rw[List.set_comm _ _ (show (2*n-1).toNat≠(2*re.n-2).toNat by omega),List.set_comm _ _ (show (2*n-2).toNat≠(2*re.n-2).toNat by omega)]
  ·rw[ap h3]at ho;rw[ap h3,ap h3,xZ hn hG.2 ho]
theorem Lq:∀{l:List Re}{nx:Goal},(∀k∈l,Lo (opens nx) k)->GL nx->GL (iB l nx)/\opens (iB l nx)=opens nx/\∀c,jC (iB l nx) c=jC nx c
 |[],nx,_,h=>⟨h,rfl,λ_=>rfl⟩
 |k::l,nx,hk,h=>by obtain⟨h1,h2,h3⟩:=Lq (l:=l) (λx hx=>hk x (by simp [hx])) h;have e:iB (k::l) nx=.mk 0 k 0 0 (iB l nx):=rfl;rw[e];refine⟨(jy aJ aJ).2 ⟨by rw[h2];exact hk k aj,h1⟩,by rw[JC aJ,h2],λc=>by rw[dw aJ,h3]⟩
theorem z8 {aP:Re}{i:Int} (hk:re.kids=[aP]) (ho:re.op=4) (hc:Lo (opens nx) re) (h:GL nx):GL (.mk 0 aP 0 0 (.mk 2 re k i nx))/\∀c,jC (.mk 0 aP 0 0 (.mk 2 re k i nx)) c=jC nx c:=by refine⟨(jy aJ aJ).2 ⟨?_,(jy aJ aJ).2 ⟨hc,h⟩⟩,λc=>by rw[dw aJ,dw aJ]⟩;rw[JC aJ];exact hc.aP (by rw[hk];simp) ae
def dk (t:List Int) (Bs:List (List Bool)) (C:List au) (fin:Nat->Bool) (pc i:Nat) (aL:List Int) (st':bh) (b:Bool):Prop :=
 ∃(n:Nat) (r:Option (Nat×List Int)),de t Bs C fin pc i aL n r/\((b=false/\r=none/\st'.empty=false/\st'.ends=[]/\st'.ai=[])\/(b=true/\∃(e:Nat) (d:aD),r=some (e,fE d)/\st'.ends=[(e:Int)]/\st'.ai=[d]))
section
variable {t:List Int}{Bs:List (List Bool)}{C:List au}{fin:Nat->Bool}{pc q i:Nat}{aL:List Int}{st' s2:bh}{b:Bool}
variable{a:Nat}{mode:Int}
theorem dk.jm (h:dk t Bs C fin q i aL st' b) (hj:Fq C pc q):dk t Bs C fin pc i aL st' b :=
 let ⟨_,_,w,hw⟩:=h;let ⟨_,w'⟩:=hj.way w;⟨_,_,w',hw⟩
theorem dk.fst (ho:(bz C pc).op=2) (h1:dk t Bs C fin (bz C pc).x.toNat i aL st' true):dk t Bs C fin pc i aL st' true:=by
 obtain⟨n,r,w,hw⟩:=h1;rcases hw with ⟨e,_⟩|⟨_,e,d,rfl,h2⟩
 ·cases e
 ·exact⟨_,_,.Nn ho w,.inr ⟨rfl,e,d,rfl,h2⟩⟩
theorem dk.snd (ho:(bz C pc).op=2) (h1:dk t Bs C fin (bz C pc).x.toNat i aL s2 false) (h2:dk t Bs C fin (bz C pc).y.toNat i aL st' b):dk t Bs C fin pc i aL st' b:=by
 obtain⟨n,r,w,hw⟩:=h1;obtain⟨m,r',w',hw'⟩:=h2;rcases hw with ⟨_,rfl,_⟩|⟨e,_⟩
 ·exact⟨_,_,.Sl ho w w',hw'⟩
 ·cases e
theorem dk.fresh (h:dk t Bs C fin pc i aL st' false):st'.empty=false/\st'.ends=[]/\st'.ai=[]:=by
 obtain⟨_,_,_,h|⟨e,_⟩⟩:=h
 ·exact h.2.2
 ·cases e
theorem CK (mode:Int) (a b:Nat):(mr mode a b).op=2:=by unfold mr cX;split <;> rfl
theorem AV{b:Nat} (h:mode=1):(mr mode a b).x.toNat=b/\(mr mode a b).y.toNat=a:=by unfold mr;rw[be h];exact⟨rfl,rfl⟩
theorem uI{b:Nat} (h:mode≠1):(mr mode a b).x.toNat=a/\(mr mode a b).y.toNat=b:=by unfold mr;rw[ap h];exact⟨rfl,rfl⟩
theorem dk.O7{e:Nat} (hi:bz C pc=mr mode a e) (hm:mode≠1) (h1:dk t Bs C fin a i aL st' true):dk t Bs C fin pc i aL st' true :=
 dk.fst (by rw[hi,CK]) (by rw[hi,(uI hm).1];exact h1)
theorem dk.PX{e:Nat} (hi:bz C pc=mr mode a e) (hm:mode≠1) (h1:dk t Bs C fin a i aL s2 false) (h2:dk t Bs C fin e i aL st' b):dk t Bs C fin pc i aL st' b :=
 dk.snd (by rw[hi,CK]) (by rw[hi,(uI hm).1];exact h1) (by rw[hi,(uI hm).2];exact h2)
theorem dk.Fj {mode:Int}{a e:Nat} (hi:bz C pc=mr mode a e) (hm:mode=1) (h1:dk t Bs C fin e i aL st' true):dk t Bs C fin pc i aL st' true :=
 dk.fst (by rw[hi,CK]) (by rw[hi,(AV hm).1];exact h1)
theorem dk.D8 {mode:Int}{a e:Nat} (hi:bz C pc=mr mode a e) (hm:mode=1) (h1:dk t Bs C fin e i aL s2 false) (h2:dk t Bs C fin a i aL st' b):dk t Bs C fin pc i aL st' b :=
 dk.snd (by rw[hi,CK]) (by rw[hi,(AV hm).1];exact h1) (by rw[hi,(AV hm).2];exact h2)
theorem dk.yC (ho:(bz C pc).op=4) (h:dk t Bs C fin (pc+1) i (aL.set (bz C pc).n.toNat i) st' b):dk t Bs C fin pc i aL st' b :=
 let ⟨_,_,w,hw⟩:=h;⟨_,_,.yC ho w,hw⟩
theorem dk.ask (ho:(bz C pc).op=5) (hc:(bz C pc).pass t Bs i=true) (h:dk t Bs C fin (pc+1) i aL st' b):dk t Bs C fin pc i aL st' b :=
 let ⟨_,_,w,hw⟩:=h;⟨_,_,.ask ho hc w,hw⟩
theorem dk.vp {st:bh} (ho:(bz C pc).op=5) (hc:(bz C pc).pass t Bs i=false) (h1:st.empty=false) (h2:st.ends=[]) (h3:st.ai=[]):dk t Bs C fin pc i aL st false :=
 ⟨_,_,.vp ho hc,.inl ⟨rfl,rfl,h1,h2,h3⟩⟩
theorem de.ba {n:Nat}{r:Option (Nat×List Int)} (jf:∀n,(bz C n).op≠4) (w:de t Bs C fin pc a aL n r):∀v,r=some v->v.2=aL:=by
 induction w with
 |done=>intro v hv;cases hv;rfl
 |uq|Tj|vp=>intro v hv;cases hv
 |rd h hc w ih=>exact ih
 |Nn h w ih=>exact ih
 |Sl h w w2 ih gy=>exact gy
 |jmp h w ih=>exact ih
 |yC h w ih=>exact absurd h (jf _)
 |ask h hc w ih=>exact ih
end
variable{Bs:List (List Bool)}{t:List Int}
def HV (x:Re) (k:Nat):List au:=x.emit (k+1) []++[bW]
theorem Vv (x:Re) (k:Nat):HV x k=x.xN (k+1) 0++[bW]:=by unfold HV;rw[ED];rfl
theorem nq (x:Re) (k:Nat):oc (HV x k) 0 (x.xN (k+1) 0)/\(bz (HV x k) (0+x.dc)).op=0/\0<(HV x k).length:=by
 rw[Vv];have h:oc (x.xN (k+1) 0++[bW]) 0 (x.xN (k+1) 0++[bW]):=⟨[],[],aj,rfl⟩
 obtain⟨h1,h2⟩:=h.app;rw[Re.mq]at h2;exact⟨h1,by rw[h2.cons.1];rfl,aj⟩
theorem NK {x:Re} (h:x.every (λr=>decide (r.op≠5))=true) (k n:Nat):(bz (HV x k) n).op≠4:=by
 have hP:sr (λi=>i.op≠4) (λr=>decide (r.op≠5)):=⟨λi x y h=>h,λx y=>by simp [cX],λx=>by simp [ku],λre k _ o=>by simp [sL],λre k _ o=>by simp [lR],λre h o=>absurd o (of_decide_eq_true h)⟩
 have ha:=Bm hP x h (k+1) [] (λi hi=>by simp at hi);have bK:lr (λi=>i.op≠4) (HV x k):=ha.add (by simp [bW]);by_cases hn:n<(HV x k).length
 ·have hm:bz (HV x k) n∈HV x k:=by unfold bz;rw[aja,ajg hn];exact List.getElem_mem hn
  exact bK _ hm
 ·have:bz (HV x k) n=⟨0,0,0,0,none⟩:=by unfold bz;rw[aja,ajH ae];rfl
  rw[this];simp
theorem nJ{re x:Re}{k i:Nat}{v:Bool} (hk:re.kids=[x]) (hb:Bs.getD k []=eS t Bs re k) (ho:re.op=7\/re.op=8) (hv:(if re.op=7 then iF t Bs (HV x k) else rz t Bs (HV x k))[i]?=some v):(lR re k).pass t Bs i=(v != re.neg):=by
 unfold au.pass lR;simp only;rw[bd,bd,hb];unfold eS;simp only;have e:Re.db re.kids (k+1) []++[bW]=HV x k:=by rw[hk,Re.db,Re.db];rfl
 rw[e,aja,aiY,hv];rfl
def adn (t:List Int) (Bs:List (List Bool)) (st':bh) (b:Bool):ETask->Prop
 |.run gl i c=>∀(C:List au) (fin:Nat->Bool) (pc q:Nat),Fq C pc q->Ch t Bs C fin gl q->PG true gl i->GL gl->dk t Bs C fin pc i.toNat (jC gl c) st' b
 |.node re nx i c=>∀(C:List au) (fin:Nat->Bool) (pc q kk:Nat),0<=i->i<=t.length->oc C pc (re.xN kk pc)->IA t Bs re kk->Fq C (pc+re.dc) q->Ch t Bs C fin nx q->PG re.sB nx i->Lo (opens nx) re->GL nx->dk t Bs C fin pc i.toNat (jC nx c) st' b
 |.body re nx i c=>∀(C:List au) (fin:Nat->Bool) (pc q kk:Nat),re.op≠4->0<=i->i<=t.length->oc C pc (re.xN kk pc)->IA t Bs re kk->Fq C (pc+re.dc) q->Ch t Bs C fin nx q->PG re.sB nx i->Lo (opens nx) re->GL nx->dk t Bs C fin pc i.toNat (jC nx c) st' b
 |.alt l nx i c=>∀(C:List au) (fin:Nat->Bool) (pc q kk E:Nat),l≠[]->oc C pc (Re.Ck l kk pc E)->E=pc+(Re.cu l+2*(l.length-1))->NA t Bs l kk->Fq C E q->Ch t Bs C fin nx q->PG (Re.py l) nx i->(∀k∈l,Lo (opens nx) k)->GL nx->dk t Bs C fin pc i.toNat (jC nx c) st' b
 |.rep re k nx i c=>∀(C:List au) (fin:Nat->Bool) (pc b0 q kk:Nat),jM C re kk b0 k pc->IA t Bs re kk->Fq C (b0+re.dc) q->Ch t Bs C fin nx q->PG (decide (re.mn<=k)) nx i->Lo (opens nx) re->GL nx->dk t Bs C fin pc i.toNat (jC nx c) st' b
 |.behind re aP nx i c j=>∀(C:List au) (fin:Nat->Bool) (pc q kk:Nat),bz C pc=lR re kk->re.op=8->re.kids=[aP]->IA t Bs re kk->Fq C (pc+1) q->Ch t Bs C fin nx q->PG true nx i->Lo (opens nx) re->GL nx->0<=i->i<=t.length->j<=i.toNat+1 ->
   (∀s:Nat,j<=s->s<=i.toNat->∃aL m,de t Bs (HV aP kk) (λa=>decide (a=i.toNat)) 0 s aL m none)->dk t Bs C fin pc i.toNat (jC nx c) st' b
theorem pV{C:List au}{fin:Nat->Bool}{re aP:Re}{kk b0 pc1 pc2 q:Nat}{k i:Int}{nx:Goal} (hk:re.kids=[aP]) (hr:re.every RG=true) (ho:re.op=4) (hb:IA t Bs re kk) (hs:oc C pc1 (aP.xN kk pc1)) (ZU:Fq C (pc1+aP.dc) pc2) (hR:jM C re kk b0 (k+1) pc2) (hj:Fq C (b0+re.dc) q) (hn:Ch t Bs C fin nx q) (hp:PG false nx i) :
  Ch t Bs C fin (.mk 0 aP 0 0 (.mk 2 re k i nx)) pc1/\PG true (.mk 0 aP 0 0 (.mk 2 re k i nx)) i:=by
 obtain⟨hN,kB⟩:=rC hr;have hkm:aP∈re.kids:=by rw[hk];simp
 have aeh:aP.sB=false:=by have:=(hN.rep ho).2;rw[hk]at this;exact this
 refine⟨.tree rfl hs (kB aP hkm) (hb.one ae hk) ZU (.more rfl hR hb hj hn),?_⟩;unfold PG;rw[be rfl,ake,aeh];unfold PG;rw[ap aJ,be rfl,ap Bool.false_ne_true];exact⟨ajs _,hp⟩
theorem QU (l m:List Int) (hl:∀x∈l,fx x) (hm:∀x∈m,fx x):∃(p:eJ) (t:List Int),aM Try.prog 20 [.d (an l),.d (an m)] (.tu [aE p,.d (an t)])/\Ha p t:=by
 obtain⟨p0,t0,f0,s0⟩:=Gt l m hl hm 84;obtain⟨p,t,f1,s1⟩:=Gt l m hl hm 20;have ha0:=AN p0 s0.cN (by have:=s0.size;omega) s0.nn;have key:∀(p:eJ) (t:List Int),uZ p t->∃(g:MY) (e a b:Int) (q:eJ),q=(if e=0/\9<l.length then (if fj ⟨jH p.re a b,p.ai,p.aF⟩=0 then ⟨jH p.re a b,p.ai,p.aF⟩ else p) else p)/\a=pick l 1 2/\b=pick l 2 3/\Ha q t/\aM Try.prog 39 [aE p] (.tu [Ox g,i64 e]) /\
   aM Try.prog 38 [aE ⟨jH p.re a b,p.ai,p.aF⟩] (i64 (fj ⟨jH p.re a b,p.ai,p.aF⟩)):=by
  intro p t s;obtain⟨g,e,hc⟩:=KL p s.valid;have CV:=Mf l 1;refine⟨g,e,_,_,_,rfl,rfl,rfl,?_,hc,?_⟩
  ·by_cases h1:e=0/\9<l.length
   ·rw[be h1];by_cases h2:fj ⟨jH p.re (pick l 1 2) (pick l 2 3),p.ai,p.aF⟩=0
    ·rw[be h2];exact s.add CV.1 CV.2 h2
    ·rw[ap h2];exact s.r
   ·rw[ap h1];exact s.r
  ·refine AN _ (KS s.cN _ _) (by have:=s.size;show (jH p.re _ _).size<=_;rw[Tq];omega) (As s.nn _ _ ?_ ?_ ?_)
   ·exact bi (show fx 0 by decide)
   ·exact bi (show fx 0 by decide)
   ·exact bi (show fx 0 by decide)
 have k1:=CT l hl 1 2 ae;have k2:=CT l hl 2 3 ae;have CV:=Mf l 1;have w1:IntKind.i64.wrap (7+pick l 1 2)=7+pick l 1 2:=bF _ ae;by_cases Je:fj p0=0
 ·clear f1 s1;obtain⟨g,e,a,b,q,hq,ea,eb,hs,hc,iz⟩:=key p0 t0 s0;refine⟨q,t0,?_,hs⟩;rw[<- ea]at k1 w1;rw[<- eb]at k2;clear key ea eb CV hs s0 hl hm;rw[Je]at ha0;cases p0 with
  |mk re ai aF =>
  simp only at hq iz;generalize fj ⟨jH re a b,ai,aF⟩=ac at *;simp only[aE,wK,Re.ah re,aiZ,ai2,aiX,ai0,i64,iD,bD,bV,an,PS]at f0 ha0 hc iz k1 k2;refine bk Try.func20 Try.ntmps20 Try.results20 0 1779 ?_;simp only[zQ,simprocAttr,an];refine bO f0 ?_;simp only[zQ,simprocAttr,an];refine bO ha0 ?_;simp only[zQ,simprocAttr,an,ne_eq,not_true_eq_false];refine bO hc ?_;by_cases he:e=0
  ·subst he;by_cases h9:9<l.length
   ·have JU:(9:Int)<(l.length:Int):=by omega
    rw[be ⟨rfl,h9⟩]at hq;simp only[zQ,simprocAttr,an,aiW,JU,gt_iff_lt];refine aA mix [15] [] aN ?_;simp only[zQ,simprocAttr,an,aiW,JU];refine bR k1 rfl rfl ?_;simp only[zQ,simprocAttr,an,aiW,JU,w1];refine bR k2 rfl rfl ?_;simp only[zQ,simprocAttr,an,aiW,JU];refine gP _ rfl (bO iz ?_);by_cases h0:ac=0
    ·subst h0;rw[be rfl]at hq;subst hq;simp only[zQ,simprocAttr,an,aiW,JU,ne_eq,not_true_eq_false];simp [aE,wK,Re.ah re,iD,bD,i64,bV]
    ·rw[ap h0]at hq;subst hq;simp only[zQ,simprocAttr,an,aiW,JU,ne_eq,h0,not_false_eq_true];simp [aE,Re.ah re,iD,bD,i64,bV]
   ·have JU:¬(9:Int)<(l.length:Int):=by omega
    rw[ap (λh=>h9 h.2)]at hq;subst hq;simp only[zQ,simprocAttr,an,aiW,JU,gt_iff_lt];simp [aE,Re.ah re,iD,bD,i64,bV]
  ·rw[ap (λh=>he h.1)]at hq;subst hq;simp only[zQ,simprocAttr,an,he];simp [aE,Re.ah re,iD,bD,i64,bV]
 ·obtain⟨g,e,a,b,q,hq,ea,eb,hs,hc,iz⟩:=key p t s1;refine⟨q,t,?_,hs⟩;rw[<- ea]at k1 w1;rw[<- eb]at k2;clear key ea eb CV hs s0 s1 hl hm;cases p0 with
  |mk re0 Wy XR =>
  cases p with
  |mk re ai aF =>
  simp only at hq iz;generalize fj ⟨jH re a b,ai,aF⟩=ac at *;generalize fj ⟨re0,Wy,XR⟩=ac0 at *;simp only[aE,wK,Re.ah re,Re.ah re0,aiZ,ai2,aiX,ai0,i64,iD,bD,bV,an,PS]at f0 f1 ha0 hc iz k1 k2;refine bk Try.func20 Try.ntmps20 Try.results20 0 1779 ?_;simp only[zQ,simprocAttr,an];refine bO f0 ?_;simp only[zQ,simprocAttr,an];refine bO ha0 ?_;simp only[zQ,simprocAttr,an,ne_eq,Je,not_false_eq_true];refine bO f1 ?_;simp only[zQ,simprocAttr,an];refine bO hc ?_;by_cases he:e=0
  ·subst he;by_cases h9:9<l.length
   ·have JU:(9:Int)<(l.length:Int):=by omega
    rw[be ⟨rfl,h9⟩]at hq;simp only[zQ,simprocAttr,an,aiW,JU,gt_iff_lt];refine aA mix [15] [] aN ?_;simp only[zQ,simprocAttr,an,aiW,JU];refine bR k1 rfl rfl ?_;simp only[zQ,simprocAttr,an,aiW,JU,w1];refine bR k2 rfl rfl ?_;simp only[zQ,simprocAttr,an,aiW,JU];refine gP _ rfl (bO iz ?_);by_cases h0:ac=0
    ·subst h0;rw[be rfl]at hq;subst hq;simp only[zQ,simprocAttr,an,aiW,JU,ne_eq,not_true_eq_false];simp [aE,wK,Re.ah re,iD,bD,i64,bV]
    ·rw[ap h0]at hq;subst hq;simp only[zQ,simprocAttr,an,aiW,JU,ne_eq,h0,not_false_eq_true];simp [aE,Re.ah re,iD,bD,i64,bV]
   ·have JU:¬(9:Int)<(l.length:Int):=by omega
    rw[ap (λh=>h9 h.2)]at hq;subst hq;simp only[zQ,simprocAttr,an,aiW,JU,gt_iff_lt];simp [aE,Re.ah re,iD,bD,i64,bV]
  ·rw[ap (λh=>he h.1)]at hq;subst hq;simp only[zQ,simprocAttr,an,he];simp [aE,Re.ah re,iD,bD,i64,bV]
def NT (i:Int) (L:List (Int×aD)):List kA:=L.map λx=>⟨i,x.1,x.2⟩
theorem XJ (i:Int) (L:List (Int×aD)):L.map (A9 i)=(NT i L).map Om:=by unfold NT;rw[ajL];rfl
theorem N6 {p:eJ}{i n f:Int} (h:gU p t i n f=0):((allM p t i n f).length:Int)<=jI p t i n f+1/\(allM p t i n f).length=(cW p t i n f).2.ends.length:=by have h1:=VB h;have h2:=yW h;unfold allM;rw[be h,List.length_zip,h2];simp only[Nat.min_self];exact⟨h1,trivial⟩
theorem FU (L:List kA) (hL:L.length<=1000000000) (hc:∀m∈L,m.c.length<=1000000000):aM prog 10 [.d (.sl (L.map Om)),.d (.sl (L.map Om))] (bV true):=by
 refine bk func10 ntmps10 results10 0 51 ?_;simp only[zI,simprocAttr,bV,iD,aiW,ne_eq,not_true_eq_false];refine ay (λn e s=>∃i:Nat,n=L.length-i/\i<=L.length/\e 0=.d (.sl (L.map Om))/\e 1=.d (.sl (L.map Om))/\e 5=i64 i/\s=[])
  ⟨_,_,_,bJ.refl,0,rfl,ae,rfl,rfl,rfl,rfl⟩ ?_
 rintro n e s ⟨i,rfl,hi,h0,h1,h5,rfl⟩;rcases ajr i L.length with aB|iA
 ·obtain⟨x,hx⟩:∃x,L[i]?=some x:=bZ aB;have aH:(i:Int)<L.length:=ae;have l0:(0:Int)<=(i:Int):=ae;have heq:=KI x x (hc x (ai4 hx));simp only[decide_true,kA.v,i64,bV]at heq;simp only[zI,simprocAttr,bV,iD,h0,h1,h5,aiW,aH];refine aA mix [] [] aN ?_;simp only[zI,simprocAttr,bV,iD,h0,h1,h5,aiW,aH,aB,l0,ai1,hx,Om];refine bR heq rfl rfl ?_;simp only[zI,simprocAttr,bV,iD,h0,h1,h5,aiW,aje];refine⟨L.length-(i+1),_,_,ae,bJ.refl,i+1,rfl,aB,?_,?_,?_,rfl⟩ <;> (try simp only[zU,Nat.reduceBEq,Nat.reduceShiftRight,Nat.reduceMod,Nat.reduceEqDiff,reduceIte])
  ·exact h0
  ·exact h1
  ·rw[bF _ ae];rfl
 ·have dY:i=L.length:=by omega
  subst dY;have aH:¬(L.length:Int)<L.length:=ae;simp only[zI,simprocAttr,bV,iD,h0,h1,h5,aiW,aH]
noncomputable def FX (p:eJ) (t:List Int) (F:Int):Nat->Int->Int->Option (List kA)
 |0,_,_=>some []
 |n+1,i,s=>if gU p t i 1 (F-s)≠0 then none else (FX p t F n (i+1) (s+jI p t i 1 (F-s))).map (NT i (allM p t i 1 (F-s))++·)
noncomputable def Qo (p:eJ) (t:List Int) (F:Int):List kA×Int :=
 if dp p t F≠0 then ([],dp p t F) else match FX p t F (t.length+1) 0 0 with
  |some L=>(L,0)
  |none=>([],11)
theorem XM (L:List kA) (n:Nat) (hn:n=L.length) (s:List VL.Obj):List.mapM (λe=>List.mapM (cR 7 0 s) e) (List.take n (List.map (λx=>List.map V.d x) (List.map Om L)))=some (L.map Om):=by rw[ajb cG];exact oV 7 0 s _
theorem F7 (p:eJ) (t:List Int) (F:Int) (hf:p.re.cN=true) (hs:p.re.size<=1000000000) (ht:t.length<=1000000000) :
  aM prog 31 [aE p,.d (an t),i64 F] (.tu [.d (.sl ((Qo p t F).1.map Om)),i64 (Qo p t F).2]):=by
 have h1:=wA p t F hf hs ht;have bK:=λi f=>rH p t i 1 f hf hs ht;unfold Qo;by_cases hv:dp p t F=0
 case neg =>
  rw[be hv];generalize dp p t F=v at *;simp only[yr,dE,aiZ,ai2,i64,iD,bD,bV]at h1;refine bk func31 ntmps31 results31 0 32719 ?_;simp only[zQ,simprocAttr,kA.v,an,bA,aiW,aju,ajw,ai8,ai9,aiX,ai0,ne_eq,not_true_eq_false,not_false_eq_true,ajd,aje,gt_iff_lt,decide_true,yr,dE];refine bO h1 ?_;simp only[zQ,simprocAttr,kA.v,an,bA,aiW,aju,ajw,ai8,ai9,aiX,ai0,ne_eq,not_true_eq_false,not_false_eq_true,ajd,aje,gt_iff_lt,decide_true,hv,ai2]
 rw[hv]at h1;rw[ap (by rw[hv];simp)];simp only[yr,dE,aiZ,ai2,i64,iD,bD,bV,an,XJ]at h1 bK;obtain⟨_,v2,_,v4,v5⟩:=qL hv;generalize hR:FX p t F (t.length+1) 0 0=R;refine bk func31 ntmps31 results31 0 32719 ?_;simp only[zQ,simprocAttr,kA.v,an,bA,aiW,aju,ajw,ai8,ai9,aiX,ai0,ne_eq,not_true_eq_false,not_false_eq_true,ajd,aje,gt_iff_lt,decide_true,yr,dE];refine bO h1 ?_;simp only[zQ,simprocAttr,kA.v,an,bA,aiW,aju,ajw,ai8,ai9,aiX,ai0,ne_eq,not_true_eq_false,not_false_eq_true,ajd,aje,gt_iff_lt,decide_true];refine ay (λn e s=>∃(i k:Int) (A:List kA) (g:Nat),i+n=t.length+1/\0<=i/\0<=k/\k<=F/\(A.length:Int)<=k+i/\(FX p t F n i k).map (A++·)=R/\e 1=.d (an t)/\e 2=i64 F/\e 3=.rf 0 0 0 0/\e 9=.so 1 g 0 A.length/\e 10=i64 k/\e 11=i64 i /\
   s=[⟨0,true,10,[(oe p).map .d]⟩,⟨g,true,3,(A.map Om).map (·.map .d)⟩])
  ⟨t.length+1,_,_,.MX (fQ 9 3 rfl),0,0,[],0,ae,ae,ajs _,v4,aj,by rw[hR];cases R <;> rfl,rfl,rfl,rfl,rfl,rfl,rfl,by rw[dE];rfl⟩ ?_
 clear hR;rintro n e s ⟨i,k,A,g,iU,hi0,hk0,hkF,WJ,hR,uV,h2,h3,h9,dX,jK,rfl⟩;rw[dE];simp only[an,iD,bD,aiZ,ai2]at uV ⊢;cases n with
 |zero =>
  have hle:¬i<=(t.length:Int):=ae;simp only[FX,ai3,List.append_nil]at hR;subst hR;have hmf:=XM A A.length rfl;simp only[zQ,simprocAttr,kA.v,an,bA,aiW,aju,ajw,ai8,ai9,aiX,ai0,ne_eq,not_true_eq_false,not_false_eq_true,ajd,aje,gt_iff_lt,decide_true,uV,h2,h3,h9,dX,jK,hle,hmf,ai7,ajc,if_true,ai3]
 |succ n =>
  have hle:i<=(t.length:Int):=ae;have wF:IntKind.i64.wrap (F-k)=F-k:=bF _ ae;have hA:=bK i (F-k);simp only[FX]at hR;simp only[zQ,simprocAttr,kA.v,an,bA,aiW,aju,ajw,ai8,ai9,aiX,ai0,ne_eq,not_true_eq_false,not_false_eq_true,ajd,aje,gt_iff_lt,decide_true,uV,h2,h3,h9,dX,jK,hle,wF];refine bO hA ?_;by_cases hE:gU p t i 1 (F-k)=0
  ·rw[ap (by rw[hE];simp)]at hR;have ck:=zf hE;have hml:=(N6 hE).1;have wk:IntKind.i64.wrap (k+jI p t i 1 (F-k))=k+jI p t i 1 (F-k):=bF _ ae;have wi:IntKind.i64.wrap (i+1)=i+1:=bF _ ae;have Ip:(NT i (allM p t i 1 (F-k))).length=(allM p t i 1 (F-k)).length:=by unfold NT;rw[aiW]
   generalize NT i (allM p t i 1 (F-k))=M at *;generalize jI p t i 1 (F-k)=N at *;simp only[zQ,simprocAttr,kA.v,an,bA,aiW,aju,ajw,ai8,ai9,aiX,ai0,ne_eq,not_true_eq_false,not_false_eq_true,ajd,aje,gt_iff_lt,decide_true,uV,h2,h3,h9,dX,jK,hle,hE,wk,ai7];refine⟨?_,⟨ajc _,ae⟩,?_⟩
   ·simp [Om]
   refine⟨n,_,_,Nat.lt_succ_self n,bJ.refl,i+1,k+N,A++M,g+1,ae,ae,ae,ae,by rw[ai6];omega,?_,uV,h2,h3,by rw[ai6];rfl,rfl,show V.d (.sc (.int .i64 (IntKind.i64.wrap (i+1))))=i64 (i+1) by rw[wi];rfl,by rw[akf,akf,ajb aj]⟩;rw[<- hR];cases FX p t F n (i+1) (k+N) <;> simp [ajq]
  ·rw[be hE]at hR;simp only[Option.map_none]at hR;subst hR;simp only[zQ,simprocAttr,kA.v,an,bA,aiW,aju,ajw,ai8,ai9,aiX,ai0,ne_eq,not_true_eq_false,not_false_eq_true,ajd,aje,gt_iff_lt,decide_true,uV,h2,h3,h9,dX,jK,hle,hE]
end Go.Proofs.Ytfmdmlfhigocaaa
