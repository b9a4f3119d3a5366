/- A part of the proof (O69 O70). -/
import Derived.Test.YtfmdmlfhigocaaaOR35
import Derived.Test.YtfmdmlfhigocaaaOR44
import Derived.Test.YtfmdmlfhigocaaaOR48
import Derived.Test.YtfmdmlfhigocaaaOR52
import Derived.Test.YtfmdmlfhigocaaaOR53
import Derived.Test.YtfmdmlfhigocaaaOR47
set_option linter.unusedSimpArgs false
set_option linter.unusedVariables false
set_option maxRecDepth 100000
set_option maxHeartbeats 80000000
namespace Go.Proofs.Ytfmdmlfhigocaaa
open Go.VL
variable{t:List Int}
theorem yh {t:List Int}{L:List (Re×Nat)}{c:Nat}:∀c',c<=c'->c'<=L.length->∀j,L.length-c<=j->(aT t L c').getD j []=(aT t L c).getD j []
 |0,h,_,j,_=>by have:c=0:=ae;subst this;rfl
 |c'+1,h,hl,j,hj=>by
  by_cases e:c=c'+1
  ·subst e;rfl
  ·rw[aT];have hp:L.length-1-c'<L.length:=ae;rw[ajg hp];simp only;rw[aja,ajy ae,<- aja];exact yh c' ae ae j hj
theorem Gd {r x:Re}{i:Nat} (hk:r.kids=[x]) (hs:x.every l5=true) (t:List Int) {Bs CY:List (List Bool)} (hR:∀j,i+1<=j->j<i+1+x.looks->Bs.getD j []=CY.getD j []):eS t Bs r i=eS t CY r i:=by
 have he:Re.db r.kids (i+1) []=x.emit (i+1) []:=by rw[hk,Re.db,Re.db]
 have hp:=λp n=>NB hs t hR p n;unfold eS;simp only[he];rw[Q7 hp,Vy hp]
theorem Vp {p:eJ} (h:dz p t=0):IA t (aT t (p.re.bH 0) (p.re.bH 0).length) p.re 0:=by
 intro pr RM;obtain⟨i,hi,hpi⟩:=List.mem_iff_getElem.1 RM;obtain⟨r,⟨q,hr,hq⟩,ho,xh,⟨x,hx,GO⟩,hfit⟩:=Uf h i hi;have e:pr=(r,q):=by rw[<- hpi];have:=ajg hi;rw[hr]at this;exact(Option.some.inj this).symm
 have hqi:q=i:=ae;subst hqi;rw[e];simp only;have hys:x.every l5=true:=((Re.av r).1 xh).2 x (by rw[hx];simp);have MU:r.looks=1+x.looks:=by rw[Re.jg,be ho,hx];simp [Re.aV]
 generalize hL:p.re.bH 0=L at *;have rN:(aT t L (L.length-1-q+1)).getD q []=eS t (aT t L (L.length-1-q)) r q:=by have LU:=fK t L (L.length-1-q);rw[aT,show L.length-1-(L.length-1-q)=q by omega,hr];simp only;rw[aja,ajm ae];rfl
 refine⟨?_,x,hx,?_⟩
 ·rw[yh (c:=L.length-1-q+1) L.length ae (ajc _) q ae,rN];refine Gd hx hys t (λj h1 h2=>?_);exact(yh (c:=L.length-1-q) L.length ae (ajc _) j ae).symm
 ·refine vt t _ x hys (q+1) ?_ (λj h1 h2=>jR t L L.length j ae ae);unfold dv at GO;omega
theorem N7 (n:Nat):fE (List.replicate n (-1,-1))=gr n:=by
 unfold gr;induction n with
 |zero=>rfl
 |succ n ih =>
  have e:fE (List.replicate (n+1) (-1,-1))=(-1)::(-1)::fE (List.replicate n (-1,-1)):=rfl;rw[e,ih,show 2*(n+1)=2*n+1+1 by omega,List.replicate_succ,List.replicate_succ]
theorem EH:∀(c:aD) (j:Nat) (x:Int×Int),c[j]?=some x->(fE c).getD (2*j) 0=x.1/\(fE c).getD (2*j+1) 0=x.2
 |[],j,x,h=>by simp at h
 |p::c,0,x,h=>by simp only[ajv,ai5]at h;subst h;exact⟨rfl,rfl⟩
 |p::c,j+1,x,h=>by rw[ajJ]at h;have ih:=EH c j x h;have e2:fE (p::c)=p.1::p.2::fE c:=rfl;rw[e2,show 2*(j+1)=2*j+1+1 by omega,show 2*j+1+1+1=(2*j+1)+1+1 by omega];simp only[ajW];exact ih
theorem R9{c:aD} (h:jw t c):Ja c.length (fE c)=c:=by
 apply ajX;intro j;unfold Ja;rw[aiY];by_cases hj:j<c.length
 ·rw[List.getElem?_range hj];obtain⟨x,hx⟩:∃x,c[j]?=some x:=bZ hj;obtain⟨g1,g2⟩:=EH c j x hx;rw[hx];simp only[ai3,ai5];unfold XK;rw[g1,g2];obtain⟨x1,x2⟩:=x;rcases h.2 _ (ai4 hx) with he|⟨a1,a2,a3⟩
  ·cases he;rw[be (.inl rfl)]
  ·simp only at a1 a2;rw[ap oG]
 ·rw[ajH (by simpa using hj),ajH ae];rfl
theorem DA {p:eJ} (h:dz p t=0) {i F:Int} (h0:0<=i) (h1:i<=t.length) (hE:gU p t i 1 F=0) :
  (gk t (aT t (p.re.bH 0) (p.re.bH 0).length) (jG p) i.toNat p.ai.toNat).1=(allM p t i 1 F).head?.map λx=>⟨i,x.1,x.2⟩:=by
 obtain⟨hv,_,_,he⟩:=mU hE;obtain⟨k,b,x,hx,ev⟩:=vY (most:=1) hv h0 h1;obtain⟨_,_,e2⟩:=jN (most:=1) hv h0 h1;have hM:allM p t i 1 F=x.ends.zip x.ai:=by unfold allM;rw[be hE,hx]
 rw[hx]at he e2;have uS:=NX k _ _ _ _ _ ev;obtain⟨a,_,_⟩:=qh h;obtain⟨hfr,dP⟩:=Xu a;have hR:=rK h;have DP:=hR.qW;have hB:=Vp h;generalize aT t (p.re.bH 0) (p.re.bH 0).length=Bs at *;have hco:jG p=p.re.xN 0 0++[bW]:=by unfold jG;rw[ED];rfl
 have hs:oc (jG p) 0 (p.re.xN 0 0++[bW]):=⟨[],[],by rw[hco];simp,rfl⟩
 obtain⟨ef,fU⟩:=hs.app;rw[Re.mq]at fU;have hw:=uS.ac6 rfl rfl rfl rfl (λ_=>he) (jG p) oE 0 0 .refl (.tree rfl ef hfr hB .refl (.nil (by rw[fU.cons.1];rfl) (λ_=>rfl))) (by unfold PG;rw[be rfl];trivial) ((jy aJ aJ).2 ⟨⟨hfr,[],dP,λx hx=>by cases hx⟩,trivial⟩);rw[dw aJ]at hw;have er:jC .nil (oB p)=gr p.ai.toNat:=N7 _;rw[er]at hw;obtain⟨n,r,w,ov⟩:=hw;rw[J4 DP hR.len ae w,hM];rcases ov with ⟨_,rfl,_,h2,_⟩|⟨_,e,d,rfl,h2,h3⟩
 ·rw[h2];rfl
 ·rw[h2,h3];obtain⟨new,oP,z1,z2,z3,z4,z5,z6⟩:=e2.more;have hdm:d∈oP:=by
   have:x.ai=oP:=by simpa using z2
   rw[<- this,h3];simp
  obtain⟨c1,c2⟩:=z6 d hdm;show some (Vc i.toNat p.ai.toNat (e,fE d))=some ⟨i,e,d⟩;have hl:p.ai.toNat=d.length:=by rw[c2];simp [oB]
  unfold Vc;rw[hl,R9 c1,Int.toNat_of_nonneg h0]
def rL (aF:Bool):eJ:=⟨.mk 0 [] [] 0 0 0 0 false,0,aF⟩
theorem L8 (aF:Bool):cz (rL aF)=0:=by
 have hw:Re.whole (.mk 0 [] [] 0 0 0 0 false) 0 (hU aF)=true:=by rw[Re.whole,Re.av];refine⟨?_,λk hk=>by simp [Re.kids]at hk⟩;simp [bS,Re.op,Re.kids,Re.set,Re.mn,Re.mx,Re.mode,Re.n,Re.neg,cw]
 have hs:Re.size (.mk 0 [] [] 0 0 0 0 false)=1:=aN;have hd:Re.depth (.mk 0 [] [] 0 0 0 0 false)=1:=aN;unfold cz rL;rw[ap (by show ¬(256<Re.size (.mk 0 [] [] 0 0 0 0 false)\/24<Re.depth (.mk 0 [] [] 0 0 0 0 false));rw[hs,hd];omega),ap];show ¬((0:Int)<0\/9<(0:Int)\/Re.whole (.mk 0 [] [] 0 0 0 0 false) 0 (hU aF)=false);rw[hw];simp
theorem Nt {aF:Bool} (ht:t.length<=65536) (hs:t.all (eE aF)=true):gU (rL aF) t 0 1 9=0:=by
 have Wt:dp (rL aF) t 9=0:=by unfold dp;rw[ap (by rw[L8];simp),bd,ap (by show ¬t.all (eE aF)=false;rw[hs];simp),bd]
 refine rJ Wt (ajs _) ae ?_;have uS:fV t 9 3 1 (.run (.mk 0 (.mk 0 [] [] 0 0 0 0 false) 0 0 .nil) 0 (oB (rL aF))) ⟨0,false,[],[]⟩=some (true,⟨1,false,[0],[oB (rL aF)]⟩):=by
  have iy:(oB (rL aF)).length=0:=rfl;generalize oB (rL aF)=c at *;show bI t 9 (fV t 9 2) 1 (.run (.mk 0 (.mk 0 [] [] 0 0 0 0 false) 0 0 .nil) 0 c) ⟨0,false,[],[]⟩=_;have ck:(bh.step 9 ⟨0,false,[],[]⟩)=⟨1,false,[],[]⟩:=by simp [bh.step]
  simp only[bI];rw[bd,ap aJ,ap aJ,ap aJ,ap aJ];show bI t 9 (fV t 9 1) 1 (.node (.mk 0 (.mk 0 [] [] 0 0 0 0 false) 0 0 .nil) 0 c) ⟨0,false,[],[]⟩=_;simp only[bI];rw[bd,ap (by simp [Re.op]),ap (by simp [Re.set,Re.kids];omega),ap aj,ck,ap aj];unfold dI;rw[ap (show ¬(Re.mk 0 [] [] 0 0 0 0 false).op=1 by decide),ap (show ¬(Re.mk 0 [] [] 0 0 0 0 false).op=2 by decide),ap (show ¬(Re.mk 0 [] [] 0 0 0 0 false).op=3 by decide),ap (show ¬(Re.mk 0 [] [] 0 0 0 0 false).op=5 by decide),ap (show ¬(Re.mk 0 [] [] 0 0 0 0 false).op=6 by decide),ap (show ¬((Re.mk 0 [] [] 0 0 0 0 false).op=7\/(Re.mk 0 [] [] 0 0 0 0 false).op=8) by decide),ap (show ¬(Re.mk 0 [] [] 0 0 0 0 false).op=9 by decide),ap (show ¬(Re.mk 0 [] [] 0 0 0 0 false).op=10 by decide),ap (show ¬(Re.mk 0 [] [] 0 0 0 0 false).op=11 by decide)];show bI t 9 (fV t 9 0) 1 (.run .nil 0 c) ⟨1,false,[],[]⟩=_;simp only[bI];rw[bd,be aj];simp
 have hX:cW (rL aF) t 0 1 9=_:=uN uS;rw[hX]
theorem Fi (p:eJ) (t:List Int) (hf:p.re.cN=true) (hs:p.re.size<=1000000) (hn:p.re.every (λr=>decide (fx r.n))=true) (ht:t.length<=65536) (CS:t.all (eE p.aF)=true):aM Try.prog 30 [aE p,.d (an t)] (i64 (fj p)):=by
 have h1:=AN p hf hs hn;have h2:=rH (rL p.aF) t 0 1 9 aN (by show Re.size (.mk 0 [] [] 0 0 0 0 false)<=_;rw[show Re.size (.mk 0 [] [] 0 0 0 0 false)=1 from rfl];omega) ae;rw[Nt ht CS]at h2;generalize allM (rL p.aF) t 0 1 9=M at *;generalize jI (rL p.aF) t 0 1 9=N at *;unfold rL at h2;generalize fj p=ac at *;cases p with
 |mk re ai aF =>
 simp only at *;simp only[aE,Re.ah,Re.op,Re.set,Re.kids,Re.mn,Re.mx,Re.mode,Re.n,Re.neg,aiZ,ai2,aiX,ai0,i64,iD,bD,bV,an]at h2;simp only[aE,Re.ah re,aiZ,ai2,aiX,ai0,i64,iD,bD,bV]at h1;by_cases Je:ac=0
 ·subst Je;refine bk Try.func30 Try.ntmps30 Try.results30 0 311 ?_;simp only[zI,simprocAttr,aE,Re.ah,bV,iD,bD,an];refine bO h1 ?_;simp only[zI,simprocAttr,aE,Re.ah,bV,iD,bD,an,ne_eq,not_true_eq_false];refine gP _ rfl (bO h2 ?_);simp only[zI,simprocAttr,aE,Re.ah,bV,iD,bD,an];all_goals rfl
 ·refine bk Try.func30 Try.ntmps30 Try.results30 0 311 ?_;simp only[zI,simprocAttr,aE,Re.ah,bV,iD,bD,an];refine bO h1 ?_;simp only[zI,simprocAttr,aE,Re.ah,bV,iD,bD,an,ne_eq,Je,not_false_eq_true];all_goals rfl
noncomputable def yT (p:eJ) (t:List Int) (x:Int):Option kA:=if fj p≠0 then none else (allM p t x 1 1099511627776).head?.map λy=>⟨x,y.1,y.2⟩
noncomputable def CM (p:eJ) (t:List Int) (x:Int):Int:=if fj p≠0 then fj p else gU p t x 1 1099511627776
theorem LS (p:eJ) (t:List Int) (x:Int) (hf:p.re.cN=true) (hs:p.re.size<=1000000) (hn:p.re.every (λr=>decide (fx r.n))=true) (ht:t.length<=65536) (CS:t.all (eE p.aF)=true) :
  aM Try.prog 13 [aE p,.d (an t),i64 x] (.tu [(Lx (yT p t x)).v,bV (yT p t x).isSome,i64 (CM p t x)]):=by
 have h1:=Fi p t hf hs hn ht CS;have h2:=rH p t x 1 1099511627776 hf ae ae;have kX:gU p t x 1 1099511627776≠0->allM p t x 1 1099511627776=[]:=λh=>by unfold allM;rw[ap h]
 unfold yT CM;generalize allM p t x 1 1099511627776=M at *;generalize jI p t x 1 1099511627776=N at *;generalize gU p t x 1 1099511627776=E at *;generalize fj p=ac at *;cases p with
 |mk re ai aF =>
 simp only at *;simp only[aE,Re.ah re,aiZ,ai2,aiX,ai0,i64,iD,bD,bV,an]at h1 h2;by_cases Je:ac=0
 ·subst Je;rw[ap aj,ap aj];by_cases hE:E=0
  ·subst hE;cases M with
   |nil =>
    refine bk Try.func13 Try.ntmps13 Try.results13 0 6095 ?_;simp only[zI,simprocAttr,aE,Re.ah,bV,iD,bD,an];refine bO h1 ?_;simp only[zI,simprocAttr,aE,Re.ah,bV,iD,bD,an,ne_eq,not_true_eq_false];refine bO h2 ?_;simp only[zI,simprocAttr,aE,Re.ah,bV,iD,bD,an,ne_eq,not_true_eq_false,ai2,ai9,ajn];all_goals rfl
   |cons y M =>
    have dP:¬((M.length+1:Nat):Int)=0:=ae;have lQ:(0:Int)<((M.length+1:Nat):Int):=ae;refine bk Try.func13 Try.ntmps13 Try.results13 0 6095 ?_;simp only[zI,simprocAttr,aE,Re.ah,bV,iD,bD,an];refine bO h1 ?_;simp only[zI,simprocAttr,aE,Re.ah,bV,iD,bD,an,ne_eq,not_true_eq_false];refine bO h2 ?_;simp only[zI,simprocAttr,aE,Re.ah,bV,iD,bD,an,ne_eq,not_true_eq_false,aiZ,ai8,aiW,dP,lQ,A9];all_goals rfl
  ·rw[kX hE]at h2 ⊢;refine bk Try.func13 Try.ntmps13 Try.results13 0 6095 ?_;simp only[zI,simprocAttr,aE,Re.ah,bV,iD,bD,an];refine bO h1 ?_;simp only[zI,simprocAttr,aE,Re.ah,bV,iD,bD,an,ne_eq,not_true_eq_false];refine bO h2 ?_;simp only[zI,simprocAttr,aE,Re.ah,bV,iD,bD,an,ne_eq,hE,not_false_eq_true];all_goals rfl
 ·rw[be Je,be Je];refine bk Try.func13 Try.ntmps13 Try.results13 0 6095 ?_;simp only[zI,simprocAttr,aE,Re.ah,bV,iD,bD,an];refine bO h1 ?_;simp only[zI,simprocAttr,aE,Re.ah,bV,iD,bD,an,ne_eq,Je,not_false_eq_true];all_goals rfl
noncomputable def A3 (p:eJ) (t:List Int):List kA×Int:=if fj p≠0 then ([],fj p) else Qo p t 1099511627776
theorem NJ (p:eJ) (t:List Int) (hf:p.re.cN=true) (hs:p.re.size<=1000000) (hn:p.re.every (λr=>decide (fx r.n))=true) (ht:t.length<=65536) (CS:t.all (eE p.aF)=true) :
  aM Try.prog 9 [aE p,.d (an t)] (.tu [.d (.sl ((A3 p t).1.map Om)),i64 (A3 p t).2]):=by
 have h1:=Fi p t hf hs hn ht CS;have h2:=F7 p t 1099511627776 hf ae ae;unfold A3;generalize Qo p t 1099511627776=R at *;generalize fj p=ac at *;cases p with
 |mk re ai aF =>
 simp only at *;simp only[aE,Re.ah re,aiZ,ai2,aiX,ai0,i64,iD,bD,bV,an]at h1 h2;by_cases Je:ac=0
 ·subst Je;rw[ap aj];refine bk Try.func9 Try.ntmps9 Try.results9 0 119 ?_;simp only[zI,simprocAttr,aE,Re.ah,bV,iD,bD,an];refine bO h1 ?_;simp only[zI,simprocAttr,aE,Re.ah,bV,iD,bD,an,ne_eq,not_true_eq_false];refine bO h2 ?_;simp only[zI,simprocAttr,aE,Re.ah,bV,iD,bD,an];all_goals rfl
 ·rw[be Je];refine bk Try.func9 Try.ntmps9 Try.results9 0 119 ?_;simp only[zI,simprocAttr,aE,Re.ah,bV,iD,bD,an];refine bO h1 ?_;simp only[zI,simprocAttr,aE,Re.ah,bV,iD,bD,an,ne_eq,Je,not_false_eq_true];all_goals rfl
noncomputable def x8 (p:eJ) (t:List Int):Bool:=decide (cz p≠0)||(List.range (t.length+1)).all λi=>decide (gU p t (i:Int) (-1) 20000=0)
theorem Uo (p:eJ) (t:List Int) (hf:p.re.cN=true) (hs:p.re.size<=1000000) (ht:t.length<=65536):aM Try.prog 7 [aE p,.d (an t)] (bV (x8 p t)):=by
 have h1:=nE p hf ae;have h2:=λi:Int=>rH p t i (-1) 20000 hf ae ae;unfold x8;generalize hv:cz p=vr at *;generalize Zw:(λi:Int=>gU p t i (-1) 20000)=EE;have hE:∀i,gU p t i (-1) 20000=EE i:=λi=>by rw[<- Zw]
 simp only[hE]at h2 ⊢;generalize hMM:(λi:Int=>allM p t i (-1) 20000)=MM;have hM:∀i,allM p t i (-1) 20000=MM i:=λi=>by rw[<- hMM]
 generalize hNN:(λi:Int=>jI p t i (-1) 20000)=NN;have hN:∀i,jI p t i (-1) 20000=NN i:=λi=>by rw[<- hNN]
 simp only[hM,hN]at h2;cases p with
 |mk re ai aF =>
 simp only[aE,Re.ah re,aiZ,ai2,aiX,ai0,i64,iD,bD,bV,an]at h1 h2;by_cases UF:vr=0
 ·subst UF;rw[show decide ((0:Int)≠0)=false from rfl,ajx];refine bk Try.func7 Try.ntmps7 Try.results7 0 311 ?_;simp only[zI,simprocAttr,aE,Re.ah,bV,iD,bD,an];refine bO h1 ?_;simp only[zI,simprocAttr,aE,Re.ah,bV,iD,bD,an,ne_eq,not_true_eq_false];refine ay (λn e s=>∃i:Nat,n=t.length+1-i/\i<=t.length+1/\e 1=.d (an t)/\e 2=.rf 0 0 0 0/\e 5=i64 i/\(∀j:Nat,j<i->EE j=0)/\s=[⟨0,true,10,[[i64 re.op,.d (.sl (re.set.map aU)),.d (.sl (re.kids.map Re.cells)),i64 re.mn,i64 re.mx,i64 re.mode,i64 re.n,bV re.neg,i64 ai,bV aF]]⟩])
   ⟨_,_,_,bJ.refl,0,rfl,ae,rfl,rfl,rfl,λj h=>ae,rfl⟩ ?_
  rintro n e s ⟨i,rfl,hi,q1,q2,q5,bK,rfl⟩;simp only[an]at q1;rcases ajr i (t.length+1) with aB|iA
  ·have hle:(i:Int)<=(t.length:Int):=by omega
   have UL:IntKind.i64.wrap ((i:Int)+1)=((i+1:Nat):Int):=by rw[bF _ ae];rfl
   have h2i:=h2 i;by_cases hz:EE i=0
   ·rw[hz]at h2i;simp only[zQ,simprocAttr,q1,q2,q5,hle,aiW];refine bO h2i ?_;simp only[zQ,simprocAttr,q1,q2,q5,hle,aiW,ne_eq,not_true_eq_false,UL];refine⟨t.length+1-(i+1),_,_,ae,bJ.refl,i+1,rfl,ae,?_,?_,?_,λj hj=>?_,rfl⟩ <;> (try simp only[zU,Nat.reduceBEq,Nat.reduceShiftRight,Nat.reduceMod,Nat.reduceEqDiff,reduceIte])
    ·exact q1
    ·exact q2
    ·by_cases e:j=i
     ·subst e;exact hz
     ·exact bK j ae
   ·have jf:((List.range (t.length+1)).all λi=>decide (EE (i:Int)=0))=false:=by rw[akr];exact⟨i,List.mem_range.2 aB,by simp [hz]⟩
    rw[jf];simp only[zQ,simprocAttr,q1,q2,q5,hle,aiW];refine bO h2i ?_;simp only[zQ,simprocAttr,q1,q2,q5,hle,aiW,ne_eq,hz,not_false_eq_true];all_goals rfl
  ·have dY:i=t.length+1:=by omega
   subst dY;have hle:¬((t.length+1:Nat):Int)<=(t.length:Int):=ae;have Uz:((List.range (t.length+1)).all λi=>decide (EE (i:Int)=0))=true:=by rw[ajo];exact λj hj=>bi (bK j (List.mem_range.1 hj))
   rw[Uz];simp only[zQ,simprocAttr,q1,q2,q5,hle,aiW];all_goals rfl
 ·rw[show decide (vr≠0)=true from bi UF,ajC];refine bk Try.func7 Try.ntmps7 Try.results7 0 311 ?_;simp only[zI,simprocAttr,aE,Re.ah,bV,iD,bD,an];refine bO h1 ?_;simp only[zI,simprocAttr,aE,Re.ah,bV,iD,bD,an,ne_eq,UF,not_false_eq_true];all_goals rfl
end Go.Proofs.Ytfmdmlfhigocaaa
