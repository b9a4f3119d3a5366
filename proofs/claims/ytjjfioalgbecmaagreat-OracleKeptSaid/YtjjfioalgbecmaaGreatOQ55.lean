/- A part of the proof (O84 O85). -/
import Derived.Test.YtjjfioalgbecmaaGreatOQ53
set_option linter.unusedSimpArgs false
set_option linter.unusedVariables false
set_option maxRecDepth 100000
set_option maxHeartbeats 80000000
namespace Go.Proofs.YtjjfioalgbecmaaGreat
open Go.VL
def pk:Re:=.mk 0 [] [] 0 0 0 0 false
def jI (b:Int) (neg:Bool):Re:=.mk (7+b) [] [pk] 0 0 0 0 neg
def ew (b:Int) (two:Bool):Re:=if two then .mk 7 [] [jI b true] 0 0 0 0 true else jI b false
def jT (re:Re) (b:Int) (two:Bool):Re:=.mk 2 [] [ew b two,re] 0 0 0 0 false
def gl (p:iM) (b:Int) (two:Bool):iM:=⟨jT p.re b two,p.ai,p.aB⟩
theorem Pv (t:List Int) (Bs:List (List Bool)):iE t Bs [bw]=List.replicate (t.length+1) true:=by
 have h1:∀(i:Nat),(fT t Bs [bw] (i+1)).getD 0 false=true:=λi=>by rw[fT,dT];simp [bC,e9,bw]
 unfold iE;simp only[h1];apply List.ext_getElem?;intro j;rw[List.getElem?_map,List.getElem?_replicate];by_cases hj:j<t.length+1
 ·rw[List.getElem?_range hj,be hj];rfl
 ·rw[List.getElem?_eq_none (by simpa using hj),ap hj];rfl
theorem Sh {t:List Int}{Bs:List (List Bool)}{re:Re}{k:Nat} (h:∀p,p<=t.length->(gQ re k).pass t Bs p=false):iE t Bs [gQ re k,bw]=List.replicate (t.length+1) false:=by
 have h1:∀(i:Nat),(fT t Bs [gQ re k,bw] (i+1)).getD 0 false=false:=λi=>by have hp:=h (t.length-i) ae;rw[fT,dT];have e0:e9 [gQ re k,bw] 0=gQ re k:=rfl;have e1:e9 [gQ re k,bw] 1=bw:=rfl;have o0:(gQ re k).op=5:=rfl;have o1:bw.op=0:=rfl;simp [bC,e0,e1,o0,o1,hp,alb]
 unfold iE;simp only[h1];apply List.ext_getElem?;intro j;rw[List.getElem?_map,List.getElem?_replicate];by_cases hj:j<t.length+1
 ·rw[List.getElem?_range hj,be hj];rfl
 ·rw[List.getElem?_eq_none (by simpa using hj),ap hj];rfl
theorem Nx (t:List Int) (Bs:List (List Bool)):zd t Bs [bw]=List.replicate (t.length+1) true:=by
 have h1:∀i,i<=t.length+1->(cW t Bs [bw] i).1.ho=List.replicate i true++List.replicate (t.length+1-i) false/\(cW t Bs [bw] i).1.rd=[]/\(cW t Bs [bw] i).1.ad=[i]:=by
  intro i;induction i with
  |zero=>intro _;exact⟨by simp [cW],rfl,rfl⟩
  |succ i ih =>
   intro hi;obtain⟨q1,q2,q3⟩:=ih ae;rw[cW];simp only[q2,jF,List.foldl_nil];rw[kW];have e0:e9 [bw] 0=bw:=rfl;have o0:bw.op=0:=rfl;simp only[q3,e0,o0,if_true];rw[ap ak];refine⟨?_,rfl,rfl⟩;simp only[q1];rw[akI _ _ ak];obtain⟨m,hm⟩:∃m,t.length+1-i=m+1:=⟨t.length-i,ae⟩
   rw[hm];simp only[akK,akQ,ale,aj9];have:t.length+1-(i+1)=m:=ae;rw[this,<- ale,List.replicate_succ',aj7];rfl
 have:=(h1 (t.length+1) (ajZ _)).1;unfold zd;rw[this];simp
theorem JD (t:List Int) (Bs:List (List Bool)) {b:Int} (hb:b=0\/b=1) (neg:Bool) (i:Nat):eS t Bs (jI b neg) i=List.replicate (t.length+1) (!neg):=by have hk:Re.dj (jI b neg).kids (i+1) []++[bw]=[bw]:=rfl;unfold eS;simp only[hk,Pv,Nx,ite_self];rw[List.map_replicate];show List.replicate _ (true != neg)=_;cases neg <;> rfl
theorem L1 (A:List Bool) (look:Bool):pk.cP A look=true:=by unfold pk;rw[Re.cP,ap aU,ap (λh=>absurd h.1 aU),ap (λh=>absurd h.1 aU)];rfl
theorem AJ {b:Int} (hb:b=0\/b=1) (neg:Bool):(jI b neg).op=7\/(jI b neg).op=8:=by show 7+b=7\/7+b=8;omega
section
variable {b:Int} (hb:b=0\/b=1) {re:Re} (hD:re.every ll=true)
include hb hD
theorem PE (two:Bool):(jT re b two).bz 0=if two then [(ew b true,0),(jI b true,1)] else [(jI b false,0)]:=by
 have wF:∀neg k,(jI b neg).bz k=[(jI b neg,k)]:=λneg k=>by rw[Re.xH,be (AJ hb neg)];show (jI b neg,k)::(pk.bz (k+1)++[])=_;rw[show pk.bz (k+1)=[] from rfl];rfl
 have h2:(jT re b two).bz 0=(ew b two).bz 0++(re.bz (0+(ew b two).looks)++[]):=by rw[Re.xH,ap (by show ¬((2:Int)=7\/(2:Int)=8);decide)];rfl
 rw[h2,AZ hD];cases two with
 |false=>rw[show ew b false=jI b false from rfl,wF];rfl
 |true =>
  have:(ew b true).bz 0=(ew b true,0)::((jI b true).bz 1++[]):=by rw[Re.xH,be (.inl rfl)];rfl
  rw[this,wF];rfl
theorem PF (t:List Int) (two:Bool):(aY t ((jT re b two).bz 0) ((jT re b two).bz 0).length).getD 0 []=List.replicate (t.length+1) true:=by
 rw[PE hb hD];cases two with
 |false =>
  show (aY t [(jI b false,0)] 1).getD 0 []=_;show ([eS t _ (jI b false) 0]:List (List Bool)).getD 0 []=_;rw[JD t _ hb];rfl
 |true =>
  show (aY t [(ew b true,0),(jI b true,1)] 2).getD 0 []=_;show ([eS t [[],eS t [[],[]] (jI b true) 1] (ew b true) 0,eS t [[],[]] (jI b true) 1]:List (List Bool)).getD 0 []=_;rw[JD t _ hb];show eS t _ (ew b true) 0=_;have hk:Re.dj (ew b true).kids (0+1) []++[bw]=[gQ (jI b true) 1,bw]:=by show (jI b true).emit 1 []++[bw]=_;have:=AJ hb true;rw[Re.iK,bd,sP];rfl
  have hn:iE t [[],List.replicate (t.length+1) (!true)] [gQ (jI b true) 1,bw]=List.replicate (t.length+1) false:=by refine Sh λp hp=>?_;have:=AJ hb true;unfold aq.pass gQ;simp only;rw[bd,bd];show (List.replicate (t.length+1) false).getD p false=false;rw[List.getD_eq_getElem?_getD,List.getElem?_replicate];split <;> rfl
  unfold eS;simp only[hk];rw[be (show (ew b true).op=7 from rfl),hn,List.map_replicate];rfl
omit hD in
theorem Tk (two:Bool) (k:Nat) (C:List aq):(ew b two).emit k C=C++[gQ (ew b two) k]:=by
 have h:(ew b two).op=7\/(ew b two).op=8:=by
  cases two with
  |true=>exact .inl rfl
  |false=>exact AJ hb false
 rw[Re.iK,bd,sP]
end
section
variable {b:Int} (hb:b=0\/b=1) {p:iM} (hQ:zA p)
include hb hQ
omit hQ in
theorem Db (two:Bool):ja (gl p b two)=[gQ (ew b two) 0]++(p.re.F7 (0+(ew b two).looks) 1++[bw]):=by
 have e:(jT p.re b two).emit 0 []=p.re.emit (0+(ew b two).looks) ((ew b two).emit 0 []):=by rw[Re.iK,ap (by show ¬(2:Int)=1;decide),ap (by show ¬((2:Int)=11\/(2:Int)=7\/(2:Int)=8);decide),be cB];rfl
 unfold ja;show (jT p.re b two).emit 0 []++[bw]=_;rw[e,Tk hb,ye];rfl
theorem TS (two:Bool):MS (fH p) (ja (gl p b two)) 1:=by
 refine UA (Db hb two) rfl ?_ (λi hi=>?_)
 ·have:=DE p.re hQ.D (by have:=hQ.fh;omega) (0+(ew b two).looks) 0 1;rw[akF,this];rfl
 ·rcases List.mem_append.1 hi with hi|hi
  ·exact IX hQ.D _ _ i hi
  ·rw[List.mem_singleton.1 hi];exact GL
theorem RT (two:Bool) (hv:cS (gl p b two)=0):wM (gl p b two)=0:=by
 have hz:=Oz hQ.D (by have:=hQ.fh;omega);have hcz:=hQ.fh;have wF:∀neg A,(jI b neg).cP A false=true:=λneg A=>by have ho:=AJ hb neg;rw[Re.qi,bd,bd,bd];show (pk.cP _ _&&true)=true;rw[L1];rfl
 have adr:∀neg A,(jI b neg).cP A true=true:=λneg A=>by have ho:=AJ hb neg;rw[Re.qi,bd,bd,bd];show (pk.cP _ _&&true)=true;rw[L1];rfl
 have Ov:(ew b two).cP (List.replicate 10 false) false=true:=by
  cases two with
  |false=>exact wF false _
  |true =>
   have ho:(ew b true).op=7:=rfl;rw[Re.qi,bd,bd,bd];show ((jI b true).cP _ _&&true)=true;have:(false||decide ((ew b true).op=7\/(ew b true).op=8))=true:=cB;rw[this,adr];rfl
 have aad:(jT p.re b two).cP (List.replicate 10 false) false=true:=by rw[Re.qi,ap (by show ¬((2:Int)=6\/(2:Int)=10\/(2:Int)=9);decide),ap (by rintro ⟨h,_⟩;exact absurd h (by show ¬(2:Int)=4;decide)),ap (by rintro ⟨h,_⟩;exact absurd h (by show ¬(2:Int)=5;decide))];show ((ew b two).cP (List.replicate 10 false) false&&(p.re.cP (List.replicate 10 false) false&&true))=true;rw[Ov,hQ.kind];rfl
 have pU:iR pk=0:=rfl;have aa9:∀neg,(jI b neg).every Bn=true:=λneg=>by
  refine(Re.aD _).2 ⟨?_,λk hk=>?_⟩
  ·have hk:(jI b neg).kids=[pk]:=rfl;unfold Bn;rw[hk,aks,pU];simp
  ·rw[List.mem_singleton.1 (show k∈[pk] from hk)];rfl
 have abo:∀neg,(jI b neg).eC=1:=λneg=>by have:=AJ hb neg;rw[Re.ox,xU,sP]
 have hpS:(ew b two).every Bn=true:=by
  cases two with
  |false=>exact aa9 false
  |true =>
   refine(Re.aD _).2 ⟨?_,λk hk=>?_⟩
   ·have hk:(ew b true).kids=[jI b true]:=rfl;unfold Bn;rw[hk,aks];unfold iR;rw[abo];rw[Bool.or_eq_true];exact .inr rfl
   ·rw[List.mem_singleton.1 (show k∈[jI b true] from hk)];exact aa9 true
 have oM:(ew b two).eC=1:=by
  cases two with
  |false=>exact abo false
  |true=>rfl
 have hs:mi (jT p.re b two)=true:=by
  have e:(jT p.re b two).eC=1+p.re.eC:=by show (ew b two).eC+(p.re.eC+0)=_;rw[oM];omega
  unfold mi;have h1:(jT p.re b two).every Bn=true:=by
   refine(Re.aD _).2 ⟨rfl,λk hk=>?_⟩;have hk:k∈[ew b two,p.re]:=hk;simp only[akD,List.not_mem_nil,or_false]at hk;rcases hk with rfl|rfl
   ·exact hpS
   ·exact G5 hQ.D
  rw[h1,aj4,decide_eq_true_eq];unfold iR;rw[e];omega
 unfold wM;rw[ap (by rw[hv];simp)];show (if (jT p.re b two).cP (List.replicate 10 false) false=false then (10:Int) else if mi (jT p.re b two)=false then 4 else 0)=0;rw[aad,hs,ap aU,ap aU]
theorem Nd {t:List Int} (two:Bool) (hv:cS (gl p b two)=0) (ht:t.length<=65536) (hs:t.all (gK p.aB)=true):c9 (gl p b two) t=0/\kt (gl p b two) t=(ow (fH p) t).1:=by
 have ha:=Hm (p:=gl p b two) (RT hb hQ two hv) ht hs;refine⟨ha,?_⟩;rw[ri hQ ht];refine J0 ha λi hi=>?_;have hc:=TS hb hQ two;have e:(gl p b two).ai.toNat=(fH p).ai.toNat:=rfl;have hB:=PF hb hQ.D t two;have YB:(aY t ((gl p b two).re.bz 0) ((gl p b two).re.bz 0).length).getD 0 []=List.replicate (t.length+1) true:=hB;generalize aY t ((gl p b two).re.bz 0) ((gl p b two).re.bz 0).length=Bs at *;have h0:e9 (ja (gl p b two)) 0=gQ (ew b two) 0:=by rw[Db hb];rfl
 have hp:(e9 (ja (gl p b two)) 0).pass t Bs i=true:=by
  rw[h0];have ho:(ew b two).op=7\/(ew b two).op=8:=by
   cases two with
   |true=>exact .inl rfl
   |false=>exact AJ hb false
  unfold aq.pass gQ;simp only;rw[bd,bd,YB,List.getD_eq_getElem?_getD,List.getElem?_replicate,sP];rfl
 rw[e,<- Ju hQ.eF hc rfl hi (NH hQ.eF hc i (by rw[h0];rfl) hp),zn (fH p) hQ.eF t i ae]
end
theorem Qm:pk.cells=[iD 0,.sl [],.sl [],iD 0,iD 0,iD 0,iD 0,bD false]:=by rw[Re.ah];rfl
theorem Jh (b:Int) (neg:Bool):(jI b neg).cells=[iD (7+b),.sl [],.sl [[iD 0,.sl [],.sl [],iD 0,iD 0,iD 0,iD 0,bD false]],iD 0,iD 0,iD 0,iD 0,bD neg]:=by rw[Re.ah];show [iD (7+b),.sl [],.sl [pk.cells],iD 0,iD 0,iD 0,iD 0,bD neg]=_;rw[Qm]
theorem JU (re:Re) (b:Int):(jT re b false).cells=[iD 2,.sl [],.sl [[iD (7+b),.sl [],.sl [[iD 0,.sl [],.sl [],iD 0,iD 0,iD 0,iD 0,bD false]],iD 0,iD 0,iD 0,iD 0,bD false],re.cells],iD 0,iD 0,iD 0,iD 0,bD false]:=by rw[Re.ah];show [iD 2,.sl [],.sl [(jI b false).cells,re.cells],iD 0,iD 0,iD 0,iD 0,bD false]=_;rw[Jh]
theorem Lj (re:Re) (b:Int):(jT re b true).cells=[iD 2,.sl [],.sl [[iD 7,.sl [],.sl [[iD (7+b),.sl [],.sl [[iD 0,.sl [],.sl [],iD 0,iD 0,iD 0,iD 0,bD false]],iD 0,iD 0,iD 0,iD 0,bD true]],iD 0,iD 0,iD 0,iD 0,bD true],re.cells],iD 0,iD 0,iD 0,iD 0,bD false]:=by rw[Re.ah];show [iD 2,.sl [],.sl [(ew b true).cells,re.cells],iD 0,iD 0,iD 0,iD 0,bD false]=_;rw[Re.ah (ew b true)];show [iD 2,.sl [],.sl [[iD 7,.sl [],.sl [(jI b true).cells],iD 0,iD 0,iD 0,iD 0,bD true],re.cells],iD 0,iD 0,iD 0,iD 0,bD false]=_;rw[Jh]
theorem Tn:pk.dx=true:=(Re.nY _).2 ⟨alf _,alf _,λk hk=>by cases hk⟩
theorem OW (b:Int) (neg:Bool):(jI b neg).dx=true:=(Re.nY _).2 ⟨alf _,by show 1<=_;omega,λk hk=>by rw[List.mem_singleton.1 (show k∈[pk] from hk)];exact Tn⟩
theorem Hp {re:Re} (h:re.dx=true) (b:Int) (two:Bool):(jT re b two).dx=true:=by
 refine(Re.nY _).2 ⟨alf _,by show 2<=_;omega,λk hk=>?_⟩;have hk:k∈[ew b two,re]:=hk;simp only[akD,List.not_mem_nil,or_false]at hk;rcases hk with rfl|rfl
 ·cases two with
  |false=>exact OW b false
  |true=>exact(Re.nY _).2 ⟨alf _,by show 1<=_;omega,λk hk=>by rw[List.mem_singleton.1 (show k∈[jI b true] from hk)];exact OW b true⟩
 ·exact h
theorem Ds (l:List Int) (hl:∀x∈l,l9 x) (m:List Int) (hm:∀x∈m,l9 x) (n:Int) (hn:l9 n) :
  aM Tryz.prog 5 [.d (ao l),.d (ao m),i64 n] (bV true):=by
 obtain⟨p,t,Cb,hP,gV⟩:=Lb l m hl hm false;obtain⟨hsy,L,ZG,hL2,hE,_,_,Ts,IK⟩:=AK hP gV;have hQ:=zL hP gV;have Kb:=hP.len;have ha2:=zT n 2 ae hn;have BP:=H6 n 2 ae hn;have ha3:=zT n 3 ae hn;have w7:IntKind.i64.wrap (7+m8 n 2)=7+m8 n 2:=bG _ ae;obtain⟨b,hb⟩:∃b,m8 n 2=b:=⟨_,rfl⟩
 rw[hb]at ha2 BP w7;have afv:b=0\/b=1:=ae;have TU:=λtwo hv=>Nd (t:=t) afv hQ two hv ae hsy;have Xq:=λtwo=>y7 (gl p b two) t (Hp hP.dx b two) ae;have hva:=λtwo=>DK (gl p b two) (Hp hP.dx b two);have kT:∀two,cS (gl p b two)≠0->kt (gl p b two) t=[]/\c9 (gl p b two) t=cS (gl p b two):=λtwo h=>by
  have ha:wM (gl p b two)=cS (gl p b two):=by unfold wM;rw[be h]
  have hs:c9 (gl p b two) t=cS (gl p b two):=by unfold c9;rw[ha,be h]
  refine⟨?_,hs⟩;unfold kt;rw[hs,be h]
 have heq:=vR L ZG hL2;have Gi:=F8;rw[hE]at TU;clear hP hE hQ ZG hL2 hb;generalize fH p=g at *;obtain⟨two,abc⟩:∃two:Bool,two=decide (m8 n 3=0):=⟨_,rfl⟩
 have TU:=TU two;have Xq:=Xq two;have hva:=hva two;have kT:=kT two;generalize kt (gl p b two) t=X at *;generalize c9 (gl p b two) t=E at *;generalize hv:cS (gl p b two)=v at *;simp only[bI,Re.ah p.re,ajR,ajV,ajN,ajO,aQ,i64,iD,bD,bV]at Cb Ts IK heq Gi ha2 ha3;have h3:=abc.symm;have hE:(v=0->E=0/\X=L)/\(v≠0->X=[]/\E=v):=⟨λh=>by obtain⟨a,c⟩:=TU h;exact⟨a,c⟩,kT⟩
 clear TU kT gV abc;have hvv:decide (v=v)=true:=bi rfl;cases two <;> simp only[bI,DZ,gl,JU,Lj,Re.ah p.re,ajR,ajV,ajN,ajO,i64,iD,bD,bV]at Xq hva;all_goals
  refine bo Tryz.func5 Tryz.ntmps5 Tryz.results5 0 131015 ?_;simp only[zQ,simprocAttr,ao];refine dY Cb ?_;simp only[zQ,simprocAttr,ao];refine dY Ts ?_;simp only[zQ,simprocAttr,ao];refine dY ha2 ?_;simp only[zQ,simprocAttr,ao,w7];refine dY ha3 ?_;simp only[zQ,simprocAttr,ao,h3];refine dY IK ?_;simp only[zQ,simprocAttr,ao];refine jG _ rfl (dY Xq ?_);simp only[zQ,simprocAttr,ao];refine jG _ rfl (dY hva ?_);by_cases W8:v=0
  ·obtain⟨e1,e2⟩:=hE.1 W8;subst W8 e1 e2;simp only[zQ,simprocAttr,ao,ne_eq,not_true_eq_false];refine dY heq ?_;simp only[zQ,simprocAttr,ao];refine dY Gi ?_;simp only[zQ,simprocAttr,ao]
  ·obtain⟨e1,e2⟩:=hE.2 W8;subst e1 e2;simp only[zQ,simprocAttr,ao,ne_eq,W8,not_false_eq_true];refine jG _ rfl (dY hva ?_);simp only[zQ,simprocAttr,ao,hvv];refine dY Gi ?_;simp only[zQ,simprocAttr,ao]
end Go.Proofs.YtjjfioalgbecmaaGreat
