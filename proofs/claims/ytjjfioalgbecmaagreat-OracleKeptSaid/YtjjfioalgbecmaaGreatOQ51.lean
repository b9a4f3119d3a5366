/- A part of the proof (O82 E52 K70 K71 K72 K73). -/
import Derived.Test.YtjjfioalgbecmaaGreatOQ50
set_option linter.unusedSimpArgs false
set_option linter.unusedVariables false
open Nat renaming reduceShiftRight → jN, reduceMod → oN, reduceEqDiff → oV, reduceBEq → pZ
open Int renaming reduceNatCast' → D7
set_option maxRecDepth 100000
set_option maxHeartbeats 80000000
namespace Go.Proofs.YtjjfioalgbecmaaGreat
open Go.VL Go.Proofs.Tryz
variable{re:Re}{p:iM}{t:List Int}{g:dk}{C:List aq}{Bs:List (List Bool)}{K:V->List VL.Obj->Prop}{tl:List VL.Obj}
theorem PZ {l:List Bool}{n q:Nat}{b:Bool} (h:n≠q):(l.set n b).getD q false=l.getD q false:=by rw[List.getD_eq_getElem?_getD,List.getD_eq_getElem?_getD,List.getElem?_set_ne h]
theorem QP (re:Re):re.every Aa=true->re.every oO=true->∀(A:List Bool) (a:List Int),(∀n:Int,1<=n->n<=9->A.getD n.toNat false=true->n∈a)->re.comp a=true->re.cP A false=true:=by
 refine Re.ind (Q:=λre=>re.every Aa=true->re.every oO=true->∀(A:List Bool) (a:List Int),(∀n:Int,1<=n->n<=9->A.getD n.toNat false=true->n∈a)->re.comp a=true->re.cP A false=true) (λre ih hv ho A a hA hc=>?_) re;obtain⟨v1,v2⟩:=(Re.aD re).1 hv;obtain⟨o1,o2⟩:=(Re.aD re).1 ho;obtain⟨q1,q2,q3,q4,q5,q6,q7,q8,q9,jc,mX,B8,q13,q14,q15⟩:=lN.1 o1;rw[Re.nz]at hc;by_cases c1:re.op=4/\(re.mode=2\/Re.mZ re.kids=true)
 ·rw[be c1]at hc;cases hc
 rw[ap c1]at hc;by_cases c2:re.op=5/\re.n∈a
 ·rw[be c2]at hc;cases hc
 rw[ap c2]at hc;by_cases c3:5<re.op/\re.op≠11
 ·rw[be c3]at hc;cases hc
 rw[ap c3,aj3]at hc;have ae9:Re.KO re.kids=Re.mZ re.kids:=by
  cases hk:re.kids with
  |nil=>rfl
  |cons k l =>
   show k.fK=k.sK;exact KT k (v2 k (by rw[hk];simp))
 rw[Re.qi,bd,ap (by rw[ae9];exact c1),ap,aj3]
 ·intro k hk;rw[ce ae,akw];refine ih k hk (v2 k hk) (o2 k hk) _ _ (λn n0 n1 hn=>?_) (hc k hk);by_cases o5:re.op=5
  ·rw[be o5]at hn ⊢;by_cases e:n=re.n
   ·rw[e];simp
   ·rw[PZ (by have:=mX o5;omega)]at hn;exact List.mem_append_left _ (hA n n0 n1 hn)
  ·rw[ap o5]at hn ⊢;exact hA n n0 n1 hn
 ·rintro ⟨o5,h|h⟩
  ·cases h
  ·exact c2 ⟨o5,hA _ (mX o5) jc h⟩
theorem Oz (hD:re.every ll=true) (hz:re.fh<=9000):(re.eC:Int)=re.fh:=by have h1:=congrArg List.length (DE re hD hz 0 0 0);rw[ajM,Re.yx]at h1;have h2:=kd re hD hz ((0:Nat):Int);omega
theorem yU (h:ll re=true):re.op≠7/\re.op≠8:=by obtain⟨_,h,_⟩:=gY.1 h;omega
theorem I1 (re:Re):re.every ll=true->re.looks=0:=by
 refine Re.ind (Q:=λre=>re.every ll=true->re.looks=0) (λre ih h=>?_) re;obtain⟨h1,h2⟩:=(Re.aD re).1 h;have ho:=yU h1;rw[Re.jZ,bd,ajT];have:∀l:List Re,(∀x∈l,x.looks=0)->Re.ba l=0:=by
  intro l;induction l with
  |nil=>intro _;rfl
  |cons x l CG=>intro hm;rw[Re.ba,hm x ak,CG λy hy=>hm y (by simp [hy])]
 exact this _ λx hx=>ih x hx (h2 x hx)
theorem AZ (h:re.every ll=true) (k:Nat):re.bz k=[]:=by have:=Re.uT re k;rw[I1 re h]at this;exact List.length_eq_zero_iff.1 this
theorem G5 (h:re.every ll=true):re.every Bn=true:=iq (λr h=>by
 have ho:=yU h;unfold Bn Re.oA;rw[ce ae];rfl) re h
structure zA (p:iM):Prop where
 D:p.re.every ll=true
 fh:p.re.fh<=4000
 kind:p.re.cP (List.replicate 10 false) false=true
 eF:(fH p).eF
 prg:m9 (fH p)=0
theorem zL (h:y3 p t) (hc:p.re.comp []=true):zA p:=by obtain⟨v1,v2,v3,v4,v5⟩:=ed h.valid;have hz:=h.fh;refine⟨Iv v4 p.re v5 ae [] hc,hz,QP p.re (GA v5) (qu v4 p.re v5 v1) _ [] (λn _ _ hn=>?_) hc,MT h hc,AN p h.valid hc ae⟩;rw[List.getD_eq_getElem?_getD,List.getElem?_replicate]at hn;split at hn <;> simp at hn
theorem P7 (hv:cS p=0) (h:zA p):wM p=0:=by
 have hz:=Oz h.D (by have:=h.fh;omega);have hs:mi p.re=true:=by unfold mi iR;rw[G5 h.D,aj4,decide_eq_true_eq];have:=h.fh;omega
 unfold wM;rw[ap (by rw[hv];simp),h.kind,hs,ap aU,ap aU]
theorem UA{pre X:List aq}{d:Nat} (hC:C=pre++X) (hd:pre.length=d) (hX:X.map (aq.era d)=g.ins) (hT:∀i∈X,i.Bt):MS g C d:=by
 have hl:X.length=g.ins.length:=by rw[<- hX,ajM]
 have dO:∀n:Nat,n<g.ins.length->∃i,X[n]?=some i/\e9 C (d+n)=i:=λn hn=>by refine⟨X[n]' ae,List.getElem?_eq_getElem ae,?_⟩;unfold e9;rw[hC,List.getD_eq_getElem?_getD,List.getElem?_append_right ae,show d+n-pre.length=n by omega,List.getElem?_eq_getElem ae];rfl
 refine⟨by rw[hC,ajQ];omega,λn hn=>?_,λn hn=>?_⟩
 ·obtain⟨i,h1,h2⟩:=dO n hn;rw[h2];unfold bu;rw[ajP,List.getD_eq_getElem?_getD,<- hX,List.getElem?_map,h1];rfl
 ·obtain⟨i,h1,h2⟩:=dO n hn;rw[h2];exact hT i (List.mem_of_getElem? h1)
theorem IX (h:re.every ll=true) (k f:Nat):∀i∈re.F7 k f,i.Bt:=by
 have hP:uI aq.Bt (λre=>decide (re.op≠7/\re.op≠8)):=by
  refine⟨λi x y h=>h,λx y=>⟨λh=>by simp [cR]at h,λh=>by simp [cR]at h,λh=>by simp [cR]at h⟩,λx=>⟨λh=>by simp [iT]at h,λh=>by simp [iT]at h,λh=>by simp [iT]at h⟩,λre k _ o=>⟨λ_=>⟨re,k,rfl,o⟩,λh=>by simp [qC]at h,λh=>by simp [qC]at h⟩,
   λre k hn o=>⟨λh=>by simp [gQ]at h,λh=>by simp [gQ]at h,λ_=>⟨re,k,rfl,by have:=of_decide_eq_true hn;omega⟩⟩,λre _ _=>⟨⟨λh=>by simp [gy]at h,λ_=>rfl,λh=>by simp [gy]at h⟩,⟨λh=>by simp [gy]at h,λ_=>rfl,λh=>by simp [gy]at h⟩⟩⟩
 have hs:re.every (λre=>decide (re.op≠7/\re.op≠8))=true:=iq (λr h=>bi (yU h)) re h;have ha:=Ho hP re hs k (List.replicate f (cR 0 0)) (λi hi=>by rw[List.eq_of_mem_replicate hi];exact hP.spl 0 0);rw[ye]at ha;rw[akK]at ha;exact λi hi=>ha i (List.mem_append_right _ hi)
theorem GL:bw.Bt:=⟨λh=>by simp [bw]at h,λh=>by simp [bw]at h,λh=>by simp [bw]at h⟩
theorem Q5 (h:zA p):MS (fH p) (ja p) 0:=by
 refine UA (pre:=[]) (X:=p.re.F7 0 0++[bw]) ?_ rfl ?_ (λi hi=>?_)
 ·unfold ja;rw[ye];rfl
 ·have:=DE p.re h.D (by have:=h.fh;omega) 0 0 0;rw[akF,this];rfl
 ·rcases List.mem_append.1 hi with hi|hi
  ·exact IX h.D 0 0 i hi
  ·rw[List.mem_singleton.1 hi];exact GL
theorem K3 (h:0<=g.ai):lI g.ai.toNat=fi g:=by unfold lI fi;congr 1;omega
theorem KC{d:Nat} (hc:MS g C d) (bZ:Int) (ad:List Nat) (hl:ad.length=C.length) (h0:∀n,n<g.ins.length->ad.getD (d+n) 0=0):qJ g C d bZ (bh g) ⟨ad,false,[],0⟩:=by
 have By:(bh g).list=[]:=by simp [dK.list,bh]
 refine⟨rfl,hl,λn hn=>?_,by rw[By];rfl,(λx hx=>by rw[By]at hx;cases hx),(λh=>by cases h),λ_ x hx=>by rw[By]at hx;cases hx⟩;show (List.replicate g.ins.length (0:Int)).getD n 0=(ad.getD (d+n) 0:Int)
 rw[h0 n hn,List.getD_eq_getElem?_getD,List.getElem?_replicate,be hn];rfl
theorem Gz (g:dk) (i:Int):zl i (bh g).marks<=g.ins.length:=by
 have:=nf i (bh g).marks;have h2:(bh g).marks.length=g.ins.length:=by simp [bh]
 omega
theorem FU (g:dk):(bh g).ok g:=⟨by simp [bh],alf _⟩
theorem Ka (hg:g.eF) (hc:MS g C 0) (i:Nat):qJ g C 0 i (gI g t i i (qb g) 0 (fi g) (bh g)) (mJ t Bs C i g.ai.toNat):=by
 have pU:=hg.BA;have hu:=Gz g i;have hlen:=hc.len;unfold mJ;rw[K3 hg.Jd];exact tB hg hc i (qb g) (C.length+1) 0 (fi g) (bh g) _ (FU g) ae (by unfold qb;omega) ae (KC hc i _ ak (λn hn=>by
  rw[List.getD_eq_getElem?_getD,List.getElem?_replicate,sP];rfl))
theorem NH (hg:g.eF) (hc:MS g C 1) (i:Nat) (h5:(e9 C 0).op=5) (hp:(e9 C 0).pass t Bs i=true):qJ g C 1 i (gI g t i i (qb g) 0 (fi g) (bh g)) (mJ t Bs C i g.ai.toNat):=by
 have pU:=hg.BA;have hu:=Gz g i;have hlen:=hc.len;have dO:(List.replicate C.length 0)[0]?=some 0:=by rw[List.getElem?_replicate,sP]
 unfold mJ;rw[K3 hg.Jd,gU,dO];have hn:¬((false:Bool)=true\/some 0=none\/some 0=some (i+1)):=by
  rintro (h|h|h)
  ·cases h
  ·cases h
  ·cases h
 simp only;rw[ap hn,bd,bd,bd,bd,be h5,be hp];exact tB hg hc i (qb g) C.length 0 (fi g) (bh g) _ (FU g) ae (by unfold qb;omega) ae (KC hc i _ ak (λn hn=>by
  rw[List.getD_eq_getElem?_getD,List.getElem?_set_ne ae,List.getElem?_replicate,sP];rfl))
theorem J0{q:iM} (hs:c9 q t=0) (h:∀i:Nat,i<=t.length->(fL t (aY t (q.re.bz 0) (q.re.bz 0).length) (ja q) i q.ai.toNat).1=SP g t i):kt q t=sG g t (t.length+1):=by
 unfold kt;rw[ap (by rw[hs];simp)];generalize aY t (q.re.bz 0) (q.re.bz 0).length=Bs at *;have:∀n,n<=t.length+1->gW t Bs (ja q) q.ai.toNat n=sG g t n:=by
  intro n;induction n with
  |zero=>intro _;rfl
  |succ n ih =>
   intro hn;rw[AT,zN,ih ae,h n ae];rfl
 exact this _ (ajZ _)
theorem ri (h:zA p) (ht:t.length<=65536):ow (fH p) t=(sG (fH p) t (t.length+1),0):=by
 have:Nq (fH p) t 0=0:=by unfold Nq;rw[ap (by rw[h.prg];simp),bd,bd]
 unfold ow;rw[be this]
theorem Hm (ha:wM p=0) (ht:t.length<=65536) (hs:t.all (gK p.aB)=true):c9 p t=0:=by unfold c9;rw[ap (by rw[ha];simp),bd,ap (by rw[hs];simp)]
theorem K5 (hv:cS p=0) (h:zA p) (ht:t.length<=65536) (hs:t.all (gK p.aB)=true):c9 p t=0/\kt p t=(ow (fH p) t).1:=by have ha:=Hm (P7 hv h) ht hs;refine⟨ha,?_⟩;rw[ri h ht];refine J0 ha λi hi=>?_;have hc:=Q5 h;have e:p.ai.toNat=(fH p).ai.toNat:=rfl;rw[e,<- Ju h.eF hc rfl hi (Ka h.eF hc i),zn (fH p) h.eF t i ae]
theorem vR (L:List jy) (hL:L.length<=1000000000) (hc:∀m∈L,m.c.length<=1000000000):aM prog 18 [.d (.sl (L.map WC)),.d (.sl (L.map WC))] (bV true):=by
 refine bo func18 ntmps18 results18 0 51 ?_;simp only[zI,simprocAttr,bV,iD,ajM,ne_eq,not_true_eq_false];refine aw (λn e s=>∃i:Nat,n=L.length-i/\i<=L.length/\e 0=.d (.sl (L.map WC))/\e 1=.d (.sl (L.map WC))/\e 5=i64 i/\s=[])
  ⟨_,_,_,bA.refl,0,rfl,ae,rfl,rfl,rfl,rfl⟩ ?_
 rintro n e s ⟨i,rfl,hi,h0,h1,h5,rfl⟩;rcases akd i L.length with az|gx
 ·obtain⟨x,hx⟩:∃x,L[i]?=some x:=cc az;have aA:(i:Int)<L.length:=ae;have l0:(0:Int)<=(i:Int):=ae;have heq:=SF x x (hc x (List.mem_of_getElem? hx));simp only[decide_true,jy.v,i64,bV]at heq;simp only[zI,simprocAttr,bV,iD,h0,h1,h5,ajM,aA];refine cu mix [] [] ?_;simp only[zI,simprocAttr,bV,iD,h0,h1,h5,ajM,aA,az,l0,ajP,hx,WC];refine Fk heq ?_;simp only[zI,simprocAttr,bV,iD,h0,h1,h5,ajM,aj0];refine⟨L.length-(i+1),_,_,ae,bA.refl,i+1,rfl,az,?_,?_,?_,rfl⟩ <;> (try simp only[zU,pZ,jN,oN,oV,reduceIte])
  ·exact h0
  ·exact h1
  ·rw[bG _ ae];rfl
 ·have dX:i=L.length:=by omega
  subst dX;have aA:¬(L.length:Int)<L.length:=ae;simp only[zI,simprocAttr,bV,iD,h0,h1,h5,ajM,aA]
def Bw (x:Int):List Int->Int->Int
 |[],_=>-1
 |y::l,i=>if x=y then i else Bw x l (i+1)
theorem OH (x:Int):∀(l:List Int) (i:Int),0<=i->(decide (0<=Bw x l i)=decide (x∈l))/\-1<=Bw x l i/\Bw x l i<=i+l.length
 |[],i,h=>by simp [Bw];omega
 |y::l,i,h=>by
  obtain⟨h1,h2,h3⟩:=OH x l (i+1) ae;rw[Bw];by_cases c:x=y
  ·rw[be c,bi h,bi (by rw[c];simp)];refine⟨rfl,ae,?_⟩;simp only[ajW,akC];omega
  ·rw[ap c,h1];refine⟨by simp [c],h2,?_⟩;simp only[ajW,akC];omega
theorem SY (l:List Int) (x:Int) (hl:l.length<=1000000000):aM prog 105 [.d (ao l),i64 x] (i64 (Bw x l 0)):=by
 obtain⟨R,hR⟩:∃R,R=Bw x l 0:=⟨_,rfl⟩
 rw[<- hR];refine bo func105 ntmps105 results105 0 435 ?_;simp only[zI,simprocAttr,iD,ao,ajM];refine aw (λn e s=>∃i:Nat,n=l.length-i/\i<=l.length/\e 0=.d (ao l)/\e 1=i64 x/\e 7=i64 l.length/\e 8=i64 i/\R=Bw x (l.drop i) i/\s=[])
  ⟨_,_,_,bA.refl,0,rfl,ae,rfl,rfl,rfl,rfl,hR,rfl⟩ ?_
 clear hR;rintro n e s ⟨i,rfl,hi,h0,h1,h7,h8,hR,rfl⟩;rcases akd i l.length with az|gx
 ·have aA:(i:Int)<(l.length:Int):=by omega
  have hi0:(0:Int)<=(i:Int):=ae;have hx:l[i]?=some l[i]:=List.getElem?_eq_getElem az;rw[alc az,Bw]at hR;generalize l[i]=y at *;by_cases c:x=y
  ·rw[be c]at hR;subst hR;simp only[zI,simprocAttr,iD,ao,h0,h1,h7,h8,aA,hi0,ajP,az,hx,ajM,c]
  ·rw[ap c]at hR;simp only[zI,simprocAttr,iD,ao,h0,h1,h7,h8,aA,hi0,ajP,az,hx,ajM,c];refine⟨l.length-(i+1),_,_,ae,bA.refl,i+1,rfl,az,?_,?_,?_,?_,?_,rfl⟩ <;> (try simp only[zU,pZ,jN,oN,oV,reduceIte])
   ·exact h0
   ·exact h1
   ·exact h7
   ·rw[bG _ ae];rfl
   ·rw[hR];congr 1
 ·have dX:i=l.length:=by omega
  subst dX;rw[List.drop_length,Bw]at hR;subst hR;simp only[zI,simprocAttr,iD,ao,h0,h1,h7,h8,aku,ajM]
theorem Ie (l:List Int) (x:Int) (hl:l.length<=1000000000):aM prog 77 [.d (ao l),i64 x] (bV (decide (x∈l))):=by have h:=SY l x hl;obtain⟨h1,_,_⟩:=OH x l 0 (akc _);rw[<- h1];generalize Bw x l 0=R at *;simp only[i64,ao]at h;refine bo func77 ntmps77 results77 0 19 ?_;simp only[zI,simprocAttr,iD,bV,ao];refine dY h ?_;simp only[zI,simprocAttr,iD,bV,ao,ge_iff_le]
def dL (g:Nat) (E:List Int):VL.Obj:=⟨g,true,1,E.map λx=>[i64 x]⟩
theorem vp (n g:Nat) (E:List Int):aK n (dL g E)=true:=by unfold aK dL;rw[aj3];intro e he;obtain⟨x,_,rfl⟩:=List.mem_map.1 he;rfl
theorem JN (ρ:List Nat) (g:Nat) (E:List Int):aN ρ (dL g E)=dL g E:=by unfold aN dL;simp only[akq];congr 1
theorem V7 {L E:List Int} (h:L <+: E):E.take L.length=L:=by obtain⟨r,rfl⟩:=h;simp
def vG (L:List Int) (re:Re):List Int:=if re.op=5 then L++[re.n] else L
theorem TG (re:Re) (L:List Int) (hv:re.every Aa=true):re.comp L=if re.op=4/\(re.mode=2\/(re.kids.headD re).fK=true) then false
  else if re.op=5/\re.n∈L then false
  else if 5<re.op/\re.op≠11 then false
  else re.kids.all λk=>k.comp (vG L re):=by
 rw[Re.nz];obtain⟨h1,h2⟩:=(Re.aD re).1 hv;cases hk:re.kids with
 |nil =>
  by_cases h4:re.op=4
  ·exfalso;unfold Aa at h1;simp [h4,hk]at h1
  ·have e1:¬(re.op=4/\(re.mode=2\/Re.mZ ([]:List Re)=true)):=λh=>h4 h.1;have e2:¬(re.op=4/\(re.mode=2\/(([]:List Re).headD re).fK=true)):=λh=>h4 h.1;rw[ap e1,ap e2];rfl
 |cons k l =>
  have e:Re.mZ (k::l)=k.fK:=by rw[KT k (h2 k (by rw[hk];simp))];simp [Re.mZ]
  rw[e];rfl
def abh (re:Re) (L:List Int) (g:Nat) (e:VL.Env) (s:List VL.Obj):Prop :=
 e 0=.d (.el re.cells)/\re.comp L=(re.kids.all λk=>k.comp (vG L re))/\((∃E,e 1=.so 0 g 0 (vG L re).length/\s=[dL g E]/\vG L re <+: E) \/
  (∃E0 E1,e 1=.so 1 0 0 (vG L re).length/\s=[dL g E0,dL 0 E1]/\L <+: E0/\vG L re <+: E1))
theorem Fi (re:Re):re.every Aa=true->re.dx=true->∀(L E:List Int) (g:Nat),L <+: E->L.length+re.size<=1000000 ->
  ar prog 38 [.d (.el re.cells),.so 0 g 0 L.length] [dL g E] λv s=>v=bV (re.comp L)/\∃E',s=[dL g E']/\L <+: E':=by
 refine Re.ind (Q:=λre=>re.every Aa=true->re.dx=true->∀(L E:List Int) (g:Nat),L <+: E->L.length+re.size<=1000000 ->
  ar prog 38 [.d (.el re.cells),.so 0 g 0 L.length] [dL g E] λv s=>v=bV (re.comp L)/\∃E',s=[dL g E']/\L <+: E') (λre ih hv hf L E g UI eZ=>?_) re
 obtain⟨si,hlen,Ew⟩:=Re.fP hf;obtain⟨ZP,hvk⟩:=(Re.aD re).1 hv;have gV:=TG re L hv;have hLE:L.length<=E.length:=UI.length_le;have Ib:=V7 UI;refine XU func38 rfl ntmps38 results38 rfl 1 6755399441057331 [14] ak ak ?_;rw[za];simp only[zX,simprocAttr,-D7,rL,akr,akt,akw,ajY,if_false,if_true,i64,bV];refine QI (abh re L g) ?_ ?_
 ·intro B hB;have Ca:((dL g E).au.all λe=>e.all (aj 1))=true:=vp 1 g E;have vA:∀(op:Int),re.op=op->op≠5->vG L re=L:=λop h h5=>ap ae;have P4:re.comp L=false->(((dL g E).au.all λe=>e.all (aj 1))=true/\V.d (D.sc (.bool false))=bV (re.comp L)/\∃E',[dL g E]=[dL g E']/\L <+: E'):=λh=>⟨Ca,by rw[h];rfl,E,rfl,UI⟩
  by_cases o4:re.op=4
  ·obtain⟨k,hk⟩:∃k,re.kids=[k]:=by have h4:=(of_decide_eq_true ZP).2.2.1 o4;exact List.length_eq_one_iff.1 h4.1
   by_cases m2:re.mode=2
   ·rw[be ⟨o4,.inl m2⟩]at gV;rw[gV];simp only[zX,simprocAttr,-D7,E6,akr,akt,akw,ajY,if_false,if_true,i64,bV,iD,bD,Re.ah re,o4,m2];exact⟨Ca,E,rfl,UI⟩
   ·have AV:=AI k (Ew k (by rw[hk];simp));simp only[av,i64,bV,iD,bD]at AV;cases hn:k.fK with
    |true =>
     rw[be ⟨o4,.inr (by rw[hk];exact hn)⟩]at gV;rw[gV];simp only[zX,simprocAttr,-D7,E6,akr,akt,akw,ajY,if_false,if_true,i64,bV,iD,bD,Re.ah re,o4,m2,hk,Re.ah k,ajR,ajV];refine⟨aU,dY AV ?_⟩;simp only[zX,simprocAttr,-D7,E6,akr,akt,akw,ajY,if_false,if_true,i64,bV,iD,bD,hn];exact⟨Ca,E,rfl,UI⟩
    |false =>
     have hJ:vG L re=L:=vA 4 o4 aU;simp only[zX,simprocAttr,-D7,E6,akr,akt,akw,ajY,if_false,if_true,i64,bV,iD,bD,Re.ah re,o4,m2,hk,Re.ah k,ajR,ajV];refine⟨aU,dY AV ?_⟩;simp only[zX,simprocAttr,-D7,E6,akr,akt,akw,ajY,if_false,if_true,i64,bV,iD,bD,hn];refine hB _ _ ⟨?_,?_,.inl ⟨E,?_,rfl,?_⟩⟩
     ·rw[Re.ah re,o4,hk,ajR,ajV,Re.ah k];rfl
     ·rw[gV,ap (by rintro ⟨_,h|h⟩;exact m2 h;rw[hk]at h;rw[show ([k]:List Re).headD re=k from rfl,hn]at h;cases h),ap (λh=>ae),bd]
     ·first|rfl|(rw[hJ];rfl)
     ·rw[hJ];exact UI
  ·by_cases o5:re.op=5
   ·have hJ:vG L re=L++[re.n]:=be o5;have hct:=Ie L re.n ae;have hfz:bc.go (br [dL g E] [0]).length (br [dL g E] [0]) [.so 0 g 0 L.length,i64 re.n]=some [.d (ao L),i64 re.n]:=by have h1:bc 1 [⟨g,false,1,E.map λx=>[i64 x]⟩] (.so 0 g 0 L.length)=some (.d (ao L)):=lh (live:=false) rfl (by rw[akJ,<- List.map_take,Ib,akq];rfl) (by rw[ajM];omega) (.inr rfl);show bc.go 1 [⟨g,false,1,E.map λx=>[i64 x]⟩] [.so 0 g 0 L.length,i64 re.n]=_;simp only[bc.go,h1];rfl
    simp only[bV]at hct;by_cases hc:re.n∈L
    ·rw[ap (λh=>o4 h.1),be ⟨o5,hc⟩]at gV;rw[gV];simp only[zX,simprocAttr,-D7,E6,akr,akt,akw,ajY,if_false,if_true,i64,bV,iD,bD,Re.ah re,o5];refine zR [0] hct hfz rfl ?_;simp only[zX,simprocAttr,-D7,E6,akr,akt,akw,ajY,if_false,if_true,i64,bV,iD,bD,bi hc];exact⟨Ca,E,rfl,UI⟩
    ·simp only[zX,simprocAttr,-D7,E6,akr,akt,akw,ajY,if_false,if_true,i64,bV,iD,bD,Re.ah re,o5];refine zR [0] hct hfz rfl ?_;simp only[zX,simprocAttr,-D7,E6,akr,akt,akw,ajY,if_false,if_true,i64,bV,iD,bD,ce hc,qm];have ia:re.comp L=(re.kids.all λk=>k.comp (vG L re)):=by rw[gV,ap (λh=>o4 h.1),ap (λh=>hc h.2),bd]
     refine⟨λe he=>by rw[List.mem_singleton.1 he];rfl,rfl,⟨rfl,rfl,?_,ae⟩,?_,?_⟩
     ·show 0+L.length<=(E.map λx=>[i64 x]).length;rw[ajM];omega
     ·refine hB _ _ ⟨?_,ia,.inl ⟨E.take L.length++[re.n]++E.drop (L.length+1),?_,?_,?_⟩⟩
      ·rw[Re.ah re,o5];rfl
      ·rw[hJ,ajQ];rfl
      ·simp [dL,i64]
      ·rw[hJ,Ib];exact⟨_,rfl⟩
     ·refine hB _ _ ⟨?_,ia,.inr ⟨E,L++[re.n],?_,?_,UI,by rw[hJ];exact List.prefix_refl _⟩⟩
      ·rw[Re.ah re,o5];rfl
      ·rw[hJ,ajQ];rfl
      ·have:List.take L.length (dL g E).au=L.map λx=>[i64 x]:=by show List.take L.length (E.map λx=>[i64 x])=_;rw[<- List.map_take,Ib]
       rw[this];simp [dL,i64]
   ·by_cases oc:5<re.op/\re.op≠11
    ·rw[ap (λh=>o4 h.1),ap (λh=>o5 h.1),be oc]at gV;rw[gV];have n0:¬re.op=0:=ae;have n1:¬re.op=1:=ae;have n11:¬re.op=11:=ae;have n2:¬re.op=2:=ae;have n3:¬re.op=3:=ae;simp only[zX,simprocAttr,-D7,E6,akr,akt,akw,ajY,if_false,if_true,i64,bV,iD,bD,Re.ah re,n0,n1,n11,n2,n3,o4,o5];exact⟨Ca,E,rfl,UI⟩
    ·have hJ:vG L re=L:=ap o5;have h0:=(of_decide_eq_true ZP).1;have ho:re.op=0\/re.op=1\/re.op=11\/re.op=2\/re.op=3:=ae;rcases ho with ho|ho|ho|ho|ho;all_goals
      simp only[zX,simprocAttr,-D7,E6,akr,akt,akw,ajY,if_false,if_true,i64,bV,iD,bD,Re.ah re,ho];refine hB _ _ ⟨?_,?_,.inl ⟨E,?_,rfl,?_⟩⟩
      ·rw[Re.ah re,ho];rfl
      ·rw[gV,ap (λh=>o4 h.1),ap (λh=>o5 h.1),ap oc]
      ·first|rfl|(rw[hJ];rfl)
      ·rw[hJ];exact UI
 ·have hAs:(vG L re).length<=L.length+1:=by unfold vG;split <;> simp
  have hLA:L <+: vG L re:=by unfold vG;split;exact List.prefix_append _ _;exact List.prefix_refl _
  have Ec:=Re.pR re.kids;unfold abh;generalize vG L re=A at *;rintro e s ⟨h0,ia,⟨E,h1,rfl,hA⟩|⟨E0,E,h1,rfl,hL0,hA⟩⟩
  case inl =>
   simp only[zX,simprocAttr,-D7,E6,akr,akt,akw,ajY,if_false,if_true,i64,bV,iD,bD,h0,h1,Re.ah re,ajM];refine DR (λn e s=>∃(i:Nat) (E:List Int),n=re.kids.length-i/\i<=re.kids.length/\e 0=.d (.el re.cells)/\e 1=.so 0 g 0 A.length/\e 51=i64 re.kids.length/\e 52=i64 i/\(∀k∈re.kids.take i,k.comp A=true)/\A <+: E/\s=[dL g E])
    ⟨_,_,_,bA.refl,0,E,rfl,ae,h0,h1,rfl,rfl,ak,hA,rfl⟩ ?_
   clear hA;rintro n e s ⟨i,E,rfl,hi,h0,h1,Pj,WH,bX,hA,rfl⟩;rcases akd i re.kids.length with az|gx
   ·obtain⟨k,hk⟩:∃k,re.kids[i]?=some k:=cc az;have hm:=List.mem_of_getElem? hk;have aA:(i:Int)<(re.kids.length:Int):=ae;have hi0:(0:Int)<=(i:Int):=ae;simp only[zX,simprocAttr,-D7,E6,akr,akt,akw,ajY,if_false,if_true,i64,bV,iD,bD,h0,h1,Pj,WH,Re.ah re,aA,hi0,az,ajP,hk,ajM];refine an (ih k hm (hvk k hm) (Ew k hm) A E g hA (by have:=Re.de hm;omega)) (λv s' hv=>?_);obtain⟨rfl,E',rfl,hA'⟩:=hv;cases fm:k.comp A with
    |false =>
     have hr:re.comp L=false:=by rw[ia,akE];intro h;rw[aj3]at h;have:=h k hm;rw[fm]at this;cases this
     rw[hr];simp only[zX,simprocAttr,-D7,E6,akr,akt,akw,ajY,if_false,if_true,i64,bV,iD,bD,h0,h1,Pj,WH];exact⟨vp 1 g E',E',rfl,hLA.trans hA'⟩
    |true =>
     simp only[zX,simprocAttr,-D7,E6,akr,akt,akw,ajY,if_false,if_true,i64,bV,iD,bD,h0,h1,Pj,WH,aj0];refine⟨re.kids.length-(i+1),_,_,ae,bA.refl,i+1,E',rfl,az,?_,?_,?_,?_,?_,hA',rfl⟩ <;> (try simp only[zU,pZ,jN,oN,oV,reduceIte])
     ·rw[h0,Re.ah re];rfl
     ·exact h1
     ·exact Pj
     ·rw[bG _ ae];rfl
     ·intro x hx;rcases cy hk hx with h|rfl
      ·exact bX x h
      ·exact fm
   ·have dX:i=re.kids.length:=by omega
    subst dX;have hr:re.comp L=true:=by rw[ia,aj3];exact λk hk=>bX k (by rw[akg];exact hk)
    rw[hr];simp only[zX,simprocAttr,-D7,E6,akr,akt,akw,ajY,if_false,if_true,i64,bV,iD,bD,h0,h1,Pj,WH,aku];exact⟨vp 1 g E,E,rfl,hLA.trans hA⟩
  case inr =>
   simp only[zX,simprocAttr,-D7,E6,akr,akt,akw,ajY,if_false,if_true,i64,bV,iD,bD,h0,h1,Re.ah re,ajM];refine DR (λn e s=>∃(i:Nat) (E:List Int),n=re.kids.length-i/\i<=re.kids.length/\e 0=.d (.el re.cells)/\e 1=.so 1 0 0 A.length/\e 51=i64 re.kids.length/\e 52=i64 i/\(∀k∈re.kids.take i,k.comp A=true)/\A <+: E/\s=[dL g E0,dL 0 E])
    ⟨_,_,_,bA.refl,0,E,rfl,ae,h0,h1,rfl,rfl,ak,hA,rfl⟩ ?_
   clear hA;rintro n e s ⟨i,E,rfl,hi,h0,h1,Pj,WH,bX,hA,rfl⟩;rcases akd i re.kids.length with az|gx
   ·obtain⟨k,hk⟩:∃k,re.kids[i]?=some k:=cc az;have hm:=List.mem_of_getElem? hk;have aA:(i:Int)<(re.kids.length:Int):=ae;have hi0:(0:Int)<=(i:Int):=ae;simp only[zX,simprocAttr,-D7,E6,akr,akt,akw,ajY,if_false,if_true,i64,bV,iD,bD,h0,h1,Pj,WH,Re.ah re,aA,hi0,az,ajP,hk,ajM];refine rE (ih k hm (hvk k hm) (Ew k hm) A E 0 hA (by have:=Re.de hm;omega)) [1] rfl ak ?_ ?_ rfl (by simp only[aks,akB,vp,aj4,ajW,ajX]) (λv s' hv=>?_)
    ·intro j o hj
     match j with
     |0 =>
      simp only[List.getElem?_cons_zero,ajU]at hj;subst hj;show some (dL 0 E)=some (aN [1] (dL 0 E));rw[JN]
     |j+1=>simp at hj
    ·rfl
    obtain⟨rfl,E',rfl,hA'⟩:=hv;refine⟨rfl,?_⟩;rw[show aE [1] (bV (k.comp A))=bV (k.comp A) from rfl];simp only[ajR,ajV,JN,aJ,akf,aj9];cases fm:k.comp A with
    |false =>
     have hr:re.comp L=false:=by rw[ia,akE];intro h;rw[aj3]at h;have:=h k hm;rw[fm]at this;cases this
     rw[hr];simp only[zX,simprocAttr,-D7,E6,akr,akt,akw,ajY,if_false,if_true,i64,bV,iD,bD,h0,h1,Pj,WH];exact⟨vp 1 g E0,E0,rfl,hL0⟩
    |true =>
     simp only[zX,simprocAttr,-D7,E6,akr,akt,akw,ajY,if_false,if_true,i64,bV,iD,bD,h0,h1,Pj,WH,aj0];refine⟨re.kids.length-(i+1),_,_,ae,bA.refl,i+1,E',rfl,az,?_,?_,?_,?_,?_,hA',rfl⟩ <;> (try simp only[zU,pZ,jN,oN,oV,reduceIte])
     ·rw[h0,Re.ah re];rfl
     ·exact h1
     ·exact Pj
     ·rw[bG _ ae];rfl
     ·intro x hx;rcases cy hk hx with h|rfl
      ·exact bX x h
      ·exact fm
   ·have dX:i=re.kids.length:=by omega
    subst dX;have hr:re.comp L=true:=by rw[ia,aj3];exact λk hk=>bX k (by rw[akg];exact hk)
    rw[hr];simp only[zX,simprocAttr,-D7,E6,akr,akt,akw,ajY,if_false,if_true,i64,bV,iD,bD,h0,h1,Pj,WH,aku];exact⟨vp 1 g E0,E0,rfl,hL0⟩
def Kw:bM:=⟨0,0,0,0,[]⟩
def fy (k n:Nat):VL.Obj:=⟨0,true,1,[[.so k n 0 n]]⟩
def lW (C:List bM):VL.Obj:=⟨C.length,true,5,(C.map bM.cells).map λc=>c.map V.d⟩
theorem Ig (n:Nat) (C:List bM):aK n (lW C)=true:=by unfold aK lW;rw[aj3];intro e he;obtain⟨c,hc,rfl⟩:=List.mem_map.1 he;rw[aj3];intro x hx;obtain⟨d,_,rfl⟩:=List.mem_map.1 hx;rfl
theorem DQ (ρ:List Nat) (C:List bM):aN ρ (lW C)=lW C:=by unfold aN lW;simp only[akq];congr 1
def LN (x:bM):V:=.ag [i64 x.op,i64 x.x,i64 x.y,i64 x.n,.d (.sl (x.set.map aT))]
theorem Wa (C:List bM) (hC:C.length<=1000000000000) (x:bM):ar prog 78 [LN x,.rf 0 0 0 0] [fy 1 C.length,lW C] λv s=>v=i64 C.length/\s=[fy 1 (C.length+1),lW (C++[x])]:=by
 have hg:(lW C).g=C.length:=rfl;have hz:(lW C).sz=5:=rfl;have he:(lW C).au=(C.map bM.cells).map λc=>c.map V.d:=rfl;have hl:(lW C).live=true:=rfl;have w1:IntKind.i64.wrap (((C.length:Int)+1)-1)=(C.length:Int):=by rw[bG _ ae];omega
 refine bo func78 ntmps78 results78 2 15 ?_;simp only[zQ,simprocAttr,LN,fy,hg,hz,he,hl,ajM];have hN:List.take C.length (List.map (λx=>List.map V.d x) (List.map bM.cells C))++[[V.d (D.sc (Value.int IntKind.i64 x.op)),V.d (D.sc (Value.int IntKind.i64 x.x)),V.d (D.sc (Value.int IntKind.i64 x.y)),V.d (D.sc (Value.int IntKind.i64 x.n)),V.d (D.sl (List.map aT x.set))]]=((C++[x]).map bM.cells).map λc=>c.map V.d:=by rw[akb ak];simp [bM.cells,iD]
 rw[hN];refine⟨λe he=>by rw[List.mem_singleton.1 he];rfl,⟨ae,ae⟩,?_,by rw[akC];exact w1,?_⟩
 ·have:=Ig 2 (C++[x]);exact this
 ·simp [lW]
def bt (C:List bM):List VL.Obj:=[fy 5 C.length,
 ⟨0,true,1,[[.cl (.func 78) [] [.rf 0 0 0 0]]]⟩,
 ⟨0,true,1,[[.cl (.func 82) [] [.rf 1 0 0 0,.rf 2 0 0 0,.rf 4 0 0 0,.rf 3 0 0 0]]]⟩,
 ⟨0,true,1,[[.cl (.func 79) [] [.rf 2 0 0 0,.rf 1 0 0 0,.rf 0 0 0 0]]]⟩,
 ⟨0,true,1,[[.cl (.func 81) [] [.rf 1 0 0 0,.rf 2 0 0 0,.rf 0 0 0 0]]]⟩,lW C]
theorem IU (C:List bM) (hC:C.length<=1000000000000) (x:bM) (hk:K (i64 C.length) (bt (C++[x])++tl)):ar prog 78 [LN x,.rf 0 0 0 0] (bt C++tl) K:=by
 have e0:∀n,aN [0,5] (fy 1 n)=fy 5 n:=λn=>by simp [aN,fy,aE,aE.go]
 refine cV [0,5] (Wa C hC x) ak cB ?_ ?_ cB ?_ (r':=i64 C.length) rfl ?_
 ·simp only[ajR,ajV,e0,DQ];rfl
 ·simp [LN,aE,aE.go,i64]
 ·simp only[aks,akB,Ig,aj4,ajW,ajX];simp [aK,fy,aj]
 ·simp only[ajR,ajV,e0,DQ,aJ,bt,ajN,ajO,aj9,akf];simpa [bt]using hk
theorem mv (C:List bM) (hC:C.length<=1000000000000) (op x y n:Int) (hk:K (i64 C.length) (bt (C++[⟨op,x,y,n,[]⟩])++tl)):ar prog 78 [.ag [i64 op,i64 x,i64 y,i64 n,.fu []],.rf 0 0 0 0] (bt C++tl) K :=
 bE [] (cargs:=[LN ⟨op,x,y,n,[]⟩,.rf 0 0 0 0]) (by simp only[br,List.foldl_nil,bc.go,bc,LN,i64];simp [bc,bc.go,cT,bt,fy]) (IU C hC _ (by simpa [br]using hk))
theorem Gy (C:List bM):(bt C).map (aN [0,1,2,3,4,5])=bt C:=by simp only[bt,ajR,ajV,DQ];simp [aN,fy,aE,aE.go]
theorem jr (C:List bM):(bt C).all (aK 6)=true:=by simp only[bt,aks,akB,Ig,aj4];simp [aK,fy,aj,aj.go]
def mR (re:Re):List V:=[.d (.el re.cells),.rf 1 0 0 0,.rf 2 0 0 0,.rf 4 0 0 0,.rf 3 0 0 0]
def XY (re:Re):Prop:=∀C:List bM,C.length+100000000*re.size<=1000000000000 ->
 ar prog 82 (mR re) (bt C) λv s=>v=.tu []/\s=bt (C++re.code C.length)
theorem rK {f:FuncId}{args:List V}{C C':List bM} (h:ar prog f args (bt C) λv s=>v=.tu []/\s=bt C') (ha:args=args.map (aE [0,1,2,3,4,5])) (wY:aj.go 6 args=true) (hk:K (.tu []) (bt C'++tl)):ar prog f args (bt C++tl) K:=by
 have hr:=Gy C';refine cV [0,1,2,3,4,5] h aU rfl ?_ ha wY (jr C) (r':=.tu []) rfl ?_
 ·have:=Gy C;have h2:(bt C).map (λo=>some (aN [0,1,2,3,4,5] o))=((bt C).map (aN [0,1,2,3,4,5])).map some:=by rw[akq];rfl
  rw[h2,this];rfl
 ·rw[hr];exact hk
def Xd (C:List bM):List VL.Obj:=bt C
def sq (re:Re):List V:=[.d (.el re.cells),.rf 2 0 0 0,.rf 1 0 0 0,.rf 0 0 0 0]
def sX (l:List Re):List V:=[.d (.sl (l.map Re.cells)),.rf 1 0 0 0,.rf 2 0 0 0,.rf 0 0 0 0]
theorem wB (C:List bM):List.take 6 (bt C)=bt C:=rfl
def ROK (re:Re):Prop:=∀C:List bM,C.length+100000000*re.size<=1000000000000 ->
 ar prog 79 (sq re) (bt C) λv s=>v=.tu []/\s=bt (C++Ai (λi=>Re.l6 re.kids i) re.mn re.mx re.mode re.fh C.length)
def AOK (l:List Re):Prop:=∀C:List bM,(∀k∈l,C.length+100000000*k.size+100000000<=1000000000000) ->
 ar prog 81 (sX l) (bt C) λv s=>v=.tu []/\s=bt (C++Re.dJ l C.length)
theorem Uj (re:Re) (hs:re.every ll=true) (hz:re.fh<=8500) (hW:¬iS re->∀k∈re.kids,XY k) (hR:re.op=4->ROK re) (hA:re.op=3->AOK re.kids):XY re:=by
 intro C hC;obtain⟨dM,jA⟩:=(Re.aD re).1 hs;obtain⟨qf,wH,IL,m7⟩:=gY.1 dM;obtain⟨q1,q2,q3,q4,_,_,_,_,_,ag5⟩:=fU.1 (ga.1 qf).1;rcases wH with o|o|o|o|o|o|o
 ·have hc:re.code C.length=[]:=by rw[Re.lg,bd,bd,bd,bd,bd,bd]
  rw[hc,akh];refine lr func82 rfl ntmps82 results82 rfl 6 206158431327 (ajZ 6) (by first|decide|(simp [mR,sq,sX];done)) ?_;simp only[zQ,simprocAttr,-D7,mR,Re.ah re,o,akh,wB,jr]
 ·have oL:re.fh=1:=by rw[Re.HN,kD,be (.inl o)];rfl
  have hc:re.code C.length=[⟨1,0,0,0,re.set⟩]:=by rw[Re.lg,be o]
  rw[hc];have ia:=Fv re.set ae;refine lr func82 rfl ntmps82 results82 rfl 6 206158431327 (ajZ 6) (by first|decide|(simp [mR,sq,sX];done)) ?_;simp only[zQ,simprocAttr,-D7,mR,bt,Re.ah re,o];refine cu mix [7] [] ?_;simp only[zQ,simprocAttr,-D7,bt,fy,o];refine Fk ia ?_;simp only[zQ,simprocAttr,-D7,bt,fy,o,ajN,ajO,akh];refine ct (IU C ae ⟨1,0,0,0,re.set⟩ (tl:=[]) ⟨rfl,rfl⟩) ?_;simp only[zQ,simprocAttr,-D7,akh,wB,jr];rfl
 ·have hc:re.code C.length=Re.da re.kids C.length:=by rw[Re.lg,bd,bd,be o]
  have Rp:=vu hs ae ⟨ae,ae⟩;have uG:∀k∈re.kids,∀f,((k.code f).length:Int)=k.fh:=λk hk=>kd k (jA k hk) (Rp.2 k hk);have ia:∀i,((Re.da (re.kids.take i) C.length).length:Int)<=10000000:=λi=>by rw[Bc (λk hk=>uG k (akv hk)) C.length];have:=(jl (l:=re.kids.take i) (λk hk=>fw k (jh (jA k (akv hk))))).2;rw[akH]at this;omega
  rw[hc];refine lr func82 rfl ntmps82 results82 rfl 6 206158431327 (ajZ 6) (by first|decide|(simp [mR,sq,sX];done)) ?_;simp only[zQ,simprocAttr,-D7,mR,Re.ah re,o,ajM];refine aw (λn e s=>∃i:Nat,n=re.kids.length-i/\i<=re.kids.length/\e 0=.d (.el re.cells)/\e 2=.rf 2 0 0 0/\e 36=i64 re.kids.length/\e 37=i64 i/\s=Xd (C++Re.da (re.kids.take i) C.length))
   ⟨_,_,_,bA.refl,0,rfl,ae,by rw[Re.ah re,o];rfl,rfl,rfl,rfl,by simp [Re.da,Xd]⟩ ?_
  rintro n e s ⟨i,rfl,hi,h0,h2,A6,uJ,rfl⟩;rcases akd i re.kids.length with az|gx
  ·obtain⟨k,hk⟩:∃k,re.kids[i]?=some k:=cc az;have hm:=List.mem_of_getElem? hk;have aA:(i:Int)<(re.kids.length:Int):=ae;have hi0:(0:Int)<=(i:Int):=ae;have IP:k.size<re.size:=Re.de hm;have hb:=ia i;have hw:=hW (by unfold iS;omega) k hm (C++Re.da (re.kids.take i) C.length) (by rw[ajQ];omega);have RU:C++Re.da (re.kids.take i) C.length++k.code (C++Re.da (re.kids.take i) C.length).length=C++Re.da (re.kids.take (i+1)) C.length:=by rw[bm hk,Re.yw,aj7,ajQ,akC]
   rw[RU]at hw;generalize C++Re.da (re.kids.take i) C.length=C1 at *;generalize WB:C++Re.da (re.kids.take (i+1)) C.length=C2 at *;rw[show Xd C1=bt C1 from rfl];simp only[zQ,simprocAttr,-D7,h0,h2,A6,uJ,Re.ah re,aA];refine cu mix [7] [] ?_;simp only[zQ,simprocAttr,-D7,bt,fy,h0,h2,A6,uJ,Re.ah re,aA,hi0,az,ajP,hk,ajM,ajN,ajO,akh];refine ct (rK hw cB cB (tl:=[]) ⟨rfl,rfl⟩) ?_;simp only[zQ,simprocAttr,-D7,h0,h2,A6,uJ,akh];refine⟨re.kids.length-(i+1),_,_,ae,bA.refl,i+1,rfl,az,?_,?_,?_,?_,by rw[WB];rfl⟩ <;> (try simp only[zU,pZ,jN,oN,oV,reduceIte])
   ·rw[h0,Re.ah re];rfl
   ·exact h2
   ·exact A6
   ·rw[bG _ ae];rfl
  ·have dX:i=re.kids.length:=by omega
   subst dX;rw[akg];simp only[zQ,simprocAttr,-D7,h0,h2,A6,uJ,aku,wB,jr];exact⟨jr _,rfl⟩
 ·have hc:re.code C.length=Re.dJ re.kids C.length:=by rw[Re.lg,bd,bd,bd,be o]
  have hw:=hA o C (λk hk=>by have:=Re.de hk;omega);rw[hc];generalize C++Re.dJ re.kids C.length=C2 at *;refine lr func82 rfl ntmps82 results82 rfl 6 206158431327 (ajZ 6) (by first|decide|(simp [mR,sq,sX];done)) ?_;simp only[zQ,simprocAttr,-D7,mR,bt,Re.ah re,o];refine cu mix [5] [] ?_;simp only[zQ,simprocAttr,-D7,bt,fy,o,ajN,ajO,akh];refine ct (rK hw cB cB (tl:=[]) ⟨rfl,rfl⟩) ?_;simp only[zQ,simprocAttr,-D7,akh,wB,jr];rfl
 ·have hc:re.code C.length=Ai (λi=>Re.l6 re.kids i) re.mn re.mx re.mode re.fh C.length:=by rw[Re.lg,bd,bd,bd,bd,bd,be o]
  have hw:=hR o C hC;rw[hc];generalize C++Ai (λi=>Re.l6 re.kids i) re.mn re.mx re.mode re.fh C.length=C2 at *;refine lr func82 rfl ntmps82 results82 rfl 6 206158431327 (ajZ 6) (by first|decide|(simp [mR,sq,sX];done)) ?_;simp only[zQ,simprocAttr,-D7,mR,bt,fy,Re.ah re,o,ajN,ajO,akh];unfold sq at hw;rw[Re.ah re,o]at hw;refine rK hw cB cB (tl:=[]) ?_;simp only[zQ,simprocAttr,-D7,akh,wB,jr];rfl
 ·obtain⟨k,hk⟩:∃k,re.kids=[k]:=List.length_eq_one_iff.1 (IL (.inr o));have hc:re.code C.length=mc (2*re.n-2)::(k.code (C.length+1)++[mc (2*re.n-1)]):=by rw[Re.lg,bd,bd,bd,bd,be o,hk];rfl
  have hm:k∈re.kids:=by rw[hk];simp
  have IP:k.size<re.size:=Re.de hm;have hw:=hW (by unfold iS;omega) k hm (C++[mc (2*re.n-2)]) (by rw[ajQ];simp only[ajW,ajX];omega);have oT:((C++[mc (2*re.n-2)]).length:Int)=C.length+1:=ak;rw[oT]at hw;have uG:=kd k (jA k hm) ((vu hs ae ⟨ae,ae⟩).2 k hm) (C.length+1);have VF:=(fw k (jh (jA k hm))).2;have WL:IntKind.i64.wrap (2*re.n)=2*re.n:=bG _ ae;have wn2:IntKind.i64.wrap (2*re.n-2)=2*re.n-2:=bG _ ae;have wn3:IntKind.i64.wrap (2*re.n-1)=2*re.n-1:=bG _ ae;rw[hc,show C++mc (2*re.n-2)::(k.code (C.length+1)++[mc (2*re.n-1)])=C++[mc (2*re.n-2)]++k.code (C.length+1)++[mc (2*re.n-1)] by simp];have oM:=λK hk=>mv C ae 4 0 0 (2*re.n-2) (tl:=[]) (K:=K) hk;have XR:(C++[mc (2*re.n-2)]++k.code (C.length+1)).length<=1000000000000:=by simp only[ajQ,ajW,ajX];omega
  have Fh:=λK hk=>mv (C++[mc (2*re.n-2)]++k.code (C.length+1)) XR 4 0 0 (2*re.n-1) (tl:=[]) (K:=K) hk;rw[show C++[(⟨4,0,0,2*re.n-2,[]⟩:bM)]=C++[mc (2*re.n-2)] from rfl]at oM;rw[show C++[mc (2*re.n-2)]++k.code (C.length+1)++[(⟨4,0,0,2*re.n-1,[]⟩:bM)]=C++[mc (2*re.n-2)]++k.code (C.length+1)++[mc (2*re.n-1)] from rfl]at Fh;generalize C++[mc (2*re.n-2)]++k.code (C.length+1)++[mc (2*re.n-1)]=C3 at *;generalize C++[mc (2*re.n-2)]++k.code (C.length+1)=C2 at *;generalize C++[mc (2*re.n-2)]=C1 at *;refine lr func82 rfl ntmps82 results82 rfl 6 206158431327 (ajZ 6) (by first|decide|(simp [mR,sq,sX];done)) ?_;simp only[zQ,simprocAttr,-D7,mR,bt,Re.ah re,o];refine cu mix [8] [] ?_;simp only[zQ,simprocAttr,-D7,bt,fy,o,ajN,ajO,akh,WL,wn2];refine ct (oM _ ⟨rfl,rfl⟩) ?_;simp only[zQ,simprocAttr,-D7,akh,bt,fy];refine cu mix [6] [] ?_;simp only[zQ,simprocAttr,-D7,bt,fy,o,ajN,ajO,akh,hk,ajR,ajV];refine⟨aU,?_⟩;refine ct (rK hw cB cB (tl:=[]) ⟨rfl,rfl⟩) ?_;simp only[zQ,simprocAttr,-D7,akh,bt,fy];refine cu mix [8] [] ?_;simp only[zQ,simprocAttr,-D7,bt,fy,o,ajN,ajO,akh,WL,wn3];refine ct (Fh _ ⟨rfl,rfl⟩) ?_;simp only[zQ,simprocAttr,-D7,akh,wB,jr];rfl
 ·have oL:re.fh=1:=by rw[Re.HN,kD,be (.inr o)];rfl
  have hc:re.code C.length=[⟨5,0,0,re.n,[]⟩]:=by rw[Re.lg,bd,be o]
  rw[hc];refine lr func82 rfl ntmps82 results82 rfl 6 206158431327 (ajZ 6) (by first|decide|(simp [mR,sq,sX];done)) ?_;simp only[zQ,simprocAttr,-D7,mR,bt,Re.ah re,o];refine cu mix [6] [] ?_;simp only[zQ,simprocAttr,-D7,bt,fy,o,ajN,ajO,akh];refine ct (mv C ae 5 0 0 re.n (tl:=[]) ⟨rfl,rfl⟩) ?_;simp only[zQ,simprocAttr,-D7,akh,wB,jr];rfl
end Go.Proofs.YtjjfioalgbecmaaGreat
