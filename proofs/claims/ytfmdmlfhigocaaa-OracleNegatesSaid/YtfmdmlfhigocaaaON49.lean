/- A part of the proof (F115 F114 F121). -/
import Derived.Test.YtfmdmlfhigocaaaON25
import Derived.Test.YtfmdmlfhigocaaaON47
import Derived.Test.YtfmdmlfhigocaaaON48
set_option linter.unusedSimpArgs false
set_option linter.unusedVariables false
open Nat renaming reduceAdd → eJ
set_option maxRecDepth 100000
set_option maxHeartbeats 80000000
namespace Go.Proofs.Ytfmdmlfhigocaaa
open Go.VL Go.Proofs.Try
theorem rJ:∀(l:List Int) (a x:Int),x∈l->x<=l.foldl max a
 |y::l,a,x,h=>by
  rcases List.mem_cons.1 h with rfl|h
  ·exact aho (by omega) (jx l (max a x))
  ·exact rJ l (max a y) x h
theorem NX (re:Re):1<=re.depth:=by rw[Re.gF];have:=jx (re.kids.map Re.depth) 0;unfold oC;omega
theorem CE:∀(p:List Int) (re:Re),qm re p->(p.length:Int)+1<=re.depth
 |[],re,_=>by have:=NX re;simpa using this
 |h::p,re,ho=>by obtain⟨h0,k,hk,ho⟩:=cd.1 ho;have ih:=CE p k ho;have:=rJ (re.kids.map Re.depth) 0 k.depth (List.mem_map.2 ⟨k,afW hk,rfl⟩);rw[Re.gF,afZ];unfold oC;omega
theorem M1 (l:List Int) (cu most:Int) (hl:∀x∈l,jC x) (h0:0<=most) (h1:most<=100):(lN l cu most).re.depth<=6:=by
 have zH:(⟨l,0,cu,most,0⟩:Mk).In 0:=⟨hl,by simp,by simp,by simpa using h0,by show most<=_;omega,by simp,by simp⟩
 have h:=(tY 5).tok ⟨l,0,cu,most,0⟩ 0 (by omega) zH;have XP:=h.dep;show (Mk.tree 5 ⟨l,0,cu,most,0⟩).1.depth<=6;simpa using XP
theorem JO {x:Re} (hx:x.bC=true):∀(p:List Int) (re:Re),re.bC=true->qm re p->(re.dO p x).1.bC=true
 |[],re,_,_=>by rw[oe];exact hx
 |h::p,re,hf,ho=>by
  obtain⟨h0,k,hk,ho⟩:=cd.1 ho;obtain⟨h1,h2,h3⟩:=Re.cA hf;have ih:=JO hx p k (h3 k (afW hk)) ho;rw[ig x h0 hk ho,Re.mC,Re.eo];refine⟨by cases re;exact h1,by rw[agl];exact h2,λy hy=>?_⟩;rcases agU hy with hy|rfl
  ·exact h3 y hy
  ·exact ih
theorem Gn:∀(p:List Int) (re:Re),re.bC=true->qm re p->(re.atR p).1.bC=true
 |[],re,h,_=>by rw[kd];exact h
 |h::p,re,hf,ho=>by obtain⟨h0,k,hk,ho⟩:=cd.1 ho;rw[jd h0 hk];exact Gn p k ((Re.cA hf).2.2 k (afW hk)) ho
def m7 (re x:Re) (p:List Int):Prop:=aO prog 23 [fv re,.d (al p),fv x] (.tu [fv (re.dO p x).1,i64 (re.dO p x).2])
theorem OI {α:Type}{a b c:α}{l r:List α}{t:Nat}{o:α} (h:l[t]?=some o):(a::b::c::(l++r))[3+t]?=some o:=by rw[show 3+t=t+3 by omega];simp only[agF];rw[af2 (List.getElem?_eq_some_iff.1 h).1];exact h
theorem YV (re x:Re) (p:List Int) (hf:re.bC=true) (hp:p.length<=1000000) (ho:¬qm re p):m7 re x p:=by have wA:=px p re hf hp;rw[D5 ho,Re.ae re]at wA;unfold m7;rw[JF x p re ho];refine an func23 rfl ntmps23 results23 rfl 0 495 (by simp) (by simp) ?_;simp only[zX,simprocAttr,i64,ai re,ai x,iD,bD];refine bc [0] rfl ?_;refine aj wA rfl rfl ?_;simp only[zX,simprocAttr,i64,iD,bD,H5,bE,bM,agd,agf];exact⟨_,rfl⟩
theorem Se (re x:Re) (p:List Int) (hp:p.length=0) (hf:re.bC=true) (hx:x.bC=true) (ho:qm re p):m7 re x p:=by
 obtain rfl:p=[]:=ago hp;have wA:=px [] re hf (by first|omega|simp);rw[n9 ho,Re.ae re]at wA;have mQ:=gQ x hx;have fK:=Eo re hf;have Hf:=tL (re.atR []).1.cells [] re hf (by first|omega|simp) ho;have BT:=nk x [] re ho;unfold m7;rw[BT];rw[ai x]at mQ;unfold fC at fK;rw[ai re]at fK;have wL:=fG (ρ:=[]) (b:=0) (b':=3) (re.atR []).1.cells re [] (λcB=>by first|rfl|exact(cB rfl).elim);have uR:=fG (ρ:=[3]) (b:=1) (b':=3) (re.atR []).1.cells re [] (λcB=>by first|rfl|exact(cB rfl).elim);have AG:=fE (ρ:=[]) (re.atR []).1.cells [] 0 3 re (λj h1 h2=>by first|(exfalso;omega)|(exfalso;simp at h2;done)|(rcases(show False by omega) with h <;> rfl));have Dm:=fE (ρ:=[3]) (re.atR []).1.cells [] 1 3 re (λj h1 h2=>by first|(exfalso;omega)|(exfalso;simp at h2;done)|(rcases(show False by omega) with h <;> rfl));have RL:=oq (ρ:=[3]) [] (.rf 0 0 0 0) 1 3 re (λj h2=>by first|(exfalso;omega)|(exfalso;simp at h2;done)|(rcases(show False by omega) with h <;> rfl));have Mh:=fi ((re.atR []).1.cells.map V.d) [] 0 re ho;have Bi:=fi ((re.atR []).1.cells.map V.d) [] 1 re ho;have xH:=fD 1 (re.atR []).1.cells [] 1 re (by first|omega|simp);have J7:=cc 1 1 (re.atR []).1.cells re [] (λcB=>by first|omega|exact(cB rfl).elim);refine an func23 rfl ntmps23 results23 rfl 0 495 (by simp) (by simp) ?_;simp only[zX,simprocAttr,i64,ai re,ai x,iD,bD];refine bc [0] rfl ?_;refine aj wA rfl rfl ?_;simp only[zX,simprocAttr,i64,iD,bD,bE,bM,agd,agf];refine⟨⟨_,rfl⟩,?_⟩;refine cH [] fK (by decide) (by rw[Mh];first|exact hp|rfl) rfl rfl (by simp [ah,ah.go]) rfl (congrArg V.ag wL) ?_;rw[AG];simp only[aE,agf,agd,afQ,afS,oX];simp only[zX,simprocAttr,i64,iD,bD,ft,kd,Re.ae re,afR,afU,afZ,af0];have CH:(⟨0,true,8,[ft 1 ((re.atR []).1.cells.map V.d) re []]⟩::jF ((re.atR []).1.cells.map V.d) 1 re []:List VL.Obj).length=1:=by rw[afZ,Bi];first|omega|rfl
 have JD:(⟨0,true,8,[ft 1 ((re.atR []).1.cells.map V.d) re []]⟩::jF ((re.atR []).1.cells.map V.d) 1 re []:List VL.Obj).all (aG 1)=true:=by rw[agq,xH,af5];simp only[aG,agq,agA,af5];exact J7
 have Cl:(⟨0,true,8,[ft 1 ((re.atR []).1.cells.map V.d) re []]⟩::jF ((re.atR []).1.cells.map V.d) 1 re []:List VL.Obj).map (aT [3])=[⟨0,true,8,[[V.d (D.sc (Value.int IntKind.i64 re.op)),V.d (D.sl (re.set.map aV)),V.d (D.sl (re.kids.map Re.cells)),V.d (D.sc (Value.int IntKind.i64 re.mn)),V.d (D.sc (Value.int IntKind.i64 re.mx)),V.d (D.sc (Value.int IntKind.i64 re.mode)),V.d (D.sc (Value.int IntKind.i64 re.n)),V.d (D.sc (Value.bool re.neg))]]⟩]:=by rw[oJ,afR,afU,aT];simp only[afR,afU,uR];rw[show ft 3 ((re.atR []).1.cells.map V.d) re []=(re.atR []).1.cells.map V.d from rfl,kd,Re.ae re];rfl
 generalize (⟨0,true,8,[ft 1 ((re.atR []).1.cells.map V.d) re []]⟩::jF ((re.atR []).1.cells.map V.d) 1 re []:List VL.Obj)=X at Hf CH JD Cl;refine ar mix [5] [(1,[3],[3]),(4,[3],[])] (by rfl) ?_;simp only[zX,simprocAttr,i64,iD,bD];refine fq [3] Hf (by decide) rfl (by rw[show X.map (λo=>some (aT [3] o))=(X.map (aT [3])).map some by rw[agy];rfl,Cl];rfl) rfl (by simp [ah.go,ah,CH]) (by rw[CH];exact JD) (show aL [3] _=.rf 3 0 0 0 by rw[sq];rfl) ?_;rw[Cl];simp only[aE,agf,agd];simp only[zX,simprocAttr,i64,iD,bD];refine bp mQ (by simp [ah,ah.go]) (by simp [ah,ah.go]) ?_;simp only[zX,simprocAttr,i64,iD,bD,Re.ae re,afR,afU];rw[oe,ai x];rfl
theorem Tp (re x:Re) (p:List Int) (hp:p.length=1) (hf:re.bC=true) (hx:x.bC=true) (ho:qm re p):m7 re x p:=by
 have wA:=px p re hf (by first|omega|simp);rw[n9 ho,Re.ae re]at wA;have mQ:=gQ x hx;have fK:=E9 re hf p hp ho;have Hf:=tL (re.atR p).1.cells p re hf (by first|omega|simp) ho;have BT:=nk x p re ho;unfold m7;rw[BT];rw[ai x]at mQ;unfold fC at fK;rw[ai re]at fK;have wL:=fG (ρ:=[3]) (b:=0) (b':=3) (re.atR p).1.cells re p (λcB=>by first|rfl|exact(cB rfl).elim);have uR:=fG (ρ:=[4,3]) (b:=1) (b':=3) (re.atR p).1.cells re p (λcB=>by first|rfl|exact(cB rfl).elim);have AG:=fE (ρ:=[3]) (re.atR p).1.cells p 0 3 re (λj h1 h2=>by first|(exfalso;omega)|(exfalso;simp at h2;done)|(rcases(show False by omega) with h <;> rfl));have Dm:=fE (ρ:=[4,3]) (re.atR p).1.cells p 1 3 re (λj h1 h2=>by first|(exfalso;omega)|(exfalso;simp at h2;done)|(rcases(show False by omega) with h <;> rfl));have RL:=oq (ρ:=[4,3]) p (.rf 0 0 0 0) 1 3 re (λj h2=>by first|(exfalso;omega)|(exfalso;simp at h2;done)|(rcases(show j=0 by omega) with rfl <;> rfl));have Mh:=fi ((re.atR p).1.cells.map V.d) p 0 re ho;have Bi:=fi ((re.atR p).1.cells.map V.d) p 1 re ho;have xH:=fD 2 (re.atR p).1.cells p 1 re (by first|omega|simp);have J7:=cc 2 1 (re.atR p).1.cells re p (λcB=>by first|omega|exact(cB rfl).elim);have Sr:∀s:List VL.Obj,(∀t o,(jF (x.cells.map V.d) 3 re p)[t]?=some o->s[3+t]?=some o)->cj 8 0 s (.so 3 (re.kids.length+1) 0 re.kids.length)=some (.sl ((re.dO p x).1.kids.map Re.cells)):=by
  intro s hs;obtain⟨a,q,rfl⟩:∃a q,p=a::q:=by
   cases p with
   |nil=>simp at hp
   |cons a q=>exact⟨a,q,rfl⟩
  exact Ew (n:=7) ho (by simp only[afZ]at hp;omega) (ahn _) hs
 have WJ:(re.dO p x).1=re.iI (re.dO p x).1.kids:=by
  obtain⟨a,q,rfl⟩:∃a q,p=a::q:=by
   cases p with
   |nil=>simp at hp
   |cons a q=>exact⟨a,q,rfl⟩
  obtain⟨h0,k,hk,fO⟩:=cd.1 ho;rw[ig x h0 hk fO,Re.eo]
 obtain⟨pre,g,h,aw,yr,hh,mR,GB⟩:=qf p 3 re ho (by rintro rfl;simp at hp);obtain rfl:pre=[]:=ago (by omega);have Fq:∀c,ft 3 c re p=oX re (.so 3 (re.kids.length+1) 0 re.kids.length):=by
  intro c;cases p with
  |nil=>simp at hp
  |cons a q=>rfl
 refine an func23 rfl ntmps23 results23 rfl 0 495 (by simp) (by simp) ?_;simp only[zX,simprocAttr,i64,ai re,ai x,iD,bD];refine bc [0] rfl ?_;refine aj wA rfl rfl ?_;simp only[zX,simprocAttr,i64,iD,bD,bE,bM,agd,agf];refine⟨⟨_,rfl⟩,?_⟩;refine eh 8 ?_;refine cH [3] fK (by decide) (by rw[Mh];first|exact hp|rfl) rfl rfl (by simp [ah,ah.go]) rfl (congrArg V.ag wL) ?_;rw[AG];rw[Fq,GB];rw[Fq]at uR;simp only[aE,agf,agd,afQ,afS,oX];simp only[zX,simprocAttr,i64,iD,bD];have CH:(⟨0,true,8,[ft 1 ((re.atR p).1.cells.map V.d) re p]⟩::jF ((re.atR p).1.cells.map V.d) 1 re p:List VL.Obj).length=2:=by rw[afZ,Bi];first|omega|rfl
 have JD:(⟨0,true,8,[ft 1 ((re.atR p).1.cells.map V.d) re p]⟩::jF ((re.atR p).1.cells.map V.d) 1 re p:List VL.Obj).all (aG 2)=true:=by rw[agq,xH,af5];simp only[aG,agq,agA,af5];exact J7
 have Cl:(⟨0,true,8,[ft 1 ((re.atR p).1.cells.map V.d) re p]⟩::jF ((re.atR p).1.cells.map V.d) 1 re p:List VL.Obj).map (aT [4,3])=[⟨0,true,8,[oX re (.so 3 (re.kids.length+1) 0 re.kids.length)]⟩,⟨g,true,8,aw.set h ((re.atR p).1.cells.map V.d)⟩]:=by rw[afR,Dm,GB,aT];simp only[afR,afU,uR];rfl
 generalize (⟨0,true,8,[ft 1 ((re.atR p).1.cells.map V.d) re p]⟩::jF ((re.atR p).1.cells.map V.d) 1 re p:List VL.Obj)=X at Hf CH JD Cl;refine ar mix [5] [(1,[4,3],[4,3]),(4,[4,3],[])] (by rfl) ?_;simp only[zX,simprocAttr,i64,iD,bD];refine fq [4,3] Hf (by decide) rfl (by rw[show X.map (λo=>some (aT [4,3] o))=(X.map (aT [4,3])).map some by rw[agy];rfl,Cl];rfl) rfl (by simp [ah.go,ah,CH]) (by rw[CH];exact JD) (show aL [4,3] _=.rf 3 g h 0 by rw[RL,mR];rfl) ?_;rw[Cl];simp only[aE,agf,agd];simp only[zX,simprocAttr,i64,iD,bD];refine bp mQ (by simp [ah,ah.go]) (by simp [ah,ah.go]) ?_;have ep:(aw.set h ((re.atR p).1.cells.map V.d))[h]?=some ((re.atR p).1.cells.map V.d):=agc hh;have Sf:((re.atR p).1.cells.map V.d).length=8:=by simp [Re.bG]
 generalize (re.atR p).1.cells.map V.d=C at *;simp only[zX,simprocAttr,i64,iD,bD,ep,Sf];have tp:(aw.set h C).set h (V.d (D.sc (Value.int IntKind.i64 x.op))::V.d (D.sl (List.map aV x.set))::V.d (D.sl (List.map Re.cells x.kids))::V.d (D.sc (Value.int IntKind.i64 x.mn))::V.d (D.sc (Value.int IntKind.i64 x.mx))::V.d (D.sc (Value.int IntKind.i64 x.mode))::V.d (D.sc (Value.int IntKind.i64 x.n))::V.d (D.sc (Value.bool x.neg))::List.drop 8 C)=aw.set h (x.cells.map V.d):=by rw[List.set_set,List.drop_of_length_le (by omega),Re.ae x];rfl
 rw[tp];have FQ:∀s:List VL.Obj,(∀t o,(jF (x.cells.map V.d) 3 re p)[t]?=some o->s[3+t]?=some o)->ba.go 0 s (ft 3 (x.cells.map V.d) re p)=some ((re.dO p x).1.cells.map V.d):=λs hs=>wP ho (by omega) hs;rw[Fq,GB]at FQ;refine⟨by simp [oX],by simp [oX],by simp [oX],?_⟩;simp only[oX,ags,agD,afZ,af0,afX,eJ,agZ,agH,List.drop_nil,afQ,afS]at FQ ⊢;rw[FQ]
 ·rfl
 ·exact λt o ht=>OI (r:=[_]) ht
theorem SQ (re x:Re) (p:List Int) (hp:p.length=2) (hf:re.bC=true) (hx:x.bC=true) (ho:qm re p):m7 re x p:=by
 have wA:=px p re hf (by first|omega|simp);rw[n9 ho,Re.ae re]at wA;have mQ:=gQ x hx;have fK:=E7 re hf p hp ho;have Hf:=tL (re.atR p).1.cells p re hf (by first|omega|simp) ho;have BT:=nk x p re ho;unfold m7;rw[BT];rw[ai x]at mQ;unfold fC at fK;rw[ai re]at fK;have wL:=fG (ρ:=[3,4]) (b:=0) (b':=3) (re.atR p).1.cells re p (λcB=>by first|rfl|exact(cB rfl).elim);have uR:=fG (ρ:=[5,3,4]) (b:=1) (b':=3) (re.atR p).1.cells re p (λcB=>by first|rfl|exact(cB rfl).elim);have AG:=fE (ρ:=[3,4]) (re.atR p).1.cells p 0 3 re (λj h1 h2=>by first|(exfalso;omega)|(exfalso;simp at h2;done)|(rcases(show j=1 by omega) with rfl <;> rfl));have Dm:=fE (ρ:=[5,3,4]) (re.atR p).1.cells p 1 3 re (λj h1 h2=>by first|(exfalso;omega)|(exfalso;simp at h2;done)|(rcases(show j=1 by omega) with rfl <;> rfl));have RL:=oq (ρ:=[5,3,4]) p (.rf 0 0 0 0) 1 3 re (λj h2=>by first|(exfalso;omega)|(exfalso;simp at h2;done)|(rcases(show j=0\/j=1 by omega) with rfl|rfl <;> rfl));have Mh:=fi ((re.atR p).1.cells.map V.d) p 0 re ho;have Bi:=fi ((re.atR p).1.cells.map V.d) p 1 re ho;have xH:=fD 3 (re.atR p).1.cells p 1 re (by first|omega|simp);have J7:=cc 3 1 (re.atR p).1.cells re p (λcB=>by first|omega|exact(cB rfl).elim);have Sr:∀s:List VL.Obj,(∀t o,(jF (x.cells.map V.d) 3 re p)[t]?=some o->s[3+t]?=some o)->cj 8 0 s (.so 3 (re.kids.length+1) 0 re.kids.length)=some (.sl ((re.dO p x).1.kids.map Re.cells)):=by
  intro s hs;obtain⟨a,q,rfl⟩:∃a q,p=a::q:=by
   cases p with
   |nil=>simp at hp
   |cons a q=>exact⟨a,q,rfl⟩
  exact Ew (n:=7) ho (by simp only[afZ]at hp;omega) (ahn _) hs
 have WJ:(re.dO p x).1=re.iI (re.dO p x).1.kids:=by
  obtain⟨a,q,rfl⟩:∃a q,p=a::q:=by
   cases p with
   |nil=>simp at hp
   |cons a q=>exact⟨a,q,rfl⟩
  obtain⟨h0,k,hk,fO⟩:=cd.1 ho;rw[ig x h0 hk fO,Re.eo]
 obtain⟨pre,g,h,aw,yr,hh,mR,GB⟩:=qf p 3 re ho (by rintro rfl;simp at hp);obtain⟨b0,rfl⟩:∃b0:VL.Obj,pre=[b0]:=by
  have:pre.length=1:=by omega
  match pre,this with
  |[_],_=>exact⟨_,rfl⟩
 have Fq:∀c,ft 3 c re p=oX re (.so 3 (re.kids.length+1) 0 re.kids.length):=by
  intro c;cases p with
  |nil=>simp at hp
  |cons a q=>rfl
 refine an func23 rfl ntmps23 results23 rfl 0 495 (by simp) (by simp) ?_;simp only[zX,simprocAttr,i64,ai re,ai x,iD,bD];refine bc [0] rfl ?_;refine aj wA rfl rfl ?_;simp only[zX,simprocAttr,i64,iD,bD,bE,bM,agd,agf];refine⟨⟨_,rfl⟩,?_⟩;refine eh 8 ?_;refine eh 8 ?_;refine cH [3,4] fK (by decide) (by rw[Mh];first|exact hp|rfl) rfl rfl (by simp [ah,ah.go]) rfl (congrArg V.ag wL) ?_;rw[AG];rw[Fq,GB];rw[Fq]at uR;simp only[aE,agf,agd,afQ,afS,oX];simp only[zX,simprocAttr,i64,iD,bD];have CH:(⟨0,true,8,[ft 1 ((re.atR p).1.cells.map V.d) re p]⟩::jF ((re.atR p).1.cells.map V.d) 1 re p:List VL.Obj).length=3:=by rw[afZ,Bi];first|omega|rfl
 have JD:(⟨0,true,8,[ft 1 ((re.atR p).1.cells.map V.d) re p]⟩::jF ((re.atR p).1.cells.map V.d) 1 re p:List VL.Obj).all (aG 3)=true:=by rw[agq,xH,af5];simp only[aG,agq,agA,af5];exact J7
 have Cl:(⟨0,true,8,[ft 1 ((re.atR p).1.cells.map V.d) re p]⟩::jF ((re.atR p).1.cells.map V.d) 1 re p:List VL.Obj).map (aT [5,3,4])=[⟨0,true,8,[oX re (.so 3 (re.kids.length+1) 0 re.kids.length)]⟩,b0,⟨g,true,8,aw.set h ((re.atR p).1.cells.map V.d)⟩]:=by rw[afR,Dm,GB,aT];simp only[afR,afU,uR];rfl
 generalize (⟨0,true,8,[ft 1 ((re.atR p).1.cells.map V.d) re p]⟩::jF ((re.atR p).1.cells.map V.d) 1 re p:List VL.Obj)=X at Hf CH JD Cl;refine ar mix [5] [(1,[5,3,4],[5,3,4]),(4,[5,3,4],[])] (by rfl) ?_;simp only[zX,simprocAttr,i64,iD,bD];refine fq [5,3,4] Hf (by decide) rfl (by rw[show X.map (λo=>some (aT [5,3,4] o))=(X.map (aT [5,3,4])).map some by rw[agy];rfl,Cl];rfl) rfl (by simp [ah.go,ah,CH]) (by rw[CH];exact JD) (show aL [5,3,4] _=.rf 4 g h 0 by rw[RL,mR];rfl) ?_;rw[Cl];simp only[aE,agf,agd];simp only[zX,simprocAttr,i64,iD,bD];refine bp mQ (by simp [ah,ah.go]) (by simp [ah,ah.go]) ?_;have ep:(aw.set h ((re.atR p).1.cells.map V.d))[h]?=some ((re.atR p).1.cells.map V.d):=agc hh;have Sf:((re.atR p).1.cells.map V.d).length=8:=by simp [Re.bG]
 generalize (re.atR p).1.cells.map V.d=C at *;simp only[zX,simprocAttr,i64,iD,bD,ep,Sf];have tp:(aw.set h C).set h (V.d (D.sc (Value.int IntKind.i64 x.op))::V.d (D.sl (List.map aV x.set))::V.d (D.sl (List.map Re.cells x.kids))::V.d (D.sc (Value.int IntKind.i64 x.mn))::V.d (D.sc (Value.int IntKind.i64 x.mx))::V.d (D.sc (Value.int IntKind.i64 x.mode))::V.d (D.sc (Value.int IntKind.i64 x.n))::V.d (D.sc (Value.bool x.neg))::List.drop 8 C)=aw.set h (x.cells.map V.d):=by rw[List.set_set,List.drop_of_length_le (by omega),Re.ae x];rfl
 rw[tp];have FQ:∀s:List VL.Obj,(∀t o,(jF (x.cells.map V.d) 3 re p)[t]?=some o->s[3+t]?=some o)->ba.go 0 s (ft 3 (x.cells.map V.d) re p)=some ((re.dO p x).1.cells.map V.d):=λs hs=>wP ho (by omega) hs;rw[Fq,GB]at FQ;refine⟨by simp [oX],by simp [oX],by simp [oX],?_⟩;simp only[oX,ags,agD,afZ,af0,afX,eJ,agZ,agH,List.drop_nil,afQ,afS]at FQ ⊢;rw[FQ]
 ·rfl
 ·exact λt o ht=>OI (r:=[_]) ht
theorem R0 (re x:Re) (p:List Int) (hp:p.length=3) (hf:re.bC=true) (hx:x.bC=true) (ho:qm re p):m7 re x p:=by
 have wA:=px p re hf (by first|omega|simp);rw[n9 ho,Re.ae re]at wA;have mQ:=gQ x hx;have fK:=Er re hf p hp ho;have Hf:=tL (re.atR p).1.cells p re hf (by first|omega|simp) ho;have BT:=nk x p re ho;unfold m7;rw[BT];rw[ai x]at mQ;unfold fC at fK;rw[ai re]at fK;have wL:=fG (ρ:=[3,4,5]) (b:=0) (b':=3) (re.atR p).1.cells re p (λcB=>by first|rfl|exact(cB rfl).elim);have uR:=fG (ρ:=[6,3,4,5]) (b:=1) (b':=3) (re.atR p).1.cells re p (λcB=>by first|rfl|exact(cB rfl).elim);have AG:=fE (ρ:=[3,4,5]) (re.atR p).1.cells p 0 3 re (λj h1 h2=>by first|(exfalso;omega)|(exfalso;simp at h2;done)|(rcases(show j=1\/j=2 by omega) with rfl|rfl <;> rfl));have Dm:=fE (ρ:=[6,3,4,5]) (re.atR p).1.cells p 1 3 re (λj h1 h2=>by first|(exfalso;omega)|(exfalso;simp at h2;done)|(rcases(show j=1\/j=2 by omega) with rfl|rfl <;> rfl));have RL:=oq (ρ:=[6,3,4,5]) p (.rf 0 0 0 0) 1 3 re (λj h2=>by first|(exfalso;omega)|(exfalso;simp at h2;done)|(rcases(show j=0\/j=1\/j=2 by omega) with rfl|rfl|rfl <;> rfl));have Mh:=fi ((re.atR p).1.cells.map V.d) p 0 re ho;have Bi:=fi ((re.atR p).1.cells.map V.d) p 1 re ho;have xH:=fD 4 (re.atR p).1.cells p 1 re (by first|omega|simp);have J7:=cc 4 1 (re.atR p).1.cells re p (λcB=>by first|omega|exact(cB rfl).elim);have Sr:∀s:List VL.Obj,(∀t o,(jF (x.cells.map V.d) 3 re p)[t]?=some o->s[3+t]?=some o)->cj 8 0 s (.so 3 (re.kids.length+1) 0 re.kids.length)=some (.sl ((re.dO p x).1.kids.map Re.cells)):=by
  intro s hs;obtain⟨a,q,rfl⟩:∃a q,p=a::q:=by
   cases p with
   |nil=>simp at hp
   |cons a q=>exact⟨a,q,rfl⟩
  exact Ew (n:=7) ho (by simp only[afZ]at hp;omega) (ahn _) hs
 have WJ:(re.dO p x).1=re.iI (re.dO p x).1.kids:=by
  obtain⟨a,q,rfl⟩:∃a q,p=a::q:=by
   cases p with
   |nil=>simp at hp
   |cons a q=>exact⟨a,q,rfl⟩
  obtain⟨h0,k,hk,fO⟩:=cd.1 ho;rw[ig x h0 hk fO,Re.eo]
 obtain⟨pre,g,h,aw,yr,hh,mR,GB⟩:=qf p 3 re ho (by rintro rfl;simp at hp);obtain⟨b0,b1,rfl⟩:∃b0 b1:VL.Obj,pre=[b0,b1]:=by
  have:pre.length=2:=by omega
  match pre,this with
  |[_,_],_=>exact⟨_,_,rfl⟩
 have Fq:∀c,ft 3 c re p=oX re (.so 3 (re.kids.length+1) 0 re.kids.length):=by
  intro c;cases p with
  |nil=>simp at hp
  |cons a q=>rfl
 refine an func23 rfl ntmps23 results23 rfl 0 495 (by simp) (by simp) ?_;simp only[zX,simprocAttr,i64,ai re,ai x,iD,bD];refine bc [0] rfl ?_;refine aj wA rfl rfl ?_;simp only[zX,simprocAttr,i64,iD,bD,bE,bM,agd,agf];refine⟨⟨_,rfl⟩,?_⟩;refine eh 8 ?_;refine eh 8 ?_;refine eh 8 ?_;refine cH [3,4,5] fK (by decide) (by rw[Mh];first|exact hp|rfl) rfl rfl (by simp [ah,ah.go]) rfl (congrArg V.ag wL) ?_;rw[AG];rw[Fq,GB];rw[Fq]at uR;simp only[aE,agf,agd,afQ,afS,oX];simp only[zX,simprocAttr,i64,iD,bD];have CH:(⟨0,true,8,[ft 1 ((re.atR p).1.cells.map V.d) re p]⟩::jF ((re.atR p).1.cells.map V.d) 1 re p:List VL.Obj).length=4:=by rw[afZ,Bi];first|omega|rfl
 have JD:(⟨0,true,8,[ft 1 ((re.atR p).1.cells.map V.d) re p]⟩::jF ((re.atR p).1.cells.map V.d) 1 re p:List VL.Obj).all (aG 4)=true:=by rw[agq,xH,af5];simp only[aG,agq,agA,af5];exact J7
 have Cl:(⟨0,true,8,[ft 1 ((re.atR p).1.cells.map V.d) re p]⟩::jF ((re.atR p).1.cells.map V.d) 1 re p:List VL.Obj).map (aT [6,3,4,5])=[⟨0,true,8,[oX re (.so 3 (re.kids.length+1) 0 re.kids.length)]⟩,b0,b1,⟨g,true,8,aw.set h ((re.atR p).1.cells.map V.d)⟩]:=by rw[afR,Dm,GB,aT];simp only[afR,afU,uR];rfl
 generalize (⟨0,true,8,[ft 1 ((re.atR p).1.cells.map V.d) re p]⟩::jF ((re.atR p).1.cells.map V.d) 1 re p:List VL.Obj)=X at Hf CH JD Cl;refine ar mix [5] [(1,[6,3,4,5],[6,3,4,5]),(4,[6,3,4,5],[])] (by rfl) ?_;simp only[zX,simprocAttr,i64,iD,bD];refine fq [6,3,4,5] Hf (by decide) rfl (by rw[show X.map (λo=>some (aT [6,3,4,5] o))=(X.map (aT [6,3,4,5])).map some by rw[agy];rfl,Cl];rfl) rfl (by simp [ah.go,ah,CH]) (by rw[CH];exact JD) (show aL [6,3,4,5] _=.rf 5 g h 0 by rw[RL,mR];rfl) ?_;rw[Cl];simp only[aE,agf,agd];simp only[zX,simprocAttr,i64,iD,bD];refine bp mQ (by simp [ah,ah.go]) (by simp [ah,ah.go]) ?_;have ep:(aw.set h ((re.atR p).1.cells.map V.d))[h]?=some ((re.atR p).1.cells.map V.d):=agc hh;have Sf:((re.atR p).1.cells.map V.d).length=8:=by simp [Re.bG]
 generalize (re.atR p).1.cells.map V.d=C at *;simp only[zX,simprocAttr,i64,iD,bD,ep,Sf];have tp:(aw.set h C).set h (V.d (D.sc (Value.int IntKind.i64 x.op))::V.d (D.sl (List.map aV x.set))::V.d (D.sl (List.map Re.cells x.kids))::V.d (D.sc (Value.int IntKind.i64 x.mn))::V.d (D.sc (Value.int IntKind.i64 x.mx))::V.d (D.sc (Value.int IntKind.i64 x.mode))::V.d (D.sc (Value.int IntKind.i64 x.n))::V.d (D.sc (Value.bool x.neg))::List.drop 8 C)=aw.set h (x.cells.map V.d):=by rw[List.set_set,List.drop_of_length_le (by omega),Re.ae x];rfl
 rw[tp];have FQ:∀s:List VL.Obj,(∀t o,(jF (x.cells.map V.d) 3 re p)[t]?=some o->s[3+t]?=some o)->ba.go 0 s (ft 3 (x.cells.map V.d) re p)=some ((re.dO p x).1.cells.map V.d):=λs hs=>wP ho (by omega) hs;rw[Fq,GB]at FQ;refine⟨by simp [oX],by simp [oX],by simp [oX],?_⟩;simp only[oX,ags,agD,afZ,af0,afX,eJ,agZ,agH,List.drop_nil,afQ,afS]at FQ ⊢;rw[FQ]
 ·rfl
 ·exact λt o ht=>OI (r:=[_]) ht
theorem R8 (re x:Re) (p:List Int) (hp:p.length=4) (hf:re.bC=true) (hx:x.bC=true) (ho:qm re p):m7 re x p:=by
 have wA:=px p re hf (by first|omega|simp);rw[n9 ho,Re.ae re]at wA;have mQ:=gQ x hx;have fK:=Eh re hf p hp ho;have Hf:=tL (re.atR p).1.cells p re hf (by first|omega|simp) ho;have BT:=nk x p re ho;unfold m7;rw[BT];rw[ai x]at mQ;unfold fC at fK;rw[ai re]at fK;have wL:=fG (ρ:=[3,4,5,6]) (b:=0) (b':=3) (re.atR p).1.cells re p (λcB=>by first|rfl|exact(cB rfl).elim);have uR:=fG (ρ:=[7,3,4,5,6]) (b:=1) (b':=3) (re.atR p).1.cells re p (λcB=>by first|rfl|exact(cB rfl).elim);have AG:=fE (ρ:=[3,4,5,6]) (re.atR p).1.cells p 0 3 re (λj h1 h2=>by first|(exfalso;omega)|(exfalso;simp at h2;done)|(rcases(show j=1\/j=2\/j=3 by omega) with rfl|rfl|rfl <;> rfl));have Dm:=fE (ρ:=[7,3,4,5,6]) (re.atR p).1.cells p 1 3 re (λj h1 h2=>by first|(exfalso;omega)|(exfalso;simp at h2;done)|(rcases(show j=1\/j=2\/j=3 by omega) with rfl|rfl|rfl <;> rfl));have RL:=oq (ρ:=[7,3,4,5,6]) p (.rf 0 0 0 0) 1 3 re (λj h2=>by first|(exfalso;omega)|(exfalso;simp at h2;done)|(rcases(show j=0\/j=1\/j=2\/j=3 by omega) with rfl|rfl|rfl|rfl <;> rfl));have Mh:=fi ((re.atR p).1.cells.map V.d) p 0 re ho;have Bi:=fi ((re.atR p).1.cells.map V.d) p 1 re ho;have xH:=fD 5 (re.atR p).1.cells p 1 re (by first|omega|simp);have J7:=cc 5 1 (re.atR p).1.cells re p (λcB=>by first|omega|exact(cB rfl).elim);have Sr:∀s:List VL.Obj,(∀t o,(jF (x.cells.map V.d) 3 re p)[t]?=some o->s[3+t]?=some o)->cj 8 0 s (.so 3 (re.kids.length+1) 0 re.kids.length)=some (.sl ((re.dO p x).1.kids.map Re.cells)):=by
  intro s hs;obtain⟨a,q,rfl⟩:∃a q,p=a::q:=by
   cases p with
   |nil=>simp at hp
   |cons a q=>exact⟨a,q,rfl⟩
  exact Ew (n:=7) ho (by simp only[afZ]at hp;omega) (ahn _) hs
 have WJ:(re.dO p x).1=re.iI (re.dO p x).1.kids:=by
  obtain⟨a,q,rfl⟩:∃a q,p=a::q:=by
   cases p with
   |nil=>simp at hp
   |cons a q=>exact⟨a,q,rfl⟩
  obtain⟨h0,k,hk,fO⟩:=cd.1 ho;rw[ig x h0 hk fO,Re.eo]
 obtain⟨pre,g,h,aw,yr,hh,mR,GB⟩:=qf p 3 re ho (by rintro rfl;simp at hp);obtain⟨b0,b1,b2,rfl⟩:∃b0 b1 b2:VL.Obj,pre=[b0,b1,b2]:=by
  have:pre.length=3:=by omega
  match pre,this with
  |[_,_,_],_=>exact⟨_,_,_,rfl⟩
 have Fq:∀c,ft 3 c re p=oX re (.so 3 (re.kids.length+1) 0 re.kids.length):=by
  intro c;cases p with
  |nil=>simp at hp
  |cons a q=>rfl
 refine an func23 rfl ntmps23 results23 rfl 0 495 (by simp) (by simp) ?_;simp only[zX,simprocAttr,i64,ai re,ai x,iD,bD];refine bc [0] rfl ?_;refine aj wA rfl rfl ?_;simp only[zX,simprocAttr,i64,iD,bD,bE,bM,agd,agf];refine⟨⟨_,rfl⟩,?_⟩;refine eh 8 ?_;refine eh 8 ?_;refine eh 8 ?_;refine eh 8 ?_;refine cH [3,4,5,6] fK (by decide) (by rw[Mh];first|exact hp|rfl) rfl rfl (by simp [ah,ah.go]) rfl (congrArg V.ag wL) ?_;rw[AG];rw[Fq,GB];rw[Fq]at uR;simp only[aE,agf,agd,afQ,afS,oX];simp only[zX,simprocAttr,i64,iD,bD];have CH:(⟨0,true,8,[ft 1 ((re.atR p).1.cells.map V.d) re p]⟩::jF ((re.atR p).1.cells.map V.d) 1 re p:List VL.Obj).length=5:=by rw[afZ,Bi];first|omega|rfl
 have JD:(⟨0,true,8,[ft 1 ((re.atR p).1.cells.map V.d) re p]⟩::jF ((re.atR p).1.cells.map V.d) 1 re p:List VL.Obj).all (aG 5)=true:=by rw[agq,xH,af5];simp only[aG,agq,agA,af5];exact J7
 have Cl:(⟨0,true,8,[ft 1 ((re.atR p).1.cells.map V.d) re p]⟩::jF ((re.atR p).1.cells.map V.d) 1 re p:List VL.Obj).map (aT [7,3,4,5,6])=[⟨0,true,8,[oX re (.so 3 (re.kids.length+1) 0 re.kids.length)]⟩,b0,b1,b2,⟨g,true,8,aw.set h ((re.atR p).1.cells.map V.d)⟩]:=by rw[afR,Dm,GB,aT];simp only[afR,afU,uR];rfl
 generalize (⟨0,true,8,[ft 1 ((re.atR p).1.cells.map V.d) re p]⟩::jF ((re.atR p).1.cells.map V.d) 1 re p:List VL.Obj)=X at Hf CH JD Cl;refine ar mix [5] [(1,[7,3,4,5,6],[7,3,4,5,6]),(4,[7,3,4,5,6],[])] (by rfl) ?_;simp only[zX,simprocAttr,i64,iD,bD];refine fq [7,3,4,5,6] Hf (by decide) rfl (by rw[show X.map (λo=>some (aT [7,3,4,5,6] o))=(X.map (aT [7,3,4,5,6])).map some by rw[agy];rfl,Cl];rfl) rfl (by simp [ah.go,ah,CH]) (by rw[CH];exact JD) (show aL [7,3,4,5,6] _=.rf 6 g h 0 by rw[RL,mR];rfl) ?_;rw[Cl];simp only[aE,agf,agd];simp only[zX,simprocAttr,i64,iD,bD];refine bp mQ (by simp [ah,ah.go]) (by simp [ah,ah.go]) ?_;have ep:(aw.set h ((re.atR p).1.cells.map V.d))[h]?=some ((re.atR p).1.cells.map V.d):=agc hh;have Sf:((re.atR p).1.cells.map V.d).length=8:=by simp [Re.bG]
 generalize (re.atR p).1.cells.map V.d=C at *;simp only[zX,simprocAttr,i64,iD,bD,ep,Sf];have tp:(aw.set h C).set h (V.d (D.sc (Value.int IntKind.i64 x.op))::V.d (D.sl (List.map aV x.set))::V.d (D.sl (List.map Re.cells x.kids))::V.d (D.sc (Value.int IntKind.i64 x.mn))::V.d (D.sc (Value.int IntKind.i64 x.mx))::V.d (D.sc (Value.int IntKind.i64 x.mode))::V.d (D.sc (Value.int IntKind.i64 x.n))::V.d (D.sc (Value.bool x.neg))::List.drop 8 C)=aw.set h (x.cells.map V.d):=by rw[List.set_set,List.drop_of_length_le (by omega),Re.ae x];rfl
 rw[tp];have FQ:∀s:List VL.Obj,(∀t o,(jF (x.cells.map V.d) 3 re p)[t]?=some o->s[3+t]?=some o)->ba.go 0 s (ft 3 (x.cells.map V.d) re p)=some ((re.dO p x).1.cells.map V.d):=λs hs=>wP ho (by omega) hs;rw[Fq,GB]at FQ;refine⟨by simp [oX],by simp [oX],by simp [oX],?_⟩;simp only[oX,ags,agD,afZ,af0,afX,eJ,agZ,agH,List.drop_nil,afQ,afS]at FQ ⊢;rw[FQ]
 ·rfl
 ·exact λt o ht=>OI (r:=[_]) ht
theorem Tm (re x:Re) (p:List Int) (hp:p.length=5) (hf:re.bC=true) (hx:x.bC=true) (ho:qm re p):m7 re x p:=by
 have wA:=px p re hf (by first|omega|simp);rw[n9 ho,Re.ae re]at wA;have mQ:=gQ x hx;have fK:=Ns re hf p hp ho;have Hf:=tL (re.atR p).1.cells p re hf (by first|omega|simp) ho;have BT:=nk x p re ho;unfold m7;rw[BT];rw[ai x]at mQ;unfold fC at fK;rw[ai re]at fK;have wL:=fG (ρ:=[3,4,5,6,7]) (b:=0) (b':=3) (re.atR p).1.cells re p (λcB=>by first|rfl|exact(cB rfl).elim);have uR:=fG (ρ:=[8,3,4,5,6,7]) (b:=1) (b':=3) (re.atR p).1.cells re p (λcB=>by first|rfl|exact(cB rfl).elim);have AG:=fE (ρ:=[3,4,5,6,7]) (re.atR p).1.cells p 0 3 re (λj h1 h2=>by first|(exfalso;omega)|(exfalso;simp at h2;done)|(rcases(show j=1\/j=2\/j=3\/j=4 by omega) with rfl|rfl|rfl|rfl <;> rfl));have Dm:=fE (ρ:=[8,3,4,5,6,7]) (re.atR p).1.cells p 1 3 re (λj h1 h2=>by first|(exfalso;omega)|(exfalso;simp at h2;done)|(rcases(show j=1\/j=2\/j=3\/j=4 by omega) with rfl|rfl|rfl|rfl <;> rfl));have RL:=oq (ρ:=[8,3,4,5,6,7]) p (.rf 0 0 0 0) 1 3 re (λj h2=>by first|(exfalso;omega)|(exfalso;simp at h2;done)|(rcases(show j=0\/j=1\/j=2\/j=3\/j=4 by omega) with rfl|rfl|rfl|rfl|rfl <;> rfl));have Mh:=fi ((re.atR p).1.cells.map V.d) p 0 re ho;have Bi:=fi ((re.atR p).1.cells.map V.d) p 1 re ho;have xH:=fD 6 (re.atR p).1.cells p 1 re (by first|omega|simp);have J7:=cc 6 1 (re.atR p).1.cells re p (λcB=>by first|omega|exact(cB rfl).elim);have Sr:∀s:List VL.Obj,(∀t o,(jF (x.cells.map V.d) 3 re p)[t]?=some o->s[3+t]?=some o)->cj 8 0 s (.so 3 (re.kids.length+1) 0 re.kids.length)=some (.sl ((re.dO p x).1.kids.map Re.cells)):=by
  intro s hs;obtain⟨a,q,rfl⟩:∃a q,p=a::q:=by
   cases p with
   |nil=>simp at hp
   |cons a q=>exact⟨a,q,rfl⟩
  exact Ew (n:=7) ho (by simp only[afZ]at hp;omega) (ahn _) hs
 have WJ:(re.dO p x).1=re.iI (re.dO p x).1.kids:=by
  obtain⟨a,q,rfl⟩:∃a q,p=a::q:=by
   cases p with
   |nil=>simp at hp
   |cons a q=>exact⟨a,q,rfl⟩
  obtain⟨h0,k,hk,fO⟩:=cd.1 ho;rw[ig x h0 hk fO,Re.eo]
 obtain⟨pre,g,h,aw,yr,hh,mR,GB⟩:=qf p 3 re ho (by rintro rfl;simp at hp);obtain⟨b0,b1,b2,b3,rfl⟩:∃b0 b1 b2 b3:VL.Obj,pre=[b0,b1,b2,b3]:=by
  have:pre.length=4:=by omega
  match pre,this with
  |[_,_,_,_],_=>exact⟨_,_,_,_,rfl⟩
 have Fq:∀c,ft 3 c re p=oX re (.so 3 (re.kids.length+1) 0 re.kids.length):=by
  intro c;cases p with
  |nil=>simp at hp
  |cons a q=>rfl
 refine an func23 rfl ntmps23 results23 rfl 0 495 (by simp) (by simp) ?_;simp only[zX,simprocAttr,i64,ai re,ai x,iD,bD];refine bc [0] rfl ?_;refine aj wA rfl rfl ?_;simp only[zX,simprocAttr,i64,iD,bD,bE,bM,agd,agf];refine⟨⟨_,rfl⟩,?_⟩;refine eh 8 ?_;refine eh 8 ?_;refine eh 8 ?_;refine eh 8 ?_;refine eh 8 ?_;refine cH [3,4,5,6,7] fK (by decide) (by rw[Mh];first|exact hp|rfl) rfl rfl (by simp [ah,ah.go]) rfl (congrArg V.ag wL) ?_;rw[AG];rw[Fq,GB];rw[Fq]at uR;simp only[aE,agf,agd,afQ,afS,oX];simp only[zX,simprocAttr,i64,iD,bD];have CH:(⟨0,true,8,[ft 1 ((re.atR p).1.cells.map V.d) re p]⟩::jF ((re.atR p).1.cells.map V.d) 1 re p:List VL.Obj).length=6:=by rw[afZ,Bi];first|omega|rfl
 have JD:(⟨0,true,8,[ft 1 ((re.atR p).1.cells.map V.d) re p]⟩::jF ((re.atR p).1.cells.map V.d) 1 re p:List VL.Obj).all (aG 6)=true:=by rw[agq,xH,af5];simp only[aG,agq,agA,af5];exact J7
 have Cl:(⟨0,true,8,[ft 1 ((re.atR p).1.cells.map V.d) re p]⟩::jF ((re.atR p).1.cells.map V.d) 1 re p:List VL.Obj).map (aT [8,3,4,5,6,7])=[⟨0,true,8,[oX re (.so 3 (re.kids.length+1) 0 re.kids.length)]⟩,b0,b1,b2,b3,⟨g,true,8,aw.set h ((re.atR p).1.cells.map V.d)⟩]:=by rw[afR,Dm,GB,aT];simp only[afR,afU,uR];rfl
 generalize (⟨0,true,8,[ft 1 ((re.atR p).1.cells.map V.d) re p]⟩::jF ((re.atR p).1.cells.map V.d) 1 re p:List VL.Obj)=X at Hf CH JD Cl;refine ar mix [5] [(1,[8,3,4,5,6,7],[8,3,4,5,6,7]),(4,[8,3,4,5,6,7],[])] (by rfl) ?_;simp only[zX,simprocAttr,i64,iD,bD];refine fq [8,3,4,5,6,7] Hf (by decide) rfl (by rw[show X.map (λo=>some (aT [8,3,4,5,6,7] o))=(X.map (aT [8,3,4,5,6,7])).map some by rw[agy];rfl,Cl];rfl) rfl (by simp [ah.go,ah,CH]) (by rw[CH];exact JD) (show aL [8,3,4,5,6,7] _=.rf 7 g h 0 by rw[RL,mR];rfl) ?_;rw[Cl];simp only[aE,agf,agd];simp only[zX,simprocAttr,i64,iD,bD];refine bp mQ (by simp [ah,ah.go]) (by simp [ah,ah.go]) ?_;have ep:(aw.set h ((re.atR p).1.cells.map V.d))[h]?=some ((re.atR p).1.cells.map V.d):=agc hh;have Sf:((re.atR p).1.cells.map V.d).length=8:=by simp [Re.bG]
 generalize (re.atR p).1.cells.map V.d=C at *;simp only[zX,simprocAttr,i64,iD,bD,ep,Sf];have tp:(aw.set h C).set h (V.d (D.sc (Value.int IntKind.i64 x.op))::V.d (D.sl (List.map aV x.set))::V.d (D.sl (List.map Re.cells x.kids))::V.d (D.sc (Value.int IntKind.i64 x.mn))::V.d (D.sc (Value.int IntKind.i64 x.mx))::V.d (D.sc (Value.int IntKind.i64 x.mode))::V.d (D.sc (Value.int IntKind.i64 x.n))::V.d (D.sc (Value.bool x.neg))::List.drop 8 C)=aw.set h (x.cells.map V.d):=by rw[List.set_set,List.drop_of_length_le (by omega),Re.ae x];rfl
 rw[tp];have FQ:∀s:List VL.Obj,(∀t o,(jF (x.cells.map V.d) 3 re p)[t]?=some o->s[3+t]?=some o)->ba.go 0 s (ft 3 (x.cells.map V.d) re p)=some ((re.dO p x).1.cells.map V.d):=λs hs=>wP ho (by omega) hs;rw[Fq,GB]at FQ;refine⟨by simp [oX],by simp [oX],by simp [oX],?_⟩;simp only[oX,ags,agD,afZ,af0,afX,eJ,agZ,agH,List.drop_nil,afQ,afS]at FQ ⊢;rw[FQ]
 ·rfl
 ·exact λt o ht=>OI (r:=[_]) ht
theorem Nr (re x:Re) (p:List Int) (hp:p.length<=5) (hf:re.bC=true) (hx:x.bC=true) (ho:qm re p):m7 re x p:=by
 have:p.length=0\/p.length=1\/p.length=2\/p.length=3\/p.length=4\/p.length=5:=by omega
 rcases this with h|h|h|h|h|h
 ·exact Se re x p h hf hx ho
 ·exact Tp re x p h hf hx ho
 ·exact SQ re x p h hf hx ho
 ·exact R0 re x p h hf hx ho
 ·exact R8 re x p h hf hx ho
 ·exact Tm re x p h hf hx ho
end Go.Proofs.Ytfmdmlfhigocaaa
