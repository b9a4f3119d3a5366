/- A part of the proof (K79 K80 K81 K82 O83). -/
import Derived.Test.YtjjfioalgbecmaaGreatOQ52
set_option linter.unusedSimpArgs false
set_option linter.unusedVariables false
open Int renaming reduceNatCast' → D7
set_option maxRecDepth 100000
set_option maxHeartbeats 80000000
namespace Go.Proofs.YtjjfioalgbecmaaGreat
open Go.VL Go.Proofs.Tryz
theorem QT (re:Re):re.every ll=true->re.fh<=8500->XY re:=by
 refine Re.ind (Q:=λre=>re.every ll=true->re.fh<=8500->XY re) (λre ih hs hz=>?_) re;obtain⟨dM,jA⟩:=(Re.aD re).1 hs;obtain⟨qf,wH,IL,m7⟩:=gY.1 dM;obtain⟨q1,q2,q3,q4,_⟩:=fU.1 (ga.1 qf).1;have hW:¬iS re->∀k∈re.kids,XY k:=λhl k hk=>ih k hk (jA k hk) (J3 hs hz hl k hk);refine Uj re hs hz hW (λo4=>?_) (λo3=>?_)
 ·obtain⟨k,hk⟩:∃k,re.kids=[k]:=List.length_eq_one_iff.1 (IL (.inl o4));exact Mv re k hs hz o4 hk (hW (by unfold iS;omega) k (by rw[hk];simp))
 ·have hl:¬iS re:=by unfold iS;omega
  have YS:=J3 hs hz hl;have uG:∀k∈re.kids,∀f,((k.code f).length:Int)=k.fh:=λk hk=>kd k (jA k hk) (by have:=YS k hk;omega);have Rp:∀k∈re.kids,0<=k.fh/\k.fh<=9000:=λk hk=>⟨(fw k (jh (jA k hk))).1,by have:=YS k hk;omega⟩
  have eU:re.kids≠[]:=by have:=q2 o3;intro h;rw[h]at this;simp at this
  have hWk:=hW hl;clear hW ih;rw[<- List.dropLast_concat_getLast eU]at hWk uG Rp ⊢;exact VK _ _ hWk (by rw[List.length_dropLast];omega) uG Rp
theorem Rb (re:Re) (hs:re.every ll=true) (hz:re.fh<=8500) (eZ:re.size<=1000):Bf prog 40 [.d (.el re.cells)] 5 ((re.code 0).map bM.cells):=by have hw:=QT re hs hz [] cC;rw[ajO,show (([]:List bM).length:Int)=0 from rfl]at hw;generalize re.code 0=L at *;unfold Bf;refine zE func40 rfl ntmps40 results40 rfl 0 253 ak ak ?_;simp only[zQ,simprocAttr];refine fX (pre:=[]) (post:=[]) 0 5 rfl rfl rfl ?_;refine rK (C:=[]) (C':=L) hw cB cB (tl:=[]) ?_;simp only[zQ,simprocAttr,bt,fy,ajN,ajO,akh,Cl];exact Tv (id:=5) cB rfl ak
theorem VW {re:Re} (hs:re.every ll=true) (h:re.fh<=8000) (ho:¬iS re):Re.cF re.kids<=8000:=by
 obtain⟨dM,jA⟩:=(Re.aD re).1 hs;obtain⟨hc,wH,IL,h0⟩:=gY.1 dM;obtain⟨hb,Oc⟩:=ga.1 hc;obtain⟨q1,q2,q3,q4,q5,q6,q7,q8,q9,jc⟩:=fU.1 hb;have hz:=(jl (l:=re.kids) (λk hk=>fw k (jh (jA k hk)))).1;have hu:=z8 (re:=re) ae;unfold iS at ho;generalize Re.cF re.kids=z at *;rw[bd]at hu;by_cases o3:re.op=3
 ·rw[be o3]at hu;have:=q2 o3;omega
 rw[ap o3]at hu;by_cases o5:re.op=5
 ·rw[be o5]at hu;omega
 rw[ap o5]at hu;by_cases o4:re.op=4
 ·rw[be o4]at hu;by_cases om:re.mx=-1
  ·rw[be om]at hu;have:1*z<=(re.mn+1)*z:=akp ae ae;omega
  ·rw[ap om]at hu;have hm:=(Oc o4).resolve_left om;have:1*z<=re.mx*z:=akp ae ae;omega
 ·rw[ap o4]at hu;omega
theorem Jj:∀a b:List Re,Re.cF (a++b)=Re.cF a+Re.cF b
 |[],b=>by simp [Re.cF]
 |x::a,b=>by simp only[ajN,Re.cF,Jj a b];omega
def NW (re:Re):Bool:=decide (re.op=1\/re.op=11->re.kids=[])
theorem U5 {ai top:Int} (re:Re) (hw:re.whole ai top=true):re.every NW=true:=by revert hw;refine Re.ind (Q:=λre=>re.whole ai top=true->re.every NW=true) (λre ih hw=>?_) re;obtain⟨h1,h2⟩:=(Re.aD re).1 hw;obtain⟨⟨a1,a2,a3,a4⟩,_⟩:=eG.1 h1;refine(Re.aD re).2 ⟨bi λh=>?_,λk hk=>ih k hk (h2 k hk)⟩;unfold cr at a4;rw[bd,bd,bd]at a4;simp only at a4;exact akj ae
theorem TD (re:Re):re.every ll=true->re.every NW=true->re.fh<=8000->aM prog 39 [.d (.el re.cells)] (i64 re.fh):=by
 refine Re.ind (Q:=λre=>re.every ll=true->re.every NW=true->re.fh<=8000->aM prog 39 [.d (.el re.cells)] (i64 re.fh)) (λre ih hs hlf hz=>?_) re;obtain⟨dM,jA⟩:=(Re.aD re).1 hs;obtain⟨oT,BL⟩:=(Re.aD re).1 hlf;obtain⟨qf,wH,IL,m7⟩:=gY.1 dM;obtain⟨hb,Oc⟩:=ga.1 qf;obtain⟨q1,q2,q3,q4,q5,q6,q7,q8,q9,jc⟩:=fU.1 hb;have VF:∀k∈re.kids,0<=k.fh/\k.fh<=10000:=λk hk=>fw k (jh (jA k hk));have hLe:Re.cF re.kids<=8000:=by
  by_cases hl:iS re
  ·have:re.kids=[]:=by
    rcases hl with o|o
    ·exact m7 o
    ·exact of_decide_eq_true oT o
   rw[this];simp [Re.cF]
  ·exact VW hs hz hl
 have YS:∀k∈re.kids,k.fh<=8000:=λk hk=>ald (wQ (λx hx=>(VF x hx).1) hk) hLe;have hT:∀i,0<=Re.cF (re.kids.take i)/\Re.cF (re.kids.take i)<=8000:=λi=>by
  have h1:=(jl (l:=re.kids.take i) (λk hk=>VF k (akv hk))).1;have h2:=(jl (l:=re.kids.drop i) (λk hk=>VF k (ak1 hk))).1;have h3:Re.cF re.kids=Re.cF (re.kids.take i)+Re.cF (re.kids.drop i):=by
   conv=>lhs;rw[<- List.take_append_drop i re.kids]
   exact Jj _ _
  omega
 have WY:=fw re (jh hs);have IN:=z8 (re:=re) ae;refine bo func39 ntmps39 results39 0 1610615869 ?_;simp only[zQ,simprocAttr,-D7,Re.ah re,ajM];refine aw (λn e s=>∃i:Nat,n=re.kids.length-i/\i<=re.kids.length/\e 0=.d (.el re.cells)/\e 3=i64 (Re.cF (re.kids.take i))/\e 10=i64 re.kids.length/\e 11=i64 i/\s=[]) ⟨_,_,_,bA.refl,0,rfl,ae,by rw[Re.ah re];rfl,rfl,rfl,rfl,rfl⟩ ?_;rintro n e s ⟨i,rfl,hi,h0,h3,cA,eI,rfl⟩;rcases akd i re.kids.length with az|gx
 ·obtain⟨k,hk⟩:∃k,re.kids[i]?=some k:=cc az;have hm:=List.mem_of_getElem? hk;have aA:(i:Int)<re.kids.length:=ae;have hi0:(0:Int)<=(i:Int):=ae;have h5:=hT (i+1);have h6:=hT i;have Pm:=ih k hm (jA k hm) (BL k hm) (YS k hm);have BK:Re.cF (re.kids.take (i+1))=Re.cF (re.kids.take i)+k.fh:=by rw[bm hk,Re.Hq]
  have w1:IntKind.i64.wrap (Re.cF (re.kids.take i)+k.fh)=Re.cF (re.kids.take (i+1)):=by rw[<- BK];exact bG _ ae
  have m1:min (Re.cF (re.kids.take (i+1))) 8193=Re.cF (re.kids.take (i+1)):=ae;simp only[zX,simprocAttr,-D7,Re.ah re,iD,bD,h0,h3,cA,eI,i64,aA,hi0,az,ajP,hk,ajM];refine dY Pm ?_;simp only[zX,simprocAttr,-D7,Re.ah re,iD,bD,h0,h3,cA,eI,i64,w1,m1];refine⟨re.kids.length-(i+1),_,_,ae,bA.refl,i+1,rfl,az,?_,?_,?_,?_,rfl⟩ <;> (try simp only[zU,Nat.reduceBEq,Nat.reduceShiftRight,Nat.reduceMod,Nat.reduceEqDiff,reduceIte])
  ·rw[h0,Re.ah re];rfl
  ·exact cA
  ·rw[bG _ ae];rfl
 ·have dX:i=re.kids.length:=by omega
  subst dX;rw[akg]at h3;have ZY:0<=Re.cF re.kids:=by have:=hT re.kids.length;rw[akg]at this;exact this.1
  generalize Re.cF re.kids=z at *;have ait:0<=re.mn*z/\re.mn*z<=32*z:=⟨ak4 ae ae,akp ae ae⟩
  have DJ:∀x:Int,-1000000000<=x/\x<=1000000000->IntKind.i64.wrap x=x:=λx h=>bG x ae;have ml:∀x:Int,x=re.fh->min x 8193=re.fh:=λx h=>ae;clear hs hlf dM jA oT BL ih hb qf VF YS hT IL m7;by_cases o1:re.op=1
  ·rw[be (.inl o1)]at IN;simp only[zX,simprocAttr,-D7,h0,h3,cA,eI,i64,Re.ah re,iD,bD,ajM,aku,o1,ml 1 IN.symm]
  by_cases sm:re.op=11
  ·rw[be (.inr sm)]at IN;simp only[zX,simprocAttr,-D7,h0,h3,cA,eI,i64,Re.ah re,iD,bD,ajM,aku,sm,ml 1 IN.symm]
  rw[ap (λh=>h.elim o1 sm)]at IN;by_cases o3:re.op=3
  ·rw[be o3]at IN;have w1:=DJ ((re.kids.length:Int)-1) ae;have w2:=DJ (2*((re.kids.length:Int)-1)) ae;have w3:=DJ (z+2*((re.kids.length:Int)-1)) ae;have m:=ml (z+2*((re.kids.length:Int)-1)) ae;simp only[zX,simprocAttr,-D7,h0,h3,cA,eI,i64,Re.ah re,iD,bD,ajM,aku,o3,w1,w2,w3,m]
  rw[ap o3]at IN;by_cases o5:re.op=5
  ·rw[be o5]at IN;have w1:=DJ (z+2) ae;have m:=ml (z+2) ae;simp only[zX,simprocAttr,-D7,h0,h3,cA,eI,i64,Re.ah re,iD,bD,ajM,aku,o5,w1,m]
  rw[ap o5]at IN;by_cases o4:re.op=4
  ·rw[be o4]at IN;have w1:=DJ (re.mn*z) ae;by_cases om:re.mx=-1
   ·rw[be om,Int.add_mul]at IN;have w2:=DJ (z+2) ae;have w3:=DJ (re.mn*z+(z+2)) ae;have m:=ml (re.mn*z+(z+2)) ae;simp only[zX,simprocAttr,-D7,h0,h3,cA,eI,i64,Re.ah re,iD,bD,ajM,aku,o4,om,w1,w2,w3,m]
   ·rw[ap om]at IN;have ZU:=(Oc o4).resolve_left om;have e1:(re.mx-re.mn)*(z+1)=re.mx*z-re.mn*z+(re.mx-re.mn):=by rw[Int.mul_add,Int.sub_mul,Int.mul_one]
    have ahh:0<=re.mx*z/\re.mx*z<=32*z:=⟨ak4 ae ae,akp ae ae⟩
    have w2:=DJ (z+1) ae;have w3:=DJ (re.mx-re.mn) ae;have w4:=DJ ((re.mx-re.mn)*(z+1)) ae;have w5:=DJ (re.mn*z+(re.mx-re.mn)*(z+1)) ae;have m:=ml (re.mn*z+(re.mx-re.mn)*(z+1)) ae;simp only[zX,simprocAttr,-D7,h0,h3,cA,eI,i64,Re.ah re,iD,bD,ajM,aku,o4,om,w1];refine cu mix [] [] ?_;simp only[zX,simprocAttr,-D7,h0,h3,cA,eI,i64,Re.ah re,iD,bD,ajM,aku,o4,om,w1,w2,w3,w4,w5,m]
  rw[ap o4]at IN;have m:=ml z IN.symm;simp only[zX,simprocAttr,-D7,h0,h3,cA,eI,i64,Re.ah re,iD,bD,ajM,aku,o1,sm,o3,o5,o4,m]
theorem M0 (re:Re) (hv:re.every Aa=true) (hf:re.dx=true) (eZ:re.size<=1000):aM prog 38 [.d (.el re.cells),.fu []] (bV (re.comp [])):=by
 have h:=Fi re hv hf [] [] 0 (List.prefix_refl _) cC;refine⟨h.1,λσ w vals hI hl hv=>?_⟩;have hp:=mV (p:=none) (o':=⟨0,true,1,[]⟩) (w':=w) hI rfl rfl rfl (ajZ _) (λ_ _=>rfl) (λ_ _ h'=>by cases h') (λ_=>.inl (.inl ⟨rfl,rfl⟩));refine(h.2 _ w vals hp.2 hl (λi x hx=>?_)).mono λe w' ⟨u,v,σ',s',h1,h2,h3,h4,h5,E',h6,h7⟩=>?_
 ·match i with
  |0 =>
   simp only[List.getElem?_cons_zero,ajU]at hx;subst hx;exact(hv 0 _ rfl).aR hp.1
  |1 =>
   simp only[List.getElem?_cons_succ,List.getElem?_cons_zero,ajU]at hx;subst hx;have hu:=(hv 1 (.fu []) rfl).aR hp.1;generalize vals.getD 1 undef=u at hu;cases hu with|fu hx=>?_
   exact .so ⟨0,true,1,[]⟩ (by simp [dL]) (ajZ _) ⟨_,_,rfl⟩ (λ_=>.inl ⟨bP _ _ _,⟨_,rfl⟩,rfl,rfl⟩)
  |i+2=>simp at hx
 ·subst h5 h6;have:=iO h3 (lim:=0) h4 (y:=bV (re.comp [])) rfl;exact⟨u,_,σ',[],h1,(hp.1.trans h2).take (lim:=0) (ajZ _),h3.take (lim:=0) cB,this,rfl,rfl⟩
theorem MZ {P:Program}{f:FuncId}{x y:V}{c:Value}{s:List VL.Obj}{K:V->List VL.Obj->Prop} (ids:List Nat) (h:aM P f [y,.fu []] (.d (.sc c)))
  (hc:bc (br s ids).length (br s ids) x=some y) (hy:aj 0 y=true) (hk:K (.d (.sc c)) s):ar P f [x,.fu []] s K:=by
 refine⟨h.1,λσ w vals hI hl hv=>?_⟩;obtain⟨hE0,Vw⟩:=oE ids s hI;have e1:∀b,VL.Own ⟨λ_=>none,VL.Own σ (br s ids)⟩ [] b->VL.Own σ (br s ids) b:=by
  rintro b (h|⟨id,o,base,h1,_⟩)
  ·exact h
  ·simp at h1
 refine(h.2 ⟨λ_=>none,VL.Own σ (br s ids)⟩ w vals ⟨λid o ho=>by simp at ho,λid _ o _ _ _ _ ho=>by simp at ho,λb hb=>wP Vw hb,λid o _ _ ho=>by simp at ho⟩ hl
  (λi x' hx=>by
   match i with
   |0 =>
    simp only[List.getElem?_cons_zero,ajU]at hx;subst hx;have:=iO Vw ((hv 0 x rfl).aR hE0) hc;rw[akg]at this;exact this.move hy e1
   |1 =>
    simp only[List.getElem?_cons_succ,List.getElem?_cons_zero,ajU]at hx;subst hx;exact((hv 1 (.fu []) rfl).aR hE0).move cB e1
   |i+2=>simp at hx)).mono λe w' ⟨u,v,σ',s',he,hE,fS,hR,hv',jz⟩=>?_
 subst hv';subst jz;have same:=tv (w':=w') hI hE.os hE.tape hE.output hE.size λb hb=>by
  by_cases ho:VL.Own σ (br s ids) b
  ·exact hE.fj b hb ho
  ·exact hE.aZ b hb λh'=>ho (e1 b h')
 exact⟨u,_,σ,s,he,same.1,same.2,hR.aaJ,hk⟩
theorem Fq (p:iM) (hv:cS p=0) (hc:p.re.comp []=true) (hz:p.re.fh<=8000):aM prog 14 [bI p] (.tu [sH (fH p),i64 0]):=by
 obtain⟨v1,v2,v3,v4,v5⟩:=ed hv;have hC:=HH v4 p.re v5 ae;have hD:=Iv v4 p.re v5 ae [] hc;have hf:p.re.dx=true:=by
  have:∀re:Re,re.every zK=true->re.dx=true:=λre=>Re.ind (Q:=λre=>re.every zK=true->re.dx=true) (λre ih h=>by
   obtain⟨h1,h2⟩:=(Re.aD re).1 h;obtain⟨q1,q2,q3,q4,_⟩:=fU.1 (ga.1 h1).1;exact(Re.nY re).2 ⟨ae,ae,λk hk=>ih k hk (h2 k hk)⟩) re
  exact this p.re hC
 have h1:=DK p hf;rw[hv]at h1;have h2:=uM (ex:=[iD p.ai,bD p.aB]) (M0 p.re (GA v5) hf ae);have h3:=uM (ex:=[iD p.ai,bD p.aB]) (TD p.re hD (U5 p.re v5) hz);have h4:=uM (ex:=[iD p.ai,bD p.aB]) (Rb p.re hD ae ae);have WY:=fw p.re hC;have YR:=kd p.re hD ae 0;have w1:IntKind.i64.wrap (p.re.fh+1)=p.re.fh+1:=bG _ ae;have c1:¬8192<p.re.fh+1:=ae;rw[hc]at h2;unfold fH sH;cases p with
 |mk re ai aB =>
 simp only at *;generalize re.code 0=L at *;have h2:aM prog 38 _ _:=h2;have h3:aM prog 39 _ _:=h3;have h4:Bf prog 40 _ 5 (L.map bM.cells):=h4;simp only[DZ,Re.ah re,ajR,ajV,ajN,ajO,av re,i64,iD,bD,bV]at h1 h2 h3 h4;refine bo func14 ntmps14 results14 0 31 ?_;simp only[zI,simprocAttr,-D7,bI,Re.ah,bV,iD,bD];refine dY h1 ?_;simp only[zI,simprocAttr,-D7,bI,Re.ah,bV,iD,bD,ne_eq,not_true_eq_false];refine MZ [0] h2 cB rfl ?_;simp only[zI,simprocAttr,-D7,bI,Re.ah,bV,iD,bD,aj0,ajY];refine zR [0] h3 cB rfl ?_;simp only[zI,simprocAttr,-D7,bI,Re.ah,bV,iD,bD,w1,c1,gt_iff_lt];refine aX (bW.abO [0] 1 cB) ?_;refine aX bW.bn ?_;refine cu mix [] [(1,[2],[2]),(4,[2],[2]),(10,[1],[1])] ?_;simp only[zX,simprocAttr,-D7,br,ck,List.getElem?_cons_zero,aj9,List.reverse_cons,List.reverse_nil,i64,bI,Re.ah,bV,iD,bD,ajN,ajO,akh];refine⟨_,[_],rfl,λs' dM jA=>Bf.hole (k:=2) (ob:=hole) h4 rfl rfl (by rw[jA 2 ak];rfl) ⟨rfl,rfl⟩,?_⟩;simp only[zI,simprocAttr,-D7,bI,Re.ah,bV,iD,bD,aJ,hole];refine⟨rfl,λe he=>by rw[List.mem_singleton.1 he];rfl,⟨ae,ae⟩,?_⟩;have hk:(List.map (λc=>List.map V.d c) (List.map bM.cells L))++[[V.d (D.sc (Value.int IntKind.i64 0)),V.d (D.sc (Value.int IntKind.i64 0)),V.d (D.sc (Value.int IntKind.i64 0)),V.d (D.sc (Value.int IntKind.i64 0)),V.d (D.sl [])]]=List.map (λc=>List.map V.d c) (List.map bM.cells (L++[Kf])):=by simp [bM.cells,Kf,iD]
 rw[Sv _ _ (ajZ _),hk,js 7 0 _ _ _ ak,be ak];simp [dk.cells,bM.cells,Kf,iD,bD]
theorem AK {p:iM}{t:List Int} (hP:y3 p t) (hc:p.re.comp []=true):t.all (gK p.aB)=true/\∃L:List jy,L.length<=1000000000/\(∀m∈L,m.c.length<=1000000000)/\ow (fH p) t=(L,0)/\c9 p t=0/\kt p t=L /\
  aM Tryz.prog 14 [bI p] (.tu [sH (fH p),i64 0])/\aM Tryz.prog 15 [sH (fH p),.d (ao t)] (.tu [.d (.sl (L.map WC)),i64 0]):=by
 have hQ:=zL hP hc;have hz:=hP.fh;have Kb:=hP.len;have hg:=hQ.eF.Du;have hsy:=(tZ (MU (hP.eF 0 ae ae)).1).2.2.1;obtain⟨hs,he⟩:=K5 hP.valid hQ ae hsy;have hE:=ri (t:=t) hQ ae;have qf:=R9 (p:=p) (t:=t) ae;have eO:∀x∈(fH p).ins,x.set.length<=1000000000:=λx hx=>by have:=hQ.eF.aa3 x hx;omega
 have IK:=H3 (fH p) ae eO t ae;rw[he]at qf;rw[hE]at IK qf he;exact⟨hsy,_,qf.1,qf.2,hE,hs,he,Fq p hP.valid hc ae,IK⟩
theorem Bu (l:List Int) (hl:∀x∈l,l9 x) (m:List Int) (hm:∀x∈m,l9 x) :
  aM Tryz.prog 4 [.d (ao l),.d (ao m)] (bV true):=by
 obtain⟨p,t,Cb,hP,gV⟩:=Lb l m hl hm true;obtain⟨hsy,L,ZG,hL2,hE,hs,hX,Ts,IK⟩:=AK hP gV;have Kb:=hP.len;have Xq:=y7 p t hP.dx ae;have hbi:=DN p t hP.dx ae;have hbx:Cd p t=[]:=by unfold Cd;rw[be hs,AZ (zL hP gV).D];rfl
 have heq:=vR L ZG hL2;have Gi:=F8;rw[hX,hs]at Xq;rw[hbx,hs]at hbi;clear hP hE hX hbx hs;generalize fH p=g at *;simp only[bI,Re.ah p.re,ajR,ajV,ajN,ajO,aQ,i64,iD,bD,bV]at Cb Ts IK Xq hbi heq Gi;have ZY:((((0:Nat):Int))=0)=True:=eq_true rfl;refine bo Tryz.func4 Tryz.ntmps4 Tryz.results4 0 32755 ?_;simp only[zQ,simprocAttr,ao];refine dY Cb ?_;simp only[zQ,simprocAttr,ao];refine dY Ts ?_;simp only[zQ,simprocAttr,ao];refine dY IK ?_;simp only[zQ,simprocAttr,ao];refine dY Xq ?_;simp only[zQ,simprocAttr,ao];refine dY hbi ?_;simp only[zQ,simprocAttr,ao,sy,ajV,ZY,decide_true];refine dY heq ?_;simp only[zQ,simprocAttr,ao];refine dY Gi ?_;simp only[zQ,simprocAttr,ao]
end Go.Proofs.YtjjfioalgbecmaaGreat
