/- A part of the proof (F49 O23 O15 O16). -/
import Derived.Test.YtjjfioalgbecmaaGreatOQ34
import Derived.Test.YtjjfioalgbecmaaGreatOQ36
set_option linter.unusedSimpArgs false
set_option linter.unusedVariables false
open Nat renaming reduceShiftRight → jN, reduceMod → oN, reduceEqDiff → oV, reduceBEq → pZ
open Int renaming reduceEq → D6, reduceNatCast' → D7
set_option maxRecDepth 100000
set_option maxHeartbeats 80000000
namespace Go.Proofs.YtjjfioalgbecmaaGreat
open Go.VL Go.Proofs.Tryz
theorem Iy (p:iM) (g:Bool) (hg:g=(decide (0<=p.ai)&&decide (p.ai<=9))) :
  (if (p.re.vw p.ai (gH p.aB) 1 0 g).1=true then (if (p.re.vw p.ai (gH p.aB) 1 0 g).2.2=true then (0:Int) else 1) else 4)=cS p:=by
 obtain⟨a1,_,_,a4⟩:=Xi p.ai (gH p.aB) p.re 1 0 g ae ae;by_cases h:(p.re.vw p.ai (gH p.aB) 1 0 g).1=true
 ·have h1:=a1.1 h;have hv:cS p=if p.ai<0\/9<p.ai\/p.re.whole p.ai (gH p.aB)=false then 1 else 0:=by unfold cS;rw[bd]
  rw[be h,hv,(a4 h).2,hg];cases hw:p.re.whole p.ai (gH p.aB)
  ·rw[ap ak,be (.inr (.inr rfl))]
  ·by_cases hc:p.ai<0\/9<p.ai
   ·rw[ap (by simp only[aj4,aj5,decide_eq_true_eq];omega),sP]
   ·rw[be (by simp only[aj4,aj5,decide_eq_true_eq];omega),ap (by rintro (h'|h'|h') <;> first|omega|cases h')]
 ·have hh:¬(0+(p.re.size:Int)<=256/\1+p.re.depth-1<=24):=λhh=>h (a1.2 hh);have hv:cS p=4:=by unfold cS;rw[sP]
  rw[ap h,hv]
theorem DK (p:iM) (hf:p.re.dx=true):aM prog 20 [.ag ((DZ p).map .d)] (i64 (cS p)):=by
 have hto:=Ul p.aB;have htt:gH p.aB<=1114111:=by unfold gH;split <;> omega
 have hk:∀g:Bool,g=(decide (0<=p.ai)&&decide (p.ai<=9))->ar prog 44 [.d (.el (DZ p)),i64 1,.rf 0 0 0 0,.rf 1 0 0 0,.d (.el (DZ p)),.rf 3 0 0 0,.rf 4 0 0 0] [nW 0,gO g,qG false p,nW (gH p.aB),jo 44]
   λv s=>v=bV (p.re.vw p.ai (gH p.aB) 1 0 g).1/\s=[nW (p.re.vw p.ai (gH p.aB) 1 0 g).2.1,gO (p.re.vw p.ai (gH p.aB) 1 0 g).2.2,qG false p,nW (gH p.aB),jo 44]:=by
  intro g _;have:=QY p (gH p.aB) htt p.re hf 1 0 g false (.d (.el (DZ p))) (.inr rfl) ae ae ae ae;exact uM (ex:=[iD p.ai,bD p.aB]) this
 have fin:=λg hg=>Iy p g hg;generalize hG:(decide (0<=p.ai)&&decide (p.ai<=9))=G at hk fin;have hk:=hk G rfl;have fin:=fin G rfl;generalize p.re.vw p.ai (gH p.aB) 1 0 G=R at hk fin;obtain⟨R1,R2,R3⟩:=R;simp only at fin;rw[<- fin];simp only[qG,iZ p,iD,bD,bV,i64,ajR,ajV]at hk hto ⊢;refine bo func20 ntmps20 results20 0 127 ?_;simp only[zI,simprocAttr,iD,bD,ajR,ajV];by_cases g1:0<=p.ai;all_goals
  try (by_cases g2:p.ai<=9)
 all_goals
  first
   |(have hGv:G=true:=by rw[<- hG,bi g1,bi g2];rfl
     subst hGv;simp only[zI,simprocAttr,iD,bD,g1,g2])
   |(have hGv:G=false:=by rw[<- hG,bi g1,ce g2];rfl
     subst hGv;simp only[zI,simprocAttr,iD,bD,g1,g2])
   |(have hGv:G=false:=by rw[<- hG,ce g1];rfl
     subst hGv;simp only[zI,simprocAttr,iD,bD,g1])
  refine dY hto ?_;simp only[zI,simprocAttr,iD,bD];refine bE [0] rfl ?_;refine cV [1,2,0,3,4] hk aU rfl rfl rfl (by simp [aj,aj.go]) (by simp [aK,nW,gO,qG,jo,aj,aj.go,i64,bV]) rfl ?_;cases R1
  ·simp only[zI,simprocAttr,br,ck,aN,aE,aE.go,nW,gO,qG,iZ p,jo,bV,aJ,iD,bD];all_goals exact dW
  ·cases R3
   ·simp only[zI,simprocAttr,br,ck,aN,aE,aE.go,nW,gO,qG,iZ p,jo,bV,aJ,iD,bD];all_goals exact dW
   ·simp only[zI,simprocAttr,br,ck,aN,aE,aE.go,nW,gO,qG,iZ p,jo,bV,aJ,iD,bD];all_goals exact dW
theorem Rc (re:Re) (hs:re.every oO=true):aM Tryz.prog 27 [sN re] (bV (mi re)):=by
 have hl:=CQ re hs;have hlr:=Cc re;have hp:=λK hk=>cV [1] (Uv re hs) aU rfl (s:=[bf re,⟨0,true,1,[[.cl (.func 58) [] [.rf 1 0 0 0]]]⟩]) (args:=[sN re,.rf 1 0 0 0]) rfl (by rw[av];simp [aE,aE.go,i64,bV]) (by rw[av];simp [aj,aj.go,i64,bV]) cB (r':=bV (re.every Bn)) rfl (K:=K) hk;have w1:IntKind.i64.wrap (1+iR re)=1+iR re:=bG _ ae;unfold mi;rw[av]at hl;simp only[av re,i64,bf,Re.ah re,ajR,ajV,iD,bD]at hl hp;generalize iR re=y at *;by_cases c:1+y<=8192
 ·rw[bi c,ak5];refine bo Tryz.func27 Tryz.ntmps27 Tryz.results27 0 15 ?_;simp only[zI,simprocAttr,av re,iD,bD,bV];refine dD hl (by simp [aj,aj.go]) rfl ?_;simp only[zI,simprocAttr,av re,iD,bD,bV,w1,c];refine hp _ ?_;simp only[zI,simprocAttr,av re,iD,bD,bV,w1,c];all_goals rfl
 ·rw[ce c,Bool.false_and];refine bo Tryz.func27 Tryz.ntmps27 Tryz.results27 0 15 ?_;simp only[zI,simprocAttr,av re,iD,bD,bV];refine dD hl (by simp [aj,aj.go]) rfl ?_;simp only[zI,simprocAttr,av re,iD,bD,bV,w1,c];all_goals rfl
theorem Yk {re:Re}{ai top:Int} (h:bU re ai top=true) (hc:ai<=9) (hk:re.kids.length<=1000):oO re=true:=by
 obtain⟨h1,h2,h3,h4,h5⟩:=eG.1 h;have eO:re.set.length<=64:=by
  split at h2
  ·simp only[gT,aj5,decide_eq_true_eq]at h2;exact h2.1
  ·omega
 have vd:(re.op=4\/re.op=5\/re.op=7\/re.op=8)->(cr re.op).1=1/\(cr re.op).2=1:=λo=>by rcases o with o|o|o|o <;> rw[o] <;> simp [cr]
 have HX:re.op=3->(cr re.op).1=2:=λo=>by rw[o];simp [cr]
 refine lN.2 ⟨λo=>?_,λo=>?_,hk,?_⟩
 ·have:=vd o;omega
 ·have:=HX o;omega
 ·by_cases o4:re.op=4
  ·rw[be o4]at h3;rw[bd,bd]at h4;refine⟨ae,ae,ae,ae,λ_=>ae,ae,ae,λh=>ae,λh=>ae,ae,ae,ae⟩
  ·rw[ap o4]at h3;refine⟨ae,ae,ae,ae,λh=>absurd h o4,?_⟩;by_cases o5:re.op=5\/re.op=6\/re.op=10
   ·rw[be o5]at h4;exact⟨ae,ae,λh=>ae,λh=>ae,ae,ae,ae⟩
   ·rw[ap o5]at h4;by_cases sm:re.op=11
    ·rw[be sm]at h4;exact⟨ae,ae,λh=>ae,λh=>ae,ae,ae,ae⟩
    ·rw[ap sm]at h4;exact⟨ae,ae,λh=>ae,λh=>ae,ae,ae,ae⟩
theorem qu {ai top:Int} (hc:ai<=9) (re:Re) (h:re.whole ai top=true) (hs:re.size<=256):re.every oO=true:=by revert h hs;refine Re.ind (Q:=λre=>re.whole ai top=true->re.size<=256->re.every oO=true) (λre ih h hs=>?_) re;obtain⟨a1,a2⟩:=(Re.aD re).1 h;have:=Re.pR re.kids;have:=Re.size_eq re;exact(Re.aD re).2 ⟨Yk a1 hc ae,λk hk=>ih k hk (a2 k hk) (by have:=Re.de hk;omega)⟩
def wM (p:iM):Int:=if cS p≠0 then cS p else if p.re.cP (List.replicate 10 false) false=false then 10 else if mi p.re=false then 4 else 0
theorem AS (p:iM) (hf:p.re.dx=true):aM Tryz.prog 8 [bI p] (i64 (wM p)):=by
 have h1:=DK p hf;have h2:cS p=0->aM Tryz.prog 26 [sN p.re,kV (List.replicate 10 false),bV false] (bV (p.re.cP (List.replicate 10 false) false)):=λhv=>by obtain⟨v1,v2,v3,v4,v5⟩:=ed hv;exact Ug p.re hf (qu v4 p.re v5 v1) _ _ ak
 have h3:cS p=0->aM Tryz.prog 27 [sN p.re] (bV (mi p.re)):=λhv=>by obtain⟨v1,v2,v3,v4,v5⟩:=ed hv;exact Rc p.re (qu v4 p.re v5 v1)
 unfold wM;generalize cS p=vr at *;cases p with
 |mk re ai aB =>
 simp only at *;generalize re.cP (List.replicate 10 false) false=kb at *;generalize mi re=sb at *;simp only[DZ,Re.ah re,ajR,ajV,ajN,ajO,av re,i64,iD,bD,bV,kV,List.replicate]at h1 h2 h3;by_cases hv:vr=0
 ·subst hv;have h2:=h2 rfl;have h3:=h3 rfl;rw[ap ak];cases kb with
  |false =>
   rw[be rfl];refine bo Tryz.func8 Tryz.ntmps8 Tryz.results8 0 15 ?_;simp only[zI,simprocAttr,bI,Re.ah,bV,iD,bD];refine dY h1 ?_;simp only[zI,simprocAttr,bI,Re.ah,bV,iD,bD,ne_eq,not_true_eq_false];refine dD h2 (by simp [aj,aj.go]) rfl ?_;simp only[zI,simprocAttr,bI,Re.ah,bV,iD,bD,aj2];all_goals rfl
  |true =>
   rw[ap ak];cases sb with
   |false =>
    rw[be rfl];refine bo Tryz.func8 Tryz.ntmps8 Tryz.results8 0 15 ?_;simp only[zI,simprocAttr,bI,Re.ah,bV,iD,bD];refine dY h1 ?_;simp only[zI,simprocAttr,bI,Re.ah,bV,iD,bD,ne_eq,not_true_eq_false];refine dD h2 (by simp [aj,aj.go]) rfl ?_;simp only[zI,simprocAttr,bI,Re.ah,bV,iD,bD,aj0];refine dD h3 (by simp [aj,aj.go]) rfl ?_;simp only[zI,simprocAttr,bI,Re.ah,bV,iD,bD,aj2];all_goals rfl
   |true =>
    rw[ap ak];refine bo Tryz.func8 Tryz.ntmps8 Tryz.results8 0 15 ?_;simp only[zI,simprocAttr,bI,Re.ah,bV,iD,bD];refine dY h1 ?_;simp only[zI,simprocAttr,bI,Re.ah,bV,iD,bD,ne_eq,not_true_eq_false];refine dD h2 (by simp [aj,aj.go]) rfl ?_;simp only[zI,simprocAttr,bI,Re.ah,bV,iD,bD,aj0];refine dD h3 (by simp [aj,aj.go]) rfl ?_;simp only[zI,simprocAttr,bI,Re.ah,bV,iD,bD,aj0];all_goals rfl
 ·rw[be hv];refine bo Tryz.func8 Tryz.ntmps8 Tryz.results8 0 15 ?_;simp only[zI,simprocAttr,bI,Re.ah,bV,iD,bD];refine dY h1 ?_;simp only[zI,simprocAttr,bI,Re.ah,bV,iD,bD,ne_eq,hv,not_false_eq_true];all_goals rfl
section
variable (t:List Int) (root parts:D) (bg nb:Nat) (Bs:List (List Bool)) (b a:Nat)
theorem tX (C:List aq) (tl:List VL.Obj):List.take 6 (wO t root parts bg nb Bs b a C++tl)=wO t root parts bg nb Bs b a C:=rfl
def wS (C:List aq):List VL.Obj:=wO t root parts bg nb Bs b a C
theorem PM (re:Re) (ho:re.op≠2/\re.op≠3/\re.op≠4/\re.op≠5):yq t root parts bg nb Bs b a re:=by
 obtain⟨o2,o3,o4,o5⟩:=ho;intro k C hC;have gL:=λC=>xI t root parts bg nb Bs b a C;have qf:C.length<=1000000000000:=ae;by_cases o1:re.op=1
 ·have hc:re.emit k C=C++[qC re k]:=by rw[Re.iK,be o1]
  rw[hc];have hp:=λK hk=>vm (t:=t) (root:=root) (parts:=parts) (bg:=bg) (nb:=nb) (Bs:=Bs) (b:=b) (a:=a) (C:=C) qf (qC re k) (re.bk k) (.ag [i64 1,i64 0,i64 0,i64 0,.cl (.func 65) [] [mB b a,.rf 6 0 0 0]]) (by simp [nZ,nZ.go,ss,qC,aq.cells,cj,o1,mB,nB,i64]) (K:=K) hk;generalize C++[qC re k]=C2 at *;simp only[Re.ek,o1,D6,or_self,or_true,true_or,if_false,if_true,iD,bD,i64]at hp;refine lr Tryz.func64 rfl Tryz.ntmps64 Tryz.results64 rfl 6 1278813932664544596687975450732993771492559903679 (ajZ 6) (by first|decide|(simp [dy];done)) ?_;simp only[zQ,simprocAttr,-D7,dy,wO,Re.ek,o1,or_self,or_true,true_or,if_false,if_true];refine hp _ ?_;simp only[zQ,simprocAttr,-D7,tX,gL];rfl
 by_cases sm:re.op=11
 ·have hc:re.emit k C=C++[gQ re k]:=by rw[Re.iK,bd,sP]
  rw[hc];have hp:=λK hk=>vm (t:=t) (root:=root) (parts:=parts) (bg:=bg) (nb:=nb) (Bs:=Bs) (b:=b) (a:=a) (C:=C) qf (gQ re k) (re.bk k) (.ag [i64 5,i64 0,i64 0,i64 0,.cl (.func 67) [] [.rf 6 0 0 0,mB b a]]) (by simp [nZ,nZ.go,ss,gQ,aq.cells,cj,sm,mB,nB,i64]) (K:=K) hk;generalize C++[gQ re k]=C2 at *;simp only[Re.ek,sm,D6,or_self,or_true,true_or,if_false,if_true,iD,bD,i64]at hp;refine lr Tryz.func64 rfl Tryz.ntmps64 Tryz.results64 rfl 6 1278813932664544596687975450732993771492559903679 (ajZ 6) (by first|decide|(simp [dy];done)) ?_;simp only[zQ,simprocAttr,-D7,dy,wO,Re.ek,sm,or_self,or_true,true_or,if_false,if_true];refine hp _ ?_;simp only[zQ,simprocAttr,-D7,tX,gL];rfl
 by_cases o7:re.op=7
 ·have hc:re.emit k C=C++[gQ re k]:=by rw[Re.iK,bd,sP]
  rw[hc];have hp:=λK hk=>vm (t:=t) (root:=root) (parts:=parts) (bg:=bg) (nb:=nb) (Bs:=Bs) (b:=b) (a:=a) (C:=C) qf (gQ re k) (re.bk k) (.ag [i64 5,i64 0,i64 0,i64 0,.cl (.func 69) [] [mB b a,.rf 6 0 0 0]]) (by simp [nZ,nZ.go,ss,gQ,aq.cells,cj,o7,mB,nB,i64]) (K:=K) hk;generalize C++[gQ re k]=C2 at *;simp only[Re.ek,o7,D6,or_self,or_true,true_or,if_false,if_true,iD,bD,i64]at hp;refine lr Tryz.func64 rfl Tryz.ntmps64 Tryz.results64 rfl 6 1278813932664544596687975450732993771492559903679 (ajZ 6) (by first|decide|(simp [dy];done)) ?_;simp only[zQ,simprocAttr,-D7,dy,wO,Re.ek,o7,or_self,or_true,true_or,if_false,if_true];refine hp _ ?_;simp only[zQ,simprocAttr,-D7,tX,gL];rfl
 by_cases o8:re.op=8
 ·have hc:re.emit k C=C++[gQ re k]:=by rw[Re.iK,bd,sP]
  rw[hc];have hp:=λK hk=>vm (t:=t) (root:=root) (parts:=parts) (bg:=bg) (nb:=nb) (Bs:=Bs) (b:=b) (a:=a) (C:=C) qf (gQ re k) (re.bk k) (.ag [i64 5,i64 0,i64 0,i64 0,.cl (.func 69) [] [mB b a,.rf 6 0 0 0]]) (by simp [nZ,nZ.go,ss,gQ,aq.cells,cj,o8,mB,nB,i64]) (K:=K) hk;generalize C++[gQ re k]=C2 at *;simp only[Re.ek,o8,D6,or_self,or_true,true_or,if_false,if_true,iD,bD,i64]at hp;refine lr Tryz.func64 rfl Tryz.ntmps64 Tryz.results64 rfl 6 1278813932664544596687975450732993771492559903679 (ajZ 6) (by first|decide|(simp [dy];done)) ?_;simp only[zQ,simprocAttr,-D7,dy,wO,Re.ek,o8,or_self,or_true,true_or,if_false,if_true];refine hp _ ?_;simp only[zQ,simprocAttr,-D7,tX,gL];rfl
 have hc:re.emit k C=C:=by rw[Re.iK,ap o1,bd,ap o2,ap o3,ap o5,ap o4]
 rw[hc];refine lr Tryz.func64 rfl Tryz.ntmps64 Tryz.results64 rfl 6 1278813932664544596687975450732993771492559903679 (ajZ 6) (by first|decide|(simp [dy];done)) ?_;simp only[zQ,simprocAttr,-D7,dy,wO,Re.ek,o1,o2,o3,o4,o5,o7,o8,sm];have hb:=gu 6 bg Bs;have Xw:((cN C.length b a C).au.all λe=>e.all (aj 6))=true:=kv 6 C.length b a ae C;rw[hb,Xw];rfl
def nX (re:Re) (k:Nat):VL.Obj:=⟨0,true,1,[[.d (re.bk k)]]⟩
theorem MB (re:Re) (k:Nat):dy b a re k=(dy b a re k).map (aE [0,1,2,3,4,5]):=by simp [dy,aE,aE.go,mB]
theorem QU (re:Re) (k:Nat):aj.go 6 (dy b a re k)=true:=by simp [dy,aj,aj.go,mB]
variable {t root parts bg nb Bs b a}
theorem qT {x:Re} (h:yq t root parts bg nb Bs b a x) (k:Nat) {C:List aq} (hC:C.length+x.eC<=1000000000000) {tl:List VL.Obj}{K:V->List VL.Obj->Prop} (hk:K (.tu []) (wO t root parts bg nb Bs b a (x.emit k C)++tl)) :
  ar Tryz.prog 64 (dy b a x k) (wO t root parts bg nb Bs b a C++tl) K :=
 Ww (h k C hC) (MB b a x k) (QU b a x k) rfl hk
variable (t root parts bg nb Bs b a)
theorem SA (re:Re) (o:re.op=2) (hE:NR re=true) (hK:∀x∈re.kids,yq t root parts bg nb Bs b a x):yq t root parts bg nb Bs b a re:=by
 intro k C hC;obtain⟨q1,q2,q3,_⟩:=rN.1 hE;have gL:=λC=>xI t root parts bg nb Bs b a C;have hc:re.emit k C=Re.dj re.kids k C:=by rw[Re.iK,bd,bd,be o]
 have hz:re.eC=Re.cf re.kids:=by rw[Re.ox,xU,bd,be o]
 rw[hz]at hC;rw[hc];refine lr Tryz.func64 rfl Tryz.ntmps64 Tryz.results64 rfl 6 1278813932664544596687975450732993771492559903679 (ajZ 6) (by first|decide|(simp [dy];done)) ?_;simp only[zQ,simprocAttr,-D7,dy,wO,Re.ek,o,or_self,if_false,Re.oz];refine aw (λn e s=>∃i:Nat,n=re.kids.length-i/\i<=re.kids.length/\e 3=.rf 4 0 0 0/\e 46=.d (.sl (Re.dP re.kids k))/\e 47=i64 re.kids.length/\e 48=i64 i/\s=wS t root parts bg nb Bs b a (Re.dj (re.kids.take i) k C)++[nX re k])
  ⟨_,_,_,bA.refl,0,rfl,ae,rfl,rfl,rfl,rfl,by simp [wS,wO,Re.dj,nX,Re.ek,o,iD,bD]⟩ ?_
 rintro n e s ⟨i,rfl,hi,h3,Q1,UH,ZK,rfl⟩;rcases akd i re.kids.length with az|gx
 ·obtain⟨x,hx⟩:∃x,re.kids[i]?=some x:=cc az;have hm:=List.mem_of_getElem? hx;have aA:(i:Int)<(re.kids.length:Int):=ae;have hi0:(0:Int)<=(i:Int):=ae;have hnd:=wk re.kids k i x hx;have eZ:Re.cf (re.kids.take i)+x.eC<=Re.cf re.kids:=by
   have h1:re.kids=re.kids.take (i+1)++re.kids.drop (i+1):=(List.take_append_drop _ _).symm;have h2:Re.cf re.kids=Re.cf (re.kids.take (i+1))+Re.cf (re.kids.drop (i+1)):=by rw[<- iu,<- h1]
   rw[h2,bm hx,iu];simp only[Re.cf];omega
  have hw:=λK hk=>qT (hK x hm) (k+Re.ba (re.kids.take i)) (C:=Re.dj (re.kids.take i) k C) (by rw[Re.vg];omega) (tl:=[nX re k]) (K:=K) hk;rw[<- DM,<- bm hx]at hw;generalize Re.dj (re.kids.take i) k C=C1 at *;generalize WB:Re.dj (re.kids.take (i+1)) k C=C2 at *;unfold dy wO at hw;simp only[zQ,simprocAttr,-D7,wS,wO,h3,Q1,UH,ZK,aA,hi0,az,Re.oz,ajP,hnd,ajN,ajO];refine hw _ ?_;simp only[zQ,simprocAttr,-D7,h3,Q1,UH,ZK];refine⟨re.kids.length-(i+1),_,_,ae,bA.refl,i+1,rfl,az,?_,?_,?_,?_,by rw[WB]⟩ <;> (try simp only[zU,pZ,jN,oN,oV,reduceIte])
  ·exact h3
  ·exact Q1
  ·exact UH
  ·rw[bG _ ae];rfl
 ·have dX:i=re.kids.length:=by omega
  subst dX;rw[akg];simp only[zQ,simprocAttr,-D7,wS,h3,Q1,UH,ZK,aku,tX,gL];rfl
theorem R6 (re x:Re) (o:re.op=5) (hE:NR re=true) (hk:re.kids=[x]) (hK:yq t root parts bg nb Bs b a x):yq t root parts bg nb Bs b a re:=by
 intro k C hC;obtain⟨_,_,_,_,_,_,_,n0,n1⟩:=rN.1 hE;have gL:=λC=>xI t root parts bg nb Bs b a C;have hc:re.emit k C=x.emit k (C++[gy (2*re.n-2)])++[gy (2*re.n-1)]:=by rw[Re.iK,bd,bd,bd,bd,be o,hk];rfl
 have hz:re.eC=x.eC+2:=by rw[Re.ox,xU,bd,bd,bd,be o,hk];simp [Re.cf]
 rw[hz]at hC;rw[hc];have WL:IntKind.i64.wrap (2*re.n)=2*re.n:=bG _ ae;have wn2:IntKind.i64.wrap (2*re.n-2)=2*re.n-2:=bG _ ae;have wn3:IntKind.i64.wrap (2*re.n-1)=2*re.n-1:=bG _ ae;have oM:=λK hk=>ku (t:=t) (root:=root) (parts:=parts) (bg:=bg) (nb:=nb) (Bs:=Bs) (b:=b) (a:=a) (C:=C) ae 4 0 0 (2*re.n-2) (tl:=[nX re k]) (K:=K) hk;have hw:=λK hk=>qT hK k (C:=C++[gy (2*re.n-2)]) (by rw[ajQ,aki];omega) (tl:=[nX re k]) (K:=K) hk;have BL:(x.emit k (C++[gy (2*re.n-2)])).length<=1000000000000:=by rw[Re.ez,ajQ,aki];omega
 have Fh:=λK hk=>ku (t:=t) (root:=root) (parts:=parts) (bg:=bg) (nb:=nb) (Bs:=Bs) (b:=b) (a:=a) (C:=x.emit k (C++[gy (2*re.n-2)])) BL 4 0 0 (2*re.n-1) (tl:=[nX re k]) (K:=K) hk;rw[show (⟨4,0,0,2*re.n-2,none⟩:aq)=gy (2*re.n-2) from rfl]at oM;rw[show (⟨4,0,0,2*re.n-1,none⟩:aq)=gy (2*re.n-1) from rfl]at Fh;generalize x.emit k (C++[gy (2*re.n-2)])++[gy (2*re.n-1)]=C3 at *;generalize x.emit k (C++[gy (2*re.n-2)])=C2 at *;generalize C++[gy (2*re.n-2)]=C1 at *;have AV:Re.dP re.kids k=[[x.bk k]]:=by rw[hk];rfl
 have eU:re.bk k=.el [iD 5,.sl (re.set.map aT),.sl (re.kids.map Re.cells),iD re.mn,iD re.mx,iD re.mode,iD re.n,bD re.neg,.sl [[x.bk k]],iD k]:=by rw[Re.ek,bd,ak0,AV,o]
 have hq:([[x.bk k]]:List (List D))[0]?=some [x.bk k]:=rfl;unfold nX at oM Fh hw;unfold dy at hw ⊢;rw[eU]at oM Fh hw ⊢;generalize x.bk k=xd at *;simp only[iD,bD,i64]at oM Fh hw;refine lr Tryz.func64 rfl Tryz.ntmps64 Tryz.results64 rfl 6 1278813932664544596687975450732993771492559903679 (ajZ 6) (by first|decide|(simp [dy];done)) ?_;simp only[zQ,simprocAttr,-D7,wO,ajW,ajX,ajT];refine cu mix [9] [] ?_;simp only[zQ,simprocAttr,-D7,WL,wn2];refine ct (oM _ ⟨rfl,rfl⟩) ?_;simp only[zQ,simprocAttr,-D7,wO,ajN,ajO];refine cu mix [7] [] ?_;simp only[zQ,simprocAttr,-D7,ajW,ajX,ajT,hq];refine⟨aU,?_⟩;refine ct (hw _ ⟨rfl,rfl⟩) ?_;simp only[zQ,simprocAttr,-D7,wO,ajN,ajO];refine cu mix [9] [] ?_;simp only[zQ,simprocAttr,-D7,WL,wn3];refine ct (Fh _ ⟨rfl,rfl⟩) ?_;simp only[zQ,simprocAttr,-D7,tX,gL];rfl
end
section
variable (t:List Int) (root parts:D) (bg nb:Nat) (Bs:List (List Bool)) (b a:Nat)
omit t root parts bg nb Bs b a in
theorem OQ:∀(l:List Re) (k:Nat) (C:List aq) (J:List Nat),∀x∈(iU l k C J).2,x∈J\/x<(iU l k C J).1.length
 |[],_,_,_,x,h=>.inl h
 |y::l,k,C,J,x,h=>by
  have e:iU (y::l) k C J=iU l (k+y.looks) (wV (y.emit k (C++[cR 0 0])++[iT 0]) C.length ((C.length:Int)+1) (((y.emit k (C++[cR 0 0])).length:Int)+1)) (J++[(y.emit k (C++[cR 0 0])).length]):=rfl;rw[e]at h ⊢;have hl:=(x7 l (k+y.looks) (wV (y.emit k (C++[cR 0 0])++[iT 0]) C.length ((C.length:Int)+1) (((y.emit k (C++[cR 0 0])).length:Int)+1)) (J++[(y.emit k (C++[cR 0 0])).length])).1;rcases OQ l _ _ _ x h with h|h
  ·rcases List.mem_append.1 h with h|h
   ·exact .inl h
   ·rw[aj1]at h;rw[nv,ajQ,aki]at hl;exact .inr ae
  ·exact .inr h
def aOS (C:List aq) (re:Re) (k g:Nat) (J:List Nat):List VL.Obj:=wO t root parts bg nb Bs b a C++[nX re k,bp g J]
def C9 (C:List aq) (re:Re) (k g:Nat) (J:List Nat):List VL.Obj:=wO t root parts bg nb Bs b a C++[nX re k,bp g J]
theorem R7 (re:Re) (l:List Re) (z:Re) (o:re.op=3) (hE:NR re=true) (hk:re.kids=l++[z]) (hK:∀x∈re.kids,yq t root parts bg nb Bs b a x):yq t root parts bg nb Bs b a re:=by
 intro k C hC;obtain⟨_,_,q3,_⟩:=rN.1 hE;have gL:=λC=>xI t root parts bg nb Bs b a C;have hc:re.emit k C=(iU l k C []).2.foldl (xO (z.emit (k+Re.ba l) (iU l k C []).1).length) (z.emit (k+Re.ba l) (iU l k C []).1):=by rw[Re.iK,bd,bd,bd,be o,hk,I0]
 have uG:re.kids.length=l.length+1:=by rw[hk];simp
 have hz:re.eC=Re.cf l+z.eC+2*l.length:=by rw[Re.ox,xU,bd,bd,be o,uG,hk,iu];simp [Re.cf]
 rw[hz]at hC;rw[hc];have Xz:∀(i:Nat) (x:Re),re.kids[i]?=some x->(Re.dP re.kids k)[i]?=some [x.bk (k+Re.ba (re.kids.take i))]:=λi x h=>wk re.kids k i x h;have AV:=Re.oz re.kids k;have eU:re.bk k=.el [iD 3,.sl (re.set.map aT),.sl (re.kids.map Re.cells),iD re.mn,iD re.mx,iD re.mode,iD re.n,bD re.neg,.sl (Re.dP re.kids k),iD k]:=by rw[Re.ek,bd,ak0,o]
 have hw0:IntKind.i64.wrap ((re.kids.length:Int)-1)=(l.length:Int):=by rw[uG];rw[bG _ ae];omega
 have nD:nX re k=⟨0,true,1,[[.d (re.bk k)]]⟩:=rfl;unfold dy;rw[eU]at nD ⊢;generalize hND:Re.dP re.kids k=ND at *;simp only[iD,bD]at nD;have oT:(l.length:Int)<=(ND.length:Int):=ae;have BL:l.length<=ND.length:=ae;have pU:(0:Int)<=(l.length:Int):=ae;refine lr Tryz.func64 rfl Tryz.ntmps64 Tryz.results64 rfl 6 1278813932664544596687975450732993771492559903679 (ajZ 6) (by first|decide|(simp [dy];done)) ?_;simp only[zQ,simprocAttr,wO,AV,hw0,pU,oT,BL,ajP,akH];refine⟨ae,?_⟩;refine aw (λn e s=>∃(i g:Nat),n=l.length-i/\i<=l.length/\e 1=.rf 3 0 0 0/\e 3=.rf 4 0 0 0/\e 4=.rf 2 0 0 0/\e 5=.rf 6 0 0 0/\e 8=.so 7 g 0 i/\e 9=i64 l.length/\e 69=.d (.sl (ND.take l.length))/\e 70=i64 l.length/\e 71=i64 i/\s=aOS t root parts bg nb Bs b a (iU (l.take i) k C []).1 re k g (iU (l.take i) k C []).2)
  ⟨_,_,_,.K4 (fW 8 1 rfl),0,0,rfl,ae,rfl,rfl,rfl,rfl,rfl,rfl,rfl,?_,rfl,by rw[aOS,nD];rfl⟩ ?_
 ·(try simp only[zU,pZ,jN,oN,oV,reduceIte])
  have:min ((l.length:Int)-0).toNat re.kids.length=l.length:=ae;rw[this];rfl
 rintro n e s ⟨i,g,rfl,hi,h1,h3,h4,h5,h8,h9,UU,UZ,Vi,rfl⟩;have NF:=(x7 (l.take i) k C []).2;have XR:=(x7 (l.take i) k C []).1;rw[ajX,ajT]at NF;rcases akd i l.length with az|gx
 ·obtain⟨x,hx⟩:∃x,l[i]?=some x:=cc az;have hxk:re.kids[i]?=some x:=by rw[hk,List.getElem?_append_left az];exact hx
  have hm:x∈re.kids:=List.mem_of_getElem? hxk;have aA:(i:Int)<(l.length:Int):=ae;have hi0:(0:Int)<=(i:Int):=ae;have hnd:=Xz i x hxk;have Ib:re.kids.take i=l.take i:=by rw[hk,List.take_append_of_le_length ae]
  rw[Ib]at hnd;have adR:(ND.take l.length)[i]?=some [x.bk (k+Re.ba (l.take i))]:=by rw[List.getElem?_take_of_lt az];exact hnd
  have eZ:Re.cf (l.take i)+x.eC<=Re.cf l:=by
   have h1:l=l.take (i+1)++l.drop (i+1):=(List.take_append_drop _ _).symm;have h2:Re.cf l=Re.cf (l.take (i+1))+Re.cf (l.drop (i+1)):=by rw[<- iu,<- h1]
   rw[h2,bm hx,iu];simp only[Re.cf];omega
  have BK:=FH (l.take i) x k C [];rw[<- bm hx]at BK;rw[akH]at XR NF;rw[show aOS t root parts bg nb Bs b a (iU (l.take i) k C []).1 re k g (iU (l.take i) k C []).2=wO t root parts bg nb Bs b a (iU (l.take i) k C []).1++[nX re k,bp g (iU (l.take i) k C []).2] from rfl];generalize afd:iU (l.take (i+1)) k C []=ST2 at *;generalize iU (l.take i) k C []=ST at *;obtain⟨C1,J⟩:=ST;simp only at XR NF ⊢;simp only[iU]at BK;have hw:=λK hk=>qT (hK x hm) (k+Re.ba (l.take i)) (C:=C1++[cR 0 0]) (by rw[ajQ,aki];omega) (tl:=[nX re k,bp g J]) (K:=K) hk;have oM:=λK hk=>ku (t:=t) (root:=root) (parts:=parts) (bg:=bg) (nb:=nb) (Bs:=Bs) (b:=b) (a:=a) (C:=C1) ae 2 0 0 0 (tl:=[nX re k,bp g J]) (K:=K) hk;have Ro:(x.emit (k+Re.ba (l.take i)) (C1++[cR 0 0])).length=C1.length+1+x.eC:=by rw[Re.ez,ajQ,aki]
  have Fh:=λK hk=>ku (t:=t) (root:=root) (parts:=parts) (bg:=bg) (nb:=nb) (Bs:=Bs) (b:=b) (a:=a) (C:=x.emit (k+Re.ba (l.take i)) (C1++[cR 0 0])) ae 3 0 0 0 (tl:=[nX re k,bp g J]) (K:=K) hk;rw[show (⟨2,0,0,0,none⟩:aq)=cR 0 0 from rfl]at oM;rw[show (⟨3,0,0,0,none⟩:aq)=iT 0 from rfl]at Fh;unfold dy at hw;generalize x.bk (k+Re.ba (l.take i))=xd at *;generalize x.emit (k+Re.ba (l.take i)) (C1++[cR 0 0])=C3 at *;have Yx:(C3++[iT 0]).length=C3.length+1:=ak;generalize C3++[iT 0]=C4 at *;generalize C1++[cR 0 0]=C2 at *;have w1:IntKind.i64.wrap ((C1.length:Int)+1)=(C1.length:Int)+1:=bG _ ae;obtain⟨y,hy⟩:∃y,C4[C1.length]?=some y:=cc;have c0:(0:Int)<=(C1.length:Int):=ae;have c1:(C1.length:Int)<(C4.length:Int):=ae;have c2:C1.length<C4.length:=ae;have g1:(cN C4.length b a C4).g=C4.length:=rfl;have g2:(cN C4.length b a C4).sz=5:=rfl;have g3:(cN C4.length b a C4).au=C4.map (aq.cells b a):=rfl;have g4:(cN C4.length b a C4).live=true:=rfl;simp only[zQ,simprocAttr,wO,h1,h3,h4,h5,h8,h9,UU,UZ,Vi,aA,hi0,az,ajP,adR,akH,Nat.min_eq_left BL,ajN,ajO];refine oM _ ?_;simp only[zQ,simprocAttr,wO,h1,h3,h4,h5,h8,h9,UU,UZ,Vi,ajN,ajO];refine hw _ ?_;simp only[zQ,simprocAttr,wO,h1,h3,h4,h5,h8,h9,UU,UZ,Vi,ajN,ajO];refine Fh _ ?_;simp only[zQ,simprocAttr,wO,bp,h1,h3,h4,h5,h8,h9,UU,UZ,Vi,ajN,ajO,ajM];refine⟨λe he=>by rw[List.mem_singleton.1 he];rfl,⟨ae,ae⟩,?_⟩;refine cu mix [] [(8,[5],[]),(9,[5],[]),(10,[5],[5]),(11,[5],[]),(12,[5],[]),(13,[5],[5])] ?_;simp only[zQ,simprocAttr,h1,h3,h4,h5,h8,h9,UU,UZ,Vi,b6,aO,oy,c0,c1,c2,g1,g2,g3,g4,hy,w1,ajP,ajT,ajM,List.getElem?_map,ajS,aq.cells];have e1:∀v,((C4.map (aq.cells b a)).set C1.length v)[C1.length]?=some v:=λv=>List.getElem?_set_self (by simpa using c2);have e2:((C4.map (aq.cells b a)).set C1.length [V.d (D.sc (Value.int IntKind.i64 y.op)),V.d (D.sc (Value.int IntKind.i64 ((C1.length:Int)+1))),V.d (D.sc (Value.int IntKind.i64 y.y)),V.d (D.sc (Value.int IntKind.i64 y.n)),cj b a y.node]).set C1.length [V.d (D.sc (Value.int IntKind.i64 y.op)),V.d (D.sc (Value.int IntKind.i64 ((C1.length:Int)+1))),V.d (D.sc (Value.int IntKind.i64 C4.length)),V.d (D.sc (Value.int IntKind.i64 y.n)),cj b a y.node]=(wV C4 C1.length ((C1.length:Int)+1) C4.length).map (aq.cells b a):=by
   have Zl:e9 C4 C1.length=y:=by unfold e9;rw[List.getD_eq_getElem?_getD,hy];rfl
   rw[List.set_set,wV,akT,Zl];rfl
  have e3:List.take i (J.map λ(x:Nat)=>[V.d (D.sc (Value.int IntKind.i64 (x:Int)))])=J.map λ(x:Nat)=>[V.d (D.sc (Value.int IntKind.i64 (x:Int)))]:=akb (by rw[ajM];omega);simp only[e1,akO,akW,List.drop_succ_cons,akJ,ajN,ajO,e2,e3];refine⟨ak,l.length-(i+1),_,_,ae,bA.refl,i+1,g+1,rfl,az,?_,?_,?_,?_,?_,?_,?_,?_,?_,?_⟩ <;> (try simp only[zU,pZ,jN,oN,oV,reduceIte])
  ·exact h1
  ·exact h3
  ·exact h4
  ·exact h5
  ·exact h9
  ·exact UU
  ·exact UZ
  ·rw[bG _ ae];rfl
  ·rw[afd,BK,Yx];simp only[aOS,wO,bp,oy,nv,Yx,akF,ajR,ajV,ajN,ajO,i64];rfl
 ·have dX:i=l.length:=by omega
  subst dX;have hzk:re.kids[l.length]?=some z:=by rw[hk];simp
  have hm:z∈re.kids:=List.mem_of_getElem? hzk;have hnd:=Xz l.length z hzk;have Ib:re.kids.take l.length=l:=by rw[hk];simp
  rw[Ib]at hnd;have wF:=OQ l k C [];rw[akg]at *;rw[show aOS t root parts bg nb Bs b a (iU l k C []).1 re k g (iU l k C []).2=wO t root parts bg nb Bs b a (iU l k C []).1++[nX re k,bp g (iU l k C []).2] from rfl];generalize iU l k C []=ST at *;obtain⟨C1,J⟩:=ST;simp only at XR NF wF ⊢;have hw:=λK hk=>qT (hK z hm) (k+Re.ba l) (C:=C1) ae (tl:=[nX re k,bp g J]) (K:=K) hk;have sE:=Re.ez z (k+Re.ba l) C1;unfold dy at hw;generalize z.bk (k+Re.ba l)=xd at *;generalize z.emit (k+Re.ba l) C1=C2 at *;have YC:∀x∈J,x<C2.length:=λx hx=>by have:=(wF x hx).resolve_left ak;omega
  have Ro:(l.length:Int)<(ND.length:Int):=ae;have hl4:l.length<ND.length:=ae;rw[nD]at hw ⊢;simp only[zQ,simprocAttr,wO,h1,h3,h4,h5,h8,h9,UU,UZ,Vi,aku,ajN,ajO];refine cu mix [8] [] ?_;simp only[zQ,simprocAttr,wO,h1,h3,h4,h5,h8,h9,UU,UZ,Vi,pU,AV,Ro,hl4,ajP,hnd,ajN,ajO];refine⟨ae,?_⟩;refine ct (hw _ ⟨rfl,rfl⟩) ?_;clear hw wF;rw[<- nD];have iC:(C9 t root parts bg nb Bs b a ((J.take 0).foldl (xO C2.length) C2) re k g J)=wO t root parts bg nb Bs b a C2++[nX re k,bp g J]:=rfl;simp only[zQ,simprocAttr,h1,h3,h4,h5,h8,h9,UU,UZ,Vi];refine aw (λn e s=>∃j:Nat,n=l.length-j/\j<=l.length/\e 4=.rf 2 0 0 0/\e 109=.so 7 g 0 l.length/\e 110=i64 l.length/\e 111=i64 j/\s=C9 t root parts bg nb Bs b a ((J.take j).foldl (xO C2.length) C2) re k g J)
   ⟨_,_,_,bA.refl,0,rfl,ae,by first|exact h4|(simp only[zU,pZ,jN,oN,oV,reduceIte];done)|(simp only[zU,pZ,jN,oN,oV,reduceIte];exact h4),by first|exact h8|(simp only[zU,pZ,jN,oN,oV,reduceIte];done)|(simp only[zU,pZ,jN,oN,oV,reduceIte];exact h8),rfl,rfl,rfl⟩ ?_
  clear h1 h3 h4 h5 h8 h9 UU UZ Vi;rintro n e s ⟨j,rfl,hj,h4,Zp,X8,ab4,rfl⟩;have S9:((J.take j).foldl (xO C2.length) C2).length=C2.length:=BH _ _ _;rcases akd j l.length with az|gx
  ·obtain⟨x,hx⟩:∃x,J[j]?=some x:=cc;have Ys:=YC x (List.mem_of_getElem? hx);have aA:(j:Int)<(l.length:Int):=ae;have L8:(0:Int)<=(j:Int):=ae;have BK:(J.take (j+1)).foldl (xO C2.length) C2=xO C2.length ((J.take j).foldl (xO C2.length) C2) x:=by rw[bm hx,ak7];rfl
   rw[show C9 t root parts bg nb Bs b a ((J.take j).foldl (xO C2.length) C2) re k g J=wO t root parts bg nb Bs b a ((J.take j).foldl (xO C2.length) C2)++[nX re k,bp g J] from rfl];generalize (J.take j).foldl (xO C2.length) C2=Dc at *;have g1:(cN Dc.length b a Dc).g=Dc.length:=rfl;have g2:(cN Dc.length b a Dc).sz=5:=rfl;have g3:(cN Dc.length b a Dc).au=Dc.map (aq.cells b a):=rfl;have g4:(cN Dc.length b a Dc).live=true:=rfl;obtain⟨y,hy⟩:∃y,Dc[x]?=some y:=cc;have Mo:x<Dc.length:=ae;have BR:(x:Int)<(Dc.length:Int):=ae;have hx2:(0:Int)<=(x:Int):=ae;have Zl:e9 Dc x=y:=by unfold e9;rw[List.getD_eq_getElem?_getD,hy];rfl
   have e2:(Dc.map (aq.cells b a)).set x [V.d (D.sc (Value.int IntKind.i64 y.op)),V.d (D.sc (Value.int IntKind.i64 Dc.length)),V.d (D.sc (Value.int IntKind.i64 y.y)),V.d (D.sc (Value.int IntKind.i64 y.n)),cj b a y.node]=(xO C2.length Dc x).map (aq.cells b a):=by rw[xO,wV,akT,Zl,S9];rfl
   have aeS:j<J.length:=ae;simp only[zQ,simprocAttr,wO,bp,oy,h4,Zp,X8,ab4,aA,L8,aeS,az,hx,Mo,BR,hx2,hy,g1,g2,g3,g4,ajP,ajT,ajM,List.getElem?_map,ajS,aq.cells,e2,ajN,ajO];refine⟨l.length-(j+1),_,_,ae,bA.refl,j+1,rfl,az,?_,?_,?_,?_,?_⟩ <;> (try simp only[zU,pZ,jN,oN,oV,reduceIte])
   ·exact h4
   ·exact Zp
   ·exact X8
   ·rw[bG _ ae];rfl
   ·rw[BK,<- S9];simp only[C9,wO,bp,oy,cN,Ih,ajN,ajO,i64]
  ·have Ks:j=l.length:=by omega
   subst Ks;rw[akb ae];simp only[zQ,simprocAttr,h4,Zp,X8,ab4,aku,C9,tX,gL];rfl
end
end Go.Proofs.YtjjfioalgbecmaaGreat
