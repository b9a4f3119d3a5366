/- A part of the proof (K26 K33 K34 K35 O81 O79 K40 K41). -/
import Derived.Test.YtjjfioalgbecmaaGreatOQ48
import Derived.Test.YtjjfioalgbecmaaGreatOQ46
set_option linter.unusedSimpArgs false
set_option linter.unusedVariables false
open Nat renaming reduceShiftRight → jN, reduceMod → oN, reduceEqDiff → oV, reduceBEq → pZ
set_option maxRecDepth 100000
set_option maxHeartbeats 80000000
namespace Go.Proofs.YtjjfioalgbecmaaGreat
open Go.VL Go.Proofs.Tryz
variable{i:aq}{Bs:List (List Bool)}{t:List Int}
def Ji (l:List IG):List Int:=match l[l.length-1]? with|none=>[]|some x=>x.aF
def NT (g:dk) (start:Int) (l:AF) (b:Option jy):Option jy :=
 if (gN g l.st.qg).2=true then some ⟨start,l.at_,CZ g.ai.toNat (Ji (gN g l.st.qg).1)⟩ else b
def VN (g:dk) (t:List Int) (start:Int):Nat->AF->Option jy->Option jy
 |0,_,b=>b
 |k+1,l,b=>if (gN g l.st.qg).1=[]\/(t.length:Int)<=l.at_ then NT g start l b else VN g t start k (Uq g t l) (NT g start l b)
def SP (g:dk) (t:List Int) (at_:Int):Option jy:=VN g t at_ (t.length+1) (UB g t at_) none
def QW (b:Option jy):jy:=b.getD ⟨0,0,[]⟩
abbrev Bl:=Bool×Option jy
def Qs (σ:Bl):V:=if σ.1=true then .d (.sl []) else .fu []
def Ni (σ:Bl):VL.Obj:=⟨0,true,3,[[i64 0,i64 0,Qs σ]]⟩
def Ri (σ:Bl):VL.Obj:=match σ.2 with
 |none=>Ni σ
 |some m=>⟨0,true,3,[[i64 m.s,i64 m.e,.d (cQ m.c)]]⟩
def BO (σ:Bl):VL.Obj:=⟨0,true,1,[[bV σ.2.isSome]]⟩
def fF (g:dk) (σ:Bl) (i:Int) (l:List kE):Bl:=(true,match l[l.length-1]? with
 |none=>σ.2
 |some x=>if (bu g x.cI).op=0 then some ⟨x.from_,i,CZ g.ai.toNat x.aF⟩ else σ.2)
def Qy (g:dk) (t:List Int) (st:dK) (σ:Bl):List VL.Obj:=[ca g t 1 st,bJ st,cw 0,Ni σ,Ri σ,BO σ,eB st]
theorem Gn (lim:Nat) (s:List VL.Obj) (gg:Nat) (b:Bool) (z:Nat) (l:List (List D)):kU lim s ⟨gg,b,z,l.map λc=>c.map V.d⟩=some ⟨gg,b,z,l.map λc=>c.map V.d⟩:=by
 have h1:∀c:List D,bc.go lim s (c.map V.d)=some (c.map V.d):=by
  intro c;induction c with
  |nil=>rfl
  |cons x c ih=>simp only[ajR,bc.go,bc,ih]
 have h2:∀l:List (List D),(l.map λc=>c.map V.d).mapM (bc.go lim s)=some (l.map λc=>c.map V.d):=by
  intro l;induction l with
  |nil=>rfl
  |cons x l ih=>simp only[ajR,akR,h1,ih];rfl
 unfold kU;rw[h2];rfl
theorem NN (lim:Nat) (s:List VL.Obj) (st:dK):kU lim s (bJ st)=some (bJ st):=by
 have e1:bJ st=⟨1,true,1,(st.marks.map λx=>[iD x]).map λc=>c.map V.d⟩:=by simp [bJ,iD,i64]
 rw[e1];exact Gn _ _ _ _ _ _
theorem S3 (lim:Nat) (s:List VL.Obj) (st:dK):kU lim s (eB st)=some (eB st):=by
 have e2:eB st=⟨st.gen,true,3,(st.arr.map kE.cells).map λc=>c.map V.d⟩:=by simp [eB]
 rw[e2];exact Gn _ _ _ _ _ _
theorem Py (s:List VL.Obj) (a:VL.Obj) (g:dk) (t:List Int) (st:dK):kU 7 (a::bJ st::s) (ca g t 1 st)=some (ca g t 1 st):=by simp [kU,ca,bc.go,bc,cT,i64,bV,bJ]
theorem Qp (s:List VL.Obj) (g:dk) (t:List Int) (st:dK):kU 7 (ca g t 1 st::s) (cw 0)=some (cw 0):=by simp [kU,ca,cw,bc.go,bc,cT]
theorem OL (lim:Nat) (s:List VL.Obj) (σ:Bl) (r:Option jy):kU lim s (Ni σ)=some (Ni (true,r)):=by obtain⟨b,o⟩:=σ;cases b <;> simp [kU,Ni,Qs,bc.go,bc,i64]
theorem N7 (lim:Nat) (s:List VL.Obj) (σ:Bl):kU lim s (Ri σ)=some (Ri (true,σ.2)):=by
 obtain⟨b,o⟩:=σ;cases o with
 |none=>exact OL lim s (b,none) none
 |some m=>simp [kU,Ri,bc.go,bc,i64]
theorem Vd (lim:Nat) (s:List VL.Obj) (σ:Bl):kU lim s (BO σ)=some (BO σ):=by simp [kU,BO,bc.go,bc,bV]
theorem YY {g:dk}{t:List Int}{st:dK}{σ τ:Bl}{o4:VL.Obj}{ext:List VL.Obj}{b:V}{K:V->List VL.Obj->Prop} (h4:kU 7 (ca g t 1 st::bJ st::cw 0::Ni σ::o4::BO τ::eB st::ext) o4=some (Ri τ)) (hτ:τ.1=true) (hb:∃x,b=.d x)
  (hk:K b (Qy g t st τ)):tH 7 (ca g t 1 st::bJ st::cw 0::Ni σ::o4::BO τ::eB st::ext) b K:=by
 obtain⟨x,rfl⟩:=hb;obtain⟨tb,tm⟩:=τ;simp only at hτ;subst hτ;have h3:=OL 7 (ca g t 1 st::bJ st::cw 0::Ni σ::o4::BO (true,tm)::eB st::ext) σ tm;unfold tH;simp only[akO,akW,akR,List.mapM_nil,Py,NN,Qp,h3,h4,Vd,S3,Option.bind_eq_bind,akA,Option.pure_def,bc];exact hk
def fArgs (i:Int) (st:dK):List V:=[i64 i,.so 6 st.gen 0 st.n,.rf 2 0 0 0,.rf 5 0 0 0,.rf 4 0 0 0]
theorem X2 (g:dk) (σ:Bl) (i:Int):fF g σ i []=(true,σ.2):=rfl
theorem P0 {st:dK}{g:dk} (bH:st.ok g) (h:st.n≠0):∃x,st.arr[st.n-1]?=some x/\x∈st.list/\st.list[st.list.length-1]?=some x:=by
 have hn:=bH.n;obtain⟨x,hx⟩:∃x,st.arr[st.n-1]?=some x:=cc;have hl:st.list.length=st.n:=by unfold dK.list;rw[akH];omega
 have h2:st.list[st.n-1]?=some x:=by unfold dK.list;rw[List.getElem?_take,sP];exact hx
 exact⟨x,hx,List.mem_of_getElem? h2,by rw[hl];exact h2⟩
def mh (c i:Nat) (aF:List Int):VL.Obj:=⟨1,true,2,(List.range i).map (λj=>[i64 (zk aF j).1,i64 (zk aF j).2])++List.replicate (c-i) [i64 0,i64 0]⟩
theorem Wt {α:Type} (l:List α) (z:α) {c j:Nat} (hl:l.length=j) (h:j<c):(l++List.replicate (c-j) z)[j]?=some z:=by rw[List.getElem?_append_right ae];simp [List.getElem?_replicate,hl];omega
theorem VP {α:Type} (l:List α) (z y:α) {c j:Nat} (hl:l.length=j) (h:j<c):(l++List.replicate (c-j) z).set j y=(l++[y])++List.replicate (c-(j+1)) z:=by
 rw[akI _ _ ae];obtain⟨m,hm⟩:∃m,c-j=m+1:=⟨c-j-1,ae⟩
 rw[hm,hl,akQ,ale,aj9,aj7];have:c-(j+1)=m:=ae;rw[this];rfl
def TR (x:kE):VL.Obj:=⟨0,true,3,[x.cells.map V.d]⟩
theorem QL (g:dk) (hg:g.eF) (t:List Int) (i:Int) (st:dK) (σ:Bl) (bH:st.ok g) (Zw:∀x∈st.list,x.ok g) (hn:st.n<=100000) :
  ar prog 85 (fArgs i st) (Qy g t st σ) λv s=>v=bV true/\s=Qy g t st (fF g σ i st.list):=by
 have hgl:=hg.Du;have hgc:=hg.Rs;have aaQ:=hg.Jd;have UM:=bH.len;have AV:=bH.n;have NO:(eB st).g=st.gen:=rfl;have Zy:(eB st).sz=3:=rfl;by_cases z0:st.n=0
 ·have hz:=eq_true (show (st.n:Int)=0 by omega);have hl:st.list=[]:=by unfold dK.list;rw[z0];rfl
  rw[hl,X2];obtain⟨τ,hτ⟩:∃τ:Bl,τ=(true,σ.2):=⟨_,rfl⟩
  have e5:BO σ=BO τ:=by rw[hτ];rfl
  rw[<- hτ];unfold fArgs Qy;rw[e5];refine zi func85 rfl ntmps85 results85 rfl 7 211106232536991 ak ak ?_;simp only[zQ,simprocAttr,NO,hz,tA];refine YY (σ:=σ) (τ:=τ) (ext:=[]) ?_ (by rw[hτ]) ⟨_,rfl⟩ ⟨rfl,rfl⟩;rw[hτ];exact N7 _ _ _
 obtain⟨x,hx,VT,UK⟩:=P0 bH z0;have AY:=Zw x VT;have NX:=AY.p0;have oM:=AY.p1;have hxr:=AY.aF;have Nn:=iP NX oM;have z0':¬(st.n:Int)=0:=ae;have w1:IntKind.i64.wrap ((st.n:Int)-1)=((st.n-1:Nat):Int):=by rw[bG _ ae];omega
 have iC:((st.n-1:Nat):Int)<st.n:=ae;have O9:(eB st).au[st.n-1]?=some [V.d (iD x.cI),V.d (iD x.from_),V.d (ao x.aF)]:=by simp [eB,hx,kE.cells]
 by_cases o0:(bu g x.cI).op=0
 ·have o0':=eq_true o0;have hF:fF g σ i st.list=(true,some ⟨x.from_,i,CZ g.ai.toNat x.aF⟩):=by unfold fF;rw[UK];simp only;rw[be o0]
  rw[hF];obtain⟨C,hC⟩:∃C,C=CZ g.ai.toNat x.aF:=⟨_,rfl⟩
  rw[<- hC];unfold fArgs Qy;refine zi func85 rfl ntmps85 results85 rfl 7 211106232536991 ak ak ?_;simp only[zQ,simprocAttr,NO,Zy,z0',w1,iC,O9,tA,ajT];refine cu mix [] [] ?_;obtain⟨va,vb,vc,h4⟩:∃va vb vc,Ri σ=⟨0,true,3,[[va,vb,vc]]⟩:=by
   unfold Ri Ni;cases σ.2 with
   |none=>exact⟨_,_,_,rfl⟩
   |some m=>exact⟨_,_,_,rfl⟩
  rw[h4];simp only[zQ,simprocAttr,cw,ca,NX,oM,Nn,bM.cells,o0',tA,ajM,BO];refine aX bW.bn ?_;refine cu mix [] [(8,[8],[8]),(9,[4],[4]),(10,[4],[]),(11,[4],[4]),(12,[4],[]),(13,[4],[4]),(14,[4],[]),(15,[4],[4])] ?_;simp only[zQ,simprocAttr,cw,ca,NX,oM,Nn,bM.cells,o0',tA,ajM,hole,QQ,Value.oneCell'];obtain⟨c,hc⟩:∃c,c=g.ai.toNat:=⟨_,rfl⟩
  have qf:(c:Int)=g.ai:=ae;refine⟨⟨ae,akc _,ae,ae⟩,?_⟩;obtain⟨τ,hτ⟩:∃τ:Bl,τ=(true,some ⟨x.from_,i,C⟩):=⟨_,rfl⟩
  refine aw (λn e s=>∃j:Nat,n=c-j/\j<=c/\e 4=.rf 4 0 0 0/\e 8=.rf 7 0 0 0/\e 46=i64 c/\e 47=i64 j /\
   s=[ca g t 1 st,bJ st,cw 0,Ni σ,⟨0,true,3,[[i64 x.from_,i64 i,.so 8 1 0 c]]⟩,BO τ,eB st,TR x,mh c j x.aF]) ?_ ?_
  ·refine⟨_,_,_,bA.refl,0,rfl,ae,?_,?_,?_,?_,?_⟩ <;> (try simp only[zU,pZ,jN,oN,oV,reduceIte])
   all_goals first|rfl|(rw[hc];rfl)|(rw[<- hc,hτ];simp [ca,cw,TR,mh,kE.cells,i64,iD,bV,BO];done)
  rintro n e s ⟨j,rfl,hj,Xb,h8,Q1,UH,rfl⟩;rcases akd j c with az|gx
  ·have aA:(j:Int)<c:=by omega
   have w1:IntKind.i64.wrap (2*(j:Int))=((2*j:Nat):Int):=by rw[bG _ ae];omega
   have w2:IntKind.i64.wrap (((2*j:Nat):Int)+1)=((2*j+1:Nat):Int):=by rw[bG _ ae];omega
   have c1:((2*j+1:Nat):Int)<(x.aF.length:Int):=ae;have c2:((2*j:Nat):Int)<(x.aF.length:Int):=ae;have c3:(0:Int)<=((2*j:Nat):Int):=ae;have c4:(0:Int)<=((2*j+1:Nat):Int):=ae;have g1:=xz (l:=x.aF) (i:=2*j) ae;have g2:=xz (l:=x.aF) (i:=2*j+1) ae;have hP:zk x.aF j=if x.aF.getD (2*j) 0=-1\/x.aF.getD (2*j+1) 0=-1 then (-1,-1) else (x.aF.getD (2*j) 0,x.aF.getD (2*j+1) 0):=rfl
   generalize x.aF.getD (2*j) 0=a at *;generalize x.aF.getD (2*j+1) 0=b at *;have Ec:((List.range j).map (λj=>[V.d (.sc (.int .i64 (zk x.aF j).1)),V.d (.sc (.int .i64 (zk x.aF j).2))])).length=j:=ak;have dO:=Wt _ [V.d (.sc (.int .i64 0)),V.d (.sc (.int .i64 0))] Ec az;have eO:=λy=>VP _ [V.d (.sc (.int .i64 0)),V.d (.sc (.int .i64 0))] y Ec az;simp only[zQ,simprocAttr,Xb,h8,Q1,UH,aA];refine cu mix [] [] ?_;by_cases ha:a=-1
   ·have KN:=eq_true ha;have IJ:True:=trivial;have hb:True:=trivial
    ·simp only[zQ,simprocAttr,Xb,h8,Q1,UH,aA,w1,w2,c1,c2,c3,c4,g1,g2,KN,IJ,TR,kE.cells,ao,mh,dO,ajT,akX,ajP,ajM];refine⟨c-(j+1),_,_,ae,bA.refl,j+1,rfl,az,?_,?_,?_,?_,?_⟩ <;> (try simp only[zU,pZ,jN,oN,oV,reduceIte])
     ·exact Xb
     ·exact h8
     ·exact Q1
     ·rw[bG _ ae];rfl
     ·rw[eO];simp [TR,mh,kE.cells,iD,i64,hP,ha,hb,alb,BO,bV]
   ·have KN:=ha;by_cases hb:b=-1
    ·have IJ:=eq_true hb
     ·simp only[zQ,simprocAttr,Xb,h8,Q1,UH,aA,w1,w2,c1,c2,c3,c4,g1,g2,KN,IJ,TR,kE.cells,ao,mh,dO,ajT,akX,ajP,ajM];refine⟨c-(j+1),_,_,ae,bA.refl,j+1,rfl,az,?_,?_,?_,?_,?_⟩ <;> (try simp only[zU,pZ,jN,oN,oV,reduceIte])
      ·exact Xb
      ·exact h8
      ·exact Q1
      ·rw[bG _ ae];rfl
      ·rw[eO];simp [TR,mh,kE.cells,iD,i64,hP,ha,hb,alb,BO,bV]
    ·have IJ:=hb
     ·simp only[zQ,simprocAttr,Xb,h8,Q1,UH,aA,w1,w2,c1,c2,c3,c4,g1,g2,KN,IJ,TR,kE.cells,ao,mh,dO,ajT,akX,ajP,ajM];refine⟨c-(j+1),_,_,ae,bA.refl,j+1,rfl,az,?_,?_,?_,?_,?_⟩ <;> (try simp only[zU,pZ,jN,oN,oV,reduceIte])
      ·exact Xb
      ·exact h8
      ·exact Q1
      ·rw[bG _ ae];rfl
      ·rw[eO];simp [TR,mh,kE.cells,iD,i64,hP,ha,hb,alb,BO,bV]
  ·have Ks:j=c:=by omega
   subst Ks;have aA:¬(j:Int)<j:=ae;simp only[zQ,simprocAttr,Xb,h8,Q1,UH,aA,tA];refine YY (σ:=σ) (τ:=τ) (st:=st) (t:=t) (g:=g) (ext:=[TR x,mh j j x.aF]) ?_ (by rw[hτ]) ⟨_,rfl⟩ ⟨rfl,by rw[hτ];rfl⟩;obtain⟨S,hS⟩:∃S,S=ca g t 1 st::bJ st::cw 0::Ni σ::⟨0,true,3,[[.d (.sc (.int .i64 x.from_)),.d (.sc (.int .i64 i)),.so 8 1 0 j]]⟩::BO τ::eB st::[TR x,mh j j x.aF]:=⟨_,rfl⟩
   have hf:bc 7 S (.so 8 1 0 j)=some (.d (cQ C)):=by
    rw[lh (live:=true) (sz:=2) (au:=(mh j j x.aF).au) (ds:=C.map aT) (by rw[hS];rfl) ?_ ?_ (.inl ae)]
    ·rfl
    ·rw[hC,<- hc];simp [mh,CZ,iD,i64];rw[akb ak];exact akz λa _=>rfl
    ·simp [mh]
   have hd:∀d,bc 7 S (.d d)=some (.d d):=λ_=>rfl;rw[<- hS];simp only[kU,akR,List.mapM_nil,bc.go,hf,hd,i64];rw[hτ];rfl
 ·have hF:fF g σ i st.list=(true,σ.2):=by unfold fF;rw[UK];simp only;rw[ap o0]
  rw[hF];obtain⟨τ,hτ⟩:∃τ:Bl,τ=(true,σ.2):=⟨_,rfl⟩
  have e5:BO σ=BO τ:=by rw[hτ];rfl
  rw[<- hτ];unfold fArgs Qy;rw[e5];refine zi func85 rfl ntmps85 results85 rfl 7 211106232536991 ak ak ?_;simp only[zQ,simprocAttr,NO,Zy,z0',w1,iC,O9,tA,ajT];refine cu mix [] [] ?_;simp only[zQ,simprocAttr,cw,ca,NX,oM,Nn,bM.cells,o0,tA,ajM];refine YY (σ:=σ) (τ:=τ) (st:=st) (t:=t) (g:=g) (o4:=Ri σ) (ext:=[TR x]) ?_ (by rw[hτ]) ⟨_,rfl⟩ ⟨rfl,rfl⟩;rw[hτ];exact N7 _ _ _
def ij (g:dk):wZ Bl where
 T2:=λ_=>cw 0
 T3:=Ni
 T4:=Ri
 T5:=BO
 f:=85
 ai:=[.rf 2 0 0 0,.rf 5 0 0 0,.rf 4 0 0 0]
 F:=λσ i l=>fF g σ i l
 B:=λ_ _ _=>true
theorem zf (σ:Bl):∃a b:Int,∃v:V,Ri σ=⟨0,true,3,[[i64 a,i64 b,v]]⟩/\((∃d,v=.d d)\/v=.fu []):=by
 obtain⟨f,o⟩:=σ;cases o with
 |none =>
  refine⟨0,0,Qs (f,none),rfl,?_⟩;cases f
  ·exact .inr rfl
  ·exact .inl ⟨_,rfl⟩
 |some m=>exact⟨_,_,_,rfl,.inl ⟨_,rfl⟩⟩
theorem zy (σ:Bl):∃v:V,Ni σ=⟨0,true,3,[[i64 0,i64 0,v]]⟩/\((∃d,v=.d d)\/v=.fu []):=by
 obtain⟨f,o⟩:=σ;refine⟨Qs (f,o),rfl,?_⟩;cases f
 ·exact .inr rfl
 ·exact .inl ⟨_,rfl⟩
theorem Lr (g:dk) (hg:g.eF) (t:List Int):(ij g).ok g t (λ_=>True):=by
 refine⟨λσ a=>?_,λσ n hn=>?_,λn hn=>?_,λσ=>?_,cB,λa=>cB,λ_ _ _ h _=>h,λσ i st _ h0 h1 bH Zw hn=>QL g hg t i st σ bH Zw hn⟩
 ·obtain⟨a4,b4,v4,e4,h4⟩:=zf σ;obtain⟨v3,e3,h3⟩:=zy σ;simp only[wZ.iN,ij,e3,e4,BO,cw];rcases h4 with ⟨d,rfl⟩|rfl <;> rcases h3 with ⟨d',rfl⟩|rfl <;> simp [aN,aE.go,aE,i64,bV]
 ·obtain⟨a4,b4,v4,e4,h4⟩:=zf σ;obtain⟨v3,e3,h3⟩:=zy σ;simp only[wZ.iN,ij,e3,e4,BO,cw];rcases h4 with ⟨d,rfl⟩|rfl <;> rcases h3 with ⟨d',rfl⟩|rfl <;> simp [aK,aj.go,aj,i64,bV] <;> omega
 ·simp [ij,aj.go,aj];omega
 ·obtain⟨a4,b4,v4,e4,h4⟩:=zf σ;obtain⟨v3,e3,h3⟩:=zy σ;simp only[wZ.iN,ij,e3,e4,BO,cw];rcases h4 with ⟨d,rfl⟩|rfl <;> rcases h3 with ⟨d',rfl⟩|rfl <;> simp [di,cJ.go,cJ,i64,bV,List.idxOf?,List.findIdx?_cons]
def mr (g:dk) (t:List Int) (at_ last:Int):List Int×Bl:=pt (ij g) g t last (t.length+1) at_ false (bh g) ([],0) (false,none)
theorem Qt (g:dk) (hg:g.eF) (t:List Int) (ht:t.length<=65536) (at_ last:Int) (Gw:0<=at_) (Mc:at_<=t.length) (oT:last<=t.length) (marks:List Int) (hm:marks.length=g.ins.length) :
  ar prog 42 [.rf 0 1 0 0,i64 at_,i64 last] [jf g t,lM marks] λv s =>
   v=.tu [(QW (mr g t at_ last).2.2).v,bV (mr g t at_ last).2.2.isSome]/\s=[jf g t,lM (mr g t at_ last).1]:=by
 have dZ:=Wf (ij g) g hg t ht (λ_=>True) (Lr g hg t) at_ last Gw Mc oT (false,none) trivial marks hm;unfold mr;generalize pt (ij g) g t last (t.length+1) at_ false (bh g) ([],0) (false,none)=R at *;obtain⟨mk,fl,r⟩:=R;refine bo func42 ntmps42 results42 2 975 ?_;simp only[zQ,simprocAttr];refine an dZ (λv s' hv=>?_);obtain⟨rfl,rfl⟩:=hv;simp only[wZ.iN,ij];have afa:((lM mk).au.all λe=>e.all (aj 2))=true:=by rw[aj3];intro e he;obtain⟨c,hc,rfl⟩:=List.mem_map.1 he;rfl
 have EP:((jf g t).au.all λe=>e.all (aj 2))=true:=by simp [jf,aj,i64,bV]
 cases fl <;> cases r;all_goals
  simp only[zQ,simprocAttr,Ni,Ri,BO,Qs,ajY,if_true,if_false];refine cu mix [] [(2,[3],[3])] ?_;simp only[zQ,simprocAttr,Ni,Ri,BO,Qs,ajY,if_true,if_false,EP,afa,QW,jy.v,cQ]
 all_goals rfl
def aq.Bt (i:aq):Prop:=(i.op=1->∃re k,i.node=some (re,k)/\re.op=1)/\(i.op=4->i.node=none)/\(i.op=5->∃re k,i.node=some (re,k)/\re.op=11)
structure MS (g:dk) (C:List aq) (d:Nat):Prop where
 len:C.length=d+g.ins.length
 ins:∀n:Nat,n<g.ins.length->(e9 C (d+n)).era d=bu g n
 Bt:∀n:Nat,n<g.ins.length->(e9 C (d+n)).Bt
theorem WK (l:List (Int×Int)) (x:Int):ED l x=hasB l x:=by unfold ED hasB;congr 1;funext s;rw[Bool.decide_and]
theorem yW (h:i.Bt) (o:i.op=1) (d p:Nat):i.pass t Bs p=(decide ((p:Int)<t.length)&&hasB (i.era d).set (mG t p)):=by obtain⟨re,k,hn,ho⟩:=h.1 o;unfold aq.pass aq.era;simp only[hn,ho,o,if_true,WK]
theorem Sp (h:i.Bt) (o:i.op=5) (d p:Nat):i.pass t Bs p=bL (i.era d).n t p:=by obtain⟨re,k,hn,ho⟩:=h.2.2 o;unfold aq.pass aq.era;simp only[hn,ho,o,if_true];rfl
theorem Q3 (h:i.Bt) (o:i.op=4) (d:Nat):(i.era d).n=i.n:=by unfold aq.era;simp only[h.2.1 o]
structure qJ (g:dk) (C:List aq) (d:Nat) (bZ:Int) (st:dK) (r:fE):Prop where
 cl:r.cl=st.closed
 al:r.ad.length=C.length
 mks:∀n:Nat,n<g.ins.length->st.marks.getD n 0=(r.ad.getD (d+n) 0:Int)
 th:r.rd=st.list.map λx=>(⟨d+x.cI.toNat,x.aF⟩:jC)
 bZ:∀x∈st.list,x.from_=bZ
 sJ:st.closed=true->∃l x,st.list=l++[x]/\(bu g x.cI).op=0
 opn:st.closed=false->∀x∈st.list,(bu g x.cI).op=1
section
variable {g:dk}{C:List aq}{d:Nat}{bZ:Int}{t:List Int}{Bs:List (List Bool)} (hg:g.eF) (hc:MS g C d)
include hg hc
theorem tB (p:Nat):∀(k k' n:Nat) (aF:List Int) (st:dK) (r:fE),st.ok g->n<g.ins.length->zl p st.marks<k->zl p st.marks<k'->qJ g C d bZ st r->qJ g C d bZ (gI g t p bZ k n aF st) (gU t Bs C p k' (d+n) aF r)
 |0,_,_,_,_,_,_,_,h,_,_=>ae
 |_+1,0,_,_,_,_,_,_,_,h,_=>ae
 |k+1,k'+1,n,aF,st,r,gL,hn,hu,JC,hs=>by
  have hdn:d+n<r.ad.length:=by rw[hs.al,hc.len];omega
  have UM:=gL.len;have Yu:((n:Int)).toNat=n:=ajP n;have dO:r.ad[d+n]?=some (r.ad.getD (d+n) 0):=by rw[List.getD_eq_getElem?_getD,List.getElem?_eq_getElem hdn];rfl
  have Ia:=hs.mks n hn;rw[gI,gU,Yu,dO];by_cases bH:st.closed=true\/st.marks.getD n 0=(p:Int)+1
  ·rw[be bH,be]
   ·exact hs
   ·rcases bH with h|h
    ·exact .inl (by rw[hs.cl];exact h)
    ·exact .inr (.inr (by rw[Ia]at h;congr 1;omega))
  have hnr:¬(r.cl=true\/some (r.ad.getD (d+n) 0)=none\/some (r.ad.getD (d+n) 0)=some (p+1)):=by
   rintro (h|h|h)
   ·exact bH (.inl (by rw[<- hs.cl];exact h))
   ·cases h
   ·exact bH (.inr (by rw[Ia];have:=Option.some.inj h;omega))
  rw[ap bH,ap hnr];have ia:st.closed=false:=by
   cases h:st.closed with
   |false=>rfl
   |true=>exact absurd (.inl h) bH
  have eU:st.marks.getD n 0≠(p:Int)+1:=λh=>bH (.inr h);have IN:=Hz (at_:=(p:Int)) (l:=st.marks) (i:=n) ae eU;have tx:=gL.Jg (n:Int) ((p:Int)+1);have dM:qJ g C d bZ (st.mark n ((p:Int)+1)) ⟨r.ad.set (d+n) (p+1),r.cl,r.rd,r.gn⟩:=by
   refine⟨hs.cl,by simp only[aj8];exact hs.al,λm hm=>?_,hs.th,hs.bZ,hs.sJ,hs.opn⟩;show (st.marks.set (n:Int).toNat ((p:Int)+1)).getD m 0=((r.ad.set (d+n) (p+1)).getD (d+m) 0:Int)
   rw[Yu];simp only[List.getD_eq_getElem?_getD];by_cases e:m=n
   ·subst e;rw[List.getElem?_set_self ae,List.getElem?_set_self hdn];simp
   ·rw[List.getElem?_set_ne ae,List.getElem?_set_ne ae];have:=hs.mks m hm;simpa only[List.getD_eq_getElem?_getD]using this
  have hum:zl (p:Int) (st.mark n ((p:Int)+1)).marks+1=zl (p:Int) st.marks:=by show zl (p:Int) (st.marks.set (n:Int).toNat ((p:Int)+1))+1=_;rw[Yu];exact IN
  have he:=hc.ins n hn;have ht:=hc.Bt n hn;have hx:=iP (g:=g) (pc:=(n:Int)) ae ae;have Us:=hg.split _ _ hx;have hgj:=hg.jump _ _ hx;have Ut:=hg.next _ _ hx;have hgo:=hg.ops _ (List.mem_of_getElem? hx);simp only;generalize hi:e9 C (d+n)=i at *;generalize Xo:bu g (n:Int)=x at *;generalize yV:st.mark (n:Int) ((p:Int)+1)=bF at *;have Wg:bF.closed=false:=by rw[<- yV];exact ia
  generalize Gd:(⟨r.ad.set (d+n) (p+1),r.cl,r.rd,r.gn⟩:fE)=r1 at *;have MX:i.op=x.op:=by rw[<- he];rfl
  have aha:=MX;rw[Yu]at Ut;by_cases V0:x.op=0\/x.op=1
  ·rw[be V0,be (show i.op=0\/i.op=1 by rw[MX];exact V0)];subst Gd;have Zw:r.rd=bF.list.map λx=>(⟨d+x.cI.toNat,x.aF⟩:jC):=dM.th;refine⟨by show decide (i.op=0)=decide (x.op=0);rw[MX],dM.al,dM.mks,?_,λy hy=>?_,λh=>?_,λh y hy=>?_⟩
   ·show r.rd++[⟨d+n,aF⟩]=_;rw[dK.mw tx.n,Zw,akF];simp only[ajR,ajV,Yu]
   ·rw[dK.mw tx.n]at hy;rcases List.mem_append.1 hy with hy|hy
    ·exact dM.bZ y hy
    ·rw[List.mem_singleton.1 hy]
   ·refine⟨bF.list,⟨n,bZ,aF⟩,dK.mw tx.n _ _,?_⟩;show (bu g (n:Int)).op=0;rw[Xo];exact of_decide_eq_true h
   ·rw[dK.mw tx.n]at hy;rcases List.mem_append.1 hy with hy|hy
    ·exact dM.opn Wg y hy
    ·rw[List.mem_singleton.1 hy];show (bu g (n:Int)).op=1;rw[Xo];have:¬x.op=0:=of_decide_eq_false h;omega
  rw[ap V0,ap (show ¬(i.op=0\/i.op=1) by rw[MX];exact V0)];by_cases o2:x.op=2
  ·rw[be o2,be (show i.op=2 by rw[MX];exact o2)];obtain⟨g1,g2,g3,g4⟩:=Us o2;obtain⟨a,ha⟩:∃a:Nat,x.x=a:=⟨x.x.toNat,ae⟩
   obtain⟨b,hb⟩:∃b:Nat,x.y=b:=⟨x.y.toNat,ae⟩
   have ex:i.x.toNat=d+a:=by
    have:(i.era d).x=i.x-d:=by unfold aq.era;simp only[MX,o2];rfl
    rw[he,ha]at this;omega
   have ey:i.y.toNat=d+b:=by
    have:(i.era d).y=i.y-d:=by unfold aq.era;simp only[MX,o2];rfl
    rw[he,hb]at this;omega
   rw[ex,ey,ha,hb];have k1:=tB p k k' a aF bF r1 tx ae ae ae dM;obtain⟨k2,k3,_⟩:=jm g t p bZ k (a:Int) aF bF hg tx ae ae;exact tB p k k' b aF _ _ k2 ae ae ae k1
  rw[ap o2,ap (show ¬i.op=2 by rw[MX];exact o2)];by_cases o3:x.op=3
  ·rw[be o3,be (show i.op=3 by rw[MX];exact o3)];obtain⟨g1,g2⟩:=hgj o3;obtain⟨a,ha⟩:∃a:Nat,x.x=a:=⟨x.x.toNat,ae⟩
   have ex:i.x.toNat=d+a:=by
    have:(i.era d).x=i.x-d:=by unfold aq.era;simp only[MX,o3];rfl
    rw[he,ha]at this;omega
   rw[ex,ha];exact tB p k k' a aF bF r1 tx ae ae ae dM
  rw[ap o3,ap (show ¬i.op=3 by rw[MX];exact o3)];have Mb:n+1<g.ins.length:=Ut (.inr ae);have e1:(n:Int)+1=((n+1:Nat):Int):=ae;by_cases o4:x.op=4
  ·rw[be o4,be (show i.op=4 by rw[MX];exact o4),e1,aky];have en:i.n=x.n:=by rw[<- Q3 ht ae d,he]
   rw[en];exact tB p k k' (n+1) _ bF r1 tx Mb ae ae dM
  rw[ap o4,ap (show ¬i.op=4 by rw[MX];exact o4),be (by omega:i.op=5),Sp ht ae d p,he];split
  ·rw[e1,aky];exact tB p k k' (n+1) _ bF r1 tx Mb ae ae dM
  ·exact dM
theorem OG {p:Nat} (hp:p<t.length):∀(l:List kE) (st:dK) (r:fE),(∀x∈l,x.ok g)->(∀x∈l,x.from_=bZ)->st.inv g ((p:Int)+1)->qJ g C d bZ st r ->
  qJ g C d bZ (qE g t p l st) (jj t Bs C p (l.map λx=>(⟨d+x.cI.toNat,x.aF⟩:jC)) r)
 |[],_,_,_,_,_,h=>h
 |x::l,st,r,hl,hf,hi,hs=>by
  have hx:=hl x ak;obtain⟨n,hn⟩:∃n:Nat,x.cI=n:=⟨x.cI.toNat,by have:=hx.p0;omega⟩
  have AV:n<g.ins.length:=by have:=hx.p1;omega
  have UM:=hi.ok.len;have hle:=nf ((p:Int)+1) st.marks;have key:(lu g t p st x).inv g ((p:Int)+1)/\qJ g C d bZ (lu g t p st x) (jg t Bs C p r ⟨d+x.cI.toNat,x.aF⟩):=by
   unfold lu jg;simp only;have hgx:=iP (g:=g) (pc:=(n:Int)) ae ae;have he:=hc.ins n AV;have ht:=hc.Bt n AV;have MX:(e9 C (d+n)).op=(bu g n).op:=by rw[<- he];rfl
   rw[hn,ajP];have abD:tI g t p x ↔ (e9 C (d+n)).op=1/\(e9 C (d+n)).pass t Bs p=true:=by
    unfold tI;rw[hn,<- MX];constructor
    ·rintro ⟨h1,h2⟩;refine⟨h1,?_⟩;rw[yW ht h1 d p,he,h2,bi ae];rfl
    ·rintro ⟨h1,h2⟩;rw[yW ht h1 d p,he,aj5]at h2;exact⟨h1,h2.2⟩
   by_cases hr:tI g t p x
   ·rw[be hr,be (abD.1 hr)];have Mb:n+1<g.ins.length:=by have:=hg.next _ _ hgx (.inl (by unfold tI at hr;rw[hn]at hr;exact hr.1));rw[ajP]at this;exact this
    have ec:((p:Int)+1)=((p+1:Nat):Int):=ae;have en:((n:Int)+1)=((n+1:Nat):Int):=ae;refine⟨mf g hg t _ _ _ _ _ st hi ae ae hx.aF,?_⟩;rw[hf x ak,en,ec,aky];rw[ec]at hle hi;exact tB hg hc (p+1) _ _ (n+1) _ st r hi.ok Mb (by unfold qb;omega) (by rw[hc.len];omega) hs
   ·rw[ap hr,ap (λh=>hr (abD.2 h))];exact⟨hi,hs⟩
  exact OG hp l _ _ (λy hy=>hl y (by simp [hy])) (λy hy=>hf y (by simp [hy])) key.1 key.2
omit hg hc in
theorem VZ {at0 p c:Nat} (oU:c=g.ai.toNat) {st:dK}{r:fE} (hs:qJ g C d at0 st r) (σ:Bl):(fF g σ p st.list).2=tN at0 p c r σ.2:=by
 unfold fF tN;rw[hs.cl];cases h:st.closed with
 |true =>
  obtain⟨l,x,h1,h2⟩:=hs.sJ h;have hx:=hs.bZ x (by rw[h1];simp);rw[be rfl,hs.th,h1];simp only[akF,ajR,ajV,List.getLastD_concat,ajQ,ajW,ajX,ajT,Nat.add_sub_cancel];rw[List.getElem?_append_right (ajZ _),akQ];simp only[List.getElem?_cons_zero,be h2,hx,oU];rfl
 |false =>
  rw[ap aU];cases hl:st.list[st.list.length-1]? with
  |none=>rfl
  |some x =>
   simp only;rw[ap (by rw[hs.opn h x (List.mem_of_getElem? hl)];decide)]
theorem OY {at0 c:Nat} (oU:c=g.ai.toNat):∀(k k' p:Nat) (fd:Bool) (st:dK) (sp:List kE×Nat) (σ:Bl) (r:fE) (gb:Nat),at0<=p->p<=t.length->t.length<k+p->t.length+1<k'+p ->
  (fB g t p at0 fd st).inv g p->qJ g C d at0 (fB g t p at0 fd st) r->(pt (ij g) g t at0 k p fd st sp σ).2.2=(mm t Bs C at0 c k' p r gb σ.2).1
 |0,_,_,_,_,_,_,_,_,_,_,_,_,_,_=>ae
 |_+1,0,_,_,_,_,_,_,_,_,_,_,_,_,_=>ae
 |k+1,k'+1,p,fd,st,sp,σ,r,gb,h0,h1,hk,sT,hi,hs=>by
  rw[pt,mm];generalize fB g t p at0 fd st=bF at *;have hb:(ij g).B σ p bF.list=true:=rfl;have hF:(ij g).F σ p bF.list=fF g σ p bF.list:=rfl;have yG:=VZ (at0:=at0) (p:=p) oU hs σ;simp only[hb,hF];by_cases hl:bF.list=[]
  ·have hr:r.rd=[]:=by rw[hs.th,hl];rfl
   rw[be (.inr (.inl ⟨hl,.inr ae⟩)),be hr];show (fF g σ p bF.list).2=σ.2;rw[hl];rfl
  ·have hr:¬r.rd=[]:=by rw[hs.th];simpa using hl
   rw[ap hr];by_cases hp:(t.length:Int)<=p
   ·rw[be (.inr (.inr hp)),<- yG];show (fF g σ p bF.list).2=_;have mS:∀(l:List kE) (r:fE),(∀x∈l,x.ok g)->jj t Bs C p (l.map λx=>(⟨d+x.cI.toNat,x.aF⟩:jC)) r=r:=by
     intro l;induction l with
     |nil=>intro _ _;rfl
     |cons x l ih =>
      intro r hx;have AY:=hx x ak;have hn:x.cI.toNat<g.ins.length:=by have:=AY.p0;have:=AY.p1;omega
      show jj t Bs C p _ (jg t Bs C p r _)=r;have h1:jg t Bs C p r ⟨d+x.cI.toNat,x.aF⟩=r:=by unfold jg;rw[ap];rintro ⟨h1,h2⟩;simp only at h1 h2;rw[yW (hc.Bt _ hn) h1 d p,ce ae]at h2;cases h2
      rw[h1];exact ih r λy hy=>hx y (by simp [hy])
    rw[hs.th,mS bF.list _ hi.th];cases k' with
    |zero=>omega
    |succ k'=>rw[mm,be rfl]
   ·rw[ap (by rintro (h|⟨h,_⟩|h);cases h;exact hl h;exact hp h),hs.th];have UM:=hi.ok.len;have hinv:(⟨bF.marks,false,sp.1,0,sp.2⟩:dK).inv g ((p:Int)+1):=by refine⟨⟨UM,alf _⟩,?_,λx hx=>by simp [dK.list]at hx⟩;have:=nf ((p:Int)+1) bF.marks;show 0+zl ((p:Int)+1) bF.marks<=g.ins.length;omega
    have kA:qJ g C d at0 ⟨bF.marks,false,sp.1,0,sp.2⟩ ⟨r.ad,false,[],gb⟩ :=
     ⟨rfl,hs.al,hs.mks,by simp [dK.list],λx hx=>by simp [dK.list]at hx,λh=>(by cases h),λ_ x hx=>by simp [dK.list]at hx⟩
    have FX:=nV g hg t p bF.list _ hi.th hinv;have hf:=OG (t:=t) (Bs:=Bs) (p:=p) hg hc ae bF.list _ _ hi.th hs.bZ hinv kA;have ep:((p:Int)+1)=((p+1:Nat):Int):=ae;have bH:fB g t ((p+1:Nat):Int) at0 (fd||bF.closed) (qE g t p bF.list ⟨bF.marks,false,sp.1,0,sp.2⟩)=qE g t p bF.list ⟨bF.marks,false,sp.1,0,sp.2⟩:=by unfold fB;rw[ap (λh=>by have:=h.1;omega)]
    rw[ep];rw[<- yG];exact OY oU k k' (p+1) _ _ _ _ _ _ ae ae ae ae (by rw[bH,<- ep];exact FX) (by rw[bH];exact hf)
theorem Ju {i c:Nat} (oU:c=g.ai.toNat) (hi:i<=t.length) (hs:qJ g C d i (gI g t i i (qb g) 0 (fi g) (bh g)) (mJ t Bs C i c)):(mr g t i i).2.2=(fL t Bs C i c).1:=by
 have bH:fB g t i i false (bh g)=gI g t i i (qb g) 0 (fi g) (bh g):=by unfold fB;rw[be ⟨akc _,rfl⟩]
 have pU:=hg.BA;have hb:(bh g).inv g i:=by
  refine⟨⟨by simp [bh],alf _⟩,?_,λx hx=>by simp [dK.list,bh]at hx⟩;have:=nf (i:Int) (bh g).marks;have h2:(bh g).marks.length=g.ins.length:=by simp [bh]
  show 0+zl (i:Int) (bh g).marks<=g.ins.length;omega
 unfold mr fL;exact OY hg hc oU _ _ i false (bh g) ([],0) (false,none) _ 0 (ajZ _) hi ae ae (by rw[bH];exact mf g hg t _ _ _ _ _ _ hb (akc _) ae (by simp [fi])) (by rw[bH];exact hs)
end
variable{t:List Int}
theorem JA {t:List Int}{Bs:List (List Bool)}{C:List aq}{b c:Nat}:∀(k p:Nat) (st:fE) (gb:Nat) (ig:Option jy),(∀m,ig=some m->m.c.length=c)->∀m,(mm t Bs C b c k p st gb ig).1=some m->m.c.length=c
 |0,_,_,_,_,h=>h
 |k+1,p,st,gb,ig,h=>by
  rw[mm];split
  ·exact h
  ·refine JA k _ _ _ _ (λm hm=>?_);unfold tN at hm;split at hm
   ·cases hm;simp [Ny]
   ·exact h m hm
theorem Su{Bs:List (List Bool)}{C:List aq}{p c:Nat}:∀m,(fL t Bs C p c).1=some m->m.c.length=c:=JA _ _ _ _ _ (λm hm=>by cases hm)
theorem R9 {p:iM} (ht:t.length<=65536):(kt p t).length<=1000000000/\∀m∈kt p t,m.c.length<=1000000000:=by
 unfold kt;split
 ·exact⟨alf _,λm hm=>by cases hm⟩
 ·rename_i h;have hv:c9 p t=0:=Decidable.not_not.1 h;have hR:=zV hv;have h0:=hR.c0;have h1:=hR.c1;refine⟨by have:=B5 t (aY t (p.re.bz 0) (p.re.bz 0).length) (ja p) p.ai.toNat (t.length+1);omega,λm hm=>?_⟩;unfold gW at hm;obtain⟨j,_,hj⟩:=List.mem_filterMap.1 hm;have:=Su m hj;omega
def kE.Vz (x:kE):IG:=⟨x.cI,x.aF⟩
theorem KM (g:dk) (m:List IG):∀l:List IG,(gN g l).2=true->gN g (l++m)=gN g l
 |[],h=>by simp [gN]at h
 |x::l,h=>by
  rw[ajN,gN,gN];rw[gN]at h;split
  ·rfl
  ·rename_i hc;rw[ap hc]at h;rw[KM g m l h]
theorem Gu (g:dk) (x:IG):∀l:List IG,(gN g l).2=false->(gN g l).1=l/\gN g (l++[x])=(l++[x],decide ((bu g x.pc).op=0))
 |[],_=>by
  refine⟨rfl,?_⟩;simp only[ajO,gN];split
  ·rename_i h;simp [h]
  ·rename_i h;simp [h]
 |y::l,h=>by
  rw[gN]at h;by_cases hc:(bu g y.pc).op=0
  ·rw[be hc]at h;cases h
  ·rw[ap hc]at h;obtain⟨h1,h2⟩:=Gu g x l h;refine⟨by rw[gN,ap hc,h1],?_⟩;rw[ajN,gN,ap hc,h2]
theorem qz (g:dk) (t:List Int) (at_:Int):∀(k:Nat) (pc:Int) (aF:List Int) (r:JI),∃m,(nF g t at_ k pc aF r).qg=r.qg++m
 |0,_,_,r=>⟨[],by simp [nF]⟩
 |k+1,pc,aF,r=>by
  rw[nF];split
  ·exact⟨[],ak⟩
  simp only;split
  ·obtain⟨m1,h1⟩:=qz g t at_ k (bu g pc).x aF ⟨r.added.set pc.toNat true,r.qg⟩;obtain⟨m2,h2⟩:=qz g t at_ k (bu g pc).y aF (nF g t at_ k (bu g pc).x aF ⟨r.added.set pc.toNat true,r.qg⟩);exact⟨m1++m2,by rw[h2,h1,aj7]⟩
  split
  ·exact qz g t at_ k _ _ ⟨r.added.set pc.toNat true,r.qg⟩
  split
  ·exact qz g t at_ k _ _ ⟨r.added.set pc.toNat true,r.qg⟩
  split
  ·split
   ·exact qz g t at_ k _ _ ⟨r.added.set pc.toNat true,r.qg⟩
   ·exact⟨[],ak⟩
  ·exact⟨_,rfl⟩
structure Dh (g:dk) (at_ bZ:Int) (st:dK) (r:JI):Prop where
 added:r.added.length=g.ins.length
 marks:st.closed=false->∀i,i<g.ins.length->(st.marks.getD i 0=at_+1 ↔ r.added.getD i true=true)
 list:st.list.map kE.Vz=(gN g r.qg).1
 done:st.closed=(gN g r.qg).2
 from_:∀x∈st.list,x.from_=bZ
 le:∀m∈st.marks,m<=at_+1
theorem rz (g:dk) (hg:g.eF) (t:List Int) (at_ bZ:Int):∀(k:Nat) (pc:Int) (aF:List Int) (st:dK) (r:JI),st.ok g->Dh g at_ bZ st r->0<=pc->pc<g.ins.length->Dh g at_ bZ (gI g t at_ bZ k pc aF st) (nF g t at_ k pc aF r)
 |0,_,_,st,r,_,h,_,_=>by simpa [gI,nF]using h
 |k+1,pc,aF,st,r,gL,h,h0,h1=>by
  by_cases hc:st.closed=true
  ·rw[gI,be (.inl hc)];obtain⟨m,hm⟩:=qz g t at_ (k+1) pc aF r;have aaY:gN g (nF g t at_ (k+1) pc aF r).qg=gN g r.qg:=by rw[hm];exact KM g m _ (by rw[<- h.done];exact hc)
   exact⟨by rw[(qF g t at_ (k+1) pc aF r).1];exact h.added,λia=>(by rw[hc]at ia;cases ia),by rw[aaY];exact h.list,by rw[aaY];exact h.done,h.from_,h.le⟩
  have hcf:st.closed=false:=by simpa using hc
  have Ia:=h.marks hcf pc.toNat ae;by_cases hm:st.marks.getD pc.toNat 0=at_+1
  ·rw[gI,nF,be (.inr hm),be (Ia.1 hm)];exact h
  rw[gI,nF,ap (λhh=>hh.elim hc hm),ap (λhh=>hm (Ia.2 hh))];have hx:=iP h0 h1;have hs:=hg.split pc.toNat _ hx;have hj:=hg.jump pc.toNat _ hx;have hn:=hg.next pc.toNat _ hx;have ho:=hg.ops _ (List.mem_of_getElem? hx);have tx:=gL.Jg pc (at_+1);have hlen:=gL.len;have hS:Dh g at_ bZ (st.mark pc (at_+1)) ⟨r.added.set pc.toNat true,r.qg⟩:=by
   refine⟨by simpa using h.added,λ_ i hi=>?_,h.list,h.done,h.from_,λm ZU=>?_⟩
   ·have ha:=h.added;have XI:=h.marks hcf i hi;show (st.marks.set pc.toNat (at_+1)).getD i 0=at_+1 ↔ (r.added.set pc.toNat true).getD i true=true;simp only[List.getD_eq_getElem?_getD,List.getElem?_set]at XI ⊢;by_cases he:pc.toNat=i
    ·subst he;simp [show pc.toNat<st.marks.length by omega,show pc.toNat<r.added.length by omega]
    ·simpa [he]using XI
   ·rcases akL ZU with ZU|rfl
    ·exact h.le m ZU
    ·exact akc _
  simp only;have Wg:(st.mark pc (at_+1)).closed=false:=hcf;generalize st.mark pc (at_+1)=bF at *;have O7:∀c:Bool,c=decide ((bu g pc).op=0)->Dh g at_ bZ (bF.push ⟨pc,bZ,aF⟩ c) ⟨r.added.set pc.toNat true,r.qg++[⟨pc,aF⟩]⟩:=by
   rintro c rfl;obtain⟨q1,q2⟩:=Gu g ⟨pc,aF⟩ r.qg (by rw[<- hS.done];exact Wg);refine⟨hS.added,λ_=>hS.marks Wg,?_,?_,?_,hS.le⟩
   ·rw[dK.mw tx.n,akF,hS.list,q1,q2];rfl
   ·rw[q2];rfl
   ·rw[dK.mw tx.n];intro x hx;rcases List.mem_append.1 hx with hx|hx
    ·exact hS.from_ x hx
    ·rw[List.mem_singleton.1 hx]
  by_cases o0:(bu g pc).op=0
  ·rw[be (.inl o0),bd,bd,bd,bd];exact O7 _ rfl
  by_cases o1:(bu g pc).op=1
  ·rw[be (.inr o1),bd,bd,bd,bd];exact O7 _ rfl
  rw[ap (λhh=>hh.elim o0 o1)];by_cases o2:(bu g pc).op=2
  ·rw[be o2,be o2];have:=hs o2;have k1:=rz g hg t at_ bZ k (bu g pc).x aF bF ⟨r.added.set pc.toNat true,r.qg⟩ tx hS ae ae;have k2:=(jm g t at_ bZ k (bu g pc).x aF bF hg tx ae ae).1;exact rz g hg t at_ bZ k (bu g pc).y aF _ _ k2 k1 ae ae
  rw[ap o2,ap o2];by_cases o3:(bu g pc).op=3
  ·rw[be o3,be o3];have:=hj o3;exact rz g hg t at_ bZ k _ _ _ _ tx hS ae ae
  rw[ap o3,ap o3];by_cases o4:(bu g pc).op=4
  ·rw[be o4,be o4];have:=hn (.inr ae);exact rz g hg t at_ bZ k _ _ _ _ tx hS ae ae
  rw[ap o4,ap o4,be (by omega:(bu g pc).op=5)];split
  ·have:=hn (.inr ae);exact rz g hg t at_ bZ k _ _ _ _ tx hS ae ae
  ·exact hS
theorem Da (g:dk) (hg:g.eF) (t:List Int) (at_ bZ:Int):∀(l:List kE) (st:dK) (r:JI),(∀x∈l,x.ok g)->(∀x∈l,x.from_=bZ)->st.ok g->Dh g (at_+1) bZ st r->Dh g (at_+1) bZ (qE g t at_ l st) ((l.map kE.Vz).foldl (FT g t at_) r)
 |[],_,_,_,_,_,h=>h
 |x::l,st,r,hl,hf,gL,h=>by
  have hx:=hl x ak;have hfx:=hf x ak;show Dh g (at_+1) bZ (qE g t at_ l (lu g t at_ st x)) ((l.map kE.Vz).foldl (FT g t at_) (FT g t at_ r x.Vz));by_cases hc:tI g t at_ x
  ·have hn:=hg.next x.cI.toNat _ (iP hx.p0 hx.p1) (.inl hc.1);have hp:=hx.p0;have e1:lu g t at_ st x=gI g t (at_+1) bZ (qb g) (x.cI+1) x.aF st:=by unfold lu;rw[be hc,hfx]
   have e2:FT g t at_ r x.Vz=nF g t (at_+1) (qb g) (x.cI+1) x.aF r:=be hc;rw[e1,e2];exact Da g hg t at_ bZ l _ _ (λy hy=>hl y (by simp [hy])) (λy hy=>hf y (by simp [hy])) (jm g t (at_+1) bZ (qb g) (x.cI+1) x.aF st hg gL ae ae).1
    (rz g hg t (at_+1) bZ (qb g) (x.cI+1) x.aF st r gL h ae ae)
  ·have e1:lu g t at_ st x=st:=ap hc;have e2:FT g t at_ r x.Vz=r:=ap hc;rw[e1,e2];exact Da g hg t at_ bZ l _ _ (λy hy=>hl y (by simp [hy])) (λy hy=>hf y (by simp [hy])) gL h
theorem LQ (g:dk) (at_ bZ:Int) (marks:List Int) (arr:List kE) (gen:Nat) (hm:marks.length=g.ins.length) (hle:∀m∈marks,m<=at_):Dh g at_ bZ ⟨marks,false,arr,0,gen⟩ (ts g):=by
 refine⟨by simp [ts],λ_ i hi=>?_,by simp [dK.list,ts,gN],by simp [ts,gN],λx hx=>by simp [dK.list]at hx,λm ZU=>by have:=hle m ZU;show m<=at_+1;omega⟩;have h1:marks.getD i 0≠at_+1:=by have:marks[i]?=some (marks.getD i 0):=xz ae;have:=hle _ (List.mem_of_getElem? this);omega
 have h2:(ts g).added.getD i true=false:=by simp [ts,List.getD_eq_getElem?_getD,List.getElem?_replicate,hi]
 rw[h2];exact⟨λh=>(h1 h).elim,λh=>by cases h⟩
theorem Gf (g:dk):∀l:List IG,(gN g l).2=true->∃x,(gN g l).1.getLast?=some x/\(bu g x.pc).op=0
 |[],h=>by simp [gN]at h
 |x::l,h=>by
  rw[gN]at h ⊢;by_cases hc:(bu g x.pc).op=0
  ·rw[be hc];exact⟨x,rfl,hc⟩
  ·rw[ap hc]at h ⊢;obtain⟨y,h1,h2⟩:=Gf g l h;exact⟨y,by simp only;rw[List.getLast?_cons,h1];rfl,h2⟩
theorem OC (g:dk):∀l:List IG,(gN g l).2=false->∀x∈(gN g l).1,(bu g x.pc).op≠0
 |[],_=>by simp [gN]
 |x::l,h=>by
  rw[gN]at h ⊢;by_cases hc:(bu g x.pc).op=0
  ·rw[be hc]at h;cases h
  ·rw[ap hc]at h ⊢;intro y hy;rcases List.mem_cons.1 hy with rfl|hy
   ·exact hc
   ·exact OC g l h y hy
theorem TM (g:dk) (at_ bZ:Int) (st:dK) (l:AF) (σ:Bl) (hl:l.at_=at_) (h:Dh g at_ bZ st l.st):(fF g σ at_ st.list).2=NT g bZ l σ.2:=by
 have Sm:=h.list;unfold fF NT Ji;simp only[<- List.getLast?_eq_getElem?];cases hc:(gN g l.st.qg).2 with
 |true =>
  obtain⟨y,h1,h2⟩:=Gf g l.st.qg hc;rw[<- Sm,List.getLast?_map]at h1;obtain⟨x,hx,rfl⟩:=Option.map_eq_some_iff.1 h1;have hxf:=h.from_ x (List.mem_of_getLast? hx);rw[<- Sm,List.getLast?_map,hx];simp only[if_true,ajS];have h2':(bu g x.cI).op=0:=h2;rw[be h2',hxf,hl];rfl
 |false =>
  have mS:=OC g l.st.qg hc;rw[<- Sm]at mS;simp only[ajY,if_false];cases hx:st.list.getLast? with
  |none=>rfl
  |some x =>
   have:(bu g x.cI).op≠0:=mS x.Vz (List.mem_map.2 ⟨x,List.mem_of_getLast? hx,rfl⟩);simp only;rw[ap this]
theorem JW (S:wZ Bl) (g:dk) (hg:g.eF) (t:List Int) (hF:S.F=λσ i l=>fF g σ i l) (hB:S.B=λ_ _ _=>true) (at0:Int):∀(k:Nat) (a:Int) (fd:Bool) (st:dK) (sp:List kE×Nat) (σ:Bl) (l:AF),at0<=a->l.at_=a->(fB g t a at0 fd st).inv g a->Dh g a at0 (fB g t a at0 fd st) l.st ->
  (pt S g t at0 k a fd st sp σ).2.2=VN g t at0 k l σ.2
 |0,_,_,_,_,_,_,_,_,_,_=>rfl
 |k+1,a,fd,st,sp,σ,l,h0,hl,hi,hs=>by
  rw[pt,VN];generalize fB g t a at0 fd st=bF at *;have yG:=TM g a at0 bF l σ hl hs;have hσ:S.F σ a bF.list=fF g σ a bF.list:=by rw[hF]
  have hb:S.B σ a bF.list=true:=by rw[hB]
  rw[hσ,hb];have aaK:bF.list=[] ↔ (gN g l.st.qg).1=[]:=by rw[<- hs.list,List.map_eq_nil_iff]
  by_cases hc:(gN g l.st.qg).1=[]\/(t.length:Int)<=l.at_
  ·rw[be hc,be ?_]
   ·exact yG
   ·rcases hc with hc|hc
    ·exact .inr (.inl ⟨aaK.2 hc,.inr h0⟩)
    ·exact .inr (.inr ae)
  ·rw[ap hc,ap ?_]
   ·have uu:∀fd' st',fB g t (a+1) at0 fd' st'=st':=λfd' st'=>ap (λh=>by have:=h.1;omega);have Dg:(⟨bF.marks,false,sp.1,0,sp.2⟩:dK).inv g (a+1):=by have I5:=hi.ok.len;refine⟨⟨I5,alf _⟩,?_,λx hx=>by simp [dK.list]at hx⟩;have:=nf (a+1) bF.marks;show 0+zl (a+1) bF.marks<=_;omega
    have Z9:=Da g hg t a at0 bF.list ⟨bF.marks,false,sp.1,0,sp.2⟩ (ts g) hi.th hs.from_ Dg.ok (LQ g (a+1) at0 bF.marks sp.1 sp.2 hi.ok.len hs.le);have Ew:=nV g hg t a bF.list _ hi.th Dg;rw[<- yG];refine JW S g hg t hF hB at0 k (a+1) _ _ _ _ (Uq g t l) ae (by rw[<- hl];rfl) (by rw[uu];exact Ew) ?_;rw[uu];unfold Uq Xf;rw[<- hs.list,hl];exact Z9
   ·intro h;rcases h with h|⟨h,_⟩|h
    ·cases h
    ·exact hc (.inl (aaK.1 h))
    ·exact hc (.inr ae)
end Go.Proofs.YtjjfioalgbecmaaGreat
