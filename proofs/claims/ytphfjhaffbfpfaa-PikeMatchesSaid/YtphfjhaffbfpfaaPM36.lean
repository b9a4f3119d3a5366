/- A part of the proof (K33 K34 K35). -/
import Derived.Test.YtphfjhaffbfpfaaPM2
import Derived.Test.YtphfjhaffbfpfaaPM22
import Derived.Test.YtphfjhaffbfpfaaPM29
set_option linter.all false
set_option maxRecDepth 100000
set_option maxHeartbeats 80000000
namespace Go.Proofs.Ytphfjhaffbfpfaa
open Go.VL Go.Proofs.Try
abbrev zC:=Bool×Option ra
def LD (σ:zC):V:=if σ.1=true then .d (.sl []) else .fu []
def Ij (σ:zC):VL.Obj:=⟨0,true,3,[[i64 0,i64 0,LD σ]]⟩
def MR (σ:zC):VL.Obj:=match σ.2 with
 |none=>Ij σ
 |some m=>⟨0,true,3,[[i64 m.s,i64 m.e,.d (bQ m.c)]]⟩
def yx (σ:zC):VL.Obj:=⟨0,true,1,[[bV σ.2.isSome]]⟩
def fF (g:cJ) (σ:zC) (i:Int) (l:List jK):zC:=(true,match l[l.length-1]? with
 |none=>σ.2
 |some x=>if (bk g x.gZ).op=0 then some ⟨x.from_,i,mL g.ah.toNat x.aE⟩ else σ.2)
def Lj (g:cJ) (t:List Int) (st:eG) (σ:zC):List VL.Obj:=[b6 g t 1 st,bK st,cF 0,Ij σ,MR σ,yx σ,dD st]
theorem BZ (ck:Nat) (s:List VL.Obj) (gg:Nat) (b:Bool) (z:Nat) (l:List (List D)):nh ck s ⟨gg,b,z,l.map λc=>c.map V.d⟩=some ⟨gg,b,z,l.map λc=>c.map V.d⟩:=by
 have h1:∀c:List D,bf.go ck s (c.map V.d)=some (c.map V.d):=by
  intro c;induction c with
  |nil=>rfl
  |cons x c ih=>simp only[adG,bf.go,bf,ih]
 have h2:∀l:List (List D),(l.map λc=>c.map V.d).mapM (bf.go ck s)=some (l.map λc=>c.map V.d):=by
  intro l;induction l with
  |nil=>rfl
  |cons x l ih=>simp only[adG,List.mapM_cons,h1,ih];rfl
 unfold nh;rw[h2];rfl
theorem HS (ck:Nat) (s:List VL.Obj) (st:eG):nh ck s (bK st)=some (bK st):=by
 have e1:bK st=⟨1,true,1,(st.marks.map λx=>[iD x]).map λc=>c.map V.d⟩:=by simp [bK,iD,i64]
 rw[e1];exact BZ _ _ _ _ _ _
theorem NY (ck:Nat) (s:List VL.Obj) (st:eG):nh ck s (dD st)=some (dD st):=by
 have e2:dD st=⟨st.gen,true,3,(st.arr.map jK.cells).map λc=>c.map V.d⟩:=by simp [dD]
 rw[e2];exact BZ _ _ _ _ _ _
theorem K7 (s:List VL.Obj) (a:VL.Obj) (g:cJ) (t:List Int) (st:eG):nh 7 (a::bK st::s) (b6 g t 1 st)=some (b6 g t 1 st):=by simp [nh,b6,bf.go,bf,cE,i64,bV,bK]
theorem Mq (s:List VL.Obj) (g:cJ) (t:List Int) (st:eG):nh 7 (b6 g t 1 st::s) (cF 0)=some (cF 0):=by simp [nh,b6,cF,bf.go,bf,cE]
theorem KY (ck:Nat) (s:List VL.Obj) (σ:zC) (r:Option ra):nh ck s (Ij σ)=some (Ij (true,r)):=by obtain⟨b,o⟩:=σ;cases b <;> simp [nh,Ij,LD,bf.go,bf,i64]
theorem Ki (ck:Nat) (s:List VL.Obj) (σ:zC):nh ck s (MR σ)=some (MR (true,σ.2)):=by
 obtain⟨b,o⟩:=σ;cases o with
 |none=>exact KY ck s (b,none) none
 |some m=>simp [nh,MR,bf.go,bf,i64]
theorem Qb (ck:Nat) (s:List VL.Obj) (σ:zC):nh ck s (yx σ)=some (yx σ):=by simp [nh,yx,bf.go,bf,bV]
theorem Tt {g:cJ}{t:List Int}{st:eG}{σ τ:zC}{o4:VL.Obj}{ext:List VL.Obj}{b:V}{K:V->List VL.Obj->Prop} (h4:nh 7 (b6 g t 1 st::bK st::cF 0::Ij σ::o4::yx τ::dD st::ext) o4=some (MR τ)) (hτ:τ.1=true) (hb:∃x,b=.d x)
  (hk:K b (Lj g t st τ)):wQ 7 (b6 g t 1 st::bK st::cF 0::Ij σ::o4::yx τ::dD st::ext) b K:=by
 obtain⟨x,rfl⟩:=hb;obtain⟨tb,tm⟩:=τ;simp only at hτ;subst hτ;have h3:=KY 7 (b6 g t 1 st::bK st::cF 0::Ij σ::o4::yx (true,tm)::dD st::ext) σ tm;unfold wQ;simp only[List.take_succ_cons,List.take_zero,List.mapM_cons,List.mapM_nil,K7,HS,Mq,h3,h4,Qb,NY,Option.bind_eq_bind,Option.bind_some,Option.pure_def,bf];exact hk
def fArgs (i:Int) (st:eG):List V:=[i64 i,.so 6 st.gen 0 st.n,.rf 2 0 0 0,.rf 5 0 0 0,.rf 4 0 0 0]
theorem Uy (g:cJ) (σ:zC) (i:Int):fF g σ i []=(true,σ.2):=rfl
theorem Le {st:eG}{g:cJ} (aU:st.ok g) (h:st.n≠0):∃x,st.arr[st.n-1]?=some x/\x∈st.list/\st.list[st.list.length-1]?=some x:=by
 have hn:=aU.n;obtain⟨x,hx⟩:∃x,st.arr[st.n-1]?=some x:=⟨_,adn (by omega)⟩
 have hl:st.list.length=st.n:=by unfold eG.list;rw[ad5];omega
 have h2:st.list[st.n-1]?=some x:=by unfold eG.list;rw[ad1,ap (by omega)];exact hx
 exact⟨x,hx,adw h2,by rw[hl];exact h2⟩
def kN (c i:Nat) (aE:List Int):VL.Obj:=⟨1,true,2,(List.range i).map (λj=>[i64 (tU aE j).1,i64 (tU aE j).2])++List.replicate (c-i) [i64 0,i64 0]⟩
theorem RE {α:Type} (l:List α) (z:α) {c j:Nat} (hl:l.length=j) (h:j<c):(l++List.replicate (c-j) z)[j]?=some z:=by rw[adN (by omega)];simp [List.getElem?_replicate,hl];omega
theorem Qp {α:Type} (l:List α) (z y:α) {c j:Nat} (hl:l.length=j) (h:j<c):(l++List.replicate (c-j) z).set j y=(l++[y])++List.replicate (c-(j+1)) z:=by
 rw[List.set_append_right _ _ (by omega)];obtain⟨m,hm⟩:∃m,c-j=m+1:=⟨c-j-1,by omega⟩
 rw[hm,hl,Nat.sub_self,List.replicate_succ,ad0,adX];have:c-(j+1)=m:=by omega
 rw[this];rfl
def NK (x:jK):VL.Obj:=⟨0,true,3,[x.cells.map V.d]⟩
theorem L4 (g:cJ) (hg:g.bW) (t:List Int) (i:Int) (st:eG) (σ:zC) (aU:st.ok g) (P4:∀x∈st.list,x.ok g) (hn:st.n<=100000) :
  au prog 45 (fArgs i st) (Lj g t st σ) λv s=>v=bV true/\s=Lj g t st (fF g σ i st.list):=by
 have Xr:=hg.CI;have Xx:=hg.NC;have WU:=hg.O7;have Vb:=aU.len;have RP:=aU.n;have Mj:(dD st).g=st.gen:=rfl;have Xl:(dD st).sz=3:=rfl;by_cases z0:st.n=0
 ·have hz:=eq_true (show (st.n:Int)=0 by omega);have hl:st.list=[]:=by unfold eG.list;rw[z0];rfl
  rw[hl,Uy];obtain⟨τ,hτ⟩:∃τ:zC,τ=(true,σ.2):=⟨_,rfl⟩
  have e5:yx σ=yx τ:=by rw[hτ];rfl
  rw[<- hτ];unfold fArgs Lj;rw[e5];refine Ai func45 rfl ntmps45 results45 rfl 7 211106232536991 (by simp) (by simp) ?_;simp only[zX,simprocAttr,i64,bV,iD,bD,Mj,hz,tj];refine Tt (σ:=σ) (τ:=τ) (ext:=[]) ?_ (by rw[hτ]) ⟨_,rfl⟩ ⟨rfl,rfl⟩;rw[hτ];exact Ki _ _ _
 obtain⟨x,hx,hxm,We⟩:=Le aU z0;have Pb:=P4 x hxm;have Cj:=Pb.p0;have wD:=Pb.p1;have hxr:=Pb.aE;have rb:=fE Cj wD;have Xy:¬(st.n:Int)=0:=by omega
 have w1:IntKind.i64.wrap ((st.n:Int)-1)=((st.n-1:Nat):Int):=by rw[bM _ (by omega)];omega
 have rm:((st.n-1:Nat):Int)<st.n:=by omega
 have B4:(dD st).aI[st.n-1]?=some [V.d (iD x.gZ),V.d (iD x.from_),V.d (av x.aE)]:=by simp [dD,hx,jK.cells]
 by_cases o0:(bk g x.gZ).op=0
 ·have Xi:=eq_true o0;have hF:fF g σ i st.list=(true,some ⟨x.from_,i,mL g.ah.toNat x.aE⟩):=by unfold fF;rw[We];simp only;rw[ap o0]
  rw[hF];obtain⟨C,hC⟩:∃C,C=mL g.ah.toNat x.aE:=⟨_,rfl⟩
  rw[<- hC];unfold fArgs Lj;refine Ai func45 rfl ntmps45 results45 rfl 7 211106232536991 (by simp) (by simp) ?_;simp only[zX,simprocAttr,i64,bV,iD,bD,Mj,Xl,Xy,w1,rm,B4,tj,adI];refine ao mix [] [] (by rfl) ?_;obtain⟨va,vb,vc,h4⟩:∃va vb vc,MR σ=⟨0,true,3,[[va,vb,vc]]⟩:=by
   unfold MR Ij;cases σ.2 with
   |none=>exact⟨_,_,_,rfl⟩
   |some m=>exact⟨_,_,_,rfl⟩
  rw[h4];simp only[zX,simprocAttr,i64,bV,iD,bD,cF,b6,Cj,wD,rb,bR.cells,Xi,tj,ado,yx];refine aS ca.bh ?_;refine ao mix [] [(8,[8],[8]),(9,[4],[4]),(10,[4],[]),(11,[4],[4]),(12,[4],[]),(13,[4],[4]),(14,[4],[]),(15,[4],[4])] (by rfl) ?_;simp only[zX,simprocAttr,i64,bV,iD,bD,cF,b6,Cj,wD,rb,bR.cells,Xi,tj,ado,hole,QE,Value.oneCell'];obtain⟨c,hc⟩:∃c,c=g.ah.toNat:=⟨_,rfl⟩
  have vZ:(c:Int)=g.ah:=by omega
  refine⟨⟨by omega,ady _,by omega,by omega⟩,?_⟩;obtain⟨τ,hτ⟩:∃τ:zC,τ=(true,some ⟨x.from_,i,C⟩):=⟨_,rfl⟩
  refine aJ (λn e s=>∃j:Nat,n=c-j/\j<=c/\e 4=.rf 4 0 0 0/\e 8=.rf 7 0 0 0/\e 46=i64 c/\e 47=i64 j /\
   s=[b6 g t 1 st,bK st,cF 0,Ij σ,⟨0,true,3,[[i64 x.from_,i64 i,.so 8 1 0 c]]⟩,yx τ,dD st,NK x,kN c j x.aE]) ?_ ?_
  ·refine⟨_,_,_,cU.refl,0,rfl,by omega,?_,?_,?_,?_,?_⟩ <;> (try simp only[zU,Nat.reduceBEq,Nat.reduceShiftRight,Nat.reduceMod,Nat.reduceEqDiff,reduceIte])
   all_goals first|rfl|(rw[hc];rfl)|(rw[<- hc,hτ];simp [b6,cF,NK,kN,jK.cells,i64,iD,bV,yx];done)
  rintro n e s ⟨j,rfl,hj,Si,h8,Sc,Vh,rfl⟩;rcases adV j c with aH|iP
  ·have bo:(j:Int)<c:=by omega
   have w1:IntKind.i64.wrap (2*(j:Int))=((2*j:Nat):Int):=by rw[bM _ (by omega)];omega
   have w2:IntKind.i64.wrap (((2*j:Nat):Int)+1)=((2*j+1:Nat):Int):=by rw[bM _ (by omega)];omega
   have c1:((2*j+1:Nat):Int)<(x.aE.length:Int):=by omega
   have c2:((2*j:Nat):Int)<(x.aE.length:Int):=by omega
   have c3:(0:Int)<=((2*j:Nat):Int):=by omega
   have c4:(0:Int)<=((2*j+1:Nat):Int):=by omega
   have g1:=uU (l:=x.aE) (i:=2*j) (by omega);have g2:=uU (l:=x.aE) (i:=2*j+1) (by omega);have hP:tU x.aE j=if x.aE.getD (2*j) 0=-1\/x.aE.getD (2*j+1) 0=-1 then (-1,-1) else (x.aE.getD (2*j) 0,x.aE.getD (2*j+1) 0):=rfl
   generalize x.aE.getD (2*j) 0=a at *;generalize x.aE.getD (2*j+1) 0=b at *;have SC:((List.range j).map (λj=>[V.d (.sc (.int .i64 (tU x.aE j).1)),V.d (.sc (.int .i64 (tU x.aE j).2))])).length=j:=by simp
   have kK:=RE _ [V.d (.sc (.int .i64 0)),V.d (.sc (.int .i64 0))] SC aH;have cC:=λy=>Qp _ [V.d (.sc (.int .i64 0)),V.d (.sc (.int .i64 0))] y SC aH;simp only[zX,simprocAttr,i64,bV,iD,bD,Si,h8,Sc,Vh,bo];refine ao mix [] [] (by rfl) ?_;by_cases ha:a=-1
   ·have N0:=eq_true ha;have HO:True:=trivial;have hb:True:=trivial
    ·simp only[zX,simprocAttr,i64,bV,iD,bD,Si,h8,Sc,Vh,bo,w1,w2,c1,c2,c3,c4,g1,g2,N0,HO,NK,jK.cells,av,kN,kK,adI,Int.natCast_nonneg,adR,ado];refine⟨c-(j+1),_,_,by omega,cU.refl,j+1,rfl,aH,?_,?_,?_,?_,?_⟩ <;> (try simp only[zU,Nat.reduceBEq,Nat.reduceShiftRight,Nat.reduceMod,Nat.reduceEqDiff,reduceIte])
     ·exact Si
     ·exact h8
     ·exact Sc
     ·rw[bM _ (by omega)];rfl
     ·rw[cC];simp [NK,kN,jK.cells,iD,i64,hP,ha,hb,List.range_succ,yx,bV]
   ·have N0:=ha;by_cases hb:b=-1
    ·have HO:=eq_true hb
     ·simp only[zX,simprocAttr,i64,bV,iD,bD,Si,h8,Sc,Vh,bo,w1,w2,c1,c2,c3,c4,g1,g2,N0,HO,NK,jK.cells,av,kN,kK,adI,Int.natCast_nonneg,adR,ado];refine⟨c-(j+1),_,_,by omega,cU.refl,j+1,rfl,aH,?_,?_,?_,?_,?_⟩ <;> (try simp only[zU,Nat.reduceBEq,Nat.reduceShiftRight,Nat.reduceMod,Nat.reduceEqDiff,reduceIte])
      ·exact Si
      ·exact h8
      ·exact Sc
      ·rw[bM _ (by omega)];rfl
      ·rw[cC];simp [NK,kN,jK.cells,iD,i64,hP,ha,hb,List.range_succ,yx,bV]
    ·have HO:=hb
     ·simp only[zX,simprocAttr,i64,bV,iD,bD,Si,h8,Sc,Vh,bo,w1,w2,c1,c2,c3,c4,g1,g2,N0,HO,NK,jK.cells,av,kN,kK,adI,Int.natCast_nonneg,adR,ado];refine⟨c-(j+1),_,_,by omega,cU.refl,j+1,rfl,aH,?_,?_,?_,?_,?_⟩ <;> (try simp only[zU,Nat.reduceBEq,Nat.reduceShiftRight,Nat.reduceMod,Nat.reduceEqDiff,reduceIte])
      ·exact Si
      ·exact h8
      ·exact Sc
      ·rw[bM _ (by omega)];rfl
      ·rw[cC];simp [NK,kN,jK.cells,iD,i64,hP,ha,hb,List.range_succ,yx,bV]
  ·have Nx:j=c:=by omega
   subst Nx;have bo:¬(j:Int)<j:=by omega
   simp only[zX,simprocAttr,i64,bV,iD,bD,Si,h8,Sc,Vh,bo,tj];refine Tt (σ:=σ) (τ:=τ) (st:=st) (t:=t) (g:=g) (ext:=[NK x,kN j j x.aE]) ?_ (by rw[hτ]) ⟨_,rfl⟩ ⟨rfl,by rw[hτ];rfl⟩;obtain⟨S,hS⟩:∃S,S=b6 g t 1 st::bK st::cF 0::Ij σ::⟨0,true,3,[[.d (.sc (.int .i64 x.from_)),.d (.sc (.int .i64 i)),.so 8 1 0 j]]⟩::yx τ::dD st::[NK x,kN j j x.aE]:=⟨_,rfl⟩
   have hf:bf 7 S (.so 8 1 0 j)=some (.d (bQ C)):=by
    rw[ru (live:=true) (sz:=2) (aI:=(kN j j x.aE).aI) (ds:=C.map aN) (by rw[hS];rfl) ?_ ?_ (.inl (by omega))]
    ·rfl
    ·rw[hC,<- hc];simp [kN,mL,iD,i64];rw[adT (by simp)];exact aei λa _=>rfl
    ·simp [kN]
   have hd:∀d,bf 7 S (.d d)=some (.d d):=λ_=>rfl;rw[<- hS];simp only[nh,List.mapM_cons,List.mapM_nil,bf.go,hf,hd,i64];rw[hτ];rfl
 ·have hF:fF g σ i st.list=(true,σ.2):=by unfold fF;rw[We];simp only;rw[am o0]
  rw[hF];obtain⟨τ,hτ⟩:∃τ:zC,τ=(true,σ.2):=⟨_,rfl⟩
  have e5:yx σ=yx τ:=by rw[hτ];rfl
  rw[<- hτ];unfold fArgs Lj;rw[e5];refine Ai func45 rfl ntmps45 results45 rfl 7 211106232536991 (by simp) (by simp) ?_;simp only[zX,simprocAttr,i64,bV,iD,bD,Mj,Xl,Xy,w1,rm,B4,tj,adI];refine ao mix [] [] (by rfl) ?_;simp only[zX,simprocAttr,i64,bV,iD,bD,cF,b6,Cj,wD,rb,bR.cells,o0,tj,ado];refine Tt (σ:=σ) (τ:=τ) (st:=st) (t:=t) (g:=g) (o4:=MR σ) (ext:=[NK x]) ?_ (by rw[hτ]) ⟨_,rfl⟩ ⟨rfl,rfl⟩;rw[hτ];exact Ki _ _ _
def je (g:cJ):qx zC where
 T2:=λ_=>cF 0
 T3:=Ij
 T4:=MR
 T5:=yx
 f:=45
 ah:=[.rf 2 0 0 0,.rf 5 0 0 0,.rf 4 0 0 0]
 F:=λσ i l=>fF g σ i l
 B:=λ_ _ _=>true
theorem wq (σ:zC):∃a b:Int,∃v:V,MR σ=⟨0,true,3,[[i64 a,i64 b,v]]⟩/\((∃d,v=.d d)\/v=.fu []):=by
 obtain⟨f,o⟩:=σ;cases o with
 |none =>
  refine⟨0,0,LD (f,none),rfl,?_⟩;cases f
  ·exact .inr rfl
  ·exact .inl ⟨_,rfl⟩
 |some m=>exact⟨_,_,_,rfl,.inl ⟨_,rfl⟩⟩
theorem xg (σ:zC):∃v:V,Ij σ=⟨0,true,3,[[i64 0,i64 0,v]]⟩/\((∃d,v=.d d)\/v=.fu []):=by
 obtain⟨f,o⟩:=σ;refine⟨LD (f,o),rfl,?_⟩;cases f
 ·exact .inr rfl
 ·exact .inl ⟨_,rfl⟩
theorem FO (g:cJ) (hg:g.bW) (t:List Int):(je g).ok g t (λ_=>True):=by
 refine⟨λσ a=>?_,λσ n hn=>?_,λn hn=>?_,λσ=>?_,by rfl,λa=>by rfl,λ_ _ _ h _=>h,λσ i st _ h0 h1 aU P4 hn=>L4 g hg t i st σ aU P4 hn⟩
 ·obtain⟨a4,b4,v4,e4,h4⟩:=wq σ;obtain⟨v3,e3,h3⟩:=xg σ;simp only[qx.aB,je,e3,e4,yx,cF];rcases h4 with ⟨d,rfl⟩|rfl <;> rcases h3 with ⟨d',rfl⟩|rfl <;> simp [bp,aX.go,aX,i64,bV]
 ·obtain⟨a4,b4,v4,e4,h4⟩:=wq σ;obtain⟨v3,e3,h3⟩:=xg σ;simp only[qx.aB,je,e3,e4,yx,cF];rcases h4 with ⟨d,rfl⟩|rfl <;> rcases h3 with ⟨d',rfl⟩|rfl <;> simp [bJ,ak.go,ak,i64,bV] <;> omega
 ·simp [je,ak.go,ak];omega
 ·obtain⟨a4,b4,v4,e4,h4⟩:=wq σ;obtain⟨v3,e3,h3⟩:=xg σ;simp only[qx.aB,je,e3,e4,yx,cF];rcases h4 with ⟨d,rfl⟩|rfl <;> rcases h3 with ⟨d',rfl⟩|rfl <;> simp [fh,dS.go,dS,i64,bV,List.idxOf?,List.findIdx?_cons]
def yW (g:cJ) (t:List Int) (at_ last:Int):List Int×zC:=qo (je g) g t last (t.length+1) at_ false (cQ g) ([],0) (false,none)
theorem Lm (g:cJ) (hg:g.bW) (t:List Int) (ht:t.length<=65536) (at_ last:Int) (ha0:0<=at_) (B7:at_<=t.length) (oV:last<=t.length) (marks:List Int) (hm:marks.length=g.ins.length) :
  au prog 19 [.rf 0 1 0 0,i64 at_,i64 last] [gy g t,jJ marks] λv s =>
   v=.tu [(Et (yW g t at_ last).2.2).v,bV (yW g t at_ last).2.2.isSome]/\s=[gy g t,jJ (yW g t at_ last).1]:=by
 have dJ:=JX (je g) g hg t ht (λ_=>True) (FO g hg t) at_ last ha0 B7 oV (false,none) trivial marks hm;unfold yW;generalize qo (je g) g t last (t.length+1) at_ false (cQ g) ([],0) (false,none)=R at *;obtain⟨mk,fl,r⟩:=R;refine ar func19 rfl ntmps19 results19 rfl 2 975 (by simp) (by simp) ?_;simp only[zX,simprocAttr,i64,bV,iD,bD];refine aj dJ (λv s' hv=>?_);obtain⟨rfl,rfl⟩:=hv;simp only[qx.aB,je];have Y3:((jJ mk).aI.all λe=>e.all (ak 2))=true:=by rw[adE];intro e he;obtain⟨c,hc,rfl⟩:=List.mem_map.1 he;rfl
 have Pe:((gy g t).aI.all λe=>e.all (ak 2))=true:=by simp [gy,ak,i64,bV]
 cases fl <;> cases r;all_goals
  simp only[zX,simprocAttr,i64,bV,iD,bD,Ij,MR,yx,LD,adq,if_true,if_false];refine ao mix [] [(2,[3],[3])] (by rfl) ?_;simp only[zX,simprocAttr,i64,bV,iD,bD,Ij,MR,yx,LD,adq,if_true,if_false,Pe,Y3,Et,ra.v,bQ]
 all_goals rfl
end Go.Proofs.Ytphfjhaffbfpfaa
