/- A part of the proof (K32). -/
import Derived.Test.YtphfjhaffbfpfaaPM28
set_option linter.all false
set_option maxRecDepth 100000
set_option maxHeartbeats 80000000
namespace Go.Proofs.Ytphfjhaffbfpfaa
open Go.VL Go.Proofs.Try
variable{t:List Int}{g:cJ}{e:VL.Env}{s:List VL.Obj}
structure qx (W:Type) where
 T2:W->VL.Obj
 T3:W->VL.Obj
 T4:W->VL.Obj
 T5:W->VL.Obj
 f:FuncId
 ah:List V
 F:W->Int->List jK->W
 B:W->Int->List jK->Bool
def qx.aB {W:Type} (S:qx W) (σ:W):List VL.Obj:=[S.T2 σ,S.T3 σ,S.T4 σ,S.T5 σ]
structure qx.ok {W:Type} (S:qx W) (g:cJ) (t:List Int) (I:W->Prop):Prop where
 ZZ:∀σ a,(S.aB σ).map (bp [0,1,2,3,4,5,a])=S.aB σ
 all:∀σ n,6<=n->(S.aB σ).all (bJ n)=true
 refs:∀n,6<=n->ak.go n S.ah=true
 down:∀σ,(S.aB σ).map (fh [0,1,2,3,4,5,6,7,8,9,10,12,11])=S.aB σ
 W7:dS.go [0,1,2,3,4,5,6,7,8,9,10,12,11] S.ah=S.ah
 Xb:∀a,S.ah.map (aX [0,1,2,3,4,5,a])=S.ah
 bO:∀σ i l,I σ->S.B σ i l=true->I (S.F σ i l)
 call:∀(σ:W) (i:Int) (st:eG),I σ->0<=i->i<=t.length->st.ok g->(∀x∈st.list,x.ok g)->st.n<=100000 ->
  au prog S.f (i64 i::.so 6 st.gen 0 st.n::S.ah) (b6 g t 1 st::bK st::(S.aB σ++[dD st])) λv s=>v=bV (S.B σ i st.list)/\s=b6 g t 1 st::bK st::(S.aB (S.F σ i st.list)++[dD st])
def jN (g:cJ):List Int:=List.replicate (2*g.ah).toNat (-1)
def kT (g:cJ) (t:List Int) (at_ last:Int) (found:Bool) (st:eG):eG :=
 if at_<=last/\found=false then gW g t at_ at_ (mu g) 0 (jN g) st else st
def qo {W:Type} (S:qx W) (g:cJ) (t:List Int) (last:Int):Nat->Int->Bool->eG->List jK×Nat->W->List Int×W
 |0,_,_,st,_,σ=>(st.marks,σ)
 |k+1,at_,found,st,sp,σ =>
  let c8:=kT g t at_ last found st;let Oq:=found||c8.closed;let σ1:=S.F σ at_ c8.list
  if S.B σ at_ c8.list=false\/(c8.list=[]/\(Oq=true\/last<=at_))\/(t.length:Int)<=at_ then (c8.marks,σ1)
  else qo S g t last k (at_+1) Oq (tH g t at_ c8.list ⟨c8.marks,false,sp.1,0,sp.2⟩) (c8.arr,c8.gen) σ1
def cQ (g:cJ):eG:=⟨List.replicate g.ins.length 0,false,[],0,0⟩
def jJ (l:List Int):VL.Obj:=⟨1,true,1,l.map λx=>[i64 x]⟩
def gy (g:cJ) (t:List Int):VL.Obj:=⟨1,true,5,[[.d (.sl (g.ins.map bR.cells)),i64 g.ah,bV g.aK,.d (av t),.so 1 1 0 g.ins.length]]⟩
theorem Dv {α:Type} (l:List α) (f:α->List V) (n:Nat) (z:List V) (h:l.length=n):fX (l.map f) 0 (List.replicate n z)=List.replicate n z:=by simp [fX,h]
theorem Rt {α:Type} (a b:α) {N i:Nat} (h:i<N):(List.replicate i a++List.replicate (N-i) b).set i a=List.replicate (i+1) a++List.replicate (N-(i+1)) b:=by
 rw[List.set_append_right _ _ (by simp)];obtain⟨m,hm⟩:∃m,N-i=m+1:=⟨N-i-1,by omega⟩
 rw[hm];simp only[List.length_replicate,Nat.sub_self,List.replicate_succ,ad0];have:N-(i+1)=m:=by omega
 rw[this,<- List.replicate_succ,List.replicate_succ',adX];rfl
theorem ry{st:eG} (h:st.marks.length=g.ins.length):b6 g t 1 st=gy g t:=by unfold b6 gy;rw[h]
theorem ca.VX (ids:List Nat) (t:Nat) {v:V} (h:bf (bg s ids).length (bg s ids) (e t)=some v):ca e s (cB e t v) (bg s ids):=by
 have hc:=ca.freeze (e:=e) (s:=s) ids [t];have he:iI (bg s ids) [t] e=cB e t v:=by
  funext x;unfold iI cB;by_cases hx:x=t
  ·subst hx;simp [w6,h]
  ·simp [hx]
 rwa [he]at hc
def rq (N:Nat):VL.Obj:=⟨0,false,1,List.replicate N [i64 (-1)]⟩
def qU (sp:List jK×Nat):VL.Obj:=⟨sp.2,true,3,sp.1.map λx=>x.cells.map V.d⟩
def m0 {W:Type} (S:qx W) (g:cJ) (t:List Int) (st:eG) (sp:List jK×Nat) (σ:W):List VL.Obj :=
 [gy g t,bK st,S.T2 σ,S.T3 σ,S.T4 σ,S.T5 σ,cF 0,rq (2*g.ah).toNat,eA 11 st,b7 st,eg 6 9 8 10,dD st,qU sp]
theorem G1 {W:Type} (S:qx W) (g:cJ) (t:List Int) (st:eG) (sp:List jK×Nat) (σ:W):m0 S g t st sp σ =
 [gy g t,bK st,S.T2 σ,S.T3 σ,S.T4 σ,S.T5 σ,cF 0,rq (2*g.ah).toNat,eA 11 st,b7 st,eg 6 9 8 10,dD st,qU sp]:=rfl
structure Qu {W:Type} (S:qx W) (g:cJ) (last a:Int) (fd:Bool) (sp:List jK×Nat) (m:Nat) (e:VL.Env):Prop where
 h1:e 1=i64 a
 h2:e 2=i64 last
 h3:e 3=.cl (.func S.f) [] S.ah
 h4:e 4=.rf 6 0 0 0
 h8:e 8=.d (av (jN g))
 eh:e 10=.rf 8 0 0 0
 fm:e 11=.so 12 sp.2 0 m
 dZ:e 12=bV fd
 eB:e 13=.rf 9 0 0 0
 e7:e 14=.rf 10 0 0 0
theorem y6 {P:Program}{N L M:Nat}{a b:Code}{Q:Exit->VL.Env->List VL.Obj->Prop} (J:VL.Env->List VL.Obj->Prop) (h1:∀(B:VL.Env->List VL.Obj->Prop) (Q:Exit->VL.Env->List VL.Obj->Prop),(∀e s,J e s->B e s)->codeWp P N L M a (sY B Q) e s) (h2:∀e s,J e s->codeWp P N L M b Q e s):codeWp P N L M (.seq a b) Q e s:=h1 _ _ h2
theorem zH (ρ:List Nat) (st:eG):bp ρ (bK st)=bK st:=by unfold bp bK;simp only[List.map_map];congr 1
theorem Gc (ρ:List Nat) (st:eG):bp ρ (dD st)=dD st:=by unfold bp dD;simp only[List.map_map];congr 1
theorem OZ {W:Type}{S:qx W}{I:W->Prop} (hS:S.ok g t I) {σ:W}{a:Int}{st:eG}{sp:List jK×Nat}{K:V->List VL.Obj->Prop} (hI:I σ) (ha0:0<=a) (B7:a<=t.length) (aU:st.ok g) (P4:∀x∈st.list,x.ok g) (hn:st.n<=100000)
  (hk:K (bV (S.B σ a st.list)) (m0 S g t st sp (S.F σ a st.list))):au prog S.f (i64 a::.so 11 st.gen 0 st.n::S.ah) (m0 S g t st sp σ) K:=by
 have P7:=ry (t:=t) aU.len;have Gm:=hS.ZZ σ 11;have SL:=hS.ZZ (S.F σ a st.list) 11;have vY:bp [0,1,2,3,4,5,11] (gy g t)=gy g t:=by unfold bp gy;simp [aX.go,aX,i64,bV]
 refine gx [0,1,2,3,4,5,11] (hS.call σ a st hI ha0 B7 aU P4 hn) (by decide) (by simp [qx.aB]) ?_ ?_ ?_ ?_ rfl ?_
 ·simp only[qx.aB,adG,adP,List.cons.injEq,and_true,adr,adt]at Gm ⊢;simp only[Gm,P7,zH,Gc,vY];exact⟨rfl,rfl,rfl,rfl,rfl,rfl,rfl⟩
 ·simp only[adG,hS.Xb];rfl
 ·have:ak.go 7 S.ah=true:=hS.refs 7 (by omega);simpa [qx.aB,ak.go,ak,i64]using this
 ·have:=hS.all σ 7 (by omega);simp only[List.all_cons,List.all_append,List.all_nil,kQ,sQ,Bool.and_true,Bool.true_and];simp only[qx.aB]at *;rw[P7];simp [bJ,gy,ak,i64,bV,ak.go]at this ⊢;exact this
 ·simp only[qx.aB,adG,adP,List.cons.injEq,and_true,adr,adt]at SL ⊢;simp only[SL,P7,zH,Gc,vY];exact hk
theorem IE {W:Type}{S:qx W}{I:W->Prop} (hS:S.ok g t I) (st:eG) (σ:W):(((gy g t).aI.all λe=>e.all (ak 6)) &&
  (((bK st).aI.all λe=>e.all (ak 6))&&(((S.T2 σ).aI.all λe=>e.all (ak 6))&&(((S.T3 σ).aI.all λe=>e.all (ak 6))&&(((S.T4 σ).aI.all λe=>e.all (ak 6))&&(S.T5 σ).aI.all λe=>e.all (ak 6))))))=true:=by
 have h:=hS.all σ 6 (adB _);have h2:=kQ 6 st;simp only[qx.aB,List.all_cons,List.all_nil,Bool.and_true]at h;unfold bJ at h h2;rw[h2,h];rfl
def vG {W:Type} (S:qx W) (g:cJ) (t:List Int) (c8 st:eG) (σ:W):List VL.Obj :=
 [gy g t,bK st,S.T2 σ,S.T3 σ,S.T4 σ,S.T5 σ,cF 0,rq (2*g.ah).toNat,eA 12 st,b7 st,eg 6 9 8 10,dD c8,dD st]
theorem zo {W:Type} (S:qx W) (g:cJ) (t:List Int) (c8 st:eG) (σ:W):vG S g t c8 st σ =
 [gy g t,bK st,S.T2 σ,S.T3 σ,S.T4 σ,S.T5 σ,cF 0,rq (2*g.ah).toNat,eA 12 st,b7 st,eg 6 9 8 10,dD c8,dD st]:=rfl
theorem N8 (n N:Nat):bJ n (rq N)=true:=by unfold bJ rq;rw[adE];intro e he;rw[(List.mem_replicate.1 he).2];rfl
theorem OM {W:Type}{S:qx W}{I:W->Prop} (hS:S.ok g t I) (c8 st:eG) (σ:W):(vG S g t c8 st σ).all (bJ 13)=true:=by have h:=hS.all σ 13 (by omega);simp only[qx.aB,List.all_cons,List.all_nil,Bool.and_true,adD]at h;obtain⟨a,b,c,d⟩:=h;simp only[vG,List.all_cons,List.all_nil,kQ,sQ,N8,a,b,c,d,Bool.and_true,Bool.true_and];simp [bJ,gy,cF,b7,eA,eg,ak,ak.go,i64,bV]
theorem MB {W:Type}{S:qx W}{I:W->Prop} (hS:S.ok g t I) (c8 st:eG) (σ:W):ur [0,1,2,3,4,5,6,7,8,9,10,12,11] (vG S g t c8 st σ)=m0 S g t st (c8.arr,c8.gen) σ:=by
 have h:=hS.down σ;simp only[qx.aB,adG,adP,List.cons.injEq,and_true]at h;obtain⟨a,b,c,d⟩:=h;have hd:∀(ρ:List Nat) (l:List (List D)) (g0:Nat) (b:Bool) (z:Nat),fh ρ ⟨g0,b,z,l.map λc=>c.map V.d⟩=⟨g0,b,z,l.map λc=>c.map V.d⟩:=by intro ρ l g0 b z;unfold fh;rw[List.map_map];congr 1;exact aei λc _=>n8 _ c
 have e1:∀st:eG,bK st=⟨1,true,1,(st.marks.map λx=>[iD x]).map λc=>c.map V.d⟩:=λst=>by simp [bK,iD,i64]
 have e2:∀st:eG,dD st=⟨st.gen,true,3,(st.arr.map jK.cells).map λc=>c.map V.d⟩:=λst=>by simp [dD]
 have e3:∀N,rq N=⟨0,false,1,(List.replicate N [iD (-1)]).map λc=>c.map V.d⟩:=λN=>by simp [rq,iD,i64]
 have m1:∀ρ,fh ρ (bK st)=bK st:=λρ=>by rw[e1];exact hd ρ _ _ _ _
 have m2:∀ρ st,fh ρ (dD st)=dD st:=λρ st=>by rw[e2];exact hd ρ _ _ _ _
 have m3:∀ρ N,fh ρ (rq N)=rq N:=λρ N=>by rw[e3];exact hd ρ _ _ _ _
 unfold ur vG m0;simp only[adG,adP,List.getD_cons_zero,List.getD_cons_succ,a,b,c,d,m1,m2,m3,List.cons.injEq,and_true,true_and];refine⟨?_,?_,?_,?_,?_,?_⟩
 ·simp [fh,gy,dS.go,dS,List.idxOf?,List.findIdx?_cons,i64,bV]
 ·simp [fh,cF,dS.go,dS,List.idxOf?,List.findIdx?_cons]
 ·simp [fh,eA,dS.go,dS,List.idxOf?,List.findIdx?_cons]
 ·simp [fh,b7,dS.go,dS,bV]
 ·simp [fh,eg,dS.go,dS,List.idxOf?,List.findIdx?_cons]
 ·simp [qU,dD]
theorem JX {W:Type} (S:qx W) (g:cJ) (hg:g.bW) (t:List Int) (ht:t.length<=65536) (I:W->Prop) (hS:S.ok g t I) (at_ last:Int) (ha0:0<=at_) (B7:at_<=t.length) (oV:last<=t.length) (σ:W) (hI:I σ) (marks:List Int) (hm:marks.length=g.ins.length) :
  au prog 44 [.rf 0 1 0 0,i64 at_,i64 last,.cl (.func S.f) [] S.ah] (gy g t::jJ marks::S.aB σ) λv s =>
   v=.tu []/\s=gy g t::jJ (qo S g t last (t.length+1) at_ false (cQ g) ([],0) σ).1::S.aB (qo S g t last (t.length+1) at_ false (cQ g) ([],0) σ).2:=by
 have Xr:=hg.CI;have acf:=hg.IQ;have Xx:=hg.NC;have WU:=hg.O7;have wc:IntKind.i64.wrap (2*g.ah)=2*g.ah:=bM _ (by omega);obtain⟨R,hR⟩:∃R,R=qo S g t last (t.length+1) at_ false (cQ g) ([],0) σ:=⟨_,rfl⟩
 rw[<- hR];unfold qx.aB;refine ar func44 rfl ntmps44 results44 rfl 6 4332790137498830968589844255 (by simp) (by simp) ?_;simp only[zX,simprocAttr,i64,bV,iD,bD,gy,jJ,wc,hm,ado,kX,adI];refine⟨adB _,⟨by omega,ady _,by omega,by omega⟩,?_⟩;obtain⟨N,hN⟩:∃N,N=(2*g.ah).toNat:=⟨_,rfl⟩
 have hN':(N:Int)=2*g.ah:=by omega
 have Vu:jN g=List.replicate N (-1):=by rw[hN];rfl
 refine aJ (λn e s=>∃i:Nat,n=N-i/\i<=N/\e 1=i64 at_/\e 2=i64 last/\e 3=.cl (.func S.f) [] S.ah/\e 4=.rf 6 0 0 0/\e 8=.so 7 0 0 N/\e 31=i64 N/\e 32=i64 i/\s=[gy g t,jJ (cQ g).marks,S.T2 σ,S.T3 σ,S.T4 σ,S.T5 σ,cF 0,⟨0,true,1,List.replicate i [i64 (-1)]++List.replicate (N-i) [i64 0]⟩])
  ⟨_,_,_,cU.refl,0,rfl,by omega,rfl,rfl,rfl,rfl,by rw[hN];rfl,by rw[hN];rfl,rfl,by rw[<- hN];simp [gy,jJ,cQ,cF,i64,bV,Dv _ _ _ _ hm]⟩ ?_
 rintro n e s ⟨i,rfl,hi,h1,h2,h3,h4,h8,nf,jI,rfl⟩;rcases adV i N with aH|iP
 ·have bo:(i:Int)<N:=by omega
  have kK:(List.replicate i [V.d (.sc (.int .i64 (-1)))]++List.replicate (N-i) [V.d (.sc (.int .i64 0))])[i]?=some [V.d (.sc (.int .i64 0))]:=by rw[adN (by simp)];simp [List.getElem?_replicate];omega
  simp only[zX,simprocAttr,i64,bV,iD,bD,h1,h2,h3,h4,h8,nf,jI,bo,kK,adI];refine⟨N-(i+1),_,_,by omega,cU.refl,i+1,rfl,aH,?_,?_,?_,?_,?_,?_,?_,?_⟩ <;> (try simp only[zU,Nat.reduceBEq,Nat.reduceShiftRight,Nat.reduceMod,Nat.reduceEqDiff,reduceIte])
  ·exact h1
  ·exact h2
  ·exact h3
  ·exact h4
  ·exact h8
  ·exact nf
  ·rw[bM _ (by omega)];rfl
  ·rw[<- Rt _ _ aH]
 ·have fy:i=N:=by omega
  subst fy;have bo:¬(i:Int)<i:=by omega
  simp only[zX,simprocAttr,i64,bV,iD,bD,h1,h2,h3,h4,h8,nf,jI,bo];have hb:(List.replicate i (-1:Int)).map (λx=>[iD x])=List.replicate i [iD (-1)]:=by simp
  refine aJ (λn e s=>∃(a:Int) (fd:Bool) (st:eG) (sp:List jK×Nat) (m:Nat) (σ':W),(t.length:Int)+1<=n+a/\0<=a/\a<=t.length/\I σ'/\st.inv g a/\m<=sp.1.length/\qo S g t last n a fd st sp σ'=R/\Qu S g last a fd sp m e/\s=m0 S g t st sp σ')
   ⟨_,_,_,.WG ((ca.VX (v:=.d (av (jN g))) [7] 8 ?_).trans ((EX (pre:=[]) (post:=[]) 8 3 rfl rfl rfl).trans (nw 11 3 rfl))),at_,false,cQ g,([],0),0,σ,?_,ha0,B7,hI,?_,adB _,hR.symm,?_,?_⟩ ?_
  ·simp only[zU,Nat.reduceBEq,Nat.reduceShiftRight,Nat.reduceMod,Nat.reduceEqDiff,reduceIte];rw[h8,ru (live:=false) (g:=0) (sz:=1) (aI:=List.replicate i [i64 (-1)]++List.replicate (i-i) [i64 0]) (ds:=(jN g).map λx=>[iD x]) (by rfl) ?_ (by simp) (.inr rfl)];rw[Vu,hb];simp [iD,i64]
  ·omega
  ·refine⟨⟨by simp [cQ],adB _⟩,?_,λx hx=>by simp [eG.list,cQ]at hx⟩;have:=wY at_ (cQ g).marks;have h':(cQ g).marks.length=g.ins.length:=by simp [cQ]
   have QP:(cQ g).n=0:=rfl;omega
  ·refine⟨?_,?_,?_,?_,?_,?_,?_,?_,?_,?_⟩ <;> (try simp only[zU,Nat.reduceBEq,Nat.reduceShiftRight,Nat.reduceMod,Nat.reduceEqDiff,reduceIte])
   all_goals (first|exact h1|exact h2|exact h3|exact h4|rfl)
  ·simp [bg,bT,m0,rq,<- hN,i64,bV,eA,b7,eg,dD,qU,bK,jJ,cQ]
  rintro n e s ⟨a,fd,st,sp,m,σ',Z7,ha0,B7,gS,hinv,hm,jb,⟨h1,h2,h3,h4,h8,eh,fm,dZ,eB,e7⟩,rfl⟩;obtain⟨k,rfl⟩:∃k,n=k+1:=⟨n-1,by omega⟩
  rw[qo]at jb;have uz:(kT g t a last fd st).inv g a:=by
   unfold kT;split
   ·exact sT g hg t a a _ _ _ st hinv (ady _) (by omega) (by simp [jN])
   ·exact hinv
  rw[mD,jZ];refine y6 (λe s=>Qu S g last a fd sp m e/\s=m0 S g t (kT g t a last fd st) sp σ') ?_ ?_
  ·intro B Q hB;have Vb:=hinv.ok.len;have P7:=ry (t:=t) Vb;by_cases c1:a<=last
   ·cases fd with
    |false =>
     have hs:kT g t a last false st=gW g t a a (mu g) 0 (jN g) st:=ap ⟨c1,rfl⟩;have QH:=Ea g hg t ht a a ha0 B7 g.ins.length 0 (jN g) st (ady _) (by omega) (by simp [jN]) hinv.ok (by have:=wY a st.marks;omega) (by have:=hinv.n;omega);rw[hs]at hB uz;unfold mu at *;generalize gW g t a a (g.ins.length+1) 0 (jN g) st=R1 at *;unfold m0;simp only[zX,simprocAttr,i64,bV,iD,bD,h1,h2,h3,h4,h8,eh,fm,dZ,eB,e7,c1,eg];refine pW (a0:=0) (a1:=1) (a2:=6) (a3:=9) (a4:=8) (a5:=10) (a6:=11) QH (by decide) (congrArg some P7.symm) rfl rfl rfl rfl rfl rfl rfl rfl rfl ?_;rw[ry uz.ok.len];simp only[ad0,ad6];simp only[zX,simprocAttr,i64,bV,iD,bD];refine hB _ _ ⟨⟨?_,?_,?_,?_,?_,?_,?_,?_,?_,?_⟩,rfl⟩ <;> (try simp only[zU,Nat.reduceBEq,Nat.reduceShiftRight,Nat.reduceMod,Nat.reduceEqDiff,reduceIte])
     ·exact h1
     ·exact h2
     ·exact h3
     ·exact h4
     ·exact h8
     ·exact eh
     ·exact fm
     ·exact dZ
     ·exact eB
     ·exact e7
    |true =>
     have hs:kT g t a last true st=st:=am (by simp);rw[hs]at hB;unfold m0;simp only[zX,simprocAttr,i64,bV,iD,bD,h1,h2,h3,h4,h8,eh,fm,dZ,eB,e7,c1];refine hB _ _ ⟨⟨?_,?_,?_,?_,?_,?_,?_,?_,?_,?_⟩,rfl⟩ <;> (try simp only[zU,Nat.reduceBEq,Nat.reduceShiftRight,Nat.reduceMod,Nat.reduceEqDiff,reduceIte])
     ·exact h1
     ·exact h2
     ·exact h3
     ·exact h4
     ·exact h8
     ·exact eh
     ·exact fm
     ·exact dZ
     ·exact eB
     ·exact e7
   ·have hs:kT g t a last fd st=st:=am (λh=>c1 h.1);rw[hs]at hB;unfold m0;simp only[zX,simprocAttr,i64,bV,iD,bD,h1,h2,h3,h4,h8,eh,fm,dZ,eB,e7,c1];refine hB _ _ ⟨⟨?_,?_,?_,?_,?_,?_,?_,?_,?_,?_⟩,rfl⟩ <;> (try simp only[zU,Nat.reduceBEq,Nat.reduceShiftRight,Nat.reduceMod,Nat.reduceEqDiff,reduceIte])
    ·exact h1
    ·exact h2
    ·exact h3
    ·exact h4
    ·exact h8
    ·exact eh
    ·exact fm
    ·exact dZ
    ·exact eB
    ·exact e7
  rintro e s ⟨⟨h1,h2,h3,h4,h8,eh,fm,dZ,eB,e7⟩,rfl⟩;generalize kT g t a last fd st=c8 at *;refine y6 (λe s=>Qu S g last a (fd||c8.closed) sp m e/\s=m0 S g t c8 sp σ') ?_ ?_
  ·intro B Q hB;unfold m0 at *;cases fd with
   |true =>
    simp only[zX,simprocAttr,i64,bV,iD,bD,h1,h2,h3,h4,h8,eh,fm,dZ,eB,e7];refine hB _ _ ⟨⟨?_,?_,?_,?_,?_,?_,?_,?_,?_,?_⟩,rfl⟩ <;> (try simp only[zU,Nat.reduceBEq,Nat.reduceShiftRight,Nat.reduceMod,Nat.reduceEqDiff,reduceIte])
    all_goals (first|exact h1|exact h2|exact h3|exact h4|exact h8|exact eh|exact fm|exact eB|exact e7|rfl|(simp [b7,vZ,bV];done))
   |false =>
    cases vZ:c8.closed with
    |true =>
     rw[vZ]at hB;simp only[zX,simprocAttr,i64,bV,iD,bD,h1,h2,h3,h4,h8,eh,fm,dZ,eB,e7,b7,vZ];refine hB _ _ ⟨⟨?_,?_,?_,?_,?_,?_,?_,?_,?_,?_⟩,?_⟩ <;> (try simp only[zU,Nat.reduceBEq,Nat.reduceShiftRight,Nat.reduceMod,Nat.reduceEqDiff,reduceIte])
     all_goals (first|exact h1|exact h2|exact h3|exact h4|exact h8|exact eh|exact fm|exact eB|exact e7|rfl|(simp [b7,vZ,bV];done))
    |false =>
     rw[vZ]at hB;simp only[zX,simprocAttr,i64,bV,iD,bD,h1,h2,h3,h4,h8,eh,fm,dZ,eB,e7,b7,vZ];refine hB _ _ ⟨⟨?_,?_,?_,?_,?_,?_,?_,?_,?_,?_⟩,?_⟩ <;> (try simp only[zU,Nat.reduceBEq,Nat.reduceShiftRight,Nat.reduceMod,Nat.reduceEqDiff,reduceIte])
     all_goals (first|exact h1|exact h2|exact h3|exact h4|exact h8|exact eh|exact fm|exact eB|exact e7|rfl|(simp [b7,vZ,bV];done))
  rintro e s ⟨⟨h1,h2,h3,h4,h8,eh,fm,dZ,eB,e7⟩,rfl⟩;generalize (fd||c8.closed)=Va at *;refine y6 (λe s=>(Qu S g last a Va sp m e/\e 15=bV (decide (c8.n=0/\(Va=true\/last<=a))))/\s=m0 S g t c8 sp σ') ?_ ?_
  ·intro B Q hB;unfold m0 at *;have Mj:(dD c8).g=c8.gen:=rfl;by_cases z0:c8.n=0
   ·have hz:=eq_true (show (c8.n:Int)=0 by omega);cases Va with
    |true =>
     simp only[zX,simprocAttr,i64,bV,iD,bD,h1,h2,h3,h4,h8,eh,fm,dZ,eB,e7,eA,Mj,hz];refine hB _ _ ⟨⟨⟨?_,?_,?_,?_,?_,?_,?_,?_,?_,?_⟩,?_⟩,?_⟩ <;> (try simp only[zU,Nat.reduceBEq,Nat.reduceShiftRight,Nat.reduceMod,Nat.reduceEqDiff,reduceIte])
     all_goals (first|exact h1|exact h2|exact h3|exact h4|exact h8|exact eh|exact fm|exact dZ|exact eB|exact e7|(simp [z0,bV];done)|(simp [eA,z0];done)|(simp [eA];done))
    |false =>
     by_cases c2:last<=a
     ·simp only[zX,simprocAttr,i64,bV,iD,bD,h1,h2,h3,h4,h8,eh,fm,dZ,eB,e7,eA,Mj,hz,c2];refine hB _ _ ⟨⟨⟨?_,?_,?_,?_,?_,?_,?_,?_,?_,?_⟩,?_⟩,?_⟩ <;> (try simp only[zU,Nat.reduceBEq,Nat.reduceShiftRight,Nat.reduceMod,Nat.reduceEqDiff,reduceIte])
      all_goals (first|exact h1|exact h2|exact h3|exact h4|exact h8|exact eh|exact fm|exact dZ|exact eB|exact e7|(simp [z0,c2,bV];done)|(simp [eA,z0];done))
     ·simp only[zX,simprocAttr,i64,bV,iD,bD,h1,h2,h3,h4,h8,eh,fm,dZ,eB,e7,eA,Mj,hz,c2];refine hB _ _ ⟨⟨⟨?_,?_,?_,?_,?_,?_,?_,?_,?_,?_⟩,?_⟩,?_⟩ <;> (try simp only[zU,Nat.reduceBEq,Nat.reduceShiftRight,Nat.reduceMod,Nat.reduceEqDiff,reduceIte])
      all_goals (first|exact h1|exact h2|exact h3|exact h4|exact h8|exact eh|exact fm|exact dZ|exact eB|exact e7|(simp [z0,c2,bV];done)|(simp [eA,z0];done))
   ·have Xy:¬(c8.n:Int)=0:=by omega
    simp only[zX,simprocAttr,i64,bV,iD,bD,h1,h2,h3,h4,h8,eh,fm,dZ,eB,e7,eA,Mj,Xy];refine hB _ _ ⟨⟨⟨?_,?_,?_,?_,?_,?_,?_,?_,?_,?_⟩,?_⟩,?_⟩ <;> (try simp only[zU,Nat.reduceBEq,Nat.reduceShiftRight,Nat.reduceMod,Nat.reduceEqDiff,reduceIte])
    all_goals (first|exact h1|exact h2|exact h3|exact h4|exact h8|exact eh|exact fm|exact dZ|exact eB|exact e7|(simp [z0,bV];done)|(simp [eA,z0];done)|(simp [eA];done))
  rintro e s ⟨⟨⟨h1,h2,h3,h4,h8,eh,fm,dZ,eB,e7⟩,pf⟩,rfl⟩;have Mj:(dD c8).g=c8.gen:=rfl;have RP:=uz.ok.n;have Tf:=uz.n;have T0:c8.list=[] ↔ c8.n=0:=by unfold eG.list;rw[<- List.length_eq_zero_iff,ad5];omega
  simp only[T0]at jb;rw[G1];simp only[zX,simprocAttr,i64,bV,iD,bD,h1,h2,h3,h4,h8,eh,fm,dZ,eB,e7,pf,eA];refine OZ (st:=c8) (sp:=sp) (σ:=σ') (a:=a) hS gS ha0 B7 uz.ok uz.th (by omega) ?_;have XT:=hS.bO σ' a c8.list gS;have aa9:∀σ,(S.aB σ).all (bJ 6)=true:=λσ=>hS.all σ 6 (adB _);generalize S.F σ' a c8.list=σ2 at *;rw[G1];cases XP:S.B σ' a c8.list with
  |false =>
   rw[ap (.inl XP)]at jb;simp only[zX,simprocAttr,i64,bV,iD,bD,h1,h2,h3,h4,h8,eh,fm,dZ,eB,e7,pf];rw[<- jb];exact⟨IE hS c8 σ2,rfl⟩
  |true =>
   have XT:=XT XP;have oa:=uz.ok.len;by_cases dn:c8.n=0/\(Va=true\/last<=a)
   ·rw[ap (.inr (.inl dn))]at jb;rw[adu dn]at pf;simp only[zX,simprocAttr,i64,bV,iD,bD,h1,h2,h3,h4,h8,eh,fm,dZ,eB,e7,pf];rw[<- jb];exact⟨IE hS c8 σ2,rfl⟩
   rw[adl dn]at pf;by_cases Sj:(t.length:Int)<=a
   ·rw[ap (.inr (.inr Sj))]at jb;simp only[zX,simprocAttr,i64,bV,iD,bD,h1,h2,h3,h4,h8,eh,fm,dZ,eB,e7,pf,gy,cF,av,Sj,ado];rw[<- jb];exact⟨IE hS c8 σ2,rfl⟩
   rw[am (λh=>h.elim (by rw[XP];simp) (λh=>h.elim dn Sj))]at jb;simp only[zX,simprocAttr,i64,bV,iD,bD,h1,h2,h3,h4,h8,eh,fm,dZ,eB,e7,pf,gy,cF,av,Sj,ado];have ED:⟨c8.marks,false,sp.1,0,sp.2⟩=tH g t a (c8.list.take 0) ⟨c8.marks,false,sp.1,0,sp.2⟩:=rfl;refine ao mix [] [(2,[8],[]),(3,[8],[8]),(5,[9],[9])] (by rfl) ?_;have eC:(qU sp).g=sp.2:=rfl;have lP:(qU sp).sz=3:=rfl;have UN:m<=(qU sp).aI.length:=by simpa [qU]using hm
   simp only[zX,simprocAttr,i64,bV,iD,bD,h1,h2,h3,h4,h8,eh,fm,dZ,eB,e7,pf,eC,lP,UN,Mj,adI,eA,b7];obtain⟨SX,TZ⟩:∃SX:eG,SX=⟨c8.marks,false,sp.1,0,sp.2⟩:=⟨_,rfl⟩
   rw[<- TZ]at jb;refine aJ (λn e s=>∃(i:Nat) (st:eG),n=c8.n-i/\i<=c8.n/\st=tH g t a (c8.list.take i) SX/\e 1=i64 a/\e 2=i64 last/\e 3=.cl (.func S.f) [] S.ah/\e 4=.rf 6 0 0 0/\e 8=.d (av (jN g))/\e 10=.rf 8 0 0 0/\e 11=.so 11 c8.gen 0 c8.n/\e 12=bV Va/\e 13=.rf 9 0 0 0/\e 14=.rf 10 0 0 0/\e 89=.so 11 c8.gen 0 c8.n/\e 90=i64 c8.n/\e 91=i64 i/\s=vG S g t c8 st σ2)
    ?_ ?_
   ·refine⟨_,_,_,cU.refl,0,SX,rfl,by omega,rfl,?_,?_,?_,?_,?_,?_,?_,?_,?_,?_,?_,?_,?_,?_⟩ <;> (try simp only[zU,Nat.reduceBEq,Nat.reduceShiftRight,Nat.reduceMod,Nat.reduceEqDiff,reduceIte])
    all_goals (first|exact h1|exact h2|exact h3|exact h4|exact h8|exact eh|exact dZ|exact eB|exact e7|rfl|(rw[TZ];rfl))
   rintro n e s ⟨i,st,rfl,hi,aU,h1,h2,h3,h4,h8,eh,fm,dZ,eB,e7,J8,KB,OG,rfl⟩;have JP:SX.inv g (a+1):=by rw[TZ];refine⟨⟨oa,Nat.zero_le _⟩,?_,λx hx=>by simp [eG.list]at hx⟩;have:=wY (a+1) c8.marks;show 0+GO (a+1) c8.marks<=_;omega
   have FU:st.inv g (a+1):=by rw[aU];exact uq g hg t a _ SX (λx hx=>uz.th x (List.mem_of_mem_take hx)) JP
   have WS:=FU.ok.len;have Y9:(dD c8).g=c8.gen:=rfl;rcases adV i c8.n with aH|iP
   ·obtain⟨x,hx⟩:∃x,c8.arr[i]?=some x:=⟨_,adn (by omega)⟩
    have We:c8.list[i]?=some x:=by unfold eG.list;rw[ad1,ap aH];exact hx
    have Pb:=uz.th x (adw We);have Cj:=Pb.p0;have wD:=Pb.p1;have rb:=fE Cj wD;have bo:(i:Int)<c8.n:=by omega
    have sO:=hg.VQ _ (adw rb);have Wv:=Qs (bk g x.gZ).set (gQ t a) (by omega);have Ym:=hg.next x.gZ.toNat _ rb;have w2:IntKind.i64.wrap (x.gZ+1)=x.gZ+1:=bM _ (by omega);have wa2:IntKind.i64.wrap (a+1)=a+1:=bM _ (by omega);have WT:t[a.toNat]?=some (gQ t a):=ju ha0 (by omega);have Tg:tH g t a (c8.list.take (i+1)) SX=mX g t a st x:=by rw[cy We,Ju,<- aU]
    simp only[i64,bV]at Wv;have B4:(dD c8).aI[i]?=some [V.d (iD x.gZ),V.d (iD x.from_),V.d (av x.aE)]:=by simp [dD,hx,jK.cells]
    have XZ:(dD c8).sz=3:=rfl;have YW:a<(t.length:Int):=by omega
    have MT:=OM hS (t:=t) c8;rw[zo];simp only[zX,simprocAttr,i64,bV,iD,bD,h1,h2,h3,h4,h8,eh,fm,dZ,eB,e7,J8,KB,OG,bo,Y9,B4,XZ,adI];refine aS ca.bh ?_;refine ao mix [] [(9,[14],[14]),(10,[14],[14])] (by rfl) ?_;simp only[zX,simprocAttr,i64,bV,iD,bD,h1,h2,h3,h4,h8,eh,fm,dZ,eB,e7,J8,KB,OG,gy,cF,Cj,wD,rb,bR.cells,hole,ado];refine ao mix [] [] (by rfl) ?_;by_cases ho:(bk g x.gZ).op=1
    ·have mo:=eq_true ho;simp only[zX,simprocAttr,i64,bV,iD,bD,h1,h2,h3,h4,h8,eh,fm,dZ,eB,e7,J8,KB,OG,av,mo,ha0,YW,WT,ado];refine bY Wv rfl rfl ?_;cases P8:hasB (bk g x.gZ).set (gQ t a) with
     |true =>
      have hF:mX g t a st x=gW g t (a+1) x.from_ (g.ins.length+1) (x.gZ+1) x.aE st:=ap ⟨ho,P8⟩;have lX:=Ym (.inl ho);have QH:=Ea g hg t ht (a+1) x.from_ (by omega) (by omega) g.ins.length (x.gZ+1) x.aE st (by omega) (by omega) Pb.aE FU.ok (by have:=wY (a+1) st.marks;omega) (by have:=FU.n;omega);have Vk:(gW g t (a+1) x.from_ (g.ins.length+1) (x.gZ+1) x.aE st).marks.length=g.ins.length:=(sT g hg t (a+1) x.from_ _ _ _ st FU (by omega) (by omega) Pb.aE).ok.len;obtain⟨RR,hRR⟩:∃RR,RR=gW g t (a+1) x.from_ (g.ins.length+1) (x.gZ+1) x.aE st:=⟨_,rfl⟩
      rw[<- hRR]at QH hF Vk;have X1:=ry (t:=t) Vk;have P7:=ry (t:=t) WS;simp only[zX,simprocAttr,i64,bV,iD,bD,h1,h2,h3,h4,h8,eh,fm,dZ,eB,e7,J8,KB,OG,eg,w2,wa2];refine pW (a0:=0) (a1:=1) (a2:=6) (a3:=9) (a4:=8) (a5:=10) (a6:=12) QH (by decide) (congrArg some P7.symm) rfl rfl rfl rfl rfl rfl rfl rfl rfl ?_;rw[X1];simp only[ad0,ad6];simp only[zX,simprocAttr,i64,bV,iD,bD,h1,h2,h3,h4,h8,eh,fm,dZ,eB,e7,J8,KB,OG];refine⟨c8.n-(i+1),_,_,by omega,cU.cut (s':=vG S g t c8 RR σ2) 13 (by omega) rfl (MT _ _) [1,2,3,4,8,10,11,12,13,14,89,90,91] ?_,i+1,RR,rfl,aH,by rw[Tg,hF],?_,?_,?_,?_,?_,?_,?_,?_,?_,?_,?_,?_,?_,rfl⟩ <;> (try simp only[zU,Nat.reduceBEq,Nat.reduceShiftRight,Nat.reduceMod,Nat.reduceEqDiff,reduceIte])
      ·simp [cB,br,ak,ak.go,h1,h2,h3,h4,h8,eh,fm,dZ,eB,e7,J8,KB,OG,i64,bV,hS.refs 13 (by omega)]
      all_goals (first|exact h1|exact h2|exact h3|exact h4|exact h8|exact eh|exact fm|exact dZ|exact eB|exact e7|exact J8|exact KB|(rw[bM _ (by omega)];rfl))
     |false =>
      have hF:mX g t a st x=st:=am (λh=>by have h2:=h.2;rw[P8]at h2;cases h2);simp only[zX,simprocAttr,i64,bV,iD,bD,h1,h2,h3,h4,h8,eh,fm,dZ,eB,e7,J8,KB,OG];refine⟨c8.n-(i+1),_,_,by omega,cU.cut (s':=vG S g t c8 st σ2) 13 (by omega) rfl (MT _ _) [1,2,3,4,8,10,11,12,13,14,89,90,91] ?_,i+1,st,rfl,aH,by rw[Tg,hF],?_,?_,?_,?_,?_,?_,?_,?_,?_,?_,?_,?_,?_,rfl⟩ <;> (try simp only[zU,Nat.reduceBEq,Nat.reduceShiftRight,Nat.reduceMod,Nat.reduceEqDiff,reduceIte])
      ·simp [cB,br,ak,ak.go,h1,h2,h3,h4,h8,eh,fm,dZ,eB,e7,J8,KB,OG,i64,bV,hS.refs 13 (by omega)]
      all_goals (first|exact h1|exact h2|exact h3|exact h4|exact h8|exact eh|exact fm|exact dZ|exact eB|exact e7|exact J8|exact KB|(rw[bM _ (by omega)];rfl))
    ·have hF:mX g t a st x=st:=am (λh=>ho h.1);simp only[zX,simprocAttr,i64,bV,iD,bD,h1,h2,h3,h4,h8,eh,fm,dZ,eB,e7,J8,KB,OG,ho];refine⟨c8.n-(i+1),_,_,by omega,cU.cut (s':=vG S g t c8 st σ2) 13 (by omega) rfl (MT _ _) [1,2,3,4,8,10,11,12,13,14,89,90,91] ?_,i+1,st,rfl,aH,by rw[Tg,hF],?_,?_,?_,?_,?_,?_,?_,?_,?_,?_,?_,?_,?_,rfl⟩ <;> (try simp only[zU,Nat.reduceBEq,Nat.reduceShiftRight,Nat.reduceMod,Nat.reduceEqDiff,reduceIte])
     ·simp [cB,br,ak,ak.go,h1,h2,h3,h4,h8,eh,fm,dZ,eB,e7,J8,KB,OG,i64,bV,hS.refs 13 (by omega)]
     all_goals (first|exact h1|exact h2|exact h3|exact h4|exact h8|exact eh|exact fm|exact dZ|exact eB|exact e7|exact J8|exact KB|(rw[bM _ (by omega)];rfl))
   ·have fy:i=c8.n:=by omega
    subst fy;have bo:¬(c8.n:Int)<c8.n:=by omega
    have Yd:c8.list.take c8.n=c8.list:=adT (by unfold eG.list;rw[ad5];omega);rw[Yd]at aU;rw[<- aU]at jb;rw[zo];simp only[zX,simprocAttr,i64,bV,iD,bD,h1,h2,h3,h4,h8,eh,fm,dZ,eB,e7,J8,KB,OG,bo];rw[<- zo S g t c8 st σ2];refine⟨k,_,_,Nat.lt_succ_self k,cU.Mm [0,1,2,3,4,5,6,7,8,9,10,12,11] [1,2,3,4,8,10,11,12,13,14] (by rfl),a+1,Va,st,(c8.arr,c8.gen),c8.n,σ2,by omega,by omega,by omega,XT,FU,RP,jb,?_,MB hS c8 st σ2⟩
    ·refine⟨?_,?_,?_,?_,?_,?_,?_,?_,?_,?_⟩;all_goals
      rw[ON,ap (by rfl)];try simp only[zU,Nat.reduceBEq,Nat.reduceShiftRight,Nat.reduceMod,Nat.reduceEqDiff,reduceIte]
     ·rw[bM _ (by omega)];rfl
     ·rw[h2];rfl
     ·rw[h3];have hdc:=hS.W7;show V.cl _ _ (dS.go _ S.ah)=_;rw[hdc];rfl
     ·rw[h4];rfl
     ·rw[h8];rfl
     ·rw[eh];rfl
     ·rw[fm];rfl
     ·rw[dZ];rfl
     ·rw[eB];rfl
     ·rw[e7];rfl
end Go.Proofs.Ytphfjhaffbfpfaa
