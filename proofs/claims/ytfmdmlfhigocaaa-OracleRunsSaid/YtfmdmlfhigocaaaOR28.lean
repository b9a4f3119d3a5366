/- A part of the proof (Vzu O12 O13). -/
import Derived.Test.YtfmdmlfhigocaaaOR12
import Derived.Test.YtfmdmlfhigocaaaOR14
import Derived.Test.YtfmdmlfhigocaaaOR15
import Derived.Test.YtfmdmlfhigocaaaOR27
set_option linter.unusedSimpArgs false
set_option linter.unusedVariables false
set_option maxRecDepth 100000
set_option maxHeartbeats 80000000
namespace Go.VL
variable{s:List Obj}
theorem SW {σ:Gh}{w:World} (hI:Inv σ s w) {k:Nat}{o:Obj} (m:Nat) (ho:s[k]?=some o) (MQ:∀es,o.aw≠fZ es) :
  aG σ s w σ (s.set k { o with aw:=o.aw.take m }) w/\Inv σ (s.set k { o with aw:=o.aw.take m }) w:=by
 have hk:=(List.getElem?_eq_some_iff.1 ho).1;have get:∀(id:Nat) (o':Obj),(s.set k { o with aw:=o.aw.take m })[id]?=some o'->∃o1,s[id]?=some o1/\o1.live=o'.live/\o1.g=o'.g/\o1.sz=o'.sz:=by
  intro id o' h';by_cases he:id=k
  ·subst he;rw[ajm hk]at h';simp only[ai5]at h';subst h';exact⟨o,ho,rfl,rfl,rfl⟩
  ·rw[ajy (Ne.symm he)]at h';exact⟨o',h',rfl,rfl,rfl⟩
 have put:∀(id:Nat) (o1:Obj),s[id]?=some o1->∃o',(s.set k { o with aw:=o.aw.take m })[id]?=some o'/\o'.g=o1.g/\o'.sz=o1.sz/\o'.live=o1.live:=by
  intro id o1 h';by_cases he:id=k
  ·subst he;rw[ho]at h';simp only[ai5]at h';subst h';exact⟨_,ajm hk,rfl,rfl,rfl⟩
  ·exact⟨o1,by rw[ajy (Ne.symm he)];exact h',rfl,rfl,rfl⟩
 have hE:aG σ s w σ (s.set k { o with aw:=o.aw.take m }) w:=by
  refine⟨rfl,rfl,rfl,ajc _,λ_ _ _=>rfl,λ_ arr _ _ h=>⟨arr,h,rfl⟩,λ_ _ h=>h,?_,?_,rfl,λ_ _ _=>rfl⟩
  ·rintro b (hb|⟨id,o',base,h1,h2,h3⟩)
   ·exact .inl (.inl hb)
   ·obtain⟨o1,k1,k2,_⟩:=get id o' h1;exact .inl (.inr ⟨id,o1,base,k1,by rw[k2];exact h2,h3⟩)
  ·intro id o1 h1;obtain⟨o',k1,k2,k3,_⟩:=put id o1 h1;exact⟨o',k1,ae,λ_=>⟨k3,rfl⟩⟩
 refine⟨hE,⟨?_,?_,hI.low,?_⟩⟩
 ·intro id o' h1;by_cases he:id=k
  ·subst he;rw[ajm hk]at h1;simp only[ai5]at h1;subst h1;rcases hI.content id o ho with (⟨c1,c2⟩|⟨b,es,c,c1,c2,c3⟩)|⟨b,base,arr,E,c1,c2,c3,c4,c5⟩
   ·left;exact .inl ⟨c1,by simp [c2]⟩
   ·exact(MQ es c3).elim
   ·right;refine⟨b,base,arr,E,c1,c2,λe he=>c3 e (ajT he),?_,λi j x' hx=>?_⟩
    ·have:(o.aw.take m).length*o.sz<=o.aw.length*o.sz:=ajD _ cG;show base+(o.aw.take m).length*o.sz<=arr.size;omega
    ·have kS:(o.aw[i]?.bind (·[j]?))=some x':=by
      simp only[ajA]at hx;split at hx
      ·exact hx
      ·cases hx
     obtain⟨u,z1,z2,z3⟩:=c5 i j x' kS;exact⟨u,z1,z2,z3.aZ hE⟩
  ·rw[ajy (Ne.symm he)]at h1;rcases hI.content id o' h1 with c|⟨b,base,arr,E,c1,c2,c3,c4,c5⟩
   ·exact .inl c
   ·right;refine⟨b,base,arr,E,c1,c2,c3,c4,λi j x hx=>?_⟩;obtain⟨u,z1,z2,z3⟩:=c5 i j x hx;exact⟨u,z1,z2,z3.aZ hE⟩
 ·intro id lV o1 o2 b base bQ h1 h2 h3 h4 h5;obtain⟨p1,q1,q2,_⟩:=get id o1 h1;obtain⟨p2,r1,_⟩:=get lV o2 h2;exact hI.inj id lV p1 p2 b base bQ q1 r1 (by rw[q2];exact h3) h4 h5
 ·intro id o1 b base h1 h2;obtain⟨p1,q1,_⟩:=get id o1 h1;exact hI.apart id p1 b base q1 h2
theorem bJ.WB {L:Nat}{e:Env}{o:Obj} (k m:Nat) (ho:s[k]?=some o) (MQ:∀es,o.aw≠fZ es):bJ L e s e (s.set k { o with aw:=o.aw.take m }):=by intro σ0 s0 w0 σ w N a _ hE hI hR;obtain⟨h1,h2⟩:=SW hI m ho MQ;exact⟨σ,hE.trans h1,h2,hR.aZ h1⟩
theorem Ba {P:Program}{f:FuncId} (ρ:List Nat) {cargs args:List V}{exts Bx:List Obj}{r r':V}{K:V->List Obj->Prop} (h:az P f cargs exts λv s'=>v=r/\s'=Bx) (zF:ρ.Nodup) (hl:Bx.length=exts.length)
  (hs:ρ.map (λi=>s[i]?)=exts.map (λo=>some (bf ρ o))) (ha:args=cargs.map (aS ρ)) (F6:ak.go exts.length cargs=true) (Al:exts.all (bc exts.length)=true) (hr:aS ρ r=r') (hk:K r' (aO s ρ (Bx.map (bf ρ)))):LC P ρ ρ f args s K:=by
 have hρ:ρ.length=exts.length:=by simpa using congrArg List.length hs
 refine⟨r',Bx.map (bf ρ),by simp [hl,hρ],λs' _ mJ=>?_,hk⟩;refine ew ρ h zF hl ?_ ha F6 Al hr ⟨rfl,rfl⟩;rw[<- hs];exact ajK λi hi=>mJ i hi
end Go.VL
namespace Go.Proofs.Ytfmdmlfhigocaaa
open Go.VL
def pN (k n:Nat):VL.Obj:=⟨0,true,1,[[.so k n 0 n]]⟩
def tB (b a:Nat) (x:au):V:=.ag (x.cells b a)
section
variable (t:List Int) (root parts:D) (bg nb:Nat) (Bs:List (List Bool)) (b a:Nat)
theorem U0 (C:List au) (hC:C.length<=1000000000000) (x:au):az Try.prog 55 [tB b a x,.rf 2 0 0 0] [dK t root parts bg nb,fX bg Bs,pN 3 C.length,cP C.length b a C] λv s=>v=i64 C.length/\s=[dK t root parts bg nb,fX bg Bs,pN 3 (C.length+1),cP (C.length+1) b a (C++[x])]:=by
 have hg:(cP C.length b a C).g=C.length:=rfl;have hz:(cP C.length b a C).sz=5:=rfl;have he:(cP C.length b a C).aw=C.map (au.cells b a):=rfl;have hl:(cP C.length b a C).live=true:=rfl;have w1:IntKind.i64.wrap (((C.length:Int)+1)-1)=(C.length:Int):=by rw[bF _ ae];omega
 refine bk Try.func55 Try.ntmps55 Try.results55 4 15 ?_;simp only[zQ,simprocAttr,tB,au.cells,pN,hg,hz,he,hl,aiW];have hp:P4 (cq b a x.node)=none\/∃d,P4 (cq b a x.node)=some d/\cq b a x.node=.d d:=by
  cases hx:x.node with
  |none=>exact .inr ⟨_,rfl,rfl⟩
  |some y =>
   obtain⟨re,k⟩:=y;refine .inl ?_;unfold cq;simp only;split
   ·rfl
   ·split <;> rfl
 have hb:=ij 4 bg Bs;have hm:((dK t root parts bg nb).aw.all λe=>e.all (ak 4))=true:=rfl;have hT:List.take C.length (C.map (au.cells b a))++[[V.d (D.sc (Value.int IntKind.i64 x.op)),V.d (D.sc (Value.int IntKind.i64 x.x)),V.d (D.sc (Value.int IntKind.i64 x.y)),V.d (D.sc (Value.int IntKind.i64 x.n)),cq b a x.node]]=(C++[x]).map (au.cells b a):=by rw[ajb (by rw[aiW];exact ajc _)];simp [au.cells,i64]
 have jA:(((C++[x]).map (au.cells b a)).all λe=>e.all (ak 4))=true:=ll 4 0 b a ae (C++[x]);rcases hp with hp|⟨d,hp,hv⟩
 ·rw[hp];simp only[Option.bind_none];rw[hT,hb,hm,jA];refine⟨λe he=>by rw[List.mem_singleton.1 he];rfl,⟨ae,ae⟩,rfl,by rw[aj9];exact w1,rfl⟩
 ·rw[hv]at hT;rw[hp,hv];simp only[ajM,aiZ,ai2,ai8,ai9,ai7];rw[hT,hb,hm,jA];refine⟨λe he=>by rw[List.mem_singleton.1 he];rfl,⟨ae,ae⟩,rfl,by rw[aj9];exact w1,rfl⟩
end
def sL (re:Re) (k:Nat):au:=⟨1,0,0,0,some (re,k)⟩
def lR (re:Re) (k:Nat):au:=⟨5,0,0,0,some (re,k)⟩
def cX (x y:Int):au:=⟨2,x,y,0,none⟩
def ku (x:Int):au:=⟨3,x,0,0,none⟩
def jt (n:Int):au:=⟨4,0,0,n,none⟩
def x9 (C:List au) (c:Nat) (x y:Int):List au:=C.set c ⟨(bz C c).op,x,y,(bz C c).n,(bz C c).node⟩
def xO (E:Int) (C:List au) (c:Nat):List au:=x9 C c E (bz C c).y
def oC (mode:Int) (C:List au) (c:Nat):List au:=if mode=1 then x9 C c C.length ((c:Int)+1) else x9 C c ((c:Int)+1) C.length
def iR (f:List au->List au):Nat->List au->List au
 |0,C=>C
 |n+1,C=>f (iR f n C)
def gv (f:List au->List au):Nat->List au->List au×List Nat
 |0,C=>(C,[])
 |n+1,C=>(f ((gv f n C).1++[cX 0 0]),(gv f n C).2++[(gv f n C).1.length])
def mG (f:List au->List au) (mn mx:Int) (C:List au):List au×List Nat :=
 let C1:=iR f mn.toNat C
 if mx=-1 then (f (C1++[cX 0 0])++[ku C1.length],[C1.length]) else gv f (mx-mn).toNat C1
mutual
def Re.emit:Re->Nat->List au->List au
 |.mk op set kids mn mx mode n neg,k,C =>
  if op=1 then C++[sL (.mk op set kids mn mx mode n neg) k]
  else if op=11\/op=7\/op=8 then C++[lR (.mk op set kids mn mx mode n neg) k]
  else if op=2 then Re.db kids k C
  else if op=3 then Re.mv kids k C []
  else if op=5 then Re.db kids k (C++[jt (2*n-2)])++[jt (2*n-1)]
  else if op=4 then (mG (λC=>Re.db kids k C) mn mx C).2.foldl (oC mode) (mG (λC=>Re.db kids k C) mn mx C).1
  else C
def Re.db:List Re->Nat->List au->List au
 |[],_,C=>C
 |x::l,k,C=>Re.db l (k+x.looks) (x.emit k C)
def Re.mv:List Re->Nat->List au->List Nat->List au
 |[],_,C,_=>C
 |x::l,k,C,J=>match l with
  |[]=>J.foldl (xO (x.emit k C).length) (x.emit k C)
  |_::_=>Re.mv l (k+x.looks) (x9 (x.emit k (C++[cX 0 0])++[ku 0]) C.length ((C.length:Int)+1) (((x.emit k (C++[cX 0 0])).length:Int)+1)) (J++[(x.emit k (C++[cX 0 0])).length])
end
def jx:List Re->Nat->List au->List Nat->List au×List Nat
 |[],_,C,J=>(C,J)
 |x::l,k,C,J=>jx l (k+x.looks) (x9 (x.emit k (C++[cX 0 0])++[ku 0]) C.length ((C.length:Int)+1) (((x.emit k (C++[cX 0 0])).length:Int)+1)) (J++[(x.emit k (C++[cX 0 0])).length])
theorem JD:∀(l:List Re) (z:Re) (k:Nat) (C:List au) (J:List Nat),Re.mv (l++[z]) k C J=(jx l k C J).2.foldl (xO (z.emit (k+Re.aV l) (jx l k C J).1).length) (z.emit (k+Re.aV l) (jx l k C J).1)
 |[],z,k,C,J=>by simp [Re.mv,jx,Re.aV]
 |x::l,z,k,C,J=>by
  have ih:=JD l z (k+x.looks);obtain⟨y,l',hl⟩:∃y l',l++[z]=y::l':=by
   cases l with
   |nil=>exact⟨z,[],rfl⟩
   |cons a l=>exact⟨a,l++[z],rfl⟩
  rw[aiX,hl,Re.mv,<- hl]
  ·rw[ih,jx,Re.aV,ajI]
theorem Gm:∀(l:List Re) (z:Re) (k:Nat) (C:List au) (J:List Nat),jx (l++[z]) k C J=jx [z] (k+Re.aV l) (jx l k C J).1 (jx l k C J).2
 |[],z,k,C,J=>by simp [jx,Re.aV]
 |x::l,z,k,C,J=>by show jx (l++[z]) (k+x.looks) _ _=_;rw[Gm l z,Re.aV,<- ajI];rfl
theorem Fb:∀(l:List Re) (z:Re) (k:Nat) (C:List au),Re.db (l++[z]) k C=z.emit (k+Re.aV l) (Re.db l k C)
 |[],z,k,C=>by simp [Re.db,Re.aV]
 |x::l,z,k,C=>by rw[aiX,Re.db,Fb l z,Re.db,Re.aV,ajI]
theorem Re.lg (re:Re) (k:Nat) (C:List au):re.emit k C=if re.op=1 then C++[sL re k]
  else if re.op=11\/re.op=7\/re.op=8 then C++[lR re k]
  else if re.op=2 then Re.db re.kids k C
  else if re.op=3 then Re.mv re.kids k C []
  else if re.op=5 then Re.db re.kids k (C++[jt (2*re.n-2)])++[jt (2*re.n-1)]
  else if re.op=4 then (mG (λC=>Re.db re.kids k C) re.mn re.mx C).2.foldl (oC re.mode) (mG (λC=>Re.db re.kids k C) re.mn re.mx C).1
  else C:=by
 cases re;rw[Re.emit];rfl
def nK (op mn mx:Int) (k n:Nat):Nat :=
 if op=1\/op=11\/op=7\/op=8 then 1 else if op=2 then n else if op=3 then n+2*(k-1) else if op=5 then n+2
  else if op=4 then (if mx=-1 then mn.toNat*n+n+2 else mn.toNat*n+(mx-mn).toNat*(n+1)) else 0
mutual
def Re.dc:Re->Nat
 |.mk op _ kids mn mx _ _ _=>nK op mn mx kids.length (Re.cu kids)
def Re.cu:List Re->Nat
 |[]=>0
 |x::l=>x.dc+Re.cu l
end
theorem Re.gj (re:Re):re.dc=nK re.op re.mn re.mx re.kids.length (Re.cu re.kids):=by
 cases re;rw[Re.dc];rfl
theorem oI (C:List au) (c:Nat) (x y:Int):(x9 C c x y).length=C.length:=by simp [x9]
theorem IZ (E:Int) (C:List au) (c:Nat):(xO E C c).length=C.length:=by simp [xO,oI]
theorem J3 (mode:Int) (C:List au) (c:Nat):(oC mode C c).length=C.length:=by unfold oC;split <;> simp [oI]
theorem CG (E:Int):∀(J:List Nat) (C:List au),(J.foldl (xO E) C).length=C.length
 |[],_=>rfl
 |a::J,C=>by rw[akg,CG E J,IZ]
theorem vN (mode:Int):∀(J:List Nat) (C:List au),(J.foldl (oC mode) C).length=C.length
 |[],_=>rfl
 |a::J,C=>by rw[akg,vN mode J,J3]
theorem wJ {f:List au->List au}{z:Nat} (h:∀C,(f C).length=C.length+z):∀n C,(iR f n C).length=C.length+n*z
 |0,C=>by simp [iR]
 |n+1,C=>by rw[iR,h,wJ h n,ajR];omega
theorem y5 {f:List au->List au}{z:Nat} (h:∀C,(f C).length=C.length+z):∀n C,(gv f n C).1.length=C.length+n*(z+1)/\(gv f n C).2.length=n
 |0,C=>by simp [gv]
 |n+1,C=>by obtain⟨h1,h2⟩:=y5 h n C;have e:(n+1)*(z+1)=n*(z+1)+(z+1):=Nat.succ_mul _ _;refine⟨?_,by simp [gv,h2]⟩;rw[gv,h,ai6,h1,e,ajz];generalize n*(z+1)=y;omega
theorem Sj {f:List au->List au}{z:Nat} (h:∀C,(f C).length=C.length+z) (mn mx:Int) (C:List au):(mG f mn mx C).1.length=C.length+(if mx=-1 then mn.toNat*z+z+2 else mn.toNat*z+(mx-mn).toNat*(z+1)):=by
 unfold mG;simp only;split
 ·simp only[h,ai6,ajz,wJ h];omega
 ·rw[(y5 h _ _).1,wJ h];omega
mutual
theorem Re.eO:∀(re:Re) (k:Nat) (C:List au),(re.emit k C).length=C.length+re.dc
 |.mk op set kids mn mx mode n neg,k,C=>by
  have hL:=Re.wv kids;have hA:=Re.HL kids;rw[Re.emit,Re.dc,nK];by_cases o1:op=1
  ·rw[be o1,be (.inl o1)];simp
  rw[ap o1];by_cases o7:op=11\/op=7\/op=8
  ·rw[be o7,be (.inr o7)];simp
  rw[ap o7,ap (show ¬(op=1\/op=11\/op=7\/op=8) from λh=>h.elim o1 o7)];by_cases o2:op=2
  ·rw[be o2,be o2,hL]
  rw[ap o2,ap o2];by_cases o3:op=3
  ·rw[be o3,be o3,hA]
  rw[ap o3,ap o3];by_cases o5:op=5
  ·rw[be o5,be o5,ai6,hL];simp only[ai6,ajz];omega
  rw[ap o5,ap o5];by_cases o4:op=4
  ·rw[be o4,be o4,vN,Sj (λC=>hL k C)]
  rw[ap o4,ap o4];rfl
theorem Re.wv:∀(l:List Re) (k:Nat) (C:List au),(Re.db l k C).length=C.length+Re.cu l
 |[],_,C=>rfl
 |x::l,k,C=>by rw[Re.db,Re.wv l,Re.eO x,Re.cu];omega
theorem Re.HL:∀(l:List Re) (k:Nat) (C:List au) (J:List Nat),(Re.mv l k C J).length=C.length+(Re.cu l+2*(l.length-1))
 |[],_,C,_=>rfl
 |[x],k,C,J=>by simp only[Re.mv,CG,Re.eO x,Re.cu,ajz];omega
 |x::y::l,k,C,J=>by
  have e:Re.cu (x::y::l)=x.dc+Re.cu (y::l):=by rw[Re.cu]
  rw[Re.mv,Re.HL (y::l),oI,ai6,Re.eO x,e];simp only[ai6,ai8,ai9];omega
end
theorem zl:∀(l:List Re) (k:Nat) (C:List au) (J:List Nat),(jx l k C J).1.length=C.length+(Re.cu l+2*l.length)/\(jx l k C J).2.length=J.length+l.length
 |[],_,C,_=>⟨rfl,rfl⟩
 |x::l,k,C,J=>by
  obtain⟨h1,h2⟩:=zl l (k+x.looks) (x9 (x.emit k (C++[cX 0 0])++[ku 0]) C.length ((C.length:Int)+1) (((x.emit k (C++[cX 0 0])).length:Int)+1)) (J++[(x.emit k (C++[cX 0 0])).length]);show (jx l _ _ _).1.length=_/\(jx l _ _ _).2.length=_;have e:Re.cu (x::l)=x.dc+Re.cu l:=by rw[Re.cu]
  rw[h1,h2,oI,ai6,ai6,Re.eO x,e];simp only[ai6,ai8,ai9];omega
theorem iS:∀(l m:List Re),Re.cu (l++m)=Re.cu l+Re.cu m
 |[],m=>by simp [Re.cu]
 |x::l,m=>by rw[aiX,Re.cu,iS l m,Re.cu];omega
theorem nf:∀(l m:List Re),Re.aV (l++m)=Re.aV l+Re.aV m
 |[],m=>by simp [Re.aV]
 |x::l,m=>by rw[aiX,Re.aV,nf l m,Re.aV];omega
theorem xG:∀(l:List Re) (k i:Nat) (x:Re),l[i]?=some x->(Re.ej l k)[i]?=some [x.bq (k+Re.aV (l.take i))]
 |[],_,_,_,h=>by simp at h
 |y::l,k,0,x,h=>by simp at h;subst h;simp [Re.ej,Re.aV]
 |y::l,k,i+1,x,h=>by rw[ajJ]at h;rw[Re.ej,ajJ,xG l (k+y.looks) i x h,aj1,Re.aV,ajI]
end Go.Proofs.Ytfmdmlfhigocaaa
