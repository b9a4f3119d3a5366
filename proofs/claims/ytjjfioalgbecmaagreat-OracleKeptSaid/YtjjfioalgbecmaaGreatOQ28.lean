/- A part of the proof (Vzu O12 O13). -/
import Derived.Test.YtjjfioalgbecmaaGreatOQ27
set_option linter.unusedSimpArgs false
set_option linter.unusedVariables false
set_option maxRecDepth 100000
set_option maxHeartbeats 80000000
namespace Go.VL
variable{s:List Obj}
theorem SG {σ:Gh}{w:World} (hI:Inv σ s w) {k:Nat}{o:Obj} (m:Nat) (ho:s[k]?=some o) (R4:∀es,o.au≠fz es) :
  aC σ s w σ (s.set k { o with au:=o.au.take m }) w/\Inv σ (s.set k { o with au:=o.au.take m }) w:=by
 have hk:=(List.getElem?_eq_some_iff.1 ho).1;have get:∀(id:Nat) (o':Obj),(s.set k { o with au:=o.au.take m })[id]?=some o'->∃o1,s[id]?=some o1/\o1.live=o'.live/\o1.g=o'.g/\o1.sz=o'.sz:=by
  intro id o' h';by_cases he:id=k
  ·subst he;rw[List.getElem?_set_self hk]at h';simp only[ajU]at h';subst h';exact⟨o,ho,rfl,rfl,rfl⟩
  ·rw[List.getElem?_set_ne (Ne.symm he)]at h';exact⟨o',h',rfl,rfl,rfl⟩
 have put:∀(id:Nat) (o1:Obj),s[id]?=some o1->∃o',(s.set k { o with au:=o.au.take m })[id]?=some o'/\o'.g=o1.g/\o'.sz=o1.sz/\o'.live=o1.live:=by
  intro id o1 h';by_cases he:id=k
  ·subst he;rw[ho]at h';simp only[ajU]at h';subst h';exact⟨_,List.getElem?_set_self hk,rfl,rfl,rfl⟩
  ·exact⟨o1,by rw[List.getElem?_set_ne (Ne.symm he)];exact h',rfl,rfl,rfl⟩
 have hE:aC σ s w σ (s.set k { o with au:=o.au.take m }) w:=by
  refine⟨rfl,rfl,rfl,ajZ _,λ_ _ _=>rfl,λ_ arr _ _ h=>⟨arr,h,rfl⟩,λ_ _ h=>h,?_,?_,rfl,λ_ _ _=>rfl⟩
  ·rintro b (hb|⟨id,o',base,h1,h2,h3⟩)
   ·exact .inl (.inl hb)
   ·obtain⟨o1,k1,k2,_⟩:=get id o' h1;exact .inl (.inr ⟨id,o1,base,k1,by rw[k2];exact h2,h3⟩)
  ·intro id o1 h1;obtain⟨o',k1,k2,k3,_⟩:=put id o1 h1;exact⟨o',k1,ae,λ_=>⟨k3,rfl⟩⟩
 refine⟨hE,⟨?_,?_,hI.low,?_⟩⟩
 ·intro id o' h1;by_cases he:id=k
  ·subst he;rw[List.getElem?_set_self hk]at h1;simp only[ajU]at h1;subst h1;rcases hI.content id o ho with (⟨c1,c2⟩|⟨b,es,c,c1,c2,c3⟩)|⟨b,base,arr,E,c1,c2,c3,c4,c5⟩
   ·left;exact .inl ⟨c1,by simp [c2]⟩
   ·exact(R4 es c3).elim
   ·right;refine⟨b,base,arr,E,c1,c2,λe he=>c3 e (akv he),?_,λi j x' hx=>?_⟩
    ·have:(o.au.take m).length*o.sz<=o.au.length*o.sz:=akk _ cC;show base+(o.au.take m).length*o.sz<=arr.size;omega
    ·have jR:(o.au[i]?.bind (·[j]?))=some x':=by
      simp only[List.getElem?_take]at hx;split at hx
      ·exact hx
      ·cases hx
     obtain⟨u,z1,z2,z3⟩:=c5 i j x' jR;exact⟨u,z1,z2,z3.aR hE⟩
  ·rw[List.getElem?_set_ne (Ne.symm he)]at h1;rcases hI.content id o' h1 with c|⟨b,base,arr,E,c1,c2,c3,c4,c5⟩
   ·exact .inl c
   ·right;refine⟨b,base,arr,E,c1,c2,c3,c4,λi j x hx=>?_⟩;obtain⟨u,z1,z2,z3⟩:=c5 i j x hx;exact⟨u,z1,z2,z3.aR hE⟩
 ·intro id kX o1 o2 b base bN h1 h2 h3 h4 h5;obtain⟨p1,q1,q2,_⟩:=get id o1 h1;obtain⟨p2,r1,_⟩:=get kX o2 h2;exact hI.inj id kX p1 p2 b base bN q1 r1 (by rw[q2];exact h3) h4 h5
 ·intro id o1 b base h1 h2;obtain⟨p1,q1,_⟩:=get id o1 h1;exact hI.apart id p1 b base q1 h2
theorem bA.W4 {L:Nat}{e:Env}{o:Obj} (k m:Nat) (ho:s[k]?=some o) (R4:∀es,o.au≠fz es):bA L e s e (s.set k { o with au:=o.au.take m }):=by intro σ0 s0 w0 σ w N a _ hE hI hR;obtain⟨h1,h2⟩:=SG hI m ho R4;exact⟨σ,hE.trans h1,h2,hR.aR h1⟩
theorem Ab {P:Program}{f:FuncId} (ρ:List Nat) {cargs args:List V}{exts Au:List Obj}{r r':V}{K:V->List Obj->Prop} (h:ar P f cargs exts λv s'=>v=r/\s'=Au) (hnd:ρ.Nodup) (hl:Au.length=exts.length)
  (hs:ρ.map (λi=>s[i]?)=exts.map (λo=>some (aN ρ o))) (ha:args=cargs.map (aE ρ)) (wY:aj.go exts.length cargs=true) (xA:exts.all (aK exts.length)=true) (hr:aE ρ r=r') (hk:K r' (aJ s ρ (Au.map (aN ρ)))):GO P ρ ρ f args s K:=by
 have hρ:ρ.length=exts.length:=by simpa using congrArg List.length hs
 refine⟨r',Au.map (aN ρ),by simp [hl,hρ],λs' _ jz=>?_,hk⟩;refine cV ρ h hnd hl ?_ ha wY xA hr ⟨rfl,rfl⟩;rw[<- hs];exact akz λi hi=>jz i hi
end Go.VL
namespace Go.Proofs.YtjjfioalgbecmaaGreat
open Go.VL
def oy (k n:Nat):VL.Obj:=⟨0,true,1,[[.so k n 0 n]]⟩
def ss (b a:Nat) (x:aq):V:=.ag (x.cells b a)
section
variable (t:List Int) (root parts:D) (bg nb:Nat) (Bs:List (List Bool)) (b a:Nat)
theorem U9 (C:List aq) (hC:C.length<=1000000000000) (x:aq):ar Tryz.prog 63 [ss b a x,.rf 2 0 0 0] [dz t root parts bg nb,fx bg Bs,oy 3 C.length,cN C.length b a C] λv s=>v=i64 C.length/\s=[dz t root parts bg nb,fx bg Bs,oy 3 (C.length+1),cN (C.length+1) b a (C++[x])]:=by
 have hg:(cN C.length b a C).g=C.length:=rfl;have hz:(cN C.length b a C).sz=5:=rfl;have he:(cN C.length b a C).au=C.map (aq.cells b a):=rfl;have hl:(cN C.length b a C).live=true:=rfl;have w1:IntKind.i64.wrap (((C.length:Int)+1)-1)=(C.length:Int):=by rw[bG _ ae];omega
 refine bo Tryz.func63 Tryz.ntmps63 Tryz.results63 4 15 ?_;simp only[zQ,simprocAttr,ss,aq.cells,oy,hg,hz,he,hl,ajM];have hp:Pn (cj b a x.node)=none\/∃d,Pn (cj b a x.node)=some d/\cj b a x.node=.d d:=by
  cases hx:x.node with
  |none=>exact .inr ⟨_,rfl,rfl⟩
  |some y =>
   obtain⟨re,k⟩:=y;refine .inl ?_;unfold cj;simp only;split
   ·rfl
   ·split <;> rfl
 have hb:=gu 4 bg Bs;have hm:((dz t root parts bg nb).au.all λe=>e.all (aj 4))=true:=rfl;have hT:List.take C.length (C.map (aq.cells b a))++[[V.d (D.sc (Value.int IntKind.i64 x.op)),V.d (D.sc (Value.int IntKind.i64 x.x)),V.d (D.sc (Value.int IntKind.i64 x.y)),V.d (D.sc (Value.int IntKind.i64 x.n)),cj b a x.node]]=(C++[x]).map (aq.cells b a):=by rw[akb (by rw[ajM];exact ajZ _)];simp [aq.cells,i64]
 have gL:(((C++[x]).map (aq.cells b a)).all λe=>e.all (aj 4))=true:=kv 4 0 b a ae (C++[x]);rcases hp with hp|⟨d,hp,hv⟩
 ·rw[hp];simp only[Option.bind_none];rw[hT,hb,hm,gL];refine⟨λe he=>by rw[List.mem_singleton.1 he];rfl,⟨ae,ae⟩,rfl,by rw[akC];exact w1,rfl⟩
 ·rw[hv]at hT;rw[hp,hv];simp only[akA,ajR,ajV,ajW,ajX,ajT];rw[hT,hb,hm,gL];refine⟨λe he=>by rw[List.mem_singleton.1 he];rfl,⟨ae,ae⟩,rfl,by rw[akC];exact w1,rfl⟩
end
def qC (re:Re) (k:Nat):aq:=⟨1,0,0,0,some (re,k)⟩
def gQ (re:Re) (k:Nat):aq:=⟨5,0,0,0,some (re,k)⟩
def cR (x y:Int):aq:=⟨2,x,y,0,none⟩
def iT (x:Int):aq:=⟨3,x,0,0,none⟩
def gy (n:Int):aq:=⟨4,0,0,n,none⟩
def wV (C:List aq) (c:Nat) (x y:Int):List aq:=C.set c ⟨(e9 C c).op,x,y,(e9 C c).n,(e9 C c).node⟩
def xO (E:Int) (C:List aq) (c:Nat):List aq:=wV C c E (e9 C c).y
def nn (mode:Int) (C:List aq) (c:Nat):List aq:=if mode=1 then wV C c C.length ((c:Int)+1) else wV C c ((c:Int)+1) C.length
def ir (f:List aq->List aq):Nat->List aq->List aq
 |0,C=>C
 |n+1,C=>f (ir f n C)
def fD (f:List aq->List aq):Nat->List aq->List aq×List Nat
 |0,C=>(C,[])
 |n+1,C=>(f ((fD f n C).1++[cR 0 0]),(fD f n C).2++[(fD f n C).1.length])
def lY (f:List aq->List aq) (mn mx:Int) (C:List aq):List aq×List Nat :=
 let C1:=ir f mn.toNat C
 if mx=-1 then (f (C1++[cR 0 0])++[iT C1.length],[C1.length]) else fD f (mx-mn).toNat C1
mutual
def Re.emit:Re->Nat->List aq->List aq
 |.mk op set kids mn mx mode n neg,k,C =>
  if op=1 then C++[qC (.mk op set kids mn mx mode n neg) k]
  else if op=11\/op=7\/op=8 then C++[gQ (.mk op set kids mn mx mode n neg) k]
  else if op=2 then Re.dj kids k C
  else if op=3 then Re.lO kids k C []
  else if op=5 then Re.dj kids k (C++[gy (2*n-2)])++[gy (2*n-1)]
  else if op=4 then (lY (λC=>Re.dj kids k C) mn mx C).2.foldl (nn mode) (lY (λC=>Re.dj kids k C) mn mx C).1
  else C
def Re.dj:List Re->Nat->List aq->List aq
 |[],_,C=>C
 |x::l,k,C=>Re.dj l (k+x.looks) (x.emit k C)
def Re.lO:List Re->Nat->List aq->List Nat->List aq
 |[],_,C,_=>C
 |x::l,k,C,J=>match l with
  |[]=>J.foldl (xO (x.emit k C).length) (x.emit k C)
  |_::_=>Re.lO l (k+x.looks) (wV (x.emit k (C++[cR 0 0])++[iT 0]) C.length ((C.length:Int)+1) (((x.emit k (C++[cR 0 0])).length:Int)+1)) (J++[(x.emit k (C++[cR 0 0])).length])
end
def iU:List Re->Nat->List aq->List Nat->List aq×List Nat
 |[],_,C,J=>(C,J)
 |x::l,k,C,J=>iU l (k+x.looks) (wV (x.emit k (C++[cR 0 0])++[iT 0]) C.length ((C.length:Int)+1) (((x.emit k (C++[cR 0 0])).length:Int)+1)) (J++[(x.emit k (C++[cR 0 0])).length])
theorem I0:∀(l:List Re) (z:Re) (k:Nat) (C:List aq) (J:List Nat),Re.lO (l++[z]) k C J=(iU l k C J).2.foldl (xO (z.emit (k+Re.ba l) (iU l k C J).1).length) (z.emit (k+Re.ba l) (iU l k C J).1)
 |[],z,k,C,J=>by simp [Re.lO,iU,Re.ba]
 |x::l,z,k,C,J=>by
  have ih:=I0 l z (k+x.looks);obtain⟨y,l',hl⟩:∃y l',l++[z]=y::l':=by
   cases l with
   |nil=>exact⟨z,[],rfl⟩
   |cons a l=>exact⟨a,l++[z],rfl⟩
  rw[ajN,hl,Re.lO,<- hl]
  ·rw[ih,iU,Re.ba,aky]
theorem FH:∀(l:List Re) (z:Re) (k:Nat) (C:List aq) (J:List Nat),iU (l++[z]) k C J=iU [z] (k+Re.ba l) (iU l k C J).1 (iU l k C J).2
 |[],z,k,C,J=>by simp [iU,Re.ba]
 |x::l,z,k,C,J=>by show iU (l++[z]) (k+x.looks) _ _=_;rw[FH l z,Re.ba,<- aky];rfl
theorem DM:∀(l:List Re) (z:Re) (k:Nat) (C:List aq),Re.dj (l++[z]) k C=z.emit (k+Re.ba l) (Re.dj l k C)
 |[],z,k,C=>by simp [Re.dj,Re.ba]
 |x::l,z,k,C=>by rw[ajN,Re.dj,DM l z,Re.dj,Re.ba,aky]
theorem Re.iK (re:Re) (k:Nat) (C:List aq):re.emit k C=if re.op=1 then C++[qC re k]
  else if re.op=11\/re.op=7\/re.op=8 then C++[gQ re k]
  else if re.op=2 then Re.dj re.kids k C
  else if re.op=3 then Re.lO re.kids k C []
  else if re.op=5 then Re.dj re.kids k (C++[gy (2*re.n-2)])++[gy (2*re.n-1)]
  else if re.op=4 then (lY (λC=>Re.dj re.kids k C) re.mn re.mx C).2.foldl (nn re.mode) (lY (λC=>Re.dj re.kids k C) re.mn re.mx C).1
  else C:=by
 cases re;rw[Re.emit];rfl
def xU (op mn mx:Int) (k n:Nat):Nat :=
 if op=1\/op=11\/op=7\/op=8 then 1 else if op=2 then n else if op=3 then n+2*(k-1) else if op=5 then n+2
  else if op=4 then (if mx=-1 then mn.toNat*n+n+2 else mn.toNat*n+(mx-mn).toNat*(n+1)) else 0
mutual
def Re.eC:Re->Nat
 |.mk op _ kids mn mx _ _ _=>xU op mn mx kids.length (Re.cf kids)
def Re.cf:List Re->Nat
 |[]=>0
 |x::l=>x.eC+Re.cf l
end
theorem Re.ox (re:Re):re.eC=xU re.op re.mn re.mx re.kids.length (Re.cf re.kids):=by
 cases re;rw[Re.eC];rfl
theorem nv (C:List aq) (c:Nat) (x y:Int):(wV C c x y).length=C.length:=by simp [wV]
theorem Ih (E:Int) (C:List aq) (c:Nat):(xO E C c).length=C.length:=by simp [xO,nv]
theorem Jp (mode:Int) (C:List aq) (c:Nat):(nn mode C c).length=C.length:=by unfold nn;split <;> simp [nv]
theorem BH (E:Int):∀(J:List Nat) (C:List aq),(J.foldl (xO E) C).length=C.length
 |[],_=>rfl
 |a::J,C=>by rw[akY,BH E J,Ih]
theorem uQ (mode:Int):∀(J:List Nat) (C:List aq),(J.foldl (nn mode) C).length=C.length
 |[],_=>rfl
 |a::J,C=>by rw[akY,uQ mode J,Jp]
theorem vt {f:List aq->List aq}{z:Nat} (h:∀C,(f C).length=C.length+z):∀n C,(ir f n C).length=C.length+n*z
 |0,C=>by simp [ir]
 |n+1,C=>by rw[ir,h,vt h n,akx];omega
theorem xT {f:List aq->List aq}{z:Nat} (h:∀C,(f C).length=C.length+z):∀n C,(fD f n C).1.length=C.length+n*(z+1)/\(fD f n C).2.length=n
 |0,C=>by simp [fD]
 |n+1,C=>by obtain⟨h1,h2⟩:=xT h n C;have e:(n+1)*(z+1)=n*(z+1)+(z+1):=Nat.succ_mul _ _;refine⟨?_,by simp [fD,h2]⟩;rw[fD,h,ajQ,h1,e,aki];generalize n*(z+1)=y;omega
theorem RP {f:List aq->List aq}{z:Nat} (h:∀C,(f C).length=C.length+z) (mn mx:Int) (C:List aq):(lY f mn mx C).1.length=C.length+(if mx=-1 then mn.toNat*z+z+2 else mn.toNat*z+(mx-mn).toNat*(z+1)):=by
 unfold lY;simp only;split
 ·simp only[h,ajQ,aki,vt h];omega
 ·rw[(xT h _ _).1,vt h];omega
mutual
theorem Re.ez:∀(re:Re) (k:Nat) (C:List aq),(re.emit k C).length=C.length+re.eC
 |.mk op set kids mn mx mode n neg,k,C=>by
  have hL:=Re.vg kids;have hA:=Re.Hi kids;rw[Re.emit,Re.eC,xU];by_cases o1:op=1
  ·rw[be o1,be (.inl o1)];simp
  rw[ap o1];by_cases o7:op=11\/op=7\/op=8
  ·rw[be o7,be (.inr o7)];simp
  rw[ap o7,ap (show ¬(op=1\/op=11\/op=7\/op=8) from λh=>h.elim o1 o7)];by_cases o2:op=2
  ·rw[be o2,be o2,hL]
  rw[ap o2,ap o2];by_cases o3:op=3
  ·rw[be o3,be o3,hA]
  rw[ap o3,ap o3];by_cases o5:op=5
  ·rw[be o5,be o5,ajQ,hL];simp only[ajQ,aki];omega
  rw[ap o5,ap o5];by_cases o4:op=4
  ·rw[be o4,be o4,uQ,RP (λC=>hL k C)]
  rw[ap o4,ap o4];rfl
theorem Re.vg:∀(l:List Re) (k:Nat) (C:List aq),(Re.dj l k C).length=C.length+Re.cf l
 |[],_,C=>rfl
 |x::l,k,C=>by rw[Re.dj,Re.vg l,Re.ez x,Re.cf];omega
theorem Re.Hi:∀(l:List Re) (k:Nat) (C:List aq) (J:List Nat),(Re.lO l k C J).length=C.length+(Re.cf l+2*(l.length-1))
 |[],_,C,_=>rfl
 |[x],k,C,J=>by simp only[Re.lO,BH,Re.ez x,Re.cf,aki];omega
 |x::y::l,k,C,J=>by
  have e:Re.cf (x::y::l)=x.eC+Re.cf (y::l):=by rw[Re.cf]
  rw[Re.lO,Re.Hi (y::l),nv,ajQ,Re.ez x,e];simp only[ajQ,ajW,ajX];omega
end
theorem x7:∀(l:List Re) (k:Nat) (C:List aq) (J:List Nat),(iU l k C J).1.length=C.length+(Re.cf l+2*l.length)/\(iU l k C J).2.length=J.length+l.length
 |[],_,C,_=>⟨rfl,rfl⟩
 |x::l,k,C,J=>by
  obtain⟨h1,h2⟩:=x7 l (k+x.looks) (wV (x.emit k (C++[cR 0 0])++[iT 0]) C.length ((C.length:Int)+1) (((x.emit k (C++[cR 0 0])).length:Int)+1)) (J++[(x.emit k (C++[cR 0 0])).length]);show (iU l _ _ _).1.length=_/\(iU l _ _ _).2.length=_;have e:Re.cf (x::l)=x.eC+Re.cf l:=by rw[Re.cf]
  rw[h1,h2,nv,ajQ,ajQ,Re.ez x,e];simp only[ajQ,ajW,ajX];omega
theorem iu:∀(l m:List Re),Re.cf (l++m)=Re.cf l+Re.cf m
 |[],m=>by simp [Re.cf]
 |x::l,m=>by rw[ajN,Re.cf,iu l m,Re.cf];omega
theorem pT:∀(l m:List Re),Re.ba (l++m)=Re.ba l+Re.ba m
 |[],m=>by simp [Re.ba]
 |x::l,m=>by rw[ajN,Re.ba,pT l m,Re.ba];omega
theorem wk:∀(l:List Re) (k i:Nat) (x:Re),l[i]?=some x->(Re.dP l k)[i]?=some [x.bk (k+Re.ba (l.take i))]
 |[],_,_,_,h=>by simp at h
 |y::l,k,0,x,h=>by simp at h;subst h;simp [Re.dP,Re.ba]
 |y::l,k,i+1,x,h=>by rw[List.getElem?_cons_succ]at h;rw[Re.dP,List.getElem?_cons_succ,wk l (k+y.looks) i x h,akO,Re.ba,aky]
end Go.Proofs.YtjjfioalgbecmaaGreat
