/- A part of the proof (Vzu O12 O13). -/
import Derived.Test.YtfmdmlfhigocaaaOF12
import Derived.Test.YtfmdmlfhigocaaaOF14
import Derived.Test.YtfmdmlfhigocaaaOF15
import Derived.Test.YtfmdmlfhigocaaaOF30
set_option linter.unusedSimpArgs false
set_option linter.unusedVariables false
set_option maxRecDepth 100000
set_option maxHeartbeats 80000000
namespace Go.VL
theorem KQ {σ:Gh}{s:List Obj}{w:World} (hI:Inv σ s w) {k:Nat}{o:Obj} (m:Nat) (ho:s[k]?=some o) (Km:∀es,o.au≠eB es) :
  aA σ s w σ (s.set k { o with au:=o.au.take m }) w/\Inv σ (s.set k { o with au:=o.au.take m }) w:=by
 have hk:=(List.getElem?_eq_some_iff.1 ho).1
 have get:∀(id:Nat) (o':Obj),(s.set k { o with au:=o.au.take m })[id]?=some o'->∃o1,s[id]?=some o1/\o1.live=o'.live/\o1.g=o'.g/\o1.sz=o'.sz:=by
  intro id o' h'
  by_cases he:id=k
  ·subst he
   rw[List.getElem?_set_self hk]at h'
   simp only[Option.some.injEq]at h'
   subst h'
   exact⟨o,ho,rfl,rfl,rfl⟩
  ·rw[List.getElem?_set_ne (Ne.symm he)]at h'
   exact⟨o',h',rfl,rfl,rfl⟩
 have put:∀(id:Nat) (o1:Obj),s[id]?=some o1->∃o',(s.set k { o with au:=o.au.take m })[id]?=some o'/\o'.g=o1.g/\o'.sz=o1.sz/\o'.live=o1.live:=by
  intro id o1 h'
  by_cases he:id=k
  ·subst he
   rw[ho]at h'
   simp only[Option.some.injEq]at h'
   subst h'
   exact⟨_,List.getElem?_set_self hk,rfl,rfl,rfl⟩
  ·exact⟨o1,by rw[List.getElem?_set_ne (Ne.symm he)];exact h',rfl,rfl,rfl⟩
 have hE:aA σ s w σ (s.set k { o with au:=o.au.take m }) w:=by
  refine⟨rfl,rfl,rfl,Nat.le_refl _,fun _ _ _=>rfl,fun _ arr _ _ h=>⟨arr,h,rfl⟩,fun _ _ h=>h,?_,?_,rfl,fun _ _ _=>rfl⟩
  ·rintro b (hb|⟨id,o',base,h1,h2,h3⟩)
   ·exact .inl (.inl hb)
   ·obtain⟨o1,k1,k2,_⟩:=get id o' h1
    exact .inl (.inr ⟨id,o1,base,k1,by rw[k2];exact h2,h3⟩)
  ·intro id o1 h1
   obtain⟨o',k1,k2,k3,_⟩:=put id o1 h1
   exact⟨o',k1,by omega,fun _=>⟨k3,rfl⟩⟩
 refine⟨hE,⟨?_,?_,hI.low,?_⟩⟩
 ·intro id o' h1
  by_cases he:id=k
  ·subst he
   rw[List.getElem?_set_self hk]at h1
   simp only[Option.some.injEq]at h1
   subst h1
   rcases hI.content id o ho with (⟨c1,c2⟩|⟨b,es,c,c1,c2,c3⟩)|⟨b,base,arr,E,c1,c2,c3,c4,c5⟩
   ·left;exact .inl ⟨c1,by simp [c2]⟩
   ·exact(Km es c3).elim
   ·right
    refine⟨b,base,arr,E,c1,c2,fun e he=>c3 e (List.mem_of_mem_take he),?_,fun i j x' hx=>?_⟩
    ·have:(o.au.take m).length*o.sz<=o.au.length*o.sz:=Nat.mul_le_mul_right _ (by simp;omega)
     show base+(o.au.take m).length*o.sz<=arr.size
     omega
    ·have jO:(o.au[i]?.bind (·[j]?))=some x':=by
      simp only[List.getElem?_take]at hx
      split at hx
      ·exact hx
      ·cases hx
     obtain⟨u,z1,z2,z3⟩:=c5 i j x' jO
     exact⟨u,z1,z2,z3.aO hE⟩
  ·rw[List.getElem?_set_ne (Ne.symm he)]at h1
   rcases hI.content id o' h1 with c|⟨b,base,arr,E,c1,c2,c3,c4,c5⟩
   ·exact .inl c
   ·right
    refine⟨b,base,arr,E,c1,c2,c3,c4,fun i j x hx=>?_⟩
    obtain⟨u,z1,z2,z3⟩:=c5 i j x hx
    exact⟨u,z1,z2,z3.aO hE⟩
 ·intro id jm o1 o2 b base bp h1 h2 h3 h4 h5
  obtain⟨p1,q1,q2,_⟩:=get id o1 h1
  obtain⟨p2,r1,_⟩:=get jm o2 h2
  exact hI.inj id jm p1 p2 b base bp q1 r1 (by rw[q2];exact h3) h4 h5
 ·intro id o1 b base h1 h2
  obtain⟨p1,q1,_⟩:=get id o1 h1
  exact hI.apart id p1 b base q1 h2
theorem bI.N8 {L:Nat}{e:Env}{s:List Obj}{o:Obj} (k m:Nat) (ho:s[k]?=some o) (Km:∀es,o.au≠eB es):bI L e s e (s.set k { o with au:=o.au.take m }):=by
 intro σ0 s0 w0 σ w N a _ hE hI hR
 obtain⟨h1,h2⟩:=KQ hI m ho Km
 exact⟨σ,hE.trans h1,h2,hR.aO h1⟩
theorem vU {P:Program}{f:FuncId} (ρ:List Nat) {cargs args:List V}{s exts wq:List Obj}{r r':V}{K:V->List Obj->Prop} (h:aq P f cargs exts fun v s'=>v=r/\s'=wq) (uA:ρ.Nodup) (hl:wq.length=exts.length)
  (hs:ρ.map (fun i=>s[i]?)=exts.map (fun o=>some (aP ρ o))) (ha:args=cargs.map (aJ ρ)) (z8:ah.go exts.length cargs=true) (u4:exts.all (aQ exts.length)=true) (hr:aJ ρ r=r') (hk:K r' (aH s ρ (wq.map (aP ρ)))):EE P ρ ρ f args s K:=by
 have hρ:ρ.length=exts.length:=by simpa using congrArg List.length hs
 refine⟨r',wq.map (aP ρ),by simp [hl,hρ],fun s' _ jS=>?_,hk⟩
 refine dk ρ h uA hl ?_ ha z8 u4 hr ⟨rfl,rfl⟩
 rw[<- hs]
 exact List.map_congr_left fun i hi=>jS i hi
end Go.VL
namespace Go.Proofs.Ytfmdmlfhigocaaa
open Go.VL
def ma (k n:Nat):VL.Obj:=⟨0,true,1,[[.so k n 0 n]]⟩
def oY (b a:Nat) (x:av):V:=.ag (x.cells b a)
section
variable (t:List Int) (root parts:D) (bg nb:Nat) (Bs:List (List Bool)) (b a:Nat)
theorem MM (C:List av) (hC:C.length<=1000000000000) (x:av):aq Try.prog 55 [oY b a x,.rf 2 0 0 0] [cV t root parts bg nb,ez bg Bs,ma 3 C.length,cr C.length b a C] fun v s=>v=i64 C.length/\s=[cV t root parts bg nb,ez bg Bs,ma 3 (C.length+1),cr (C.length+1) b a (C++[x])]:=by
 have hg:(cr C.length b a C).g=C.length:=rfl
 have hz:(cr C.length b a C).sz=5:=rfl
 have he:(cr C.length b a C).au=C.map (av.cells b a):=rfl
 have hl:(cr C.length b a C).live=true:=rfl
 have w1:IntKind.i64.wrap (((C.length:Int)+1)-1)=(C.length:Int):=by rw[br _ (by omega)];omega
 refine an Try.func55 rfl Try.ntmps55 Try.results55 rfl 4 15 (by simp) (by simp) ?_
 simp only[zX,Nat.reduceShiftRight,Nat.reduceMod,Nat.reduceLT,Nat.reduceMul,Nat.reduceSub,Int.reduceToNat,Int.reduceNeg,Int.reduceLT,Int.reduceLE,Int.reduceEq,Nat.reduceEqDiff,Nat.reduceAdd,Nat.reduceLeDiff,reduceIte,reduceCtorEq,Nat.reduceBEq,i64,bV,iD,bD,oY,av.cells,ma,hg,hz,he,hl,List.length_map]
 have hp:Il (bQ b a x.node)=none\/∃d,Il (bQ b a x.node)=some d/\bQ b a x.node=.d d:=by
  cases hx:x.node with
  |none=>exact .inr ⟨_,rfl,rfl⟩
  |some y =>
   obtain⟨re,k⟩:=y
   refine .inl ?_
   unfold bQ
   simp only
   split
   ·rfl
   ·split <;> rfl
 have hb:=fe 4 bg Bs
 have hm:((cV t root parts bg nb).au.all fun e=>e.all (ah 4))=true:=rfl
 have hT:List.take C.length (C.map (av.cells b a))++[[V.d (D.sc (Value.int IntKind.i64 x.op)),V.d (D.sc (Value.int IntKind.i64 x.x)),V.d (D.sc (Value.int IntKind.i64 x.y)),V.d (D.sc (Value.int IntKind.i64 x.n)),bQ b a x.node]]=(C++[x]).map (av.cells b a):=by
  rw[List.take_of_length_le (by rw[List.length_map];exact Nat.le_refl _)]
  simp [av.cells,i64]
 have gZ:(((C++[x]).map (av.cells b a)).all fun e=>e.all (ah 4))=true:=iP 4 0 b a (by omega) (C++[x])
 rcases hp with hp|⟨d,hp,hv⟩
 ·rw[hp]
  simp only[Option.bind_none]
  rw[hT,hb,hm,gZ]
  refine⟨fun e he=>by rw[List.mem_singleton.1 he];rfl,⟨by omega,by omega⟩,rfl,by rw[Int.natCast_add];exact w1,rfl⟩
 ·rw[hv]at hT
  rw[hp,hv]
  simp only[Option.bind_some,List.map_cons,List.map_nil,List.length_cons,List.length_nil,Nat.zero_add]
  rw[hT,hb,hm,gZ]
  refine⟨fun e he=>by rw[List.mem_singleton.1 he];rfl,⟨by omega,by omega⟩,rfl,by rw[Int.natCast_add];exact w1,rfl⟩
end
def sQ (re:Re) (k:Nat):av:=⟨1,0,0,0,some (re,k)⟩
def mq (re:Re) (k:Nat):av:=⟨5,0,0,0,some (re,k)⟩
def dS (x y:Int):av:=⟨2,x,y,0,none⟩
def jN (x:Int):av:=⟨3,x,0,0,none⟩
def gy (n:Int):av:=⟨4,0,0,n,none⟩
def u7 (C:List av) (c:Nat) (x y:Int):List av:=C.set c ⟨(db C c).op,x,y,(db C c).n,(db C c).node⟩
def xO (E:Int) (C:List av) (c:Nat):List av:=u7 C c E (db C c).y
def nz (mode:Int) (C:List av) (c:Nat):List av:=if mode=1 then u7 C c C.length ((c:Int)+1) else u7 C c ((c:Int)+1) C.length
def gu (f:List av->List av):Nat->List av->List av
 |0,C=>C
 |n+1,C=>f (gu f n C)
def iO (f:List av->List av):Nat->List av->List av×List Nat
 |0,C=>(C,[])
 |n+1,C=>(f ((iO f n C).1++[dS 0 0]),(iO f n C).2++[(iO f n C).1.length])
def kX (f:List av->List av) (mn mx:Int) (C:List av):List av×List Nat :=
 let C1:=gu f mn.toNat C
 if mx=-1 then (f (C1++[dS 0 0])++[jN C1.length],[C1.length]) else iO f (mx-mn).toNat C1
mutual
def Re.emit:Re->Nat->List av->List av
 |.mk op set kids mn mx mode n neg,k,C =>
  if op=1 then C++[sQ (.mk op set kids mn mx mode n neg) k]
  else if op=11\/op=7\/op=8 then C++[mq (.mk op set kids mn mx mode n neg) k]
  else if op=2 then Re.dc kids k C
  else if op=3 then Re.mg kids k C []
  else if op=5 then Re.dc kids k (C++[gy (2*n-2)])++[gy (2*n-1)]
  else if op=4 then (kX (fun C=>Re.dc kids k C) mn mx C).2.foldl (nz mode) (kX (fun C=>Re.dc kids k C) mn mx C).1
  else C
def Re.dc:List Re->Nat->List av->List av
 |[],_,C=>C
 |x::l,k,C=>Re.dc l (k+x.looks) (x.emit k C)
def Re.mg:List Re->Nat->List av->List Nat->List av
 |[],_,C,_=>C
 |x::l,k,C,J=>match l with
  |[]=>J.foldl (xO (x.emit k C).length) (x.emit k C)
  |_::_=>Re.mg l (k+x.looks) (u7 (x.emit k (C++[dS 0 0])++[jN 0]) C.length ((C.length:Int)+1) (((x.emit k (C++[dS 0 0])).length:Int)+1)) (J++[(x.emit k (C++[dS 0 0])).length])
end
def fZ:List Re->Nat->List av->List Nat->List av×List Nat
 |[],_,C,J=>(C,J)
 |x::l,k,C,J=>fZ l (k+x.looks) (u7 (x.emit k (C++[dS 0 0])++[jN 0]) C.length ((C.length:Int)+1) (((x.emit k (C++[dS 0 0])).length:Int)+1)) (J++[(x.emit k (C++[dS 0 0])).length])
theorem CM:∀(l:List Re) (z:Re) (k:Nat) (C:List av) (J:List Nat),Re.mg (l++[z]) k C J=(fZ l k C J).2.foldl (xO (z.emit (k+Re.aN l) (fZ l k C J).1).length) (z.emit (k+Re.aN l) (fZ l k C J).1)
 |[],z,k,C,J=>by simp [Re.mg,fZ,Re.aN]
 |x::l,z,k,C,J=>by
  have ih:=CM l z (k+x.looks)
  obtain⟨y,l',hl⟩:∃y l',l++[z]=y::l':=by
   cases l with
   |nil=>exact⟨z,[],rfl⟩
   |cons a l=>exact⟨a,l++[z],rfl⟩
  rw[List.cons_append,hl,Re.mg,<- hl]
  ·rw[ih,fZ,Re.aN,Nat.add_assoc]
theorem Ah:∀(l:List Re) (z:Re) (k:Nat) (C:List av) (J:List Nat),fZ (l++[z]) k C J=fZ [z] (k+Re.aN l) (fZ l k C J).1 (fZ l k C J).2
 |[],z,k,C,J=>by simp [fZ,Re.aN]
 |x::l,z,k,C,J=>by
  show fZ (l++[z]) (k+x.looks) _ _=_
  rw[Ah l z,Re.aN,<- Nat.add_assoc]
  rfl
theorem zc:∀(l:List Re) (z:Re) (k:Nat) (C:List av),Re.dc (l++[z]) k C=z.emit (k+Re.aN l) (Re.dc l k C)
 |[],z,k,C=>by simp [Re.dc,Re.aN]
 |x::l,z,k,C=>by rw[List.cons_append,Re.dc,zc l z,Re.dc,Re.aN,Nat.add_assoc]
theorem Re.jE (re:Re) (k:Nat) (C:List av):re.emit k C=if re.op=1 then C++[sQ re k]
  else if re.op=11\/re.op=7\/re.op=8 then C++[mq re k]
  else if re.op=2 then Re.dc re.kids k C
  else if re.op=3 then Re.mg re.kids k C []
  else if re.op=5 then Re.dc re.kids k (C++[gy (2*re.n-2)])++[gy (2*re.n-1)]
  else if re.op=4 then (kX (fun C=>Re.dc re.kids k C) re.mn re.mx C).2.foldl (nz re.mode) (kX (fun C=>Re.dc re.kids k C) re.mn re.mx C).1
  else C:=by
 cases re;rw[Re.emit];rfl
def vv (op mn mx:Int) (k n:Nat):Nat :=
 if op=1\/op=11\/op=7\/op=8 then 1 else if op=2 then n else if op=3 then n+2*(k-1) else if op=5 then n+2
  else if op=4 then (if mx=-1 then mn.toNat*n+n+2 else mn.toNat*n+(mx-mn).toNat*(n+1)) else 0
mutual
def Re.fT:Re->Nat
 |.mk op _ kids mn mx _ _ _=>vv op mn mx kids.length (Re.da kids)
def Re.da:List Re->Nat
 |[]=>0
 |x::l=>x.fT+Re.da l
end
theorem Re.nm (re:Re):re.fT=vv re.op re.mn re.mx re.kids.length (Re.da re.kids):=by
 cases re;rw[Re.fT];rfl
theorem lq (C:List av) (c:Nat) (x y:Int):(u7 C c x y).length=C.length:=by simp [u7]
theorem GR (E:Int) (C:List av) (c:Nat):(xO E C c).length=C.length:=by simp [xO,lq]
theorem Dh (mode:Int) (C:List av) (c:Nat):(nz mode C c).length=C.length:=by unfold nz;split <;> simp [lq]
theorem BC (E:Int):∀(J:List Nat) (C:List av),(J.foldl (xO E) C).length=C.length
 |[],_=>rfl
 |a::J,C=>by rw[List.foldl_cons,BC E J,GR]
theorem qN (mode:Int):∀(J:List Nat) (C:List av),(J.foldl (nz mode) C).length=C.length
 |[],_=>rfl
 |a::J,C=>by rw[List.foldl_cons,qN mode J,Dh]
theorem rD {f:List av->List av}{z:Nat} (h:∀C,(f C).length=C.length+z):∀n C,(gu f n C).length=C.length+n*z
 |0,C=>by simp [gu]
 |n+1,C=>by rw[gu,h,rD h n,Nat.add_mul];omega
theorem tK {f:List av->List av}{z:Nat} (h:∀C,(f C).length=C.length+z):∀n C,(iO f n C).1.length=C.length+n*(z+1)/\(iO f n C).2.length=n
 |0,C=>by simp [iO]
 |n+1,C=>by
  obtain⟨h1,h2⟩:=tK h n C
  have e:(n+1)*(z+1)=n*(z+1)+(z+1):=Nat.succ_mul _ _
  refine⟨?_,by simp [iO,h2]⟩
  rw[iO,h,List.length_append,h1,e,List.length_singleton]
  generalize n*(z+1)=y
  omega
theorem Kd {f:List av->List av}{z:Nat} (h:∀C,(f C).length=C.length+z) (mn mx:Int) (C:List av):(kX f mn mx C).1.length=C.length+(if mx=-1 then mn.toNat*z+z+2 else mn.toNat*z+(mx-mn).toNat*(z+1)):=by
 unfold kX
 simp only
 split
 ·simp only[h,List.length_append,List.length_singleton,rD h];omega
 ·rw[(tK h _ _).1,rD h];omega
mutual
theorem Re.eY:∀(re:Re) (k:Nat) (C:List av),(re.emit k C).length=C.length+re.fT
 |.mk op set kids mn mx mode n neg,k,C=>by
  have hL:=Re.rn kids
  have hA:=Re.Bh kids
  rw[Re.emit,Re.fT,vv]
  by_cases o1:op=1
  ·rw[if_pos o1,if_pos (.inl o1)];simp
  rw[if_neg o1]
  by_cases o7:op=11\/op=7\/op=8
  ·rw[if_pos o7,if_pos (.inr o7)];simp
  rw[if_neg o7,if_neg (show ¬(op=1\/op=11\/op=7\/op=8) from fun h=>h.elim o1 o7)]
  by_cases o2:op=2
  ·rw[if_pos o2,if_pos o2,hL]
  rw[if_neg o2,if_neg o2]
  by_cases o3:op=3
  ·rw[if_pos o3,if_pos o3,hA]
  rw[if_neg o3,if_neg o3]
  by_cases o5:op=5
  ·rw[if_pos o5,if_pos o5,List.length_append,hL];simp only[List.length_append,List.length_singleton];omega
  rw[if_neg o5,if_neg o5]
  by_cases o4:op=4
  ·rw[if_pos o4,if_pos o4,qN,Kd (fun C=>hL k C)]
  rw[if_neg o4,if_neg o4];rfl
theorem Re.rn:∀(l:List Re) (k:Nat) (C:List av),(Re.dc l k C).length=C.length+Re.da l
 |[],_,C=>rfl
 |x::l,k,C=>by rw[Re.dc,Re.rn l,Re.eY x,Re.da];omega
theorem Re.Bh:∀(l:List Re) (k:Nat) (C:List av) (J:List Nat),(Re.mg l k C J).length=C.length+(Re.da l+2*(l.length-1))
 |[],_,C,_=>rfl
 |[x],k,C,J=>by simp only[Re.mg,BC,Re.eY x,Re.da,List.length_singleton];omega
 |x::y::l,k,C,J=>by
  have e:Re.da (x::y::l)=x.fT+Re.da (y::l):=by rw[Re.da]
  rw[Re.mg,Re.Bh (y::l),lq,List.length_append,Re.eY x,e]
  simp only[List.length_append,List.length_cons,List.length_nil]
  omega
end
theorem tV:∀(l:List Re) (k:Nat) (C:List av) (J:List Nat),(fZ l k C J).1.length=C.length+(Re.da l+2*l.length)/\(fZ l k C J).2.length=J.length+l.length
 |[],_,C,_=>⟨rfl,rfl⟩
 |x::l,k,C,J=>by
  obtain⟨h1,h2⟩:=tV l (k+x.looks) (u7 (x.emit k (C++[dS 0 0])++[jN 0]) C.length ((C.length:Int)+1) (((x.emit k (C++[dS 0 0])).length:Int)+1)) (J++[(x.emit k (C++[dS 0 0])).length])
  show (fZ l _ _ _).1.length=_/\(fZ l _ _ _).2.length=_
  have e:Re.da (x::l)=x.fT+Re.da l:=by rw[Re.da]
  rw[h1,h2,lq,List.length_append,List.length_append,Re.eY x,e]
  simp only[List.length_append,List.length_cons,List.length_nil]
  omega
theorem fF:∀(l m:List Re),Re.da (l++m)=Re.da l+Re.da m
 |[],m=>by simp [Re.da]
 |x::l,m=>by rw[List.cons_append,Re.da,fF l m,Re.da];omega
theorem nf:∀(l m:List Re),Re.aN (l++m)=Re.aN l+Re.aN m
 |[],m=>by simp [Re.aN]
 |x::l,m=>by rw[List.cons_append,Re.aN,nf l m,Re.aN];omega
theorem su:∀(l:List Re) (k i:Nat) (x:Re),l[i]?=some x->(Re.dg l k)[i]?=some [x.aY (k+Re.aN (l.take i))]
 |[],_,_,_,h=>by simp at h
 |y::l,k,0,x,h=>by simp at h;subst h;simp [Re.dg,Re.aN]
 |y::l,k,i+1,x,h=>by
  rw[List.getElem?_cons_succ]at h
  rw[Re.dg,List.getElem?_cons_succ,su l (k+y.looks) i x h,List.take_succ_cons,Re.aN,Nat.add_assoc]
end Go.Proofs.Ytfmdmlfhigocaaa
