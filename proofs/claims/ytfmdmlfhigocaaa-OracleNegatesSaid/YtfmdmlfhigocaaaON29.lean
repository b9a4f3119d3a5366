/- A part of the proof (Vzu O12 O13). -/
import Derived.Test.YtfmdmlfhigocaaaON12
import Derived.Test.YtfmdmlfhigocaaaON14
import Derived.Test.YtfmdmlfhigocaaaON15
import Derived.Test.YtfmdmlfhigocaaaON28
set_option linter.unusedSimpArgs false
set_option linter.unusedVariables false
set_option maxRecDepth 100000
set_option maxHeartbeats 80000000
namespace Go.VL
variable{w:World}{s:List Obj}{f:FuncId}{P:Program}{args:List V}{K:V->List Obj->Prop}
theorem Sz {σ:Gh} (hI:Inv σ s w) {k:Nat}{o:Obj} (sz:Nat) (ho:s[k]?=some o) (hl:o.live=true) :
  aF σ s w (mV σ k none) (s.set k ⟨o.g+1,true,sz,[]⟩) w/\Inv (mV σ k none) (s.set k ⟨o.g+1,true,sz,[]⟩) w :=
 ml hI ho hl rfl rfl rfl (af3 _) (λ_ _ _=>rfl) (λb base arr E _ hh=>⟨arr,hh,rfl⟩) (λ_ _ _ h=>h) (Nat.le_succ _) (λh=>by simp at h) (λb base h=>by cases h) (λ_=>.inl (.inl ⟨rfl,rfl⟩))
theorem bO.rY {e:Env}{o oa:Obj}{pre post:List V} (k a sz:Nat) (hka:k≠a) (ho:s[k]?=some o) (hl:o.live=true) (ha:s[a]?=some oa) (fP:oa.aw=[pre++.fu []::post]) (fF:pre.length+1+post.length=oa.sz) :
  bO e s e ((s.set k ⟨o.g+1,true,sz,[]⟩).set a { oa with aw:=[pre++.so k (o.g+1) 0 0::post] }):=by
 intro σ0 s0 w0 σ w N act hE hI hR;obtain⟨h1,h2⟩:=Sz hI sz ho hl;have ha2:(s.set k ⟨o.g+1,true,sz,[]⟩)[a]?=some oa:=by rw[agp hka];exact ha
 have FF:(s.set k (⟨o.g+1,true,sz,[]⟩:Obj))[k]?=some ⟨o.g+1,true,sz,[]⟩:=agc (fo ho);have hr:=yK h2 (els':=[pre++.so k (o.g+1) 0 0::post]) ha2 (by intro e he;rw[List.mem_singleton.1 he];simp;omega) (by rw[fP];rfl) (by
  intro es he;rw[fP]at he;have hm:(pre++.fu []::post)∈eR es:=by rw[<- he];exact List.mem_singleton.2 rfl
  unfold eR at hm;obtain⟨x,_,hx⟩:=List.mem_map.1 hm;have hf:V.fu []∈[V.d (.sc x.key),V.d (.sc x.val)]:=by rw[hx];simp
  simp at hf) (λi j x' hx=>by
  rw[fP];cases i with
  |succ i=>simp at hx
  |zero =>
   simp only[agm,agE]at hx ⊢;by_cases hj:j=pre.length
   ·subst hj;rw[af6 (af3 _),ahi]at hx ⊢;simp only[agm,afY]at hx ⊢;subst hx;refine⟨_,rfl,λu hu=>?_⟩;cases hu with|fu hx=>?_
    exact .so ⟨o.g+1,true,sz,[]⟩ FF (af3 _) ⟨_,_,rfl⟩ (λ_=>.inl ⟨bQ _ _ _,⟨_,rfl⟩,rfl,rfl⟩)
   ·refine⟨x',?_,λu hu=>hu⟩;rcases agi j pre.length with az|fI
    ·rw[af2 az]at hx ⊢;exact hx
    ·rw[af6 fI]at hx ⊢;cases hm:j-pre.length with
     |zero=>omega
     |succ m=>rw[hm]at hx;simpa using hx)
 exact⟨_,hE.trans (h1.trans hr.1),hr.2,hR.aX (h1.trans hr.1)⟩
theorem eh (sz:Nat) (h:aq P f args (s++[⟨0,true,sz,[]⟩]) K):aq P f args s K:=by refine⟨h.1,λσ w vals hI hl hv=>?_⟩;have hp:=mK (p:=none) (o':=⟨0,true,sz,[]⟩) (w':=w) hI rfl rfl rfl (af3 _) (λ_ _=>rfl) (λ_ _ h'=>by cases h') (λ_=>.inl (.inl ⟨rfl,rfl⟩));exact(h.2 _ w vals hp.2 hl (λi x hx=>(hv i x hx).aX hp.1)).mono λ_ _ ⟨u,v,σ',s',a,b,c,d,e⟩=>⟨u,v,σ',s',a,hp.1.trans b,c,d,e⟩
theorem PL {σ:Gh} (hI:Inv σ s w) {k:Nat}{o:Obj} (m:Nat) (ho:s[k]?=some o) (Pf:∀es,o.aw≠eR es) :
  aF σ s w σ (s.set k { o with aw:=o.aw.take m }) w/\Inv σ (s.set k { o with aw:=o.aw.take m }) w:=by
 have hk:=(List.getElem?_eq_some_iff.1 ho).1;have get:∀(id:Nat) (o':Obj),(s.set k { o with aw:=o.aw.take m })[id]?=some o'->∃o1,s[id]?=some o1/\o1.live=o'.live/\o1.g=o'.g/\o1.sz=o'.sz:=by
  intro id o' h';by_cases he:id=k
  ·subst he;rw[agc hk]at h';simp only[afY]at h';subst h';exact⟨o,ho,rfl,rfl,rfl⟩
  ·rw[agp (Ne.symm he)]at h';exact⟨o',h',rfl,rfl,rfl⟩
 have put:∀(id:Nat) (o1:Obj),s[id]?=some o1->∃o',(s.set k { o with aw:=o.aw.take m })[id]?=some o'/\o'.g=o1.g/\o'.sz=o1.sz/\o'.live=o1.live:=by
  intro id o1 h';by_cases he:id=k
  ·subst he;rw[ho]at h';simp only[afY]at h';subst h';exact⟨_,agc hk,rfl,rfl,rfl⟩
  ·exact⟨o1,by rw[agp (Ne.symm he)];exact h',rfl,rfl,rfl⟩
 have hE:aF σ s w σ (s.set k { o with aw:=o.aw.take m }) w:=by
  refine⟨rfl,rfl,rfl,af3 _,λ_ _ _=>rfl,λ_ arr _ _ h=>⟨arr,h,rfl⟩,λ_ _ h=>h,?_,?_,rfl,λ_ _ _=>rfl⟩
  ·rintro b (hb|⟨id,o',base,h1,h2,h3⟩)
   ·exact .inl (.inl hb)
   ·obtain⟨o1,k1,k2,_⟩:=get id o' h1;exact .inl (.inr ⟨id,o1,base,k1,by rw[k2];exact h2,h3⟩)
  ·intro id o1 h1;obtain⟨o',k1,k2,k3,_⟩:=put id o1 h1;exact⟨o',k1,by omega,λ_=>⟨k3,rfl⟩⟩
 refine⟨hE,⟨?_,?_,hI.low,?_⟩⟩
 ·intro id o' h1;by_cases he:id=k
  ·subst he;rw[agc hk]at h1;simp only[afY]at h1;subst h1;rcases hI.content id o ho with (⟨c1,c2⟩|⟨b,es,c,c1,c2,c3⟩)|⟨b,base,arr,E,c1,c2,c3,c4,c5⟩
   ·left;exact .inl ⟨c1,by simp [c2]⟩
   ·exact(Pf es c3).elim
   ·right;refine⟨b,base,arr,E,c1,c2,λe he=>c3 e (agJ he),?_,λi j x' hx=>?_⟩
    ·have:(o.aw.take m).length*o.sz<=o.aw.length*o.sz:=agw _ (by simp;omega);show base+(o.aw.take m).length*o.sz<=arr.size;omega
    ·have jB:(o.aw[i]?.bind (·[j]?))=some x':=by
      simp only[agt]at hx;split at hx
      ·exact hx
      ·cases hx
     obtain⟨u,z1,z2,z3⟩:=c5 i j x' jB;exact⟨u,z1,z2,z3.aX hE⟩
  ·rw[agp (Ne.symm he)]at h1;rcases hI.content id o' h1 with c|⟨b,base,arr,E,c1,c2,c3,c4,c5⟩
   ·exact .inl c
   ·right;refine⟨b,base,arr,E,c1,c2,c3,c4,λi j x hx=>?_⟩;obtain⟨u,z1,z2,z3⟩:=c5 i j x hx;exact⟨u,z1,z2,z3.aX hE⟩
 ·intro id kN o1 o2 b base bI h1 h2 h3 h4 h5;obtain⟨p1,q1,q2,_⟩:=get id o1 h1;obtain⟨p2,r1,_⟩:=get kN o2 h2;exact hI.inj id kN p1 p2 b base bI q1 r1 (by rw[q2];exact h3) h4 h5
 ·intro id o1 b base h1 h2;obtain⟨p1,q1,_⟩:=get id o1 h1;exact hI.apart id p1 b base q1 h2
theorem br.TE {L:Nat}{e:Env}{o:Obj} (k m:Nat) (ho:s[k]?=some o) (Pf:∀es,o.aw≠eR es):br L e s e (s.set k { o with aw:=o.aw.take m }):=by intro σ0 s0 w0 σ w N a _ hE hI hR;obtain⟨h1,h2⟩:=PL hI m ho Pf;exact⟨σ,hE.trans h1,h2,hR.aX h1⟩
theorem fq (ρ:List Nat) {cargs:List V}{exts zt:List Obj}{r r':V} (h:aq P f cargs exts λv s'=>v=r/\s'=zt) (rR:ρ.Nodup) (hl:zt.length=exts.length)
  (hs:ρ.map (λi=>s[i]?)=exts.map (λo=>some (aT ρ o))) (ha:args=cargs.map (aL ρ)) (DC:ah.go exts.length cargs=true) (wE:exts.all (aG exts.length)=true) (hr:aL ρ r=r') (hk:K r' (aE s ρ (zt.map (aT ρ)))):EJ P ρ ρ f args s K:=by
 have hρ:ρ.length=exts.length:=by simpa using congrArg List.length hs
 refine⟨r',zt.map (aT ρ),by simp [hl,hρ],λs' _ kJ=>?_,hk⟩;refine cH ρ h rR hl ?_ ha DC wE hr ⟨rfl,rfl⟩;rw[<- hs];exact agC λi hi=>kJ i hi
end Go.VL
namespace Go.Proofs.Ytfmdmlfhigocaaa
open Go.VL
def oh (k n:Nat):VL.Obj:=⟨0,true,1,[[.so k n 0 n]]⟩
def rH (b a:Nat) (x:ay):V:=.ag (x.cells b a)
section
variable (t:List Int) (root parts:D) (bg nb:Nat) (Bs:List (List Bool)) (b a:Nat)
theorem RW (C:List ay) (hC:C.length<=1000000000000) (x:ay):aq Try.prog 55 [rH b a x,.rf 2 0 0 0] [dp t root parts bg nb,fr bg Bs,oh 3 C.length,cG C.length b a C] λv s=>v=i64 C.length/\s=[dp t root parts bg nb,fr bg Bs,oh 3 (C.length+1),cG (C.length+1) b a (C++[x])]:=by
 have hg:(cG C.length b a C).g=C.length:=rfl;have hz:(cG C.length b a C).sz=5:=rfl;have he:(cG C.length b a C).aw=C.map (ay.cells b a):=rfl;have hl:(cG C.length b a C).live=true:=rfl;have w1:IntKind.i64.wrap (((C.length:Int)+1)-1)=(C.length:Int):=by rw[bd _ (by omega)];omega
 refine an Try.func55 rfl Try.ntmps55 Try.results55 rfl 4 15 (by simp) (by simp) ?_;simp only[zX,Nat.reduceShiftRight,Nat.reduceMod,Nat.reduceLT,Nat.reduceMul,Nat.reduceSub,Int.reduceToNat,Int.reduceNeg,Int.reduceLT,Int.reduceLE,Int.reduceEq,Nat.reduceEqDiff,Nat.reduceAdd,Nat.reduceLeDiff,reduceIte,reduceCtorEq,Nat.reduceBEq,i64,bV,iD,bD,rH,ay.cells,oh,hg,hz,he,hl,afN];have hp:GR (bY b a x.node)=none\/∃d,GR (bY b a x.node)=some d/\bY b a x.node=.d d:=by
  cases hx:x.node with
  |none=>exact .inr ⟨_,rfl,rfl⟩
  |some y =>
   obtain⟨re,k⟩:=y;refine .inl ?_;unfold bY;simp only;split
   ·rfl
   ·split <;> rfl
 have hb:=gr 4 bg Bs;have hm:((dp t root parts bg nb).aw.all λe=>e.all (ah 4))=true:=rfl;have hT:List.take C.length (C.map (ay.cells b a))++[[V.d (D.sc (Value.int IntKind.i64 x.op)),V.d (D.sc (Value.int IntKind.i64 x.x)),V.d (D.sc (Value.int IntKind.i64 x.y)),V.d (D.sc (Value.int IntKind.i64 x.n)),bY b a x.node]]=(C++[x]).map (ay.cells b a):=by rw[af1 (by rw[afN];exact af3 _)];simp [ay.cells,i64]
 have fO:(((C++[x]).map (ay.cells b a)).all λe=>e.all (ah 4))=true:=kj 4 0 b a (by omega) (C++[x]);rcases hp with hp|⟨d,hp,hv⟩
 ·rw[hp];simp only[Option.bind_none];rw[hT,hb,hm,fO];refine⟨λe he=>by rw[List.mem_singleton.1 he];rfl,⟨by omega,by omega⟩,rfl,by rw[ag2];exact w1,rfl⟩
 ·rw[hv]at hT;rw[hp,hv];simp only[agE,afR,afU,afZ,af0,afX];rw[hT,hb,hm,fO];refine⟨λe he=>by rw[List.mem_singleton.1 he];rfl,⟨by omega,by omega⟩,rfl,by rw[ag2];exact w1,rfl⟩
end
def xQ (re:Re) (k:Nat):ay:=⟨1,0,0,0,some (re,k)⟩
def oB (re:Re) (k:Nat):ay:=⟨5,0,0,0,some (re,k)⟩
def eT (x y:Int):ay:=⟨2,x,y,0,none⟩
def lZ (x:Int):ay:=⟨3,x,0,0,none⟩
def jE (n:Int):ay:=⟨4,0,0,n,none⟩
def yn (C:List ay) (c:Nat) (x y:Int):List ay:=C.set c ⟨(eV C c).op,x,y,(eV C c).n,(eV C c).node⟩
def xO (E:Int) (C:List ay) (c:Nat):List ay:=yn C c E (eV C c).y
def pY (mode:Int) (C:List ay) (c:Nat):List ay:=if mode=1 then yn C c C.length ((c:Int)+1) else yn C c ((c:Int)+1) C.length
def iS (f:List ay->List ay):Nat->List ay->List ay
 |0,C=>C
 |n+1,C=>f (iS f n C)
def ki (f:List ay->List ay):Nat->List ay->List ay×List Nat
 |0,C=>(C,[])
 |n+1,C=>(f ((ki f n C).1++[eT 0 0]),(ki f n C).2++[(ki f n C).1.length])
def mW (f:List ay->List ay) (mn mx:Int) (C:List ay):List ay×List Nat :=
 let C1:=iS f mn.toNat C
 if mx=-1 then (f (C1++[eT 0 0])++[lZ C1.length],[C1.length]) else ki f (mx-mn).toNat C1
mutual
def Re.emit:Re->Nat->List ay->List ay
 |.mk op set kids mn mx mode n neg,k,C =>
  if op=1 then C++[xQ (.mk op set kids mn mx mode n neg) k]
  else if op=11\/op=7\/op=8 then C++[oB (.mk op set kids mn mx mode n neg) k]
  else if op=2 then Re.dn kids k C
  else if op=3 then Re.ow kids k C []
  else if op=5 then Re.dn kids k (C++[jE (2*n-2)])++[jE (2*n-1)]
  else if op=4 then (mW (λC=>Re.dn kids k C) mn mx C).2.foldl (pY mode) (mW (λC=>Re.dn kids k C) mn mx C).1
  else C
def Re.dn:List Re->Nat->List ay->List ay
 |[],_,C=>C
 |x::l,k,C=>Re.dn l (k+x.looks) (x.emit k C)
def Re.ow:List Re->Nat->List ay->List Nat->List ay
 |[],_,C,_=>C
 |x::l,k,C,J=>match l with
  |[]=>J.foldl (xO (x.emit k C).length) (x.emit k C)
  |_::_=>Re.ow l (k+x.looks) (yn (x.emit k (C++[eT 0 0])++[lZ 0]) C.length ((C.length:Int)+1) (((x.emit k (C++[eT 0 0])).length:Int)+1)) (J++[(x.emit k (C++[eT 0 0])).length])
end
def iB:List Re->Nat->List ay->List Nat->List ay×List Nat
 |[],_,C,J=>(C,J)
 |x::l,k,C,J=>iB l (k+x.looks) (yn (x.emit k (C++[eT 0 0])++[lZ 0]) C.length ((C.length:Int)+1) (((x.emit k (C++[eT 0 0])).length:Int)+1)) (J++[(x.emit k (C++[eT 0 0])).length])
theorem G0:∀(l:List Re) (z:Re) (k:Nat) (C:List ay) (J:List Nat),Re.ow (l++[z]) k C J=(iB l k C J).2.foldl (xO (z.emit (k+Re.aD l) (iB l k C J).1).length) (z.emit (k+Re.aD l) (iB l k C J).1)
 |[],z,k,C,J=>by simp [Re.ow,iB,Re.aD]
 |x::l,z,k,C,J=>by
  have ih:=G0 l z (k+x.looks);obtain⟨y,l',hl⟩:∃y l',l++[z]=y::l':=by
   cases l with
   |nil=>exact⟨z,[],rfl⟩
   |cons a l=>exact⟨a,l++[z],rfl⟩
  rw[afQ,hl,Re.ow,<- hl]
  ·rw[ih,iB,Re.aD,agM]
theorem DP:∀(l:List Re) (z:Re) (k:Nat) (C:List ay) (J:List Nat),iB (l++[z]) k C J=iB [z] (k+Re.aD l) (iB l k C J).1 (iB l k C J).2
 |[],z,k,C,J=>by simp [iB,Re.aD]
 |x::l,z,k,C,J=>by show iB (l++[z]) (k+x.looks) _ _=_;rw[DP l z,Re.aD,<- agM];rfl
theorem CG:∀(l:List Re) (z:Re) (k:Nat) (C:List ay),Re.dn (l++[z]) k C=z.emit (k+Re.aD l) (Re.dn l k C)
 |[],z,k,C=>by simp [Re.dn,Re.aD]
 |x::l,z,k,C=>by rw[afQ,Re.dn,CG l z,Re.dn,Re.aD,agM]
theorem Re.ln (re:Re) (k:Nat) (C:List ay):re.emit k C=if re.op=1 then C++[xQ re k]
  else if re.op=11\/re.op=7\/re.op=8 then C++[oB re k]
  else if re.op=2 then Re.dn re.kids k C
  else if re.op=3 then Re.ow re.kids k C []
  else if re.op=5 then Re.dn re.kids k (C++[jE (2*re.n-2)])++[jE (2*re.n-1)]
  else if re.op=4 then (mW (λC=>Re.dn re.kids k C) re.mn re.mx C).2.foldl (pY re.mode) (mW (λC=>Re.dn re.kids k C) re.mn re.mx C).1
  else C:=by
 cases re;rw[Re.emit];rfl
def uW (op mn mx:Int) (k n:Nat):Nat :=
 if op=1\/op=11\/op=7\/op=8 then 1 else if op=2 then n else if op=3 then n+2*(k-1) else if op=5 then n+2
  else if op=4 then (if mx=-1 then mn.toNat*n+n+2 else mn.toNat*n+(mx-mn).toNat*(n+1)) else 0
mutual
def Re.gD:Re->Nat
 |.mk op _ kids mn mx _ _ _=>uW op mn mx kids.length (Re.c7 kids)
def Re.c7:List Re->Nat
 |[]=>0
 |x::l=>x.gD+Re.c7 l
end
theorem Re.kr (re:Re):re.gD=uW re.op re.mn re.mx re.kids.length (Re.c7 re.kids):=by
 cases re;rw[Re.gD];rfl
theorem nm (C:List ay) (c:Nat) (x y:Int):(yn C c x y).length=C.length:=by simp [yn]
theorem K9 (E:Int) (C:List ay) (c:Nat):(xO E C c).length=C.length:=by simp [xO,nm]
theorem Hu (mode:Int) (C:List ay) (c:Nat):(pY mode C c).length=C.length:=by unfold pY;split <;> simp [nm]
theorem FE (E:Int):∀(J:List Nat) (C:List ay),(J.foldl (xO E) C).length=C.length
 |[],_=>rfl
 |a::J,C=>by rw[List.foldl_cons,FE E J,K9]
theorem tQ (mode:Int):∀(J:List Nat) (C:List ay),(J.foldl (pY mode) C).length=C.length
 |[],_=>rfl
 |a::J,C=>by rw[List.foldl_cons,tQ mode J,Hu]
theorem uG {f:List ay->List ay}{z:Nat} (h:∀C,(f C).length=C.length+z):∀n C,(iS f n C).length=C.length+n*z
 |0,C=>by simp [iS]
 |n+1,C=>by rw[iS,h,uG h n,agL];omega
theorem xh {f:List ay->List ay}{z:Nat} (h:∀C,(f C).length=C.length+z):∀n C,(ki f n C).1.length=C.length+n*(z+1)/\(ki f n C).2.length=n
 |0,C=>by simp [ki]
 |n+1,C=>by obtain⟨h1,h2⟩:=xh h n C;have e:(n+1)*(z+1)=n*(z+1)+(z+1):=Nat.succ_mul _ _;refine⟨?_,by simp [ki,h2]⟩;rw[ki,h,af7,h1,e,agv];generalize n*(z+1)=y;omega
theorem O5 {f:List ay->List ay}{z:Nat} (h:∀C,(f C).length=C.length+z) (mn mx:Int) (C:List ay):(mW f mn mx C).1.length=C.length+(if mx=-1 then mn.toNat*z+z+2 else mn.toNat*z+(mx-mn).toNat*(z+1)):=by
 unfold mW;simp only;split
 ·simp only[h,af7,agv,uG h];omega
 ·rw[(xh h _ _).1,uG h];omega
mutual
theorem Re.gi:∀(re:Re) (k:Nat) (C:List ay),(re.emit k C).length=C.length+re.gD
 |.mk op set kids mn mx mode n neg,k,C=>by
  have hL:=Re.uu kids;have hA:=Re.Fe kids;rw[Re.emit,Re.gD,uW];by_cases o1:op=1
  ·rw[be o1,be (.inl o1)];simp
  rw[ap o1];by_cases o7:op=11\/op=7\/op=8
  ·rw[be o7,be (.inr o7)];simp
  rw[ap o7,ap (show ¬(op=1\/op=11\/op=7\/op=8) from λh=>h.elim o1 o7)];by_cases o2:op=2
  ·rw[be o2,be o2,hL]
  rw[ap o2,ap o2];by_cases o3:op=3
  ·rw[be o3,be o3,hA]
  rw[ap o3,ap o3];by_cases o5:op=5
  ·rw[be o5,be o5,af7,hL];simp only[af7,agv];omega
  rw[ap o5,ap o5];by_cases o4:op=4
  ·rw[be o4,be o4,tQ,O5 (λC=>hL k C)]
  rw[ap o4,ap o4];rfl
theorem Re.uu:∀(l:List Re) (k:Nat) (C:List ay),(Re.dn l k C).length=C.length+Re.c7 l
 |[],_,C=>rfl
 |x::l,k,C=>by rw[Re.dn,Re.uu l,Re.gi x,Re.c7];omega
theorem Re.Fe:∀(l:List Re) (k:Nat) (C:List ay) (J:List Nat),(Re.ow l k C J).length=C.length+(Re.c7 l+2*(l.length-1))
 |[],_,C,_=>rfl
 |[x],k,C,J=>by simp only[Re.ow,FE,Re.gi x,Re.c7,agv];omega
 |x::y::l,k,C,J=>by
  have e:Re.c7 (x::y::l)=x.gD+Re.c7 (y::l):=by rw[Re.c7]
  rw[Re.ow,Re.Fe (y::l),nm,af7,Re.gi x,e];simp only[af7,afZ,af0];omega
end
theorem xw:∀(l:List Re) (k:Nat) (C:List ay) (J:List Nat),(iB l k C J).1.length=C.length+(Re.c7 l+2*l.length)/\(iB l k C J).2.length=J.length+l.length
 |[],_,C,_=>⟨rfl,rfl⟩
 |x::l,k,C,J=>by
  obtain⟨h1,h2⟩:=xw l (k+x.looks) (yn (x.emit k (C++[eT 0 0])++[lZ 0]) C.length ((C.length:Int)+1) (((x.emit k (C++[eT 0 0])).length:Int)+1)) (J++[(x.emit k (C++[eT 0 0])).length]);show (iB l _ _ _).1.length=_/\(iB l _ _ _).2.length=_;have e:Re.c7 (x::l)=x.gD+Re.c7 l:=by rw[Re.c7]
  rw[h1,h2,nm,af7,af7,Re.gi x,e];simp only[af7,afZ,af0];omega
theorem gR:∀(l m:List Re),Re.c7 (l++m)=Re.c7 l+Re.c7 m
 |[],m=>by simp [Re.c7]
 |x::l,m=>by rw[afQ,Re.c7,gR l m,Re.c7];omega
theorem jO:∀(l m:List Re),Re.aD (l++m)=Re.aD l+Re.aD m
 |[],m=>by simp [Re.aD]
 |x::l,m=>by rw[afQ,Re.aD,jO l m,Re.aD];omega
theorem vB:∀(l:List Re) (k i:Nat) (x:Re),l[i]?=some x->(Re.dH l k)[i]?=some [x.bj (k+Re.aD (l.take i))]
 |[],_,_,_,h=>by simp at h
 |y::l,k,0,x,h=>by simp at h;subst h;simp [Re.dH,Re.aD]
 |y::l,k,i+1,x,h=>by rw[agF]at h;rw[Re.dH,agF,vB l (k+y.looks) i x h,ags,Re.aD,agM]
end Go.Proofs.Ytfmdmlfhigocaaa
