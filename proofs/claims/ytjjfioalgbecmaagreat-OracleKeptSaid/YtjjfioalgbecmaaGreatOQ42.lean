/- A part of the proof (O60). -/
import Derived.Test.YtjjfioalgbecmaaGreatOQ28
set_option linter.unusedSimpArgs false
set_option linter.unusedVariables false
set_option maxRecDepth 100000
set_option maxHeartbeats 80000000
namespace Go.Proofs.YtjjfioalgbecmaaGreat
open Go.VL
def G7 (mode:Int) (a b:Nat):aq:=if mode=1 then cR b a else cR a b
def sA (c:Nat->List aq):Nat->Nat->List aq
 |0,_=>[]
 |n+1,f=>sA c n f++c (f+(sA c n f).length)
def pa (c:Nat->List aq) (mode:Int) (fin:Nat):Nat->Nat->List aq
 |0,_=>[]
 |n+1,f=>pa c mode fin n f++G7 mode (f+(pa c mode fin n f).length+1) fin::c (f+(pa c mode fin n f).length+1)
def IZ (c:Nat->List aq) (mn mx mode:Int) (z f:Nat):List aq :=
 let p:=sA c mn.toNat f;let b:=f+p.length
 p++if mx=-1 then G7 mode (b+1) (b+z+2)::(c (b+1)++[iT b]) else pa c mode (b+(mx-mn).toNat*(z+1)) (mx-mn).toNat b
mutual
def Re.F7:Re->Nat->Nat->List aq
 |.mk op set kids mn mx mode n neg,k,f =>
  if op=1 then [qC (.mk op set kids mn mx mode n neg) k]
  else if op=11\/op=7\/op=8 then [gQ (.mk op set kids mn mx mode n neg) k]
  else if op=2 then Re.qA kids k f
  else if op=3 then Re.y4 kids k f (f+(Re.cf kids+2*(kids.length-1)))
  else if op=5 then gy (2*n-2)::(Re.qA kids k (f+1)++[gy (2*n-1)])
  else if op=4 then IZ (λf=>Re.qA kids k f) mn mx mode (Re.cf kids) f
  else []
def Re.qA:List Re->Nat->Nat->List aq
 |[],_,_=>[]
 |x::l,k,f=>x.F7 k f++Re.qA l (k+x.looks) (f+x.eC)
def Re.y4:List Re->Nat->Nat->Nat->List aq
 |[],_,_,_=>[]
 |x::l,k,f,E=>match l with
  |[]=>x.F7 k f
  |_::_=>cR ((f:Int)+1) ((f:Int)+x.eC+2)::(x.F7 k (f+1)++iT E::Re.y4 l (k+x.looks) (f+x.eC+2) E)
end
variable{A:List aq}{B:List aq}{c:Nat}
theorem Re.RB (re:Re) (k f:Nat):re.F7 k f=if re.op=1 then [qC re k]
  else if re.op=11\/re.op=7\/re.op=8 then [gQ re k]
  else if re.op=2 then Re.qA re.kids k f
  else if re.op=3 then Re.y4 re.kids k f (f+(Re.cf re.kids+2*(re.kids.length-1)))
  else if re.op=5 then gy (2*re.n-2)::(Re.qA re.kids k (f+1)++[gy (2*re.n-1)])
  else if re.op=4 then IZ (λf=>Re.qA re.kids k f) re.mn re.mx re.mode (Re.cf re.kids) f
  else []:=by
 cases re;rw[Re.F7];rfl
theorem IC{i:aq}{c:Nat} (h:c=A.length) (x y:Int):wV (A++i::B) c x y=A++⟨i.op,x,y,i.n,i.node⟩::B:=by
 subst h;have e:e9 (A++i::B) A.length=i:=by unfold e9;rw[List.getD_eq_getElem?_getD,List.getElem?_append_right (ajZ _),akQ];rfl
 unfold wV;rw[e,akI _ _ (ajZ _),akQ];rfl
theorem Z5{i:aq} (h:c=A.length) (E:Int):xO E (A++i::B) c=A++⟨i.op,E,i.y,i.n,i.node⟩::B:=by
 have e:e9 (A++i::B) c=i:=by subst h;unfold e9;rw[List.getD_eq_getElem?_getD,List.getElem?_append_right (ajZ _),akQ];rfl
 unfold xO;rw[IC h,e]
theorem TE (h:c<A.length):e9 (A++B) c=e9 A c:=by unfold e9;rw[List.getD_eq_getElem?_getD,List.getD_eq_getElem?_getD,List.getElem?_append_left h]
theorem Wq (h:c<A.length) (E:Int):xO E (A++B) c=xO E A c++B:=by unfold xO wV;rw[TE h,List.set_append_left _ _ h]
theorem C7 (E:Int):∀(J:List Nat) (A B:List aq),(∀c∈J,c<A.length)->J.foldl (xO E) (A++B)=J.foldl (xO E) A++B
 |[],_,_,_=>rfl
 |c::J,A,B,h=>by rw[akY,akY,Wq (h c ak),C7 E J _ _ λd hd=>by rw[Ih];exact h d (by simp [hd])]
theorem Dp {c:Nat->List aq}{z:Nat} (h:∀f,(c f).length=z) (f:Nat):∀n,(sA c n f).length=n*z
 |0=>by simp [sA]
 |n+1=>by rw[sA,ajQ,Dp h f n,h,Nat.succ_mul]
theorem GN {c:Nat->List aq}{z:Nat} (h:∀f,(c f).length=z) (mode:Int) (fin f:Nat):∀n,(pa c mode fin n f).length=n*(z+1)
 |0=>by simp [pa]
 |n+1=>by rw[pa,ajQ,GN h mode fin f n,ajW,h,Nat.succ_mul]
theorem FN {F:List aq->List aq}{c:Nat->List aq} (h:∀C,F C=C++c C.length):∀n C,ir F n C=C++sA c n C.length
 |0,C=>by simp [ir,sA]
 |n+1,C=>by rw[ir,h,FN h n C,sA,ajQ,aj7]
theorem On {mode:Int}{E:Nat} (h:c=A.length) (hE:(A++cR 0 0::B).length=E):nn mode (A++cR 0 0::B) c=A++G7 mode (c+1) E::B:=by
 unfold nn;rw[hE];unfold G7;by_cases hm:mode=1
 ·rw[be hm,be hm,IC h];rfl
 ·rw[ap hm,ap hm,IC h];rfl
theorem vl {F:List aq->List aq}{c:Nat->List aq}{z:Nat} (h:∀C,F C=C++c C.length) (hz:∀f,(c f).length=z) (mode:Int) (E:Nat) :
  ∀n C B,((fD F n C).1++B).length=E->(fD F n C).2.foldl (nn mode) ((fD F n C).1++B)=C++pa c mode E n C.length++B/\(fD F n C).1.length=C.length+n*(z+1)
 |0,C,B,hE=>by simp [fD,pa]
 |n+1,C,B,hE=>by
  have hl:=(vl h hz mode ((fD F n C).1++[]).length n C [] rfl).2;have e1:(fD F (n+1) C).1=(fD F n C).1++([cR 0 0]++c ((fD F n C).1.length+1)):=by rw[fD];simp only;rw[h,ajQ,aki,aj7]
  have e2:(fD F (n+1) C).2=(fD F n C).2++[(fD F n C).1.length]:=rfl;rw[e1]at hE ⊢;rw[e2,ak7,aj7,(vl h hz mode E n C _ (by rw[<- hE];simp)).1];have oZ:(C++pa c mode E n C.length).length=(fD F n C).1.length:=by rw[ajQ,GN hz,hl]
  refine⟨?_,?_⟩
  ·rw[akY,List.foldl_nil,aj7,List.singleton_append,ajN,<- aj7 C,On (E:=E) oZ.symm]
   ·rw[pa,<- oZ,ajQ];simp only[aj7,ajN,aky]
   ·simp only[ajQ,ajW,ajX]at oZ hE ⊢;omega
  ·rw[ajQ,ajQ,hl,hz,aki,Nat.succ_mul];omega
theorem U6 {F:List aq->List aq}{c:Nat->List aq}{z:Nat} (h:∀C,F C=C++c C.length) (hz:∀f,(c f).length=z) (mn mx mode:Int) (C:List aq) :
  (lY F mn mx C).2.foldl (nn mode) (lY F mn mx C).1=C++IZ c mn mx mode z C.length:=by
 have hp:=Dp hz C.length mn.toNat;unfold lY IZ;simp only;rw[FN h];by_cases hx:mx=-1
 ·rw[be hx,be hx];simp only[akY,List.foldl_nil];rw[h,ajQ,aki,aj7,aj7,List.singleton_append,aj7,<- aj7 C,On (E:=C.length+(sA c mn.toNat C.length).length+z+2) rfl]
  ·rw[ajQ];simp only[aj7,ajN,aky]
  ·simp only[ajQ,ajW,ajX,hz];omega
 ·rw[ap hx,ap hx];have hl:=(vl h hz mode ((fD F (mx-mn).toNat (C++sA c mn.toNat C.length)).1++[]).length (mx-mn).toNat (C++sA c mn.toNat C.length) [] rfl).2;have h2:=(vl h hz mode (C.length+(sA c mn.toNat C.length).length+(mx-mn).toNat*(z+1)) (mx-mn).toNat (C++sA c mn.toNat C.length) [] (by rw[akh,hl,ajQ])).1;rw[akh,akh]at h2;rw[h2,ajQ,aj7]
theorem Re.AE {l:List Re} (h:∀x∈l,∀k f,(x.F7 k f).length=x.eC):∀k f,(Re.qA l k f).length=Re.cf l:=by
 induction l with
 |nil=>intro _ _;rfl
 |cons x l ih =>
  intro k f;rw[Re.qA,Re.cf,ajQ,h x ak,ih (λy hy=>h y (by simp [hy]))]
theorem ye (re:Re):∀k C,re.emit k C=C++re.F7 k C.length:=by
 refine Re.ind (Q:=λre=>∀k C,re.emit k C=C++re.F7 k C.length) (λre ih k C=>?_) re;have hlen:∀x∈re.kids,∀k f,(x.F7 k f).length=x.eC:=by intro x hx k f;have h1:=congrArg List.length (ih x hx k (List.replicate f (cR 0 0)));rw[Re.ez,ajQ,akK]at h1;omega
 have hL:∀(l:List Re) (k:Nat) (C:List aq),(∀x∈l,x∈re.kids)->Re.dj l k C=C++Re.qA l k C.length:=by
  intro l;induction l with
  |nil=>intro k C _;simp [Re.dj,Re.qA]
  |cons x l CG =>
   intro k C hm;rw[Re.dj,ih x (hm x ak),CG _ _ λy hy=>hm y (by simp [hy]),Re.qA,ajQ,hlen x (hm x ak),aj7]
 rw[Re.iK,Re.RB];by_cases o1:re.op=1
 ·rw[be o1,be o1]
 rw[ap o1,ap o1];by_cases o7:re.op=11\/re.op=7\/re.op=8
 ·rw[be o7,be o7]
 rw[ap o7,ap o7];by_cases o2:re.op=2
 ·rw[be o2,be o2];exact hL _ _ _ λ_ h=>h
 rw[ap o2,ap o2];by_cases o3:re.op=3
 ·rw[be o3,be o3];have hA:∀(l:List Re) (k:Nat) (C:List aq) (J:List Nat) (E:Nat),(∀x∈l,x∈re.kids)->l≠[]->(∀c∈J,c<C.length)->E=C.length+(Re.cf l+2*(l.length-1))->Re.lO l k C J=J.foldl (xO E) C++Re.y4 l k C.length E:=by
   intro l;induction l with
   |nil=>intro k C J E _ h;exact absurd rfl h
   |cons x l CG =>
    intro k C J E hm _ hJ hE;have hx:=hlen x (hm x ak);cases l with
    |nil =>
     have Cf:(x.emit k C).length=E:=by rw[Re.ez,hE];simp [Re.cf]
     rw[Re.lO,Re.y4,Cf,ih x (hm x ak),C7 _ _ _ _ hJ]
    |cons y l =>
     rw[Re.lO,Re.y4];have e1:x.emit k (C++[cR 0 0])=C++(cR 0 0::x.F7 k (C.length+1)):=by rw[ih x (hm x ak),aj7,ajQ];rfl
     have e2:(x.emit k (C++[cR 0 0])).length=C.length+x.eC+1:=by rw[Re.ez,ajQ,aki];omega
     rw[e2,e1,aj7,ajN,IC rfl];have jB:(C++(⟨(cR 0 0).op,((C.length:Int)+1),(((C.length+x.eC+1:Nat):Int)+1),(cR 0 0).n,(cR 0 0).node⟩::(x.F7 k (C.length+1)++[iT 0]))).length=C.length+x.eC+2:=by simp only[ajQ,ajW,ajX,hx];omega
     rw[CG _ _ _ E (λz hz=>hm z (by simp only[akD]at hz ⊢;exact .inr hz)) ak ?_ ?_]
     ·rw[jB,ak7,akY,List.foldl_nil,C7 _ _ _ _ hJ];have e3:J.foldl (xO (E:Int)) C++(⟨(cR 0 0).op,((C.length:Int)+1),(((C.length+x.eC+1:Nat):Int)+1),(cR 0 0).n,(cR 0 0).node⟩::(x.F7 k (C.length+1)++[iT 0]))=(J.foldl (xO (E:Int)) C++(cR ((C.length:Int)+1) ((C.length:Int)+x.eC+2)::x.F7 k (C.length+1)))++iT 0::[]:=by
       have ey:(((C.length+x.eC+1:Nat):Int)+1)=(C.length:Int)+x.eC+2:=by push_cast;omega
       rw[aj7,ajN,ey];rfl
      rw[e3,Z5 (by simp only[ajQ,ajW,BH,hx];omega)];all_goals simp only[aj7,ajN,ajO]
      all_goals rfl
     ·intro c hc;rw[jB];rcases List.mem_append.1 hc with hc|hc
      ·have:=hJ c hc;omega
      ·rw[List.mem_singleton.1 hc];omega
     ·have e4:Re.cf (x::y::l)=x.eC+Re.cf (y::l):=by rw[Re.cf]
      rw[jB,hE,e4];simp only[ajW];omega
  cases hk:re.kids with
  |nil=>simp [Re.lO,Re.y4]
  |cons x l =>
   rw[<- hk];exact hA re.kids k C [] _ (λ_ h=>h) (by rw[hk];simp) (λc hc=>by simp at hc) rfl
 rw[ap o3,ap o3];by_cases o5:re.op=5
 ·rw[be o5,be o5,hL _ _ _ λ_ h=>h,ajQ,aki];simp only[aj7,ajN,ajO,List.singleton_append]
 rw[ap o5,ap o5];by_cases o4:re.op=4
 ·rw[be o4,be o4];exact U6 (λC=>hL _ _ _ λ_ h=>h) (λf=>Re.AE hlen k f) _ _ _ _
 rw[ap o4,ap o4,akh]
theorem Re.yx (re:Re) (k f:Nat):(re.F7 k f).length=re.eC:=by have h1:=congrArg List.length (ye re k (List.replicate f (cR 0 0)));rw[Re.ez,ajQ,akK]at h1;omega
theorem Re.Ki (l:List Re) (k f:Nat):(Re.qA l k f).length=Re.cf l:=Re.AE (λx _ k f=>x.yx k f) k f
theorem Re.K2:∀(l:List Re) (k f E:Nat),(Re.y4 l k f E).length=Re.cf l+2*(l.length-1)
 |[],_,_,_=>rfl
 |[x],k,f,E=>by simp [Re.y4,Re.cf,Re.yx]
 |x::y::l,k,f,E=>by
  have e4:Re.cf (x::y::l)=x.eC+Re.cf (y::l):=by rw[Re.cf]
  rw[Re.y4,e4,ajW,ajQ,ajW,Re.K2 (y::l),Re.yx];simp only[ajW];omega
end Go.Proofs.YtjjfioalgbecmaaGreat
