/- A part of the proof (O60 O61). -/
import Derived.Test.YtfmdmlfhigocaaaOR28
import Derived.Test.YtfmdmlfhigocaaaOR38
set_option linter.unusedSimpArgs false
set_option linter.unusedVariables false
set_option maxRecDepth 100000
set_option maxHeartbeats 80000000
namespace Go.Proofs.Ytfmdmlfhigocaaa
open Go.VL
def mr (mode:Int) (a b:Nat):au:=if mode=1 then cX b a else cX a b
def wR (c:Nat->List au):Nat->Nat->List au
 |0,_=>[]
 |n+1,f=>wR c n f++c (f+(wR c n f).length)
def rl (c:Nat->List au) (mode:Int) (fin:Nat):Nat->Nat->List au
 |0,_=>[]
 |n+1,f=>rl c mode fin n f++mr mode (f+(rl c mode fin n f).length+1) fin::c (f+(rl c mode fin n f).length+1)
def Bv (c:Nat->List au) (mn mx mode:Int) (z f:Nat):List au :=
 let p:=wR c mn.toNat f;let b:=f+p.length
 p++if mx=-1 then mr mode (b+1) (b+z+2)::(c (b+1)++[ku b]) else rl c mode (b+(mx-mn).toNat*(z+1)) (mx-mn).toNat b
mutual
def Re.xN:Re->Nat->Nat->List au
 |.mk op set kids mn mx mode n neg,k,f =>
  if op=1 then [sL (.mk op set kids mn mx mode n neg) k]
  else if op=11\/op=7\/op=8 then [lR (.mk op set kids mn mx mode n neg) k]
  else if op=2 then Re.tI kids k f
  else if op=3 then Re.Ck kids k f (f+(Re.cu kids+2*(kids.length-1)))
  else if op=5 then jt (2*n-2)::(Re.tI kids k (f+1)++[jt (2*n-1)])
  else if op=4 then Bv (λf=>Re.tI kids k f) mn mx mode (Re.cu kids) f
  else []
def Re.tI:List Re->Nat->Nat->List au
 |[],_,_=>[]
 |x::l,k,f=>x.xN k f++Re.tI l (k+x.looks) (f+x.dc)
def Re.Ck:List Re->Nat->Nat->Nat->List au
 |[],_,_,_=>[]
 |x::l,k,f,E=>match l with
  |[]=>x.xN k f
  |_::_=>cX ((f:Int)+1) ((f:Int)+x.dc+2)::(x.xN k (f+1)++ku E::Re.Ck l (k+x.looks) (f+x.dc+2) E)
end
variable{B:List au}{A:List au}{c:Nat}
theorem Re.lX (re:Re) (k f:Nat):re.xN k f=if re.op=1 then [sL re k]
  else if re.op=11\/re.op=7\/re.op=8 then [lR re k]
  else if re.op=2 then Re.tI re.kids k f
  else if re.op=3 then Re.Ck re.kids k f (f+(Re.cu re.kids+2*(re.kids.length-1)))
  else if re.op=5 then jt (2*re.n-2)::(Re.tI re.kids k (f+1)++[jt (2*re.n-1)])
  else if re.op=4 then Bv (λf=>Re.tI re.kids k f) re.mn re.mx re.mode (Re.cu re.kids) f
  else []:=by
 cases re;rw[Re.xN];rfl
theorem Jj{i:au}{c:Nat} (h:c=A.length) (x y:Int):x9 (A++i::B) c x y=A++⟨i.op,x,y,i.n,i.node⟩::B:=by
 subst h;have e:bz (A++i::B) A.length=i:=by unfold bz;rw[aja,ajh (ajc _),akp];rfl
 unfold x9;rw[e,akh _ _ (ajc _),akp];rfl
theorem ZT{i:au} (h:c=A.length) (E:Int):xO E (A++i::B) c=A++⟨i.op,E,i.y,i.n,i.node⟩::B:=by
 have e:bz (A++i::B) c=i:=by subst h;unfold bz;rw[aja,ajh (ajc _),akp];rfl
 unfold xO;rw[Jj h,e]
theorem TN (h:c<A.length):bz (A++B) c=bz A c:=by unfold bz;rw[aja,aja,ajj h]
theorem V9 (h:c<A.length) (E:Int):xO E (A++B) c=xO E A c++B:=by unfold xO x9;rw[TN h,List.set_append_left _ _ h]
theorem Ev (E:Int):∀(J:List Nat) (A B:List au),(∀c∈J,c<A.length)->J.foldl (xO E) (A++B)=J.foldl (xO E) A++B
 |[],_,_,_=>rfl
 |c::J,A,B,h=>by rw[akg,akg,V9 (h c aj),Ev E J _ _ λd hd=>by rw[IZ];exact h d (by simp [hd])]
theorem uW {c:Nat->List au}{z:Nat} (h:∀f,(c f).length=z) (f:Nat):∀n,(wR c n f).length=n*z
 |0=>by simp [wR]
 |n+1=>by rw[wR,ai6,uW h f n,h,Nat.succ_mul]
theorem A1 {c:Nat->List au}{z:Nat} (h:∀f,(c f).length=z) (mode:Int) (fin f:Nat):∀n,(rl c mode fin n f).length=n*(z+1)
 |0=>by simp [rl]
 |n+1=>by rw[rl,ai6,A1 h mode fin f n,ai8,h,Nat.succ_mul]
theorem Gu {F:List au->List au}{c:Nat->List au} (h:∀C,F C=C++c C.length):∀n C,iR F n C=C++wR c n C.length
 |0,C=>by simp [iR,wR]
 |n+1,C=>by rw[iR,h,Gu h n C,wR,ai6,ajq]
theorem O9 {mode:Int}{E:Nat} (h:c=A.length) (hE:(A++cX 0 0::B).length=E):oC mode (A++cX 0 0::B) c=A++mr mode (c+1) E::B:=by
 unfold oC;rw[hE];unfold mr;by_cases hm:mode=1
 ·rw[be hm,be hm,Jj h];rfl
 ·rw[ap hm,ap hm,Jj h];rfl
theorem wC {F:List au->List au}{c:Nat->List au}{z:Nat} (h:∀C,F C=C++c C.length) (hz:∀f,(c f).length=z) (mode:Int) (E:Nat) :
  ∀n C B,((gv F n C).1++B).length=E->(gv F n C).2.foldl (oC mode) ((gv F n C).1++B)=C++rl c mode E n C.length++B/\(gv F n C).1.length=C.length+n*(z+1)
 |0,C,B,hE=>by simp [gv,rl]
 |n+1,C,B,hE=>by
  have hl:=(wC h hz mode ((gv F n C).1++[]).length n C [] rfl).2;have e1:(gv F (n+1) C).1=(gv F n C).1++([cX 0 0]++c ((gv F n C).1.length+1)):=by rw[gv];simp only;rw[h,ai6,ajz,ajq]
  have e2:(gv F (n+1) C).2=(gv F n C).2++[(gv F n C).1.length]:=rfl;rw[e1]at hE ⊢;rw[e2,List.foldl_append,ajq,(wC h hz mode E n C _ (by rw[<- hE];simp)).1];have ki:(C++rl c mode E n C.length).length=(gv F n C).1.length:=by rw[ai6,A1 hz,hl]
  refine⟨?_,?_⟩
  ·rw[akg,List.foldl_nil,ajq,List.singleton_append,aiX,<- ajq C,O9 (E:=E) ki.symm]
   ·rw[rl,<- ki,ai6];simp only[ajq,aiX,ajI]
   ·simp only[ai6,ai8,ai9]at ki hE ⊢;omega
  ·rw[ai6,ai6,hl,hz,ajz,Nat.succ_mul];omega
theorem UX {F:List au->List au}{c:Nat->List au}{z:Nat} (h:∀C,F C=C++c C.length) (hz:∀f,(c f).length=z) (mn mx mode:Int) (C:List au) :
  (mG F mn mx C).2.foldl (oC mode) (mG F mn mx C).1=C++Bv c mn mx mode z C.length:=by
 have hp:=uW hz C.length mn.toNat;unfold mG Bv;simp only;rw[Gu h];by_cases hx:mx=-1
 ·rw[be hx,be hx];simp only[akg,List.foldl_nil];rw[h,ai6,ajz,ajq,ajq,List.singleton_append,ajq,<- ajq C,O9 (E:=C.length+(wR c mn.toNat C.length).length+z+2) rfl]
  ·rw[ai6];simp only[ajq,aiX,ajI]
  ·simp only[ai6,ai8,ai9,hz];omega
 ·rw[ap hx,ap hx];have hl:=(wC h hz mode ((gv F (mx-mn).toNat (C++wR c mn.toNat C.length)).1++[]).length (mx-mn).toNat (C++wR c mn.toNat C.length) [] rfl).2;have h2:=(wC h hz mode (C.length+(wR c mn.toNat C.length).length+(mx-mn).toNat*(z+1)) (mx-mn).toNat (C++wR c mn.toNat C.length) [] (by rw[List.append_nil,hl,ai6])).1;rw[List.append_nil,List.append_nil]at h2;rw[h2,ai6,ajq]
theorem Re.J5 {l:List Re} (h:∀x∈l,∀k f,(x.xN k f).length=x.dc):∀k f,(Re.tI l k f).length=Re.cu l:=by
 induction l with
 |nil=>intro _ _;rfl
 |cons x l ih =>
  intro k f;rw[Re.tI,Re.cu,ai6,h x aj,ih (λy hy=>h y (by simp [hy]))]
theorem ED (re:Re):∀k C,re.emit k C=C++re.xN k C.length:=by
 refine Re.ind (Q:=λre=>∀k C,re.emit k C=C++re.xN k C.length) (λre ih k C=>?_) re;have hlen:∀x∈re.kids,∀k f,(x.xN k f).length=x.dc:=by intro x hx k f;have h1:=congrArg List.length (ih x hx k (List.replicate f (cX 0 0)));rw[Re.eO,ai6,aj6]at h1;omega
 have hL:∀(l:List Re) (k:Nat) (C:List au),(∀x∈l,x∈re.kids)->Re.db l k C=C++Re.tI l k C.length:=by
  intro l;induction l with
  |nil=>intro k C _;simp [Re.db,Re.tI]
  |cons x l D0 =>
   intro k C hm;rw[Re.db,ih x (hm x aj),D0 _ _ λy hy=>hm y (by simp [hy]),Re.tI,ai6,hlen x (hm x aj),ajq]
 rw[Re.lg,Re.lX];by_cases o1:re.op=1
 ·rw[be o1,be o1]
 rw[ap o1,ap o1];by_cases o7:re.op=11\/re.op=7\/re.op=8
 ·rw[be o7,be o7]
 rw[ap o7,ap o7];by_cases o2:re.op=2
 ·rw[be o2,be o2];exact hL _ _ _ λ_ h=>h
 rw[ap o2,ap o2];by_cases o3:re.op=3
 ·rw[be o3,be o3];have hA:∀(l:List Re) (k:Nat) (C:List au) (J:List Nat) (E:Nat),(∀x∈l,x∈re.kids)->l≠[]->(∀c∈J,c<C.length)->E=C.length+(Re.cu l+2*(l.length-1))->Re.mv l k C J=J.foldl (xO E) C++Re.Ck l k C.length E:=by
   intro l;induction l with
   |nil=>intro k C J E _ h;exact absurd rfl h
   |cons x l D0 =>
    intro k C J E hm _ hJ hE;have hx:=hlen x (hm x aj);cases l with
    |nil =>
     have Du:(x.emit k C).length=E:=by rw[Re.eO,hE];simp [Re.cu]
     rw[Re.mv,Re.Ck,Du,ih x (hm x aj),Ev _ _ _ _ hJ]
    |cons y l =>
     rw[Re.mv,Re.Ck];have e1:x.emit k (C++[cX 0 0])=C++(cX 0 0::x.xN k (C.length+1)):=by rw[ih x (hm x aj),ajq,ai6];rfl
     have e2:(x.emit k (C++[cX 0 0])).length=C.length+x.dc+1:=by rw[Re.eO,ai6,ajz];omega
     rw[e2,e1,ajq,aiX,Jj rfl];have kQ:(C++(⟨(cX 0 0).op,((C.length:Int)+1),(((C.length+x.dc+1:Nat):Int)+1),(cX 0 0).n,(cX 0 0).node⟩::(x.xN k (C.length+1)++[ku 0]))).length=C.length+x.dc+2:=by simp only[ai6,ai8,ai9,hx];omega
     rw[D0 _ _ _ E (λz hz=>hm z (by simp only[ajF]at hz ⊢;exact .inr hz)) aj ?_ ?_]
     ·rw[kQ,List.foldl_append,akg,List.foldl_nil,Ev _ _ _ _ hJ];have e3:J.foldl (xO (E:Int)) C++(⟨(cX 0 0).op,((C.length:Int)+1),(((C.length+x.dc+1:Nat):Int)+1),(cX 0 0).n,(cX 0 0).node⟩::(x.xN k (C.length+1)++[ku 0]))=(J.foldl (xO (E:Int)) C++(cX ((C.length:Int)+1) ((C.length:Int)+x.dc+2)::x.xN k (C.length+1)))++ku 0::[]:=by
       have ey:(((C.length+x.dc+1:Nat):Int)+1)=(C.length:Int)+x.dc+2:=by push_cast;omega
       rw[ajq,aiX,ey];rfl
      rw[e3,ZT (by simp only[ai6,ai8,CG,hx];omega)];all_goals simp only[ajq,aiX,ai0]
      all_goals rfl
     ·intro c hc;rw[kQ];rcases List.mem_append.1 hc with hc|hc
      ·have:=hJ c hc;omega
      ·rw[List.mem_singleton.1 hc];omega
     ·have e4:Re.cu (x::y::l)=x.dc+Re.cu (y::l):=by rw[Re.cu]
      rw[kQ,hE,e4];simp only[ai8];omega
  cases hk:re.kids with
  |nil=>simp [Re.mv,Re.Ck]
  |cons x l =>
   rw[<- hk];exact hA re.kids k C [] _ (λ_ h=>h) (by rw[hk];simp) (λc hc=>by simp at hc) rfl
 rw[ap o3,ap o3];by_cases o5:re.op=5
 ·rw[be o5,be o5,hL _ _ _ λ_ h=>h,ai6,ajz];simp only[ajq,aiX,ai0,List.singleton_append]
 rw[ap o5,ap o5];by_cases o4:re.op=4
 ·rw[be o4,be o4];exact UX (λC=>hL _ _ _ λ_ h=>h) (λf=>Re.J5 hlen k f) _ _ _ _
 rw[ap o4,ap o4,List.append_nil]
theorem Re.mq (re:Re) (k f:Nat):(re.xN k f).length=re.dc:=by have h1:=congrArg List.length (ED re k (List.replicate f (cX 0 0)));rw[Re.eO,ai6,aj6]at h1;omega
inductive de (t:List Int) (Bs:List (List Bool)) (C:List au) (fin:Nat->Bool):Nat->Nat->List Int->Nat->Option (Nat×List Int)->Prop
 |done {pc a:Nat}{aL:List Int} (h:(bz C pc).op=0) (hf:fin a=true):de t Bs C fin pc a aL 1 (some (a,aL))
 |uq {pc a:Nat}{aL:List Int} (h:(bz C pc).op=0) (hf:fin a=false):de t Bs C fin pc a aL 1 none
 |Tj {pc a:Nat}{aL:List Int} (h:(bz C pc).op=1) (hc:(bz C pc).pass t Bs a=false):de t Bs C fin pc a aL 1 none
 |rd {pc a:Nat}{aL:List Int}{n:Nat}{r:Option (Nat×List Int)} (h:(bz C pc).op=1) (hc:(bz C pc).pass t Bs a=true) (w:de t Bs C fin (pc+1) (a+1) aL n r):de t Bs C fin pc a aL (n+1) r
 |Nn {pc a:Nat}{aL:List Int}{n:Nat}{r:Nat×List Int} (h:(bz C pc).op=2) (w:de t Bs C fin (bz C pc).x.toNat a aL n (some r)):de t Bs C fin pc a aL (n+1) (some r)
 |Sl {pc a:Nat}{aL:List Int}{n m:Nat}{r:Option (Nat×List Int)} (h:(bz C pc).op=2) (w:de t Bs C fin (bz C pc).x.toNat a aL n none) (w2:de t Bs C fin (bz C pc).y.toNat a aL m r):de t Bs C fin pc a aL (n+m+1) r
 |jmp {pc a:Nat}{aL:List Int}{n:Nat}{r:Option (Nat×List Int)} (h:(bz C pc).op=3) (w:de t Bs C fin (bz C pc).x.toNat a aL n r):de t Bs C fin pc a aL (n+1) r
 |yC {pc a:Nat}{aL:List Int}{n:Nat}{r:Option (Nat×List Int)} (h:(bz C pc).op=4) (w:de t Bs C fin (pc+1) a (aL.set (bz C pc).n.toNat a) n r):de t Bs C fin pc a aL (n+1) r
 |ask {pc a:Nat}{aL:List Int}{n:Nat}{r:Option (Nat×List Int)} (h:(bz C pc).op=5) (hc:(bz C pc).pass t Bs a=true) (w:de t Bs C fin (pc+1) a aL n r):de t Bs C fin pc a aL (n+1) r
 |vp {pc a:Nat}{aL:List Int} (h:(bz C pc).op=5) (hc:(bz C pc).pass t Bs a=false):de t Bs C fin pc a aL 1 none
section
variable {t:List Int}{Bs:List (List Bool)}{C:List au}{fin:Nat->Bool}{pc a:Nat}
variable{aL:List Int}{r:Option (Nat×List Int)}{m:Nat}
theorem de.Ll (w:de t Bs C fin pc a aL m r) (h:(bz C pc).op=0):m=1/\r=if fin a=true then some (a,aL) else none:=by
 cases w with
 |done h' hf=>exact⟨rfl,by rw[be hf]⟩
 |uq h' hf=>exact⟨rfl,by rw[ap (by rw[hf];simp)]⟩
 |Tj h'|rd h'|Nn h'|Sl h'|jmp h'|yC h'|ask h'|vp h'=>omega
theorem de.inv1 (w:de t Bs C fin pc a aL m r) (h:(bz C pc).op=1):((bz C pc).pass t Bs a=false/\r=none/\m=1)\/((bz C pc).pass t Bs a=true/\∃n,m=n+1/\de t Bs C fin (pc+1) (a+1) aL n r):=by
 cases w with
 |Tj h' hc=>exact .inl ⟨hc,rfl,rfl⟩
 |rd h' hc w=>exact .inr ⟨hc,_,rfl,w⟩
 |done h'|uq h'|Nn h'|Sl h'|jmp h'|yC h'|ask h'|vp h'=>omega
theorem de.inv2 (w:de t Bs C fin pc a aL m r) (h:(bz C pc).op=2):(∃n v,m=n+1/\r=some v/\de t Bs C fin (bz C pc).x.toNat a aL n (some v))\/(∃n n2,m=n+n2+1/\de t Bs C fin (bz C pc).x.toNat a aL n none/\de t Bs C fin (bz C pc).y.toNat a aL n2 r):=by
 cases w with
 |Nn h' w=>exact .inl ⟨_,_,rfl,rfl,w⟩
 |Sl h' w w2=>exact .inr ⟨_,_,rfl,w,w2⟩
 |done h'|uq h'|Tj h'|rd h'|jmp h'|yC h'|ask h'|vp h'=>omega
theorem de.VP (w:de t Bs C fin pc a aL m r) (h:(bz C pc).op=3):∃n,m=n+1/\de t Bs C fin (bz C pc).x.toNat a aL n r:=by
 cases w with
 |jmp h' w=>exact⟨_,rfl,w⟩
 |done h'|uq h'|Tj h'|rd h'|Nn h'|Sl h'|yC h'|ask h'|vp h'=>omega
theorem de.UY (w:de t Bs C fin pc a aL m r) (h:(bz C pc).op=4):∃n,m=n+1/\de t Bs C fin (pc+1) a (aL.set (bz C pc).n.toNat a) n r:=by
 cases w with
 |yC h' w=>exact⟨_,rfl,w⟩
 |done h'|uq h'|Tj h'|rd h'|Nn h'|Sl h'|jmp h'|ask h'|vp h'=>omega
theorem de.QJ (w:de t Bs C fin pc a aL m r) (h:(bz C pc).op=5):((bz C pc).pass t Bs a=false/\r=none/\m=1)\/((bz C pc).pass t Bs a=true/\∃n,m=n+1/\de t Bs C fin (pc+1) a aL n r):=by
 cases w with
 |vp h' hc=>exact .inl ⟨hc,rfl,rfl⟩
 |ask h' hc w=>exact .inr ⟨hc,_,rfl,w⟩
 |done h'|uq h'|Tj h'|rd h'|Nn h'|Sl h'|jmp h'|yC h'=>omega
theorem de.det{n:Nat} (w:de t Bs C fin pc a aL n r):∀{jq:List Int}{n':Nat}{r':Option (Nat×List Int)},de t Bs C fin pc a jq n' r'->n=n'/\r.isSome=r'.isSome/\(aL=jq->r=r'):=by
 induction w with
 |done h hf =>
  intro jq n' r' w';obtain⟨rfl,rfl⟩:=w'.Ll h;rw[be hf];exact⟨rfl,rfl,λe=>by rw[e]⟩
 |uq h hf =>
  intro jq n' r' w';obtain⟨rfl,rfl⟩:=w'.Ll h;rw[ap (by rw[hf];simp)];exact⟨rfl,rfl,λe=>rfl⟩
 |Tj h hc =>
  intro jq n' r' w';rcases w'.inv1 h with ⟨_,rfl,rfl⟩|⟨h2,_⟩
  ·exact⟨rfl,rfl,λ_=>rfl⟩
  ·rw[hc]at h2;cases h2
 |rd h hc w ih =>
  intro jq n' r' w';rcases w'.inv1 h with ⟨h2,_⟩|⟨_,m,rfl,w2⟩
  ·rw[hc]at h2;cases h2
  ·obtain⟨e1,e2,e3⟩:=ih w2;exact⟨ae,e2,e3⟩
 |Nn h w ih =>
  intro jq n' r' w';rcases w'.inv2 h with ⟨m,v,rfl,rfl,w2⟩|⟨m,m2,rfl,w2,w3⟩
  ·obtain⟨e1,e2,e3⟩:=ih w2;exact⟨ae,e2,e3⟩
  ·obtain⟨e1,e2,e3⟩:=ih w2;cases e2
 |Sl h w w2 ih gy =>
  intro jq n' r' w';rcases w'.inv2 h with ⟨m,v,rfl,rfl,w2⟩|⟨m,m2,rfl,w2,w3⟩
  ·obtain⟨e1,e2,e3⟩:=ih w2;cases e2
  ·obtain⟨e1,e2,e3⟩:=ih w2;obtain⟨f1,f2,f3⟩:=gy w3;exact⟨ae,f2,f3⟩
 |jmp h w ih =>
  intro jq n' r' w';obtain⟨m,rfl,w2⟩:=w'.VP h;obtain⟨e1,e2,e3⟩:=ih w2;exact⟨ae,e2,e3⟩
 |yC h w ih =>
  intro jq n' r' w';obtain⟨m,rfl,w2⟩:=w'.UY h;obtain⟨e1,e2,e3⟩:=ih w2;exact⟨ae,e2,λe=>e3 (by rw[e])⟩
 |ask h hc w ih =>
  intro jq n' r' w';rcases w'.QJ h with ⟨h2,_⟩|⟨_,m,rfl,w2⟩
  ·rw[hc]at h2;cases h2
  ·obtain⟨e1,e2,e3⟩:=ih w2;exact⟨ae,e2,e3⟩
 |vp h hc =>
  intro jq n' r' w';rcases w'.QJ h with ⟨_,rfl,rfl⟩|⟨h2,_⟩
  ·exact⟨rfl,rfl,λ_=>rfl⟩
  ·rw[hc]at h2;cases h2
end
def oE:Nat->Bool:=λ_=>true
section
variable {t:List Int}{Bs:List (List Bool)}{C:List au}
variable{b:Bool}{d:Bool}{l:List Bool}
def xQ (t:List Int) (Bs:List (List Bool)) (C:List au) (p:Nat) (S:Nat->Prop) (st:IE):Prop:=∀q,q<C.length->st.kn.getD q true=true->¬S q->∀aL m r,de t Bs C oE q p aL m r->st.nw.getD q false=r.isSome
def YX (t:List Int) (Bs:List (List Bool)) (C:List au) (p:Nat) (Lt:List Bool):Prop:=∀q,q<C.length->∀aL m r,de t Bs C oE q p aL m r->Lt.getD q false=r.isSome
theorem nv{n:Nat} (h:n<l.length):(l.set n b).getD n d=b:=by rw[aja,ajm h];rfl
theorem l6{n q:Nat} (h:n≠q):(l.set n b).getD q d=l.getD q d:=by rw[aja,aja,ajy h]
theorem LG (hg:fw t Bs C) {p:Nat}{Lt:List Bool} (MP:p<t.length->YX t Bs C (p+1) Lt):∀(k n:Nat) (S:Nat->Prop) (st:IE),n<C.length->st.kn.length=C.length->st.nw.length=C.length->Js st.kn<k ->
  xQ t Bs C p S st->(∀q,S q->∀aL m r,de t Bs C oE q p aL m r->∃jq n' r',de t Bs C oE n p jq n' r'/\n'<m) ->
  (∀aL m r,de t Bs C oE n p aL m r->(bu t Bs C p Lt k n st).1=r.isSome)/\xQ t Bs C p S (bu t Bs C p Lt k n st).2/\(bu t Bs C p Lt k n st).2.kn.getD n true=true/\∀q,st.kn.getD q true=true->(bu t Bs C p Lt k n st).2.kn.getD q true=true
 |0,_,_,_,_,_,_,hu,_,_=>ae
 |k+1,n,S,st,hn,hk,hw,hu,hK,hS=>by
  rw[bu];have ir:st.kn.getD n true=st.kn.getD n false:=by rw[aja,aja,ajg ae];rfl
  by_cases hc:st.kn.getD n true=true
  ·rw[be hc];refine⟨λaL m r w=>?_,hK,hc,λq h=>h⟩;by_cases hs:S n
   ·obtain⟨_,n',_,w',aB⟩:=hS n hs _ _ _ w;have:=(w.det w').1;omega
   ·exact hK n hn hc hs _ _ _ w
  rw[ap hc];have h0:st.kn[n]?=some false:=by have hl:n<st.kn.length:=ae;rw[aja,ajg hl]at hc;rw[ajg hl];simp at hc ⊢;exact hc
  have Xv:=Ig h0;generalize ck:(⟨st.kn.set n true,st.nw⟩:IE)=dM;have k1:dM.kn.length=C.length:=by rw[<- ck];simpa using hk
  have k2:dM.nw.length=C.length:=by rw[<- ck];exact hw
  have k3:Js dM.kn<k:=by rw[<- ck];show Js (st.kn.set n true)<k;omega
  have k4:xQ t Bs C p (λq=>S q\/q=n) dM:=by intro q hq hkq hs aL m r w;rw[<- ck]at hkq ⊢;have dP:n≠q:=λe=>hs (.inr e.symm);refine hK q hq ?_ (λh=>hs (.inl h)) aL m r w;rw[<- l6 (b:=true) dP];exact hkq
  have k5:∀q,st.kn.getD q true=true->dM.kn.getD q true=true:=by
   intro q hq;rw[<- ck];by_cases e:n=q
   ·subst e;exact nv ae
   ·show (st.kn.set n true).getD q true=true;rw[l6 e];exact hq
  have k6:dM.kn.getD n true=true:=by rw[<- ck];exact nv ae
  have step:∀(n2:Nat) (F0:IE),n2<C.length->F0.kn.length=C.length->F0.nw.length=C.length->Js F0.kn<k->xQ t Bs C p (λq=>S q\/q=n) F0 ->
    (∀aL m r,de t Bs C oE n p aL m r->∃jq m' r',de t Bs C oE n2 p jq m' r'/\m'<m)->_:=λn2 F0 h1 h2 h3 h4 h5 h6=>LG hg MP k n2 (λq=>S q\/q=n) F0 h1 h2 h3 h4 h5 (λq hq aL m r w=>by
     rcases hq with hq|rfl
     ·obtain⟨jq,n',r',w',aB⟩:=hS q hq aL m r w;obtain⟨a1,a2,a3,a4,a5⟩:=h6 _ _ _ w';exact⟨a1,a2,a3,a4,ae⟩
     ·exact h6 _ _ _ w)
  have close:∀R:Bool×IE,(∀aL m r,de t Bs C oE n p aL m r->R.1=r.isSome)->R.2.nw.length=C.length->xQ t Bs C p (λq=>S q\/q=n) R.2->(∀q,dM.kn.getD q true=true->R.2.kn.getD q true=true) ->
    (∀aL m r,de t Bs C oE n p aL m r->R.1=r.isSome)/\xQ t Bs C p S ⟨R.2.kn,R.2.nw.set n R.1⟩/\R.2.kn.getD n true=true/\∀q,st.kn.getD q true=true->R.2.kn.getD q true=true:=by
   intro R h1 h2 h3 h4;refine⟨h1,λq hq hkq hs aL m r w=>?_,h4 n k6,λq hq=>h4 q (k5 q hq)⟩;by_cases e:n=q
   ·subst e;show (R.2.nw.set n R.1).getD n false=r.isSome;rw[nv ae];exact h1 _ _ _ w
   ·show (R.2.nw.set n R.1).getD q false=r.isSome;rw[l6 e];exact h3 q hq hkq (λh=>h.elim hs (λh=>e h.symm)) aL m r w
  have An:=hg.ops n hn;simp only;by_cases o0:(bz C n).op=0
  ·rw[be o0];refine close (true,dM) (λaL m r w=>?_) k2 k4 λq h=>h;obtain⟨_,rfl⟩:=w.Ll o0;rfl
  rw[ap o0];by_cases o1:(bz C n).op=1
  ·rw[be o1];refine close (_,dM) (λaL m r w=>?_) k2 k4 λq h=>h;rcases w.inv1 o1 with ⟨h1,rfl,_⟩|⟨h1,m',_,w'⟩
   ·show ((bz C n).pass t Bs p&&_)=_;rw[h1];rfl
   ·show ((bz C n).pass t Bs p&&_)=_;rw[h1,ake];obtain⟨re,k',e1,e2,_⟩:=hg.set n hn o1;have hp:p<t.length:=by unfold au.pass at h1;rw[e1]at h1;simp only[e2,if_true,aji,decide_eq_true_eq]at h1;omega
    exact MP hp (n+1) (hg.next n hn (.inl o1)) _ _ _ w'
  rw[ap o1];by_cases o2:(bz C n).op=2
  ·rw[be o2];obtain⟨x0,x1,y0,y1⟩:=hg.split n hn o2;have hx:=step (bz C n).x.toNat dM ae k1 k2 k3 k4 (λaL m r w=>by
    rcases w.inv2 o2 with ⟨m',v,rfl,_,w'⟩|⟨m',m2,rfl,w',_⟩
    ·exact⟨_,_,_,w',ae⟩
    ·exact⟨_,_,_,w',ae⟩)
   have GO:=iC t Bs C p Lt k (bz C n).x.toNat dM;generalize bu t Bs C p Lt k (bz C n).x.toNat dM=r1 at *;obtain⟨a1,a2,a3,a4⟩:=hx;by_cases hr:r1.1=true
   ·rw[be hr];refine close r1 (λaL m r w=>?_) (GO.2.1.trans k2) a2 a4;rcases w.inv2 o2 with ⟨m',v,rfl,rfl,w'⟩|⟨m',m2,rfl,w',_⟩
    ·exact a1 _ _ _ w'
    ·have:=a1 _ _ _ w';rw[hr]at this;cases this
   ·rw[ap hr];have hy:=step (bz C n).y.toNat r1.2 ae (GO.1.trans k1) (GO.2.1.trans k2) ae a2 (λaL m r w=>by
     rcases w.inv2 o2 with ⟨m',v,rfl,_,w'⟩|⟨m',m2,rfl,_,w'⟩
     ·exact absurd (a1 _ _ _ w') hr
     ·exact⟨_,_,_,w',ae⟩)
    have hyl:=iC t Bs C p Lt k (bz C n).y.toNat r1.2;generalize bu t Bs C p Lt k (bz C n).y.toNat r1.2=r2 at *;obtain⟨b1,b2,b3,b4⟩:=hy;refine close r2 (λaL m r w=>?_) (hyl.2.1.trans (GO.2.1.trans k2)) b2 λq h=>b4 q (a4 q h);rcases w.inv2 o2 with ⟨m',v,rfl,rfl,w'⟩|⟨m',m2,rfl,_,w'⟩
    ·exact absurd (a1 _ _ _ w') hr
    ·exact b1 _ _ _ w'
  rw[ap o2];by_cases o3:(bz C n).op=3
  ·rw[be o3];obtain⟨x0,x1⟩:=hg.jump n hn o3;have hx:=step (bz C n).x.toNat dM ae k1 k2 k3 k4 (λaL m r w=>by
    obtain⟨m',rfl,w'⟩:=w.VP o3;exact⟨_,_,_,w',ae⟩)
   have GO:=iC t Bs C p Lt k (bz C n).x.toNat dM;generalize bu t Bs C p Lt k (bz C n).x.toNat dM=r1 at *;obtain⟨a1,a2,a3,a4⟩:=hx;refine close r1 (λaL m r w=>?_) (GO.2.1.trans k2) a2 a4;obtain⟨m',rfl,w'⟩:=w.VP o3;exact a1 _ _ _ w'
  rw[ap o3];by_cases o4:(bz C n).op=4
  ·rw[be o4];have x1:=hg.next n hn (.inr (.inl o4));have hx:=step (n+1) dM ae k1 k2 k3 k4 (λaL m r w=>by
    obtain⟨m',rfl,w'⟩:=w.UY o4;exact⟨_,_,_,w',ae⟩)
   have GO:=iC t Bs C p Lt k (n+1) dM;generalize bu t Bs C p Lt k (n+1) dM=r1 at *;obtain⟨a1,a2,a3,a4⟩:=hx;refine close r1 (λaL m r w=>?_) (GO.2.1.trans k2) a2 a4;obtain⟨m',rfl,w'⟩:=w.UY o4;exact a1 _ _ _ w'
  rw[ap o4];have o5:(bz C n).op=5:=ae;rw[be o5];by_cases sN:(bz C n).pass t Bs p=true
  ·rw[be sN];have x1:=hg.next n hn (.inr (.inr o5));have hx:=step (n+1) dM ae k1 k2 k3 k4 (λaL m r w=>by
    rcases w.QJ o5 with ⟨h1,_⟩|⟨_,m',rfl,w'⟩
    ·rw[sN]at h1;cases h1
    ·exact⟨_,_,_,w',ae⟩)
   have GO:=iC t Bs C p Lt k (n+1) dM;generalize bu t Bs C p Lt k (n+1) dM=r1 at *;obtain⟨a1,a2,a3,a4⟩:=hx;refine close r1 (λaL m r w=>?_) (GO.2.1.trans k2) a2 a4;rcases w.QJ o5 with ⟨h1,_⟩|⟨_,m',rfl,w'⟩
   ·rw[sN]at h1;cases h1
   ·exact a1 _ _ _ w'
  ·rw[ap sN];refine close (false,dM) (λaL m r w=>?_) k2 k4 λq h=>h;rcases w.QJ o5 with ⟨_,rfl,_⟩|⟨h1,_⟩
   ·rfl
   ·exact absurd h1 sN
theorem Ys (l:List Bool):Js l<=l.length:=List.count_le_length
theorem rT (hg:fw t Bs C) {p:Nat}{Lt:List Bool} (MP:p<t.length->YX t Bs C (p+1) Lt):∀n,n<=C.length->xQ t Bs C p (λ_=>False) (cS t Bs C p Lt n)/\∀q,q<n->(cS t Bs C p Lt n).kn.getD q true=true
 |0,_=>by
  refine⟨λq hq hk=>?_,λq hq=>ae⟩;have:(cS t Bs C p Lt 0).kn=List.replicate C.length false:=by simp [cS]
  rw[this,aja,akb,be hq]at hk;cases hk
 |n+1,hn=>by
  obtain⟨h1,h2⟩:=rT hg MP n ae;have hl:=oA t Bs C p Lt n;rw[kO];have hu:=Ys (cS t Bs C p Lt n).kn;obtain⟨_,a2,a3,a4⟩:=LG hg MP (C.length+1) n (λ_=>False) _ ae hl.1 hl.2 ae h1 (λq hq=>hq.elim);refine⟨a2,λq hq=>?_⟩;by_cases e:q=n
  ·subst e;exact a3
  ·exact a4 q (h2 q ae)
theorem zY (hg:fw t Bs C):∀i,i<=t.length->YX t Bs C (t.length-i) (fe t Bs C (i+1))
 |0,_=>by obtain⟨h1,h2⟩:=rT hg (p:=t.length-0) (Lt:=fe t Bs C 0) (λh=>ae) C.length (ajc _);exact λq hq aL m r w=>h1 q hq (h2 q hq) (λh=>h) aL m r w
 |i+1,hi=>by have ih:=zY hg i ae;have e:t.length-(i+1)+1=t.length-i:=ae;obtain⟨h1,h2⟩:=rT hg (p:=t.length-(i+1)) (Lt:=fe t Bs C (i+1)) (λ_=>by rw[e];exact ih) C.length (ajc _);exact λq hq aL m r w=>h1 q hq (h2 q hq) (λh=>h) aL m r w
theorem wN (hg:fw t Bs C) (h0:0<C.length) {p:Nat} (hp:p<=t.length) {aL:List Int}{m:Nat}{r:Option (Nat×List Int)} (w:de t Bs C oE 0 p aL m r):(iF t Bs C)[p]?=some r.isSome:=by have h:=zY hg (t.length-p) ae;rw[show t.length-(t.length-p)=p by omega]at h;unfold iF;rw[aiY,List.getElem?_range ae];simp only[ai3];rw[h 0 h0 _ _ _ w]
end
end Go.Proofs.Ytfmdmlfhigocaaa
