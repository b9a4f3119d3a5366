/- A part of the proof (F72 K0 O3 G4 G2). -/
import Derived.Test.YtfmdmlfhigocaaaOR10
import Derived.Test.YtfmdmlfhigocaaaOR13
import Derived.Test.YtfmdmlfhigocaaaOR14
set_option linter.unusedSimpArgs false
set_option linter.unusedVariables false
open Nat renaming reduceShiftRight → cy, reduceMod → cJ, reduceEqDiff → dV, reduceBEq → gV
open Int renaming reduceEq → jT
set_option maxRecDepth 100000
set_option maxHeartbeats 80000000
namespace Go.Proofs.Ytfmdmlfhigocaaa
open Go.VL Go.Proofs.Try
variable{pre:List V}{s:List VL.Obj}{post:List V}{g:Nat}{lo:Nat}{id:Nat}{sz:Nat}{n:Nat}{aw:List (List V)}{e:Env}{l:List (List D)}{f:FuncId}{P:Program}{args:List V}{K:V->List VL.Obj->Prop}
theorem D4 {σ:Gh}{w:World} (hI:Inv σ s w) {o:VL.Obj} (k sz:Nat) (ho:s[k]?=some o) (iG:o.aw=[pre++.fu []::post]) (fY:pre.length+1+post.length=o.sz) :
  ∃σ',aG σ s w σ' (s.set k { o with aw:=[pre++.so s.length 0 0 0::post] }++[⟨0,true,sz,[]⟩]) w/\Inv σ' (s.set k { o with aw:=[pre++.so s.length 0 0 0::post] }++[⟨0,true,sz,[]⟩]) w:=by
 have hk:=(List.getElem?_eq_some_iff.1 ho).1;have hp:=pM (p:=none) (o':=⟨0,true,sz,[]⟩) (w':=w) hI rfl rfl rfl (ajc _) (λ_ _=>rfl) (λ_ _ h'=>by cases h') (λ_=>.inl (.inl ⟨rfl,rfl⟩));have SQ:(s++[(⟨0,true,sz,[]⟩:VL.Obj)])[k]?=some o:=by rw[ajj hk];exact ho
 have hr:=DW hp.2 (els':=[pre++.so s.length 0 0 0::post]) SQ (by intro e he;rw[List.mem_singleton.1 he];simp;omega) (by rw[iG];rfl) (by
  intro es he;rw[iG]at he;have hm:(pre++.fu []::post)∈fZ es:=by rw[<- he];exact List.mem_singleton.2 rfl
  unfold fZ at hm;obtain⟨x,_,hx⟩:=List.mem_map.1 hm;have hf:V.fu []∈[V.d (.sc x.key),V.d (.sc x.val)]:=by rw[hx];simp
  simp at hf) (λi j x' hx=>by
  rw[iG];cases i with
  |succ i=>simp at hx
  |zero =>
   simp only[ajv,ajM]at hx ⊢;by_cases hj:j=pre.length
   ·subst hj;rw[ajh (ajc _),akp]at hx ⊢;simp only[ajv,ai5]at hx ⊢;subst hx;refine⟨_,rfl,λu hu=>?_⟩;cases hu with|fu hx=>?_
    exact .so ⟨0,true,sz,[]⟩ aj (ajc _) ⟨_,_,rfl⟩ (λ_=>.inl ⟨cc _ _ _,⟨_,rfl⟩,rfl,rfl⟩)
   ·refine⟨x',?_,λu hu=>hu⟩;rcases ajr j pre.length with aB|iA
    ·rw[ajj aB]at hx ⊢;exact hx
    ·rw[ajh iA]at hx ⊢;cases hm:j-pre.length with
     |zero=>omega
     |succ m=>rw[hm]at hx;simpa using hx)
 have gD:(s++[(⟨0,true,sz,[]⟩:VL.Obj)]).set k { o with aw:=[pre++.so s.length 0 0 0::post] }=s.set k { o with aw:=[pre++.so s.length 0 0 0::post] }++[⟨0,true,sz,[]⟩]:=by rw[List.set_append_left _ _ hk]
 rw[gD]at hr;exact⟨_,hp.1.trans hr.1,hr.2⟩
theorem rB {lim:Nat}{live:Bool}{ds:List (List D)} (ho:s[id]?=some ⟨g,live,sz,aw⟩) (he:(aw.drop lo).take n=ds.map (λc=>c.map V.d)) (hn:lo+n<=aw.length) (hl:lim<=id\/live=false) :
  bm lim s (.so id g lo n)=some (.d (.sl ds)):=by
 simp only[bm,cR,ho,true_and];rw[be ⟨hn,hl⟩,he,oV];rfl
theorem fQ (t sz:Nat) (h:e t=.fu []):ct e s (bX e t (.so s.length 0 0 0)) (s++[⟨0,true,sz,[]⟩]):=by
 intro σ0 s0 w0 σ w N a hE hI hR;have hp:=pM (p:=none) (o':=⟨0,true,sz,[]⟩) (w':=w) hI rfl rfl rfl (ajc _) (λ_ _=>rfl) (λ_ _ h'=>by cases h') (λ_=>.inl (.inl ⟨rfl,rfl⟩));refine⟨_,hE.trans hp.1,hp.2,hR.1,hR.2.1,λk=>?_⟩;by_cases hk:k=t
 ·subst hk;have hu:=(hR.2.2 k).aZ hp.1;rw[h]at hu;rw[bX,be rfl];generalize a.tmps.getD k undef=u at hu;cases hu with|fu hx=>?_
  exact .so ⟨0,true,sz,[]⟩ aj (ajc _) ⟨_,_,rfl⟩ (λ_=>.inl ⟨cc _ _ _,⟨_,rfl⟩,rfl,rfl⟩)
 ·rw[bX,ap hk];exact(hR.2.2 k).aZ hp.1
theorem nL{o:VL.Obj} (k sz:Nat) (ho:s[k]?=some o) (iG:o.aw=[pre++.fu []::post]) (fY:pre.length+1+post.length=o.sz) :
  ct e s e (s.set k { o with aw:=[pre++.so s.length 0 0 0::post] }++[⟨0,true,sz,[]⟩]):=by
 intro σ0 s0 w0 σ w N a hE hI hR;obtain⟨σ',h1,h2⟩:=D4 hI k sz ho iG fY;exact⟨σ',hE.trans h1,h2,hR.aZ h1⟩
theorem Ov {L:Nat}{s':List VL.Obj} (t:Nat) (ds:List (List D)) (lim:Nat) (ba:List Nat) (he:e t=.so id g lo n) (ho:s[id]?=some ⟨g,true,sz,aw⟩)
  (hd:(aw.drop lo).take n=ds.map λc=>c.map V.d) (hn:lo+n<=aw.length) (hL:L<=lim) (R5:lim<=id) (hs:s.take lim=s') (jA:s'.all (bc lim)=true) (hk:ba.all (λk=>k == t||ak lim (e k))=true) :
  bJ L e s (pC ba (bX e t (.d (.sl ds)))) s':=by
 have Wu:bA s [id]=s.set id ⟨g,false,sz,aw⟩:=by simp [bA,bP,ho]
 have du:=(List.getElem?_eq_some_iff.1 ho).1;have hc:gm (bA s [id]).length (bA s [id]) (e t)=.d (.sl ds):=by rw[he,gm,rB (aw:=aw) (live:=false) (sz:=sz) (by rw[Wu];simp [du]) hd hn (.inr rfl)];rfl
 have ac9:me (bA s [id]) [t] e=bX e t (.d (.sl ds)):=by
  funext k;unfold me bX;by_cases Zk:k=t
  ·subst Zk;simp [hc]
  ·simp [Zk]
 have h1:=bJ.freeze (L:=L) (e:=e) (s:=s) [id] [t];rw[ac9]at h1;refine h1.trans (bJ.cut lim hL ?_ jA ba ?_)
 ·rw[Wu,List.take_set_of_le R5,hs]
 ·rw[ajo]at hk ⊢;intro k AX;have:=hk k AX;simp only[Bool.or_eq_true,beq_iff_eq]at this;unfold bX;by_cases Zk:k=t
  ·rw[be Zk];rfl
  ·rw[ap Zk];exact this.resolve_left Zk
def lL (P:Program) (f:FuncId) (args:List V) (sz:Nat) (l:List (List D)):Prop :=
 az P f args [] λv s=>∃g,v=.so 0 g 0 l.length/\s=[⟨g,true,sz,l.map λc=>c.map V.d⟩]
theorem yU (ρ:List Nat):∀c:List D,aS.go ρ (c.map V.d)=c.map V.d
 |[]=>rfl
 |x::c=>by simp only[aiZ,aS.go,aS,yU ρ c]
theorem U9:((l.map λc=>c.map V.d).drop 0).take l.length=l.map (λc=>c.map V.d):=by rw[ajQ,ajb aj]
theorem lL.pure (h:lL P f args sz l):aM P f args (.d (.sl l)):=by refine⟨h.1,λσ w vals hI hl hv=>(h.2 σ w vals hI hl hv).mono λe w' ⟨u,v,σ',s',h1,h2,h3,h4,g,h5,h6⟩=>?_⟩;subst h5 h6;have:=mR h3 (lim:=0) h4 (rB (aw:=l.map λc=>c.map V.d) (live:=true) (sz:=sz) rfl U9 aj (.inl (ajc _)));exact⟨u,_,σ',[],h1,h2.take (lim:=0) (ajc _),h3.take (lim:=0) aN,this,rfl,rfl⟩
theorem lL.call (h:lL P f args sz l) (ha:args=args.map (aS [])) (hr:ak.go 0 args=true)
  (hk:∀g,K (.so s.length g 0 l.length) (s++[⟨g,true,sz,l.map λc=>c.map V.d⟩])):az P f args s K:=by
 refine jX h [] rfl aj (λk o h=>by simp at h) ha hr rfl ?_;rintro v s' ⟨g,rfl,rfl⟩ _;have e1:aS (xa [] s [] [(⟨g,true,sz,l.map λc=>c.map V.d⟩:VL.Obj)]) (.so 0 g 0 l.length)=.so s.length g 0 l.length:=by simp [xa,aS]
 have e2:bf (xa [] s [] [(⟨g,true,sz,l.map λc=>c.map V.d⟩:VL.Obj)]) ⟨g,true,sz,l.map λc=>c.map V.d⟩=⟨g,true,sz,l.map λc=>c.map V.d⟩:=by unfold bf;congr 1;rw[ajL];exact ajK λc _=>yU _ c
 rw[e1];simp only[ai9,akc,ajQ,ai2,aiZ,e2,aO];exact hk g
theorem lL.hole{k:Nat}{ob:VL.Obj} (h:lL P f args sz l) (ha:args=args.map (aS [])) (hr:ak.go 0 args=true) (hs:s[k]?=some ob)
  (hk:K (.so k (ob.g+1) 0 l.length) (s.set k ⟨ob.g+1,true,sz,l.map λc=>c.map V.d⟩)):az P f args s K:=by
 have h1:az P f args s λv s1=>∃g,v=.so s.length g 0 l.length/\s1=s++[⟨g,true,sz,l.map λc=>c.map V.d⟩]:=h.call ha hr λg=>⟨g,rfl,rfl⟩
 refine⟨h1.1,λσ w vals hI hl hv=>(h1.2 σ w vals hI hl hv).mono λe w' ⟨u,v,σ',s',k1,k2,k3,k4,g,k5,k6⟩=>?_⟩;subst k5 k6;obtain⟨m1,m2,m3⟩:=oX hI k2 k3 hs rfl (λi' j x' kS=>by
  rw[aiY]at kS;cases hq:l[i']? with
  |none=>rw[hq]at kS;cases kS
  |some c =>
   rw[hq]at kS;simp only[ai3,ajM,aiY]at kS;obtain⟨d,_,rfl⟩:=Option.map_eq_some_iff.1 kS;rfl)
 exact⟨u,_,_,_,k1,m1,m2,m3 _ _ _ k4,hk⟩
theorem FV (ba:List Nat) (c:List D):eV.go ba (c.map V.d)=c.map V.d:=by rw[pL,ajL];exact ajK λx _=>rfl
theorem nO{m:Nat} (ho:s[id]?=some ⟨g,true,sz,aw⟩) (he:aw=l.map λc=>c.map V.d) (hn:n=m) :
  zG 0 s (.so id g 0 n) λv s1=>∃g,v=.so 0 g 0 m/\s1=[⟨g,true,sz,l.map λc=>c.map V.d⟩]:=by
 have du:=gN ho;refine⟨[id],?_,g,?_,?_⟩
 ·simp [Bn,du]
 ·simp [eV,hn,List.idxOf?,List.findIdx?_cons]
 ·have hg:s.getD id hole=⟨g,true,sz,aw⟩:=by rw[List.getD,ho];rfl
  simp only[mF,aiZ,ai2,hg,ga,he,ajL];congr 2;exact ajK λc _=>FV _ c
def Re.iv (re:Re):Bool:=decide (re.op=7\/re.op=8)
mutual
def Re.looks:Re->Nat
 |.mk op _ kids _ _ _ _ _=>(if op=7\/op=8 then 1 else 0)+Re.aV kids
def Re.aV:List Re->Nat
 |[]=>0
 |k::l=>k.looks+Re.aV l
end
mutual
def Re.bq:Re->Nat->D
 |.mk op set kids mn mx mode n neg,k=>.el [iD op,.sl (set.map aU),.sl (kids.map Re.cells),iD mn,iD mx,iD mode,iD n,bD neg,.sl (Re.ej kids (k+if op=7\/op=8 then 1 else 0)),iD k]
def Re.ej:List Re->Nat->List (List D)
 |[],_=>[]
 |x::l,k=>[x.bq k]::Re.ej l (k+x.looks)
end
theorem Re.jg (re:Re):re.looks=(if re.op=7\/re.op=8 then 1 else 0)+Re.aV re.kids:=by cases re;rfl
theorem Re.eK (re:Re) (k:Nat):re.bq k=.el [iD re.op,.sl (re.set.map aU),.sl (re.kids.map Re.cells),iD re.mn,iD re.mx,iD re.mode,iD re.n,bD re.neg,.sl (Re.ej re.kids (k+if re.op=7\/re.op=8 then 1 else 0)),iD k]:=by
 cases re;rfl
theorem Re.pO:∀(l:List Re) (k:Nat),(Re.ej l k).length=l.length
 |[],_=>rfl
 |x::l,k=>by simp [Re.ej,Re.pO l]
def dK (t:List Int) (root parts:D) (bg nb:Nat):VL.Obj:=⟨0,true,4,[[.d (an t),.d root,.d parts,.so 1 bg 0 nb]]⟩
def fX (bg:Nat) (Bs:List (List Bool)):VL.Obj:=⟨bg,true,1,Bs.map λl=>[.d (.sl (l.map λb=>[bD b]))]⟩
theorem ij (n bg:Nat) (Bs:List (List Bool)):((fX bg Bs).aw.all λe=>e.all (ak n))=true:=by unfold fX;rw[ajo];intro e he;obtain⟨l,_,rfl⟩:=List.mem_map.1 he;rfl
theorem cf {e0 v:V}:xt e0 (.bx v)=.bx v:=(rfl)
theorem aQ {id g i off b a:Nat}:eH (.pp id g i off b a)=some [.pp id g i off b a]:=rfl
theorem Vu (l:List (Int×Int)) (x:Int) (hl:l.length<=1000000):aM Try.prog 58 [.d (.sl (l.map aU)),i64 x] (bV (E7 l x)):=by
 refine bk Try.func58 Try.ntmps58 Try.results58 0 979 ?_;simp only[zI,simprocAttr,aiW];refine ay (λn e s=>∃i:Nat,n=l.length-i/\i<=l.length/\e 1=i64 x/\e 7=.d (.sl (l.map aU))/\e 8=i64 l.length/\e 9=i64 i/\s=[]/\(l.take i).any (λs=>decide (s.1<=x)&&decide (x<=s.2))=false)
  ⟨_,_,_,bJ.refl,0,rfl,ae,rfl,rfl,rfl,rfl,rfl,aj⟩ ?_
 rintro n e s ⟨i,rfl,hi,h1,h7,h8,h9,rfl,jf⟩;rcases ajr i l.length with aB|iA
 ·obtain⟨k,hk⟩:∃k,l[i]?=some k:=bZ aB;have aH:(i:Int)<l.length:=ae;have hm:=ai4 hk;by_cases c1:k.1<=x
  ·by_cases c2:x<=k.2
   ·simp only[zQ,simprocAttr,aU,h1,h7,h8,h9,aH,hk,c1,c2];have:E7 l x=true:=List.any_eq_true.2 ⟨k,hm,by simp [c1,c2]⟩;rw[this]
   ·simp only[zQ,simprocAttr,aU,h1,h7,h8,h9,aH,hk,c1,c2];refine⟨l.length-(i+1),_,_,ae,bJ.cut (s':=[]) 0 ae rfl rfl [1,7,8,9] (by simp [bX,aY,ak,h1,h7,h8,h9,i64]),i+1,rfl,aB,?_,?_,?_,?_,rfl,by rw[bj hk,List.any_append,jf];simp [c2]⟩ <;> (try simp only[zU,gV,cy,cJ,dV,reduceIte])
    ·exact h1
    ·exact h7
    ·exact h8
    ·rw[bF _ ae];rfl
  ·simp only[zQ,simprocAttr,aU,h1,h7,h8,h9,aH,hk,c1];refine⟨l.length-(i+1),_,_,ae,bJ.cut (s':=[]) 0 ae rfl rfl [1,7,8,9] (by simp [bX,aY,ak,h1,h7,h8,h9,i64]),i+1,rfl,aB,?_,?_,?_,?_,rfl,by rw[bj hk,List.any_append,jf];simp [c1]⟩ <;> (try simp only[zU,gV,cy,cJ,dV,reduceIte])
   ·exact h1
   ·exact h7
   ·exact h8
   ·rw[bF _ ae];rfl
 ·have dY:i=l.length:=by omega
  subst dY;have aH:¬(l.length:Int)<l.length:=ae;rw[ajt]at jf;simp only[zQ,simprocAttr,h1,h7,h8,h9,aH];have:E7 l x=false:=jf;rw[this]
theorem OO (x:Int):aM prog 107 [i64 x] (bV (tx x)):=by
 refine bk func107 ntmps107 results107 0 5 ?_;simp only[zX,simprocAttr,i64]
 repeat' (first
 |(with_reducible refine And.intro sW ?_)
 |(with_reducible first|refine lI (λhc=>?_) (λhc=>?_)|refine eu (λhc=>?_) (λhc=>?_)|refine ep (λhc=>?_) (λhc=>?_)|refine dn (λhc=>?_) (λhc=>?_)|refine dm (λhc=>?_) (λhc=>?_)|refine ja (λhc=>?_) (λhc=>?_)|refine eh (λhc=>?_) (λhc=>?_))<;>simp only[zI,simprocAttr,ge_iff_le,hc])
 all_goals (simp only[tx,bV];simp [*];try omega)
theorem aaF (l:List (Int×Int)) (x:Int) (hl:l.length<=1000000000):aM prog 102 [.d (.sl (l.map aU)),i64 x] (bV (E7 l x)):=by
 refine bk func102 ntmps102 results102 0 51 ?_;simp only[zX,simprocAttr,i64];refine ay (λn e s=>∃i:Nat,n=l.length-i/\i<=l.length/\e 0=.d (.sl (l.map aU))/\e 1=i64 x/\e 5=i64 i/\s=[]/\E7 (l.take i) x=false)
  ⟨_,_,_,bJ.refl,0,rfl,ae,rfl,rfl,rfl,rfl,rfl⟩ ?_
 rintro n e s ⟨i,rfl,hi,h0,h1,h5,rfl,jf⟩;rcases ajr i l.length with aB|iA
 ·obtain⟨y,hy⟩:∃y,l[i]?=some y:=bZ aB;have hm:=ai4 hy;have Uz:decide (y.1<=x)=true->decide (x<=y.2)=true->E7 l x=true:=λh1 h2=>by unfold E7;rw[List.any_eq_true];exact⟨y,hm,by rw[h1,h2];rfl⟩
  have aa4:¬(y.1<=x/\x<=y.2)->E7 (l.take (i+1)) x=false:=λh=>by
   rw[bj hy];unfold E7 at jf ⊢;rw[List.any_append,jf];have:(decide (y.1<=x)&&decide (x<=y.2))=false:=by rw[ajO];intro hc;simp only[aji,decide_eq_true_eq]at hc;exact h hc
   simp [this]
  by_cases c1:y.1<=x
  ·by_cases c2:x<=y.2
   ·rw[Uz (bi c1) (bi c2)];simp only[zI,simprocAttr,h0,h1,h5,aB,hy,aU,iD,c1,c2];all_goals exact ed
   ·simp only[zI,simprocAttr,h0,h1,h5,aB,hy,aU,iD,c1,c2];refine⟨l.length-(i+1),_,_,ae,bJ.refl,i+1,rfl,aB,?_,?_,?_,rfl,aa4 (λh=>c2 h.2)⟩ <;> (try simp only[zU,gV,cy,cJ,dV,reduceIte])
    ·exact h0
    ·exact h1
    ·rw[bF _ ae];rfl
  ·simp only[zI,simprocAttr,h0,h1,h5,aB,hy,aU,iD,c1];refine⟨l.length-(i+1),_,_,ae,bJ.refl,i+1,rfl,aB,?_,?_,?_,rfl,aa4 (λh=>c1 h.1)⟩ <;> (try simp only[zU,gV,cy,cJ,dV,reduceIte])
   ·exact h0
   ·exact h1
   ·rw[bF _ ae];rfl
 ·have dY:i=l.length:=by omega
  subst dY;rw[ajt]at jf;rw[jf];simp only[zI,simprocAttr,h0,h1,h5,aj7];all_goals exact ed
theorem tb {t:List Int}{i:Int} (h0:0<=i) (h1:i<t.length):t[i.toNat]?=some (oo t i):=by unfold oo;rw[ajg ae];simp [List.getD,ajg (show i.toNat<t.length by omega)]
theorem S1 (n:Int) (t:List Int) (i:Int) (ht:t.length<=1000000) (h0:0<=i) (h1:i<=t.length):aM prog 105 [i64 n,.d (an t),i64 i] (bV (bY n t i)):=by
 have w1:IntKind.i64.wrap (i-1)=i-1:=bF _ ae;have hw:=OO (oo t (i-1));have Xq:=OO (oo t i);simp only[i64,bV]at hw Xq;have ov:(n=0)\/(¬n=0/\n=1)\/(¬n=0/\¬n=1/\n=2)\/(¬n=0/\¬n=1/\¬n=2/\n=3)\/(¬n=0/\¬n=1/\¬n=2/\¬n=3/\n=4)\/(¬n=0/\¬n=1/\¬n=2/\¬n=3/\¬n=4):=ae;have hg1:0<i->t[(i-1).toNat]?=some (oo t (i-1)):=λh=>tb ae ae;have ZJ:i<t.length->t[i.toNat]?=some (oo t i):=λh=>tb h0 h;by_cases c1:0<i
 ·by_cases c2:i<(t.length:Int)
  ·have hl:qj t i=tx (oo t (i-1)):=by simp [qj,c1]
   have hr:mi t i=tx (oo t i):=by simp [mi,c2]
   have b1:0<=i-1:=ae;have b2:i-1<(t.length:Int):=ae;have g1:=hg1 c1;have n0:¬i=0:=ae;have xf:decide (i=0)=false:=ce n0;have g2:=ZJ c2;have n1:¬i=(t.length:Int):=ae;have qK:decide (i=(t.length:Int))=false:=ce n1;refine bk func105 ntmps105 results105 0 1073742279 ?_;simp only[zI,simprocAttr,iD,an,c1,c2,w1,gt_iff_lt,h0,g1,b1,b2,g2];refine bO hw ?_;simp only[zI,simprocAttr,iD,an,c1,c2,w1,gt_iff_lt,h0,g1,b1,b2,g2];refine bO Xq ?_;rcases ov with a|⟨a,b⟩|⟨a,b,c⟩|⟨a,b,c,d⟩|⟨a,b,c,d,f⟩|⟨a,b,c,d,f⟩
   ·simp only[zI,simprocAttr,iD,an,c1,c2,w1,gt_iff_lt,h0,g1,b1,b2,g2,n0,n1,a];all_goals (simp only[bY,a,hl,hr,xf,qK,bV,jT,if_true,if_false,reduceIte,ajC,ajx];try rfl)
   ·simp only[zI,simprocAttr,iD,an,c1,c2,w1,gt_iff_lt,h0,g1,b1,b2,g2,n0,n1,a,b];all_goals (simp only[bY,a,b,hl,hr,xf,qK,bV,jT,if_true,if_false,reduceIte,ajC,ajx];try rfl)
   ·simp only[zI,simprocAttr,iD,an,c1,c2,w1,gt_iff_lt,h0,g1,b1,b2,g2,n0,n1,a,b,c];all_goals (simp only[bY,a,b,c,hl,hr,xf,qK,bV,jT,if_true,if_false,reduceIte,ajC,ajx];try rfl)
   ·simp only[zI,simprocAttr,iD,an,c1,c2,w1,gt_iff_lt,h0,g1,b1,b2,g2,n0,n1,a,b,c,d];all_goals (simp only[bY,a,b,c,d,hl,hr,xf,qK,bV,jT,if_true,if_false,reduceIte,ajC,ajx];try rfl)
   ·simp only[zI,simprocAttr,iD,an,c1,c2,w1,gt_iff_lt,h0,g1,b1,b2,g2,n0,n1,a,b,c,d,f];all_goals (simp only[bY,a,b,c,d,f,hl,hr,xf,qK,bV,jT,if_true,if_false,reduceIte,ajC,ajx];try rfl)
   ·simp only[zI,simprocAttr,iD,an,c1,c2,w1,gt_iff_lt,h0,g1,b1,b2,g2,n0,n1,a,b,c,d,f];all_goals (simp only[bY,a,b,c,d,f,hl,hr,xf,qK,bV,jT,if_true,if_false,reduceIte,ajC,ajx];try rfl)
  ·have hl:qj t i=tx (oo t (i-1)):=by simp [qj,c1]
   have hr:mi t i=false:=by simp [mi,c2]
   have b1:0<=i-1:=ae;have b2:i-1<(t.length:Int):=ae;have g1:=hg1 c1;have n0:¬i=0:=ae;have xf:decide (i=0)=false:=ce n0;have n1:i=(t.length:Int):=ae;have qK:decide (i=(t.length:Int))=true:=bi n1;refine bk func105 ntmps105 results105 0 1073742279 ?_;simp only[zI,simprocAttr,iD,an,c1,c2,w1,gt_iff_lt,h0,g1,b1,b2];refine bO hw ?_;simp only[zI,simprocAttr,iD,an,c1,c2,w1,gt_iff_lt,h0,g1,b1,b2];have e1:(i=(t.length:Int))=True:=eq_true n1;rcases ov with a|⟨a,b⟩|⟨a,b,c⟩|⟨a,b,c,d⟩|⟨a,b,c,d,f⟩|⟨a,b,c,d,f⟩
   ·simp only[zI,simprocAttr,iD,an,c1,c2,w1,gt_iff_lt,h0,g1,b1,b2,n0,e1,a];all_goals (simp only[bY,a,hl,hr,xf,qK,bV,jT,if_true,if_false,reduceIte,ajC,ajx];try rfl)
   ·simp only[zI,simprocAttr,iD,an,c1,c2,w1,gt_iff_lt,h0,g1,b1,b2,n0,e1,a,b];all_goals (simp only[bY,a,b,hl,hr,xf,qK,bV,jT,if_true,if_false,reduceIte,ajC,ajx];try rfl)
   ·simp only[zI,simprocAttr,iD,an,c1,c2,w1,gt_iff_lt,h0,g1,b1,b2,n0,e1,a,b,c];all_goals (simp only[bY,a,b,c,hl,hr,xf,qK,bV,jT,if_true,if_false,reduceIte,ajC,ajx];try rfl)
   ·simp only[zI,simprocAttr,iD,an,c1,c2,w1,gt_iff_lt,h0,g1,b1,b2,n0,e1,a,b,c,d];all_goals (simp only[bY,a,b,c,d,hl,hr,xf,qK,bV,jT,if_true,if_false,reduceIte,ajC,ajx];try rfl)
   ·simp only[zI,simprocAttr,iD,an,c1,c2,w1,gt_iff_lt,h0,g1,b1,b2,n0,e1,a,b,c,d,f];all_goals (simp only[bY,a,b,c,d,f,hl,hr,xf,qK,bV,jT,if_true,if_false,reduceIte,ajC,ajx];try rfl)
   ·simp only[zI,simprocAttr,iD,an,c1,c2,w1,gt_iff_lt,h0,g1,b1,b2,n0,e1,a,b,c,d,f];all_goals (simp only[bY,a,b,c,d,f,hl,hr,xf,qK,bV,jT,if_true,if_false,reduceIte,ajC,ajx];try rfl)
 ·by_cases c2:i<(t.length:Int)
  ·have hl:qj t i=false:=by simp [qj,c1]
   have hr:mi t i=tx (oo t i):=by simp [mi,c2]
   have n0:i=0:=ae;have xf:decide (i=0)=true:=bi n0;have g2:=ZJ c2;have n1:¬i=(t.length:Int):=ae;have qK:decide (i=(t.length:Int))=false:=ce n1;refine bk func105 ntmps105 results105 0 1073742279 ?_;simp only[zI,simprocAttr,iD,an,c1,c2,w1,gt_iff_lt,h0,g2];refine bO Xq ?_;have e0:(i=0)=True:=eq_true n0;rcases ov with a|⟨a,b⟩|⟨a,b,c⟩|⟨a,b,c,d⟩|⟨a,b,c,d,f⟩|⟨a,b,c,d,f⟩
   ·simp only[zI,simprocAttr,iD,an,c1,c2,w1,gt_iff_lt,h0,g2,n1,e0,a];all_goals (simp only[bY,a,hl,hr,xf,qK,bV,jT,if_true,if_false,reduceIte,ajC,ajx];try rfl)
   ·simp only[zI,simprocAttr,iD,an,c1,c2,w1,gt_iff_lt,h0,g2,n1,e0,a,b];all_goals (simp only[bY,a,b,hl,hr,xf,qK,bV,jT,if_true,if_false,reduceIte,ajC,ajx];try rfl)
   ·simp only[zI,simprocAttr,iD,an,c1,c2,w1,gt_iff_lt,h0,g2,n1,e0,a,b,c];all_goals (simp only[bY,a,b,c,hl,hr,xf,qK,bV,jT,if_true,if_false,reduceIte,ajC,ajx];try rfl)
   ·simp only[zI,simprocAttr,iD,an,c1,c2,w1,gt_iff_lt,h0,g2,n1,e0,a,b,c,d];all_goals (simp only[bY,a,b,c,d,hl,hr,xf,qK,bV,jT,if_true,if_false,reduceIte,ajC,ajx];try rfl)
   ·simp only[zI,simprocAttr,iD,an,c1,c2,w1,gt_iff_lt,h0,g2,n1,e0,a,b,c,d,f];all_goals (simp only[bY,a,b,c,d,f,hl,hr,xf,qK,bV,jT,if_true,if_false,reduceIte,ajC,ajx];try rfl)
   ·simp only[zI,simprocAttr,iD,an,c1,c2,w1,gt_iff_lt,h0,g2,n1,e0,a,b,c,d,f];all_goals (simp only[bY,a,b,c,d,f,hl,hr,xf,qK,bV,jT,if_true,if_false,reduceIte,ajC,ajx];try rfl)
  ·have hl:qj t i=false:=by simp [qj,c1]
   have hr:mi t i=false:=by simp [mi,c2]
   have n0:i=0:=ae;have xf:decide (i=0)=true:=bi n0;have n1:i=(t.length:Int):=ae;have qK:decide (i=(t.length:Int))=true:=bi n1;refine bk func105 ntmps105 results105 0 1073742279 ?_;simp only[zI,simprocAttr,iD,an,c1,c2,w1,gt_iff_lt,h0];have e0:(i=0)=True:=eq_true n0;have e1:(i=(t.length:Int))=True:=eq_true n1;rcases ov with a|⟨a,b⟩|⟨a,b,c⟩|⟨a,b,c,d⟩|⟨a,b,c,d,f⟩|⟨a,b,c,d,f⟩
   ·simp only[zI,simprocAttr,iD,an,c1,c2,w1,gt_iff_lt,h0,e0,e1,a];all_goals (simp only[bY,a,hl,hr,xf,qK,bV,jT,if_true,if_false,reduceIte,ajC,ajx];try rfl)
   ·simp only[zI,simprocAttr,iD,an,c1,c2,w1,gt_iff_lt,h0,e0,e1,a,b];all_goals (simp only[bY,a,b,hl,hr,xf,qK,bV,jT,if_true,if_false,reduceIte,ajC,ajx];try rfl)
   ·simp only[zI,simprocAttr,iD,an,c1,c2,w1,gt_iff_lt,h0,e0,e1,a,b,c];all_goals (simp only[bY,a,b,c,hl,hr,xf,qK,bV,jT,if_true,if_false,reduceIte,ajC,ajx];try rfl)
   ·simp only[zI,simprocAttr,iD,an,c1,c2,w1,gt_iff_lt,h0,e0,e1,a,b,c,d];all_goals (simp only[bY,a,b,c,d,hl,hr,xf,qK,bV,jT,if_true,if_false,reduceIte,ajC,ajx];try rfl)
   ·simp only[zI,simprocAttr,iD,an,c1,c2,w1,gt_iff_lt,h0,e0,e1,a,b,c,d,f];all_goals (simp only[bY,a,b,c,d,f,hl,hr,xf,qK,bV,jT,if_true,if_false,reduceIte,ajC,ajx];try rfl)
   ·simp only[zI,simprocAttr,iD,an,c1,c2,w1,gt_iff_lt,h0,e0,e1,a,b,c,d,f];all_goals (simp only[bY,a,b,c,d,f,hl,hr,xf,qK,bV,jT,if_true,if_false,reduceIte,ajC,ajx];try rfl)
section mono
variable {rec rec':Int->Task->bh->Option (Bool×bh)} (h:∀m task st r,rec m task st=some r->rec' m task st=some r)
variable{i:Int}{c:aD}{st:bh}{r:Bool×bh}{most:Int}{next:Goal}{t:List Int}{fuel:Int}
include h
theorem iV {g:Goal}{r:Option (Int×aD)×bh} (hr:cF rec g i c st=some r):cF rec' g i c st=some r:=by
 unfold cF at hr ⊢;cases hx:rec 1 (.run g i c) ⟨st.steps,false,[],[]⟩ with
 |none=>rw[hx]at hr;cases hr
 |some x=>rw[hx]at hr;rw[h _ _ _ _ hx];exact hr
omit h in
theorem vg {a a':Option (Bool×bh)}{k k':bh->Option (Bool×bh)} (h1:∀r,a=some r->a'=some r) (h2:∀s r,k s=some r->k' s=some r) {r:Bool×bh} (hr:rS a k=some r):rS a' k'=some r:=by
 cases a with
 |none=>cases hr
 |some x =>
  rw[h1 x rfl];obtain⟨b,s⟩:=x;cases b with
  |true=>exact hr
  |false=>exact h2 s r hr
omit h in
theorem r8 {f f':Int->bh->Option (Option (Int×aD)×bh)} (hf:∀k st r,f k st=some r->f' k st=some r):∀(n:Nat) (st:bh) (r:Option aD×bh),dh f n st=some r->dh f' n st=some r
 |0,_,_,hr=>hr
 |n+1,st,r,hr=>by
  simp only[dh]at hr ⊢;by_cases he:st.empty=true
  ·rw[be he]at hr ⊢;exact hr
  ·rw[ap he]at hr ⊢;cases hx:f n st with
   |none=>rw[hx]at hr;cases hr
   |some x =>
    rw[hx]at hr;rw[hf _ _ _ hx];obtain⟨o,s⟩:=x;cases o with
    |none=>exact r8 hf n s r hr
    |some p=>exact hr
theorem yj {op:Int}{aP:Re}{r:Option aD×bh} (hr:lG rec op aP i c st=some r):lG rec' op aP i c st=some r:=by
 unfold lG at hr ⊢;by_cases o:op=7
 ·rw[be o]at hr ⊢;cases hx:cF rec (.mk 0 aP 0 0 .nil) i c st with
  |none=>rw[hx]at hr;cases hr
  |some x=>rw[hx]at hr;rw[iV h hx];exact hr
 ·rw[ap o]at hr ⊢;exact r8 (λk st r hr=>iV h hr) _ _ _ hr
omit h in
theorem AW {f f':Re->bh->Option (Bool×bh)} (hf:∀k st r,f k st=some r->f' k st=some r):∀(l:List Re) (st:bh) (r:Bool×bh),po f l st=some r->po f' l st=some r
 |[],_,_,hr=>hr
 |k::l,st,r,hr=>by simp only[po]at hr ⊢;exact vg (hf k st) (AW hf l) hr
theorem Na{re:Re} (hr:dI t rec most re next i c st=some r):dI t rec' most re next i c st=some r:=by
 unfold dI at hr ⊢;by_cases o1:re.op=1
 ·rw[be o1]at hr ⊢;by_cases hc:i<t.length/\E7 re.set (oo t i)=true
  ·rw[be hc]at hr ⊢;exact h _ _ _ _ hr
  ·rw[ap hc]at hr ⊢;exact hr
 rw[ap o1]at hr ⊢;by_cases o2:re.op=2
 ·rw[be o2]at hr ⊢;exact h _ _ _ _ hr
 rw[ap o2]at hr ⊢;by_cases o3:re.op=3
 ·rw[be o3]at hr ⊢;exact AW (λk st r hr=>h _ _ _ _ hr) _ _ _ hr
 rw[ap o3]at hr ⊢;by_cases o5:re.op=5
 ·rw[be o5]at hr ⊢;cases hk:re.kids with
  |nil=>rw[hk]at hr;cases hr
  |cons k l=>rw[hk]at hr;exact h _ _ _ _ hr
 rw[ap o5]at hr ⊢;by_cases o6:re.op=6
 ·rw[be o6]at hr ⊢;simp only at hr ⊢;by_cases c1:(bG c re.n).1<0
  ·rw[be c1]at hr ⊢;exact hr
  rw[ap c1]at hr ⊢;by_cases c2:(bG c re.n).2<(bG c re.n).1\/(t.length:Int)<(bG c re.n).2
  ·rw[be c2]at hr;cases hr
  rw[ap c2]at hr ⊢;by_cases c3:t.length<i+(bG c re.n).2-(bG c re.n).1
  ·rw[be c3]at hr ⊢;exact hr
  rw[ap c3]at hr ⊢;by_cases c4:ph t (bG c re.n).1 i ((bG c re.n).2-(bG c re.n).1).toNat=true
  ·rw[be c4]at hr ⊢;exact h _ _ _ _ hr
  ·rw[ap c4]at hr ⊢;exact hr
 rw[ap o6]at hr ⊢;by_cases o7:re.op=7\/re.op=8
 ·rw[be o7]at hr ⊢;cases hk:re.kids with
  |nil=>rw[hk]at hr;cases hr
  |cons k l =>
   rw[hk]at hr;simp only at hr ⊢;cases hx:lG rec re.op k i c st with
   |none=>rw[hx]at hr;cases hr
   |some x =>
    rw[hx]at hr;rw[yj h hx];obtain⟨o,s⟩:=x;simp only at hr ⊢;by_cases he:s.empty=true
    ·rw[be he]at hr ⊢;exact hr
    rw[ap he]at hr ⊢;by_cases hn:re.neg=true
    ·rw[be hn]at hr ⊢;cases o with
     |none=>exact h _ _ _ _ hr
     |some d=>exact hr
    ·rw[ap hn]at hr ⊢;cases o with
     |none=>exact hr
     |some d=>exact h _ _ _ _ hr
 rw[ap o7]at hr ⊢;by_cases o9:re.op=9
 ·rw[be o9]at hr ⊢;cases hk:re.kids with
  |nil=>rw[hk]at hr;cases hr
  |cons k l =>
   rw[hk]at hr;simp only at hr ⊢;cases hx:cF rec (.mk 0 k 0 0 .nil) i c st with
   |none=>rw[hx]at hr;cases hr
   |some x =>
    rw[hx]at hr;rw[iV h hx];obtain⟨o,s⟩:=x;simp only at hr ⊢;by_cases he:s.empty=true
    ·rw[be he]at hr ⊢;exact hr
    rw[ap he]at hr ⊢;cases o with
    |none=>exact hr
    |some d=>exact h _ _ _ _ hr
 rw[ap o9]at hr ⊢;by_cases Bt:re.op=10
 ·rw[be Bt]at hr ⊢
  match hk:re.kids with
  |[]=>rw[hk]at hr;cases hr
  |[_]=>rw[hk]at hr;cases hr
  |a::b::l=>rw[hk]at hr;exact h _ _ _ _ hr
 rw[ap Bt]at hr ⊢;by_cases oh:re.op=11
 ·rw[be oh]at hr ⊢;by_cases hc:bY re.n t i=true
  ·rw[be hc]at hr ⊢;exact h _ _ _ _ hr
  ·rw[ap hc]at hr ⊢;exact hr
 rw[ap oh]at hr ⊢;exact h _ _ _ _ hr
theorem Qz{re:Re}{k:Int} (hr:qT fuel rec most re k next i c st=some r):qT fuel rec' most re k next i c st=some r:=by
 unfold qT at hr ⊢;by_cases m:re.mode=2
 ·rw[be m]at hr ⊢;cases hx:cF rec (.mk 1 (re.eo 0) 0 0 .nil) i c st with
  |none=>rw[hx]at hr;cases hr
  |some x =>
   rw[hx]at hr;rw[iV h hx];obtain⟨o,s⟩:=x;cases o with
   |none=>exact hr
   |some d=>exact h _ _ _ _ hr
 rw[ap m]at hr ⊢;by_cases c1:st.steps<0\/10000000000000<st.steps
 ·rw[be c1]at hr;cases hr
 rw[ap c1]at hr ⊢;simp only at hr ⊢;by_cases he:(st.step fuel).empty=true
 ·rw[be he]at hr ⊢;exact hr
 rw[ap he]at hr ⊢;cases hk:re.kids with
 |nil=>rw[hk]at hr;cases hr
 |cons aP l =>
  rw[hk]at hr;simp only at hr ⊢;by_cases c2:k<re.mn
  ·rw[be c2]at hr ⊢;exact h _ _ _ _ hr
  rw[ap c2]at hr ⊢;by_cases c3:re.mx=-1\/k<re.mx
  ·simp only[be c3]at hr ⊢;by_cases c4:re.mode=1
   ·rw[be c4]at hr ⊢;exact vg (λr hr=>h _ _ _ _ hr) (λs r hr=>h _ _ _ _ hr) hr
   ·rw[ap c4]at hr ⊢;exact vg (λr hr=>h _ _ _ _ hr) (λs r hr=>h _ _ _ _ hr) hr
  ·simp only[ap c3]at hr ⊢;by_cases c4:re.mode=1
   ·rw[be c4]at hr ⊢;exact vg (λr hr=>h _ _ _ _ hr) (λs r hr=>hr) hr
   ·rw[ap c4]at hr ⊢;exact vg (λr hr=>hr) (λs r hr=>h _ _ _ _ hr) hr
theorem KR{task:Task} (hr:bI t fuel rec most task st=some r):bI t fuel rec' most task st=some r:=by
 cases task with
 |run g i c =>
  simp only[bI]at hr ⊢;by_cases hi:i<0\/(t.length:Int)<i
  ·rw[be hi]at hr;cases hr
  rw[ap hi]at hr ⊢;cases g with
  |nil=>exact hr
  |mk kind re k fH next =>
   simp only at hr ⊢;by_cases k1:kind=1
   ·rw[be k1]at hr ⊢;exact h _ _ _ _ hr
   rw[ap k1]at hr ⊢;by_cases k2:kind=2
   ·rw[be k2]at hr ⊢;by_cases c1:re.mn<=k/\i=fH
    ·rw[be c1]at hr ⊢;exact hr
    rw[ap c1]at hr ⊢;by_cases c2:k<0\/10000000000000<k
    ·rw[be c2]at hr;cases hr
    rw[ap c2]at hr ⊢;exact h _ _ _ _ hr
   rw[ap k2]at hr ⊢;by_cases k3:kind=3
   ·rw[be k3]at hr ⊢;by_cases c1:1000000000<c.length
    ·rw[be c1]at hr;cases hr
    rw[ap c1]at hr ⊢;exact h _ _ _ _ hr
   rw[ap k3]at hr ⊢;by_cases k4:kind=4
   ·rw[be k4]at hr ⊢;by_cases c1:i=fH
    ·rw[be c1]at hr ⊢;exact h _ _ _ _ hr
    ·rw[ap c1]at hr ⊢;exact hr
   rw[ap k4]at hr ⊢;exact h _ _ _ _ hr
 |rep g i c =>
  simp only[bI]at hr ⊢;by_cases hi:i<0\/(t.length:Int)<i
  ·rw[be hi]at hr;cases hr
  rw[ap hi]at hr ⊢;cases g with
  |nil=>cases hr
  |mk kind re k fH next=>exact Qz h hr
 |node g i c =>
  simp only[bI]at hr ⊢;by_cases hi:i<0\/(t.length:Int)<i
  ·rw[be hi]at hr;cases hr
  rw[ap hi]at hr ⊢;cases g with
  |nil=>cases hr
  |mk kind re k fH next =>
   simp only at hr ⊢;by_cases o4:re.op=4
   ·rw[be o4]at hr ⊢;exact h _ _ _ _ hr
   rw[ap o4]at hr ⊢;by_cases c0:1000000000<re.set.length\/1000000000<re.kids.length\/1000000000<c.length
   ·rw[be c0]at hr;cases hr
   rw[ap c0]at hr ⊢;by_cases c1:st.steps<0\/10000000000000<st.steps
   ·rw[be c1]at hr;cases hr
   rw[ap c1]at hr ⊢;by_cases he:(st.step fuel).empty=true
   ·rw[be he]at hr ⊢;exact hr
   rw[ap he]at hr ⊢;exact Na h hr
end mono
variable{fuel:Int}{task:Task}{r:Bool×bh}{n':Nat}{t:List Int}
theorem Mv {t:List Int}{fuel:Int}:∀(n:Nat) (m:Int) (task:Task) (st:bh) (r:Bool×bh),fV t fuel n m task st=some r->fV t fuel (n+1) m task st=some r
 |0,_,_,_,_,hr=>by cases hr
 |n+1,m,task,st,r,hr=>KR (rec:=fV t fuel n) (λm task st r hr=>Mv n m task st r hr) hr
theorem eN{n:Nat} (hn:n<=n') {m:Int}{st:bh} (hr:fV t fuel n m task st=some r):fV t fuel n' m task st=some r:=by
 induction hn with
 |refl=>exact hr
 |step _ ih=>exact Mv _ _ _ _ _ ih
theorem Vo{n:Nat}{m:Int}{st:bh}{r':Bool×bh} (h1:fV t fuel n m task st=some r) (h2:fV t fuel n' m task st=some r'):r=r':=by have e1:=eN (Nat.le_max_left n n') h1;have e2:=eN (Nat.le_max_right n n') h2;rw[e1]at e2;exact Option.some.inj e2
end Go.Proofs.Ytfmdmlfhigocaaa
