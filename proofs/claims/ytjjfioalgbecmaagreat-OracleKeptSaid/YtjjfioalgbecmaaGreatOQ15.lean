/- A part of the proof (F72 K0 O3 G4 G2). -/
import Derived.Test.YtjjfioalgbecmaaGreatOQ14
set_option linter.unusedSimpArgs false
set_option linter.unusedVariables false
open Nat renaming reduceShiftRight → jN, reduceMod → oN, reduceEqDiff → oV, reduceBEq → pZ
open Int renaming reduceEq → D6
set_option maxRecDepth 100000
set_option maxHeartbeats 80000000
namespace Go.Proofs.YtjjfioalgbecmaaGreat
open Go.VL Go.Proofs.Tryz
variable{pre:List V}{s:List VL.Obj}{post:List V}{g:Nat}{lo:Nat}{id:Nat}{sz:Nat}{au:List (List V)}{n:Nat}{e:Env}{K:V->List VL.Obj->Prop}{f:FuncId}{l:List (List D)}{P:Program}{args:List V}
theorem CH {σ:Gh}{w:World} (hI:Inv σ s w) {o:VL.Obj} (k sz:Nat) (ho:s[k]?=some o) (gD:o.au=[pre++.fu []::post]) (eZ:pre.length+1+post.length=o.sz) :
  ∃σ',aC σ s w σ' (s.set k { o with au:=[pre++.so s.length 0 0 0::post] }++[⟨0,true,sz,[]⟩]) w/\Inv σ' (s.set k { o with au:=[pre++.so s.length 0 0 0::post] }++[⟨0,true,sz,[]⟩]) w:=by
 have hk:=(List.getElem?_eq_some_iff.1 ho).1;have hp:=mV (p:=none) (o':=⟨0,true,sz,[]⟩) (w':=w) hI rfl rfl rfl (ajZ _) (λ_ _=>rfl) (λ_ _ h'=>by cases h') (λ_=>.inl (.inl ⟨rfl,rfl⟩));have SB:(s++[(⟨0,true,sz,[]⟩:VL.Obj)])[k]?=some o:=by rw[List.getElem?_append_left hk];exact ho
 have hr:=CB hp.2 (els':=[pre++.so s.length 0 0 0::post]) SB (by intro e he;rw[List.mem_singleton.1 he];simp;omega) (by rw[gD];rfl) (by
  intro es he;rw[gD]at he;have hm:(pre++.fu []::post)∈fz es:=by rw[<- he];exact List.mem_singleton.2 rfl
  unfold fz at hm;obtain⟨x,_,hx⟩:=List.mem_map.1 hm;have hf:V.fu []∈[V.d (.sc x.key),V.d (.sc x.val)]:=by rw[hx];simp
  simp at hf) (λi j x' hx=>by
  rw[gD];cases i with
  |succ i=>simp at hx
  |zero =>
   simp only[List.getElem?_cons_zero,akA]at hx ⊢;by_cases hj:j=pre.length
   ·subst hj;rw[List.getElem?_append_right (ajZ _),akQ]at hx ⊢;simp only[List.getElem?_cons_zero,ajU]at hx ⊢;subst hx;refine⟨_,rfl,λu hu=>?_⟩;cases hu with|fu hx=>?_
    exact .so ⟨0,true,sz,[]⟩ ak (ajZ _) ⟨_,_,rfl⟩ (λ_=>.inl ⟨bP _ _ _,⟨_,rfl⟩,rfl,rfl⟩)
   ·refine⟨x',?_,λu hu=>hu⟩;rcases akd j pre.length with az|gx
    ·rw[List.getElem?_append_left az]at hx ⊢;exact hx
    ·rw[List.getElem?_append_right gx]at hx ⊢;cases hm:j-pre.length with
     |zero=>omega
     |succ m=>rw[hm]at hx;simpa using hx)
 have eO:(s++[(⟨0,true,sz,[]⟩:VL.Obj)]).set k { o with au:=[pre++.so s.length 0 0 0::post] }=s.set k { o with au:=[pre++.so s.length 0 0 0::post] }++[⟨0,true,sz,[]⟩]:=by rw[List.set_append_left _ _ hk]
 rw[eO]at hr;exact⟨_,hp.1.trans hr.1,hr.2⟩
theorem lh {lim:Nat}{live:Bool}{ds:List (List D)} (ho:s[id]?=some ⟨g,live,sz,au⟩) (he:(au.drop lo).take n=ds.map (λc=>c.map V.d)) (hn:lo+n<=au.length) (hl:lim<=id\/live=false) :
  bc lim s (.so id g lo n)=some (.d (.sl ds)):=by
 simp only[bc,cT,ho,true_and];rw[be ⟨hn,hl⟩,he,uq];rfl
theorem fW (t sz:Nat) (h:e t=.fu []):bW e s (bK e t (.so s.length 0 0 0)) (s++[⟨0,true,sz,[]⟩]):=by
 intro σ0 s0 w0 σ w N a hE hI hR;have hp:=mV (p:=none) (o':=⟨0,true,sz,[]⟩) (w':=w) hI rfl rfl rfl (ajZ _) (λ_ _=>rfl) (λ_ _ h'=>by cases h') (λ_=>.inl (.inl ⟨rfl,rfl⟩));refine⟨_,hE.trans hp.1,hp.2,hR.1,hR.2.1,λk=>?_⟩;by_cases hk:k=t
 ·subst hk;have hu:=(hR.2.2 k).aR hp.1;rw[h]at hu;rw[bK,be rfl];generalize a.tmps.getD k undef=u at hu;cases hu with|fu hx=>?_
  exact .so ⟨0,true,sz,[]⟩ ak (ajZ _) ⟨_,_,rfl⟩ (λ_=>.inl ⟨bP _ _ _,⟨_,rfl⟩,rfl,rfl⟩)
 ·rw[bK,ap hk];exact(hR.2.2 k).aR hp.1
theorem kL{o:VL.Obj} (k sz:Nat) (ho:s[k]?=some o) (gD:o.au=[pre++.fu []::post]) (eZ:pre.length+1+post.length=o.sz) :
  bW e s e (s.set k { o with au:=[pre++.so s.length 0 0 0::post] }++[⟨0,true,sz,[]⟩]):=by
 intro σ0 s0 w0 σ w N a hE hI hR;obtain⟨σ',h1,h2⟩:=CH hI k sz ho gD eZ;exact⟨σ',hE.trans h1,h2,hR.aR h1⟩
theorem Zf {L:Nat}{s':List VL.Obj} (t:Nat) (ds:List (List D)) (lim:Nat) (aZ:List Nat) (he:e t=.so id g lo n) (ho:s[id]?=some ⟨g,true,sz,au⟩)
  (hd:(au.drop lo).take n=ds.map λc=>c.map V.d) (hn:lo+n<=au.length) (hL:L<=lim) (RC:lim<=id) (hs:s.take lim=s') (gL:s'.all (aK lim)=true) (hk:aZ.all (λk=>k == t||aj lim (e k))=true) :
  bA L e s (od aZ (bK e t (.d (.sl ds)))) s':=by
 have WU:br s [id]=s.set id ⟨g,false,sz,au⟩:=by simp [br,ck,ho]
 have dc:=(List.getElem?_eq_some_iff.1 ho).1;have hc:fp (br s [id]).length (br s [id]) (e t)=.d (.sl ds):=by rw[he,fp,lh (au:=au) (live:=false) (sz:=sz) (by rw[WU];simp [dc]) hd hn (.inr rfl)];rfl
 have adN:jE (br s [id]) [t] e=bK e t (.d (.sl ds)):=by
  funext k;unfold jE bK;by_cases ZC:k=t
  ·subst ZC;simp [hc]
  ·simp [ZC]
 have h1:=bA.freeze (L:=L) (e:=e) (s:=s) [id] [t];rw[adN]at h1;refine h1.trans (bA.cut lim hL ?_ gL aZ ?_)
 ·rw[WU,List.take_set_of_le RC,hs]
 ·rw[aj3]at hk ⊢;intro k vd;have:=hk k vd;simp only[Bool.or_eq_true,beq_iff_eq]at this;unfold bK;by_cases ZC:k=t
  ·rw[be ZC];rfl
  ·rw[ap ZC];exact this.resolve_left ZC
def Bf (P:Program) (f:FuncId) (args:List V) (sz:Nat) (l:List (List D)):Prop :=
 ar P f args [] λv s=>∃g,v=.so 0 g 0 l.length/\s=[⟨g,true,sz,l.map λc=>c.map V.d⟩]
theorem xN (ρ:List Nat):∀c:List D,aE.go ρ (c.map V.d)=c.map V.d
 |[]=>rfl
 |x::c=>by simp only[ajR,aE.go,aE,xN ρ c]
theorem Bf.call (h:Bf P f args sz l) (ha:args=args.map (aE [])) (hr:aj.go 0 args=true)
  (hk:∀g,K (.so s.length g 0 l.length) (s++[⟨g,true,sz,l.map λc=>c.map V.d⟩])):ar P f args s K:=by
 refine g9 h [] rfl ak (λk o h=>by simp at h) ha hr rfl ?_;rintro v s' ⟨g,rfl,rfl⟩ _;have e1:aE (pY [] s [] [(⟨g,true,sz,l.map λc=>c.map V.d⟩:VL.Obj)]) (.so 0 g 0 l.length)=.so s.length g 0 l.length:=by simp [pY,aE]
 have e2:aN (pY [] s [] [(⟨g,true,sz,l.map λc=>c.map V.d⟩:VL.Obj)]) ⟨g,true,sz,l.map λc=>c.map V.d⟩=⟨g,true,sz,l.map λc=>c.map V.d⟩:=by unfold aN;congr 1;rw[akq];exact akz λc _=>xN _ c
 rw[e1];simp only[ajX,akW,akJ,ajV,ajR,e2,aJ];exact hk g
theorem Bf.hole{k:Nat}{ob:VL.Obj} (h:Bf P f args sz l) (ha:args=args.map (aE [])) (hr:aj.go 0 args=true) (hs:s[k]?=some ob)
  (hk:K (.so k (ob.g+1) 0 l.length) (s.set k ⟨ob.g+1,true,sz,l.map λc=>c.map V.d⟩)):ar P f args s K:=by
 have h1:ar P f args s λv s1=>∃g,v=.so s.length g 0 l.length/\s1=s++[⟨g,true,sz,l.map λc=>c.map V.d⟩]:=h.call ha hr λg=>⟨g,rfl,rfl⟩
 refine⟨h1.1,λσ w vals hI hl hv=>(h1.2 σ w vals hI hl hv).mono λe w' ⟨u,v,σ',s',k1,k2,k3,k4,g,k5,k6⟩=>?_⟩;subst k5 k6;obtain⟨m1,m2,m3⟩:=nP hI k2 k3 hs rfl (λi' j x' jR=>by
  rw[List.getElem?_map]at jR;cases hq:l[i']? with
  |none=>rw[hq]at jR;cases jR
  |some c =>
   rw[hq]at jR;simp only[ajS,akA,List.getElem?_map]at jR;obtain⟨d,_,rfl⟩:=Option.map_eq_some_iff.1 jR;rfl)
 exact⟨u,_,_,_,k1,m1,m2,m3 _ _ _ k4,hk⟩
theorem vS (aZ:List Nat) (c:List D):cJ.go aZ (c.map V.d)=c.map V.d:=by rw[ov,akq];exact akz λx _=>rfl
theorem Tv{m:Nat} (ho:s[id]?=some ⟨g,true,sz,au⟩) (he:au=l.map λc=>c.map V.d) (hn:n=m) :
  v7 0 s (.so id g 0 n) λv s1=>∃g,v=.so 0 g 0 m/\s1=[⟨g,true,sz,l.map λc=>c.map V.d⟩]:=by
 have dc:=fR ho;refine⟨[id],?_,g,?_,?_⟩
 ·simp [An,dc]
 ·simp [cJ,hn,List.idxOf?,List.findIdx?_cons]
 ·have hg:s.getD id hole=⟨g,true,sz,au⟩:=by rw[List.getD,ho];rfl
  simp only[kx,ajR,ajV,hg,di,he,akq];congr 2;exact akz λc _=>vS _ c
def Re.oA (re:Re):Bool:=decide (re.op=7\/re.op=8)
mutual
def Re.looks:Re->Nat
 |.mk op _ kids _ _ _ _ _=>(if op=7\/op=8 then 1 else 0)+Re.ba kids
def Re.ba:List Re->Nat
 |[]=>0
 |k::l=>k.looks+Re.ba l
end
mutual
def Re.bk:Re->Nat->D
 |.mk op set kids mn mx mode n neg,k=>.el [iD op,.sl (set.map aT),.sl (kids.map Re.cells),iD mn,iD mx,iD mode,iD n,bD neg,.sl (Re.dP kids (k+if op=7\/op=8 then 1 else 0)),iD k]
def Re.dP:List Re->Nat->List (List D)
 |[],_=>[]
 |x::l,k=>[x.bk k]::Re.dP l (k+x.looks)
end
theorem Re.jZ (re:Re):re.looks=(if re.op=7\/re.op=8 then 1 else 0)+Re.ba re.kids:=by cases re;rfl
theorem Re.ek (re:Re) (k:Nat):re.bk k=.el [iD re.op,.sl (re.set.map aT),.sl (re.kids.map Re.cells),iD re.mn,iD re.mx,iD re.mode,iD re.n,bD re.neg,.sl (Re.dP re.kids (k+if re.op=7\/re.op=8 then 1 else 0)),iD k]:=by
 cases re;rfl
theorem Re.oz:∀(l:List Re) (k:Nat),(Re.dP l k).length=l.length
 |[],_=>rfl
 |x::l,k=>by simp [Re.dP,Re.oz l]
def dz (t:List Int) (root parts:D) (bg nb:Nat):VL.Obj:=⟨0,true,4,[[.d (ao t),.d root,.d parts,.so 1 bg 0 nb]]⟩
def fx (bg:Nat) (Bs:List (List Bool)):VL.Obj:=⟨bg,true,1,Bs.map λl=>[.d (.sl (l.map λb=>[bD b]))]⟩
theorem gu (n bg:Nat) (Bs:List (List Bool)):((fx bg Bs).au.all λe=>e.all (aj n))=true:=by unfold fx;rw[aj3];intro e he;obtain⟨l,_,rfl⟩:=List.mem_map.1 he;rfl
theorem b6 {e0 v:V}:vQ e0 (.bx v)=.bx v:=(rfl)
theorem aO {id g i off b a:Nat}:eg (.pp id g i off b a)=some [.pp id g i off b a]:=rfl
theorem VD (l:List (Int×Int)) (x:Int) (hl:l.length<=1000000):aM Tryz.prog 66 [.d (.sl (l.map aT)),i64 x] (bV (ED l x)):=by
 refine bo Tryz.func66 Tryz.ntmps66 Tryz.results66 0 979 ?_;simp only[zI,simprocAttr,ajM];refine aw (λn e s=>∃i:Nat,n=l.length-i/\i<=l.length/\e 1=i64 x/\e 7=.d (.sl (l.map aT))/\e 8=i64 l.length/\e 9=i64 i/\s=[]/\(l.take i).any (λs=>decide (s.1<=x)&&decide (x<=s.2))=false)
  ⟨_,_,_,bA.refl,0,rfl,ae,rfl,rfl,rfl,rfl,rfl,ak⟩ ?_
 rintro n e s ⟨i,rfl,hi,h1,h7,h8,h9,rfl,mS⟩;rcases akd i l.length with az|gx
 ·obtain⟨k,hk⟩:∃k,l[i]?=some k:=cc az;have aA:(i:Int)<l.length:=ae;have hm:=List.mem_of_getElem? hk;by_cases c1:k.1<=x
  ·by_cases c2:x<=k.2
   ·simp only[zQ,simprocAttr,aT,h1,h7,h8,h9,aA,hk,c1,c2];have:ED l x=true:=List.any_eq_true.2 ⟨k,hm,by simp [c1,c2]⟩;rw[this]
   ·simp only[zQ,simprocAttr,aT,h1,h7,h8,h9,aA,hk,c1,c2];refine⟨l.length-(i+1),_,_,ae,bA.cut (s':=[]) 0 ae rfl rfl [1,7,8,9] (by simp [bK,aS,aj,h1,h7,h8,h9,i64]),i+1,rfl,az,?_,?_,?_,?_,rfl,by rw[bm hk,List.any_append,mS];simp [c2]⟩ <;> (try simp only[zU,pZ,jN,oN,oV,reduceIte])
    ·exact h1
    ·exact h7
    ·exact h8
    ·rw[bG _ ae];rfl
  ·simp only[zQ,simprocAttr,aT,h1,h7,h8,h9,aA,hk,c1];refine⟨l.length-(i+1),_,_,ae,bA.cut (s':=[]) 0 ae rfl rfl [1,7,8,9] (by simp [bK,aS,aj,h1,h7,h8,h9,i64]),i+1,rfl,az,?_,?_,?_,?_,rfl,by rw[bm hk,List.any_append,mS];simp [c1]⟩ <;> (try simp only[zU,pZ,jN,oN,oV,reduceIte])
   ·exact h1
   ·exact h7
   ·exact h8
   ·rw[bG _ ae];rfl
 ·have dX:i=l.length:=by omega
  subst dX;have aA:¬(l.length:Int)<l.length:=ae;rw[akg]at mS;simp only[zQ,simprocAttr,h1,h7,h8,h9,aA];have:ED l x=false:=mS;rw[this]
theorem N4 (x:Int):aM prog 138 [i64 x] (bV (sj x)):=by
 refine bo func138 ntmps138 results138 0 5 ?_;simp only[zX,simprocAttr,i64]
 repeat' (first
 |(with_reducible refine And.intro qH ?_)
 |(with_reducible first|refine jQ (λhc=>?_) (λhc=>?_)|refine dI (λhc=>?_) (λhc=>?_)|refine dH (λhc=>?_) (λhc=>?_)|refine cZ (λhc=>?_) (λhc=>?_)|refine cY (λhc=>?_) (λhc=>?_)|refine gX (λhc=>?_) (λhc=>?_)|refine dF (λhc=>?_) (λhc=>?_))<;>simp only[zI,simprocAttr,ge_iff_le,hc])
 all_goals (simp only[sj,bV];simp [*];try omega)
theorem aa7 (l:List (Int×Int)) (x:Int) (hl:l.length<=1000000000):aM prog 129 [.d (.sl (l.map aT)),i64 x] (bV (ED l x)):=by
 refine bo func129 ntmps129 results129 0 51 ?_;simp only[zX,simprocAttr,i64];refine aw (λn e s=>∃i:Nat,n=l.length-i/\i<=l.length/\e 0=.d (.sl (l.map aT))/\e 1=i64 x/\e 5=i64 i/\s=[]/\ED (l.take i) x=false)
  ⟨_,_,_,bA.refl,0,rfl,ae,rfl,rfl,rfl,rfl,rfl⟩ ?_
 rintro n e s ⟨i,rfl,hi,h0,h1,h5,rfl,mS⟩;rcases akd i l.length with az|gx
 ·obtain⟨y,hy⟩:∃y,l[i]?=some y:=cc az;have hm:=List.mem_of_getElem? hy;have afu:decide (y.1<=x)=true->decide (x<=y.2)=true->ED l x=true:=λh1 h2=>by unfold ED;rw[List.any_eq_true];exact⟨y,hm,by rw[h1,h2];rfl⟩
  have aby:¬(y.1<=x/\x<=y.2)->ED (l.take (i+1)) x=false:=λh=>by
   rw[bm hy];unfold ED at mS ⊢;rw[List.any_append,mS];have:(decide (y.1<=x)&&decide (x<=y.2))=false:=by rw[akE];intro hc;simp only[aj5,decide_eq_true_eq]at hc;exact h hc
   simp [this]
  by_cases c1:y.1<=x
  ·by_cases c2:x<=y.2
   ·rw[afu (bi c1) (bi c2)];simp only[zI,simprocAttr,h0,h1,h5,az,hy,aT,iD,c1,c2];all_goals exact dW
   ·simp only[zI,simprocAttr,h0,h1,h5,az,hy,aT,iD,c1,c2];refine⟨l.length-(i+1),_,_,ae,bA.refl,i+1,rfl,az,?_,?_,?_,rfl,aby (λh=>c2 h.2)⟩ <;> (try simp only[zU,pZ,jN,oN,oV,reduceIte])
    ·exact h0
    ·exact h1
    ·rw[bG _ ae];rfl
  ·simp only[zI,simprocAttr,h0,h1,h5,az,hy,aT,iD,c1];refine⟨l.length-(i+1),_,_,ae,bA.refl,i+1,rfl,az,?_,?_,?_,rfl,aby (λh=>c1 h.1)⟩ <;> (try simp only[zU,pZ,jN,oN,oV,reduceIte])
   ·exact h0
   ·exact h1
   ·rw[bG _ ae];rfl
 ·have dX:i=l.length:=by omega
  subst dX;rw[akg]at mS;rw[mS];simp only[zI,simprocAttr,h0,h1,h5,ak9];all_goals exact dW
theorem pM {t:List Int}{i:Int} (h0:0<=i) (h1:i<t.length):t[i.toNat]?=some (mG t i):=by unfold mG;rw[List.getElem?_eq_getElem ae];simp [List.getD,List.getElem?_eq_getElem (show i.toNat<t.length by omega)]
theorem SM (n:Int) (t:List Int) (i:Int) (ht:t.length<=1000000) (h0:0<=i) (h1:i<=t.length):aM prog 132 [i64 n,.d (ao t),i64 i] (bV (bL n t i)):=by
 have w1:IntKind.i64.wrap (i-1)=i-1:=bG _ ae;have hw:=N4 (mG t (i-1));have U1:=N4 (mG t i);simp only[i64,bV]at hw U1;have wg:(n=0)\/(¬n=0/\n=1)\/(¬n=0/\¬n=1/\n=2)\/(¬n=0/\¬n=1/\¬n=2/\n=3)\/(¬n=0/\¬n=1/\¬n=2/\¬n=3/\n=4)\/(¬n=0/\¬n=1/\¬n=2/\¬n=3/\¬n=4):=ae;have hg1:0<i->t[(i-1).toNat]?=some (mG t (i-1)):=λh=>pM ae ae;have Q4:i<t.length->t[i.toNat]?=some (mG t i):=λh=>pM h0 h;by_cases c1:0<i
 ·by_cases c2:i<(t.length:Int)
  ·have hl:pn t i=sj (mG t (i-1)):=by simp [pn,c1]
   have hr:lD t i=sj (mG t i):=by simp [lD,c2]
   have b1:0<=i-1:=ae;have b2:i-1<(t.length:Int):=ae;have g1:=hg1 c1;have n0:¬i=0:=ae;have xt:decide (i=0)=false:=ce n0;have g2:=Q4 c2;have n1:¬i=(t.length:Int):=ae;have qh:decide (i=(t.length:Int))=false:=ce n1;refine bo func132 ntmps132 results132 0 1073742279 ?_;simp only[zI,simprocAttr,iD,ao,c1,c2,w1,gt_iff_lt,h0,g1,b1,b2,g2];refine dY hw ?_;simp only[zI,simprocAttr,iD,ao,c1,c2,w1,gt_iff_lt,h0,g1,b1,b2,g2];refine dY U1 ?_;rcases wg with a|⟨a,b⟩|⟨a,b,c⟩|⟨a,b,c,d⟩|⟨a,b,c,d,f⟩|⟨a,b,c,d,f⟩
   ·simp only[zI,simprocAttr,iD,ao,c1,c2,w1,gt_iff_lt,h0,g1,b1,b2,g2,n0,n1,a];all_goals (simp only[bL,a,hl,hr,xt,qh,bV,D6,if_true,if_false,reduceIte,ako,akl];try rfl)
   ·simp only[zI,simprocAttr,iD,ao,c1,c2,w1,gt_iff_lt,h0,g1,b1,b2,g2,n0,n1,a,b];all_goals (simp only[bL,a,b,hl,hr,xt,qh,bV,D6,if_true,if_false,reduceIte,ako,akl];try rfl)
   ·simp only[zI,simprocAttr,iD,ao,c1,c2,w1,gt_iff_lt,h0,g1,b1,b2,g2,n0,n1,a,b,c];all_goals (simp only[bL,a,b,c,hl,hr,xt,qh,bV,D6,if_true,if_false,reduceIte,ako,akl];try rfl)
   ·simp only[zI,simprocAttr,iD,ao,c1,c2,w1,gt_iff_lt,h0,g1,b1,b2,g2,n0,n1,a,b,c,d];all_goals (simp only[bL,a,b,c,d,hl,hr,xt,qh,bV,D6,if_true,if_false,reduceIte,ako,akl];try rfl)
   ·simp only[zI,simprocAttr,iD,ao,c1,c2,w1,gt_iff_lt,h0,g1,b1,b2,g2,n0,n1,a,b,c,d,f];all_goals (simp only[bL,a,b,c,d,f,hl,hr,xt,qh,bV,D6,if_true,if_false,reduceIte,ako,akl];try rfl)
   ·simp only[zI,simprocAttr,iD,ao,c1,c2,w1,gt_iff_lt,h0,g1,b1,b2,g2,n0,n1,a,b,c,d,f];all_goals (simp only[bL,a,b,c,d,f,hl,hr,xt,qh,bV,D6,if_true,if_false,reduceIte,ako,akl];try rfl)
  ·have hl:pn t i=sj (mG t (i-1)):=by simp [pn,c1]
   have hr:lD t i=false:=by simp [lD,c2]
   have b1:0<=i-1:=ae;have b2:i-1<(t.length:Int):=ae;have g1:=hg1 c1;have n0:¬i=0:=ae;have xt:decide (i=0)=false:=ce n0;have n1:i=(t.length:Int):=ae;have qh:decide (i=(t.length:Int))=true:=bi n1;refine bo func132 ntmps132 results132 0 1073742279 ?_;simp only[zI,simprocAttr,iD,ao,c1,c2,w1,gt_iff_lt,h0,g1,b1,b2];refine dY hw ?_;simp only[zI,simprocAttr,iD,ao,c1,c2,w1,gt_iff_lt,h0,g1,b1,b2];have e1:(i=(t.length:Int))=True:=eq_true n1;rcases wg with a|⟨a,b⟩|⟨a,b,c⟩|⟨a,b,c,d⟩|⟨a,b,c,d,f⟩|⟨a,b,c,d,f⟩
   ·simp only[zI,simprocAttr,iD,ao,c1,c2,w1,gt_iff_lt,h0,g1,b1,b2,n0,e1,a];all_goals (simp only[bL,a,hl,hr,xt,qh,bV,D6,if_true,if_false,reduceIte,ako,akl];try rfl)
   ·simp only[zI,simprocAttr,iD,ao,c1,c2,w1,gt_iff_lt,h0,g1,b1,b2,n0,e1,a,b];all_goals (simp only[bL,a,b,hl,hr,xt,qh,bV,D6,if_true,if_false,reduceIte,ako,akl];try rfl)
   ·simp only[zI,simprocAttr,iD,ao,c1,c2,w1,gt_iff_lt,h0,g1,b1,b2,n0,e1,a,b,c];all_goals (simp only[bL,a,b,c,hl,hr,xt,qh,bV,D6,if_true,if_false,reduceIte,ako,akl];try rfl)
   ·simp only[zI,simprocAttr,iD,ao,c1,c2,w1,gt_iff_lt,h0,g1,b1,b2,n0,e1,a,b,c,d];all_goals (simp only[bL,a,b,c,d,hl,hr,xt,qh,bV,D6,if_true,if_false,reduceIte,ako,akl];try rfl)
   ·simp only[zI,simprocAttr,iD,ao,c1,c2,w1,gt_iff_lt,h0,g1,b1,b2,n0,e1,a,b,c,d,f];all_goals (simp only[bL,a,b,c,d,f,hl,hr,xt,qh,bV,D6,if_true,if_false,reduceIte,ako,akl];try rfl)
   ·simp only[zI,simprocAttr,iD,ao,c1,c2,w1,gt_iff_lt,h0,g1,b1,b2,n0,e1,a,b,c,d,f];all_goals (simp only[bL,a,b,c,d,f,hl,hr,xt,qh,bV,D6,if_true,if_false,reduceIte,ako,akl];try rfl)
 ·by_cases c2:i<(t.length:Int)
  ·have hl:pn t i=false:=by simp [pn,c1]
   have hr:lD t i=sj (mG t i):=by simp [lD,c2]
   have n0:i=0:=ae;have xt:decide (i=0)=true:=bi n0;have g2:=Q4 c2;have n1:¬i=(t.length:Int):=ae;have qh:decide (i=(t.length:Int))=false:=ce n1;refine bo func132 ntmps132 results132 0 1073742279 ?_;simp only[zI,simprocAttr,iD,ao,c1,c2,w1,gt_iff_lt,h0,g2];refine dY U1 ?_;have e0:(i=0)=True:=eq_true n0;rcases wg with a|⟨a,b⟩|⟨a,b,c⟩|⟨a,b,c,d⟩|⟨a,b,c,d,f⟩|⟨a,b,c,d,f⟩
   ·simp only[zI,simprocAttr,iD,ao,c1,c2,w1,gt_iff_lt,h0,g2,n1,e0,a];all_goals (simp only[bL,a,hl,hr,xt,qh,bV,D6,if_true,if_false,reduceIte,ako,akl];try rfl)
   ·simp only[zI,simprocAttr,iD,ao,c1,c2,w1,gt_iff_lt,h0,g2,n1,e0,a,b];all_goals (simp only[bL,a,b,hl,hr,xt,qh,bV,D6,if_true,if_false,reduceIte,ako,akl];try rfl)
   ·simp only[zI,simprocAttr,iD,ao,c1,c2,w1,gt_iff_lt,h0,g2,n1,e0,a,b,c];all_goals (simp only[bL,a,b,c,hl,hr,xt,qh,bV,D6,if_true,if_false,reduceIte,ako,akl];try rfl)
   ·simp only[zI,simprocAttr,iD,ao,c1,c2,w1,gt_iff_lt,h0,g2,n1,e0,a,b,c,d];all_goals (simp only[bL,a,b,c,d,hl,hr,xt,qh,bV,D6,if_true,if_false,reduceIte,ako,akl];try rfl)
   ·simp only[zI,simprocAttr,iD,ao,c1,c2,w1,gt_iff_lt,h0,g2,n1,e0,a,b,c,d,f];all_goals (simp only[bL,a,b,c,d,f,hl,hr,xt,qh,bV,D6,if_true,if_false,reduceIte,ako,akl];try rfl)
   ·simp only[zI,simprocAttr,iD,ao,c1,c2,w1,gt_iff_lt,h0,g2,n1,e0,a,b,c,d,f];all_goals (simp only[bL,a,b,c,d,f,hl,hr,xt,qh,bV,D6,if_true,if_false,reduceIte,ako,akl];try rfl)
  ·have hl:pn t i=false:=by simp [pn,c1]
   have hr:lD t i=false:=by simp [lD,c2]
   have n0:i=0:=ae;have xt:decide (i=0)=true:=bi n0;have n1:i=(t.length:Int):=ae;have qh:decide (i=(t.length:Int))=true:=bi n1;refine bo func132 ntmps132 results132 0 1073742279 ?_;simp only[zI,simprocAttr,iD,ao,c1,c2,w1,gt_iff_lt,h0];have e0:(i=0)=True:=eq_true n0;have e1:(i=(t.length:Int))=True:=eq_true n1;rcases wg with a|⟨a,b⟩|⟨a,b,c⟩|⟨a,b,c,d⟩|⟨a,b,c,d,f⟩|⟨a,b,c,d,f⟩
   ·simp only[zI,simprocAttr,iD,ao,c1,c2,w1,gt_iff_lt,h0,e0,e1,a];all_goals (simp only[bL,a,hl,hr,xt,qh,bV,D6,if_true,if_false,reduceIte,ako,akl];try rfl)
   ·simp only[zI,simprocAttr,iD,ao,c1,c2,w1,gt_iff_lt,h0,e0,e1,a,b];all_goals (simp only[bL,a,b,hl,hr,xt,qh,bV,D6,if_true,if_false,reduceIte,ako,akl];try rfl)
   ·simp only[zI,simprocAttr,iD,ao,c1,c2,w1,gt_iff_lt,h0,e0,e1,a,b,c];all_goals (simp only[bL,a,b,c,hl,hr,xt,qh,bV,D6,if_true,if_false,reduceIte,ako,akl];try rfl)
   ·simp only[zI,simprocAttr,iD,ao,c1,c2,w1,gt_iff_lt,h0,e0,e1,a,b,c,d];all_goals (simp only[bL,a,b,c,d,hl,hr,xt,qh,bV,D6,if_true,if_false,reduceIte,ako,akl];try rfl)
   ·simp only[zI,simprocAttr,iD,ao,c1,c2,w1,gt_iff_lt,h0,e0,e1,a,b,c,d,f];all_goals (simp only[bL,a,b,c,d,f,hl,hr,xt,qh,bV,D6,if_true,if_false,reduceIte,ako,akl];try rfl)
   ·simp only[zI,simprocAttr,iD,ao,c1,c2,w1,gt_iff_lt,h0,e0,e1,a,b,c,d,f];all_goals (simp only[bL,a,b,c,d,f,hl,hr,xt,qh,bV,D6,if_true,if_false,reduceIte,ako,akl];try rfl)
section mono
variable {rec rec':Int->Task->bO->Option (Bool×bO)} (h:∀m task st r,rec m task st=some r->rec' m task st=some r)
variable{st:bO}{c:aH}{i:Int}{r:Bool×bO}{most:Int}{next:Goal}{t:List Int}{fuel:Int}
include h
theorem iz {g:Goal}{r:Option (Int×aH)×bO} (hr:gv rec g i c st=some r):gv rec' g i c st=some r:=by
 unfold gv at hr ⊢;cases hx:rec 1 (.run g i c) ⟨st.steps,false,[],[]⟩ with
 |none=>rw[hx]at hr;cases hr
 |some x=>rw[hx]at hr;rw[h _ _ _ _ hx];exact hr
omit h in
theorem tS {a a':Option (Bool×bO)}{k k':bO->Option (Bool×bO)} (h1:∀r,a=some r->a'=some r) (h2:∀s r,k s=some r->k' s=some r) {r:Bool×bO} (hr:Ma a k=some r):Ma a' k'=some r:=by
 cases a with
 |none=>cases hr
 |some x =>
  rw[h1 x rfl];obtain⟨b,s⟩:=x;cases b with
  |true=>exact hr
  |false=>exact h2 s r hr
omit h in
theorem qW {f f':Int->bO->Option (Option (Int×aH)×bO)} (hf:∀k st r,f k st=some r->f' k st=some r):∀(n:Nat) (st:bO) (r:Option aH×bO),kk f n st=some r->kk f' n st=some r
 |0,_,_,hr=>hr
 |n+1,st,r,hr=>by
  simp only[kk]at hr ⊢;by_cases he:st.empty=true
  ·rw[be he]at hr ⊢;exact hr
  ·rw[ap he]at hr ⊢;cases hx:f n st with
   |none=>rw[hx]at hr;cases hr
   |some x =>
    rw[hx]at hr;rw[hf _ _ _ hx];obtain⟨o,s⟩:=x;cases o with
    |none=>exact qW hf n s r hr
    |some p=>exact hr
theorem xa {op:Int}{kid:Re}{r:Option aH×bO} (hr:su rec op kid i c st=some r):su rec' op kid i c st=some r:=by
 unfold su at hr ⊢;by_cases o:op=7
 ·rw[be o]at hr ⊢;cases hx:gv rec (.mk 0 kid 0 0 .nil) i c st with
  |none=>rw[hx]at hr;cases hr
  |some x=>rw[hx]at hr;rw[iz h hx];exact hr
 ·rw[ap o]at hr ⊢;exact qW (λk st r hr=>iz h hr) _ _ _ hr
omit h in
theorem zO {f f':Re->bO->Option (Bool×bO)} (hf:∀k st r,f k st=some r->f' k st=some r):∀(l:List Re) (st:bO) (r:Bool×bO),Cv f l st=some r->Cv f' l st=some r
 |[],_,_,hr=>hr
 |k::l,st,r,hr=>by simp only[Cv]at hr ⊢;exact tS (hf k st) (zO hf l) hr
theorem Ms{re:Re} (hr:fG t rec most re next i c st=some r):fG t rec' most re next i c st=some r:=by
 unfold fG at hr ⊢;by_cases o1:re.op=1
 ·rw[be o1]at hr ⊢;by_cases hc:i<t.length/\ED re.set (mG t i)=true
  ·rw[be hc]at hr ⊢;exact h _ _ _ _ hr
  ·rw[ap hc]at hr ⊢;exact hr
 rw[ap o1]at hr ⊢;by_cases o2:re.op=2
 ·rw[be o2]at hr ⊢;exact h _ _ _ _ hr
 rw[ap o2]at hr ⊢;by_cases o3:re.op=3
 ·rw[be o3]at hr ⊢;exact zO (λk st r hr=>h _ _ _ _ hr) _ _ _ hr
 rw[ap o3]at hr ⊢;by_cases o5:re.op=5
 ·rw[be o5]at hr ⊢;cases hk:re.kids with
  |nil=>rw[hk]at hr;cases hr
  |cons k l=>rw[hk]at hr;exact h _ _ _ _ hr
 rw[ap o5]at hr ⊢;by_cases o6:re.op=6
 ·rw[be o6]at hr ⊢;simp only at hr ⊢;by_cases c1:(cK c re.n).1<0
  ·rw[be c1]at hr ⊢;exact hr
  rw[ap c1]at hr ⊢;by_cases c2:(cK c re.n).2<(cK c re.n).1\/(t.length:Int)<(cK c re.n).2
  ·rw[be c2]at hr;cases hr
  rw[ap c2]at hr ⊢;by_cases c3:t.length<i+(cK c re.n).2-(cK c re.n).1
  ·rw[be c3]at hr ⊢;exact hr
  rw[ap c3]at hr ⊢;by_cases c4:sk t (cK c re.n).1 i ((cK c re.n).2-(cK c re.n).1).toNat=true
  ·rw[be c4]at hr ⊢;exact h _ _ _ _ hr
  ·rw[ap c4]at hr ⊢;exact hr
 rw[ap o6]at hr ⊢;by_cases o7:re.op=7\/re.op=8
 ·rw[be o7]at hr ⊢;cases hk:re.kids with
  |nil=>rw[hk]at hr;cases hr
  |cons k l =>
   rw[hk]at hr;simp only at hr ⊢;cases hx:su rec re.op k i c st with
   |none=>rw[hx]at hr;cases hr
   |some x =>
    rw[hx]at hr;rw[xa h hx];obtain⟨o,s⟩:=x;simp only at hr ⊢;by_cases he:s.empty=true
    ·rw[be he]at hr ⊢;exact hr
    rw[ap he]at hr ⊢;by_cases hn:re.neg=true
    ·rw[be hn]at hr ⊢;cases o with
     |none=>exact h _ _ _ _ hr
     |some d=>exact hr
    ·rw[ap hn]at hr ⊢;cases o with
     |none=>exact hr
     |some d=>exact h _ _ _ _ hr
 rw[ap o7]at hr ⊢;by_cases o9:re.op=9
 ·rw[be o9]at hr ⊢;cases hk:re.kids with
  |nil=>rw[hk]at hr;cases hr
  |cons k l =>
   rw[hk]at hr;simp only at hr ⊢;cases hx:gv rec (.mk 0 k 0 0 .nil) i c st with
   |none=>rw[hx]at hr;cases hr
   |some x =>
    rw[hx]at hr;rw[iz h hx];obtain⟨o,s⟩:=x;simp only at hr ⊢;by_cases he:s.empty=true
    ·rw[be he]at hr ⊢;exact hr
    rw[ap he]at hr ⊢;cases o with
    |none=>exact hr
    |some d=>exact h _ _ _ _ hr
 rw[ap o9]at hr ⊢;by_cases L7:re.op=10
 ·rw[be L7]at hr ⊢
  match hk:re.kids with
  |[]=>rw[hk]at hr;cases hr
  |[_]=>rw[hk]at hr;cases hr
  |a::b::l=>rw[hk]at hr;exact h _ _ _ _ hr
 rw[ap L7]at hr ⊢;by_cases sm:re.op=11
 ·rw[be sm]at hr ⊢;by_cases hc:bL re.n t i=true
  ·rw[be hc]at hr ⊢;exact h _ _ _ _ hr
  ·rw[ap hc]at hr ⊢;exact hr
 rw[ap sm]at hr ⊢;exact h _ _ _ _ hr
theorem PQ{re:Re}{k:Int} (hr:zx fuel rec most re k next i c st=some r):zx fuel rec' most re k next i c st=some r:=by
 unfold zx at hr ⊢;by_cases m:re.mode=2
 ·rw[be m]at hr ⊢;cases hx:gv rec (.mk 1 (re.fo 0) 0 0 .nil) i c st with
  |none=>rw[hx]at hr;cases hr
  |some x =>
   rw[hx]at hr;rw[iz h hx];obtain⟨o,s⟩:=x;cases o with
   |none=>exact hr
   |some d=>exact h _ _ _ _ hr
 rw[ap m]at hr ⊢;by_cases c1:st.steps<0\/10000000000000<st.steps
 ·rw[be c1]at hr;cases hr
 rw[ap c1]at hr ⊢;simp only at hr ⊢;by_cases he:(st.step fuel).empty=true
 ·rw[be he]at hr ⊢;exact hr
 rw[ap he]at hr ⊢;cases hk:re.kids with
 |nil=>rw[hk]at hr;cases hr
 |cons kid l =>
  rw[hk]at hr;simp only at hr ⊢;by_cases c2:k<re.mn
  ·rw[be c2]at hr ⊢;exact h _ _ _ _ hr
  rw[ap c2]at hr ⊢;by_cases c3:re.mx=-1\/k<re.mx
  ·simp only[be c3]at hr ⊢;by_cases c4:re.mode=1
   ·rw[be c4]at hr ⊢;exact tS (λr hr=>h _ _ _ _ hr) (λs r hr=>h _ _ _ _ hr) hr
   ·rw[ap c4]at hr ⊢;exact tS (λr hr=>h _ _ _ _ hr) (λs r hr=>h _ _ _ _ hr) hr
  ·simp only[ap c3]at hr ⊢;by_cases c4:re.mode=1
   ·rw[be c4]at hr ⊢;exact tS (λr hr=>h _ _ _ _ hr) (λs r hr=>hr) hr
   ·rw[ap c4]at hr ⊢;exact tS (λr hr=>hr) (λs r hr=>h _ _ _ _ hr) hr
theorem Ke{task:Task} (hr:cM t fuel rec most task st=some r):cM t fuel rec' most task st=some r:=by
 cases task with
 |run g i c =>
  simp only[cM]at hr ⊢;by_cases hi:i<0\/(t.length:Int)<i
  ·rw[be hi]at hr;cases hr
  rw[ap hi]at hr ⊢;cases g with
  |nil=>exact hr
  |mk kind re k bZ next =>
   simp only at hr ⊢;by_cases k1:kind=1
   ·rw[be k1]at hr ⊢;exact h _ _ _ _ hr
   rw[ap k1]at hr ⊢;by_cases k2:kind=2
   ·rw[be k2]at hr ⊢;by_cases c1:re.mn<=k/\i=bZ
    ·rw[be c1]at hr ⊢;exact hr
    rw[ap c1]at hr ⊢;by_cases c2:k<0\/10000000000000<k
    ·rw[be c2]at hr;cases hr
    rw[ap c2]at hr ⊢;exact h _ _ _ _ hr
   rw[ap k2]at hr ⊢;by_cases k3:kind=3
   ·rw[be k3]at hr ⊢;by_cases c1:1000000000<c.length
    ·rw[be c1]at hr;cases hr
    rw[ap c1]at hr ⊢;exact h _ _ _ _ hr
   rw[ap k3]at hr ⊢;by_cases k4:kind=4
   ·rw[be k4]at hr ⊢;by_cases c1:i=bZ
    ·rw[be c1]at hr ⊢;exact h _ _ _ _ hr
    ·rw[ap c1]at hr ⊢;exact hr
   rw[ap k4]at hr ⊢;exact h _ _ _ _ hr
 |rep g i c =>
  simp only[cM]at hr ⊢;by_cases hi:i<0\/(t.length:Int)<i
  ·rw[be hi]at hr;cases hr
  rw[ap hi]at hr ⊢;cases g with
  |nil=>cases hr
  |mk kind re k bZ next=>exact PQ h hr
 |node g i c =>
  simp only[cM]at hr ⊢;by_cases hi:i<0\/(t.length:Int)<i
  ·rw[be hi]at hr;cases hr
  rw[ap hi]at hr ⊢;cases g with
  |nil=>cases hr
  |mk kind re k bZ next =>
   simp only at hr ⊢;by_cases o4:re.op=4
   ·rw[be o4]at hr ⊢;exact h _ _ _ _ hr
   rw[ap o4]at hr ⊢;by_cases c0:1000000000<re.set.length\/1000000000<re.kids.length\/1000000000<c.length
   ·rw[be c0]at hr;cases hr
   rw[ap c0]at hr ⊢;by_cases c1:st.steps<0\/10000000000000<st.steps
   ·rw[be c1]at hr;cases hr
   rw[ap c1]at hr ⊢;by_cases he:(st.step fuel).empty=true
   ·rw[be he]at hr ⊢;exact hr
   rw[ap he]at hr ⊢;exact Ms h hr
end mono
variable{fuel:Int}{task:Task}{r:Bool×bO}{n':Nat}{t:List Int}
theorem LS {t:List Int}{fuel:Int}:∀(n:Nat) (m:Int) (task:Task) (st:bO) (r:Bool×bO),iw t fuel n m task st=some r->iw t fuel (n+1) m task st=some r
 |0,_,_,_,_,hr=>by cases hr
 |n+1,m,task,st,r,hr=>Ke (rec:=iw t fuel n) (λm task st r hr=>LS n m task st r hr) hr
theorem eu{n:Nat} (hn:n<=n') {m:Int}{st:bO} (hr:iw t fuel n m task st=some r):iw t fuel n' m task st=some r:=by
 induction hn with
 |refl=>exact hr
 |step _ ih=>exact LS _ _ _ _ _ ih
theorem Vx{n:Nat}{m:Int}{st:bO}{r':Bool×bO} (h1:iw t fuel n m task st=some r) (h2:iw t fuel n' m task st=some r'):r=r':=by have e1:=eu (Nat.le_max_left n n') h1;have e2:=eu (Nat.le_max_right n n') h2;rw[e1]at e2;exact Option.some.inj e2
end Go.Proofs.YtjjfioalgbecmaaGreat
