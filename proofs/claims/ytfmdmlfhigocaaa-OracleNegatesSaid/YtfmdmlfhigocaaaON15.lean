/- A part of the proof (F72 K0 O3 G4 G2). -/
import Derived.Test.YtfmdmlfhigocaaaON10
import Derived.Test.YtfmdmlfhigocaaaON13
import Derived.Test.YtfmdmlfhigocaaaON14
set_option linter.unusedSimpArgs false
set_option linter.unusedVariables false
open Nat renaming reduceShiftRight → cQ, reduceMod → dx, reduceLT → dB, reduceMul → dC, reduceSub → dD, reduceEqDiff → eI, reduceAdd → eJ, reduceLeDiff → fX, reduceBEq → gj
open Int renaming reduceToNat → gl, reduceNeg → ja, reduceLT → jg, reduceLE → jk, reduceEq → mA
set_option maxRecDepth 100000
set_option maxHeartbeats 80000000
namespace Go.Proofs.Ytfmdmlfhigocaaa
open Go.VL Go.Proofs.Try
variable{pre:List V}{s:List VL.Obj}{post:List V}{g:Nat}{lo:Nat}{id:Nat}{sz:Nat}{n:Nat}{aw:List (List V)}{e:Env}{l:List (List D)}{f:FuncId}{P:Program}{args:List V}{K:V->List VL.Obj->Prop}
theorem BE {σ:Gh}{w:World} (hI:Inv σ s w) {o:VL.Obj} (k sz:Nat) (ho:s[k]?=some o) (fP:o.aw=[pre++.fu []::post]) (fF:pre.length+1+post.length=o.sz) :
  ∃σ',aF σ s w σ' (s.set k { o with aw:=[pre++.so s.length 0 0 0::post] }++[⟨0,true,sz,[]⟩]) w/\Inv σ' (s.set k { o with aw:=[pre++.so s.length 0 0 0::post] }++[⟨0,true,sz,[]⟩]) w:=by
 have hk:=(List.getElem?_eq_some_iff.1 ho).1;have hp:=mK (p:=none) (o':=⟨0,true,sz,[]⟩) (w':=w) hI rfl rfl rfl (af3 _) (λ_ _=>rfl) (λ_ _ h'=>by cases h') (λ_=>.inl (.inl ⟨rfl,rfl⟩));have PH:(s++[(⟨0,true,sz,[]⟩:VL.Obj)])[k]?=some o:=by rw[af2 hk];exact ho
 have hr:=yK hp.2 (els':=[pre++.so s.length 0 0 0::post]) PH (by intro e he;rw[List.mem_singleton.1 he];simp;omega) (by rw[fP];rfl) (by
  intro es he;rw[fP]at he;have hm:(pre++.fu []::post)∈eR es:=by rw[<- he];exact List.mem_singleton.2 rfl
  unfold eR at hm;obtain⟨x,_,hx⟩:=List.mem_map.1 hm;have hf:V.fu []∈[V.d (.sc x.key),V.d (.sc x.val)]:=by rw[hx];simp
  simp at hf) (λi j x' hx=>by
  rw[fP];cases i with
  |succ i=>simp at hx
  |zero =>
   simp only[agm,agE]at hx ⊢;by_cases hj:j=pre.length
   ·subst hj;rw[af6 (af3 _),ahi]at hx ⊢;simp only[agm,afY]at hx ⊢;subst hx;refine⟨_,rfl,λu hu=>?_⟩;cases hu with|fu hx=>?_
    exact .so ⟨0,true,sz,[]⟩ (by simp) (af3 _) ⟨_,_,rfl⟩ (λ_=>.inl ⟨bQ _ _ _,⟨_,rfl⟩,rfl,rfl⟩)
   ·refine⟨x',?_,λu hu=>hu⟩;rcases agi j pre.length with az|fI
    ·rw[af2 az]at hx ⊢;exact hx
    ·rw[af6 fI]at hx ⊢;cases hm:j-pre.length with
     |zero=>omega
     |succ m=>rw[hm]at hx;simpa using hx)
 have fx:(s++[(⟨0,true,sz,[]⟩:VL.Obj)]).set k { o with aw:=[pre++.so s.length 0 0 0::post] }=s.set k { o with aw:=[pre++.so s.length 0 0 0::post] }++[⟨0,true,sz,[]⟩]:=by rw[List.set_append_left _ _ hk]
 rw[fx]at hr;exact⟨_,hp.1.trans hr.1,hr.2⟩
theorem nM {lim:Nat}{live:Bool}{ds:List (List D)} (ho:s[id]?=some ⟨g,live,sz,aw⟩) (he:(aw.drop lo).take n=ds.map (λc=>c.map V.d)) (hn:lo+n<=aw.length) (hl:lim<=id\/live=false) :
  ba lim s (.so id g lo n)=some (.d (.sl ds)):=by
 simp only[ba,cj,ho,true_and];rw[be ⟨hn,hl⟩,he,pR];rfl
theorem eE (t sz:Nat) (h:e t=.fu []):bO e s (bz e t (.so s.length 0 0 0)) (s++[⟨0,true,sz,[]⟩]):=by
 intro σ0 s0 w0 σ w N a hE hI hR;have hp:=mK (p:=none) (o':=⟨0,true,sz,[]⟩) (w':=w) hI rfl rfl rfl (af3 _) (λ_ _=>rfl) (λ_ _ h'=>by cases h') (λ_=>.inl (.inl ⟨rfl,rfl⟩));refine⟨_,hE.trans hp.1,hp.2,hR.1,hR.2.1,λk=>?_⟩;by_cases hk:k=t
 ·subst hk;have hu:=(hR.2.2 k).aX hp.1;rw[h]at hu;rw[bz,be rfl];generalize a.tmps.getD k undef=u at hu;cases hu with|fu hx=>?_
  exact .so ⟨0,true,sz,[]⟩ (by simp) (af3 _) ⟨_,_,rfl⟩ (λ_=>.inl ⟨bQ _ _ _,⟨_,rfl⟩,rfl,rfl⟩)
 ·rw[bz,ap hk];exact(hR.2.2 k).aX hp.1
theorem mF{o:VL.Obj} (k sz:Nat) (ho:s[k]?=some o) (fP:o.aw=[pre++.fu []::post]) (fF:pre.length+1+post.length=o.sz) :
  bO e s e (s.set k { o with aw:=[pre++.so s.length 0 0 0::post] }++[⟨0,true,sz,[]⟩]):=by
 intro σ0 s0 w0 σ w N a hE hI hR;obtain⟨σ',h1,h2⟩:=BE hI k sz ho fP fF;exact⟨σ',hE.trans h1,h2,hR.aX h1⟩
theorem Ls {L:Nat}{s':List VL.Obj} (t:Nat) (ds:List (List D)) (lim:Nat) (aY:List Nat) (he:e t=.so id g lo n) (ho:s[id]?=some ⟨g,true,sz,aw⟩)
  (hd:(aw.drop lo).take n=ds.map λc=>c.map V.d) (hn:lo+n<=aw.length) (hL:L<=lim) (OR:lim<=id) (hs:s.take lim=s') (fO:s'.all (aG lim)=true) (hk:aY.all (λk=>k == t||ah lim (e k))=true) :
  br L e s (nV aY (bz e t (.d (.sl ds)))) s':=by
 have Tv:bE s [id]=s.set id ⟨g,false,sz,aw⟩:=by simp [bE,bM,ho]
 have cS:=(List.getElem?_eq_some_iff.1 ho).1;have hc:fA (bE s [id]).length (bE s [id]) (e t)=.d (.sl ds):=by rw[he,fA,nM (aw:=aw) (live:=false) (sz:=sz) (by rw[Tv];simp [cS]) hd hn (.inr rfl)];rfl
 have ZW:kY (bE s [id]) [t] e=bz e t (.d (.sl ds)):=by
  funext k;unfold kY bz;by_cases We:k=t
  ·subst We;simp [hc]
  ·simp [We]
 have h1:=br.freeze (L:=L) (e:=e) (s:=s) [id] [t];rw[ZW]at h1;refine h1.trans (br.cut lim hL ?_ fO aY ?_)
 ·rw[Tv,List.take_set_of_le OR,hs]
 ·rw[af8]at hk ⊢;intro k Cd;have:=hk k Cd;simp only[Bool.or_eq_true,beq_iff_eq]at this;unfold bz;by_cases We:k=t
  ·rw[be We];rfl
  ·rw[ap We];exact this.resolve_left We
def kG (P:Program) (f:FuncId) (args:List V) (sz:Nat) (l:List (List D)):Prop :=
 aq P f args [] λv s=>∃g,v=.so 0 g 0 l.length/\s=[⟨g,true,sz,l.map λc=>c.map V.d⟩]
theorem wY (ρ:List Nat):∀c:List D,aL.go ρ (c.map V.d)=c.map V.d
 |[]=>rfl
 |x::c=>by simp only[afR,aL.go,aL,wY ρ c]
theorem R7:((l.map λc=>c.map V.d).drop 0).take l.length=l.map (λc=>c.map V.d):=by rw[agH,af1 (by simp)]
theorem kG.pure (h:kG P f args sz l):aO P f args (.d (.sl l)):=by refine⟨h.1,λσ w vals hI hl hv=>(h.2 σ w vals hI hl hv).mono λe w' ⟨u,v,σ',s',h1,h2,h3,h4,g,h5,h6⟩=>?_⟩;subst h5 h6;have:=lP h3 (lim:=0) h4 (nM (aw:=l.map λc=>c.map V.d) (live:=true) (sz:=sz) rfl R7 (by simp) (.inl (af3 _)));exact⟨u,_,σ',[],h1,h2.take (lim:=0) (af3 _),h3.take (lim:=0) (by rfl),this,rfl,rfl⟩
theorem kG.call (h:kG P f args sz l) (ha:args=args.map (aL [])) (hr:ah.go 0 args=true)
  (hk:∀g,K (.so s.length g 0 l.length) (s++[⟨g,true,sz,l.map λc=>c.map V.d⟩])):aq P f args s K:=by
 refine jc h [] rfl (by simp) (λk o h=>by simp at h) ha hr rfl ?_;rintro v s' ⟨g,rfl,rfl⟩ _;have e1:aL (uZ [] s [] [(⟨g,true,sz,l.map λc=>c.map V.d⟩:VL.Obj)]) (.so 0 g 0 l.length)=.so s.length g 0 l.length:=by simp [uZ,aL]
 have e2:aT (uZ [] s [] [(⟨g,true,sz,l.map λc=>c.map V.d⟩:VL.Obj)]) ⟨g,true,sz,l.map λc=>c.map V.d⟩=⟨g,true,sz,l.map λc=>c.map V.d⟩:=by unfold aT;congr 1;rw[agy];exact agC λc _=>wY _ c
 rw[e1];simp only[af0,agD,agH,afU,afR,e2,aE];exact hk g
theorem kG.hole{k:Nat}{ob:VL.Obj} (h:kG P f args sz l) (ha:args=args.map (aL [])) (hr:ah.go 0 args=true) (hs:s[k]?=some ob)
  (hk:K (.so k (ob.g+1) 0 l.length) (s.set k ⟨ob.g+1,true,sz,l.map λc=>c.map V.d⟩)):aq P f args s K:=by
 have h1:aq P f args s λv s1=>∃g,v=.so s.length g 0 l.length/\s1=s++[⟨g,true,sz,l.map λc=>c.map V.d⟩]:=h.call ha hr λg=>⟨g,rfl,rfl⟩
 refine⟨h1.1,λσ w vals hI hl hv=>(h1.2 σ w vals hI hl hv).mono λe w' ⟨u,v,σ',s',k1,k2,k3,k4,g,k5,k6⟩=>?_⟩;subst k5 k6;obtain⟨m1,m2,m3⟩:=nE hI k2 k3 hs rfl (λi' j x' jB=>by
  rw[afO]at jB;cases hq:l[i']? with
  |none=>rw[hq]at jB;cases jB
  |some c =>
   rw[hq]at jB;simp only[afV,agE,afO]at jB;obtain⟨d,_,rfl⟩:=Option.map_eq_some_iff.1 jB;rfl)
 exact⟨u,_,_,_,k1,m1,m2,m3 _ _ _ k4,hk⟩
theorem Dv (aY:List Nat) (c:List D):ej.go aY (c.map V.d)=c.map V.d:=by rw[od,agy];exact agC λx _=>rfl
theorem mJ{m:Nat} (ho:s[id]?=some ⟨g,true,sz,aw⟩) (he:aw=l.map λc=>c.map V.d) (hn:n=m) :
  xR 0 s (.so id g 0 n) λv s1=>∃g,v=.so 0 g 0 m/\s1=[⟨g,true,sz,l.map λc=>c.map V.d⟩]:=by
 have cS:=fo ho;refine⟨[id],?_,g,?_,?_⟩
 ·simp [zk,cS]
 ·simp [ej,hn,List.idxOf?,List.findIdx?_cons]
 ·have hg:s.getD id hole=⟨g,true,sz,aw⟩:=by rw[List.getD,ho];rfl
  simp only[lF,afR,afU,hg,fy,he,agy];congr 2;exact agC λc _=>Dv _ c
def Re.lr (re:Re):Bool:=decide (re.op=7\/re.op=8)
mutual
def Re.looks:Re->Nat
 |.mk op _ kids _ _ _ _ _=>(if op=7\/op=8 then 1 else 0)+Re.aD kids
def Re.aD:List Re->Nat
 |[]=>0
 |k::l=>k.looks+Re.aD l
end
mutual
def Re.bj:Re->Nat->D
 |.mk op set kids mn mx mode n neg,k=>.el [iD op,.sl (set.map aV),.sl (kids.map Re.cells),iD mn,iD mx,iD mode,iD n,bD neg,.sl (Re.dH kids (k+if op=7\/op=8 then 1 else 0)),iD k]
def Re.dH:List Re->Nat->List (List D)
 |[],_=>[]
 |x::l,k=>[x.bj k]::Re.dH l (k+x.looks)
end
theorem Re.eA (re:Re):re.looks=(if re.op=7\/re.op=8 then 1 else 0)+Re.aD re.kids:=by cases re;rfl
theorem Re.dV (re:Re) (k:Nat):re.bj k=.el [iD re.op,.sl (re.set.map aV),.sl (re.kids.map Re.cells),iD re.mn,iD re.mx,iD re.mode,iD re.n,bD re.neg,.sl (Re.dH re.kids (k+if re.op=7\/re.op=8 then 1 else 0)),iD k]:=by
 cases re;rfl
theorem Re.oo:∀(l:List Re) (k:Nat),(Re.dH l k).length=l.length
 |[],_=>rfl
 |x::l,k=>by simp [Re.dH,Re.oo l]
def dp (t:List Int) (root parts:D) (bg nb:Nat):VL.Obj:=⟨0,true,4,[[.d (al t),.d root,.d parts,.so 1 bg 0 nb]]⟩
def fr (bg:Nat) (Bs:List (List Bool)):VL.Obj:=⟨bg,true,1,Bs.map λl=>[.d (.sl (l.map λb=>[bD b]))]⟩
theorem gr (n bg:Nat) (Bs:List (List Bool)):((fr bg Bs).aw.all λe=>e.all (ah n))=true:=by unfold fr;rw[af8];intro e he;obtain⟨l,_,rfl⟩:=List.mem_map.1 he;rfl
theorem bU {e0 v:V}:vk e0 (.bx v)=.bx v:=(rfl)
theorem aP {id g i off b a:Nat}:dT (.pp id g i off b a)=some [.pp id g i off b a]:=rfl
theorem St (l:List (Int×Int)) (x:Int) (hl:l.length<=1000000):aO Try.prog 58 [.d (.sl (l.map aV)),i64 x] (bV (E3 l x)):=by
 refine an Try.func58 rfl Try.ntmps58 Try.results58 rfl 0 979 (by simp) (by simp) ?_;simp only[zX,cQ,dx,dB,dC,dD,gl,ja,jg,jk,mA,eI,eJ,fX,reduceIte,reduceCtorEq,gj,i64,afN];refine au (λn e s=>∃i:Nat,n=l.length-i/\i<=l.length/\e 1=i64 x/\e 7=.d (.sl (l.map aV))/\e 8=i64 l.length/\e 9=i64 i/\s=[]/\(l.take i).any (λs=>decide (s.1<=x)&&decide (x<=s.2))=false)
  ⟨_,_,_,br.refl,0,rfl,by omega,rfl,rfl,rfl,rfl,rfl,by simp⟩ ?_
 rintro n e s ⟨i,rfl,hi,h1,h7,h8,h9,rfl,mT⟩;rcases agi i l.length with az|fI
 ·obtain⟨k,hk⟩:∃k,l[i]?=some k:=⟨_,afP az⟩
  have aC:(i:Int)<l.length:=by omega
  have hm:=afW hk;by_cases c1:k.1<=x
  ·by_cases c2:x<=k.2
   ·simp only[zX,cQ,dx,dB,dC,dD,gl,ja,jg,jk,mA,eI,eJ,fX,reduceIte,reduceCtorEq,gj,i64,bV,iD,bD,aV,h1,h7,h8,h9,aC,hk,c1,c2];have:E3 l x=true:=List.any_eq_true.2 ⟨k,hm,by simp [c1,c2]⟩;rw[this]
   ·simp only[zX,cQ,dx,dB,dC,dD,gl,ja,jg,jk,mA,eI,eJ,fX,reduceIte,reduceCtorEq,gj,i64,bV,iD,bD,aV,h1,h7,h8,h9,aC,hk,c1,c2];refine⟨l.length-(i+1),_,_,by omega,br.cut (s':=[]) 0 (by omega) rfl rfl [1,7,8,9] (by simp [bz,aH,ah,h1,h7,h8,h9,i64]),i+1,rfl,az,?_,?_,?_,?_,rfl,by rw[aR hk,List.any_append,mT];simp [c2]⟩ <;> (try simp only[zU,gj,cQ,dx,eI,reduceIte])
    ·exact h1
    ·exact h7
    ·exact h8
    ·rw[bd _ (by omega)];rfl
  ·simp only[zX,cQ,dx,dB,dC,dD,gl,ja,jg,jk,mA,eI,eJ,fX,reduceIte,reduceCtorEq,gj,i64,bV,iD,bD,aV,h1,h7,h8,h9,aC,hk,c1];refine⟨l.length-(i+1),_,_,by omega,br.cut (s':=[]) 0 (by omega) rfl rfl [1,7,8,9] (by simp [bz,aH,ah,h1,h7,h8,h9,i64]),i+1,rfl,az,?_,?_,?_,?_,rfl,by rw[aR hk,List.any_append,mT];simp [c1]⟩ <;> (try simp only[zU,gj,cQ,dx,eI,reduceIte])
   ·exact h1
   ·exact h7
   ·exact h8
   ·rw[bd _ (by omega)];rfl
 ·have cV:i=l.length:=by omega
  subst cV;have aC:¬(l.length:Int)<l.length:=by omega
  rw[agj]at mT;simp only[zX,cQ,dx,dB,dC,dD,gl,ja,jg,jk,mA,eI,eJ,fX,reduceIte,reduceCtorEq,gj,i64,bV,iD,bD,h1,h7,h8,h9,aC];have:E3 l x=false:=mT;rw[this]
theorem LK (x:Int):aO prog 107 [i64 x] (bV (rE x)):=by
 refine an func107 rfl ntmps107 results107 rfl 0 5 (by simp) (by simp) ?_;simp only[zX,simprocAttr,i64]
 repeat' (first
 |(with_reducible refine And.intro (by first|omega|exact⟨by omega,by omega⟩|(simp;done)) ?_)
 |(with_reducible first|refine kB (λhc=>?_) (λhc=>?_)|refine dM (λhc=>?_) (λhc=>?_)|refine dL (λhc=>?_) (λhc=>?_)|refine cX (λhc=>?_) (λhc=>?_)|refine cW (λhc=>?_) (λhc=>?_)|refine g8 (λhc=>?_) (λhc=>?_)|refine dG (λhc=>?_) (λhc=>?_))<;>simp only[zX,simprocAttr,i64,ge_iff_le,hc])
 all_goals (simp only[rE,bV];simp [*];try omega)
theorem Xy (l:List (Int×Int)) (x:Int) (hl:l.length<=1000000000):aO prog 102 [.d (.sl (l.map aV)),i64 x] (bV (E3 l x)):=by
 refine an func102 rfl ntmps102 results102 rfl 0 51 (by simp) (by simp) ?_;simp only[zX,simprocAttr,i64];refine au (λn e s=>∃i:Nat,n=l.length-i/\i<=l.length/\e 0=.d (.sl (l.map aV))/\e 1=i64 x/\e 5=i64 i/\s=[]/\E3 (l.take i) x=false)
  ⟨_,_,_,br.refl,0,rfl,by omega,rfl,rfl,rfl,rfl,rfl⟩ ?_
 rintro n e s ⟨i,rfl,hi,h0,h1,h5,rfl,mT⟩;rcases agi i l.length with az|fI
 ·obtain⟨y,hy⟩:∃y,l[i]?=some y:=⟨_,afP az⟩
  have hm:=afW hy;have V8:decide (y.1<=x)=true->decide (x<=y.2)=true->E3 l x=true:=λh1 h2=>by unfold E3;rw[List.any_eq_true];exact⟨y,hm,by rw[h1,h2];rfl⟩
  have XW:¬(y.1<=x/\x<=y.2)->E3 (l.take (i+1)) x=false:=λh=>by
   rw[aR hy];unfold E3 at mT ⊢;rw[List.any_append,mT];have:(decide (y.1<=x)&&decide (x<=y.2))=false:=by rw[agP];intro hc;simp only[agb,decide_eq_true_eq]at hc;exact h hc
   simp [this]
  by_cases c1:y.1<=x
  ·by_cases c2:x<=y.2
   ·rw[V8 (bi c1) (bi c2)];simp only[zX,simprocAttr,i64,h0,h1,h5,az,hy,aV,iD,c1,c2];all_goals first|exact⟨rfl,rfl⟩|exact⟨rfl,trivial⟩|rfl|trivial|(rw[ai];rfl)
   ·simp only[zX,simprocAttr,i64,h0,h1,h5,az,hy,aV,iD,c1,c2];refine⟨l.length-(i+1),_,_,by omega,br.refl,i+1,rfl,az,?_,?_,?_,rfl,XW (λh=>c2 h.2)⟩ <;> (try simp only[zU,gj,cQ,dx,eI,reduceIte])
    ·exact h0
    ·exact h1
    ·rw[bd _ (by omega)];rfl
  ·simp only[zX,simprocAttr,i64,h0,h1,h5,az,hy,aV,iD,c1];refine⟨l.length-(i+1),_,_,by omega,br.refl,i+1,rfl,az,?_,?_,?_,rfl,XW (λh=>c1 h.1)⟩ <;> (try simp only[zU,gj,cQ,dx,eI,reduceIte])
   ·exact h0
   ·exact h1
   ·rw[bd _ (by omega)];rfl
 ·have cV:i=l.length:=by omega
  subst cV;rw[agj]at mT;rw[mT];simp only[zX,simprocAttr,i64,h0,h1,h5,agK];all_goals first|exact⟨rfl,rfl⟩|exact⟨rfl,trivial⟩|rfl|trivial|(rw[ai];rfl)
theorem rp {t:List Int}{i:Int} (h0:0<=i) (h1:i<t.length):t[i.toNat]?=some (n7 t i):=by unfold n7;rw[afP (by omega)];simp [List.getD,afP (show i.toNat<t.length by omega)]
theorem PS (n:Int) (t:List Int) (i:Int) (ht:t.length<=1000000) (h0:0<=i) (h1:i<=t.length):aO prog 105 [i64 n,.d (al t),i64 i] (bV (bX n t i)):=by
 have w1:IntKind.i64.wrap (i-1)=i-1:=bd _ (by omega);have hw:=LK (n7 t (i-1));have Ur:=LK (n7 t i);simp only[i64,bV]at hw Ur;have rM:(n=0)\/(¬n=0/\n=1)\/(¬n=0/\¬n=1/\n=2)\/(¬n=0/\¬n=1/\¬n=2/\n=3)\/(¬n=0/\¬n=1/\¬n=2/\¬n=3/\n=4)\/(¬n=0/\¬n=1/\¬n=2/\¬n=3/\¬n=4):=by omega
 have XU:0<i->t[(i-1).toNat]?=some (n7 t (i-1)):=λh=>rp (by omega) (by omega);have Wz:i<t.length->t[i.toNat]?=some (n7 t i):=λh=>rp h0 h;by_cases c1:0<i
 ·by_cases c2:i<(t.length:Int)
  ·have hl:oL t i=rE (n7 t (i-1)):=by simp [oL,c1]
   have hr:lj t i=rE (n7 t i):=by simp [lj,c2]
   have b1:0<=i-1:=by omega
   have b2:i-1<(t.length:Int):=by omega
   have g1:=XU c1;have n0:¬i=0:=by omega
   have eY:decide (i=0)=false:=b6 n0;have g2:=Wz c2;have n1:¬i=(t.length:Int):=by omega
   have pQ:decide (i=(t.length:Int))=false:=b6 n1;refine an func105 rfl ntmps105 results105 rfl 0 1073742279 (by simp) (by simp) ?_;simp only[zX,simprocAttr,i64,iD,al,c1,c2,w1,gt_iff_lt,h0,g1,b1,b2,g2];refine aj hw rfl rfl ?_;simp only[zX,simprocAttr,i64,iD,al,c1,c2,w1,gt_iff_lt,h0,g1,b1,b2,g2];refine aj Ur rfl rfl ?_;rcases rM with a|⟨a,b⟩|⟨a,b,c⟩|⟨a,b,c,d⟩|⟨a,b,c,d,f⟩|⟨a,b,c,d,f⟩
   ·simp only[zX,simprocAttr,i64,iD,al,c1,c2,w1,gt_iff_lt,h0,g1,b1,b2,g2,n0,n1,a];all_goals (simp only[bX,a,hl,hr,eY,pQ,bV,mA,if_true,if_false,reduceIte,agz,agr];try rfl)
   ·simp only[zX,simprocAttr,i64,iD,al,c1,c2,w1,gt_iff_lt,h0,g1,b1,b2,g2,n0,n1,a,b];all_goals (simp only[bX,a,b,hl,hr,eY,pQ,bV,mA,if_true,if_false,reduceIte,agz,agr];try rfl)
   ·simp only[zX,simprocAttr,i64,iD,al,c1,c2,w1,gt_iff_lt,h0,g1,b1,b2,g2,n0,n1,a,b,c];all_goals (simp only[bX,a,b,c,hl,hr,eY,pQ,bV,mA,if_true,if_false,reduceIte,agz,agr];try rfl)
   ·simp only[zX,simprocAttr,i64,iD,al,c1,c2,w1,gt_iff_lt,h0,g1,b1,b2,g2,n0,n1,a,b,c,d];all_goals (simp only[bX,a,b,c,d,hl,hr,eY,pQ,bV,mA,if_true,if_false,reduceIte,agz,agr];try rfl)
   ·simp only[zX,simprocAttr,i64,iD,al,c1,c2,w1,gt_iff_lt,h0,g1,b1,b2,g2,n0,n1,a,b,c,d,f];all_goals (simp only[bX,a,b,c,d,f,hl,hr,eY,pQ,bV,mA,if_true,if_false,reduceIte,agz,agr];try rfl)
   ·simp only[zX,simprocAttr,i64,iD,al,c1,c2,w1,gt_iff_lt,h0,g1,b1,b2,g2,n0,n1,a,b,c,d,f];all_goals (simp only[bX,a,b,c,d,f,hl,hr,eY,pQ,bV,mA,if_true,if_false,reduceIte,agz,agr];try rfl)
  ·have hl:oL t i=rE (n7 t (i-1)):=by simp [oL,c1]
   have hr:lj t i=false:=by simp [lj,c2]
   have b1:0<=i-1:=by omega
   have b2:i-1<(t.length:Int):=by omega
   have g1:=XU c1;have n0:¬i=0:=by omega
   have eY:decide (i=0)=false:=b6 n0;have n1:i=(t.length:Int):=by omega
   have pQ:decide (i=(t.length:Int))=true:=bi n1;refine an func105 rfl ntmps105 results105 rfl 0 1073742279 (by simp) (by simp) ?_;simp only[zX,simprocAttr,i64,iD,al,c1,c2,w1,gt_iff_lt,h0,g1,b1,b2];refine aj hw rfl rfl ?_;simp only[zX,simprocAttr,i64,iD,al,c1,c2,w1,gt_iff_lt,h0,g1,b1,b2];have e1:(i=(t.length:Int))=True:=eq_true n1;rcases rM with a|⟨a,b⟩|⟨a,b,c⟩|⟨a,b,c,d⟩|⟨a,b,c,d,f⟩|⟨a,b,c,d,f⟩
   ·simp only[zX,simprocAttr,i64,iD,al,c1,c2,w1,gt_iff_lt,h0,g1,b1,b2,n0,e1,a];all_goals (simp only[bX,a,hl,hr,eY,pQ,bV,mA,if_true,if_false,reduceIte,agz,agr];try rfl)
   ·simp only[zX,simprocAttr,i64,iD,al,c1,c2,w1,gt_iff_lt,h0,g1,b1,b2,n0,e1,a,b];all_goals (simp only[bX,a,b,hl,hr,eY,pQ,bV,mA,if_true,if_false,reduceIte,agz,agr];try rfl)
   ·simp only[zX,simprocAttr,i64,iD,al,c1,c2,w1,gt_iff_lt,h0,g1,b1,b2,n0,e1,a,b,c];all_goals (simp only[bX,a,b,c,hl,hr,eY,pQ,bV,mA,if_true,if_false,reduceIte,agz,agr];try rfl)
   ·simp only[zX,simprocAttr,i64,iD,al,c1,c2,w1,gt_iff_lt,h0,g1,b1,b2,n0,e1,a,b,c,d];all_goals (simp only[bX,a,b,c,d,hl,hr,eY,pQ,bV,mA,if_true,if_false,reduceIte,agz,agr];try rfl)
   ·simp only[zX,simprocAttr,i64,iD,al,c1,c2,w1,gt_iff_lt,h0,g1,b1,b2,n0,e1,a,b,c,d,f];all_goals (simp only[bX,a,b,c,d,f,hl,hr,eY,pQ,bV,mA,if_true,if_false,reduceIte,agz,agr];try rfl)
   ·simp only[zX,simprocAttr,i64,iD,al,c1,c2,w1,gt_iff_lt,h0,g1,b1,b2,n0,e1,a,b,c,d,f];all_goals (simp only[bX,a,b,c,d,f,hl,hr,eY,pQ,bV,mA,if_true,if_false,reduceIte,agz,agr];try rfl)
 ·by_cases c2:i<(t.length:Int)
  ·have hl:oL t i=false:=by simp [oL,c1]
   have hr:lj t i=rE (n7 t i):=by simp [lj,c2]
   have n0:i=0:=by omega
   have eY:decide (i=0)=true:=bi n0;have g2:=Wz c2;have n1:¬i=(t.length:Int):=by omega
   have pQ:decide (i=(t.length:Int))=false:=b6 n1;refine an func105 rfl ntmps105 results105 rfl 0 1073742279 (by simp) (by simp) ?_;simp only[zX,simprocAttr,i64,iD,al,c1,c2,w1,gt_iff_lt,h0,g2];refine aj Ur rfl rfl ?_;have e0:(i=0)=True:=eq_true n0;rcases rM with a|⟨a,b⟩|⟨a,b,c⟩|⟨a,b,c,d⟩|⟨a,b,c,d,f⟩|⟨a,b,c,d,f⟩
   ·simp only[zX,simprocAttr,i64,iD,al,c1,c2,w1,gt_iff_lt,h0,g2,n1,e0,a];all_goals (simp only[bX,a,hl,hr,eY,pQ,bV,mA,if_true,if_false,reduceIte,agz,agr];try rfl)
   ·simp only[zX,simprocAttr,i64,iD,al,c1,c2,w1,gt_iff_lt,h0,g2,n1,e0,a,b];all_goals (simp only[bX,a,b,hl,hr,eY,pQ,bV,mA,if_true,if_false,reduceIte,agz,agr];try rfl)
   ·simp only[zX,simprocAttr,i64,iD,al,c1,c2,w1,gt_iff_lt,h0,g2,n1,e0,a,b,c];all_goals (simp only[bX,a,b,c,hl,hr,eY,pQ,bV,mA,if_true,if_false,reduceIte,agz,agr];try rfl)
   ·simp only[zX,simprocAttr,i64,iD,al,c1,c2,w1,gt_iff_lt,h0,g2,n1,e0,a,b,c,d];all_goals (simp only[bX,a,b,c,d,hl,hr,eY,pQ,bV,mA,if_true,if_false,reduceIte,agz,agr];try rfl)
   ·simp only[zX,simprocAttr,i64,iD,al,c1,c2,w1,gt_iff_lt,h0,g2,n1,e0,a,b,c,d,f];all_goals (simp only[bX,a,b,c,d,f,hl,hr,eY,pQ,bV,mA,if_true,if_false,reduceIte,agz,agr];try rfl)
   ·simp only[zX,simprocAttr,i64,iD,al,c1,c2,w1,gt_iff_lt,h0,g2,n1,e0,a,b,c,d,f];all_goals (simp only[bX,a,b,c,d,f,hl,hr,eY,pQ,bV,mA,if_true,if_false,reduceIte,agz,agr];try rfl)
  ·have hl:oL t i=false:=by simp [oL,c1]
   have hr:lj t i=false:=by simp [lj,c2]
   have n0:i=0:=by omega
   have eY:decide (i=0)=true:=bi n0;have n1:i=(t.length:Int):=by omega
   have pQ:decide (i=(t.length:Int))=true:=bi n1;refine an func105 rfl ntmps105 results105 rfl 0 1073742279 (by simp) (by simp) ?_;simp only[zX,simprocAttr,i64,iD,al,c1,c2,w1,gt_iff_lt,h0];have e0:(i=0)=True:=eq_true n0;have e1:(i=(t.length:Int))=True:=eq_true n1;rcases rM with a|⟨a,b⟩|⟨a,b,c⟩|⟨a,b,c,d⟩|⟨a,b,c,d,f⟩|⟨a,b,c,d,f⟩
   ·simp only[zX,simprocAttr,i64,iD,al,c1,c2,w1,gt_iff_lt,h0,e0,e1,a];all_goals (simp only[bX,a,hl,hr,eY,pQ,bV,mA,if_true,if_false,reduceIte,agz,agr];try rfl)
   ·simp only[zX,simprocAttr,i64,iD,al,c1,c2,w1,gt_iff_lt,h0,e0,e1,a,b];all_goals (simp only[bX,a,b,hl,hr,eY,pQ,bV,mA,if_true,if_false,reduceIte,agz,agr];try rfl)
   ·simp only[zX,simprocAttr,i64,iD,al,c1,c2,w1,gt_iff_lt,h0,e0,e1,a,b,c];all_goals (simp only[bX,a,b,c,hl,hr,eY,pQ,bV,mA,if_true,if_false,reduceIte,agz,agr];try rfl)
   ·simp only[zX,simprocAttr,i64,iD,al,c1,c2,w1,gt_iff_lt,h0,e0,e1,a,b,c,d];all_goals (simp only[bX,a,b,c,d,hl,hr,eY,pQ,bV,mA,if_true,if_false,reduceIte,agz,agr];try rfl)
   ·simp only[zX,simprocAttr,i64,iD,al,c1,c2,w1,gt_iff_lt,h0,e0,e1,a,b,c,d,f];all_goals (simp only[bX,a,b,c,d,f,hl,hr,eY,pQ,bV,mA,if_true,if_false,reduceIte,agz,agr];try rfl)
   ·simp only[zX,simprocAttr,i64,iD,al,c1,c2,w1,gt_iff_lt,h0,e0,e1,a,b,c,d,f];all_goals (simp only[bX,a,b,c,d,f,hl,hr,eY,pQ,bV,mA,if_true,if_false,reduceIte,agz,agr];try rfl)
section mono
variable {rec rec':Int->Task->bJ->Option (Bool×bJ)} (h:∀m task st r,rec m task st=some r->rec' m task st=some r)
variable{st:bJ}{c:aK}{i:Int}{most:Int}{r:Bool×bJ}{next:Goal}{t:List Int}{fuel:Int}
include h
theorem gV {g:Goal}{r:Option (Int×aK)×bJ} (hr:gu rec g i c st=some r):gu rec' g i c st=some r:=by
 unfold gu at hr ⊢;cases hx:rec 1 (.run g i c) ⟨st.steps,false,[],[]⟩ with
 |none=>rw[hx]at hr;cases hr
 |some x=>rw[hx]at hr;rw[h _ _ _ _ hx];exact hr
omit h in
theorem td {a a':Option (Bool×bJ)}{k k':bJ->Option (Bool×bJ)} (h1:∀r,a=some r->a'=some r) (h2:∀s r,k s=some r->k' s=some r) {r:Bool×bJ} (hr:J6 a k=some r):J6 a' k'=some r:=by
 cases a with
 |none=>cases hr
 |some x =>
  rw[h1 x rfl];obtain⟨b,s⟩:=x;cases b with
  |true=>exact hr
  |false=>exact h2 s r hr
omit h in
theorem qA {f f':Int->bJ->Option (Option (Int×aK)×bJ)} (hf:∀k st r,f k st=some r->f' k st=some r):∀(n:Nat) (st:bJ) (r:Option aK×bJ),jX f n st=some r->jX f' n st=some r
 |0,_,_,hr=>hr
 |n+1,st,r,hr=>by
  simp only[jX]at hr ⊢;by_cases he:st.empty=true
  ·rw[be he]at hr ⊢;exact hr
  ·rw[ap he]at hr ⊢;cases hx:f n st with
   |none=>rw[hx]at hr;cases hr
   |some x =>
    rw[hx]at hr;rw[hf _ _ _ hx];obtain⟨o,s⟩:=x;cases o with
    |none=>exact qA hf n s r hr
    |some p=>exact hr
theorem vX {op:Int}{kid:Re}{r:Option aK×bJ} (hr:rI rec op kid i c st=some r):rI rec' op kid i c st=some r:=by
 unfold rI at hr ⊢;by_cases o:op=7
 ·rw[be o]at hr ⊢;cases hx:gu rec (.mk 0 kid 0 0 .nil) i c st with
  |none=>rw[hx]at hr;cases hr
  |some x=>rw[hx]at hr;rw[gV h hx];exact hr
 ·rw[ap o]at hr ⊢;exact qA (λk st r hr=>gV h hr) _ _ _ hr
omit h in
theorem yY {f f':Re->bJ->Option (Bool×bJ)} (hf:∀k st r,f k st=some r->f' k st=some r):∀(l:List Re) (st:bJ) (r:Bool×bJ),Bv f l st=some r->Bv f' l st=some r
 |[],_,_,hr=>hr
 |k::l,st,r,hr=>by simp only[Bv]at hr ⊢;exact td (hf k st) (yY hf l) hr
theorem Kr{re:Re} (hr:fL t rec most re next i c st=some r):fL t rec' most re next i c st=some r:=by
 unfold fL at hr ⊢;by_cases o1:re.op=1
 ·rw[be o1]at hr ⊢;by_cases hc:i<t.length/\E3 re.set (n7 t i)=true
  ·rw[be hc]at hr ⊢;exact h _ _ _ _ hr
  ·rw[ap hc]at hr ⊢;exact hr
 rw[ap o1]at hr ⊢;by_cases o2:re.op=2
 ·rw[be o2]at hr ⊢;exact h _ _ _ _ hr
 rw[ap o2]at hr ⊢;by_cases o3:re.op=3
 ·rw[be o3]at hr ⊢;exact yY (λk st r hr=>h _ _ _ _ hr) _ _ _ hr
 rw[ap o3]at hr ⊢;by_cases o5:re.op=5
 ·rw[be o5]at hr ⊢;cases hk:re.kids with
  |nil=>rw[hk]at hr;cases hr
  |cons k l=>rw[hk]at hr;exact h _ _ _ _ hr
 rw[ap o5]at hr ⊢;by_cases o6:re.op=6
 ·rw[be o6]at hr ⊢;simp only at hr ⊢;by_cases c1:(cE c re.n).1<0
  ·rw[be c1]at hr ⊢;exact hr
  rw[ap c1]at hr ⊢;by_cases c2:(cE c re.n).2<(cE c re.n).1\/(t.length:Int)<(cE c re.n).2
  ·rw[be c2]at hr;cases hr
  rw[ap c2]at hr ⊢;by_cases c3:t.length<i+(cE c re.n).2-(cE c re.n).1
  ·rw[be c3]at hr ⊢;exact hr
  rw[ap c3]at hr ⊢;by_cases c4:rF t (cE c re.n).1 i ((cE c re.n).2-(cE c re.n).1).toNat=true
  ·rw[be c4]at hr ⊢;exact h _ _ _ _ hr
  ·rw[ap c4]at hr ⊢;exact hr
 rw[ap o6]at hr ⊢;by_cases o7:re.op=7\/re.op=8
 ·rw[be o7]at hr ⊢;cases hk:re.kids with
  |nil=>rw[hk]at hr;cases hr
  |cons k l =>
   rw[hk]at hr;simp only at hr ⊢;cases hx:rI rec re.op k i c st with
   |none=>rw[hx]at hr;cases hr
   |some x =>
    rw[hx]at hr;rw[vX h hx];obtain⟨o,s⟩:=x;simp only at hr ⊢;by_cases he:s.empty=true
    ·rw[be he]at hr ⊢;exact hr
    rw[ap he]at hr ⊢;by_cases hn:re.neg=true
    ·rw[be hn]at hr ⊢;cases o with
     |none=>exact h _ _ _ _ hr
     |some d=>exact hr
    ·rw[ap hn]at hr ⊢;cases o with
     |none=>exact hr
     |some d=>exact h _ _ _ _ hr
 rw[ap o7]at hr ⊢;by_cases o9:re.op=9
 ·rw[be o9]at hr ⊢;cases hk:re.kids with
  |nil=>rw[hk]at hr;cases hr
  |cons k l =>
   rw[hk]at hr;simp only at hr ⊢;cases hx:gu rec (.mk 0 k 0 0 .nil) i c st with
   |none=>rw[hx]at hr;cases hr
   |some x =>
    rw[hx]at hr;rw[gV h hx];obtain⟨o,s⟩:=x;simp only at hr ⊢;by_cases he:s.empty=true
    ·rw[be he]at hr ⊢;exact hr
    rw[ap he]at hr ⊢;cases o with
    |none=>exact hr
    |some d=>exact h _ _ _ _ hr
 rw[ap o9]at hr ⊢;by_cases J2:re.op=10
 ·rw[be J2]at hr ⊢
  match hk:re.kids with
  |[]=>rw[hk]at hr;cases hr
  |[_]=>rw[hk]at hr;cases hr
  |a::b::l=>rw[hk]at hr;exact h _ _ _ _ hr
 rw[ap J2]at hr ⊢;by_cases rO:re.op=11
 ·rw[be rO]at hr ⊢;by_cases hc:bX re.n t i=true
  ·rw[be hc]at hr ⊢;exact h _ _ _ _ hr
  ·rw[ap hc]at hr ⊢;exact hr
 rw[ap rO]at hr ⊢;exact h _ _ _ _ hr
theorem Nh{re:Re}{k:Int} (hr:yS fuel rec most re k next i c st=some r):yS fuel rec' most re k next i c st=some r:=by
 unfold yS at hr ⊢;by_cases m:re.mode=2
 ·rw[be m]at hr ⊢;cases hx:gu rec (.mk 1 (re.ff 0) 0 0 .nil) i c st with
  |none=>rw[hx]at hr;cases hr
  |some x =>
   rw[hx]at hr;rw[gV h hx];obtain⟨o,s⟩:=x;cases o with
   |none=>exact hr
   |some d=>exact h _ _ _ _ hr
 rw[ap m]at hr ⊢;by_cases c1:st.steps<0\/10000000000000<st.steps
 ·rw[be c1]at hr;cases hr
 rw[ap c1]at hr ⊢;simp only at hr ⊢;by_cases he:(st.step fuel).empty=true
 ·rw[be he]at hr ⊢;exact hr
 rw[ap he]at hr ⊢;cases hk:re.kids with
 |nil=>rw[hk]at hr;cases hr
 |cons kid l =>
  rw[hk]at hr;simp only at hr ⊢;by_cases c2:k<re.mn
  ·rw[be c2]at hr ⊢;exact h _ _ _ _ hr
  rw[ap c2]at hr ⊢;by_cases c3:re.mx=-1\/k<re.mx
  ·simp only[be c3]at hr ⊢;by_cases c4:re.mode=1
   ·rw[be c4]at hr ⊢;exact td (λr hr=>h _ _ _ _ hr) (λs r hr=>h _ _ _ _ hr) hr
   ·rw[ap c4]at hr ⊢;exact td (λr hr=>h _ _ _ _ hr) (λs r hr=>h _ _ _ _ hr) hr
  ·simp only[ap c3]at hr ⊢;by_cases c4:re.mode=1
   ·rw[be c4]at hr ⊢;exact td (λr hr=>h _ _ _ _ hr) (λs r hr=>hr) hr
   ·rw[ap c4]at hr ⊢;exact td (λr hr=>hr) (λs r hr=>h _ _ _ _ hr) hr
theorem Ih{task:Task} (hr:cF t fuel rec most task st=some r):cF t fuel rec' most task st=some r:=by
 cases task with
 |run g i c =>
  simp only[cF]at hr ⊢;by_cases hi:i<0\/(t.length:Int)<i
  ·rw[be hi]at hr;cases hr
  rw[ap hi]at hr ⊢;cases g with
  |nil=>exact hr
  |mk kind re k fw next =>
   simp only at hr ⊢;by_cases k1:kind=1
   ·rw[be k1]at hr ⊢;exact h _ _ _ _ hr
   rw[ap k1]at hr ⊢;by_cases k2:kind=2
   ·rw[be k2]at hr ⊢;by_cases c1:re.mn<=k/\i=fw
    ·rw[be c1]at hr ⊢;exact hr
    rw[ap c1]at hr ⊢;by_cases c2:k<0\/10000000000000<k
    ·rw[be c2]at hr;cases hr
    rw[ap c2]at hr ⊢;exact h _ _ _ _ hr
   rw[ap k2]at hr ⊢;by_cases k3:kind=3
   ·rw[be k3]at hr ⊢;by_cases c1:1000000000<c.length
    ·rw[be c1]at hr;cases hr
    rw[ap c1]at hr ⊢;exact h _ _ _ _ hr
   rw[ap k3]at hr ⊢;by_cases k4:kind=4
   ·rw[be k4]at hr ⊢;by_cases c1:i=fw
    ·rw[be c1]at hr ⊢;exact h _ _ _ _ hr
    ·rw[ap c1]at hr ⊢;exact hr
   rw[ap k4]at hr ⊢;exact h _ _ _ _ hr
 |rep g i c =>
  simp only[cF]at hr ⊢;by_cases hi:i<0\/(t.length:Int)<i
  ·rw[be hi]at hr;cases hr
  rw[ap hi]at hr ⊢;cases g with
  |nil=>cases hr
  |mk kind re k fw next=>exact Nh h hr
 |node g i c =>
  simp only[cF]at hr ⊢;by_cases hi:i<0\/(t.length:Int)<i
  ·rw[be hi]at hr;cases hr
  rw[ap hi]at hr ⊢;cases g with
  |nil=>cases hr
  |mk kind re k fw next =>
   simp only at hr ⊢;by_cases o4:re.op=4
   ·rw[be o4]at hr ⊢;exact h _ _ _ _ hr
   rw[ap o4]at hr ⊢;by_cases c0:1000000000<re.set.length\/1000000000<re.kids.length\/1000000000<c.length
   ·rw[be c0]at hr;cases hr
   rw[ap c0]at hr ⊢;by_cases c1:st.steps<0\/10000000000000<st.steps
   ·rw[be c1]at hr;cases hr
   rw[ap c1]at hr ⊢;by_cases he:(st.step fuel).empty=true
   ·rw[be he]at hr ⊢;exact hr
   rw[ap he]at hr ⊢;exact Kr h hr
end mono
variable{fuel:Int}{task:Task}{n':Nat}{r:Bool×bJ}{t:List Int}
theorem JJ {t:List Int}{fuel:Int}:∀(n:Nat) (m:Int) (task:Task) (st:bJ) (r:Bool×bJ),gT t fuel n m task st=some r->gT t fuel (n+1) m task st=some r
 |0,_,_,_,_,hr=>by cases hr
 |n+1,m,task,st,r,hr=>Ih (rec:=gT t fuel n) (λm task st r hr=>JJ n m task st r hr) hr
theorem dX{n:Nat} (hn:n<=n') {m:Int}{st:bJ} (hr:gT t fuel n m task st=some r):gT t fuel n' m task st=some r:=by
 induction hn with
 |refl=>exact hr
 |step _ ih=>exact JJ _ _ _ _ _ ih
theorem Sm{n:Nat}{m:Int}{st:bJ}{r':Bool×bJ} (h1:gT t fuel n m task st=some r) (h2:gT t fuel n' m task st=some r'):r=r':=by have e1:=dX (Nat.le_max_left n n') h1;have e2:=dX (Nat.le_max_right n n') h2;rw[e1]at e2;exact Option.some.inj e2
end Go.Proofs.Ytfmdmlfhigocaaa
