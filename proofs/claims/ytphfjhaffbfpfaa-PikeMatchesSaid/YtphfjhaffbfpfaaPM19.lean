/- A part of the proof (K1 K0 K2 K3). -/
import Derived.Test.YtphfjhaffbfpfaaPM2
import Derived.Test.YtphfjhaffbfpfaaPM3
import Derived.Test.YtphfjhaffbfpfaaPM6
import Derived.Test.YtphfjhaffbfpfaaPM15
set_option linter.all false
set_option maxRecDepth 100000
set_option maxHeartbeats 80000000
namespace Go.Proofs.Ytphfjhaffbfpfaa
open Go.VL Go.Proofs.Try
structure bR where
 op:Int
 x:Int
 y:Int
 n:Int
 set:List (Int×Int)
def bR.cells (i:bR):List D:=[iD i.op,iD i.x,iD i.y,iD i.n,.sl (i.set.map aN)]
structure cJ where
 ins:List bR
 ah:Int
 aK:Bool
def cJ.cells (g:cJ):List D:=[.sl (g.ins.map bR.cells),iD g.ah,bD g.aK]
def qP (g:cJ):V:=.ag (g.cells.map .d)
theorem aM (g:cJ):qP g=.ag [.d (.sl (g.ins.map bR.cells)),.d (iD g.ah),.d (bD g.aK)]:=rfl
mutual
def Re.comp:Re->List Int->Bool
 |.mk op _ kids _ _ mode n _,a =>
  if op=4/\(mode=2\/Re.lC kids=true) then false
  else if op=5/\n∈a then false
  else if 5<op/\op≠11 then false
  else Re.Fk kids (if op=5 then a++[n] else a)
def Re.Fk:List Re->List Int->Bool
 |[],_=>true
 |k::l,a=>k.comp a&&Re.Fk l a
end
theorem Re.BS:∀(l:List Re) (a:List Int),Re.Fk l a=l.all λk=>k.comp a
 |[],_=>by simp [Re.Fk]
 |k::l,a=>by simp [Re.Fk,Re.BS l a]
theorem Re.js (re:Re) (a:List Int):re.comp a=if re.op=4/\(re.mode=2\/Re.lC re.kids=true) then false
  else if re.op=5/\re.n∈a then false
  else if 5<re.op/\re.op≠11 then false
  else re.kids.all λk=>k.comp (if re.op=5 then a++[re.n] else a):=by
 cases re;simp only[Re.comp,Re.BS,Re.op,Re.kids,Re.mode,Re.n];rfl
def jv (op mn mx:Int) (k n:Int):Int :=
 min (if op=1\/op=11 then 1 else if op=3 then n+2*k-2 else if op=5 then n+2 else if op=4 then (if mx=-1 then (mn+1)*n+2 else mx*n+mx-mn) else n) 10000
mutual
def Re.fw:Re->Int
 |.mk op _ kids mn mx _ _ _=>jv op mn mx kids.length (Re.cA kids)
def Re.cA:List Re->Int
 |[]=>0
 |k::l=>k.fw+Re.cA l
end
theorem Re.D6 (re:Re):re.fw=jv re.op re.mn re.mx re.kids.length (Re.cA re.kids):=by
 cases re;simp only[Re.fw,Re.op,Re.kids,Re.mn,Re.mx]
theorem Re.B9:∀(l:List Re) (k:Re),Re.cA (l++[k])=Re.cA l+k.fw
 |[],k=>by simp [Re.cA]
 |x::l,k=>by simp only[adr,Re.cA,Re.B9 l k];omega
def s8 (x:Int):bR:=⟨3,x,0,0,[]⟩
def kE (n:Int):bR:=⟨4,0,0,n,[]⟩
def n6 (mode a b:Int):bR:=if mode=1 then ⟨2,b,a,0,[]⟩ else ⟨2,a,b,0,[]⟩
def bZ (c:Int->List bR):Nat->Int->List bR
 |0,_=>[]
 |k+1,f=>bZ c k f++c (f+(bZ c k f).length)
def dU (c:Int->List bR) (mode:Int) (fin:Int):Nat->Int->List bR
 |0,_=>[]
 |k+1,f=>dU c mode fin k f++n6 mode (f+(dU c mode fin k f).length+1) fin::c (f+(dU c mode fin k f).length+1)
def tg (c:Int->List bR) (mn mx mode sz:Int) (f:Int):List bR :=
 let pre:=bZ c mn.toNat f
 if mx=-1 then
  let aL:=c (f+pre.length+1)
  pre++n6 mode (f+pre.length+1) (f+pre.length+aL.length+2)::(aL++[s8 (f+pre.length)])
 else pre++dU c mode (f+sz) (mx-mn).toNat (f+pre.length)
mutual
def Re.code:Re->Int->List bR
 |.mk op set kids mn mx mode n _,f =>
  if op=1 then [⟨1,0,0,0,set⟩] else if op=11 then [⟨5,0,0,n,[]⟩] else if op=2 then Re.da kids f
  else if op=3 then Re.dA kids f
  else if op=5 then kE (2*n-2)::(Re.oM kids (f+1)++[kE (2*n-1)])
  else if op=4 then tg (λi=>Re.oM kids i) mn mx mode (jv op mn mx kids.length (Re.cA kids)) f
  else []
def Re.da:List Re->Int->List bR
 |[],_=>[]
 |k::l,f=>k.code f++Re.da l (f+(k.code f).length)
def Re.dA:List Re->Int->List bR
 |[],_=>[]
 |k::l,f=>match l with
  |[]=>k.code f
  |_::_=>n6 0 (f+1) (f+(k.code (f+1)).length+2)::(k.code (f+1)++s8 (f+(k.code (f+1)).length+2+(Re.dA l (f+(k.code (f+1)).length+2)).length)::Re.dA l (f+(k.code (f+1)).length+2))
def Re.oM:List Re->Int->List bR
 |[],_=>[]
 |k::_,f=>k.code f
end
variable{g:Nat}{id:Nat}{s:List VL.Obj}{lo:Nat}{sz:Nat}{aI:List (List V)}{n:Nat}{e:Env}{f:FuncId}{P:Program}{l:List (List D)}{args:List V}
theorem Re.fe (re:Re) (f:Int):re.code f=if re.op=1 then [⟨1,0,0,0,re.set⟩] else if re.op=11 then [⟨5,0,0,re.n,[]⟩] else if re.op=2 then Re.da re.kids f
  else if re.op=3 then Re.dA re.kids f
  else if re.op=5 then kE (2*re.n-2)::(Re.oM re.kids (f+1)++[kE (2*re.n-1)])
  else if re.op=4 then tg (λi=>Re.oM re.kids i) re.mn re.mx re.mode re.fw f
  else []:=by
 cases re;rw[Re.code,Re.fw];rfl
theorem Re.vx:∀(l:List Re) (k:Re) (f:Int),Re.da (l++[k]) f=Re.da l f++k.code (f+(Re.da l f).length)
 |[],k,f=>by simp [Re.da]
 |x::l,k,f=>by simp only[adr,Re.da,Re.vx l k,adX,adx];congr 3;omega
theorem ru {ck:Nat}{live:Bool}{ds:List (List D)} (ho:s[id]?=some ⟨g,live,sz,aI⟩) (he:(aI.drop lo).take n=ds.map (λc=>c.map V.d)) (hn:lo+n<=aI.length) (hl:ck<=id\/live=false) :
  bf ck s (.so id g lo n)=some (.d (.sl ds)):=by
 simp only[bf,cE,ho,true_and];rw[ap ⟨hn,hl⟩,he,sN];rfl
theorem nw (t sz:Nat) (h:e t=.fu []):ca e s (cB e t (.so s.length 0 0 0)) (s++[⟨0,true,sz,[]⟩]):=by
 intro σ0 s0 w0 σ w N a hE hI hR;have hp:=lE (p:=none) (o':=⟨0,true,sz,[]⟩) (w':=w) hI rfl rfl rfl (adB _) (λ_ _=>rfl) (λ_ _ h'=>by cases h') (λ_=>.inl (.inl ⟨rfl,rfl⟩));refine⟨_,hE.trans hp.1,hp.2,hR.1,hR.2.1,λk=>?_⟩;by_cases hk:k=t
 ·subst hk;have hu:=(hR.2.2 k).bF hp.1;rw[h]at hu;rw[cB,ap rfl];generalize a.tmps.getD k undef=u at hu;cases hu with|fu hx=>?_
  exact .so ⟨0,true,sz,[]⟩ (by simp) (adB _) rfl (λ_=>.inl ⟨cg _ _ _,⟨_,rfl⟩,rfl,rfl⟩)
 ·rw[cB,am hk];exact(hR.2.2 k).bF hp.1
theorem EX{o:VL.Obj}{pre post:List V} (k sz:Nat) (ho:s[k]?=some o) (oA:o.aI=[pre++.fu []::post]) (gf:pre.length+1+post.length=o.sz) :
  ca e s e (s.set k { o with aI:=[pre++.so s.length 0 0 0::post] }++[⟨0,true,sz,[]⟩]):=by
 intro σ0 s0 w0 σ w N a hE hI hR;obtain⟨σ',h1,h2⟩:=tT hI k sz ho oA gf;exact⟨σ',hE.trans h1,h2,hR.bF h1⟩
theorem TF {L:Nat}{s':List VL.Obj} (t:Nat) (ds:List (List D)) (ck:Nat) (bO:List Nat) (he:e t=.so id g lo n) (ho:s[id]?=some ⟨g,true,sz,aI⟩)
  (hd:(aI.drop lo).take n=ds.map λc=>c.map V.d) (hn:lo+n<=aI.length) (hL:L<=ck) (LF:ck<=id) (hs:s.take ck=s') (jB:s'.all (bJ ck)=true) (hk:bO.all (λk=>k == t||ak ck (e k))=true) :
  cU L e s (mc bO (cB e t (.d (.sl ds)))) s':=by
 have Sa:bg s [id]=s.set id ⟨g,false,sz,aI⟩:=by simp [bg,bT,ho]
 have dB:=(List.getElem?_eq_some_iff.1 ho).1;have hc:w6 (bg s [id]).length (bg s [id]) (e t)=.d (.sl ds):=by rw[he,w6,ru (aI:=aI) (live:=false) (sz:=sz) (by rw[Sa];simp [dB]) hd hn (.inr rfl)];rfl
 have Y5:iI (bg s [id]) [t] e=cB e t (.d (.sl ds)):=by
  funext k;unfold iI cB;by_cases UZ:k=t
  ·subst UZ;simp [hc]
  ·simp [UZ]
 have h1:=cU.freeze (L:=L) (e:=e) (s:=s) [id] [t];rw[Y5]at h1;refine h1.trans (cU.cut ck hL ?_ jB bO ?_)
 ·rw[Sa,List.take_set_of_le LF,hs]
 ·rw[adE]at hk ⊢;intro k oG;have:=hk k oG;simp only[Bool.or_eq_true,beq_iff_eq]at this;unfold cB;by_cases UZ:k=t
  ·rw[ap UZ];rfl
  ·rw[am UZ];exact this.resolve_left UZ
def xH (P:Program) (f:FuncId) (args:List V) (sz:Nat) (l:List (List D)):Prop :=
 au P f args [] λv s=>∃g,v=.so 0 g 0 l.length/\s=[⟨g,true,sz,l.map λc=>c.map V.d⟩]
theorem pU (ρ:List Nat):∀c:List D,aX.go ρ (c.map V.d)=c.map V.d
 |[]=>rfl
 |x::c=>by simp only[adG,aX.go,aX,pU ρ c]
theorem xH.call{K:V->List VL.Obj->Prop} (h:xH P f args sz l) (ha:args=args.map (aX [])) (hr:ak.go 0 args=true)
  (hk:∀g,K (.so s.length g 0 l.length) (s++[⟨g,true,sz,l.map λc=>c.map V.d⟩])):au P f args s K:=by
 refine mS h [] rfl (by simp) (λk o h=>by simp at h) ha hr rfl ?_;rintro v s' ⟨g,rfl,rfl⟩ _;have e1:aX (qv [] s [] [(⟨g,true,sz,l.map λc=>c.map V.d⟩:VL.Obj)]) (.so 0 g 0 l.length)=.so s.length g 0 l.length:=by simp [qv,aX]
 have e2:bp (qv [] s [] [(⟨g,true,sz,l.map λc=>c.map V.d⟩:VL.Obj)]) ⟨g,true,sz,l.map λc=>c.map V.d⟩=⟨g,true,sz,l.map λc=>c.map V.d⟩:=by unfold bp;congr 1;rw[List.map_map];exact aei λc _=>pU _ c
 rw[e1];simp only[adF,List.take_zero,List.drop_zero,adP,adG,e2,aZ];exact hk g
theorem xH.hole{k:Nat}{ob:VL.Obj}{K:V->List VL.Obj->Prop} (h:xH P f args sz l) (ha:args=args.map (aX [])) (hr:ak.go 0 args=true) (hs:s[k]?=some ob)
  (hk:K (.so k (ob.g+1) 0 l.length) (s.set k ⟨ob.g+1,true,sz,l.map λc=>c.map V.d⟩)):au P f args s K:=by
 have h1:au P f args s λv s1=>∃g,v=.so s.length g 0 l.length/\s1=s++[⟨g,true,sz,l.map λc=>c.map V.d⟩]:=h.call ha hr λg=>⟨g,rfl,rfl⟩
 refine⟨h1.1,λσ w vals hI hl hv=>(h1.2 σ w vals hI hl hv).mono λe w' ⟨u,v,σ',s',k1,k2,k3,k4,g,k5,k6⟩=>?_⟩;subst k5 k6;obtain⟨m1,m2,m3⟩:=wg hI k2 k3 hs rfl (λi' j x' nK=>by
  rw[adL]at nK;cases hq:l[i']? with
  |none=>rw[hq]at nK;cases nK
  |some c =>
   rw[hq]at nK;simp only[ad9,Option.bind_some,adL]at nK;obtain⟨d,_,rfl⟩:=Option.map_eq_some_iff.1 nK;rfl)
 exact⟨u,_,_,_,k1,m1,m2,m3 _ _ _ k4,hk⟩
theorem n8 (bO:List Nat) (c:List D):dS.go bO (c.map V.d)=c.map V.d:=by rw[mI,List.map_map];exact aei λx _=>rfl
theorem Pk{m:Nat} (ho:s[id]?=some ⟨g,true,sz,aI⟩) (he:aI=l.map λc=>c.map V.d) (hn:n=m) :
  JV 0 s (.so id g 0 n) λv s1=>∃g,v=.so 0 g 0 m/\s1=[⟨g,true,sz,l.map λc=>c.map V.d⟩]:=by
 have dB:=fH ho;refine⟨[id],?_,g,?_,?_⟩
 ·simp [AM,dB]
 ·simp [dS,hn,List.idxOf?,List.findIdx?_cons]
 ·have hg:s.getD id hole=⟨g,true,sz,aI⟩:=by rw[List.getD,ho];rfl
  simp only[ur,adG,adP,hg,fh,he,List.map_map];congr 2;exact aei λc _=>n8 _ c
def Pr (re:Re):Bool:=decide ((re.op=4\/re.op=5->1<=re.kids.length)/\(re.op=3->2<=re.kids.length)/\re.kids.length<=1000/\re.set.length<=1000000/\0<=re.mn/\re.mn<=32/\-1<=re.mx/\re.mx<=32/\(re.mx=-1\/re.mx=0\/re.mn<=re.mx)/\kg re.n/\re.n<=1000000/\-1000000<=re.n)
theorem eW {re:Re}:Pr re=true ↔ ((re.op=4\/re.op=5->1<=re.kids.length)/\(re.op=3->2<=re.kids.length)/\re.kids.length<=1000/\re.set.length<=1000000/\0<=re.mn/\re.mn<=32/\-1<=re.mx/\re.mx<=32/\(re.mx=-1\/re.mx=0\/re.mn<=re.mx)/\kg re.n/\re.n<=1000000/\-1000000<=re.n):=decide_eq_true_iff
theorem Rz (re:Re):∀a:List Int,re.every Pr=true->re.size<=1000000->a.length+re.size<=2000000->ba prog 12 [lQ re,.d (av a)] (bV (re.comp a)):=by
 induction re using Re.ind with
 |h re ih =>
 intro a hs hz ha;obtain⟨eC,lP⟩:=(Re.aQ re).1 hs;obtain⟨q1,q2,q3,q4,q5,q6,q7,q8,q9,SD⟩:=eW.1 eC;have gf:=Re.size_eq re
 -- JL loop yf JL kids
 have cI:∀a':List Int,a'.length<=a.length+1->∀k∈re.kids,ba prog 12 [lQ k,.d (av a')] (bV (k.comp a')):=λa' N0 k hk =>
  ih k hk a' (lP k hk) (by have:=Re.dr hk;omega) (by have:=Re.dr hk;omega)
 by_cases c1:re.op=4/\(re.mode=2\/Re.lC re.kids=true)
 ·rw[Re.js,ap c1];obtain⟨o4,c1⟩:=c1;obtain⟨k,l,hk⟩:=List.exists_cons_of_length_pos (q1 (.inl o4));have hm:k∈re.kids:=by rw[hk];simp
  have hk0:re.kids[0]?=some k:=by rw[hk];rfl
  have hlen:(0:Int)<(re.kids.length:Int):=by rw[hk];simp
  have hn:=iu k (by have:=Re.dr hm;omega);rw[hk]at c1;by_cases cm:re.mode=2
  ·refine ar func12 rfl ntmps12 results12 rfl 0 247 (by simp) (by simp) ?_;simp only[zX,simprocAttr,i64,aq re,iD,bD,o4,cm];rfl
  ·have cn:k.pg=true:=c1.resolve_left cm;rw[cn]at hn;refine ar func12 rfl ntmps12 results12 rfl 0 247 (by simp) (by simp) ?_;simp only[zX,simprocAttr,i64,aq re,iD,bD,o4,cm,hk0,hlen];refine az hn (by simp [ak,ak.go,aq,i64,bV,bP]) (by simp [ak,ak.go,aq,i64,bV,bP]) ?_;simp only[zX,simprocAttr,i64,aq re,iD,bD,bV]
 have zr:¬(re.op=4/\(re.mode=2\/Re.lC re.kids=true)):=c1;by_cases c2:re.op=5
 ·have hh:=Uk a re.n (by omega);by_cases c3:re.n∈a
  ·rw[Re.js,am c1,ap ⟨c2,c3⟩];rw[adu c3]at hh;refine ar func12 rfl ntmps12 results12 rfl 0 247 (by simp) (by simp) ?_;simp only[zX,simprocAttr,i64,aq re,iD,bD,c2,av];refine az hh rfl rfl ?_;simp only[zX,simprocAttr,i64,aq re,iD,bD,bV,c2]
  ·rw[Re.js,am c1,am (λh=>c3 h.2),am (by omega),ap c2];rw[adl c3]at hh;have G5:∀e∈(a.map λx=>[iD x]).map (λx=>x.map V.d),e.length=1:=λe he=>by obtain⟨x,hx,rfl⟩:=List.mem_map.1 he;obtain⟨p,_,rfl⟩:=List.mem_map.1 hx;rfl
   refine ar func12 rfl ntmps12 results12 rfl 0 247 (by simp) (by simp) ?_;simp only[zX,simprocAttr,i64,aq re,iD,bD,c2,av];refine az hh rfl rfl ?_;simp only[zX,simprocAttr,i64,aq re,iD,bD,bV,c2,adq];refine aS (nw 6 1 rfl) ?_;refine ao mix [] [(2,[1],[1]),(6,[1],[1])] (by rfl) ?_;simp only[zX,simprocAttr,i64,aq re,iD,bD,bV,c2];refine⟨rfl,G5,by omega,rfl,λe he=>by rw[List.mem_singleton.1 he];rfl,⟨by omega,by omega⟩,?_⟩;have hL:=cI (a++[re.n]) (by simp);generalize haa:a++[re.n]=aa at *;refine aJ (λn e s=>∃i:Nat,n=re.kids.length-i/\i<=re.kids.length/\e 1=.d (av aa)/\e 2=.rf 0 0 0 0/\e 7=i64 i/\(∀x∈re.kids.take i,x.comp aa=true)/\s=[qw re])
    ⟨_,_,_,TF (s':=[qw re]) 1 (aa.map λx=>[iD x]) 1 [1,2,7] rfl rfl ?_ ?_ (by omega) (adB _) ?_ (by simp [qw,Re.ae re,bJ,ak,iD,bD]) rfl,0,rfl,by omega,?_,?_,?_,by simp,rfl⟩ ?_
   ·rw[List.drop_zero,<- haa,adT (by simp),adT (by simp)];simp [iD]
   ·simp
   ·simp [qw,Re.ae re,iD,bD,c2]
   ·rfl
   ·rfl
   ·rfl
   rintro n e s ⟨i,rfl,hi,h1,h2,h7,dg,rfl⟩;simp only[av]at h1;rcases adV i re.kids.length with aH|iP
   ·obtain⟨k,hk⟩:∃k,re.kids[i]?=some k:=⟨_,adn aH⟩
    have hm:=adw hk;have JZ:=hL k hm;simp only[av]at JZ;have bo:(i:Int)<re.kids.length:=by omega
    simp only[zX,simprocAttr,i64,qw,Re.ae re,adG,adP,iD,bD,h1,h2,h7,bo,hk];refine az JZ (by simp [ak,ak.go,aq]) (by simp [ak,ak.go,aq,i64,bV,bP]) ?_;cases jl:k.comp aa with
    |true =>
     simp only[zX,simprocAttr,i64,iD,bD,bV,h1,h2,h7,jl,ads];refine⟨re.kids.length-(i+1),_,_,by omega,cU.refl,i+1,rfl,aH,?_,?_,?_,?_,rfl⟩ <;> (try simp only[zU,Nat.reduceBEq,Nat.reduceShiftRight,Nat.reduceMod,Nat.reduceEqDiff,reduceIte])
     ·exact h1
     ·exact h2
     ·rw[bM _ (by omega)];rfl
     ·intro x hx;rcases eF hk hx with h|rfl
      ·exact dg x h
      ·exact jl
    |false =>
     simp only[zX,simprocAttr,i64,iD,bD,bV,h1,h2,h7,jl,adz];have:(re.kids.all λk=>k.comp aa)=false:=by rw[List.all_eq_false];exact⟨k,hm,by simp [jl]⟩
     rw[this]
   ·have fy:i=re.kids.length:=by omega
    subst fy;have bo:¬(re.kids.length:Int)<re.kids.length:=by omega
    rw[adZ]at dg;have:(re.kids.all λk=>k.comp aa)=true:=by rw[adE];exact dg
    rw[this];simp only[zX,simprocAttr,i64,qw,Re.ae re,adG,adP,iD,bD,bV,h1,h2,h7,bo]
 ·have hL:=cI a (by omega);by_cases c3:5<re.op/\re.op≠11
  ·rw[Re.js,am c1,am (λh=>c2 h.1),ap c3];have c4:re.op≠4:=by omega
   have c5:=c3.1;have c6:=c3.2;refine ar func12 rfl ntmps12 results12 rfl 0 247 (by simp) (by simp) ?_;simp only[zX,simprocAttr,i64,aq re,iD,bD,bV,c2,c4,c5,c6,gt_iff_lt,ne_eq,not_false_eq_true]
  ·rw[Re.js,am c1,am (λh=>c2 h.1),am c3,am c2];generalize a=aa at *;by_cases o4:re.op=4
   ·have cm:re.mode≠2:=λh=>c1 ⟨o4,.inl h⟩;obtain⟨k,l,hk⟩:=List.exists_cons_of_length_pos (q1 (.inl o4));have cn:k.pg=false:=by
     cases h:k.pg with
     |false=>rfl
     |true=>exact absurd ⟨o4,.inr (by rw[hk];exact h)⟩ c1
    have hm:k∈re.kids:=by rw[hk];simp
    have hk0:re.kids[0]?=some k:=by rw[hk];rfl
    have hlen:(0:Int)<(re.kids.length:Int):=by rw[hk];simp
    have hn:=iu k (by have:=Re.dr hm;omega);rw[cn]at hn;refine ar func12 rfl ntmps12 results12 rfl 0 247 (by simp) (by simp) ?_;simp only[zX,simprocAttr,i64,aq re,iD,bD,o4,cm,hk0,hlen];refine az hn (by simp [ak,ak.go,aq,i64,bV,bP]) (by simp [ak,ak.go,aq,i64,bV,bP]) ?_;simp only[zX,simprocAttr,i64,aq re,iD,bD,bV,o4,adq,gt_iff_lt];refine aJ (λn e s=>∃i:Nat,n=re.kids.length-i/\i<=re.kids.length/\e 1=.d (av aa)/\e 2=.rf 0 0 0 0/\e 7=i64 i/\(∀x∈re.kids.take i,x.comp aa=true)/\s=[qw re])
     ⟨_,_,_,cU.refl,0,rfl,by omega,rfl,rfl,rfl,by simp,by simp [qw,Re.ae re,iD,bD,o4]⟩ ?_
    rintro n e s ⟨i,rfl,hi,h1,h2,h7,dg,rfl⟩;simp only[av]at h1;rcases adV i re.kids.length with aH|iP
    ·obtain⟨k,hk⟩:∃k,re.kids[i]?=some k:=⟨_,adn aH⟩
     have hm:=adw hk;have JZ:=hL k hm;simp only[av]at JZ;have bo:(i:Int)<re.kids.length:=by omega
     simp only[zX,simprocAttr,i64,qw,Re.ae re,adG,adP,iD,bD,h1,h2,h7,bo,hk];refine az JZ (by simp [ak,ak.go,aq]) (by simp [ak,ak.go,aq,i64,bV,bP]) ?_;cases jl:k.comp aa with
     |true =>
      simp only[zX,simprocAttr,i64,iD,bD,bV,h1,h2,h7,jl,ads];refine⟨re.kids.length-(i+1),_,_,by omega,cU.refl,i+1,rfl,aH,?_,?_,?_,?_,rfl⟩ <;> (try simp only[zU,Nat.reduceBEq,Nat.reduceShiftRight,Nat.reduceMod,Nat.reduceEqDiff,reduceIte])
      ·exact h1
      ·exact h2
      ·rw[bM _ (by omega)];rfl
      ·intro x hx;rcases eF hk hx with h|rfl
       ·exact dg x h
       ·exact jl
     |false =>
      simp only[zX,simprocAttr,i64,iD,bD,bV,h1,h2,h7,jl,adz];have:(re.kids.all λk=>k.comp aa)=false:=by rw[List.all_eq_false];exact⟨k,hm,by simp [jl]⟩
      rw[this]
    ·have fy:i=re.kids.length:=by omega
     subst fy;have bo:¬(re.kids.length:Int)<re.kids.length:=by omega
     rw[adZ]at dg;have:(re.kids.all λk=>k.comp aa)=true:=by rw[adE];exact dg
     rw[this];simp only[zX,simprocAttr,i64,qw,Re.ae re,adG,adP,iD,bD,bV,h1,h2,h7,bo]
   ·by_cases c5:5<re.op
    ·have c6:re.op=11:=by omega
     refine ar func12 rfl ntmps12 results12 rfl 0 247 (by simp) (by simp) ?_;simp only[zX,simprocAttr,i64,aq re,iD,bD,bV,c6,adq,gt_iff_lt,ne_eq,aeh];refine aJ (λn e s=>∃i:Nat,n=re.kids.length-i/\i<=re.kids.length/\e 1=.d (av aa)/\e 2=.rf 0 0 0 0/\e 7=i64 i/\(∀x∈re.kids.take i,x.comp aa=true)/\s=[qw re])
      ⟨_,_,_,cU.refl,0,rfl,by omega,rfl,rfl,rfl,by simp,by simp [qw,Re.ae re,iD,bD,c6]⟩ ?_
     rintro n e s ⟨i,rfl,hi,h1,h2,h7,dg,rfl⟩;simp only[av]at h1;rcases adV i re.kids.length with aH|iP
     ·obtain⟨k,hk⟩:∃k,re.kids[i]?=some k:=⟨_,adn aH⟩
      have hm:=adw hk;have JZ:=hL k hm;simp only[av]at JZ;have bo:(i:Int)<re.kids.length:=by omega
      simp only[zX,simprocAttr,i64,qw,Re.ae re,adG,adP,iD,bD,h1,h2,h7,bo,hk];refine az JZ (by simp [ak,ak.go,aq]) (by simp [ak,ak.go,aq,i64,bV,bP]) ?_;cases jl:k.comp aa with
      |true =>
       simp only[zX,simprocAttr,i64,iD,bD,bV,h1,h2,h7,jl,ads];refine⟨re.kids.length-(i+1),_,_,by omega,cU.refl,i+1,rfl,aH,?_,?_,?_,?_,rfl⟩ <;> (try simp only[zU,Nat.reduceBEq,Nat.reduceShiftRight,Nat.reduceMod,Nat.reduceEqDiff,reduceIte])
       ·exact h1
       ·exact h2
       ·rw[bM _ (by omega)];rfl
       ·intro x hx;rcases eF hk hx with h|rfl
        ·exact dg x h
        ·exact jl
      |false =>
       simp only[zX,simprocAttr,i64,iD,bD,bV,h1,h2,h7,jl,adz];have:(re.kids.all λk=>k.comp aa)=false:=by rw[List.all_eq_false];exact⟨k,hm,by simp [jl]⟩
       rw[this]
     ·have fy:i=re.kids.length:=by omega
      subst fy;have bo:¬(re.kids.length:Int)<re.kids.length:=by omega
      rw[adZ]at dg;have:(re.kids.all λk=>k.comp aa)=true:=by rw[adE];exact dg
      rw[this];simp only[zX,simprocAttr,i64,qw,Re.ae re,adG,adP,iD,bD,bV,h1,h2,h7,bo]
    ·refine ar func12 rfl ntmps12 results12 rfl 0 247 (by simp) (by simp) ?_;simp only[zX,simprocAttr,i64,aq re,iD,bD,bV,o4,c5,c2,adq,gt_iff_lt,ne_eq,aeh];refine aJ (λn e s=>∃i:Nat,n=re.kids.length-i/\i<=re.kids.length/\e 1=.d (av aa)/\e 2=.rf 0 0 0 0/\e 7=i64 i/\(∀x∈re.kids.take i,x.comp aa=true)/\s=[qw re])
      ⟨_,_,_,cU.refl,0,rfl,by omega,rfl,rfl,rfl,by simp,by simp [qw,Re.ae re,iD,bD,o4]⟩ ?_
     rintro n e s ⟨i,rfl,hi,h1,h2,h7,dg,rfl⟩;simp only[av]at h1;rcases adV i re.kids.length with aH|iP
     ·obtain⟨k,hk⟩:∃k,re.kids[i]?=some k:=⟨_,adn aH⟩
      have hm:=adw hk;have JZ:=hL k hm;simp only[av]at JZ;have bo:(i:Int)<re.kids.length:=by omega
      simp only[zX,simprocAttr,i64,qw,Re.ae re,adG,adP,iD,bD,h1,h2,h7,bo,hk];refine az JZ (by simp [ak,ak.go,aq]) (by simp [ak,ak.go,aq,i64,bV,bP]) ?_;cases jl:k.comp aa with
      |true =>
       simp only[zX,simprocAttr,i64,iD,bD,bV,h1,h2,h7,jl,ads];refine⟨re.kids.length-(i+1),_,_,by omega,cU.refl,i+1,rfl,aH,?_,?_,?_,?_,rfl⟩ <;> (try simp only[zU,Nat.reduceBEq,Nat.reduceShiftRight,Nat.reduceMod,Nat.reduceEqDiff,reduceIte])
       ·exact h1
       ·exact h2
       ·rw[bM _ (by omega)];rfl
       ·intro x hx;rcases eF hk hx with h|rfl
        ·exact dg x h
        ·exact jl
      |false =>
       simp only[zX,simprocAttr,i64,iD,bD,bV,h1,h2,h7,jl,adz];have:(re.kids.all λk=>k.comp aa)=false:=by rw[List.all_eq_false];exact⟨k,hm,by simp [jl]⟩
       rw[this]
     ·have fy:i=re.kids.length:=by omega
      subst fy;have bo:¬(re.kids.length:Int)<re.kids.length:=by omega
      rw[adZ]at dg;have:(re.kids.all λk=>k.comp aa)=true:=by rw[adE];exact dg
      rw[this];simp only[zX,simprocAttr,i64,qw,Re.ae re,adG,adP,iD,bD,bV,h1,h2,h7,bo]
theorem Q3 (op mn mx k n:Int):jv op mn mx k n<=10000:=by unfold jv;omega
theorem xQ {op mn mx k n:Int} (hk:op=3->2<=k) (hn:0<=n) (h0:0<=mn) (h1:op=4->mx=-1\/1<=mx/\mn<=mx):0<=jv op mn mx k n:=by
 unfold jv;by_cases o1:op=1\/op=11
 ·rw[ap o1];omega
 rw[am o1];by_cases o3:op=3
 ·rw[ap o3];have:=hk o3;omega
 rw[am o3];by_cases o5:op=5
 ·rw[ap o5];omega
 rw[am o5];by_cases o4:op=4
 ·rw[ap o4];have h1:=h1 o4;by_cases om:mx=-1
  ·rw[ap om];have:0<=(mn+1)*n:=Int.mul_nonneg (by omega) hn;omega
  ·rw[am om];have:0<=mx*n:=Int.mul_nonneg (by omega) hn;omega
 ·rw[am o4];omega
def w7 (re:Re):Bool:=Pr re&&decide (re.op=4->re.mx=-1\/1<=re.mx/\re.mn<=re.mx)
theorem fo (re:Re):re.every w7=true->0<=re.fw/\re.fw<=10000:=by
 induction re using Re.ind with
 |h re ih =>
 intro hs;obtain⟨eC,lP⟩:=(Re.aQ re).1 hs;unfold w7 at eC;obtain⟨eC,UN⟩:=Bool.and_eq_true_iff.1 eC;have UN:=of_decide_eq_true UN;obtain⟨q1,q2,q3,q4,q5,q6,q7,q8,q9,SD⟩:=eW.1 eC;have hL:∀l:List Re,(∀k∈l,k∈re.kids)->0<=Re.cA l:=by
  intro l;induction l with
  |nil=>intro _;simp [Re.cA]
  |cons k l ihl =>
   intro hm;have h1:=(ih k (hm k (by simp)) (lP k (hm k (by simp)))).1;have h2:=ihl (λx hx=>hm x (by simp [hx]));simp only[Re.cA];omega
 rw[Re.D6];exact⟨xQ (λh=>by have:=q2 h;omega) (hL _ (λ_ h=>h)) q5 UN,Q3 _ _ _ _ _⟩
theorem iz {l:List Re} (h:∀k∈l,0<=k.fw/\k.fw<=10000):0<=Re.cA l/\Re.cA l<=10000*l.length:=by
 induction l with
 |nil=>simp [Re.cA]
 |cons k l ih =>
  have h1:=h k (by simp);have h2:=ih (λx hx=>h x (by simp [hx]));simp only[Re.cA,adA];omega
end Go.Proofs.Ytphfjhaffbfpfaa
