/- A part of the proof (Vrf O24 O25). -/
import Derived.Test.YtfmdmlfhigocaaaON14
import Derived.Test.YtfmdmlfhigocaaaON16
import Derived.Test.YtfmdmlfhigocaaaON28
import Derived.Test.YtfmdmlfhigocaaaON29
import Derived.Test.YtfmdmlfhigocaaaON33
set_option linter.unusedSimpArgs false
set_option linter.unusedVariables false
open Nat renaming reduceShiftRight → cQ, reduceMod → dx, reduceLT → dB, reduceMul → dC, reduceSub → dD, reduceEqDiff → eI, reduceAdd → eJ, reduceLeDiff → fX, reduceBEq → gj
open Int renaming reduceToNat → gl, reduceNeg → ja, reduceLT → jg, reduceLE → jk, reduceEq → mA
set_option maxRecDepth 100000
set_option maxHeartbeats 80000000
namespace Go.VL
variable{aw:List (List V)}{x:V}{g:Nat}{ok:Obj}{s:List Obj}{P:Program}{f:FuncId}{args:List V}{K:V->List Obj->Prop}
def FU (b a:Nat):V:=.d (.sc (.pointer (some ⟨b,a,none⟩)))
theorem AK{j:Nat} (h:aw[j]?=some [x]) (es:Array MapEntry):aw≠eR es:=by intro he;rw[he,eR,afO]at h;obtain⟨y,_,h2⟩:=Option.map_eq_some_iff.1 h;have h3:=congrArg List.length h2;simp at h3
theorem H0{j:Nat}{y:V} (h:aw[j]?=some [x]) {i l:Nat}{x':V} (hx:((aw.set j [y])[i]?.bind (·[l]?))=some x'):(i=j/\l=0/\x'=y/\(aw[i]?.bind (·[l]?))=some x)\/(aw[i]?.bind (·[l]?))=some x':=by
 by_cases hi:j=i
 ·subst hi;rw[agc (List.getElem?_eq_some_iff.1 h).1]at hx
  match l with
  |0 =>
   simp at hx;exact .inl ⟨rfl,rfl,hx.symm,by rw[h];rfl⟩
  |l+1=>simp at hx
 ·rw[agp hi]at hx;exact .inr hx
theorem L9{N:Nat}{full:List Oper}{e:Env}{K:Env->List Obj->Prop}{oa:Obj} (t k a1 j:Nat) (he:e t=.rf k g 0 0) (hk:s[k]?=some ok) (uY:ok.g=g) (ha:s[a1]?=some oa) (hc:oa.aw[j]?=some [.rf k g 0 0]) (fF:oa.sz=1)
  (h:∀b a,tb P N full (bz e t (.pp k g 0 0 b a)) (s.set a1 { oa with aw:=oa.aw.set j [FU b a] }) K):tb P N full e s K:=by
 intro σ0 s0 w0 Q Xc σ w a id hE hI hR;have hr:=hR.2.2 t;rw[he]at hr;generalize XF:a.tmps.getD t undef=u at hr;cases hr with|rf o' iY hg hu di=>?_
 rw[hk]at iY;cases iY;obtain⟨b,base,hs,hC,rfl⟩:=di uY;have C6:=yK hI (els':=oa.aw.set j [FU b (base+0*ok.sz+0)]) ha (λel qX=>by
   rcases agU qX with h'|rfl
   ·rcases hI.content a1 oa ha with (⟨_,h0⟩|⟨_,es,_,_,_,h3⟩)|⟨_,_,_,_,_,_,h3,_⟩
    ·rw[h0]at h';cases h'
    ·exact absurd h3 (AK hc es)
    ·exact h3 el h'
   ·rw[fF];rfl) (by simp) (AK hc) (λi l x' hx=>by
  rcases H0 hc hx with ⟨_,_,rfl,h2⟩|h2
  ·refine⟨_,h2,λu uF=>?_⟩;cases uF with|rf o2 PH _ _ FF=>?_
   rw[hk]at PH;cases PH;obtain⟨b2,z5,iO,_,rfl⟩:=FF uY;rw[hs]at iO;cases iO;exact .d (.sc _ rfl)
  ·exact⟨_,h2,λ_ h=>h⟩)
 refine h b (base+0*ok.sz+0) σ0 s0 w0 Q Xc σ w a id (hE.trans C6.1) C6.2 ⟨hR.1,hR.2.1,λt'=>?_⟩;unfold bz;split
 ·rename_i ht;subst ht;rw[XF];have RI:aA σ s w (.pp k g 0 0 b (base+0*ok.sz+0)) (.pointer (some ⟨b,base+0*ok.sz+0,none⟩)):=.pp ok hk (by omega) (λ_=>⟨base,hs,hC,rfl⟩);exact RI.aX C6.1
 ·exact(hR.2.2 t').aX C6.1
theorem bO.W5 {e:Env}{oa:Obj}{b a0:Nat} (t k a1 j:Nat) (he:e t=.pp k g 0 0 b a0) (hk:s[k]?=some ok) (uY:ok.g=g) (ha:s[a1]?=some oa) (hc:oa.aw[j]?=some [FU b a0]) (fF:oa.sz=1) :
  bO e s (bz e t (.rf k g 0 0)) (s.set a1 { oa with aw:=oa.aw.set j [.rf k g 0 0] }):=by
 intro σ0 s0 w0 σ w N a hE hI hR;have hr:=hR.2.2 t;rw[he]at hr;generalize XF:a.tmps.getD t undef=u at hr;cases hr with|pp o' iY hg di=>?_
 rw[hk]at iY;cases iY;obtain⟨base,hs,hC,XM⟩:=di uY;have Tx:aA σ s w (.rf k g 0 0) (.pointer (some ⟨b,a0,none⟩)):=.rf ok hk (by omega) rfl (λ_=>⟨b,base,hs,hC,by rw[XM]⟩);have C6:=yK hI (els':=oa.aw.set j [.rf k g 0 0]) ha (λel qX=>by
   rcases agU qX with h'|rfl
   ·rcases hI.content a1 oa ha with (⟨_,h0⟩|⟨_,es,_,_,_,h3⟩)|⟨_,_,_,_,_,_,h3,_⟩
    ·rw[h0]at h';cases h'
    ·exact absurd h3 (AK hc es)
    ·exact h3 el h'
   ·rw[fF];rfl) (by simp) (AK hc) (λi l x' hx=>by
  rcases H0 hc hx with ⟨_,_,rfl,h2⟩|h2
  ·refine⟨_,h2,λu uF=>?_⟩;cases uF with|d hd=>?_
   cases hd with|sc _ _=>?_
   exact Tx
  ·exact⟨_,h2,λ_ h=>h⟩)
 refine⟨σ,hE.trans C6.1,C6.2,hR.1,hR.2.1,λt'=>?_⟩;unfold bz;split
 ·rename_i ht;subst ht;rw[XF];exact Tx.aX C6.1
 ·exact(hR.2.2 t').aX C6.1
theorem Nm (j k:Nat) (hj:args[j]?=some (.rf k g 0 0)) (hk:s[k]?=some ok) (uY:ok.g=g)
  (h:∀b a,aq P f (args.set j (.pp k g 0 0 b a)) s K):aq P f args s K:=by
 refine⟨(h 0 0).1,λσ w vals hI hl hv=>?_⟩;have hr:=hv j _ hj;generalize XF:vals.getD j undef=u at hr;cases hr with|rf o' iY hg hu di=>?_
 rw[hk]at iY;cases iY;obtain⟨b,base,hs,hC,rfl⟩:=di uY;have RI:aA σ s w (.pp k g 0 0 b (base+0*ok.sz+0)) (.pointer (some ⟨b,base+0*ok.sz+0,none⟩)):=.pp ok hk (by omega) (λ_=>⟨base,hs,hC,rfl⟩);refine(h b (base+0*ok.sz+0)).2 σ w vals hI (by simpa using hl) λi x hx=>?_;rw[List.getElem?_set]at hx;split at hx
 ·rename_i Uz;subst Uz;split at hx
  ·cases hx;rw[XF];exact RI
  ·cases hx
 ·exact hv i x hx
theorem O8 {o:Obj}{c:List V} (h:o.aw=c::aw) (hx:x∈c) (hn:∀v,x≠.d (.sc v)) (es:Array MapEntry):o.aw≠eR es:=by
 intro he;rw[h,eR]at he;have hm:c∈es.toList.map λe=>[V.d (.sc e.key),V.d (.sc e.val)]:=by rw[<- he];simp
 obtain⟨e,_,rfl⟩:=List.mem_map.1 hm;simp only[agV,ag8,or_false]at hx;rcases hx with rfl|rfl
 ·exact hn _ rfl
 ·exact hn _ rfl
theorem Jb{o:Obj}{pre post:List V} (k:Nat) (ho:s[k]?=some o) (fP:o.aw=[pre++.fu []::post]) (fF:pre.length+1+post.length=o.sz)
  (h:aq P f args (s.set k { o with aw:=[pre++.d (.sl [])::post] }) K):aq P f args s K:=by
 refine⟨h.1,λσ w vals hI hl hv=>?_⟩;have C6:=yK hI (els':=[pre++.d (.sl [])::post]) ho (λel qX=>by rw[List.mem_singleton.1 qX];simp;omega) (by rw[fP];rfl) (O8 fP (x:=.fu []) (by simp) (by simp)) (λi j x' hx=>by
  rw[fP]
  match i with
  |i+1=>simp at hx
  |0 =>
   simp only[agm,agE]at hx ⊢;rcases Nat.lt_trichotomy j pre.length with az|rfl|Yz
   ·rw[af2 az]at hx;exact⟨x',by rw[af2 az];exact hx,λ_ h=>h⟩
   ·rw[af6 (af3 _),ahi,agm]at hx;cases hx;refine⟨.fu [],by rw[af6 (af3 _),ahi];rfl,λu hu=>?_⟩;cases hu with|fu hd=>exact .d hd
   ·rw[af6 (by omega)]at hx;refine⟨x',?_,λ_ h=>h⟩;rw[af6 (by omega)];obtain⟨m,hm⟩:∃m,j-pre.length=m+1:=⟨j-pre.length-1,by omega⟩
    rw[hm,agF]at hx ⊢;exact hx)
 refine(h.2 σ w vals C6.2 hl λi x hx=>(hv i x hx).aX C6.1).mono λe w' ⟨u,v,σ',s',h1,h2,h3,h4,h5⟩=>⟨u,v,σ',s',h1,C6.1.trans h2,h3,h4,h5⟩
end Go.VL
namespace Go.Proofs.Ytfmdmlfhigocaaa
open Go.VL
mutual
def Re.lk:Re->Nat->List D
 |.mk op set kids mn mx mode n neg,k =>
  if op=7\/op=8 then (Re.mk op set kids mn mx mode n neg).bj k::Re.eC kids (k+1) else Re.eC kids k
def Re.eC:List Re->Nat->List D
 |[],_=>[]
 |x::l,k=>x.lk k++Re.eC l (k+x.looks)
end
theorem Re.I8 (re:Re) (k:Nat):re.lk k=if re.op=7\/re.op=8 then re.bj k::Re.eC re.kids (k+1) else Re.eC re.kids k:=by
 cases re;rw[Re.lk];rfl
mutual
theorem Re.zn:∀(re:Re) (k:Nat),(re.lk k).length=re.looks
 |.mk op set kids mn mx mode n neg,k=>by have h:=Re.ke kids;rw[Re.lk,Re.looks];split <;> simp [h] <;> omega
theorem Re.ke:∀(l:List Re) (k:Nat),(Re.eC l k).length=Re.aD l
 |[],_=>rfl
 |x::l,k=>by rw[Re.eC,af7,Re.zn x,Re.ke l,Re.aD]
end
variable{root:D}{N1:List (List D)}{t:List Int}
theorem z9:∀(l:List Re) (x:Re) (k:Nat),Re.eC (l++[x]) k=Re.eC l k++x.lk (k+Re.aD l)
 |[],x,k=>by simp [Re.eC,Re.aD]
 |y::l,x,k=>by rw[afQ,Re.eC,z9 l,Re.eC,Re.aD,agu,agM]
theorem z8:∀(l:List Re) (x:Re) (k:Nat),Re.dH (l++[x]) k=Re.dH l k++[[x.bj (k+Re.aD l)]]
 |[],x,k=>by simp [Re.dH,Re.aD]
 |y::l,x,k=>by rw[afQ,Re.dH,z8 l,Re.dH,Re.aD,agM];rfl
def gM (t:List Int) (root:D) (g n:Nat):VL.Obj:=⟨0,true,4,[[.d (al t),.d root,.so 1 g 0 n,.d (.sl [])]]⟩
def fe (g:Nat) (l:List D):VL.Obj:=⟨g,true,1,l.map λd=>[.d d]⟩
def vH (t:List Int) (root:D) (re:Re):Prop:=∀(g:Nat) (Pr:List D),Pr.length+re.looks<=1000000 ->
 aq Try.prog 52 [.rf 0 0 0 0,fv re] [gM t root g Pr.length,fe g Pr] λv s=>v=.d (re.bj Pr.length)/\s=[gM t root (g+re.looks) (Pr++re.lk Pr.length).length,fe (g+re.looks) (Pr++re.lk Pr.length)]
theorem jT (ρ:List Nat) (g:Nat) (l:List D):aT ρ (fe g l)=fe g l:=by unfold aT fe;simp only[agy];congr 1
theorem mi (n g:Nat) (l:List D):aG n (fe g l)=true:=by unfold aG fe;rw[af8];intro e he;obtain⟨i,_,rfl⟩:=List.mem_map.1 he;rfl
def eN (re:Re) (g k i:Nat):VL.Obj:=⟨0,true,10,[re.cells.map .d++[.so 4 g 0 i,i64 k]]⟩
def gS (t:List Int) (root:D) (re:Re) (g k:Nat) (Pr:List D) (i:Nat):List VL.Obj :=
 [gM t root g Pr.length,fe g Pr,av re,eN re i k i,⟨i,true,1,(Re.dH (re.kids.take i) k).map λc=>c.map V.d⟩]
theorem WR (t:List Int) (root:D) (re:Re) (g k:Nat) (Pr:List D) (i:Nat):(gS t root re g k Pr i).all (aG 5)=true:=by
 have h1:=mi 5 g Pr;have h2:aG 5 (av re)=true:=by simp [av,aG,Re.ae re,ah]
 have h3:aG 5 (eN re i k i)=true:=by simp [eN,aG,Re.ae re,ah,i64]
 have h4:aG 5 (gM t root g Pr.length)=true:=by simp [gM,aG,ah]
 have h5:aG 5 ⟨i,true,1,(Re.dH (re.kids.take i) k).map λc=>c.map V.d⟩=true:=A3;simp only[gS,agq,agA,h1,h2,h3,h4,h5,ag3]
theorem zm {α β:Type}{f:β->Option α}{h:β->α}:∀{l:List β},(∀x∈l,f x=some (h x))->l.mapM f=some (l.map h)
 |[],_=>by simp
 |x::l,hx=>by rw[agS,hx x (by simp),zm (λy hy=>hx y (by simp [hy]))];rfl
theorem Pd (lim g:Nat) (s:List VL.Obj) (l:List D):xL lim s (fe g l)=some (fe g l):=by
 unfold xL fe;have:(l.map λd=>[V.d d]).mapM (ba.go lim s)=some (l.map λd=>[V.d d]):=by
  rw[zm (h:=id)]
  ·simp
  ·intro x hx;obtain⟨d,_,rfl⟩:=List.mem_map.1 hx;rfl
 rw[this];rfl
theorem Oe{re:Re}{g k n:Nat}{P:List D}{bx:VL.Obj} (hN:N1.length=n) (K:V->List VL.Obj->Prop)
  (h:K (.d (.el (re.cells++[.sl N1,iD k]))) [gM t root g P.length,fe g P]) :
  y4 2 [gM t root g P.length,fe g P,bx,eN re n k n,⟨n,true,1,N1.map λc=>c.map V.d⟩] (.rf 3 0 0 0) K:=by
 unfold y4;have hA:([gM t root g P.length,fe g P,bx,eN re n k n,⟨n,true,1,N1.map λc=>c.map V.d⟩].take 2).mapM (xL 2 [gM t root g P.length,fe g P,bx,eN re n k n,⟨n,true,1,N1.map λc=>c.map V.d⟩])=some [gM t root g P.length,fe g P]:=by
  have h1:xL 2 [gM t root g P.length,fe g P,bx,eN re n k n,⟨n,true,1,N1.map λc=>c.map V.d⟩] (gM t root g P.length)=some (gM t root g P.length):=by simp [xL,gM,ba.go,ba,cj,fe]
  simp only[ags,agD,agS,List.mapM_nil,h1,Pd];rfl
 have hB:ba 2 [gM t root g P.length,fe g P,bx,eN re n k n,⟨n,true,1,N1.map λc=>c.map V.d⟩] (.rf 3 0 0 0)=some (.d (.el (re.cells++[.sl N1,iD k]))):=by have h1:=eH 6 2 [gM t root g P.length,fe g P,bx,eN re n k n,⟨n,true,1,N1.map λc=>c.map V.d⟩] N1 n (by omega);simp only[ba,cj,agF,agm,eN,true_and,fX,true_or,if_true,agH,Re.ae,afR,afU,afQ,afS,agS,List.mapM_nil,i64,afN,hN,afX,af3,and_self];simp only[eN,Re.ae,afR,afU,afQ,afS,i64]at h1;rw[h1];rfl
 rw[hA,hB];exact h
theorem Ky (t:List Int) (root:D) (re:Re) (hn7:¬re.op=7) (hn8:¬re.op=8) (wF:re.kids.length<=1000) (hK:∀x∈re.kids,vH t root x):vH t root re:=by
 intro g Pr hPr;have eL:re.lk Pr.length=Re.eC re.kids Pr.length:=by rw[Re.I8,ap (by omega)]
 have C7:re.looks=Re.aD re.kids:=by rw[Re.eA,ap (by omega),afX]
 have cB:re.bj Pr.length=.el [iD re.op,.sl (re.set.map aV),.sl (re.kids.map Re.cells),iD re.mn,iD re.mx,iD re.mode,iD re.n,bD re.neg,.sl (Re.dH re.kids Pr.length),iD Pr.length]:=by rw[Re.dV,ap (by omega),ag0]
 rw[eL,C7,cB];rw[C7]at hPr;refine KC Try.func52 rfl Try.ntmps52 Try.results52 rfl 2 240518168763 (by simp) (by simp) ?_;simp only[zX,cQ,dx,dB,dC,dD,gl,ja,jg,jk,mA,eI,eJ,fX,reduceIte,reduceCtorEq,gj,i64,bV,iD,bD,ai re,gM];refine ar mix [7] [] (by rfl) ?_;simp only[zX,cQ,dx,dB,dC,dD,gl,ja,jg,jk,mA,eI,eJ,fX,reduceIte,reduceCtorEq,gj,i64,bV,iD,bD,Re.ae re,hn7,hn8,gM];generalize di:Pr.length=k at *;refine au (λn e s=>∃i:Nat,n=re.kids.length-i/\i<=re.kids.length/\e 0=.rf 0 0 0 0/\e 5=.rf 3 0 0 0/\e 35=.d (.sl (re.kids.map Re.cells))/\e 36=i64 re.kids.length/\e 37=i64 i/\s=gS t root re (g+Re.aD (re.kids.take i)) k (Pr++Re.eC (re.kids.take i) k) i)
  ⟨_,_,_,.DD (mF (pre:=[V.d (iD re.op),V.d (.sl (re.set.map aV)),V.d (.sl (re.kids.map Re.cells)),V.d (iD re.mn),V.d (iD re.mx),V.d (iD re.mode),V.d (iD re.n),V.d (bD re.neg)]) (post:=[i64 k]) 3 1 rfl rfl rfl),0,rfl,by omega,rfl,rfl,rfl,by first|rfl|(rw[afN];rfl),rfl,?_⟩ ?_
 ·simp [gS,gM,eN,av,Re.ae re,iD,bD,i64,Re.aD,Re.eC,Re.dH,di,al]
 rintro n e s ⟨i,rfl,hi,h0,h5,zd,EY,HQ,rfl⟩;have hPl:(Pr++Re.eC (re.kids.take i) k).length=k+Re.aD (re.kids.take i):=by rw[af7,Re.ke,di]
 have Gb:=Re.oo (re.kids.take i) k;rw[agN,Nat.min_eq_left hi]at Gb;rcases agi i re.kids.length with az|fI
 ·obtain⟨x,hx⟩:∃x,re.kids[i]?=some x:=⟨_,afP az⟩
  have hm:=afW hx;have aC:(i:Int)<(re.kids.length:Int):=by omega
  have hi0:(0:Int)<=(i:Int):=by omega
  have Lw:Re.aD (re.kids.take (i+1))=Re.aD (re.kids.take i)+x.looks:=by rw[aR hx,jO];simp [Re.aD]
  have hle:Re.aD (re.kids.take (i+1))<=Re.aD re.kids:=by
   have h1:re.kids=re.kids.take (i+1)++re.kids.drop (i+1):=(ahk _ _).symm;have h2:Re.aD re.kids=Re.aD (re.kids.take (i+1))+Re.aD (re.kids.drop (i+1)):=by rw[<- jO,<- h1]
   omega
  have W0:Pr++Re.eC (re.kids.take (i+1)) k=Pr++Re.eC (re.kids.take i) k++x.lk (Pr++Re.eC (re.kids.take i) k).length:=by rw[aR hx,z9,hPl,agu]
  have wK:Re.dH (re.kids.take (i+1)) k=Re.dH (re.kids.take i) k++[[x.bj (Pr++Re.eC (re.kids.take i) k).length]]:=by rw[aR hx,z8,hPl]
  have vN:=hK x hm (g+Re.aD (re.kids.take i)) (Pr++Re.eC (re.kids.take i) k) (by omega);rw[<- W0,agM,<- Lw]at vN;generalize hP2:Pr++Re.eC (re.kids.take (i+1)) k=P2 at *;generalize Pr++Re.eC (re.kids.take i) k=P1 at *;generalize hG2:g+Re.aD (re.kids.take (i+1))=G2 at *;generalize g+Re.aD (re.kids.take i)=G1 at *;generalize hN2:Re.dH (re.kids.take (i+1)) k=N2 at *;rw[show gS t root re G1 k P1 i=[gM t root G1 P1.length,fe G1 P1,av re,eN re i k i,⟨i,true,1,(Re.dH (re.kids.take i) k).map λc=>c.map V.d⟩] from rfl];generalize hN1:Re.dH (re.kids.take i) k=N1 at *;generalize x.bj P1.length=xd at *;have e0:∀n G,aT [0,1] (gM t root G n)=gM t root G n:=λn G=>by simp [aT,gM,aL,aL.go]
  have e3:aG 2 (gM t root G1 P1.length)=true:=by simp [gM,aG,ah]
  simp only[zX,cQ,dx,dB,dC,dD,gl,ja,jg,jk,mA,eI,eJ,fX,reduceIte,reduceCtorEq,gj,i64,bV,iD,bD,av,Re.ae re,afR,afU,h0,h5,zd,EY,HQ,aC,hi0,az,hx,afN,afO,afV,afT];refine ar mix [] [(2,[3],[]),(3,[3],[]),(4,[3],[]),(7,[0,1],[0,1]),(9,[4],[4]),(10,[3],[]),(11,[3],[]),(12,[3],[3])] (by rfl) ?_;simp only[zX,cQ,dx,dB,dC,dD,gl,ja,jg,jk,mA,eI,eJ,fX,reduceIte,reduceCtorEq,gj,i64,bV,iD,bD,Re.ae re,afR,afU,h0,h5,zd,EY,HQ,eN,afQ,afS];refine fq [0,1] vN (by decide) rfl ?_ ?_ ?_ ?_ (r':=.d xd) rfl ?_
  ·simp only[afR,afU,e0,jT];rfl
  ·rw[ai];simp [aL,aL.go,i64,bV]
  ·rw[ai];simp [ah,ah.go,i64,bV]
  ·simp only[agq,agA,afZ,af0,afX,eJ,e3,mi,ag3]
  simp only[afR,afU,e0,jT,aE,agd,agf];simp only[zX,cQ,dx,dB,dC,dD,gl,ja,jg,jk,mA,eI,eJ,fX,reduceIte,reduceCtorEq,gj,i64,bV,iD,bD,h0,h5,zd,EY,HQ,afN,afQ,afS];have hT:List.take i (N1.map λc=>c.map V.d)++[[V.d xd]]=N2.map λc=>c.map V.d:=by rw[af1 (by rw[afN];omega),wK];simp
  refine⟨rfl,λe he=>by rw[List.mem_singleton.1 he];rfl,⟨by omega,by omega⟩,?_⟩;rw[hT];refine⟨re.kids.length-(i+1),_,_,by omega,br.cut (s':=gS t root re G2 k P2 (i+1)) 5 (by omega) ?_ (WR t root re G2 k P2 (i+1)) [0,5,35,36,37] (by simp [bz,aH,ah,h0,h5,zd,EY,HQ,i64]),i+1,rfl,az,?_,?_,?_,?_,?_,by rw[hG2,hP2]⟩ <;> (try simp only[zU,gj,cQ,dx,eI,reduceIte])
  ·simp [gS,eN,av,Re.ae re,iD,bD,i64,hN2]
  ·exact h0
  ·exact h5
  ·exact zd
  ·exact EY
  ·rw[bd _ (by omega)];rfl
 ·have cV:i=re.kids.length:=by omega
  subst cV;rw[agj]at *;simp only[zX,cQ,dx,dB,dC,dD,gl,ja,jg,jk,mA,eI,eJ,fX,reduceIte,reduceCtorEq,gj,i64,bV,iD,bD,h0,h5,zd,EY,HQ,agO,gS,Ma];refine Oe (by rw[agj,Gb]) _ ?_;rw[agj,Re.ae re];exact⟨rfl,rfl⟩
def lE (g:Nat) (Pr Q:List D):VL.Obj:=⟨g,true,1,(Pr.map λd=>[V.d d])++[V.rf 3 0 0 0]::(Q.map λd=>[V.d d])⟩
theorem R6 (g:Nat) (Pr Q:List D):aG 5 (lE g Pr Q)=true:=by have h1:=mi 5 g Pr;have h2:=mi 5 g Q;unfold aG fe at h1 h2;unfold aG lE;simp only[ahf,agq,h1,h2,af5,Bool.true_and,agA];rfl
def lS (t:List Int) (root:D) (re:Re) (g k:Nat) (Pr Q:List D) (N1:List (List D)):List VL.Obj :=
 [gM t root g (Pr.length+1+Q.length),lE g Pr Q,av re,eN re N1.length k N1.length,⟨N1.length,true,1,N1.map λc=>c.map V.d⟩]
theorem TO (t:List Int) (root:D) (re:Re) (g k:Nat) (Pr Q:List D) (N1:List (List D)):(lS t root re g k Pr Q N1).all (aG 5)=true:=by
 have h2:aG 5 (av re)=true:=by simp [av,aG,Re.ae re,ah]
 have h3:aG 5 (eN re N1.length k N1.length)=true:=by simp [eN,aG,Re.ae re,ah,i64]
 have h4:aG 5 (gM t root g (Pr.length+1+Q.length))=true:=by simp [gM,aG,ah]
 have h5:aG 5 ⟨N1.length,true,1,N1.map λc=>c.map V.d⟩=true:=A3;simp only[lS,agq,agA,R6,h2,h3,h4,h5,ag3]
theorem EI{re:Re}{g k:Nat}{Pr Q:List D} (K:V->List VL.Obj->Prop)
  (h:K (.d (.el (re.cells++[.sl N1,iD k]))) [gM t root g (Pr.length+1+Q.length),fe g (Pr++D.el (re.cells++[.sl N1,iD k])::Q)]) :
  y4 2 (lS t root re g k Pr Q N1) (.rf 3 0 0 0) K:=by
 unfold y4;have hB:ba 2 (lS t root re g k Pr Q N1) (.rf 3 0 0 0)=some (.d (.el (re.cells++[.sl N1,iD k]))):=by
  have h1:=eH 6 2 (lS t root re g k Pr Q N1) N1 N1.length (af3 _);generalize hS:lS t root re g k Pr Q N1=S at *;have q3:S[3]?=some (eN re N1.length k N1.length):=by rw[<- hS];rfl
  have q4:S[4]?=some ⟨N1.length,true,1,N1.map λc=>c.map V.d⟩:=by rw[<- hS];rfl
  simp only[ba,cj,q3,q4,eN,true_and,fX,true_or,if_true,agm,agH,Re.ae,afR,afU,afQ,afS,agS,List.mapM_nil,i64,afN,afX,af3,and_self,h1];rfl
 have hA:xL 2 (lS t root re g k Pr Q N1) (gM t root g (Pr.length+1+Q.length))=some (gM t root g (Pr.length+1+Q.length)):=by simp [xL,gM,ba.go,ba,cj,lS,lE]
 have hC:xL 2 (lS t root re g k Pr Q N1) (lE g Pr Q)=some (fe g (Pr++D.el (re.cells++[.sl N1,iD k])::Q)):=by
  unfold xL;have:(lE g Pr Q).aw.mapM (ba.go 2 (lS t root re g k Pr Q N1))=some ((Pr++D.el (re.cells++[.sl N1,iD k])::Q).map λd=>[V.d d]):=by
   have hd:∀(L:List D),(L.map λd=>[V.d d]).mapM (ba.go 2 (lS t root re g k Pr Q N1))=some (L.map λd=>[V.d d]):=λL=>by
    rw[zm (h:=id)]
    ·simp
    ·intro x hx;obtain⟨d,_,rfl⟩:=List.mem_map.1 hx;rfl
   simp only[lE,List.mapM_append,agS,hd,ba.go,hB];simp
  rw[this];rfl
 have hT:((lS t root re g k Pr Q N1).take 2).mapM (xL 2 (lS t root re g k Pr Q N1))=some [gM t root g (Pr.length+1+Q.length),fe g (Pr++D.el (re.cells++[.sl N1,iD k])::Q)]:=by rw[show (lS t root re g k Pr Q N1).take 2=[gM t root g (Pr.length+1+Q.length),lE g Pr Q] from rfl];simp only[agS,List.mapM_nil,hA,hC];rfl
 rw[hT,hB];exact h
theorem NC (t:List Int) (root:D) (re x:Re) (ho:re.op=7\/re.op=8) (Wu:re.kids=[x]) (hK:vH t root x):vH t root re:=by
 intro g Pr hPr;have hlx:Re.aD re.kids=x.looks:=by rw[Wu];simp [Re.aD]
 have eL:re.lk Pr.length=re.bj Pr.length::x.lk (Pr.length+1):=by rw[Re.I8,be ho,Wu];simp [Re.eC]
 have C7:re.looks=1+x.looks:=by rw[Re.eA,be ho,hlx]
 have cB:re.bj Pr.length=.el (re.cells++[.sl [[x.bj (Pr.length+1)]],iD Pr.length]):=by rw[Re.dV,be ho,Wu,Re.ae re,Wu];rfl
 have vN:=λptr=>hK (g+1) (Pr++[ptr]) (by rw[af7,agv];omega);have hlen:∀ptr,(Pr++[ptr]++x.lk (Pr++[ptr]).length).length=Pr.length+1+(x.lk (Pr.length+1)).length:=λptr=>by simp only[af7,agv]
 simp only[hlen,af7,agv]at vN;rw[eL,C7,cB];have GM:=Re.zn x (Pr.length+1);have ZI:(Pr++D.el (re.cells++[.sl [[x.bj (Pr.length+1)]],iD Pr.length])::x.lk (Pr.length+1)).length=Pr.length+1+(x.lk (Pr.length+1)).length:=by simp;omega
 rw[ZI];generalize x.lk (Pr.length+1)=Q at *;generalize x.bj (Pr.length+1)=xd at *;have hG:g+(1+x.looks)=g+1+x.looks:=by omega
 rw[hG];have yr:Pr.length<=1000000:=by omega
 have hT:List.take Pr.length (Pr.map λd=>[V.d d])=Pr.map λd=>[V.d d]:=af1 (by simp);generalize hL0:x.looks=lx at *;have wF:(re.kids.length:Int)=1:=by rw[Wu];rfl
 have WK:re.kids[0]?=some x:=by rw[Wu];rfl
 have h78:re.op=7\/(¬re.op=7/\re.op=8):=by omega
 have abA:∃b7 b8:Bool,decide (re.op=7)=b7/\decide (re.op=8)=b8/\(b7=true\/b8=true):=⟨_,_,rfl,rfl,by rcases ho with o|o <;> simp [o]⟩
 rcases h78 with o|⟨o',o⟩
 ·refine KC Try.func52 rfl Try.ntmps52 Try.results52 rfl 2 240518168763 (by simp) (by simp) ?_;simp only[zX,cQ,dx,dB,dC,dD,gl,ja,jg,jk,mA,eI,eJ,fX,reduceIte,reduceCtorEq,gj,i64,bV,iD,bD,ai re,gM];refine ar mix [7] [] (by rfl) ?_;simp only[zX,cQ,dx,dB,dC,dD,gl,ja,jg,jk,mA,eI,eJ,fX,reduceIte,reduceCtorEq,gj,i64,bV,iD,bD,Re.ae re,o,gM,fe,afN,hT,Option.bind_none,afX];refine⟨λe he=>by rw[List.mem_singleton.1 he];rfl,⟨by omega,by omega⟩,?_⟩;refine au (λn e s=>∃i:Nat,n=1-i/\i<=1/\e 0=.rf 0 0 0 0/\e 5=.rf 3 0 0 0/\e 35=.d (.sl (re.kids.map Re.cells))/\e 36=i64 1/\e 37=i64 i/\s=if i=0 then lS t root re (g+1) Pr.length Pr [] [] else lS t root re (g+1+lx) Pr.length Pr Q [[xd]])
   ⟨_,_,_,(br.cut (s':=[gM t root (g+1) (Pr.length+1),lE (g+1) Pr [],av re,⟨0,true,10,[re.cells.map .d++[.fu [],i64 Pr.length]]⟩]) 4 (by omega) (by simp [gM,lE,av,Re.ae re,iD,bD,i64,o,al]) (by have h1:=mi 4 0 Pr;unfold aG fe at h1;simp only[agq,agA,aG,lE,ahf,h1];simp [gM,av,Re.ae re,ah,i64]) [0,5,35,36,37] (by simp [bz,aH,ah,i64];rfl)).trans (.DD (mF (pre:=re.cells.map .d) (post:=[i64 Pr.length]) 3 1 rfl rfl (by simp [Re.ae re]))),0,rfl,by omega,by (try simp only[zU,gj,cQ,dx,eI,reduceIte]);(try rfl),by (try simp only[zU,gj,cQ,dx,eI,reduceIte]);(try rfl),by (try simp only[zU,gj,cQ,dx,eI,reduceIte]);(try rfl),by (try simp only[zU,gj,cQ,dx,eI,reduceIte]);(try rw[wF]);(try rfl),by (try simp only[zU,gj,cQ,dx,eI,reduceIte]);(try rfl),by simp [lS,eN]⟩ ?_
  rintro n e s ⟨i,rfl,hi,h0,h5,zd,EY,HQ,rfl⟩;rcases agi i 1 with az|fI
  ·obtain rfl:i=0:=by omega
   rw[be rfl];have aC:((0:Nat):Int)<1:=by decide
   simp only[zX,cQ,dx,dB,dC,dD,gl,ja,jg,jk,mA,eI,eJ,fX,reduceIte,reduceCtorEq,gj,i64,bV,iD,bD,lS,av,Re.ae re,afR,afU,h0,h5,zd,EY,HQ,aC,wF,WK,afN,afO,afV,afT,agk];have fx:∀ptr:D,({ lE (g+1) Pr []with aw:=(lE (g+1) Pr []).aw.set Pr.length [.d ptr] }:VL.Obj)=fe (g+1) (Pr++[ptr]):=λptr=>by simp [lE,fe,ahd]
   refine L9 (ok:=eN re 0 Pr.length 0) (oa:=lE (g+1) Pr []) (g:=0) 5 3 1 Pr.length (by (try simp only[zU,gj,cQ,dx,eI,reduceIte]);exact h5) rfl rfl rfl (by simp [lE]) rfl (λb a=>?_);rw[FU,fx];have vN:=vN (.sc (.pointer (some ⟨b,a,none⟩)));have PK:({ fe (g+1+lx) (Pr++[.sc (.pointer (some ⟨b,a,none⟩))]++Q) with aw:=(fe (g+1+lx) (Pr++[.sc (.pointer (some ⟨b,a,none⟩))]++Q)).aw.set Pr.length [.rf 3 0 0 0] }:VL.Obj)=lE (g+1+lx) Pr Q:=by simp [lE,fe,ahd]
   have Ca:(fe (g+1+lx) (Pr++[.sc (.pointer (some ⟨b,a,none⟩))]++Q)).aw[Pr.length]?=some [FU b a]:=by simp [fe,FU]
   have e0:∀n G,aT [0,1] (gM t root G n)=gM t root G n:=λn G=>by simp [aT,gM,aL,aL.go]
   have e3:aG 2 (gM t root (g+1) (Pr.length+1))=true:=by simp [gM,aG,ah]
   simp only[agf,agd,ag0];generalize Pr++[.sc (.pointer (some ⟨b,a,none⟩))]++Q=P2 at *;generalize Pr++[.sc (.pointer (some ⟨b,a,none⟩))]=P1 at *;refine ar mix [] [(2,[3],[]),(3,[3],[]),(4,[3],[]),(7,[0,1],[0,1]),(9,[4],[4]),(10,[3],[]),(11,[3],[]),(12,[3],[3])] (by rfl) ?_;simp only[zX,cQ,dx,dB,dC,dD,gl,ja,jg,jk,mA,eI,eJ,fX,reduceIte,reduceCtorEq,gj,i64,bV,iD,bD,Re.ae re,afR,afU,h0,h5,zd,EY,HQ,eN,afQ,afS];refine fq [0,1] vN (by decide) rfl ?_ ?_ ?_ ?_ (r':=.d xd) rfl ?_
   ·simp only[afR,afU,e0,jT];rfl
   ·rw[ai];simp [aL,aL.go,i64,bV]
   ·rw[ai];simp [ah,ah.go,i64,bV]
   ·simp only[agq,agA,afZ,af0,afX,eJ,e3,mi,ag3]
   simp only[afR,afU,e0,jT,aE,agd,agf];simp only[zX,cQ,dx,dB,dC,dD,gl,ja,jg,jk,mA,eI,eJ,fX,reduceIte,reduceCtorEq,gj,i64,bV,iD,bD,h0,h5,zd,EY,HQ,afN,afQ,afS];refine⟨rfl,λe he=>by rw[List.mem_singleton.1 he];rfl,?_⟩;refine⟨0,_,_,by omega,(br.DD (bO.W5 (ok:=eN re 1 Pr.length 1) (oa:=fe (g+1+lx) P2) (g:=0) (b:=b) (a0:=a) 5 3 1 Pr.length (by (try simp only[zU,gj,cQ,dx,eI,reduceIte])) ?_ rfl rfl Ca rfl)).trans (br.cut (s':=lS t root re (g+1+lx) Pr.length Pr Q [[xd]]) 5 (by omega) ?_ (TO t root re (g+1+lx) Pr.length Pr Q [[xd]]) [0,5,35,36,37] (by simp [bz,aH,ah,h0,h5,zd,EY,HQ,i64])),1,rfl,by omega,?_,?_,?_,?_,?_,by rw[ap (by omega)];simp [lS,eN,av,Re.ae re,iD,bD,i64]⟩ <;> (try simp only[zU,gj,cQ,dx,eI,reduceIte])
   ·simp [eN,Re.ae re,iD,bD,i64]
   ·simp only[agf,agd,PK,ags,agD];simp [lS,eN,av,Re.ae re,iD,bD,i64]
   ·exact h0
   ·exact zd
   ·exact EY
   ·rfl
  ·obtain rfl:i=1:=by omega
   rw[ap (by omega)];simp only[zX,cQ,dx,dB,dC,dD,gl,ja,jg,jk,mA,eI,eJ,fX,reduceIte,reduceCtorEq,gj,i64,bV,iD,bD,h0,h5,zd,EY,HQ,agO,Int.natCast_one,Ma];refine EI _ ?_;exact⟨by simp [Re.ae re,iD,bD,o],by simp [Re.ae re,iD,bD,o,gM,fe]⟩
 ·refine KC Try.func52 rfl Try.ntmps52 Try.results52 rfl 2 240518168763 (by simp) (by simp) ?_;simp only[zX,cQ,dx,dB,dC,dD,gl,ja,jg,jk,mA,eI,eJ,fX,reduceIte,reduceCtorEq,gj,i64,bV,iD,bD,ai re,gM];refine ar mix [7] [] (by rfl) ?_;simp only[zX,cQ,dx,dB,dC,dD,gl,ja,jg,jk,mA,eI,eJ,fX,reduceIte,reduceCtorEq,gj,i64,bV,iD,bD,Re.ae re,o,gM,fe,afN,hT,Option.bind_none,afX];refine⟨λe he=>by rw[List.mem_singleton.1 he];rfl,⟨by omega,by omega⟩,?_⟩;refine au (λn e s=>∃i:Nat,n=1-i/\i<=1/\e 0=.rf 0 0 0 0/\e 5=.rf 3 0 0 0/\e 35=.d (.sl (re.kids.map Re.cells))/\e 36=i64 1/\e 37=i64 i/\s=if i=0 then lS t root re (g+1) Pr.length Pr [] [] else lS t root re (g+1+lx) Pr.length Pr Q [[xd]])
   ⟨_,_,_,(br.cut (s':=[gM t root (g+1) (Pr.length+1),lE (g+1) Pr [],av re,⟨0,true,10,[re.cells.map .d++[.fu [],i64 Pr.length]]⟩]) 4 (by omega) (by simp [gM,lE,av,Re.ae re,iD,bD,i64,o,al]) (by have h1:=mi 4 0 Pr;unfold aG fe at h1;simp only[agq,agA,aG,lE,ahf,h1];simp [gM,av,Re.ae re,ah,i64]) [0,5,35,36,37] (by simp [bz,aH,ah,i64];rfl)).trans (.DD (mF (pre:=re.cells.map .d) (post:=[i64 Pr.length]) 3 1 rfl rfl (by simp [Re.ae re]))),0,rfl,by omega,by (try simp only[zU,gj,cQ,dx,eI,reduceIte]);(try rfl),by (try simp only[zU,gj,cQ,dx,eI,reduceIte]);(try rfl),by (try simp only[zU,gj,cQ,dx,eI,reduceIte]);(try rfl),by (try simp only[zU,gj,cQ,dx,eI,reduceIte]);(try rw[wF]);(try rfl),by (try simp only[zU,gj,cQ,dx,eI,reduceIte]);(try rfl),by simp [lS,eN]⟩ ?_
  rintro n e s ⟨i,rfl,hi,h0,h5,zd,EY,HQ,rfl⟩;rcases agi i 1 with az|fI
  ·obtain rfl:i=0:=by omega
   rw[be rfl];have aC:((0:Nat):Int)<1:=by decide
   simp only[zX,cQ,dx,dB,dC,dD,gl,ja,jg,jk,mA,eI,eJ,fX,reduceIte,reduceCtorEq,gj,i64,bV,iD,bD,lS,av,Re.ae re,afR,afU,h0,h5,zd,EY,HQ,aC,wF,WK,afN,afO,afV,afT,agk];have fx:∀ptr:D,({ lE (g+1) Pr []with aw:=(lE (g+1) Pr []).aw.set Pr.length [.d ptr] }:VL.Obj)=fe (g+1) (Pr++[ptr]):=λptr=>by simp [lE,fe,ahd]
   refine L9 (ok:=eN re 0 Pr.length 0) (oa:=lE (g+1) Pr []) (g:=0) 5 3 1 Pr.length (by (try simp only[zU,gj,cQ,dx,eI,reduceIte]);exact h5) rfl rfl rfl (by simp [lE]) rfl (λb a=>?_);rw[FU,fx];have vN:=vN (.sc (.pointer (some ⟨b,a,none⟩)));have PK:({ fe (g+1+lx) (Pr++[.sc (.pointer (some ⟨b,a,none⟩))]++Q) with aw:=(fe (g+1+lx) (Pr++[.sc (.pointer (some ⟨b,a,none⟩))]++Q)).aw.set Pr.length [.rf 3 0 0 0] }:VL.Obj)=lE (g+1+lx) Pr Q:=by simp [lE,fe,ahd]
   have Ca:(fe (g+1+lx) (Pr++[.sc (.pointer (some ⟨b,a,none⟩))]++Q)).aw[Pr.length]?=some [FU b a]:=by simp [fe,FU]
   have e0:∀n G,aT [0,1] (gM t root G n)=gM t root G n:=λn G=>by simp [aT,gM,aL,aL.go]
   have e3:aG 2 (gM t root (g+1) (Pr.length+1))=true:=by simp [gM,aG,ah]
   simp only[agf,agd,ag0];generalize Pr++[.sc (.pointer (some ⟨b,a,none⟩))]++Q=P2 at *;generalize Pr++[.sc (.pointer (some ⟨b,a,none⟩))]=P1 at *;refine ar mix [] [(2,[3],[]),(3,[3],[]),(4,[3],[]),(7,[0,1],[0,1]),(9,[4],[4]),(10,[3],[]),(11,[3],[]),(12,[3],[3])] (by rfl) ?_;simp only[zX,cQ,dx,dB,dC,dD,gl,ja,jg,jk,mA,eI,eJ,fX,reduceIte,reduceCtorEq,gj,i64,bV,iD,bD,Re.ae re,afR,afU,h0,h5,zd,EY,HQ,eN,afQ,afS];refine fq [0,1] vN (by decide) rfl ?_ ?_ ?_ ?_ (r':=.d xd) rfl ?_
   ·simp only[afR,afU,e0,jT];rfl
   ·rw[ai];simp [aL,aL.go,i64,bV]
   ·rw[ai];simp [ah,ah.go,i64,bV]
   ·simp only[agq,agA,afZ,af0,afX,eJ,e3,mi,ag3]
   simp only[afR,afU,e0,jT,aE,agd,agf];simp only[zX,cQ,dx,dB,dC,dD,gl,ja,jg,jk,mA,eI,eJ,fX,reduceIte,reduceCtorEq,gj,i64,bV,iD,bD,h0,h5,zd,EY,HQ,afN,afQ,afS];refine⟨rfl,λe he=>by rw[List.mem_singleton.1 he];rfl,?_⟩;refine⟨0,_,_,by omega,(br.DD (bO.W5 (ok:=eN re 1 Pr.length 1) (oa:=fe (g+1+lx) P2) (g:=0) (b:=b) (a0:=a) 5 3 1 Pr.length (by (try simp only[zU,gj,cQ,dx,eI,reduceIte])) ?_ rfl rfl Ca rfl)).trans (br.cut (s':=lS t root re (g+1+lx) Pr.length Pr Q [[xd]]) 5 (by omega) ?_ (TO t root re (g+1+lx) Pr.length Pr Q [[xd]]) [0,5,35,36,37] (by simp [bz,aH,ah,h0,h5,zd,EY,HQ,i64])),1,rfl,by omega,?_,?_,?_,?_,?_,by rw[ap (by omega)];simp [lS,eN,av,Re.ae re,iD,bD,i64]⟩ <;> (try simp only[zU,gj,cQ,dx,eI,reduceIte])
   ·simp [eN,Re.ae re,iD,bD,i64]
   ·simp only[agf,agd,PK,ags,agD];simp [lS,eN,av,Re.ae re,iD,bD,i64]
   ·exact h0
   ·exact zd
   ·exact EY
   ·rfl
  ·obtain rfl:i=1:=by omega
   rw[ap (by omega)];simp only[zX,cQ,dx,dB,dC,dD,gl,ja,jg,jk,mA,eI,eJ,fX,reduceIte,reduceCtorEq,gj,i64,bV,iD,bD,h0,h5,zd,EY,HQ,agO,Int.natCast_one,Ma];refine EI _ ?_;exact⟨by simp [Re.ae re,iD,bD,o],by simp [Re.ae re,iD,bD,o,gM,fe]⟩
theorem Q7 (t:List Int) (root:D) (re:Re):re.every mv=true->vH t root re:=by
 refine Re.ind (Q:=λre=>re.every mv=true->vH t root re) (λre ih hs=>?_) re;obtain⟨ez,iO⟩:=(Re.aB re).1 hs;obtain⟨q1,q2,q3,_⟩:=jS.1 ez;have hK:∀x∈re.kids,vH t root x:=λx hx=>ih x hx (iO x hx);by_cases ho:re.op=7\/re.op=8
 ·obtain⟨x,hx⟩:∃x,re.kids=[x]:=List.length_eq_one_iff.1 (q1 (by omega));exact NC t root re x ho hx (hK x (by rw[hx];simp))
 ·exact Ky t root re (by omega) (by omega) q3 hK
end Go.Proofs.Ytfmdmlfhigocaaa
