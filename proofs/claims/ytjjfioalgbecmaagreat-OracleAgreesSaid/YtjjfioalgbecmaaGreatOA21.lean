/- A part of the proof. -/
import Derived.Test.YtjjfioalgbecmaaGreatOA19
import Derived.Test.YtjjfioalgbecmaaGreatOA20
set_option linter.unusedSimpArgs false
set_option linter.unusedVariables false
open Nat renaming reduceShiftRight → qa, reduceMod → qe, reduceEqDiff → Fp, reduceAdd → Fq, reduceLeDiff → Fs, reduceBEq → Ft
open Int renaming reduceEq → FD, reduceNatCast' → FF
set_option maxRecDepth 100000
set_option maxHeartbeats 80000000
namespace Go.VL
variable{aA:List (List V)}{x:V}{g:Nat}{ok:Obj}{s:List Obj}{P:Program}{f:FuncId}{args:List V}{K:V->List Obj->Prop}
def I4 (b a:Nat):V:=.d (.sc (.pointer (some ⟨b,a,none⟩)))
theorem CU{j:Nat} (h:aA[j]?=some [x]) (es:Array MapEntry):aA≠fX es:=by intro he;rw[he,fX,List.getElem?_map]at h;obtain⟨y,_,h2⟩:=Option.map_eq_some_iff.1 h;have h3:=congrArg List.length h2;simp at h3
theorem K2{j:Nat}{y:V} (h:aA[j]?=some [x]) {i l:Nat}{x':V} (hx:((aA.set j [y])[i]?.bind (·[l]?))=some x'):(i=j/\l=0/\x'=y/\(aA[i]?.bind (·[l]?))=some x)\/(aA[i]?.bind (·[l]?))=some x':=by
 by_cases hi:j=i
 ·subst hi;rw[List.getElem?_set_self (List.getElem?_eq_some_iff.1 h).1]at hx
  match l with
  |0 =>
   simp at hx;exact .inl ⟨rfl,rfl,hx.symm,by rw[h];rfl⟩
  |l+1=>simp at hx
 ·rw[List.getElem?_set_ne hi]at hx;exact .inr hx
theorem Pz{N:Nat}{full:List Oper}{e:Env}{K:Env->List Obj->Prop}{oa:Obj} (t k a1 j:Nat) (he:e t=.rf k g 0 0) (hk:s[k]?=some ok) (xg:ok.g=g) (ha:s[a1]?=some oa) (hc:oa.aA[j]?=some [.rf k g 0 0]) (gr:oa.sz=1)
  (h:∀b a,tv P N full (ca e t (.pp k g 0 0 b a)) (s.set a1 { oa with aA:=oa.aA.set j [I4 b a] }) K):tv P N full e s K:=by
 intro σ0 s0 w0 Q hKQ σ w a id hE hI hR;have hr:=hR.2.2 t;rw[he]at hr;generalize hu0:a.tmps.getD t undef=u at hr;cases hr with|rf o' jb hg hu dw=>?_
 rw[hk]at jb;cases jb;obtain⟨b,base,hs,hC,rfl⟩:=dw xg;have FH:=DW hI (els':=oa.aA.set j [I4 b (base+0*ok.sz+0)]) ha (λel uj=>by
   rcases amb uj with h'|rfl
   ·exact ZbG
   ·rw[gr];rfl) aq (CU hc) (λi l x' hx=>by
  rcases K2 hc hx with ⟨_,_,rfl,h2⟩|h2
  ·refine⟨_,h2,λu wK=>?_⟩;cases wK with|rf o2 TF _ _ DH=>?_
   rw[hk]at TF;cases TF;obtain⟨b2,Cd,jG,_,rfl⟩:=DH xg;rw[hs]at jG;cases jG;exact .d (.sc _ rfl)
  ·exact⟨_,h2,λ_ h=>h⟩)
 refine h b (base+0*ok.sz+0) σ0 s0 w0 Q hKQ σ w a id (hE.trans FH.1) FH.2 ⟨hR.1,hR.2.1,λt'=>?_⟩;unfold ca;split
 ·rename_i ht;subst ht;rw[hu0];have Lz:aD σ s w (.pp k g 0 0 b (base+0*ok.sz+0)) (.pointer (some ⟨b,base+0*ok.sz+0,none⟩)):=.pp ok hk ae (λ_=>⟨base,hs,hC,rfl⟩);exact Lz.bj FH.1
 ·exact(hR.2.2 t').bj FH.1
theorem cr.aci {e:Env}{oa:Obj}{b a0:Nat} (t k a1 j:Nat) (he:e t=.pp k g 0 0 b a0) (hk:s[k]?=some ok) (xg:ok.g=g) (ha:s[a1]?=some oa) (hc:oa.aA[j]?=some [I4 b a0]) (gr:oa.sz=1) :
  cr e s (ca e t (.rf k g 0 0)) (s.set a1 { oa with aA:=oa.aA.set j [.rf k g 0 0] }):=by
 intro σ0 s0 w0 σ w N a hE hI hR;have hr:=hR.2.2 t;rw[he]at hr;generalize hu0:a.tmps.getD t undef=u at hr;cases hr with|pp o' jb hg dw=>?_
 rw[hk]at jb;cases jb;obtain⟨base,hs,hC,hab⟩:=dw xg;have hrf:aD σ s w (.rf k g 0 0) (.pointer (some ⟨b,a0,none⟩)):=.rf ok hk ae rfl (λ_=>⟨b,base,hs,hC,by rw[hab]⟩);have FH:=DW hI (els':=oa.aA.set j [.rf k g 0 0]) ha (λel uj=>by
   rcases amb uj with h'|rfl
   ·exact ZbG
   ·rw[gr];rfl) aq (CU hc) (λi l x' hx=>by
  rcases K2 hc hx with ⟨_,_,rfl,h2⟩|h2
  ·refine⟨_,h2,λu wK=>?_⟩;cases wK with|d hd=>?_
   cases hd with|sc _ _=>?_
   exact hrf
  ·exact⟨_,h2,λ_ h=>h⟩)
 refine⟨σ,hE.trans FH.1,FH.2,hR.1,hR.2.1,λt'=>?_⟩;unfold ca;split
 ·rename_i ht;subst ht;rw[hu0];exact hrf.bj FH.1
 ·exact(hR.2.2 t').bj FH.1
theorem Q2 (j k:Nat) (hj:args[j]?=some (.rf k g 0 0)) (hk:s[k]?=some ok) (xg:ok.g=g)
  (h:∀b a,av P f (args.set j (.pp k g 0 0 b a)) s K):av P f args s K:=by
 refine⟨(h 0 0).1,λσ w vals hI hl hv=>?_⟩;have hr:=hv j _ hj;generalize hu0:vals.getD j undef=u at hr;cases hr with|rf o' jb hg hu dw=>?_
 rw[hk]at jb;cases jb;obtain⟨b,base,hs,hC,rfl⟩:=dw xg;have Lz:aD σ s w (.pp k g 0 0 b (base+0*ok.sz+0)) (.pointer (some ⟨b,base+0*ok.sz+0,none⟩)):=.pp ok hk ae (λ_=>⟨base,hs,hC,rfl⟩);refine(h b (base+0*ok.sz+0)).2 σ w vals hI (by simpa using hl) λi x hx=>?_;rw[List.getElem?_set]at hx;split at hx
 ·rename_i Zj;subst Zj;split at hx
  ·cases hx;rw[hu0];exact Lz
  ·cases hx
 ·exact hv i x hx
theorem S3 {o:Obj}{c:List V} (h:o.aA=c::aA) (hx:x∈c) (hn:∀v,x≠.d (.sc v)) (es:Array MapEntry):o.aA≠fX es:=by
 intro he;rw[h,fX]at he;have hm:c∈es.toList.map λe=>[V.d (.sc e.key),V.d (.sc e.val)]:=by rw[<- he];simp
 obtain⟨e,_,rfl⟩:=List.mem_map.1 hm;simp only[alT,amc,or_false]at hx;rcases hx with rfl|rfl
 ·exact hn _ rfl
 ·exact hn _ rfl
theorem Mn{o:Obj}{pre post:List V} (k:Nat) (ho:s[k]?=some o) (iy:o.aA=[pre++.fu []::post]) (gr:pre.length+1+post.length=o.sz)
  (h:av P f args (s.set k { o with aA:=[pre++.d (.sl [])::post] }) K):av P f args s K:=by
 refine⟨h.1,λσ w vals hI hl hv=>?_⟩;have FH:=DW hI (els':=[pre++.d (.sl [])::post]) ho (λel uj=>by rw[List.mem_singleton.1 uj];simp;omega) (by rw[iy];rfl) (S3 iy (x:=.fu []) aq aq) (λi j x' hx=>by
  rw[iy]
  match i with
  |i+1=>simp at hx
  |0 =>
   simp only[List.getElem?_cons_zero,alO]at hx ⊢;rcases Nat.lt_trichotomy j pre.length with aE|rfl|hgt
   ·rw[List.getElem?_append_left aE]at hx;exact⟨x',by rw[List.getElem?_append_left aE];exact hx,λ_ h=>h⟩
   ·rw[List.getElem?_append_right (ale _),ame,List.getElem?_cons_zero]at hx;cases hx;refine⟨.fu [],by rw[List.getElem?_append_right (ale _),ame];rfl,λu hu=>?_⟩;cases hu with|fu hd=>exact .d hd
   ·rw[List.getElem?_append_right ae]at hx;refine⟨x',?_,λ_ h=>h⟩;rw[List.getElem?_append_right ae];obtain⟨m,hm⟩:∃m,j-pre.length=m+1:=⟨j-pre.length-1,ae⟩
    rw[hm,List.getElem?_cons_succ]at hx ⊢;exact hx)
 refine(h.2 σ w vals FH.2 hl λi x hx=>(hv i x hx).bj FH.1).mono λe w' ⟨u,v,σ',s',h1,h2,h3,h4,h5⟩=>⟨u,v,σ',s',h1,FH.1.trans h2,h3,h4,h5⟩
end Go.VL
namespace Go.Proofs.YtjjfioalgbecmaaGreat
open Go.VL Go.Proofs.Tryz
mutual
def Re.mg:Re->Nat->List D
 |.mk op set kids mn mx mode n neg,k =>
  if op=7\/op=8 then (Re.mk op set kids mn mx mode n neg).bA k::Re.fl kids (k+1) else Re.fl kids k
def Re.fl:List Re->Nat->List D
 |[],_=>[]
 |x::l,k=>x.mg k++Re.fl l (k+x.looks)
end
theorem Re.Mf (re:Re) (k:Nat):re.mg k=if re.op=7\/re.op=8 then re.bA k::Re.fl re.kids (k+1) else Re.fl re.kids k:=by
 cases re;rw[Re.mg];rfl
mutual
theorem Re.BA:∀(re:Re) (k:Nat),(re.mg k).length=re.looks
 |.mk op set kids mn mx mode n neg,k=>by have h:=Re.oZ kids;rw[Re.mg,Re.looks];split <;> simp [h] <;> omega
theorem Re.oZ:∀(l:List Re) (k:Nat),(Re.fl l k).length=Re.bd l
 |[],_=>rfl
 |x::l,k=>by rw[Re.fl,ald,Re.BA x,Re.oZ l,Re.bd]
end
variable{root:D}{re:Re}{N1:List (List D)}{t:List Int}{aj:Int}{top:Int}
theorem Ci:∀(l:List Re) (x:Re) (k:Nat),Re.fl (l++[x]) k=Re.fl l k++x.mg (k+Re.bd l)
 |[],x,k=>by simp [Re.fl,Re.bd]
 |y::l,x,k=>by rw[ak5,Re.fl,Ci l,Re.fl,Re.bd,alx,alL]
theorem Ch:∀(l:List Re) (x:Re) (k:Nat),Re.ew (l++[x]) k=Re.ew l k++[[x.bA (k+Re.bd l)]]
 |[],x,k=>by simp [Re.ew,Re.bd]
 |y::l,x,k=>by rw[ak5,Re.ew,Ch l,Re.ew,Re.bd,alL];rfl
def gM (t:List Int) (root:D) (g n:Nat):VL.Obj:=⟨0,true,4,[[.d (ar t),.d root,.so 1 g 0 n,.d (.sl [])]]⟩
def fN (g:Nat) (l:List D):VL.Obj:=⟨g,true,1,l.map λd=>[.d d]⟩
def x4 (t:List Int) (root:D) (re:Re):Prop:=∀(g:Nat) (Pr:List D),Pr.length+re.looks<=1000000 ->
 av Tryz.prog 60 [.rf 0 0 0 0,lI re] [gM t root g Pr.length,fN g Pr] λv s=>v=.d (re.bA Pr.length)/\s=[gM t root (g+re.looks) (Pr++re.mg Pr.length).length,fN (g+re.looks) (Pr++re.mg Pr.length)]
theorem kH (ρ:List Nat) (g:Nat) (l:List D):ba ρ (fN g l)=fN g l:=by unfold ba fN;simp only[alH];congr 1
theorem nG (n g:Nat) (l:List D):aY n (fN g l)=true:=by unfold aY fN;rw[als];intro e he;obtain⟨i,_,rfl⟩:=List.mem_map.1 he;rfl
def fw (re:Re) (g k i:Nat):VL.Obj:=⟨0,true,10,[re.cells.map .d++[.so 4 g 0 i,i64 k]]⟩
def gS (t:List Int) (root:D) (re:Re) (g k:Nat) (Pr:List D) (i:Nat):List VL.Obj :=
 [gM t root g Pr.length,fN g Pr,aL re,fw re i k i,⟨i,true,1,(Re.ew (re.kids.take i) k).map λc=>c.map V.d⟩]
theorem ab2 (t:List Int) (root:D) (re:Re) (g k:Nat) (Pr:List D) (i:Nat):(gS t root re g k Pr i).all (aY 5)=true:=by
 have h1:=nG 5 g Pr;have h2:aY 5 (aL re)=true:=by simp [aL,aY,Re.ah re,ak]
 have h3:aY 5 (fw re i k i)=true:=by simp [fw,aY,Re.ah re,ak,i64]
 have h4:aY 5 (gM t root g Pr.length)=true:=by simp [gM,aY,ak]
 have h5:aY 5 ⟨i,true,1,(Re.ew (re.kids.take i) k).map λc=>c.map V.d⟩=true:=Dl;simp only[gS,alR,alW,h1,h2,h3,h4,h5,amh]
theorem Bz {α β:Type}{f:β->Option α}{h:β->α}:∀{l:List β},(∀x∈l,f x=some (h x))->l.mapM f=some (l.map h)
 |[],_=>aq
 |x::l,hx=>by rw[ami,hx x aq,Bz (λy hy=>hx y (by simp [hy]))];rfl
theorem S6 (bM g:Nat) (s:List VL.Obj) (l:List D):xi bM s (fN g l)=some (fN g l):=by
 unfold xi fN;have:(l.map λd=>[V.d d]).mapM (bq.go bM s)=some (l.map λd=>[V.d d]):=by
  exact ZcL
 rw[this];rfl
theorem R4{g k n:Nat}{P:List D}{bx:VL.Obj} (hN:N1.length=n) (K:V->List VL.Obj->Prop)
  (h:K (.d (.el (re.cells++[.sl N1,iD k]))) [gM t root g P.length,fN g P]) :
  u5 2 [gM t root g P.length,fN g P,bx,fw re n k n,⟨n,true,1,N1.map λc=>c.map V.d⟩] (.rf 3 0 0 0) K:=by
 unfold u5;have hA:([gM t root g P.length,fN g P,bx,fw re n k n,⟨n,true,1,N1.map λc=>c.map V.d⟩].take 2).mapM (xi 2 [gM t root g P.length,fN g P,bx,fw re n k n,⟨n,true,1,N1.map λc=>c.map V.d⟩])=some [gM t root g P.length,fN g P]:=by
  have h1:xi 2 [gM t root g P.length,fN g P,bx,fw re n k n,⟨n,true,1,N1.map λc=>c.map V.d⟩] (gM t root g P.length)=some (gM t root g P.length):=by simp [xi,gM,bq.go,bq,cJ,fN]
  simp only[al9,amj,ami,List.mapM_nil,h1,S6];rfl
 have hB:bq 2 [gM t root g P.length,fN g P,bx,fw re n k n,⟨n,true,1,N1.map λc=>c.map V.d⟩] (.rf 3 0 0 0)=some (.d (.el (re.cells++[.sl N1,iD k]))):=by have h1:=fI 6 2 [gM t root g P.length,fN g P,bx,fw re n k n,⟨n,true,1,N1.map λc=>c.map V.d⟩] N1 n ae;simp only[bq,cJ,List.getElem?_cons_succ,List.getElem?_cons_zero,fw,true_and,Fs,true_or,if_true,alV,Re.ah,ak8,ak9,ak5,ak6,ami,List.mapM_nil,i64,ak4,hN,alc,ale,and_self];simp only[fw,Re.ah,ak8,ak9,ak5,ak6,i64]at h1;rw[h1];rfl
 rw[hA,hB];exact h
theorem NA (t:List Int) (root:D) (re:Re) (hn7:¬re.op=7) (hn8:¬re.op=8) (wY:re.kids.length<=1000) (hK:∀x∈re.kids,x4 t root x):x4 t root re:=by
 intro g Pr hPr;have jX:re.mg Pr.length=Re.fl re.kids Pr.length:=by rw[Re.Mf,bm]
 have yh:re.looks=Re.bd re.kids:=by rw[Re.jc,bm,alc]
 have eX:re.bA Pr.length=.el [iD re.op,.sl (re.set.map aU),.sl (re.kids.map Re.cells),iD re.mn,iD re.mx,iD re.mode,iD re.n,bD re.neg,.sl (Re.ew re.kids Pr.length),iD Pr.length]:=by rw[Re.eL,bm,al8]
 rw[jX,yh,eX];rw[yh]at hPr;refine DN Tryz.func60 rfl Tryz.ntmps60 Tryz.results60 rfl 2 240518168763 aq aq ?_;simp only[zQ,simprocAttr,au re,gM];refine cP mix [7] [] ?_;simp only[zQ,simprocAttr,Re.ah re,hn7,hn8,gM];generalize dw:Pr.length=k at *;refine ay (λn e s=>∃i:Nat,n=re.kids.length-i/\i<=re.kids.length/\e 0=.rf 0 0 0 0/\e 5=.rf 3 0 0 0/\e 35=.d (.sl (re.kids.map Re.cells))/\e 36=i64 re.kids.length/\e 37=i64 i/\s=gS t root re (g+Re.bd (re.kids.take i)) k (Pr++Re.fl (re.kids.take i) k) i)
  ⟨_,_,_,.On (nY (pre:=[V.d (iD re.op),V.d (.sl (re.set.map aU)),V.d (.sl (re.kids.map Re.cells)),V.d (iD re.mn),V.d (iD re.mx),V.d (iD re.mode),V.d (iD re.n),V.d (bD re.neg)]) (post:=[i64 k]) 3 1 rfl rfl rfl),0,rfl,ae,rfl,rfl,rfl,by first|rfl|(rw[ak4];rfl),rfl,?_⟩ ?_
 ·simp [gS,gM,fw,aL,Re.ah re,iD,bD,i64,Re.bd,Re.fl,Re.ew,dw,ar]
 rintro n e s ⟨i,rfl,hi,h0,h5,Bh,H5,KQ,rfl⟩;have hPl:(Pr++Re.fl (re.kids.take i) k).length=k+Re.bd (re.kids.take i):=by rw[ald,Re.oZ,dw]
 have LN:=Re.pS (re.kids.take i) k;rw[alM,Nat.min_eq_left hi]at LN;rcases alw i re.kids.length with aE|gE
 ·obtain⟨x,hx⟩:∃x,re.kids[i]?=some x:=cb aE;have hm:=List.mem_of_getElem? hx;have aH:(i:Int)<(re.kids.length:Int):=ae;have hi0:(0:Int)<=(i:Int):=ae;have MV:Re.bd (re.kids.take (i+1))=Re.bd (re.kids.take i)+x.looks:=by rw[bn hx,nt];simp [Re.bd]
  have hle:Re.bd (re.kids.take (i+1))<=Re.bd re.kids:=by
   have h1:re.kids=re.kids.take (i+1)++re.kids.drop (i+1):=(amw _ _).symm;have h2:Re.bd re.kids=Re.bd (re.kids.take (i+1))+Re.bd (re.kids.drop (i+1)):=by rw[<- nt,<- h1]
   omega
  have hds:Pr++Re.fl (re.kids.take (i+1)) k=Pr++Re.fl (re.kids.take i) k++x.mg (Pr++Re.fl (re.kids.take i) k).length:=by rw[bn hx,Ci,hPl,alx]
  have yS:Re.ew (re.kids.take (i+1)) k=Re.ew (re.kids.take i) k++[[x.bA (Pr++Re.fl (re.kids.take i) k).length]]:=by rw[bn hx,Ch,hPl]
  have xh:=hK x hm (g+Re.bd (re.kids.take i)) (Pr++Re.fl (re.kids.take i) k) ae;rw[<- hds,alL,<- MV]at xh;generalize hP2:Pr++Re.fl (re.kids.take (i+1)) k=P2 at *;generalize Pr++Re.fl (re.kids.take i) k=P1 at *;generalize hG2:g+Re.bd (re.kids.take (i+1))=G2 at *;generalize g+Re.bd (re.kids.take i)=G1 at *;generalize hN2:Re.ew (re.kids.take (i+1)) k=N2 at *;rw[show gS t root re G1 k P1 i=[gM t root G1 P1.length,fN G1 P1,aL re,fw re i k i,⟨i,true,1,(Re.ew (re.kids.take i) k).map λc=>c.map V.d⟩] from rfl];generalize hN1:Re.ew (re.kids.take i) k=N1 at *;generalize x.bA P1.length=xd at *;have e0:∀n G,ba [0,1] (gM t root G n)=gM t root G n:=λn G=>by simp [ba,gM,aI,aI.go]
  have e3:aY 2 (gM t root G1 P1.length)=true:=by simp [gM,aY,ak]
  simp only[zQ,simprocAttr,aL,Re.ah re,ak8,ak9,h0,h5,Bh,H5,KQ,aH,hi0,aE,hx,ak4,List.getElem?_map,ala,ak7];refine cP mix [] [(2,[3],[]),(3,[3],[]),(4,[3],[]),(7,[0,1],[0,1]),(9,[4],[4]),(10,[3],[]),(11,[3],[]),(12,[3],[3])] ?_;simp only[zQ,simprocAttr,Re.ah re,ak8,ak9,h0,h5,Bh,H5,KQ,fw,ak5,ak6];refine Be [0,1] xh aF rfl ?_ ?_ ?_ ?_ (r':=.d xd) rfl ?_
  ·simp only[ak8,ak9,e0,kH];rfl
  ·rw[au];simp [aI,aI.go,i64,bV]
  ·rw[au];simp [ak,ak.go,i64,bV]
  ·simp only[alR,alW,alg,alf,alc,Fq,e3,nG,amh]
  simp only[ak8,ak9,e0,kH,aT,alA,alD];simp only[zQ,simprocAttr,h0,h5,Bh,H5,KQ,ak4,ak5,ak6];have hT:List.take i (N1.map λc=>c.map V.d)++[[V.d xd]]=N2.map λc=>c.map V.d:=by rw[aln (by rw[ak4];omega),yS];simp
  refine⟨rfl,λe he=>by rw[List.mem_singleton.1 he];rfl,⟨ae,ae⟩,?_⟩;rw[hT];refine⟨re.kids.length-(i+1),_,_,ae,bO.cut (s':=gS t root re G2 k P2 (i+1)) 5 ae ?_ (ab2 t root re G2 k P2 (i+1)) [0,5,35,36,37] (by simp [ca,aZ,ak,h0,h5,Bh,H5,KQ,i64]),i+1,rfl,aE,?_,?_,?_,?_,?_,by rw[hG2,hP2]⟩ <;> (try simp only[zU,Ft,qa,qe,Fp,reduceIte])
  ·simp [gS,fw,aL,Re.ah re,iD,bD,i64,hN2]
  ·exact h0
  ·exact h5
  ·exact Bh
  ·exact H5
  ·rw[bK _ ae];rfl
 ·have eg:i=re.kids.length:=by omega
  subst eg;rw[alr]at *;simp only[zQ,simprocAttr,h0,h5,Bh,H5,KQ,alZ,gS,HF];refine R4 (by rw[alr,LN]) _ ?_;rw[alr,Re.ah re];exact⟨rfl,rfl⟩
def mG (g:Nat) (Pr Q:List D):VL.Obj:=⟨g,true,1,(Pr.map λd=>[V.d d])++[V.rf 3 0 0 0]::(Q.map λd=>[V.d d])⟩
theorem Wh (g:Nat) (Pr Q:List D):aY 5 (mG g Pr Q)=true:=by have h1:=nG 5 g Pr;have h2:=nG 5 g Q;unfold aY fN at h1 h2;unfold aY mG;simp only[amm,alR,h1,h2,alp,al6,alW];rfl
def lS (t:List Int) (root:D) (re:Re) (g k:Nat) (Pr Q:List D) (N1:List (List D)):List VL.Obj :=
 [gM t root g (Pr.length+1+Q.length),mG g Pr Q,aL re,fw re N1.length k N1.length,⟨N1.length,true,1,N1.map λc=>c.map V.d⟩]
theorem Yg (t:List Int) (root:D) (re:Re) (g k:Nat) (Pr Q:List D) (N1:List (List D)):(lS t root re g k Pr Q N1).all (aY 5)=true:=by
 have h2:aY 5 (aL re)=true:=by simp [aL,aY,Re.ah re,ak]
 have h3:aY 5 (fw re N1.length k N1.length)=true:=by simp [fw,aY,Re.ah re,ak,i64]
 have h4:aY 5 (gM t root g (Pr.length+1+Q.length))=true:=by simp [gM,aY,ak]
 have h5:aY 5 ⟨N1.length,true,1,N1.map λc=>c.map V.d⟩=true:=Dl;simp only[lS,alR,alW,Wh,h2,h3,h4,h5,amh]
theorem HO{g k:Nat}{Pr Q:List D} (K:V->List VL.Obj->Prop)
  (h:K (.d (.el (re.cells++[.sl N1,iD k]))) [gM t root g (Pr.length+1+Q.length),fN g (Pr++D.el (re.cells++[.sl N1,iD k])::Q)]) :
  u5 2 (lS t root re g k Pr Q N1) (.rf 3 0 0 0) K:=by
 unfold u5;have hB:bq 2 (lS t root re g k Pr Q N1) (.rf 3 0 0 0)=some (.d (.el (re.cells++[.sl N1,iD k]))):=by
  have h1:=fI 6 2 (lS t root re g k Pr Q N1) N1 N1.length (ale _);generalize hS:lS t root re g k Pr Q N1=S at *;have q3:S[3]?=some (fw re N1.length k N1.length):=by rw[<- hS];rfl
  have q4:S[4]?=some ⟨N1.length,true,1,N1.map λc=>c.map V.d⟩:=by rw[<- hS];rfl
  simp only[bq,cJ,q3,q4,fw,true_and,Fs,true_or,if_true,List.getElem?_cons_zero,alV,Re.ah,ak8,ak9,ak5,ak6,ami,List.mapM_nil,i64,ak4,alc,ale,and_self,h1];rfl
 have hA:xi 2 (lS t root re g k Pr Q N1) (gM t root g (Pr.length+1+Q.length))=some (gM t root g (Pr.length+1+Q.length)):=by simp [xi,gM,bq.go,bq,cJ,lS,mG]
 have hC:xi 2 (lS t root re g k Pr Q N1) (mG g Pr Q)=some (fN g (Pr++D.el (re.cells++[.sl N1,iD k])::Q)):=by
  unfold xi;have:(mG g Pr Q).aA.mapM (bq.go 2 (lS t root re g k Pr Q N1))=some ((Pr++D.el (re.cells++[.sl N1,iD k])::Q).map λd=>[V.d d]):=by
   have hd:∀(L:List D),(L.map λd=>[V.d d]).mapM (bq.go 2 (lS t root re g k Pr Q N1))=some (L.map λd=>[V.d d]):=λL=>by
    exact ZcL
   simp only[mG,List.mapM_append,ami,hd,bq.go,hB];simp
  rw[this];rfl
 have hT:((lS t root re g k Pr Q N1).take 2).mapM (xi 2 (lS t root re g k Pr Q N1))=some [gM t root g (Pr.length+1+Q.length),fN g (Pr++D.el (re.cells++[.sl N1,iD k])::Q)]:=by rw[show (lS t root re g k Pr Q N1).take 2=[gM t root g (Pr.length+1+Q.length),mG g Pr Q] from rfl];simp only[ami,List.mapM_nil,hA,hC];rfl
 rw[hT,hB];exact h
theorem Rn (t:List Int) (root:D) (re x:Re) (ho:re.op=7\/re.op=8) (YR:re.kids=[x]) (hK:x4 t root x):x4 t root re:=by
 intro g Pr hPr;have hlx:Re.bd re.kids=x.looks:=by rw[YR];simp [Re.bd]
 have jX:re.mg Pr.length=re.bA Pr.length::x.mg (Pr.length+1):=by rw[Re.Mf,be ho,YR];simp [Re.fl]
 have yh:re.looks=1+x.looks:=by rw[Re.jc,be ho,hlx]
 have eX:re.bA Pr.length=.el (re.cells++[.sl [[x.bA (Pr.length+1)]],iD Pr.length]):=by rw[Re.eL,be ho,YR,Re.ah re,YR];rfl
 have xh:=λptr=>hK (g+1) (Pr++[ptr]) (by rw[ald,alC];omega);have hlen:∀ptr,(Pr++[ptr]++x.mg (Pr++[ptr]).length).length=Pr.length+1+(x.mg (Pr.length+1)).length:=λptr=>by simp only[ald,alC]
 simp only[hlen,ald,alC]at xh;rw[jX,yh,eX];have JN:=Re.BA x (Pr.length+1);have ae8:(Pr++D.el (re.cells++[.sl [[x.bA (Pr.length+1)]],iD Pr.length])::x.mg (Pr.length+1)).length=Pr.length+1+(x.mg (Pr.length+1)).length:=cV;rw[ae8];generalize x.mg (Pr.length+1)=Q at *;generalize x.bA (Pr.length+1)=xd at *;have hG:g+(1+x.looks)=g+1+x.looks:=ae;rw[hG];have r9:Pr.length<=1000000:=ae;have hT:List.take Pr.length (Pr.map λd=>[V.d d])=Pr.map λd=>[V.d d]:=aln aq;generalize hL0:x.looks=lx at *;have wY:(re.kids.length:Int)=1:=by rw[YR];rfl
 have abX:re.kids[0]?=some x:=by rw[YR];rfl
 have h78:re.op=7\/(¬re.op=7/\re.op=8):=ae;have ag3:∃b7 b8:Bool,decide (re.op=7)=b7/\decide (re.op=8)=b8/\(b7=true\/b8=true):=⟨_,_,rfl,rfl,by rcases ho with o|o <;> simp [o]⟩
 rcases h78 with o|⟨o',o⟩
 ·exact Zac
 ·exact Zac
theorem Vf (t:List Int) (root:D) (re:Re):re.every mF=true->x4 t root re:=by
 refine Re.ind (Q:=λre=>re.every mF=true->x4 t root re) (λre ih hs=>?_) re;obtain⟨dL,jG⟩:=(Re.az re).1 hs;obtain⟨q1,q2,q3,_⟩:=je.1 dL;have hK:∀x∈re.kids,x4 t root x:=λx hx=>ih x hx (jG x hx);by_cases ho:re.op=7\/re.op=8
 ·obtain⟨x,hx⟩:∃x,re.kids=[x]:=List.length_eq_one_iff.1 (q1 ae);exact Rn t root re x ho hx (hK x (by rw[hx];simp))
 ·exact NA t root re ae ae q3 hK
theorem JF (p:fU) (g:Bool) (hg:g=(decide (0<=p.aj)&&decide (p.aj<=9))) :
  (if (p.re.vw p.aj (e8 p.aM) 1 0 g).1=true then (if (p.re.vw p.aj (e8 p.aM) 1 0 g).2.2=true then (0:Int) else 1) else 4)=cI p:=by
 obtain⟨a1,_,_,a4⟩:=Yj p.aj (e8 p.aM) p.re 1 0 g ae ae;by_cases h:(p.re.vw p.aj (e8 p.aM) 1 0 g).1=true
 ·have h1:=a1.1 h;have hv:cI p=if p.aj<0\/9<p.aj\/p.re.whole p.aj (e8 p.aM)=false then 1 else 0:=by unfold cI;rw[bm]
  rw[be h,hv,(a4 h).2,hg];cases hw:p.re.whole p.aj (e8 p.aM)
  ·rw[ap aq,be (.inr (.inr rfl))]
  ·by_cases hc:p.aj<0\/9<p.aj
   ·rw[ap (by simp only[alp,alo,decide_eq_true_eq];omega),rY]
   ·rw[be (by simp only[alp,alo,decide_eq_true_eq];omega),ap (by rintro (h'|h'|h') <;> first|omega|cases h')]
 ·have hh:¬(0+(p.re.size:Int)<=256/\1+p.re.depth-1<=24):=λhh=>h (a1.2 hh);have hv:cI p=4:=by unfold cI;rw[rY]
  rw[ap h,hv]
theorem E0 (p:fU) (hf:p.re.df=true):aS prog 20 [.ag ((Fl p).map .d)] (i64 (cI p)):=by
 have hto:=Vp p.aM;have htt:e8 p.aM<=1114111:=by unfold e8;split <;> omega
 have hk:∀g:Bool,g=(decide (0<=p.aj)&&decide (p.aj<=9))->av prog 44 [.d (.el (Fl p)),i64 1,.rf 0 0 0 0,.rf 1 0 0 0,.d (.el (Fl p)),.rf 3 0 0 0,.rf 4 0 0 0] [pf 0,gO g,rP false p,pf (e8 p.aM),jN 44]
   λv s=>v=bV (p.re.vw p.aj (e8 p.aM) 1 0 g).1/\s=[pf (p.re.vw p.aj (e8 p.aM) 1 0 g).2.1,gO (p.re.vw p.aj (e8 p.aM) 1 0 g).2.2,rP false p,pf (e8 p.aM),jN 44]:=by
  intro g _;have:=R7 p (e8 p.aM) htt p.re hf 1 0 g false (.d (.el (Fl p))) (.inr rfl) ae ae ae ae;exact Q8 (ex:=[iD p.aj,bD p.aM]) this
 have fin:=λg hg=>JF p g hg;generalize hG:(decide (0<=p.aj)&&decide (p.aj<=9))=G at hk fin;have hk:=hk G rfl;have fin:=fin G rfl;generalize p.re.vw p.aj (e8 p.aM) 1 0 G=R at hk fin;obtain⟨R1,R2,R3⟩:=R;simp only at fin;rw[<- fin];simp only[rP,jC p,iD,bD,bV,i64,ak8,ak9]at hk hto ⊢;refine br func20 ntmps20 results20 0 127 ?_;simp only[zI,simprocAttr,iD,bD,ak8,ak9];by_cases g1:0<=p.aj;all_goals
  try (by_cases g2:p.aj<=9)
 all_goals
  first
   |(have hGv:G=true:=by rw[<- hG,bi g1,bi g2];rfl
     subst hGv;simp only[zI,simprocAttr,iD,bD,g1,g2])
   |(have hGv:G=false:=by rw[<- hG,bi g1,ce g2];rfl
     subst hGv;simp only[zI,simprocAttr,iD,bD,g1,g2])
   |(have hGv:G=false:=by rw[<- hG,ce g1];rfl
     subst hGv;simp only[zI,simprocAttr,iD,bD,g1])
  refine dk hto ?_;simp only[zI,simprocAttr,iD,bD];refine bC [0] rfl ?_;refine dD [1,2,0,3,4] hk aF rfl rfl rfl (by simp [ak,ak.go]) (by simp [aY,pf,gO,rP,jN,ak,ak.go,i64,bV]) rfl ?_;cases R1
  ·simp only[zI,simprocAttr,bI,bU,ba,aI,aI.go,pf,gO,rP,jC p,jN,bV,aT,iD,bD];all_goals exact dX
  ·cases R3
   ·simp only[zI,simprocAttr,bI,bU,ba,aI,aI.go,pf,gO,rP,jC p,jN,bV,aT,iD,bD];all_goals exact dX
   ·simp only[zI,simprocAttr,bI,bU,ba,aI,aI.go,pf,gO,rP,jC p,jN,bV,aT,iD,bD];all_goals exact dX
theorem Sj (re:Re) (hs:re.every mF=true):aS Tryz.prog 27 [lI re] (bV (sL re)):=by
 have hl:=Ed re hs;have hlr:=Dq re;have hp:=λK hk=>dD [1] (VH re hs) aF rfl (s:=[aL re,⟨0,true,1,[[.cl (.func 58) [] [.rf 1 0 0 0]]]⟩]) (args:=[lI re,.rf 1 0 0 0]) rfl (by rw[au];simp [aI,aI.go,i64,bV]) (by rw[au];simp [ak,ak.go,i64,bV]) eh (r':=bV (re.every JP)) rfl (K:=K) hk;have w1:IntKind.i64.wrap (1+ed re)=1+ed re:=bK _ ae;unfold sL;rw[au]at hl;simp only[au re,i64,aL,Re.ah re,ak8,ak9,iD,bD]at hl hp;generalize ed re=y at *;by_cases c:1+y<=8192
 ·rw[bi c,al6];refine br Tryz.func27 Tryz.ntmps27 Tryz.results27 0 15 ?_;simp only[zI,simprocAttr,au re,iD,bD,bV];refine bB hl (by simp [ak,ak.go]) rfl ?_;simp only[zI,simprocAttr,au re,iD,bD,bV,w1,c];refine hp _ ?_;exact ZdA
 ·rw[ce c,Bool.false_and];refine br Tryz.func27 Tryz.ntmps27 Tryz.results27 0 15 ?_;simp only[zI,simprocAttr,au re,iD,bD,bV];refine bB hl (by simp [ak,ak.go]) rfl ?_;exact ZdA
theorem ZG (h:bX re aj top=true) (hc:aj<=9) (hk:re.kids.length<=1000):mF re=true:=by
 obtain⟨h1,h2,h3,h4,h5⟩:=eZ.1 h;have fB:re.set.length<=64:=by
  exact ZcX
 have sY:(re.op=4\/re.op=5\/re.op=7\/re.op=8)->(cE re.op).1=1/\(cE re.op).2=1:=λo=>by rcases o with o|o|o|o <;> rw[o] <;> simp [cE]
 have Ep:re.op=3->(cE re.op).1=2:=λo=>by rw[o];simp [cE]
 refine je.2 ⟨λo=>?_,λo=>?_,hk,?_⟩
 ·have:=sY o;omega
 ·have:=Ep o;omega
 ·by_cases o4:re.op=4
  ·rw[be o4]at h3;rw[bm,bm]at h4;refine⟨ae,ae,ae,ae,λ_=>ae,ae,ae,λh=>ae,λh=>ae,ae,ae,ae⟩
  ·rw[ap o4]at h3;refine⟨ae,ae,ae,ae,λh=>absurd h o4,?_⟩;by_cases o5:re.op=5\/re.op=6\/re.op=10
   ·rw[be o5]at h4;exact Zdb
   ·rw[ap o5]at h4;by_cases mZ:re.op=11
    ·rw[be mZ]at h4;exact Zdb
    ·rw[ap mZ]at h4;exact Zdb
theorem m8 (hc:aj<=9) (re:Re) (h:re.whole aj top=true) (hs:re.size<=256):re.every mF=true:=by revert h hs;refine Re.ind (Q:=λre=>re.whole aj top=true->re.size<=256->re.every mF=true) (λre ih h hs=>?_) re;obtain⟨a1,a2⟩:=(Re.az re).1 h;have:=Re.mX re.kids;have:=Re.size_eq re;exact(Re.az re).2 ⟨ZG a1 hc ae,λk hk=>ih k hk (a2 k hk) (by have:=Re.bZ hk;omega)⟩
def CD (p:fU):Int:=if cI p≠0 then cI p else if p.re.eC (List.replicate 10 false) false=false then 10 else if sL p.re=false then 4 else 0
theorem uR (p:fU) (hf:p.re.df=true):aS Tryz.prog 8 [bk p] (i64 (CD p)):=by
 have h1:=E0 p hf;have h2:cI p=0->aS Tryz.prog 26 [lI p.re,kV (List.replicate 10 false),bV false] (bV (p.re.eC (List.replicate 10 false) false)):=λhv=>by obtain⟨v1,v2,v3,v4,v5⟩:=cW hv;exact Vk p.re hf (m8 v4 p.re v5 v1) _ _ aq
 have h3:cI p=0->aS Tryz.prog 27 [lI p.re] (bV (sL p.re)):=λhv=>by obtain⟨v1,v2,v3,v4,v5⟩:=cW hv;exact Sj p.re (m8 v4 p.re v5 v1)
 unfold CD;generalize cI p=vr at *;cases p with
 |mk re aj aM =>
 simp only at *;generalize re.eC (List.replicate 10 false) false=kb at *;generalize sL re=sb at *;simp only[Fl,Re.ah re,ak8,ak9,ak5,ak6,au re,i64,iD,bD,bV,kV,List.replicate]at h1 h2 h3;by_cases hv:vr=0
 ·subst hv;have h2:=h2 rfl;have h3:=h3 rfl;rw[ap aq];cases kb with
  |false =>
   rw[be rfl];refine br Tryz.func8 Tryz.ntmps8 Tryz.results8 0 15 ?_;simp only[zI,simprocAttr,bk,Re.ah,bV,iD,bD];refine dk h1 ?_;simp only[zI,simprocAttr,bk,Re.ah,bV,iD,bD,ne_eq,not_true_eq_false];refine bB h2 (by simp [ak,ak.go]) rfl ?_;exact Zdw
  |true =>
   rw[ap aq];cases sb with
   |false =>
    rw[be rfl];refine br Tryz.func8 Tryz.ntmps8 Tryz.results8 0 15 ?_;simp only[zI,simprocAttr,bk,Re.ah,bV,iD,bD];refine dk h1 ?_;simp only[zI,simprocAttr,bk,Re.ah,bV,iD,bD,ne_eq,not_true_eq_false];refine bB h2 (by simp [ak,ak.go]) rfl ?_;simp only[zI,simprocAttr,bk,Re.ah,bV,iD,bD,alh];refine bB h3 (by simp [ak,ak.go]) rfl ?_;exact Zdw
   |true =>
    rw[ap aq];refine br Tryz.func8 Tryz.ntmps8 Tryz.results8 0 15 ?_;simp only[zI,simprocAttr,bk,Re.ah,bV,iD,bD];refine dk h1 ?_;simp only[zI,simprocAttr,bk,Re.ah,bV,iD,bD,ne_eq,not_true_eq_false];refine bB h2 (by simp [ak,ak.go]) rfl ?_;simp only[zI,simprocAttr,bk,Re.ah,bV,iD,bD,alh];refine bB h3 (by simp [ak,ak.go]) rfl ?_;simp only[zI,simprocAttr,bk,Re.ah,bV,iD,bD,alh];all_goals rfl
 ·rw[be hv];refine br Tryz.func8 Tryz.ntmps8 Tryz.results8 0 15 ?_;exact ZbU
section
variable (t:List Int) (root parts:D) (bg nb:Nat) (Bs:List (List Bool)) (b a:Nat)
theorem vp (C:List aw) (tl:List VL.Obj):List.take 6 (wO t root parts bg nb Bs b a C++tl)=wO t root parts bg nb Bs b a C:=rfl
def wS (C:List aw):List VL.Obj:=wO t root parts bg nb Bs b a C
theorem QW (re:Re) (ho:re.op≠2/\re.op≠3/\re.op≠4/\re.op≠5):zP t root parts bg nb Bs b a re:=by
 obtain⟨o2,o3,o4,o5⟩:=ho;intro k C hC;have jw:=λC=>y4 t root parts bg nb Bs b a C;have xY:C.length<=1000000000000:=ae;by_cases o1:re.op=1
 ·have hc:re.emit k C=C++[s9 re k]:=by rw[Re.kN,be o1]
  rw[hc];have hp:=λK hk=>wG (t:=t) (root:=root) (parts:=parts) (bg:=bg) (nb:=nb) (Bs:=Bs) (b:=b) (a:=a) (C:=C) xY (s9 re k) (re.bA k) (.ag [i64 1,i64 0,i64 0,i64 0,.cl (.func 65) [] [mB b a,.rf 6 0 0 0]]) (by simp [pk,pk.go,tS,s9,aw.cells,cB,o1,mB,nB,i64]) (K:=K) hk;generalize C++[s9 re k]=C2 at *;simp only[Re.eL,o1,FD,or_self,or_true,true_or,if_false,if_true,iD,bD,i64]at hp;refine xr Tryz.func64 rfl Tryz.ntmps64 Tryz.results64 rfl 6 1278813932664544596687975450732993771492559903679 (ale 6) (by first|decide|(simp [dR];done)) ?_;simp only[zQ,simprocAttr,-FF,dR,wO,Re.eL,o1,or_self,or_true,true_or,if_false,if_true];refine hp _ ?_;simp only[zQ,simprocAttr,-FF,vp,jw];rfl
 by_cases mZ:re.op=11
 ·have hc:re.emit k C=C++[lG re k]:=by rw[Re.kN,bm,rY]
  rw[hc];have hp:=λK hk=>wG (t:=t) (root:=root) (parts:=parts) (bg:=bg) (nb:=nb) (Bs:=Bs) (b:=b) (a:=a) (C:=C) xY (lG re k) (re.bA k) (.ag [i64 5,i64 0,i64 0,i64 0,.cl (.func 67) [] [.rf 6 0 0 0,mB b a]]) (by simp [pk,pk.go,tS,lG,aw.cells,cB,mZ,mB,nB,i64]) (K:=K) hk;generalize C++[lG re k]=C2 at *;simp only[Re.eL,mZ,FD,or_self,or_true,true_or,if_false,if_true,iD,bD,i64]at hp;refine xr Tryz.func64 rfl Tryz.ntmps64 Tryz.results64 rfl 6 1278813932664544596687975450732993771492559903679 (ale 6) (by first|decide|(simp [dR];done)) ?_;simp only[zQ,simprocAttr,-FF,dR,wO,Re.eL,mZ,or_self,or_true,true_or,if_false,if_true];refine hp _ ?_;simp only[zQ,simprocAttr,-FF,vp,jw];rfl
 by_cases o7:re.op=7
 ·have hc:re.emit k C=C++[lG re k]:=by rw[Re.kN,bm,rY]
  rw[hc];have hp:=λK hk=>wG (t:=t) (root:=root) (parts:=parts) (bg:=bg) (nb:=nb) (Bs:=Bs) (b:=b) (a:=a) (C:=C) xY (lG re k) (re.bA k) (.ag [i64 5,i64 0,i64 0,i64 0,.cl (.func 69) [] [mB b a,.rf 6 0 0 0]]) (by simp [pk,pk.go,tS,lG,aw.cells,cB,o7,mB,nB,i64]) (K:=K) hk;generalize C++[lG re k]=C2 at *;simp only[Re.eL,o7,FD,or_self,or_true,true_or,if_false,if_true,iD,bD,i64]at hp;refine xr Tryz.func64 rfl Tryz.ntmps64 Tryz.results64 rfl 6 1278813932664544596687975450732993771492559903679 (ale 6) (by first|decide|(simp [dR];done)) ?_;simp only[zQ,simprocAttr,-FF,dR,wO,Re.eL,o7,or_self,or_true,true_or,if_false,if_true];refine hp _ ?_;simp only[zQ,simprocAttr,-FF,vp,jw];rfl
 by_cases o8:re.op=8
 ·have hc:re.emit k C=C++[lG re k]:=by rw[Re.kN,bm,rY]
  rw[hc];have hp:=λK hk=>wG (t:=t) (root:=root) (parts:=parts) (bg:=bg) (nb:=nb) (Bs:=Bs) (b:=b) (a:=a) (C:=C) xY (lG re k) (re.bA k) (.ag [i64 5,i64 0,i64 0,i64 0,.cl (.func 69) [] [mB b a,.rf 6 0 0 0]]) (by simp [pk,pk.go,tS,lG,aw.cells,cB,o8,mB,nB,i64]) (K:=K) hk;generalize C++[lG re k]=C2 at *;simp only[Re.eL,o8,FD,or_self,or_true,true_or,if_false,if_true,iD,bD,i64]at hp;refine xr Tryz.func64 rfl Tryz.ntmps64 Tryz.results64 rfl 6 1278813932664544596687975450732993771492559903679 (ale 6) (by first|decide|(simp [dR];done)) ?_;simp only[zQ,simprocAttr,-FF,dR,wO,Re.eL,o8,or_self,or_true,true_or,if_false,if_true];refine hp _ ?_;simp only[zQ,simprocAttr,-FF,vp,jw];rfl
 have hc:re.emit k C=C:=by rw[Re.kN,ap o1,bm,ap o2,ap o3,ap o5,ap o4]
 rw[hc];refine xr Tryz.func64 rfl Tryz.ntmps64 Tryz.results64 rfl 6 1278813932664544596687975450732993771492559903679 (ale 6) (by first|decide|(simp [dR];done)) ?_;simp only[zQ,simprocAttr,-FF,dR,wO,Re.eL,o1,o2,o3,o4,o5,o7,o8,mZ];have hb:=hU 6 bg Bs;have Yx:((db C.length b a C).aA.all λe=>e.all (ak 6))=true:=kR 6 C.length b a ae C;rw[hb,Yx];rfl
def pg (re:Re) (k:Nat):VL.Obj:=⟨0,true,1,[[.d (re.bA k)]]⟩
theorem NF (re:Re) (k:Nat):dR b a re k=(dR b a re k).map (aI [0,1,2,3,4,5]):=by simp [dR,aI,aI.go,mB]
theorem R5 (re:Re) (k:Nat):ak.go 6 (dR b a re k)=true:=by simp [dR,ak,ak.go,mB]
variable {t root parts bg nb Bs b a}
theorem sj {x:Re} (h:zP t root parts bg nb Bs b a x) (k:Nat) {C:List aw} (hC:C.length+x.dp<=1000000000000) {tl:List VL.Obj}{K:V->List VL.Obj->Prop} (hk:K (.tu []) (wO t root parts bg nb Bs b a (x.emit k C)++tl)) :
  av Tryz.prog 64 (dR b a x k) (wO t root parts bg nb Bs b a C++tl) K :=
 XA (h k C hC) (NF b a x k) (R5 b a x k) rfl hk
variable (t root parts bg nb Bs b a)
theorem TE (re:Re) (o:re.op=2) (hE:OR re=true) (hK:∀x∈re.kids,zP t root parts bg nb Bs b a x):zP t root parts bg nb Bs b a re:=by
 intro k C hC;obtain⟨q1,q2,q3,_⟩:=ta.1 hE;have jw:=λC=>y4 t root parts bg nb Bs b a C;have hc:re.emit k C=Re.dn re.kids k C:=by rw[Re.kN,bm,bm,be o]
 have hz:re.dp=Re.cC re.kids:=by rw[Re.ga,nW,bm,be o]
 rw[hz]at hC;rw[hc];refine xr Tryz.func64 rfl Tryz.ntmps64 Tryz.results64 rfl 6 1278813932664544596687975450732993771492559903679 (ale 6) (by first|decide|(simp [dR];done)) ?_;simp only[zQ,simprocAttr,-FF,dR,wO,Re.eL,o,or_self,if_false,Re.pS];refine ay (λn e s=>∃i:Nat,n=re.kids.length-i/\i<=re.kids.length/\e 3=.rf 4 0 0 0/\e 46=.d (.sl (Re.ew re.kids k))/\e 47=i64 re.kids.length/\e 48=i64 i/\s=wS t root parts bg nb Bs b a (Re.dn (re.kids.take i) k C)++[pg re k])
  ⟨_,_,_,bO.refl,0,rfl,ae,rfl,rfl,rfl,rfl,by simp [wS,wO,Re.dn,pg,Re.eL,o,iD,bD]⟩ ?_
 rintro n e s ⟨i,rfl,hi,h3,h46,h47,h48,rfl⟩;rcases alw i re.kids.length with aE|gE
 ·obtain⟨x,hx⟩:∃x,re.kids[i]?=some x:=cb aE;have hm:=List.mem_of_getElem? hx;have aH:(i:Int)<(re.kids.length:Int):=ae;have hi0:(0:Int)<=(i:Int):=ae;have yl:=xL re.kids k i x hx;have gr:Re.cC (re.kids.take i)+x.dp<=Re.cC re.kids:=by
   have h1:re.kids=re.kids.take (i+1)++re.kids.drop (i+1):=(amw _ _).symm;have h2:Re.cC re.kids=Re.cC (re.kids.take (i+1))+Re.cC (re.kids.drop (i+1)):=by rw[<- iP,<- h1]
   rw[h2,bn hx,iP];simp only[Re.cC];omega
  have hw:=λK hk=>sj (hK x hm) (k+Re.bd (re.kids.take i)) (C:=Re.dn (re.kids.take i) k C) (by rw[Re.wy];omega) (tl:=[pg re k]) (K:=K) hk;rw[<- E7,<- bn hx]at hw;generalize Re.dn (re.kids.take i) k C=C1 at *;generalize hC2:Re.dn (re.kids.take (i+1)) k C=C2 at *;unfold dR wO at hw;simp only[zQ,simprocAttr,-FF,wS,wO,h3,h46,h47,h48,aH,hi0,aE,Re.pS,ak7,yl,ak5,ak6];refine hw _ ?_;simp only[zQ,simprocAttr,-FF,h3,h46,h47,h48];refine⟨re.kids.length-(i+1),_,_,ae,bO.refl,i+1,rfl,aE,?_,?_,?_,?_,by rw[hC2]⟩ <;> (try simp only[zU,Ft,qa,qe,Fp,reduceIte])
  ·exact h3
  ·exact h46
  ·exact h47
  ·rw[bK _ ae];rfl
 ·have eg:i=re.kids.length:=by omega
  subst eg;rw[alr];simp only[zQ,simprocAttr,-FF,wS,h3,h46,h47,h48,alZ,vp,jw];rfl
theorem S9 (re x:Re) (o:re.op=5) (hE:OR re=true) (hk:re.kids=[x]) (hK:zP t root parts bg nb Bs b a x):zP t root parts bg nb Bs b a re:=by
 intro k C hC;obtain⟨_,_,_,_,_,_,_,n0,n1⟩:=ta.1 hE;have jw:=λC=>y4 t root parts bg nb Bs b a C;have hc:re.emit k C=x.emit k (C++[jo (2*re.n-2)])++[jo (2*re.n-1)]:=by rw[Re.kN,bm,bm,bm,bm,be o,hk];rfl
 have hz:re.dp=x.dp+2:=by rw[Re.ga,nW,bm,bm,bm,be o,hk];simp [Re.cC]
 rw[hz]at hC;rw[hc];have wn1:IntKind.i64.wrap (2*re.n)=2*re.n:=bK _ ae;have wn2:IntKind.i64.wrap (2*re.n-2)=2*re.n-2:=bK _ ae;have wn3:IntKind.i64.wrap (2*re.n-1)=2*re.n-1:=bK _ ae;have zK:=λK hk=>kQ (t:=t) (root:=root) (parts:=parts) (bg:=bg) (nb:=nb) (Bs:=Bs) (b:=b) (a:=a) (C:=C) ae 4 0 0 (2*re.n-2) (tl:=[pg re k]) (K:=K) hk;have hw:=λK hk=>sj hK k (C:=C++[jo (2*re.n-2)]) (by rw[ald,alC];omega) (tl:=[pg re k]) (K:=K) hk;have BT:(x.emit k (C++[jo (2*re.n-2)])).length<=1000000000000:=by rw[Re.eR,ald,alC];omega
 have B0:=λK hk=>kQ (t:=t) (root:=root) (parts:=parts) (bg:=bg) (nb:=nb) (Bs:=Bs) (b:=b) (a:=a) (C:=x.emit k (C++[jo (2*re.n-2)])) BT 4 0 0 (2*re.n-1) (tl:=[pg re k]) (K:=K) hk;rw[show (⟨4,0,0,2*re.n-2,none⟩:aw)=jo (2*re.n-2) from rfl]at zK;rw[show (⟨4,0,0,2*re.n-1,none⟩:aw)=jo (2*re.n-1) from rfl]at B0;generalize x.emit k (C++[jo (2*re.n-2)])++[jo (2*re.n-1)]=C3 at *;generalize x.emit k (C++[jo (2*re.n-2)])=C2 at *;generalize C++[jo (2*re.n-2)]=C1 at *;have LN:Re.ew re.kids k=[[x.bA k]]:=by rw[hk];rfl
 have eX:re.bA k=.el [iD 5,.sl (re.set.map aU),.sl (re.kids.map Re.cells),iD re.mn,iD re.mx,iD re.mode,iD re.n,bD re.neg,.sl [[x.bA k]],iD k]:=by rw[Re.eL,bm,al8,LN,o]
 have hq:([[x.bA k]]:List (List D))[0]?=some [x.bA k]:=rfl;unfold pg at zK B0 hw;unfold dR at hw ⊢;rw[eX]at zK B0 hw ⊢;generalize x.bA k=xd at *;simp only[iD,bD,i64]at zK B0 hw;refine xr Tryz.func64 rfl Tryz.ntmps64 Tryz.results64 rfl 6 1278813932664544596687975450732993771492559903679 (ale 6) (by first|decide|(simp [dR];done)) ?_;simp only[zQ,simprocAttr,-FF,wO,alg,alf,alc];refine cP mix [9] [] ?_;simp only[zQ,simprocAttr,-FF,wn1,wn2];refine cU (zK _ ⟨rfl,rfl⟩) ?_;simp only[zQ,simprocAttr,-FF,wO,ak5,ak6];refine cP mix [7] [] ?_;simp only[zQ,simprocAttr,-FF,alg,alf,alc,hq];refine⟨aF,?_⟩;refine cU (hw _ ⟨rfl,rfl⟩) ?_;simp only[zQ,simprocAttr,-FF,wO,ak5,ak6];refine cP mix [9] [] ?_;simp only[zQ,simprocAttr,-FF,wn1,wn3];refine cU (B0 _ ⟨rfl,rfl⟩) ?_;simp only[zQ,simprocAttr,-FF,vp,jw];rfl
end
section
variable (t:List Int) (root parts:D) (bg nb:Nat) (Bs:List (List Bool)) (b a:Nat)
omit t root parts bg nb Bs b a in
theorem PS:∀(l:List Re) (k:Nat) (C:List aw) (J:List Nat),∀x∈(js l k C J).2,x∈J\/x<(js l k C J).1.length
 |[],_,_,_,x,h=>.inl h
 |y::l,k,C,J,x,h=>by
  have e:js (y::l) k C J=js l (k+y.looks) (yi (y.emit k (C++[dh 0 0])++[jZ 0]) C.length ((C.length:Int)+1) (((y.emit k (C++[dh 0 0])).length:Int)+1)) (J++[(y.emit k (C++[dh 0 0])).length]):=rfl;rw[e]at h ⊢;have hl:=(zq l (k+y.looks) (yi (y.emit k (C++[dh 0 0])++[jZ 0]) C.length ((C.length:Int)+1) (((y.emit k (C++[dh 0 0])).length:Int)+1)) (J++[(y.emit k (C++[dh 0 0])).length])).1;rcases PS l _ _ _ x h with h|h
  ·rcases List.mem_append.1 h with h|h
   ·exact .inl h
   ·rw[alm]at h;rw[oH,ald,alC]at hl;exact .inr ae
  ·exact .inr h
def aOS (C:List aw) (re:Re) (k g:Nat) (J:List Nat):List VL.Obj:=wO t root parts bg nb Bs b a C++[pg re k,bG g J]
def Es (C:List aw) (re:Re) (k g:Nat) (J:List Nat):List VL.Obj:=wO t root parts bg nb Bs b a C++[pg re k,bG g J]
theorem Ta (re:Re) (l:List Re) (z:Re) (o:re.op=3) (hE:OR re=true) (hk:re.kids=l++[z]) (hK:∀x∈re.kids,zP t root parts bg nb Bs b a x):zP t root parts bg nb Bs b a re:=by
 intro k C hC;obtain⟨_,_,q3,_⟩:=ta.1 hE;have jw:=λC=>y4 t root parts bg nb Bs b a C;have hc:re.emit k C=(js l k C []).2.foldl (xO (z.emit (k+Re.bd l) (js l k C []).1).length) (z.emit (k+Re.bd l) (js l k C []).1):=by rw[Re.kN,bm,bm,bm,be o,hk,J4]
 have wY:re.kids.length=l.length+1:=by rw[hk];simp
 have hz:re.dp=Re.cC l+z.dp+2*l.length:=by rw[Re.ga,nW,bm,bm,be o,wY,hk,iP];simp [Re.cC]
 rw[hz]at hC;rw[hc];have hnx:∀(i:Nat) (x:Re),re.kids[i]?=some x->(Re.ew re.kids k)[i]?=some [x.bA (k+Re.bd (re.kids.take i))]:=λi x h=>xL re.kids k i x h;have LN:=Re.pS re.kids k;have eX:re.bA k=.el [iD 3,.sl (re.set.map aU),.sl (re.kids.map Re.cells),iD re.mn,iD re.mx,iD re.mode,iD re.n,bD re.neg,.sl (Re.ew re.kids k),iD k]:=by rw[Re.eL,bm,al8,o]
 have hw0:IntKind.i64.wrap ((re.kids.length:Int)-1)=(l.length:Int):=by rw[wY];rw[bK _ ae];omega
 have oK:pg re k=⟨0,true,1,[[.d (re.bA k)]]⟩:=rfl;unfold dR;rw[eX]at oK ⊢;generalize hND:Re.ew re.kids k=ND at *;simp only[iD,bD]at oK;have tc:(l.length:Int)<=(ND.length:Int):=ae;have BT:l.length<=ND.length:=ae;have mY:(0:Int)<=(l.length:Int):=ae;refine xr Tryz.func64 rfl Tryz.ntmps64 Tryz.results64 rfl 6 1278813932664544596687975450732993771492559903679 (ale 6) (by first|decide|(simp [dR];done)) ?_;simp only[zQ,simprocAttr,wO,LN,hw0,mY,tc,BT,ak7,alM];refine⟨ae,?_⟩;refine ay (λn e s=>∃(i g:Nat),n=l.length-i/\i<=l.length/\e 1=.rf 3 0 0 0/\e 3=.rf 4 0 0 0/\e 4=.rf 2 0 0 0/\e 5=.rf 6 0 0 0/\e 8=.so 7 g 0 i/\e 9=i64 l.length/\e 69=.d (.sl (ND.take l.length))/\e 70=i64 l.length/\e 71=i64 i/\s=aOS t root parts bg nb Bs b a (js (l.take i) k C []).1 re k g (js (l.take i) k C []).2)
  ⟨_,_,_,.On (gQ 8 1 rfl),0,0,rfl,ae,rfl,rfl,rfl,rfl,rfl,rfl,rfl,?_,rfl,by rw[aOS,oK];rfl⟩ ?_
 ·(try simp only[zU,Ft,qa,qe,Fp,reduceIte])
  have:min ((l.length:Int)-0).toNat re.kids.length=l.length:=ae;rw[this];rfl
 rintro n e s ⟨i,g,rfl,hi,h1,h3,h4,h5,h8,h9,V0,V4,Wk,rfl⟩;have hJl:=(zq (l.take i) k C []).2;have hCl:=(zq (l.take i) k C []).1;rw[alf,alc]at hJl;rcases alw i l.length with aE|gE
 ·obtain⟨x,hx⟩:∃x,l[i]?=some x:=cb aE;have hxk:re.kids[i]?=some x:=by rw[hk,List.getElem?_append_left aE];exact hx
  have hm:x∈re.kids:=List.mem_of_getElem? hxk;have aH:(i:Int)<(l.length:Int):=ae;have hi0:(0:Int)<=(i:Int):=ae;have yl:=hnx i x hxk;have yO:re.kids.take i=l.take i:=by rw[hk,List.take_append_of_le_length ae]
  rw[yO]at yl;have afv:(ND.take l.length)[i]?=some [x.bA (k+Re.bd (l.take i))]:=by rw[List.getElem?_take_of_lt aE];exact yl
  have gr:Re.cC (l.take i)+x.dp<=Re.cC l:=by
   have h1:l=l.take (i+1)++l.drop (i+1):=(amw _ _).symm;have h2:Re.cC l=Re.cC (l.take (i+1))+Re.cC (l.drop (i+1)):=by rw[<- iP,<- h1]
   rw[h2,bn hx,iP];simp only[Re.cC];omega
  have Eb:=GP (l.take i) x k C [];rw[<- bn hx]at Eb;rw[alM]at hCl hJl;rw[show aOS t root parts bg nb Bs b a (js (l.take i) k C []).1 re k g (js (l.take i) k C []).2=wO t root parts bg nb Bs b a (js (l.take i) k C []).1++[pg re k,bG g (js (l.take i) k C []).2] from rfl];generalize agF:js (l.take (i+1)) k C []=ST2 at *;generalize js (l.take i) k C []=ST at *;obtain⟨C1,J⟩:=ST;simp only at hCl hJl ⊢;simp only[js]at Eb;have hw:=λK hk=>sj (hK x hm) (k+Re.bd (l.take i)) (C:=C1++[dh 0 0]) (by rw[ald,alC];omega) (tl:=[pg re k,bG g J]) (K:=K) hk;have zK:=λK hk=>kQ (t:=t) (root:=root) (parts:=parts) (bg:=bg) (nb:=nb) (Bs:=Bs) (b:=b) (a:=a) (C:=C1) ae 2 0 0 0 (tl:=[pg re k,bG g J]) (K:=K) hk;have Xs:(x.emit (k+Re.bd (l.take i)) (C1++[dh 0 0])).length=C1.length+1+x.dp:=by rw[Re.eR,ald,alC]
  have B0:=λK hk=>kQ (t:=t) (root:=root) (parts:=parts) (bg:=bg) (nb:=nb) (Bs:=Bs) (b:=b) (a:=a) (C:=x.emit (k+Re.bd (l.take i)) (C1++[dh 0 0])) ae 3 0 0 0 (tl:=[pg re k,bG g J]) (K:=K) hk;rw[show (⟨2,0,0,0,none⟩:aw)=dh 0 0 from rfl]at zK;rw[show (⟨3,0,0,0,none⟩:aw)=jZ 0 from rfl]at B0;unfold dR at hw;generalize x.bA (k+Re.bd (l.take i))=xd at *;generalize x.emit (k+Re.bd (l.take i)) (C1++[dh 0 0])=C3 at *;have acJ:(C3++[jZ 0]).length=C3.length+1:=aq;generalize C3++[jZ 0]=C4 at *;generalize C1++[dh 0 0]=C2 at *;have w1:IntKind.i64.wrap ((C1.length:Int)+1)=(C1.length:Int)+1:=bK _ ae;obtain⟨y,hy⟩:∃y,C4[C1.length]?=some y:=cb;have c0:(0:Int)<=(C1.length:Int):=ae;have c1:(C1.length:Int)<(C4.length:Int):=ae;have c2:C1.length<C4.length:=ae;have g1:(db C4.length b a C4).g=C4.length:=rfl;have g2:(db C4.length b a C4).sz=5:=rfl;have g3:(db C4.length b a C4).aA=C4.map (aw.cells b a):=rfl;have g4:(db C4.length b a C4).live=true:=rfl;simp only[zQ,simprocAttr,wO,h1,h3,h4,h5,h8,h9,V0,V4,Wk,aH,hi0,aE,ak7,afv,alM,Nat.min_eq_left BT,ak5,ak6];refine zK _ ?_;simp only[zQ,simprocAttr,wO,h1,h3,h4,h5,h8,h9,V0,V4,Wk,ak5,ak6];refine hw _ ?_;simp only[zQ,simprocAttr,wO,h1,h3,h4,h5,h8,h9,V0,V4,Wk,ak5,ak6];refine B0 _ ?_;simp only[zQ,simprocAttr,wO,bG,h1,h3,h4,h5,h8,h9,V0,V4,Wk,ak5,ak6,ak4];refine⟨λe he=>by rw[List.mem_singleton.1 he];rfl,⟨ae,ae⟩,?_⟩;refine cP mix [] [(8,[5],[]),(9,[5],[]),(10,[5],[5]),(11,[5],[]),(12,[5],[]),(13,[5],[5])] ?_;simp only[zQ,simprocAttr,h1,h3,h4,h5,h8,h9,V0,V4,Wk,cA,aV,pR,c0,c1,c2,g1,g2,g3,g4,hy,w1,ak7,alc,ak4,List.getElem?_map,ala,aw.cells];have e1:∀v,((C4.map (aw.cells b a)).set C1.length v)[C1.length]?=some v:=λv=>List.getElem?_set_self (by simpa using c2);have e2:((C4.map (aw.cells b a)).set C1.length [V.d (D.sc (Value.int IntKind.i64 y.op)),V.d (D.sc (Value.int IntKind.i64 ((C1.length:Int)+1))),V.d (D.sc (Value.int IntKind.i64 y.y)),V.d (D.sc (Value.int IntKind.i64 y.n)),cB b a y.node]).set C1.length [V.d (D.sc (Value.int IntKind.i64 y.op)),V.d (D.sc (Value.int IntKind.i64 ((C1.length:Int)+1))),V.d (D.sc (Value.int IntKind.i64 C4.length)),V.d (D.sc (Value.int IntKind.i64 y.n)),cB b a y.node]=(yi C4 C1.length ((C1.length:Int)+1) C4.length).map (aw.cells b a):=by
   have hoa:bH C4 C1.length=y:=by unfold bH;rw[List.getD_eq_getElem?_getD,hy];rfl
   rw[List.set_set,yi,ams,hoa];rfl
  have e3:List.take i (J.map λ(x:Nat)=>[V.d (D.sc (Value.int IntKind.i64 (x:Int)))])=J.map λ(x:Nat)=>[V.d (D.sc (Value.int IntKind.i64 (x:Int)))]:=aln (by rw[ak4];omega);simp only[e1,al9,amj,List.drop_succ_cons,alV,ak5,ak6,e2,e3];refine⟨aq,l.length-(i+1),_,_,ae,bO.refl,i+1,g+1,rfl,aE,?_,?_,?_,?_,?_,?_,?_,?_,?_,?_⟩ <;> (try simp only[zU,Ft,qa,qe,Fp,reduceIte])
  ·exact h1
  ·exact h3
  ·exact h4
  ·exact h5
  ·exact h9
  ·exact V0
  ·exact V4
  ·rw[bK _ ae];rfl
  ·rw[agF,Eb,acJ];simp only[aOS,wO,bG,pR,oH,acJ,amp,ak8,ak9,ak5,ak6,i64];rfl
 ·have eg:i=l.length:=by omega
  subst eg;have hzk:re.kids[l.length]?=some z:=by rw[hk];simp
  have hm:z∈re.kids:=List.mem_of_getElem? hzk;have yl:=hnx l.length z hzk;have yO:re.kids.take l.length=l:=by rw[hk];simp
  rw[yO]at yl;have kK:=PS l k C [];rw[alr]at *;rw[show aOS t root parts bg nb Bs b a (js l k C []).1 re k g (js l k C []).2=wO t root parts bg nb Bs b a (js l k C []).1++[pg re k,bG g (js l k C []).2] from rfl];generalize js l k C []=ST at *;obtain⟨C1,J⟩:=ST;simp only at hCl hJl kK ⊢;have hw:=λK hk=>sj (hK z hm) (k+Re.bd l) (C:=C1) ae (tl:=[pg re k,bG g J]) (K:=K) hk;have uj:=Re.eR z (k+Re.bd l) C1;unfold dR at hw;generalize z.bA (k+Re.bd l)=xd at *;generalize z.emit (k+Re.bd l) C1=C2 at *;have hJb:∀x∈J,x<C2.length:=λx hx=>by have:=(kK x hx).resolve_left aq;omega
  have Xs:(l.length:Int)<(ND.length:Int):=ae;have hl4:l.length<ND.length:=ae;rw[oK]at hw ⊢;simp only[zQ,simprocAttr,wO,h1,h3,h4,h5,h8,h9,V0,V4,Wk,alZ,ak5,ak6];refine cP mix [8] [] ?_;simp only[zQ,simprocAttr,wO,h1,h3,h4,h5,h8,h9,V0,V4,Wk,mY,LN,Xs,hl4,ak7,yl,ak5,ak6];refine⟨ae,?_⟩;refine cU (hw _ ⟨rfl,rfl⟩) ?_;clear hw kK;rw[<- oK];have gY:(Es t root parts bg nb Bs b a ((J.take 0).foldl (xO C2.length) C2) re k g J)=wO t root parts bg nb Bs b a C2++[pg re k,bG g J]:=rfl;simp only[zQ,simprocAttr,h1,h3,h4,h5,h8,h9,V0,V4,Wk];refine ay (λn e s=>∃j:Nat,n=l.length-j/\j<=l.length/\e 4=.rf 2 0 0 0/\e 109=.so 7 g 0 l.length/\e 110=i64 l.length/\e 111=i64 j/\s=Es t root parts bg nb Bs b a ((J.take j).foldl (xO C2.length) C2) re k g J)
   ⟨_,_,_,bO.refl,0,rfl,ae,by first|exact h4|(simp only[zU,Ft,qa,qe,Fp,reduceIte];done)|(simp only[zU,Ft,qa,qe,Fp,reduceIte];exact h4),by first|exact h8|(simp only[zU,Ft,qa,qe,Fp,reduceIte];done)|(simp only[zU,Ft,qa,qe,Fp,reduceIte];exact h8),rfl,rfl,rfl⟩ ?_
  clear h1 h3 h4 h5 h8 h9 V0 V4 Wk;rintro n e s ⟨j,rfl,hj,h4,aa8,Zt,adN,rfl⟩;have hDl:((J.take j).foldl (xO C2.length) C2).length=C2.length:=CQ _ _ _;rcases alw j l.length with aE|gE
  ·obtain⟨x,hx⟩:∃x,J[j]?=some x:=cb;have hxb:=hJb x (List.mem_of_getElem? hx);have aH:(j:Int)<(l.length:Int):=ae;have VT:(0:Int)<=(j:Int):=ae;have Eb:(J.take (j+1)).foldl (xO C2.length) C2=xO C2.length ((J.take j).foldl (xO C2.length) C2) x:=by rw[bn hx,List.foldl_append];rfl
   rw[show Es t root parts bg nb Bs b a ((J.take j).foldl (xO C2.length) C2) re k g J=wO t root parts bg nb Bs b a ((J.take j).foldl (xO C2.length) C2)++[pg re k,bG g J] from rfl];generalize (J.take j).foldl (xO C2.length) C2=Dc at *;have g1:(db Dc.length b a Dc).g=Dc.length:=rfl;have g2:(db Dc.length b a Dc).sz=5:=rfl;have g3:(db Dc.length b a Dc).aA=Dc.map (aw.cells b a):=rfl;have g4:(db Dc.length b a Dc).live=true:=rfl;obtain⟨y,hy⟩:∃y,Dc[x]?=some y:=cb;have We:x<Dc.length:=ae;have yb:(x:Int)<(Dc.length:Int):=ae;have hx2:(0:Int)<=(x:Int):=ae;have hoa:bH Dc x=y:=by unfold bH;rw[List.getD_eq_getElem?_getD,hy];rfl
   have e2:(Dc.map (aw.cells b a)).set x [V.d (D.sc (Value.int IntKind.i64 y.op)),V.d (D.sc (Value.int IntKind.i64 Dc.length)),V.d (D.sc (Value.int IntKind.i64 y.y)),V.d (D.sc (Value.int IntKind.i64 y.n)),cB b a y.node]=(xO C2.length Dc x).map (aw.cells b a):=by rw[xO,yi,ams,hoa,hDl];rfl
   have agk:j<J.length:=ae;simp only[zQ,simprocAttr,wO,bG,pR,h4,aa8,Zt,adN,aH,VT,agk,aE,hx,We,yb,hx2,hy,g1,g2,g3,g4,ak7,alc,ak4,List.getElem?_map,ala,aw.cells,e2,ak5,ak6];refine⟨l.length-(j+1),_,_,ae,bO.refl,j+1,rfl,aE,?_,?_,?_,?_,?_⟩ <;> (try simp only[zU,Ft,qa,qe,Fp,reduceIte])
   ·exact h4
   ·exact aa8
   ·exact Zt
   ·rw[bK _ ae];rfl
   ·rw[Eb,<- hDl];simp only[Es,wO,bG,pR,db,Jr,ak5,ak6,i64]
  ·have Rj:j=l.length:=by omega
   subst Rj;rw[aln ae];simp only[zQ,simprocAttr,h4,aa8,Zt,adN,alZ,Es,vp,jw];rfl
end
end Go.Proofs.YtjjfioalgbecmaaGreat
