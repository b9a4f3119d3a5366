/- A part of the proof (Vrf O24 O25). -/
import Derived.Test.YtfmdmlfhigocaaaOR14
import Derived.Test.YtfmdmlfhigocaaaOR16
import Derived.Test.YtfmdmlfhigocaaaOR27
import Derived.Test.YtfmdmlfhigocaaaOR28
import Derived.Test.YtfmdmlfhigocaaaOR32
set_option linter.unusedSimpArgs false
set_option linter.unusedVariables false
open Nat renaming reduceShiftRight → cy, reduceMod → cJ, reduceEqDiff → dV, reduceAdd → fi, reduceLeDiff → gT, reduceBEq → gV
set_option maxRecDepth 100000
set_option maxHeartbeats 80000000
namespace Go.VL
variable{aw:List (List V)}{x:V}{g:Nat}{ok:Obj}{s:List Obj}{P:Program}{f:FuncId}{args:List V}{K:V->List Obj->Prop}
def Iu (b a:Nat):V:=.d (.sc (.pointer (some ⟨b,a,none⟩)))
theorem CO{j:Nat} (h:aw[j]?=some [x]) (es:Array MapEntry):aw≠fZ es:=by intro he;rw[he,fZ,aiY]at h;obtain⟨y,_,h2⟩:=Option.map_eq_some_iff.1 h;have h3:=congrArg List.length h2;simp at h3
theorem KF{j:Nat}{y:V} (h:aw[j]?=some [x]) {i l:Nat}{x':V} (hx:((aw.set j [y])[i]?.bind (·[l]?))=some x'):(i=j/\l=0/\x'=y/\(aw[i]?.bind (·[l]?))=some x)\/(aw[i]?.bind (·[l]?))=some x':=by
 by_cases hi:j=i
 ·subst hi;rw[ajm (List.getElem?_eq_some_iff.1 h).1]at hx
  match l with
  |0 =>
   simp at hx;exact .inl ⟨rfl,rfl,hx.symm,by rw[h];rfl⟩
  |l+1=>simp at hx
 ·rw[ajy hi]at hx;exact .inr hx
theorem Pf{N:Nat}{full:List Oper}{e:Env}{K:Env->List Obj->Prop}{oa:Obj} (t k a1 j:Nat) (he:e t=.rf k g 0 0) (hk:s[k]?=some ok) (vV:ok.g=g) (ha:s[a1]?=some oa) (hc:oa.aw[j]?=some [.rf k g 0 0]) (fY:oa.sz=1)
  (h:∀b a,ve P N full (bX e t (.pp k g 0 0 b a)) (s.set a1 { oa with aw:=oa.aw.set j [Iu b a] }) K):ve P N full e s K:=by
 intro σ0 s0 w0 Q hKQ σ w a id hE hI hR;have hr:=hR.2.2 t;rw[he]at hr;generalize hu0:a.tmps.getD t undef=u at hr;cases hr with|rf o' jV hg hu dt=>?_
 rw[hk]at jV;cases jV;obtain⟨b,base,hs,hC,rfl⟩:=dt vV;have Cv:=DW hI (els':=oa.aw.set j [Iu b (base+0*ok.sz+0)]) ha (λel tO=>by
   rcases aj4 tO with h'|rfl
   ·rcases hI.content a1 oa ha with (⟨_,h0⟩|⟨_,es,_,_,_,h3⟩)|⟨_,_,_,_,_,_,h3,_⟩
    ·rw[h0]at h';cases h'
    ·exact absurd h3 (CO hc es)
    ·exact h3 el h'
   ·rw[fY];rfl) aj (CO hc) (λi l x' hx=>by
  rcases KF hc hx with ⟨_,_,rfl,h2⟩|h2
  ·refine⟨_,h2,λu tE=>?_⟩;cases tE with|rf o2 SQ _ _ Am=>?_
   rw[hk]at SQ;cases SQ;obtain⟨b2,B6,fU,_,rfl⟩:=Am vV;rw[hs]at fU;cases fU;exact .d (.sc _ rfl)
  ·exact⟨_,h2,λ_ h=>h⟩)
 refine h b (base+0*ok.sz+0) σ0 s0 w0 Q hKQ σ w a id (hE.trans Cv.1) Cv.2 ⟨hR.1,hR.2.1,λt'=>?_⟩;unfold bX;split
 ·rename_i ht;subst ht;rw[hu0];have UH:aC σ s w (.pp k g 0 0 b (base+0*ok.sz+0)) (.pointer (some ⟨b,base+0*ok.sz+0,none⟩)):=.pp ok hk ae (λ_=>⟨base,hs,hC,rfl⟩);exact UH.aZ Cv.1
 ·exact(hR.2.2 t').aZ Cv.1
theorem ct.aag {e:Env}{oa:Obj}{b a0:Nat} (t k a1 j:Nat) (he:e t=.pp k g 0 0 b a0) (hk:s[k]?=some ok) (vV:ok.g=g) (ha:s[a1]?=some oa) (hc:oa.aw[j]?=some [Iu b a0]) (fY:oa.sz=1) :
  ct e s (bX e t (.rf k g 0 0)) (s.set a1 { oa with aw:=oa.aw.set j [.rf k g 0 0] }):=by
 intro σ0 s0 w0 σ w N a hE hI hR;have hr:=hR.2.2 t;rw[he]at hr;generalize hu0:a.tmps.getD t undef=u at hr;cases hr with|pp o' jV hg dt=>?_
 rw[hk]at jV;cases jV;obtain⟨base,hs,hC,hab⟩:=dt vV;have hrf:aC σ s w (.rf k g 0 0) (.pointer (some ⟨b,a0,none⟩)):=.rf ok hk ae rfl (λ_=>⟨b,base,hs,hC,by rw[hab]⟩);have Cv:=DW hI (els':=oa.aw.set j [.rf k g 0 0]) ha (λel tO=>by
   rcases aj4 tO with h'|rfl
   ·rcases hI.content a1 oa ha with (⟨_,h0⟩|⟨_,es,_,_,_,h3⟩)|⟨_,_,_,_,_,_,h3,_⟩
    ·rw[h0]at h';cases h'
    ·exact absurd h3 (CO hc es)
    ·exact h3 el h'
   ·rw[fY];rfl) aj (CO hc) (λi l x' hx=>by
  rcases KF hc hx with ⟨_,_,rfl,h2⟩|h2
  ·refine⟨_,h2,λu tE=>?_⟩;cases tE with|d hd=>?_
   cases hd with|sc _ _=>?_
   exact hrf
  ·exact⟨_,h2,λ_ h=>h⟩)
 refine⟨σ,hE.trans Cv.1,Cv.2,hR.1,hR.2.1,λt'=>?_⟩;unfold bX;split
 ·rename_i ht;subst ht;rw[hu0];exact hrf.aZ Cv.1
 ·exact(hR.2.2 t').aZ Cv.1
theorem QD (j k:Nat) (hj:args[j]?=some (.rf k g 0 0)) (hk:s[k]?=some ok) (vV:ok.g=g)
  (h:∀b a,az P f (args.set j (.pp k g 0 0 b a)) s K):az P f args s K:=by
 refine⟨(h 0 0).1,λσ w vals hI hl hv=>?_⟩;have hr:=hv j _ hj;generalize hu0:vals.getD j undef=u at hr;cases hr with|rf o' jV hg hu dt=>?_
 rw[hk]at jV;cases jV;obtain⟨b,base,hs,hC,rfl⟩:=dt vV;have UH:aC σ s w (.pp k g 0 0 b (base+0*ok.sz+0)) (.pointer (some ⟨b,base+0*ok.sz+0,none⟩)):=.pp ok hk ae (λ_=>⟨base,hs,hC,rfl⟩);refine(h b (base+0*ok.sz+0)).2 σ w vals hI (by simpa using hl) λi x hx=>?_;rw[List.getElem?_set]at hx;split at hx
 ·rename_i XA;subst XA;split at hx
  ·cases hx;rw[hu0];exact UH
  ·cases hx
 ·exact hv i x hx
theorem Sn {o:Obj}{c:List V} (h:o.aw=c::aw) (hx:x∈c) (hn:∀v,x≠.d (.sc v)) (es:Array MapEntry):o.aw≠fZ es:=by
 intro he;rw[h,fZ]at he;have hm:c∈es.toList.map λe=>[V.d (.sc e.key),V.d (.sc e.val)]:=by rw[<- he];simp
 obtain⟨e,_,rfl⟩:=List.mem_map.1 hm;simp only[ajF,ajP,or_false]at hx;rcases hx with rfl|rfl
 ·exact hn _ rfl
 ·exact hn _ rfl
theorem LW{o:Obj}{pre post:List V} (k:Nat) (ho:s[k]?=some o) (iG:o.aw=[pre++.fu []::post]) (fY:pre.length+1+post.length=o.sz)
  (h:az P f args (s.set k { o with aw:=[pre++.d (.sl [])::post] }) K):az P f args s K:=by
 refine⟨h.1,λσ w vals hI hl hv=>?_⟩;have Cv:=DW hI (els':=[pre++.d (.sl [])::post]) ho (λel tO=>by rw[List.mem_singleton.1 tO];simp;omega) (by rw[iG];rfl) (Sn iG (x:=.fu []) aj aj) (λi j x' hx=>by
  rw[iG]
  match i with
  |i+1=>simp at hx
  |0 =>
   simp only[ajv,ajM]at hx ⊢;rcases Nat.lt_trichotomy j pre.length with aB|rfl|hgt
   ·rw[ajj aB]at hx;exact⟨x',by rw[ajj aB];exact hx,λ_ h=>h⟩
   ·rw[ajh (ajc _),akp,ajv]at hx;cases hx;refine⟨.fu [],by rw[ajh (ajc _),akp];rfl,λu hu=>?_⟩;cases hu with|fu hd=>exact .d hd
   ·rw[ajh ae]at hx;refine⟨x',?_,λ_ h=>h⟩;rw[ajh ae];obtain⟨m,hm⟩:∃m,j-pre.length=m+1:=⟨j-pre.length-1,ae⟩
    rw[hm,ajJ]at hx ⊢;exact hx)
 refine(h.2 σ w vals Cv.2 hl λi x hx=>(hv i x hx).aZ Cv.1).mono λe w' ⟨u,v,σ',s',h1,h2,h3,h4,h5⟩=>⟨u,v,σ',s',h1,Cv.1.trans h2,h3,h4,h5⟩
end Go.VL
namespace Go.Proofs.Ytfmdmlfhigocaaa
open Go.VL
mutual
def Re.mj:Re->Nat->List D
 |.mk op set kids mn mx mode n neg,k =>
  if op=7\/op=8 then (Re.mk op set kids mn mx mode n neg).bq k::Re.fg kids (k+1) else Re.fg kids k
def Re.fg:List Re->Nat->List D
 |[],_=>[]
 |x::l,k=>x.mj k++Re.fg l (k+x.looks)
end
theorem Re.LO (re:Re) (k:Nat):re.mj k=if re.op=7\/re.op=8 then re.bq k::Re.fg re.kids (k+1) else Re.fg re.kids k:=by
 cases re;rw[Re.mj];rfl
mutual
theorem Re.Br:∀(re:Re) (k:Nat),(re.mj k).length=re.looks
 |.mk op set kids mn mx mode n neg,k=>by have h:=Re.pg kids;rw[Re.mj,Re.looks];split <;> simp [h] <;> omega
theorem Re.pg:∀(l:List Re) (k:Nat),(Re.fg l k).length=Re.aV l
 |[],_=>rfl
 |x::l,k=>by rw[Re.fg,ai6,Re.Br x,Re.pg l,Re.aV]
end
variable{root:D}{N1:List (List D)}{t:List Int}
theorem Ca:∀(l:List Re) (x:Re) (k:Nat),Re.fg (l++[x]) k=Re.fg l k++x.mj (k+Re.aV l)
 |[],x,k=>by simp [Re.fg,Re.aV]
 |y::l,x,k=>by rw[aiX,Re.fg,Ca l,Re.fg,Re.aV,ajq,ajI]
theorem B9:∀(l:List Re) (x:Re) (k:Nat),Re.ej (l++[x]) k=Re.ej l k++[[x.bq (k+Re.aV l)]]
 |[],x,k=>by simp [Re.ej,Re.aV]
 |y::l,x,k=>by rw[aiX,Re.ej,B9 l,Re.ej,Re.aV,ajI];rfl
def gM (t:List Int) (root:D) (g n:Nat):VL.Obj:=⟨0,true,4,[[.d (an t),.d root,.so 1 g 0 n,.d (.sl [])]]⟩
def fL (g:Nat) (l:List D):VL.Obj:=⟨g,true,1,l.map λd=>[.d d]⟩
def xR (t:List Int) (root:D) (re:Re):Prop:=∀(g:Nat) (Pr:List D),Pr.length+re.looks<=1000000 ->
 az Try.prog 52 [.rf 0 0 0 0,kj re] [gM t root g Pr.length,fL g Pr] λv s=>v=.d (re.bq Pr.length)/\s=[gM t root (g+re.looks) (Pr++re.mj Pr.length).length,fL (g+re.looks) (Pr++re.mj Pr.length)]
theorem kU (ρ:List Nat) (g:Nat) (l:List D):bf ρ (fL g l)=fL g l:=by unfold bf fL;simp only[ajL];congr 1
theorem nu (n g:Nat) (l:List D):bc n (fL g l)=true:=by unfold bc fL;rw[ajo];intro e he;obtain⟨i,_,rfl⟩:=List.mem_map.1 he;rfl
def fq (re:Re) (g k i:Nat):VL.Obj:=⟨0,true,10,[re.cells.map .d++[.so 4 g 0 i,i64 k]]⟩
def gS (t:List Int) (root:D) (re:Re) (g k:Nat) (Pr:List D) (i:Nat):List VL.Obj :=
 [gM t root g Pr.length,fL g Pr,aI re,fq re i k i,⟨i,true,1,(Re.ej (re.kids.take i) k).map λc=>c.map V.d⟩]
theorem Z4 (t:List Int) (root:D) (re:Re) (g k:Nat) (Pr:List D) (i:Nat):(gS t root re g k Pr i).all (bc 5)=true:=by
 have h1:=nu 5 g Pr;have h2:bc 5 (aI re)=true:=by simp [aI,bc,Re.ah re,ak]
 have h3:bc 5 (fq re i k i)=true:=by simp [fq,bc,Re.ah re,ak,i64]
 have h4:bc 5 (gM t root g Pr.length)=true:=by simp [gM,bc,ak]
 have h5:bc 5 ⟨i,true,1,(Re.ej (re.kids.take i) k).map λc=>c.map V.d⟩=true:=Dl;simp only[gS,ajS,ajV,h1,h2,h3,h4,h5,aka]
theorem Bq {α β:Type}{f:β->Option α}{h:β->α}:∀{l:List β},(∀x∈l,f x=some (h x))->l.mapM f=some (l.map h)
 |[],_=>aj
 |x::l,hx=>by rw[aki,hx x aj,Bq (λy hy=>hx y (by simp [hy]))];rfl
theorem Sp (lim g:Nat) (s:List VL.Obj) (l:List D):zA lim s (fL g l)=some (fL g l):=by
 unfold zA fL;have:(l.map λd=>[V.d d]).mapM (bm.go lim s)=some (l.map λd=>[V.d d]):=by
  rw[Bq (h:=id)]
  ·simp
  ·intro x hx;obtain⟨d,_,rfl⟩:=List.mem_map.1 hx;rfl
 rw[this];rfl
theorem Rq{re:Re}{g k n:Nat}{P:List D}{bx:VL.Obj} (hN:N1.length=n) (K:V->List VL.Obj->Prop)
  (h:K (.d (.el (re.cells++[.sl N1,iD k]))) [gM t root g P.length,fL g P]) :
  AZ 2 [gM t root g P.length,fL g P,bx,fq re n k n,⟨n,true,1,N1.map λc=>c.map V.d⟩] (.rf 3 0 0 0) K:=by
 unfold AZ;have hA:([gM t root g P.length,fL g P,bx,fq re n k n,⟨n,true,1,N1.map λc=>c.map V.d⟩].take 2).mapM (zA 2 [gM t root g P.length,fL g P,bx,fq re n k n,⟨n,true,1,N1.map λc=>c.map V.d⟩])=some [gM t root g P.length,fL g P]:=by
  have h1:zA 2 [gM t root g P.length,fL g P,bx,fq re n k n,⟨n,true,1,N1.map λc=>c.map V.d⟩] (gM t root g P.length)=some (gM t root g P.length):=by simp [zA,gM,bm.go,bm,cR,fL]
  simp only[aj1,akc,aki,List.mapM_nil,h1,Sp];rfl
 have hB:bm 2 [gM t root g P.length,fL g P,bx,fq re n k n,⟨n,true,1,N1.map λc=>c.map V.d⟩] (.rf 3 0 0 0)=some (.d (.el (re.cells++[.sl N1,iD k]))):=by have h1:=g9 6 2 [gM t root g P.length,fL g P,bx,fq re n k n,⟨n,true,1,N1.map λc=>c.map V.d⟩] N1 n ae;simp only[bm,cR,ajJ,ajv,fq,true_and,gT,true_or,if_true,ajQ,Re.ah,aiZ,ai2,aiX,ai0,aki,List.mapM_nil,i64,aiW,hN,ai7,ajc,and_self];simp only[fq,Re.ah,aiZ,ai2,aiX,ai0,i64]at h1;rw[h1];rfl
 rw[hA,hB];exact h
theorem Nh (t:List Int) (root:D) (re:Re) (hn7:¬re.op=7) (hn8:¬re.op=8) (uu:re.kids.length<=1000) (hK:∀x∈re.kids,xR t root x):xR t root re:=by
 intro g Pr hPr;have hk0:re.mj Pr.length=Re.fg re.kids Pr.length:=by rw[Re.LO,bd]
 have MU:re.looks=Re.aV re.kids:=by rw[Re.jg,bd,ai7]
 have dP:re.bq Pr.length=.el [iD re.op,.sl (re.set.map aU),.sl (re.kids.map Re.cells),iD re.mn,iD re.mx,iD re.mode,iD re.n,bD re.neg,.sl (Re.ej re.kids Pr.length),iD Pr.length]:=by rw[Re.eK,bd,aj5]
 rw[hk0,MU,dP];rw[MU]at hPr;refine Nm Try.func52 rfl Try.ntmps52 Try.results52 rfl 2 240518168763 aj aj ?_;simp only[zQ,simprocAttr,aq re,gM];refine aA mix [7] [] aN ?_;simp only[zQ,simprocAttr,Re.ah re,hn7,hn8,gM];generalize dt:Pr.length=k at *;refine ay (λn e s=>∃i:Nat,n=re.kids.length-i/\i<=re.kids.length/\e 0=.rf 0 0 0 0/\e 5=.rf 3 0 0 0/\e 35=.d (.sl (re.kids.map Re.cells))/\e 36=i64 re.kids.length/\e 37=i64 i/\s=gS t root re (g+Re.aV (re.kids.take i)) k (Pr++Re.fg (re.kids.take i) k) i)
  ⟨_,_,_,.MX (nL (pre:=[V.d (iD re.op),V.d (.sl (re.set.map aU)),V.d (.sl (re.kids.map Re.cells)),V.d (iD re.mn),V.d (iD re.mx),V.d (iD re.mode),V.d (iD re.n),V.d (bD re.neg)]) (post:=[i64 k]) 3 1 rfl rfl rfl),0,rfl,ae,rfl,rfl,rfl,by first|rfl|(rw[aiW];rfl),rfl,?_⟩ ?_
 ·simp [gS,gM,fq,aI,Re.ah re,iD,bD,i64,Re.aV,Re.fg,Re.ej,dt,an]
 rintro n e s ⟨i,rfl,hi,h0,h5,Bd,Hy,Ku,rfl⟩;have hPl:(Pr++Re.fg (re.kids.take i) k).length=k+Re.aV (re.kids.take i):=by rw[ai6,Re.pg,dt]
 have Ln:=Re.pO (re.kids.take i) k;rw[aj3,Nat.min_eq_left hi]at Ln;rcases ajr i re.kids.length with aB|iA
 ·obtain⟨x,hx⟩:∃x,re.kids[i]?=some x:=bZ aB;have hm:=ai4 hx;have aH:(i:Int)<(re.kids.length:Int):=ae;have hi0:(0:Int)<=(i:Int):=ae;have OA:Re.aV (re.kids.take (i+1))=Re.aV (re.kids.take i)+x.looks:=by rw[bj hx,nf];simp [Re.aV]
  have hle:Re.aV (re.kids.take (i+1))<=Re.aV re.kids:=by
   have h1:re.kids=re.kids.take (i+1)++re.kids.drop (i+1):=(aku _ _).symm;have h2:Re.aV re.kids=Re.aV (re.kids.take (i+1))+Re.aV (re.kids.drop (i+1)):=by rw[<- nf,<- h1]
   omega
  have hds:Pr++Re.fg (re.kids.take (i+1)) k=Pr++Re.fg (re.kids.take i) k++x.mj (Pr++Re.fg (re.kids.take i) k).length:=by rw[bj hx,Ca,hPl,ajq]
  have yH:Re.ej (re.kids.take (i+1)) k=Re.ej (re.kids.take i) k++[[x.bq (Pr++Re.fg (re.kids.take i) k).length]]:=by rw[bj hx,B9,hPl]
  have xY:=hK x hm (g+Re.aV (re.kids.take i)) (Pr++Re.fg (re.kids.take i) k) ae;rw[<- hds,ajI,<- OA]at xY;generalize hP2:Pr++Re.fg (re.kids.take (i+1)) k=P2 at *;generalize Pr++Re.fg (re.kids.take i) k=P1 at *;generalize hG2:g+Re.aV (re.kids.take (i+1))=G2 at *;generalize g+Re.aV (re.kids.take i)=G1 at *;generalize hN2:Re.ej (re.kids.take (i+1)) k=N2 at *;rw[show gS t root re G1 k P1 i=[gM t root G1 P1.length,fL G1 P1,aI re,fq re i k i,⟨i,true,1,(Re.ej (re.kids.take i) k).map λc=>c.map V.d⟩] from rfl];generalize Vj:Re.ej (re.kids.take i) k=N1 at *;generalize x.bq P1.length=xd at *;have e0:∀n G,bf [0,1] (gM t root G n)=gM t root G n:=λn G=>by simp [bf,gM,aS,aS.go]
  have e3:bc 2 (gM t root G1 P1.length)=true:=by simp [gM,bc,ak]
  simp only[zQ,simprocAttr,aI,Re.ah re,aiZ,ai2,h0,h5,Bd,Hy,Ku,aH,hi0,aB,hx,aiW,aiY,ai3,ai1];refine aA mix [] [(2,[3],[]),(3,[3],[]),(4,[3],[]),(7,[0,1],[0,1]),(9,[4],[4]),(10,[3],[]),(11,[3],[]),(12,[3],[3])] aN ?_;simp only[zQ,simprocAttr,Re.ah re,aiZ,ai2,h0,h5,Bd,Hy,Ku,fq,aiX,ai0];refine Ba [0,1] xY aJ rfl ?_ ?_ ?_ ?_ (r':=.d xd) rfl ?_
  ·simp only[aiZ,ai2,e0,kU];rfl
  ·rw[aq];simp [aS,aS.go,i64,bV]
  ·rw[aq];simp [ak,ak.go,i64,bV]
  ·simp only[ajS,ajV,ai8,ai9,ai7,fi,e3,nu,aka]
  simp only[aiZ,ai2,e0,kU,aO,aju,ajw];simp only[zQ,simprocAttr,h0,h5,Bd,Hy,Ku,aiW,aiX,ai0];have hT:List.take i (N1.map λc=>c.map V.d)++[[V.d xd]]=N2.map λc=>c.map V.d:=by rw[ajb (by rw[aiW];omega),yH];simp
  refine⟨rfl,λe he=>by rw[List.mem_singleton.1 he];rfl,⟨ae,ae⟩,?_⟩;rw[hT];refine⟨re.kids.length-(i+1),_,_,ae,bJ.cut (s':=gS t root re G2 k P2 (i+1)) 5 ae ?_ (Z4 t root re G2 k P2 (i+1)) [0,5,35,36,37] (by simp [bX,aY,ak,h0,h5,Bd,Hy,Ku,i64]),i+1,rfl,aB,?_,?_,?_,?_,?_,by rw[hG2,hP2]⟩ <;> (try simp only[zU,gV,cy,cJ,dV,reduceIte])
  ·simp [gS,fq,aI,Re.ah re,iD,bD,i64,hN2]
  ·exact h0
  ·exact h5
  ·exact Bd
  ·exact Hy
  ·rw[bF _ ae];rfl
 ·have dY:i=re.kids.length:=by omega
  subst dY;rw[ajt]at *;simp only[zQ,simprocAttr,h0,h5,Bd,Hy,Ku,ajZ,gS,Pg];refine Rq (by rw[ajt,Ln]) _ ?_;rw[ajt,Re.ah re];exact⟨rfl,rfl⟩
def mE (g:Nat) (Pr Q:List D):VL.Obj:=⟨g,true,1,(Pr.map λd=>[V.d d])++[V.rf 3 0 0 0]::(Q.map λd=>[V.d d])⟩
theorem U8 (g:Nat) (Pr Q:List D):bc 5 (mE g Pr Q)=true:=by have h1:=nu 5 g Pr;have h2:=nu 5 g Q;unfold bc fL at h1 h2;unfold bc mE;simp only[akm,ajS,h1,h2,ajk,ake,ajV];rfl
def lS (t:List Int) (root:D) (re:Re) (g k:Nat) (Pr Q:List D) (N1:List (List D)):List VL.Obj :=
 [gM t root g (Pr.length+1+Q.length),mE g Pr Q,aI re,fq re N1.length k N1.length,⟨N1.length,true,1,N1.map λc=>c.map V.d⟩]
theorem WN (t:List Int) (root:D) (re:Re) (g k:Nat) (Pr Q:List D) (N1:List (List D)):(lS t root re g k Pr Q N1).all (bc 5)=true:=by
 have h2:bc 5 (aI re)=true:=by simp [aI,bc,Re.ah re,ak]
 have h3:bc 5 (fq re N1.length k N1.length)=true:=by simp [fq,bc,Re.ah re,ak,i64]
 have h4:bc 5 (gM t root g (Pr.length+1+Q.length))=true:=by simp [gM,bc,ak]
 have h5:bc 5 ⟨N1.length,true,1,N1.map λc=>c.map V.d⟩=true:=Dl;simp only[lS,ajS,ajV,U8,h2,h3,h4,h5,aka]
theorem Hj{re:Re}{g k:Nat}{Pr Q:List D} (K:V->List VL.Obj->Prop)
  (h:K (.d (.el (re.cells++[.sl N1,iD k]))) [gM t root g (Pr.length+1+Q.length),fL g (Pr++D.el (re.cells++[.sl N1,iD k])::Q)]) :
  AZ 2 (lS t root re g k Pr Q N1) (.rf 3 0 0 0) K:=by
 unfold AZ;have hB:bm 2 (lS t root re g k Pr Q N1) (.rf 3 0 0 0)=some (.d (.el (re.cells++[.sl N1,iD k]))):=by
  have h1:=g9 6 2 (lS t root re g k Pr Q N1) N1 N1.length (ajc _);generalize hS:lS t root re g k Pr Q N1=S at *;have q3:S[3]?=some (fq re N1.length k N1.length):=by rw[<- hS];rfl
  have q4:S[4]?=some ⟨N1.length,true,1,N1.map λc=>c.map V.d⟩:=by rw[<- hS];rfl
  simp only[bm,cR,q3,q4,fq,true_and,gT,true_or,if_true,ajv,ajQ,Re.ah,aiZ,ai2,aiX,ai0,aki,List.mapM_nil,i64,aiW,ai7,ajc,and_self,h1];rfl
 have hA:zA 2 (lS t root re g k Pr Q N1) (gM t root g (Pr.length+1+Q.length))=some (gM t root g (Pr.length+1+Q.length)):=by simp [zA,gM,bm.go,bm,cR,lS,mE]
 have hC:zA 2 (lS t root re g k Pr Q N1) (mE g Pr Q)=some (fL g (Pr++D.el (re.cells++[.sl N1,iD k])::Q)):=by
  unfold zA;have:(mE g Pr Q).aw.mapM (bm.go 2 (lS t root re g k Pr Q N1))=some ((Pr++D.el (re.cells++[.sl N1,iD k])::Q).map λd=>[V.d d]):=by
   have hd:∀(L:List D),(L.map λd=>[V.d d]).mapM (bm.go 2 (lS t root re g k Pr Q N1))=some (L.map λd=>[V.d d]):=λL=>by
    rw[Bq (h:=id)]
    ·simp
    ·intro x hx;obtain⟨d,_,rfl⟩:=List.mem_map.1 hx;rfl
   simp only[mE,List.mapM_append,aki,hd,bm.go,hB];simp
  rw[this];rfl
 have hT:((lS t root re g k Pr Q N1).take 2).mapM (zA 2 (lS t root re g k Pr Q N1))=some [gM t root g (Pr.length+1+Q.length),fL g (Pr++D.el (re.cells++[.sl N1,iD k])::Q)]:=by rw[show (lS t root re g k Pr Q N1).take 2=[gM t root g (Pr.length+1+Q.length),mE g Pr Q] from rfl];simp only[aki,List.mapM_nil,hA,hC];rfl
 rw[hT,hB];exact h
theorem QW (t:List Int) (root:D) (re x:Re) (ho:re.op=7\/re.op=8) (ZE:re.kids=[x]) (hK:xR t root x):xR t root re:=by
 intro g Pr hPr;have hlx:Re.aV re.kids=x.looks:=by rw[ZE];simp [Re.aV]
 have hk0:re.mj Pr.length=re.bq Pr.length::x.mj (Pr.length+1):=by rw[Re.LO,be ho,ZE];simp [Re.fg]
 have MU:re.looks=1+x.looks:=by rw[Re.jg,be ho,hlx]
 have dP:re.bq Pr.length=.el (re.cells++[.sl [[x.bq (Pr.length+1)]],iD Pr.length]):=by rw[Re.eK,be ho,ZE,Re.ah re,ZE];rfl
 have xY:=λptr=>hK (g+1) (Pr++[ptr]) (by rw[ai6,ajz];omega);have hlen:∀ptr,(Pr++[ptr]++x.mj (Pr++[ptr]).length).length=Pr.length+1+(x.mj (Pr.length+1)).length:=λptr=>by simp only[ai6,ajz]
 simp only[hlen,ai6,ajz]at xY;rw[hk0,MU,dP];have Ip:=Re.Br x (Pr.length+1);have acV:(Pr++D.el (re.cells++[.sl [[x.bq (Pr.length+1)]],iD Pr.length])::x.mj (Pr.length+1)).length=Pr.length+1+(x.mj (Pr.length+1)).length:=cG;rw[acV];generalize x.mj (Pr.length+1)=Q at *;generalize x.bq (Pr.length+1)=xd at *;have hG:g+(1+x.looks)=g+1+x.looks:=ae;rw[hG];have ki:Pr.length<=1000000:=ae;have hT:List.take Pr.length (Pr.map λd=>[V.d d])=Pr.map λd=>[V.d d]:=ajb aj;generalize hL0:x.looks=lx at *;have uu:(re.kids.length:Int)=1:=by rw[ZE];rfl
 have ZY:re.kids[0]?=some x:=by rw[ZE];rfl
 have h78:re.op=7\/(¬re.op=7/\re.op=8):=ae;have aeJ:∃b7 b8:Bool,decide (re.op=7)=b7/\decide (re.op=8)=b8/\(b7=true\/b8=true):=⟨_,_,rfl,rfl,by rcases ho with o|o <;> simp [o]⟩
 rcases h78 with o|⟨o',o⟩
 ·refine Nm Try.func52 rfl Try.ntmps52 Try.results52 rfl 2 240518168763 aj aj ?_;simp only[zQ,simprocAttr,aq re,gM];refine aA mix [7] [] aN ?_;simp only[zQ,simprocAttr,Re.ah re,o,gM,fL,aiW,hT,Option.bind_none,ai7];refine⟨λe he=>by rw[List.mem_singleton.1 he];rfl,⟨ae,ae⟩,?_⟩;refine ay (λn e s=>∃i:Nat,n=1-i/\i<=1/\e 0=.rf 0 0 0 0/\e 5=.rf 3 0 0 0/\e 35=.d (.sl (re.kids.map Re.cells))/\e 36=i64 1/\e 37=i64 i/\s=if i=0 then lS t root re (g+1) Pr.length Pr [] [] else lS t root re (g+1+lx) Pr.length Pr Q [[xd]])
   ⟨_,_,_,(bJ.cut (s':=[gM t root (g+1) (Pr.length+1),mE (g+1) Pr [],aI re,⟨0,true,10,[re.cells.map .d++[.fu [],i64 Pr.length]]⟩]) 4 ae (by simp [gM,mE,aI,Re.ah re,iD,bD,i64,o,an]) (by have h1:=nu 4 0 Pr;unfold bc fL at h1;simp only[ajS,ajV,bc,mE,akm,h1];simp [gM,aI,Re.ah re,ak,i64]) [0,5,35,36,37] (by simp [bX,aY,ak,i64];rfl)).trans (.MX (nL (pre:=re.cells.map .d) (post:=[i64 Pr.length]) 3 1 rfl rfl (by simp [Re.ah re]))),0,rfl,ae,by (try simp only[zU,gV,cy,cJ,dV,reduceIte]);(try rfl),by (try simp only[zU,gV,cy,cJ,dV,reduceIte]);(try rfl),by (try simp only[zU,gV,cy,cJ,dV,reduceIte]);(try rfl),by (try simp only[zU,gV,cy,cJ,dV,reduceIte]);(try rw[uu]);(try rfl),by (try simp only[zU,gV,cy,cJ,dV,reduceIte]);(try rfl),by simp [lS,fq]⟩ ?_
  rintro n e s ⟨i,rfl,hi,h0,h5,Bd,Hy,Ku,rfl⟩;rcases ajr i 1 with aB|iA
  ·obtain rfl:i=0:=by omega
   rw[be rfl];have aH:((0:Nat):Int)<1:=aJ;simp only[zQ,simprocAttr,lS,aI,Re.ah re,aiZ,ai2,h0,h5,Bd,Hy,Ku,aH,uu,ZY,aiW,aiY,ai3,ai1,ajn];have gD:∀ptr:D,({ mE (g+1) Pr []with aw:=(mE (g+1) Pr []).aw.set Pr.length [.d ptr] }:VL.Obj)=fL (g+1) (Pr++[ptr]):=λptr=>by simp [mE,fL,akh]
   refine Pf (ok:=fq re 0 Pr.length 0) (oa:=mE (g+1) Pr []) (g:=0) 5 3 1 Pr.length (by (try simp only[zU,gV,cy,cJ,dV,reduceIte]);exact h5) rfl rfl rfl (by simp [mE]) rfl (λb a=>?_);rw[Iu,gD];have xY:=xY (.sc (.pointer (some ⟨b,a,none⟩)));have SV:({ fL (g+1+lx) (Pr++[.sc (.pointer (some ⟨b,a,none⟩))]++Q) with aw:=(fL (g+1+lx) (Pr++[.sc (.pointer (some ⟨b,a,none⟩))]++Q)).aw.set Pr.length [.rf 3 0 0 0] }:VL.Obj)=mE (g+1+lx) Pr Q:=by simp [mE,fL,akh]
   have Lj:(fL (g+1+lx) (Pr++[.sc (.pointer (some ⟨b,a,none⟩))]++Q)).aw[Pr.length]?=some [Iu b a]:=by simp [fL,Iu]
   have e0:∀n G,bf [0,1] (gM t root G n)=gM t root G n:=λn G=>by simp [bf,gM,aS,aS.go]
   have e3:bc 2 (gM t root (g+1) (Pr.length+1))=true:=by simp [gM,bc,ak]
   simp only[ajw,aju,aj5];generalize Pr++[.sc (.pointer (some ⟨b,a,none⟩))]++Q=P2 at *;generalize Pr++[.sc (.pointer (some ⟨b,a,none⟩))]=P1 at *;refine aA mix [] [(2,[3],[]),(3,[3],[]),(4,[3],[]),(7,[0,1],[0,1]),(9,[4],[4]),(10,[3],[]),(11,[3],[]),(12,[3],[3])] aN ?_;simp only[zQ,simprocAttr,Re.ah re,aiZ,ai2,h0,h5,Bd,Hy,Ku,fq,aiX,ai0];refine Ba [0,1] xY aJ rfl ?_ ?_ ?_ ?_ (r':=.d xd) rfl ?_
   ·simp only[aiZ,ai2,e0,kU];rfl
   ·rw[aq];simp [aS,aS.go,i64,bV]
   ·rw[aq];simp [ak,ak.go,i64,bV]
   ·simp only[ajS,ajV,ai8,ai9,ai7,fi,e3,nu,aka]
   simp only[aiZ,ai2,e0,kU,aO,aju,ajw];simp only[zQ,simprocAttr,h0,h5,Bd,Hy,Ku,aiW,aiX,ai0];refine⟨rfl,λe he=>by rw[List.mem_singleton.1 he];rfl,?_⟩;refine⟨0,_,_,ae,(bJ.MX (ct.aag (ok:=fq re 1 Pr.length 1) (oa:=fL (g+1+lx) P2) (g:=0) (b:=b) (a0:=a) 5 3 1 Pr.length (by (try simp only[zU,gV,cy,cJ,dV,reduceIte])) ?_ rfl rfl Lj rfl)).trans (bJ.cut (s':=lS t root re (g+1+lx) Pr.length Pr Q [[xd]]) 5 ae ?_ (WN t root re (g+1+lx) Pr.length Pr Q [[xd]]) [0,5,35,36,37] (by simp [bX,aY,ak,h0,h5,Bd,Hy,Ku,i64])),1,rfl,ae,?_,?_,?_,?_,?_,by rw[bd];simp [lS,fq,aI,Re.ah re,iD,bD,i64]⟩ <;> (try simp only[zU,gV,cy,cJ,dV,reduceIte])
   ·simp [fq,Re.ah re,iD,bD,i64]
   ·simp only[ajw,aju,SV,aj1,akc];simp [lS,fq,aI,Re.ah re,iD,bD,i64]
   ·exact h0
   ·exact Bd
   ·exact Hy
   ·rfl
  ·obtain rfl:i=1:=by omega
   rw[bd];simp only[zQ,simprocAttr,h0,h5,Bd,Hy,Ku,ajZ,Int.natCast_one,Pg];refine Hj _ ?_;exact⟨by simp [Re.ah re,iD,bD,o],by simp [Re.ah re,iD,bD,o,gM,fL]⟩
 ·refine Nm Try.func52 rfl Try.ntmps52 Try.results52 rfl 2 240518168763 aj aj ?_;simp only[zQ,simprocAttr,aq re,gM];refine aA mix [7] [] aN ?_;simp only[zQ,simprocAttr,Re.ah re,o,gM,fL,aiW,hT,Option.bind_none,ai7];refine⟨λe he=>by rw[List.mem_singleton.1 he];rfl,⟨ae,ae⟩,?_⟩;refine ay (λn e s=>∃i:Nat,n=1-i/\i<=1/\e 0=.rf 0 0 0 0/\e 5=.rf 3 0 0 0/\e 35=.d (.sl (re.kids.map Re.cells))/\e 36=i64 1/\e 37=i64 i/\s=if i=0 then lS t root re (g+1) Pr.length Pr [] [] else lS t root re (g+1+lx) Pr.length Pr Q [[xd]])
   ⟨_,_,_,(bJ.cut (s':=[gM t root (g+1) (Pr.length+1),mE (g+1) Pr [],aI re,⟨0,true,10,[re.cells.map .d++[.fu [],i64 Pr.length]]⟩]) 4 ae (by simp [gM,mE,aI,Re.ah re,iD,bD,i64,o,an]) (by have h1:=nu 4 0 Pr;unfold bc fL at h1;simp only[ajS,ajV,bc,mE,akm,h1];simp [gM,aI,Re.ah re,ak,i64]) [0,5,35,36,37] (by simp [bX,aY,ak,i64];rfl)).trans (.MX (nL (pre:=re.cells.map .d) (post:=[i64 Pr.length]) 3 1 rfl rfl (by simp [Re.ah re]))),0,rfl,ae,by (try simp only[zU,gV,cy,cJ,dV,reduceIte]);(try rfl),by (try simp only[zU,gV,cy,cJ,dV,reduceIte]);(try rfl),by (try simp only[zU,gV,cy,cJ,dV,reduceIte]);(try rfl),by (try simp only[zU,gV,cy,cJ,dV,reduceIte]);(try rw[uu]);(try rfl),by (try simp only[zU,gV,cy,cJ,dV,reduceIte]);(try rfl),by simp [lS,fq]⟩ ?_
  rintro n e s ⟨i,rfl,hi,h0,h5,Bd,Hy,Ku,rfl⟩;rcases ajr i 1 with aB|iA
  ·obtain rfl:i=0:=by omega
   rw[be rfl];have aH:((0:Nat):Int)<1:=aJ;simp only[zQ,simprocAttr,lS,aI,Re.ah re,aiZ,ai2,h0,h5,Bd,Hy,Ku,aH,uu,ZY,aiW,aiY,ai3,ai1,ajn];have gD:∀ptr:D,({ mE (g+1) Pr []with aw:=(mE (g+1) Pr []).aw.set Pr.length [.d ptr] }:VL.Obj)=fL (g+1) (Pr++[ptr]):=λptr=>by simp [mE,fL,akh]
   refine Pf (ok:=fq re 0 Pr.length 0) (oa:=mE (g+1) Pr []) (g:=0) 5 3 1 Pr.length (by (try simp only[zU,gV,cy,cJ,dV,reduceIte]);exact h5) rfl rfl rfl (by simp [mE]) rfl (λb a=>?_);rw[Iu,gD];have xY:=xY (.sc (.pointer (some ⟨b,a,none⟩)));have SV:({ fL (g+1+lx) (Pr++[.sc (.pointer (some ⟨b,a,none⟩))]++Q) with aw:=(fL (g+1+lx) (Pr++[.sc (.pointer (some ⟨b,a,none⟩))]++Q)).aw.set Pr.length [.rf 3 0 0 0] }:VL.Obj)=mE (g+1+lx) Pr Q:=by simp [mE,fL,akh]
   have Lj:(fL (g+1+lx) (Pr++[.sc (.pointer (some ⟨b,a,none⟩))]++Q)).aw[Pr.length]?=some [Iu b a]:=by simp [fL,Iu]
   have e0:∀n G,bf [0,1] (gM t root G n)=gM t root G n:=λn G=>by simp [bf,gM,aS,aS.go]
   have e3:bc 2 (gM t root (g+1) (Pr.length+1))=true:=by simp [gM,bc,ak]
   simp only[ajw,aju,aj5];generalize Pr++[.sc (.pointer (some ⟨b,a,none⟩))]++Q=P2 at *;generalize Pr++[.sc (.pointer (some ⟨b,a,none⟩))]=P1 at *;refine aA mix [] [(2,[3],[]),(3,[3],[]),(4,[3],[]),(7,[0,1],[0,1]),(9,[4],[4]),(10,[3],[]),(11,[3],[]),(12,[3],[3])] aN ?_;simp only[zQ,simprocAttr,Re.ah re,aiZ,ai2,h0,h5,Bd,Hy,Ku,fq,aiX,ai0];refine Ba [0,1] xY aJ rfl ?_ ?_ ?_ ?_ (r':=.d xd) rfl ?_
   ·simp only[aiZ,ai2,e0,kU];rfl
   ·rw[aq];simp [aS,aS.go,i64,bV]
   ·rw[aq];simp [ak,ak.go,i64,bV]
   ·simp only[ajS,ajV,ai8,ai9,ai7,fi,e3,nu,aka]
   simp only[aiZ,ai2,e0,kU,aO,aju,ajw];simp only[zQ,simprocAttr,h0,h5,Bd,Hy,Ku,aiW,aiX,ai0];refine⟨rfl,λe he=>by rw[List.mem_singleton.1 he];rfl,?_⟩;refine⟨0,_,_,ae,(bJ.MX (ct.aag (ok:=fq re 1 Pr.length 1) (oa:=fL (g+1+lx) P2) (g:=0) (b:=b) (a0:=a) 5 3 1 Pr.length (by (try simp only[zU,gV,cy,cJ,dV,reduceIte])) ?_ rfl rfl Lj rfl)).trans (bJ.cut (s':=lS t root re (g+1+lx) Pr.length Pr Q [[xd]]) 5 ae ?_ (WN t root re (g+1+lx) Pr.length Pr Q [[xd]]) [0,5,35,36,37] (by simp [bX,aY,ak,h0,h5,Bd,Hy,Ku,i64])),1,rfl,ae,?_,?_,?_,?_,?_,by rw[bd];simp [lS,fq,aI,Re.ah re,iD,bD,i64]⟩ <;> (try simp only[zU,gV,cy,cJ,dV,reduceIte])
   ·simp [fq,Re.ah re,iD,bD,i64]
   ·simp only[ajw,aju,SV,aj1,akc];simp [lS,fq,aI,Re.ah re,iD,bD,i64]
   ·exact h0
   ·exact Bd
   ·exact Hy
   ·rfl
  ·obtain rfl:i=1:=by omega
   rw[bd];simp only[zQ,simprocAttr,h0,h5,Bd,Hy,Ku,ajZ,Int.natCast_one,Pg];refine Hj _ ?_;exact⟨by simp [Re.ah re,iD,bD,o],by simp [Re.ah re,iD,bD,o,gM,fL]⟩
theorem T3 (t:List Int) (root:D) (re:Re):re.every l5=true->xR t root re:=by
 refine Re.ind (Q:=λre=>re.every l5=true->xR t root re) (λre ih hs=>?_) re;obtain⟨ef,fU⟩:=(Re.av re).1 hs;obtain⟨q1,q2,q3,_⟩:=iO.1 ef;have hK:∀x∈re.kids,xR t root x:=λx hx=>ih x hx (fU x hx);by_cases ho:re.op=7\/re.op=8
 ·obtain⟨x,hx⟩:∃x,re.kids=[x]:=List.length_eq_one_iff.1 (q1 ae);exact QW t root re x ho hx (hK x (by rw[hx];simp))
 ·exact Nh t root re ae ae q3 hK
end Go.Proofs.Ytfmdmlfhigocaaa
