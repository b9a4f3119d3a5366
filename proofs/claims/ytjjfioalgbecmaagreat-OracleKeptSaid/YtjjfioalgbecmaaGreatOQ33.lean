/- A part of the proof (Vrf O24 O25). -/
import Derived.Test.YtjjfioalgbecmaaGreatOQ32
set_option linter.unusedSimpArgs false
set_option linter.unusedVariables false
open Nat renaming reduceShiftRight → jN, reduceMod → oN, reduceEqDiff → oV, reduceAdd → oW, reduceLeDiff → oX, reduceBEq → pZ
set_option maxRecDepth 100000
set_option maxHeartbeats 80000000
namespace Go.VL
variable{au:List (List V)}{x:V}{g:Nat}{ok:Obj}{s:List Obj}{P:Program}{f:FuncId}{args:List V}{K:V->List Obj->Prop}
def HR (b a:Nat):V:=.d (.sc (.pointer (some ⟨b,a,none⟩)))
theorem BM{j:Nat} (h:au[j]?=some [x]) (es:Array MapEntry):au≠fz es:=by intro he;rw[he,fz,List.getElem?_map]at h;obtain⟨y,_,h2⟩:=Option.map_eq_some_iff.1 h;have h3:=congrArg List.length h2;simp at h3
theorem JX{j:Nat}{y:V} (h:au[j]?=some [x]) {i l:Nat}{x':V} (hx:((au.set j [y])[i]?.bind (·[l]?))=some x'):(i=j/\l=0/\x'=y/\(au[i]?.bind (·[l]?))=some x)\/(au[i]?.bind (·[l]?))=some x':=by
 by_cases hi:j=i
 ·subst hi;rw[List.getElem?_set_self (List.getElem?_eq_some_iff.1 h).1]at hx
  match l with
  |0 =>
   simp at hx;exact .inl ⟨rfl,rfl,hx.symm,by rw[h];rfl⟩
  |l+1=>simp at hx
 ·rw[List.getElem?_set_ne hi]at hx;exact .inr hx
theorem OA{N:Nat}{full:List Oper}{e:Env}{K:Env->List Obj->Prop}{oa:Obj} (t k a1 j:Nat) (he:e t=.rf k g 0 0) (hk:s[k]?=some ok) (Kl:ok.g=g) (ha:s[a1]?=some oa) (hc:oa.au[j]?=some [.rf k g 0 0]) (eZ:oa.sz=1)
  (h:∀b a,oC P N full (bK e t (.pp k g 0 0 b a)) (s.set a1 { oa with au:=oa.au.set j [HR b a] }) K):oC P N full e s K:=by
 intro σ0 s0 w0 Q hKQ σ w a id hE hI hR;have hr:=hR.2.2 t;rw[he]at hr;generalize hu0:a.tmps.getD t undef=u at hr;cases hr with|rf o' g7 hg hu fJ=>?_
 rw[hk]at g7;cases g7;obtain⟨b,base,hs,hC,rfl⟩:=fJ Kl;have KK:=CB hI (els':=oa.au.set j [HR b (base+0*ok.sz+0)]) ha (λel sE=>by
   rcases akL sE with h'|rfl
   ·rcases hI.content a1 oa ha with (⟨_,h0⟩|⟨_,es,_,_,_,h3⟩)|⟨_,_,_,_,_,_,h3,_⟩
    ·rw[h0]at h';cases h'
    ·exact absurd h3 (BM hc es)
    ·exact h3 el h'
   ·rw[eZ];rfl) ak (BM hc) (λi l x' hx=>by
  rcases JX hc hx with ⟨_,_,rfl,h2⟩|h2
  ·refine⟨_,h2,λu yI=>?_⟩;cases yI with|rf o2 SB _ _ FX=>?_
   rw[hk]at SB;cases SB;obtain⟨b2,A4,jA,_,rfl⟩:=FX Kl;rw[hs]at jA;cases jA;exact .d (.sc _ rfl)
  ·exact⟨_,h2,λ_ h=>h⟩)
 refine h b (base+0*ok.sz+0) σ0 s0 w0 Q hKQ σ w a id (hE.trans KK.1) KK.2 ⟨hR.1,hR.2.1,λt'=>?_⟩;unfold bK;split
 ·rename_i ht;subst ht;rw[hu0];have UQ:ay σ s w (.pp k g 0 0 b (base+0*ok.sz+0)) (.pointer (some ⟨b,base+0*ok.sz+0,none⟩)):=.pp ok hk ae (λ_=>⟨base,hs,hC,rfl⟩);exact UQ.aR KK.1
 ·exact(hR.2.2 t').aR KK.1
theorem bW.aav {e:Env}{oa:Obj}{b a0:Nat} (t k a1 j:Nat) (he:e t=.pp k g 0 0 b a0) (hk:s[k]?=some ok) (Kl:ok.g=g) (ha:s[a1]?=some oa) (hc:oa.au[j]?=some [HR b a0]) (eZ:oa.sz=1) :
  bW e s (bK e t (.rf k g 0 0)) (s.set a1 { oa with au:=oa.au.set j [.rf k g 0 0] }):=by
 intro σ0 s0 w0 σ w N a hE hI hR;have hr:=hR.2.2 t;rw[he]at hr;generalize hu0:a.tmps.getD t undef=u at hr;cases hr with|pp o' g7 hg fJ=>?_
 rw[hk]at g7;cases g7;obtain⟨base,hs,hC,hab⟩:=fJ Kl;have hrf:ay σ s w (.rf k g 0 0) (.pointer (some ⟨b,a0,none⟩)):=.rf ok hk ae rfl (λ_=>⟨b,base,hs,hC,by rw[hab]⟩);have KK:=CB hI (els':=oa.au.set j [.rf k g 0 0]) ha (λel sE=>by
   rcases akL sE with h'|rfl
   ·rcases hI.content a1 oa ha with (⟨_,h0⟩|⟨_,es,_,_,_,h3⟩)|⟨_,_,_,_,_,_,h3,_⟩
    ·rw[h0]at h';cases h'
    ·exact absurd h3 (BM hc es)
    ·exact h3 el h'
   ·rw[eZ];rfl) ak (BM hc) (λi l x' hx=>by
  rcases JX hc hx with ⟨_,_,rfl,h2⟩|h2
  ·refine⟨_,h2,λu yI=>?_⟩;cases yI with|d hd=>?_
   cases hd with|sc _ _=>?_
   exact hrf
  ·exact⟨_,h2,λ_ h=>h⟩)
 refine⟨σ,hE.trans KK.1,KK.2,hR.1,hR.2.1,λt'=>?_⟩;unfold bK;split
 ·rename_i ht;subst ht;rw[hu0];exact hrf.aR KK.1
 ·exact(hR.2.2 t').aR KK.1
theorem PU (j k:Nat) (hj:args[j]?=some (.rf k g 0 0)) (hk:s[k]?=some ok) (Kl:ok.g=g)
  (h:∀b a,ar P f (args.set j (.pp k g 0 0 b a)) s K):ar P f args s K:=by
 refine⟨(h 0 0).1,λσ w vals hI hl hv=>?_⟩;have hr:=hv j _ hj;generalize hu0:vals.getD j undef=u at hr;cases hr with|rf o' g7 hg hu fJ=>?_
 rw[hk]at g7;cases g7;obtain⟨b,base,hs,hC,rfl⟩:=fJ Kl;have UQ:ay σ s w (.pp k g 0 0 b (base+0*ok.sz+0)) (.pointer (some ⟨b,base+0*ok.sz+0,none⟩)):=.pp ok hk ae (λ_=>⟨base,hs,hC,rfl⟩);refine(h b (base+0*ok.sz+0)).2 σ w vals hI (by simpa using hl) λi x hx=>?_;rw[List.getElem?_set]at hx;split at hx
 ·rename_i X0;subst X0;split at hx
  ·cases hx;rw[hu0];exact UQ
  ·cases hx
 ·exact hv i x hx
theorem RV {o:Obj}{c:List V} (h:o.au=c::au) (hx:x∈c) (hn:∀v,x≠.d (.sc v)) (es:Array MapEntry):o.au≠fz es:=by
 intro he;rw[h,fz]at he;have hm:c∈es.toList.map λe=>[V.d (.sc e.key),V.d (.sc e.val)]:=by rw[<- he];simp
 obtain⟨e,_,rfl⟩:=List.mem_map.1 hm;simp only[akD,List.not_mem_nil,or_false]at hx;rcases hx with rfl|rfl
 ·exact hn _ rfl
 ·exact hn _ rfl
theorem Ll{o:Obj}{pre post:List V} (k:Nat) (ho:s[k]?=some o) (gD:o.au=[pre++.fu []::post]) (eZ:pre.length+1+post.length=o.sz)
  (h:ar P f args (s.set k { o with au:=[pre++.d (.sl [])::post] }) K):ar P f args s K:=by
 refine⟨h.1,λσ w vals hI hl hv=>?_⟩;have KK:=CB hI (els':=[pre++.d (.sl [])::post]) ho (λel sE=>by rw[List.mem_singleton.1 sE];simp;omega) (by rw[gD];rfl) (RV gD (x:=.fu []) ak ak) (λi j x' hx=>by
  rw[gD]
  match i with
  |i+1=>simp at hx
  |0 =>
   simp only[List.getElem?_cons_zero,akA]at hx ⊢;rcases Nat.lt_trichotomy j pre.length with az|rfl|Zx
   ·rw[List.getElem?_append_left az]at hx;exact⟨x',by rw[List.getElem?_append_left az];exact hx,λ_ h=>h⟩
   ·rw[List.getElem?_append_right (ajZ _),akQ,List.getElem?_cons_zero]at hx;cases hx;refine⟨.fu [],by rw[List.getElem?_append_right (ajZ _),akQ];rfl,λu hu=>?_⟩;cases hu with|fu hd=>exact .d hd
   ·rw[List.getElem?_append_right ae]at hx;refine⟨x',?_,λ_ h=>h⟩;rw[List.getElem?_append_right ae];obtain⟨m,hm⟩:∃m,j-pre.length=m+1:=⟨j-pre.length-1,ae⟩
    rw[hm,List.getElem?_cons_succ]at hx ⊢;exact hx)
 refine(h.2 σ w vals KK.2 hl λi x hx=>(hv i x hx).aR KK.1).mono λe w' ⟨u,v,σ',s',h1,h2,h3,h4,h5⟩=>⟨u,v,σ',s',h1,KK.1.trans h2,h3,h4,h5⟩
end Go.VL
namespace Go.Proofs.YtjjfioalgbecmaaGreat
open Go.VL
mutual
def Re.lE:Re->Nat->List D
 |.mk op set kids mn mx mode n neg,k =>
  if op=7\/op=8 then (Re.mk op set kids mn mx mode n neg).bk k::Re.eQ kids (k+1) else Re.eQ kids k
def Re.eQ:List Re->Nat->List D
 |[],_=>[]
 |x::l,k=>x.lE k++Re.eQ l (k+x.looks)
end
theorem Re.Li (re:Re) (k:Nat):re.lE k=if re.op=7\/re.op=8 then re.bk k::Re.eQ re.kids (k+1) else Re.eQ re.kids k:=by
 cases re;rw[Re.lE];rfl
mutual
theorem Re.Aq:∀(re:Re) (k:Nat),(re.lE k).length=re.looks
 |.mk op set kids mn mx mode n neg,k=>by have h:=Re.nT kids;rw[Re.lE,Re.looks];split <;> simp [h] <;> omega
theorem Re.nT:∀(l:List Re) (k:Nat),(Re.eQ l k).length=Re.ba l
 |[],_=>rfl
 |x::l,k=>by rw[Re.eQ,ajQ,Re.Aq x,Re.nT l,Re.ba]
end
variable{root:D}{N1:List (List D)}{t:List Int}
theorem A9:∀(l:List Re) (x:Re) (k:Nat),Re.eQ (l++[x]) k=Re.eQ l k++x.lE (k+Re.ba l)
 |[],x,k=>by simp [Re.eQ,Re.ba]
 |y::l,x,k=>by rw[ajN,Re.eQ,A9 l,Re.eQ,Re.ba,aj7,aky]
theorem A8:∀(l:List Re) (x:Re) (k:Nat),Re.dP (l++[x]) k=Re.dP l k++[[x.bk (k+Re.ba l)]]
 |[],x,k=>by simp [Re.dP,Re.ba]
 |y::l,x,k=>by rw[ajN,Re.dP,A8 l,Re.dP,Re.ba,aky];rfl
def gM (t:List Int) (root:D) (g n:Nat):VL.Obj:=⟨0,true,4,[[.d (ao t),.d root,.so 1 g 0 n,.d (.sl [])]]⟩
def fk (g:Nat) (l:List D):VL.Obj:=⟨g,true,1,l.map λd=>[.d d]⟩
def wA (t:List Int) (root:D) (re:Re):Prop:=∀(g:Nat) (Pr:List D),Pr.length+re.looks<=1000000 ->
 ar Tryz.prog 60 [.rf 0 0 0 0,sN re] [gM t root g Pr.length,fk g Pr] λv s=>v=.d (re.bk Pr.length)/\s=[gM t root (g+re.looks) (Pr++re.lE Pr.length).length,fk (g+re.looks) (Pr++re.lE Pr.length)]
theorem ki (ρ:List Nat) (g:Nat) (l:List D):aN ρ (fk g l)=fk g l:=by unfold aN fk;simp only[akq];congr 1
theorem mI (n g:Nat) (l:List D):aK n (fk g l)=true:=by unfold aK fk;rw[aj3];intro e he;obtain⟨i,_,rfl⟩:=List.mem_map.1 he;rfl
def eW (re:Re) (g k i:Nat):VL.Obj:=⟨0,true,10,[re.cells.map .d++[.so 4 g 0 i,i64 k]]⟩
def gS (t:List Int) (root:D) (re:Re) (g k:Nat) (Pr:List D) (i:Nat):List VL.Obj :=
 [gM t root g Pr.length,fk g Pr,bf re,eW re i k i,⟨i,true,1,(Re.dP (re.kids.take i) k).map λc=>c.map V.d⟩]
theorem aah (t:List Int) (root:D) (re:Re) (g k:Nat) (Pr:List D) (i:Nat):(gS t root re g k Pr i).all (aK 5)=true:=by
 have h1:=mI 5 g Pr;have h2:aK 5 (bf re)=true:=by simp [bf,aK,Re.ah re,aj]
 have h3:aK 5 (eW re i k i)=true:=by simp [eW,aK,Re.ah re,aj,i64]
 have h4:aK 5 (gM t root g Pr.length)=true:=by simp [gM,aK,aj]
 have h5:aK 5 ⟨i,true,1,(Re.dP (re.kids.take i) k).map λc=>c.map V.d⟩=true:=B7;simp only[gS,aks,akB,h1,h2,h3,h4,h5,akV]
theorem Ap {α β:Type}{f:β->Option α}{h:β->α}:∀{l:List β},(∀x∈l,f x=some (h x))->l.mapM f=some (l.map h)
 |[],_=>ak
 |x::l,hx=>by rw[akR,hx x ak,Ap (λy hy=>hx y (by simp [hy]))];rfl
theorem RZ (lim g:Nat) (s:List VL.Obj) (l:List D):kU lim s (fk g l)=some (fk g l):=by
 unfold kU fk;have:(l.map λd=>[V.d d]).mapM (bc.go lim s)=some (l.map λd=>[V.d d]):=by
  rw[Ap (h:=id)]
  ·simp
  ·intro x hx;obtain⟨d,_,rfl⟩:=List.mem_map.1 hx;rfl
 rw[this];rfl
theorem QS{re:Re}{g k n:Nat}{P:List D}{bx:VL.Obj} (hN:N1.length=n) (K:V->List VL.Obj->Prop)
  (h:K (.d (.el (re.cells++[.sl N1,iD k]))) [gM t root g P.length,fk g P]) :
  tH 2 [gM t root g P.length,fk g P,bx,eW re n k n,⟨n,true,1,N1.map λc=>c.map V.d⟩] (.rf 3 0 0 0) K:=by
 unfold tH;have hA:([gM t root g P.length,fk g P,bx,eW re n k n,⟨n,true,1,N1.map λc=>c.map V.d⟩].take 2).mapM (kU 2 [gM t root g P.length,fk g P,bx,eW re n k n,⟨n,true,1,N1.map λc=>c.map V.d⟩])=some [gM t root g P.length,fk g P]:=by
  have h1:kU 2 [gM t root g P.length,fk g P,bx,eW re n k n,⟨n,true,1,N1.map λc=>c.map V.d⟩] (gM t root g P.length)=some (gM t root g P.length):=by simp [kU,gM,bc.go,bc,cT,fk]
  simp only[akO,akW,akR,List.mapM_nil,h1,RZ];rfl
 have hB:bc 2 [gM t root g P.length,fk g P,bx,eW re n k n,⟨n,true,1,N1.map λc=>c.map V.d⟩] (.rf 3 0 0 0)=some (.d (.el (re.cells++[.sl N1,iD k]))):=by have h1:=js 6 2 [gM t root g P.length,fk g P,bx,eW re n k n,⟨n,true,1,N1.map λc=>c.map V.d⟩] N1 n ae;simp only[bc,cT,List.getElem?_cons_succ,List.getElem?_cons_zero,eW,true_and,oX,true_or,if_true,akJ,Re.ah,ajR,ajV,ajN,ajO,akR,List.mapM_nil,i64,ajM,hN,ajT,ajZ,and_self];simp only[eW,Re.ah,ajR,ajV,ajN,ajO,i64]at h1;rw[h1];rfl
 rw[hA,hB];exact h
theorem My (t:List Int) (root:D) (re:Re) (hn7:¬re.op=7) (hn8:¬re.op=8) (uG:re.kids.length<=1000) (hK:∀x∈re.kids,wA t root x):wA t root re:=by
 intro g Pr hPr;have m7:re.lE Pr.length=Re.eQ re.kids Pr.length:=by rw[Re.Li,bd]
 have ON:re.looks=Re.ba re.kids:=by rw[Re.jZ,bd,ajT]
 have eU:re.bk Pr.length=.el [iD re.op,.sl (re.set.map aT),.sl (re.kids.map Re.cells),iD re.mn,iD re.mx,iD re.mode,iD re.n,bD re.neg,.sl (Re.dP re.kids Pr.length),iD Pr.length]:=by rw[Re.ek,bd,ak0]
 rw[m7,ON,eU];rw[ON]at hPr;refine zi Tryz.func60 rfl Tryz.ntmps60 Tryz.results60 rfl 2 240518168763 ak ak ?_;simp only[zQ,simprocAttr,av re,gM];refine cu mix [7] [] ?_;simp only[zQ,simprocAttr,Re.ah re,hn7,hn8,gM];generalize fJ:Pr.length=k at *;refine aw (λn e s=>∃i:Nat,n=re.kids.length-i/\i<=re.kids.length/\e 0=.rf 0 0 0 0/\e 5=.rf 3 0 0 0/\e 35=.d (.sl (re.kids.map Re.cells))/\e 36=i64 re.kids.length/\e 37=i64 i/\s=gS t root re (g+Re.ba (re.kids.take i)) k (Pr++Re.eQ (re.kids.take i) k) i)
  ⟨_,_,_,.K4 (kL (pre:=[V.d (iD re.op),V.d (.sl (re.set.map aT)),V.d (.sl (re.kids.map Re.cells)),V.d (iD re.mn),V.d (iD re.mx),V.d (iD re.mode),V.d (iD re.n),V.d (bD re.neg)]) (post:=[i64 k]) 3 1 rfl rfl rfl),0,rfl,ae,rfl,rfl,rfl,by first|rfl|(rw[ajM];rfl),rfl,?_⟩ ?_
 ·simp [gS,gM,eW,bf,Re.ah re,iD,bD,i64,Re.ba,Re.eQ,Re.dP,fJ,ao]
 rintro n e s ⟨i,rfl,hi,h0,h5,Ae,A6,uJ,rfl⟩;have hPl:(Pr++Re.eQ (re.kids.take i) k).length=k+Re.ba (re.kids.take i):=by rw[ajQ,Re.nT,fJ]
 have AV:=Re.oz (re.kids.take i) k;rw[akH,Nat.min_eq_left hi]at AV;rcases akd i re.kids.length with az|gx
 ·obtain⟨x,hx⟩:∃x,re.kids[i]?=some x:=cc az;have hm:=List.mem_of_getElem? hx;have aA:(i:Int)<(re.kids.length:Int):=ae;have hi0:(0:Int)<=(i:Int):=ae;have Pg:Re.ba (re.kids.take (i+1))=Re.ba (re.kids.take i)+x.looks:=by rw[bm hx,pT];simp [Re.ba]
  have hle:Re.ba (re.kids.take (i+1))<=Re.ba re.kids:=by
   have h1:re.kids=re.kids.take (i+1)++re.kids.drop (i+1):=(List.take_append_drop _ _).symm;have h2:Re.ba re.kids=Re.ba (re.kids.take (i+1))+Re.ba (re.kids.drop (i+1)):=by rw[<- pT,<- h1]
   omega
  have hds:Pr++Re.eQ (re.kids.take (i+1)) k=Pr++Re.eQ (re.kids.take i) k++x.lE (Pr++Re.eQ (re.kids.take i) k).length:=by rw[bm hx,A9,hPl,aj7]
  have uu:Re.dP (re.kids.take (i+1)) k=Re.dP (re.kids.take i) k++[[x.bk (Pr++Re.eQ (re.kids.take i) k).length]]:=by rw[bm hx,A8,hPl]
  have wL:=hK x hm (g+Re.ba (re.kids.take i)) (Pr++Re.eQ (re.kids.take i) k) ae;rw[<- hds,aky,<- Pg]at wL;generalize hP2:Pr++Re.eQ (re.kids.take (i+1)) k=P2 at *;generalize Pr++Re.eQ (re.kids.take i) k=P1 at *;generalize hG2:g+Re.ba (re.kids.take (i+1))=G2 at *;generalize g+Re.ba (re.kids.take i)=G1 at *;generalize hN2:Re.dP (re.kids.take (i+1)) k=N2 at *;rw[show gS t root re G1 k P1 i=[gM t root G1 P1.length,fk G1 P1,bf re,eW re i k i,⟨i,true,1,(Re.dP (re.kids.take i) k).map λc=>c.map V.d⟩] from rfl];generalize hN1:Re.dP (re.kids.take i) k=N1 at *;generalize x.bk P1.length=xd at *;have e0:∀n G,aN [0,1] (gM t root G n)=gM t root G n:=λn G=>by simp [aN,gM,aE,aE.go]
  have e3:aK 2 (gM t root G1 P1.length)=true:=by simp [gM,aK,aj]
  simp only[zQ,simprocAttr,bf,Re.ah re,ajR,ajV,h0,h5,Ae,A6,uJ,aA,hi0,az,hx,ajM,List.getElem?_map,ajS,ajP];refine cu mix [] [(2,[3],[]),(3,[3],[]),(4,[3],[]),(7,[0,1],[0,1]),(9,[4],[4]),(10,[3],[]),(11,[3],[]),(12,[3],[3])] ?_;simp only[zQ,simprocAttr,Re.ah re,ajR,ajV,h0,h5,Ae,A6,uJ,eW,ajN,ajO];refine Ab [0,1] wL aU rfl ?_ ?_ ?_ ?_ (r':=.d xd) rfl ?_
  ·simp only[ajR,ajV,e0,ki];rfl
  ·rw[av];simp [aE,aE.go,i64,bV]
  ·rw[av];simp [aj,aj.go,i64,bV]
  ·simp only[aks,akB,ajW,ajX,ajT,oW,e3,mI,akV]
  simp only[ajR,ajV,e0,ki,aJ,aj9,akf];simp only[zQ,simprocAttr,h0,h5,Ae,A6,uJ,ajM,ajN,ajO];have hT:List.take i (N1.map λc=>c.map V.d)++[[V.d xd]]=N2.map λc=>c.map V.d:=by rw[akb (by rw[ajM];omega),uu];simp
  refine⟨rfl,λe he=>by rw[List.mem_singleton.1 he];rfl,⟨ae,ae⟩,?_⟩;rw[hT];refine⟨re.kids.length-(i+1),_,_,ae,bA.cut (s':=gS t root re G2 k P2 (i+1)) 5 ae ?_ (aah t root re G2 k P2 (i+1)) [0,5,35,36,37] (by simp [bK,aS,aj,h0,h5,Ae,A6,uJ,i64]),i+1,rfl,az,?_,?_,?_,?_,?_,by rw[hG2,hP2]⟩ <;> (try simp only[zU,pZ,jN,oN,oV,reduceIte])
  ·simp [gS,eW,bf,Re.ah re,iD,bD,i64,hN2]
  ·exact h0
  ·exact h5
  ·exact Ae
  ·exact A6
  ·rw[bG _ ae];rfl
 ·have dX:i=re.kids.length:=by omega
  subst dX;rw[akg]at *;simp only[zQ,simprocAttr,h0,h5,Ae,A6,uJ,aku,gS,tA];refine QS (by rw[akg,AV]) _ ?_;rw[akg,Re.ah re];exact⟨rfl,rfl⟩
def lV (g:Nat) (Pr Q:List D):VL.Obj:=⟨g,true,1,(Pr.map λd=>[V.d d])++[V.rf 3 0 0 0]::(Q.map λd=>[V.d d])⟩
theorem Vg (g:Nat) (Pr Q:List D):aK 5 (lV g Pr Q)=true:=by have h1:=mI 5 g Pr;have h2:=mI 5 g Q;unfold aK fk at h1 h2;unfold aK lV;simp only[akZ,aks,h1,h2,aj4,ak5,akB];rfl
def lS (t:List Int) (root:D) (re:Re) (g k:Nat) (Pr Q:List D) (N1:List (List D)):List VL.Obj :=
 [gM t root g (Pr.length+1+Q.length),lV g Pr Q,bf re,eW re N1.length k N1.length,⟨N1.length,true,1,N1.map λc=>c.map V.d⟩]
theorem Xh (t:List Int) (root:D) (re:Re) (g k:Nat) (Pr Q:List D) (N1:List (List D)):(lS t root re g k Pr Q N1).all (aK 5)=true:=by
 have h2:aK 5 (bf re)=true:=by simp [bf,aK,Re.ah re,aj]
 have h3:aK 5 (eW re N1.length k N1.length)=true:=by simp [eW,aK,Re.ah re,aj,i64]
 have h4:aK 5 (gM t root g (Pr.length+1+Q.length))=true:=by simp [gM,aK,aj]
 have h5:aK 5 ⟨N1.length,true,1,N1.map λc=>c.map V.d⟩=true:=B7;simp only[lS,aks,akB,Vg,h2,h3,h4,h5,akV]
theorem GM{re:Re}{g k:Nat}{Pr Q:List D} (K:V->List VL.Obj->Prop)
  (h:K (.d (.el (re.cells++[.sl N1,iD k]))) [gM t root g (Pr.length+1+Q.length),fk g (Pr++D.el (re.cells++[.sl N1,iD k])::Q)]) :
  tH 2 (lS t root re g k Pr Q N1) (.rf 3 0 0 0) K:=by
 unfold tH;have hB:bc 2 (lS t root re g k Pr Q N1) (.rf 3 0 0 0)=some (.d (.el (re.cells++[.sl N1,iD k]))):=by
  have h1:=js 6 2 (lS t root re g k Pr Q N1) N1 N1.length (ajZ _);generalize hS:lS t root re g k Pr Q N1=S at *;have q3:S[3]?=some (eW re N1.length k N1.length):=by rw[<- hS];rfl
  have q4:S[4]?=some ⟨N1.length,true,1,N1.map λc=>c.map V.d⟩:=by rw[<- hS];rfl
  simp only[bc,cT,q3,q4,eW,true_and,oX,true_or,if_true,List.getElem?_cons_zero,akJ,Re.ah,ajR,ajV,ajN,ajO,akR,List.mapM_nil,i64,ajM,ajT,ajZ,and_self,h1];rfl
 have hA:kU 2 (lS t root re g k Pr Q N1) (gM t root g (Pr.length+1+Q.length))=some (gM t root g (Pr.length+1+Q.length)):=by simp [kU,gM,bc.go,bc,cT,lS,lV]
 have hC:kU 2 (lS t root re g k Pr Q N1) (lV g Pr Q)=some (fk g (Pr++D.el (re.cells++[.sl N1,iD k])::Q)):=by
  unfold kU;have:(lV g Pr Q).au.mapM (bc.go 2 (lS t root re g k Pr Q N1))=some ((Pr++D.el (re.cells++[.sl N1,iD k])::Q).map λd=>[V.d d]):=by
   have hd:∀(L:List D),(L.map λd=>[V.d d]).mapM (bc.go 2 (lS t root re g k Pr Q N1))=some (L.map λd=>[V.d d]):=λL=>by
    rw[Ap (h:=id)]
    ·simp
    ·intro x hx;obtain⟨d,_,rfl⟩:=List.mem_map.1 hx;rfl
   simp only[lV,List.mapM_append,akR,hd,bc.go,hB];simp
  rw[this];rfl
 have hT:((lS t root re g k Pr Q N1).take 2).mapM (kU 2 (lS t root re g k Pr Q N1))=some [gM t root g (Pr.length+1+Q.length),fk g (Pr++D.el (re.cells++[.sl N1,iD k])::Q)]:=by rw[show (lS t root re g k Pr Q N1).take 2=[gM t root g (Pr.length+1+Q.length),lV g Pr Q] from rfl];simp only[akR,List.mapM_nil,hA,hC];rfl
 rw[hT,hB];exact h
theorem Qb (t:List Int) (root:D) (re x:Re) (ho:re.op=7\/re.op=8) (ZX:re.kids=[x]) (hK:wA t root x):wA t root re:=by
 intro g Pr hPr;have hlx:Re.ba re.kids=x.looks:=by rw[ZX];simp [Re.ba]
 have m7:re.lE Pr.length=re.bk Pr.length::x.lE (Pr.length+1):=by rw[Re.Li,be ho,ZX];simp [Re.eQ]
 have ON:re.looks=1+x.looks:=by rw[Re.jZ,be ho,hlx]
 have eU:re.bk Pr.length=.el (re.cells++[.sl [[x.bk (Pr.length+1)]],iD Pr.length]):=by rw[Re.ek,be ho,ZX,Re.ah re,ZX];rfl
 have wL:=λptr=>hK (g+1) (Pr++[ptr]) (by rw[ajQ,aki];omega);have hlen:∀ptr,(Pr++[ptr]++x.lE (Pr++[ptr]).length).length=Pr.length+1+(x.lE (Pr.length+1)).length:=λptr=>by simp only[ajQ,aki]
 simp only[hlen,ajQ,aki]at wL;rw[m7,ON,eU];have Ec:=Re.Aq x (Pr.length+1);have ady:(Pr++D.el (re.cells++[.sl [[x.bk (Pr.length+1)]],iD Pr.length])::x.lE (Pr.length+1)).length=Pr.length+1+(x.lE (Pr.length+1)).length:=cC;rw[ady];generalize x.lE (Pr.length+1)=Q at *;generalize x.bk (Pr.length+1)=xd at *;have hG:g+(1+x.looks)=g+1+x.looks:=ae;rw[hG];have oZ:Pr.length<=1000000:=ae;have hT:List.take Pr.length (Pr.map λd=>[V.d d])=Pr.map λd=>[V.d d]:=akb ak;generalize hL0:x.looks=lx at *;have uG:(re.kids.length:Int)=1:=by rw[ZX];rfl
 have aaa:re.kids[0]?=some x:=by rw[ZX];rfl
 have h78:re.op=7\/(¬re.op=7/\re.op=8):=ae;have afD:∃b7 b8:Bool,decide (re.op=7)=b7/\decide (re.op=8)=b8/\(b7=true\/b8=true):=⟨_,_,rfl,rfl,by rcases ho with o|o <;> simp [o]⟩
 rcases h78 with o|⟨o',o⟩
 ·refine zi Tryz.func60 rfl Tryz.ntmps60 Tryz.results60 rfl 2 240518168763 ak ak ?_;simp only[zQ,simprocAttr,av re,gM];refine cu mix [7] [] ?_;simp only[zQ,simprocAttr,Re.ah re,o,gM,fk,ajM,hT,Option.bind_none,ajT];refine⟨λe he=>by rw[List.mem_singleton.1 he];rfl,⟨ae,ae⟩,?_⟩;refine aw (λn e s=>∃i:Nat,n=1-i/\i<=1/\e 0=.rf 0 0 0 0/\e 5=.rf 3 0 0 0/\e 35=.d (.sl (re.kids.map Re.cells))/\e 36=i64 1/\e 37=i64 i/\s=if i=0 then lS t root re (g+1) Pr.length Pr [] [] else lS t root re (g+1+lx) Pr.length Pr Q [[xd]])
   ⟨_,_,_,(bA.cut (s':=[gM t root (g+1) (Pr.length+1),lV (g+1) Pr [],bf re,⟨0,true,10,[re.cells.map .d++[.fu [],i64 Pr.length]]⟩]) 4 ae (by simp [gM,lV,bf,Re.ah re,iD,bD,i64,o,ao]) (by have h1:=mI 4 0 Pr;unfold aK fk at h1;simp only[aks,akB,aK,lV,akZ,h1];simp [gM,bf,Re.ah re,aj,i64]) [0,5,35,36,37] (by simp [bK,aS,aj,i64];rfl)).trans (.K4 (kL (pre:=re.cells.map .d) (post:=[i64 Pr.length]) 3 1 rfl rfl (by simp [Re.ah re]))),0,rfl,ae,by (try simp only[zU,pZ,jN,oN,oV,reduceIte]);(try rfl),by (try simp only[zU,pZ,jN,oN,oV,reduceIte]);(try rfl),by (try simp only[zU,pZ,jN,oN,oV,reduceIte]);(try rfl),by (try simp only[zU,pZ,jN,oN,oV,reduceIte]);(try rw[uG]);(try rfl),by (try simp only[zU,pZ,jN,oN,oV,reduceIte]);(try rfl),by simp [lS,eW]⟩ ?_
  rintro n e s ⟨i,rfl,hi,h0,h5,Ae,A6,uJ,rfl⟩;rcases akd i 1 with az|gx
  ·obtain rfl:i=0:=by omega
   rw[be rfl];have aA:((0:Nat):Int)<1:=aU;simp only[zQ,simprocAttr,lS,bf,Re.ah re,ajR,ajV,h0,h5,Ae,A6,uJ,aA,uG,aaa,ajM,List.getElem?_map,ajS,ajP,aka];have eO:∀ptr:D,({ lV (g+1) Pr []with au:=(lV (g+1) Pr []).au.set Pr.length [.d ptr] }:VL.Obj)=fk (g+1) (Pr++[ptr]):=λptr=>by simp [lV,fk,akI]
   refine OA (ok:=eW re 0 Pr.length 0) (oa:=lV (g+1) Pr []) (g:=0) 5 3 1 Pr.length (by (try simp only[zU,pZ,jN,oN,oV,reduceIte]);exact h5) rfl rfl rfl (by simp [lV]) rfl (λb a=>?_);rw[HR,eO];have wL:=wL (.sc (.pointer (some ⟨b,a,none⟩)));have SE:({ fk (g+1+lx) (Pr++[.sc (.pointer (some ⟨b,a,none⟩))]++Q) with au:=(fk (g+1+lx) (Pr++[.sc (.pointer (some ⟨b,a,none⟩))]++Q)).au.set Pr.length [.rf 3 0 0 0] }:VL.Obj)=lV (g+1+lx) Pr Q:=by simp [lV,fk,akI]
   have KI:(fk (g+1+lx) (Pr++[.sc (.pointer (some ⟨b,a,none⟩))]++Q)).au[Pr.length]?=some [HR b a]:=by simp [fk,HR]
   have e0:∀n G,aN [0,1] (gM t root G n)=gM t root G n:=λn G=>by simp [aN,gM,aE,aE.go]
   have e3:aK 2 (gM t root (g+1) (Pr.length+1))=true:=by simp [gM,aK,aj]
   simp only[akf,aj9,ak0];generalize Pr++[.sc (.pointer (some ⟨b,a,none⟩))]++Q=P2 at *;generalize Pr++[.sc (.pointer (some ⟨b,a,none⟩))]=P1 at *;refine cu mix [] [(2,[3],[]),(3,[3],[]),(4,[3],[]),(7,[0,1],[0,1]),(9,[4],[4]),(10,[3],[]),(11,[3],[]),(12,[3],[3])] ?_;simp only[zQ,simprocAttr,Re.ah re,ajR,ajV,h0,h5,Ae,A6,uJ,eW,ajN,ajO];refine Ab [0,1] wL aU rfl ?_ ?_ ?_ ?_ (r':=.d xd) rfl ?_
   ·simp only[ajR,ajV,e0,ki];rfl
   ·rw[av];simp [aE,aE.go,i64,bV]
   ·rw[av];simp [aj,aj.go,i64,bV]
   ·simp only[aks,akB,ajW,ajX,ajT,oW,e3,mI,akV]
   simp only[ajR,ajV,e0,ki,aJ,aj9,akf];simp only[zQ,simprocAttr,h0,h5,Ae,A6,uJ,ajM,ajN,ajO];refine⟨rfl,λe he=>by rw[List.mem_singleton.1 he];rfl,?_⟩;refine⟨0,_,_,ae,(bA.K4 (bW.aav (ok:=eW re 1 Pr.length 1) (oa:=fk (g+1+lx) P2) (g:=0) (b:=b) (a0:=a) 5 3 1 Pr.length (by (try simp only[zU,pZ,jN,oN,oV,reduceIte])) ?_ rfl rfl KI rfl)).trans (bA.cut (s':=lS t root re (g+1+lx) Pr.length Pr Q [[xd]]) 5 ae ?_ (Xh t root re (g+1+lx) Pr.length Pr Q [[xd]]) [0,5,35,36,37] (by simp [bK,aS,aj,h0,h5,Ae,A6,uJ,i64])),1,rfl,ae,?_,?_,?_,?_,?_,by rw[bd];simp [lS,eW,bf,Re.ah re,iD,bD,i64]⟩ <;> (try simp only[zU,pZ,jN,oN,oV,reduceIte])
   ·simp [eW,Re.ah re,iD,bD,i64]
   ·simp only[akf,aj9,SE,akO,akW];simp [lS,eW,bf,Re.ah re,iD,bD,i64]
   ·exact h0
   ·exact Ae
   ·exact A6
   ·rfl
  ·obtain rfl:i=1:=by omega
   rw[bd];simp only[zQ,simprocAttr,h0,h5,Ae,A6,uJ,aku,Int.natCast_one,tA];refine GM _ ?_;exact⟨by simp [Re.ah re,iD,bD,o],by simp [Re.ah re,iD,bD,o,gM,fk]⟩
 ·refine zi Tryz.func60 rfl Tryz.ntmps60 Tryz.results60 rfl 2 240518168763 ak ak ?_;simp only[zQ,simprocAttr,av re,gM];refine cu mix [7] [] ?_;simp only[zQ,simprocAttr,Re.ah re,o,gM,fk,ajM,hT,Option.bind_none,ajT];refine⟨λe he=>by rw[List.mem_singleton.1 he];rfl,⟨ae,ae⟩,?_⟩;refine aw (λn e s=>∃i:Nat,n=1-i/\i<=1/\e 0=.rf 0 0 0 0/\e 5=.rf 3 0 0 0/\e 35=.d (.sl (re.kids.map Re.cells))/\e 36=i64 1/\e 37=i64 i/\s=if i=0 then lS t root re (g+1) Pr.length Pr [] [] else lS t root re (g+1+lx) Pr.length Pr Q [[xd]])
   ⟨_,_,_,(bA.cut (s':=[gM t root (g+1) (Pr.length+1),lV (g+1) Pr [],bf re,⟨0,true,10,[re.cells.map .d++[.fu [],i64 Pr.length]]⟩]) 4 ae (by simp [gM,lV,bf,Re.ah re,iD,bD,i64,o,ao]) (by have h1:=mI 4 0 Pr;unfold aK fk at h1;simp only[aks,akB,aK,lV,akZ,h1];simp [gM,bf,Re.ah re,aj,i64]) [0,5,35,36,37] (by simp [bK,aS,aj,i64];rfl)).trans (.K4 (kL (pre:=re.cells.map .d) (post:=[i64 Pr.length]) 3 1 rfl rfl (by simp [Re.ah re]))),0,rfl,ae,by (try simp only[zU,pZ,jN,oN,oV,reduceIte]);(try rfl),by (try simp only[zU,pZ,jN,oN,oV,reduceIte]);(try rfl),by (try simp only[zU,pZ,jN,oN,oV,reduceIte]);(try rfl),by (try simp only[zU,pZ,jN,oN,oV,reduceIte]);(try rw[uG]);(try rfl),by (try simp only[zU,pZ,jN,oN,oV,reduceIte]);(try rfl),by simp [lS,eW]⟩ ?_
  rintro n e s ⟨i,rfl,hi,h0,h5,Ae,A6,uJ,rfl⟩;rcases akd i 1 with az|gx
  ·obtain rfl:i=0:=by omega
   rw[be rfl];have aA:((0:Nat):Int)<1:=aU;simp only[zQ,simprocAttr,lS,bf,Re.ah re,ajR,ajV,h0,h5,Ae,A6,uJ,aA,uG,aaa,ajM,List.getElem?_map,ajS,ajP,aka];have eO:∀ptr:D,({ lV (g+1) Pr []with au:=(lV (g+1) Pr []).au.set Pr.length [.d ptr] }:VL.Obj)=fk (g+1) (Pr++[ptr]):=λptr=>by simp [lV,fk,akI]
   refine OA (ok:=eW re 0 Pr.length 0) (oa:=lV (g+1) Pr []) (g:=0) 5 3 1 Pr.length (by (try simp only[zU,pZ,jN,oN,oV,reduceIte]);exact h5) rfl rfl rfl (by simp [lV]) rfl (λb a=>?_);rw[HR,eO];have wL:=wL (.sc (.pointer (some ⟨b,a,none⟩)));have SE:({ fk (g+1+lx) (Pr++[.sc (.pointer (some ⟨b,a,none⟩))]++Q) with au:=(fk (g+1+lx) (Pr++[.sc (.pointer (some ⟨b,a,none⟩))]++Q)).au.set Pr.length [.rf 3 0 0 0] }:VL.Obj)=lV (g+1+lx) Pr Q:=by simp [lV,fk,akI]
   have KI:(fk (g+1+lx) (Pr++[.sc (.pointer (some ⟨b,a,none⟩))]++Q)).au[Pr.length]?=some [HR b a]:=by simp [fk,HR]
   have e0:∀n G,aN [0,1] (gM t root G n)=gM t root G n:=λn G=>by simp [aN,gM,aE,aE.go]
   have e3:aK 2 (gM t root (g+1) (Pr.length+1))=true:=by simp [gM,aK,aj]
   simp only[akf,aj9,ak0];generalize Pr++[.sc (.pointer (some ⟨b,a,none⟩))]++Q=P2 at *;generalize Pr++[.sc (.pointer (some ⟨b,a,none⟩))]=P1 at *;refine cu mix [] [(2,[3],[]),(3,[3],[]),(4,[3],[]),(7,[0,1],[0,1]),(9,[4],[4]),(10,[3],[]),(11,[3],[]),(12,[3],[3])] ?_;simp only[zQ,simprocAttr,Re.ah re,ajR,ajV,h0,h5,Ae,A6,uJ,eW,ajN,ajO];refine Ab [0,1] wL aU rfl ?_ ?_ ?_ ?_ (r':=.d xd) rfl ?_
   ·simp only[ajR,ajV,e0,ki];rfl
   ·rw[av];simp [aE,aE.go,i64,bV]
   ·rw[av];simp [aj,aj.go,i64,bV]
   ·simp only[aks,akB,ajW,ajX,ajT,oW,e3,mI,akV]
   simp only[ajR,ajV,e0,ki,aJ,aj9,akf];simp only[zQ,simprocAttr,h0,h5,Ae,A6,uJ,ajM,ajN,ajO];refine⟨rfl,λe he=>by rw[List.mem_singleton.1 he];rfl,?_⟩;refine⟨0,_,_,ae,(bA.K4 (bW.aav (ok:=eW re 1 Pr.length 1) (oa:=fk (g+1+lx) P2) (g:=0) (b:=b) (a0:=a) 5 3 1 Pr.length (by (try simp only[zU,pZ,jN,oN,oV,reduceIte])) ?_ rfl rfl KI rfl)).trans (bA.cut (s':=lS t root re (g+1+lx) Pr.length Pr Q [[xd]]) 5 ae ?_ (Xh t root re (g+1+lx) Pr.length Pr Q [[xd]]) [0,5,35,36,37] (by simp [bK,aS,aj,h0,h5,Ae,A6,uJ,i64])),1,rfl,ae,?_,?_,?_,?_,?_,by rw[bd];simp [lS,eW,bf,Re.ah re,iD,bD,i64]⟩ <;> (try simp only[zU,pZ,jN,oN,oV,reduceIte])
   ·simp [eW,Re.ah re,iD,bD,i64]
   ·simp only[akf,aj9,SE,akO,akW];simp [lS,eW,bf,Re.ah re,iD,bD,i64]
   ·exact h0
   ·exact Ae
   ·exact A6
   ·rfl
  ·obtain rfl:i=1:=by omega
   rw[bd];simp only[zQ,simprocAttr,h0,h5,Ae,A6,uJ,aku,Int.natCast_one,tA];refine GM _ ?_;exact⟨by simp [Re.ah re,iD,bD,o],by simp [Re.ah re,iD,bD,o,gM,fk]⟩
theorem Uc (t:List Int) (root:D) (re:Re):re.every oO=true->wA t root re:=by
 refine Re.ind (Q:=λre=>re.every oO=true->wA t root re) (λre ih hs=>?_) re;obtain⟨dM,jA⟩:=(Re.aD re).1 hs;obtain⟨q1,q2,q3,_⟩:=lN.1 dM;have hK:∀x∈re.kids,wA t root x:=λx hx=>ih x hx (jA x hx);by_cases ho:re.op=7\/re.op=8
 ·obtain⟨x,hx⟩:∃x,re.kids=[x]:=List.length_eq_one_iff.1 (q1 ae);exact Qb t root re x ho hx (hK x (by rw[hx];simp))
 ·exact My t root re ae ae q3 hK
end Go.Proofs.YtjjfioalgbecmaaGreat
