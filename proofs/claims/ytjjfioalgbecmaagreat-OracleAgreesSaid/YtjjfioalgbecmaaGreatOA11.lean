/- A part of the proof. -/
import Derived.Test.YtjjfioalgbecmaaGreatOA10
set_option linter.unusedSimpArgs false
set_option linter.unusedVariables false
open Nat renaming reduceShiftRight → qa, reduceMod → qe, reduceEqDiff → Fp, reduceBEq → Ft
open Int renaming reduceEq → FD
set_option maxRecDepth 100000
set_option maxHeartbeats 80000000
namespace Go.VL
variable{cargs:List V}{f:FuncId}{s:List Obj}{P:Program}{args:List V}{K:V->List Obj->Prop}{w:World}{u:Value}{cs:List D}{ex:List D}{c:Value}{s':List Obj}
theorem dD (ρ:List Nat){exts BF:List Obj}{r r':V} (h:av P f cargs exts λv s'=>v=r/\s'=BF) (yl:ρ.Nodup) (hl:BF.length=exts.length)
  (hs:ρ.map (λi=>s[i]?)=exts.map (λo=>some (ba ρ o))) (ha:args=cargs.map (aI ρ)) (xj:ak.go exts.length cargs=true) (rk:exts.all (aY exts.length)=true) (hr:aI ρ r=r') (hk:K r' (aT s ρ (BF.map (ba ρ)))):av P f args s K:=by
 have hρ:ρ.length=exts.length:=by simpa using congrArg List.length hs
 refine x9 h ρ hρ yl (λk o ho=>?_) ha xj rk λv s' hv=>?_
 ·have h1:=congrArg (λl=>l[k]?) hs;simp only[List.getElem?_map,ho,ala]at h1;have hk:k<ρ.length:=by rw[hρ];exact(List.getElem?_eq_some_iff.1 ho).1
  rw[List.getElem?_eq_getElem hk]at h1;simp only[ala,alb]at h1;simpa [List.getD,List.getElem?_eq_getElem hk]using h1
 ·obtain⟨rfl,rfl⟩:=hv;exact⟨hl,by rw[hr];exact hk⟩
theorem MU{s1:List Obj}{r:V}{rd wr:List Nat} (h:av P f args s λv s'=>v=r/\s'=s1) (JV:∀i,i<s.length->i∈rd) (hwl:s1.length=wr.length)
  (hwr:aT s wr s1=s1) (hk:K r s1):EH P rd wr f args s K:=by
 refine⟨r,s1,hwl,λs' hl hs=>?_,by rw[hwr];exact hk⟩;have e:s'=s:=by
  apply List.ext_getElem?;intro i;rcases alw i s.length with hi|hi
  ·exact hs i (JV i hi)
  ·rw[List.getElem?_eq_none ae,List.getElem?_eq_none hi]
 subst e;rw[hwr];exact h
theorem di.Wu {O:Nat->Prop} (h:di O w (.el (cs++ex)) u):di O w (.el cs) u:=by
 generalize hd:D.el (cs++ex)=x at h;cases h with
 |el cs' a f h1 h2 h3 =>
  cases hd;exact .el cs a f h1 (λj x hx=>h2 j x (by rw[List.getElem?_append_left (List.getElem?_eq_some_iff.1 hx).1];exact hx)) (λj x hx=>h3 j x (by rw[List.getElem?_append_left (List.getElem?_eq_some_iff.1 hx).1];exact hx))
 |_=>cases hd
theorem Q8 (h:av P f (.d (.el cs)::args) s K):av P f (.d (.el (cs++ex))::args) s K:=by
 refine⟨h.1,λσ w vals hI hl hv=>h.2 σ w vals hI (by simpa using hl) λi x hx=>?_⟩;cases i with
 |zero =>
  simp at hx;subst hx;have:=hv 0 _ rfl;generalize vals.getD 0 undef=u at this ⊢;cases this with|d hd=>exact .d hd.Wu
 |succ i=>exact hv (i+1) x (by simpa using hx)
theorem DW {σ:Gh} (hI:Inv σ s w) {k:Nat}{o:Obj}{els':List (List V)} (ho:s[k]?=some o) (hlen:∀e∈els',e.length=o.sz) (JN:els'.length=o.aA.length) (Nc:∀es,o.aA≠fX es)
  (h:∀(i j:Nat) (x':V),(els'[i]?.bind (·[j]?))=some x'->∃x,(o.aA[i]?.bind (·[j]?))=some x/\∀u,aD σ s w x u->aD σ s w x' u) :
  aK σ s w σ (s.set k { o with aA:=els' }) w/\Inv σ (s.set k { o with aA:=els' }) w:=by
 have hk:=(List.getElem?_eq_some_iff.1 ho).1;have get:∀(id:Nat) (o':Obj),(s.set k { o with aA:=els' })[id]?=some o'->∃o1,s[id]?=some o1/\o1.live=o'.live/\o1.g=o'.g/\o1.sz=o'.sz:=by
  intro id o' h';rw[List.getElem?_set]at h';split at h'
  ·rename_i he;subst he;try rw[be hk]at h'
   exact ZdI
  ·exact⟨o',h',rfl,rfl,rfl⟩
 have put:∀(id:Nat) (o1:Obj),s[id]?=some o1->∃o',(s.set k { o with aA:=els' })[id]?=some o'/\o'.g=o1.g/\o'.sz=o1.sz/\o'.live=o1.live:=by
  intro id o1 h';rw[List.getElem?_set];split
  ·rename_i he;subst he;rw[ho]at h';simp only[alb]at h';subst h';first|exact⟨_,rfl,rfl,rfl,rfl⟩|exact⟨_,by rw[be hk],rfl,rfl,rfl⟩
  ·exact⟨o1,h',rfl,rfl,rfl⟩
 have hE:aK σ s w σ (s.set k { o with aA:=els' }) w:=by
  exact ZaP
 refine⟨hE,⟨?_,?_,hI.low,?_⟩⟩
 ·intro id o' h1;by_cases he:id=k
  ·subst he;rw[List.getElem?_set_self hk]at h1;simp only[alb]at h1;subst h1;rcases hI.content id o ho with (⟨c1,c2⟩|⟨b,es,c,c1,c2,c3⟩)|⟨b,base,arr,E,c1,c2,c3,c4,c5⟩
   ·left;exact .inl ⟨c1,alz (by show els'.length=0;rw[JN,c2];rfl)⟩
   ·exact(Nc es c3).elim
   ·right;refine⟨b,base,arr,E,c1,c2,hlen,by show base+els'.length*o.sz<=arr.size;rw[JN];exact c4,λi j x' hx=>?_⟩;obtain⟨x,y1,y2⟩:=h i j x' hx;obtain⟨u,z1,z2,z3⟩:=c5 i j x y1;exact⟨u,z1,z2,(y2 u z3).bj hE⟩
  ·exact Zbk
 ·exact ZbB
 ·exact ZcJ
theorem iX{o:Obj}{pre post:List V} (k sz:Nat) (ho:s[k]?=some o) (iy:o.aA=[pre++.fu []::post]) (gr:pre.length+1+post.length=o.sz)
  (h:av P f args (s.set k { o with aA:=[pre++.so s.length 0 0 0::post] }++[⟨0,true,sz,[]⟩]) K):av P f args s K:=by
 refine⟨h.1,λσ w vals hI hl hv=>?_⟩;have hk:=(List.getElem?_eq_some_iff.1 ho).1;have hp:=pP (p:=none) (o':=⟨0,true,sz,[]⟩) (w':=w) hI rfl rfl rfl (ale _) (λ_ _=>rfl) (λ_ _ h'=>by cases h') (λ_=>.inl (.inl ⟨rfl,rfl⟩));have TF:(s++[(⟨0,true,sz,[]⟩:Obj)])[k]?=some o:=by rw[List.getElem?_append_left hk];exact ho
 have hr:=DW hp.2 (els':=[pre++.so s.length 0 0 0::post]) TF (by intro e he;rw[List.mem_singleton.1 he];simp;omega) (by rw[iy];rfl) (by
  intro es he;rw[iy]at he;have hm:(pre++.fu []::post)∈fX es:=by rw[<- he];exact List.mem_singleton.2 rfl
  unfold fX at hm;obtain⟨x,_,hx⟩:=List.mem_map.1 hm;have hf:V.fu []∈[V.d (.sc x.key),V.d (.sc x.val)]:=by rw[hx];simp
  simp at hf) (λi j x' hx=>by
  rw[iy];cases i with
  |succ i=>simp at hx
  |zero =>
   simp only[List.getElem?_cons_zero,alO]at hx ⊢;by_cases hj:j=pre.length
   ·exact Zbd
   ·refine⟨x',?_,λu hu=>hu⟩;rcases alw j pre.length with aE|gE
    ·rw[List.getElem?_append_left aE]at hx ⊢;exact hx
    ·rw[List.getElem?_append_right gE]at hx ⊢;cases hm:j-pre.length with
     |zero=>omega
     |succ m=>rw[hm]at hx;simpa using hx)
 have fB:(s++[(⟨0,true,sz,[]⟩:Obj)]).set k { o with aA:=[pre++.so s.length 0 0 0::post] }=s.set k { o with aA:=[pre++.so s.length 0 0 0::post] }++[⟨0,true,sz,[]⟩]:=by rw[List.set_append_left _ _ hk]
 rw[fB]at hr;have hE:=hp.1.trans hr.1;exact(h.2 _ w vals hr.2 hl (λi x hx=>(hv i x hx).bj hE)).mono λ_ _ ⟨u,v,σ',s',a,b,c,d,e⟩=>⟨u,v,σ',s',a,hE.trans b,c,d,e⟩
theorem aD.afw {σ σ':Gh}{w':World} (h:aD σ s w (.d (.sc c)) u):aD σ' s' w' (.d (.sc c)) u:=by
 cases h with|d h=>?_
 cases h with|sc _ hc=>exact .d (.sc _ hc)
theorem HK (ids:List Nat) (h:aS P f cargs (.d (.sc c)))
  (hc:bq.go (bI s ids).length (bI s ids) args=some cargs) (xj:ak.go 0 cargs=true) (hk:K (.d (.sc c)) s):av P f args s K:=by
 refine⟨h.1,λσ w vals hI hl hv=>?_⟩;obtain⟨U8,hI0⟩:=rT ids s hI;obtain⟨k1,k2⟩:=su hc;have e1:∀b,Own ⟨λ_=>none,Own σ (bI s ids)⟩ [] b->Own σ (bI s ids) b:=by
  exact Zdt
 refine(h.2 ⟨λ_=>none,Own σ (bI s ids)⟩ w vals ⟨λid o ho=>by simp at ho,λid _ o _ _ _ _ ho=>by simp at ho,λb hb=>AU hI0 hb,λid o _ _ ho=>by simp at ho⟩ ae
  (λi x hx=>by
   obtain⟨y,hy,hf⟩:=k2 i x hx;have:=lk hI0 ((hv i y hy).bj U8) hf;rw[alr]at this;exact this.move (dO xj i x hx) e1)).mono λe w' ⟨u,v,σ',s',he,hE,jR,hR,hv',jT⟩=>?_
 subst hv';subst jT;have same:=zw (w':=w') hI hE.os hE.tape hE.output hE.size λb hb=>by
  by_cases ho:Own σ (bI s ids) b
  ·exact hE.gk b hb ho
  ·exact hE.bp b hb λh'=>ho (e1 b h')
 exact⟨u,_,σ,s,he,same.1,same.2,hR.afw,hk⟩
theorem bO.On {L:Nat}{e e':Env} (h:cr e s e' s'):bO L e s e' s':=λσ0 s0 w0 σ w N a _ hE hI hR=>h σ0 s0 w0 σ w N a hE hI hR
theorem bO.freeze {L:Nat}{e:Env} (ids lj:List Nat):bO L e s (l9 (bI s ids) lj e) (bI s ids):=.On (.freeze ids lj)
def fe (bp:List Nat):V->V
 |.so id g lo n=>match bp.idxOf? id with|some k=>.so k g lo n|none=>.any
 |.rf id g i off=>match bp.idxOf? id with|some k=>.rf k g i off|none=>.any
 |.pp id g i off b a=>match bp.idxOf? id with|some k=>.pp k g i off b a|none=>.any
 |.mp id g=>match bp.idxOf? id with|some k=>.mp k g|none=>.any
 |.ag cs=>.ag (go cs)
 |.tu cs=>.tu (go cs)
 |.bx v=>.bx (fe bp v)
 |.cap lo hi v=>.cap lo hi (fe bp v)
 |.cl fn first aj=>.cl fn (go first) (go aj)
 |.d x=>.d x
 |.fu aA=>.fu aA
 |.un=>.un
 |.any=>.any
where go:List V->List V
 |[]=>[]
 |v::vs=>fe bp v::go vs
theorem pN (bp:List Nat):∀(l:List V),fe.go bp l=l.map (fe bp)
 |[]=>rfl
 |v::vs=>by simp [fe.go,pN bp vs]
def fZ (bp:List Nat) (o:Obj):Obj:={ o with aA:=o.aA.map (fe.go bp) }
def mH (bp:List Nat) (s:List Obj):List Obj:=bp.map λid=>fZ bp (s.getD id hole)
def T0 (bp:List Nat) (σ:Gh):Gh:=⟨λk=>match bp[k]? with|some id=>σ id|none=>none,σ.base⟩
section FL
variable {σ:Gh}{s:List Obj}{w:World}{bp:List Nat}
variable{k:Nat}{id:Nat}
theorem KB{o:Obj} (h:(mH bp s)[k]?=some o):∃id,bp[k]?=some id/\o=fZ bp (s.getD id hole):=by unfold mH at h;rw[List.getElem?_map]at h;obtain⟨id,h1,h2⟩:=Option.map_eq_some_iff.1 h;exact⟨id,h1,h2.symm⟩
theorem y3{o:Obj} (h:bp[k]?=some id) (ho:s[id]?=some o):(mH bp s)[k]?=some (fZ bp o):=by unfold mH;rw[List.getElem?_map,h];simp [List.getD,ho]
theorem nv (h:bp[k]?=some id):T0 bp σ k=σ id:=by show (match bp[k]? with|some id=>σ id|none=>none)=σ id;rw[h]
theorem CT (aE:∀id∈bp,id<s.length) {b:Nat} (h:Own (T0 bp σ) (mH bp s) b):Own σ s b:=by
 rcases h with h|⟨k,o,base,h1,h2,h3⟩
 ·exact .inl h
 ·obtain⟨id,k1,rfl⟩:=KB h1;have hi:=aE id (List.mem_of_getElem? k1);rw[nv k1]at h3;have hg:s.getD id hole=s[id]:=by simp [List.getD,List.getElem?_eq_getElem hi]
  rw[hg]at h2;exact .inr ⟨id,s[id],base,by simp [hi],h2,h3⟩
theorem wR (h:bp.idxOf? id=some k):bp[k]?=some id:=by rw[List.idxOf?_eq_some_iff]at h;obtain⟨h1,h2,_⟩:=h;rw[List.getElem?_eq_getElem h1];simpa using h2
theorem aD.FL (aE:∀id∈bp,id<s.length) {x:V}{u:Value} (hr:aD σ s w x u):aD (T0 bp σ) (mH bp s) w (fe bp x) u:=by
 have g:∀(cs:List V) (i:Nat) (y:V),(cs.map (fe bp))[i]?=some y->∃x,cs[i]?=some x/\fe bp x=y:=λcs i y hy=>by rw[List.getElem?_map]at hy;exact Option.map_eq_some_iff.1 hy
 induction hr with
 |d hx=>exact .d (hx.own λb hb=>CT aE hb)
 |fu hx=>exact .fu (hx.own λb hb=>CT aE hb)
 |un=>exact .un
 |any=>exact .any
 |ag h1 h2 _ ih =>
  simp only[fe,pN];exact ZaV
 |tu h1 _ ih =>
  simp only[fe,pN];exact Zea
 |bx h1 h2 h3 hu _ ih=>simp only[fe];exact .bx h1 h2 (λh'=>h3 (CT aE h')) hu ih
 |cap h1 _ ih=>simp only[fe];exact .cap h1 ih
 |cl h1 _ h3 _ As mN =>
  simp only[fe,pN];exact ZaF
 |so o ho hg hu hk =>
  simp only[fe];split
  ·rename_i k dw;have dw:=wR dw;refine .so (fZ bp o) (y3 dw ho) hg hu λx6=>?_;have:=hk x6;unfold AK at this ⊢;rw[nv dw];exact this
  ·exact .any
 |rf o ho hg hu hk =>
  simp only[fe];split
  ·rename_i k dw;have dw:=wR dw;refine .rf (fZ bp o) (y3 dw ho) hg hu λx6=>?_;rw[nv dw];exact hk x6
  ·exact .any
 |pp o ho hg hk =>
  simp only[fe];split
  ·rename_i k dw;have dw:=wR dw;refine .pp (fZ bp o) (y3 dw ho) hg λx6=>?_;rw[nv dw];exact hk x6
  ·exact .any
 |mp o ho hg hu hk =>
  simp only[fe];split
  ·rename_i k dw;have dw:=wR dw;refine .mp (fZ bp o) (y3 dw ho) hg hu λx6=>?_;rw[nv dw];exact hk x6
  ·exact .any
theorem Inv.FL (hI:Inv σ s w) (aE:∀id∈bp,id<s.length) (yl:bp.Nodup):Inv (T0 bp σ) (mH bp s) w:=by
 have get:∀(k:Nat) (o:Obj),(mH bp s)[k]?=some o->∃id o',bp[k]?=some id/\s[id]?=some o'/\o=fZ bp o':=by intro k o h;obtain⟨id,k1,rfl⟩:=KB h;have hi:=aE id (List.mem_of_getElem? k1);exact⟨id,s[id],k1,by simp [hi],by simp [List.getD,List.getElem?_eq_getElem hi]⟩
 refine⟨λk o ho=>?_,λk k' o o' b base bT h1 h2 h3 h4 h5=>?_,hI.low,λk o b base h1 h2=>?_⟩
 ·obtain⟨id,o',k1,k2,rfl⟩:=get k o ho;rw[nv k1];rcases hI.content id o' k2 with (⟨h1,h2⟩|⟨b,es,c,h1,h2,h3⟩)|⟨b,base,arr,E,h1,h2,h3,h4,h5⟩
  ·exact .inl (.inl ⟨h1,by simp [fZ,h2]⟩)
  ·refine .inl (.inr ⟨b,es,c,h1,h2,?_⟩);simp only[fZ,h3,fX,alH];apply alK;intro e _;rfl
  ·refine .inr ⟨b,base,arr,E,h1,h2,λc hc=>?_,by simpa [fZ]using h4,λi j x hx=>?_⟩
   ·obtain⟨c',Nh,rfl⟩:=List.mem_map.1 hc;rw[pN];simpa [fZ]using h3 c' Nh
   ·simp only[fZ,List.getElem?_map]at hx;cases hi:o'.aA[i]? with
    |none=>simp [hi]at hx
    |some c =>
     simp only[hi,ala,alO,pN,List.getElem?_map]at hx;obtain⟨y,hy,rfl⟩:=Option.map_eq_some_iff.1 hx;obtain⟨u,g1,g2,g3⟩:=h5 i j y (by simp [hi,hy]);exact⟨u,g1,g2,g3.FL aE⟩
 ·obtain⟨id,p,k1,k2,rfl⟩:=get k o h1;obtain⟨lL,p',l1,l2,rfl⟩:=get k' o' h2;rw[nv k1]at h4;rw[nv l1]at h5;have e:=hI.inj id lL p p' b base bT k2 l2 h3 h4 h5;subst e;obtain⟨a1,a2⟩:=List.getElem?_eq_some_iff.1 k1;obtain⟨b1,b2⟩:=List.getElem?_eq_some_iff.1 l1;exact(List.getElem_inj yl).1 (a2.trans b2.symm)
 ·obtain⟨id,p,k1,k2,rfl⟩:=get k o h1;rw[nv k1]at h2;exact hI.apart id p b base k2 h2
theorem aK.FL {σ0:Gh}{s0:List Obj}{w0:World} (hE:aK σ0 s0 w0 σ s w) (aE:∀id∈bp,id<s.length) (MK:∀id,id<s0.length->bp[id]?=some id):aK σ0 s0 w0 (T0 bp σ) (mH bp s) w:=by refine⟨hE.os,hE.tape,hE.output,hE.size,hE.bp,hE.shape,hE.qY,λb hb=>hE.own b (CT aE hb),λid o ho=>?_,hE.base,hE.gk⟩;obtain⟨o',h1,h2,h3⟩:=hE.bw id o ho;have hk:=MK id (List.getElem?_eq_some_iff.1 ho).1;exact⟨fZ bp o',y3 hk h1,h2,λhe=>⟨(h3 he).1,by rw[nv hk];exact(h3 he).2⟩⟩
end FL
variable{bp:List Nat}{s:List Obj}{f:FuncId}{P:Program}{args:List V}{K:V->List Obj->Prop}{bM:Nat}{w:World}
def Bv (L:Nat) (bp:List Nat) (n:Nat):Bool:=bp.Nodup&&bp.all (λid=>decide (id<n))&&((List.range L).all λid=>bp[id]? == some id)
theorem ve {L n:Nat} (h:Bv L bp n=true):bp.Nodup/\(∀id∈bp,id<n)/\∀id,id<L->bp[id]?=some id:=by unfold Bv at h;simp only[alo,decide_eq_true_eq,als,beq_iff_eq,List.mem_range]at h;exact⟨h.1.1,h.1.2,h.2⟩
def Og (bp lj:List Nat) (e:Env):Env:=λt=>if lj.contains t then fe bp (e t) else .any
theorem DK {lj:List Nat}{e:Env}{t:Nat}:Og bp lj e t=if lj.contains t then fe bp (e t) else .any:=(rfl)
theorem bO.FL {L:Nat}{e:Env} (bp lj:List Nat) (h:Bv L bp s.length=true):bO L e s (Og bp lj e) (mH bp s):=by
 intro σ0 s0 w0 σ w N a jW hE hI hR;obtain⟨h1,h2,h3⟩:=ve h;refine⟨_,hE.FL h2 (λid dA=>h3 id ae),hI.FL h2 h1,hR.1,hR.2.1,λt=>?_⟩;unfold Og;split
 ·exact(hR.2.2 t).FL h2
 ·exact .any
def xF (L:Nat) (s:List Obj) (r:V) (K:V->List Obj->Prop):Prop:=∃bp,Bv L bp s.length=true/\K (fe bp r) (mH bp s)
def tV (P:Program) (rs:List ResultVar) (L:Nat) (K:V->List Obj->Prop) (ex:Exit) (e:Env) (s:List Obj):Prop:=zR ex/\zl P rs e s λr=>xF L s r K
theorem pE {P : Program} {f : FuncId} {fn : Func} {c : Code} {args : List V} {exts : List Obj} {K : V → List Obj → Prop} (hf : P.funcs[f]? = some fn) (hb : fn.body = some c) {N : Nat} (hN : fn.ntmps = N) {rs : Array ResultVar} (QS : fn.results = rs) (hn : (fn.name != "runtime.NumGoroutine") = true)
  (bM M:Nat) (hl:exts.length<=bM) (ha:args.length<=N)
  (h:codeWp P N bM M c (tV P rs.toList bM K) (iT args) exts):av P f args exts K:=by
 subst hN;subst QS;refine⟨by simp only[MJ,hf,hn,hb,Option.isSome_some,amh],λσ w vals hI YH hv=>?_⟩;refine calls_of_wp hf hb ?_;have hR:eE σ exts w fn.ntmps (iT args) { tmps:=vals++Array.replicate (fn.ntmps-vals.size) undef,defers:=[] }:=by
  exact Zaf
 refine wp_mono (oF hl c _ (iT args) exts σ w _ (aK.refl _ _ _) hI hR h) λex a' w' ⟨e',σ',s',hE,jR,qu,hex,hq⟩=>?_;obtain⟨v,u,k1,k2,k3⟩:=nS jR qu hq;obtain⟨bp,h0,hK⟩:=k3;obtain⟨h1,h2,h3⟩:=ve h0;have fin:a'.defers=[]/\∃v,(results fn a'.tmps).run P w'=.ok v w'/\∃u Ut xM tm,Ending.returned v=.returned u/\aK σ exts w xM tm w'/\Inv xM tm w'/\aD xM tm w' Ut u/\K Ut tm:=by refine⟨qu.1,u,k1,?_⟩;exact⟨u,_,_,_,rfl,hE.FL h2 (λid dA=>h3 id ae),jR.FL h2 h1,k2.FL h2,hK⟩
 exact ZbC
def uO (ρ:List Nat) (s exts s':List Obj):List Nat:=ρ++List.range' s.length (s'.length-exts.length)
theorem uK:∀(ρ ρ':List Nat) (A B:List Obj) (s:List Obj),A.length=ρ.length->aT s (ρ++ρ') (A++B)=aT (aT s ρ A) ρ' B
 |[],ρ',[],B,s,_=>by simp [aT]
 |[],_,_::_,_,_,h=>by simp at h
 |_::_,_,[],_,_,h=>by simp at h
 |r::ρ,ρ',a::A,B,s,h=>by simp only[ak5,aT];exact uK ρ ρ' A B _ (by simpa using h)
theorem zh:∀(ρ:List Nat) (A:List Obj) (s t:List Obj),(∀id∈ρ,id<s.length)->aT (s++t) ρ A=aT s ρ A++t
 |[],_,s,t,_=>by simp [aT]
 |r::ρ,[],s,t,_=>by simp [aT]
 |r::ρ,a::A,s,t,h=>by simp only[aT];rw[List.set_append_left _ _ (h r aq)];exact zh ρ A _ t (λid dA=>by simpa using h id (by simp [dA]))
theorem BH:∀(m:Nat) (B s:List Obj),B.length=m->aT (s++List.replicate m hole) (List.range' s.length m) B=s++B
 |0,B,s,h=>by have:B=[]:=alz h;subst this;simp [aT]
 |m+1,[],s,h=>by simp at h
 |m+1,b::B,s,h=>by rw[List.range'_succ,List.replicate_succ];simp only[aT];rw[al0 _ _ (ale _),ame,alA];have:=BH m B (s++[b]) (by simpa using h);simpa using this
theorem iG{cargs:List V}{exts:List Obj}{Kc:V->List Obj->Prop} (h:av P f cargs exts Kc) (ρ:List Nat) (hρ:ρ.length=exts.length) (yl:ρ.Nodup)
  (hs:∀(k:Nat) (o:Obj),exts[k]?=some o->s[ρ.getD k 0]?=some (ba ρ o)) (kJ:args=cargs.map (aI ρ)) (xj:ak.go exts.length cargs=true) (rk:exts.all (aY exts.length)=true)
  (hk:∀v s',Kc v s'->exts.length<=s'.length->K (aI (uO ρ s exts s') v) (aT s ρ ((s'.take exts.length).map (ba (uO ρ s exts s')))++(s'.drop exts.length).map (ba (uO ρ s exts s')))):av P f args s K:=by
 refine⟨h.1,λσ w vals hI hl hv=>?_⟩;have X6:∀k,k<exts.length->ρ[k]?=some (ρ.getD k 0):=λk hk=>by simp [List.getD,show k<ρ.length by omega]
 have hρi:∀k k',k<exts.length->k'<exts.length->ρ.getD k 0=ρ.getD k' 0->k=k':=by intro k k' h1 h2 he;have e1:=X6 k h1;have e2:=X6 k' h2;rw[he]at e1;obtain⟨l1,g1⟩:=List.getElem?_eq_some_iff.1 e1;obtain⟨l2,g2⟩:=List.getElem?_eq_some_iff.1 e2;exact(List.getElem_inj yl).1 (g1.trans g2.symm)
 have JE:∀k,(hk:k<exts.length)->s[ρ.getD k 0]?=some (ba ρ exts[k]):=λk hk=>hs k exts[k] (by simp [hk]);let ur:Nat->Prop:=λb=>∃k base,k<exts.length/\σ (ρ.getD k 0)=some (b,base);let σc:Gh:=⟨λk=>if k<exts.length then σ (ρ.getD k 0) else none,λb=>Own σ s b/\¬ur b⟩
 have Jn:∀k,k<exts.length->σc k=σ (ρ.getD k 0):=λk hk=>be hk;have A0:∀b,Own σc exts b->Own σ s b:=by
  exact ZbI
 have SB:∀b,Own σ s b->Own σc exts b:=by
  exact ZaR
 have hIc:Inv σc exts w:=by
  exact Zal
 refine(h.2 σc w vals hIc (by rw[hl,kJ];simp) (λi x hx=>yZ A0 hs Jn (hv i _ (by rw[kJ,List.getElem?_map,hx];rfl)) rfl (dO xj i x hx))).mono λe w' ⟨u,v,σ',s',he,hE,jR,hR,hK⟩=>?_;have hle:exts.length<=s'.length:=by
  rcases Nat.eq_zero_or_pos exts.length with h0|h0
  ·omega
  ·obtain⟨o',g1,_⟩:=hE.bw (exts.length-1) exts[exts.length-1] (List.getElem?_eq_getElem ae);have:=(List.getElem?_eq_some_iff.1 g1).1;omega
 have hK:=hk v s' hK hle;have acH:∀id∈ρ,id<s.length:=by
  intro id dA;obtain⟨k,hk⟩:=List.mem_iff_getElem?.1 dA;have aE:k<exts.length:=by have:=(List.getElem?_eq_some_iff.1 hk).1;omega
  have h1:=(List.getElem?_eq_some_iff.1 (JE k aE)).1;have:ρ.getD k 0=id:=by simp [List.getD,hk]
  omega
 obtain⟨R,YB⟩:∃R,R=uO ρ s exts s':=⟨_,rfl⟩
 rw[<- YB]at hK;have hRl:R.length=s'.length:=by rw[YB];simp [uO];omega
 have hRn:R.Nodup:=by rw[YB];unfold uO;rw[List.nodup_append];refine⟨yl,List.nodup_range',λa ha b hb he=>?_⟩;subst he;have h1:=acH a ha;have h2:=List.mem_range'.1 hb;omega
 have SD:∀k,k<exts.length->R.getD k 0=ρ.getD k 0:=λk hk=>by rw[YB];unfold uO;simp only[List.getD];rw[List.getElem?_append_left ae]
 have aaC:∀k,exts.length<=k->k<s'.length->R.getD k 0=s.length+(k-exts.length):=λk h1 h2=>by rw[YB];unfold uO;simp only[List.getD];rw[List.getElem?_append_right ae,List.getElem?_range' ae];simp;omega
 have hRk:∀k,k<s'.length->R[k]?=some (R.getD k 0):=λk hk=>by simp [List.getD,show k<R.length by omega]
 have af4:∀k,k<s'.length->R.getD k 0<s.length+(s'.length-exts.length):=λk hk=>by
  rcases alw k exts.length with h1|h1
  ·rw[SD k h1];have:=(List.getElem?_eq_some_iff.1 (JE k h1)).1;omega
  ·rw[aaC k h1 hk];omega
 have Yw:aT s ρ ((s'.take exts.length).map (ba R))++(s'.drop exts.length).map (ba R)=aT (s++List.replicate (s'.length-exts.length) hole) R (s'.map (ba R)):=by
  have lQ:s'.map (ba R)=(s'.take exts.length).map (ba R)++(s'.drop exts.length).map (ba R):=by rw[<- amp,amw]
  rw[lQ,YB];unfold uO;generalize ba (ρ++List.range' s.length (s'.length-exts.length))=F;rw[uK _ _ _ _ _ cV,zh _ _ _ _ acH];have BT:(aT s ρ ((s'.take exts.length).map F)).length=s.length:=py _ _ _;generalize aT s ρ ((s'.take exts.length).map F)=T at *;rw[<- BT,BH (s'.length-exts.length) _ T aq]
 rw[Yw]at hK;clear Yw;let σn:Gh:=⟨λid=>match R.idxOf? id with|some k=>σ' k|none=>σ id,σ.base⟩
 have Z6:∀k,k<s'.length->R.idxOf? (R.getD k 0)=some k:=by
  intro k hk;have e1:=hRk k hk;obtain⟨l1,g1⟩:=List.getElem?_eq_some_iff.1 e1;rw[List.idxOf?_eq_some_iff];refine⟨l1,by simp [g1],λj hj=>?_⟩;have VI:j<R.length:=ae;intro hb;have St:R[j]=R.getD k 0:=by simpa using hb
  have:=(List.getElem_inj hRn).1 (St.trans g1.symm);omega
 have Jf:∀k,k<s'.length->σn (R.getD k 0)=σ' k:=λk hk=>by show (match R.idxOf? (R.getD k 0) with|some k=>σ' k|none=>σ (R.getD k 0))=σ' k;rw[Z6 k hk]
 have Kr:∀id,id ∉ R->σn id=σ id:=λid dA=>by show (match R.idxOf? id with|some k=>σ' k|none=>σ id)=σ id;rw[List.idxOf?_eq_none_iff.2 dA]
 have gZ:∀id,id∈R->∃k,k<s'.length/\id=R.getD k 0:=by intro id dA;obtain⟨k,hk⟩:=List.mem_iff_getElem?.1 dA;have aE:=(List.getElem?_eq_some_iff.1 hk).1;exact⟨k,ae,by simp [List.getD,hk]⟩
 have yp:(s++List.replicate (s'.length-exts.length) hole).length=s.length+(s'.length-exts.length):=aq;have Ns:∀(k:Nat) (o:Obj),s'[k]?=some o->(aT (s++List.replicate (s'.length-exts.length) hole) R (s'.map (ba R)))[R.getD k 0]?=some (ba R o):=by intro k o ho;have aE:k<s'.length:=(List.getElem?_eq_some_iff.1 ho).1;exact yK R _ _ k _ _ hRn (hRk k aE) (by rw[List.getElem?_map,ho];rfl) (by rw[yp];exact af4 k aE)
 have vn:∀id,id ∉ R->(aT (s++List.replicate (s'.length-exts.length) hole) R (s'.map (ba R)))[id]?=s[id]?:=λid dA=>by
  rw[ij R _ _ id dA];rcases alw id s.length with h1|h1
  ·rw[List.getElem?_append_left h1]
  ·rw[List.getElem?_eq_none h1];refine List.getElem?_eq_none ?_;rw[yp];rcases alw id (s.length+(s'.length-exts.length)) with h2|h2
   ·exfalso;apply dA;have e1:=aaC (exts.length+(id-s.length)) ae ae;have e2:=hRk (exts.length+(id-s.length)) ae;rw[e1]at e2;have e3:s.length+(exts.length+(id-s.length)-exts.length)=id:=ae;rw[e3]at e2;exact List.mem_of_getElem? e2
   ·exact h2
 have aa7:∀id o,id∈R->s[id]?=some o->∃k,k<exts.length/\id=R.getD k 0/\id=ρ.getD k 0:=by
  intro id o dA ho;obtain⟨k,hk,rfl⟩:=gZ id dA;rcases alw k exts.length with h1|h1
  ·exact⟨k,h1,rfl,SD k h1⟩
  ·rw[aaC k h1 hk]at ho;have:=(List.getElem?_eq_some_iff.1 ho).1;omega
 have x5:∀(k:Nat) (o:Obj),k<s'.length->(aT (s++List.replicate (s'.length-exts.length) hole) R (s'.map (ba R)))[R.getD k 0]?=some o->∃o',s'[k]?=some o'/\o=ba R o':=by intro k o aE ho;have aH:k<s'.length:=ae;have:=Ns k s'[k] (by simp [aH]);rw[ho]at this;exact⟨s'[k],by simp [aH],by simpa using this⟩
 have gk:∀b,b<w.heap.size->Own σ s b->¬ur b->w'.heap[b]?=w.heap[b]?:=λb hb h1 h2=>hE.gk b hb ⟨h1,h2⟩;have DF:∀b,σ.base b->¬ur b:=by rintro b hb ⟨k,base,aE,h3⟩;exact hI.apart _ _ b base (JE k aE) h3 hb
 have ss:∀id o b base,id ∉ R->s[id]?=some o->σ id=some (b,base)->o.live=true->¬ur b:=by rintro id o b base dA ho h1 Cu ⟨k,bT,aE,h3⟩;have:=hI.inj id _ o _ b base bT ho (JE k aE) Cu h1 h3;exact dA (by rw[this,<- SD k aE];exact List.mem_of_getElem? (hRk k ae))
 have Ud:∀b,Own σn (aT (s++List.replicate (s'.length-exts.length) hole) R (s'.map (ba R))) b->Own σ' s' b:=by
  rintro b (hb|⟨id,o,base,h1,h2,h3⟩)
  ·left;rw[hE.base];exact⟨.inl hb,DF b hb⟩
  ·by_cases dA:id∈R
   ·exact Zcl
   ·exact Zcj
 have ZU:aK σ s w σn (aT (s++List.replicate (s'.length-exts.length) hole) R (s'.map (ba R))) w':=by
  refine⟨hE.os,hE.tape,hE.output,hE.size,λb hb ho=>hE.bp b hb λh'=>ho (A0 b h'),λb arr E ho hh=>hE.shape b arr E (SB b ho) hh,λb ho hm=>hE.qY b (SB b ho) hm,λb hb=>?_,λid o ho=>?_,rfl,
   λb hb hf=>gk b hb (.inl hf) (DF b hf)⟩
  ·exact ZcQ
  ·by_cases dA:id∈R
   ·obtain⟨k,aE,sY,DH⟩:=aa7 id o dA ho;rw[DH,JE k aE]at ho;simp only[alb]at ho;subst ho;obtain⟨o',g1,g2,g3⟩:=hE.bw k exts[k] (by simp [aE]);refine⟨ba R o',by rw[sY];exact Ns k o' g1,g2,λhe=>?_⟩;obtain⟨e1,e2⟩:=g3 he;refine⟨e1,?_⟩;have e3:σn id=σ' k:=by rw[sY];exact Jf k ae
    rw[e3,e2,Jn k aE,DH]
   ·exact Zdm
 have up:∀{x:V}{u:Value},aD σ' s' w' x u->aD σn (aT (s++List.replicate (s'.length-exts.length) hole) R (s'.map (ba R))) w' (aI R x) u:=λhr =>
  UQ Ud Ns (λk hk=>Jf k ae) hr
 have hIn:Inv σn (aT (s++List.replicate (s'.length-exts.length) hole) R (s'.map (ba R))) w':=by
  refine⟨λid o ho=>?_,λid lL o o' b base bT h1 h2 h3 h4 h5=>?_,λb hb=>amr (hI.low b hb) hE.size,λid o b base h1 h2 hb=>?_⟩
  ·by_cases dA:id∈R
   ·exact ZaL
   ·exact ZaI
  ·by_cases dA:id∈R <;> by_cases yE:lL∈R
   ·exact Zbs
   ·exact ZaD
   ·exact Zbm
   ·exact Zck
  ·by_cases dA:id∈R
   ·exact ZbR
   ·exact Zdh
 exact⟨u,aI R v,σn,_,he,ZU,hIn,up hR,hK⟩
def xi (bM:Nat) (s:List Obj) (o:Obj):Option Obj:=(o.aA.mapM (bq.go bM s)).map λaA=>{ o with aA:=aA }
theorem AL {α β:Type}{f:α->Option β}:∀{l:List α}{r:List β},l.mapM f=some r->r.length=l.length/\(∀(i:Nat) (y:β),r[i]?=some y->∃x,l[i]?=some x/\f x=some y)/\∀(i:Nat) (x:α),l[i]?=some x->∃y,r[i]?=some y/\f x=some y
 |[],r,h=>by simp at h;subst h;simp
 |a::l,r,h=>by
  simp only[ami,Option.bind_eq_bind,Option.pure_def]at h;cases ha:f a with
  |none=>rw[ha]at h;simp at h
  |some b =>
   rw[ha]at h;cases hl:l.mapM f with
   |none=>rw[hl]at h;simp at h
   |some bs =>
    rw[hl]at h;simp only[alO,alb]at h;subst h;obtain⟨k1,k2,k3⟩:=AL hl;refine⟨by simp [k1],λi y hy=>?_,λi x hx=>?_⟩
    ·cases i with
     |zero=>simp at hy;subst hy;exact⟨a,rfl,ha⟩
     |succ i=>simpa using k2 i y (by simpa using hy)
    ·cases i with
     |zero=>simp at hx;subst hx;exact⟨b,rfl,ha⟩
     |succ i=>simpa using k3 i x (by simpa using hx)
theorem wI{o o':Obj} (h:xi bM s o=some o'):o'.g=o.g/\o'.live=o.live/\o'.sz=o.sz/\o.aA.mapM (bq.go bM s)=some o'.aA:=by unfold xi at h;obtain⟨aA,h1,rfl⟩:=Option.map_eq_some_iff.1 h;exact⟨rfl,rfl,rfl,h1⟩
theorem Uy {σ:Gh}{sF:List Obj} (hI:Inv σ s w) (h:(s.take bM).mapM (xi bM s)=some sF):aK σ (s.take bM) w σ sF w/\Inv σ sF w:=by
 obtain⟨m1,m2,m3⟩:=AL h;have xb:∀b,Own σ sF b->Own σ (s.take bM) b:=by
  rintro b (hb|⟨id,o,base,h1,h2,h3⟩)
  ·exact .inl hb
  ·obtain⟨o0,k1,k2⟩:=m2 id o h1;obtain⟨_,e2,_,_⟩:=wI k2;exact .inr ⟨id,o0,base,k1,by rw[<- e2];exact h2,h3⟩
 have hE:aK σ (s.take bM) w σ sF w:=by refine⟨rfl,rfl,rfl,ale _,λ_ _ _=>rfl,λ_ arr _ _ h=>⟨arr,h,rfl⟩,λ_ _ h=>h,λb hb=>.inl (xb b hb),λid o ho=>?_,rfl,λ_ _ _=>rfl⟩;obtain⟨o',k1,k2⟩:=m3 id o ho;obtain⟨e1,_,e3,_⟩:=wI k2;exact⟨o',k1,ae,λ_=>⟨e3,rfl⟩⟩
 have get:∀(id:Nat) (o:Obj),(s.take bM)[id]?=some o->s[id]?=some o:=by
  exact ZcT
 refine⟨hE,λid o ho=>?_,λid lL o o' b base bT h1 h2 h3 h4 h5=>?_,hI.low,λid o b base h1 h2=>?_⟩
 ·obtain⟨o0,k1,k2⟩:=m2 id o ho;obtain⟨e1,e2,e3,e4⟩:=wI k2;obtain⟨n1,n2,n3⟩:=AL e4;rcases hI.content id o0 (get _ _ k1) with (⟨h1,h2⟩|⟨b,es,c,h1,h2,h3⟩)|⟨b,base,arr,E,h1,h2,h3,h4,h5⟩
  ·exact .inl (.inl ⟨h1,alz (by rw[n1,h2];rfl)⟩)
  ·refine .inl (.inr ⟨b,es,c,h1,h2,?_⟩);rw[<- h3];refine List.ext_getElem? λi=>?_;cases hi:o0.aA[i]? with
   |none =>
    have:=List.getElem?_eq_none_iff.1 hi;exact List.getElem?_eq_none ae
   |some x =>
    obtain⟨y,y1,y2⟩:=n3 i x hi;rw[y1];have hx:=hi;rw[h3]at hx;unfold fX at hx;rw[List.getElem?_map]at hx;obtain⟨en,_,rfl⟩:=Option.map_eq_some_iff.1 hx;simp only[bq.go,bq,alb]at y2;rw[<- y2]
  ·refine .inr ⟨b,base,arr,E,h1,h2,λe he=>?_,by rw[n1,e3];exact h4,λi j y hy=>?_⟩
   ·obtain⟨i,hi⟩:=List.mem_iff_getElem?.1 he;obtain⟨x,x1,x2⟩:=n2 i e hi;rw[(su x2).1,e3];exact h3 x (List.mem_of_getElem? x1)
   ·cases Ex:o.aA[i]? with
    |none=>rw[Ex]at hy;cases hy
    |some e =>
     rw[Ex]at hy;obtain⟨x,x1,x2⟩:=n2 i e Ex;obtain⟨v,v1,v2⟩:=(su x2).2 j y hy;obtain⟨u,u1,u2,u3⟩:=h5 i j v (by rw[x1];exact v1);exact⟨u,by rw[e3];exact u1,u2,(lk hI u3 v2).bj hE⟩
 ·obtain⟨a,k1,k2⟩:=m2 id o h1;obtain⟨a',k1',k2'⟩:=m2 lL o' h2;exact hI.inj id lL a a' b base bT (get _ _ k1) (get _ _ k1') (by rw[<- (wI k2).2.1];exact h3) h4 h5
 ·obtain⟨a,k1,k2⟩:=m2 id o h1;exact hI.apart id a b base (get _ _ k1) h2
def u5 (bM:Nat) (s:List Obj) (r:V) (K:V->List Obj->Prop):Prop :=
 match (s.take bM).mapM (xi bM s),bq bM s r with
 |some sF,some r'=>K r' sF
 |_,_=>False
def HF (P:Program) (rs:List ResultVar) (bM:Nat) (K:V->List Obj->Prop) (ex:Exit) (e:Env) (s:List Obj):Prop:=zR ex/\zl P rs e s λr=>u5 bM s r K
theorem DN {P : Program} {f : FuncId} {fn : Func} {c : Code} {args : List V} {exts : List Obj} {K : V → List Obj → Prop} (hf : P.funcs[f]? = some fn) (hb : fn.body = some c) {N : Nat} (hN : fn.ntmps = N) {rs : Array ResultVar} (QS : fn.results = rs) (hn : (fn.name != "runtime.NumGoroutine") = true)
  (bM M:Nat) (hl:exts.length<=bM) (ha:args.length<=N)
  (h:codeWp P N bM M c (HF P rs.toList bM K) (iT args) exts):av P f args exts K:=by
 subst hN;subst QS;refine⟨by simp only[MJ,hf,hn,hb,Option.isSome_some,amh],λσ w vals hI YH hv=>?_⟩;refine calls_of_wp hf hb ?_;have hR:eE σ exts w fn.ntmps (iT args) { tmps:=vals++Array.replicate (fn.ntmps-vals.size) undef,defers:=[] }:=by
  exact Zaf
 refine wp_mono (oF hl c _ (iT args) exts σ w _ (aK.refl _ _ _) hI hR h) λex a' w' ⟨e',σ',s',hE,jR,qu,hex,hq⟩=>?_;obtain⟨v,u,k1,k2,k3⟩:=nS jR qu hq;unfold u5 at k3;have fin:a'.defers=[]/\∃v,(results fn a'.tmps).run P w'=.ok v w'/\∃u Ut xM tm,Ending.returned v=.returned u/\aK σ exts w xM tm w'/\Inv xM tm w'/\aD xM tm w' Ut u/\K Ut tm:=by
  refine⟨qu.1,u,k1,?_⟩;split at k3
  ·rename_i sF r' hsF Xr;obtain⟨q1,q2⟩:=Uy jR hsF;exact⟨u,r',σ',sF,rfl,(hE.take hl).trans q1,q2,(lk jR k2 Xr).bj q1,k3⟩
  ·exact k3.elim
 exact ZbC
def Xu:V->V
 |.pp _ _ _ _ b a=>.d (.sc (.pointer (some ⟨b,a,none⟩)))
 |v=>v
theorem Rx {σ:Gh}{x:V}{u:Value} (h:aD σ s w x u):aD σ s w (Xu x) u:=by
 unfold Xu;split
 ·rw[h.DG];exact .d (.sc _ rfl)
 ·exact h
theorem U1 (h:av P f (args.map Xu) s K):av P f args s K:=by refine⟨h.1,λσ w vals hI hl hv=>h.2 σ w vals hI (by simpa using hl) λi x hx=>?_⟩;rw[List.getElem?_map]at hx;obtain⟨y,hy,rfl⟩:=Option.map_eq_some_iff.1 hx;exact Rx (hv i y hy)
end Go.VL
namespace Go.Proofs.YtjjfioalgbecmaaGreat
open Go.VL Go.Proofs.Tryz
variable{s:List VL.Obj}{K:V->List VL.Obj->Prop}{f:FuncId}{P:Program}{args:List V}{pre:List V}{post:List V}{aA:List (List V)}{g:Nat}{lo:Nat}{id:Nat}{sz:Nat}{n:Nat}{e:Env}{l:List (List D)}
theorem Mp{K1:V->List VL.Obj->Prop} (h:av P f args s K1)
  (hw:∀v s1,K1 v s1->∀σ w u,Inv σ s1 w->aD σ s1 w v u->∃σ2 s2 v2,aK σ s1 w σ2 s2 w/\Inv σ2 s2 w/\aD σ2 s2 w v2 u/\K v2 s2):av P f args s K:=by
 refine⟨h.1,λσ w vals hI hl hv=>(h.2 σ w vals hI hl hv).mono λe w' ⟨u,v,σ',s',h1,h2,h3,h4,h5⟩=>?_⟩;obtain⟨σ2,s2,v2,k1,k2,k3,k4⟩:=hw v s' h5 σ' w' u h3 h4;exact⟨u,v2,σ2,s2,h1,h2.trans k1,k2,k3,k4⟩
theorem sH {σ:Gh}{w:World} (hI:Inv σ s w) {o:VL.Obj} (k sz:Nat) (ho:s[k]?=some o) (iy:o.aA=[pre++.fu []::post]) (gr:pre.length+1+post.length=o.sz) :
  ∃σ',aK σ s w σ' (s.set k { o with aA:=[pre++.so s.length 0 0 0::post] }++[⟨0,true,sz,[]⟩]) w/\Inv σ' (s.set k { o with aA:=[pre++.so s.length 0 0 0::post] }++[⟨0,true,sz,[]⟩]) w:=by
 have hk:=(List.getElem?_eq_some_iff.1 ho).1;have hp:=pP (p:=none) (o':=⟨0,true,sz,[]⟩) (w':=w) hI rfl rfl rfl (ale _) (λ_ _=>rfl) (λ_ _ h'=>by cases h') (λ_=>.inl (.inl ⟨rfl,rfl⟩));have TF:(s++[(⟨0,true,sz,[]⟩:VL.Obj)])[k]?=some o:=by rw[List.getElem?_append_left hk];exact ho
 have hr:=DW hp.2 (els':=[pre++.so s.length 0 0 0::post]) TF (by intro e he;rw[List.mem_singleton.1 he];simp;omega) (by rw[iy];rfl) (by
  intro es he;rw[iy]at he;have hm:(pre++.fu []::post)∈fX es:=by rw[<- he];exact List.mem_singleton.2 rfl
  unfold fX at hm;obtain⟨x,_,hx⟩:=List.mem_map.1 hm;have hf:V.fu []∈[V.d (.sc x.key),V.d (.sc x.val)]:=by rw[hx];simp
  simp at hf) (λi j x' hx=>by
  rw[iy];cases i with
  |succ i=>simp at hx
  |zero =>
   simp only[List.getElem?_cons_zero,alO]at hx ⊢;by_cases hj:j=pre.length
   ·exact Zbd
   ·refine⟨x',?_,λu hu=>hu⟩;rcases alw j pre.length with aE|gE
    ·rw[List.getElem?_append_left aE]at hx ⊢;exact hx
    ·rw[List.getElem?_append_right gE]at hx ⊢;cases hm:j-pre.length with
     |zero=>omega
     |succ m=>rw[hm]at hx;simpa using hx)
 have fB:(s++[(⟨0,true,sz,[]⟩:VL.Obj)]).set k { o with aA:=[pre++.so s.length 0 0 0::post] }=s.set k { o with aA:=[pre++.so s.length 0 0 0::post] }++[⟨0,true,sz,[]⟩]:=by rw[List.set_append_left _ _ hk]
 rw[fB]at hr;exact⟨_,hp.1.trans hr.1,hr.2⟩
theorem rE {bM:Nat}{live:Bool}{ds:List (List D)} (ho:s[id]?=some ⟨g,live,sz,aA⟩) (he:(aA.drop lo).take n=ds.map (λc=>c.map V.d)) (hn:lo+n<=aA.length) (hl:bM<=id\/live=false) :
  bq bM s (.so id g lo n)=some (.d (.sl ds)):=by
 simp only[bq,cJ,ho,true_and];rw[be ⟨hn,hl⟩,he,vz];rfl
theorem gQ (t sz:Nat) (h:e t=.fu []):cr e s (ca e t (.so s.length 0 0 0)) (s++[⟨0,true,sz,[]⟩]):=by
 intro σ0 s0 w0 σ w N a hE hI hR;have hp:=pP (p:=none) (o':=⟨0,true,sz,[]⟩) (w':=w) hI rfl rfl rfl (ale _) (λ_ _=>rfl) (λ_ _ h'=>by cases h') (λ_=>.inl (.inl ⟨rfl,rfl⟩));refine⟨_,hE.trans hp.1,hp.2,hR.1,hR.2.1,λk=>?_⟩;by_cases hk:k=t
 ·subst hk;have hu:=(hR.2.2 k).bj hp.1;rw[h]at hu;rw[ca,be rfl];generalize a.tmps.getD k undef=u at hu;cases hu with|fu hx=>?_
  exact .so ⟨0,true,sz,[]⟩ aq (ale _) ⟨_,_,rfl⟩ (λ_=>.inl ⟨cy _ _ _,⟨_,rfl⟩,rfl,rfl⟩)
 ·rw[ca,ap hk];exact(hR.2.2 k).bj hp.1
theorem nY{o:VL.Obj} (k sz:Nat) (ho:s[k]?=some o) (iy:o.aA=[pre++.fu []::post]) (gr:pre.length+1+post.length=o.sz) :
  cr e s e (s.set k { o with aA:=[pre++.so s.length 0 0 0::post] }++[⟨0,true,sz,[]⟩]):=by
 intro σ0 s0 w0 σ w N a hE hI hR;obtain⟨σ',h1,h2⟩:=sH hI k sz ho iy gr;exact⟨σ',hE.trans h1,h2,hR.bj h1⟩
theorem OH {L:Nat}{s':List VL.Obj} (t:Nat) (ds:List (List D)) (bM:Nat) (bp:List Nat) (he:e t=.so id g lo n) (ho:s[id]?=some ⟨g,true,sz,aA⟩)
  (hd:(aA.drop lo).take n=ds.map λc=>c.map V.d) (hn:lo+n<=aA.length) (hL:L<=bM) (Qu:bM<=id) (hs:s.take bM=s') (jw:s'.all (aY bM)=true) (hk:bp.all (λk=>k == t||ak bM (e k))=true) :
  bO L e s (ot bp (ca e t (.d (.sl ds)))) s':=by
 have XY:bI s [id]=s.set id ⟨g,false,sz,aA⟩:=by simp [bI,bU,ho]
 have dA:=(List.getElem?_eq_some_iff.1 ho).1;have hc:gi (bI s [id]).length (bI s [id]) (e t)=.d (.sl ds):=by rw[he,gi,rE (aA:=aA) (live:=false) (sz:=sz) (by rw[XY];simp [dA]) hd hn (.inr rfl)];rfl
 have afp:l9 (bI s [id]) [t] e=ca e t (.d (.sl ds)):=by
  funext k;unfold l9 ca;by_cases hkt:k=t
  ·subst hkt;simp [hc]
  ·simp [hkt]
 have h1:=bO.freeze (L:=L) (e:=e) (s:=s) [id] [t];rw[afp]at h1;refine h1.trans (bO.cut bM hL ?_ jw bp ?_)
 ·rw[XY,List.take_set_of_le Qu,hs]
 ·rw[als]at hk ⊢;intro k sY;have:=hk k sY;simp only[Bool.or_eq_true,beq_iff_eq]at this;unfold ca;by_cases hkt:k=t
  ·rw[be hkt];rfl
  ·rw[ap hkt];exact this.resolve_left hkt
def lz (P:Program) (f:FuncId) (args:List V) (sz:Nat) (l:List (List D)):Prop :=
 av P f args [] λv s=>∃g,v=.so 0 g 0 l.length/\s=[⟨g,true,sz,l.map λc=>c.map V.d⟩]
theorem y7 (ρ:List Nat):∀c:List D,aI.go ρ (c.map V.d)=c.map V.d
 |[]=>rfl
 |x::c=>by simp only[ak8,aI.go,aI,y7 ρ c]
theorem Wj:((l.map λc=>c.map V.d).drop 0).take l.length=l.map (λc=>c.map V.d):=by rw[alV,aln aq]
theorem lz.pure (h:lz P f args sz l):aS P f args (.d (.sl l)):=by refine⟨h.1,λσ w vals hI hl hv=>(h.2 σ w vals hI hl hv).mono λe w' ⟨u,v,σ',s',h1,h2,h3,h4,g,h5,h6⟩=>?_⟩;subst h5 h6;have:=lk h3 (bM:=0) h4 (rE (aA:=l.map λc=>c.map V.d) (live:=true) (sz:=sz) rfl Wj aq (.inl (ale _)));exact⟨u,_,σ',[],h1,h2.take (bM:=0) (ale _),h3.take (bM:=0) eh,this,rfl,rfl⟩
theorem lz.call (h:lz P f args sz l) (ha:args=args.map (aI [])) (hr:ak.go 0 args=true)
  (hk:∀g,K (.so s.length g 0 l.length) (s++[⟨g,true,sz,l.map λc=>c.map V.d⟩])):av P f args s K:=by
 refine iG h [] rfl aq (λk o h=>by simp at h) ha hr rfl ?_;rintro v s' ⟨g,rfl,rfl⟩ _;have e1:aI (uO [] s [] [(⟨g,true,sz,l.map λc=>c.map V.d⟩:VL.Obj)]) (.so 0 g 0 l.length)=.so s.length g 0 l.length:=by simp [uO,aI]
 have e2:ba (uO [] s [] [(⟨g,true,sz,l.map λc=>c.map V.d⟩:VL.Obj)]) ⟨g,true,sz,l.map λc=>c.map V.d⟩=⟨g,true,sz,l.map λc=>c.map V.d⟩:=by unfold ba;congr 1;rw[alH];exact alK λc _=>y7 _ c
 rw[e1];simp only[alf,amj,alV,ak9,ak8,e2,aT];exact hk g
theorem lz.hole{k:Nat}{ob:VL.Obj} (h:lz P f args sz l) (ha:args=args.map (aI [])) (hr:ak.go 0 args=true) (hs:s[k]?=some ob)
  (hk:K (.so k (ob.g+1) 0 l.length) (s.set k ⟨ob.g+1,true,sz,l.map λc=>c.map V.d⟩)):av P f args s K:=by
 have h1:av P f args s λv s1=>∃g,v=.so s.length g 0 l.length/\s1=s++[⟨g,true,sz,l.map λc=>c.map V.d⟩]:=h.call ha hr λg=>⟨g,rfl,rfl⟩
 refine⟨h1.1,λσ w vals hI hl hv=>(h1.2 σ w vals hI hl hv).mono λe w' ⟨u,v,σ',s',k1,k2,k3,k4,g,k5,k6⟩=>?_⟩;exact ZaY
theorem Gk (bp:List Nat) (c:List D):fe.go bp (c.map V.d)=c.map V.d:=by rw[pN,alH];exact alK λx _=>rfl
theorem nZ{m:Nat} (ho:s[id]?=some ⟨g,true,sz,aA⟩) (he:aA=l.map λc=>c.map V.d) (hn:n=m) :
  xF 0 s (.so id g 0 n) λv s1=>∃g,v=.so 0 g 0 m/\s1=[⟨g,true,sz,l.map λc=>c.map V.d⟩]:=by
 have dA:=gN ho;refine⟨[id],?_,g,?_,?_⟩
 ·simp [Bv,dA]
 ·simp [fe,hn,List.idxOf?,List.findIdx?_cons]
 ·have hg:s.getD id hole=⟨g,true,sz,aA⟩:=by rw[List.getD,ho];rfl
  simp only[mH,ak8,ak9,hg,fZ,he,alH];congr 2;exact alK λc _=>Gk _ c
def Re.kX (re:Re):Bool:=decide (re.op=7\/re.op=8)
mutual
def Re.looks:Re->Nat
 |.mk op _ kids _ _ _ _ _=>(if op=7\/op=8 then 1 else 0)+Re.bd kids
def Re.bd:List Re->Nat
 |[]=>0
 |k::l=>k.looks+Re.bd l
end
mutual
def Re.bA:Re->Nat->D
 |.mk op set kids mn mx mode n neg,k=>.el [iD op,.sl (set.map aU),.sl (kids.map Re.cells),iD mn,iD mx,iD mode,iD n,bD neg,.sl (Re.ew kids (k+if op=7\/op=8 then 1 else 0)),iD k]
def Re.ew:List Re->Nat->List (List D)
 |[],_=>[]
 |x::l,k=>[x.bA k]::Re.ew l (k+x.looks)
end
theorem Re.jc (re:Re):re.looks=(if re.op=7\/re.op=8 then 1 else 0)+Re.bd re.kids:=by cases re;rfl
theorem Re.eL (re:Re) (k:Nat):re.bA k=.el [iD re.op,.sl (re.set.map aU),.sl (re.kids.map Re.cells),iD re.mn,iD re.mx,iD re.mode,iD re.n,bD re.neg,.sl (Re.ew re.kids (k+if re.op=7\/re.op=8 then 1 else 0)),iD k]:=by
 cases re;rfl
theorem Re.pS:∀(l:List Re) (k:Nat),(Re.ew l k).length=l.length
 |[],_=>rfl
 |x::l,k=>by simp [Re.ew,Re.pS l]
def dV (t:List Int) (root parts:D) (bg nb:Nat):VL.Obj:=⟨0,true,4,[[.d (ar t),.d root,.d parts,.so 1 bg 0 nb]]⟩
def fW (bg:Nat) (Bs:List (List Bool)):VL.Obj:=⟨bg,true,1,Bs.map λl=>[.d (.sl (l.map λb=>[bD b]))]⟩
theorem hU (n bg:Nat) (Bs:List (List Bool)):((fW bg Bs).aA.all λe=>e.all (ak n))=true:=by unfold fW;rw[als];intro e he;obtain⟨l,_,rfl⟩:=List.mem_map.1 he;rfl
theorem cA {e0 v:V}:xw e0 (.bx v)=.bx v:=(rfl)
theorem aV {id g i off b a:Nat}:eI (.pp id g i off b a)=some [.pp id g i off b a]:=rfl
theorem WD (l:List (Int×Int)) (x:Int) (hl:l.length<=1000000):aS Tryz.prog 66 [.d (.sl (l.map aU)),i64 x] (bV (yP l x)):=by
 refine br Tryz.func66 Tryz.ntmps66 Tryz.results66 0 979 ?_;simp only[zI,simprocAttr,ak4];refine ay (λn e s=>∃i:Nat,n=l.length-i/\i<=l.length/\e 1=i64 x/\e 7=.d (.sl (l.map aU))/\e 8=i64 l.length/\e 9=i64 i/\s=[]/\(l.take i).any (λs=>decide (s.1<=x)&&decide (x<=s.2))=false)
  ⟨_,_,_,bO.refl,0,rfl,ae,rfl,rfl,rfl,rfl,rfl,aq⟩ ?_
 rintro n e s ⟨i,rfl,hi,h1,h7,h8,h9,rfl,iL⟩;rcases alw i l.length with aE|gE
 ·obtain⟨k,hk⟩:∃k,l[i]?=some k:=cb aE;have aH:(i:Int)<l.length:=ae;have hm:=List.mem_of_getElem? hk;by_cases c1:k.1<=x
  ·by_cases c2:x<=k.2
   ·simp only[zQ,simprocAttr,aU,h1,h7,h8,h9,aH,hk,c1,c2];have:yP l x=true:=List.any_eq_true.2 ⟨k,hm,by simp [c1,c2]⟩;rw[this]
   ·simp only[zQ,simprocAttr,aU,h1,h7,h8,h9,aH,hk,c1,c2];refine⟨l.length-(i+1),_,_,ae,bO.cut (s':=[]) 0 ae rfl rfl [1,7,8,9] (by simp [ca,aZ,ak,h1,h7,h8,h9,i64]),i+1,rfl,aE,?_,?_,?_,?_,rfl,by rw[bn hk,List.any_append,iL];simp [c2]⟩ <;> (try simp only[zU,Ft,qa,qe,Fp,reduceIte])
    ·exact h1
    ·exact h7
    ·exact h8
    ·rw[bK _ ae];rfl
  ·simp only[zQ,simprocAttr,aU,h1,h7,h8,h9,aH,hk,c1];refine⟨l.length-(i+1),_,_,ae,bO.cut (s':=[]) 0 ae rfl rfl [1,7,8,9] (by simp [ca,aZ,ak,h1,h7,h8,h9,i64]),i+1,rfl,aE,?_,?_,?_,?_,rfl,by rw[bn hk,List.any_append,iL];simp [c1]⟩ <;> (try simp only[zU,Ft,qa,qe,Fp,reduceIte])
   ·exact h1
   ·exact h7
   ·exact h8
   ·rw[bK _ ae];rfl
 ·have eg:i=l.length:=by omega
  subst eg;have aH:¬(l.length:Int)<l.length:=ae;rw[alr]at iL;simp only[zQ,simprocAttr,h1,h7,h8,h9,aH];have:yP l x=false:=iL;rw[this]
theorem O3 (x:Int):aS prog 138 [i64 x] (bV (tQ x)):=by
 refine br func138 ntmps138 results138 0 5 ?_;exact ZaO
theorem acM (l:List (Int×Int)) (x:Int) (hl:l.length<=1000000000):aS prog 129 [.d (.sl (l.map aU)),i64 x] (bV (yP l x)):=by
 refine br func129 ntmps129 results129 0 51 ?_;simp only[zX,simprocAttr,i64];refine ay (λn e s=>∃i:Nat,n=l.length-i/\i<=l.length/\e 0=.d (.sl (l.map aU))/\e 1=i64 x/\e 5=i64 i/\s=[]/\yP (l.take i) x=false)
  ⟨_,_,_,bO.refl,0,rfl,ae,rfl,rfl,rfl,rfl,rfl⟩ ?_
 rintro n e s ⟨i,rfl,hi,h0,h1,h5,rfl,iL⟩;rcases alw i l.length with aE|gE
 ·obtain⟨y,hy⟩:∃y,l[i]?=some y:=cb aE;have hm:=List.mem_of_getElem? hy;have abf:decide (y.1<=x)=true->decide (x<=y.2)=true->yP l x=true:=λh1 h2=>by unfold yP;rw[List.any_eq_true];exact⟨y,hm,by rw[h1,h2];rfl⟩
  have adf:¬(y.1<=x/\x<=y.2)->yP (l.take (i+1)) x=false:=λh=>by
   rw[bn hy];unfold yP at iL ⊢;rw[List.any_append,iL];have:(decide (y.1<=x)&&decide (x<=y.2))=false:=by rw[alP];intro hc;simp only[alo,decide_eq_true_eq]at hc;exact h hc
   simp [this]
  by_cases c1:y.1<=x
  ·by_cases c2:x<=y.2
   ·rw[abf (bi c1) (bi c2)];simp only[zI,simprocAttr,h0,h1,h5,aE,hy,aU,iD,c1,c2];all_goals exact dX
   ·simp only[zI,simprocAttr,h0,h1,h5,aE,hy,aU,iD,c1,c2];refine⟨l.length-(i+1),_,_,ae,bO.refl,i+1,rfl,aE,?_,?_,?_,rfl,adf (λh=>c2 h.2)⟩ <;> (try simp only[zU,Ft,qa,qe,Fp,reduceIte])
    ·exact h0
    ·exact h1
    ·rw[bK _ ae];rfl
  ·simp only[zI,simprocAttr,h0,h1,h5,aE,hy,aU,iD,c1];refine⟨l.length-(i+1),_,_,ae,bO.refl,i+1,rfl,aE,?_,?_,?_,rfl,adf (λh=>c1 h.1)⟩ <;> (try simp only[zU,Ft,qa,qe,Fp,reduceIte])
   ·exact h0
   ·exact h1
   ·rw[bK _ ae];rfl
 ·have eg:i=l.length:=by omega
  subst eg;rw[alr]at iL;rw[iL];simp only[zI,simprocAttr,h0,h1,h5,al5];all_goals exact dX
theorem nK {t:List Int}{i:Int} (h0:0<=i) (h1:i<t.length):t[i.toNat]?=some (lK t i):=by unfold lK;rw[List.getElem?_eq_getElem ae];simp [List.getD,List.getElem?_eq_getElem (show i.toNat<t.length by omega)]
theorem TQ (n:Int) (t:List Int) (i:Int) (ht:t.length<=1000000) (h0:0<=i) (h1:i<=t.length):aS prog 132 [i64 n,.d (ar t),i64 i] (bV (bY n t i)):=by
 have w1:IntKind.i64.wrap (i-1)=i-1:=bK _ ae;have hw:=O3 (lK t (i-1));have Y2:=O3 (lK t i);simp only[i64,bV]at hw Y2;have mV:(n=0)\/(¬n=0/\n=1)\/(¬n=0/\¬n=1/\n=2)\/(¬n=0/\¬n=1/\¬n=2/\n=3)\/(¬n=0/\¬n=1/\¬n=2/\¬n=3/\n=4)\/(¬n=0/\¬n=1/\¬n=2/\¬n=3/\¬n=4):=ae;have hg1:0<i->t[(i-1).toNat]?=some (lK t (i-1)):=λh=>nK ae ae;have hg2:i<t.length->t[i.toNat]?=some (lK t i):=λh=>nK h0 h;by_cases c1:0<i
 ·by_cases c2:i<(t.length:Int)
  ·have hl:qo t i=tQ (lK t (i-1)):=by simp [qo,c1]
   have hr:mf t i=tQ (lK t i):=by simp [mf,c2]
   have b1:0<=i-1:=ae;have b2:i-1<(t.length:Int):=ae;have g1:=hg1 c1;have n0:¬i=0:=ae;have uZ:decide (i=0)=false:=ce n0;have g2:=hg2 c2;have n1:¬i=(t.length:Int):=ae;have qg:decide (i=(t.length:Int))=false:=ce n1;refine br func132 ntmps132 results132 0 1073742279 ?_;simp only[zI,simprocAttr,iD,ar,c1,c2,w1,gt_iff_lt,h0,g1,b1,b2,g2];refine dk hw ?_;simp only[zI,simprocAttr,iD,ar,c1,c2,w1,gt_iff_lt,h0,g1,b1,b2,g2];refine dk Y2 ?_;rcases mV with a|⟨a,b⟩|⟨a,b,c⟩|⟨a,b,c,d⟩|⟨a,b,c,d,f⟩|⟨a,b,c,d,f⟩
   ·simp only[zI,simprocAttr,iD,ar,c1,c2,w1,gt_iff_lt,h0,g1,b1,b2,g2,n0,n1,a];all_goals (simp only[bY,a,hl,hr,uZ,qg,bV,FD,if_true,if_false,reduceIte,alE,alB];try rfl)
   ·simp only[zI,simprocAttr,iD,ar,c1,c2,w1,gt_iff_lt,h0,g1,b1,b2,g2,n0,n1,a,b];all_goals (simp only[bY,a,b,hl,hr,uZ,qg,bV,FD,if_true,if_false,reduceIte,alE,alB];try rfl)
   ·simp only[zI,simprocAttr,iD,ar,c1,c2,w1,gt_iff_lt,h0,g1,b1,b2,g2,n0,n1,a,b,c];all_goals (simp only[bY,a,b,c,hl,hr,uZ,qg,bV,FD,if_true,if_false,reduceIte,alE,alB];try rfl)
   ·simp only[zI,simprocAttr,iD,ar,c1,c2,w1,gt_iff_lt,h0,g1,b1,b2,g2,n0,n1,a,b,c,d];all_goals (simp only[bY,a,b,c,d,hl,hr,uZ,qg,bV,FD,if_true,if_false,reduceIte,alE,alB];try rfl)
   ·exact ZbE
   ·exact ZbE
  ·have hl:qo t i=tQ (lK t (i-1)):=by simp [qo,c1]
   have hr:mf t i=false:=by simp [mf,c2]
   have b1:0<=i-1:=ae;have b2:i-1<(t.length:Int):=ae;have g1:=hg1 c1;have n0:¬i=0:=ae;have uZ:decide (i=0)=false:=ce n0;have n1:i=(t.length:Int):=ae;have qg:decide (i=(t.length:Int))=true:=bi n1;refine br func132 ntmps132 results132 0 1073742279 ?_;simp only[zI,simprocAttr,iD,ar,c1,c2,w1,gt_iff_lt,h0,g1,b1,b2];refine dk hw ?_;simp only[zI,simprocAttr,iD,ar,c1,c2,w1,gt_iff_lt,h0,g1,b1,b2];have e1:(i=(t.length:Int))=True:=eq_true n1;rcases mV with a|⟨a,b⟩|⟨a,b,c⟩|⟨a,b,c,d⟩|⟨a,b,c,d,f⟩|⟨a,b,c,d,f⟩
   ·simp only[zI,simprocAttr,iD,ar,c1,c2,w1,gt_iff_lt,h0,g1,b1,b2,n0,e1,a];all_goals (simp only[bY,a,hl,hr,uZ,qg,bV,FD,if_true,if_false,reduceIte,alE,alB];try rfl)
   ·simp only[zI,simprocAttr,iD,ar,c1,c2,w1,gt_iff_lt,h0,g1,b1,b2,n0,e1,a,b];all_goals (simp only[bY,a,b,hl,hr,uZ,qg,bV,FD,if_true,if_false,reduceIte,alE,alB];try rfl)
   ·simp only[zI,simprocAttr,iD,ar,c1,c2,w1,gt_iff_lt,h0,g1,b1,b2,n0,e1,a,b,c];all_goals (simp only[bY,a,b,c,hl,hr,uZ,qg,bV,FD,if_true,if_false,reduceIte,alE,alB];try rfl)
   ·simp only[zI,simprocAttr,iD,ar,c1,c2,w1,gt_iff_lt,h0,g1,b1,b2,n0,e1,a,b,c,d];all_goals (simp only[bY,a,b,c,d,hl,hr,uZ,qg,bV,FD,if_true,if_false,reduceIte,alE,alB];try rfl)
   ·exact ZbJ
   ·exact ZbJ
 ·by_cases c2:i<(t.length:Int)
  ·have hl:qo t i=false:=by simp [qo,c1]
   have hr:mf t i=tQ (lK t i):=by simp [mf,c2]
   have n0:i=0:=ae;have uZ:decide (i=0)=true:=bi n0;have g2:=hg2 c2;have n1:¬i=(t.length:Int):=ae;have qg:decide (i=(t.length:Int))=false:=ce n1;refine br func132 ntmps132 results132 0 1073742279 ?_;simp only[zI,simprocAttr,iD,ar,c1,c2,w1,gt_iff_lt,h0,g2];refine dk Y2 ?_;have e0:(i=0)=True:=eq_true n0;rcases mV with a|⟨a,b⟩|⟨a,b,c⟩|⟨a,b,c,d⟩|⟨a,b,c,d,f⟩|⟨a,b,c,d,f⟩
   ·simp only[zI,simprocAttr,iD,ar,c1,c2,w1,gt_iff_lt,h0,g2,n1,e0,a];all_goals (simp only[bY,a,hl,hr,uZ,qg,bV,FD,if_true,if_false,reduceIte,alE,alB];try rfl)
   ·simp only[zI,simprocAttr,iD,ar,c1,c2,w1,gt_iff_lt,h0,g2,n1,e0,a,b];all_goals (simp only[bY,a,b,hl,hr,uZ,qg,bV,FD,if_true,if_false,reduceIte,alE,alB];try rfl)
   ·simp only[zI,simprocAttr,iD,ar,c1,c2,w1,gt_iff_lt,h0,g2,n1,e0,a,b,c];all_goals (simp only[bY,a,b,c,hl,hr,uZ,qg,bV,FD,if_true,if_false,reduceIte,alE,alB];try rfl)
   ·simp only[zI,simprocAttr,iD,ar,c1,c2,w1,gt_iff_lt,h0,g2,n1,e0,a,b,c,d];all_goals (simp only[bY,a,b,c,d,hl,hr,uZ,qg,bV,FD,if_true,if_false,reduceIte,alE,alB];try rfl)
   ·exact ZbN
   ·exact ZbN
  ·have hl:qo t i=false:=by simp [qo,c1]
   have hr:mf t i=false:=by simp [mf,c2]
   have n0:i=0:=ae;have uZ:decide (i=0)=true:=bi n0;have n1:i=(t.length:Int):=ae;have qg:decide (i=(t.length:Int))=true:=bi n1;refine br func132 ntmps132 results132 0 1073742279 ?_;simp only[zI,simprocAttr,iD,ar,c1,c2,w1,gt_iff_lt,h0];have e0:(i=0)=True:=eq_true n0;have e1:(i=(t.length:Int))=True:=eq_true n1;rcases mV with a|⟨a,b⟩|⟨a,b,c⟩|⟨a,b,c,d⟩|⟨a,b,c,d,f⟩|⟨a,b,c,d,f⟩
   ·simp only[zI,simprocAttr,iD,ar,c1,c2,w1,gt_iff_lt,h0,e0,e1,a];all_goals (simp only[bY,a,hl,hr,uZ,qg,bV,FD,if_true,if_false,reduceIte,alE,alB];try rfl)
   ·simp only[zI,simprocAttr,iD,ar,c1,c2,w1,gt_iff_lt,h0,e0,e1,a,b];all_goals (simp only[bY,a,b,hl,hr,uZ,qg,bV,FD,if_true,if_false,reduceIte,alE,alB];try rfl)
   ·simp only[zI,simprocAttr,iD,ar,c1,c2,w1,gt_iff_lt,h0,e0,e1,a,b,c];all_goals (simp only[bY,a,b,c,hl,hr,uZ,qg,bV,FD,if_true,if_false,reduceIte,alE,alB];try rfl)
   ·simp only[zI,simprocAttr,iD,ar,c1,c2,w1,gt_iff_lt,h0,e0,e1,a,b,c,d];all_goals (simp only[bY,a,b,c,d,hl,hr,uZ,qg,bV,FD,if_true,if_false,reduceIte,alE,alB];try rfl)
   ·exact ZbP
   ·exact ZbP
section mono
variable {rec rec':Int->Task->bE->Option (Bool×bE)} (h:∀m task st r,rec m task st=some r->rec' m task st=some r)
variable{c:aC}{st:bE}{i:Int}{ai:Int}{r:Bool×bE}{next:Goal}{t:List Int}{fuel:Int}
include h
theorem iR {g:Goal}{r:Option (Int×aC)×bE} (hr:cY rec g i c st=some r):cY rec' g i c st=some r:=by
 unfold cY at hr ⊢;cases hx:rec 1 (.run g i c) ⟨st.steps,false,[],[]⟩ with
 |none=>rw[hx]at hr;cases hr
 |some x=>rw[hx]at hr;rw[h _ _ _ _ hx];exact hr
omit h in
theorem vl {a a':Option (Bool×bE)}{k k':bE->Option (Bool×bE)} (h1:∀r,a=some r->a'=some r) (h2:∀s r,k s=some r->k' s=some r) {r:Bool×bE} (hr:xc a k=some r):xc a' k'=some r:=by
 cases a with
 |none=>cases hr
 |some x =>
  rw[h1 x rfl];obtain⟨b,s⟩:=x;cases b with
  |true=>exact hr
  |false=>exact h2 s r hr
omit h in
theorem sk {f f':Int->bE->Option (Option (Int×aC)×bE)} (hf:∀k st r,f k st=some r->f' k st=some r):∀(n:Nat) (st:bE) (r:Option aC×bE),dT f n st=some r->dT f' n st=some r
 |0,_,_,hr=>hr
 |n+1,st,r,hr=>by
  simp only[dT]at hr ⊢;by_cases he:st.empty=true
  ·exact ZcU
  ·rw[ap he]at hr ⊢;cases hx:f n st with
   |none=>rw[hx]at hr;cases hr
   |some x =>
    rw[hx]at hr;rw[hf _ _ _ hx];obtain⟨o,s⟩:=x;cases o with
    |none=>exact sk hf n s r hr
    |some p=>exact hr
theorem yv {op:Int}{aJ:Re}{r:Option aC×bE} (hr:oq rec op aJ i c st=some r):oq rec' op aJ i c st=some r:=by
 unfold oq at hr ⊢;by_cases o:op=7
 ·rw[be o]at hr ⊢;cases hx:cY rec (.mk 0 aJ 0 0 .nil) i c st with
  |none=>rw[hx]at hr;cases hr
  |some x=>rw[hx]at hr;rw[iR h hx];exact hr
 ·rw[ap o]at hr ⊢;exact sk (λk st r hr=>iR h hr) _ _ _ hr
omit h in
theorem AZ {f f':Re->bE->Option (Bool×bE)} (hf:∀k st r,f k st=some r->f' k st=some r):∀(l:List Re) (st:bE) (r:Bool×bE),uD f l st=some r->uD f' l st=some r
 |[],_,_,hr=>hr
 |k::l,st,r,hr=>by simp only[uD]at hr ⊢;exact vl (hf k st) (AZ hf l) hr
theorem Nu{re:Re} (hr:fA t rec ai re next i c st=some r):fA t rec' ai re next i c st=some r:=by
 unfold fA at hr ⊢;by_cases o1:re.op=1
 ·rw[be o1]at hr ⊢;by_cases hc:i<t.length/\yP re.set (lK t i)=true
  ·rw[be hc]at hr ⊢;exact h _ _ _ _ hr
  ·rw[ap hc]at hr ⊢;exact hr
 rw[ap o1]at hr ⊢;by_cases o2:re.op=2
 ·rw[be o2]at hr ⊢;exact h _ _ _ _ hr
 rw[ap o2]at hr ⊢;by_cases o3:re.op=3
 ·rw[be o3]at hr ⊢;exact AZ (λk st r hr=>h _ _ _ _ hr) _ _ _ hr
 rw[ap o3]at hr ⊢;by_cases o5:re.op=5
 ·rw[be o5]at hr ⊢;cases hk:re.kids with
  |nil=>rw[hk]at hr;cases hr
  |cons k l=>rw[hk]at hr;exact h _ _ _ _ hr
 rw[ap o5]at hr ⊢;by_cases o6:re.op=6
 ·rw[be o6]at hr ⊢;simp only at hr ⊢;by_cases c1:(ct c re.n).1<0
  ·rw[be c1]at hr ⊢;exact hr
  rw[ap c1]at hr ⊢;by_cases c2:(ct c re.n).2<(ct c re.n).1\/(t.length:Int)<(ct c re.n).2
  ·rw[be c2]at hr;cases hr
  rw[ap c2]at hr ⊢;by_cases c3:t.length<i+(ct c re.n).2-(ct c re.n).1
  ·rw[be c3]at hr ⊢;exact hr
  rw[ap c3]at hr ⊢;by_cases c4:jv t (ct c re.n).1 i ((ct c re.n).2-(ct c re.n).1).toNat=true
  ·rw[be c4]at hr ⊢;exact h _ _ _ _ hr
  ·rw[ap c4]at hr ⊢;exact hr
 rw[ap o6]at hr ⊢;by_cases o7:re.op=7\/re.op=8
 ·rw[be o7]at hr ⊢;cases hk:re.kids with
  |nil=>rw[hk]at hr;cases hr
  |cons k l =>
   rw[hk]at hr;simp only at hr ⊢;cases hx:oq rec re.op k i c st with
   |none=>rw[hx]at hr;cases hr
   |some x =>
    rw[hx]at hr;rw[yv h hx];obtain⟨o,s⟩:=x;simp only at hr ⊢;by_cases he:s.empty=true
    ·exact ZcU
    rw[ap he]at hr ⊢;by_cases hn:re.neg=true
    ·rw[be hn]at hr ⊢;cases o with
     |none=>exact h _ _ _ _ hr
     |some d=>exact hr
    ·rw[ap hn]at hr ⊢;exact Zce
 rw[ap o7]at hr ⊢;by_cases o9:re.op=9
 ·rw[be o9]at hr ⊢;cases hk:re.kids with
  |nil=>rw[hk]at hr;cases hr
  |cons k l =>
   rw[hk]at hr;simp only at hr ⊢;cases hx:cY rec (.mk 0 k 0 0 .nil) i c st with
   |none=>rw[hx]at hr;cases hr
   |some x =>
    rw[hx]at hr;rw[iR h hx];obtain⟨o,s⟩:=x;simp only at hr ⊢;by_cases he:s.empty=true
    ·exact ZcU
    rw[ap he]at hr ⊢;exact Zce
 rw[ap o9]at hr ⊢;by_cases yL:re.op=10
 ·rw[be yL]at hr ⊢
  match hk:re.kids with
  |[]=>rw[hk]at hr;cases hr
  |[_]=>rw[hk]at hr;cases hr
  |a::b::l=>rw[hk]at hr;exact h _ _ _ _ hr
 rw[ap yL]at hr ⊢;by_cases mZ:re.op=11
 ·rw[be mZ]at hr ⊢;by_cases hc:bY re.n t i=true
  ·rw[be hc]at hr ⊢;exact h _ _ _ _ hr
  ·rw[ap hc]at hr ⊢;exact hr
 rw[ap mZ]at hr ⊢;exact h _ _ _ _ hr
theorem QZ{re:Re}{k:Int} (hr:sO fuel rec ai re k next i c st=some r):sO fuel rec' ai re k next i c st=some r:=by
 unfold sO at hr ⊢;by_cases m:re.mode=2
 ·rw[be m]at hr ⊢;cases hx:cY rec (.mk 1 (re.dJ 0) 0 0 .nil) i c st with
  |none=>rw[hx]at hr;cases hr
  |some x =>
   rw[hx]at hr;rw[iR h hx];obtain⟨o,s⟩:=x;exact Zce
 rw[ap m]at hr ⊢;by_cases c1:st.steps<0\/10000000000000<st.steps
 ·rw[be c1]at hr;cases hr
 rw[ap c1]at hr ⊢;simp only at hr ⊢;by_cases he:(st.step fuel).empty=true
 ·exact ZcU
 rw[ap he]at hr ⊢;cases hk:re.kids with
 |nil=>rw[hk]at hr;cases hr
 |cons aJ l =>
  rw[hk]at hr;simp only at hr ⊢;by_cases c2:k<re.mn
  ·rw[be c2]at hr ⊢;exact h _ _ _ _ hr
  rw[ap c2]at hr ⊢;by_cases c3:re.mx=-1\/k<re.mx
  ·simp only[be c3]at hr ⊢;by_cases c4:re.mode=1
   ·rw[be c4]at hr ⊢;exact Zdx
   ·rw[ap c4]at hr ⊢;exact Zdx
  ·simp only[ap c3]at hr ⊢;by_cases c4:re.mode=1
   ·rw[be c4]at hr ⊢;exact vl (λr hr=>h _ _ _ _ hr) (λs r hr=>hr) hr
   ·rw[ap c4]at hr ⊢;exact vl (λr hr=>hr) (λs r hr=>h _ _ _ _ hr) hr
theorem Le{task:Task} (hr:cw t fuel rec ai task st=some r):cw t fuel rec' ai task st=some r:=by
 cases task with
 |run g i c =>
  simp only[cw]at hr ⊢;by_cases hi:i<0\/(t.length:Int)<i
  ·rw[be hi]at hr;cases hr
  rw[ap hi]at hr ⊢;cases g with
  |nil=>exact hr
  |mk kind re k fi next =>
   simp only at hr ⊢;by_cases k1:kind=1
   ·rw[be k1]at hr ⊢;exact h _ _ _ _ hr
   rw[ap k1]at hr ⊢;by_cases k2:kind=2
   ·rw[be k2]at hr ⊢;by_cases c1:re.mn<=k/\i=fi
    ·rw[be c1]at hr ⊢;exact hr
    rw[ap c1]at hr ⊢;by_cases c2:k<0\/10000000000000<k
    ·rw[be c2]at hr;cases hr
    rw[ap c2]at hr ⊢;exact h _ _ _ _ hr
   rw[ap k2]at hr ⊢;by_cases k3:kind=3
   ·rw[be k3]at hr ⊢;by_cases c1:1000000000<c.length
    ·rw[be c1]at hr;cases hr
    rw[ap c1]at hr ⊢;exact h _ _ _ _ hr
   rw[ap k3]at hr ⊢;by_cases k4:kind=4
   ·rw[be k4]at hr ⊢;by_cases c1:i=fi
    ·rw[be c1]at hr ⊢;exact h _ _ _ _ hr
    ·rw[ap c1]at hr ⊢;exact hr
   rw[ap k4]at hr ⊢;exact h _ _ _ _ hr
 |rep g i c =>
  simp only[cw]at hr ⊢;by_cases hi:i<0\/(t.length:Int)<i
  ·rw[be hi]at hr;cases hr
  rw[ap hi]at hr ⊢;cases g with
  |nil=>cases hr
  |mk kind re k fi next=>exact QZ h hr
 |node g i c =>
  simp only[cw]at hr ⊢;by_cases hi:i<0\/(t.length:Int)<i
  ·rw[be hi]at hr;cases hr
  rw[ap hi]at hr ⊢;cases g with
  |nil=>cases hr
  |mk kind re k fi next =>
   simp only at hr ⊢;by_cases o4:re.op=4
   ·rw[be o4]at hr ⊢;exact h _ _ _ _ hr
   rw[ap o4]at hr ⊢;by_cases c0:1000000000<re.set.length\/1000000000<re.kids.length\/1000000000<c.length
   ·rw[be c0]at hr;cases hr
   rw[ap c0]at hr ⊢;by_cases c1:st.steps<0\/10000000000000<st.steps
   ·rw[be c1]at hr;cases hr
   rw[ap c1]at hr ⊢;by_cases he:(st.step fuel).empty=true
   ·exact ZcU
   rw[ap he]at hr ⊢;exact Nu h hr
end mono
variable{fuel:Int}{task:Task}{r:Bool×bE}{n':Nat}{t:List Int}
theorem MT {t:List Int}{fuel:Int}:∀(n:Nat) (m:Int) (task:Task) (st:bE) (r:Bool×bE),eK t fuel n m task st=some r->eK t fuel (n+1) m task st=some r
 |0,_,_,_,_,hr=>by cases hr
 |n+1,m,task,st,r,hr=>Le (rec:=eK t fuel n) (λm task st r hr=>MT n m task st r hr) hr
theorem eP{n:Nat} (hn:n<=n') {m:Int}{st:bE} (hr:eK t fuel n m task st=some r):eK t fuel n' m task st=some r:=by
 induction hn with
 |refl=>exact hr
 |step _ ih=>exact MT _ _ _ _ _ ih
theorem Wy{n:Nat}{m:Int}{st:bE}{r':Bool×bE} (h1:eK t fuel n m task st=some r) (h2:eK t fuel n' m task st=some r'):r=r':=by have e1:=eP (amA n n') h1;have e2:=eP (amy n n') h2;rw[e1]at e2;exact amx e2
end Go.Proofs.YtjjfioalgbecmaaGreat
