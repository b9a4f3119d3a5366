/- A part of the proof (Vz Vza Vzb Vzc Vzd Vze). -/
import Derived.Test.YtfmdmlfhigocaaaON13
set_option linter.unusedSimpArgs false
set_option linter.unusedVariables false
set_option maxRecDepth 100000
set_option maxHeartbeats 80000000
namespace Go.VL
variable{f:FuncId}{s:List Obj}{P:Program}{args:List V}{K:V->List Obj->Prop}{w:World}{cs:List D}{ex:List D}
theorem cH (ρ:List Nat) {cargs:List V}{exts zt:List Obj}{r r':V} (h:aq P f cargs exts λv s'=>v=r/\s'=zt) (rR:ρ.Nodup) (hl:zt.length=exts.length)
  (hs:ρ.map (λi=>s[i]?)=exts.map (λo=>some (aT ρ o))) (ha:args=cargs.map (aL ρ)) (DC:ah.go exts.length cargs=true) (wE:exts.all (aG exts.length)=true) (hr:aL ρ r=r') (hk:K r' (aE s ρ (zt.map (aT ρ)))):aq P f args s K:=by
 have hρ:ρ.length=exts.length:=by simpa using congrArg List.length hs
 refine vM h ρ hρ rR (λk o ho=>?_) ha DC wE λv s' hv=>?_
 ·have h1:=congrArg (λl=>l[k]?) hs;simp only[afO,ho,afV]at h1;have hk:k<ρ.length:=by rw[hρ];exact(List.getElem?_eq_some_iff.1 ho).1
  rw[afP hk]at h1;simp only[afV,afY]at h1;simpa [List.getD,afP hk]using h1
 ·obtain⟨rfl,rfl⟩:=hv;exact⟨hl,by rw[hr];exact hk⟩
theorem JK{s1:List Obj}{r:V}{rd wr:List Nat} (h:aq P f args s λv s'=>v=r/\s'=s1) (RT:∀i,i<s.length->i∈rd) (Zn:s1.length=wr.length)
  (hwr:aE s wr s1=s1) (hk:K r s1):EJ P rd wr f args s K:=by
 refine⟨r,s1,Zn,λs' hl hs=>?_,by rw[hwr];exact hk⟩;have e:s'=s:=by
  apply agT;intro i;rcases agi i s.length with hi|hi
  ·exact hs i (RT i hi)
  ·rw[agG (by omega),agG hi]
 subst e;rw[hwr];exact h
theorem cJ.Si {O:Nat->Prop}{u:Value} (h:cJ O w (.el (cs++ex)) u):cJ O w (.el cs) u:=by
 generalize hd:D.el (cs++ex)=x at h;cases h with
 |el Wl a f h1 h2 h3 =>
  cases hd;exact .el cs a f h1 (λj x hx=>h2 j x (by rw[af2 (List.getElem?_eq_some_iff.1 hx).1];exact hx)) (λj x hx=>h3 j x (by rw[af2 (List.getElem?_eq_some_iff.1 hx).1];exact hx))
 |_=>cases hd
theorem Nq (h:aq P f (.d (.el cs)::args) s K):aq P f (.d (.el (cs++ex))::args) s K:=by
 refine⟨h.1,λσ w vals hI hl hv=>h.2 σ w vals hI (by simpa using hl) λi x hx=>?_⟩;cases i with
 |zero =>
  simp at hx;subst hx;have:=hv 0 _ rfl;generalize vals.getD 0 undef=u at this ⊢;cases this with|d hd=>exact .d hd.Si
 |succ i=>exact hv (i+1) x (by simpa using hx)
theorem yK {σ:Gh} (hI:Inv σ s w) {k:Nat}{o:Obj}{els':List (List V)} (ho:s[k]?=some o) (hlen:∀e∈els',e.length=o.sz) (GM:els'.length=o.aw.length) (Pf:∀es,o.aw≠eR es)
  (h:∀(i j:Nat) (x':V),(els'[i]?.bind (·[j]?))=some x'->∃x,(o.aw[i]?.bind (·[j]?))=some x/\∀u,aA σ s w x u->aA σ s w x' u) :
  aF σ s w σ (s.set k { o with aw:=els' }) w/\Inv σ (s.set k { o with aw:=els' }) w:=by
 have hk:=(List.getElem?_eq_some_iff.1 ho).1;have get:∀(id:Nat) (o':Obj),(s.set k { o with aw:=els' })[id]?=some o'->∃o1,s[id]?=some o1/\o1.live=o'.live/\o1.g=o'.g/\o1.sz=o'.sz:=by
  intro id o' h';rw[List.getElem?_set]at h';split at h'
  ·rename_i he;subst he;try rw[be hk]at h'
   simp only[afY]at h';subst h';exact⟨o,ho,rfl,rfl,rfl⟩
  ·exact⟨o',h',rfl,rfl,rfl⟩
 have put:∀(id:Nat) (o1:Obj),s[id]?=some o1->∃o',(s.set k { o with aw:=els' })[id]?=some o'/\o'.g=o1.g/\o'.sz=o1.sz/\o'.live=o1.live:=by
  intro id o1 h';rw[List.getElem?_set];split
  ·rename_i he;subst he;rw[ho]at h';simp only[afY]at h';subst h';first|exact⟨_,rfl,rfl,rfl,rfl⟩|exact⟨_,by rw[be hk],rfl,rfl,rfl⟩
  ·exact⟨o1,h',rfl,rfl,rfl⟩
 have hE:aF σ s w σ (s.set k { o with aw:=els' }) w:=by
  refine⟨rfl,rfl,rfl,af3 _,λ_ _ _=>rfl,λ_ arr _ _ h=>⟨arr,h,rfl⟩,λ_ _ h=>h,?_,?_,rfl,λ_ _ _=>rfl⟩
  ·rintro b (hb|⟨id,o',base,h1,h2,h3⟩)
   ·exact .inl (.inl hb)
   ·obtain⟨o1,k1,k2,_⟩:=get id o' h1;exact .inl (.inr ⟨id,o1,base,k1,by rw[k2];exact h2,h3⟩)
  ·intro id o1 h1;obtain⟨o',k1,k2,k3,_⟩:=put id o1 h1;exact⟨o',k1,by omega,λ_=>⟨k3,rfl⟩⟩
 refine⟨hE,⟨?_,?_,hI.low,?_⟩⟩
 ·intro id o' h1;by_cases he:id=k
  ·subst he;rw[agc hk]at h1;simp only[afY]at h1;subst h1;rcases hI.content id o ho with (⟨c1,c2⟩|⟨b,es,c,c1,c2,c3⟩)|⟨b,base,arr,E,c1,c2,c3,c4,c5⟩
   ·left;exact .inl ⟨c1,ago (by show els'.length=0;rw[GM,c2];rfl)⟩
   ·exact(Pf es c3).elim
   ·right;refine⟨b,base,arr,E,c1,c2,hlen,by show base+els'.length*o.sz<=arr.size;rw[GM];exact c4,λi j x' hx=>?_⟩;obtain⟨x,y1,y2⟩:=h i j x' hx;obtain⟨u,z1,z2,z3⟩:=c5 i j x y1;exact⟨u,z1,z2,(y2 u z3).aX hE⟩
  ·rw[agp (Ne.symm he)]at h1;rcases hI.content id o' h1 with c|⟨b,base,arr,E,c1,c2,c3,c4,c5⟩
   ·exact .inl c
   ·right;refine⟨b,base,arr,E,c1,c2,c3,c4,λi j x hx=>?_⟩;obtain⟨u,z1,z2,z3⟩:=c5 i j x hx;exact⟨u,z1,z2,z3.aX hE⟩
 ·intro id kN o1 o2 b base bI h1 h2 h3 h4 h5;obtain⟨p1,q1,q2,_⟩:=get id o1 h1;obtain⟨p2,r1,_⟩:=get kN o2 h2;exact hI.inj id kN p1 p2 b base bI q1 r1 (by rw[q2];exact h3) h4 h5
 ·intro id o1 b base h1 h2;obtain⟨p1,q1,_⟩:=get id o1 h1;exact hI.apart id p1 b base q1 h2
theorem g9{o:Obj}{pre post:List V} (k sz:Nat) (ho:s[k]?=some o) (fP:o.aw=[pre++.fu []::post]) (fF:pre.length+1+post.length=o.sz)
  (h:aq P f args (s.set k { o with aw:=[pre++.so s.length 0 0 0::post] }++[⟨0,true,sz,[]⟩]) K):aq P f args s K:=by
 refine⟨h.1,λσ w vals hI hl hv=>?_⟩;have hk:=(List.getElem?_eq_some_iff.1 ho).1;have hp:=mK (p:=none) (o':=⟨0,true,sz,[]⟩) (w':=w) hI rfl rfl rfl (af3 _) (λ_ _=>rfl) (λ_ _ h'=>by cases h') (λ_=>.inl (.inl ⟨rfl,rfl⟩));have PH:(s++[(⟨0,true,sz,[]⟩:Obj)])[k]?=some o:=by rw[af2 hk];exact ho
 have hr:=yK hp.2 (els':=[pre++.so s.length 0 0 0::post]) PH (by intro e he;rw[List.mem_singleton.1 he];simp;omega) (by rw[fP];rfl) (by
  intro es he;rw[fP]at he;have hm:(pre++.fu []::post)∈eR es:=by rw[<- he];exact List.mem_singleton.2 rfl
  unfold eR at hm;obtain⟨x,_,hx⟩:=List.mem_map.1 hm;have hf:V.fu []∈[V.d (.sc x.key),V.d (.sc x.val)]:=by rw[hx];simp
  simp at hf) (λi j x' hx=>by
  rw[fP];cases i with
  |succ i=>simp at hx
  |zero =>
   simp only[agm,agE]at hx ⊢;by_cases hj:j=pre.length
   ·subst hj;rw[af6 (af3 _),ahi]at hx ⊢;simp only[agm,afY]at hx ⊢;subst hx;refine⟨_,rfl,λu hu=>?_⟩;cases hu with|fu hx=>?_
    exact .so ⟨0,true,sz,[]⟩ (by simp) (af3 _) ⟨_,_,rfl⟩ (λ_=>.inl ⟨bQ _ _ _,⟨_,rfl⟩,rfl,rfl⟩)
   ·refine⟨x',?_,λu hu=>hu⟩;rcases agi j pre.length with az|fI
    ·rw[af2 az]at hx ⊢;exact hx
    ·rw[af6 fI]at hx ⊢;cases hm:j-pre.length with
     |zero=>omega
     |succ m=>rw[hm]at hx;simpa using hx)
 have fx:(s++[(⟨0,true,sz,[]⟩:Obj)]).set k { o with aw:=[pre++.so s.length 0 0 0::post] }=s.set k { o with aw:=[pre++.so s.length 0 0 0::post] }++[⟨0,true,sz,[]⟩]:=by rw[List.set_append_left _ _ hk]
 rw[fx]at hr;have hE:=hp.1.trans hr.1;exact(h.2 _ w vals hr.2 hl (λi x hx=>(hv i x hx).aX hE)).mono λ_ _ ⟨u,v,σ',s',a,b,c,d,e⟩=>⟨u,v,σ',s',a,hE.trans b,c,d,e⟩
end Go.VL
namespace Go.VL
theorem br.DD {L:Nat}{e e':Env}{s s':List Obj} (h:bO e s e' s'):br L e s e' s':=λσ0 s0 w0 σ w N a _ hE hI hR=>h σ0 s0 w0 σ w N a hE hI hR
theorem br.freeze {L:Nat}{e:Env}{s:List Obj} (ids kx:List Nat):br L e s (kY (bE s ids) kx e) (bE s ids):=.DD (.freeze ids kx)
def ej (aY:List Nat):V->V
 |.so id g lo n=>match aY.idxOf? id with|some k=>.so k g lo n|none=>.any
 |.rf id g i off=>match aY.idxOf? id with|some k=>.rf k g i off|none=>.any
 |.pp id g i off b a=>match aY.idxOf? id with|some k=>.pp k g i off b a|none=>.any
 |.mp id g=>match aY.idxOf? id with|some k=>.mp k g|none=>.any
 |.ag cs=>.ag (go cs)
 |.tu cs=>.tu (go cs)
 |.bx v=>.bx (ej aY v)
 |.cap lo hi v=>.cap lo hi (ej aY v)
 |.cl fn first ak=>.cl fn (go first) (go ak)
 |.d x=>.d x
 |.fu aw=>.fu aw
 |.un=>.un
 |.any=>.any
where go:List V->List V
 |[]=>[]
 |v::vs=>ej aY v::go vs
theorem od (aY:List Nat):∀(l:List V),ej.go aY l=l.map (ej aY)
 |[]=>rfl
 |v::vs=>by simp [ej.go,od aY vs]
def fy (aY:List Nat) (o:Obj):Obj:={ o with aw:=o.aw.map (ej.go aY) }
def lF (aY:List Nat) (s:List Obj):List Obj:=aY.map λid=>fy aY (s.getD id hole)
def P0 (aY:List Nat) (σ:Gh):Gh:=⟨λk=>match aY[k]? with|some id=>σ id|none=>none,σ.base⟩
section C8
variable {σ:Gh}{s:List Obj}{w:World}{aY:List Nat}
variable{k:Nat}{id:Nat}
theorem HA{o:Obj} (h:(lF aY s)[k]?=some o):∃id,aY[k]?=some id/\o=fy aY (s.getD id hole):=by unfold lF at h;rw[afO]at h;obtain⟨id,h1,h2⟩:=Option.map_eq_some_iff.1 h;exact⟨id,h1,h2.symm⟩
theorem wT{o:Obj} (h:aY[k]?=some id) (ho:s[id]?=some o):(lF aY s)[k]?=some (fy aY o):=by unfold lF;rw[afO,h];simp [List.getD,ho]
theorem mb (h:aY[k]?=some id):P0 aY σ k=σ id:=by show (match aY[k]? with|some id=>σ id|none=>none)=σ id;rw[h]
theorem AI (az:∀id∈aY,id<s.length) {b:Nat} (h:Own (P0 aY σ) (lF aY s) b):Own σ s b:=by
 rcases h with h|⟨k,o,base,h1,h2,h3⟩
 ·exact .inl h
 ·obtain⟨id,k1,rfl⟩:=HA h1;have hi:=az id (afW k1);rw[mb k1]at h3;have hg:s.getD id hole=s[id]:=by simp [List.getD,afP hi]
  rw[hg]at h2;exact .inr ⟨id,s[id],base,by simp [hi],h2,h3⟩
theorem uL (h:aY.idxOf? id=some k):aY[k]?=some id:=by rw[List.idxOf?_eq_some_iff]at h;obtain⟨h1,h2,_⟩:=h;rw[afP h1];simpa using h2
theorem aA.C8 (az:∀id∈aY,id<s.length) {x:V}{u:Value} (hr:aA σ s w x u):aA (P0 aY σ) (lF aY s) w (ej aY x) u:=by
 have g:∀(cs:List V) (i:Nat) (y:V),(cs.map (ej aY))[i]?=some y->∃x,cs[i]?=some x/\ej aY x=y:=λcs i y hy=>by rw[afO]at hy;exact Option.map_eq_some_iff.1 hy
 induction hr with
 |d hx=>exact .d (hx.own λb hb=>AI az hb)
 |fu hx=>exact .fu (hx.own λb hb=>AI az hb)
 |un=>exact .un
 |any=>exact .any
 |ag h1 h2 _ ih =>
  simp only[ej,od];refine .ag (by simpa using h1) (λi y hy=>?_) (λi y hy=>?_)
  ·obtain⟨x,hx,rfl⟩:=g _ i y hy;exact h2 i x hx
  ·obtain⟨x,hx,rfl⟩:=g _ i y hy;exact ih i x hx
 |tu h1 _ ih =>
  simp only[ej,od];refine .tu (by simpa using h1) (λi y hy=>?_);obtain⟨x,hx,rfl⟩:=g _ i y hy;exact ih i x hx
 |bx h1 h2 h3 hu _ ih=>simp only[ej];exact .bx h1 h2 (λh'=>h3 (AI az h')) hu ih
 |cap h1 _ ih=>simp only[ej];exact .cap h1 ih
 |cl h1 _ h3 _ yp ym =>
  simp only[ej,od];refine .cl (by simpa using h1) (λi y hy=>?_) (by simpa using h3) (λi y hy=>?_)
  ·obtain⟨x,hx,rfl⟩:=g _ i y hy;exact yp i x hx
  ·obtain⟨x,hx,rfl⟩:=g _ i y hy;exact ym i x hx
 |so o ho hg hu hk =>
  simp only[ej];split
  ·rename_i k di;have di:=uL di;refine .so (fy aY o) (wT di ho) hg hu λvK=>?_;have:=hk vK;unfold yN at this ⊢;rw[mb di];exact this
  ·exact .any
 |rf o ho hg hu hk =>
  simp only[ej];split
  ·rename_i k di;have di:=uL di;refine .rf (fy aY o) (wT di ho) hg hu λvK=>?_;rw[mb di];exact hk vK
  ·exact .any
 |pp o ho hg hk =>
  simp only[ej];split
  ·rename_i k di;have di:=uL di;refine .pp (fy aY o) (wT di ho) hg λvK=>?_;rw[mb di];exact hk vK
  ·exact .any
 |mp o ho hg hu hk =>
  simp only[ej];split
  ·rename_i k di;have di:=uL di;refine .mp (fy aY o) (wT di ho) hg hu λvK=>?_;rw[mb di];exact hk vK
  ·exact .any
theorem Inv.C8 (hI:Inv σ s w) (az:∀id∈aY,id<s.length) (rR:aY.Nodup):Inv (P0 aY σ) (lF aY s) w:=by
 have get:∀(k:Nat) (o:Obj),(lF aY s)[k]?=some o->∃id o',aY[k]?=some id/\s[id]?=some o'/\o=fy aY o':=by intro k o h;obtain⟨id,k1,rfl⟩:=HA h;have hi:=az id (afW k1);exact⟨id,s[id],k1,by simp [hi],by simp [List.getD,afP hi]⟩
 refine⟨λk o ho=>?_,λk k' o o' b base bI h1 h2 h3 h4 h5=>?_,hI.low,λk o b base h1 h2=>?_⟩
 ·obtain⟨id,o',k1,k2,rfl⟩:=get k o ho;rw[mb k1];rcases hI.content id o' k2 with (⟨h1,h2⟩|⟨b,es,c,h1,h2,h3⟩)|⟨b,base,arr,E,h1,h2,h3,h4,h5⟩
  ·exact .inl (.inl ⟨h1,by simp [fy,h2]⟩)
  ·refine .inl (.inr ⟨b,es,c,h1,h2,?_⟩);simp only[fy,h3,eR,agy];apply agC;intro e _;rfl
  ·refine .inr ⟨b,base,arr,E,h1,h2,λc hc=>?_,by simpa [fy]using h4,λi j x hx=>?_⟩
   ·obtain⟨c',T8,rfl⟩:=List.mem_map.1 hc;rw[od];simpa [fy]using h3 c' T8
   ·simp only[fy,afO]at hx;cases hi:o'.aw[i]? with
    |none=>simp [hi]at hx
    |some c =>
     simp only[hi,afV,agE,od,afO]at hx;obtain⟨y,hy,rfl⟩:=Option.map_eq_some_iff.1 hx;obtain⟨u,g1,g2,g3⟩:=h5 i j y (by simp [hi,hy]);exact⟨u,g1,g2,g3.C8 az⟩
 ·obtain⟨id,p,k1,k2,rfl⟩:=get k o h1;obtain⟨kN,p',l1,l2,rfl⟩:=get k' o' h2;rw[mb k1]at h4;rw[mb l1]at h5;have e:=hI.inj id kN p p' b base bI k2 l2 h3 h4 h5;subst e;obtain⟨a1,a2⟩:=List.getElem?_eq_some_iff.1 k1;obtain⟨b1,b2⟩:=List.getElem?_eq_some_iff.1 l1;exact(List.getElem_inj rR).1 (a2.trans b2.symm)
 ·obtain⟨id,p,k1,k2,rfl⟩:=get k o h1;rw[mb k1]at h2;exact hI.apart id p b base k2 h2
theorem aF.C8 {σ0:Gh}{s0:List Obj}{w0:World} (hE:aF σ0 s0 w0 σ s w) (az:∀id∈aY,id<s.length) (JA:∀id,id<s0.length->aY[id]?=some id):aF σ0 s0 w0 (P0 aY σ) (lF aY s) w:=by refine⟨hE.os,hE.tape,hE.output,hE.size,hE.aY,hE.shape,hE.pN,λb hb=>hE.own b (AI az hb),λid o ho=>?_,hE.base,hE.fW⟩;obtain⟨o',h1,h2,h3⟩:=hE.yk id o ho;have hk:=JA id (List.getElem?_eq_some_iff.1 ho).1;exact⟨fy aY o',wT hk h1,h2,λhe=>⟨(h3 he).1,by rw[mb hk];exact(h3 he).2⟩⟩
end C8
variable{aY:List Nat}{s:List Obj}{lim:Nat}
def zk (L:Nat) (aY:List Nat) (n:Nat):Bool:=aY.Nodup&&aY.all (λid=>decide (id<n))&&((List.range L).all λid=>aY[id]? == some id)
theorem sX {L n:Nat} (h:zk L aY n=true):aY.Nodup/\(∀id∈aY,id<n)/\∀id,id<L->aY[id]?=some id:=by unfold zk at h;simp only[agb,decide_eq_true_eq,af8,beq_iff_eq,List.mem_range]at h;exact⟨h.1.1,h.1.2,h.2⟩
def K2 (aY kx:List Nat) (e:Env):Env:=λt=>if kx.contains t then ej aY (e t) else .any
theorem Bp {kx:List Nat}{e:Env}{t:Nat}:K2 aY kx e t=if kx.contains t then ej aY (e t) else .any:=(rfl)
theorem br.C8 {L:Nat}{e:Env} (aY kx:List Nat) (h:zk L aY s.length=true):br L e s (K2 aY kx e) (lF aY s):=by
 intro σ0 s0 w0 σ w N a qj hE hI hR;obtain⟨h1,h2,h3⟩:=sX h;refine⟨_,hE.C8 h2 (λid cS=>h3 id (by omega)),hI.C8 h2 h1,hR.1,hR.2.1,λt=>?_⟩;unfold K2;split
 ·exact(hR.2.2 t).C8 h2
 ·exact .any
def xR (L:Nat) (s:List Obj) (r:V) (K:V->List Obj->Prop):Prop:=∃aY,zk L aY s.length=true/\K (ej aY r) (lF aY s)
def sg (P:Program) (rs:List ResultVar) (L:Nat) (K:V->List Obj->Prop) (ex:Exit) (e:Env) (s:List Obj):Prop:=xT ex/\xp P rs e s λr=>xR L s r K
theorem pJ {P : Program} {f : FuncId} {fn : Func} {c : Code} {args : List V} {exts : List Obj} {K : V → List Obj → Prop} (hf : P.funcs[f]? = some fn) (hb : fn.body = some c) {N : Nat} (hN : fn.ntmps = N) {rs : Array ResultVar} (PA : fn.results = rs) (hn : (fn.name != "runtime.NumGoroutine") = true)
  (lim M:Nat) (hl:exts.length<=lim) (ha:args.length<=N)
  (h:codeWp P N lim M c (sg P rs.toList lim K) (im args) exts):aq P f args exts K:=by
 subst hN;subst PA;refine⟨by simp only[Jz,hf,hn,hb,Option.isSome_some,ag3],λσ w vals hI Uc hv=>?_⟩;refine calls_of_wp hf hb ?_;have hR:dQ σ exts w fn.ntmps (im args) { tmps:=vals++Array.replicate (fn.ntmps-vals.size) undef,defers:=[] }:=by
  refine⟨rfl,by simp;omega,λt=>?_⟩;rw[nI];by_cases ht:t<args.length
  ·have h1:=hv t args[t] (by simp [ht]);have:(vals++Array.replicate (fn.ntmps-vals.size) undef).getD t undef=vals.getD t undef:=by rw[agh,ag1 (by omega),agh]
   rw[this];simpa [ht]using h1
  ·have:(vals++Array.replicate (fn.ntmps-vals.size) undef).getD t undef=undef:=by rw[agh,ag6 (by omega),Array.getElem?_replicate];split <;> rfl
   rw[this];simp [ht];exact .un
 refine wp_mono (nj hl c _ (im args) exts σ w _ (aF.refl _ _ _) hI hR h) λex a' w' ⟨e',σ',s',hE,jo,oR,hex,hq⟩=>?_;obtain⟨v,u,k1,k2,k3⟩:=my jo oR hq;obtain⟨aY,h0,hK⟩:=k3;obtain⟨h1,h2,h3⟩:=sX h0;have fin:a'.defers=[]/\∃v,(results fn a'.tmps).run P w'=.ok v w'/\∃u Qp vC rh,Ending.returned v=.returned u/\aF σ exts w vC rh w'/\Inv vC rh w'/\aA vC rh w' Qp u/\K Qp rh:=by refine⟨oR.1,u,k1,?_⟩;exact⟨u,_,_,_,rfl,hE.C8 h2 (λid cS=>h3 id (by omega)),jo.C8 h2 h1,k2.C8 h2,hK⟩
 rcases qq hex with rfl|rfl
 ·exact fin
 ·exact fin
def uZ (ρ:List Nat) (s exts s':List Obj):List Nat:=ρ++List.range' s.length (s'.length-exts.length)
theorem sD:∀(ρ ρ':List Nat) (A B:List Obj) (s:List Obj),A.length=ρ.length->aE s (ρ++ρ') (A++B)=aE (aE s ρ A) ρ' B
 |[],ρ',[],B,s,_=>by simp [aE]
 |[],_,_::_,_,_,h=>by simp at h
 |_::_,_,[],_,_,h=>by simp at h
 |r::ρ,ρ',a::A,B,s,h=>by simp only[afQ,aE];exact sD ρ ρ' A B _ (by simpa using h)
theorem xl:∀(ρ:List Nat) (A:List Obj) (s t:List Obj),(∀id∈ρ,id<s.length)->aE (s++t) ρ A=aE s ρ A++t
 |[],_,s,t,_=>by simp [aE]
 |r::ρ,[],s,t,_=>by simp [aE]
 |r::ρ,a::A,s,t,h=>by simp only[aE];rw[List.set_append_left _ _ (h r (by simp))];exact xl ρ A _ t (λid cS=>by simpa using h id (by simp [cS]))
theorem zv:∀(m:Nat) (B s:List Obj),B.length=m->aE (s++List.replicate m hole) (List.range' s.length m) B=s++B
 |0,B,s,h=>by have:B=[]:=ago h;subst this;simp [aE]
 |m+1,[],s,h=>by simp at h
 |m+1,b::B,s,h=>by rw[List.range'_succ,List.replicate_succ];simp only[aE];rw[ahd _ _ (af3 _),ahi,agd];have:=zv m B (s++[b]) (by simpa using h);simpa using this
theorem jc {P:Program}{f:FuncId}{cargs args:List V}{exts:List Obj}{Kc K:V->List Obj->Prop} (h:aq P f cargs exts Kc) (ρ:List Nat) (hρ:ρ.length=exts.length) (rR:ρ.Nodup)
  (hs:∀(k:Nat) (o:Obj),exts[k]?=some o->s[ρ.getD k 0]?=some (aT ρ o)) (jV:args=cargs.map (aL ρ)) (DC:ah.go exts.length cargs=true) (wE:exts.all (aG exts.length)=true)
  (hk:∀v s',Kc v s'->exts.length<=s'.length->K (aL (uZ ρ s exts s') v) (aE s ρ ((s'.take exts.length).map (aT (uZ ρ s exts s')))++(s'.drop exts.length).map (aT (uZ ρ s exts s')))):aq P f args s K:=by
 refine⟨h.1,λσ w vals hI hl hv=>?_⟩;have TF:∀k,k<exts.length->ρ[k]?=some (ρ.getD k 0):=λk hk=>by simp [List.getD,show k<ρ.length by omega]
 have Zt:∀k k',k<exts.length->k'<exts.length->ρ.getD k 0=ρ.getD k' 0->k=k':=by intro k k' h1 h2 he;have e1:=TF k h1;have e2:=TF k' h2;rw[he]at e1;obtain⟨l1,g1⟩:=List.getElem?_eq_some_iff.1 e1;obtain⟨l2,g2⟩:=List.getElem?_eq_some_iff.1 e2;exact(List.getElem_inj rR).1 (g1.trans g2.symm)
 have Gy:∀k,(hk:k<exts.length)->s[ρ.getD k 0]?=some (aT ρ exts[k]):=λk hk=>hs k exts[k] (by simp [hk]);let rW:Nat->Prop:=λb=>∃k base,k<exts.length/\σ (ρ.getD k 0)=some (b,base);let σc:Gh:=⟨λk=>if k<exts.length then σ (ρ.getD k 0) else none,λb=>Own σ s b/\¬rW b⟩
 have Gg:∀k,k<exts.length->σc k=σ (ρ.getD k 0):=λk hk=>be hk;have yZ:∀b,Own σc exts b->Own σ s b:=by
  rintro b (hb|⟨k,o,base,h1,h2,h3⟩)
  ·exact hb.1
  ·have az:=(List.getElem?_eq_some_iff.1 h1).1;rw[Gg k az]at h3;exact .inr ⟨ρ.getD k 0,aT ρ o,base,hs k o h1,h2,h3⟩
 have OL:∀b,Own σ s b->Own σc exts b:=by
  intro b hb;by_cases he:rW b
  ·obtain⟨k,base,az,h3⟩:=he;refine .inr ⟨k,exts[k],base,by simp [az],?_,by rw[Gg k az];exact h3⟩;rcases hb with hb|⟨id,o,bI,g1,g2,g3⟩
   ·exact absurd hb (hI.apart _ _ b base (Gy k az) h3)
   ·have:=hI.inj id _ o _ b bI base g1 (Gy k az) g2 g3 h3;subst this;rw[Gy k az]at g1;cases g1;exact g2
  ·exact .inl ⟨hb,he⟩
 have ZN:Inv σc exts w:=by
  refine⟨λk o ho=>?_,λk k' o o' b base bI h1 h2 h3 h4 h5=>?_,λb hb=>B7 hI hb.1,λk o b base h1 h2 hb=>?_⟩
  ·have az:=(List.getElem?_eq_some_iff.1 ho).1;rw[Gg k az];rcases hI.content _ _ (hs k o ho) with g1|⟨b,base,arr,E,g1,g2,g3,g4,g5⟩
   ·exact .inl g1.down
   ·refine .inr ⟨b,base,arr,E,g1,g2,λe he=>?_,by simpa [aT]using g4,λi j x hx=>?_⟩
    ·have:=g3 (aL.go ρ e) (List.mem_map.2 ⟨e,he,rfl⟩);rw[g7]at this;simpa [aT]using this
    ·obtain⟨u,k1,k2,k3⟩:=g5 i j _ (E6 hx);refine⟨u,k1,k2,wR yZ hs Gg k3 rfl ?_⟩;have hobj:=List.all_eq_true.1 wE o (afW ho);cases Cc:o.aw[i]? with
     |none=>rw[Cc]at hx;cases hx
     |some e =>
      rw[Cc]at hx;exact List.all_eq_true.1 (List.all_eq_true.1 hobj e (afW Cc)) x (afW hx)
  ·have l1:=(List.getElem?_eq_some_iff.1 h1).1;have l2:=(List.getElem?_eq_some_iff.1 h2).1;rw[Gg k l1]at h4;rw[Gg k' l2]at h5;exact Zt k k' l1 l2 (hI.inj _ _ _ _ b base bI (hs k o h1) (hs k' o' h2) h3 h4 h5)
  ·have l1:=(List.getElem?_eq_some_iff.1 h1).1;rw[Gg k l1]at h2;exact hb.2 ⟨k,base,l1,h2⟩
 refine(h.2 σc w vals ZN (by rw[hl,jV];simp) (λi x hx=>wR yZ hs Gg (hv i _ (by rw[jV,afO,hx];rfl)) rfl (dw DC i x hx))).mono λe w' ⟨u,v,σ',s',he,hE,jo,hR,hK⟩=>?_;have hle:exts.length<=s'.length:=by
  rcases Nat.eq_zero_or_pos exts.length with h0|h0
  ·omega
  ·obtain⟨o',g1,_⟩:=hE.yk (exts.length-1) exts[exts.length-1] (afP (by omega));have:=(List.getElem?_eq_some_iff.1 g1).1;omega
 have hK:=hk v s' hK hle;have Xu:∀id∈ρ,id<s.length:=by
  intro id cS;obtain⟨k,hk⟩:=List.mem_iff_getElem?.1 cS;have az:k<exts.length:=by have:=(List.getElem?_eq_some_iff.1 hk).1;omega
  have h1:=(List.getElem?_eq_some_iff.1 (Gy k az)).1;have:ρ.getD k 0=id:=by simp [List.getD,hk]
  omega
 obtain⟨R,T5⟩:∃R,R=uZ ρ s exts s':=⟨_,rfl⟩
 rw[<- T5]at hK;have WH:R.length=s'.length:=by rw[T5];simp [uZ];omega
 have hRn:R.Nodup:=by rw[T5];unfold uZ;rw[List.nodup_append];refine⟨rR,List.nodup_range',λa ha b hb he=>?_⟩;subst he;have h1:=Xu a ha;have h2:=List.mem_range'.1 hb;omega
 have ON:∀k,k<exts.length->R.getD k 0=ρ.getD k 0:=λk hk=>by rw[T5];unfold uZ;simp only[List.getD];rw[af2 (by omega)]
 have VD:∀k,exts.length<=k->k<s'.length->R.getD k 0=s.length+(k-exts.length):=λk h1 h2=>by rw[T5];unfold uZ;simp only[List.getD];rw[af6 (by omega),List.getElem?_range' (by omega)];simp;omega
 have YZ:∀k,k<s'.length->R[k]?=some (R.getD k 0):=λk hk=>by simp [List.getD,show k<R.length by omega]
 have aay:∀k,k<s'.length->R.getD k 0<s.length+(s'.length-exts.length):=λk hk=>by
  rcases agi k exts.length with h1|h1
  ·rw[ON k h1];have:=(List.getElem?_eq_some_iff.1 (Gy k h1)).1;omega
  ·rw[VD k h1 hk];omega
 have T0:aE s ρ ((s'.take exts.length).map (aT R))++(s'.drop exts.length).map (aT R)=aE (s++List.replicate (s'.length-exts.length) hole) R (s'.map (aT R)):=by
  have oz:s'.map (aT R)=(s'.take exts.length).map (aT R)++(s'.drop exts.length).map (aT R):=by rw[<- aha,ahk]
  rw[oz,T5];unfold uZ;generalize aT (ρ++List.range' s.length (s'.length-exts.length))=F;rw[sD _ _ _ _ _ (by simp;omega),xl _ _ _ _ Xu];have CZ:(aE s ρ ((s'.take exts.length).map F)).length=s.length:=nS _ _ _;generalize aE s ρ ((s'.take exts.length).map F)=T at *;rw[<- CZ,zv (s'.length-exts.length) _ T (by simp)]
 rw[T0]at hK;clear T0
 -- back
 let σn:Gh:=⟨λid=>match R.idxOf? id with|some k=>σ' k|none=>σ id,σ.base⟩
 have Ve:∀k,k<s'.length->R.idxOf? (R.getD k 0)=some k:=by
  intro k hk;have e1:=YZ k hk;obtain⟨l1,g1⟩:=List.getElem?_eq_some_iff.1 e1;rw[List.idxOf?_eq_some_iff];refine⟨l1,by simp [g1],λj hj=>?_⟩;have hj':j<R.length:=by omega
  intro hb;have OF:R[j]=R.getD k 0:=by simpa using hb
  have:=(List.getElem_inj hRn).1 (OF.trans g1.symm);omega
 have F7:∀k,k<s'.length->σn (R.getD k 0)=σ' k:=λk hk=>by show (match R.idxOf? (R.getD k 0) with|some k=>σ' k|none=>σ (R.getD k 0))=σ' k;rw[Ve k hk]
 have Hq:∀id,id ∉ R->σn id=σ id:=λid cS=>by show (match R.idxOf? id with|some k=>σ' k|none=>σ id)=σ id;rw[List.idxOf?_eq_none_iff.2 cS]
 have qt:∀id,id∈R->∃k,k<s'.length/\id=R.getD k 0:=by intro id cS;obtain⟨k,hk⟩:=List.mem_iff_getElem?.1 cS;have az:=(List.getElem?_eq_some_iff.1 hk).1;exact⟨k,by omega,by simp [List.getD,hk]⟩
 have u7:(s++List.replicate (s'.length-exts.length) hole).length=s.length+(s'.length-exts.length):=by simp
 have Ko:∀(k:Nat) (o:Obj),s'[k]?=some o->(aE (s++List.replicate (s'.length-exts.length) hole) R (s'.map (aT R)))[R.getD k 0]?=some (aT R o):=by intro k o ho;have az:k<s'.length:=(List.getElem?_eq_some_iff.1 ho).1;exact wz R _ _ k _ _ hRn (YZ k az) (by rw[afO,ho];rfl) (by rw[u7];exact aay k az)
 have tg:∀id,id ∉ R->(aE (s++List.replicate (s'.length-exts.length) hole) R (s'.map (aT R)))[id]?=s[id]?:=λid cS=>by
  rw[gy R _ _ id cS];rcases agi id s.length with h1|h1
  ·rw[af2 h1]
  ·rw[agG h1];refine agG ?_;rw[u7];rcases agi id (s.length+(s'.length-exts.length)) with h2|h2
   ·exfalso;apply cS;have e1:=VD (exts.length+(id-s.length)) (by omega) (by omega);have e2:=YZ (exts.length+(id-s.length)) (by omega);rw[e1]at e2;have e3:s.length+(exts.length+(id-s.length)-exts.length)=id:=by omega
    rw[e3]at e2;exact afW e2
   ·exact h2
 have V2:∀id o,id∈R->s[id]?=some o->∃k,k<exts.length/\id=R.getD k 0/\id=ρ.getD k 0:=by
  intro id o cS ho;obtain⟨k,hk,rfl⟩:=qt id cS;rcases agi k exts.length with h1|h1
  ·exact⟨k,h1,rfl,ON k h1⟩
  ·rw[VD k h1 hk]at ho;have:=(List.getElem?_eq_some_iff.1 ho).1;omega
 have vI:∀(k:Nat) (o:Obj),k<s'.length->(aE (s++List.replicate (s'.length-exts.length) hole) R (s'.map (aT R)))[R.getD k 0]?=some o->∃o',s'[k]?=some o'/\o=aT R o':=by
  intro k o az ho;have aC:k<s'.length:=by omega
  have:=Ko k s'[k] (by simp [aC]);rw[ho]at this;exact⟨s'[k],by simp [aC],by simpa using this⟩
 have fW:∀b,b<w.heap.size->Own σ s b->¬rW b->w'.heap[b]?=w.heap[b]?:=λb hb h1 h2=>hE.fW b hb ⟨h1,h2⟩;have Bm:∀b,σ.base b->¬rW b:=by rintro b hb ⟨k,base,az,h3⟩;exact hI.apart _ _ b base (Gy k az) h3 hb
 have qD:∀id o b base,id ∉ R->s[id]?=some o->σ id=some (b,base)->o.live=true->¬rW b:=by rintro id o b base cS ho h1 CW ⟨k,bI,az,h3⟩;have:=hI.inj id _ o _ b base bI ho (Gy k az) CW h1 h3;exact cS (by rw[this,<- ON k az];exact afW (YZ k (by omega)))
 have Qd:∀b,Own σn (aE (s++List.replicate (s'.length-exts.length) hole) R (s'.map (aT R))) b->Own σ' s' b:=by
  rintro b (hb|⟨id,o,base,h1,h2,h3⟩)
  ·left;rw[hE.base];exact⟨.inl hb,Bm b hb⟩
  ·by_cases cS:id∈R
   ·obtain⟨k,az,rfl⟩:=qt id cS;obtain⟨o',g1,rfl⟩:=vI k o az h1;rw[F7 k az]at h3;exact .inr ⟨k,o',base,g1,h2,h3⟩
   ·rw[tg id cS]at h1;rw[Hq id cS]at h3;left;rw[hE.base];exact⟨.inr ⟨id,o,base,h1,h2,h3⟩,qD id o b base cS h1 h3 h2⟩
 have U2:aF σ s w σn (aE (s++List.replicate (s'.length-exts.length) hole) R (s'.map (aT R))) w':=by
  refine⟨hE.os,hE.tape,hE.output,hE.size,λb hb ho=>hE.aY b hb λh'=>ho (yZ b h'),λb arr E ho hh=>hE.shape b arr E (OL b ho) hh,λb ho hm=>hE.pN b (OL b ho) hm,λb hb=>?_,λid o ho=>?_,rfl,
   λb hb hf=>fW b hb (.inl hf) (Bm b hf)⟩
  ·rcases hE.own b (Qd b hb) with h'|h'
   ·exact .inl (yZ b h')
   ·exact .inr h'
  ·by_cases cS:id∈R
   ·obtain⟨k,az,Cd,FF⟩:=V2 id o cS ho;rw[FF,Gy k az]at ho;simp only[afY]at ho;subst ho;obtain⟨o',g1,g2,g3⟩:=hE.yk k exts[k] (by simp [az]);refine⟨aT R o',by rw[Cd];exact Ko k o' g1,g2,λhe=>?_⟩;obtain⟨e1,e2⟩:=g3 he;refine⟨e1,?_⟩;have e3:σn id=σ' k:=by rw[Cd];exact F7 k (by omega)
    rw[e3,e2,Gg k az,FF]
   ·exact⟨o,by rw[tg id cS];exact ho,af3 _,λ_=>⟨rfl,Hq id cS⟩⟩
 have up:∀{x:V}{u:Value},aA σ' s' w' x u->aA σn (aE (s++List.replicate (s'.length-exts.length) hole) R (s'.map (aT R))) w' (aL R x) u:=λhr =>
  QE Qd Ko (λk hk=>F7 k (by omega)) hr
 have hIn:Inv σn (aE (s++List.replicate (s'.length-exts.length) hole) R (s'.map (aT R))) w':=by
  refine⟨λid o ho=>?_,λid kN o o' b base bI h1 h2 h3 h4 h5=>?_,λb hb=>ahc (hI.low b hb) hE.size,λid o b base h1 h2 hb=>?_⟩
  ·by_cases cS:id∈R
   ·obtain⟨k,az,rfl⟩:=qt id cS;obtain⟨o',g1,rfl⟩:=vI k o az ho;rw[F7 k az];rcases jo.content k o' g1 with c1|⟨b,base,arr,E,c1,c2,c3,c4,c5⟩
    ·exact .inl c1.up
    ·refine .inr ⟨b,base,arr,E,c1,c2,λe he=>?_,by simpa [aT]using c4,λi j y hy=>?_⟩
     ·obtain⟨e',zO,rfl⟩:=List.mem_map.1 he;rw[g7];simpa [aT]using c3 e' zO
     ·obtain⟨x,hx,rfl⟩:=Hc hy;obtain⟨u,k1,k2,k3⟩:=c5 i j x hx;exact⟨u,k1,k2,up k3⟩
   ·rw[tg id cS]at ho;rw[Hq id cS];refine ve.aX (p:=σ id) U2 (λb base hb=>?_) (hI.content id o ho);have az:=hI.lt ho hb;by_cases hO:Own σ s b
    ·by_cases CW:o.live=true
     ·exact fW b az hO (qD id o b base cS ho hb CW)
     ·exfalso;rcases hO with hO|⟨kN,o',bI,g1,g2,g3⟩
      ·exact hI.apart id o b base ho hb hO
      ·have:=hI.inj kN id o' o b bI base g1 ho g2 g3 hb;subst this;rw[ho]at g1;cases g1;exact CW g2
    ·exact hE.aY b az λh'=>hO (yZ b h')
  ·by_cases cS:id∈R <;> by_cases wu:kN∈R
   ·obtain⟨k,az,rfl⟩:=qt id cS;obtain⟨k',aC,rfl⟩:=qt kN wu;obtain⟨p,g1,rfl⟩:=vI k o az h1;obtain⟨p',US,rfl⟩:=vI k' o' aC h2;rw[F7 k az]at h4;rw[F7 k' aC]at h5;rw[jo.inj k k' p p' b base bI g1 US h3 h4 h5]
   ·exfalso;obtain⟨k,az,rfl⟩:=qt id cS;obtain⟨p,g1,rfl⟩:=vI k o az h1;rw[F7 k az]at h4;rw[tg kN wu]at h2;rw[Hq kN wu]at h5;have PN:=hI.lt h2 h5;have hO:Own σ s b:=by
     rcases hE.own b (.inr ⟨k,p,base,g1,h3,h4⟩) with h'|h'
     ·exact yZ b h'
     ·omega
    by_cases CW:o'.live=true
    ·exact jo.apart k p b base g1 h4 (by rw[hE.base];exact⟨hO,qD kN o' b bI wu h2 h5 CW⟩)
    ·rcases hO with hO|⟨ZZ,o2,z5,q1,q2,q3⟩
     ·exact hI.apart kN o' b bI h2 h5 hO
     ·have:=hI.inj ZZ kN o2 o' b z5 bI q1 h2 q2 q3 h5;subst this;rw[h2]at q1;cases q1;exact CW q2
   ·exfalso;obtain⟨k',aC,rfl⟩:=qt kN wu;obtain⟨p',US,rfl⟩:=vI k' o' aC h2;rw[F7 k' aC]at h5;rw[tg id cS]at h1;rw[Hq id cS]at h4;exact jo.apart k' p' b bI US h5 (by rw[hE.base];exact⟨.inr ⟨id,o,base,h1,h3,h4⟩,qD id o b base cS h1 h4 h3⟩)
   ·rw[tg id cS]at h1;rw[tg kN wu]at h2;rw[Hq id cS]at h4;rw[Hq kN wu]at h5;exact hI.inj id kN o o' b base bI h1 h2 h3 h4 h5
  ·by_cases cS:id∈R
   ·obtain⟨k,az,rfl⟩:=qt id cS;obtain⟨p,g1,rfl⟩:=vI k o az h1;rw[F7 k az]at h2;exact jo.apart k p b base g1 h2 (by rw[hE.base];exact⟨.inl hb,Bm b hb⟩)
   ·rw[tg id cS]at h1;rw[Hq id cS]at h2;exact hI.apart id o b base h1 h2 hb
 exact⟨u,aL R v,σn,_,he,U2,hIn,up hR,hK⟩
def xL (lim:Nat) (s:List Obj) (o:Obj):Option Obj:=(o.aw.mapM (ba.go lim s)).map λaw=>{ o with aw:=aw }
theorem yO {α β:Type}{f:α->Option β}:∀{l:List α}{r:List β},l.mapM f=some r->r.length=l.length/\(∀(i:Nat) (y:β),r[i]?=some y->∃x,l[i]?=some x/\f x=some y)/\∀(i:Nat) (x:α),l[i]?=some x->∃y,r[i]?=some y/\f x=some y
 |[],r,h=>by simp at h;subst h;simp
 |a::l,r,h=>by
  simp only[agS,ahl,Option.pure_def]at h;cases ha:f a with
  |none=>rw[ha]at h;simp at h
  |some b =>
   rw[ha]at h;cases hl:l.mapM f with
   |none=>rw[hl]at h;simp at h
   |some bs =>
    rw[hl]at h;simp only[agE,afY]at h;subst h;obtain⟨k1,k2,k3⟩:=yO hl;refine⟨by simp [k1],λi y hy=>?_,λi x hx=>?_⟩
    ·cases i with
     |zero=>simp at hy;subst hy;exact⟨a,rfl,ha⟩
     |succ i=>simpa using k2 i y (by simpa using hy)
    ·cases i with
     |zero=>simp at hx;subst hx;exact⟨b,rfl,ha⟩
     |succ i=>simpa using k3 i x (by simpa using hx)
theorem uD{o o':Obj} (h:xL lim s o=some o'):o'.g=o.g/\o'.live=o.live/\o'.sz=o.sz/\o.aw.mapM (ba.go lim s)=some o'.aw:=by unfold xL at h;obtain⟨aw,h1,rfl⟩:=Option.map_eq_some_iff.1 h;exact⟨rfl,rfl,rfl,h1⟩
theorem Qr {σ:Gh}{sF:List Obj}{w:World} (hI:Inv σ s w) (h:(s.take lim).mapM (xL lim s)=some sF):aF σ (s.take lim) w σ sF w/\Inv σ sF w:=by
 obtain⟨m1,m2,m3⟩:=yO h;have xr:∀b,Own σ sF b->Own σ (s.take lim) b:=by
  rintro b (hb|⟨id,o,base,h1,h2,h3⟩)
  ·exact .inl hb
  ·obtain⟨o0,k1,k2⟩:=m2 id o h1;obtain⟨_,e2,_,_⟩:=uD k2;exact .inr ⟨id,o0,base,k1,by rw[<- e2];exact h2,h3⟩
 have hE:aF σ (s.take lim) w σ sF w:=by refine⟨rfl,rfl,rfl,af3 _,λ_ _ _=>rfl,λ_ arr _ _ h=>⟨arr,h,rfl⟩,λ_ _ h=>h,λb hb=>.inl (xr b hb),λid o ho=>?_,rfl,λ_ _ _=>rfl⟩;obtain⟨o',k1,k2⟩:=m3 id o ho;obtain⟨e1,_,e3,_⟩:=uD k2;exact⟨o',k1,by omega,λ_=>⟨e3,rfl⟩⟩
 have get:∀(id:Nat) (o:Obj),(s.take lim)[id]?=some o->s[id]?=some o:=by
  intro id o hh;rw[agt]at hh;split at hh
  ·exact hh
  ·cases hh
 refine⟨hE,λid o ho=>?_,λid kN o o' b base bI h1 h2 h3 h4 h5=>?_,hI.low,λid o b base h1 h2=>?_⟩
 ·obtain⟨o0,k1,k2⟩:=m2 id o ho;obtain⟨e1,e2,e3,e4⟩:=uD k2;obtain⟨n1,n2,n3⟩:=yO e4;rcases hI.content id o0 (get _ _ k1) with (⟨h1,h2⟩|⟨b,es,c,h1,h2,h3⟩)|⟨b,base,arr,E,h1,h2,h3,h4,h5⟩
  ·exact .inl (.inl ⟨h1,ago (by rw[n1,h2];rfl)⟩)
  ·refine .inl (.inr ⟨b,es,c,h1,h2,?_⟩);rw[<- h3];refine agT λi=>?_;cases hi:o0.aw[i]? with
   |none =>
    have:=List.getElem?_eq_none_iff.1 hi;exact agG (by omega)
   |some x =>
    obtain⟨y,y1,y2⟩:=n3 i x hi;rw[y1];have hx:=hi;rw[h3]at hx;unfold eR at hx;rw[afO]at hx;obtain⟨en,_,rfl⟩:=Option.map_eq_some_iff.1 hx;simp only[ba.go,ba,afY]at y2;rw[<- y2]
  ·refine .inr ⟨b,base,arr,E,h1,h2,λe he=>?_,by rw[n1,e3];exact h4,λi j y hy=>?_⟩
   ·obtain⟨i,hi⟩:=List.mem_iff_getElem?.1 he;obtain⟨x,x1,x2⟩:=n2 i e hi;rw[(tA x2).1,e3];exact h3 x (afW x1)
   ·cases Cc:o.aw[i]? with
    |none=>rw[Cc]at hy;cases hy
    |some e =>
     rw[Cc]at hy;obtain⟨x,x1,x2⟩:=n2 i e Cc;obtain⟨v,v1,v2⟩:=(tA x2).2 j y hy;obtain⟨u,u1,u2,u3⟩:=h5 i j v (by rw[x1];exact v1);exact⟨u,by rw[e3];exact u1,u2,(lP hI u3 v2).aX hE⟩
 ·obtain⟨a,k1,k2⟩:=m2 id o h1;obtain⟨a',k1',k2'⟩:=m2 kN o' h2;exact hI.inj id kN a a' b base bI (get _ _ k1) (get _ _ k1') (by rw[<- (uD k2).2.1];exact h3) h4 h5
 ·obtain⟨a,k1,k2⟩:=m2 id o h1;exact hI.apart id a b base (get _ _ k1) h2
def y4 (lim:Nat) (s:List Obj) (r:V) (K:V->List Obj->Prop):Prop :=
 match (s.take lim).mapM (xL lim s),ba lim s r with
 |some sF,some r'=>K r' sF
 |_,_=>False
def Ma (P:Program) (rs:List ResultVar) (lim:Nat) (K:V->List Obj->Prop) (ex:Exit) (e:Env) (s:List Obj):Prop:=xT ex/\xp P rs e s λr=>y4 lim s r K
theorem KC {P : Program} {f : FuncId} {fn : Func} {c : Code} {args : List V} {exts : List Obj} {K : V → List Obj → Prop} (hf : P.funcs[f]? = some fn) (hb : fn.body = some c) {N : Nat} (hN : fn.ntmps = N) {rs : Array ResultVar} (PA : fn.results = rs) (hn : (fn.name != "runtime.NumGoroutine") = true)
  (lim M:Nat) (hl:exts.length<=lim) (ha:args.length<=N)
  (h:codeWp P N lim M c (Ma P rs.toList lim K) (im args) exts):aq P f args exts K:=by
 subst hN;subst PA;refine⟨by simp only[Jz,hf,hn,hb,Option.isSome_some,ag3],λσ w vals hI Uc hv=>?_⟩;refine calls_of_wp hf hb ?_;have hR:dQ σ exts w fn.ntmps (im args) { tmps:=vals++Array.replicate (fn.ntmps-vals.size) undef,defers:=[] }:=by
  refine⟨rfl,by simp;omega,λt=>?_⟩;rw[nI];by_cases ht:t<args.length
  ·have h1:=hv t args[t] (by simp [ht]);have:(vals++Array.replicate (fn.ntmps-vals.size) undef).getD t undef=vals.getD t undef:=by rw[agh,ag1 (by omega),agh]
   rw[this];simpa [ht]using h1
  ·have:(vals++Array.replicate (fn.ntmps-vals.size) undef).getD t undef=undef:=by rw[agh,ag6 (by omega),Array.getElem?_replicate];split <;> rfl
   rw[this];simp [ht];exact .un
 refine wp_mono (nj hl c _ (im args) exts σ w _ (aF.refl _ _ _) hI hR h) λex a' w' ⟨e',σ',s',hE,jo,oR,hex,hq⟩=>?_;obtain⟨v,u,k1,k2,k3⟩:=my jo oR hq;unfold y4 at k3;have fin:a'.defers=[]/\∃v,(results fn a'.tmps).run P w'=.ok v w'/\∃u Qp vC rh,Ending.returned v=.returned u/\aF σ exts w vC rh w'/\Inv vC rh w'/\aA vC rh w' Qp u/\K Qp rh:=by
  refine⟨oR.1,u,k1,?_⟩;split at k3
  ·rename_i sF r' hsF S7;obtain⟨q1,q2⟩:=Qr jo hsF;exact⟨u,r',σ',sF,rfl,(hE.take hl).trans q1,q2,(lP jo k2 S7).aX q1,k3⟩
  ·exact k3.elim
 rcases qq hex with rfl|rfl
 ·exact fin
 ·exact fin
end Go.VL
