/- A part of the proof. -/
import Derived.Test.YtjjfioalgbecmaaGreatRows
import Derived.KernelRfl
import Derived.Test.YtjjfioalgbecmaaGreatOA5
set_option linter.unusedSimpArgs false
set_option linter.unusedVariables false
set_option maxRecDepth 100000
set_option maxHeartbeats 80000000
namespace Go.VL
variable{f:FuncId}{s:List Obj}{P:Program}{args:List V}{K:V->List Obj->Prop}
theorem an{K':V->List Obj->Prop} (h:av P f args s K) (hk:∀v s',K v s'->K' v s'):av P f args s K' :=
 ⟨h.1,λσ w vals hI hl hv=>(h.2 σ w vals hI hl hv).mono λ_ _ ⟨u,v,σ',s',a,b,c,d,e⟩=>⟨u,v,σ',s',a,b,c,d,hk v s' e⟩⟩
theorem aD.move {σ σ':Gh}{s':List Obj}{w:World}{x:V}{u:Value} (hr:aD σ s w x u) (h:ak 0 x=true) (ju:∀b,Own σ' s' b->Own σ s b):aD σ' s' w x u:=by
 induction hr with
 |d hx=>exact .d (hx.own ju)
 |ag h1 h2 _ ih=>exact .ag h1 h2 λi x hx=>ih i x hx (dO (by simpa only[ak]using h) i x hx)
 |tu h1 _ ih=>exact .tu h1 λi x hx=>ih i x hx (dO (by simpa only[ak]using h) i x hx)
 |fu hx=>exact .fu (hx.own ju)
 |so o ho hg hu hk=>simp [ak]at h
 |rf o ho hg hu hk=>simp [ak]at h
 |pp o ho hg hk=>simp [ak]at h
 |mp o ho hg hu hk=>simp [ak]at h
 |bx h1 h2 h3 hu _ ih=>exact .bx h1 h2 (λh'=>h3 (ju _ h')) hu (ih (by simpa only[ak]using h))
 |cap h1 _ ih=>exact .cap h1 (ih (by simpa only[ak]using h))
 |cl h1 _ h3 _ As mN =>
  exact Zbr
 |un=>exact .un
 |any=>exact .any
theorem Oy (bM:Nat) (l:List D):ak.go bM (l.map .d)=true:=by
 induction l with
 |nil=>rfl
 |cons x l ih=>simp [ak.go,ak,ih]
def aS (P:Program) (f:FuncId) (args:List V) (r:V):Prop:=av P f args [] λv s'=>v=r/\s'=[]
theorem bB{r:V} (h:aS P f args r) (ha:ak.go 0 args=true) (hr:ak 0 r=true) (hk:K r s):av P f args s K:=by
 refine⟨h.1,λσ w vals hI hl hv=>?_⟩;have e1:∀b,Own ⟨λ_=>none,Own σ s⟩ [] b->Own σ s b:=by
  exact Zdt
 refine(h.2 ⟨λ_=>none,Own σ s⟩ w vals ⟨λid o ho=>by simp at ho,λid _ o _ _ _ _ ho=>by simp at ho,λb hb=>AU hI hb,λid o _ _ ho=>by simp at ho⟩ hl
  (λi x hx=>(hv i x hx).move (dO ha i x hx) e1)).mono λe w' ⟨u,v,σ',s',he,hE,jR,hR,hv',jT⟩=>?_
 subst hv';subst jT;have same:=zw (w':=w') hI hE.os hE.tape hE.output hE.size λb hb=>by
  by_cases ho:Own σ s b
  ·exact hE.gk b hb ho
  ·exact hE.bp b hb λh'=>ho (e1 b h')
 refine⟨u,_,σ,s,he,same.1,same.2,hR.move hr λb hb=>.inl ?_,hk⟩;rw[hE.base];exact hb
theorem dk{r:V}(h:aS P f args r)(hk:K r s)(ha:ak.go 0 args=true:=by first|rfl|simp [ak,ak.go,au,i64,bV,fY])(hr:ak 0 r=true:=by first|rfl|simp [ak,ak.go,au,i64,bV,fY]):av P f args s K:=bB h ha hr hk
def aI (ρ:List Nat):V->V
 |.so id g lo n=>.so (ρ.getD id 0) g lo n
 |.rf id g i off=>.rf (ρ.getD id 0) g i off
 |.pp id g i off b a=>.pp (ρ.getD id 0) g i off b a
 |.mp id g=>.mp (ρ.getD id 0) g
 |.ag cs=>.ag (go cs)
 |.tu cs=>.tu (go cs)
 |.bx v=>.bx (aI ρ v)
 |.cap lo hi v=>.cap lo hi (aI ρ v)
 |.cl fn first aj=>.cl fn (go first) (go aj)
 |.d x=>.d x
 |.fu aA=>.fu aA
 |.un=>.un
 |.any=>.any
where go:List V->List V
 |[]=>[]
 |v::vs=>aI ρ v::go vs
theorem jA (ρ:List Nat):∀(l:List V),aI.go ρ l=l.map (aI ρ)
 |[]=>rfl
 |v::vs=>by simp [aI.go,jA ρ vs]
def ba (ρ:List Nat) (o:Obj):Obj:={ o with aA:=o.aA.map (aI.go ρ) }
def aT (s:List Obj):List Nat->List Obj->List Obj
 |r::ρ,o::os=>aT (s.set r o) ρ os
 |_,_=>s
theorem py:∀(ρ:List Nat) (os:List Obj) (s:List Obj),(aT s ρ os).length=s.length
 |[],_,s=>by simp [aT]
 |r::ρ,[],s=>by simp [aT]
 |r::ρ,o::os,s=>by simp [aT,py ρ os]
theorem ij:∀(ρ:List Nat) (os:List Obj) (s:List Obj) (id:Nat),id ∉ ρ->(aT s ρ os)[id]?=s[id]?
 |[],_,s,id,_=>by simp [aT]
 |r::ρ,[],s,id,_=>by simp [aT]
 |r::ρ,o::os,s,id,h=>by simp only[alT,not_or]at h;simp only[aT];rw[ij ρ os _ id h.2,List.getElem?_set_ne (Ne.symm h.1)]
theorem yK:∀(ρ:List Nat) (os:List Obj) (s:List Obj) (k r:Nat) (o:Obj),ρ.Nodup->ρ[k]?=some r->os[k]?=some o->r<s.length->(aT s ρ os)[r]?=some o
 |[],_,s,k,r,o,_,h,_,_=>by simp at h
 |r'::ρ,[],s,k,r,o,_,_,h,_=>by simp at h
 |r'::ρ,o'::os,s,k,r,o,hn,h1,h2,h3=>by
  simp only[List.nodup_cons]at hn;simp only[aT];cases k with
  |zero =>
   simp only[List.getElem?_cons_zero,alb]at h1 h2;subst h1;subst h2;rw[ij ρ os _ r' hn.1,List.getElem?_set_self h3]
  |succ k=>exact yK ρ os _ k r o hn.2 (by simpa using h1) (by simpa using h2) (by simpa using h3)
section frame
variable {σ:Gh}{s exts:List Obj}{ρ:List Nat}{w:World}
variable{u:Value}{x:V}{o:Obj}{p:Option (Nat×Nat)}
theorem yZ {σc:Gh} (xb:∀b,Own σc exts b->Own σ s b) (hs:∀(k:Nat) (o:Obj),exts[k]?=some o->s[ρ.getD k 0]?=some (ba ρ o)) (hσ:∀k,k<exts.length->σc k=σ (ρ.getD k 0))
  {y:V} (hr:aD σ s w y u):∀{x:V},aI ρ x=y->ak exts.length x=true->aD σc exts w x u:=by
 induction hr with
 |d hx=>intro x he hh;cases x <;> simp only[aI,reduceCtorEq,V.d.injEq]at he;subst he;exact .d (hx.own xb)
 |fu hx=>intro x he hh;cases x <;> simp only[aI,reduceCtorEq,V.fu.injEq]at he;subst he;exact .fu (hx.own xb)
 |un=>intro x he hh;cases x <;> simp only[aI,reduceCtorEq]at he;exact .un
 |any=>intro x he hh;cases x <;> simp only[aI,reduceCtorEq]at he;exact .any
 |ag h1 h2 _ ih =>
  intro x he hh;cases x <;> simp only[aI,reduceCtorEq,V.ag.injEq]at he;rename_i cs;subst he;rw[jA]at h1 h2 ih;have g:∀(i:Nat) (x:V),cs[i]?=some x->(cs.map (aI ρ))[i]?=some (aI ρ x):=λi x hx=>by rw[List.getElem?_map,hx];rfl
  exact .ag (by simpa using h1) (λi x hx=>h2 i _ (g i x hx)) (λi x hx=>ih i _ (g i x hx) rfl (dO (by simpa only[ak]using hh) i x hx))
 |tu h1 _ ih =>
  intro x he hh;cases x <;> simp only[aI,reduceCtorEq,V.tu.injEq]at he;rename_i cs;subst he;rw[jA]at h1 ih;have g:∀(i:Nat) (x:V),cs[i]?=some x->(cs.map (aI ρ))[i]?=some (aI ρ x):=λi x hx=>by rw[List.getElem?_map,hx];rfl
  exact .tu (by simpa using h1) (λi x hx=>ih i _ (g i x hx) rfl (dO (by simpa only[ak]using hh) i x hx))
 |cap h1 _ ih =>
  intro x he hh;cases x <;> simp only[aI,reduceCtorEq,V.cap.injEq]at he;obtain⟨rfl,rfl,he⟩:=he;exact .cap h1 (ih he (by simpa only[ak]using hh))
 |bx h1 h2 h3 hu _ ih =>
  intro x he hh;cases x <;> simp only[aI,reduceCtorEq,V.bx.injEq]at he;exact .bx h1 h2 (λh'=>h3 (xb _ h')) hu (ih he (by simpa only[ak]using hh))
 |cl h1 _ h3 _ As mN =>
  intro x he hh;cases x <;> simp only[aI,reduceCtorEq,V.cl.injEq]at he;rename_i fn first aj
  obtain⟨rfl,rfl,rfl⟩:=he;rw[jA]at h1 As h3 mN;simp only[ak,alo]at hh;have g:∀(cs:List V) (i:Nat) (x:V),cs[i]?=some x->(cs.map (aI ρ))[i]?=some (aI ρ x):=λcs i x hx=>by rw[List.getElem?_map,hx];rfl
  exact .cl (by simpa using h1) (λi x hx=>As i _ (g _ i x hx) rfl (dO hh.1 i x hx)) (by simpa using h3) (λi x hx=>mN i _ (g _ i x hx) rfl (dO hh.2 i x hx))
 |so o ho hg hu hk =>
  intro x he hh;cases x <;> simp only[aI,reduceCtorEq,V.so.injEq]at he;rename_i id g lo n;obtain⟨rfl,rfl,rfl,rfl⟩:=he;simp only[ak,decide_eq_true_eq]at hh;have hx:=hs id exts[id] (by simp [hh]);rw[ho]at hx;simp only[alb]at hx;subst hx;refine .so exts[id] (by simp [hh]) hg hu λx6=>?_;have:=hk x6;unfold AK at this ⊢;rw[hσ id hh];exact this
 |rf o ho hg hu hk =>
  intro x he hh;cases x <;> simp only[aI,reduceCtorEq,V.rf.injEq]at he;rename_i id g lo n;obtain⟨rfl,rfl,rfl,rfl⟩:=he;simp only[ak,decide_eq_true_eq]at hh;have hx:=hs id exts[id] (by simp [hh]);rw[ho]at hx;simp only[alb]at hx;subst hx;refine .rf exts[id] (by simp [hh]) hg hu λx6=>?_;rw[hσ id hh];exact hk x6
 |pp o ho hg hk =>
  intro x he hh;cases x <;> simp only[aI,reduceCtorEq,V.pp.injEq]at he;rename_i id g lo n b a;obtain⟨rfl,rfl,rfl,rfl,rfl,rfl⟩:=he;simp only[ak,decide_eq_true_eq]at hh;have hx:=hs id exts[id] (by simp [hh]);rw[ho]at hx;simp only[alb]at hx;subst hx;refine .pp exts[id] (by simp [hh]) hg λx6=>?_;rw[hσ id hh];exact hk x6
 |mp o ho hg hu hk =>
  intro x he hh;cases x <;> simp only[aI,reduceCtorEq,V.mp.injEq]at he;rename_i id g;obtain⟨rfl,rfl⟩:=he;simp only[ak,decide_eq_true_eq]at hh;have hx:=hs id exts[id] (by simp [hh]);rw[ho]at hx;simp only[alb]at hx;subst hx;refine .mp exts[id] (by simp [hh]) hg hu λx6=>?_;rw[hσ id hh];exact hk x6
theorem UQ {σ' σn:Gh}{s' sn:List Obj}{w':World} (xb:∀b,Own σn sn b->Own σ' s' b) (hs:∀(k:Nat) (o:Obj),s'[k]?=some o->sn[ρ.getD k 0]?=some (ba ρ o)) (hσ:∀k,k<s'.length->σn (ρ.getD k 0)=σ' k)
  (hr:aD σ' s' w' x u):aD σn sn w' (aI ρ x) u:=by
 have g:∀(cs:List V) (i:Nat) (y:V),(cs.map (aI ρ))[i]?=some y->∃x,cs[i]?=some x/\aI ρ x=y:=λcs i y hy=>by rw[List.getElem?_map]at hy;exact Option.map_eq_some_iff.1 hy
 induction hr with
 |d hx=>exact .d (hx.own xb)
 |fu hx=>exact .fu (hx.own xb)
 |un=>exact .un
 |any=>exact .any
 |ag h1 h2 _ ih =>
  simp only[aI,jA];exact ZaV
 |tu h1 _ ih =>
  simp only[aI,jA];exact Zea
 |bx h1 h2 h3 hu _ ih=>simp only[aI];exact .bx h1 h2 (λh'=>h3 (xb _ h')) hu ih
 |cap h1 _ ih=>simp only[aI];exact .cap h1 ih
 |cl h1 _ h3 _ As mN =>
  simp only[aI,jA];exact ZaF
 |so o ho hg hu hk =>
  have aE:=(List.getElem?_eq_some_iff.1 ho).1;refine .so (ba ρ o) (hs _ o ho) hg hu λx6=>?_;have:=hk x6;unfold AK at this ⊢;rw[hσ _ aE];exact this
 |rf o ho hg hu hk =>
  have aE:=(List.getElem?_eq_some_iff.1 ho).1;refine .rf (ba ρ o) (hs _ o ho) hg hu λx6=>?_;rw[hσ _ aE];exact hk x6
 |pp o ho hg hk =>
  have aE:=(List.getElem?_eq_some_iff.1 ho).1;refine .pp (ba ρ o) (hs _ o ho) hg λx6=>?_;rw[hσ _ aE];exact hk x6
 |mp o ho hg hu hk =>
  have aE:=(List.getElem?_eq_some_iff.1 ho).1;refine .mp (ba ρ o) (hs _ o ho) hg hu λx6=>?_;rw[hσ _ aE];exact hk x6
theorem H0 {ρ:List Nat}{y:D} (h:aI ρ x=.d y):x=.d y:=by
 cases x <;> simp_all [aI]
theorem Pw {ρ:List Nat}:∀{aA:List (List V)}{es:List MapEntry},aA.map (aI.go ρ)=(es.map λe=>[V.d (.sc e.key),V.d (.sc e.val)])->aA=es.map λe=>[V.d (.sc e.key),V.d (.sc e.val)]
 |[],[],_=>rfl
 |[],_::_,h=>by simp at h
 |_::_,[],h=>by simp at h
 |e::aA,x::es,h=>by
  simp only[ak8,List.cons.injEq]at h ⊢;obtain⟨h1,h2⟩:=h;refine⟨?_,Pw h2⟩;rw[jA]at h1
  match e,h1 with
  |[a,b],h1 =>
   simp only[ak8,ak9,List.cons.injEq,and_true]at h1;rw[H0 h1.1,H0 h1.2]
  |[],h1=>simp at h1
  |[_],h1=>simp at h1
  |_::_::_::_,h1=>simp at h1
theorem wW.down {ρ:List Nat}{w:World} (h:wW w p (ba ρ o)):wW w p o:=by
 rcases h with ⟨h1,h2⟩|⟨b,es,c,h1,h2,h3⟩
 ·exact .inl ⟨h1,by simpa [ba]using h2⟩
 ·exact .inr ⟨b,es,c,h1,h2,Pw h3⟩
theorem wW.up {ρ:List Nat}{w:World} (h:wW w p o):wW w p (ba ρ o):=by
 rcases h with ⟨h1,h2⟩|⟨b,es,c,h1,h2,h3⟩
 ·exact .inl ⟨h1,by simp [ba,h2]⟩
 ·refine .inr ⟨b,es,c,h1,h2,?_⟩;simp only[ba,h3,fX,alH];apply alK;intro e _;rfl
theorem Kf {ρ:List Nat}{i j:Nat}{y:V} (h:((ba ρ o).aA[i]?.bind (·[j]?))=some y):∃x,(o.aA[i]?.bind (·[j]?))=some x/\aI ρ x=y:=by
 simp only[ba,List.getElem?_map]at h;cases he:o.aA[i]? with
 |none=>rw[he]at h;cases h
 |some e =>
  rw[he]at h;simp only[ala,alO,jA,List.getElem?_map]at h;exact Option.map_eq_some_iff.1 h
theorem H9 {ρ:List Nat}{i j:Nat} (h:(o.aA[i]?.bind (·[j]?))=some x):((ba ρ o).aA[i]?.bind (·[j]?))=some (aI ρ x):=by
 simp only[ba,List.getElem?_map];cases he:o.aA[i]? with
 |none=>rw[he]at h;cases h
 |some e =>
  rw[he]at h;simp only[ala,alO,jA,List.getElem?_map];rw[show e[j]?=some x from h];rfl
end frame
theorem x9 {P:Program}{f:FuncId}{cargs args:List V}{exts s:List Obj}{Kc K:V->List Obj->Prop} (h:av P f cargs exts Kc) (ρ:List Nat) (hρ:ρ.length=exts.length) (yl:ρ.Nodup)
  (hs:∀(k:Nat) (o:Obj),exts[k]?=some o->s[ρ.getD k 0]?=some (ba ρ o)) (kJ:args=cargs.map (aI ρ)) (xj:ak.go exts.length cargs=true) (rk:exts.all (aY exts.length)=true)
  (hk:∀v s',Kc v s'->s'.length=exts.length/\K (aI ρ v) (aT s ρ (s'.map (ba ρ)))):av P f args s K:=by
 refine⟨h.1,λσ w vals hI hl hv=>?_⟩;have X6:∀k,k<exts.length->ρ[k]?=some (ρ.getD k 0):=λk hk=>by simp [List.getD,show k<ρ.length by omega]
 have hρi:∀k k',k<exts.length->k'<exts.length->ρ.getD k 0=ρ.getD k' 0->k=k':=by intro k k' h1 h2 he;have e1:=X6 k h1;have e2:=X6 k' h2;rw[he]at e1;obtain⟨l1,g1⟩:=List.getElem?_eq_some_iff.1 e1;obtain⟨l2,g2⟩:=List.getElem?_eq_some_iff.1 e2;exact(List.getElem_inj yl).1 (g1.trans g2.symm)
 have JE:∀k,(hk:k<exts.length)->s[ρ.getD k 0]?=some (ba ρ exts[k]):=λk hk=>hs k exts[k] (by simp [hk]);let ur:Nat->Prop:=λb=>∃k base,k<exts.length/\σ (ρ.getD k 0)=some (b,base);let σc:Gh:=⟨λk=>if k<exts.length then σ (ρ.getD k 0) else none,λb=>Own σ s b/\¬ur b⟩
 have Jn:∀k,k<exts.length->σc k=σ (ρ.getD k 0):=λk hk=>be hk;have A0:∀b,Own σc exts b->Own σ s b:=by
  exact ZbI
 have SB:∀b,Own σ s b->Own σc exts b:=by
  exact ZaR
 have hIc:Inv σc exts w:=by
  exact Zal
 refine(h.2 σc w vals hIc (by rw[hl,kJ];simp) (λi x hx=>yZ A0 hs Jn (hv i _ (by rw[kJ,List.getElem?_map,hx];rfl)) rfl (dO xj i x hx))).mono λe w' ⟨u,v,σ',s',he,hE,jR,hR,hK⟩=>?_;obtain⟨hlen,hK⟩:=hk v s' hK;let σn:Gh:=⟨λid=>match ρ.idxOf? id with|some k=>σ' k|none=>σ id,σ.base⟩
 have Z6:∀k,k<exts.length->ρ.idxOf? (ρ.getD k 0)=some k:=by
  intro k hk;have e1:=X6 k hk;obtain⟨l1,g1⟩:=List.getElem?_eq_some_iff.1 e1;rw[List.idxOf?_eq_some_iff];refine⟨l1,by simp [g1],λj hj=>?_⟩;have VI:j<ρ.length:=ae;intro hb;have St:ρ[j]=ρ.getD k 0:=by simpa using hb
  have:=(List.getElem_inj yl).1 (St.trans g1.symm);omega
 have Jf:∀k,k<exts.length->σn (ρ.getD k 0)=σ' k:=λk hk=>by show (match ρ.idxOf? (ρ.getD k 0) with|some k=>σ' k|none=>σ (ρ.getD k 0))=σ' k;rw[Z6 k hk]
 have Kr:∀id,id ∉ ρ->σn id=σ id:=λid dA=>by show (match ρ.idxOf? id with|some k=>σ' k|none=>σ id)=σ id;rw[List.idxOf?_eq_none_iff.2 dA]
 have gZ:∀id,id∈ρ->∃k,k<exts.length/\id=ρ.getD k 0:=by intro id dA;obtain⟨k,hk⟩:=List.mem_iff_getElem?.1 dA;have aE:=(List.getElem?_eq_some_iff.1 hk).1;exact⟨k,ae,by simp [List.getD,hk]⟩
 have Ns:∀(k:Nat) (o:Obj),s'[k]?=some o->(aT s ρ (s'.map (ba ρ)))[ρ.getD k 0]?=some (ba ρ o):=by
  intro k o ho;have aE:k<exts.length:=by rw[<- hlen];exact(List.getElem?_eq_some_iff.1 ho).1
  exact yK ρ _ s k _ _ yl (X6 k aE) (by rw[List.getElem?_map,ho];rfl) (List.getElem?_eq_some_iff.1 (JE k aE)).1
 have vn:∀id,id ∉ ρ->(aT s ρ (s'.map (ba ρ)))[id]?=s[id]?:=λid dA=>ij ρ _ s id dA;have x5:∀(k:Nat) (o:Obj),k<exts.length->(aT s ρ (s'.map (ba ρ)))[ρ.getD k 0]?=some o->∃o',s'[k]?=some o'/\o=ba ρ o':=by intro k o aE ho;have aH:k<s'.length:=ae;have:=Ns k s'[k] (by simp [aH]);rw[ho]at this;exact⟨s'[k],by simp [aH],by simpa using this⟩
 have gk:∀b,b<w.heap.size->Own σ s b->¬ur b->w'.heap[b]?=w.heap[b]?:=λb hb h1 h2=>hE.gk b hb ⟨h1,h2⟩;have DF:∀b,σ.base b->¬ur b:=by rintro b hb ⟨k,base,aE,h3⟩;exact hI.apart _ _ b base (JE k aE) h3 hb
 have ss:∀id o b base,id ∉ ρ->s[id]?=some o->σ id=some (b,base)->o.live=true->¬ur b:=by rintro id o b base dA ho h1 Cu ⟨k,bT,aE,h3⟩;have:=hI.inj id _ o _ b base bT ho (JE k aE) Cu h1 h3;exact dA (by rw[this];exact List.mem_of_getElem? (X6 k aE))
 have Ud:∀b,Own σn (aT s ρ (s'.map (ba ρ))) b->Own σ' s' b:=by
  rintro b (hb|⟨id,o,base,h1,h2,h3⟩)
  ·left;rw[hE.base];exact⟨.inl hb,DF b hb⟩
  ·by_cases dA:id∈ρ
   ·exact Zcl
   ·exact Zcj
 have ZU:aK σ s w σn (aT s ρ (s'.map (ba ρ))) w':=by
  refine⟨hE.os,hE.tape,hE.output,hE.size,λb hb ho=>hE.bp b hb λh'=>ho (A0 b h'),λb arr E ho hh=>hE.shape b arr E (SB b ho) hh,λb ho hm=>hE.qY b (SB b ho) hm,λb hb=>?_,λid o ho=>?_,rfl,
   λb hb hf=>gk b hb (.inl hf) (DF b hf)⟩
  ·exact ZcQ
  ·by_cases dA:id∈ρ
   ·obtain⟨k,aE,rfl⟩:=gZ id dA;rw[JE k aE]at ho;simp only[alb]at ho;subst ho;obtain⟨o',g1,g2,g3⟩:=hE.bw k exts[k] (by simp [aE]);refine⟨ba ρ o',Ns k o' g1,g2,λhe=>?_⟩;obtain⟨e1,e2⟩:=g3 he;exact⟨e1,by rw[Jf k aE,e2,Jn k aE]⟩
   ·exact Zdm
 have up:∀{x:V}{u:Value},aD σ' s' w' x u->aD σn (aT s ρ (s'.map (ba ρ))) w' (aI ρ x) u:=λhr =>
  UQ Ud Ns (λk hk=>Jf k ae) hr
 have hIn:Inv σn (aT s ρ (s'.map (ba ρ))) w':=by
  refine⟨λid o ho=>?_,λid lL o o' b base bT h1 h2 h3 h4 h5=>?_,λb hb=>amr (hI.low b hb) hE.size,λid o b base h1 h2 hb=>?_⟩
  ·by_cases dA:id∈ρ
   ·exact ZaL
   ·exact ZaI
  ·by_cases dA:id∈ρ <;> by_cases yE:lL∈ρ
   ·exact Zbs
   ·exact ZaD
   ·exact Zbm
   ·exact Zck
  ·by_cases dA:id∈ρ
   ·exact ZbR
   ·exact Zdh
 exact⟨u,aI ρ v,σn,_,he,ZU,hIn,up hR,hK⟩
end Go.VL
namespace Go.Proofs.YtjjfioalgbecmaaGreat
open Go.VL Go.Proofs.Tryz
theorem aaJ:jn prog 22=some (3,⟨1,false,8,[.int .i64 0]⟩):=by kernel_rfl
theorem aax:jn prog 37=some (92,⟨2,true,16,[.int .i64 0,.int .i64 0]⟩):=by kernel_rfl
theorem ZB:jn prog 52=some (39,⟨3,true,40,[.int .i64 0,.int .i64 0,.slice none 0 0]⟩):=by kernel_rfl
theorem ab3:bW prog 1=some ⟨1,false,8,[.nilFunc]⟩/\bW prog 2=some ⟨1,false,8,[.int .i64 0]⟩/\prog.underlying 2=some (.int .i64)/\bW prog 3=some ⟨1,false,8,[.int .i64 0]⟩/\prog.underlying 3=some (.int .i64)/\bW prog 4=some ⟨1,false,1,[.bool false]⟩/\prog.underlying 4=some .bool/\bW prog 5=some ⟨1,false,1,[.int .u8 0]⟩/\prog.underlying 5=some (.int .u8)/\bW prog 7=some ⟨4,true,24,[.int .i64 0,.int .i64 0,.bool false,.int .u8 0]⟩/\aO prog 7 0=some 0/\aO prog 7 1=some 1/\aO prog 7 2=some 2/\aO prog 7 3=some 3/\bc prog 7=some [(0,1),(1,1),(2,1),(3,1)]/\bW prog 9=some ⟨1,false,16,[.string ⟨#[]⟩]⟩/\bW prog 12=some ⟨1,false,8,[.int .u64 0]⟩/\prog.underlying 12=some (.int .u64)/\bW prog 13=some ⟨2,true,24,[.string ⟨#[]⟩,.int .u64 0]⟩/\aO prog 13 0=some 0/\aO prog 13 1=some 1/\bc prog 13=some [(0,1),(1,1)]/\bW prog 15=some ⟨1,false,8,[.pointer none]⟩/\prog.underlying 15=some (.pointer 209)/\bW prog 16=some ⟨1,false,8,[.pointer none]⟩/\prog.underlying 16=some (.pointer 212)/\bW prog 17=some ⟨1,false,8,[.pointer none]⟩/\prog.underlying 17=some (.pointer 222)/\bW prog 18=some ⟨1,true,8,[.pointer none]⟩/\aO prog 18 0=some 0/\bc prog 18=some [(0,1)]/\bW prog 21=some ⟨1,false,4,[.int .i32 0]⟩/\prog.underlying 21=some (.int .i32)/\bW prog 22=some ⟨1,false,24,[.slice none 0 0]⟩/\EN prog 22=some 1/\jn prog 22=some (3,⟨1,false,8,[.int .i64 0]⟩)/\prog.underlying 22=some (.slice 3)/\bW prog 23=some ⟨1,false,24,[.slice none 0 0]⟩/\EN prog 23=some 2/\jn prog 23=some (70,⟨2,true,16,[.int .i64 0,.int .i64 0]⟩)/\prog.underlying 23=some (.slice 70)/\bW prog 24=some ⟨1,false,24,[.slice none 0 0]⟩/\EN prog 24=some 8/\jn prog 24=some (26,⟨8,true,96,[.int .i64 0,.slice none 0 0,.slice none 0 0,.int .i64 0,.int .i64 0,.int .i64 0,.int .i64 0,.bool false]⟩)/\prog.underlying 24=some (.slice 26)/\bW prog 25=some ⟨8,true,96,[.int .i64 0,.slice none 0 0,.slice none 0 0,.int .i64 0,.int .i64 0,.int .i64 0,.int .i64 0,.bool false]⟩/\aO prog 25 0=some 0/\aO prog 25 1=some 1/\aO prog 25 2=some 2/\aO prog 25 3=some 3/\aO prog 25 4=some 4/\aO prog 25 5=some 5/\aO prog 25 6=some 6/\aO prog 25 7=some 7/\bc prog 25=some [(0,1),(1,1),(2,1),(3,1),(4,1),(5,1),(6,1),(7,1)]/\bW prog 26=some ⟨8,true,96,[.int .i64 0,.slice none 0 0,.slice none 0 0,.int .i64 0,.int .i64 0,.int .i64 0,.int .i64 0,.bool false]⟩/\aO prog 26 0=some 0/\aO prog 26 1=some 1/\aO prog 26 2=some 2/\aO prog 26 3=some 3/\aO prog 26 4=some 4/\aO prog 26 5=some 5/\aO prog 26 6=some 6/\aO prog 26 7=some 7/\bc prog 26=some [(0,1),(1,1),(2,1),(3,1),(4,1),(5,1),(6,1),(7,1)]/\bW prog 27=some ⟨10,true,112,[.int .i64 0,.slice none 0 0,.slice none 0 0,.int .i64 0,.int .i64 0,.int .i64 0,.int .i64 0,.bool false,.int .i64 0,.bool false]⟩/\aO prog 27 0=some 0/\aO prog 27 1=some 8/\aO prog 27 2=some 9/\bc prog 27=some [(0,8),(8,1),(9,1)]:=by and_intros <;> kernel_rfl
theorem ac3:bW prog 28=some ⟨10,true,112,[.int .i64 0,.slice none 0 0,.slice none 0 0,.int .i64 0,.int .i64 0,.int .i64 0,.int .i64 0,.bool false,.int .i64 0,.bool false]⟩/\aO prog 28 0=some 0/\aO prog 28 1=some 8/\aO prog 28 2=some 9/\bc prog 28=some [(0,8),(8,1),(9,1)]/\bW prog 30=some ⟨1,false,8,[.nilFunc]⟩/\bW prog 31=some ⟨1,false,8,[.pointer none]⟩/\prog.underlying 31=some (.pointer 74)/\bW prog 32=some ⟨1,false,8,[.int .i64 0]⟩/\prog.underlying 32=some (.int .i64)/\bW prog 34=some ⟨1,false,8,[.nilFunc]⟩/\bW prog 35=some ⟨1,false,8,[.nilFunc]⟩/\bW prog 36=some ⟨1,false,8,[.nilFunc]⟩/\bW prog 37=some ⟨1,false,24,[.slice none 0 0]⟩/\EN prog 37=some 2/\jn prog 37=some (92,⟨2,true,16,[.int .i64 0,.int .i64 0]⟩)/\prog.underlying 37=some (.slice 92)/\bW prog 38=some ⟨3,true,40,[.int .i64 0,.int .i64 0,.slice none 0 0]⟩/\aO prog 38 0=some 0/\aO prog 38 1=some 1/\aO prog 38 2=some 2/\bc prog 38=some [(0,1),(1,1),(2,1)]/\bW prog 39=some ⟨3,true,40,[.int .i64 0,.int .i64 0,.slice none 0 0]⟩/\aO prog 39 0=some 0/\aO prog 39 1=some 1/\aO prog 39 2=some 2/\bc prog 39=some [(0,1),(1,1),(2,1)]/\bW prog 41=some ⟨1,false,8,[.nilFunc]⟩/\bW prog 43=some ⟨1,false,8,[.nilFunc]⟩/\bW prog 44=some ⟨1,false,8,[.nilFunc]⟩/\bW prog 45=some ⟨1,false,8,[.nilFunc]⟩/\bW prog 46=some ⟨1,false,8,[.nilFunc]⟩/\bW prog 47=some ⟨1,false,24,[.slice none 0 0]⟩/\EN prog 47=some 5/\jn prog 47=some (108,⟨5,true,56,[.int .i64 0,.int .i64 0,.int .i64 0,.int .i64 0,.slice none 0 0]⟩)/\prog.underlying 47=some (.slice 108)/\bW prog 48=some ⟨3,true,40,[.slice none 0 0,.int .i64 0,.bool false]⟩/\aO prog 48 0=some 0/\aO prog 48 1=some 1/\aO prog 48 2=some 2/\bc prog 48=some [(0,1),(1,1),(2,1)]/\bW prog 49=some ⟨3,true,40,[.slice none 0 0,.int .i64 0,.bool false]⟩/\aO prog 49 0=some 0/\aO prog 49 1=some 1/\aO prog 49 2=some 2/\bc prog 49=some [(0,1),(1,1),(2,1)]/\bW prog 51=some ⟨1,false,8,[.nilFunc]⟩/\bW prog 52=some ⟨1,false,24,[.slice none 0 0]⟩/\EN prog 52=some 3/\jn prog 52=some (39,⟨3,true,40,[.int .i64 0,.int .i64 0,.slice none 0 0]⟩)/\prog.underlying 52=some (.slice 39)/\bW prog 54=some ⟨1,false,8,[.nilFunc]⟩/\bW prog 55=some ⟨1,false,8,[.nilFunc]⟩/\bW prog 56=some ⟨1,false,24,[.slice none 0 0]⟩/\EN prog 56=some 1/\jn prog 56=some (79,⟨1,false,24,[.slice none 0 0]⟩)/\prog.underlying 56=some (.slice 79)/\bW prog 58=some ⟨1,false,8,[.nilFunc]⟩/\bW prog 59=some ⟨1,false,8,[.nilFunc]⟩/\bW prog 60=some ⟨1,false,8,[.nilFunc]⟩/\bW prog 61=some ⟨1,false,8,[.nilFunc]⟩/\bW prog 62=some ⟨1,false,8,[.nilFunc]⟩/\bW prog 63=some ⟨1,false,24,[.slice none 0 0]⟩/\EN prog 63=some 5/\jn prog 63=some (123,⟨5,true,56,[.int .i64 0,.int .i64 0,.int .i64 0,.int .i64 0,.slice none 0 0]⟩)/\prog.underlying 63=some (.slice 123)/\bW prog 64=some ⟨3,true,40,[.slice none 0 0,.int .i64 0,.bool false]⟩/\aO prog 64 0=some 0/\aO prog 64 1=some 1/\aO prog 64 2=some 2:=by and_intros <;> kernel_rfl
theorem adh:bc prog 64=some [(0,1),(1,1),(2,1)]/\bW prog 65=some ⟨3,true,40,[.slice none 0 0,.int .i64 0,.bool false]⟩/\aO prog 65 0=some 0/\aO prog 65 1=some 1/\aO prog 65 2=some 2/\bc prog 65=some [(0,1),(1,1),(2,1)]/\bW prog 67=some ⟨1,false,8,[.nilFunc]⟩/\bW prog 68=some ⟨1,false,8,[.nilFunc]⟩/\bW prog 69=some ⟨2,true,16,[.int .i64 0,.int .i64 0]⟩/\aO prog 69 0=some 0/\aO prog 69 1=some 1/\bc prog 69=some [(0,1),(1,1)]/\bW prog 70=some ⟨2,true,16,[.int .i64 0,.int .i64 0]⟩/\aO prog 70 0=some 0/\aO prog 70 1=some 1/\bc prog 70=some [(0,1),(1,1)]/\bW prog 71=some ⟨1,false,8,[.nilFunc]⟩/\bW prog 72=some ⟨1,false,24,[.slice none 0 0]⟩/\EN prog 72=some 3/\jn prog 72=some (146,⟨3,true,40,[.int .i64 0,.slice none 0 0,.pointer none]⟩)/\prog.underlying 72=some (.slice 146)/\bW prog 73=some ⟨19,true,224,[.int .i64 0,.slice none 0 0,.slice none 0 0,.int .i64 0,.int .i64 0,.int .i64 0,.int .i64 0,.bool false,.int .i64 0,.bool false,.slice none 0 0,.slice none 0 0,.slice none 0 0,.int .i64 0,.int .i64 0,.int .i64 0,.int .i64 0,.bool false,.bool false]⟩/\aO prog 73 0=some 0/\aO prog 73 1=some 10/\aO prog 73 2=some 11/\aO prog 73 3=some 12/\aO prog 73 4=some 13/\aO prog 73 5=some 14/\aO prog 73 6=some 15/\aO prog 73 7=some 16/\aO prog 73 8=some 17/\aO prog 73 9=some 18/\bc prog 73=some [(0,10),(10,1),(11,1),(12,1),(13,1),(14,1),(15,1),(16,1),(17,1),(18,1)]/\bW prog 74=some ⟨19,true,224,[.int .i64 0,.slice none 0 0,.slice none 0 0,.int .i64 0,.int .i64 0,.int .i64 0,.int .i64 0,.bool false,.int .i64 0,.bool false,.slice none 0 0,.slice none 0 0,.slice none 0 0,.int .i64 0,.int .i64 0,.int .i64 0,.int .i64 0,.bool false,.bool false]⟩/\aO prog 74 0=some 0/\aO prog 74 1=some 10/\aO prog 74 2=some 11/\aO prog 74 3=some 12/\aO prog 74 4=some 13/\aO prog 74 5=some 14/\aO prog 74 6=some 15/\aO prog 74 7=some 16/\aO prog 74 8=some 17/\aO prog 74 9=some 18/\bc prog 74=some [(0,10),(10,1),(11,1),(12,1),(13,1),(14,1),(15,1),(16,1),(17,1),(18,1)]/\bW prog 75=some ⟨1,false,8,[.nilFunc]⟩/\bW prog 76=some ⟨10,true,10,[.bool false,.bool false,.bool false,.bool false,.bool false,.bool false,.bool false,.bool false,.bool false,.bool false]⟩/\EN prog 76=none/\Yv prog 76=some (10,1)/\bc prog 76=none/\bW prog 77=some ⟨1,false,8,[.nilFunc]⟩/\bW prog 78=some ⟨1,false,8,[.nilFunc]⟩/\bW prog 79=some ⟨1,false,24,[.slice none 0 0]⟩/\EN prog 79=some 1/\jn prog 79=some (4,⟨1,false,1,[.bool false]⟩)/\prog.underlying 79=some (.slice 4)/\bW prog 80=some ⟨1,false,8,[.pointer none]⟩/\prog.underlying 80=some (.pointer 88)/\bW prog 82=some ⟨1,false,8,[.nilFunc]⟩/\bW prog 83=some ⟨1,false,24,[.slice none 0 0]⟩/\EN prog 83=some 5/\jn prog 83=some (131,⟨5,true,40,[.int .i64 0,.int .i64 0,.int .i64 0,.int .i64 0,.nilFunc]⟩)/\prog.underlying 83=some (.slice 131)/\bW prog 84=some ⟨1,false,8,[.nilFunc]⟩/\bW prog 85=some ⟨1,false,8,[.pointer none]⟩/\prog.underlying 85=some (.pointer 127)/\bW prog 86=some ⟨1,false,24,[.slice none 0 0]⟩/\EN prog 86=some 1/\jn prog 86=some (85,⟨1,false,8,[.pointer none]⟩)/\prog.underlying 86=some (.slice 85):=by and_intros <;> kernel_rfl
theorem ac8:bW prog 87=some ⟨4,true,80,[.slice none 0 0,.pointer none,.slice none 0 0,.slice none 0 0]⟩/\aO prog 87 0=some 0/\aO prog 87 1=some 1/\aO prog 87 2=some 2/\aO prog 87 3=some 3/\bc prog 87=some [(0,1),(1,1),(2,1),(3,1)]/\bW prog 88=some ⟨4,true,80,[.slice none 0 0,.pointer none,.slice none 0 0,.slice none 0 0]⟩/\aO prog 88 0=some 0/\aO prog 88 1=some 1/\aO prog 88 2=some 2/\aO prog 88 3=some 3/\bc prog 88=some [(0,1),(1,1),(2,1),(3,1)]/\bW prog 90=some ⟨1,false,8,[.nilFunc]⟩/\bW prog 91=some ⟨1,false,8,[.nilFunc]⟩/\bW prog 92=some ⟨2,true,16,[.int .i64 0,.int .i64 0]⟩/\EN prog 92=none/\Yv prog 92=some (2,1)/\bc prog 92=none/\jg prog 92=some (2,.i64)/\bW prog 93=some ⟨6,true,64,[.int .i64 0,.int .i64 0,.slice none 0 0,.bool false,.int .i64 0,.int .i64 0]⟩/\aO prog 93 0=some 0/\aO prog 93 1=some 3/\aO prog 93 2=some 4/\aO prog 93 3=some 5/\bc prog 93=some [(0,3),(3,1),(4,1),(5,1)]/\bW prog 94=some ⟨6,true,64,[.int .i64 0,.int .i64 0,.slice none 0 0,.bool false,.int .i64 0,.int .i64 0]⟩/\aO prog 94 0=some 0/\aO prog 94 1=some 3/\aO prog 94 2=some 4/\aO prog 94 3=some 5/\bc prog 94=some [(0,3),(3,1),(4,1),(5,1)]/\bW prog 95=some ⟨1,false,8,[.nilFunc]⟩/\bW prog 96=some ⟨1,false,8,[.pointer none]⟩/\prog.underlying 96=some (.pointer 148)/\bW prog 97=some ⟨3,true,40,[.int .i64 0,.slice none 0 0,.pointer none]⟩/\aO prog 97 0=some 0/\aO prog 97 1=some 1/\aO prog 97 2=some 2/\bc prog 97=some [(0,1),(1,1),(2,1)]/\bW prog 98=some ⟨3,true,40,[.int .i64 0,.slice none 0 0,.pointer none]⟩/\aO prog 98 0=some 0/\aO prog 98 1=some 1/\aO prog 98 2=some 2/\bc prog 98=some [(0,1),(1,1),(2,1)]/\bW prog 100=some ⟨1,false,8,[.nilFunc]⟩/\bW prog 101=some ⟨1,false,8,[.nilFunc]⟩/\bW prog 102=some ⟨1,false,8,[.pointer none]⟩/\prog.underlying 102=some (.pointer 26)/\bW prog 103=some ⟨1,false,8,[.nilFunc]⟩/\bW prog 104=some ⟨1,false,8,[.nilFunc]⟩/\bW prog 105=some ⟨1,false,8,[.nilFunc]⟩/\bW prog 106=some ⟨1,false,8,[.nilFunc]⟩/\bW prog 107=some ⟨5,true,56,[.int .i64 0,.int .i64 0,.int .i64 0,.int .i64 0,.slice none 0 0]⟩/\aO prog 107 0=some 0/\aO prog 107 1=some 1/\aO prog 107 2=some 2/\aO prog 107 3=some 3/\aO prog 107 4=some 4/\bc prog 107=some [(0,1),(1,1),(2,1),(3,1),(4,1)]/\bW prog 108=some ⟨5,true,56,[.int .i64 0,.int .i64 0,.int .i64 0,.int .i64 0,.slice none 0 0]⟩/\aO prog 108 0=some 0/\aO prog 108 1=some 1/\aO prog 108 2=some 2/\aO prog 108 3=some 3/\aO prog 108 4=some 4/\bc prog 108=some [(0,1),(1,1),(2,1),(3,1),(4,1)]/\bW prog 109=some ⟨1,false,8,[.pointer none]⟩/\prog.underlying 109=some (.pointer 156)/\bW prog 111=some ⟨1,false,8,[.nilFunc]⟩/\bW prog 112=some ⟨1,false,8,[.nilFunc]⟩:=by and_intros <;> kernel_rfl
theorem ac1:bW prog 113=some ⟨1,false,8,[.nilFunc]⟩/\bW prog 114=some ⟨1,false,8,[.nilFunc]⟩/\bW prog 115=some ⟨1,false,8,[.nilFunc]⟩/\bW prog 116=some ⟨1,false,8,[.nilFunc]⟩/\bW prog 117=some ⟨1,false,8,[.nilFunc]⟩/\bW prog 119=some ⟨1,false,8,[.nilFunc]⟩/\bW prog 120=some ⟨1,false,8,[.nilFunc]⟩/\bW prog 121=some ⟨1,false,8,[.nilFunc]⟩/\bW prog 122=some ⟨1,false,8,[.nilFunc]⟩/\bW prog 123=some ⟨5,true,56,[.int .i64 0,.int .i64 0,.int .i64 0,.int .i64 0,.slice none 0 0]⟩/\aO prog 123 0=some 0/\aO prog 123 1=some 1/\aO prog 123 2=some 2/\aO prog 123 3=some 3/\aO prog 123 4=some 4/\bc prog 123=some [(0,1),(1,1),(2,1),(3,1),(4,1)]/\bW prog 124=some ⟨1,false,8,[.nilFunc]⟩/\bW prog 125=some ⟨1,false,8,[.nilFunc]⟩/\bW prog 126=some ⟨10,true,128,[.int .i64 0,.slice none 0 0,.slice none 0 0,.int .i64 0,.int .i64 0,.int .i64 0,.int .i64 0,.bool false,.slice none 0 0,.int .i64 0]⟩/\aO prog 126 0=some 0/\aO prog 126 1=some 8/\aO prog 126 2=some 9/\bc prog 126=some [(0,8),(8,1),(9,1)]/\bW prog 127=some ⟨10,true,128,[.int .i64 0,.slice none 0 0,.slice none 0 0,.int .i64 0,.int .i64 0,.int .i64 0,.int .i64 0,.bool false,.slice none 0 0,.int .i64 0]⟩/\aO prog 127 0=some 0/\aO prog 127 1=some 8/\aO prog 127 2=some 9/\bc prog 127=some [(0,8),(8,1),(9,1)]/\bW prog 128=some ⟨1,false,8,[.nilFunc]⟩/\bW prog 129=some ⟨1,false,8,[.nilFunc]⟩/\bW prog 130=some ⟨5,true,40,[.int .i64 0,.int .i64 0,.int .i64 0,.int .i64 0,.nilFunc]⟩/\aO prog 130 0=some 0/\aO prog 130 1=some 1/\aO prog 130 2=some 2/\aO prog 130 3=some 3/\aO prog 130 4=some 4/\bc prog 130=some [(0,1),(1,1),(2,1),(3,1),(4,1)]/\bW prog 131=some ⟨5,true,40,[.int .i64 0,.int .i64 0,.int .i64 0,.int .i64 0,.nilFunc]⟩/\aO prog 131 0=some 0/\aO prog 131 1=some 1/\aO prog 131 2=some 2/\aO prog 131 3=some 3/\aO prog 131 4=some 4/\bc prog 131=some [(0,1),(1,1),(2,1),(3,1),(4,1)]/\bW prog 132=some ⟨1,false,8,[.nilFunc]⟩/\bW prog 133=some ⟨1,false,8,[.nilFunc]⟩/\bW prog 134=some ⟨1,false,8,[.nilFunc]⟩/\bW prog 135=some ⟨1,false,8,[.nilFunc]⟩/\bW prog 136=some ⟨1,false,8,[.nilFunc]⟩/\bW prog 137=some ⟨1,false,24,[.slice none 0 0]⟩/\EN prog 137=some 2/\jn prog 137=some (140,⟨2,true,32,[.int .i64 0,.slice none 0 0]⟩)/\prog.underlying 137=some (.slice 140)/\bW prog 138=some ⟨1,false,8,[.nilFunc]⟩/\bW prog 139=some ⟨2,true,32,[.int .i64 0,.slice none 0 0]⟩/\aO prog 139 0=some 0/\aO prog 139 1=some 1/\bc prog 139=some [(0,1),(1,1)]/\bW prog 140=some ⟨2,true,32,[.int .i64 0,.slice none 0 0]⟩/\aO prog 140 0=some 0/\aO prog 140 1=some 1/\bc prog 140=some [(0,1),(1,1)]/\bW prog 141=some ⟨1,false,8,[.nilFunc]⟩/\bW prog 142=some ⟨1,false,8,[.int .u64 0]⟩/\prog.underlying 142=some (.int .u64)/\bW prog 143=some ⟨1,false,8,[.nilFunc]⟩/\bW prog 144=some ⟨1,false,8,[.nilFunc]⟩/\bW prog 145=some ⟨3,true,40,[.int .i64 0,.slice none 0 0,.pointer none]⟩/\aO prog 145 0=some 0/\bc prog 145=some [(0,3)]:=by and_intros <;> kernel_rfl
theorem adM:bW prog 146=some ⟨3,true,40,[.int .i64 0,.slice none 0 0,.pointer none]⟩/\aO prog 146 0=some 0/\bc prog 146=some [(0,3)]/\bW prog 147=some ⟨5,true,40,[.int .i64 0,.pointer none,.int .i64 0,.int .i64 0,.pointer none]⟩/\aO prog 147 0=some 0/\aO prog 147 1=some 1/\aO prog 147 2=some 2/\aO prog 147 3=some 3/\aO prog 147 4=some 4/\bc prog 147=some [(0,1),(1,1),(2,1),(3,1),(4,1)]/\bW prog 148=some ⟨5,true,40,[.int .i64 0,.pointer none,.int .i64 0,.int .i64 0,.pointer none]⟩/\aO prog 148 0=some 0/\aO prog 148 1=some 1/\aO prog 148 2=some 2/\aO prog 148 3=some 3/\aO prog 148 4=some 4/\bc prog 148=some [(0,1),(1,1),(2,1),(3,1),(4,1)]/\bW prog 149=some ⟨1,false,8,[.nilFunc]⟩/\bW prog 150=some ⟨1,false,8,[.nilFunc]⟩/\bW prog 151=some ⟨1,false,8,[.nilFunc]⟩/\bW prog 152=some ⟨1,false,8,[.nilFunc]⟩/\bW prog 153=some ⟨1,false,8,[.nilFunc]⟩/\bW prog 154=some ⟨1,false,8,[.nilFunc]⟩/\bW prog 155=some ⟨5,true,88,[.slice none 0 0,.int .i64 0,.bool false,.slice none 0 0,.slice none 0 0]⟩/\aO prog 155 0=some 0/\aO prog 155 1=some 3/\aO prog 155 2=some 4/\bc prog 155=some [(0,3),(3,1),(4,1)]/\bW prog 156=some ⟨5,true,88,[.slice none 0 0,.int .i64 0,.bool false,.slice none 0 0,.slice none 0 0]⟩/\aO prog 156 0=some 0/\aO prog 156 1=some 3/\aO prog 156 2=some 4/\bc prog 156=some [(0,3),(3,1),(4,1)]/\bW prog 157=some ⟨1,false,8,[.nilFunc]⟩/\bW prog 158=some ⟨1,false,24,[.slice none 0 0]⟩/\EN prog 158=some 3/\jn prog 158=some (160,⟨3,true,40,[.int .i64 0,.int .i64 0,.slice none 0 0]⟩)/\prog.underlying 158=some (.slice 160)/\bW prog 159=some ⟨3,true,40,[.int .i64 0,.int .i64 0,.slice none 0 0]⟩/\aO prog 159 0=some 0/\aO prog 159 1=some 1/\aO prog 159 2=some 2/\bc prog 159=some [(0,1),(1,1),(2,1)]/\bW prog 160=some ⟨3,true,40,[.int .i64 0,.int .i64 0,.slice none 0 0]⟩/\aO prog 160 0=some 0/\aO prog 160 1=some 1/\aO prog 160 2=some 2/\bc prog 160=some [(0,1),(1,1),(2,1)]/\bW prog 161=some ⟨1,false,8,[.nilFunc]⟩/\bW prog 162=some ⟨1,false,8,[.nilFunc]⟩/\bW prog 163=some ⟨1,false,8,[.pointer none]⟩/\prog.underlying 163=some (.pointer 165)/\bW prog 164=some ⟨5,true,56,[.slice none 0 0,.int .i64 0,.int .i64 0,.int .i64 0,.int .i64 0]⟩/\aO prog 164 0=some 0/\aO prog 164 1=some 1/\aO prog 164 2=some 2/\aO prog 164 3=some 3/\aO prog 164 4=some 4/\bc prog 164=some [(0,1),(1,1),(2,1),(3,1),(4,1)]/\bW prog 165=some ⟨5,true,56,[.slice none 0 0,.int .i64 0,.int .i64 0,.int .i64 0,.int .i64 0]⟩/\aO prog 165 0=some 0/\aO prog 165 1=some 1/\aO prog 165 2=some 2/\aO prog 165 3=some 3/\aO prog 165 4=some 4/\bc prog 165=some [(0,1),(1,1),(2,1),(3,1),(4,1)]/\bW prog 166=some ⟨1,false,8,[.nilFunc]⟩/\bW prog 167=some ⟨1,false,8,[.nilFunc]⟩/\bW prog 168=some ⟨1,false,8,[.pointer none]⟩/\prog.underlying 168=some (.pointer 171):=by and_intros <;> kernel_rfl
theorem acm:bW prog 169=some ⟨1,false,24,[.slice none 0 0]⟩/\EN prog 169=some 1/\jn prog 169=some (37,⟨1,false,24,[.slice none 0 0]⟩)/\prog.underlying 169=some (.slice 37)/\bW prog 170=some ⟨7,true,104,[.slice none 0 0,.int .i64 0,.int .i64 0,.int .i64 0,.bool false,.slice none 0 0,.slice none 0 0]⟩/\aO prog 170 0=some 0/\aO prog 170 1=some 1/\aO prog 170 2=some 2/\aO prog 170 3=some 3/\aO prog 170 4=some 4/\aO prog 170 5=some 5/\aO prog 170 6=some 6/\bc prog 170=some [(0,1),(1,1),(2,1),(3,1),(4,1),(5,1),(6,1)]/\bW prog 171=some ⟨7,true,104,[.slice none 0 0,.int .i64 0,.int .i64 0,.int .i64 0,.bool false,.slice none 0 0,.slice none 0 0]⟩/\aO prog 171 0=some 0/\aO prog 171 1=some 1/\aO prog 171 2=some 2/\aO prog 171 3=some 3/\aO prog 171 4=some 4/\aO prog 171 5=some 5/\aO prog 171 6=some 6/\bc prog 171=some [(0,1),(1,1),(2,1),(3,1),(4,1),(5,1),(6,1)]/\bW prog 172=some ⟨1,false,8,[.nilFunc]⟩/\bW prog 173=some ⟨1,false,8,[.pointer none]⟩/\prog.underlying 173=some (.pointer 175)/\bW prog 174=some ⟨12,true,128,[.int .i64 0,.int .i64 0,.slice none 0 0,.slice none 0 0,.int .i64 0,.int .i64 0,.int .i64 0,.int .i64 0,.bool false,.int .i64 0,.int .i64 0,.pointer none]⟩/\aO prog 174 0=some 0/\aO prog 174 1=some 1/\aO prog 174 2=some 9/\aO prog 174 3=some 10/\aO prog 174 4=some 11/\bc prog 174=some [(0,1),(1,8),(9,1),(10,1),(11,1)]/\bW prog 175=some ⟨12,true,128,[.int .i64 0,.int .i64 0,.slice none 0 0,.slice none 0 0,.int .i64 0,.int .i64 0,.int .i64 0,.int .i64 0,.bool false,.int .i64 0,.int .i64 0,.pointer none]⟩/\aO prog 175 0=some 0/\aO prog 175 1=some 1/\aO prog 175 2=some 9/\aO prog 175 3=some 10/\aO prog 175 4=some 11/\bc prog 175=some [(0,1),(1,8),(9,1),(10,1),(11,1)]/\bW prog 176=some ⟨1,false,8,[.nilFunc]⟩/\bW prog 177=some ⟨1,false,8,[.nilFunc]⟩/\bW prog 178=some ⟨1,false,8,[.nilFunc]⟩/\bW prog 180=some ⟨1,false,8,[.nilFunc]⟩/\bW prog 181=some ⟨1,false,8,[.nilFunc]⟩/\bW prog 182=some ⟨1,false,8,[.nilFunc]⟩/\bW prog 183=some ⟨1,false,8,[.nilFunc]⟩/\bW prog 184=some ⟨1,false,8,[.nilFunc]⟩/\bW prog 185=some ⟨1,false,8,[.nilFunc]⟩/\bW prog 186=some ⟨1,false,8,[.nilFunc]⟩/\bW prog 187=some ⟨1,false,8,[.nilFunc]⟩/\bW prog 188=some ⟨1,false,8,[.pointer none]⟩/\prog.underlying 188=some (.pointer 108)/\bW prog 189=some ⟨1,false,8,[.nilFunc]⟩/\bW prog 190=some ⟨1,false,8,[.nilFunc]⟩/\bW prog 191=some ⟨1,false,8,[.nilFunc]⟩/\bW prog 192=some ⟨1,false,8,[.nilFunc]⟩/\bW prog 193=some ⟨1,false,8,[.nilFunc]⟩/\bW prog 194=some ⟨1,false,8,[.nilFunc]⟩/\bW prog 195=some ⟨3,true,24,[.int .i64 0,.int .i64 0,.int .i64 0]⟩/\aO prog 195 0=some 0/\aO prog 195 1=some 1/\aO prog 195 2=some 2/\bc prog 195=some [(0,1),(1,1),(2,1)]/\bW prog 196=some ⟨3,true,24,[.int .i64 0,.int .i64 0,.int .i64 0]⟩/\aO prog 196 0=some 0/\aO prog 196 1=some 1/\aO prog 196 2=some 2/\bc prog 196=some [(0,1),(1,1),(2,1)]/\bW prog 197=some ⟨1,false,8,[.nilFunc]⟩/\bW prog 198=some ⟨1,false,24,[.slice none 0 0]⟩:=by and_intros <;> kernel_rfl
theorem ac6:EN prog 198=some 1/\jn prog 198=some (23,⟨1,false,24,[.slice none 0 0]⟩)/\prog.underlying 198=some (.slice 23)/\bW prog 200=some ⟨1,false,8,[.nilFunc]⟩/\bW prog 201=some ⟨1,false,8,[.nilFunc]⟩/\bW prog 203=some ⟨1,false,8,[.nilFunc]⟩/\bW prog 205=some ⟨1,false,8,[.nilFunc]⟩/\bW prog 206=some ⟨1,false,8,[.nilFunc]⟩/\bW prog 207=some ⟨1,false,8,[.nilFunc]⟩/\bW prog 208=some ⟨4,true,40,[.pointer none,.pointer none,.pointer none,.string ⟨#[]⟩]⟩/\aO prog 208 0=some 0/\aO prog 208 1=some 1/\aO prog 208 2=some 2/\aO prog 208 3=some 3/\bc prog 208=some [(0,1),(1,1),(2,1),(3,1)]/\bW prog 210=some ⟨0,true,0,[]⟩/\EN prog 210=none/\Yv prog 210=some (0,1)/\bc prog 210=none/\bW prog 211=some ⟨0,true,0,[]⟩/\bc prog 211=some [(0,0)]/\bW prog 213=some ⟨1,false,8,[.nilFunc]⟩/\bW prog 214=some ⟨1,false,4,[.int .u32 0]⟩/\prog.underlying 214=some (.int .u32)/\bW prog 217=some ⟨1,false,8,[.nilFunc]⟩/\bW prog 218=some ⟨1,false,8,[.pointer none]⟩/\prog.underlying 218=some (.pointer 5)/\bW prog 221=some ⟨11,true,48,[.int .u64 0,.int .u64 0,.int .u32 0,.int .u8 0,.int .u8 0,.int .u8 0,.int .u8 0,.nilFunc,.pointer none,.int .i32 0,.int .i32 0]⟩/\aO prog 221 0=some 0/\aO prog 221 1=some 1/\aO prog 221 2=some 2/\aO prog 221 3=some 3/\aO prog 221 4=some 4/\aO prog 221 5=some 5/\aO prog 221 6=some 6/\aO prog 221 7=some 7/\aO prog 221 8=some 8/\aO prog 221 9=some 9/\aO prog 221 10=some 10/\bc prog 221=some [(0,1),(1,1),(2,1),(3,1),(4,1),(5,1),(6,1),(7,1),(8,1),(9,1),(10,1)]:=by and_intros <;> kernel_rfl
abbrev rJ:=am @ab3 @ac3 @adh @ac8 @ac1 @adM @acm @ac6
end Go.Proofs.YtjjfioalgbecmaaGreat
