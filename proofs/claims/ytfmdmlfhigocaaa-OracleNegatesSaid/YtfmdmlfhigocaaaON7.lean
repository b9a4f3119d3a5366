/- A part of the proof (Vm). -/
import Derived.Test.YtfmdmlfhigocaaaON6
set_option linter.unusedSimpArgs false
set_option linter.unusedVariables false
set_option maxRecDepth 100000
set_option maxHeartbeats 80000000
namespace Go.VL
variable{f:FuncId}{s:List Obj}{P:Program}{args:List V}{K:V->List Obj->Prop}
theorem ao{K':V->List Obj->Prop} (h:aq P f args s K) (hk:∀v s',K v s'->K' v s'):aq P f args s K' :=
 ⟨h.1,λσ w vals hI hl hv=>(h.2 σ w vals hI hl hv).mono λ_ _ ⟨u,v,σ',s',a,b,c,d,e⟩=>⟨u,v,σ',s',a,b,c,d,hk v s' e⟩⟩
theorem aA.move {σ σ':Gh}{s':List Obj}{w:World}{x:V}{u:Value} (hr:aA σ s w x u) (h:ah 0 x=true) (iG:∀b,Own σ' s' b->Own σ s b):aA σ' s' w x u:=by
 induction hr with
 |d hx=>exact .d (hx.own iG)
 |ag h1 h2 _ ih=>exact .ag h1 h2 λi x hx=>ih i x hx (dw (by simpa only[ah]using h) i x hx)
 |tu h1 _ ih=>exact .tu h1 λi x hx=>ih i x hx (dw (by simpa only[ah]using h) i x hx)
 |fu hx=>exact .fu (hx.own iG)
 |so o ho hg hu hk=>simp [ah]at h
 |rf o ho hg hu hk=>simp [ah]at h
 |pp o ho hg hk=>simp [ah]at h
 |mp o ho hg hu hk=>simp [ah]at h
 |bx h1 h2 h3 hu _ ih=>exact .bx h1 h2 (λh'=>h3 (iG _ h')) hu (ih (by simpa only[ah]using h))
 |cap h1 _ ih=>exact .cap h1 (ih (by simpa only[ah]using h))
 |cl h1 _ h3 _ yp ym =>
  simp only[ah,agb]at h;exact .cl h1 (λi x hx=>yp i x hx (dw h.1 i x hx)) h3 (λi x hx=>ym i x hx (dw h.2 i x hx))
 |un=>exact .un
 |any=>exact .any
theorem Li (lim:Nat) (l:List D):ah.go lim (l.map .d)=true:=by
 induction l with
 |nil=>rfl
 |cons x l ih=>simp [ah.go,ah,ih]
def aO (P:Program) (f:FuncId) (args:List V) (r:V):Prop:=aq P f args [] λv s'=>v=r/\s'=[]
theorem aj{r:V} (h:aO P f args r) (ha:ah.go 0 args=true) (hr:ah 0 r=true) (hk:K r s):aq P f args s K:=by
 refine⟨h.1,λσ w vals hI hl hv=>?_⟩;have e1:∀b,Own ⟨λ_=>none,Own σ s⟩ [] b->Own σ s b:=by
  rintro b (h|⟨id,o,base,h1,_⟩)
  ·exact h
  ·simp at h1
 refine(h.2 ⟨λ_=>none,Own σ s⟩ w vals ⟨λid o ho=>by simp at ho,λid _ o _ _ _ _ ho=>by simp at ho,λb hb=>B7 hI hb,λid o _ _ ho=>by simp at ho⟩ hl
  (λi x hx=>(hv i x hx).move (dw ha i x hx) e1)).mono λe w' ⟨u,v,σ',s',he,hE,jo,hR,hv',kJ⟩=>?_
 subst hv';subst kJ;have same:=B4 (w':=w') hI hE.os hE.tape hE.output hE.size λb hb=>by
  by_cases ho:Own σ s b
  ·exact hE.fW b hb ho
  ·exact hE.aY b hb λh'=>ho (e1 b h')
 refine⟨u,_,σ,s,he,same.1,same.2,hR.move hr λb hb=>.inl ?_,hk⟩;rw[hE.base];exact hb
def aL (ρ:List Nat):V->V
 |.so id g lo n=>.so (ρ.getD id 0) g lo n
 |.rf id g i off=>.rf (ρ.getD id 0) g i off
 |.pp id g i off b a=>.pp (ρ.getD id 0) g i off b a
 |.mp id g=>.mp (ρ.getD id 0) g
 |.ag cs=>.ag (go cs)
 |.tu cs=>.tu (go cs)
 |.bx v=>.bx (aL ρ v)
 |.cap lo hi v=>.cap lo hi (aL ρ v)
 |.cl fn first ak=>.cl fn (go first) (go ak)
 |.d x=>.d x
 |.fu aw=>.fu aw
 |.un=>.un
 |.any=>.any
where go:List V->List V
 |[]=>[]
 |v::vs=>aL ρ v::go vs
theorem g7 (ρ:List Nat):∀(l:List V),aL.go ρ l=l.map (aL ρ)
 |[]=>rfl
 |v::vs=>by simp [aL.go,g7 ρ vs]
def aT (ρ:List Nat) (o:Obj):Obj:={ o with aw:=o.aw.map (aL.go ρ) }
def aE (s:List Obj):List Nat->List Obj->List Obj
 |r::ρ,o::os=>aE (s.set r o) ρ os
 |_,_=>s
theorem nS:∀(ρ:List Nat) (os:List Obj) (s:List Obj),(aE s ρ os).length=s.length
 |[],_,s=>by simp [aE]
 |r::ρ,[],s=>by simp [aE]
 |r::ρ,o::os,s=>by simp [aE,nS ρ os]
theorem gy:∀(ρ:List Nat) (os:List Obj) (s:List Obj) (id:Nat),id ∉ ρ->(aE s ρ os)[id]?=s[id]?
 |[],_,s,id,_=>by simp [aE]
 |r::ρ,[],s,id,_=>by simp [aE]
 |r::ρ,o::os,s,id,h=>by simp only[agV,not_or]at h;simp only[aE];rw[gy ρ os _ id h.2,agp (Ne.symm h.1)]
theorem wz:∀(ρ:List Nat) (os:List Obj) (s:List Obj) (k r:Nat) (o:Obj),ρ.Nodup->ρ[k]?=some r->os[k]?=some o->r<s.length->(aE s ρ os)[r]?=some o
 |[],_,s,k,r,o,_,h,_,_=>by simp at h
 |r'::ρ,[],s,k,r,o,_,_,h,_=>by simp at h
 |r'::ρ,o'::os,s,k,r,o,hn,h1,h2,h3=>by
  simp only[List.nodup_cons]at hn;simp only[aE];cases k with
  |zero =>
   simp only[agm,afY]at h1 h2;subst h1;subst h2;rw[gy ρ os _ r' hn.1,agc h3]
  |succ k=>exact wz ρ os _ k r o hn.2 (by simpa using h1) (by simpa using h2) (by simpa using h3)
section frame
variable {σ:Gh}{s exts:List Obj}{ρ:List Nat}{w:World}
variable{u:Value}{x:V}{o:Obj}{p:Option (Nat×Nat)}
theorem wR {σc:Gh} (xr:∀b,Own σc exts b->Own σ s b) (hs:∀(k:Nat) (o:Obj),exts[k]?=some o->s[ρ.getD k 0]?=some (aT ρ o)) (hσ:∀k,k<exts.length->σc k=σ (ρ.getD k 0))
  {y:V} (hr:aA σ s w y u):∀{x:V},aL ρ x=y->ah exts.length x=true->aA σc exts w x u:=by
 induction hr with
 |d hx=>intro x he hh;cases x <;> simp only[aL,reduceCtorEq,V.d.injEq]at he;subst he;exact .d (hx.own xr)
 |fu hx=>intro x he hh;cases x <;> simp only[aL,reduceCtorEq,V.fu.injEq]at he;subst he;exact .fu (hx.own xr)
 |un=>intro x he hh;cases x <;> simp only[aL,reduceCtorEq]at he;exact .un
 |any=>intro x he hh;cases x <;> simp only[aL,reduceCtorEq]at he;exact .any
 |ag h1 h2 _ ih =>
  intro x he hh;cases x <;> simp only[aL,reduceCtorEq,V.ag.injEq]at he;rename_i cs;subst he;rw[g7]at h1 h2 ih;have g:∀(i:Nat) (x:V),cs[i]?=some x->(cs.map (aL ρ))[i]?=some (aL ρ x):=λi x hx=>by rw[afO,hx];rfl
  exact .ag (by simpa using h1) (λi x hx=>h2 i _ (g i x hx)) (λi x hx=>ih i _ (g i x hx) rfl (dw (by simpa only[ah]using hh) i x hx))
 |tu h1 _ ih =>
  intro x he hh;cases x <;> simp only[aL,reduceCtorEq,V.tu.injEq]at he;rename_i cs;subst he;rw[g7]at h1 ih;have g:∀(i:Nat) (x:V),cs[i]?=some x->(cs.map (aL ρ))[i]?=some (aL ρ x):=λi x hx=>by rw[afO,hx];rfl
  exact .tu (by simpa using h1) (λi x hx=>ih i _ (g i x hx) rfl (dw (by simpa only[ah]using hh) i x hx))
 |cap h1 _ ih =>
  intro x he hh;cases x <;> simp only[aL,reduceCtorEq,V.cap.injEq]at he;obtain⟨rfl,rfl,he⟩:=he;exact .cap h1 (ih he (by simpa only[ah]using hh))
 |bx h1 h2 h3 hu _ ih =>
  intro x he hh;cases x <;> simp only[aL,reduceCtorEq,V.bx.injEq]at he;exact .bx h1 h2 (λh'=>h3 (xr _ h')) hu (ih he (by simpa only[ah]using hh))
 |cl h1 _ h3 _ yp ym =>
  intro x he hh;cases x <;> simp only[aL,reduceCtorEq,V.cl.injEq]at he;rename_i fn first ak
  obtain⟨rfl,rfl,rfl⟩:=he;rw[g7]at h1 yp h3 ym;simp only[ah,agb]at hh;have g:∀(cs:List V) (i:Nat) (x:V),cs[i]?=some x->(cs.map (aL ρ))[i]?=some (aL ρ x):=λcs i x hx=>by rw[afO,hx];rfl
  exact .cl (by simpa using h1) (λi x hx=>yp i _ (g _ i x hx) rfl (dw hh.1 i x hx)) (by simpa using h3) (λi x hx=>ym i _ (g _ i x hx) rfl (dw hh.2 i x hx))
 |so o ho hg hu hk =>
  intro x he hh;cases x <;> simp only[aL,reduceCtorEq,V.so.injEq]at he;rename_i id g lo n;obtain⟨rfl,rfl,rfl,rfl⟩:=he;simp only[ah,decide_eq_true_eq]at hh;have hx:=hs id exts[id] (by simp [hh]);rw[ho]at hx;simp only[afY]at hx;subst hx;refine .so exts[id] (by simp [hh]) hg hu λvK=>?_;have:=hk vK;unfold yN at this ⊢;rw[hσ id hh];exact this
 |rf o ho hg hu hk =>
  intro x he hh;cases x <;> simp only[aL,reduceCtorEq,V.rf.injEq]at he;rename_i id g lo n;obtain⟨rfl,rfl,rfl,rfl⟩:=he;simp only[ah,decide_eq_true_eq]at hh;have hx:=hs id exts[id] (by simp [hh]);rw[ho]at hx;simp only[afY]at hx;subst hx;refine .rf exts[id] (by simp [hh]) hg hu λvK=>?_;rw[hσ id hh];exact hk vK
 |pp o ho hg hk =>
  intro x he hh;cases x <;> simp only[aL,reduceCtorEq,V.pp.injEq]at he;rename_i id g lo n b a;obtain⟨rfl,rfl,rfl,rfl,rfl,rfl⟩:=he;simp only[ah,decide_eq_true_eq]at hh;have hx:=hs id exts[id] (by simp [hh]);rw[ho]at hx;simp only[afY]at hx;subst hx;refine .pp exts[id] (by simp [hh]) hg λvK=>?_;rw[hσ id hh];exact hk vK
 |mp o ho hg hu hk =>
  intro x he hh;cases x <;> simp only[aL,reduceCtorEq,V.mp.injEq]at he;rename_i id g;obtain⟨rfl,rfl⟩:=he;simp only[ah,decide_eq_true_eq]at hh;have hx:=hs id exts[id] (by simp [hh]);rw[ho]at hx;simp only[afY]at hx;subst hx;refine .mp exts[id] (by simp [hh]) hg hu λvK=>?_;rw[hσ id hh];exact hk vK
theorem QE {σ' σn:Gh}{s' sn:List Obj}{w':World} (xr:∀b,Own σn sn b->Own σ' s' b) (hs:∀(k:Nat) (o:Obj),s'[k]?=some o->sn[ρ.getD k 0]?=some (aT ρ o)) (hσ:∀k,k<s'.length->σn (ρ.getD k 0)=σ' k)
  (hr:aA σ' s' w' x u):aA σn sn w' (aL ρ x) u:=by
 have g:∀(cs:List V) (i:Nat) (y:V),(cs.map (aL ρ))[i]?=some y->∃x,cs[i]?=some x/\aL ρ x=y:=λcs i y hy=>by rw[afO]at hy;exact Option.map_eq_some_iff.1 hy
 induction hr with
 |d hx=>exact .d (hx.own xr)
 |fu hx=>exact .fu (hx.own xr)
 |un=>exact .un
 |any=>exact .any
 |ag h1 h2 _ ih =>
  simp only[aL,g7];refine .ag (by simpa using h1) (λi y hy=>?_) (λi y hy=>?_)
  ·obtain⟨x,hx,rfl⟩:=g _ i y hy;exact h2 i x hx
  ·obtain⟨x,hx,rfl⟩:=g _ i y hy;exact ih i x hx
 |tu h1 _ ih =>
  simp only[aL,g7];refine .tu (by simpa using h1) (λi y hy=>?_);obtain⟨x,hx,rfl⟩:=g _ i y hy;exact ih i x hx
 |bx h1 h2 h3 hu _ ih=>simp only[aL];exact .bx h1 h2 (λh'=>h3 (xr _ h')) hu ih
 |cap h1 _ ih=>simp only[aL];exact .cap h1 ih
 |cl h1 _ h3 _ yp ym =>
  simp only[aL,g7];refine .cl (by simpa using h1) (λi y hy=>?_) (by simpa using h3) (λi y hy=>?_)
  ·obtain⟨x,hx,rfl⟩:=g _ i y hy;exact yp i x hx
  ·obtain⟨x,hx,rfl⟩:=g _ i y hy;exact ym i x hx
 |so o ho hg hu hk =>
  have az:=(List.getElem?_eq_some_iff.1 ho).1;refine .so (aT ρ o) (hs _ o ho) hg hu λvK=>?_;have:=hk vK;unfold yN at this ⊢;rw[hσ _ az];exact this
 |rf o ho hg hu hk =>
  have az:=(List.getElem?_eq_some_iff.1 ho).1;refine .rf (aT ρ o) (hs _ o ho) hg hu λvK=>?_;rw[hσ _ az];exact hk vK
 |pp o ho hg hk =>
  have az:=(List.getElem?_eq_some_iff.1 ho).1;refine .pp (aT ρ o) (hs _ o ho) hg λvK=>?_;rw[hσ _ az];exact hk vK
 |mp o ho hg hu hk =>
  have az:=(List.getElem?_eq_some_iff.1 ho).1;refine .mp (aT ρ o) (hs _ o ho) hg hu λvK=>?_;rw[hσ _ az];exact hk vK
theorem EX {ρ:List Nat}{y:D} (h:aL ρ x=.d y):x=.d y:=by
 cases x <;> simp_all [aL]
theorem L5 {ρ:List Nat}:∀{aw:List (List V)}{es:List MapEntry},aw.map (aL.go ρ)=(es.map λe=>[V.d (.sc e.key),V.d (.sc e.val)])->aw=es.map λe=>[V.d (.sc e.key),V.d (.sc e.val)]
 |[],[],_=>rfl
 |[],_::_,h=>by simp at h
 |_::_,[],h=>by simp at h
 |e::aw,x::es,h=>by
  simp only[afR,List.cons.injEq]at h ⊢;obtain⟨h1,h2⟩:=h;refine⟨?_,L5 h2⟩;rw[g7]at h1
  match e,h1 with
  |[a,b],h1 =>
   simp only[afR,afU,List.cons.injEq,and_true]at h1;rw[EX h1.1,EX h1.2]
  |[],h1=>simp at h1
  |[_],h1=>simp at h1
  |_::_::_::_,h1=>simp at h1
theorem uT.down {ρ:List Nat}{w:World} (h:uT w p (aT ρ o)):uT w p o:=by
 rcases h with ⟨h1,h2⟩|⟨b,es,c,h1,h2,h3⟩
 ·exact .inl ⟨h1,by simpa [aT]using h2⟩
 ·exact .inr ⟨b,es,c,h1,h2,L5 h3⟩
theorem uT.up {ρ:List Nat}{w:World} (h:uT w p o):uT w p (aT ρ o):=by
 rcases h with ⟨h1,h2⟩|⟨b,es,c,h1,h2,h3⟩
 ·exact .inl ⟨h1,by simp [aT,h2]⟩
 ·refine .inr ⟨b,es,c,h1,h2,?_⟩;simp only[aT,h3,eR,agy];apply agC;intro e _;rfl
theorem Hc {ρ:List Nat}{i j:Nat}{y:V} (h:((aT ρ o).aw[i]?.bind (·[j]?))=some y):∃x,(o.aw[i]?.bind (·[j]?))=some x/\aL ρ x=y:=by
 simp only[aT,afO]at h;cases he:o.aw[i]? with
 |none=>rw[he]at h;cases h
 |some e =>
  rw[he]at h;simp only[afV,agE,g7,afO]at h;exact Option.map_eq_some_iff.1 h
theorem E6 {ρ:List Nat}{i j:Nat} (h:(o.aw[i]?.bind (·[j]?))=some x):((aT ρ o).aw[i]?.bind (·[j]?))=some (aL ρ x):=by
 simp only[aT,afO];cases he:o.aw[i]? with
 |none=>rw[he]at h;cases h
 |some e =>
  rw[he]at h;simp only[afV,agE,g7,afO];rw[show e[j]?=some x from h];rfl
end frame
theorem vM {P:Program}{f:FuncId}{cargs args:List V}{exts s:List Obj}{Kc K:V->List Obj->Prop} (h:aq P f cargs exts Kc) (ρ:List Nat) (hρ:ρ.length=exts.length) (rR:ρ.Nodup)
  (hs:∀(k:Nat) (o:Obj),exts[k]?=some o->s[ρ.getD k 0]?=some (aT ρ o)) (jV:args=cargs.map (aL ρ)) (DC:ah.go exts.length cargs=true) (wE:exts.all (aG exts.length)=true)
  (hk:∀v s',Kc v s'->s'.length=exts.length/\K (aL ρ v) (aE s ρ (s'.map (aT ρ)))):aq P f args s K:=by
 refine⟨h.1,λσ w vals hI hl hv=>?_⟩;have TF:∀k,k<exts.length->ρ[k]?=some (ρ.getD k 0):=λk hk=>by simp [List.getD,show k<ρ.length by omega]
 have Zt:∀k k',k<exts.length->k'<exts.length->ρ.getD k 0=ρ.getD k' 0->k=k':=by intro k k' h1 h2 he;have e1:=TF k h1;have e2:=TF k' h2;rw[he]at e1;obtain⟨l1,g1⟩:=List.getElem?_eq_some_iff.1 e1;obtain⟨l2,g2⟩:=List.getElem?_eq_some_iff.1 e2;exact(List.getElem_inj rR).1 (g1.trans g2.symm)
 have Gy:∀k,(hk:k<exts.length)->s[ρ.getD k 0]?=some (aT ρ exts[k]):=λk hk=>hs k exts[k] (by simp [hk]);let rW:Nat->Prop:=λb=>∃k base,k<exts.length/\σ (ρ.getD k 0)=some (b,base);let σc:Gh:=⟨λk=>if k<exts.length then σ (ρ.getD k 0) else none,λb=>Own σ s b/\¬rW b⟩
 have Gg:∀k,k<exts.length->σc k=σ (ρ.getD k 0):=λk hk=>be hk;have yZ:∀b,Own σc exts b->Own σ s b:=by
  rintro b (hb|⟨k,o,base,h1,h2,h3⟩)
  ·exact hb.1
  ·have az:=(List.getElem?_eq_some_iff.1 h1).1;rw[Gg k az]at h3;exact .inr ⟨ρ.getD k 0,aT ρ o,base,hs k o h1,h2,h3⟩
 have OL:∀b,Own σ s b->Own σc exts b:=by
  intro b hb;by_cases he:rW b
  ·obtain⟨k,base,az,h3⟩:=he;refine .inr ⟨k,exts[k],base,by simp [az],?_,by rw[Gg k az];exact h3⟩;rcases hb with hb|⟨id,o,bI,g1,g2,g3⟩
   ·exact absurd hb (hI.apart _ _ b base (Gy k az) h3)
   ·have:=hI.inj id _ o _ b bI base g1 (Gy k az) g2 g3 h3;subst this;rw[Gy k az]at g1;cases g1;exact g2
  ·exact .inl ⟨hb,he⟩
 have ZN:Inv σc exts w:=by
  refine⟨λk o ho=>?_,λk k' o o' b base bI h1 h2 h3 h4 h5=>?_,λb hb=>B7 hI hb.1,λk o b base h1 h2 hb=>?_⟩
  ·have az:=(List.getElem?_eq_some_iff.1 ho).1;rw[Gg k az];rcases hI.content _ _ (hs k o ho) with g1|⟨b,base,arr,E,g1,g2,g3,g4,g5⟩
   ·exact .inl g1.down
   ·refine .inr ⟨b,base,arr,E,g1,g2,λe he=>?_,by simpa [aT]using g4,λi j x hx=>?_⟩
    ·have:=g3 (aL.go ρ e) (List.mem_map.2 ⟨e,he,rfl⟩);rw[g7]at this;simpa [aT]using this
    ·obtain⟨u,k1,k2,k3⟩:=g5 i j _ (E6 hx);refine⟨u,k1,k2,wR yZ hs Gg k3 rfl ?_⟩;have hobj:=List.all_eq_true.1 wE o (afW ho);cases Cc:o.aw[i]? with
     |none=>rw[Cc]at hx;cases hx
     |some e =>
      rw[Cc]at hx;exact List.all_eq_true.1 (List.all_eq_true.1 hobj e (afW Cc)) x (afW hx)
  ·have l1:=(List.getElem?_eq_some_iff.1 h1).1;have l2:=(List.getElem?_eq_some_iff.1 h2).1;rw[Gg k l1]at h4;rw[Gg k' l2]at h5;exact Zt k k' l1 l2 (hI.inj _ _ _ _ b base bI (hs k o h1) (hs k' o' h2) h3 h4 h5)
  ·have l1:=(List.getElem?_eq_some_iff.1 h1).1;rw[Gg k l1]at h2;exact hb.2 ⟨k,base,l1,h2⟩
 refine(h.2 σc w vals ZN (by rw[hl,jV];simp) (λi x hx=>wR yZ hs Gg (hv i _ (by rw[jV,afO,hx];rfl)) rfl (dw DC i x hx))).mono λe w' ⟨u,v,σ',s',he,hE,jo,hR,hK⟩=>?_;obtain⟨hlen,hK⟩:=hk v s' hK
 -- back
 let σn:Gh:=⟨λid=>match ρ.idxOf? id with|some k=>σ' k|none=>σ id,σ.base⟩
 have Ve:∀k,k<exts.length->ρ.idxOf? (ρ.getD k 0)=some k:=by
  intro k hk;have e1:=TF k hk;obtain⟨l1,g1⟩:=List.getElem?_eq_some_iff.1 e1;rw[List.idxOf?_eq_some_iff];refine⟨l1,by simp [g1],λj hj=>?_⟩;have hj':j<ρ.length:=by omega
  intro hb;have OF:ρ[j]=ρ.getD k 0:=by simpa using hb
  have:=(List.getElem_inj rR).1 (OF.trans g1.symm);omega
 have F7:∀k,k<exts.length->σn (ρ.getD k 0)=σ' k:=λk hk=>by show (match ρ.idxOf? (ρ.getD k 0) with|some k=>σ' k|none=>σ (ρ.getD k 0))=σ' k;rw[Ve k hk]
 have Hq:∀id,id ∉ ρ->σn id=σ id:=λid cS=>by show (match ρ.idxOf? id with|some k=>σ' k|none=>σ id)=σ id;rw[List.idxOf?_eq_none_iff.2 cS]
 have qt:∀id,id∈ρ->∃k,k<exts.length/\id=ρ.getD k 0:=by intro id cS;obtain⟨k,hk⟩:=List.mem_iff_getElem?.1 cS;have az:=(List.getElem?_eq_some_iff.1 hk).1;exact⟨k,by omega,by simp [List.getD,hk]⟩
 have Ko:∀(k:Nat) (o:Obj),s'[k]?=some o->(aE s ρ (s'.map (aT ρ)))[ρ.getD k 0]?=some (aT ρ o):=by
  intro k o ho;have az:k<exts.length:=by rw[<- hlen];exact(List.getElem?_eq_some_iff.1 ho).1
  exact wz ρ _ s k _ _ rR (TF k az) (by rw[afO,ho];rfl) (List.getElem?_eq_some_iff.1 (Gy k az)).1
 have tg:∀id,id ∉ ρ->(aE s ρ (s'.map (aT ρ)))[id]?=s[id]?:=λid cS=>gy ρ _ s id cS;have vI:∀(k:Nat) (o:Obj),k<exts.length->(aE s ρ (s'.map (aT ρ)))[ρ.getD k 0]?=some o->∃o',s'[k]?=some o'/\o=aT ρ o':=by
  intro k o az ho;have aC:k<s'.length:=by omega
  have:=Ko k s'[k] (by simp [aC]);rw[ho]at this;exact⟨s'[k],by simp [aC],by simpa using this⟩
 have fW:∀b,b<w.heap.size->Own σ s b->¬rW b->w'.heap[b]?=w.heap[b]?:=λb hb h1 h2=>hE.fW b hb ⟨h1,h2⟩;have Bm:∀b,σ.base b->¬rW b:=by rintro b hb ⟨k,base,az,h3⟩;exact hI.apart _ _ b base (Gy k az) h3 hb
 have qD:∀id o b base,id ∉ ρ->s[id]?=some o->σ id=some (b,base)->o.live=true->¬rW b:=by rintro id o b base cS ho h1 CW ⟨k,bI,az,h3⟩;have:=hI.inj id _ o _ b base bI ho (Gy k az) CW h1 h3;exact cS (by rw[this];exact afW (TF k az))
 have Qd:∀b,Own σn (aE s ρ (s'.map (aT ρ))) b->Own σ' s' b:=by
  rintro b (hb|⟨id,o,base,h1,h2,h3⟩)
  ·left;rw[hE.base];exact⟨.inl hb,Bm b hb⟩
  ·by_cases cS:id∈ρ
   ·obtain⟨k,az,rfl⟩:=qt id cS;obtain⟨o',g1,rfl⟩:=vI k o az h1;rw[F7 k az]at h3;exact .inr ⟨k,o',base,g1,h2,h3⟩
   ·rw[tg id cS]at h1;rw[Hq id cS]at h3;left;rw[hE.base];exact⟨.inr ⟨id,o,base,h1,h2,h3⟩,qD id o b base cS h1 h3 h2⟩
 have U2:aF σ s w σn (aE s ρ (s'.map (aT ρ))) w':=by
  refine⟨hE.os,hE.tape,hE.output,hE.size,λb hb ho=>hE.aY b hb λh'=>ho (yZ b h'),λb arr E ho hh=>hE.shape b arr E (OL b ho) hh,λb ho hm=>hE.pN b (OL b ho) hm,λb hb=>?_,λid o ho=>?_,rfl,
   λb hb hf=>fW b hb (.inl hf) (Bm b hf)⟩
  ·rcases hE.own b (Qd b hb) with h'|h'
   ·exact .inl (yZ b h')
   ·exact .inr h'
  ·by_cases cS:id∈ρ
   ·obtain⟨k,az,rfl⟩:=qt id cS;rw[Gy k az]at ho;simp only[afY]at ho;subst ho;obtain⟨o',g1,g2,g3⟩:=hE.yk k exts[k] (by simp [az]);refine⟨aT ρ o',Ko k o' g1,g2,λhe=>?_⟩;obtain⟨e1,e2⟩:=g3 he;exact⟨e1,by rw[F7 k az,e2,Gg k az]⟩
   ·exact⟨o,by rw[tg id cS];exact ho,af3 _,λ_=>⟨rfl,Hq id cS⟩⟩
 have up:∀{x:V}{u:Value},aA σ' s' w' x u->aA σn (aE s ρ (s'.map (aT ρ))) w' (aL ρ x) u:=λhr =>
  QE Qd Ko (λk hk=>F7 k (by omega)) hr
 have hIn:Inv σn (aE s ρ (s'.map (aT ρ))) w':=by
  refine⟨λid o ho=>?_,λid kN o o' b base bI h1 h2 h3 h4 h5=>?_,λb hb=>ahc (hI.low b hb) hE.size,λid o b base h1 h2 hb=>?_⟩
  ·by_cases cS:id∈ρ
   ·obtain⟨k,az,rfl⟩:=qt id cS;obtain⟨o',g1,rfl⟩:=vI k o az ho;rw[F7 k az];rcases jo.content k o' g1 with c1|⟨b,base,arr,E,c1,c2,c3,c4,c5⟩
    ·exact .inl c1.up
    ·refine .inr ⟨b,base,arr,E,c1,c2,λe he=>?_,by simpa [aT]using c4,λi j y hy=>?_⟩
     ·obtain⟨e',zO,rfl⟩:=List.mem_map.1 he;rw[g7];simpa [aT]using c3 e' zO
     ·obtain⟨x,hx,rfl⟩:=Hc hy;obtain⟨u,k1,k2,k3⟩:=c5 i j x hx;exact⟨u,k1,k2,up k3⟩
   ·rw[tg id cS]at ho;rw[Hq id cS];refine ve.aX (p:=σ id) U2 (λb base hb=>?_) (hI.content id o ho);have az:=hI.lt ho hb;by_cases hO:Own σ s b
    ·by_cases CW:o.live=true
     ·exact fW b az hO (qD id o b base cS ho hb CW)
     ·exfalso;rcases hO with hO|⟨kN,o',bI,g1,g2,g3⟩
      ·exact hI.apart id o b base ho hb hO
      ·have:=hI.inj kN id o' o b bI base g1 ho g2 g3 hb;subst this;rw[ho]at g1;cases g1;exact CW g2
    ·exact hE.aY b az λh'=>hO (yZ b h')
  ·by_cases cS:id∈ρ <;> by_cases wu:kN∈ρ
   ·obtain⟨k,az,rfl⟩:=qt id cS;obtain⟨k',aC,rfl⟩:=qt kN wu;obtain⟨p,g1,rfl⟩:=vI k o az h1;obtain⟨p',US,rfl⟩:=vI k' o' aC h2;rw[F7 k az]at h4;rw[F7 k' aC]at h5;rw[jo.inj k k' p p' b base bI g1 US h3 h4 h5]
   ·exfalso;obtain⟨k,az,rfl⟩:=qt id cS;obtain⟨p,g1,rfl⟩:=vI k o az h1;rw[F7 k az]at h4;rw[tg kN wu]at h2;rw[Hq kN wu]at h5;have PN:=hI.lt h2 h5;have hO:Own σ s b:=by
     rcases hE.own b (.inr ⟨k,p,base,g1,h3,h4⟩) with h'|h'
     ·exact yZ b h'
     ·omega
    by_cases CW:o'.live=true
    ·exact jo.apart k p b base g1 h4 (by rw[hE.base];exact⟨hO,qD kN o' b bI wu h2 h5 CW⟩)
    ·rcases hO with hO|⟨ZZ,o2,z5,q1,q2,q3⟩
     ·exact hI.apart kN o' b bI h2 h5 hO
     ·have:=hI.inj ZZ kN o2 o' b z5 bI q1 h2 q2 q3 h5;subst this;rw[h2]at q1;cases q1;exact CW q2
   ·exfalso;obtain⟨k',aC,rfl⟩:=qt kN wu;obtain⟨p',US,rfl⟩:=vI k' o' aC h2;rw[F7 k' aC]at h5;rw[tg id cS]at h1;rw[Hq id cS]at h4;exact jo.apart k' p' b bI US h5 (by rw[hE.base];exact⟨.inr ⟨id,o,base,h1,h3,h4⟩,qD id o b base cS h1 h4 h3⟩)
   ·rw[tg id cS]at h1;rw[tg kN wu]at h2;rw[Hq id cS]at h4;rw[Hq kN wu]at h5;exact hI.inj id kN o o' b base bI h1 h2 h3 h4 h5
  ·by_cases cS:id∈ρ
   ·obtain⟨k,az,rfl⟩:=qt id cS;obtain⟨p,g1,rfl⟩:=vI k o az h1;rw[F7 k az]at h2;exact jo.apart k p b base g1 h2 (by rw[hE.base];exact⟨.inl hb,Bm b hb⟩)
   ·rw[tg id cS]at h1;rw[Hq id cS]at h2;exact hI.apart id o b base h1 h2 hb
 exact⟨u,aL ρ v,σn,_,he,U2,hIn,up hR,hK⟩
end Go.VL
