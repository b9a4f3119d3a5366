/- A part of the proof (Vm). -/
import Derived.Test.YtfmdmlfhigocaaaOR6
set_option linter.unusedSimpArgs false
set_option linter.unusedVariables false
set_option maxRecDepth 100000
set_option maxHeartbeats 80000000
namespace Go.VL
variable{f:FuncId}{s:List Obj}{P:Program}{args:List V}{K:V->List Obj->Prop}
theorem ar{K':V->List Obj->Prop} (h:az P f args s K) (hk:∀v s',K v s'->K' v s'):az P f args s K' :=
 ⟨h.1,λσ w vals hI hl hv=>(h.2 σ w vals hI hl hv).mono λ_ _ ⟨u,v,σ',s',a,b,c,d,e⟩=>⟨u,v,σ',s',a,b,c,d,hk v s' e⟩⟩
theorem aC.move {σ σ':Gh}{s':List Obj}{w:World}{x:V}{u:Value} (hr:aC σ s w x u) (h:ak 0 x=true) (jz:∀b,Own σ' s' b->Own σ s b):aC σ' s' w x u:=by
 induction hr with
 |d hx=>exact .d (hx.own jz)
 |ag h1 h2 _ ih=>exact .ag h1 h2 λi x hx=>ih i x hx (dR (by simpa only[ak]using h) i x hx)
 |tu h1 _ ih=>exact .tu h1 λi x hx=>ih i x hx (dR (by simpa only[ak]using h) i x hx)
 |fu hx=>exact .fu (hx.own jz)
 |so o ho hg hu hk=>simp [ak]at h
 |rf o ho hg hu hk=>simp [ak]at h
 |pp o ho hg hk=>simp [ak]at h
 |mp o ho hg hu hk=>simp [ak]at h
 |bx h1 h2 h3 hu _ ih=>exact .bx h1 h2 (λh'=>h3 (jz _ h')) hu (ih (by simpa only[ak]using h))
 |cap h1 _ ih=>exact .cap h1 (ih (by simpa only[ak]using h))
 |cl h1 _ h3 _ Aq gy =>
  simp only[ak,aji]at h;exact .cl h1 (λi x hx=>Aq i x hx (dR h.1 i x hx)) h3 (λi x hx=>gy i x hx (dR h.2 i x hx))
 |un=>exact .un
 |any=>exact .any
theorem Oh (lim:Nat) (l:List D):ak.go lim (l.map .d)=true:=by
 induction l with
 |nil=>rfl
 |cons x l ih=>simp [ak.go,ak,ih]
def aM (P:Program) (f:FuncId) (args:List V) (r:V):Prop:=az P f args [] λv s'=>v=r/\s'=[]
theorem bp{r:V} (h:aM P f args r) (ha:ak.go 0 args=true) (hr:ak 0 r=true) (hk:K r s):az P f args s K:=by
 refine⟨h.1,λσ w vals hI hl hv=>?_⟩;have e1:∀b,Own ⟨λ_=>none,Own σ s⟩ [] b->Own σ s b:=by
  rintro b (h|⟨id,o,base,h1,_⟩)
  ·exact h
  ·simp at h1
 refine(h.2 ⟨λ_=>none,Own σ s⟩ w vals ⟨λid o ho=>by simp at ho,λid _ o _ _ _ _ ho=>by simp at ho,λb hb=>EA hI hb,λid o _ _ ho=>by simp at ho⟩ hl
  (λi x hx=>(hv i x hx).move (dR ha i x hx) e1)).mono λe w' ⟨u,v,σ',s',he,hE,ko,hR,hv',mJ⟩=>?_
 subst hv';subst mJ;have same:=Ex (w':=w') hI hE.os hE.tape hE.output hE.size λb hb=>by
  by_cases ho:Own σ s b
  ·exact hE.gW b hb ho
  ·exact hE.ba b hb λh'=>ho (e1 b h')
 refine⟨u,_,σ,s,he,same.1,same.2,hR.move hr λb hb=>.inl ?_,hk⟩;rw[hE.base];exact hb
theorem bO{r:V}(h:aM P f args r)(hk:K r s)(ha:ak.go 0 args=true:=by first|rfl|simp [ak,ak.go,aq,i64,bV,gH])(hr:ak 0 r=true:=by first|rfl|simp [ak,ak.go,aq,i64,bV,gH]):az P f args s K:=bp h ha hr hk
def aS (ρ:List Nat):V->V
 |.so id g lo n=>.so (ρ.getD id 0) g lo n
 |.rf id g i off=>.rf (ρ.getD id 0) g i off
 |.pp id g i off b a=>.pp (ρ.getD id 0) g i off b a
 |.mp id g=>.mp (ρ.getD id 0) g
 |.ag cs=>.ag (go cs)
 |.tu cs=>.tu (go cs)
 |.bx v=>.bx (aS ρ v)
 |.cap lo hi v=>.cap lo hi (aS ρ v)
 |.cl fn first ai=>.cl fn (go first) (go ai)
 |.d x=>.d x
 |.fu aw=>.fu aw
 |.un=>.un
 |.any=>.any
where go:List V->List V
 |[]=>[]
 |v::vs=>aS ρ v::go vs
theorem jD (ρ:List Nat):∀(l:List V),aS.go ρ l=l.map (aS ρ)
 |[]=>rfl
 |v::vs=>by simp [aS.go,jD ρ vs]
def bf (ρ:List Nat) (o:Obj):Obj:={ o with aw:=o.aw.map (aS.go ρ) }
def aO (s:List Obj):List Nat->List Obj->List Obj
 |r::ρ,o::os=>aO (s.set r o) ρ os
 |_,_=>s
theorem pz:∀(ρ:List Nat) (os:List Obj) (s:List Obj),(aO s ρ os).length=s.length
 |[],_,s=>by simp [aO]
 |r::ρ,[],s=>by simp [aO]
 |r::ρ,o::os,s=>by simp [aO,pz ρ os]
theorem iu:∀(ρ:List Nat) (os:List Obj) (s:List Obj) (id:Nat),id ∉ ρ->(aO s ρ os)[id]?=s[id]?
 |[],_,s,id,_=>by simp [aO]
 |r::ρ,[],s,id,_=>by simp [aO]
 |r::ρ,o::os,s,id,h=>by simp only[ajF,not_or]at h;simp only[aO];rw[iu ρ os _ id h.2,ajy (Ne.symm h.1)]
theorem yB:∀(ρ:List Nat) (os:List Obj) (s:List Obj) (k r:Nat) (o:Obj),ρ.Nodup->ρ[k]?=some r->os[k]?=some o->r<s.length->(aO s ρ os)[r]?=some o
 |[],_,s,k,r,o,_,h,_,_=>by simp at h
 |r'::ρ,[],s,k,r,o,_,_,h,_=>by simp at h
 |r'::ρ,o'::os,s,k,r,o,hn,h1,h2,h3=>by
  simp only[List.nodup_cons]at hn;simp only[aO];cases k with
  |zero =>
   simp only[ajv,ai5]at h1 h2;subst h1;subst h2;rw[iu ρ os _ r' hn.1,ajm h3]
  |succ k=>exact yB ρ os _ k r o hn.2 (by simpa using h1) (by simpa using h2) (by simpa using h3)
section frame
variable {σ:Gh}{s exts:List Obj}{ρ:List Nat}{w:World}
variable{u:Value}{x:V}{o:Obj}{p:Option (Nat×Nat)}
theorem yM {σc:Gh} (im:∀b,Own σc exts b->Own σ s b) (hs:∀(k:Nat) (o:Obj),exts[k]?=some o->s[ρ.getD k 0]?=some (bf ρ o)) (hσ:∀k,k<exts.length->σc k=σ (ρ.getD k 0))
  {y:V} (hr:aC σ s w y u):∀{x:V},aS ρ x=y->ak exts.length x=true->aC σc exts w x u:=by
 induction hr with
 |d hx=>intro x he hh;cases x <;> simp only[aS,reduceCtorEq,V.d.injEq]at he;subst he;exact .d (hx.own im)
 |fu hx=>intro x he hh;cases x <;> simp only[aS,reduceCtorEq,V.fu.injEq]at he;subst he;exact .fu (hx.own im)
 |un=>intro x he hh;cases x <;> simp only[aS,reduceCtorEq]at he;exact .un
 |any=>intro x he hh;cases x <;> simp only[aS,reduceCtorEq]at he;exact .any
 |ag h1 h2 _ ih =>
  intro x he hh;cases x <;> simp only[aS,reduceCtorEq,V.ag.injEq]at he;rename_i cs;subst he;rw[jD]at h1 h2 ih;have g:∀(i:Nat) (x:V),cs[i]?=some x->(cs.map (aS ρ))[i]?=some (aS ρ x):=λi x hx=>by rw[aiY,hx];rfl
  exact .ag (by simpa using h1) (λi x hx=>h2 i _ (g i x hx)) (λi x hx=>ih i _ (g i x hx) rfl (dR (by simpa only[ak]using hh) i x hx))
 |tu h1 _ ih =>
  intro x he hh;cases x <;> simp only[aS,reduceCtorEq,V.tu.injEq]at he;rename_i cs;subst he;rw[jD]at h1 ih;have g:∀(i:Nat) (x:V),cs[i]?=some x->(cs.map (aS ρ))[i]?=some (aS ρ x):=λi x hx=>by rw[aiY,hx];rfl
  exact .tu (by simpa using h1) (λi x hx=>ih i _ (g i x hx) rfl (dR (by simpa only[ak]using hh) i x hx))
 |cap h1 _ ih =>
  intro x he hh;cases x <;> simp only[aS,reduceCtorEq,V.cap.injEq]at he;obtain⟨rfl,rfl,he⟩:=he;exact .cap h1 (ih he (by simpa only[ak]using hh))
 |bx h1 h2 h3 hu _ ih =>
  intro x he hh;cases x <;> simp only[aS,reduceCtorEq,V.bx.injEq]at he;exact .bx h1 h2 (λh'=>h3 (im _ h')) hu (ih he (by simpa only[ak]using hh))
 |cl h1 _ h3 _ Aq gy =>
  intro x he hh;cases x <;> simp only[aS,reduceCtorEq,V.cl.injEq]at he;rename_i fn first ai
  obtain⟨rfl,rfl,rfl⟩:=he;rw[jD]at h1 Aq h3 gy;simp only[ak,aji]at hh;have g:∀(cs:List V) (i:Nat) (x:V),cs[i]?=some x->(cs.map (aS ρ))[i]?=some (aS ρ x):=λcs i x hx=>by rw[aiY,hx];rfl
  exact .cl (by simpa using h1) (λi x hx=>Aq i _ (g _ i x hx) rfl (dR hh.1 i x hx)) (by simpa using h3) (λi x hx=>gy i _ (g _ i x hx) rfl (dR hh.2 i x hx))
 |so o ho hg hu hk =>
  intro x he hh;cases x <;> simp only[aS,reduceCtorEq,V.so.injEq]at he;rename_i id g lo n;obtain⟨rfl,rfl,rfl,rfl⟩:=he;simp only[ak,decide_eq_true_eq]at hh;have hx:=hs id exts[id] (by simp [hh]);rw[ho]at hx;simp only[ai5]at hx;subst hx;refine .so exts[id] (by simp [hh]) hg hu λxT=>?_;have:=hk xT;unfold AI at this ⊢;rw[hσ id hh];exact this
 |rf o ho hg hu hk =>
  intro x he hh;cases x <;> simp only[aS,reduceCtorEq,V.rf.injEq]at he;rename_i id g lo n;obtain⟨rfl,rfl,rfl,rfl⟩:=he;simp only[ak,decide_eq_true_eq]at hh;have hx:=hs id exts[id] (by simp [hh]);rw[ho]at hx;simp only[ai5]at hx;subst hx;refine .rf exts[id] (by simp [hh]) hg hu λxT=>?_;rw[hσ id hh];exact hk xT
 |pp o ho hg hk =>
  intro x he hh;cases x <;> simp only[aS,reduceCtorEq,V.pp.injEq]at he;rename_i id g lo n b a;obtain⟨rfl,rfl,rfl,rfl,rfl,rfl⟩:=he;simp only[ak,decide_eq_true_eq]at hh;have hx:=hs id exts[id] (by simp [hh]);rw[ho]at hx;simp only[ai5]at hx;subst hx;refine .pp exts[id] (by simp [hh]) hg λxT=>?_;rw[hσ id hh];exact hk xT
 |mp o ho hg hu hk =>
  intro x he hh;cases x <;> simp only[aS,reduceCtorEq,V.mp.injEq]at he;rename_i id g;obtain⟨rfl,rfl⟩:=he;simp only[ak,decide_eq_true_eq]at hh;have hx:=hs id exts[id] (by simp [hh]);rw[ho]at hx;simp only[ai5]at hx;subst hx;refine .mp exts[id] (by simp [hh]) hg hu λxT=>?_;rw[hσ id hh];exact hk xT
theorem TI {σ' σn:Gh}{s' sn:List Obj}{w':World} (im:∀b,Own σn sn b->Own σ' s' b) (hs:∀(k:Nat) (o:Obj),s'[k]?=some o->sn[ρ.getD k 0]?=some (bf ρ o)) (hσ:∀k,k<s'.length->σn (ρ.getD k 0)=σ' k)
  (hr:aC σ' s' w' x u):aC σn sn w' (aS ρ x) u:=by
 have g:∀(cs:List V) (i:Nat) (y:V),(cs.map (aS ρ))[i]?=some y->∃x,cs[i]?=some x/\aS ρ x=y:=λcs i y hy=>by rw[aiY]at hy;exact Option.map_eq_some_iff.1 hy
 induction hr with
 |d hx=>exact .d (hx.own im)
 |fu hx=>exact .fu (hx.own im)
 |un=>exact .un
 |any=>exact .any
 |ag h1 h2 _ ih =>
  simp only[aS,jD];refine .ag (by simpa using h1) (λi y hy=>?_) (λi y hy=>?_)
  ·obtain⟨x,hx,rfl⟩:=g _ i y hy;exact h2 i x hx
  ·obtain⟨x,hx,rfl⟩:=g _ i y hy;exact ih i x hx
 |tu h1 _ ih =>
  simp only[aS,jD];refine .tu (by simpa using h1) (λi y hy=>?_);obtain⟨x,hx,rfl⟩:=g _ i y hy;exact ih i x hx
 |bx h1 h2 h3 hu _ ih=>simp only[aS];exact .bx h1 h2 (λh'=>h3 (im _ h')) hu ih
 |cap h1 _ ih=>simp only[aS];exact .cap h1 ih
 |cl h1 _ h3 _ Aq gy =>
  simp only[aS,jD];refine .cl (by simpa using h1) (λi y hy=>?_) (by simpa using h3) (λi y hy=>?_)
  ·obtain⟨x,hx,rfl⟩:=g _ i y hy;exact Aq i x hx
  ·obtain⟨x,hx,rfl⟩:=g _ i y hy;exact gy i x hx
 |so o ho hg hu hk =>
  have aB:=(List.getElem?_eq_some_iff.1 ho).1;refine .so (bf ρ o) (hs _ o ho) hg hu λxT=>?_;have:=hk xT;unfold AI at this ⊢;rw[hσ _ aB];exact this
 |rf o ho hg hu hk =>
  have aB:=(List.getElem?_eq_some_iff.1 ho).1;refine .rf (bf ρ o) (hs _ o ho) hg hu λxT=>?_;rw[hσ _ aB];exact hk xT
 |pp o ho hg hk =>
  have aB:=(List.getElem?_eq_some_iff.1 ho).1;refine .pp (bf ρ o) (hs _ o ho) hg λxT=>?_;rw[hσ _ aB];exact hk xT
 |mp o ho hg hu hk =>
  have aB:=(List.getElem?_eq_some_iff.1 ho).1;refine .mp (bf ρ o) (hs _ o ho) hg hu λxT=>?_;rw[hσ _ aB];exact hk xT
theorem Hw {ρ:List Nat}{y:D} (h:aS ρ x=.d y):x=.d y:=by
 cases x <;> simp_all [aS]
theorem Pa {ρ:List Nat}:∀{aw:List (List V)}{es:List MapEntry},aw.map (aS.go ρ)=(es.map λe=>[V.d (.sc e.key),V.d (.sc e.val)])->aw=es.map λe=>[V.d (.sc e.key),V.d (.sc e.val)]
 |[],[],_=>rfl
 |[],_::_,h=>by simp at h
 |_::_,[],h=>by simp at h
 |e::aw,x::es,h=>by
  simp only[aiZ,List.cons.injEq]at h ⊢;obtain⟨h1,h2⟩:=h;refine⟨?_,Pa h2⟩;rw[jD]at h1
  match e,h1 with
  |[a,b],h1 =>
   simp only[aiZ,ai2,List.cons.injEq,and_true]at h1;rw[Hw h1.1,Hw h1.2]
  |[],h1=>simp at h1
  |[_],h1=>simp at h1
  |_::_::_::_,h1=>simp at h1
theorem wU.down {ρ:List Nat}{w:World} (h:wU w p (bf ρ o)):wU w p o:=by
 rcases h with ⟨h1,h2⟩|⟨b,es,c,h1,h2,h3⟩
 ·exact .inl ⟨h1,by simpa [bf]using h2⟩
 ·exact .inr ⟨b,es,c,h1,h2,Pa h3⟩
theorem wU.up {ρ:List Nat}{w:World} (h:wU w p o):wU w p (bf ρ o):=by
 rcases h with ⟨h1,h2⟩|⟨b,es,c,h1,h2,h3⟩
 ·exact .inl ⟨h1,by simp [bf,h2]⟩
 ·refine .inr ⟨b,es,c,h1,h2,?_⟩;simp only[bf,h3,fZ,ajL];apply ajK;intro e _;rfl
theorem JO {ρ:List Nat}{i j:Nat}{y:V} (h:((bf ρ o).aw[i]?.bind (·[j]?))=some y):∃x,(o.aw[i]?.bind (·[j]?))=some x/\aS ρ x=y:=by
 simp only[bf,aiY]at h;cases he:o.aw[i]? with
 |none=>rw[he]at h;cases h
 |some e =>
  rw[he]at h;simp only[ai3,ajM,jD,aiY]at h;exact Option.map_eq_some_iff.1 h
theorem HE {ρ:List Nat}{i j:Nat} (h:(o.aw[i]?.bind (·[j]?))=some x):((bf ρ o).aw[i]?.bind (·[j]?))=some (aS ρ x):=by
 simp only[bf,aiY];cases he:o.aw[i]? with
 |none=>rw[he]at h;cases h
 |some e =>
  rw[he]at h;simp only[ai3,ajM,jD,aiY];rw[show e[j]?=some x from h];rfl
end frame
theorem xX {P:Program}{f:FuncId}{cargs args:List V}{exts s:List Obj}{Kc K:V->List Obj->Prop} (h:az P f cargs exts Kc) (ρ:List Nat) (hρ:ρ.length=exts.length) (zF:ρ.Nodup)
  (hs:∀(k:Nat) (o:Obj),exts[k]?=some o->s[ρ.getD k 0]?=some (bf ρ o)) (kF:args=cargs.map (aS ρ)) (F6:ak.go exts.length cargs=true) (Al:exts.all (bc exts.length)=true)
  (hk:∀v s',Kc v s'->s'.length=exts.length/\K (aS ρ v) (aO s ρ (s'.map (bf ρ)))):az P f args s K:=by
 refine⟨h.1,λσ w vals hI hl hv=>?_⟩;have WC:∀k,k<exts.length->ρ[k]?=some (ρ.getD k 0):=λk hk=>by simp [List.getD,show k<ρ.length by omega]
 have hρi:∀k k',k<exts.length->k'<exts.length->ρ.getD k 0=ρ.getD k' 0->k=k':=by intro k k' h1 h2 he;have e1:=WC k h1;have e2:=WC k' h2;rw[he]at e1;obtain⟨l1,g1⟩:=List.getElem?_eq_some_iff.1 e1;obtain⟨l2,g2⟩:=List.getElem?_eq_some_iff.1 e2;exact(List.getElem_inj zF).1 (g1.trans g2.symm)
 have Jf:∀k,(hk:k<exts.length)->s[ρ.getD k 0]?=some (bf ρ exts[k]):=λk hk=>hs k exts[k] (by simp [hk]);let tR:Nat->Prop:=λb=>∃k base,k<exts.length/\σ (ρ.getD k 0)=some (b,base);let σc:Gh:=⟨λk=>if k<exts.length then σ (ρ.getD k 0) else none,λb=>Own σ s b/\¬tR b⟩
 have IT:∀k,k<exts.length->σc k=σ (ρ.getD k 0):=λk hk=>be hk;have AY:∀b,Own σc exts b->Own σ s b:=by
  rintro b (hb|⟨k,o,base,h1,h2,h3⟩)
  ·exact hb.1
  ·have aB:=(List.getElem?_eq_some_iff.1 h1).1;rw[IT k aB]at h3;exact .inr ⟨ρ.getD k 0,bf ρ o,base,hs k o h1,h2,h3⟩
 have RW:∀b,Own σ s b->Own σc exts b:=by
  intro b hb;by_cases he:tR b
  ·obtain⟨k,base,aB,h3⟩:=he;refine .inr ⟨k,exts[k],base,by simp [aB],?_,by rw[IT k aB];exact h3⟩;rcases hb with hb|⟨id,o,bQ,g1,g2,g3⟩
   ·exact absurd hb (hI.apart _ _ b base (Jf k aB) h3)
   ·have:=hI.inj id _ o _ b bQ base g1 (Jf k aB) g2 g3 h3;subst this;rw[Jf k aB]at g1;cases g1;exact g2
  ·exact .inl ⟨hb,he⟩
 have hIc:Inv σc exts w:=by
  refine⟨λk o ho=>?_,λk k' o o' b base bQ h1 h2 h3 h4 h5=>?_,λb hb=>EA hI hb.1,λk o b base h1 h2 hb=>?_⟩
  ·have aB:=(List.getElem?_eq_some_iff.1 ho).1;rw[IT k aB];rcases hI.content _ _ (hs k o ho) with g1|⟨b,base,arr,E,g1,g2,g3,g4,g5⟩
   ·exact .inl g1.down
   ·refine .inr ⟨b,base,arr,E,g1,g2,λe he=>?_,by simpa [bf]using g4,λi j x hx=>?_⟩
    ·have:=g3 (aS.go ρ e) (List.mem_map.2 ⟨e,he,rfl⟩);rw[jD]at this;simpa [bf]using this
    ·obtain⟨u,k1,k2,k3⟩:=g5 i j _ (HE hx);refine⟨u,k1,k2,yM AY hs IT k3 rfl ?_⟩;have hobj:=List.all_eq_true.1 Al o (ai4 ho);cases EG:o.aw[i]? with
     |none=>rw[EG]at hx;cases hx
     |some e =>
      rw[EG]at hx;exact List.all_eq_true.1 (List.all_eq_true.1 hobj e (ai4 EG)) x (ai4 hx)
  ·have l1:=(List.getElem?_eq_some_iff.1 h1).1;have l2:=(List.getElem?_eq_some_iff.1 h2).1;rw[IT k l1]at h4;rw[IT k' l2]at h5;exact hρi k k' l1 l2 (hI.inj _ _ _ _ b base bQ (hs k o h1) (hs k' o' h2) h3 h4 h5)
  ·have l1:=(List.getElem?_eq_some_iff.1 h1).1;rw[IT k l1]at h2;exact hb.2 ⟨k,base,l1,h2⟩
 refine(h.2 σc w vals hIc (by rw[hl,kF];simp) (λi x hx=>yM AY hs IT (hv i _ (by rw[kF,aiY,hx];rfl)) rfl (dR F6 i x hx))).mono λe w' ⟨u,v,σ',s',he,hE,ko,hR,hK⟩=>?_;obtain⟨hlen,hK⟩:=hk v s' hK;let σn:Gh:=⟨λid=>match ρ.idxOf? id with|some k=>σ' k|none=>σ id,σ.base⟩
 have oK:∀k,k<exts.length->ρ.idxOf? (ρ.getD k 0)=some k:=by
  intro k hk;have e1:=WC k hk;obtain⟨l1,g1⟩:=List.getElem?_eq_some_iff.1 e1;rw[List.idxOf?_eq_some_iff];refine⟨l1,by simp [g1],λj hj=>?_⟩;have Uu:j<ρ.length:=ae;intro hb;have RP:ρ[j]=ρ.getD k 0:=by simpa using hb
  have:=(List.getElem_inj zF).1 (RP.trans g1.symm);omega
 have II:∀k,k<exts.length->σn (ρ.getD k 0)=σ' k:=λk hk=>by show (match ρ.idxOf? (ρ.getD k 0) with|some k=>σ' k|none=>σ (ρ.getD k 0))=σ' k;rw[oK k hk]
 have J0:∀id,id ∉ ρ->σn id=σ id:=λid du=>by show (match ρ.idxOf? id with|some k=>σ' k|none=>σ id)=σ id;rw[List.idxOf?_eq_none_iff.2 du]
 have ig:∀id,id∈ρ->∃k,k<exts.length/\id=ρ.getD k 0:=by intro id du;obtain⟨k,hk⟩:=List.mem_iff_getElem?.1 du;have aB:=(List.getElem?_eq_some_iff.1 hk).1;exact⟨k,ae,by simp [List.getD,hk]⟩
 have M8:∀(k:Nat) (o:Obj),s'[k]?=some o->(aO s ρ (s'.map (bf ρ)))[ρ.getD k 0]?=some (bf ρ o):=by
  intro k o ho;have aB:k<exts.length:=by rw[<- hlen];exact(List.getElem?_eq_some_iff.1 ho).1
  exact yB ρ _ s k _ _ zF (WC k aB) (by rw[aiY,ho];rfl) (List.getElem?_eq_some_iff.1 (Jf k aB)).1
 have vi:∀id,id ∉ ρ->(aO s ρ (s'.map (bf ρ)))[id]?=s[id]?:=λid du=>iu ρ _ s id du;have xS:∀(k:Nat) (o:Obj),k<exts.length->(aO s ρ (s'.map (bf ρ)))[ρ.getD k 0]?=some o->∃o',s'[k]?=some o'/\o=bf ρ o':=by intro k o aB ho;have aH:k<s'.length:=ae;have:=M8 k s'[k] (by simp [aH]);rw[ho]at this;exact⟨s'[k],by simp [aH],by simpa using this⟩
 have gW:∀b,b<w.heap.size->Own σ s b->¬tR b->w'.heap[b]?=w.heap[b]?:=λb hb h1 h2=>hE.gW b hb ⟨h1,h2⟩;have DJ:∀b,σ.base b->¬tR b:=by rintro b hb ⟨k,base,aB,h3⟩;exact hI.apart _ _ b base (Jf k aB) h3 hb
 have sd:∀id o b base,id ∉ ρ->s[id]?=some o->σ id=some (b,base)->o.live=true->¬tR b:=by rintro id o b base du ho h1 Cm ⟨k,bQ,aB,h3⟩;have:=hI.inj id _ o _ b base bQ ho (Jf k aB) Cm h1 h3;exact du (by rw[this];exact ai4 (WC k aB))
 have Tk:∀b,Own σn (aO s ρ (s'.map (bf ρ))) b->Own σ' s' b:=by
  rintro b (hb|⟨id,o,base,h1,h2,h3⟩)
  ·left;rw[hE.base];exact⟨.inl hb,DJ b hb⟩
  ·by_cases du:id∈ρ
   ·obtain⟨k,aB,rfl⟩:=ig id du;obtain⟨o',g1,rfl⟩:=xS k o aB h1;rw[II k aB]at h3;exact .inr ⟨k,o',base,g1,h2,h3⟩
   ·rw[vi id du]at h1;rw[J0 id du]at h3;left;rw[hE.base];exact⟨.inr ⟨id,o,base,h1,h2,h3⟩,sd id o b base du h1 h3 h2⟩
 have X8:aG σ s w σn (aO s ρ (s'.map (bf ρ))) w':=by
  refine⟨hE.os,hE.tape,hE.output,hE.size,λb hb ho=>hE.ba b hb λh'=>ho (AY b h'),λb arr E ho hh=>hE.shape b arr E (RW b ho) hh,λb ho hm=>hE.qY b (RW b ho) hm,λb hb=>?_,λid o ho=>?_,rfl,
   λb hb hf=>gW b hb (.inl hf) (DJ b hf)⟩
  ·rcases hE.own b (Tk b hb) with h'|h'
   ·exact .inl (AY b h')
   ·exact .inr h'
  ·by_cases du:id∈ρ
   ·obtain⟨k,aB,rfl⟩:=ig id du;rw[Jf k aB]at ho;simp only[ai5]at ho;subst ho;obtain⟨o',g1,g2,g3⟩:=hE.Aj k exts[k] (by simp [aB]);refine⟨bf ρ o',M8 k o' g1,g2,λhe=>?_⟩;obtain⟨e1,e2⟩:=g3 he;exact⟨e1,by rw[II k aB,e2,IT k aB]⟩
   ·exact⟨o,by rw[vi id du];exact ho,ajc _,λ_=>⟨rfl,J0 id du⟩⟩
 have up:∀{x:V}{u:Value},aC σ' s' w' x u->aC σn (aO s ρ (s'.map (bf ρ))) w' (aS ρ x) u:=λhr =>
  TI Tk M8 (λk hk=>II k ae) hr
 have hIn:Inv σn (aO s ρ (s'.map (bf ρ))) w':=by
  refine⟨λid o ho=>?_,λid lV o o' b base bQ h1 h2 h3 h4 h5=>?_,λb hb=>ako (hI.low b hb) hE.size,λid o b base h1 h2 hb=>?_⟩
  ·by_cases du:id∈ρ
   ·obtain⟨k,aB,rfl⟩:=ig id du;obtain⟨o',g1,rfl⟩:=xS k o aB ho;rw[II k aB];rcases ko.content k o' g1 with c1|⟨b,base,arr,E,c1,c2,c3,c4,c5⟩
    ·exact .inl c1.up
    ·refine .inr ⟨b,base,arr,E,c1,c2,λe he=>?_,by simpa [bf]using c4,λi j y hy=>?_⟩
     ·obtain⟨e',jn,rfl⟩:=List.mem_map.1 he;rw[jD];simpa [bf]using c3 e' jn
     ·obtain⟨x,hx,rfl⟩:=JO hy;obtain⟨u,k1,k2,k3⟩:=c5 i j x hx;exact⟨u,k1,k2,up k3⟩
   ·rw[vi id du]at ho;rw[J0 id du];refine xk.aZ (p:=σ id) X8 (λb base hb=>?_) (hI.content id o ho);have aB:=hI.lt ho hb;by_cases hO:Own σ s b
    ·by_cases Cm:o.live=true
     ·exact gW b aB hO (sd id o b base du ho hb Cm)
     ·exfalso;rcases hO with hO|⟨lV,o',bQ,g1,g2,g3⟩
      ·exact hI.apart id o b base ho hb hO
      ·have:=hI.inj lV id o' o b bQ base g1 ho g2 g3 hb;subst this;rw[ho]at g1;cases g1;exact Cm g2
    ·exact hE.ba b aB λh'=>hO (AY b h')
  ·by_cases du:id∈ρ <;> by_cases yw:lV∈ρ
   ·obtain⟨k,aB,rfl⟩:=ig id du;obtain⟨k',aH,rfl⟩:=ig lV yw;obtain⟨p,g1,rfl⟩:=xS k o aB h1;obtain⟨p',XZ,rfl⟩:=xS k' o' aH h2;rw[II k aB]at h4;rw[II k' aH]at h5;rw[ko.inj k k' p p' b base bQ g1 XZ h3 h4 h5]
   ·exfalso;obtain⟨k,aB,rfl⟩:=ig id du;obtain⟨p,g1,rfl⟩:=xS k o aB h1;rw[II k aB]at h4;rw[vi lV yw]at h2;rw[J0 lV yw]at h5;have SY:=hI.lt h2 h5;have hO:Own σ s b:=by
     rcases hE.own b (.inr ⟨k,p,base,g1,h3,h4⟩) with h'|h'
     ·exact AY b h'
     ·omega
    by_cases Cm:o'.live=true
    ·exact ko.apart k p b base g1 h4 (by rw[hE.base];exact⟨hO,sd lV o' b bQ yw h2 h5 Cm⟩)
    ·rcases hO with hO|⟨id2,o2,B6,q1,q2,q3⟩
     ·exact hI.apart lV o' b bQ h2 h5 hO
     ·have:=hI.inj id2 lV o2 o' b B6 bQ q1 h2 q2 q3 h5;subst this;rw[h2]at q1;cases q1;exact Cm q2
   ·exfalso;obtain⟨k',aH,rfl⟩:=ig lV yw;obtain⟨p',XZ,rfl⟩:=xS k' o' aH h2;rw[II k' aH]at h5;rw[vi id du]at h1;rw[J0 id du]at h4;exact ko.apart k' p' b bQ XZ h5 (by rw[hE.base];exact⟨.inr ⟨id,o,base,h1,h3,h4⟩,sd id o b base du h1 h4 h3⟩)
   ·rw[vi id du]at h1;rw[vi lV yw]at h2;rw[J0 id du]at h4;rw[J0 lV yw]at h5;exact hI.inj id lV o o' b base bQ h1 h2 h3 h4 h5
  ·by_cases du:id∈ρ
   ·obtain⟨k,aB,rfl⟩:=ig id du;obtain⟨p,g1,rfl⟩:=xS k o aB h1;rw[II k aB]at h2;exact ko.apart k p b base g1 h2 (by rw[hE.base];exact⟨.inl hb,DJ b hb⟩)
   ·rw[vi id du]at h1;rw[J0 id du]at h2;exact hI.apart id o b base h1 h2 hb
 exact⟨u,aS ρ v,σn,_,he,X8,hIn,up hR,hK⟩
end Go.VL
