/- A part of the proof (Vm). -/
import Derived.Test.YtfmdmlfhigocaaaOF6
set_option linter.unusedSimpArgs false
set_option linter.unusedVariables false
set_option maxRecDepth 100000
set_option maxHeartbeats 80000000
namespace Go.VL
theorem ak {P:Program}{f:FuncId}{args:List V}{s:List Obj}{K K':V->List Obj->Prop} (h:aq P f args s K) (hk:∀v s',K v s'->K' v s'):aq P f args s K' :=
 ⟨h.1,fun σ w vals hI hl hv=>(h.2 σ w vals hI hl hv).mono fun _ _ ⟨u,v,σ',s',a,b,c,d,e⟩=>⟨u,v,σ',s',a,b,c,d,hk v s' e⟩⟩
theorem aw.move {σ σ':Gh}{s s':List Obj}{w:World}{x:V}{u:Value} (hr:aw σ s w x u) (h:ah 0 x=true) (gi:∀b,Own σ' s' b->Own σ s b):aw σ' s' w x u:=by
 induction hr with
 |d hx=>exact .d (hx.own gi)
 |ag h1 h2 _ ih=>exact .ag h1 h2 fun i x hx=>ih i x hx (cZ (by simpa only[ah]using h) i x hx)
 |tu h1 _ ih=>exact .tu h1 fun i x hx=>ih i x hx (cZ (by simpa only[ah]using h) i x hx)
 |fu hx=>exact .fu (hx.own gi)
 |so o ho hg hu hk=>simp [ah]at h
 |rf o ho hg hu hk=>simp [ah]at h
 |pp o ho hg hk=>simp [ah]at h
 |mp o ho hg hu hk=>simp [ah]at h
 |bx h1 h2 h3 hu _ ih=>exact .bx h1 h2 (fun h'=>h3 (gi _ h')) hu (ih (by simpa only[ah]using h))
 |cap h1 _ ih=>exact .cap h1 (ih (by simpa only[ah]using h))
 |cl h1 _ h3 _ u9 u5 =>
  simp only[ah,Bool.and_eq_true]at h
  exact .cl h1 (fun i x hx=>u9 i x hx (cZ h.1 i x hx)) h3 (fun i x hx=>u5 i x hx (cZ h.2 i x hx))
 |un=>exact .un
 |any=>exact .any
theorem G3 (lim:Nat) (l:List D):ah.go lim (l.map .d)=true:=by
 induction l with
 |nil=>rfl
 |cons x l ih=>simp [ah.go,ah,ih]
def ba (P:Program) (f:FuncId) (args:List V) (r:V):Prop:=aq P f args [] fun v s'=>v=r/\s'=[]
theorem al {P:Program}{f:FuncId}{args:List V}{r:V}{s:List Obj}{K:V->List Obj->Prop} (h:ba P f args r) (ha:ah.go 0 args=true) (hr:ah 0 r=true) (hk:K r s):aq P f args s K:=by
 refine⟨h.1,fun σ w vals hI hl hv=>?_⟩
 have e1:∀b,Own ⟨fun _=>none,Own σ s⟩ [] b->Own σ s b:=by
  rintro b (h|⟨id,o,base,h1,_⟩)
  ·exact h
  ·simp at h1
 refine(h.2 ⟨fun _=>none,Own σ s⟩ w vals ⟨fun id o ho=>by simp at ho,fun id _ o _ _ _ _ ho=>by simp at ho,fun b hb=>yK hI hb,fun id o _ _ ho=>by simp at ho⟩ hl
  (fun i x hx=>(hv i x hx).move (cZ ha i x hx) e1)).mono fun e w' ⟨u,v,σ',s',he,hE,im,hR,YH,jS⟩=>?_
 subst YH;subst jS
 have same:=yG (w':=w') hI hE.os hE.tape hE.output hE.size fun b hb=>by
  by_cases ho:Own σ s b
  ·exact hE.eT b hb ho
  ·exact hE.aR b hb fun h'=>ho (e1 b h')
 refine⟨u,_,σ,s,he,same.1,same.2,hR.move hr fun b hb=>.inl ?_,hk⟩
 rw[hE.base];exact hb
def aJ (ρ:List Nat):V->V
 |.so id g lo n=>.so (ρ.getD id 0) g lo n
 |.rf id g i off=>.rf (ρ.getD id 0) g i off
 |.pp id g i off b a=>.pp (ρ.getD id 0) g i off b a
 |.mp id g=>.mp (ρ.getD id 0) g
 |.ag cs=>.ag (go cs)
 |.tu cs=>.tu (go cs)
 |.bx v=>.bx (aJ ρ v)
 |.cap lo hi v=>.cap lo hi (aJ ρ v)
 |.cl fn first ai=>.cl fn (go first) (go ai)
 |.d x=>.d x
 |.fu au=>.fu au
 |.un=>.un
 |.any=>.any
where go:List V->List V
 |[]=>[]
 |v::vs=>aJ ρ v::go vs
theorem gj (ρ:List Nat):∀(l:List V),aJ.go ρ l=l.map (aJ ρ)
 |[]=>rfl
 |v::vs=>by simp [aJ.go,gj ρ vs]
def aP (ρ:List Nat) (o:Obj):Obj:={ o with au:=o.au.map (aJ.go ρ) }
def aH (s:List Obj):List Nat->List Obj->List Obj
 |r::ρ,o::os=>aH (s.set r o) ρ os
 |_,_=>s
theorem lW:∀(ρ:List Nat) (os:List Obj) (s:List Obj),(aH s ρ os).length=s.length
 |[],_,s=>by simp [aH]
 |r::ρ,[],s=>by simp [aH]
 |r::ρ,o::os,s=>by simp [aH,lW ρ os]
theorem fj:∀(ρ:List Nat) (os:List Obj) (s:List Obj) (id:Nat),id ∉ ρ->(aH s ρ os)[id]?=s[id]?
 |[],_,s,id,_=>by simp [aH]
 |r::ρ,[],s,id,_=>by simp [aH]
 |r::ρ,o::os,s,id,h=>by
  simp only[List.mem_cons,not_or]at h
  simp only[aH]
  rw[fj ρ os _ id h.2,List.getElem?_set_ne (Ne.symm h.1)]
theorem tj:∀(ρ:List Nat) (os:List Obj) (s:List Obj) (k r:Nat) (o:Obj),ρ.Nodup->ρ[k]?=some r->os[k]?=some o->r<s.length->(aH s ρ os)[r]?=some o
 |[],_,s,k,r,o,_,h,_,_=>by simp at h
 |r'::ρ,[],s,k,r,o,_,_,h,_=>by simp at h
 |r'::ρ,o'::os,s,k,r,o,hn,h1,h2,h3=>by
  simp only[List.nodup_cons]at hn
  simp only[aH]
  cases k with
  |zero =>
   simp only[List.getElem?_cons_zero,Option.some.injEq]at h1 h2
   subst h1;subst h2
   rw[fj ρ os _ r' hn.1,List.getElem?_set_self h3]
  |succ k=>exact tj ρ os _ k r o hn.2 (by simpa using h1) (by simpa using h2) (by simpa using h3)
section frame
variable {σ:Gh}{s exts:List Obj}{ρ:List Nat}{w:World}
theorem tB {σc:Gh} (yA:∀b,Own σc exts b->Own σ s b) (hs:∀(k:Nat) (o:Obj),exts[k]?=some o->s[ρ.getD k 0]?=some (aP ρ o)) (hσ:∀k,k<exts.length->σc k=σ (ρ.getD k 0))
  {y:V}{u:Value} (hr:aw σ s w y u):∀{x:V},aJ ρ x=y->ah exts.length x=true->aw σc exts w x u:=by
 induction hr with
 |d hx=>intro x he hh;cases x <;> simp only[aJ,reduceCtorEq,V.d.injEq]at he;subst he;exact .d (hx.own yA)
 |fu hx=>intro x he hh;cases x <;> simp only[aJ,reduceCtorEq,V.fu.injEq]at he;subst he;exact .fu (hx.own yA)
 |un=>intro x he hh;cases x <;> simp only[aJ,reduceCtorEq]at he;exact .un
 |any=>intro x he hh;cases x <;> simp only[aJ,reduceCtorEq]at he;exact .any
 |ag h1 h2 _ ih =>
  intro x he hh
  cases x <;> simp only[aJ,reduceCtorEq,V.ag.injEq]at he
  rename_i cs
  subst he
  rw[gj]at h1 h2 ih
  have g:∀(i:Nat) (x:V),cs[i]?=some x->(cs.map (aJ ρ))[i]?=some (aJ ρ x):=fun i x hx=>by rw[List.getElem?_map,hx];rfl
  exact .ag (by simpa using h1) (fun i x hx=>h2 i _ (g i x hx)) (fun i x hx=>ih i _ (g i x hx) rfl (cZ (by simpa only[ah]using hh) i x hx))
 |tu h1 _ ih =>
  intro x he hh
  cases x <;> simp only[aJ,reduceCtorEq,V.tu.injEq]at he
  rename_i cs
  subst he
  rw[gj]at h1 ih
  have g:∀(i:Nat) (x:V),cs[i]?=some x->(cs.map (aJ ρ))[i]?=some (aJ ρ x):=fun i x hx=>by rw[List.getElem?_map,hx];rfl
  exact .tu (by simpa using h1) (fun i x hx=>ih i _ (g i x hx) rfl (cZ (by simpa only[ah]using hh) i x hx))
 |cap h1 _ ih =>
  intro x he hh
  cases x <;> simp only[aJ,reduceCtorEq,V.cap.injEq]at he
  obtain⟨rfl,rfl,he⟩:=he
  exact .cap h1 (ih he (by simpa only[ah]using hh))
 |bx h1 h2 h3 hu _ ih =>
  intro x he hh
  cases x <;> simp only[aJ,reduceCtorEq,V.bx.injEq]at he
  exact .bx h1 h2 (fun h'=>h3 (yA _ h')) hu (ih he (by simpa only[ah]using hh))
 |cl h1 _ h3 _ u9 u5 =>
  intro x he hh
  cases x <;> simp only[aJ,reduceCtorEq,V.cl.injEq]at he
  rename_i fn first ai
  obtain⟨rfl,rfl,rfl⟩:=he
  rw[gj]at h1 u9 h3 u5
  simp only[ah,Bool.and_eq_true]at hh
  have g:∀(cs:List V) (i:Nat) (x:V),cs[i]?=some x->(cs.map (aJ ρ))[i]?=some (aJ ρ x):=fun cs i x hx=>by rw[List.getElem?_map,hx];rfl
  exact .cl (by simpa using h1) (fun i x hx=>u9 i _ (g _ i x hx) rfl (cZ hh.1 i x hx)) (by simpa using h3) (fun i x hx=>u5 i _ (g _ i x hx) rfl (cZ hh.2 i x hx))
 |so o ho hg hu hk =>
  intro x he hh
  cases x <;> simp only[aJ,reduceCtorEq,V.so.injEq]at he
  rename_i id g lo n
  obtain⟨rfl,rfl,rfl,rfl⟩:=he
  simp only[ah,decide_eq_true_eq]at hh
  have hx:=hs id exts[id] (by simp [hh])
  rw[ho]at hx
  simp only[Option.some.injEq]at hx
  subst hx
  refine .so exts[id] (by simp [hh]) hg hu fun sI=>?_
  have:=hk sI
  unfold vu at this ⊢
  rw[hσ id hh]
  exact this
 |rf o ho hg hu hk =>
  intro x he hh
  cases x <;> simp only[aJ,reduceCtorEq,V.rf.injEq]at he
  rename_i id g lo n
  obtain⟨rfl,rfl,rfl,rfl⟩:=he
  simp only[ah,decide_eq_true_eq]at hh
  have hx:=hs id exts[id] (by simp [hh])
  rw[ho]at hx
  simp only[Option.some.injEq]at hx
  subst hx
  refine .rf exts[id] (by simp [hh]) hg hu fun sI=>?_
  rw[hσ id hh]
  exact hk sI
 |pp o ho hg hk =>
  intro x he hh
  cases x <;> simp only[aJ,reduceCtorEq,V.pp.injEq]at he
  rename_i id g lo n b a
  obtain⟨rfl,rfl,rfl,rfl,rfl,rfl⟩:=he
  simp only[ah,decide_eq_true_eq]at hh
  have hx:=hs id exts[id] (by simp [hh])
  rw[ho]at hx
  simp only[Option.some.injEq]at hx
  subst hx
  refine .pp exts[id] (by simp [hh]) hg fun sI=>?_
  rw[hσ id hh]
  exact hk sI
 |mp o ho hg hu hk =>
  intro x he hh
  cases x <;> simp only[aJ,reduceCtorEq,V.mp.injEq]at he
  rename_i id g
  obtain⟨rfl,rfl⟩:=he
  simp only[ah,decide_eq_true_eq]at hh
  have hx:=hs id exts[id] (by simp [hh])
  rw[ho]at hx
  simp only[Option.some.injEq]at hx
  subst hx
  refine .mp exts[id] (by simp [hh]) hg hu fun sI=>?_
  rw[hσ id hh]
  exact hk sI
theorem Ly {σ' σn:Gh}{s' sn:List Obj}{w':World} (yA:∀b,Own σn sn b->Own σ' s' b) (hs:∀(k:Nat) (o:Obj),s'[k]?=some o->sn[ρ.getD k 0]?=some (aP ρ o)) (hσ:∀k,k<s'.length->σn (ρ.getD k 0)=σ' k)
  {x:V}{u:Value} (hr:aw σ' s' w' x u):aw σn sn w' (aJ ρ x) u:=by
 have g:∀(cs:List V) (i:Nat) (y:V),(cs.map (aJ ρ))[i]?=some y->∃x,cs[i]?=some x/\aJ ρ x=y:=fun cs i y hy=>by
  rw[List.getElem?_map]at hy
  exact Option.map_eq_some_iff.1 hy
 induction hr with
 |d hx=>exact .d (hx.own yA)
 |fu hx=>exact .fu (hx.own yA)
 |un=>exact .un
 |any=>exact .any
 |ag h1 h2 _ ih =>
  simp only[aJ,gj]
  refine .ag (by simpa using h1) (fun i y hy=>?_) (fun i y hy=>?_)
  ·obtain⟨x,hx,rfl⟩:=g _ i y hy;exact h2 i x hx
  ·obtain⟨x,hx,rfl⟩:=g _ i y hy;exact ih i x hx
 |tu h1 _ ih =>
  simp only[aJ,gj]
  refine .tu (by simpa using h1) (fun i y hy=>?_)
  obtain⟨x,hx,rfl⟩:=g _ i y hy;exact ih i x hx
 |bx h1 h2 h3 hu _ ih=>simp only[aJ];exact .bx h1 h2 (fun h'=>h3 (yA _ h')) hu ih
 |cap h1 _ ih=>simp only[aJ];exact .cap h1 ih
 |cl h1 _ h3 _ u9 u5 =>
  simp only[aJ,gj]
  refine .cl (by simpa using h1) (fun i y hy=>?_) (by simpa using h3) (fun i y hy=>?_)
  ·obtain⟨x,hx,rfl⟩:=g _ i y hy;exact u9 i x hx
  ·obtain⟨x,hx,rfl⟩:=g _ i y hy;exact u5 i x hx
 |so o ho hg hu hk =>
  have az:=(List.getElem?_eq_some_iff.1 ho).1
  refine .so (aP ρ o) (hs _ o ho) hg hu fun sI=>?_
  have:=hk sI
  unfold vu at this ⊢
  rw[hσ _ az]
  exact this
 |rf o ho hg hu hk =>
  have az:=(List.getElem?_eq_some_iff.1 ho).1
  refine .rf (aP ρ o) (hs _ o ho) hg hu fun sI=>?_
  rw[hσ _ az]
  exact hk sI
 |pp o ho hg hk =>
  have az:=(List.getElem?_eq_some_iff.1 ho).1
  refine .pp (aP ρ o) (hs _ o ho) hg fun sI=>?_
  rw[hσ _ az]
  exact hk sI
 |mp o ho hg hu hk =>
  have az:=(List.getElem?_eq_some_iff.1 ho).1
  refine .mp (aP ρ o) (hs _ o ho) hg hu fun sI=>?_
  rw[hσ _ az]
  exact hk sI
theorem A7 {ρ:List Nat}{x:V}{y:D} (h:aJ ρ x=.d y):x=.d y:=by
 cases x <;> simp_all [aJ]
theorem HE {ρ:List Nat}:∀{au:List (List V)}{es:List MapEntry},au.map (aJ.go ρ)=(es.map fun e=>[V.d (.sc e.key),V.d (.sc e.val)])->au=es.map fun e=>[V.d (.sc e.key),V.d (.sc e.val)]
 |[],[],_=>rfl
 |[],_::_,h=>by simp at h
 |_::_,[],h=>by simp at h
 |e::au,x::es,h=>by
  simp only[List.map_cons,List.cons.injEq]at h ⊢
  obtain⟨h1,h2⟩:=h
  refine⟨?_,HE h2⟩
  rw[gj]at h1
  match e,h1 with
  |[a,b],h1 =>
   simp only[List.map_cons,List.map_nil,List.cons.injEq,and_true]at h1
   rw[A7 h1.1,A7 h1.2]
  |[],h1=>simp at h1
  |[_],h1=>simp at h1
  |_::_::_::_,h1=>simp at h1
theorem rL.down {ρ:List Nat}{w:World}{p:Option (Nat×Nat)}{o:Obj} (h:rL w p (aP ρ o)):rL w p o:=by
 rcases h with ⟨h1,h2⟩|⟨b,es,c,h1,h2,h3⟩
 ·exact .inl ⟨h1,by simpa [aP]using h2⟩
 ·exact .inr ⟨b,es,c,h1,h2,HE h3⟩
theorem rL.up {ρ:List Nat}{w:World}{p:Option (Nat×Nat)}{o:Obj} (h:rL w p o):rL w p (aP ρ o):=by
 rcases h with ⟨h1,h2⟩|⟨b,es,c,h1,h2,h3⟩
 ·exact .inl ⟨h1,by simp [aP,h2]⟩
 ·refine .inr ⟨b,es,c,h1,h2,?_⟩
  simp only[aP,h3,eB,List.map_map]
  apply List.map_congr_left
  intro e _
  rfl
theorem CW {ρ:List Nat}{o:Obj}{i j:Nat}{y:V} (h:((aP ρ o).au[i]?.bind (·[j]?))=some y):∃x,(o.au[i]?.bind (·[j]?))=some x/\aJ ρ x=y:=by
 simp only[aP,List.getElem?_map]at h
 cases he:o.au[i]? with
 |none=>rw[he]at h;cases h
 |some e =>
  rw[he]at h
  simp only[Option.map_some,Option.bind_some,gj,List.getElem?_map]at h
  exact Option.map_eq_some_iff.1 h
theorem Be {ρ:List Nat}{o:Obj}{i j:Nat}{x:V} (h:(o.au[i]?.bind (·[j]?))=some x):((aP ρ o).au[i]?.bind (·[j]?))=some (aJ ρ x):=by
 simp only[aP,List.getElem?_map]
 cases he:o.au[i]? with
 |none=>rw[he]at h;cases h
 |some e =>
  rw[he]at h
  simp only[Option.map_some,Option.bind_some,gj,List.getElem?_map]
  rw[show e[j]?=some x from h]
  rfl
end frame
theorem sJ {P:Program}{f:FuncId}{cargs args:List V}{exts s:List Obj}{Kc K:V->List Obj->Prop} (h:aq P f cargs exts Kc) (ρ:List Nat) (hρ:ρ.length=exts.length) (uA:ρ.Nodup)
  (hs:∀(k:Nat) (o:Obj),exts[k]?=some o->s[ρ.getD k 0]?=some (aP ρ o)) (iE:args=cargs.map (aJ ρ)) (z8:ah.go exts.length cargs=true) (u4:exts.all (aQ exts.length)=true)
  (hk:∀v s',Kc v s'->s'.length=exts.length/\K (aJ ρ v) (aH s ρ (s'.map (aP ρ)))):aq P f args s K:=by
 refine⟨h.1,fun σ w vals hI hl hv=>?_⟩
 have N9:∀k,k<exts.length->ρ[k]?=some (ρ.getD k 0):=fun k hk=>by simp [List.getD,show k<ρ.length by omega]
 have T7:∀k k',k<exts.length->k'<exts.length->ρ.getD k 0=ρ.getD k' 0->k=k':=by
  intro k k' h1 h2 he
  have e1:=N9 k h1
  have e2:=N9 k' h2
  rw[he]at e1
  obtain⟨l1,g1⟩:=List.getElem?_eq_some_iff.1 e1
  obtain⟨l2,g2⟩:=List.getElem?_eq_some_iff.1 e2
  exact(List.getElem_inj uA).1 (g1.trans g2.symm)
 have FQ:∀k,(hk:k<exts.length)->s[ρ.getD k 0]?=some (aP ρ exts[k]):=fun k hk=>hs k exts[k] (by simp [hk])
 let pt:Nat->Prop:=fun b=>∃k base,k<exts.length/\σ (ρ.getD k 0)=some (b,base)
 let σc:Gh:=⟨fun k=>if k<exts.length then σ (ρ.getD k 0) else none,fun b=>Own σ s b/\¬pt b⟩
 have Ce:∀k,k<exts.length->σc k=σ (ρ.getD k 0):=fun k hk=>if_pos hk
 have vJ:∀b,Own σc exts b->Own σ s b:=by
  rintro b (hb|⟨k,o,base,h1,h2,h3⟩)
  ·exact hb.1
  ·have az:=(List.getElem?_eq_some_iff.1 h1).1
   rw[Ce k az]at h3
   exact .inr ⟨ρ.getD k 0,aP ρ o,base,hs k o h1,h2,h3⟩
 have JZ:∀b,Own σ s b->Own σc exts b:=by
  intro b hb
  by_cases he:pt b
  ·obtain⟨k,base,az,h3⟩:=he
   refine .inr ⟨k,exts[k],base,by simp [az],?_,by rw[Ce k az];exact h3⟩
   rcases hb with hb|⟨id,o,bp,g1,g2,g3⟩
   ·exact absurd hb (hI.apart _ _ b base (FQ k az) h3)
   ·have:=hI.inj id _ o _ b bp base g1 (FQ k az) g2 g3 h3
    subst this
    rw[FQ k az]at g1
    cases g1
    exact g2
  ·exact .inl ⟨hb,he⟩
 have Uo:Inv σc exts w:=by
  refine⟨fun k o ho=>?_,fun k k' o o' b base bp h1 h2 h3 h4 h5=>?_,fun b hb=>yK hI hb.1,fun k o b base h1 h2 hb=>?_⟩
  ·have az:=(List.getElem?_eq_some_iff.1 ho).1
   rw[Ce k az]
   rcases hI.content _ _ (hs k o ho) with g1|⟨b,base,arr,E,g1,g2,g3,g4,g5⟩
   ·exact .inl g1.down
   ·refine .inr ⟨b,base,arr,E,g1,g2,fun e he=>?_,by simpa [aP]using g4,fun i j x hx=>?_⟩
    ·have:=g3 (aJ.go ρ e) (List.mem_map.2 ⟨e,he,rfl⟩)
     rw[gj]at this
     simpa [aP]using this
    ·obtain⟨u,k1,k2,k3⟩:=g5 i j _ (Be hx)
     refine⟨u,k1,k2,tB vJ hs Ce k3 rfl ?_⟩
     have hobj:=List.all_eq_true.1 u4 o (List.mem_of_getElem? ho)
     cases yM:o.au[i]? with
     |none=>rw[yM]at hx;cases hx
     |some e =>
      rw[yM]at hx
      exact List.all_eq_true.1 (List.all_eq_true.1 hobj e (List.mem_of_getElem? yM)) x (List.mem_of_getElem? hx)
  ·have l1:=(List.getElem?_eq_some_iff.1 h1).1
   have l2:=(List.getElem?_eq_some_iff.1 h2).1
   rw[Ce k l1]at h4
   rw[Ce k' l2]at h5
   exact T7 k k' l1 l2 (hI.inj _ _ _ _ b base bp (hs k o h1) (hs k' o' h2) h3 h4 h5)
  ·have l1:=(List.getElem?_eq_some_iff.1 h1).1
   rw[Ce k l1]at h2
   exact hb.2 ⟨k,base,l1,h2⟩
 refine(h.2 σc w vals Uo (by rw[hl,iE];simp) (fun i x hx=>tB vJ hs Ce (hv i _ (by rw[iE,List.getElem?_map,hx];rfl)) rfl (cZ z8 i x hx))).mono fun e w' ⟨u,v,σ',s',he,hE,im,hR,hK⟩=>?_
 obtain⟨hlen,hK⟩:=hk v s' hK
 -- back
 let σn:Gh:=⟨fun id=>match ρ.idxOf? id with|some k=>σ' k|none=>σ id,σ.base⟩
 have PK:∀k,k<exts.length->ρ.idxOf? (ρ.getD k 0)=some k:=by
  intro k hk
  have e1:=N9 k hk
  obtain⟨l1,g1⟩:=List.getElem?_eq_some_iff.1 e1
  rw[List.idxOf?_eq_some_iff]
  refine⟨l1,by simp [g1],fun j hj=>?_⟩
  have VZ:j<ρ.length:=by omega
  intro hb
  have JT:ρ[j]=ρ.getD k 0:=by simpa using hb
  have:=(List.getElem_inj uA).1 (JT.trans g1.symm)
  omega
 have B0:∀k,k<exts.length->σn (ρ.getD k 0)=σ' k:=fun k hk=>by
  show (match ρ.idxOf? (ρ.getD k 0) with|some k=>σ' k|none=>σ (ρ.getD k 0))=σ' k
  rw[PK k hk]
 have De:∀id,id ∉ ρ->σn id=σ id:=fun id cL=>by
  show (match ρ.idxOf? id with|some k=>σ' k|none=>σ id)=σ id
  rw[List.idxOf?_eq_none_iff.2 cL]
 have pr:∀id,id∈ρ->∃k,k<exts.length/\id=ρ.getD k 0:=by
  intro id cL
  obtain⟨k,hk⟩:=List.mem_iff_getElem?.1 cL
  have az:=(List.getElem?_eq_some_iff.1 hk).1
  exact⟨k,by omega,by simp [List.getD,hk]⟩
 have F3:∀(k:Nat) (o:Obj),s'[k]?=some o->(aH s ρ (s'.map (aP ρ)))[ρ.getD k 0]?=some (aP ρ o):=by
  intro k o ho
  have az:k<exts.length:=by rw[<- hlen];exact(List.getElem?_eq_some_iff.1 ho).1
  exact tj ρ _ s k _ _ uA (N9 k az) (by rw[List.getElem?_map,ho];rfl) (List.getElem?_eq_some_iff.1 (FQ k az)).1
 have qm:∀id,id ∉ ρ->(aH s ρ (s'.map (aP ρ)))[id]?=s[id]?:=fun id cL=>fj ρ _ s id cL
 have sG:∀(k:Nat) (o:Obj),k<exts.length->(aH s ρ (s'.map (aP ρ)))[ρ.getD k 0]?=some o->∃o',s'[k]?=some o'/\o=aP ρ o':=by
  intro k o az ho
  have aK:k<s'.length:=by omega
  have:=F3 k s'[k] (by simp [aK])
  rw[ho]at this
  exact⟨s'[k],by simp [aK],by simpa using this⟩
 have eT:∀b,b<w.heap.size->Own σ s b->¬pt b->w'.heap[b]?=w.heap[b]?:=fun b hb h1 h2=>hE.eT b hb ⟨h1,h2⟩
 have x9:∀b,σ.base b->¬pt b:=by
  rintro b hb ⟨k,base,az,h3⟩
  exact hI.apart _ _ b base (FQ k az) h3 hb
 have n7:∀id o b base,id ∉ ρ->s[id]?=some o->σ id=some (b,base)->o.live=true->¬pt b:=by
  rintro id o b base cL ho h1 zq ⟨k,bp,az,h3⟩
  have:=hI.inj id _ o _ b base bp ho (FQ k az) zq h1 h3
  exact cL (by rw[this];exact List.mem_of_getElem? (N9 k az))
 have Lc:∀b,Own σn (aH s ρ (s'.map (aP ρ))) b->Own σ' s' b:=by
  rintro b (hb|⟨id,o,base,h1,h2,h3⟩)
  ·left;rw[hE.base];exact⟨.inl hb,x9 b hb⟩
  ·by_cases cL:id∈ρ
   ·obtain⟨k,az,rfl⟩:=pr id cL
    obtain⟨o',g1,rfl⟩:=sG k o az h1
    rw[B0 k az]at h3
    exact .inr ⟨k,o',base,g1,h2,h3⟩
   ·rw[qm id cL]at h1
    rw[De id cL]at h3
    left;rw[hE.base]
    exact⟨.inr ⟨id,o,base,h1,h2,h3⟩,n7 id o b base cL h1 h3 h2⟩
 have PB:aA σ s w σn (aH s ρ (s'.map (aP ρ))) w':=by
  refine⟨hE.os,hE.tape,hE.output,hE.size,fun b hb ho=>hE.aR b hb fun h'=>ho (vJ b h'),fun b arr E ho hh=>hE.shape b arr E (JZ b ho) hh,fun b ho hm=>hE.nk b (JZ b ho) hm,fun b hb=>?_,fun id o ho=>?_,rfl,
   fun b hb hf=>eT b hb (.inl hf) (x9 b hf)⟩
  ·rcases hE.own b (Lc b hb) with h'|h'
   ·exact .inl (vJ b h')
   ·exact .inr h'
  ·by_cases cL:id∈ρ
   ·obtain⟨k,az,rfl⟩:=pr id cL
    rw[FQ k az]at ho
    simp only[Option.some.injEq]at ho
    subst ho
    obtain⟨o',g1,g2,g3⟩:=hE.uY k exts[k] (by simp [az])
    refine⟨aP ρ o',F3 k o' g1,g2,fun he=>?_⟩
    obtain⟨e1,e2⟩:=g3 he
    exact⟨e1,by rw[B0 k az,e2,Ce k az]⟩
   ·exact⟨o,by rw[qm id cL];exact ho,Nat.le_refl _,fun _=>⟨rfl,De id cL⟩⟩
 have up:∀{x:V}{u:Value},aw σ' s' w' x u->aw σn (aH s ρ (s'.map (aP ρ))) w' (aJ ρ x) u:=fun hr =>
  Ly Lc F3 (fun k hk=>B0 k (by omega)) hr
 have hIn:Inv σn (aH s ρ (s'.map (aP ρ))) w':=by
  refine⟨fun id o ho=>?_,fun id jm o o' b base bp h1 h2 h3 h4 h5=>?_,fun b hb=>Nat.lt_of_lt_of_le (hI.low b hb) hE.size,fun id o b base h1 h2 hb=>?_⟩
  ·by_cases cL:id∈ρ
   ·obtain⟨k,az,rfl⟩:=pr id cL
    obtain⟨o',g1,rfl⟩:=sG k o az ho
    rw[B0 k az]
    rcases im.content k o' g1 with c1|⟨b,base,arr,E,c1,c2,c3,c4,c5⟩
    ·exact .inl c1.up
    ·refine .inr ⟨b,base,arr,E,c1,c2,fun e he=>?_,by simpa [aP]using c4,fun i j y hy=>?_⟩
     ·obtain⟨e',wN,rfl⟩:=List.mem_map.1 he
      rw[gj]
      simpa [aP]using c3 e' wN
     ·obtain⟨x,hx,rfl⟩:=CW hy
      obtain⟨u,k1,k2,k3⟩:=c5 i j x hx
      exact⟨u,k1,k2,up k3⟩
   ·rw[qm id cL]at ho
    rw[De id cL]
    refine rV.aO (p:=σ id) PB (fun b base hb=>?_) (hI.content id o ho)
    have az:=hI.lt ho hb
    by_cases hO:Own σ s b
    ·by_cases zq:o.live=true
     ·exact eT b az hO (n7 id o b base cL ho hb zq)
     ·exfalso
      rcases hO with hO|⟨jm,o',bp,g1,g2,g3⟩
      ·exact hI.apart id o b base ho hb hO
      ·have:=hI.inj jm id o' o b bp base g1 ho g2 g3 hb
       subst this
       rw[ho]at g1;cases g1
       exact zq g2
    ·exact hE.aR b az fun h'=>hO (vJ b h')
  ·by_cases cL:id∈ρ <;> by_cases td:jm∈ρ
   ·obtain⟨k,az,rfl⟩:=pr id cL
    obtain⟨k',aK,rfl⟩:=pr jm td
    obtain⟨p,g1,rfl⟩:=sG k o az h1
    obtain⟨p',Pt,rfl⟩:=sG k' o' aK h2
    rw[B0 k az]at h4
    rw[B0 k' aK]at h5
    rw[im.inj k k' p p' b base bp g1 Pt h3 h4 h5]
   ·exfalso
    obtain⟨k,az,rfl⟩:=pr id cL
    obtain⟨p,g1,rfl⟩:=sG k o az h1
    rw[B0 k az]at h4
    rw[qm jm td]at h2
    rw[De jm td]at h5
    have KR:=hI.lt h2 h5
    have hO:Own σ s b:=by
     rcases hE.own b (.inr ⟨k,p,base,g1,h3,h4⟩) with h'|h'
     ·exact vJ b h'
     ·omega
    by_cases zq:o'.live=true
    ·exact im.apart k p b base g1 h4 (by rw[hE.base];exact⟨hO,n7 jm o' b bp td h2 h5 zq⟩)
    ·rcases hO with hO|⟨Uz,o2,wW,q1,q2,q3⟩
     ·exact hI.apart jm o' b bp h2 h5 hO
     ·have:=hI.inj Uz jm o2 o' b wW bp q1 h2 q2 q3 h5
      subst this
      rw[h2]at q1;cases q1
      exact zq q2
   ·exfalso
    obtain⟨k',aK,rfl⟩:=pr jm td
    obtain⟨p',Pt,rfl⟩:=sG k' o' aK h2
    rw[B0 k' aK]at h5
    rw[qm id cL]at h1
    rw[De id cL]at h4
    exact im.apart k' p' b bp Pt h5 (by rw[hE.base];exact⟨.inr ⟨id,o,base,h1,h3,h4⟩,n7 id o b base cL h1 h4 h3⟩)
   ·rw[qm id cL]at h1
    rw[qm jm td]at h2
    rw[De id cL]at h4
    rw[De jm td]at h5
    exact hI.inj id jm o o' b base bp h1 h2 h3 h4 h5
  ·by_cases cL:id∈ρ
   ·obtain⟨k,az,rfl⟩:=pr id cL
    obtain⟨p,g1,rfl⟩:=sG k o az h1
    rw[B0 k az]at h2
    exact im.apart k p b base g1 h2 (by rw[hE.base];exact⟨.inl hb,x9 b hb⟩)
   ·rw[qm id cL]at h1
    rw[De id cL]at h2
    exact hI.apart id o b base h1 h2 hb
 exact⟨u,aJ ρ v,σn,_,he,PB,hIn,up hR,hK⟩
end Go.VL
