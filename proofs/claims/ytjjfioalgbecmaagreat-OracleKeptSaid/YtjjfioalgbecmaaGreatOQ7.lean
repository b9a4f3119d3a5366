/- A part of the proof (Vm). -/
import Derived.Test.YtjjfioalgbecmaaGreatOQ6
set_option linter.unusedSimpArgs false
set_option linter.unusedVariables false
set_option maxRecDepth 100000
set_option maxHeartbeats 80000000
namespace Go.VL
variable{f:FuncId}{s:List Obj}{P:Program}{args:List V}{K:V->List Obj->Prop}
theorem an{K':V->List Obj->Prop} (h:ar P f args s K) (hk:∀v s',K v s'->K' v s'):ar P f args s K' :=
 ⟨h.1,λσ w vals hI hl hv=>(h.2 σ w vals hI hl hv).mono λ_ _ ⟨u,v,σ',s',a,b,c,d,e⟩=>⟨u,v,σ',s',a,b,c,d,hk v s' e⟩⟩
theorem ay.move {σ σ':Gh}{s':List Obj}{w:World}{x:V}{u:Value} (hr:ay σ s w x u) (h:aj 0 x=true) (iV:∀b,Own σ' s' b->Own σ s b):ay σ' s' w x u:=by
 induction hr with
 |d hx=>exact .d (hx.own iV)
 |ag h1 h2 _ ih=>exact .ag h1 h2 λi x hx=>ih i x hx (du (by simpa only[aj]using h) i x hx)
 |tu h1 _ ih=>exact .tu h1 λi x hx=>ih i x hx (du (by simpa only[aj]using h) i x hx)
 |fu hx=>exact .fu (hx.own iV)
 |so o ho hg hu hk=>simp [aj]at h
 |rf o ho hg hu hk=>simp [aj]at h
 |pp o ho hg hk=>simp [aj]at h
 |mp o ho hg hu hk=>simp [aj]at h
 |bx h1 h2 h3 hu _ ih=>exact .bx h1 h2 (λh'=>h3 (iV _ h')) hu (ih (by simpa only[aj]using h))
 |cap h1 _ ih=>exact .cap h1 (ih (by simpa only[aj]using h))
 |cl h1 _ h3 _ sM xr =>
  simp only[aj,aj5]at h;exact .cl h1 (λi x hx=>sM i x hx (du h.1 i x hx)) h3 (λi x hx=>xr i x hx (du h.2 i x hx))
 |un=>exact .un
 |any=>exact .any
theorem Nv (lim:Nat) (l:List D):aj.go lim (l.map .d)=true:=by
 induction l with
 |nil=>rfl
 |cons x l ih=>simp [aj.go,aj,ih]
def aM (P:Program) (f:FuncId) (args:List V) (r:V):Prop:=ar P f args [] λv s'=>v=r/\s'=[]
theorem dD{r:V} (h:aM P f args r) (ha:aj.go 0 args=true) (hr:aj 0 r=true) (hk:K r s):ar P f args s K:=by
 refine⟨h.1,λσ w vals hI hl hv=>?_⟩;have e1:∀b,Own ⟨λ_=>none,Own σ s⟩ [] b->Own σ s b:=by
  rintro b (h|⟨id,o,base,h1,_⟩)
  ·exact h
  ·simp at h1
 refine(h.2 ⟨λ_=>none,Own σ s⟩ w vals ⟨λid o ho=>by simp at ho,λid _ o _ _ _ _ ho=>by simp at ho,λb hb=>wP hI hb,λid o _ _ ho=>by simp at ho⟩ hl
  (λi x hx=>(hv i x hx).move (du ha i x hx) e1)).mono λe w' ⟨u,v,σ',s',he,hE,fS,hR,hv',jz⟩=>?_
 subst hv';subst jz;have same:=tv (w':=w') hI hE.os hE.tape hE.output hE.size λb hb=>by
  by_cases ho:Own σ s b
  ·exact hE.fj b hb ho
  ·exact hE.aZ b hb λh'=>ho (e1 b h')
 refine⟨u,_,σ,s,he,same.1,same.2,hR.move hr λb hb=>.inl ?_,hk⟩;rw[hE.base];exact hb
theorem dY{r:V}(h:aM P f args r)(hk:K r s)(ha:aj.go 0 args=true:=by first|rfl|simp [aj,aj.go,av,i64,bV,fA])(hr:aj 0 r=true:=by first|rfl|simp [aj,aj.go,av,i64,bV,fA]):ar P f args s K:=dD h ha hr hk
def aE (ρ:List Nat):V->V
 |.so id g lo n=>.so (ρ.getD id 0) g lo n
 |.rf id g i off=>.rf (ρ.getD id 0) g i off
 |.pp id g i off b a=>.pp (ρ.getD id 0) g i off b a
 |.mp id g=>.mp (ρ.getD id 0) g
 |.ag cs=>.ag (go cs)
 |.tu cs=>.tu (go cs)
 |.bx v=>.bx (aE ρ v)
 |.cap lo hi v=>.cap lo hi (aE ρ v)
 |.cl fn first ai=>.cl fn (go first) (go ai)
 |.d x=>.d x
 |.fu au=>.fu au
 |.un=>.un
 |.any=>.any
where go:List V->List V
 |[]=>[]
 |v::vs=>aE ρ v::go vs
theorem iX (ρ:List Nat):∀(l:List V),aE.go ρ l=l.map (aE ρ)
 |[]=>rfl
 |v::vs=>by simp [aE.go,iX ρ vs]
def aN (ρ:List Nat) (o:Obj):Obj:={ o with au:=o.au.map (aE.go ρ) }
def aJ (s:List Obj):List Nat->List Obj->List Obj
 |r::ρ,o::os=>aJ (s.set r o) ρ os
 |_,_=>s
theorem n8:∀(ρ:List Nat) (os:List Obj) (s:List Obj),(aJ s ρ os).length=s.length
 |[],_,s=>by simp [aJ]
 |r::ρ,[],s=>by simp [aJ]
 |r::ρ,o::os,s=>by simp [aJ,n8 ρ os]
theorem gG:∀(ρ:List Nat) (os:List Obj) (s:List Obj) (id:Nat),id ∉ ρ->(aJ s ρ os)[id]?=s[id]?
 |[],_,s,id,_=>by simp [aJ]
 |r::ρ,[],s,id,_=>by simp [aJ]
 |r::ρ,o::os,s,id,h=>by simp only[akD,not_or]at h;simp only[aJ];rw[gG ρ os _ id h.2,List.getElem?_set_ne (Ne.symm h.1)]
theorem xq:∀(ρ:List Nat) (os:List Obj) (s:List Obj) (k r:Nat) (o:Obj),ρ.Nodup->ρ[k]?=some r->os[k]?=some o->r<s.length->(aJ s ρ os)[r]?=some o
 |[],_,s,k,r,o,_,h,_,_=>by simp at h
 |r'::ρ,[],s,k,r,o,_,_,h,_=>by simp at h
 |r'::ρ,o'::os,s,k,r,o,hn,h1,h2,h3=>by
  simp only[List.nodup_cons]at hn;simp only[aJ];cases k with
  |zero =>
   simp only[List.getElem?_cons_zero,ajU]at h1 h2;subst h1;subst h2;rw[gG ρ os _ r' hn.1,List.getElem?_set_self h3]
  |succ k=>exact xq ρ os _ k r o hn.2 (by simpa using h1) (by simpa using h2) (by simpa using h3)
section frame
variable {σ:Gh}{s exts:List Obj}{ρ:List Nat}{w:World}
variable{u:Value}{x:V}{o:Obj}{p:Option (Nat×Nat)}
theorem xF {σc:Gh} (CU:∀b,Own σc exts b->Own σ s b) (hs:∀(k:Nat) (o:Obj),exts[k]?=some o->s[ρ.getD k 0]?=some (aN ρ o)) (hσ:∀k,k<exts.length->σc k=σ (ρ.getD k 0))
  {y:V} (hr:ay σ s w y u):∀{x:V},aE ρ x=y->aj exts.length x=true->ay σc exts w x u:=by
 induction hr with
 |d hx=>intro x he hh;cases x <;> simp only[aE,reduceCtorEq,V.d.injEq]at he;subst he;exact .d (hx.own CU)
 |fu hx=>intro x he hh;cases x <;> simp only[aE,reduceCtorEq,V.fu.injEq]at he;subst he;exact .fu (hx.own CU)
 |un=>intro x he hh;cases x <;> simp only[aE,reduceCtorEq]at he;exact .un
 |any=>intro x he hh;cases x <;> simp only[aE,reduceCtorEq]at he;exact .any
 |ag h1 h2 _ ih =>
  intro x he hh;cases x <;> simp only[aE,reduceCtorEq,V.ag.injEq]at he;rename_i cs;subst he;rw[iX]at h1 h2 ih;have g:∀(i:Nat) (x:V),cs[i]?=some x->(cs.map (aE ρ))[i]?=some (aE ρ x):=λi x hx=>by rw[List.getElem?_map,hx];rfl
  exact .ag (by simpa using h1) (λi x hx=>h2 i _ (g i x hx)) (λi x hx=>ih i _ (g i x hx) rfl (du (by simpa only[aj]using hh) i x hx))
 |tu h1 _ ih =>
  intro x he hh;cases x <;> simp only[aE,reduceCtorEq,V.tu.injEq]at he;rename_i cs;subst he;rw[iX]at h1 ih;have g:∀(i:Nat) (x:V),cs[i]?=some x->(cs.map (aE ρ))[i]?=some (aE ρ x):=λi x hx=>by rw[List.getElem?_map,hx];rfl
  exact .tu (by simpa using h1) (λi x hx=>ih i _ (g i x hx) rfl (du (by simpa only[aj]using hh) i x hx))
 |cap h1 _ ih =>
  intro x he hh;cases x <;> simp only[aE,reduceCtorEq,V.cap.injEq]at he;obtain⟨rfl,rfl,he⟩:=he;exact .cap h1 (ih he (by simpa only[aj]using hh))
 |bx h1 h2 h3 hu _ ih =>
  intro x he hh;cases x <;> simp only[aE,reduceCtorEq,V.bx.injEq]at he;exact .bx h1 h2 (λh'=>h3 (CU _ h')) hu (ih he (by simpa only[aj]using hh))
 |cl h1 _ h3 _ sM xr =>
  intro x he hh;cases x <;> simp only[aE,reduceCtorEq,V.cl.injEq]at he;rename_i fn first ai
  obtain⟨rfl,rfl,rfl⟩:=he;rw[iX]at h1 sM h3 xr;simp only[aj,aj5]at hh;have g:∀(cs:List V) (i:Nat) (x:V),cs[i]?=some x->(cs.map (aE ρ))[i]?=some (aE ρ x):=λcs i x hx=>by rw[List.getElem?_map,hx];rfl
  exact .cl (by simpa using h1) (λi x hx=>sM i _ (g _ i x hx) rfl (du hh.1 i x hx)) (by simpa using h3) (λi x hx=>xr i _ (g _ i x hx) rfl (du hh.2 i x hx))
 |so o ho hg hu hk =>
  intro x he hh;cases x <;> simp only[aE,reduceCtorEq,V.so.injEq]at he;rename_i id g lo n;obtain⟨rfl,rfl,rfl,rfl⟩:=he;simp only[aj,decide_eq_true_eq]at hh;have hx:=hs id exts[id] (by simp [hh]);rw[ho]at hx;simp only[ajU]at hx;subst hx;refine .so exts[id] (by simp [hh]) hg hu λwG=>?_;have:=hk wG;unfold zq at this ⊢;rw[hσ id hh];exact this
 |rf o ho hg hu hk =>
  intro x he hh;cases x <;> simp only[aE,reduceCtorEq,V.rf.injEq]at he;rename_i id g lo n;obtain⟨rfl,rfl,rfl,rfl⟩:=he;simp only[aj,decide_eq_true_eq]at hh;have hx:=hs id exts[id] (by simp [hh]);rw[ho]at hx;simp only[ajU]at hx;subst hx;refine .rf exts[id] (by simp [hh]) hg hu λwG=>?_;rw[hσ id hh];exact hk wG
 |pp o ho hg hk =>
  intro x he hh;cases x <;> simp only[aE,reduceCtorEq,V.pp.injEq]at he;rename_i id g lo n b a;obtain⟨rfl,rfl,rfl,rfl,rfl,rfl⟩:=he;simp only[aj,decide_eq_true_eq]at hh;have hx:=hs id exts[id] (by simp [hh]);rw[ho]at hx;simp only[ajU]at hx;subst hx;refine .pp exts[id] (by simp [hh]) hg λwG=>?_;rw[hσ id hh];exact hk wG
 |mp o ho hg hu hk =>
  intro x he hh;cases x <;> simp only[aE,reduceCtorEq,V.mp.injEq]at he;rename_i id g;obtain⟨rfl,rfl⟩:=he;simp only[aj,decide_eq_true_eq]at hh;have hx:=hs id exts[id] (by simp [hh]);rw[ho]at hx;simp only[ajU]at hx;subst hx;refine .mp exts[id] (by simp [hh]) hg hu λwG=>?_;rw[hσ id hh];exact hk wG
theorem Tz {σ' σn:Gh}{s' sn:List Obj}{w':World} (CU:∀b,Own σn sn b->Own σ' s' b) (hs:∀(k:Nat) (o:Obj),s'[k]?=some o->sn[ρ.getD k 0]?=some (aN ρ o)) (hσ:∀k,k<s'.length->σn (ρ.getD k 0)=σ' k)
  (hr:ay σ' s' w' x u):ay σn sn w' (aE ρ x) u:=by
 have g:∀(cs:List V) (i:Nat) (y:V),(cs.map (aE ρ))[i]?=some y->∃x,cs[i]?=some x/\aE ρ x=y:=λcs i y hy=>by rw[List.getElem?_map]at hy;exact Option.map_eq_some_iff.1 hy
 induction hr with
 |d hx=>exact .d (hx.own CU)
 |fu hx=>exact .fu (hx.own CU)
 |un=>exact .un
 |any=>exact .any
 |ag h1 h2 _ ih =>
  simp only[aE,iX];refine .ag (by simpa using h1) (λi y hy=>?_) (λi y hy=>?_)
  ·obtain⟨x,hx,rfl⟩:=g _ i y hy;exact h2 i x hx
  ·obtain⟨x,hx,rfl⟩:=g _ i y hy;exact ih i x hx
 |tu h1 _ ih =>
  simp only[aE,iX];refine .tu (by simpa using h1) (λi y hy=>?_);obtain⟨x,hx,rfl⟩:=g _ i y hy;exact ih i x hx
 |bx h1 h2 h3 hu _ ih=>simp only[aE];exact .bx h1 h2 (λh'=>h3 (CU _ h')) hu ih
 |cap h1 _ ih=>simp only[aE];exact .cap h1 ih
 |cl h1 _ h3 _ sM xr =>
  simp only[aE,iX];refine .cl (by simpa using h1) (λi y hy=>?_) (by simpa using h3) (λi y hy=>?_)
  ·obtain⟨x,hx,rfl⟩:=g _ i y hy;exact sM i x hx
  ·obtain⟨x,hx,rfl⟩:=g _ i y hy;exact xr i x hx
 |so o ho hg hu hk =>
  have az:=(List.getElem?_eq_some_iff.1 ho).1;refine .so (aN ρ o) (hs _ o ho) hg hu λwG=>?_;have:=hk wG;unfold zq at this ⊢;rw[hσ _ az];exact this
 |rf o ho hg hu hk =>
  have az:=(List.getElem?_eq_some_iff.1 ho).1;refine .rf (aN ρ o) (hs _ o ho) hg hu λwG=>?_;rw[hσ _ az];exact hk wG
 |pp o ho hg hk =>
  have az:=(List.getElem?_eq_some_iff.1 ho).1;refine .pp (aN ρ o) (hs _ o ho) hg λwG=>?_;rw[hσ _ az];exact hk wG
 |mp o ho hg hu hk =>
  have az:=(List.getElem?_eq_some_iff.1 ho).1;refine .mp (aN ρ o) (hs _ o ho) hg hu λwG=>?_;rw[hσ _ az];exact hk wG
theorem G3 {ρ:List Nat}{y:D} (h:aE ρ x=.d y):x=.d y:=by
 cases x <;> simp_all [aE]
theorem Oo {ρ:List Nat}:∀{au:List (List V)}{es:List MapEntry},au.map (aE.go ρ)=(es.map λe=>[V.d (.sc e.key),V.d (.sc e.val)])->au=es.map λe=>[V.d (.sc e.key),V.d (.sc e.val)]
 |[],[],_=>rfl
 |[],_::_,h=>by simp at h
 |_::_,[],h=>by simp at h
 |e::au,x::es,h=>by
  simp only[ajR,alh]at h ⊢;obtain⟨h1,h2⟩:=h;refine⟨?_,Oo h2⟩;rw[iX]at h1
  match e,h1 with
  |[a,b],h1 =>
   simp only[ajR,ajV,alh,and_true]at h1;rw[G3 h1.1,G3 h1.2]
  |[],h1=>simp at h1
  |[_],h1=>simp at h1
  |_::_::_::_,h1=>simp at h1
theorem vC.down {ρ:List Nat}{w:World} (h:vC w p (aN ρ o)):vC w p o:=by
 rcases h with ⟨h1,h2⟩|⟨b,es,c,h1,h2,h3⟩
 ·exact .inl ⟨h1,by simpa [aN]using h2⟩
 ·exact .inr ⟨b,es,c,h1,h2,Oo h3⟩
theorem vC.up {ρ:List Nat}{w:World} (h:vC w p o):vC w p (aN ρ o):=by
 rcases h with ⟨h1,h2⟩|⟨b,es,c,h1,h2,h3⟩
 ·exact .inl ⟨h1,by simp [aN,h2]⟩
 ·refine .inr ⟨b,es,c,h1,h2,?_⟩;simp only[aN,h3,fz,akq];apply akz;intro e _;rfl
theorem Jb {ρ:List Nat}{i j:Nat}{y:V} (h:((aN ρ o).au[i]?.bind (·[j]?))=some y):∃x,(o.au[i]?.bind (·[j]?))=some x/\aE ρ x=y:=by
 simp only[aN,List.getElem?_map]at h;cases he:o.au[i]? with
 |none=>rw[he]at h;cases h
 |some e =>
  rw[he]at h;simp only[ajS,akA,iX,List.getElem?_map]at h;exact Option.map_eq_some_iff.1 h
theorem Hd {ρ:List Nat}{i j:Nat} (h:(o.au[i]?.bind (·[j]?))=some x):((aN ρ o).au[i]?.bind (·[j]?))=some (aE ρ x):=by
 simp only[aN,List.getElem?_map];cases he:o.au[i]? with
 |none=>rw[he]at h;cases h
 |some e =>
  rw[he]at h;simp only[ajS,akA,iX,List.getElem?_map];rw[show e[j]?=some x from h];rfl
end frame
theorem rE {P:Program}{f:FuncId}{cargs args:List V}{exts s:List Obj}{Kc K:V->List Obj->Prop} (h:ar P f cargs exts Kc) (ρ:List Nat) (hρ:ρ.length=exts.length) (hnd:ρ.Nodup)
  (hs:∀(k:Nat) (o:Obj),exts[k]?=some o->s[ρ.getD k 0]?=some (aN ρ o)) (kj:args=cargs.map (aE ρ)) (wY:aj.go exts.length cargs=true) (xA:exts.all (aK exts.length)=true)
  (hk:∀v s',Kc v s'->s'.length=exts.length/\K (aE ρ v) (aJ s ρ (s'.map (aN ρ)))):ar P f args s K:=by
 refine⟨h.1,λσ w vals hI hl hv=>?_⟩;have W5:∀k,k<exts.length->ρ[k]?=some (ρ.getD k 0):=λk hk=>by simp [List.getD,show k<ρ.length by omega]
 have hρi:∀k k',k<exts.length->k'<exts.length->ρ.getD k 0=ρ.getD k' 0->k=k':=by intro k k' h1 h2 he;have e1:=W5 k h1;have e2:=W5 k' h2;rw[he]at e1;obtain⟨l1,g1⟩:=List.getElem?_eq_some_iff.1 e1;obtain⟨l2,g2⟩:=List.getElem?_eq_some_iff.1 e2;exact(List.getElem_inj hnd).1 (g1.trans g2.symm)
 have IP:∀k,(hk:k<exts.length)->s[ρ.getD k 0]?=some (aN ρ exts[k]):=λk hk=>hs k exts[k] (by simp [hk]);let sR:Nat->Prop:=λb=>∃k base,k<exts.length/\σ (ρ.getD k 0)=some (b,base);let σc:Gh:=⟨λk=>if k<exts.length then σ (ρ.getD k 0) else none,λb=>Own σ s b/\¬sR b⟩
 have H9:∀k,k<exts.length->σc k=σ (ρ.getD k 0):=λk hk=>be hk;have zP:∀b,Own σc exts b->Own σ s b:=by
  rintro b (hb|⟨k,o,base,h1,h2,h3⟩)
  ·exact hb.1
  ·have az:=(List.getElem?_eq_some_iff.1 h1).1;rw[H9 k az]at h3;exact .inr ⟨ρ.getD k 0,aN ρ o,base,hs k o h1,h2,h3⟩
 have Rv:∀b,Own σ s b->Own σc exts b:=by
  intro b hb;by_cases he:sR b
  ·obtain⟨k,base,az,h3⟩:=he;refine .inr ⟨k,exts[k],base,by simp [az],?_,by rw[H9 k az];exact h3⟩;rcases hb with hb|⟨id,o,bN,g1,g2,g3⟩
   ·exact absurd hb (hI.apart _ _ b base (IP k az) h3)
   ·have:=hI.inj id _ o _ b bN base g1 (IP k az) g2 g3 h3;subst this;rw[IP k az]at g1;cases g1;exact g2
  ·exact .inl ⟨hb,he⟩
 have hIc:Inv σc exts w:=by
  refine⟨λk o ho=>?_,λk k' o o' b base bN h1 h2 h3 h4 h5=>?_,λb hb=>wP hI hb.1,λk o b base h1 h2 hb=>?_⟩
  ·have az:=(List.getElem?_eq_some_iff.1 ho).1;rw[H9 k az];rcases hI.content _ _ (hs k o ho) with g1|⟨b,base,arr,E,g1,g2,g3,g4,g5⟩
   ·exact .inl g1.down
   ·refine .inr ⟨b,base,arr,E,g1,g2,λe he=>?_,by simpa [aN]using g4,λi j x hx=>?_⟩
    ·have:=g3 (aE.go ρ e) (List.mem_map.2 ⟨e,he,rfl⟩);rw[iX]at this;simpa [aN]using this
    ·obtain⟨u,k1,k2,k3⟩:=g5 i j _ (Hd hx);refine⟨u,k1,k2,xF zP hs H9 k3 rfl ?_⟩;have hobj:=List.all_eq_true.1 xA o (List.mem_of_getElem? ho);cases Df:o.au[i]? with
     |none=>rw[Df]at hx;cases hx
     |some e =>
      rw[Df]at hx;exact List.all_eq_true.1 (List.all_eq_true.1 hobj e (List.mem_of_getElem? Df)) x (List.mem_of_getElem? hx)
  ·have l1:=(List.getElem?_eq_some_iff.1 h1).1;have l2:=(List.getElem?_eq_some_iff.1 h2).1;rw[H9 k l1]at h4;rw[H9 k' l2]at h5;exact hρi k k' l1 l2 (hI.inj _ _ _ _ b base bN (hs k o h1) (hs k' o' h2) h3 h4 h5)
  ·have l1:=(List.getElem?_eq_some_iff.1 h1).1;rw[H9 k l1]at h2;exact hb.2 ⟨k,base,l1,h2⟩
 refine(h.2 σc w vals hIc (by rw[hl,kj];simp) (λi x hx=>xF zP hs H9 (hv i _ (by rw[kj,List.getElem?_map,hx];rfl)) rfl (du wY i x hx))).mono λe w' ⟨u,v,σ',s',he,hE,fS,hR,hK⟩=>?_;obtain⟨hlen,hK⟩:=hk v s' hK;let σn:Gh:=⟨λid=>match ρ.idxOf? id with|some k=>σ' k|none=>σ id,σ.base⟩
 have YF:∀k,k<exts.length->ρ.idxOf? (ρ.getD k 0)=some k:=by
  intro k hk;have e1:=W5 k hk;obtain⟨l1,g1⟩:=List.getElem?_eq_some_iff.1 e1;rw[List.idxOf?_eq_some_iff];refine⟨l1,by simp [g1],λj hj=>?_⟩;have hj':j<ρ.length:=ae;intro hb;have IJ:ρ[j]=ρ.getD k 0:=by simpa using hb
  have:=(List.getElem_inj hnd).1 (IJ.trans g1.symm);omega
 have HY:∀k,k<exts.length->σn (ρ.getD k 0)=σ' k:=λk hk=>by show (match ρ.idxOf? (ρ.getD k 0) with|some k=>σ' k|none=>σ (ρ.getD k 0))=σ' k;rw[YF k hk]
 have Jn:∀id,id ∉ ρ->σn id=σ id:=λid dc=>by show (match ρ.idxOf? id with|some k=>σ' k|none=>σ id)=σ id;rw[List.idxOf?_eq_none_iff.2 dc]
 have sQ:∀id,id∈ρ->∃k,k<exts.length/\id=ρ.getD k 0:=by intro id dc;obtain⟨k,hk⟩:=List.mem_iff_getElem?.1 dc;have az:=(List.getElem?_eq_some_iff.1 hk).1;exact⟨k,ae,by simp [List.getD,hk]⟩
 have Mp:∀(k:Nat) (o:Obj),s'[k]?=some o->(aJ s ρ (s'.map (aN ρ)))[ρ.getD k 0]?=some (aN ρ o):=by
  intro k o ho;have az:k<exts.length:=by rw[<- hlen];exact(List.getElem?_eq_some_iff.1 ho).1
  exact xq ρ _ s k _ _ hnd (W5 k az) (by rw[List.getElem?_map,ho];rfl) (List.getElem?_eq_some_iff.1 (IP k az)).1
 have tU:∀id,id ∉ ρ->(aJ s ρ (s'.map (aN ρ)))[id]?=s[id]?:=λid dc=>gG ρ _ s id dc;have wE:∀(k:Nat) (o:Obj),k<exts.length->(aJ s ρ (s'.map (aN ρ)))[ρ.getD k 0]?=some o->∃o',s'[k]?=some o'/\o=aN ρ o':=by intro k o az ho;have aA:k<s'.length:=ae;have:=Mp k s'[k] (by simp [aA]);rw[ho]at this;exact⟨s'[k],by simp [aA],by simpa using this⟩
 have fj:∀b,b<w.heap.size->Own σ s b->¬sR b->w'.heap[b]?=w.heap[b]?:=λb hb h1 h2=>hE.fj b hb ⟨h1,h2⟩;have Cp:∀b,σ.base b->¬sR b:=by rintro b hb ⟨k,base,az,h3⟩;exact hI.apart _ _ b base (IP k az) h3 hb
 have qZ:∀id o b base,id ∉ ρ->s[id]?=some o->σ id=some (b,base)->o.live=true->¬sR b:=by rintro id o b base dc ho h1 D8 ⟨k,bN,az,h3⟩;have:=hI.inj id _ o _ b base bN ho (IP k az) D8 h1 h3;exact dc (by rw[this];exact List.mem_of_getElem? (W5 k az))
 have S4:∀b,Own σn (aJ s ρ (s'.map (aN ρ))) b->Own σ' s' b:=by
  rintro b (hb|⟨id,o,base,h1,h2,h3⟩)
  ·left;rw[hE.base];exact⟨.inl hb,Cp b hb⟩
  ·by_cases dc:id∈ρ
   ·obtain⟨k,az,rfl⟩:=sQ id dc;obtain⟨o',g1,rfl⟩:=wE k o az h1;rw[HY k az]at h3;exact .inr ⟨k,o',base,g1,h2,h3⟩
   ·rw[tU id dc]at h1;rw[Jn id dc]at h3;left;rw[hE.base];exact⟨.inr ⟨id,o,base,h1,h2,h3⟩,qZ id o b base dc h1 h3 h2⟩
 have VQ:aC σ s w σn (aJ s ρ (s'.map (aN ρ))) w':=by
  refine⟨hE.os,hE.tape,hE.output,hE.size,λb hb ho=>hE.aZ b hb λh'=>ho (zP b h'),λb arr E ho hh=>hE.shape b arr E (Rv b ho) hh,λb ho hm=>hE.qc b (Rv b ho) hm,λb hb=>?_,λid o ho=>?_,rfl,
   λb hb hf=>fj b hb (.inl hf) (Cp b hf)⟩
  ·rcases hE.own b (S4 b hb) with h'|h'
   ·exact .inl (zP b h')
   ·exact .inr h'
  ·by_cases dc:id∈ρ
   ·obtain⟨k,az,rfl⟩:=sQ id dc;rw[IP k az]at ho;simp only[ajU]at ho;subst ho;obtain⟨o',g1,g2,g3⟩:=hE.iN k exts[k] (by simp [az]);refine⟨aN ρ o',Mp k o' g1,g2,λhe=>?_⟩;obtain⟨e1,e2⟩:=g3 he;exact⟨e1,by rw[HY k az,e2,H9 k az]⟩
   ·exact⟨o,by rw[tU id dc];exact ho,ajZ _,λ_=>⟨rfl,Jn id dc⟩⟩
 have up:∀{x:V}{u:Value},ay σ' s' w' x u->ay σn (aJ s ρ (s'.map (aN ρ))) w' (aE ρ x) u:=λhr =>
  Tz S4 Mp (λk hk=>HY k ae) hr
 have hIn:Inv σn (aJ s ρ (s'.map (aN ρ))) w':=by
  refine⟨λid o ho=>?_,λid kX o o' b base bN h1 h2 h3 h4 h5=>?_,λb hb=>ak8 (hI.low b hb) hE.size,λid o b base h1 h2 hb=>?_⟩
  ·by_cases dc:id∈ρ
   ·obtain⟨k,az,rfl⟩:=sQ id dc;obtain⟨o',g1,rfl⟩:=wE k o az ho;rw[HY k az];rcases fS.content k o' g1 with c1|⟨b,base,arr,E,c1,c2,c3,c4,c5⟩
    ·exact .inl c1.up
    ·refine .inr ⟨b,base,arr,E,c1,c2,λe he=>?_,by simpa [aN]using c4,λi j y hy=>?_⟩
     ·obtain⟨e',vV,rfl⟩:=List.mem_map.1 he;rw[iX];simpa [aN]using c3 e' vV
     ·obtain⟨x,hx,rfl⟩:=Jb hy;obtain⟨u,k1,k2,k3⟩:=c5 i j x hx;exact⟨u,k1,k2,up k3⟩
   ·rw[tU id dc]at ho;rw[Jn id dc];refine vI.aR (p:=σ id) VQ (λb base hb=>?_) (hI.content id o ho);have az:=hI.lt ho hb;by_cases hO:Own σ s b
    ·by_cases D8:o.live=true
     ·exact fj b az hO (qZ id o b base dc ho hb D8)
     ·exfalso;rcases hO with hO|⟨kX,o',bN,g1,g2,g3⟩
      ·exact hI.apart id o b base ho hb hO
      ·have:=hI.inj kX id o' o b bN base g1 ho g2 g3 hb;subst this;rw[ho]at g1;cases g1;exact D8 g2
    ·exact hE.aZ b az λh'=>hO (zP b h')
  ·by_cases dc:id∈ρ <;> by_cases xl:kX∈ρ
   ·obtain⟨k,az,rfl⟩:=sQ id dc;obtain⟨k',aA,rfl⟩:=sQ kX xl;obtain⟨p,g1,rfl⟩:=wE k o az h1;obtain⟨p',Yn,rfl⟩:=wE k' o' aA h2;rw[HY k az]at h4;rw[HY k' aA]at h5;rw[fS.inj k k' p p' b base bN g1 Yn h3 h4 h5]
   ·exfalso;obtain⟨k,az,rfl⟩:=sQ id dc;obtain⟨p,g1,rfl⟩:=wE k o az h1;rw[HY k az]at h4;rw[tU kX xl]at h2;rw[Jn kX xl]at h5;have SI:=hI.lt h2 h5;have hO:Own σ s b:=by
     rcases hE.own b (.inr ⟨k,p,base,g1,h3,h4⟩) with h'|h'
     ·exact zP b h'
     ·omega
    by_cases D8:o'.live=true
    ·exact fS.apart k p b base g1 h4 (by rw[hE.base];exact⟨hO,qZ kX o' b bN xl h2 h5 D8⟩)
    ·rcases hO with hO|⟨id2,o2,A4,q1,q2,q3⟩
     ·exact hI.apart kX o' b bN h2 h5 hO
     ·have:=hI.inj id2 kX o2 o' b A4 bN q1 h2 q2 q3 h5;subst this;rw[h2]at q1;cases q1;exact D8 q2
   ·exfalso;obtain⟨k',aA,rfl⟩:=sQ kX xl;obtain⟨p',Yn,rfl⟩:=wE k' o' aA h2;rw[HY k' aA]at h5;rw[tU id dc]at h1;rw[Jn id dc]at h4;exact fS.apart k' p' b bN Yn h5 (by rw[hE.base];exact⟨.inr ⟨id,o,base,h1,h3,h4⟩,qZ id o b base dc h1 h4 h3⟩)
   ·rw[tU id dc]at h1;rw[tU kX xl]at h2;rw[Jn id dc]at h4;rw[Jn kX xl]at h5;exact hI.inj id kX o o' b base bN h1 h2 h3 h4 h5
  ·by_cases dc:id∈ρ
   ·obtain⟨k,az,rfl⟩:=sQ id dc;obtain⟨p,g1,rfl⟩:=wE k o az h1;rw[HY k az]at h2;exact fS.apart k p b base g1 h2 (by rw[hE.base];exact⟨.inl hb,Cp b hb⟩)
   ·rw[tU id dc]at h1;rw[Jn id dc]at h2;exact hI.apart id o b base h1 h2 hb
 exact⟨u,aE ρ v,σn,_,he,VQ,hIn,up hR,hK⟩
end Go.VL
