/- A part of the proof (Vhm Vgc). -/
import Derived.ChangeMaps5
import Derived.MapKept
import Derived.Test.YtfmdmlfhigocaaaOF3
set_option linter.unusedSimpArgs false
set_option linter.unusedVariables false
set_option maxRecDepth 100000
set_option maxHeartbeats 80000000
namespace Go.VL
open Go.ChangeMaps (setBlock)
def FC (k:IntKind):List (List V)->Option (List (Int×Bool))
 |[]=>some []
 |[.d (.sc (.int k' n)),.d (.sc (.bool b))]::rest=>if k'=k then (FC k rest).map ((n,b)::·) else none
 |_::_=>none
theorem Kv {k:IntKind}{a v:Value}{rest:List (List V)}{l:List (Int×Bool)} (h:FC k ([V.d (.sc a),V.d (.sc v)]::rest)=some l):∃n b l',a=.int k n/\v=.bool b/\l=(n,b)::l'/\FC k rest=some l':=by
 unfold FC at h
 split at h
 ·rename_i he;cases he
 ·rename_i k' n b RM he
  simp only[List.cons.injEq,V.d.injEq,D.sc.injEq,and_true]at he
  obtain⟨⟨rfl,rfl⟩,rfl⟩:=he
  split at h
  ·rename_i hk
   subst hk
   obtain⟨l',h1,h2⟩:=Option.map_eq_some_iff.1 h
   exact⟨n,b,l',rfl,rfl,h2.symm,h1⟩
  ·cases h
 ·cases h
def B8 (l:List (Int×Bool)) (n:Int):Option Bool:=(l.find? fun p=>n == p.1).map (·.2)
def DJ (P:Program) (t:TypeId):Option IntKind :=
 match P.underlying t with
 |some (.map key elem)=>match P.underlying key,(P.info? elem).bind (·.zero) with
  |some (.int k),some (.bool false)=>some k
  |_,_=>none
 |_=>none
theorem yy {P:Program}{t:TypeId}{k:IntKind} (h:DJ P t=some k):∃key elem ti,P.underlying t=some (.map key elem)/\P.underlying key=some (.int k)/\P.info? elem=some ti/\ti.zero=some (.bool false):=by
 unfold DJ at h
 split at h
 ·rename_i key elem hu
  split at h
  ·rename_i k' h1 h2
   cases h
   obtain⟨ti,h3,h4⟩:=Option.bind_eq_some_iff.1 h2
   exact⟨key,elem,ti,hu,h1,h3,h4⟩
  ·cases h
 ·cases h
theorem qh {k k0:IntKind}{n:Int}:∀(es:List MapEntry) (l:List (Int×Bool)) (i:Nat),FC k (es.map fun e=>[V.d (.sc e.key),V.d (.sc e.val)])=some l ->
  (B8 l n=none/\Instr.findNow (.int k0) (.int k n) es i=some none)\/∃b j,B8 l n=some b/\Instr.findNow (.int k0) (.int k n) es i=some (some (j,.bool b))
 |[],l,i,h=>by
  simp only[List.map_nil,FC,Option.some.injEq]at h
  subst h
  exact .inl ⟨rfl,rfl⟩
 |e::es,l,i,h=>by
  rw[List.map_cons]at h
  obtain⟨m,b,l',h1,h2,rfl,h4⟩:=Kv h
  unfold Instr.findNow
  rw[h1]
  simp only[Instr.sameNow,if_true]
  by_cases Km:n=m
  ·subst Km
   refine .inr ⟨b,i,by simp [B8],?_⟩
   simp [h2]
  ·have hb:(n == m)=false:=by simpa using Km
   rw[hb]
   simp only
   have hg:B8 ((m,b)::l') n=B8 l' n:=by simp [B8,hb]
   rw[hg]
   exact qh es l' (i+1) h4
theorem run_checkKey {P:Program}{t:TypeId}{k:IntKind} (hu:P.underlying t=some (.int k)) (b:Bool) (n:Int) (w:World):(Instr.checkKey b 10000 t (.int k n)).run P w=.ok () w:=by
 have h:∀d:Nat,(Instr.checkKey b (d+1) t (.int k n)).run P w=.ok () w:=fun d=>by simp [Instr.checkKey,run_underlying hu]
 exact h 9999
theorem xH {σ:Gh}{s:List Obj}{w:World} (hI:Inv σ s w) {id g:Nat}{u:Value}{o:Obj} (hm:aw σ s w (.mp id g) u) (ho:s[id]?=some o) (hg:o.g=g) :
  ∃b es c,σ id=some (b,0)/\w.heap[b]?=some (.map es c)/\o.au=eB es/\u=.map (some b):=by
 cases hm with
 |mp o' gE zP hu hk =>
  rw[ho]at gE;cases gE
  obtain⟨b,h1,hM,h2⟩:=hk hg
  rcases hI.content _ o ho with (⟨h3,_⟩|⟨b',es,c,h3,h4,h5⟩)|⟨b',base,arr,E,h3,h4,_⟩
  ·rw[h1]at h3;cases h3
  ·rw[h1]at h3;cases h3
   exact⟨b,es,c,h1,h4,h5,h2⟩
  ·rw[h1]at h3;cases h3
   exact(Bp.notM ⟨arr,E,h4⟩ hM).elim
def wP (k:IntKind):List (List V)->Option (List (Int×Fn))
 |[]=>some []
 |[.d (.sc (.int k' n)),.d (.sc (.func fn ⟨[]⟩ ⟨[]⟩))]::rest=>if k'=k then (wP k rest).map ((n,fn)::·) else none
 |_::_=>none
theorem ID {k:IntKind}{a v:Value}{rest:List (List V)}{l:List (Int×Fn)} (h:wP k ([V.d (.sc a),V.d (.sc v)]::rest)=some l):∃n fn l',a=.int k n/\v=.func fn #[] #[]/\l=(n,fn)::l'/\wP k rest=some l':=by
 unfold wP at h
 split at h
 ·rename_i he;cases he
 ·rename_i k' n b RM he
  simp only[List.cons.injEq,V.d.injEq,D.sc.injEq,and_true]at he
  obtain⟨⟨rfl,rfl⟩,rfl⟩:=he
  split at h
  ·rename_i hk
   subst hk
   obtain⟨l',h1,h2⟩:=Option.map_eq_some_iff.1 h
   exact⟨n,b,l',rfl,rfl,h2.symm,h1⟩
  ·cases h
 ·cases h
def wA (l:List (Int×Fn)) (n:Int):Option Fn:=(l.find? fun p=>n == p.1).map (·.2)
def yv (P:Program) (t:TypeId):Option IntKind :=
 match P.underlying t with
 |some (.map key elem)=>match P.underlying key,(P.info? elem).bind (·.zero) with
  |some (.int k),some .nilFunc=>some k
  |_,_=>none
 |_=>none
theorem wC {P:Program}{t:TypeId}{k:IntKind} (h:yv P t=some k):∃key elem,P.underlying t=some (.map key elem)/\P.underlying key=some (.int k):=by
 unfold yv at h
 split at h
 ·rename_i key elem hu
  split at h
  ·rename_i k' h1 h2
   cases h
   exact⟨key,elem,hu,h1⟩
  ·cases h
 ·cases h
theorem oe {k k0:IntKind}{n:Int}:∀(es:List MapEntry) (l:List (Int×Fn)) (i:Nat),wP k (es.map fun e=>[V.d (.sc e.key),V.d (.sc e.val)])=some l ->
  (wA l n=none/\Instr.findNow (.int k0) (.int k n) es i=some none)\/∃b j,wA l n=some b/\Instr.findNow (.int k0) (.int k n) es i=some (some (j,.func b #[] #[]))
 |[],l,i,h=>by
  simp only[List.map_nil,wP,Option.some.injEq]at h
  subst h
  exact .inl ⟨rfl,rfl⟩
 |e::es,l,i,h=>by
  rw[List.map_cons]at h
  obtain⟨m,b,l',h1,h2,rfl,h4⟩:=ID h
  unfold Instr.findNow
  rw[h1]
  simp only[Instr.sameNow,if_true]
  by_cases Km:n=m
  ·subst Km
   refine .inr ⟨b,i,by simp [wA],?_⟩
   simp [h2]
  ·have hb:(n == m)=false:=by simpa using Km
   rw[hb]
   simp only
   have hg:wA ((m,b)::l') n=wA l' n:=by simp [wA,hb]
   rw[hg]
   exact oe es l' (i+1) h4
def mU (P:Program) (t:TypeId) (s:List Obj) (m k:V) (K:V->Prop):Prop :=
 match yv P t with
 |none=>False
 |some ik=>match m with
  |.mp id g=>match k with
   |.d (.sc (.int k' n))=>rj s id g fun o=>k'=ik/\match (wP ik o.au).bind fun l=>wA l n with
    |none=>False
    |some fn=>K (.cl fn [] [])
   |_=>False
  |_=>False
theorem Fv {P:Program}{t:TypeId}{σ:Gh}{s:List Obj}{w:World}{m k:V}{um uk:Value}{K:V->Prop} (hI:Inv σ s w) (hm:aw σ s w m um) (hk:aw σ s w k uk) (h:mU P t s m k K) :
  ∃v c,(Instr.lookup t um uk false).run P w=.ok c w/\aw σ s w v c/\K v:=by
 unfold mU at h
 split at h
 ·exact h.elim
 rename_i ik K5
 obtain⟨key,elem,t1,t2⟩:=wC K5
 split at h
 case h_2=>exact h.elim
 rename_i id g
 split at h
 case h_2=>exact h.elim
 rename_i k' n
 obtain⟨o,ho,hg,rfl,h⟩:=dA h
 split at h
 ·exact h.elim
 rename_i fn Qz
 obtain⟨l,hl,SO⟩:=Option.bind_eq_some_iff.1 Qz
 obtain⟨b,es,c,h1,h2,h3,rfl⟩:=xH hI hm ho hg
 cases hk with|d hk=>?_
 cases hk with|sc _ _=>?_
 rw[h3]at hl
 refine⟨_,.func fn #[] #[],?_,.cl rfl (fun i x hx=>by simp at hx) rfl (fun i x hx=>by simp at hx),h⟩
 rcases oe (k0:=k') (n:=n) es.toList l 0 hl with ⟨g1,g2⟩|⟨b',j,g1,g2⟩
 ·rw[SO]at g1;cases g1
 ·rw[SO]at g1;cases g1
  simp [Instr.lookup,run_underlying t1,run_underlying t2,MapKept.run_getObj_map h2,run_checkKey t2,Instr.findKey,g2]
def yj (P:Program) (t:TypeId) (s:List Obj) (m k x:V) (K:List Obj->Prop):Prop :=
 match yv P t with
 |none=>False
 |some ik=>match m with
  |.mp id g=>match k with
   |.d (.sc (.int k' n))=>match x with
    |.cl fn [] []=>rj s id g fun o=>(o.live=true/\k'=ik)/\match wP ik o.au with
     |none=>False
     |some l=>wA l n=none/\K (s.set id { o with au:=o.au++[[.d (.sc (.int k' n)),.d (.sc (.func fn ⟨[]⟩ ⟨[]⟩))]] })
    |_=>False
   |_=>False
  |_=>False
theorem Gp {P:Program}{t:TypeId}{σ:Gh}{s:List Obj}{w:World}{m k x:V}{um uk ux:Value}{K:List Obj->Prop} (hI:Inv σ s w) (hm:aw σ s w m um) (hk:aw σ s w k uk) (hx:aw σ s w x ux) (h:yj P t s m k x K) :
  ∃s' w',(Instr.mapUpdate t um uk ux).run P w=.ok () w'/\aA σ s w σ s' w'/\Inv σ s' w'/\K s':=by
 unfold yj at h
 split at h
 ·exact h.elim
 rename_i ik K5
 obtain⟨key,elem,t1,t2⟩:=wC K5
 split at h
 case h_2=>exact h.elim
 rename_i id g
 split at h
 case h_2=>exact h.elim
 rename_i k' n
 split at h
 case h_2=>exact h.elim
 rename_i fn
 obtain⟨o,ho,hg,⟨pX,rfl⟩,h⟩:=dA h
 split at h
 ·exact h.elim
 rename_i l hl
 obtain⟨hn,h⟩:=h
 obtain⟨b,es,c,h1,h2,h3,rfl⟩:=xH hI hm ho hg
 cases hk with|d hk=>?_
 cases hk with|sc _ _=>?_
 cases hx with|@cl _ _ _ f' c' q1 _ q2 _=>?_
 obtain rfl:f'=#[]:=Array.eq_empty_of_size_eq_zero (by simpa using q1)
 obtain rfl:c'=#[]:=Array.eq_empty_of_size_eq_zero (by simpa using q2)
 rw[h3]at hl
 have Qz:Instr.findNow (.int k') (.int k' n) es.toList 0=some none:=by
  rcases oe (k0:=k') (n:=n) es.toList l 0 hl with ⟨g1,g2⟩|⟨b',j,g1,g2⟩
  ·exact g2
  ·rw[hn]at g1;cases g1
 have eO:(setObj b (.map (es.push { key:=.int k' n,val:=.func fn #[] #[],born:=c }) (c+1))).run P w=.ok () (setBlock w b (.map (es.push { key:=.int k' n,val:=.func fn #[] #[],born:=c }) (c+1))):=by
  simp [setObj,Sem.run,h2,setBlock]
 have dI:(Instr.mapUpdate t (.map (some b)) (.int k' n) (.func fn #[] #[])).run P w=.ok () (setBlock w b (.map (es.push { key:=.int k' n,val:=.func fn #[] #[],born:=c }) (c+1))):=by
  simp [Instr.mapUpdate,run_underlying t1,run_underlying t2,MapKept.run_getObj_map h2,run_checkKey t2,Instr.findKey,Qz,eO]
 have:=lC (p:=σ id) (w':=setBlock w b (.map (es.push { key:=.int k' n,val:=.func fn #[] #[],born:=c }) (c+1))) (o':={ o with au:=o.au++[[.d (.sc (.int k' n)),.d (.sc (.func fn ⟨[]⟩ ⟨[]⟩))]] }) hI ho pX rfl rfl rfl (by simp [setBlock])
  (fun b1 _ eF=>Go.ChangeMaps.heap_setBlock_other h2 _ (fun e=>eF 0 (by rw[h1,e])))
  (fun b1 iC arr E he hh=>by
   rw[h1]at he;cases he
   rw[h2]at hh;cases hh)
  (fun b1 iC he hm=>by
   rw[h1]at he;cases he
   exact⟨_,_,Go.ChangeMaps.heap_setBlock_same h2 _⟩)
  (Nat.le_refl _) (fun _=>⟨rfl,rfl⟩) (fun b1 iC he=>.inl ⟨iC,he⟩)
  (fun hE=>.inl (.inr ⟨b,_,_,h1,Go.ChangeMaps.heap_setBlock_same h2 _,by simp [h3,eB]⟩))
 rw[qY]at this
 exact⟨_,_,dI,this.1,this.2,h⟩
def gN (P:Program) (t:TypeId) (s:List Obj) (m k:V) (K:V->Prop):Prop :=
 match DJ P t with
 |none=>mU P t s m k K
 |some ik=>match m with
  |.mp id g=>match k with
   |.d (.sc (.int k' n))=>rj s id g fun o=>k'=ik/\match FC ik o.au with
    |none=>False
    |some l=>K (.d (.sc (.bool ((B8 l n).getD false))))
   |_=>False
  |_=>False
theorem BV {P:Program}{t:TypeId}{σ:Gh}{s:List Obj}{w:World}{m k:V}{um uk:Value}{K:V->Prop} (hI:Inv σ s w) (hm:aw σ s w m um) (hk:aw σ s w k uk) (h:gN P t s m k K) :
  ∃v c,(Instr.lookup t um uk false).run P w=.ok c w/\aw σ s w v c/\K v:=by
 unfold gN at h
 split at h
 ·exact Fv hI hm hk h
 rename_i ik K5
 obtain⟨key,elem,ti,t1,t2,t3,t4⟩:=yy K5
 split at h
 case h_2=>exact h.elim
 rename_i id g
 split at h
 case h_2=>exact h.elim
 rename_i k' n
 obtain⟨o,ho,hg,rfl,h⟩:=dA h
 split at h
 ·exact h.elim
 rename_i l hl
 obtain⟨b,es,c,h1,h2,h3,rfl⟩:=xH hI hm ho hg
 cases hk with|d hk=>?_
 cases hk with|sc _ _=>?_
 rw[h3]at hl
 refine⟨_,.bool ((B8 l n).getD false),?_,.d (.sc _ rfl),h⟩
 rcases qh (k0:=k') (n:=n) es.toList l 0 hl with ⟨g1,g2⟩|⟨b',j,g1,g2⟩
 ·simp [Instr.lookup,run_underlying t1,run_underlying t2,MapKept.run_getObj_map h2,run_checkKey t2,Instr.findKey,g1,g2,zeroValue,typeInfo,t3,t4]
 ·simp [Instr.lookup,run_underlying t1,run_underlying t2,MapKept.run_getObj_map h2,run_checkKey t2,Instr.findKey,g1,g2]
def si (P:Program) (t:TypeId) (s:List Obj) (m k x:V) (K:List Obj->Prop):Prop :=
 match DJ P t with
 |none=>yj P t s m k x K
 |some ik=>match m with
  |.mp id g=>match k with
   |.d (.sc (.int k' n))=>match x with
    |.d (.sc (.bool b))=>rj s id g fun o=>(o.live=true/\k'=ik)/\match FC ik o.au with
     |none=>False
     |some l=>B8 l n=none/\K (s.set id { o with au:=o.au++[[.d (.sc (.int k' n)),.d (.sc (.bool b))]] })
    |_=>False
   |_=>False
  |_=>False
theorem AG {P:Program}{t:TypeId}{σ:Gh}{s:List Obj}{w:World}{m k x:V}{um uk ux:Value}{K:List Obj->Prop} (hI:Inv σ s w) (hm:aw σ s w m um) (hk:aw σ s w k uk) (hx:aw σ s w x ux) (h:si P t s m k x K) :
  ∃s' w',(Instr.mapUpdate t um uk ux).run P w=.ok () w'/\aA σ s w σ s' w'/\Inv σ s' w'/\K s':=by
 unfold si at h
 split at h
 ·exact Gp hI hm hk hx h
 rename_i ik K5
 obtain⟨key,elem,ti,t1,t2,t3,t4⟩:=yy K5
 split at h
 case h_2=>exact h.elim
 rename_i id g
 split at h
 case h_2=>exact h.elim
 rename_i k' n
 split at h
 case h_2=>exact h.elim
 rename_i bv
 obtain⟨o,ho,hg,⟨pX,rfl⟩,h⟩:=dA h
 split at h
 ·exact h.elim
 rename_i l hl
 obtain⟨hn,h⟩:=h
 obtain⟨b,es,c,h1,h2,h3,rfl⟩:=xH hI hm ho hg
 cases hk with|d hk=>?_
 cases hk with|sc _ _=>?_
 cases hx with|d hx=>?_
 cases hx with|sc _ _=>?_
 rw[h3]at hl
 have Qz:Instr.findNow (.int k') (.int k' n) es.toList 0=some none:=by
  rcases qh (k0:=k') (n:=n) es.toList l 0 hl with ⟨g1,g2⟩|⟨b',j,g1,g2⟩
  ·exact g2
  ·rw[hn]at g1;cases g1
 have eO:(setObj b (.map (es.push { key:=.int k' n,val:=.bool bv,born:=c }) (c+1))).run P w=.ok () (setBlock w b (.map (es.push { key:=.int k' n,val:=.bool bv,born:=c }) (c+1))):=by
  simp [setObj,Sem.run,h2,setBlock]
 have dI:(Instr.mapUpdate t (.map (some b)) (.int k' n) (.bool bv)).run P w=.ok () (setBlock w b (.map (es.push { key:=.int k' n,val:=.bool bv,born:=c }) (c+1))):=by
  simp [Instr.mapUpdate,run_underlying t1,run_underlying t2,MapKept.run_getObj_map h2,run_checkKey t2,Instr.findKey,Qz,eO]
 have:=lC (p:=σ id) (w':=setBlock w b (.map (es.push { key:=.int k' n,val:=.bool bv,born:=c }) (c+1))) (o':={ o with au:=o.au++[[.d (.sc (.int k' n)),.d (.sc (.bool bv))]] }) hI ho pX rfl rfl rfl (by simp [setBlock])
  (fun b1 _ eF=>Go.ChangeMaps.heap_setBlock_other h2 _ (fun e=>eF 0 (by rw[h1,e])))
  (fun b1 iC arr E he hh=>by
   rw[h1]at he;cases he
   rw[h2]at hh;cases hh)
  (fun b1 iC he hm=>by
   rw[h1]at he;cases he
   exact⟨_,_,Go.ChangeMaps.heap_setBlock_same h2 _⟩)
  (Nat.le_refl _) (fun _=>⟨rfl,rfl⟩) (fun b1 iC he=>.inl ⟨iC,he⟩)
  (fun hE=>.inl (.inr ⟨b,_,_,h1,Go.ChangeMaps.heap_setBlock_same h2 _,by simp [h3,eB]⟩))
 rw[qY]at this
 exact⟨_,_,dI,this.1,this.2,h⟩
def lK (P:Program) (t:TypeId) (r:Option Operand) (s:List Obj) (K:V->List Obj->Prop):Prop :=
 r=none/\K (.mp s.length 0) (s++[⟨0,true,2,[]⟩])
theorem zH {P:Program}{t:TypeId}{σ:Gh}{s:List Obj}{w:World}{r:Option Operand}{K:V->List Obj->Prop} (hI:Inv σ s w) (h:lK P t r s K) :
  ∃v c σ' s' w',(Instr.makeMap t none).run P w=.ok c w'/\aA σ s w σ' s' w'/\Inv σ' s' w'/\aw σ' s' w' v c/\K v s':=by
 have:=l9 (p:=some (w.heap.size,0)) (o':=⟨0,true,2,[]⟩) (w':=w.alloc (.map #[] 0)) hI rfl rfl rfl (by simp) (fun b hb=>Go.RowKit.Below.heap_alloc w _ b hb) (fun b base h=>by cases h;exact Nat.le_refl _)
  (fun hE=>.inl (.inr ⟨w.heap.size,#[],0,rfl,heap_alloc_new w _,rfl⟩))
 refine⟨_,.map (some w.heap.size),_,_,_,?_,this.1,this.2,.mp ⟨0,true,2,[]⟩ (by simp) (Nat.le_refl _) rfl (fun _=>⟨w.heap.size,bH _ _ _,⟨_,_,heap_alloc_new w _⟩,rfl⟩),h.2⟩
 simp [Instr.makeMap]
def gz (es:List (List V)) (lo:Nat) (ns:List (List V)):List (List V):=es.take lo++ns++es.drop (lo+ns.length)
theorem xw (es:List (List V)) (lo:Nat) (ns:List (List V)) (h:lo+ns.length<=es.length) (j:Nat) :
  (gz es lo ns)[j]?=if lo<=j/\j<lo+ns.length then ns[j-lo]? else es[j]?:=by
 have hl:(es.take lo).length=lo:=by simp;omega
 unfold gz
 by_cases h1:j<lo
 ·rw[if_neg (by omega),List.append_assoc,List.getElem?_append_left (by omega),List.getElem?_take,if_pos h1]
 ·by_cases h2:j<lo+ns.length
  ·rw[if_pos (by omega),List.append_assoc,List.getElem?_append_right (by omega),hl,List.getElem?_append_left (by omega)]
  ·rw[if_neg (by omega),List.getElem?_append_right (by simp;omega),List.getElem?_drop]
   congr 1
   simp
   omega
theorem zT (es:List (List V)) (lo:Nat) (ns:List (List V)) (h:lo+ns.length<=es.length):(gz es lo ns).length=es.length:=by
 simp [gz];omega
theorem Am {σ:Gh}{s:List Obj}{w:World} (hI:Inv σ s w) {id:Nat}{o:Obj} (ho:s[id]?=some o) (hl:o.live=true) {lo:Nat}{ns:List (List V)} (hfit:lo+ns.length<=o.au.length) (hz:∀e∈ns,e.length=o.sz)
  {b base:Nat} (hs:σ id=some (b,base)) (hC:Bp w b) {us:List Value} (SW:us.length=ns.length*o.sz)
  (hrep:∀(i j:Nat) (y:V),(ns[i]?.bind (·[j]?))=some y->∃c,us[i*o.sz+j]?=some c/\c.oneCell'=true/\aw σ s w y c) (IQ:∀u∈us,u.oneCell'=true) (P:Program) :
  ∃w',(storeCells ⟨b,base+lo*o.sz,none⟩ us).run P w=.ok () w'/\aA σ s w σ (s.set id { o with au:=gz o.au lo ns }) w' /\
   Inv σ (s.set id { o with au:=gz o.au lo ns }) w':=by
 rcases hI.content _ o ho with h1|⟨b',bp,arr,E,h1,h2,h3,h4,h5⟩
 ·exact(h1.xr hs hC).elim
 rw[hs]at h1;cases h1
 have Vc:lo*o.sz+ns.length*o.sz<=o.au.length*o.sz:=by
  rw[<- Nat.add_mul];exact Nat.mul_le_mul_right _ hfit
 have dI:=run_storeCells_at P b (base+lo*o.sz) E us 0 arr w h2 (by rw[SW];omega) IQ
 simp only[Nat.add_zero]at dI
 generalize mV:(arr.toList.take (base+lo*o.sz)++us++arr.toList.drop (base+lo*o.sz+us.length)).toArray=b9 at dI
 have gV:b9.size=arr.size:=by rw[<- mV];simp;omega
 have fm:∀p,b9[p]?=if base+lo*o.sz<=p/\p<base+lo*o.sz+us.length then us[p-(base+lo*o.sz)]? else arr[p]?:=by
  intro p
  have hl:(arr.toList.take (base+lo*o.sz)).length=base+lo*o.sz:=by simp;omega
  rw[<- mV,List.getElem?_toArray]
  by_cases g1:p<base+lo*o.sz
  ·rw[if_neg (by omega),List.append_assoc,List.getElem?_append_left (by omega),List.getElem?_take,if_pos g1,Array.getElem?_toList]
  ·by_cases g2:p<base+lo*o.sz+us.length
   ·rw[if_pos (by omega),List.append_assoc,List.getElem?_append_right (by omega),hl,List.getElem?_append_left (by omega)]
   ·rw[if_neg (by omega),List.getElem?_append_right (by simp;omega),List.getElem?_drop,Array.getElem?_toList]
    congr 1
    simp
    omega
 refine⟨_,dI,?_⟩
 have:=lC (p:=σ id) (w':=w.setRow b b9) (o':={ o with au:=gz o.au lo ns }) hI ho hl rfl rfl rfl (by simp)
  (fun b1 _ eF=>setRow_other w b b1 b9 (fun e=>eF base (by rw[hs,e])))
  (fun b1 iC Pk E1 he hh=>by
   rw[hs]at he;cases he
   rw[h2]at hh;cases hh
   exact⟨b9,setRow_heap w b arr b9 E (0,0) h2,gV⟩)
  (fun b1 iC he hm=>by
   rw[hs]at he;cases he
   exact(hC.notM hm).elim)
  (Nat.le_refl _) (fun _=>⟨rfl,rfl⟩) (fun b1 iC he=>.inl ⟨iC,he⟩)
  (fun hE=>.inr ⟨b,base,b9,E,hs,setRow_heap w b arr b9 E (0,0) h2,(by
   intro e he
   simp only at he
   unfold gz at he
   rcases List.mem_append.1 he with he|he
   ·rcases List.mem_append.1 he with he|he
    ·exact h3 e (List.mem_of_mem_take he)
    ·exact hz e he
   ·exact h3 e (List.mem_of_mem_drop he)),(by simp only[zT _ _ _ hfit];omega),(by
   intro i j x hx
   simp only at hx ⊢
   rw[qY]at hE ⊢
   rw[xw _ _ _ hfit]at hx
   split at hx
   ·rename_i xD
    obtain⟨c,k1,k2,k3⟩:=hrep _ j x hx
    refine⟨c,?_,k2,k3.aO hE⟩
    have az:=(List.getElem?_eq_some_iff.1 k1).1
    have hmul:i*o.sz=lo*o.sz+(i-lo)*o.sz:=by rw[<- Nat.add_mul];congr 1;omega
    rw[fm,if_pos (by omega),<- k1]
    congr 1
    omega
   ·rename_i xD
    obtain⟨c,k1,k2,k3⟩:=h5 i j x hx
    refine⟨c,?_,k2,k3.aO hE⟩
    rw[fm,if_neg ?_]
    ·exact k1
    ·have Tb:j<o.sz:=by
      cases he:o.au[i]? with
      |none=>rw[he]at hx;cases hx
      |some e =>
       rw[he]at hx
       have:=(List.getElem?_eq_some_iff.1 hx).1
       rw[h3 e (List.mem_of_getElem? he)]at this
       exact this
     rw[SW]
     rcases Nat.lt_or_ge i lo with az|ib
     ·have:=Nat.mul_le_mul_right o.sz (show i+1<=lo from az)
      rw[Nat.add_mul,Nat.one_mul]at this
      omega
     ·have:=Nat.mul_le_mul_right o.sz (show lo+ns.length<=i by omega)
      rw[Nat.add_mul]at this
      omega)⟩)
 rw[qY]at this
 exact this
def vf (P:Program) (t:TypeId) (a x:V) (s:List Obj) (K:V->List Obj->Prop):Prop :=
 match gm P t with
 |none=>False
 |some (_,i)=>match fV s x with
  |none=>False
  |some ns=>(∀e∈ns,e.length=i.sz)/\match a with
   |.so id g lo n=>rj s id g fun o=>(o.live=true/\o.sz=i.sz/\lo+n<=o.au.length/\ns.length<=n)/\K (.d (.sc (.int .i64 ns.length))) (s.set id { o with au:=gz o.au lo ns })
   |_=>False
theorem Pa {P:Program}{t e:TypeId}{σ:Gh}{s:List Obj}{w:World}{x:V}{ux:Value}{ns:List (List V)}{z:Nat} (hu:P.underlying t=some (.slice e)) (hI:Inv σ s w) (hx:aw σ s w x ux) (sy:fV s x=some ns) (hz:∀e∈ns,e.length=z) :
  ∃news,Src P z t ux ns.length news w/\∀(i j:Nat) (y:V),(ns[i]?.bind (·[j]?))=some y->∃c,news[i*z+j]?=some c/\c.oneCell'=true/\aw σ s w y c:=by
 obtain⟨ax,sB,rfl,zd,PR,news,n1,n2,n3,n4⟩:=g8 hI hx sy hz
 refine⟨news,?_,n4⟩
 cases ax with
 |none =>
  have:ns=[]:=zd rfl
  subst this
  have hn:news=[]:=List.eq_nil_of_length_eq_zero (by simpa using n1)
  subst hn
  exact Src.ofNil w hu sB
 |some ad=>exact Src.ofSlice w hu ad ns.length sB news n1 (n3 ad rfl) n2
theorem yS (es:List (List V)) (lo:Nat):gz es lo []=es:=by simp [gz]
theorem Gm {P:Program}{t ty:TypeId}{a x:V}{ua ux:Value}{σ:Gh}{s:List Obj}{w:World}{K:V->List Obj->Prop} (hI:Inv σ s w) (ha:aw σ s w a ua) (hx:aw σ s w x ux)
  (h:vf P t a x s K):∃v r s' w',(Builtin.copy_ #[t,t] ty #[ua,ux]).run P w=.ok r w'/\aA σ s w σ s' w'/\Inv σ s' w'/\aw σ s' w' v r/\K v s':=by
 unfold vf at h
 split at h
 ·exact h.elim
 rename_i e i hti
 obtain⟨hu,hi⟩:=iZ hti
 split at h
 ·exact h.elim
 rename_i ns sy
 obtain⟨hz,h⟩:=h
 obtain⟨ti,d,z,k1,k2,k3,k4,k5,k6,k7,k8,k9⟩:=fA hi
 obtain⟨news,rU,n4⟩:=Pa hu hI hx sy hz
 split at h
 case h_2=>exact h.elim
 rename_i id g lo n
 obtain⟨o,ho,hg,⟨hl,fo,hfit,hle⟩,hK⟩:=dA h
 have Ml:Nat.min ns.length n=ns.length:=Nat.min_eq_left hle
 have j0:=rU.cells
 cases ha with|so o' gE zP JQ hk=>?_
 rw[ho]at gE;cases gE
 rcases hk hg with ⟨hs,⟨ad,rfl⟩,rfl,rfl⟩|⟨b,base,cap,E,arr,hs,hh,rfl,xp,TF⟩
 ·have hn:ns=[]:=List.eq_nil_of_length_eq_zero (by omega)
  subst hn
  have SA:news=[]:=List.eq_nil_of_length_eq_zero (by simpa using rU.newsLen)
  subst SA
  have eO:s.set id { o with au:=gz o.au 0 [] }=s:=by
   rw[yS]
   apply List.ext_getElem?
   intro k
   by_cases hk:k=id
   ·subst hk
    rw[List.getElem?_set_self (List.getElem?_eq_some_iff.1 ho).1,ho]
   ·rw[List.getElem?_set_ne (Ne.symm hk)]
  rw[eO]at hK
  refine⟨_,.int .i64 0,s,w,?_,aA.refl _ _ _,hI,.d (.sc _ rfl),hK⟩
  have hlen:=rU.len w
  simp only[List.length_nil]at hlen j0
  cases ad <;> simp [Builtin.copy_,run_underlying hu,sizeOf,typeInfo,k1,k4,hlen,j0,goInt,storeCells]
 ·obtain⟨w',r1,r2,r3⟩:=Am hI ho hl (lo:=lo) (ns:=ns) (by omega) (by rw[fo];exact hz) hs ⟨arr,E,hh⟩ (us:=news) (by rw[fo];exact rU.newsLen) (by rw[fo];exact n4) rU.one P
  refine⟨_,.int .i64 ns.length,_,w',?_,r2,r3,.d (.sc _ rfl),hK⟩
  have hlen:=rU.len w
  simp [Builtin.copy_,run_underlying hu,sizeOf,typeInfo,k1,k4,hlen,Ml,j0,goInt,r1]
def mD (P:Program) (t:TypeId) (x:V) (s:List Obj) (K:V->List Obj->Prop):Prop :=
 match gm P t with
 |none=>False
 |some (_,i)=>match x with
  |.so id g lo n=>rj s id g fun o=>(o.live=true/\o.sz=i.sz/\lo+n<=o.au.length)/\K (.tu []) (s.set id { o with au:=gz o.au lo (List.replicate n (i.zero.map cv)) })
  |.d (.sl [])=>K (.tu []) s
  |_=>False
theorem mh {s:List Obj}{id:Nat}{o:Obj} (ho:s[id]?=some o):s.set id o=s:=by
 apply List.ext_getElem?
 intro k
 by_cases hk:k=id
 ·subst hk
  rw[List.getElem?_set_self (List.getElem?_eq_some_iff.1 ho).1,ho]
 ·rw[List.getElem?_set_ne (Ne.symm hk)]
theorem EK {P:Program}{t ty:TypeId}{x:V}{ux:Value}{σ:Gh}{s:List Obj}{w:World}{K:V->List Obj->Prop} (hI:Inv σ s w) (hx:aw σ s w x ux)
  (h:mD P t x s K):∃v r s' w',(Builtin.clear_ #[t] ty #[ux]).run P w=.ok r w'/\aA σ s w σ s' w'/\Inv σ s' w'/\aw σ s' w' v r/\K v s':=by
 unfold mD at h
 split at h
 ·exact h.elim
 rename_i e i hti
 obtain⟨hu,hi⟩:=iZ hti
 split at h
 case h_3=>exact h.elim
 case h_2 =>
  refine⟨_,.tuple #[],s,w,?_,aA.refl _ _ _,hI,.tu rfl (fun i x hx=>by simp at hx),h⟩
  cases hx with|d hd=>?_
  cases hd with
  |nil=>simp [Builtin.clear_,run_underlying hu]
  |sl _ ad _ sz f h1 h2 h3 h4 h5=>simp [Builtin.clear_,run_underlying hu]
 rename_i id g lo n
 obtain⟨o,ho,hg,⟨hl,fo,hfit⟩,hK⟩:=dA h
 obtain⟨ti,d,z,k1,k2,k3,k4,k5,k6,k7,k8,k9⟩:=fA hi
 have hz:∀w,(zeroValue e).run P w=.ok z w:=fun w=>by simp [zeroValue,typeInfo,k1,k3]
 have W4:∀(s':List Obj) (w':World),aw σ s' w' (.tu []) (.tuple #[]):=fun s' w'=>.tu rfl (fun i x hx=>by simp at hx)
 have zero:n=0->∃v r s' w',(Result.ok (Value.tuple #[]) w:Result Value)=.ok r w'/\aA σ s w σ s' w'/\Inv σ s' w'/\aw σ s' w' v r/\K v s':=by
  rintro rfl
  refine⟨_,_,s,w,rfl,aA.refl _ _ _,hI,W4 _ _,?_⟩
  rw[List.replicate_zero,yS,mh ho]at hK
  exact hK
 cases hx with|so o' gE zP JQ hk=>?_
 rw[ho]at gE;cases gE
 rcases hk hg with ⟨hs,⟨ad,rfl⟩,rfl,rfl⟩|⟨b,base,cap,E,arr,hs,hh,rfl,xp,TF⟩
 ·obtain⟨v,r,s',w',e1,e2⟩:=zero rfl
  refine⟨v,r,s',w',?_,e2⟩
  rw[<- e1]
  cases ad <;> simp [Builtin.clear_,run_underlying hu]
 ·rcases Nat.eq_zero_or_pos n with h0|h0
  ·obtain⟨v,r,s',w',e1,e2⟩:=zero h0
   refine⟨v,r,s',w',?_,e2⟩
   rw[<- e1]
   subst h0
   simp [Builtin.clear_,run_underlying hu]
  ·have P9:z.cells.size=i.sz:=by rw[<- Array.length_toList,k6,k7]
   have TR:Builtin.zeroCells z.cells n=(Array.range (n*i.sz)).map (z.cells[· % z.cells.size]!):=by unfold Builtin.zeroCells;rw[<- P9]
   have Vl:=xM hi σ s w n z k6
   obtain⟨r1,r2,r3⟩:=Vl
   obtain⟨w',q1,q2,q3⟩:=Am hI ho hl (lo:=lo) (ns:=List.replicate n (i.zero.map cv)) (by rw[List.length_replicate];omega) (fun e he=>by rw[List.eq_of_mem_replicate he,List.length_map,fo,k7]) hs ⟨arr,E,hh⟩ (us:=(Builtin.zeroCells z.cells n).toList)
    (by rw[List.length_replicate,fo,Array.length_toList,size_zeroCells,P9])
    (fun a j y hy=>by
     rw[fo]
     obtain⟨c,c1,c2,c3⟩:=r3 a j y hy
     refine⟨c,?_,c2,c3⟩
     rw[Array.getElem?_toList,TR]
     exact c1)
    (fun u hu=>by
     rw[TR,Array.toList_map,List.mem_map]at hu
     obtain⟨k,hk,rfl⟩:=hu
     have tk:k<n*i.sz:=by simpa using hk
     have hp:0<z.cells.size:=by
      rw[P9]
      rcases Nat.eq_zero_or_pos i.sz with h'|h'
      ·rw[h']at tk;simp at tk
      ·exact h'
     have hm:=Nat.mod_lt k hp
     have fm:z.cells[k % z.cells.size]! = z.cells[k % z.cells.size]:=by simp [hm]
     rw[fm]
     exact k8 _ (by rw[<- k6];exact Array.getElem_mem_toList hm)) P
   refine⟨_,_,_,w',?_,q2,q3,W4 _ _,hK⟩
   obtain⟨m,rfl⟩:∃m,n=m+1:=⟨n-1,by omega⟩
   simp [Builtin.clear_,run_underlying hu,hz,q1]
end Go.VL
