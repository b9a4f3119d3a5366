/- A part of the proof (Vhm Vgc). -/
import Derived.ChangeMaps5
import Derived.MapKept
import Derived.Test.YtjjfioalgbecmaaGreatOQ3
set_option linter.unusedSimpArgs false
set_option linter.unusedVariables false
set_option maxRecDepth 100000
set_option maxHeartbeats 80000000
namespace Go.VL
open Go.ChangeMaps (setBlock)
variable{k:IntKind}{v:Value}{rest:List (List V)}{a:Value}{P:Program}{t:TypeId}{σ:Gh}{w:World}{id:Nat}{s:List Obj}{K:V->List Obj->Prop}{m:V}{uk:Value}{um:Value}{ux:Value}{x:V}{ns:List (List V)}{ty:TypeId}
def L6 (k:IntKind):List (List V)->Option (List (Int×Bool))
 |[]=>some []
 |[.d (.sc (.int k' n)),.d (.sc (.bool b))]::rest=>if k'=k then (L6 k rest).map ((n,b)::·) else none
 |_::_=>none
theorem Sg{l:List (Int×Bool)} (h:L6 k ([V.d (.sc a),V.d (.sc v)]::rest)=some l):∃n b l',a=.int k n/\v=.bool b/\l=(n,b)::l'/\L6 k rest=some l':=by
 unfold L6 at h;split at h
 ·rename_i he;cases he
 ·rename_i k' n b aaL he;simp only[alh,V.d.injEq,D.sc.injEq,and_true]at he;obtain⟨⟨rfl,rfl⟩,rfl⟩:=he;split at h
  ·rename_i hk;subst hk;obtain⟨l',h1,h2⟩:=Option.map_eq_some_iff.1 h;exact⟨n,b,l',rfl,rfl,h2.symm,h1⟩
  ·cases h
 ·cases h
def H4 (l:List (Int×Bool)) (n:Int):Option Bool:=(l.find? λp=>n == p.1).map (·.2)
def JS (P:Program) (t:TypeId):Option IntKind :=
 match P.underlying t with
 |some (.map key elem)=>match P.underlying key,(P.info? elem).bind (·.zero) with
  |some (.int k),some (.bool false)=>some k
  |_,_=>none
 |_=>none
theorem CR (h:JS P t=some k):∃key elem ti,P.underlying t=some (.map key elem)/\P.underlying key=some (.int k)/\P.info? elem=some ti/\ti.zero=some (.bool false):=by
 unfold JS at h;split at h
 ·rename_i key elem hu;split at h
  ·rename_i k' h1 h2;cases h;obtain⟨ti,h3,h4⟩:=Option.bind_eq_some_iff.1 h2;exact⟨key,elem,ti,hu,h1,h3,h4⟩
  ·cases h
 ·cases h
theorem tQ {k k0:IntKind}{n:Int}:∀(es:List MapEntry) (l:List (Int×Bool)) (i:Nat),L6 k (es.map λe=>[V.d (.sc e.key),V.d (.sc e.val)])=some l ->
  (H4 l n=none/\Instr.findNow (.int k0) (.int k n) es i=some none)\/∃b j,H4 l n=some b/\Instr.findNow (.int k0) (.int k n) es i=some (some (j,.bool b))
 |[],l,i,h=>by simp only[ajV,L6,ajU]at h;subst h;exact .inl ⟨rfl,rfl⟩
 |e::es,l,i,h=>by
  rw[ajR]at h;obtain⟨m,b,l',h1,h2,rfl,h4⟩:=Sg h;unfold Instr.findNow;rw[h1];simp only[Instr.sameNow,if_true];by_cases R4:n=m
  ·subst R4;refine .inr ⟨b,i,by simp [H4],?_⟩;simp [h2]
  ·have hb:(n == m)=false:=by simpa using R4
   rw[hb];simp only;have hg:H4 ((m,b)::l') n=H4 l' n:=by simp [H4,hb]
   rw[hg];exact tQ es l' (i+1) h4
theorem run_checkKey (hu:P.underlying t=some (.int k)) (b:Bool) (n:Int) (w:World):(Instr.checkKey b 10000 t (.int k n)).run P w=.ok () w:=by
 have h:∀d:Nat,(Instr.checkKey b (d+1) t (.int k n)).run P w=.ok () w:=λd=>by simp [Instr.checkKey,run_underlying hu]
 exact h 9999
theorem BS (hI:Inv σ s w) {g:Nat}{u:Value}{o:Obj} (hm:ay σ s w (.mp id g) u) (ho:s[id]?=some o) (hg:o.g=g) :
  ∃b es c,σ id=some (b,0)/\w.heap[b]?=some (.map es c)/\o.au=fz es/\u=.map (some b):=by
 cases hm with
 |mp o' g7 CK hu hk =>
  rw[ho]at g7;cases g7;obtain⟨b,h1,hM,h2⟩:=hk hg;rcases hI.content _ o ho with (⟨h3,_⟩|⟨b',es,c,h3,h4,h5⟩)|⟨b',base,arr,E,h3,h4,_⟩
  ·rw[h1]at h3;cases h3
  ·rw[h1]at h3;cases h3;exact⟨b,es,c,h1,h4,h5,h2⟩
  ·rw[h1]at h3;cases h3;exact(FM.notM ⟨arr,E,h4⟩ hM).elim
def AU (k:IntKind):List (List V)->Option (List (Int×Fn))
 |[]=>some []
 |[.d (.sc (.int k' n)),.d (.sc (.func fn ⟨[]⟩ ⟨[]⟩))]::rest=>if k'=k then (AU k rest).map ((n,fn)::·) else none
 |_::_=>none
theorem PJ{l:List (Int×Fn)} (h:AU k ([V.d (.sc a),V.d (.sc v)]::rest)=some l):∃n fn l',a=.int k n/\v=.func fn #[] #[]/\l=(n,fn)::l'/\AU k rest=some l':=by
 unfold AU at h;split at h
 ·rename_i he;cases he
 ·rename_i k' n b aaL he;simp only[alh,V.d.injEq,D.sc.injEq,and_true]at he;obtain⟨⟨rfl,rfl⟩,rfl⟩:=he;split at h
  ·rename_i hk;subst hk;obtain⟨l',h1,h2⟩:=Option.map_eq_some_iff.1 h;exact⟨n,b,l',rfl,rfl,h2.symm,h1⟩
  ·cases h
 ·cases h
def Az (l:List (Int×Fn)) (n:Int):Option Fn:=(l.find? λp=>n == p.1).map (·.2)
def CO (P:Program) (t:TypeId):Option IntKind :=
 match P.underlying t with
 |some (.map key elem)=>match P.underlying key,(P.info? elem).bind (·.zero) with
  |some (.int k),some .nilFunc=>some k
  |_,_=>none
 |_=>none
theorem AD (h:CO P t=some k):∃key elem,P.underlying t=some (.map key elem)/\P.underlying key=some (.int k):=by
 unfold CO at h;split at h
 ·rename_i key elem hu;split at h
  ·rename_i k' h1 h2;cases h;exact⟨key,elem,hu,h1⟩
  ·cases h
 ·cases h
theorem rm {k k0:IntKind}{n:Int}:∀(es:List MapEntry) (l:List (Int×Fn)) (i:Nat),AU k (es.map λe=>[V.d (.sc e.key),V.d (.sc e.val)])=some l ->
  (Az l n=none/\Instr.findNow (.int k0) (.int k n) es i=some none)\/∃b j,Az l n=some b/\Instr.findNow (.int k0) (.int k n) es i=some (some (j,.func b #[] #[]))
 |[],l,i,h=>by simp only[ajV,AU,ajU]at h;subst h;exact .inl ⟨rfl,rfl⟩
 |e::es,l,i,h=>by
  rw[ajR]at h;obtain⟨m,b,l',h1,h2,rfl,h4⟩:=PJ h;unfold Instr.findNow;rw[h1];simp only[Instr.sameNow,if_true];by_cases R4:n=m
  ·subst R4;refine .inr ⟨b,i,by simp [Az],?_⟩;simp [h2]
  ·have hb:(n == m)=false:=by simpa using R4
   rw[hb];simp only;have hg:Az ((m,b)::l') n=Az l' n:=by simp [Az,hb]
   rw[hg];exact rm es l' (i+1) h4
def pE (P:Program) (t:TypeId) (s:List Obj) (m k:V) (K:V->Prop):Prop :=
 match CO P t with
 |none=>False
 |some ik=>match m with
  |.mp id g=>match k with
   |.d (.sc (.int k' n))=>tE s id g λo=>k'=ik/\match (AU ik o.au).bind λl=>Az l n with
    |none=>False
    |some fn=>K (.cl fn [] [])
   |_=>False
  |_=>False
theorem L0{k:V}{K:V->Prop} (hI:Inv σ s w) (hm:ay σ s w m um) (hk:ay σ s w k uk) (h:pE P t s m k K) :
  ∃v c,(Instr.lookup t um uk false).run P w=.ok c w/\ay σ s w v c/\K v:=by
 unfold pE at h;split at h
 ·exact h.elim
 rename_i ik SW;obtain⟨key,elem,t1,t2⟩:=AD SW;split at h
 case h_2=>exact h.elim
 rename_i id g;split at h
 case h_2=>exact h.elim
 rename_i k' n;obtain⟨o,ho,hg,rfl,h⟩:=dS h;split at h
 ·exact h.elim
 rename_i fn Zm;obtain⟨l,hl,Ut⟩:=Option.bind_eq_some_iff.1 Zm;obtain⟨b,es,c,h1,h2,h3,rfl⟩:=BS hI hm ho hg;cases hk with|d hk=>?_
 cases hk with|sc _ _=>?_
 rw[h3]at hl;refine⟨_,.func fn #[] #[],?_,.cl rfl (λi x hx=>by simp at hx) rfl (λi x hx=>by simp at hx),h⟩;rcases rm (k0:=k') (n:=n) es.toList l 0 hl with ⟨g1,g2⟩|⟨b',j,g1,g2⟩
 ·rw[Ut]at g1;cases g1
 ·rw[Ut]at g1;cases g1;simp [Instr.lookup,run_underlying t1,run_underlying t2,MapKept.run_getObj_map h2,run_checkKey t2,Instr.findKey,g2]
def CA (P:Program) (t:TypeId) (s:List Obj) (m k x:V) (K:List Obj->Prop):Prop :=
 match CO P t with
 |none=>False
 |some ik=>match m with
  |.mp id g=>match k with
   |.d (.sc (.int k' n))=>match x with
    |.cl fn [] []=>tE s id g λo=>(o.live=true/\k'=ik)/\match AU ik o.au with
     |none=>False
     |some l=>Az l n=none/\K (s.set id { o with au:=o.au++[[.d (.sc (.int k' n)),.d (.sc (.func fn ⟨[]⟩ ⟨[]⟩))]] })
    |_=>False
   |_=>False
  |_=>False
theorem MJ{k:V}{K:List Obj->Prop} (hI:Inv σ s w) (hm:ay σ s w m um) (hk:ay σ s w k uk) (hx:ay σ s w x ux) (h:CA P t s m k x K) :
  ∃s' w',(Instr.mapUpdate t um uk ux).run P w=.ok () w'/\aC σ s w σ s' w'/\Inv σ s' w'/\K s':=by
 unfold CA at h;split at h
 ·exact h.elim
 rename_i ik SW;obtain⟨key,elem,t1,t2⟩:=AD SW;split at h
 case h_2=>exact h.elim
 rename_i id g;split at h
 case h_2=>exact h.elim
 rename_i k' n;split at h
 case h_2=>exact h.elim
 rename_i fn;obtain⟨o,ho,hg,⟨qB,rfl⟩,h⟩:=dS h;split at h
 ·exact h.elim
 rename_i l hl;obtain⟨hn,h⟩:=h;obtain⟨b,es,c,h1,h2,h3,rfl⟩:=BS hI hm ho hg;cases hk with|d hk=>?_
 cases hk with|sc _ _=>?_
 cases hx with|@cl _ _ _ f' c' q1 _ q2 _=>?_
 obtain rfl:f'=#[]:=Array.eq_empty_of_size_eq_zero (by simpa using q1);obtain rfl:c'=#[]:=Array.eq_empty_of_size_eq_zero (by simpa using q2);rw[h3]at hl;have Zm:Instr.findNow (.int k') (.int k' n) es.toList 0=some none:=by
  rcases rm (k0:=k') (n:=n) es.toList l 0 hl with ⟨g1,g2⟩|⟨b',j,g1,g2⟩
  ·exact g2
  ·rw[hn]at g1;cases g1
 have eO:(setObj b (.map (es.push { key:=.int k' n,val:=.func fn #[] #[],born:=c }) (c+1))).run P w=.ok () (setBlock w b (.map (es.push { key:=.int k' n,val:=.func fn #[] #[],born:=c }) (c+1))):=by simp [setObj,Sem.run,h2,setBlock]
 have dZ:(Instr.mapUpdate t (.map (some b)) (.int k' n) (.func fn #[] #[])).run P w=.ok () (setBlock w b (.map (es.push { key:=.int k' n,val:=.func fn #[] #[],born:=c }) (c+1))):=by simp [Instr.mapUpdate,run_underlying t1,run_underlying t2,MapKept.run_getObj_map h2,run_checkKey t2,Instr.findKey,Zm,eO]
 have:=lQ (p:=σ id) (w':=setBlock w b (.map (es.push { key:=.int k' n,val:=.func fn #[] #[],born:=c }) (c+1))) (o':={ o with au:=o.au++[[.d (.sc (.int k' n)),.d (.sc (.func fn ⟨[]⟩ ⟨[]⟩))]] }) hI ho qB rfl rfl rfl (by simp [setBlock])
  (λb1 _ eU=>Go.ChangeMaps.heap_setBlock_other h2 _ (λe=>eU 0 (by rw[h1,e])))
  (λb1 jb arr E he hh=>by
   rw[h1]at he;cases he;rw[h2]at hh;cases hh)
  (λb1 jb he hm=>by
   rw[h1]at he;cases he;exact⟨_,_,Go.ChangeMaps.heap_setBlock_same h2 _⟩)
  (ajZ _) (λ_=>⟨rfl,rfl⟩) (λb1 jb he=>.inl ⟨jb,he⟩)
  (λhE=>.inl (.inr ⟨b,_,_,h1,Go.ChangeMaps.heap_setBlock_same h2 _,by simp [h3,fz]⟩))
 rw[u5]at this;exact⟨_,_,dZ,this.1,this.2,h⟩
def jt (P:Program) (t:TypeId) (s:List Obj) (m k:V) (K:V->Prop):Prop :=
 match JS P t with
 |none=>pE P t s m k K
 |some ik=>match m with
  |.mp id g=>match k with
   |.d (.sc (.int k' n))=>tE s id g λo=>k'=ik/\match L6 ik o.au with
    |none=>False
    |some l=>K (.d (.sc (.bool ((H4 l n).getD false))))
   |_=>False
  |_=>False
theorem HV{k:V}{K:V->Prop} (hI:Inv σ s w) (hm:ay σ s w m um) (hk:ay σ s w k uk) (h:jt P t s m k K) :
  ∃v c,(Instr.lookup t um uk false).run P w=.ok c w/\ay σ s w v c/\K v:=by
 unfold jt at h;split at h
 ·exact L0 hI hm hk h
 rename_i ik SW;obtain⟨key,elem,ti,t1,t2,t3,t4⟩:=CR SW;split at h
 case h_2=>exact h.elim
 rename_i id g;split at h
 case h_2=>exact h.elim
 rename_i k' n;obtain⟨o,ho,hg,rfl,h⟩:=dS h;split at h
 ·exact h.elim
 rename_i l hl;obtain⟨b,es,c,h1,h2,h3,rfl⟩:=BS hI hm ho hg;cases hk with|d hk=>?_
 cases hk with|sc _ _=>?_
 rw[h3]at hl;refine⟨_,.bool ((H4 l n).getD false),?_,.d (.sc _ rfl),h⟩;rcases tQ (k0:=k') (n:=n) es.toList l 0 hl with ⟨g1,g2⟩|⟨b',j,g1,g2⟩
 ·simp [Instr.lookup,run_underlying t1,run_underlying t2,MapKept.run_getObj_map h2,run_checkKey t2,Instr.findKey,g1,g2,zeroValue,typeInfo,t3,t4]
 ·simp [Instr.lookup,run_underlying t1,run_underlying t2,MapKept.run_getObj_map h2,run_checkKey t2,Instr.findKey,g1,g2]
def vY (P:Program) (t:TypeId) (s:List Obj) (m k x:V) (K:List Obj->Prop):Prop :=
 match JS P t with
 |none=>CA P t s m k x K
 |some ik=>match m with
  |.mp id g=>match k with
   |.d (.sc (.int k' n))=>match x with
    |.d (.sc (.bool b))=>tE s id g λo=>(o.live=true/\k'=ik)/\match L6 ik o.au with
     |none=>False
     |some l=>H4 l n=none/\K (s.set id { o with au:=o.au++[[.d (.sc (.int k' n)),.d (.sc (.bool b))]] })
    |_=>False
   |_=>False
  |_=>False
theorem Gl{k:V}{K:List Obj->Prop} (hI:Inv σ s w) (hm:ay σ s w m um) (hk:ay σ s w k uk) (hx:ay σ s w x ux) (h:vY P t s m k x K) :
  ∃s' w',(Instr.mapUpdate t um uk ux).run P w=.ok () w'/\aC σ s w σ s' w'/\Inv σ s' w'/\K s':=by
 unfold vY at h;split at h
 ·exact MJ hI hm hk hx h
 rename_i ik SW;obtain⟨key,elem,ti,t1,t2,t3,t4⟩:=CR SW;split at h
 case h_2=>exact h.elim
 rename_i id g;split at h
 case h_2=>exact h.elim
 rename_i k' n;split at h
 case h_2=>exact h.elim
 rename_i bv;obtain⟨o,ho,hg,⟨qB,rfl⟩,h⟩:=dS h;split at h
 ·exact h.elim
 rename_i l hl;obtain⟨hn,h⟩:=h;obtain⟨b,es,c,h1,h2,h3,rfl⟩:=BS hI hm ho hg;cases hk with|d hk=>?_
 cases hk with|sc _ _=>?_
 cases hx with|d hx=>?_
 cases hx with|sc _ _=>?_
 rw[h3]at hl;have Zm:Instr.findNow (.int k') (.int k' n) es.toList 0=some none:=by
  rcases tQ (k0:=k') (n:=n) es.toList l 0 hl with ⟨g1,g2⟩|⟨b',j,g1,g2⟩
  ·exact g2
  ·rw[hn]at g1;cases g1
 have eO:(setObj b (.map (es.push { key:=.int k' n,val:=.bool bv,born:=c }) (c+1))).run P w=.ok () (setBlock w b (.map (es.push { key:=.int k' n,val:=.bool bv,born:=c }) (c+1))):=by simp [setObj,Sem.run,h2,setBlock]
 have dZ:(Instr.mapUpdate t (.map (some b)) (.int k' n) (.bool bv)).run P w=.ok () (setBlock w b (.map (es.push { key:=.int k' n,val:=.bool bv,born:=c }) (c+1))):=by simp [Instr.mapUpdate,run_underlying t1,run_underlying t2,MapKept.run_getObj_map h2,run_checkKey t2,Instr.findKey,Zm,eO]
 have:=lQ (p:=σ id) (w':=setBlock w b (.map (es.push { key:=.int k' n,val:=.bool bv,born:=c }) (c+1))) (o':={ o with au:=o.au++[[.d (.sc (.int k' n)),.d (.sc (.bool bv))]] }) hI ho qB rfl rfl rfl (by simp [setBlock])
  (λb1 _ eU=>Go.ChangeMaps.heap_setBlock_other h2 _ (λe=>eU 0 (by rw[h1,e])))
  (λb1 jb arr E he hh=>by
   rw[h1]at he;cases he;rw[h2]at hh;cases hh)
  (λb1 jb he hm=>by
   rw[h1]at he;cases he;exact⟨_,_,Go.ChangeMaps.heap_setBlock_same h2 _⟩)
  (ajZ _) (λ_=>⟨rfl,rfl⟩) (λb1 jb he=>.inl ⟨jb,he⟩)
  (λhE=>.inl (.inr ⟨b,_,_,h1,Go.ChangeMaps.heap_setBlock_same h2 _,by simp [h3,fz]⟩))
 rw[u5]at this;exact⟨_,_,dZ,this.1,this.2,h⟩
def nN (P:Program) (t:TypeId) (r:Option Operand) (s:List Obj) (K:V->List Obj->Prop):Prop :=
 r=none/\K (.mp s.length 0) (s++[⟨0,true,2,[]⟩])
theorem ET{r:Option Operand} (hI:Inv σ s w) (h:nN P t r s K) :
  ∃v c σ' s' w',(Instr.makeMap t none).run P w=.ok c w'/\aC σ s w σ' s' w'/\Inv σ' s' w'/\ay σ' s' w' v c/\K v s':=by
 have:=mV (p:=some (w.heap.size,0)) (o':=⟨0,true,2,[]⟩) (w':=w.alloc (.map #[] 0)) hI rfl rfl rfl ak (λb hb=>akU w _ b hb) (λb base h=>by cases h;exact ajZ _)
  (λhE=>.inl (.inr ⟨w.heap.size,#[],0,rfl,heap_alloc_new w _,rfl⟩))
 refine⟨_,.map (some w.heap.size),_,_,_,?_,this.1,this.2,.mp ⟨0,true,2,[]⟩ ak (ajZ _) rfl (λ_=>⟨w.heap.size,bP _ _ _,⟨_,_,heap_alloc_new w _⟩,rfl⟩),h.2⟩;simp [Instr.makeMap]
def iG (es:List (List V)) (lo:Nat) (ns:List (List V)):List (List V):=es.take lo++ns++es.drop (lo+ns.length)
theorem BD (es:List (List V)) (lo:Nat) (ns:List (List V)) (h:lo+ns.length<=es.length) (j:Nat) :
  (iG es lo ns)[j]?=if lo<=j/\j<lo+ns.length then ns[j-lo]? else es[j]?:=by
 have hl:(es.take lo).length=lo:=cC;unfold iG;by_cases h1:j<lo
 ·rw[bd,aj7,List.getElem?_append_left ae,List.getElem?_take,be h1]
 ·by_cases h2:j<lo+ns.length
  ·rw[sP,aj7,List.getElem?_append_right ae,hl,List.getElem?_append_left ae]
  ·rw[bd,List.getElem?_append_right cC,List.getElem?_drop];congr 1;simp;omega
theorem Fe (es:List (List V)) (lo:Nat) (ns:List (List V)) (h:lo+ns.length<=es.length):(iG es lo ns).length=es.length:=by simp [iG];omega
theorem FL (hI:Inv σ s w){o:Obj} (ho:s[id]?=some o) (hl:o.live=true) {lo:Nat} (hfit:lo+ns.length<=o.au.length) (hz:∀e∈ns,e.length=o.sz)
  {b base:Nat} (hs:σ id=some (b,base)) (hC:FM w b) {us:List Value} (hus:us.length=ns.length*o.sz)
  (hrep:∀(i j:Nat) (y:V),(ns[i]?.bind (·[j]?))=some y->∃c,us[i*o.sz+j]?=some c/\c.oneCell'=true/\ay σ s w y c) (PV:∀u∈us,u.oneCell'=true) (P:Program) :
  ∃w',(storeCells ⟨b,base+lo*o.sz,none⟩ us).run P w=.ok () w'/\aC σ s w σ (s.set id { o with au:=iG o.au lo ns }) w' /\
   Inv σ (s.set id { o with au:=iG o.au lo ns }) w':=by
 rcases hI.content _ o ho with h1|⟨b',bN,arr,E,h1,h2,h3,h4,h5⟩
 ·exact(h1.yF hs hC).elim
 rw[hs]at h1;cases h1;have aeA:lo*o.sz+ns.length*o.sz<=o.au.length*o.sz:=by rw[<- akx];exact akk _ hfit
 have dZ:=run_storeCells_at P b (base+lo*o.sz) E us 0 arr w h2 (by rw[hus];omega) PV;simp only[ak0]at dZ;generalize lG:(arr.toList.take (base+lo*o.sz)++us++arr.toList.drop (base+lo*o.sz+us.length)).toArray=bR at dZ;have ie:bR.size=arr.size:=by rw[<- lG];simp;omega
 have dO:∀p,bR[p]?=if base+lo*o.sz<=p/\p<base+lo*o.sz+us.length then us[p-(base+lo*o.sz)]? else arr[p]?:=by
  intro p;have hl:(arr.toList.take (base+lo*o.sz)).length=base+lo*o.sz:=cC;rw[<- lG,List.getElem?_toArray];by_cases g1:p<base+lo*o.sz
  ·rw[bd,aj7,List.getElem?_append_left ae,List.getElem?_take,be g1,Array.getElem?_toList]
  ·by_cases g2:p<base+lo*o.sz+us.length
   ·rw[sP,aj7,List.getElem?_append_right ae,hl,List.getElem?_append_left ae]
   ·rw[bd,List.getElem?_append_right cC,List.getElem?_drop,Array.getElem?_toList];congr 1;simp;omega
 refine⟨_,dZ,?_⟩;have:=lQ (p:=σ id) (w':=w.setRow b bR) (o':={ o with au:=iG o.au lo ns }) hI ho hl rfl rfl rfl ak
  (λb1 _ eU=>setRow_other w b b1 bR (λe=>eU base (by rw[hs,e])))
  (λb1 jb Vt E1 he hh=>by
   rw[hs]at he;cases he;rw[h2]at hh;cases hh;exact⟨bR,setRow_heap w b arr bR E (0,0) h2,ie⟩)
  (λb1 jb he hm=>by
   rw[hs]at he;cases he;exact(hC.notM hm).elim)
  (ajZ _) (λ_=>⟨rfl,rfl⟩) (λb1 jb he=>.inl ⟨jb,he⟩)
  (λhE=>.inr ⟨b,base,bR,E,hs,setRow_heap w b arr bR E (0,0) h2,(by
   intro e he;simp only at he;unfold iG at he;rcases List.mem_append.1 he with he|he
   ·rcases List.mem_append.1 he with he|he
    ·exact h3 e (akv he)
    ·exact hz e he
   ·exact h3 e (ak1 he)),(by simp only[Fe _ _ _ hfit];omega),(by
   intro i j x hx;simp only at hx ⊢;rw[u5]at hE ⊢;rw[BD _ _ _ hfit]at hx;split at hx
   ·rename_i wF;obtain⟨c,k1,k2,k3⟩:=hrep _ j x hx;refine⟨c,?_,k2,k3.aR hE⟩;have az:=(List.getElem?_eq_some_iff.1 k1).1;have hmul:i*o.sz=lo*o.sz+(i-lo)*o.sz:=by rw[<- akx];congr 1;omega
    rw[dO,sP,<- k1];congr 1;omega
   ·rename_i wF;obtain⟨c,k1,k2,k3⟩:=h5 i j x hx;refine⟨c,?_,k2,k3.aR hE⟩;rw[dO,ap ?_]
    ·exact k1
    ·have hjl:j<o.sz:=by
      cases he:o.au[i]? with
      |none=>rw[he]at hx;cases hx
      |some e =>
       rw[he]at hx;have:=(List.getElem?_eq_some_iff.1 hx).1;rw[h3 e (List.mem_of_getElem? he)]at this;exact this
     rw[hus];rcases akd i lo with az|gx
     ·have:=akk o.sz (show i+1<=lo from az);rw[akx,Nat.one_mul]at this;omega
     ·have:=akk o.sz (show lo+ns.length<=i by omega);rw[akx]at this;omega)⟩)
 rw[u5]at this;exact this
def yZ (P:Program) (t:TypeId) (a x:V) (s:List Obj) (K:V->List Obj->Prop):Prop :=
 match iL P t with
 |none=>False
 |some (_,i)=>match il s x with
  |none=>False
  |some ns=>(∀e∈ns,e.length=i.sz)/\match a with
   |.so id g lo n=>tE s id g λo=>(o.live=true/\o.sz=i.sz/\lo+n<=o.au.length/\ns.length<=n)/\K (.d (.sc (.int .i64 ns.length))) (s.set id { o with au:=iG o.au lo ns })
   |_=>False
theorem X5{e:TypeId}{z:Nat} (hu:P.underlying t=some (.slice e)) (hI:Inv σ s w) (hx:ay σ s w x ux) (uu:il s x=some ns) (hz:∀e∈ns,e.length=z) :
  ∃news,Src P z t ux ns.length news w/\∀(i j:Nat) (y:V),(ns[i]?.bind (·[j]?))=some y->∃c,news[i*z+j]?=some c/\c.oneCell'=true/\ay σ s w y c:=by
 obtain⟨ax,qV,rfl,yC,V8,news,n1,n2,n3,n4⟩:=hU hI hx uu hz;refine⟨news,?_,n4⟩;cases ax with
 |none =>
  have:ns=[]:=yC rfl;subst this;have hn:news=[]:=akj (by simpa using n1);subst hn;exact Src.ofNil w hu qV
 |some ad=>exact Src.ofSlice w hu ad ns.length qV news n1 (n3 ad rfl) n2
theorem Dt (es:List (List V)) (lo:Nat):iG es lo []=es:=by simp [iG]
theorem MH{a:V}{ua:Value} (hI:Inv σ s w) (ha:ay σ s w a ua) (hx:ay σ s w x ux)
  (h:yZ P t a x s K):∃v r s' w',(Builtin.copy_ #[t,t] ty #[ua,ux]).run P w=.ok r w'/\aC σ s w σ s' w'/\Inv σ s' w'/\ay σ s' w' v r/\K v s':=by
 unfold yZ at h;split at h
 ·exact h.elim
 rename_i e i hti;obtain⟨hu,hi⟩:=jD hti;split at h
 ·exact h.elim
 rename_i ns uu;obtain⟨hz,h⟩:=h;obtain⟨ti,d,z,k1,k2,k3,k4,k5,k6,k7,k8,k9⟩:=gj hi;obtain⟨news,sg,n4⟩:=X5 hu hI hx uu hz;split at h
 case h_2=>exact h.elim
 rename_i id g lo n;obtain⟨o,ho,hg,⟨hl,eZ,hfit,hle⟩,hK⟩:=dS h;have Uw:Nat.min ns.length n=ns.length:=Nat.min_eq_left hle;have jV:=sg.cells;cases ha with|so o' g7 CK JC hk=>?_
 rw[ho]at g7;cases g7;rcases hk hg with ⟨hs,⟨ad,rfl⟩,rfl,rfl⟩|⟨b,base,cap,E,arr,hs,hh,rfl,oU,hbd⟩
 ·have hn:ns=[]:=akj ae;subst hn;have abM:news=[]:=akj (by simpa using sg.newsLen);subst abM;have eO:s.set id { o with au:=iG o.au 0 [] }=s:=by
   rw[Dt];apply List.ext_getElem?;intro k;by_cases hk:k=id
   ·subst hk;rw[List.getElem?_set_self (List.getElem?_eq_some_iff.1 ho).1,ho]
   ·rw[List.getElem?_set_ne (Ne.symm hk)]
  rw[eO]at hK;refine⟨_,.int .i64 0,s,w,?_,aC.refl _ _ _,hI,.d (.sc _ rfl),hK⟩;have hlen:=sg.len w;simp only[ajX]at hlen jV;cases ad <;> simp [Builtin.copy_,run_underlying hu,sizeOf,typeInfo,k1,k4,hlen,jV,goInt,storeCells]
 ·obtain⟨w',r1,r2,r3⟩:=FL hI ho hl (lo:=lo) (ns:=ns) ae (by rw[eZ];exact hz) hs ⟨arr,E,hh⟩ (us:=news) (by rw[eZ];exact sg.newsLen) (by rw[eZ];exact n4) sg.one P;refine⟨_,.int .i64 ns.length,_,w',?_,r2,r3,.d (.sc _ rfl),hK⟩;have hlen:=sg.len w;simp [Builtin.copy_,run_underlying hu,sizeOf,typeInfo,k1,k4,hlen,Uw,jV,goInt,r1]
def nr (P:Program) (t:TypeId) (x:V) (s:List Obj) (K:V->List Obj->Prop):Prop :=
 match iL P t with
 |none=>False
 |some (_,i)=>match x with
  |.so id g lo n=>tE s id g λo=>(o.live=true/\o.sz=i.sz/\lo+n<=o.au.length)/\K (.tu []) (s.set id { o with au:=iG o.au lo (List.replicate n (i.zero.map cv)) })
  |.d (.sl [])=>K (.tu []) s
  |_=>False
theorem Lv{o:Obj} (ho:s[id]?=some o):s.set id o=s:=by
 apply List.ext_getElem?;intro k;by_cases hk:k=id
 ·subst hk;rw[List.getElem?_set_self (List.getElem?_eq_some_iff.1 ho).1,ho]
 ·rw[List.getElem?_set_ne (Ne.symm hk)]
theorem K9 (hI:Inv σ s w) (hx:ay σ s w x ux)
  (h:nr P t x s K):∃v r s' w',(Builtin.clear_ #[t] ty #[ux]).run P w=.ok r w'/\aC σ s w σ s' w'/\Inv σ s' w'/\ay σ s' w' v r/\K v s':=by
 unfold nr at h;split at h
 ·exact h.elim
 rename_i e i hti;obtain⟨hu,hi⟩:=jD hti;split at h
 case h_3=>exact h.elim
 case h_2 =>
  refine⟨_,.tuple #[],s,w,?_,aC.refl _ _ _,hI,.tu rfl (λi x hx=>by simp at hx),h⟩;cases hx with|d hd=>?_
  cases hd with
  |nil=>simp [Builtin.clear_,run_underlying hu]
  |sl _ ad _ sz f h1 h2 h3 h4 h5=>simp [Builtin.clear_,run_underlying hu]
 rename_i id g lo n;obtain⟨o,ho,hg,⟨hl,eZ,hfit⟩,hK⟩:=dS h;obtain⟨ti,d,z,k1,k2,k3,k4,k5,k6,k7,k8,k9⟩:=gj hi;have hz:∀w,(zeroValue e).run P w=.ok z w:=λw=>by simp [zeroValue,typeInfo,k1,k3]
 have tup:∀(s':List Obj) (w':World),ay σ s' w' (.tu []) (.tuple #[]):=λs' w'=>.tu rfl (λi x hx=>by simp at hx);have zero:n=0->∃v r s' w',(Result.ok (Value.tuple #[]) w:Result Value)=.ok r w'/\aC σ s w σ s' w'/\Inv σ s' w'/\ay σ s' w' v r/\K v s':=by rintro rfl;refine⟨_,_,s,w,rfl,aC.refl _ _ _,hI,tup _ _,?_⟩;rw[List.replicate_zero,Dt,Lv ho]at hK;exact hK
 cases hx with|so o' g7 CK JC hk=>?_
 rw[ho]at g7;cases g7;rcases hk hg with ⟨hs,⟨ad,rfl⟩,rfl,rfl⟩|⟨b,base,cap,E,arr,hs,hh,rfl,oU,hbd⟩
 ·obtain⟨v,r,s',w',e1,e2⟩:=zero rfl;refine⟨v,r,s',w',?_,e2⟩;rw[<- e1];cases ad <;> simp [Builtin.clear_,run_underlying hu]
 ·rcases Nat.eq_zero_or_pos n with h0|h0
  ·obtain⟨v,r,s',w',e1,e2⟩:=zero h0;refine⟨v,r,s',w',?_,e2⟩;rw[<- e1];subst h0;simp [Builtin.clear_,run_underlying hu]
  ·have YX:z.cells.size=i.sz:=by rw[<- ala,k6,k7]
   have hzc:Builtin.zeroCells z.cells n=(Array.range (n*i.sz)).map (z.cells[· % z.cells.size]!):=by unfold Builtin.zeroCells;rw[<- YX]
   have aeK:=BX hi σ s w n z k6;obtain⟨r1,r2,r3⟩:=aeK;obtain⟨w',q1,q2,q3⟩:=FL hI ho hl (lo:=lo) (ns:=List.replicate n (i.zero.map cv)) (by rw[akK];omega) (λe he=>by rw[List.eq_of_mem_replicate he,ajM,eZ,k7]) hs ⟨arr,E,hh⟩ (us:=(Builtin.zeroCells z.cells n).toList)
    (by rw[akK,eZ,ala,size_zeroCells,YX])
    (λa j y hy=>by
     rw[eZ];obtain⟨c,c1,c2,c3⟩:=r3 a j y hy;refine⟨c,?_,c2,c3⟩;rw[Array.getElem?_toList,hzc];exact c1)
    (λu hu=>by
     rw[hzc,Array.toList_map,ake]at hu;obtain⟨k,hk,rfl⟩:=hu;have sT:k<n*i.sz:=by simpa using hk
     have hp:0<z.cells.size:=by
      rw[YX];rcases Nat.eq_zero_or_pos i.sz with h'|h'
      ·rw[h']at sT;simp at sT
      ·exact h'
     have hm:=Nat.mod_lt k hp;have dO:z.cells[k % z.cells.size]! = z.cells[k % z.cells.size]:=by simp [hm]
     rw[dO];exact k8 _ (by rw[<- k6];exact Array.getElem_mem_toList hm)) P
   refine⟨_,_,_,w',?_,q2,q3,tup _ _,hK⟩;obtain⟨m,rfl⟩:∃m,n=m+1:=⟨n-1,ae⟩
   simp [Builtin.clear_,run_underlying hu,hz,q1]
end Go.VL
