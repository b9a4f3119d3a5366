/- A part of the proof (Vhm Vgc). -/
import Derived.ChangeMaps5
import Derived.MapKept
import Derived.Test.YtfmdmlfhigocaaaOR3
set_option linter.unusedSimpArgs false
set_option linter.unusedVariables false
set_option maxRecDepth 100000
set_option maxHeartbeats 80000000
namespace Go.VL
open Go.ChangeMaps (setBlock)
variable{k:IntKind}{v:Value}{rest:List (List V)}{a:Value}{P:Program}{t:TypeId}{σ:Gh}{w:World}{id:Nat}{s:List Obj}{K:V->List Obj->Prop}{m:V}{uk:Value}{um:Value}{ux:Value}{x:V}{ns:List (List V)}{ty:TypeId}
def MK (k:IntKind):List (List V)->Option (List (Int×Bool))
 |[]=>some []
 |[.d (.sc (.int k' n)),.d (.sc (.bool b))]::rest=>if k'=k then (MK k rest).map ((n,b)::·) else none
 |_::_=>none
theorem SA{l:List (Int×Bool)} (h:MK k ([V.d (.sc a),V.d (.sc v)]::rest)=some l):∃n b l',a=.int k n/\v=.bool b/\l=(n,b)::l'/\MK k rest=some l':=by
 unfold MK at h;split at h
 ·rename_i he;cases he
 ·rename_i k' n b aaq he;simp only[List.cons.injEq,V.d.injEq,D.sc.injEq,and_true]at he;obtain⟨⟨rfl,rfl⟩,rfl⟩:=he;split at h
  ·rename_i hk;subst hk;obtain⟨l',h1,h2⟩:=Option.map_eq_some_iff.1 h;exact⟨n,b,l',rfl,rfl,h2.symm,h1⟩
  ·cases h
 ·cases h
def IN (l:List (Int×Bool)) (n:Int):Option Bool:=(l.find? λp=>n == p.1).map (·.2)
def KA (P:Program) (t:TypeId):Option IntKind :=
 match P.underlying t with
 |some (.map key elem)=>match P.underlying key,(P.info? elem).bind (·.zero) with
  |some (.int k),some (.bool false)=>some k
  |_,_=>none
 |_=>none
theorem Eh (h:KA P t=some k):∃key elem ti,P.underlying t=some (.map key elem)/\P.underlying key=some (.int k)/\P.info? elem=some ti/\ti.zero=some (.bool false):=by
 unfold KA at h;split at h
 ·rename_i key elem hu;split at h
  ·rename_i k' h1 h2;cases h;obtain⟨ti,h3,h4⟩:=Option.bind_eq_some_iff.1 h2;exact⟨key,elem,ti,hu,h1,h3,h4⟩
  ·cases h
 ·cases h
theorem vd {k k0:IntKind}{n:Int}:∀(es:List MapEntry) (l:List (Int×Bool)) (i:Nat),MK k (es.map λe=>[V.d (.sc e.key),V.d (.sc e.val)])=some l ->
  (IN l n=none/\Instr.findNow (.int k0) (.int k n) es i=some none)\/∃b j,IN l n=some b/\Instr.findNow (.int k0) (.int k n) es i=some (some (j,.bool b))
 |[],l,i,h=>by simp only[ai2,MK,ai5]at h;subst h;exact .inl ⟨rfl,rfl⟩
 |e::es,l,i,h=>by
  rw[aiZ]at h;obtain⟨m,b,l',h1,h2,rfl,h4⟩:=SA h;unfold Instr.findNow;rw[h1];simp only[Instr.sameNow,if_true];by_cases MQ:n=m
  ·subst MQ;refine .inr ⟨b,i,by simp [IN],?_⟩;simp [h2]
  ·have hb:(n == m)=false:=by simpa using MQ
   rw[hb];simp only;have hg:IN ((m,b)::l') n=IN l' n:=by simp [IN,hb]
   rw[hg];exact vd es l' (i+1) h4
theorem run_checkKey (hu:P.underlying t=some (.int k)) (b:Bool) (n:Int) (w:World):(Instr.checkKey b 10000 t (.int k n)).run P w=.ok () w:=by
 have h:∀d:Nat,(Instr.checkKey b (d+1) t (.int k n)).run P w=.ok () w:=λd=>by simp [Instr.checkKey,run_underlying hu]
 exact h 9999
theorem CZ (hI:Inv σ s w) {g:Nat}{u:Value}{o:Obj} (hm:aC σ s w (.mp id g) u) (ho:s[id]?=some o) (hg:o.g=g) :
  ∃b es c,σ id=some (b,0)/\w.heap[b]?=some (.map es c)/\o.aw=fZ es/\u=.map (some b):=by
 cases hm with
 |mp o' jV FO hu hk =>
  rw[ho]at jV;cases jV;obtain⟨b,h1,hM,h2⟩:=hk hg;rcases hI.content _ o ho with (⟨h3,_⟩|⟨b',es,c,h3,h4,h5⟩)|⟨b',base,arr,E,h3,h4,_⟩
  ·rw[h1]at h3;cases h3
  ·rw[h1]at h3;cases h3;exact⟨b,es,c,h1,h4,h5,h2⟩
  ·rw[h1]at h3;cases h3;exact(HZ.notM ⟨arr,E,h4⟩ hM).elim
def BV (k:IntKind):List (List V)->Option (List (Int×Fn))
 |[]=>some []
 |[.d (.sc (.int k' n)),.d (.sc (.func fn ⟨[]⟩ ⟨[]⟩))]::rest=>if k'=k then (BV k rest).map ((n,fn)::·) else none
 |_::_=>none
theorem Qs{l:List (Int×Fn)} (h:BV k ([V.d (.sc a),V.d (.sc v)]::rest)=some l):∃n fn l',a=.int k n/\v=.func fn #[] #[]/\l=(n,fn)::l'/\BV k rest=some l':=by
 unfold BV at h;split at h
 ·rename_i he;cases he
 ·rename_i k' n b aaq he;simp only[List.cons.injEq,V.d.injEq,D.sc.injEq,and_true]at he;obtain⟨⟨rfl,rfl⟩,rfl⟩:=he;split at h
  ·rename_i hk;subst hk;obtain⟨l',h1,h2⟩:=Option.map_eq_some_iff.1 h;exact⟨n,b,l',rfl,rfl,h2.symm,h1⟩
  ·cases h
 ·cases h
def BD (l:List (Int×Fn)) (n:Int):Option Fn:=(l.find? λp=>n == p.1).map (·.2)
def Ec (P:Program) (t:TypeId):Option IntKind :=
 match P.underlying t with
 |some (.map key elem)=>match P.underlying key,(P.info? elem).bind (·.zero) with
  |some (.int k),some .nilFunc=>some k
  |_,_=>none
 |_=>none
theorem BE (h:Ec P t=some k):∃key elem,P.underlying t=some (.map key elem)/\P.underlying key=some (.int k):=by
 unfold Ec at h;split at h
 ·rename_i key elem hu;split at h
  ·rename_i k' h1 h2;cases h;exact⟨key,elem,hu,h1⟩
  ·cases h
 ·cases h
theorem sj {k k0:IntKind}{n:Int}:∀(es:List MapEntry) (l:List (Int×Fn)) (i:Nat),BV k (es.map λe=>[V.d (.sc e.key),V.d (.sc e.val)])=some l ->
  (BD l n=none/\Instr.findNow (.int k0) (.int k n) es i=some none)\/∃b j,BD l n=some b/\Instr.findNow (.int k0) (.int k n) es i=some (some (j,.func b #[] #[]))
 |[],l,i,h=>by simp only[ai2,BV,ai5]at h;subst h;exact .inl ⟨rfl,rfl⟩
 |e::es,l,i,h=>by
  rw[aiZ]at h;obtain⟨m,b,l',h1,h2,rfl,h4⟩:=Qs h;unfold Instr.findNow;rw[h1];simp only[Instr.sameNow,if_true];by_cases MQ:n=m
  ·subst MQ;refine .inr ⟨b,i,by simp [BD],?_⟩;simp [h2]
  ·have hb:(n == m)=false:=by simpa using MQ
   rw[hb];simp only;have hg:BD ((m,b)::l') n=BD l' n:=by simp [BD,hb]
   rw[hg];exact sj es l' (i+1) h4
def qD (P:Program) (t:TypeId) (s:List Obj) (m k:V) (K:V->Prop):Prop :=
 match Ec P t with
 |none=>False
 |some ik=>match m with
  |.mp id g=>match k with
   |.d (.sc (.int k' n))=>wo s id g λo=>k'=ik/\match (BV ik o.aw).bind λl=>BD l n with
    |none=>False
    |some fn=>K (.cl fn [] [])
   |_=>False
  |_=>False
theorem MC{k:V}{K:V->Prop} (hI:Inv σ s w) (hm:aC σ s w m um) (hk:aC σ s w k uk) (h:qD P t s m k K) :
  ∃v c,(Instr.lookup t um uk false).run P w=.ok c w/\aC σ s w v c/\K v:=by
 unfold qD at h;split at h
 ·exact h.elim
 rename_i ik Tc;obtain⟨key,elem,t1,t2⟩:=BE Tc;split at h
 case h_2=>exact h.elim
 rename_i id g;split at h
 case h_2=>exact h.elim
 rename_i k' n;obtain⟨o,ho,hg,rfl,h⟩:=eQ h;split at h
 ·exact h.elim
 rename_i fn Y8;obtain⟨l,hl,ZK⟩:=Option.bind_eq_some_iff.1 Y8;obtain⟨b,es,c,h1,h2,h3,rfl⟩:=CZ hI hm ho hg;cases hk with|d hk=>?_
 cases hk with|sc _ _=>?_
 rw[h3]at hl;refine⟨_,.func fn #[] #[],?_,.cl rfl (λi x hx=>by simp at hx) rfl (λi x hx=>by simp at hx),h⟩;rcases sj (k0:=k') (n:=n) es.toList l 0 hl with ⟨g1,g2⟩|⟨b',j,g1,g2⟩
 ·rw[ZK]at g1;cases g1
 ·rw[ZK]at g1;cases g1;simp [Instr.lookup,run_underlying t1,run_underlying t2,MapKept.run_getObj_map h2,run_checkKey t2,Instr.findKey,g2]
def DV (P:Program) (t:TypeId) (s:List Obj) (m k x:V) (K:List Obj->Prop):Prop :=
 match Ec P t with
 |none=>False
 |some ik=>match m with
  |.mp id g=>match k with
   |.d (.sc (.int k' n))=>match x with
    |.cl fn [] []=>wo s id g λo=>(o.live=true/\k'=ik)/\match BV ik o.aw with
     |none=>False
     |some l=>BD l n=none/\K (s.set id { o with aw:=o.aw++[[.d (.sc (.int k' n)),.d (.sc (.func fn ⟨[]⟩ ⟨[]⟩))]] })
    |_=>False
   |_=>False
  |_=>False
theorem Ns{k:V}{K:List Obj->Prop} (hI:Inv σ s w) (hm:aC σ s w m um) (hk:aC σ s w k uk) (hx:aC σ s w x ux) (h:DV P t s m k x K) :
  ∃s' w',(Instr.mapUpdate t um uk ux).run P w=.ok () w'/\aG σ s w σ s' w'/\Inv σ s' w'/\K s':=by
 unfold DV at h;split at h
 ·exact h.elim
 rename_i ik Tc;obtain⟨key,elem,t1,t2⟩:=BE Tc;split at h
 case h_2=>exact h.elim
 rename_i id g;split at h
 case h_2=>exact h.elim
 rename_i k' n;split at h
 case h_2=>exact h.elim
 rename_i fn;obtain⟨o,ho,hg,⟨uT,rfl⟩,h⟩:=eQ h;split at h
 ·exact h.elim
 rename_i l hl;obtain⟨hn,h⟩:=h;obtain⟨b,es,c,h1,h2,h3,rfl⟩:=CZ hI hm ho hg;cases hk with|d hk=>?_
 cases hk with|sc _ _=>?_
 cases hx with|@cl _ _ _ f' c' q1 _ q2 _=>?_
 obtain rfl:f'=#[]:=Array.eq_empty_of_size_eq_zero (by simpa using q1);obtain rfl:c'=#[]:=Array.eq_empty_of_size_eq_zero (by simpa using q2);rw[h3]at hl;have Y8:Instr.findNow (.int k') (.int k' n) es.toList 0=some none:=by
  rcases sj (k0:=k') (n:=n) es.toList l 0 hl with ⟨g1,g2⟩|⟨b',j,g1,g2⟩
  ·exact g2
  ·rw[hn]at g1;cases g1
 have gD:(setObj b (.map (es.push { key:=.int k' n,val:=.func fn #[] #[],born:=c }) (c+1))).run P w=.ok () (setBlock w b (.map (es.push { key:=.int k' n,val:=.func fn #[] #[],born:=c }) (c+1))):=by simp [setObj,Sem.run,h2,setBlock]
 have eZ:(Instr.mapUpdate t (.map (some b)) (.int k' n) (.func fn #[] #[])).run P w=.ok () (setBlock w b (.map (es.push { key:=.int k' n,val:=.func fn #[] #[],born:=c }) (c+1))):=by simp [Instr.mapUpdate,run_underlying t1,run_underlying t2,MapKept.run_getObj_map h2,run_checkKey t2,Instr.findKey,Y8,gD]
 have:=oO (p:=σ id) (w':=setBlock w b (.map (es.push { key:=.int k' n,val:=.func fn #[] #[],born:=c }) (c+1))) (o':={ o with aw:=o.aw++[[.d (.sc (.int k' n)),.d (.sc (.func fn ⟨[]⟩ ⟨[]⟩))]] }) hI ho uT rfl rfl rfl (by simp [setBlock])
  (λb1 _ dP=>Go.ChangeMaps.heap_setBlock_other h2 _ (λe=>dP 0 (by rw[h1,e])))
  (λb1 kW arr E he hh=>by
   rw[h1]at he;cases he;rw[h2]at hh;cases hh)
  (λb1 kW he hm=>by
   rw[h1]at he;cases he;exact⟨_,_,Go.ChangeMaps.heap_setBlock_same h2 _⟩)
  (ajc _) (λ_=>⟨rfl,rfl⟩) (λb1 kW he=>.inl ⟨kW,he⟩)
  (λhE=>.inl (.inr ⟨b,_,_,h1,Go.ChangeMaps.heap_setBlock_same h2 _,by simp [h3,fZ]⟩))
 rw[v9]at this;exact⟨_,_,eZ,this.1,this.2,h⟩
def j0 (P:Program) (t:TypeId) (s:List Obj) (m k:V) (K:V->Prop):Prop :=
 match KA P t with
 |none=>qD P t s m k K
 |some ik=>match m with
  |.mp id g=>match k with
   |.d (.sc (.int k' n))=>wo s id g λo=>k'=ik/\match MK ik o.aw with
    |none=>False
    |some l=>K (.d (.sc (.bool ((IN l n).getD false))))
   |_=>False
  |_=>False
theorem ID{k:V}{K:V->Prop} (hI:Inv σ s w) (hm:aC σ s w m um) (hk:aC σ s w k uk) (h:j0 P t s m k K) :
  ∃v c,(Instr.lookup t um uk false).run P w=.ok c w/\aC σ s w v c/\K v:=by
 unfold j0 at h;split at h
 ·exact MC hI hm hk h
 rename_i ik Tc;obtain⟨key,elem,ti,t1,t2,t3,t4⟩:=Eh Tc;split at h
 case h_2=>exact h.elim
 rename_i id g;split at h
 case h_2=>exact h.elim
 rename_i k' n;obtain⟨o,ho,hg,rfl,h⟩:=eQ h;split at h
 ·exact h.elim
 rename_i l hl;obtain⟨b,es,c,h1,h2,h3,rfl⟩:=CZ hI hm ho hg;cases hk with|d hk=>?_
 cases hk with|sc _ _=>?_
 rw[h3]at hl;refine⟨_,.bool ((IN l n).getD false),?_,.d (.sc _ rfl),h⟩;rcases vd (k0:=k') (n:=n) es.toList l 0 hl with ⟨g1,g2⟩|⟨b',j,g1,g2⟩
 ·simp [Instr.lookup,run_underlying t1,run_underlying t2,MapKept.run_getObj_map h2,run_checkKey t2,Instr.findKey,g1,g2,zeroValue,typeInfo,t3,t4]
 ·simp [Instr.lookup,run_underlying t1,run_underlying t2,MapKept.run_getObj_map h2,run_checkKey t2,Instr.findKey,g1,g2]
def xA (P:Program) (t:TypeId) (s:List Obj) (m k x:V) (K:List Obj->Prop):Prop :=
 match KA P t with
 |none=>DV P t s m k x K
 |some ik=>match m with
  |.mp id g=>match k with
   |.d (.sc (.int k' n))=>match x with
    |.d (.sc (.bool b))=>wo s id g λo=>(o.live=true/\k'=ik)/\match MK ik o.aw with
     |none=>False
     |some l=>IN l n=none/\K (s.set id { o with aw:=o.aw++[[.d (.sc (.int k' n)),.d (.sc (.bool b))]] })
    |_=>False
   |_=>False
  |_=>False
theorem GY{k:V}{K:List Obj->Prop} (hI:Inv σ s w) (hm:aC σ s w m um) (hk:aC σ s w k uk) (hx:aC σ s w x ux) (h:xA P t s m k x K) :
  ∃s' w',(Instr.mapUpdate t um uk ux).run P w=.ok () w'/\aG σ s w σ s' w'/\Inv σ s' w'/\K s':=by
 unfold xA at h;split at h
 ·exact Ns hI hm hk hx h
 rename_i ik Tc;obtain⟨key,elem,ti,t1,t2,t3,t4⟩:=Eh Tc;split at h
 case h_2=>exact h.elim
 rename_i id g;split at h
 case h_2=>exact h.elim
 rename_i k' n;split at h
 case h_2=>exact h.elim
 rename_i bv;obtain⟨o,ho,hg,⟨uT,rfl⟩,h⟩:=eQ h;split at h
 ·exact h.elim
 rename_i l hl;obtain⟨hn,h⟩:=h;obtain⟨b,es,c,h1,h2,h3,rfl⟩:=CZ hI hm ho hg;cases hk with|d hk=>?_
 cases hk with|sc _ _=>?_
 cases hx with|d hx=>?_
 cases hx with|sc _ _=>?_
 rw[h3]at hl;have Y8:Instr.findNow (.int k') (.int k' n) es.toList 0=some none:=by
  rcases vd (k0:=k') (n:=n) es.toList l 0 hl with ⟨g1,g2⟩|⟨b',j,g1,g2⟩
  ·exact g2
  ·rw[hn]at g1;cases g1
 have gD:(setObj b (.map (es.push { key:=.int k' n,val:=.bool bv,born:=c }) (c+1))).run P w=.ok () (setBlock w b (.map (es.push { key:=.int k' n,val:=.bool bv,born:=c }) (c+1))):=by simp [setObj,Sem.run,h2,setBlock]
 have eZ:(Instr.mapUpdate t (.map (some b)) (.int k' n) (.bool bv)).run P w=.ok () (setBlock w b (.map (es.push { key:=.int k' n,val:=.bool bv,born:=c }) (c+1))):=by simp [Instr.mapUpdate,run_underlying t1,run_underlying t2,MapKept.run_getObj_map h2,run_checkKey t2,Instr.findKey,Y8,gD]
 have:=oO (p:=σ id) (w':=setBlock w b (.map (es.push { key:=.int k' n,val:=.bool bv,born:=c }) (c+1))) (o':={ o with aw:=o.aw++[[.d (.sc (.int k' n)),.d (.sc (.bool bv))]] }) hI ho uT rfl rfl rfl (by simp [setBlock])
  (λb1 _ dP=>Go.ChangeMaps.heap_setBlock_other h2 _ (λe=>dP 0 (by rw[h1,e])))
  (λb1 kW arr E he hh=>by
   rw[h1]at he;cases he;rw[h2]at hh;cases hh)
  (λb1 kW he hm=>by
   rw[h1]at he;cases he;exact⟨_,_,Go.ChangeMaps.heap_setBlock_same h2 _⟩)
  (ajc _) (λ_=>⟨rfl,rfl⟩) (λb1 kW he=>.inl ⟨kW,he⟩)
  (λhE=>.inl (.inr ⟨b,_,_,h1,Go.ChangeMaps.heap_setBlock_same h2 _,by simp [h3,fZ]⟩))
 rw[v9]at this;exact⟨_,_,eZ,this.1,this.2,h⟩
def oW (P:Program) (t:TypeId) (r:Option Operand) (s:List Obj) (K:V->List Obj->Prop):Prop :=
 r=none/\K (.mp s.length 0) (s++[⟨0,true,2,[]⟩])
theorem FE{r:Option Operand} (hI:Inv σ s w) (h:oW P t r s K) :
  ∃v c σ' s' w',(Instr.makeMap t none).run P w=.ok c w'/\aG σ s w σ' s' w'/\Inv σ' s' w'/\aC σ' s' w' v c/\K v s':=by
 have:=pM (p:=some (w.heap.size,0)) (o':=⟨0,true,2,[]⟩) (w':=w.alloc (.map #[] 0)) hI rfl rfl rfl aj (λb hb=>Go.RowKit.Below.heap_alloc w _ b hb) (λb base h=>by cases h;exact ajc _)
  (λhE=>.inl (.inr ⟨w.heap.size,#[],0,rfl,heap_alloc_new w _,rfl⟩))
 refine⟨_,.map (some w.heap.size),_,_,_,?_,this.1,this.2,.mp ⟨0,true,2,[]⟩ aj (ajc _) rfl (λ_=>⟨w.heap.size,cc _ _ _,⟨_,_,heap_alloc_new w _⟩,rfl⟩),h.2⟩;simp [Instr.makeMap]
def jU (es:List (List V)) (lo:Nat) (ns:List (List V)):List (List V):=es.take lo++ns++es.drop (lo+ns.length)
theorem CC (es:List (List V)) (lo:Nat) (ns:List (List V)) (h:lo+ns.length<=es.length) (j:Nat) :
  (jU es lo ns)[j]?=if lo<=j/\j<lo+ns.length then ns[j-lo]? else es[j]?:=by
 have hl:(es.take lo).length=lo:=cG;unfold jU;by_cases h1:j<lo
 ·rw[bd,ajq,ajj ae,ajA,be h1]
 ·by_cases h2:j<lo+ns.length
  ·rw[tK,ajq,ajh ae,hl,ajj ae]
  ·rw[bd,ajh cG,ajU];congr 1;simp;omega
theorem FT (es:List (List V)) (lo:Nat) (ns:List (List V)) (h:lo+ns.length<=es.length):(jU es lo ns).length=es.length:=by simp [jU];omega
theorem Gs (hI:Inv σ s w){o:Obj} (ho:s[id]?=some o) (hl:o.live=true) {lo:Nat} (hfit:lo+ns.length<=o.aw.length) (hz:∀e∈ns,e.length=o.sz)
  {b base:Nat} (hs:σ id=some (b,base)) (hC:HZ w b) {us:List Value} (Xv:us.length=ns.length*o.sz)
  (hrep:∀(i j:Nat) (y:V),(ns[i]?.bind (·[j]?))=some y->∃c,us[i*o.sz+j]?=some c/\c.oneCell'=true/\aC σ s w y c) (QF:∀u∈us,u.oneCell'=true) (P:Program) :
  ∃w',(storeCells ⟨b,base+lo*o.sz,none⟩ us).run P w=.ok () w'/\aG σ s w σ (s.set id { o with aw:=jU o.aw lo ns }) w' /\
   Inv σ (s.set id { o with aw:=jU o.aw lo ns }) w':=by
 rcases hI.content _ o ho with h1|⟨b',bQ,arr,E,h1,h2,h3,h4,h5⟩
 ·exact(h1.Cz hs hC).elim
 rw[hs]at h1;cases h1;have adP:lo*o.sz+ns.length*o.sz<=o.aw.length*o.sz:=by rw[<- ajR];exact ajD _ hfit
 have eZ:=run_storeCells_at P b (base+lo*o.sz) E us 0 arr w h2 (by rw[Xv];omega) QF;simp only[aj5]at eZ;generalize qE:(arr.toList.take (base+lo*o.sz)++us++arr.toList.drop (base+lo*o.sz+us.length)).toArray=cE at eZ;have kg:cE.size=arr.size:=by rw[<- qE];simp;omega
 have ir:∀p,cE[p]?=if base+lo*o.sz<=p/\p<base+lo*o.sz+us.length then us[p-(base+lo*o.sz)]? else arr[p]?:=by
  intro p;have hl:(arr.toList.take (base+lo*o.sz)).length=base+lo*o.sz:=cG;rw[<- qE,List.getElem?_toArray];by_cases g1:p<base+lo*o.sz
  ·rw[bd,ajq,ajj ae,ajA,be g1,ajN]
  ·by_cases g2:p<base+lo*o.sz+us.length
   ·rw[tK,ajq,ajh ae,hl,ajj ae]
   ·rw[bd,ajh cG,ajU,ajN];congr 1;simp;omega
 refine⟨_,eZ,?_⟩;have:=oO (p:=σ id) (w':=w.setRow b cE) (o':={ o with aw:=jU o.aw lo ns }) hI ho hl rfl rfl rfl aj
  (λb1 _ dP=>setRow_other w b b1 cE (λe=>dP base (by rw[hs,e])))
  (λb1 kW XT E1 he hh=>by
   rw[hs]at he;cases he;rw[h2]at hh;cases hh;exact⟨cE,setRow_heap w b arr cE E (0,0) h2,kg⟩)
  (λb1 kW he hm=>by
   rw[hs]at he;cases he;exact(hC.notM hm).elim)
  (ajc _) (λ_=>⟨rfl,rfl⟩) (λb1 kW he=>.inl ⟨kW,he⟩)
  (λhE=>.inr ⟨b,base,cE,E,hs,setRow_heap w b arr cE E (0,0) h2,(by
   intro e he;simp only at he;unfold jU at he;rcases List.mem_append.1 he with he|he
   ·rcases List.mem_append.1 he with he|he
    ·exact h3 e (ajT he)
    ·exact hz e he
   ·exact h3 e (akk he)),(by simp only[FT _ _ _ hfit];omega),(by
   intro i j x hx;simp only at hx ⊢;rw[v9]at hE ⊢;rw[CC _ _ _ hfit]at hx;split at hx
   ·rename_i iU;obtain⟨c,k1,k2,k3⟩:=hrep _ j x hx;refine⟨c,?_,k2,k3.aZ hE⟩;have aB:=(List.getElem?_eq_some_iff.1 k1).1;have hmul:i*o.sz=lo*o.sz+(i-lo)*o.sz:=by rw[<- ajR];congr 1;omega
    rw[ir,tK,<- k1];congr 1;omega
   ·rename_i iU;obtain⟨c,k1,k2,k3⟩:=h5 i j x hx;refine⟨c,?_,k2,k3.aZ hE⟩;rw[ir,ap ?_]
    ·exact k1
    ·have QE:j<o.sz:=by
      cases he:o.aw[i]? with
      |none=>rw[he]at hx;cases hx
      |some e =>
       rw[he]at hx;have:=(List.getElem?_eq_some_iff.1 hx).1;rw[h3 e (ai4 he)]at this;exact this
     rw[Xv];rcases ajr i lo with aB|iA
     ·have:=ajD o.sz (show i+1<=lo from aB);rw[ajR,Nat.one_mul]at this;omega
     ·have:=ajD o.sz (show lo+ns.length<=i by omega);rw[ajR]at this;omega)⟩)
 rw[v9]at this;exact this
def Au (P:Program) (t:TypeId) (a x:V) (s:List Obj) (K:V->List Obj->Prop):Prop :=
 match jk P t with
 |none=>False
 |some (_,i)=>match jj s x with
  |none=>False
  |some ns=>(∀e∈ns,e.length=i.sz)/\match a with
   |.so id g lo n=>wo s id g λo=>(o.live=true/\o.sz=i.sz/\lo+n<=o.aw.length/\ns.length<=n)/\K (.d (.sc (.int .i64 ns.length))) (s.set id { o with aw:=jU o.aw lo ns })
   |_=>False
theorem XG{e:TypeId}{z:Nat} (hu:P.underlying t=some (.slice e)) (hI:Inv σ s w) (hx:aC σ s w x ux) (yH:jj s x=some ns) (hz:∀e∈ns,e.length=z) :
  ∃news,Src P z t ux ns.length news w/\∀(i j:Nat) (y:V),(ns[i]?.bind (·[j]?))=some y->∃c,news[i*z+j]?=some c/\c.oneCell'=true/\aC σ s w y c:=by
 obtain⟨ax,xK,rfl,Fc,Yp,news,n1,n2,n3,n4⟩:=ks hI hx yH hz;refine⟨news,?_,n4⟩;cases ax with
 |none =>
  have:ns=[]:=Fc rfl;subst this;have hn:news=[]:=ajB (by simpa using n1);subst hn;exact Src.ofNil w hu xK
 |some ad=>exact Src.ofSlice w hu ad ns.length xK news n1 (n3 ad rfl) n2
theorem ER (es:List (List V)) (lo:Nat):jU es lo []=es:=by simp [jU]
theorem Nq{a:V}{ua:Value} (hI:Inv σ s w) (ha:aC σ s w a ua) (hx:aC σ s w x ux)
  (h:Au P t a x s K):∃v r s' w',(Builtin.copy_ #[t,t] ty #[ua,ux]).run P w=.ok r w'/\aG σ s w σ s' w'/\Inv σ s' w'/\aC σ s' w' v r/\K v s':=by
 unfold Au at h;split at h
 ·exact h.elim
 rename_i e i hti;obtain⟨hu,hi⟩:=lE hti;split at h
 ·exact h.elim
 rename_i ns yH;obtain⟨hz,h⟩:=h;obtain⟨ti,d,z,k1,k2,k3,k4,k5,k6,k7,k8,k9⟩:=iN hi;obtain⟨news,xi,n4⟩:=XG hu hI hx yH hz;split at h
 case h_2=>exact h.elim
 rename_i id g lo n;obtain⟨o,ho,hg,⟨hl,fY,hfit,hle⟩,hK⟩:=eQ h;have Uw:Nat.min ns.length n=ns.length:=Nat.min_eq_left hle;have mW:=xi.cells;cases ha with|so o' jV FO RI hk=>?_
 rw[ho]at jV;cases jV;rcases hk hg with ⟨hs,⟨ad,rfl⟩,rfl,rfl⟩|⟨b,base,cap,E,arr,hs,hh,rfl,tJ,hbd⟩
 ·have hn:ns=[]:=ajB ae;subst hn;have abl:news=[]:=ajB (by simpa using xi.newsLen);subst abl;have gD:s.set id { o with aw:=jU o.aw 0 [] }=s:=by
   rw[ER];apply ajX;intro k;by_cases hk:k=id
   ·subst hk;rw[ajm (List.getElem?_eq_some_iff.1 ho).1,ho]
   ·rw[ajy (Ne.symm hk)]
  rw[gD]at hK;refine⟨_,.int .i64 0,s,w,?_,aG.refl _ _ _,hI,.d (.sc _ rfl),hK⟩;have hlen:=xi.len w;simp only[ai9]at hlen mW;cases ad <;> simp [Builtin.copy_,run_underlying hu,sizeOf,typeInfo,k1,k4,hlen,mW,goInt,storeCells]
 ·obtain⟨w',r1,r2,r3⟩:=Gs hI ho hl (lo:=lo) (ns:=ns) ae (by rw[fY];exact hz) hs ⟨arr,E,hh⟩ (us:=news) (by rw[fY];exact xi.newsLen) (by rw[fY];exact n4) xi.one P;refine⟨_,.int .i64 ns.length,_,w',?_,r2,r3,.d (.sc _ rfl),hK⟩;have hlen:=xi.len w;simp [Builtin.copy_,run_underlying hu,sizeOf,typeInfo,k1,k4,hlen,Uw,mW,goInt,r1]
def qk (P:Program) (t:TypeId) (x:V) (s:List Obj) (K:V->List Obj->Prop):Prop :=
 match jk P t with
 |none=>False
 |some (_,i)=>match x with
  |.so id g lo n=>wo s id g λo=>(o.live=true/\o.sz=i.sz/\lo+n<=o.aw.length)/\K (.tu []) (s.set id { o with aw:=jU o.aw lo (List.replicate n (i.zero.map cv)) })
  |.d (.sl [])=>K (.tu []) s
  |_=>False
theorem pU{o:Obj} (ho:s[id]?=some o):s.set id o=s:=by
 apply ajX;intro k;by_cases hk:k=id
 ·subst hk;rw[ajm (List.getElem?_eq_some_iff.1 ho).1,ho]
 ·rw[ajy (Ne.symm hk)]
theorem LJ (hI:Inv σ s w) (hx:aC σ s w x ux)
  (h:qk P t x s K):∃v r s' w',(Builtin.clear_ #[t] ty #[ux]).run P w=.ok r w'/\aG σ s w σ s' w'/\Inv σ s' w'/\aC σ s' w' v r/\K v s':=by
 unfold qk at h;split at h
 ·exact h.elim
 rename_i e i hti;obtain⟨hu,hi⟩:=lE hti;split at h
 case h_3=>exact h.elim
 case h_2 =>
  refine⟨_,.tuple #[],s,w,?_,aG.refl _ _ _,hI,.tu rfl (λi x hx=>by simp at hx),h⟩;cases hx with|d hd=>?_
  cases hd with
  |nil=>simp [Builtin.clear_,run_underlying hu]
  |sl _ ad _ sz f h1 h2 h3 h4 h5=>simp [Builtin.clear_,run_underlying hu]
 rename_i id g lo n;obtain⟨o,ho,hg,⟨hl,fY,hfit⟩,hK⟩:=eQ h;obtain⟨ti,d,z,k1,k2,k3,k4,k5,k6,k7,k8,k9⟩:=iN hi;have hz:∀w,(zeroValue e).run P w=.ok z w:=λw=>by simp [zeroValue,typeInfo,k1,k3]
 have tup:∀(s':List Obj) (w':World),aC σ s' w' (.tu []) (.tuple #[]):=λs' w'=>.tu rfl (λi x hx=>by simp at hx);have zero:n=0->∃v r s' w',(Result.ok (Value.tuple #[]) w:Result Value)=.ok r w'/\aG σ s w σ s' w'/\Inv σ s' w'/\aC σ s' w' v r/\K v s':=by rintro rfl;refine⟨_,_,s,w,rfl,aG.refl _ _ _,hI,tup _ _,?_⟩;rw[List.replicate_zero,ER,pU ho]at hK;exact hK
 cases hx with|so o' jV FO RI hk=>?_
 rw[ho]at jV;cases jV;rcases hk hg with ⟨hs,⟨ad,rfl⟩,rfl,rfl⟩|⟨b,base,cap,E,arr,hs,hh,rfl,tJ,hbd⟩
 ·obtain⟨v,r,s',w',e1,e2⟩:=zero rfl;refine⟨v,r,s',w',?_,e2⟩;rw[<- e1];cases ad <;> simp [Builtin.clear_,run_underlying hu]
 ·rcases Nat.eq_zero_or_pos n with h0|h0
  ·obtain⟨v,r,s',w',e1,e2⟩:=zero h0;refine⟨v,r,s',w',?_,e2⟩;rw[<- e1];subst h0;simp [Builtin.clear_,run_underlying hu]
  ·have YE:z.cells.size=i.sz:=by rw[<- akt,k6,k7]
   have hzc:Builtin.zeroCells z.cells n=(Array.range (n*i.sz)).map (z.cells[· % z.cells.size]!):=by unfold Builtin.zeroCells;rw[<- YE]
   have adV:=Da hi σ s w n z k6;obtain⟨r1,r2,r3⟩:=adV;obtain⟨w',q1,q2,q3⟩:=Gs hI ho hl (lo:=lo) (ns:=List.replicate n (i.zero.map cv)) (by rw[aj6];omega) (λe he=>by rw[List.eq_of_mem_replicate he,aiW,fY,k7]) hs ⟨arr,E,hh⟩ (us:=(Builtin.zeroCells z.cells n).toList)
    (by rw[aj6,fY,akt,size_zeroCells,YE])
    (λa j y hy=>by
     rw[fY];obtain⟨c,c1,c2,c3⟩:=r3 a j y hy;refine⟨c,?_,c2,c3⟩;rw[ajN,hzc];exact c1)
    (λu hu=>by
     rw[hzc,Array.toList_map,List.mem_map]at hu;obtain⟨k,hk,rfl⟩:=hu;have tz:k<n*i.sz:=by simpa using hk
     have hp:0<z.cells.size:=by
      rw[YE];rcases Nat.eq_zero_or_pos i.sz with h'|h'
      ·rw[h']at tz;simp at tz
      ·exact h'
     have hm:=Nat.mod_lt k hp;have ir:z.cells[k % z.cells.size]! = z.cells[k % z.cells.size]:=by simp [hm]
     rw[ir];exact k8 _ (by rw[<- k6];exact Array.getElem_mem_toList hm)) P
   refine⟨_,_,_,w',?_,q2,q3,tup _ _,hK⟩;obtain⟨m,rfl⟩:∃m,n=m+1:=⟨n-1,ae⟩
   simp [Builtin.clear_,run_underlying hu,hz,q1]
end Go.VL
