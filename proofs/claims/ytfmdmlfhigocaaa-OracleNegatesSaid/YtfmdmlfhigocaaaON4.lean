/- A part of the proof (Vhm Vgc). -/
import Derived.ChangeMaps5
import Derived.MapKept
import Derived.Test.YtfmdmlfhigocaaaON3
set_option linter.unusedSimpArgs false
set_option linter.unusedVariables false
set_option maxRecDepth 100000
set_option maxHeartbeats 80000000
namespace Go.VL
open Go.ChangeMaps (setBlock)
variable{k:IntKind}{v:Value}{rest:List (List V)}{a:Value}{P:Program}{t:TypeId}{σ:Gh}{w:World}{id:Nat}{s:List Obj}{K:V->List Obj->Prop}{m:V}{uk:Value}{um:Value}{ux:Value}{x:V}{ns:List (List V)}{ty:TypeId}
def J1 (k:IntKind):List (List V)->Option (List (Int×Bool))
 |[]=>some []
 |[.d (.sc (.int k' n)),.d (.sc (.bool b))]::rest=>if k'=k then (J1 k rest).map ((n,b)::·) else none
 |_::_=>none
theorem Pp{l:List (Int×Bool)} (h:J1 k ([V.d (.sc a),V.d (.sc v)]::rest)=some l):∃n b l',a=.int k n/\v=.bool b/\l=(n,b)::l'/\J1 k rest=some l':=by
 unfold J1 at h;split at h
 ·rename_i he;cases he
 ·rename_i k' n b Xf he;simp only[List.cons.injEq,V.d.injEq,D.sc.injEq,and_true]at he;obtain⟨⟨rfl,rfl⟩,rfl⟩:=he;split at h
  ·rename_i hk;subst hk;obtain⟨l',h1,h2⟩:=Option.map_eq_some_iff.1 h;exact⟨n,b,l',rfl,rfl,h2.symm,h1⟩
  ·cases h
 ·cases h
def Ga (l:List (Int×Bool)) (n:Int):Option Bool:=(l.find? λp=>n == p.1).map (·.2)
def HU (P:Program) (t:TypeId):Option IntKind :=
 match P.underlying t with
 |some (.map key elem)=>match P.underlying key,(P.info? elem).bind (·.zero) with
  |some (.int k),some (.bool false)=>some k
  |_,_=>none
 |_=>none
theorem BL (h:HU P t=some k):∃key elem ti,P.underlying t=some (.map key elem)/\P.underlying key=some (.int k)/\P.info? elem=some ti/\ti.zero=some (.bool false):=by
 unfold HU at h;split at h
 ·rename_i key elem hu;split at h
  ·rename_i k' h1 h2;cases h;obtain⟨ti,h3,h4⟩:=Option.bind_eq_some_iff.1 h2;exact⟨key,elem,ti,hu,h1,h3,h4⟩
  ·cases h
 ·cases h
theorem ta {k k0:IntKind}{n:Int}:∀(es:List MapEntry) (l:List (Int×Bool)) (i:Nat),J1 k (es.map λe=>[V.d (.sc e.key),V.d (.sc e.val)])=some l ->
  (Ga l n=none/\Instr.findNow (.int k0) (.int k n) es i=some none)\/∃b j,Ga l n=some b/\Instr.findNow (.int k0) (.int k n) es i=some (some (j,.bool b))
 |[],l,i,h=>by simp only[afU,J1,afY]at h;subst h;exact .inl ⟨rfl,rfl⟩
 |e::es,l,i,h=>by
  rw[afR]at h;obtain⟨m,b,l',h1,h2,rfl,h4⟩:=Pp h;unfold Instr.findNow;rw[h1];simp only[Instr.sameNow,if_true];by_cases Pf:n=m
  ·subst Pf;refine .inr ⟨b,i,by simp [Ga],?_⟩;simp [h2]
  ·have hb:(n == m)=false:=by simpa using Pf
   rw[hb];simp only;have hg:Ga ((m,b)::l') n=Ga l' n:=by simp [Ga,hb]
   rw[hg];exact ta es l' (i+1) h4
theorem run_checkKey (hu:P.underlying t=some (.int k)) (b:Bool) (n:Int) (w:World):(Instr.checkKey b 10000 t (.int k n)).run P w=.ok () w:=by
 have h:∀d:Nat,(Instr.checkKey b (d+1) t (.int k n)).run P w=.ok () w:=λd=>by simp [Instr.checkKey,run_underlying hu]
 exact h 9999
theorem AP (hI:Inv σ s w) {g:Nat}{u:Value}{o:Obj} (hm:aA σ s w (.mp id g) u) (ho:s[id]?=some o) (hg:o.g=g) :
  ∃b es c,σ id=some (b,0)/\w.heap[b]?=some (.map es c)/\o.aw=eR es/\u=.map (some b):=by
 cases hm with
 |mp o' iY Dr hu hk =>
  rw[ho]at iY;cases iY;obtain⟨b,h1,hM,h2⟩:=hk hg;rcases hI.content _ o ho with (⟨h3,_⟩|⟨b',es,c,h3,h4,h5⟩)|⟨b',base,arr,E,h3,h4,_⟩
  ·rw[h1]at h3;cases h3
  ·rw[h1]at h3;cases h3;exact⟨b,es,c,h1,h4,h5,h2⟩
  ·rw[h1]at h3;cases h3;exact(Fs.notM ⟨arr,E,h4⟩ hM).elim
def zP (k:IntKind):List (List V)->Option (List (Int×Fn))
 |[]=>some []
 |[.d (.sc (.int k' n)),.d (.sc (.func fn ⟨[]⟩ ⟨[]⟩))]::rest=>if k'=k then (zP k rest).map ((n,fn)::·) else none
 |_::_=>none
theorem Na{l:List (Int×Fn)} (h:zP k ([V.d (.sc a),V.d (.sc v)]::rest)=some l):∃n fn l',a=.int k n/\v=.func fn #[] #[]/\l=(n,fn)::l'/\zP k rest=some l':=by
 unfold zP at h;split at h
 ·rename_i he;cases he
 ·rename_i k' n b Xf he;simp only[List.cons.injEq,V.d.injEq,D.sc.injEq,and_true]at he;obtain⟨⟨rfl,rfl⟩,rfl⟩:=he;split at h
  ·rename_i hk;subst hk;obtain⟨l',h1,h2⟩:=Option.map_eq_some_iff.1 h;exact⟨n,b,l',rfl,rfl,h2.symm,h1⟩
  ·cases h
 ·cases h
def zA (l:List (Int×Fn)) (n:Int):Option Fn:=(l.find? λp=>n == p.1).map (·.2)
def BI (P:Program) (t:TypeId):Option IntKind :=
 match P.underlying t with
 |some (.map key elem)=>match P.underlying key,(P.info? elem).bind (·.zero) with
  |some (.int k),some .nilFunc=>some k
  |_,_=>none
 |_=>none
theorem zB (h:BI P t=some k):∃key elem,P.underlying t=some (.map key elem)/\P.underlying key=some (.int k):=by
 unfold BI at h;split at h
 ·rename_i key elem hu;split at h
  ·rename_i k' h1 h2;cases h;exact⟨key,elem,hu,h1⟩
  ·cases h
 ·cases h
theorem qI {k k0:IntKind}{n:Int}:∀(es:List MapEntry) (l:List (Int×Fn)) (i:Nat),zP k (es.map λe=>[V.d (.sc e.key),V.d (.sc e.val)])=some l ->
  (zA l n=none/\Instr.findNow (.int k0) (.int k n) es i=some none)\/∃b j,zA l n=some b/\Instr.findNow (.int k0) (.int k n) es i=some (some (j,.func b #[] #[]))
 |[],l,i,h=>by simp only[afU,zP,afY]at h;subst h;exact .inl ⟨rfl,rfl⟩
 |e::es,l,i,h=>by
  rw[afR]at h;obtain⟨m,b,l',h1,h2,rfl,h4⟩:=Na h;unfold Instr.findNow;rw[h1];simp only[Instr.sameNow,if_true];by_cases Pf:n=m
  ·subst Pf;refine .inr ⟨b,i,by simp [zA],?_⟩;simp [h2]
  ·have hb:(n == m)=false:=by simpa using Pf
   rw[hb];simp only;have hg:zA ((m,b)::l') n=zA l' n:=by simp [zA,hb]
   rw[hg];exact qI es l' (i+1) h4
def pn (P:Program) (t:TypeId) (s:List Obj) (m k:V) (K:V->Prop):Prop :=
 match BI P t with
 |none=>False
 |some ik=>match m with
  |.mp id g=>match k with
   |.d (.sc (.int k' n))=>uo s id g λo=>k'=ik/\match (zP ik o.aw).bind λl=>zA l n with
    |none=>False
    |some fn=>K (.cl fn [] [])
   |_=>False
  |_=>False
theorem JT{k:V}{K:V->Prop} (hI:Inv σ s w) (hm:aA σ s w m um) (hk:aA σ s w k uk) (h:pn P t s m k K) :
  ∃v c,(Instr.lookup t um uk false).run P w=.ok c w/\aA σ s w v c/\K v:=by
 unfold pn at h;split at h
 ·exact h.elim
 rename_i ik P6;obtain⟨key,elem,t1,t2⟩:=zB P6;split at h
 case h_2=>exact h.elim
 rename_i id g;split at h
 case h_2=>exact h.elim
 rename_i k' n;obtain⟨o,ho,hg,rfl,h⟩:=dZ h;split at h
 ·exact h.elim
 rename_i fn V0;obtain⟨l,hl,Yn⟩:=Option.bind_eq_some_iff.1 V0;obtain⟨b,es,c,h1,h2,h3,rfl⟩:=AP hI hm ho hg;cases hk with|d hk=>?_
 cases hk with|sc _ _=>?_
 rw[h3]at hl;refine⟨_,.func fn #[] #[],?_,.cl rfl (λi x hx=>by simp at hx) rfl (λi x hx=>by simp at hx),h⟩;rcases qI (k0:=k') (n:=n) es.toList l 0 hl with ⟨g1,g2⟩|⟨b',j,g1,g2⟩
 ·rw[Yn]at g1;cases g1
 ·rw[Yn]at g1;cases g1;simp [Instr.lookup,run_underlying t1,run_underlying t2,MapKept.run_getObj_map h2,run_checkKey t2,Instr.findKey,g2]
def Bz (P:Program) (t:TypeId) (s:List Obj) (m k x:V) (K:List Obj->Prop):Prop :=
 match BI P t with
 |none=>False
 |some ik=>match m with
  |.mp id g=>match k with
   |.d (.sc (.int k' n))=>match x with
    |.cl fn [] []=>uo s id g λo=>(o.live=true/\k'=ik)/\match zP ik o.aw with
     |none=>False
     |some l=>zA l n=none/\K (s.set id { o with aw:=o.aw++[[.d (.sc (.int k' n)),.d (.sc (.func fn ⟨[]⟩ ⟨[]⟩))]] })
    |_=>False
   |_=>False
  |_=>False
theorem KH{k:V}{K:List Obj->Prop} (hI:Inv σ s w) (hm:aA σ s w m um) (hk:aA σ s w k uk) (hx:aA σ s w x ux) (h:Bz P t s m k x K) :
  ∃s' w',(Instr.mapUpdate t um uk ux).run P w=.ok () w'/\aF σ s w σ s' w'/\Inv σ s' w'/\K s':=by
 unfold Bz at h;split at h
 ·exact h.elim
 rename_i ik P6;obtain⟨key,elem,t1,t2⟩:=zB P6;split at h
 case h_2=>exact h.elim
 rename_i id g;split at h
 case h_2=>exact h.elim
 rename_i k' n;split at h
 case h_2=>exact h.elim
 rename_i fn;obtain⟨o,ho,hg,⟨sT,rfl⟩,h⟩:=dZ h;split at h
 ·exact h.elim
 rename_i l hl;obtain⟨hn,h⟩:=h;obtain⟨b,es,c,h1,h2,h3,rfl⟩:=AP hI hm ho hg;cases hk with|d hk=>?_
 cases hk with|sc _ _=>?_
 cases hx with|@cl _ _ _ f' c' q1 _ q2 _=>?_
 obtain rfl:f'=#[]:=Array.eq_empty_of_size_eq_zero (by simpa using q1);obtain rfl:c'=#[]:=Array.eq_empty_of_size_eq_zero (by simpa using q2);rw[h3]at hl;have V0:Instr.findNow (.int k') (.int k' n) es.toList 0=some none:=by
  rcases qI (k0:=k') (n:=n) es.toList l 0 hl with ⟨g1,g2⟩|⟨b',j,g1,g2⟩
  ·exact g2
  ·rw[hn]at g1;cases g1
 have fx:(setObj b (.map (es.push { key:=.int k' n,val:=.func fn #[] #[],born:=c }) (c+1))).run P w=.ok () (setBlock w b (.map (es.push { key:=.int k' n,val:=.func fn #[] #[],born:=c }) (c+1))):=by simp [setObj,Sem.run,h2,setBlock]
 have eu:(Instr.mapUpdate t (.map (some b)) (.int k' n) (.func fn #[] #[])).run P w=.ok () (setBlock w b (.map (es.push { key:=.int k' n,val:=.func fn #[] #[],born:=c }) (c+1))):=by simp [Instr.mapUpdate,run_underlying t1,run_underlying t2,MapKept.run_getObj_map h2,run_checkKey t2,Instr.findKey,V0,fx]
 have:=ml (p:=σ id) (w':=setBlock w b (.map (es.push { key:=.int k' n,val:=.func fn #[] #[],born:=c }) (c+1))) (o':={ o with aw:=o.aw++[[.d (.sc (.int k' n)),.d (.sc (.func fn ⟨[]⟩ ⟨[]⟩))]] }) hI ho sT rfl rfl rfl (by simp [setBlock])
  (λb1 _ cB=>Go.ChangeMaps.heap_setBlock_other h2 _ (λe=>cB 0 (by rw[h1,e])))
  (λb1 jU arr E he hh=>by
   rw[h1]at he;cases he;rw[h2]at hh;cases hh)
  (λb1 jU he hm=>by
   rw[h1]at he;cases he;exact⟨_,_,Go.ChangeMaps.heap_setBlock_same h2 _⟩)
  (af3 _) (λ_=>⟨rfl,rfl⟩) (λb1 jU he=>.inl ⟨jU,he⟩)
  (λhE=>.inl (.inr ⟨b,_,_,h1,Go.ChangeMaps.heap_setBlock_same h2 _,by simp [h3,eR]⟩))
 rw[ud]at this;exact⟨_,_,eu,this.1,this.2,h⟩
def jh (P:Program) (t:TypeId) (s:List Obj) (m k:V) (K:V->Prop):Prop :=
 match HU P t with
 |none=>pn P t s m k K
 |some ik=>match m with
  |.mp id g=>match k with
   |.d (.sc (.int k' n))=>uo s id g λo=>k'=ik/\match J1 ik o.aw with
    |none=>False
    |some l=>K (.d (.sc (.bool ((Ga l n).getD false))))
   |_=>False
  |_=>False
theorem F3{k:V}{K:V->Prop} (hI:Inv σ s w) (hm:aA σ s w m um) (hk:aA σ s w k uk) (h:jh P t s m k K) :
  ∃v c,(Instr.lookup t um uk false).run P w=.ok c w/\aA σ s w v c/\K v:=by
 unfold jh at h;split at h
 ·exact JT hI hm hk h
 rename_i ik P6;obtain⟨key,elem,ti,t1,t2,t3,t4⟩:=BL P6;split at h
 case h_2=>exact h.elim
 rename_i id g;split at h
 case h_2=>exact h.elim
 rename_i k' n;obtain⟨o,ho,hg,rfl,h⟩:=dZ h;split at h
 ·exact h.elim
 rename_i l hl;obtain⟨b,es,c,h1,h2,h3,rfl⟩:=AP hI hm ho hg;cases hk with|d hk=>?_
 cases hk with|sc _ _=>?_
 rw[h3]at hl;refine⟨_,.bool ((Ga l n).getD false),?_,.d (.sc _ rfl),h⟩;rcases ta (k0:=k') (n:=n) es.toList l 0 hl with ⟨g1,g2⟩|⟨b',j,g1,g2⟩
 ·simp [Instr.lookup,run_underlying t1,run_underlying t2,MapKept.run_getObj_map h2,run_checkKey t2,Instr.findKey,g1,g2,zeroValue,typeInfo,t3,t4]
 ·simp [Instr.lookup,run_underlying t1,run_underlying t2,MapKept.run_getObj_map h2,run_checkKey t2,Instr.findKey,g1,g2]
def vq (P:Program) (t:TypeId) (s:List Obj) (m k x:V) (K:List Obj->Prop):Prop :=
 match HU P t with
 |none=>Bz P t s m k x K
 |some ik=>match m with
  |.mp id g=>match k with
   |.d (.sc (.int k' n))=>match x with
    |.d (.sc (.bool b))=>uo s id g λo=>(o.live=true/\k'=ik)/\match J1 ik o.aw with
     |none=>False
     |some l=>Ga l n=none/\K (s.set id { o with aw:=o.aw++[[.d (.sc (.int k' n)),.d (.sc (.bool b))]] })
    |_=>False
   |_=>False
  |_=>False
theorem Em{k:V}{K:List Obj->Prop} (hI:Inv σ s w) (hm:aA σ s w m um) (hk:aA σ s w k uk) (hx:aA σ s w x ux) (h:vq P t s m k x K) :
  ∃s' w',(Instr.mapUpdate t um uk ux).run P w=.ok () w'/\aF σ s w σ s' w'/\Inv σ s' w'/\K s':=by
 unfold vq at h;split at h
 ·exact KH hI hm hk hx h
 rename_i ik P6;obtain⟨key,elem,ti,t1,t2,t3,t4⟩:=BL P6;split at h
 case h_2=>exact h.elim
 rename_i id g;split at h
 case h_2=>exact h.elim
 rename_i k' n;split at h
 case h_2=>exact h.elim
 rename_i bv;obtain⟨o,ho,hg,⟨sT,rfl⟩,h⟩:=dZ h;split at h
 ·exact h.elim
 rename_i l hl;obtain⟨hn,h⟩:=h;obtain⟨b,es,c,h1,h2,h3,rfl⟩:=AP hI hm ho hg;cases hk with|d hk=>?_
 cases hk with|sc _ _=>?_
 cases hx with|d hx=>?_
 cases hx with|sc _ _=>?_
 rw[h3]at hl;have V0:Instr.findNow (.int k') (.int k' n) es.toList 0=some none:=by
  rcases ta (k0:=k') (n:=n) es.toList l 0 hl with ⟨g1,g2⟩|⟨b',j,g1,g2⟩
  ·exact g2
  ·rw[hn]at g1;cases g1
 have fx:(setObj b (.map (es.push { key:=.int k' n,val:=.bool bv,born:=c }) (c+1))).run P w=.ok () (setBlock w b (.map (es.push { key:=.int k' n,val:=.bool bv,born:=c }) (c+1))):=by simp [setObj,Sem.run,h2,setBlock]
 have eu:(Instr.mapUpdate t (.map (some b)) (.int k' n) (.bool bv)).run P w=.ok () (setBlock w b (.map (es.push { key:=.int k' n,val:=.bool bv,born:=c }) (c+1))):=by simp [Instr.mapUpdate,run_underlying t1,run_underlying t2,MapKept.run_getObj_map h2,run_checkKey t2,Instr.findKey,V0,fx]
 have:=ml (p:=σ id) (w':=setBlock w b (.map (es.push { key:=.int k' n,val:=.bool bv,born:=c }) (c+1))) (o':={ o with aw:=o.aw++[[.d (.sc (.int k' n)),.d (.sc (.bool bv))]] }) hI ho sT rfl rfl rfl (by simp [setBlock])
  (λb1 _ cB=>Go.ChangeMaps.heap_setBlock_other h2 _ (λe=>cB 0 (by rw[h1,e])))
  (λb1 jU arr E he hh=>by
   rw[h1]at he;cases he;rw[h2]at hh;cases hh)
  (λb1 jU he hm=>by
   rw[h1]at he;cases he;exact⟨_,_,Go.ChangeMaps.heap_setBlock_same h2 _⟩)
  (af3 _) (λ_=>⟨rfl,rfl⟩) (λb1 jU he=>.inl ⟨jU,he⟩)
  (λhE=>.inl (.inr ⟨b,_,_,h1,Go.ChangeMaps.heap_setBlock_same h2 _,by simp [h3,eR]⟩))
 rw[ud]at this;exact⟨_,_,eu,this.1,this.2,h⟩
def nD (P:Program) (t:TypeId) (r:Option Operand) (s:List Obj) (K:V->List Obj->Prop):Prop :=
 r=none/\K (.mp s.length 0) (s++[⟨0,true,2,[]⟩])
theorem Df{r:Option Operand} (hI:Inv σ s w) (h:nD P t r s K) :
  ∃v c σ' s' w',(Instr.makeMap t none).run P w=.ok c w'/\aF σ s w σ' s' w'/\Inv σ' s' w'/\aA σ' s' w' v c/\K v s':=by
 have:=mK (p:=some (w.heap.size,0)) (o':=⟨0,true,2,[]⟩) (w':=w.alloc (.map #[] 0)) hI rfl rfl rfl (by simp) (λb hb=>Go.RowKit.Below.heap_alloc w _ b hb) (λb base h=>by cases h;exact af3 _)
  (λhE=>.inl (.inr ⟨w.heap.size,#[],0,rfl,heap_alloc_new w _,rfl⟩))
 refine⟨_,.map (some w.heap.size),_,_,_,?_,this.1,this.2,.mp ⟨0,true,2,[]⟩ (by simp) (af3 _) rfl (λ_=>⟨w.heap.size,bQ _ _ _,⟨_,_,heap_alloc_new w _⟩,rfl⟩),h.2⟩;simp [Instr.makeMap]
def iX (es:List (List V)) (lo:Nat) (ns:List (List V)):List (List V):=es.take lo++ns++es.drop (lo+ns.length)
theorem AA (es:List (List V)) (lo:Nat) (ns:List (List V)) (h:lo+ns.length<=es.length) (j:Nat) :
  (iX es lo ns)[j]?=if lo<=j/\j<lo+ns.length then ns[j-lo]? else es[j]?:=by
 have hl:(es.take lo).length=lo:=by simp;omega
 unfold iX;by_cases h1:j<lo
 ·rw[ap (by omega),agu,af2 (by omega),agt,be h1]
 ·by_cases h2:j<lo+ns.length
  ·rw[be (by omega),agu,af6 (by omega),hl,af2 (by omega)]
  ·rw[ap (by omega),af6 (by simp;omega),agR];congr 1;simp;omega
theorem Du (es:List (List V)) (lo:Nat) (ns:List (List V)) (h:lo+ns.length<=es.length):(iX es lo ns).length=es.length:=by simp [iX];omega
theorem DT (hI:Inv σ s w){o:Obj} (ho:s[id]?=some o) (hl:o.live=true) {lo:Nat} (hfit:lo+ns.length<=o.aw.length) (hz:∀e∈ns,e.length=o.sz)
  {b base:Nat} (hs:σ id=some (b,base)) (hC:Fs w b) {us:List Value} (Yv:us.length=ns.length*o.sz)
  (hrep:∀(i j:Nat) (y:V),(ns[i]?.bind (·[j]?))=some y->∃c,us[i*o.sz+j]?=some c/\c.oneCell'=true/\aA σ s w y c) (Nn:∀u∈us,u.oneCell'=true) (P:Program) :
  ∃w',(storeCells ⟨b,base+lo*o.sz,none⟩ us).run P w=.ok () w'/\aF σ s w σ (s.set id { o with aw:=iX o.aw lo ns }) w' /\
   Inv σ (s.set id { o with aw:=iX o.aw lo ns }) w':=by
 rcases hI.content _ o ho with h1|⟨b',bI,arr,E,h1,h2,h3,h4,h5⟩
 ·exact(h1.Ax hs hC).elim
 rw[hs]at h1;cases h1;have aaA:lo*o.sz+ns.length*o.sz<=o.aw.length*o.sz:=by rw[<- agL];exact agw _ hfit
 have eu:=run_storeCells_at P b (base+lo*o.sz) E us 0 arr w h2 (by rw[Yv];omega) Nn;simp only[ag0]at eu;generalize po:(arr.toList.take (base+lo*o.sz)++us++arr.toList.drop (base+lo*o.sz+us.length)).toArray=cf at eu;have jm:cf.size=arr.size:=by rw[<- po];simp;omega
 have ep:∀p,cf[p]?=if base+lo*o.sz<=p/\p<base+lo*o.sz+us.length then us[p-(base+lo*o.sz)]? else arr[p]?:=by
  intro p;have hl:(arr.toList.take (base+lo*o.sz)).length=base+lo*o.sz:=by simp;omega
  rw[<- po,List.getElem?_toArray];by_cases g1:p<base+lo*o.sz
  ·rw[ap (by omega),agu,af2 (by omega),agt,be g1,agI]
  ·by_cases g2:p<base+lo*o.sz+us.length
   ·rw[be (by omega),agu,af6 (by omega),hl,af2 (by omega)]
   ·rw[ap (by omega),af6 (by simp;omega),agR,agI];congr 1;simp;omega
 refine⟨_,eu,?_⟩;have:=ml (p:=σ id) (w':=w.setRow b cf) (o':={ o with aw:=iX o.aw lo ns }) hI ho hl rfl rfl rfl (by simp)
  (λb1 _ cB=>setRow_other w b b1 cf (λe=>cB base (by rw[hs,e])))
  (λb1 jU UK E1 he hh=>by
   rw[hs]at he;cases he;rw[h2]at hh;cases hh;exact⟨cf,setRow_heap w b arr cf E (0,0) h2,jm⟩)
  (λb1 jU he hm=>by
   rw[hs]at he;cases he;exact(hC.notM hm).elim)
  (af3 _) (λ_=>⟨rfl,rfl⟩) (λb1 jU he=>.inl ⟨jU,he⟩)
  (λhE=>.inr ⟨b,base,cf,E,hs,setRow_heap w b arr cf E (0,0) h2,(by
   intro e he;simp only at he;unfold iX at he;rcases List.mem_append.1 he with he|he
   ·rcases List.mem_append.1 he with he|he
    ·exact h3 e (agJ he)
    ·exact hz e he
   ·exact h3 e (List.mem_of_mem_drop he)),(by simp only[Du _ _ _ hfit];omega),(by
   intro i j x hx;simp only at hx ⊢;rw[ud]at hE ⊢;rw[AA _ _ _ hfit]at hx;split at hx
   ·rename_i zH;obtain⟨c,k1,k2,k3⟩:=hrep _ j x hx;refine⟨c,?_,k2,k3.aX hE⟩;have az:=(List.getElem?_eq_some_iff.1 k1).1;have hmul:i*o.sz=lo*o.sz+(i-lo)*o.sz:=by rw[<- agL];congr 1;omega
    rw[ep,be (by omega),<- k1];congr 1;omega
   ·rename_i zH;obtain⟨c,k1,k2,k3⟩:=h5 i j x hx;refine⟨c,?_,k2,k3.aX hE⟩;rw[ep,ap ?_]
    ·exact k1
    ·have PD:j<o.sz:=by
      cases he:o.aw[i]? with
      |none=>rw[he]at hx;cases hx
      |some e =>
       rw[he]at hx;have:=(List.getElem?_eq_some_iff.1 hx).1;rw[h3 e (afW he)]at this;exact this
     rw[Yv];rcases agi i lo with az|fI
     ·have:=agw o.sz (show i+1<=lo from az);rw[agL,Nat.one_mul]at this;omega
     ·have:=agw o.sz (show lo+ns.length<=i by omega);rw[agL]at this;omega)⟩)
 rw[ud]at this;exact this
def yx (P:Program) (t:TypeId) (a x:V) (s:List Obj) (K:V->List Obj->Prop):Prop :=
 match iN P t with
 |none=>False
 |some (_,i)=>match iy s x with
  |none=>False
  |some ns=>(∀e∈ns,e.length=i.sz)/\match a with
   |.so id g lo n=>uo s id g λo=>(o.live=true/\o.sz=i.sz/\lo+n<=o.aw.length/\ns.length<=n)/\K (.d (.sc (.int .i64 ns.length))) (s.set id { o with aw:=iX o.aw lo ns })
   |_=>False
theorem UD{e:TypeId}{z:Nat} (hu:P.underlying t=some (.slice e)) (hI:Inv σ s w) (hx:aA σ s w x ux) (wK:iy s x=some ns) (hz:∀e∈ns,e.length=z) :
  ∃news,Src P z t ux ns.length news w/\∀(i j:Nat) (y:V),(ns[i]?.bind (·[j]?))=some y->∃c,news[i*z+j]?=some c/\c.oneCell'=true/\aA σ s w y c:=by
 obtain⟨ax,vE,rfl,CI,Vj,news,n1,n2,n3,n4⟩:=jr hI hx wK hz;refine⟨news,?_,n4⟩;cases ax with
 |none =>
  have:ns=[]:=CI rfl;subst this;have hn:news=[]:=ago (by simpa using n1);subst hn;exact Src.ofNil w hu vE
 |some ad=>exact Src.ofSlice w hu ad ns.length vE news n1 (n3 ad rfl) n2
theorem Cn (es:List (List V)) (lo:Nat):iX es lo []=es:=by simp [iX]
theorem KF{a:V}{ua:Value} (hI:Inv σ s w) (ha:aA σ s w a ua) (hx:aA σ s w x ux)
  (h:yx P t a x s K):∃v r s' w',(Builtin.copy_ #[t,t] ty #[ua,ux]).run P w=.ok r w'/\aF σ s w σ s' w'/\Inv σ s' w'/\aA σ s' w' v r/\K v s':=by
 unfold yx at h;split at h
 ·exact h.elim
 rename_i e i hti;obtain⟨hu,hi⟩:=kz hti;split at h
 ·exact h.elim
 rename_i ns wK;obtain⟨hz,h⟩:=h;obtain⟨ti,d,z,k1,k2,k3,k4,k5,k6,k7,k8,k9⟩:=gL hi;obtain⟨news,vd,n4⟩:=UD hu hI hx wK hz;split at h
 case h_2=>exact h.elim
 rename_i id g lo n;obtain⟨o,ho,hg,⟨hl,fF,hfit,hle⟩,hK⟩:=dZ h;have Rx:Nat.min ns.length n=ns.length:=Nat.min_eq_left hle;have lU:=vd.cells;cases ha with|so o' iY Dr Oy hk=>?_
 rw[ho]at iY;cases iY;rcases hk hg with ⟨hs,⟨ad,rfl⟩,rfl,rfl⟩|⟨b,base,cap,E,arr,hs,hh,rfl,Av,Y7⟩
 ·have hn:ns=[]:=ago (by omega);subst hn;have Yb:news=[]:=ago (by simpa using vd.newsLen);subst Yb;have fx:s.set id { o with aw:=iX o.aw 0 [] }=s:=by
   rw[Cn];apply agT;intro k;by_cases hk:k=id
   ·subst hk;rw[agc (List.getElem?_eq_some_iff.1 ho).1,ho]
   ·rw[agp (Ne.symm hk)]
  rw[fx]at hK;refine⟨_,.int .i64 0,s,w,?_,aF.refl _ _ _,hI,.d (.sc _ rfl),hK⟩;have hlen:=vd.len w;simp only[af0]at hlen lU;cases ad <;> simp [Builtin.copy_,run_underlying hu,sizeOf,typeInfo,k1,k4,hlen,lU,goInt,storeCells]
 ·obtain⟨w',r1,r2,r3⟩:=DT hI ho hl (lo:=lo) (ns:=ns) (by omega) (by rw[fF];exact hz) hs ⟨arr,E,hh⟩ (us:=news) (by rw[fF];exact vd.newsLen) (by rw[fF];exact n4) vd.one P;refine⟨_,.int .i64 ns.length,_,w',?_,r2,r3,.d (.sc _ rfl),hK⟩;have hlen:=vd.len w;simp [Builtin.copy_,run_underlying hu,sizeOf,typeInfo,k1,k4,hlen,Rx,lU,goInt,r1]
def oM (P:Program) (t:TypeId) (x:V) (s:List Obj) (K:V->List Obj->Prop):Prop :=
 match iN P t with
 |none=>False
 |some (_,i)=>match x with
  |.so id g lo n=>uo s id g λo=>(o.live=true/\o.sz=i.sz/\lo+n<=o.aw.length)/\K (.tu []) (s.set id { o with aw:=iX o.aw lo (List.replicate n (i.zero.map cv)) })
  |.d (.sl [])=>K (.tu []) s
  |_=>False
theorem ox{o:Obj} (ho:s[id]?=some o):s.set id o=s:=by
 apply agT;intro k;by_cases hk:k=id
 ·subst hk;rw[agc (List.getElem?_eq_some_iff.1 ho).1,ho]
 ·rw[agp (Ne.symm hk)]
theorem I3 (hI:Inv σ s w) (hx:aA σ s w x ux)
  (h:oM P t x s K):∃v r s' w',(Builtin.clear_ #[t] ty #[ux]).run P w=.ok r w'/\aF σ s w σ s' w'/\Inv σ s' w'/\aA σ s' w' v r/\K v s':=by
 unfold oM at h;split at h
 ·exact h.elim
 rename_i e i hti;obtain⟨hu,hi⟩:=kz hti;split at h
 case h_3=>exact h.elim
 case h_2 =>
  refine⟨_,.tuple #[],s,w,?_,aF.refl _ _ _,hI,.tu rfl (λi x hx=>by simp at hx),h⟩;cases hx with|d hd=>?_
  cases hd with
  |nil=>simp [Builtin.clear_,run_underlying hu]
  |sl _ ad _ sz f h1 h2 h3 h4 h5=>simp [Builtin.clear_,run_underlying hu]
 rename_i id g lo n;obtain⟨o,ho,hg,⟨hl,fF,hfit⟩,hK⟩:=dZ h;obtain⟨ti,d,z,k1,k2,k3,k4,k5,k6,k7,k8,k9⟩:=gL hi;have hz:∀w,(zeroValue e).run P w=.ok z w:=λw=>by simp [zeroValue,typeInfo,k1,k3]
 have tup:∀(s':List Obj) (w':World),aA σ s' w' (.tu []) (.tuple #[]):=λs' w'=>.tu rfl (λi x hx=>by simp at hx);have zero:n=0->∃v r s' w',(Result.ok (Value.tuple #[]) w:Result Value)=.ok r w'/\aF σ s w σ s' w'/\Inv σ s' w'/\aA σ s' w' v r/\K v s':=by rintro rfl;refine⟨_,_,s,w,rfl,aF.refl _ _ _,hI,tup _ _,?_⟩;rw[List.replicate_zero,Cn,ox ho]at hK;exact hK
 cases hx with|so o' iY Dr Oy hk=>?_
 rw[ho]at iY;cases iY;rcases hk hg with ⟨hs,⟨ad,rfl⟩,rfl,rfl⟩|⟨b,base,cap,E,arr,hs,hh,rfl,Av,Y7⟩
 ·obtain⟨v,r,s',w',e1,e2⟩:=zero rfl;refine⟨v,r,s',w',?_,e2⟩;rw[<- e1];cases ad <;> simp [Builtin.clear_,run_underlying hu]
 ·rcases Nat.eq_zero_or_pos n with h0|h0
  ·obtain⟨v,r,s',w',e1,e2⟩:=zero h0;refine⟨v,r,s',w',?_,e2⟩;rw[<- e1];subst h0;simp [Builtin.clear_,run_underlying hu]
  ·have Vz:z.cells.size=i.sz:=by rw[<- ahj,k6,k7]
   have Zf:Builtin.zeroCells z.cells n=(Array.range (n*i.sz)).map (z.cells[· % z.cells.size]!):=by unfold Builtin.zeroCells;rw[<- Vz]
   have aaI:=AV hi σ s w n z k6;obtain⟨r1,r2,r3⟩:=aaI;obtain⟨w',q1,q2,q3⟩:=DT hI ho hl (lo:=lo) (ns:=List.replicate n (i.zero.map cv)) (by rw[ahe];omega) (λe he=>by rw[List.eq_of_mem_replicate he,afN,fF,k7]) hs ⟨arr,E,hh⟩ (us:=(Builtin.zeroCells z.cells n).toList)
    (by rw[ahe,fF,ahj,size_zeroCells,Vz])
    (λa j y hy=>by
     rw[fF];obtain⟨c,c1,c2,c3⟩:=r3 a j y hy;refine⟨c,?_,c2,c3⟩;rw[agI,Zf];exact c1)
    (λu hu=>by
     rw[Zf,Array.toList_map,List.mem_map]at hu;obtain⟨k,hk,rfl⟩:=hu;have wB:k<n*i.sz:=by simpa using hk
     have hp:0<z.cells.size:=by
      rw[Vz];rcases Nat.eq_zero_or_pos i.sz with h'|h'
      ·rw[h']at wB;simp at wB
      ·exact h'
     have hm:=Nat.mod_lt k hp;have ep:z.cells[k % z.cells.size]! = z.cells[k % z.cells.size]:=by simp [hm]
     rw[ep];exact k8 _ (by rw[<- k6];exact Array.getElem_mem_toList hm)) P
   refine⟨_,_,_,w',?_,q2,q3,tup _ _,hK⟩;obtain⟨m,rfl⟩:∃m,n=m+1:=⟨n-1,by omega⟩
   simp [Builtin.clear_,run_underlying hu,hz,q1]
end Go.VL
