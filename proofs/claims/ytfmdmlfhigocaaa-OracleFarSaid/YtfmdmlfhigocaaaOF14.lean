/- A part of the proof (Vz Vza Vzb Vzc Vzd Vze). -/
import Derived.Test.YtfmdmlfhigocaaaOF13
set_option linter.unusedSimpArgs false
set_option linter.unusedVariables false
set_option maxRecDepth 100000
set_option maxHeartbeats 80000000
namespace Go.VL
theorem dk {P:Program}{f:FuncId} (ρ:List Nat) {cargs args:List V}{s exts wq:List Obj}{r r':V}{K:V->List Obj->Prop} (h:aq P f cargs exts fun v s'=>v=r/\s'=wq) (uA:ρ.Nodup) (hl:wq.length=exts.length)
  (hs:ρ.map (fun i=>s[i]?)=exts.map (fun o=>some (aP ρ o))) (ha:args=cargs.map (aJ ρ)) (z8:ah.go exts.length cargs=true) (u4:exts.all (aQ exts.length)=true) (hr:aJ ρ r=r') (hk:K r' (aH s ρ (wq.map (aP ρ)))):aq P f args s K:=by
 have hρ:ρ.length=exts.length:=by simpa using congrArg List.length hs
 refine sJ h ρ hρ uA (fun k o ho=>?_) ha z8 u4 fun v s' hv=>?_
 ·have h1:=congrArg (fun l=>l[k]?) hs
  simp only[List.getElem?_map,ho,Option.map_some]at h1
  have hk:k<ρ.length:=by rw[hρ];exact(List.getElem?_eq_some_iff.1 ho).1
  rw[List.getElem?_eq_getElem hk]at h1
  simp only[Option.map_some,Option.some.injEq]at h1
  simpa [List.getD,List.getElem?_eq_getElem hk]using h1
 ·obtain⟨rfl,rfl⟩:=hv
  exact⟨hl,by rw[hr];exact hk⟩
theorem Fo {P:Program}{f:FuncId}{args:List V}{s s1:List Obj}{r:V}{rd wr:List Nat}{K:V->List Obj->Prop} (h:aq P f args s fun v s'=>v=r/\s'=s1) (MJ:∀i,i<s.length->i∈rd) (T1:s1.length=wr.length)
  (hwr:aH s wr s1=s1) (hk:K r s1):EE P rd wr f args s K:=by
 refine⟨r,s1,T1,fun s' hl hs=>?_,by rw[hwr];exact hk⟩
 have e:s'=s:=by
  apply List.ext_getElem?
  intro i
  rcases Nat.lt_or_ge i s.length with hi|hi
  ·exact hs i (MJ i hi)
  ·rw[List.getElem?_eq_none (by omega),List.getElem?_eq_none hi]
 subst e
 rw[hwr]
 exact h
theorem cu.M4 {O:Nat->Prop}{w:World}{cs ex:List D}{u:Value} (h:cu O w (.el (cs++ex)) u):cu O w (.el cs) u:=by
 generalize hd:D.el (cs++ex)=x at h
 cases h with
 |el QQ a f h1 h2 h3 =>
  cases hd
  exact .el cs a f h1 (fun j x hx=>h2 j x (by rw[List.getElem?_append_left (List.getElem?_eq_some_iff.1 hx).1];exact hx)) (fun j x hx=>h3 j x (by rw[List.getElem?_append_left (List.getElem?_eq_some_iff.1 hx).1];exact hx))
 |_=>cases hd
theorem IU {P:Program}{f:FuncId}{cs ex:List D}{args:List V}{s:List Obj}{K:V->List Obj->Prop} (h:aq P f (.d (.el cs)::args) s K):aq P f (.d (.el (cs++ex))::args) s K:=by
 refine⟨h.1,fun σ w vals hI hl hv=>h.2 σ w vals hI (by simpa using hl) fun i x hx=>?_⟩
 cases i with
 |zero =>
  simp at hx;subst hx
  have:=hv 0 _ rfl
  generalize vals.getD 0 undef=u at this ⊢
  cases this with|d hd=>exact .d hd.M4
 |succ i=>exact hv (i+1) x (by simpa using hx)
theorem yk {σ:Gh}{s:List Obj}{w:World} (hI:Inv σ s w) {k:Nat}{o:Obj}{els':List (List V)} (ho:s[k]?=some o) (hlen:∀e∈els',e.length=o.sz) (FG:els'.length=o.au.length) (Km:∀es,o.au≠eB es)
  (h:∀(i j:Nat) (x':V),(els'[i]?.bind (·[j]?))=some x'->∃x,(o.au[i]?.bind (·[j]?))=some x/\∀u,aw σ s w x u->aw σ s w x' u) :
  aA σ s w σ (s.set k { o with au:=els' }) w/\Inv σ (s.set k { o with au:=els' }) w:=by
 have hk:=(List.getElem?_eq_some_iff.1 ho).1
 have get:∀(id:Nat) (o':Obj),(s.set k { o with au:=els' })[id]?=some o'->∃o1,s[id]?=some o1/\o1.live=o'.live/\o1.g=o'.g/\o1.sz=o'.sz:=by
  intro id o' h'
  rw[List.getElem?_set]at h'
  split at h'
  ·rename_i he
   subst he
   try rw[if_pos hk]at h'
   simp only[Option.some.injEq]at h'
   subst h'
   exact⟨o,ho,rfl,rfl,rfl⟩
  ·exact⟨o',h',rfl,rfl,rfl⟩
 have put:∀(id:Nat) (o1:Obj),s[id]?=some o1->∃o',(s.set k { o with au:=els' })[id]?=some o'/\o'.g=o1.g/\o'.sz=o1.sz/\o'.live=o1.live:=by
  intro id o1 h'
  rw[List.getElem?_set]
  split
  ·rename_i he
   subst he
   rw[ho]at h'
   simp only[Option.some.injEq]at h'
   subst h'
   first|exact⟨_,rfl,rfl,rfl,rfl⟩|exact⟨_,by rw[if_pos hk],rfl,rfl,rfl⟩
  ·exact⟨o1,h',rfl,rfl,rfl⟩
 have hE:aA σ s w σ (s.set k { o with au:=els' }) w:=by
  refine⟨rfl,rfl,rfl,Nat.le_refl _,fun _ _ _=>rfl,fun _ arr _ _ h=>⟨arr,h,rfl⟩,fun _ _ h=>h,?_,?_,rfl,fun _ _ _=>rfl⟩
  ·rintro b (hb|⟨id,o',base,h1,h2,h3⟩)
   ·exact .inl (.inl hb)
   ·obtain⟨o1,k1,k2,_⟩:=get id o' h1
    exact .inl (.inr ⟨id,o1,base,k1,by rw[k2];exact h2,h3⟩)
  ·intro id o1 h1
   obtain⟨o',k1,k2,k3,_⟩:=put id o1 h1
   exact⟨o',k1,by omega,fun _=>⟨k3,rfl⟩⟩
 refine⟨hE,⟨?_,?_,hI.low,?_⟩⟩
 ·intro id o' h1
  by_cases he:id=k
  ·subst he
   rw[List.getElem?_set_self hk]at h1
   simp only[Option.some.injEq]at h1
   subst h1
   rcases hI.content id o ho with (⟨c1,c2⟩|⟨b,es,c,c1,c2,c3⟩)|⟨b,base,arr,E,c1,c2,c3,c4,c5⟩
   ·left;exact .inl ⟨c1,List.eq_nil_of_length_eq_zero (by show els'.length=0;rw[FG,c2];rfl)⟩
   ·exact(Km es c3).elim
   ·right
    refine⟨b,base,arr,E,c1,c2,hlen,by show base+els'.length*o.sz<=arr.size;rw[FG];exact c4,fun i j x' hx=>?_⟩
    obtain⟨x,y1,y2⟩:=h i j x' hx
    obtain⟨u,z1,z2,z3⟩:=c5 i j x y1
    exact⟨u,z1,z2,(y2 u z3).aO hE⟩
  ·rw[List.getElem?_set_ne (Ne.symm he)]at h1
   rcases hI.content id o' h1 with c|⟨b,base,arr,E,c1,c2,c3,c4,c5⟩
   ·exact .inl c
   ·right
    refine⟨b,base,arr,E,c1,c2,c3,c4,fun i j x hx=>?_⟩
    obtain⟨u,z1,z2,z3⟩:=c5 i j x hx
    exact⟨u,z1,z2,z3.aO hE⟩
 ·intro id jm o1 o2 b base bp h1 h2 h3 h4 h5
  obtain⟨p1,q1,q2,_⟩:=get id o1 h1
  obtain⟨p2,r1,_⟩:=get jm o2 h2
  exact hI.inj id jm p1 p2 b base bp q1 r1 (by rw[q2];exact h3) h4 h5
 ·intro id o1 b base h1 h2
  obtain⟨p1,q1,_⟩:=get id o1 h1
  exact hI.apart id p1 b base q1 h2
theorem fM {P:Program}{f:FuncId}{args:List V}{s:List Obj}{o:Obj}{pre post:List V} (k sz:Nat) {K:V->List Obj->Prop} (ho:s[k]?=some o) (fv:o.au=[pre++.fu []::post]) (fo:pre.length+1+post.length=o.sz)
  (h:aq P f args (s.set k { o with au:=[pre++.so s.length 0 0 0::post] }++[⟨0,true,sz,[]⟩]) K):aq P f args s K:=by
 refine⟨h.1,fun σ w vals hI hl hv=>?_⟩
 have hk:=(List.getElem?_eq_some_iff.1 ho).1
 have hp:=l9 (p:=none) (o':=⟨0,true,sz,[]⟩) (w':=w) hI rfl rfl rfl (Nat.le_refl _) (fun _ _=>rfl) (fun _ _ h'=>by cases h') (fun _=>.inl (.inl ⟨rfl,rfl⟩))
 have KM:(s++[(⟨0,true,sz,[]⟩:Obj)])[k]?=some o:=by rw[List.getElem?_append_left hk];exact ho
 have hr:=yk hp.2 (els':=[pre++.so s.length 0 0 0::post]) KM (by intro e he;rw[List.mem_singleton.1 he];simp;omega) (by rw[fv];rfl) (by
  intro es he
  rw[fv]at he
  have hm:(pre++.fu []::post)∈eB es:=by rw[<- he];exact List.mem_singleton.2 rfl
  unfold eB at hm
  obtain⟨x,_,hx⟩:=List.mem_map.1 hm
  have hf:V.fu []∈[V.d (.sc x.key),V.d (.sc x.val)]:=by rw[hx];simp
  simp at hf) (fun i j x' hx=>by
  rw[fv]
  cases i with
  |succ i=>simp at hx
  |zero =>
   simp only[List.getElem?_cons_zero,Option.bind_some]at hx ⊢
   by_cases hj:j=pre.length
   ·subst hj
    rw[List.getElem?_append_right (Nat.le_refl _),Nat.sub_self]at hx ⊢
    simp only[List.getElem?_cons_zero,Option.some.injEq]at hx ⊢
    subst hx
    refine⟨_,rfl,fun u hu=>?_⟩
    cases hu with|fu hx=>?_
    exact .so ⟨0,true,sz,[]⟩ (by simp) (Nat.le_refl _) ⟨_,_,rfl⟩ (fun _=>.inl ⟨bH _ _ _,⟨_,rfl⟩,rfl,rfl⟩)
   ·refine⟨x',?_,fun u hu=>hu⟩
    rcases Nat.lt_or_ge j pre.length with az|ib
    ·rw[List.getElem?_append_left az]at hx ⊢;exact hx
    ·rw[List.getElem?_append_right ib]at hx ⊢
     cases hm:j-pre.length with
     |zero=>omega
     |succ m=>rw[hm]at hx;simpa using hx)
 have eO:(s++[(⟨0,true,sz,[]⟩:Obj)]).set k { o with au:=[pre++.so s.length 0 0 0::post] }=s.set k { o with au:=[pre++.so s.length 0 0 0::post] }++[⟨0,true,sz,[]⟩]:=by
  rw[List.set_append_left _ _ hk]
 rw[eO]at hr
 have hE:=hp.1.trans hr.1
 exact(h.2 _ w vals hr.2 hl (fun i x hx=>(hv i x hx).aO hE)).mono fun _ _ ⟨u,v,σ',s',a,b,c,d,e⟩=>⟨u,v,σ',s',a,hE.trans b,c,d,e⟩
end Go.VL
namespace Go.VL
theorem bI.JV {L:Nat}{e e':Env}{s s':List Obj} (h:bZ e s e' s'):bI L e s e' s':=fun σ0 s0 w0 σ w N a _ hE hI hR=>h σ0 s0 w0 σ w N a hE hI hR
theorem bI.freeze {L:Nat}{e:Env}{s:List Obj} (ids iX:List Nat):bI L e s (lp (ca s ids) iX e) (ca s ids):=.JV (.freeze ids iX)
def dU (aR:List Nat):V->V
 |.so id g lo n=>match aR.idxOf? id with|some k=>.so k g lo n|none=>.any
 |.rf id g i off=>match aR.idxOf? id with|some k=>.rf k g i off|none=>.any
 |.pp id g i off b a=>match aR.idxOf? id with|some k=>.pp k g i off b a|none=>.any
 |.mp id g=>match aR.idxOf? id with|some k=>.mp k g|none=>.any
 |.ag cs=>.ag (go cs)
 |.tu cs=>.tu (go cs)
 |.bx v=>.bx (dU aR v)
 |.cap lo hi v=>.cap lo hi (dU aR v)
 |.cl fn first ai=>.cl fn (go first) (go ai)
 |.d x=>.d x
 |.fu au=>.fu au
 |.un=>.un
 |.any=>.any
where go:List V->List V
 |[]=>[]
 |v::vs=>dU aR v::go vs
theorem nN (aR:List Nat):∀(l:List V),dU.go aR l=l.map (dU aR)
 |[]=>rfl
 |v::vs=>by simp [dU.go,nN aR vs]
def eD (aR:List Nat) (o:Obj):Obj:={ o with au:=o.au.map (dU.go aR) }
def jZ (aR:List Nat) (s:List Obj):List Obj:=aR.map fun id=>eD aR (s.getD id hole)
def K1 (aR:List Nat) (σ:Gh):Gh:=⟨fun k=>match aR[k]? with|some id=>σ id|none=>none,σ.base⟩
section zx
variable {σ:Gh}{s:List Obj}{w:World}{aR:List Nat}
theorem Dn {k:Nat}{o:Obj} (h:(jZ aR s)[k]?=some o):∃id,aR[k]?=some id/\o=eD aR (s.getD id hole):=by
 unfold jZ at h
 rw[List.getElem?_map]at h
 obtain⟨id,h1,h2⟩:=Option.map_eq_some_iff.1 h
 exact⟨id,h1,h2.symm⟩
theorem tC {k id:Nat}{o:Obj} (h:aR[k]?=some id) (ho:s[id]?=some o):(jZ aR s)[k]?=some (eD aR o):=by
 unfold jZ
 rw[List.getElem?_map,h]
 simp [List.getD,ho]
theorem kq {k id:Nat} (h:aR[k]?=some id):K1 aR σ k=σ id:=by
 show (match aR[k]? with|some id=>σ id|none=>none)=σ id
 rw[h]
theorem xC (az:∀id∈aR,id<s.length) {b:Nat} (h:Own (K1 aR σ) (jZ aR s) b):Own σ s b:=by
 rcases h with h|⟨k,o,base,h1,h2,h3⟩
 ·exact .inl h
 ·obtain⟨id,k1,rfl⟩:=Dn h1
  have hi:=az id (List.mem_of_getElem? k1)
  rw[kq k1]at h3
  have hg:s.getD id hole=s[id]:=by simp [List.getD,List.getElem?_eq_getElem hi]
  rw[hg]at h2
  exact .inr ⟨id,s[id],base,by simp [hi],h2,h3⟩
theorem rH {id k:Nat} (h:aR.idxOf? id=some k):aR[k]?=some id:=by
 rw[List.idxOf?_eq_some_iff]at h
 obtain⟨h1,h2,_⟩:=h
 rw[List.getElem?_eq_getElem h1]
 simpa using h2
theorem aw.zx (az:∀id∈aR,id<s.length) {x:V}{u:Value} (hr:aw σ s w x u):aw (K1 aR σ) (jZ aR s) w (dU aR x) u:=by
 have g:∀(cs:List V) (i:Nat) (y:V),(cs.map (dU aR))[i]?=some y->∃x,cs[i]?=some x/\dU aR x=y:=fun cs i y hy=>by
  rw[List.getElem?_map]at hy
  exact Option.map_eq_some_iff.1 hy
 induction hr with
 |d hx=>exact .d (hx.own fun b hb=>xC az hb)
 |fu hx=>exact .fu (hx.own fun b hb=>xC az hb)
 |un=>exact .un
 |any=>exact .any
 |ag h1 h2 _ ih =>
  simp only[dU,nN]
  refine .ag (by simpa using h1) (fun i y hy=>?_) (fun i y hy=>?_)
  ·obtain⟨x,hx,rfl⟩:=g _ i y hy;exact h2 i x hx
  ·obtain⟨x,hx,rfl⟩:=g _ i y hy;exact ih i x hx
 |tu h1 _ ih =>
  simp only[dU,nN]
  refine .tu (by simpa using h1) (fun i y hy=>?_)
  obtain⟨x,hx,rfl⟩:=g _ i y hy;exact ih i x hx
 |bx h1 h2 h3 hu _ ih=>simp only[dU];exact .bx h1 h2 (fun h'=>h3 (xC az h')) hu ih
 |cap h1 _ ih=>simp only[dU];exact .cap h1 ih
 |cl h1 _ h3 _ u9 u5 =>
  simp only[dU,nN]
  refine .cl (by simpa using h1) (fun i y hy=>?_) (by simpa using h3) (fun i y hy=>?_)
  ·obtain⟨x,hx,rfl⟩:=g _ i y hy;exact u9 i x hx
  ·obtain⟨x,hx,rfl⟩:=g _ i y hy;exact u5 i x hx
 |so o ho hg hu hk =>
  simp only[dU]
  split
  ·rename_i k ew
   have ew:=rH ew
   refine .so (eD aR o) (tC ew ho) hg hu fun sI=>?_
   have:=hk sI
   unfold vu at this ⊢
   rw[kq ew]
   exact this
  ·exact .any
 |rf o ho hg hu hk =>
  simp only[dU]
  split
  ·rename_i k ew
   have ew:=rH ew
   refine .rf (eD aR o) (tC ew ho) hg hu fun sI=>?_
   rw[kq ew]
   exact hk sI
  ·exact .any
 |pp o ho hg hk =>
  simp only[dU]
  split
  ·rename_i k ew
   have ew:=rH ew
   refine .pp (eD aR o) (tC ew ho) hg fun sI=>?_
   rw[kq ew]
   exact hk sI
  ·exact .any
 |mp o ho hg hu hk =>
  simp only[dU]
  split
  ·rename_i k ew
   have ew:=rH ew
   refine .mp (eD aR o) (tC ew ho) hg hu fun sI=>?_
   rw[kq ew]
   exact hk sI
  ·exact .any
theorem Inv.zx (hI:Inv σ s w) (az:∀id∈aR,id<s.length) (uA:aR.Nodup):Inv (K1 aR σ) (jZ aR s) w:=by
 have get:∀(k:Nat) (o:Obj),(jZ aR s)[k]?=some o->∃id o',aR[k]?=some id/\s[id]?=some o'/\o=eD aR o':=by
  intro k o h
  obtain⟨id,k1,rfl⟩:=Dn h
  have hi:=az id (List.mem_of_getElem? k1)
  exact⟨id,s[id],k1,by simp [hi],by simp [List.getD,List.getElem?_eq_getElem hi]⟩
 refine⟨fun k o ho=>?_,fun k k' o o' b base bp h1 h2 h3 h4 h5=>?_,hI.low,fun k o b base h1 h2=>?_⟩
 ·obtain⟨id,o',k1,k2,rfl⟩:=get k o ho
  rw[kq k1]
  rcases hI.content id o' k2 with (⟨h1,h2⟩|⟨b,es,c,h1,h2,h3⟩)|⟨b,base,arr,E,h1,h2,h3,h4,h5⟩
  ·exact .inl (.inl ⟨h1,by simp [eD,h2]⟩)
  ·refine .inl (.inr ⟨b,es,c,h1,h2,?_⟩)
   simp only[eD,h3,eB,List.map_map]
   apply List.map_congr_left
   intro e _
   rfl
  ·refine .inr ⟨b,base,arr,E,h1,h2,fun c hc=>?_,by simpa [eD]using h4,fun i j x hx=>?_⟩
   ·obtain⟨c',HS,rfl⟩:=List.mem_map.1 hc
    rw[nN]
    simpa [eD]using h3 c' HS
   ·simp only[eD,List.getElem?_map]at hx
    cases hi:o'.au[i]? with
    |none=>simp [hi]at hx
    |some c =>
     simp only[hi,Option.map_some,Option.bind_some,nN,List.getElem?_map]at hx
     obtain⟨y,hy,rfl⟩:=Option.map_eq_some_iff.1 hx
     obtain⟨u,g1,g2,g3⟩:=h5 i j y (by simp [hi,hy])
     exact⟨u,g1,g2,g3.zx az⟩
 ·obtain⟨id,p,k1,k2,rfl⟩:=get k o h1
  obtain⟨jm,p',l1,l2,rfl⟩:=get k' o' h2
  rw[kq k1]at h4
  rw[kq l1]at h5
  have e:=hI.inj id jm p p' b base bp k2 l2 h3 h4 h5
  subst e
  obtain⟨a1,a2⟩:=List.getElem?_eq_some_iff.1 k1
  obtain⟨b1,b2⟩:=List.getElem?_eq_some_iff.1 l1
  exact(List.getElem_inj uA).1 (a2.trans b2.symm)
 ·obtain⟨id,p,k1,k2,rfl⟩:=get k o h1
  rw[kq k1]at h2
  exact hI.apart id p b base k2 h2
theorem aA.zx {σ0:Gh}{s0:List Obj}{w0:World} (hE:aA σ0 s0 w0 σ s w) (az:∀id∈aR,id<s.length) (SF:∀id,id<s0.length->aR[id]?=some id):aA σ0 s0 w0 (K1 aR σ) (jZ aR s) w:=by
 refine⟨hE.os,hE.tape,hE.output,hE.size,hE.aR,hE.shape,hE.nk,fun b hb=>hE.own b (xC az hb),fun id o ho=>?_,hE.base,hE.eT⟩
 obtain⟨o',h1,h2,h3⟩:=hE.uY id o ho
 have hk:=SF id (List.getElem?_eq_some_iff.1 ho).1
 exact⟨eD aR o',tC hk h1,h2,fun he=>⟨(h3 he).1,by rw[kq hk];exact(h3 he).2⟩⟩
end zx
def zn (L:Nat) (aR:List Nat) (n:Nat):Bool:=aR.Nodup&&aR.all (fun id=>decide (id<n))&&((List.range L).all fun id=>aR[id]? == some id)
theorem qc {L n:Nat}{aR:List Nat} (h:zn L aR n=true):aR.Nodup/\(∀id∈aR,id<n)/\∀id,id<L->aR[id]?=some id:=by
 unfold zn at h
 simp only[Bool.and_eq_true,decide_eq_true_eq,List.all_eq_true,beq_iff_eq,List.mem_range]at h
 exact⟨h.1.1,h.1.2,h.2⟩
def GL (aR iX:List Nat) (e:Env):Env:=fun t=>if iX.contains t then dU aR (e t) else .any
theorem yb {aR iX:List Nat}{e:Env}{t:Nat}:GL aR iX e t=if iX.contains t then dU aR (e t) else .any:=(rfl)
theorem bI.zx {L:Nat}{e:Env}{s:List Obj} (aR iX:List Nat) (h:zn L aR s.length=true):bI L e s (GL aR iX e) (jZ aR s):=by
 intro σ0 s0 w0 σ w N a pk hE hI hR
 obtain⟨h1,h2,h3⟩:=qc h
 refine⟨_,hE.zx h2 (fun id cL=>h3 id (by omega)),hI.zx h2 h1,hR.1,hR.2.1,fun t=>?_⟩
 unfold GL
 split
 ·exact(hR.2.2 t).zx h2
 ·exact .any
def wT (L:Nat) (s:List Obj) (r:V) (K:V->List Obj->Prop):Prop:=∃aR,zn L aR s.length=true/\K (dU aR r) (jZ aR s)
def Bw (P:Program) (rs:List ResultVar) (L:Nat) (K:V->List Obj->Prop) (ex:Exit) (e:Env) (s:List Obj):Prop:=xn ex/\yz P rs e s fun r=>wT L s r K
theorem BU {P : Program} {f : FuncId} {fn : Func} {c : Code} {args : List V} {exts : List Obj} {K : V → List Obj → Prop} (hf : P.funcs[f]? = some fn) (hb : fn.body = some c) {N : Nat} (hN : fn.ntmps = N) {rs : Array ResultVar} (Pp : fn.results = rs) (hn : (fn.name != "runtime.NumGoroutine") = true)
  (lim M:Nat) (hl:exts.length<=lim) (ha:args.length<=N)
  (h:codeWp P N lim M c (Bw P rs.toList lim K) (ie args) exts):aq P f args exts K:=by
 subst hN;subst Pp
 refine⟨by simp only[G7,hf,hn,hb,Option.isSome_some,Bool.and_self],fun σ w vals hI PV hv=>?_⟩
 refine calls_of_wp hf hb ?_
 have hR:dt σ exts w fn.ntmps (ie args) { tmps:=vals++Array.replicate (fn.ntmps-vals.size) undef,defers:=[] }:=by
  refine⟨rfl,by simp;omega,fun t=>?_⟩
  rw[nO]
  by_cases ht:t<args.length
  ·have h1:=hv t args[t] (by simp [ht])
   have:(vals++Array.replicate (fn.ntmps-vals.size) undef).getD t undef=vals.getD t undef:=by
    rw[Array.getD_eq_getD_getElem?,Array.getElem?_append_left (by omega),Array.getD_eq_getD_getElem?]
   rw[this]
   simpa [ht]using h1
  ·have:(vals++Array.replicate (fn.ntmps-vals.size) undef).getD t undef=undef:=by
    rw[Array.getD_eq_getD_getElem?,Array.getElem?_append_right (by omega),Array.getElem?_replicate]
    split <;> rfl
   rw[this]
   simp [ht]
   exact .un
 refine wp_mono (oq hl c _ (ie args) exts σ w _ (aA.refl _ _ _) hI hR h) fun ex a' w' ⟨e',σ',s',hE,im,nI,hex,hq⟩=>?_
 obtain⟨v,u,k1,k2,k3⟩:=my im nI hq
 obtain⟨aR,h0,hK⟩:=k3
 obtain⟨h1,h2,h3⟩:=qc h0
 have fin:a'.defers=[]/\∃v,(results fn a'.tmps).run P w'=.ok v w'/\∃u OB xV uE,Ending.returned v=.returned u/\aA σ exts w xV uE w'/\Inv xV uE w'/\aw xV uE w' OB u/\K OB uE:=by
  refine⟨nI.1,u,k1,?_⟩
  exact⟨u,_,_,_,rfl,hE.zx h2 (fun id cL=>h3 id (by omega)),im.zx h2 h1,k2.zx h2,hK⟩
 rcases rI hex with rfl|rfl
 ·exact fin
 ·exact fin
def vE (ρ:List Nat) (s exts s':List Obj):List Nat:=ρ++List.range' s.length (s'.length-exts.length)
theorem pQ:∀(ρ ρ':List Nat) (A B:List Obj) (s:List Obj),A.length=ρ.length->aH s (ρ++ρ') (A++B)=aH (aH s ρ A) ρ' B
 |[],ρ',[],B,s,_=>by simp [aH]
 |[],_,_::_,_,_,h=>by simp at h
 |_::_,_,[],_,_,h=>by simp at h
 |r::ρ,ρ',a::A,B,s,h=>by
  simp only[List.cons_append,aH]
  exact pQ ρ ρ' A B _ (by simpa using h)
theorem tN:∀(ρ:List Nat) (A:List Obj) (s t:List Obj),(∀id∈ρ,id<s.length)->aH (s++t) ρ A=aH s ρ A++t
 |[],_,s,t,_=>by simp [aH]
 |r::ρ,[],s,t,_=>by simp [aH]
 |r::ρ,a::A,s,t,h=>by
  simp only[aH]
  rw[List.set_append_left _ _ (h r (by simp))]
  exact tN ρ A _ t (fun id cL=>by simpa using h id (by simp [cL]))
theorem wv:∀(m:Nat) (B s:List Obj),B.length=m->aH (s++List.replicate m hole) (List.range' s.length m) B=s++B
 |0,B,s,h=>by
  have:B=[]:=List.eq_nil_of_length_eq_zero h
  subst this
  simp [aH]
 |m+1,[],s,h=>by simp at h
 |m+1,b::B,s,h=>by
  rw[List.range'_succ,List.replicate_succ]
  simp only[aH]
  rw[List.set_append_right _ _ (Nat.le_refl _),Nat.sub_self,List.set_cons_zero]
  have:=wv m B (s++[b]) (by simpa using h)
  simpa using this
theorem jy {P:Program}{f:FuncId}{cargs args:List V}{exts s:List Obj}{Kc K:V->List Obj->Prop} (h:aq P f cargs exts Kc) (ρ:List Nat) (hρ:ρ.length=exts.length) (uA:ρ.Nodup)
  (hs:∀(k:Nat) (o:Obj),exts[k]?=some o->s[ρ.getD k 0]?=some (aP ρ o)) (iE:args=cargs.map (aJ ρ)) (z8:ah.go exts.length cargs=true) (u4:exts.all (aQ exts.length)=true)
  (hk:∀v s',Kc v s'->exts.length<=s'.length->K (aJ (vE ρ s exts s') v) (aH s ρ ((s'.take exts.length).map (aP (vE ρ s exts s')))++(s'.drop exts.length).map (aP (vE ρ s exts s')))):aq P f args s K:=by
 refine⟨h.1,fun σ w vals hI hl hv=>?_⟩
 have N9:∀k,k<exts.length->ρ[k]?=some (ρ.getD k 0):=fun k hk=>by simp [List.getD,show k<ρ.length by omega]
 have T7:∀k k',k<exts.length->k'<exts.length->ρ.getD k 0=ρ.getD k' 0->k=k':=by
  intro k k' h1 h2 he
  have e1:=N9 k h1
  have e2:=N9 k' h2
  rw[he]at e1
  obtain⟨l1,g1⟩:=List.getElem?_eq_some_iff.1 e1
  obtain⟨l2,g2⟩:=List.getElem?_eq_some_iff.1 e2
  exact(List.getElem_inj uA).1 (g1.trans g2.symm)
 have FQ:∀k,(hk:k<exts.length)->s[ρ.getD k 0]?=some (aP ρ exts[k]):=fun k hk=>hs k exts[k] (by simp [hk])
 let pt:Nat->Prop:=fun b=>∃k base,k<exts.length/\σ (ρ.getD k 0)=some (b,base)
 let σc:Gh:=⟨fun k=>if k<exts.length then σ (ρ.getD k 0) else none,fun b=>Own σ s b/\¬pt b⟩
 have Ce:∀k,k<exts.length->σc k=σ (ρ.getD k 0):=fun k hk=>if_pos hk
 have vJ:∀b,Own σc exts b->Own σ s b:=by
  rintro b (hb|⟨k,o,base,h1,h2,h3⟩)
  ·exact hb.1
  ·have az:=(List.getElem?_eq_some_iff.1 h1).1
   rw[Ce k az]at h3
   exact .inr ⟨ρ.getD k 0,aP ρ o,base,hs k o h1,h2,h3⟩
 have JZ:∀b,Own σ s b->Own σc exts b:=by
  intro b hb
  by_cases he:pt b
  ·obtain⟨k,base,az,h3⟩:=he
   refine .inr ⟨k,exts[k],base,by simp [az],?_,by rw[Ce k az];exact h3⟩
   rcases hb with hb|⟨id,o,bp,g1,g2,g3⟩
   ·exact absurd hb (hI.apart _ _ b base (FQ k az) h3)
   ·have:=hI.inj id _ o _ b bp base g1 (FQ k az) g2 g3 h3
    subst this
    rw[FQ k az]at g1
    cases g1
    exact g2
  ·exact .inl ⟨hb,he⟩
 have Uo:Inv σc exts w:=by
  refine⟨fun k o ho=>?_,fun k k' o o' b base bp h1 h2 h3 h4 h5=>?_,fun b hb=>yK hI hb.1,fun k o b base h1 h2 hb=>?_⟩
  ·have az:=(List.getElem?_eq_some_iff.1 ho).1
   rw[Ce k az]
   rcases hI.content _ _ (hs k o ho) with g1|⟨b,base,arr,E,g1,g2,g3,g4,g5⟩
   ·exact .inl g1.down
   ·refine .inr ⟨b,base,arr,E,g1,g2,fun e he=>?_,by simpa [aP]using g4,fun i j x hx=>?_⟩
    ·have:=g3 (aJ.go ρ e) (List.mem_map.2 ⟨e,he,rfl⟩)
     rw[gj]at this
     simpa [aP]using this
    ·obtain⟨u,k1,k2,k3⟩:=g5 i j _ (Be hx)
     refine⟨u,k1,k2,tB vJ hs Ce k3 rfl ?_⟩
     have hobj:=List.all_eq_true.1 u4 o (List.mem_of_getElem? ho)
     cases yM:o.au[i]? with
     |none=>rw[yM]at hx;cases hx
     |some e =>
      rw[yM]at hx
      exact List.all_eq_true.1 (List.all_eq_true.1 hobj e (List.mem_of_getElem? yM)) x (List.mem_of_getElem? hx)
  ·have l1:=(List.getElem?_eq_some_iff.1 h1).1
   have l2:=(List.getElem?_eq_some_iff.1 h2).1
   rw[Ce k l1]at h4
   rw[Ce k' l2]at h5
   exact T7 k k' l1 l2 (hI.inj _ _ _ _ b base bp (hs k o h1) (hs k' o' h2) h3 h4 h5)
  ·have l1:=(List.getElem?_eq_some_iff.1 h1).1
   rw[Ce k l1]at h2
   exact hb.2 ⟨k,base,l1,h2⟩
 refine(h.2 σc w vals Uo (by rw[hl,iE];simp) (fun i x hx=>tB vJ hs Ce (hv i _ (by rw[iE,List.getElem?_map,hx];rfl)) rfl (cZ z8 i x hx))).mono fun e w' ⟨u,v,σ',s',he,hE,im,hR,hK⟩=>?_
 have hle:exts.length<=s'.length:=by
  rcases Nat.eq_zero_or_pos exts.length with h0|h0
  ·omega
  ·obtain⟨o',g1,_⟩:=hE.uY (exts.length-1) exts[exts.length-1] (List.getElem?_eq_getElem (by omega))
   have:=(List.getElem?_eq_some_iff.1 g1).1
   omega
 have hK:=hk v s' hK hle
 have RY:∀id∈ρ,id<s.length:=by
  intro id cL
  obtain⟨k,hk⟩:=List.mem_iff_getElem?.1 cL
  have az:k<exts.length:=by have:=(List.getElem?_eq_some_iff.1 hk).1;omega
  have h1:=(List.getElem?_eq_some_iff.1 (FQ k az)).1
  have:ρ.getD k 0=id:=by simp [List.getD,hk]
  omega
 obtain⟨R,OC⟩:∃R,R=vE ρ s exts s':=⟨_,rfl⟩
 rw[<- OC]at hK
 have Rg:R.length=s'.length:=by rw[OC];simp [vE];omega
 have Wo:R.Nodup:=by
  rw[OC];unfold vE
  rw[List.nodup_append]
  refine⟨uA,List.nodup_range',fun a ha b hb he=>?_⟩
  subst he
  have h1:=RY a ha
  have h2:=List.mem_range'.1 hb
  omega
 have J1:∀k,k<exts.length->R.getD k 0=ρ.getD k 0:=fun k hk=>by
  rw[OC];unfold vE
  simp only[List.getD]
  rw[List.getElem?_append_left (by omega)]
 have Qc:∀k,exts.length<=k->k<s'.length->R.getD k 0=s.length+(k-exts.length):=fun k h1 h2=>by
  rw[OC];unfold vE
  simp only[List.getD]
  rw[List.getElem?_append_right (by omega),List.getElem?_range' (by omega)]
  simp;omega
 have Ts:∀k,k<s'.length->R[k]?=some (R.getD k 0):=fun k hk=>by simp [List.getD,show k<R.length by omega]
 have U8:∀k,k<s'.length->R.getD k 0<s.length+(s'.length-exts.length):=fun k hk=>by
  rcases Nat.lt_or_ge k exts.length with h1|h1
  ·rw[J1 k h1]
   have:=(List.getElem?_eq_some_iff.1 (FQ k h1)).1
   omega
  ·rw[Qc k h1 hk];omega
 have Ox:aH s ρ ((s'.take exts.length).map (aP R))++(s'.drop exts.length).map (aP R)=aH (s++List.replicate (s'.length-exts.length) hole) R (s'.map (aP R)):=by
  have mm:s'.map (aP R)=(s'.take exts.length).map (aP R)++(s'.drop exts.length).map (aP R):=by rw[<- List.map_append,List.take_append_drop]
  rw[mm,OC]
  unfold vE
  generalize aP (ρ++List.range' s.length (s'.length-exts.length))=F
  rw[pQ _ _ _ _ _ (by simp;omega),tN _ _ _ _ RY]
  have AE:(aH s ρ ((s'.take exts.length).map F)).length=s.length:=lW _ _ _
  generalize aH s ρ ((s'.take exts.length).map F)=T at *
  rw[<- AE,wv (s'.length-exts.length) _ T (by simp)]
 rw[Ox]at hK
 clear Ox
 -- back
 let σn:Gh:=⟨fun id=>match R.idxOf? id with|some k=>σ' k|none=>σ id,σ.base⟩
 have PK:∀k,k<s'.length->R.idxOf? (R.getD k 0)=some k:=by
  intro k hk
  have e1:=Ts k hk
  obtain⟨l1,g1⟩:=List.getElem?_eq_some_iff.1 e1
  rw[List.idxOf?_eq_some_iff]
  refine⟨l1,by simp [g1],fun j hj=>?_⟩
  have VZ:j<R.length:=by omega
  intro hb
  have JT:R[j]=R.getD k 0:=by simpa using hb
  have:=(List.getElem_inj Wo).1 (JT.trans g1.symm)
  omega
 have B0:∀k,k<s'.length->σn (R.getD k 0)=σ' k:=fun k hk=>by
  show (match R.idxOf? (R.getD k 0) with|some k=>σ' k|none=>σ (R.getD k 0))=σ' k
  rw[PK k hk]
 have De:∀id,id ∉ R->σn id=σ id:=fun id cL=>by
  show (match R.idxOf? id with|some k=>σ' k|none=>σ id)=σ id
  rw[List.idxOf?_eq_none_iff.2 cL]
 have pr:∀id,id∈R->∃k,k<s'.length/\id=R.getD k 0:=by
  intro id cL
  obtain⟨k,hk⟩:=List.mem_iff_getElem?.1 cL
  have az:=(List.getElem?_eq_some_iff.1 hk).1
  exact⟨k,by omega,by simp [List.getD,hk]⟩
 have uD:(s++List.replicate (s'.length-exts.length) hole).length=s.length+(s'.length-exts.length):=by simp
 have F3:∀(k:Nat) (o:Obj),s'[k]?=some o->(aH (s++List.replicate (s'.length-exts.length) hole) R (s'.map (aP R)))[R.getD k 0]?=some (aP R o):=by
  intro k o ho
  have az:k<s'.length:=(List.getElem?_eq_some_iff.1 ho).1
  exact tj R _ _ k _ _ Wo (Ts k az) (by rw[List.getElem?_map,ho];rfl) (by rw[uD];exact U8 k az)
 have qm:∀id,id ∉ R->(aH (s++List.replicate (s'.length-exts.length) hole) R (s'.map (aP R)))[id]?=s[id]?:=fun id cL=>by
  rw[fj R _ _ id cL]
  rcases Nat.lt_or_ge id s.length with h1|h1
  ·rw[List.getElem?_append_left h1]
  ·rw[List.getElem?_eq_none h1]
   refine List.getElem?_eq_none ?_
   rw[uD]
   rcases Nat.lt_or_ge id (s.length+(s'.length-exts.length)) with h2|h2
   ·exfalso
    apply cL
    have e1:=Qc (exts.length+(id-s.length)) (by omega) (by omega)
    have e2:=Ts (exts.length+(id-s.length)) (by omega)
    rw[e1]at e2
    have e3:s.length+(exts.length+(id-s.length)-exts.length)=id:=by omega
    rw[e3]at e2
    exact List.mem_of_getElem? e2
   ·exact h2
 have QB:∀id o,id∈R->s[id]?=some o->∃k,k<exts.length/\id=R.getD k 0/\id=ρ.getD k 0:=by
  intro id o cL ho
  obtain⟨k,hk,rfl⟩:=pr id cL
  rcases Nat.lt_or_ge k exts.length with h1|h1
  ·exact⟨k,h1,rfl,J1 k h1⟩
  ·rw[Qc k h1 hk]at ho
   have:=(List.getElem?_eq_some_iff.1 ho).1
   omega
 have sG:∀(k:Nat) (o:Obj),k<s'.length->(aH (s++List.replicate (s'.length-exts.length) hole) R (s'.map (aP R)))[R.getD k 0]?=some o->∃o',s'[k]?=some o'/\o=aP R o':=by
  intro k o az ho
  have aK:k<s'.length:=by omega
  have:=F3 k s'[k] (by simp [aK])
  rw[ho]at this
  exact⟨s'[k],by simp [aK],by simpa using this⟩
 have eT:∀b,b<w.heap.size->Own σ s b->¬pt b->w'.heap[b]?=w.heap[b]?:=fun b hb h1 h2=>hE.eT b hb ⟨h1,h2⟩
 have x9:∀b,σ.base b->¬pt b:=by
  rintro b hb ⟨k,base,az,h3⟩
  exact hI.apart _ _ b base (FQ k az) h3 hb
 have n7:∀id o b base,id ∉ R->s[id]?=some o->σ id=some (b,base)->o.live=true->¬pt b:=by
  rintro id o b base cL ho h1 zq ⟨k,bp,az,h3⟩
  have:=hI.inj id _ o _ b base bp ho (FQ k az) zq h1 h3
  exact cL (by rw[this,<- J1 k az];exact List.mem_of_getElem? (Ts k (by omega)))
 have Lc:∀b,Own σn (aH (s++List.replicate (s'.length-exts.length) hole) R (s'.map (aP R))) b->Own σ' s' b:=by
  rintro b (hb|⟨id,o,base,h1,h2,h3⟩)
  ·left;rw[hE.base];exact⟨.inl hb,x9 b hb⟩
  ·by_cases cL:id∈R
   ·obtain⟨k,az,rfl⟩:=pr id cL
    obtain⟨o',g1,rfl⟩:=sG k o az h1
    rw[B0 k az]at h3
    exact .inr ⟨k,o',base,g1,h2,h3⟩
   ·rw[qm id cL]at h1
    rw[De id cL]at h3
    left;rw[hE.base]
    exact⟨.inr ⟨id,o,base,h1,h2,h3⟩,n7 id o b base cL h1 h3 h2⟩
 have PB:aA σ s w σn (aH (s++List.replicate (s'.length-exts.length) hole) R (s'.map (aP R))) w':=by
  refine⟨hE.os,hE.tape,hE.output,hE.size,fun b hb ho=>hE.aR b hb fun h'=>ho (vJ b h'),fun b arr E ho hh=>hE.shape b arr E (JZ b ho) hh,fun b ho hm=>hE.nk b (JZ b ho) hm,fun b hb=>?_,fun id o ho=>?_,rfl,
   fun b hb hf=>eT b hb (.inl hf) (x9 b hf)⟩
  ·rcases hE.own b (Lc b hb) with h'|h'
   ·exact .inl (vJ b h')
   ·exact .inr h'
  ·by_cases cL:id∈R
   ·obtain⟨k,az,z0,F8⟩:=QB id o cL ho
    rw[F8,FQ k az]at ho
    simp only[Option.some.injEq]at ho
    subst ho
    obtain⟨o',g1,g2,g3⟩:=hE.uY k exts[k] (by simp [az])
    refine⟨aP R o',by rw[z0];exact F3 k o' g1,g2,fun he=>?_⟩
    obtain⟨e1,e2⟩:=g3 he
    refine⟨e1,?_⟩
    have e3:σn id=σ' k:=by rw[z0];exact B0 k (by omega)
    rw[e3,e2,Ce k az,F8]
   ·exact⟨o,by rw[qm id cL];exact ho,Nat.le_refl _,fun _=>⟨rfl,De id cL⟩⟩
 have up:∀{x:V}{u:Value},aw σ' s' w' x u->aw σn (aH (s++List.replicate (s'.length-exts.length) hole) R (s'.map (aP R))) w' (aJ R x) u:=fun hr =>
  Ly Lc F3 (fun k hk=>B0 k (by omega)) hr
 have hIn:Inv σn (aH (s++List.replicate (s'.length-exts.length) hole) R (s'.map (aP R))) w':=by
  refine⟨fun id o ho=>?_,fun id jm o o' b base bp h1 h2 h3 h4 h5=>?_,fun b hb=>Nat.lt_of_lt_of_le (hI.low b hb) hE.size,fun id o b base h1 h2 hb=>?_⟩
  ·by_cases cL:id∈R
   ·obtain⟨k,az,rfl⟩:=pr id cL
    obtain⟨o',g1,rfl⟩:=sG k o az ho
    rw[B0 k az]
    rcases im.content k o' g1 with c1|⟨b,base,arr,E,c1,c2,c3,c4,c5⟩
    ·exact .inl c1.up
    ·refine .inr ⟨b,base,arr,E,c1,c2,fun e he=>?_,by simpa [aP]using c4,fun i j y hy=>?_⟩
     ·obtain⟨e',wN,rfl⟩:=List.mem_map.1 he
      rw[gj]
      simpa [aP]using c3 e' wN
     ·obtain⟨x,hx,rfl⟩:=CW hy
      obtain⟨u,k1,k2,k3⟩:=c5 i j x hx
      exact⟨u,k1,k2,up k3⟩
   ·rw[qm id cL]at ho
    rw[De id cL]
    refine rV.aO (p:=σ id) PB (fun b base hb=>?_) (hI.content id o ho)
    have az:=hI.lt ho hb
    by_cases hO:Own σ s b
    ·by_cases zq:o.live=true
     ·exact eT b az hO (n7 id o b base cL ho hb zq)
     ·exfalso
      rcases hO with hO|⟨jm,o',bp,g1,g2,g3⟩
      ·exact hI.apart id o b base ho hb hO
      ·have:=hI.inj jm id o' o b bp base g1 ho g2 g3 hb
       subst this
       rw[ho]at g1;cases g1
       exact zq g2
    ·exact hE.aR b az fun h'=>hO (vJ b h')
  ·by_cases cL:id∈R <;> by_cases td:jm∈R
   ·obtain⟨k,az,rfl⟩:=pr id cL
    obtain⟨k',aK,rfl⟩:=pr jm td
    obtain⟨p,g1,rfl⟩:=sG k o az h1
    obtain⟨p',Pt,rfl⟩:=sG k' o' aK h2
    rw[B0 k az]at h4
    rw[B0 k' aK]at h5
    rw[im.inj k k' p p' b base bp g1 Pt h3 h4 h5]
   ·exfalso
    obtain⟨k,az,rfl⟩:=pr id cL
    obtain⟨p,g1,rfl⟩:=sG k o az h1
    rw[B0 k az]at h4
    rw[qm jm td]at h2
    rw[De jm td]at h5
    have KR:=hI.lt h2 h5
    have hO:Own σ s b:=by
     rcases hE.own b (.inr ⟨k,p,base,g1,h3,h4⟩) with h'|h'
     ·exact vJ b h'
     ·omega
    by_cases zq:o'.live=true
    ·exact im.apart k p b base g1 h4 (by rw[hE.base];exact⟨hO,n7 jm o' b bp td h2 h5 zq⟩)
    ·rcases hO with hO|⟨Uz,o2,wW,q1,q2,q3⟩
     ·exact hI.apart jm o' b bp h2 h5 hO
     ·have:=hI.inj Uz jm o2 o' b wW bp q1 h2 q2 q3 h5
      subst this
      rw[h2]at q1;cases q1
      exact zq q2
   ·exfalso
    obtain⟨k',aK,rfl⟩:=pr jm td
    obtain⟨p',Pt,rfl⟩:=sG k' o' aK h2
    rw[B0 k' aK]at h5
    rw[qm id cL]at h1
    rw[De id cL]at h4
    exact im.apart k' p' b bp Pt h5 (by rw[hE.base];exact⟨.inr ⟨id,o,base,h1,h3,h4⟩,n7 id o b base cL h1 h4 h3⟩)
   ·rw[qm id cL]at h1
    rw[qm jm td]at h2
    rw[De id cL]at h4
    rw[De jm td]at h5
    exact hI.inj id jm o o' b base bp h1 h2 h3 h4 h5
  ·by_cases cL:id∈R
   ·obtain⟨k,az,rfl⟩:=pr id cL
    obtain⟨p,g1,rfl⟩:=sG k o az h1
    rw[B0 k az]at h2
    exact im.apart k p b base g1 h2 (by rw[hE.base];exact⟨.inl hb,x9 b hb⟩)
   ·rw[qm id cL]at h1
    rw[De id cL]at h2
    exact hI.apart id o b base h1 h2 hb
 exact⟨u,aJ R v,σn,_,he,PB,hIn,up hR,hK⟩
def uu (lim:Nat) (s:List Obj) (o:Obj):Option Obj:=(o.au.mapM (bh.go lim s)).map fun au=>{ o with au:=au }
theorem vx {α β:Type}{f:α->Option β}:∀{l:List α}{r:List β},l.mapM f=some r->r.length=l.length/\(∀(i:Nat) (y:β),r[i]?=some y->∃x,l[i]?=some x/\f x=some y)/\∀(i:Nat) (x:α),l[i]?=some x->∃y,r[i]?=some y/\f x=some y
 |[],r,h=>by simp at h;subst h;simp
 |a::l,r,h=>by
  simp only[List.mapM_cons,Option.bind_eq_bind,Option.pure_def]at h
  cases ha:f a with
  |none=>rw[ha]at h;simp at h
  |some b =>
   rw[ha]at h
   cases hl:l.mapM f with
   |none=>rw[hl]at h;simp at h
   |some bs =>
    rw[hl]at h
    simp only[Option.bind_some,Option.some.injEq]at h
    subst h
    obtain⟨k1,k2,k3⟩:=vx hl
    refine⟨by simp [k1],fun i y hy=>?_,fun i x hx=>?_⟩
    ·cases i with
     |zero=>simp at hy;subst hy;exact⟨a,rfl,ha⟩
     |succ i=>simpa using k2 i y (by simpa using hy)
    ·cases i with
     |zero=>simp at hx;subst hx;exact⟨b,rfl,ha⟩
     |succ i=>simpa using k3 i x (by simpa using hx)
theorem rB {lim:Nat}{s:List Obj}{o o':Obj} (h:uu lim s o=some o'):o'.g=o.g/\o'.live=o.live/\o'.sz=o.sz/\o.au.mapM (bh.go lim s)=some o'.au:=by
 unfold uu at h
 obtain⟨au,h1,rfl⟩:=Option.map_eq_some_iff.1 h
 exact⟨rfl,rfl,rfl,h1⟩
theorem Lo {σ:Gh}{s sF:List Obj}{w:World}{lim:Nat} (hI:Inv σ s w) (h:(s.take lim).mapM (uu lim s)=some sF):aA σ (s.take lim) w σ sF w/\Inv σ sF w:=by
 obtain⟨m1,m2,m3⟩:=vx h
 have yA:∀b,Own σ sF b->Own σ (s.take lim) b:=by
  rintro b (hb|⟨id,o,base,h1,h2,h3⟩)
  ·exact .inl hb
  ·obtain⟨o0,k1,k2⟩:=m2 id o h1
   obtain⟨_,e2,_,_⟩:=rB k2
   exact .inr ⟨id,o0,base,k1,by rw[<- e2];exact h2,h3⟩
 have hE:aA σ (s.take lim) w σ sF w:=by
  refine⟨rfl,rfl,rfl,Nat.le_refl _,fun _ _ _=>rfl,fun _ arr _ _ h=>⟨arr,h,rfl⟩,fun _ _ h=>h,fun b hb=>.inl (yA b hb),fun id o ho=>?_,rfl,fun _ _ _=>rfl⟩
  obtain⟨o',k1,k2⟩:=m3 id o ho
  obtain⟨e1,_,e3,_⟩:=rB k2
  exact⟨o',k1,by omega,fun _=>⟨e3,rfl⟩⟩
 have get:∀(id:Nat) (o:Obj),(s.take lim)[id]?=some o->s[id]?=some o:=by
  intro id o hh
  rw[List.getElem?_take]at hh
  split at hh
  ·exact hh
  ·cases hh
 refine⟨hE,fun id o ho=>?_,fun id jm o o' b base bp h1 h2 h3 h4 h5=>?_,hI.low,fun id o b base h1 h2=>?_⟩
 ·obtain⟨o0,k1,k2⟩:=m2 id o ho
  obtain⟨e1,e2,e3,e4⟩:=rB k2
  obtain⟨n1,n2,n3⟩:=vx e4
  rcases hI.content id o0 (get _ _ k1) with (⟨h1,h2⟩|⟨b,es,c,h1,h2,h3⟩)|⟨b,base,arr,E,h1,h2,h3,h4,h5⟩
  ·exact .inl (.inl ⟨h1,List.eq_nil_of_length_eq_zero (by rw[n1,h2];rfl)⟩)
  ·refine .inl (.inr ⟨b,es,c,h1,h2,?_⟩)
   rw[<- h3]
   refine List.ext_getElem? fun i=>?_
   cases hi:o0.au[i]? with
   |none =>
    have:=List.getElem?_eq_none_iff.1 hi
    exact List.getElem?_eq_none (by omega)
   |some x =>
    obtain⟨y,y1,y2⟩:=n3 i x hi
    rw[y1]
    have hx:=hi
    rw[h3]at hx
    unfold eB at hx
    rw[List.getElem?_map]at hx
    obtain⟨en,_,rfl⟩:=Option.map_eq_some_iff.1 hx
    simp only[bh.go,bh,Option.some.injEq]at y2
    rw[<- y2]
  ·refine .inr ⟨b,base,arr,E,h1,h2,fun e he=>?_,by rw[n1,e3];exact h4,fun i j y hy=>?_⟩
   ·obtain⟨i,hi⟩:=List.mem_iff_getElem?.1 he
    obtain⟨x,x1,x2⟩:=n2 i e hi
    rw[(qy x2).1,e3]
    exact h3 x (List.mem_of_getElem? x1)
   ·cases yM:o.au[i]? with
    |none=>rw[yM]at hy;cases hy
    |some e =>
     rw[yM]at hy
     obtain⟨x,x1,x2⟩:=n2 i e yM
     obtain⟨v,v1,v2⟩:=(qy x2).2 j y hy
     obtain⟨u,u1,u2,u3⟩:=h5 i j v (by rw[x1];exact v1)
     exact⟨u,by rw[e3];exact u1,u2,(lL hI u3 v2).aO hE⟩
 ·obtain⟨a,k1,k2⟩:=m2 id o h1
  obtain⟨a',XA,Zk⟩:=m2 jm o' h2
  exact hI.inj id jm a a' b base bp (get _ _ k1) (get _ _ XA) (by rw[<- (rB k2).2.1];exact h3) h4 h5
 ·obtain⟨a,k1,k2⟩:=m2 id o h1
  exact hI.apart id a b base (get _ _ k1) h2
def vL (lim:Nat) (s:List Obj) (r:V) (K:V->List Obj->Prop):Prop :=
 match (s.take lim).mapM (uu lim s),bh lim s r with
 |some sF,some r'=>K r' sF
 |_,_=>False
def HK (P:Program) (rs:List ResultVar) (lim:Nat) (K:V->List Obj->Prop) (ex:Exit) (e:Env) (s:List Obj):Prop:=xn ex/\yz P rs e s fun r=>vL lim s r K
theorem Gi {P : Program} {f : FuncId} {fn : Func} {c : Code} {args : List V} {exts : List Obj} {K : V → List Obj → Prop} (hf : P.funcs[f]? = some fn) (hb : fn.body = some c) {N : Nat} (hN : fn.ntmps = N) {rs : Array ResultVar} (Pp : fn.results = rs) (hn : (fn.name != "runtime.NumGoroutine") = true)
  (lim M:Nat) (hl:exts.length<=lim) (ha:args.length<=N)
  (h:codeWp P N lim M c (HK P rs.toList lim K) (ie args) exts):aq P f args exts K:=by
 subst hN;subst Pp
 refine⟨by simp only[G7,hf,hn,hb,Option.isSome_some,Bool.and_self],fun σ w vals hI PV hv=>?_⟩
 refine calls_of_wp hf hb ?_
 have hR:dt σ exts w fn.ntmps (ie args) { tmps:=vals++Array.replicate (fn.ntmps-vals.size) undef,defers:=[] }:=by
  refine⟨rfl,by simp;omega,fun t=>?_⟩
  rw[nO]
  by_cases ht:t<args.length
  ·have h1:=hv t args[t] (by simp [ht])
   have:(vals++Array.replicate (fn.ntmps-vals.size) undef).getD t undef=vals.getD t undef:=by
    rw[Array.getD_eq_getD_getElem?,Array.getElem?_append_left (by omega),Array.getD_eq_getD_getElem?]
   rw[this]
   simpa [ht]using h1
  ·have:(vals++Array.replicate (fn.ntmps-vals.size) undef).getD t undef=undef:=by
    rw[Array.getD_eq_getD_getElem?,Array.getElem?_append_right (by omega),Array.getElem?_replicate]
    split <;> rfl
   rw[this]
   simp [ht]
   exact .un
 refine wp_mono (oq hl c _ (ie args) exts σ w _ (aA.refl _ _ _) hI hR h) fun ex a' w' ⟨e',σ',s',hE,im,nI,hex,hq⟩=>?_
 obtain⟨v,u,k1,k2,k3⟩:=my im nI hq
 unfold vL at k3
 have fin:a'.defers=[]/\∃v,(results fn a'.tmps).run P w'=.ok v w'/\∃u OB xV uE,Ending.returned v=.returned u/\aA σ exts w xV uE w'/\Inv xV uE w'/\aw xV uE w' OB u/\K OB uE:=by
  refine⟨nI.1,u,k1,?_⟩
  split at k3
  ·rename_i sF r' YC NH
   obtain⟨q1,q2⟩:=Lo im YC
   exact⟨u,r',σ',sF,rfl,(hE.take hl).trans q1,q2,(lL im k2 NH).aO q1,k3⟩
  ·exact k3.elim
 rcases rI hex with rfl|rfl
 ·exact fin
 ·exact fin
end Go.VL
