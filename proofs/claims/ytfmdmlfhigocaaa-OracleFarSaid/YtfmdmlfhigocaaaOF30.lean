/- A part of the proof (O5 O6 Vre Vzs Vzt). -/
import Derived.Test.YtfmdmlfhigocaaaOF12
import Derived.Test.YtfmdmlfhigocaaaOF14
import Derived.Test.YtfmdmlfhigocaaaOF29
set_option linter.unusedSimpArgs false
set_option linter.unusedVariables false
set_option maxRecDepth 100000
set_option maxHeartbeats 80000000
namespace Go.Proofs.Ytfmdmlfhigocaaa
open Go.VL
structure av where
 op:Int
 x:Int
 y:Int
 n:Int
 node:Option (Re×Nat)
def mB (b a:Nat):V:=.bx (.pp 0 0 0 0 b a)
def nB (re:Re) (k:Nat):V:=.bx (.d (re.aY k))
def bQ (b a:Nat):Option (Re×Nat)->V
 |none=>.d (.sc .nilFunc)
 |some (re,k)=>if re.op=1 then .cl (.func 57) [] [mB b a,nB re k] else if re.op=11 then .cl (.func 59) [] [nB re k,mB b a] else .cl (.func 61) [] [mB b a,nB re k]
def av.cells (b a:Nat) (i:av):List V:=[i64 i.op,i64 i.x,i64 i.y,i64 i.n,bQ b a i.node]
def cr (g b a:Nat) (C:List av):VL.Obj:=⟨g,true,5,C.map (av.cells b a)⟩
def av.pass (t:List Int) (Bs:List (List Bool)) (i:av) (p:Nat):Bool:=match i.node with
 |none=>false
 |some (re,k)=>if re.op=1 then decide ((p:Int)<t.length)&&Ba re.set (kW t p) else if re.op=11 then bP re.n t p else (Bs.getD k []).getD p false
def db (C:List av) (n:Nat):av:=C.getD n ⟨0,0,0,0,none⟩
structure lg (t:List Int) (Bs:List (List Bool)) (C:List av):Prop where
 len:C.length<=100000
 ops:∀n,n<C.length->0<=(db C n).op/\(db C n).op<=5
 set:∀n,n<C.length->(db C n).op=1->∃re k,(db C n).node=some (re,k)/\re.op=1/\re.set.length<=1000000
 ask:∀n,n<C.length->(db C n).op=5->∃re k,(db C n).node=some (re,k)/\re.op≠1/\(re.op=11->0<=re.n/\re.n<=5)/\(re.op≠11->∃l,Bs[k]?=some l/\l.length=t.length+1)
 split:∀n,n<C.length->(db C n).op=2->0<=(db C n).x/\(db C n).x<C.length/\0<=(db C n).y/\(db C n).y<C.length
 jump:∀n,n<C.length->(db C n).op=3->0<=(db C n).x/\(db C n).x<C.length
 next:∀n,n<C.length->(db C n).op=1\/(db C n).op=4\/(db C n).op=5->n+1<C.length
structure HI where
 kn:List Bool
 nw:List Bool
def Jb (l:List Bool):Nat:=l.count false
def bn (t:List Int) (Bs:List (List Bool)) (C:List av) (p:Nat) (Lt:List Bool):Nat->Nat->HI->Bool×HI
 |0,_,st=>(false,st)
 |k+1,n,st =>
  if st.kn.getD n true=true then (st.nw.getD n false,st) else
  let jn:HI:=⟨st.kn.set n true,st.nw⟩
  let i:=db C n
  let r:Bool×HI :=
   if i.op=0 then (true,jn)
   else if i.op=1 then (i.pass t Bs p&&Lt.getD (n+1) false,jn)
   else if i.op=2 then
    let r1:=bn t Bs C p Lt k i.x.toNat jn
    if r1.1=true then r1 else bn t Bs C p Lt k i.y.toNat r1.2
   else if i.op=3 then bn t Bs C p Lt k i.x.toNat jn
   else if i.op=4 then bn t Bs C p Lt k (n+1) jn
   else if i.op=5 then (if i.pass t Bs p=true then bn t Bs C p Lt k (n+1) jn else (false,jn))
   else (false,jn)
  (r.1,⟨r.2.kn,r.2.nw.set n r.1⟩)
theorem Hi {l:List Bool}{n:Nat} (h:l[n]?=some false):Jb (l.set n true)+1=Jb l:=by
 unfold Jb
 have hn:=(List.getElem?_eq_some_iff.1 h).1
 have he:l[n]=false:=(List.getElem?_eq_some_iff.1 h).2
 have hp:0<l.count false:=List.count_pos_iff.2 (List.mem_of_getElem? h)
 rw[List.count_set hn,he]
 simp
 omega
theorem uH {l:List Bool}{n:Nat} (h:l[n]?=some false):0<Jb l:=List.count_pos_iff.2 (List.mem_of_getElem? h)
section
variable (t:List Int) (Bs:List (List Bool)) (C:List av) (p:Nat) (Lt:List Bool)
theorem kD:∀(k n:Nat) (st:HI),(bn t Bs C p Lt k n st).2.kn.length=st.kn.length/\(bn t Bs C p Lt k n st).2.nw.length=st.nw.length/\Jb (bn t Bs C p Lt k n st).2.kn<=Jb st.kn
 |0,_,_=>⟨rfl,rfl,Nat.le_refl _⟩
 |k+1,n,st=>by
  have ih:=kD k
  rw[bn]
  split
  ·exact⟨rfl,rfl,Nat.le_refl _⟩
  ·rename_i hk
   have h0:st.kn[n]?=some false:=by
    rw[List.getD_eq_getElem?_getD]at hk
    cases h:st.kn[n]? with
    |none=>rw[h]at hk;simp at hk
    |some b=>rw[h]at hk;cases b <;> simp_all
   have hu:=Hi h0
   simp only[List.length_set]
   have key:∀r:Bool×HI,(r.2.kn.length=(st.kn.set n true).length/\r.2.nw.length=st.nw.length/\Jb r.2.kn<=Jb (st.kn.set n true))->r.2.kn.length=st.kn.length/\r.2.nw.length=st.nw.length/\Jb r.2.kn<=Jb st.kn:=fun r h=>⟨by rw[h.1,List.length_set],h.2.1,by omega⟩
   refine key _ ?_
   split
   ·exact⟨rfl,rfl,Nat.le_refl _⟩
   split
   ·exact⟨rfl,rfl,Nat.le_refl _⟩
   split
   ·split
    ·exact ih _ _
    ·have a:=ih (db C n).x.toNat ⟨st.kn.set n true,st.nw⟩
     have b:=ih (db C n).y.toNat (bn t Bs C p Lt k (db C n).x.toNat ⟨st.kn.set n true,st.nw⟩).2
     exact⟨b.1.trans a.1,b.2.1.trans a.2.1,Nat.le_trans b.2.2 a.2.2⟩
   split
   ·exact ih _ _
   split
   ·exact ih _ _
   split
   ·split
    ·exact ih _ _
    ·exact⟨rfl,rfl,Nat.le_refl _⟩
   ·exact⟨rfl,rfl,Nat.le_refl _⟩
end
def bT (q:Nat) (l:List Bool):VL.Obj:=⟨q,true,1,l.map fun b=>[bV b]⟩
def cM (q k n:Nat):VL.Obj:=⟨q,true,1,[[.so k q 0 n]]⟩
def tG (g N:Nat):V:=.cl (.func 83) [] [.rf 4 0 0 0,.rf 6 1 0 0,.bx (.so 2 g 0 N),.rf 7 0 0 0,.rf 9 1 0 0,.rf 10 0 0 0]
def jo (t:List Int) (root parts:D) (bg nb:Nat) (Bs:List (List Bool)) (g b a:Nat) (C:List av) (p:Nat) (Lt:List Bool) (st:HI):List VL.Obj :=
 [cV t root parts bg nb,ez bg Bs,cr g b a C,bT 0 st.kn,cM 0 3 C.length,bT 1 st.nw,cM 1 5 C.length,⟨0,true,1,[[i64 p]]⟩,bT 1 Lt,cM 1 8 C.length,⟨0,true,1,[[tG g C.length]]⟩]
def cQ (g N n:Nat):List V:=[i64 n,.rf 4 0 0 0,.rf 6 1 0 0,.bx (.so 2 g 0 N),.rf 7 0 0 0,.rf 9 1 0 0,.rf 10 0 0 0]
theorem Aw (ρ:List Nat) (b a:Nat) (x:Option (Re×Nat)):aJ (0::ρ) (bQ b a x)=bQ b a x:=by
 cases x with
 |none=>rfl
 |some x =>
  obtain⟨re,k⟩:=x
  unfold bQ
  simp only
  split
  ·rfl
  ·split <;> rfl
theorem Eg (n b a:Nat) (hn:0<n) (x:Option (Re×Nat)):ah n (bQ b a x)=true:=by
 cases x with
 |none=>rfl
 |some x =>
  obtain⟨re,k⟩:=x
  unfold bQ
  simp only
  split
  ·simp [ah,ah.go,mB,nB,hn]
  ·split <;> simp [ah,ah.go,mB,nB,hn]
theorem iI (ρ:List Nat) (g b a:Nat) (C:List av):aP (0::ρ) (cr g b a C)=cr g b a C:=by
 unfold aP cr
 simp only[List.map_map]
 congr 1
 apply List.map_congr_left
 intro i _
 simp [av.cells,Aw,aJ,aJ.go,i64]
theorem iP (n g b a:Nat) (hn:0<n) (C:List av):aQ n (cr g b a C)=true:=by
 unfold aQ cr
 rw[List.all_eq_true]
 intro e he
 obtain⟨i,_,rfl⟩:=List.mem_map.1 he
 simp [av.cells,Eg n b a hn,ah,i64]
theorem uI (ρ:List Nat) (q:Nat) (l:List Bool):aP ρ (bT q l)=bT q l:=by
 unfold aP bT
 simp only[List.map_map]
 congr 1
theorem xN (n q:Nat) (l:List Bool):aQ n (bT q l)=true:=by
 unfold aQ bT
 rw[List.all_eq_true]
 intro e he
 obtain⟨i,_,rfl⟩:=List.mem_map.1 he
 rfl
theorem er (ρ:List Nat) (bg:Nat) (Bs:List (List Bool)):aP ρ (ez bg Bs)=ez bg Bs:=by
 unfold aP ez
 simp only[List.map_map]
 congr 1
section
variable (t:List Int) (root parts:D) (bg nb:Nat) (Bs:List (List Bool)) (g b a:Nat) (C:List av) (p:Nat) (Lt:List Bool)
theorem H7 (st:HI):(jo t root parts bg nb Bs g b a C p Lt st).map (aP [0,1,2,3,4,5,6,7,8,9,10])=jo t root parts bg nb Bs g b a C p Lt st:=by
 simp only[jo,List.map_cons,List.map_nil,iI,uI,er]
 simp [aP,cV,cM,tG,aJ,aJ.go,i64]
theorem Ph (st:HI):(jo t root parts bg nb Bs g b a C p Lt st).all (aQ 11)=true:=by
 have:=fe 11 bg Bs
 simp only[jo,List.all_cons,List.all_nil,iP 11 _ _ _ (by omega),xN,Bool.and_true]
 simp [aQ,cV,cM,tG,ah,ah.go,i64,this]
def Tr (k:Nat):Prop:=∀(n:Nat) (st:HI),n<C.length->st.kn.length=C.length->st.nw.length=C.length->Jb st.kn<=k ->
 aq Try.prog 83 (cQ g C.length n) (jo t root parts bg nb Bs g b a C p Lt st) fun v s=>v=bV (bn t Bs C p Lt (k+1) n st).1/\s=jo t root parts bg nb Bs g b a C p Lt (bn t Bs C p Lt (k+1) n st).2
variable {t root parts bg nb Bs g b a C p Lt}
theorem ke {k n:Nat}{st:HI} (h:Tr t root parts bg nb Bs g b a C p Lt k) (hn:n<C.length) (h1:st.kn.length=C.length) (h2:st.nw.length=C.length) (hu:Jb st.kn<=k) {tl:List VL.Obj}{K:V->List VL.Obj->Prop}
  (hk:K (bV (bn t Bs C p Lt (k+1) n st).1) (jo t root parts bg nb Bs g b a C p Lt (bn t Bs C p Lt (k+1) n st).2++tl)) :
  aq Try.prog 83 (cQ g C.length n) (jo t root parts bg nb Bs g b a C p Lt st++tl) K:=by
 have hr:=H7 t root parts bg nb Bs g b a C p Lt st
 refine dk [0,1,2,3,4,5,6,7,8,9,10] (h n st hn h1 h2 hu) (by decide) rfl ?_ (by rfl) (by rfl) (Ph t root parts bg nb Bs g b a C p Lt st) (r':=bV (bn t Bs C p Lt (k+1) n st).1) rfl ?_
 ·have h2:(jo t root parts bg nb Bs g b a C p Lt st).map (fun o=>some (aP [0,1,2,3,4,5,6,7,8,9,10] o))=((jo t root parts bg nb Bs g b a C p Lt st).map (aP [0,1,2,3,4,5,6,7,8,9,10])).map some:=by rw[List.map_map];rfl
  rw[h2,hr]
  rfl
 ·rw[H7]
  exact hk
end
end Go.Proofs.Ytfmdmlfhigocaaa
namespace Go.VL
def lU (k g:Nat) (x:V):V->V
 |.rf id g' i off=>if id=k/\g'=g/\i=0/\off=0 then .bx x else .rf id g' i off
 |.so id g' lo n=>.so id g' lo n
 |.pp id g' i off b a=>.pp id g' i off b a
 |.mp id g'=>.mp id g'
 |.ag cs=>.ag (go cs)
 |.tu cs=>.tu (go cs)
 |.bx v=>.bx (lU k g x v)
 |.cap lo hi v=>.cap lo hi (lU k g x v)
 |.cl fn first ai=>.cl fn (go first) (go ai)
 |.d y=>.d y
 |.fu au=>.fu au
 |.un=>.un
 |.any=>.any
where go:List V->List V
 |[]=>[]
 |v::vs=>lU k g x v::go vs
theorem BQ (k g:Nat) (x:V):∀(l:List V),lU.go k g x l=l.map (lU k g x)
 |[]=>rfl
 |v::vs=>by simp [lU.go,BQ k g x vs]
def GP (k g:Nat) (v:V) (s:List Obj):List Obj:=(bS s k).map fun o=>{ o with au:=o.au.map fun c=>c.map (lU k g v) }
section
variable {σ:Gh}{s:List Obj}{w:World}{k:Nat}{o:Obj}{v:V}
theorem aw.R9 (hI:Inv σ s w) (ho:s[k]?=some o) (hl:o.live=true) (fv:o.au=[[v]]) {u:Value} (hr:aw σ s w (.rf k o.g 0 0) u):aw σ (bS s k) w (.bx v) u:=by
 obtain⟨h1,h2⟩:=qa hI k
 cases hr with|rf o' gE hg hu hk=>?_
 rw[ho]at gE;cases gE
 obtain⟨b,base,hs,hc,rfl⟩:=hk rfl
 rcases hI.content k o ho with h0|⟨b',bp,arr,E,k1,k2,k3,k4,k5⟩
 ·exact(h0.xr hs hc).elim
 rw[hs]at k1;cases k1
 obtain⟨u',g1,g2,g3⟩:=k5 0 0 v (by rw[fv];rfl)
 have nL:w.cell? ⟨b,base+0*o.sz+0,none⟩=some u':=by
  simp only[World.cell?,k2]
  simpa using g1
 refine .bx rfl nL ?_ g2 (g3.aO h1)
 rintro (hb|⟨id,o2,wW,l1,l2,l3⟩)
 ·exact hI.apart k o b base ho hs hb
 ·obtain⟨o3,m1,_,_,_,m5⟩:=hU l1
  have:id=k:=hI.inj id k o3 o b wW base m1 ho (m5 l2) l3 hs
  subst this
  unfold bS at l1
  rw[ho]at l1
  simp only at l1
  rw[List.getElem?_set_self (List.getElem?_eq_some_iff.1 ho).1]at l1
  cases l1
  cases l2
theorem aw.M0 (hI:Inv σ s w) (ho:s[k]?=some o) (hl:o.live=true) (fv:o.au=[[v]]) {x:V}{u:Value} (hr:aw σ s w x u):aw σ (bS s k) w (lU k o.g v x) u:=by
 have hE:=(qa hI k).1
 have yA:∀b,Own σ (bS s k) b->Own σ s b:=by
  rintro b (h|⟨id,p,base,h1,h2,h3⟩)
  ·exact .inl h
  ·obtain⟨p',m1,_,_,_,m5⟩:=hU h1
   exact .inr ⟨id,p',base,m1,m5 h2,h3⟩
 have g:∀(cs:List V) (i:Nat) (y:V),(cs.map (lU k o.g v))[i]?=some y->∃x,cs[i]?=some x/\lU k o.g v x=y:=fun cs i y hy=>by
  rw[List.getElem?_map]at hy
  exact Option.map_eq_some_iff.1 hy
 induction hr with
 |d hx=>exact(aw.d hx).aO hE
 |fu hx=>exact(aw.fu hx).aO hE
 |un=>exact .un
 |any=>exact .any
 |ag h1 h2 _ ih =>
  simp only[lU,BQ]
  refine .ag (by simpa using h1) (fun i y hy=>?_) (fun i y hy=>?_)
  ·obtain⟨x,hx,rfl⟩:=g _ i y hy;exact h2 i x hx
  ·obtain⟨x,hx,rfl⟩:=g _ i y hy;exact ih i x hx
 |tu h1 _ ih =>
  simp only[lU,BQ]
  refine .tu (by simpa using h1) (fun i y hy=>?_)
  obtain⟨x,hx,rfl⟩:=g _ i y hy;exact ih i x hx
 |bx h1 h2 h3 hu _ ih =>
  simp only[lU]
  exact .bx h1 h2 (fun h'=>h3 (yA _ h')) hu ih
 |cap h1 _ ih=>simp only[lU];exact .cap h1 ih
 |cl h1 _ h3 _ u9 u5 =>
  simp only[lU,BQ]
  refine .cl (by simpa using h1) (fun i y hy=>?_) (by simpa using h3) (fun i y hy=>?_)
  ·obtain⟨x,hx,rfl⟩:=g _ i y hy;exact u9 i x hx
  ·obtain⟨x,hx,rfl⟩:=g _ i y hy;exact u5 i x hx
 |so o ho hg hu hk=>exact(aw.so o ho hg hu hk).aO hE
 |pp o ho hg hk=>exact(aw.pp o ho hg hk).aO hE
 |mp o ho hg hu hk=>exact(aw.mp o ho hg hu hk).aO hE
 |@rf _ _ _ _ u o2 KM hg hu hk =>
  simp only[lU]
  split
  ·rename_i h
   obtain⟨rfl,rfl,rfl,rfl⟩:=h
   exact aw.R9 hI ho hl fv (.rf o2 KM hg hu hk)
  ·exact(aw.rf o2 KM hg hu hk).aO hE
theorem KO (hI:Inv σ s w) (ho:s[k]?=some o) (hl:o.live=true) (fv:o.au=[[v]]):aA σ s w σ (GP k o.g v s) w/\Inv σ (GP k o.g v s) w/\∀{x:V}{u:Value},aw σ s w x u->aw σ (GP k o.g v s) w (lU k o.g v x) u:=by
 obtain⟨Lj,MD⟩:=qa hI k
 have get:∀(id:Nat) (p:Obj),(GP k o.g v s)[id]?=some p->∃o',(bS s k)[id]?=some o'/\p={ o' with au:=o'.au.map fun c=>c.map (lU k o.g v) }:=by
  intro id p hp
  unfold GP at hp
  rw[List.getElem?_map]at hp
  obtain⟨o',h1,h2⟩:=Option.map_eq_some_iff.1 hp
  exact⟨o',h1,h2.symm⟩
 have zE:aA σ (bS s k) w σ (GP k o.g v s) w:=by
  refine⟨rfl,rfl,rfl,Nat.le_refl _,fun _ _ _=>rfl,fun _ arr _ _ h=>⟨arr,h,rfl⟩,fun _ _ h=>h,fun b hb=>.inl ?_,fun id p hp=>?_,rfl,fun _ _ _=>rfl⟩
  ·rcases hb with h|⟨id,p,base,h1,h2,h3⟩
   ·exact .inl h
   ·obtain⟨o',k1,rfl⟩:=get id p h1
    exact .inr ⟨id,o',base,k1,h2,h3⟩
  ·exact⟨{ p with au:=p.au.map fun c=>c.map (lU k o.g v) },by unfold GP;rw[List.getElem?_map,hp];rfl,Nat.le_refl _,fun _=>⟨rfl,rfl⟩⟩
 refine⟨Lj.trans zE,⟨fun id p hp=>?_,fun i i' p p' b base bp h1 h2 h3 h4 h5=>?_,hI.low,fun i p b base h1 h2=>?_⟩,fun hr=>(hr.M0 hI ho hl fv).aO zE⟩
 ·obtain⟨o',k1,rfl⟩:=get id p hp
  obtain⟨o2,k2,q1,q2,q3,_⟩:=hU k1
  rcases hI.content id o2 k2 with (⟨h1,h2⟩|⟨b,es,c,h1,h2,h3⟩)|⟨b,base,arr,E,h1,h2,h3,h4,h5⟩
  ·exact .inl (.inl ⟨h1,by simp [q3,h2]⟩)
  ·refine .inl (.inr ⟨b,es,c,h1,h2,?_⟩)
   simp only[q3,h3,eB,List.map_map]
   apply List.map_congr_left
   intro e _
   rfl
  ·refine .inr ⟨b,base,arr,E,h1,h2,fun c hc=>?_,by rw[<- q2,<- q3]at h4;simpa using h4,fun i j x hx=>?_⟩
   ·obtain⟨c',HS,rfl⟩:=List.mem_map.1 hc
    rw[q3]at HS
    simpa [q2]using h3 c' HS
   ·simp only[List.getElem?_map]at hx
    rw[q3]at hx
    cases hi:o2.au[i]? with
    |none=>simp [hi]at hx
    |some c =>
     simp only[hi,Option.map_some,Option.bind_some,List.getElem?_map]at hx
     obtain⟨y,hy,rfl⟩:=Option.map_eq_some_iff.1 hx
     obtain⟨u,g1,g2,g3⟩:=h5 i j y (by simp [hi,hy])
     refine⟨u,?_,g2,(g3.M0 hI ho hl fv).aO zE⟩
     show arr[base+i*o'.sz+j]?=some u
     rw[q2];exact g1
 ·obtain⟨p1,k1,rfl⟩:=get _ _ h1
  obtain⟨YP,l1,rfl⟩:=get _ _ h2
  exact MD.inj i i' p1 YP b base bp k1 l1 h3 h4 h5
 ·obtain⟨p1,k1,rfl⟩:=get _ _ h1
  exact MD.apart i p1 b base k1 h2
theorem HO {P:Program}{f:FuncId}{args:List V}{K:V->List Obj->Prop} (k:Nat) (ho:s[k]?=some o) (hl:o.live=true) (fv:o.au=[[v]]) (h:aq P f (args.map (lU k o.g v)) (GP k o.g v s) K):aq P f args s K:=by
 refine⟨h.1,fun σ w vals hI hlen hv=>?_⟩
 obtain⟨hE,im,hR⟩:=KO hI ho hl fv
 refine(h.2 σ w vals im (by simpa using hlen) fun i x hx=>?_).mono fun e w' ⟨u,v,σ',s',h1,h2,h3,h4,h5⟩=>⟨u,v,σ',s',h1,hE.trans h2,h3,h4,h5⟩
 rw[List.getElem?_map]at hx
 obtain⟨y,hy,rfl⟩:=Option.map_eq_some_iff.1 hx
 exact hR (hv i y hy)
theorem bZ.bx {e:Env} (k:Nat) (ho:s[k]?=some o) (hl:o.live=true) (fv:o.au=[[v]]):bZ e s (fun t=>lU k o.g v (e t)) (GP k o.g v s):=by
 intro σ0 s0 w0 σ w N a hE hI hR
 obtain⟨sR,im,nI⟩:=KO hI ho hl fv
 exact⟨σ,hE.trans sR,im,hR.1,hR.2.1,fun t=>nI (hR.2.2 t)⟩
end
end Go.VL
namespace Go.VL
inductive QM (lim:Nat) (s:List Obj):V->V->Prop
 |RB {x y:V}:bh lim s x=some y->QM lim s x y
 |aR {x:V}:ah lim x=true->QM lim s x x
 |ag {cs ds:List V}:ds.length=cs.length->(∀(i:Nat) (x y:V),cs[i]?=some x->ds[i]?=some y->QM lim s x y)->QM lim s (.ag cs) (.ag ds)
 |tu {cs ds:List V}:ds.length=cs.length->(∀(i:Nat) (x y:V),cs[i]?=some x->ds[i]?=some y->QM lim s x y)->QM lim s (.tu cs) (.tu ds)
end Go.VL
