/- A part of the proof (O5 O6 Vre Vzs Vzt). -/
import Derived.Test.YtjjfioalgbecmaaGreatOQ26
set_option linter.unusedSimpArgs false
set_option linter.unusedVariables false
set_option maxRecDepth 100000
set_option maxHeartbeats 80000000
namespace Go.Proofs.YtjjfioalgbecmaaGreat
open Go.VL
variable{l:List Bool}
structure aq where
 op:Int
 x:Int
 y:Int
 n:Int
 node:Option (Re×Nat)
def mB (b a:Nat):V:=.bx (.pp 0 0 0 0 b a)
def nB (re:Re) (k:Nat):V:=.bx (.d (re.bk k))
def cj (b a:Nat):Option (Re×Nat)->V
 |none=>.d (.sc .nilFunc)
 |some (re,k)=>if re.op=1 then .cl (.func 65) [] [mB b a,nB re k] else if re.op=11 then .cl (.func 67) [] [nB re k,mB b a] else .cl (.func 69) [] [mB b a,nB re k]
def aq.cells (b a:Nat) (i:aq):List V:=[i64 i.op,i64 i.x,i64 i.y,i64 i.n,cj b a i.node]
def cN (g b a:Nat) (C:List aq):VL.Obj:=⟨g,true,5,C.map (aq.cells b a)⟩
def aq.pass (t:List Int) (Bs:List (List Bool)) (i:aq) (p:Nat):Bool:=match i.node with
 |none=>false
 |some (re,k)=>if re.op=1 then decide ((p:Int)<t.length)&&ED re.set (mG t p) else if re.op=11 then bL re.n t p else (Bs.getD k []).getD p false
def e9 (C:List aq) (n:Nat):aq:=C.getD n ⟨0,0,0,0,none⟩
structure nj (t:List Int) (Bs:List (List Bool)) (C:List aq):Prop where
 len:C.length<=100000
 ops:∀n,n<C.length->0<=(e9 C n).op/\(e9 C n).op<=5
 set:∀n,n<C.length->(e9 C n).op=1->∃re k,(e9 C n).node=some (re,k)/\re.op=1/\re.set.length<=1000000
 ask:∀n,n<C.length->(e9 C n).op=5->∃re k,(e9 C n).node=some (re,k)/\re.op≠1/\(re.op=11->0<=re.n/\re.n<=5)/\(re.op≠11->∃l,Bs[k]?=some l/\l.length=t.length+1)
 split:∀n,n<C.length->(e9 C n).op=2->0<=(e9 C n).x/\(e9 C n).x<C.length/\0<=(e9 C n).y/\(e9 C n).y<C.length
 jump:∀n,n<C.length->(e9 C n).op=3->0<=(e9 C n).x/\(e9 C n).x<C.length
 next:∀n,n<C.length->(e9 C n).op=1\/(e9 C n).op=4\/(e9 C n).op=5->n+1<C.length
structure P9 where
 kn:List Bool
 nw:List Bool
def Ql (l:List Bool):Nat:=l.count false
def bC (t:List Int) (Bs:List (List Bool)) (C:List aq) (p:Nat) (Lt:List Bool):Nat->Nat->P9->Bool×P9
 |0,_,st=>(false,st)
 |k+1,n,st =>
  if st.kn.getD n true=true then (st.nw.getD n false,st) else
  let bF:P9:=⟨st.kn.set n true,st.nw⟩
  let i:=e9 C n;let r:Bool×P9 :=
   if i.op=0 then (true,bF)
   else if i.op=1 then (i.pass t Bs p&&Lt.getD (n+1) false,bF)
   else if i.op=2 then
    let r1:=bC t Bs C p Lt k i.x.toNat bF
    if r1.1=true then r1 else bC t Bs C p Lt k i.y.toNat r1.2
   else if i.op=3 then bC t Bs C p Lt k i.x.toNat bF
   else if i.op=4 then bC t Bs C p Lt k (n+1) bF
   else if i.op=5 then (if i.pass t Bs p=true then bC t Bs C p Lt k (n+1) bF else (false,bF))
   else (false,bF)
  (r.1,⟨r.2.kn,r.2.nw.set n r.1⟩)
theorem N0{n:Nat} (h:l[n]?=some false):Ql (l.set n true)+1=Ql l:=by unfold Ql;have hn:=(List.getElem?_eq_some_iff.1 h).1;have he:l[n]=false:=(List.getElem?_eq_some_iff.1 h).2;have hp:0<l.count false:=List.count_pos_iff.2 (List.mem_of_getElem? h);rw[List.count_set hn,he];simp;omega
theorem yu{n:Nat} (h:l[n]?=some false):0<Ql l:=List.count_pos_iff.2 (List.mem_of_getElem? h)
section
variable (t:List Int) (Bs:List (List Bool)) (C:List aq) (p:Nat) (Lt:List Bool)
theorem mO:∀(k n:Nat) (st:P9),(bC t Bs C p Lt k n st).2.kn.length=st.kn.length/\(bC t Bs C p Lt k n st).2.nw.length=st.nw.length/\Ql (bC t Bs C p Lt k n st).2.kn<=Ql st.kn
 |0,_,_=>⟨rfl,rfl,ajZ _⟩
 |k+1,n,st=>by
  have ih:=mO k;rw[bC];split
  ·exact⟨rfl,rfl,ajZ _⟩
  ·rename_i hk;have h0:st.kn[n]?=some false:=by
    rw[List.getD_eq_getElem?_getD]at hk;cases h:st.kn[n]? with
    |none=>rw[h]at hk;simp at hk
    |some b=>rw[h]at hk;cases b <;> simp_all
   have hu:=N0 h0;simp only[aj8];have key:∀r:Bool×P9,(r.2.kn.length=(st.kn.set n true).length/\r.2.nw.length=st.nw.length/\Ql r.2.kn<=Ql (st.kn.set n true))->r.2.kn.length=st.kn.length/\r.2.nw.length=st.nw.length/\Ql r.2.kn<=Ql st.kn:=λr h=>⟨by rw[h.1,aj8],h.2.1,ae⟩
   refine key _ ?_;split
   ·exact⟨rfl,rfl,ajZ _⟩
   split
   ·exact⟨rfl,rfl,ajZ _⟩
   split
   ·split
    ·exact ih _ _
    ·have a:=ih (e9 C n).x.toNat ⟨st.kn.set n true,st.nw⟩;have b:=ih (e9 C n).y.toNat (bC t Bs C p Lt k (e9 C n).x.toNat ⟨st.kn.set n true,st.nw⟩).2;exact⟨b.1.trans a.1,b.2.1.trans a.2.1,akS b.2.2 a.2.2⟩
   split
   ·exact ih _ _
   split
   ·exact ih _ _
   split
   ·split
    ·exact ih _ _
    ·exact⟨rfl,rfl,ajZ _⟩
   ·exact⟨rfl,rfl,ajZ _⟩
end
def cq (q:Nat) (l:List Bool):VL.Obj:=⟨q,true,1,l.map λb=>[bV b]⟩
def dm (q k n:Nat):VL.Obj:=⟨q,true,1,[[.so k q 0 n]]⟩
def xP (g N:Nat):V:=.cl (.func 97) [] [.rf 4 0 0 0,.rf 6 1 0 0,.bx (.so 2 g 0 N),.rf 7 0 0 0,.rf 9 1 0 0,.rf 10 0 0 0]
def kY (t:List Int) (root parts:D) (bg nb:Nat) (Bs:List (List Bool)) (g b a:Nat) (C:List aq) (p:Nat) (Lt:List Bool) (st:P9):List VL.Obj :=
 [dz t root parts bg nb,fx bg Bs,cN g b a C,cq 0 st.kn,dm 0 3 C.length,cq 1 st.nw,dm 1 5 C.length,⟨0,true,1,[[i64 p]]⟩,cq 1 Lt,dm 1 8 C.length,⟨0,true,1,[[xP g C.length]]⟩]
def dv (g N n:Nat):List V:=[i64 n,.rf 4 0 0 0,.rf 6 1 0 0,.bx (.so 2 g 0 N),.rf 7 0 0 0,.rf 9 1 0 0,.rf 10 0 0 0]
theorem F9 (ρ:List Nat) (b a:Nat) (x:Option (Re×Nat)):aE (0::ρ) (cj b a x)=cj b a x:=by
 cases x with
 |none=>rfl
 |some x =>
  obtain⟨re,k⟩:=x;unfold cj;simp only;split
  ·rfl
  ·split <;> rfl
theorem KB (n b a:Nat) (hn:0<n) (x:Option (Re×Nat)):aj n (cj b a x)=true:=by
 cases x with
 |none=>rfl
 |some x =>
  obtain⟨re,k⟩:=x;unfold cj;simp only;split
  ·simp [aj,aj.go,mB,nB,hn]
  ·split <;> simp [aj,aj.go,mB,nB,hn]
theorem ko (ρ:List Nat) (g b a:Nat) (C:List aq):aN (0::ρ) (cN g b a C)=cN g b a C:=by unfold aN cN;simp only[akq];congr 1;apply akz;intro i _;simp [aq.cells,F9,aE,aE.go,i64]
theorem kv (n g b a:Nat) (hn:0<n) (C:List aq):aK n (cN g b a C)=true:=by unfold aK cN;rw[aj3];intro e he;obtain⟨i,_,rfl⟩:=List.mem_map.1 he;simp [aq.cells,KB n b a hn,aj,i64]
theorem yv (ρ:List Nat) (q:Nat) (l:List Bool):aN ρ (cq q l)=cq q l:=by unfold aN cq;simp only[akq];congr 1
theorem BY (n q:Nat) (l:List Bool):aK n (cq q l)=true:=by unfold aK cq;rw[aj3];intro e he;obtain⟨i,_,rfl⟩:=List.mem_map.1 he;rfl
theorem fr (ρ:List Nat) (bg:Nat) (Bs:List (List Bool)):aN ρ (fx bg Bs)=fx bg Bs:=by unfold aN fx;simp only[akq];congr 1
section
variable (t:List Int) (root parts:D) (bg nb:Nat) (Bs:List (List Bool)) (g b a:Nat) (C:List aq) (p:Nat) (Lt:List Bool)
theorem O4 (st:P9):(kY t root parts bg nb Bs g b a C p Lt st).map (aN [0,1,2,3,4,5,6,7,8,9,10])=kY t root parts bg nb Bs g b a C p Lt st:=by simp only[kY,ajR,ajV,ko,yv,fr];simp [aN,dz,dm,xP,aE,aE.go,i64]
theorem Yb (st:P9):(kY t root parts bg nb Bs g b a C p Lt st).all (aK 11)=true:=by have:=gu 11 bg Bs;simp only[kY,aks,akB,kv 11 _ _ _ ae,BY,aj4];simp [aK,dz,dm,xP,aj,aj.go,i64,this]
def EOK (k:Nat):Prop:=∀(n:Nat) (st:P9),n<C.length->st.kn.length=C.length->st.nw.length=C.length->Ql st.kn<=k ->
 ar Tryz.prog 97 (dv g C.length n) (kY t root parts bg nb Bs g b a C p Lt st) λv s=>v=bV (bC t Bs C p Lt (k+1) n st).1/\s=kY t root parts bg nb Bs g b a C p Lt (bC t Bs C p Lt (k+1) n st).2
variable {t root parts bg nb Bs g b a C p Lt}
theorem mu {k n:Nat}{st:P9} (h:EOK t root parts bg nb Bs g b a C p Lt k) (hn:n<C.length) (h1:st.kn.length=C.length) (h2:st.nw.length=C.length) (hu:Ql st.kn<=k) {tl:List VL.Obj}{K:V->List VL.Obj->Prop}
  (hk:K (bV (bC t Bs C p Lt (k+1) n st).1) (kY t root parts bg nb Bs g b a C p Lt (bC t Bs C p Lt (k+1) n st).2++tl)) :
  ar Tryz.prog 97 (dv g C.length n) (kY t root parts bg nb Bs g b a C p Lt st++tl) K:=by
 have hr:=O4 t root parts bg nb Bs g b a C p Lt st;refine cV [0,1,2,3,4,5,6,7,8,9,10] (h n st hn h1 h2 hu) aU rfl ?_ cB cB (Yb t root parts bg nb Bs g b a C p Lt st) (r':=bV (bC t Bs C p Lt (k+1) n st).1) rfl ?_
 ·have h2:(kY t root parts bg nb Bs g b a C p Lt st).map (λo=>some (aN [0,1,2,3,4,5,6,7,8,9,10] o))=((kY t root parts bg nb Bs g b a C p Lt st).map (aN [0,1,2,3,4,5,6,7,8,9,10])).map some:=by rw[akq];rfl
  rw[h2,hr];rfl
 ·rw[O4];exact hk
end
end Go.Proofs.YtjjfioalgbecmaaGreat
namespace Go.VL
def nZ (k g:Nat) (x:V):V->V
 |.rf id g' i off=>if id=k/\g'=g/\i=0/\off=0 then .bx x else .rf id g' i off
 |.so id g' lo n=>.so id g' lo n
 |.pp id g' i off b a=>.pp id g' i off b a
 |.mp id g'=>.mp id g'
 |.ag cs=>.ag (go cs)
 |.tu cs=>.tu (go cs)
 |.bx v=>.bx (nZ k g x v)
 |.cap lo hi v=>.cap lo hi (nZ k g x v)
 |.cl fn first ai=>.cl fn (go first) (go ai)
 |.d y=>.d y
 |.fu au=>.fu au
 |.un=>.un
 |.any=>.any
where go:List V->List V
 |[]=>[]
 |v::vs=>nZ k g x v::go vs
theorem HS (k g:Nat) (x:V):∀(l:List V),nZ.go k g x l=l.map (nZ k g x)
 |[]=>rfl
 |v::vs=>by simp [nZ.go,HS k g x vs]
def Ng (k g:Nat) (v:V) (s:List Obj):List Obj:=(ck s k).map λo=>{ o with au:=o.au.map λc=>c.map (nZ k g v) }
section
variable {σ:Gh}{s:List Obj}{w:World}{k:Nat}{o:Obj}{v:V}
variable{u:Value}
theorem ay.aba (hI:Inv σ s w) (ho:s[k]?=some o) (hl:o.live=true) (gD:o.au=[[v]]) (hr:ay σ s w (.rf k o.g 0 0) u):ay σ (ck s k) w (.bx v) u:=by
 obtain⟨h1,h2⟩:=tJ hI k;cases hr with|rf o' g7 hg hu hk=>?_
 rw[ho]at g7;cases g7;obtain⟨b,base,hs,hc,rfl⟩:=hk rfl;rcases hI.content k o ho with h0|⟨b',bN,arr,E,k1,k2,k3,k4,k5⟩
 ·exact(h0.yF hs hc).elim
 rw[hs]at k1;cases k1;obtain⟨u',g1,g2,g3⟩:=k5 0 0 v (by rw[gD];rfl);have qx:w.cell? ⟨b,base+0*o.sz+0,none⟩=some u':=by simp only[World.cell?,k2];simpa using g1
 refine .bx rfl qx ?_ g2 (g3.aR h1);rintro (hb|⟨id,o2,A4,l1,l2,l3⟩)
 ·exact hI.apart k o b base ho hs hb
 ·obtain⟨o3,m1,_,_,_,m5⟩:=jK l1;have:id=k:=hI.inj id k o3 o b A4 base m1 ho (m5 l2) l3 hs;subst this;unfold ck at l1;rw[ho]at l1;simp only at l1;rw[List.getElem?_set_self (List.getElem?_eq_some_iff.1 ho).1]at l1;cases l1;cases l2
theorem ay.Vn (hI:Inv σ s w) (ho:s[k]?=some o) (hl:o.live=true) (gD:o.au=[[v]]) {x:V} (hr:ay σ s w x u):ay σ (ck s k) w (nZ k o.g v x) u:=by
 have hE:=(tJ hI k).1;have CU:∀b,Own σ (ck s k) b->Own σ s b:=by
  rintro b (h|⟨id,p,base,h1,h2,h3⟩)
  ·exact .inl h
  ·obtain⟨p',m1,_,_,_,m5⟩:=jK h1;exact .inr ⟨id,p',base,m1,m5 h2,h3⟩
 have g:∀(cs:List V) (i:Nat) (y:V),(cs.map (nZ k o.g v))[i]?=some y->∃x,cs[i]?=some x/\nZ k o.g v x=y:=λcs i y hy=>by rw[List.getElem?_map]at hy;exact Option.map_eq_some_iff.1 hy
 induction hr with
 |d hx=>exact(ay.d hx).aR hE
 |fu hx=>exact(ay.fu hx).aR hE
 |un=>exact .un
 |any=>exact .any
 |ag h1 h2 _ ih =>
  simp only[nZ,HS];refine .ag (by simpa using h1) (λi y hy=>?_) (λi y hy=>?_)
  ·obtain⟨x,hx,rfl⟩:=g _ i y hy;exact h2 i x hx
  ·obtain⟨x,hx,rfl⟩:=g _ i y hy;exact ih i x hx
 |tu h1 _ ih =>
  simp only[nZ,HS];refine .tu (by simpa using h1) (λi y hy=>?_);obtain⟨x,hx,rfl⟩:=g _ i y hy;exact ih i x hx
 |bx h1 h2 h3 hu _ ih =>
  simp only[nZ];exact .bx h1 h2 (λh'=>h3 (CU _ h')) hu ih
 |cap h1 _ ih=>simp only[nZ];exact .cap h1 ih
 |cl h1 _ h3 _ sM xr =>
  simp only[nZ,HS];refine .cl (by simpa using h1) (λi y hy=>?_) (by simpa using h3) (λi y hy=>?_)
  ·obtain⟨x,hx,rfl⟩:=g _ i y hy;exact sM i x hx
  ·obtain⟨x,hx,rfl⟩:=g _ i y hy;exact xr i x hx
 |so o ho hg hu hk=>exact(ay.so o ho hg hu hk).aR hE
 |pp o ho hg hk=>exact(ay.pp o ho hg hk).aR hE
 |mp o ho hg hu hk=>exact(ay.mp o ho hg hu hk).aR hE
 |@rf _ _ _ _ u o2 SB hg hu hk =>
  simp only[nZ];split
  ·rename_i h;obtain⟨rfl,rfl,rfl,rfl⟩:=h;exact ay.aba hI ho hl gD (.rf o2 SB hg hu hk)
  ·exact(ay.rf o2 SB hg hu hk).aR hE
theorem SD (hI:Inv σ s w) (ho:s[k]?=some o) (hl:o.live=true) (gD:o.au=[[v]]):aC σ s w σ (Ng k o.g v s) w/\Inv σ (Ng k o.g v s) w/\∀{x:V}{u:Value},ay σ s w x u->ay σ (Ng k o.g v s) w (nZ k o.g v x) u:=by
 obtain⟨Qh,Rn⟩:=tJ hI k;have get:∀(id:Nat) (p:Obj),(Ng k o.g v s)[id]?=some p->∃o',(ck s k)[id]?=some o'/\p={ o' with au:=o'.au.map λc=>c.map (nZ k o.g v) }:=by intro id p hp;unfold Ng at hp;rw[List.getElem?_map]at hp;obtain⟨o',h1,h2⟩:=Option.map_eq_some_iff.1 hp;exact⟨o',h1,h2.symm⟩
 have Cf:aC σ (ck s k) w σ (Ng k o.g v s) w:=by
  refine⟨rfl,rfl,rfl,ajZ _,λ_ _ _=>rfl,λ_ arr _ _ h=>⟨arr,h,rfl⟩,λ_ _ h=>h,λb hb=>.inl ?_,λid p hp=>?_,rfl,λ_ _ _=>rfl⟩
  ·rcases hb with h|⟨id,p,base,h1,h2,h3⟩
   ·exact .inl h
   ·obtain⟨o',k1,rfl⟩:=get id p h1;exact .inr ⟨id,o',base,k1,h2,h3⟩
  ·exact⟨{ p with au:=p.au.map λc=>c.map (nZ k o.g v) },by unfold Ng;rw[List.getElem?_map,hp];rfl,ajZ _,λ_=>⟨rfl,rfl⟩⟩
 refine⟨Qh.trans Cf,⟨λid p hp=>?_,λi i' p p' b base bN h1 h2 h3 h4 h5=>?_,hI.low,λi p b base h1 h2=>?_⟩,λhr=>(hr.Vn hI ho hl gD).aR Cf⟩
 ·obtain⟨o',k1,rfl⟩:=get id p hp;obtain⟨o2,k2,q1,q2,q3,_⟩:=jK k1;rcases hI.content id o2 k2 with (⟨h1,h2⟩|⟨b,es,c,h1,h2,h3⟩)|⟨b,base,arr,E,h1,h2,h3,h4,h5⟩
  ·exact .inl (.inl ⟨h1,by simp [q3,h2]⟩)
  ·refine .inl (.inr ⟨b,es,c,h1,h2,?_⟩);simp only[q3,h3,fz,akq];apply akz;intro e _;rfl
  ·refine .inr ⟨b,base,arr,E,h1,h2,λc hc=>?_,by rw[<- q2,<- q3]at h4;simpa using h4,λi j x hx=>?_⟩
   ·obtain⟨c',Rl,rfl⟩:=List.mem_map.1 hc;rw[q3]at Rl;simpa [q2]using h3 c' Rl
   ·simp only[List.getElem?_map]at hx;rw[q3]at hx;cases hi:o2.au[i]? with
    |none=>simp [hi]at hx
    |some c =>
     simp only[hi,ajS,akA,List.getElem?_map]at hx;obtain⟨y,hy,rfl⟩:=Option.map_eq_some_iff.1 hx;obtain⟨u,g1,g2,g3⟩:=h5 i j y (by simp [hi,hy]);refine⟨u,?_,g2,(g3.Vn hI ho hl gD).aR Cf⟩;show arr[base+i*o'.sz+j]?=some u;rw[q2];exact g1
 ·obtain⟨p1,k1,rfl⟩:=get _ _ h1;obtain⟨p1',l1,rfl⟩:=get _ _ h2;exact Rn.inj i i' p1 p1' b base bN k1 l1 h3 h4 h5
 ·obtain⟨p1,k1,rfl⟩:=get _ _ h1;exact Rn.apart i p1 b base k1 h2
theorem OD {P:Program}{f:FuncId}{args:List V}{K:V->List Obj->Prop} (k:Nat) (ho:s[k]?=some o) (hl:o.live=true) (gD:o.au=[[v]]) (h:ar P f (args.map (nZ k o.g v)) (Ng k o.g v s) K):ar P f args s K:=by
 refine⟨h.1,λσ w vals hI hlen hv=>?_⟩;obtain⟨hE,fS,hR⟩:=SD hI ho hl gD;refine(h.2 σ w vals fS (by simpa using hlen) λi x hx=>?_).mono λe w' ⟨u,v,σ',s',h1,h2,h3,h4,h5⟩=>⟨u,v,σ',s',h1,hE.trans h2,h3,h4,h5⟩
 rw[List.getElem?_map]at hx;obtain⟨y,hy,rfl⟩:=Option.map_eq_some_iff.1 hx;exact hR (hv i y hy)
theorem bW.bx {e:Env} (k:Nat) (ho:s[k]?=some o) (hl:o.live=true) (gD:o.au=[[v]]):bW e s (λt=>nZ k o.g v (e t)) (Ng k o.g v s):=by intro σ0 s0 w0 σ w N a hE hI hR;obtain⟨nE,fS,iY⟩:=SD hI ho hl gD;exact⟨σ,hE.trans nE,fS,hR.1,hR.2.1,λt=>iY (hR.2.2 t)⟩
end
variable{w:World}{t:TypeId}{ty:TypeId}{P:Program}{s:List Obj}{K:V->List Obj->Prop}{e:Nat->V}{N:Nat}{d:Option Nat}{full:List Oper}{rest:List Oper}{pos:String}{af:Array Edge}{Q:Exit->Env->List Obj->Prop}{M:Nat}{R:List Nat}{L:Nat}{id:Nat}{ops:Array Oper}{a:Operand}{b:Code}{c:Code}{g:Option (Nat×Bool)}{x:Operand}{t':TypeId}
def qm (P:Program) (t:TypeId) (a x:V) (s:List Obj) (K:V->List Obj->Prop):Prop :=
 match iL P t with
 |none=>False
 |some (_,i)=>match il s x with
  |none=>False
  |some ns=>((∀e∈ns,e.length=i.sz)/\0<i.sz/\0<i.A3/\0<ns.length)/\match a with
   |.so id g lo n=>tE s id g λo=>(o.live=true/\o.sz=i.sz/\lo+n<=o.au.length/\(n+ns.length)*i.A3<=140737488355328) /\
     K (.so id g lo (n+ns.length)) (s.set id ⟨g,true,i.sz,o.au.take (lo+n)++ns++o.au.drop (lo+n+ns.length)⟩) /\
     K (.so s.length 0 0 (n+ns.length)) (s++[⟨0,true,i.sz,(o.au.drop lo).take n++ns⟩])
   |_=>False
theorem FG{a x:V}{ua ux:Value}{σ:Gh} (hI:Inv σ s w) (ha:ay σ s w a ua) (hx:ay σ s w x ux)
  (h:qm P t a x s K):∃v r σ' s' w',(Builtin.append_ #[t,t] ty #[ua,ux]).run P w=.ok r w'/\aC σ s w σ' s' w'/\Inv σ' s' w'/\ay σ' s' w' v r/\K v s':=by
 unfold qm at h;split at h
 ·exact h.elim
 rename_i e i hti;obtain⟨hu,hi⟩:=jD hti;split at h
 ·exact h.elim
 rename_i ns uu;obtain⟨⟨hz,lX,Zs,UT⟩,h⟩:=h;obtain⟨ti,d,z,k1,k2,k3,k4,k5,k6,k7,k8,k9⟩:=gj hi;obtain⟨ax,qV,rfl,yC,V8,news,n1,n2,n3,n4⟩:=hU hI hx uu hz;have HC:z.cells.size=i.sz:=by rw[<- ala,k6,k7]
 have sg:Src P ti.size t (.slice ax ns.length qV) ns.length news w:=by
  rw[k4];cases ax with
  |none =>
   have:ns=[]:=yC rfl;subst this;simp at UT
  |some ad=>exact Src.ofSlice w hu ad ns.length qV news n1 (n3 ad rfl) n2
 obtain⟨Pb,UX⟩:=mW hI;split at h
 case h_2=>exact h.elim
 rename_i id g lo n;obtain⟨o,ho,hg,⟨qB,CY,hlo,hb⟩,hA,hB⟩:=dS h;have gD:il s (.so id g lo n)=some ((o.au.drop lo).take n):=by simp [il,ho,hg,hlo]
 have ke:((o.au.drop lo).take n).length=n:=cC;have Vo:∀e∈o.au,e.length=i.sz:=by
  intro e vV;rcases hI.content _ o ho with h0|⟨b,base,arr,E,h1,h2,h3,h4,h5⟩
  ·cases ha with|so o' g7 CK JC hk=>?_
   rw[ho]at g7;cases g7;rcases hk hg with ⟨kA,_⟩|⟨b,bs,cp,E,arr,dM,hh,_⟩
   ·rw[h0.B0 kA]at vV;cases vV
   ·exact(h0.yF dM ⟨arr,E,hh⟩).elim
  ·rw[<- CY];exact h3 e vV
 have Rm:∀e∈(o.au.drop lo).take n,e.length=i.sz:=λe he=>Vo e (ak1 (akv he));obtain⟨base,cap,yS,a1,a2,je,o1,o2,o3,o4⟩:=hU hI ha gD Rm;rw[ke]at yS a2;cases ha with|so o' g7 CK JC hk=>?_
 rw[ho]at g7;cases g7;have sT:=hk hg;by_cases oU:cap<n+ns.length
 ·
  have hold:(Builtin.firstCells ti.size n (.slice base n cap)).run P w.drew=.ok je.toArray w.drew:=by
   rw[k4];cases base with
   |none =>
    have he:(o.au.drop lo).take n=[]:=a1 rfl;rw[he]at o1 ke;have gp:n=0:=by simpa using ke.symm
    have hn:je=[]:=akj (by simpa using o1);subst gp hn;exact run_firstCells_none w.drew i.sz 0 0 cap
   |some ad=>exact run_firstCells_some w.drew i.sz n ad n cap je (by rw[o1,ke]) (by simpa using o3 ad rfl)
  have hle:n+ns.length<=(n+ns.length)*i.A3:=Nat.le_mul_of_pos_right _ Zs;have dZ:=run_append_grow_src (P:=P) w t t ty e ti z hu k1 k3 base n cap je hold (.slice ax ns.length qV) ns.length news sg oU ae (growslice_fits oU (by rw[k5];exact hb));have gx:=grownCap_ge w (n+ns.length) cap e;subst yS;generalize grownCap w (n+ns.length) cap e=lA at *;have eZ:((je++news).toArray++Builtin.zeroCells z.cells (lA - (n+ns.length))).size=lA*i.sz:=by simp only[Array.size_append,List.size_toArray,size_zeroCells,ajQ,o1,n1,HC,ke];rw[<- akx,<- akx];congr 1;omega
  have dO:∀(i' j:Nat) (y:V),(((o.au.drop lo).take n++ns)[i']?.bind (·[j]?))=some y->∃c,((je++news).toArray++Builtin.zeroCells z.cells (lA - (n+ns.length)))[i'*i.sz+j]?=some c/\c.oneCell'=true/\ay σ s w y c:=by intro i' j y hy;obtain⟨c,c1,c2,c3⟩:=pH o1 o4 n4 i' j y hy;exact⟨c,zY c1,c2,c3⟩
  generalize (je++news).toArray++Builtin.zeroCells z.cells (lA - (n+ns.length))=arr at *;have:=pG (au:=(o.au.drop lo).take n++ns) (sz:=i.sz) (arr:=arr) UX e (λe he=>(List.mem_append.1 he).elim (Rm e) (hz e)) (by rw[eZ,ajQ,ke];exact akk _ gx)
   (λi' j y hy=>let ⟨c,c1,c2,c3⟩:=dO i' j y hy;⟨c,c1,c2,c3.aR Pb⟩)
  refine⟨_,_,_,_,_,dZ,Pb.trans this.1,this.2,?_,hB⟩;exact .so ⟨0,true,i.sz,(o.au.drop lo).take n++ns⟩ ak (ajZ _) ⟨_,_,rfl⟩ (λ_=>.inr ⟨w.heap.size,0,lA,e,arr,bP _ _ _,heap_alloc_new w.drew _,ak,gx,by simp [eZ]⟩)
 ·
  have ud:n+ns.length<=cap:=ae;rcases sT with ⟨kA,⟨aa,pW⟩,rfl,rfl⟩|⟨b,bs,cp,E,arr,dM,hh,pW,yT,hfit⟩
  ·rw[yS]at pW;simp only[Value.slice.injEq]at pW;omega
  rw[yS]at pW;simp only[Value.slice.injEq]at pW;obtain⟨rfl,_,rfl⟩:=pW;subst yS;generalize i.sz=Z at *;subst CY;obtain⟨bb,bs',aeR,E2,q1,q2,q3,q4,q5⟩:∃b base arr E,σ id=some (b,base)/\w.heap[b]?=some (.cells arr E (0,0))/\(∀e∈o.au,e.length=o.sz)/\base+o.au.length*o.sz<=arr.size /\
    ∀i j x,(o.au[i]?.bind (·[j]?))=some x->∃u,arr[base+i*o.sz+j]?=some u/\u.oneCell'=true/\ay σ s w x u:=by
   rcases hI.content _ o ho with h0|h0
   ·exact(h0.yF dM ⟨arr,E,hh⟩).elim
   ·exact h0
  rw[dM]at q1;simp only[ajU,akn]at q1;obtain⟨rfl,rfl⟩:=q1;rw[hh]at q2;simp only[ajU,Go.Obj.cells.injEq]at q2;obtain⟨rfl,rfl,_⟩:=q2;generalize hS:bs+(lo+n)*o.sz=S at *;have X1:bs+lo*o.sz+n*o.sz=S:=by rw[<- hS,akx];omega
  have hq:S+news.length<=arr.size:=by rw[n1,<- hS];have e1:(lo+cap)*o.sz=lo*o.sz+cap*o.sz:=akx _ _ _;have e2:=akk o.sz ud;rw[akx]at e2;rw[akx];omega
  have bH:=run_storeCells_at P b S E news 0 arr w hh ae n2;simp only[ak0]at bH;generalize lG:(arr.toList.take S++news++arr.toList.drop (S+news.length)).toArray=bR at bH;have ie:bR.size=arr.size:=by rw[<- lG];simp;omega
  have hlS:(arr.toList.take S).length=S:=cC;have az:∀p,p<S->bR[p]?=arr[p]?:=by intro p hp;rw[<- lG,List.getElem?_toArray,aj7,List.getElem?_append_left cC,List.getElem?_take,be hp,Array.getElem?_toList]
  have wF:∀q,q<news.length->bR[S+q]?=news[q]?:=by intro q XJ;rw[<- lG,List.getElem?_toArray,aj7,List.getElem?_append_right ae,hlS,List.getElem?_append_left ae];congr 1;omega
  have Zx:∀p,S+news.length<=p->bR[p]?=arr[p]?:=by intro p hp;rw[<- lG,List.getElem?_toArray,aj7,List.getElem?_append_right ae,hlS,List.getElem?_append_right ae,List.getElem?_drop,Array.getElem?_toList];congr 1;omega
  have Qw:∀e∈o.au.take (lo+n)++ns++o.au.drop (lo+n+ns.length),e.length=o.sz:=by
   intro e he;rcases List.mem_append.1 he with he|he
   ·rcases List.mem_append.1 he with he|he
    ·exact Vo e (akv he)
    ·exact hz e he
   ·exact Vo e (ak1 he)
  have VQ:bs+(o.au.take (lo+n)++ns++o.au.drop (lo+n+ns.length)).length*o.sz<=arr.size:=by
   have hl:(o.au.take (lo+n)++ns++o.au.drop (lo+n+ns.length)).length=max (lo+n+ns.length) o.au.length:=by simp only[ajQ,akH,List.length_drop];omega
   rw[hl];rcases Nat.le_total (lo+n+ns.length) o.au.length with h'|h'
   ·rw[Nat.max_eq_right h'];exact q4
   ·rw[Nat.max_eq_left h'];have e3:(lo+n+ns.length)*o.sz<=(lo+cap)*o.sz:=akk _ ae;omega
  have:=lQ (p:=some (b,bs)) (o':=⟨g,true,o.sz,o.au.take (lo+n)++ns++o.au.drop (lo+n+ns.length)⟩) (w':=w.setRow b bR) hI ho qB rfl rfl rfl ak
   (λb1 _ eU=>setRow_other w b b1 bR (λe=>eU bs (by rw[dM,e])))
   (λb1 jb Vt E1 he Mm=>by
    rw[dM]at he;cases he;rw[hh]at Mm;cases Mm;exact⟨bR,setRow_heap w b arr bR E (0,0) hh,ie⟩)
   (λb1 jb he hm=>by
    rw[dM]at he;cases he;exact(FM.notM ⟨arr,E,hh⟩ hm).elim)
   n6 (λ_=>⟨rfl,dM.symm⟩) (λb1 jb he=>by cases he;exact .inl ⟨bs,dM⟩)
   (λhE=>.inr ⟨b,bs,bR,E,rfl,setRow_heap w b arr bR E (0,0) hh,Qw,by rw[ie];exact VQ,λi' j y hy=>by
    simp only at hy ⊢;obtain⟨el,sE,hj⟩:∃el,(o.au.take (lo+n)++ns++o.au.drop (lo+n+ns.length))[i']?=some el/\el[j]?=some y:=by
     cases XJ:(o.au.take (lo+n)++ns++o.au.drop (lo+n+ns.length))[i']? with
     |none=>rw[XJ]at hy;cases hy
     |some el=>rw[XJ]at hy;exact⟨el,rfl,hy⟩
    have hjl:j<o.sz:=by have:=(List.getElem?_eq_some_iff.1 hj).1;rwa [Qw el (List.mem_of_getElem? sE)]at this
    have Kb:(o.au.take (lo+n)).length=lo+n:=cC;by_cases c1:i'<lo+n
    ·rw[aj7,List.getElem?_append_left ae,List.getElem?_take,be c1]at sE;obtain⟨u,u1,u2,u3⟩:=q5 i' j y (by rw[sE];exact hj);have iC:(i'+1)*o.sz<=(lo+n)*o.sz:=akk _ ae;rw[akx,Nat.one_mul]at iC;exact⟨u,by rw[az _ ae];exact u1,u2,u3.aR hE⟩
    ·by_cases c2:i'<lo+n+ns.length
     ·rw[aj7,List.getElem?_append_right ae,Kb,List.getElem?_append_left ae]at sE;obtain⟨c,d1,d2,d3⟩:=n4 (i' - (lo+n)) j y (by rw[sE];exact hj);have hql:=(List.getElem?_eq_some_iff.1 d1).1;have V5:bs+i'*o.sz+j=S+((i' - (lo+n))*o.sz+j):=by
       rw[<- hS,aky bs,<- aky bs,aky,aky];have:i'*o.sz=(lo+n)*o.sz+(i' - (lo+n))*o.sz:=by rw[<- akx];congr 1;omega
       omega
      exact⟨c,by rw[V5,wF _ hql];exact d1,d2,d3.aR hE⟩
     ·rw[List.getElem?_append_right (by simp only[ajQ,Kb];omega),List.getElem?_drop]at sE;have he2:o.au[i']?=some el:=by rw[<- sE];congr 1;simp only[ajQ,Kb];omega
      obtain⟨u,u1,u2,u3⟩:=q5 i' j y (by rw[he2];exact hj);have iC:(lo+n+ns.length)*o.sz<=i'*o.sz:=akk _ ae;rw[akx]at iC;exact⟨u,by rw[Zx _ (by rw[n1];omega)];exact u1,u2,u3.aR hE⟩⟩)
  have hup:nA σ id (some (b,bs)) id=some (b,bs):=bP _ _ _;refine⟨_,.slice (some ⟨b,bs+lo*o.sz,none⟩) (n+ns.length) cap,_,_,w.setRow b bR,?_,this.1,this.2,?_,hA⟩
  ·have jV:=sg.cells;rw[k4]at jV;rw[<- X1]at bH;simp [Builtin.append_,run_underlying hu,sizeOf,typeInfo,k1,Builtin.lenOf,ud,jV,k4,Addr.add_lit,bH]
  ·exact .so ⟨g,true,o.sz,o.au.take (lo+n)++ns++o.au.drop (lo+n+ns.length)⟩ (by simp [(List.getElem?_eq_some_iff.1 ho).1]) (ajZ _) ⟨_,_,rfl⟩
    (λ_=>.inr ⟨b,bs,cap,E,bR,hup,setRow_heap w b arr bR E (0,0) hh,rfl,ud,by rw[ie];exact hfit⟩)
def lL (P:Program) (o:Oper) (e:Env) (s:List Obj) (K:V->List Obj->Prop):Prop :=
 match o.op with
 |.call c=>match c.callee,c.args.toList,c.argTypes.toList with
  |.builtin .append,[a,x],[t,t']=>t=t'/\qm P t (ev e a) (ev e x) s K
  |_,_,_=>cz P o e s K
 |_=>cz P o e s K
theorem Kx{o:Oper}{σ:Gh}{a:Act} (hI:Inv σ s w) (hR:dC σ s w N e a) (h:lL P o e s K):tz P o σ s w a K:=by
 unfold lL at h;split at h
 ·rename_i c hc;split at h
  ·rename_i x y t t' h0 h1 h2;obtain⟨dst,op,ty,pos,after,guard⟩:=o;simp only at hc;subst hc;obtain⟨callee,args,argTypes⟩:=c;simp only at h0 h1 h2;subst h0;have e1:args=#[x,y]:=by rw[<- h1]
   have e2:argTypes=#[t,t']:=by rw[<- h2]
   subst e1 e2;obtain⟨rfl,h⟩:=h;obtain⟨v,r,σ',s',w',k1,k2,k3,k4,k5⟩:=FG (ty:=ty) hI (hR.ev x) (hR.ev y) h;exact eD (by simp [execOp,resolve,invoke,builtin,k1]) k2 k3 k4 k5
  ·exact rU hI hR h
 ·exact rU hI hR h
def nU (P:Program) (N:Nat) (full:List Oper):List Oper->Env->List Obj->(Env->List Obj->Prop)->Prop
 |[],e,s,K=>K e s
 |o::rest,e,s,K=>dQ N o.dst/\match o.guard with
  |none=>lL P o e s λv s'=>nU P N full rest (gP e o.dst v) s' K
  |some (g,want)=>kq (lR full g) e want (λe=>lL P o e s λv s'=>nU P N full rest (gP e o.dst v) s' K) (λe=>nU P N full rest (gP e o.dst .un) s K)
theorem sd {P:Program}{N:Nat}{full:List Oper}{σ0:Gh}{s0:List Obj}{w0:World}{Q:Exit->Env->List Obj->Prop}:∀(l:List Oper) (e:Env) (s:List Obj) (σ:Gh) (w:World) (a:Act),
  aC σ0 s0 w0 σ s w->Inv σ s w->dC σ s w N e a->nU P N full l e s (λe s=>Q .normal e s)->wpList P full.toArray (QX σ0 s0 w0 N Q) l a w
 |[],e,s,σ,w,a,hE,hI,hR,h=>⟨e,σ,s,hE,hI,hR,h⟩
 |o::rest,e,s,σ,w,a,hE,hI,hR,h=>by
  obtain⟨hd,h⟩:=h;have run:∀e,dC σ s w N e a->(lL P o e s λv s'=>nU P N full rest (gP e o.dst v) s' λe s=>Q .normal e s)->o.wp P a w (wpList P full.toArray (QX σ0 s0 w0 N Q) rest) (QX σ0 s0 w0 N Q):=by intro e hR h;refine Oper.wp_mono (λa' w' ⟨u,v,σ',s',ha,nE,fS,iY,hK⟩=>?_) (Oper.Wh (Kx hI hR h));subst ha;exact sd rest _ s' σ' w' _ (hE.trans nE) fS ((hR.aR nE).put hd iY) hK
  unfold wpList;split at h
  ·rename_i hg;rw[be (by simp [Region.wanted,hg])];exact .inl (run e hR h)
  ·rename_i g want hg;obtain⟨e',iY,⟨h1,h2⟩|⟨h1,h2⟩⟩:=rT hR hg h
   ·rw[be h1];exact .inl (run e' iY h2)
   ·rw[ap (by rw[h1];decide)];exact sd rest _ s σ w _ hE hI (iY.put hd .un) h2
def c7 (P:Program) (N L M:Nat) (R:List Nat):Code->(Exit->Env->List Obj->Prop)->Env->List Obj->Prop
 |.skip,Q,e,s=>Q .normal e s
 |.region id ops draw,Q,e,s=>match draw with
  |false=>if R.contains id=true then nU P N ops.toList ops.toList e s λe s=>Q .normal e s else ng P N ops.toList ops.toList e s λe s=>Q .normal e s
  |true=>oC P N ops.toList e s λe s=>Q .normal e s
 |.seq a b,Q,e,s=>c7 P N L M R a (qI (c7 P N L M R b Q) Q) e s
 |.cond c a b,Q,e,s=>pS (ev e c) (c7 P N L M R a Q (mU M e) s) (c7 P N L M R b Q (mU M e) s)
 |.block id c,Q,e,s=>c7 P N L M R c (HJ id Q) e s
 |.loop c,Q,e,s=>RF L (c7 P N L M R c) Q e s
 |.exit id,Q,e,s=>Q (.exit id) e s
 |.ret,Q,e,s=>Q .ret e s
 |_,_,_,_=>False
def WZ (P:Program) (N:Nat) (full rest:List Oper) (e:Env) (d:Option Nat) (K:Env->List Obj->Prop) (v:V) (s:List Obj):Prop:=nU P N full rest (gP e d v) s K
theorem GF{e:Env}{K:Env->List Obj->Prop}{v:V}:WZ P N full rest e d K v s=nU P N full rest (gP e d v) s K:=(rfl)
theorem J7{e:Env}{K:Env->List Obj->Prop}:nU P N full [] e s K=K e s:=(rfl)
theorem Gk{op:Op}{e:Env}{K:Env->List Obj->Prop}:nU P N full (⟨d,op,ty,pos,af,none⟩::rest) e s K=(dQ N d/\lL P ⟨d,op,ty,pos,af,none⟩ e s (WZ P N full rest e d K)):=(rfl)
theorem Dd{e:Env}:c7 P N L M R .skip Q e s=Q .normal e s:=(rfl)
theorem rL{e:Env}:c7 P N L M R (.region id ops false) Q e s=(if R.contains id=true then nU P N ops.toList ops.toList e s (Qn Q) else ng P N ops.toList ops.toList e s (Qn Q)):=(rfl)
theorem Dj{e:Env}:c7 P N L M R (.region id ops true) Q e s=oC P N ops.toList e s (Qn Q):=(rfl)
theorem za{e:Env}{a:Code}:c7 P N L M R (.seq a b) Q e s=c7 P N L M R a (qI (c7 P N L M R b Q) Q) e s:=(rfl)
theorem CD{e:Env}{c:Operand}{a:Code}:c7 P N L M R (.cond c a b) Q e s=mb (ev e c) (c7 P N L M R a Q) (c7 P N L M R b Q) (mU M e) s:=(rfl)
theorem A0{e:Env}:c7 P N L M R (.block id c) Q e s=c7 P N L M R c (HJ id Q) e s:=(rfl)
theorem C5{e:Env}:c7 P N L M R (.exit id) Q e s=Q (.exit id) e s:=(rfl)
theorem GX{e:Env}:c7 P N L M R .ret Q e s=Q .ret e s:=(rfl)
theorem LO:lL P ⟨d,.move x,ty,pos,af,g⟩ e s K=cz P ⟨d,.move x,ty,pos,af,g⟩ e s K:=(rfl)
theorem Cx:lL P ⟨d,.assign x,ty,pos,af,g⟩ e s K=cz P ⟨d,.assign x,ty,pos,af,g⟩ e s K:=(rfl)
theorem NV:lL P ⟨d,.nilCheck x,ty,pos,af,g⟩ e s K=cz P ⟨d,.nilCheck x,ty,pos,af,g⟩ e s K:=(rfl)
theorem vP{f:Nat}:lL P ⟨d,.fieldAddr t x f,ty,pos,af,g⟩ e s K=cz P ⟨d,.fieldAddr t x f,ty,pos,af,g⟩ e s K:=(rfl)
theorem Lw:lL P ⟨d,.load t a,ty,pos,af,g⟩ e s K=cz P ⟨d,.load t a,ty,pos,af,g⟩ e s K:=(rfl)
theorem tO{n:Nat}{parts:Array (Nat×Operand)}:lL P ⟨d,.buildSlice t n parts,ty,pos,af,g⟩ e s K=cz P ⟨d,.buildSlice t n parts,ty,pos,af,g⟩ e s K:=(rfl)
theorem vU{i:Operand}:lL P ⟨d,.indexAddr t x i,ty,pos,af,g⟩ e s K=cz P ⟨d,.indexAddr t x i,ty,pos,af,g⟩ e s K:=(rfl)
theorem Ox{op:BinOp}{y:Operand}:lL P ⟨d,.binOp op t x y t',ty,pos,af,g⟩ e s K=cz P ⟨d,.binOp op t x y t',ty,pos,af,g⟩ e s K:=(rfl)
theorem Kj{op:UnOp}:lL P ⟨d,.unOp op t x,ty,pos,af,g⟩ e s K=cz P ⟨d,.unOp op t x,ty,pos,af,g⟩ e s K:=(rfl)
theorem Ga:lL P ⟨d,.store t a x,ty,pos,af,g⟩ e s K=cz P ⟨d,.store t a x,ty,pos,af,g⟩ e s K:=(rfl)
theorem Kh{f:Operand}{args:Array Operand}{E7:Array TypeId}:lL P ⟨d,.call ⟨.value f,args,E7⟩,ty,pos,af,g⟩ e s K=cz P ⟨d,.call ⟨.value f,args,E7⟩,ty,pos,af,g⟩ e s K:=(rfl)
theorem Ow:lL P ⟨d,.call ⟨.builtin .len,#[x],#[t]⟩,ty,pos,af,g⟩ e s K=cz P ⟨d,.call ⟨.builtin .len,#[x],#[t]⟩,ty,pos,af,g⟩ e s K:=(rfl)
theorem DW:lL P ⟨d,.call ⟨.builtin .append,#[a,x],#[t,t']⟩,ty,pos,af,g⟩ e s K=(t=t'/\qm P t (ev e a) (ev e x) s K):=(rfl)
abbrev E6:=am @GF @J7 @Gk @Dd @rL @Dj @za<|am @CD @A0 @C5 @GX @LO @Cx @NV<|am @vP @Lw @tO @vU @Ox @Kj @Ga<|And.intro @Kh<|And.intro @Ow @DW
theorem QI{a:Code}{e:Env} (J:Env->List Obj->Prop) (h1:∀(B:Env->List Obj->Prop),(∀e s,J e s->B e s)->c7 P N L M R a (qI B Q) e s) (h2:∀e s,J e s->c7 P N L M R b Q e s):c7 P N L M R (.seq a b) Q e s:=h1 _ h2
theorem DR{e:Env} (I:Nat->Env->List Obj->Prop) (h0:∃n e1 s1,bA L e s e1 s1/\I n e1 s1) (h:∀n e s,I n e s->c7 P N L M R c (qI (Xk L I n) Q) e s) :
  c7 P N L M R (.loop c) Q e s:=⟨I,h0,h⟩
theorem eL {P:Program}{N L M:Nat}{R:List Nat}{σ0:Gh}{s0:List Obj}{w0:World} (hL:s0.length<=L):∀(c:Code) (Q:Exit->Env->List Obj->Prop) (e:Env) (s:List Obj) (σ:Gh) (w:World) (a:Act),
  aC σ0 s0 w0 σ s w->Inv σ s w->dC σ s w N e a->c7 P N L M R c Q e s->c.wp P (QX σ0 s0 w0 N Q) a w
 |.skip,Q,e,s,σ,w,a,hE,hI,hR,h=>wp_skip ⟨e,σ,s,hE,hI,hR,h⟩
 |.region id ops false,Q,e,s,σ,w,a,hE,hI,hR,h=>by
  simp only[c7]at h;split at h
  ·refine wp_region_list ?_;have:=sd (Q:=Q) ops.toList e s σ w a hE hI hR h;simpa using this
  ·exact nt (M:=0) hL (.region id ops false) Q e s σ w a hE hI hR h
 |.region id ops true,Q,e,s,σ,w,a,hE,hI,hR,h=>by have:=(h σ0 s0 w0 Q (λ_ _ h=>h) σ w a id hE hI hR).wp hR.1;simpa using this
 |.seq x y,Q,e,s,σ,w,a,hE,hI,hR,h=>by
  refine wp_seq (wp_mono (eL hL x _ e s σ w a hE hI hR h) λex a' w' ⟨e',σ',s',nE,fS,iY,hq⟩=>?_);cases ex with
  |normal=>exact eL hL y Q e' s' σ' w' a' nE fS iY hq
  |_=>exact⟨e',σ',s',nE,fS,iY,hq⟩
 |.cond c x y,Q,e,s,σ,w,a,hE,hI,hR,h=>by
  simp only[c7,pS]at h;split at h
  ·rename_i hb;have hc:=hR.ev c;rw[hb]at hc;generalize uV:a.eval c=VH at hc;cases hc with|d hc=>?_
   cases hc with|ub b=>?_
   refine wp_cond_split uV (λht=>?_) (λhf=>?_)
   ·exact eL hL x Q _ s σ w a hE hI hR.trim h.1
   ·exact eL hL y Q _ s σ w a hE hI hR.trim h.2
  unfold gF at h;split at h
  ·rename_i b hb;have hc:=hR.ev c;rw[hb]at hc;generalize uV:a.eval c=VH at hc;cases hc with|d hc=>?_
   cases hc with|sc _ _=>?_
   refine wp_cond_split uV (λht=>?_) (λhf=>?_)
   ·exact eL hL x Q _ s σ w a hE hI hR.trim (h.1 ht)
   ·exact eL hL y Q _ s σ w a hE hI hR.trim (h.2 hf)
  ·exact h.elim
 |.block id c,Q,e,s,σ,w,a,hE,hI,hR,h=>by
  refine wp_block (wp_mono (eL hL c _ e s σ w a hE hI hR h) λex a' w' ⟨e',σ',s',nE,fS,iY,hq⟩=>?_);cases ex with
  |exit i =>
   simp only[Exit.inBlock];simp only[HJ]at hq;split
   ·rename_i hi;rw[be hi]at hq;exact⟨e',σ',s',nE,fS,iY,hq⟩
   ·rename_i hi;rw[ap hi]at hq;exact⟨e',σ',s',nE,fS,iY,hq⟩
  |_=>exact⟨e',σ',s',nE,fS,iY,hq⟩
 |.loop c,Q,e,s,σ,w,a,hE,hI,hR,h=>by
  obtain⟨I,⟨n0,e0,s0',OX,h0⟩,qL⟩:=h;obtain⟨σ,hE,hI,hR⟩:=OX σ0 s0 w0 σ w N a hL hE hI hR;let J:Nat->Act->World->Prop:=λn a w=>∃e σ s,aC σ0 s0 w0 σ s w/\Inv σ s w/\dC σ s w N e a/\I n e s;have least:∀a w,(∃n,J n a w)->∃n,J n a w/\∀m,J m a w->n<=m:=by
   intro a w ⟨n,hn⟩;induction n using Nat.strongRecOn with
   |_ n ih =>
    by_cases hm:∃m,m<n/\J m a w
    ·obtain⟨m,I5,hm2⟩:=hm;exact ih m I5 hm2
    ·exact⟨n,hn,λm hj=>by
      rcases akd m n with h'|h'
      ·exact absurd ⟨m,h',hj⟩ hm
      ·exact h'⟩
  classical
  let μ:Act->World->Nat:=λa w=>if h:∃n,J n a w then Classical.choose (least a w h) else 0;have hμ:∀a w,(∃n,J n a w)->J (μ a w) a w/\∀m,J m a w->μ a w<=m:=by intro a w h;simp only[μ,dif_pos h];exact Classical.choose_spec (least a w h)
  refine wp_loop (λa w=>∃n,J n a w) μ ⟨n0,e0,σ,s0',hE,hI,hR,h0⟩ λa w hJ=>?_;obtain⟨⟨e1,σ1,s1,Qh,Rn,Rg,hi⟩,_⟩:=hμ a w hJ;refine wp_mono (eL hL c _ e1 s1 σ1 w a Qh Rn Rg (qL _ _ _ hi)) λex a' w' ⟨e',σ',s',nE,fS,iY,hq⟩=>?_;cases ex with
  |normal =>
   obtain⟨m,e2,s2,hm,hc,hi'⟩:=hq;obtain⟨σ',nE,fS,iY⟩:=hc σ0 s0 w0 σ' w' N a' hL nE fS iY;have hj:J m a' w':=⟨e2,σ',s2,nE,fS,iY,hi'⟩
   exact⟨⟨m,hj⟩,Nat.lt_of_le_of_lt ((hμ a' w' ⟨m,hj⟩).2 m hj) hm⟩
  |_=>exact⟨e',σ',s',nE,fS,iY,hq⟩
 |.exit id,Q,e,s,σ,w,a,hE,hI,hR,h=>wp_exit ⟨e,σ,s,hE,hI,hR,h⟩
 |.ret,Q,e,s,σ,w,a,hE,hI,hR,h=>wp_ret ⟨e,σ,s,hE,hI,hR,h⟩
 |.rangeFunc ..,_,_,_,_,_,_,_,_,_,h=>h.elim
 |.scope _,_,_,_,_,_,_,_,_,_,h=>h.elim
 |.label _,_,_,_,_,_,_,_,_,_,h=>h.elim
 |.goto _,_,_,_,_,_,_,_,_,_,h=>h.elim
 |.refuse _,_,_,_,_,_,_,_,_,_,h=>h.elim
theorem XU {P : Program} {f : FuncId} {fn : Func} {c : Code} {args : List V} {exts : List Obj} {K : V → List Obj → Prop} (hf : P.funcs[f]? = some fn) (hb : fn.body = some c) {N : Nat} (hN : fn.ntmps = N) {rs : Array ResultVar} (St : fn.results = rs) (hn : (fn.name != "runtime.NumGoroutine") = true)
  (lim M:Nat) (R:List Nat) (hl:exts.length<=lim) (ha:args.length<=N)
  (h:c7 P N lim M R c (Wr P rs.toList lim K) (iB args) exts):ar P f args exts K:=by
 subst hN;subst St;refine⟨by simp only[LH,hf,hn,hb,Option.isSome_some,akV],λσ w vals hI XD hv=>?_⟩;refine calls_of_wp hf hb ?_;have hR:dC σ exts w fn.ntmps (iB args) { tmps:=vals++Array.replicate (fn.ntmps-vals.size) undef,defers:=[] }:=by
  refine⟨rfl,cC,λt=>?_⟩;rw[nR];by_cases ht:t<args.length
  ·have h1:=hv t args[t] (by simp [ht]);have:(vals++Array.replicate (fn.ntmps-vals.size) undef).getD t undef=vals.getD t undef:=by rw[Array.getD_eq_getD_getElem?,Array.getElem?_append_left ae,Array.getD_eq_getD_getElem?]
   rw[this];simpa [ht]using h1
  ·have:(vals++Array.replicate (fn.ntmps-vals.size) undef).getD t undef=undef:=by rw[Array.getD_eq_getD_getElem?,Array.getElem?_append_right ae,Array.getElem?_replicate];split <;> rfl
   rw[this];simp [ht];exact .un
 refine wp_mono (eL hl c _ (iB args) exts σ w _ (aC.refl _ _ _) hI hR h) λex a' w' ⟨e',σ',s',hE,fS,iY,hex,hq⟩=>?_;obtain⟨v,u,k1,k2,k3⟩:=mP fS iY hq;obtain⟨h1,h2⟩:=k3;have fin:a'.defers=[]/\∃v,(results fn a'.tmps).run P w'=.ok v w'/\∃u Tg wm rR,Ending.returned v=.returned u/\aC σ exts w wm rR w'/\Inv wm rR w'/\ay wm rR w' Tg u/\K Tg rR:=by
  refine⟨iY.1,u,k1,?_⟩;split at h2
  ·rename_i r' TW;exact⟨u,r',σ',s'.take lim,rfl,hE.take hl,fS.take h1,iO fS k2 TW,h2⟩
  ·exact h2.elim
 rcases qM hex with rfl|rfl
 ·exact fin
 ·exact fin
inductive ZF (lim:Nat) (s:List Obj):V->V->Prop
 |frz {x y:V}:bc lim s x=some y->ZF lim s x y
 |aZ {x:V}:aj lim x=true->ZF lim s x x
 |ag {cs ds:List V}:ds.length=cs.length->(∀(i:Nat) (x y:V),cs[i]?=some x->ds[i]?=some y->ZF lim s x y)->ZF lim s (.ag cs) (.ag ds)
 |tu {cs ds:List V}:ds.length=cs.length->(∀(i:Nat) (x y:V),cs[i]?=some x->ds[i]?=some y->ZF lim s x y)->ZF lim s (.tu cs) (.tu ds)
end Go.VL
