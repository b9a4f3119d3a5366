/- A part of the proof. -/
import Derived.Test.YtjjfioalgbecmaaGreatOA16
set_option linter.unusedSimpArgs false
set_option linter.unusedVariables false
set_option maxRecDepth 100000
set_option maxHeartbeats 80000000
namespace Go.Proofs.YtjjfioalgbecmaaGreat
open Go.VL
variable{l:List Bool}
structure aw where
 op:Int
 x:Int
 y:Int
 n:Int
 node:Option (Re×Nat)
def mB (b a:Nat):V:=.bx (.pp 0 0 0 0 b a)
def nB (re:Re) (k:Nat):V:=.bx (.d (re.bA k))
def cB (b a:Nat):Option (Re×Nat)->V
 |none=>.d (.sc .nilFunc)
 |some (re,k)=>if re.op=1 then .cl (.func 65) [] [mB b a,nB re k] else if re.op=11 then .cl (.func 67) [] [nB re k,mB b a] else .cl (.func 69) [] [mB b a,nB re k]
def aw.cells (b a:Nat) (i:aw):List V:=[i64 i.op,i64 i.x,i64 i.y,i64 i.n,cB b a i.node]
def db (g b a:Nat) (C:List aw):VL.Obj:=⟨g,true,5,C.map (aw.cells b a)⟩
def aw.pass (t:List Int) (Bs:List (List Bool)) (i:aw) (p:Nat):Bool:=match i.node with
 |none=>false
 |some (re,k)=>if re.op=1 then decide ((p:Int)<t.length)&&yP re.set (lK t p) else if re.op=11 then bY re.n t p else (Bs.getD k []).getD p false
def bH (C:List aw) (n:Nat):aw:=C.getD n ⟨0,0,0,0,none⟩
structure fz (t:List Int) (Bs:List (List Bool)) (C:List aw):Prop where
 len:C.length<=100000
 ops:∀n,n<C.length->0<=(bH C n).op/\(bH C n).op<=5
 set:∀n,n<C.length->(bH C n).op=1->∃re k,(bH C n).node=some (re,k)/\re.op=1/\re.set.length<=1000000
 ask:∀n,n<C.length->(bH C n).op=5->∃re k,(bH C n).node=some (re,k)/\re.op≠1/\(re.op=11->0<=re.n/\re.n<=5)/\(re.op≠11->∃l,Bs[k]?=some l/\l.length=t.length+1)
 split:∀n,n<C.length->(bH C n).op=2->0<=(bH C n).x/\(bH C n).x<C.length/\0<=(bH C n).y/\(bH C n).y<C.length
 jump:∀n,n<C.length->(bH C n).op=3->0<=(bH C n).x/\(bH C n).x<C.length
 next:∀n,n<C.length->(bH C n).op=1\/(bH C n).op=4\/(bH C n).op=5->n+1<C.length
structure Jc where
 kn:List Bool
 nw:List Bool
def JS (l:List Bool):Nat:=l.count false
def bF (t:List Int) (Bs:List (List Bool)) (C:List aw) (p:Nat) (Lt:List Bool):Nat->Nat->Jc->Bool×Jc
 |0,_,st=>(false,st)
 |k+1,n,st =>
  if st.kn.getD n true=true then (st.nw.getD n false,st) else
  let dI:Jc:=⟨st.kn.set n true,st.nw⟩
  let i:=bH C n;let r:Bool×Jc :=
   if i.op=0 then (true,dI)
   else if i.op=1 then (i.pass t Bs p&&Lt.getD (n+1) false,dI)
   else if i.op=2 then
    let r1:=bF t Bs C p Lt k i.x.toNat dI
    if r1.1=true then r1 else bF t Bs C p Lt k i.y.toNat r1.2
   else if i.op=3 then bF t Bs C p Lt k i.x.toNat dI
   else if i.op=4 then bF t Bs C p Lt k (n+1) dI
   else if i.op=5 then (if i.pass t Bs p=true then bF t Bs C p Lt k (n+1) dI else (false,dI))
   else (false,dI)
  (r.1,⟨r.2.kn,r.2.nw.set n r.1⟩)
theorem IS{n:Nat} (h:l[n]?=some false):JS (l.set n true)+1=JS l:=by unfold JS;have hn:=(List.getElem?_eq_some_iff.1 h).1;have he:l[n]=false:=(List.getElem?_eq_some_iff.1 h).2;have hp:0<l.count false:=List.count_pos_iff.2 (List.mem_of_getElem? h);rw[List.count_set hn,he];simp;omega
theorem zT{n:Nat} (h:l[n]?=some false):0<JS l:=List.count_pos_iff.2 (List.mem_of_getElem? h)
section
variable (t:List Int) (Bs:List (List Bool)) (C:List aw) (p:Nat) (Lt:List Bool)
theorem ir:∀(k n:Nat) (st:Jc),(bF t Bs C p Lt k n st).2.kn.length=st.kn.length/\(bF t Bs C p Lt k n st).2.nw.length=st.nw.length/\JS (bF t Bs C p Lt k n st).2.kn<=JS st.kn
 |0,_,_=>⟨rfl,rfl,ale _⟩
 |k+1,n,st=>by
  have ih:=ir k;rw[bF];split
  ·exact⟨rfl,rfl,ale _⟩
  ·rename_i hk;have h0:st.kn[n]?=some false:=by
    rw[List.getD_eq_getElem?_getD]at hk;cases h:st.kn[n]? with
    |none=>rw[h]at hk;simp at hk
    |some b=>rw[h]at hk;cases b <;> simp_all
   have hu:=IS h0;simp only[alu];have key:∀r:Bool×Jc,(r.2.kn.length=(st.kn.set n true).length/\r.2.nw.length=st.nw.length/\JS r.2.kn<=JS (st.kn.set n true))->r.2.kn.length=st.kn.length/\r.2.nw.length=st.nw.length/\JS r.2.kn<=JS st.kn:=λr h=>⟨by rw[h.1,alu],h.2.1,ae⟩
   refine key _ ?_;split
   ·exact⟨rfl,rfl,ale _⟩
   split
   ·exact⟨rfl,rfl,ale _⟩
   split
   ·split
    ·exact ih _ _
    ·have a:=ih (bH C n).x.toNat ⟨st.kn.set n true,st.nw⟩;have b:=ih (bH C n).y.toNat (bF t Bs C p Lt k (bH C n).x.toNat ⟨st.kn.set n true,st.nw⟩).2;exact⟨b.1.trans a.1,b.2.1.trans a.2.1,al7 b.2.2 a.2.2⟩
   split
   ·exact ih _ _
   split
   ·exact ih _ _
   split
   ·split
    ·exact ih _ _
    ·exact⟨rfl,rfl,ale _⟩
   ·exact⟨rfl,rfl,ale _⟩
end
def cF (q:Nat) (l:List Bool):VL.Obj:=⟨q,true,1,l.map λb=>[bV b]⟩
def dK (q k n:Nat):VL.Obj:=⟨q,true,1,[[.so k q 0 n]]⟩
def y8 (g N:Nat):V:=.cl (.func 97) [] [.rf 4 0 0 0,.rf 6 1 0 0,.bx (.so 2 g 0 N),.rf 7 0 0 0,.rf 9 1 0 0,.rf 10 0 0 0]
def lM (t:List Int) (root parts:D) (bg nb:Nat) (Bs:List (List Bool)) (g b a:Nat) (C:List aw) (p:Nat) (Lt:List Bool) (st:Jc):List VL.Obj :=
 [dV t root parts bg nb,fW bg Bs,db g b a C,cF 0 st.kn,dK 0 3 C.length,cF 1 st.nw,dK 1 5 C.length,⟨0,true,1,[[i64 p]]⟩,cF 1 Lt,dK 1 8 C.length,⟨0,true,1,[[y8 g C.length]]⟩]
def dP (g N n:Nat):List V:=[i64 n,.rf 4 0 0 0,.rf 6 1 0 0,.bx (.so 2 g 0 N),.rf 7 0 0 0,.rf 9 1 0 0,.rf 10 0 0 0]
theorem Hj (ρ:List Nat) (b a:Nat) (x:Option (Re×Nat)):aI (0::ρ) (cB b a x)=cB b a x:=by
 exact Zei
theorem LB (n b a:Nat) (hn:0<n) (x:Option (Re×Nat)):ak n (cB b a x)=true:=by
 cases x with
 |none=>rfl
 |some x =>
  obtain⟨re,k⟩:=x;unfold cB;simp only;split
  ·simp [ak,ak.go,mB,nB,hn]
  ·split <;> simp [ak,ak.go,mB,nB,hn]
theorem kL (ρ:List Nat) (g b a:Nat) (C:List aw):ba (0::ρ) (db g b a C)=db g b a C:=by unfold ba db;simp only[alH];congr 1;apply alK;intro i _;simp [aw.cells,Hj,aI,aI.go,i64]
theorem kR (n g b a:Nat) (hn:0<n) (C:List aw):aY n (db g b a C)=true:=by unfold aY db;rw[als];intro e he;obtain⟨i,_,rfl⟩:=List.mem_map.1 he;simp [aw.cells,LB n b a hn,ak,i64]
theorem zV (ρ:List Nat) (q:Nat) (l:List Bool):ba ρ (cF q l)=cF q l:=by unfold ba cF;simp only[alH];congr 1
theorem Dg (n q:Nat) (l:List Bool):aY n (cF q l)=true:=by unfold aY cF;rw[als];intro e he;obtain⟨i,_,rfl⟩:=List.mem_map.1 he;rfl
theorem fQ (ρ:List Nat) (bg:Nat) (Bs:List (List Bool)):ba ρ (fW bg Bs)=fW bg Bs:=by unfold ba fW;simp only[alH];congr 1
section
variable (t:List Int) (root parts:D) (bg nb:Nat) (Bs:List (List Bool)) (g b a:Nat) (C:List aw) (p:Nat) (Lt:List Bool)
theorem P0 (st:Jc):(lM t root parts bg nb Bs g b a C p Lt st).map (ba [0,1,2,3,4,5,6,7,8,9,10])=lM t root parts bg nb Bs g b a C p Lt st:=by simp only[lM,ak8,ak9,kL,zV,fQ];simp [ba,dV,dK,y8,aI,aI.go,i64]
theorem Zw (st:Jc):(lM t root parts bg nb Bs g b a C p Lt st).all (aY 11)=true:=by have:=hU 11 bg Bs;simp only[lM,alR,alW,kR 11 _ _ _ ae,Dg,alp];simp [aY,dV,dK,y8,ak,ak.go,i64,this]
def EOK (k:Nat):Prop:=∀(n:Nat) (st:Jc),n<C.length->st.kn.length=C.length->st.nw.length=C.length->JS st.kn<=k ->
 av Tryz.prog 97 (dP g C.length n) (lM t root parts bg nb Bs g b a C p Lt st) λv s=>v=bV (bF t Bs C p Lt (k+1) n st).1/\s=lM t root parts bg nb Bs g b a C p Lt (bF t Bs C p Lt (k+1) n st).2
variable {t root parts bg nb Bs g b a C p Lt}
theorem nj {k n:Nat}{st:Jc} (h:EOK t root parts bg nb Bs g b a C p Lt k) (hn:n<C.length) (h1:st.kn.length=C.length) (h2:st.nw.length=C.length) (hu:JS st.kn<=k) {tl:List VL.Obj}{K:V->List VL.Obj->Prop}
  (hk:K (bV (bF t Bs C p Lt (k+1) n st).1) (lM t root parts bg nb Bs g b a C p Lt (bF t Bs C p Lt (k+1) n st).2++tl)) :
  av Tryz.prog 97 (dP g C.length n) (lM t root parts bg nb Bs g b a C p Lt st++tl) K:=by
 have hr:=P0 t root parts bg nb Bs g b a C p Lt st;refine dD [0,1,2,3,4,5,6,7,8,9,10] (h n st hn h1 h2 hu) aF rfl ?_ eh eh (Zw t root parts bg nb Bs g b a C p Lt st) (r':=bV (bF t Bs C p Lt (k+1) n st).1) rfl ?_
 ·have h2:(lM t root parts bg nb Bs g b a C p Lt st).map (λo=>some (ba [0,1,2,3,4,5,6,7,8,9,10] o))=((lM t root parts bg nb Bs g b a C p Lt st).map (ba [0,1,2,3,4,5,6,7,8,9,10])).map some:=by rw[alH];rfl
  rw[h2,hr];rfl
 ·rw[P0];exact hk
end
end Go.Proofs.YtjjfioalgbecmaaGreat
namespace Go.VL
def pk (k g:Nat) (x:V):V->V
 |.rf id g' i off=>if id=k/\g'=g/\i=0/\off=0 then .bx x else .rf id g' i off
 |.so id g' lo n=>.so id g' lo n
 |.pp id g' i off b a=>.pp id g' i off b a
 |.mp id g'=>.mp id g'
 |.ag cs=>.ag (go cs)
 |.tu cs=>.tu (go cs)
 |.bx v=>.bx (pk k g x v)
 |.cap lo hi v=>.cap lo hi (pk k g x v)
 |.cl fn first aj=>.cl fn (go first) (go aj)
 |.d y=>.d y
 |.fu aA=>.fu aA
 |.un=>.un
 |.any=>.any
where go:List V->List V
 |[]=>[]
 |v::vs=>pk k g x v::go vs
theorem I6 (k g:Nat) (x:V):∀(l:List V),pk.go k g x l=l.map (pk k g x)
 |[]=>rfl
 |v::vs=>by simp [pk.go,I6 k g x vs]
def Ok (k g:Nat) (v:V) (s:List Obj):List Obj:=(bU s k).map λo=>{ o with aA:=o.aA.map λc=>c.map (pk k g v) }
section
variable {σ:Gh}{s:List Obj}{w:World}{k:Nat}{o:Obj}{v:V}
variable{u:Value}
theorem aD.acS (hI:Inv σ s w) (ho:s[k]?=some o) (hl:o.live=true) (iy:o.aA=[[v]]) (hr:aD σ s w (.rf k o.g 0 0) u):aD σ (bU s k) w (.bx v) u:=by
 obtain⟨h1,h2⟩:=u7 hI k;exact Zaz
theorem aD.Wr (hI:Inv σ s w) (ho:s[k]?=some o) (hl:o.live=true) (iy:o.aA=[[v]]) {x:V} (hr:aD σ s w x u):aD σ (bU s k) w (pk k o.g v x) u:=by
 have hE:=(u7 hI k).1;have xb:∀b,Own σ (bU s k) b->Own σ s b:=by
  rintro b (h|⟨id,p,base,h1,h2,h3⟩)
  ·exact .inl h
  ·obtain⟨p',m1,_,_,_,m5⟩:=j0 h1;exact .inr ⟨id,p',base,m1,m5 h2,h3⟩
 have g:∀(cs:List V) (i:Nat) (y:V),(cs.map (pk k o.g v))[i]?=some y->∃x,cs[i]?=some x/\pk k o.g v x=y:=λcs i y hy=>by rw[List.getElem?_map]at hy;exact Option.map_eq_some_iff.1 hy
 induction hr with
 |d hx=>exact(aD.d hx).bj hE
 |fu hx=>exact(aD.fu hx).bj hE
 |un=>exact .un
 |any=>exact .any
 |ag h1 h2 _ ih =>
  simp only[pk,I6];exact ZaV
 |tu h1 _ ih =>
  simp only[pk,I6];exact Zea
 |bx h1 h2 h3 hu _ ih =>
  simp only[pk];exact .bx h1 h2 (λh'=>h3 (xb _ h')) hu ih
 |cap h1 _ ih=>simp only[pk];exact .cap h1 ih
 |cl h1 _ h3 _ As mN =>
  simp only[pk,I6];exact ZaF
 |so o ho hg hu hk=>exact(aD.so o ho hg hu hk).bj hE
 |pp o ho hg hk=>exact(aD.pp o ho hg hk).bj hE
 |mp o ho hg hu hk=>exact(aD.mp o ho hg hu hk).bj hE
 |@rf _ _ _ _ u o2 TF hg hu hk =>
  simp only[pk];split
  ·rename_i h;obtain⟨rfl,rfl,rfl,rfl⟩:=h;exact aD.acS hI ho hl iy (.rf o2 TF hg hu hk)
  ·exact(aD.rf o2 TF hg hu hk).bj hE
theorem TH (hI:Inv σ s w) (ho:s[k]?=some o) (hl:o.live=true) (iy:o.aA=[[v]]):aK σ s w σ (Ok k o.g v s) w/\Inv σ (Ok k o.g v s) w/\∀{x:V}{u:Value},aD σ s w x u->aD σ (Ok k o.g v s) w (pk k o.g v x) u:=by
 obtain⟨PE,V2⟩:=u7 hI k;have get:∀(id:Nat) (p:Obj),(Ok k o.g v s)[id]?=some p->∃o',(bU s k)[id]?=some o'/\p={ o' with aA:=o'.aA.map λc=>c.map (pk k o.g v) }:=by intro id p hp;unfold Ok at hp;rw[List.getElem?_map]at hp;obtain⟨o',h1,h2⟩:=Option.map_eq_some_iff.1 hp;exact⟨o',h1,h2.symm⟩
 have Dt:aK σ (bU s k) w σ (Ok k o.g v s) w:=by
  refine⟨rfl,rfl,rfl,ale _,λ_ _ _=>rfl,λ_ arr _ _ h=>⟨arr,h,rfl⟩,λ_ _ h=>h,λb hb=>.inl ?_,λid p hp=>?_,rfl,λ_ _ _=>rfl⟩
  ·rcases hb with h|⟨id,p,base,h1,h2,h3⟩
   ·exact .inl h
   ·obtain⟨o',k1,rfl⟩:=get id p h1;exact .inr ⟨id,o',base,k1,h2,h3⟩
  ·exact⟨{ p with aA:=p.aA.map λc=>c.map (pk k o.g v) },by unfold Ok;rw[List.getElem?_map,hp];rfl,ale _,λ_=>⟨rfl,rfl⟩⟩
 refine⟨PE.trans Dt,⟨λid p hp=>?_,λi i' p p' b base bT h1 h2 h3 h4 h5=>?_,hI.low,λi p b base h1 h2=>?_⟩,λhr=>(hr.Wr hI ho hl iy).bj Dt⟩
 ·obtain⟨o',k1,rfl⟩:=get id p hp;obtain⟨o2,k2,q1,q2,q3,_⟩:=j0 k1;rcases hI.content id o2 k2 with (⟨h1,h2⟩|⟨b,es,c,h1,h2,h3⟩)|⟨b,base,arr,E,h1,h2,h3,h4,h5⟩
  ·exact .inl (.inl ⟨h1,by simp [q3,h2]⟩)
  ·refine .inl (.inr ⟨b,es,c,h1,h2,?_⟩);simp only[q3,h3,fX,alH];apply alK;intro e _;rfl
  ·refine .inr ⟨b,base,arr,E,h1,h2,λc hc=>?_,by rw[<- q2,<- q3]at h4;simpa using h4,λi j x hx=>?_⟩
   ·obtain⟨c',Nh,rfl⟩:=List.mem_map.1 hc;rw[q3]at Nh;simpa [q2]using h3 c' Nh
   ·simp only[List.getElem?_map]at hx;rw[q3]at hx;cases hi:o2.aA[i]? with
    |none=>simp [hi]at hx
    |some c =>
     simp only[hi,ala,alO,List.getElem?_map]at hx;obtain⟨y,hy,rfl⟩:=Option.map_eq_some_iff.1 hx;obtain⟨u,g1,g2,g3⟩:=h5 i j y (by simp [hi,hy]);refine⟨u,?_,g2,(g3.Wr hI ho hl iy).bj Dt⟩;show arr[base+i*o'.sz+j]?=some u;rw[q2];exact g1
 ·obtain⟨p1,k1,rfl⟩:=get _ _ h1;obtain⟨p1',l1,rfl⟩:=get _ _ h2;exact V2.inj i i' p1 p1' b base bT k1 l1 h3 h4 h5
 ·obtain⟨p1,k1,rfl⟩:=get _ _ h1;exact V2.apart i p1 b base k1 h2
theorem PI {P:Program}{f:FuncId}{args:List V}{K:V->List Obj->Prop} (k:Nat) (ho:s[k]?=some o) (hl:o.live=true) (iy:o.aA=[[v]]) (h:av P f (args.map (pk k o.g v)) (Ok k o.g v s) K):av P f args s K:=by
 refine⟨h.1,λσ w vals hI hlen hv=>?_⟩;obtain⟨hE,jR,hR⟩:=TH hI ho hl iy;refine(h.2 σ w vals jR (by simpa using hlen) λi x hx=>?_).mono λe w' ⟨u,v,σ',s',h1,h2,h3,h4,h5⟩=>⟨u,v,σ',s',h1,hE.trans h2,h3,h4,h5⟩
 rw[List.getElem?_map]at hx;obtain⟨y,hy,rfl⟩:=Option.map_eq_some_iff.1 hx;exact hR (hv i y hy)
theorem cr.bx {e:Env} (k:Nat) (ho:s[k]?=some o) (hl:o.live=true) (iy:o.aA=[[v]]):cr e s (λt=>pk k o.g v (e t)) (Ok k o.g v s):=by intro σ0 s0 w0 σ w N a hE hI hR;obtain⟨yn,jR,qu⟩:=TH hI ho hl iy;exact⟨σ,hE.trans yn,jR,hR.1,hR.2.1,λt=>qu (hR.2.2 t)⟩
end
end Go.VL
namespace Go.VL
variable{s:List Obj}
inductive Mix (bM:Nat) (s:List Obj):V->V->Prop
 |frz {x y:V}:bq bM s x=some y->Mix bM s x y
 |bp {x:V}:ak bM x=true->Mix bM s x x
 |ag {cs ds:List V}:ds.length=cs.length->(∀(i:Nat) (x y:V),cs[i]?=some x->ds[i]?=some y->Mix bM s x y)->Mix bM s (.ag cs) (.ag ds)
 |tu {cs ds:List V}:ds.length=cs.length->(∀(i:Nat) (x y:V),cs[i]?=some x->ds[i]?=some y->Mix bM s x y)->Mix bM s (.tu cs) (.tu ds)
theorem TJ {σ:Gh}{w:World} (hI:Inv σ s w) {k:Nat}{o:Obj} (m:Nat) (ho:s[k]?=some o) (Nc:∀es,o.aA≠fX es) :
  aK σ s w σ (s.set k { o with aA:=o.aA.take m }) w/\Inv σ (s.set k { o with aA:=o.aA.take m }) w:=by
 have hk:=(List.getElem?_eq_some_iff.1 ho).1;have get:∀(id:Nat) (o':Obj),(s.set k { o with aA:=o.aA.take m })[id]?=some o'->∃o1,s[id]?=some o1/\o1.live=o'.live/\o1.g=o'.g/\o1.sz=o'.sz:=by
  intro id o' h';by_cases he:id=k
  ·subst he;rw[List.getElem?_set_self hk]at h';exact ZdI
  ·rw[List.getElem?_set_ne (Ne.symm he)]at h';exact⟨o',h',rfl,rfl,rfl⟩
 have put:∀(id:Nat) (o1:Obj),s[id]?=some o1->∃o',(s.set k { o with aA:=o.aA.take m })[id]?=some o'/\o'.g=o1.g/\o'.sz=o1.sz/\o'.live=o1.live:=by
  intro id o1 h';by_cases he:id=k
  ·subst he;rw[ho]at h';simp only[alb]at h';subst h';exact⟨_,List.getElem?_set_self hk,rfl,rfl,rfl⟩
  ·exact⟨o1,by rw[List.getElem?_set_ne (Ne.symm he)];exact h',rfl,rfl,rfl⟩
 have hE:aK σ s w σ (s.set k { o with aA:=o.aA.take m }) w:=by
  exact ZaP
 refine⟨hE,⟨?_,?_,hI.low,?_⟩⟩
 ·intro id o' h1;by_cases he:id=k
  ·subst he;rw[List.getElem?_set_self hk]at h1;simp only[alb]at h1;subst h1;rcases hI.content id o ho with (⟨c1,c2⟩|⟨b,es,c,c1,c2,c3⟩)|⟨b,base,arr,E,c1,c2,c3,c4,c5⟩
   ·left;exact .inl ⟨c1,by simp [c2]⟩
   ·exact(Nc es c3).elim
   ·right;refine⟨b,base,arr,E,c1,c2,λe he=>c3 e (alU he),?_,λi j x' hx=>?_⟩
    ·have:(o.aA.take m).length*o.sz<=o.aA.length*o.sz:=alF _ cV;show base+(o.aA.take m).length*o.sz<=arr.size;omega
    ·have ky:(o.aA[i]?.bind (·[j]?))=some x':=by
      simp only[List.getElem?_take]at hx;split at hx
      ·exact hx
      ·cases hx
     obtain⟨u,z1,z2,z3⟩:=c5 i j x' ky;exact⟨u,z1,z2,z3.bj hE⟩
  ·exact Zbk
 ·exact ZbB
 ·exact ZcJ
theorem bO.X5 {L:Nat}{e:Env}{o:Obj} (k m:Nat) (ho:s[k]?=some o) (Nc:∀es,o.aA≠fX es):bO L e s e (s.set k { o with aA:=o.aA.take m }):=by intro σ0 s0 w0 σ w N a _ hE hI hR;obtain⟨h1,h2⟩:=TJ hI m ho Nc;exact⟨σ,hE.trans h1,h2,hR.bj h1⟩
theorem Be {P:Program}{f:FuncId} (ρ:List Nat) {cargs args:List V}{exts BF:List Obj}{r r':V}{K:V->List Obj->Prop} (h:av P f cargs exts λv s'=>v=r/\s'=BF) (yl:ρ.Nodup) (hl:BF.length=exts.length)
  (hs:ρ.map (λi=>s[i]?)=exts.map (λo=>some (ba ρ o))) (ha:args=cargs.map (aI ρ)) (xj:ak.go exts.length cargs=true) (rk:exts.all (aY exts.length)=true) (hr:aI ρ r=r') (hk:K r' (aT s ρ (BF.map (ba ρ)))):EH P ρ ρ f args s K:=by
 have hρ:ρ.length=exts.length:=by simpa using congrArg List.length hs
 refine⟨r',BF.map (ba ρ),by simp [hl,hρ],λs' _ jT=>?_,hk⟩;refine dD ρ h yl hl ?_ ha xj rk hr ⟨rfl,rfl⟩;rw[<- hs];exact alK λi hi=>jT i hi
end Go.VL
namespace Go.Proofs.YtjjfioalgbecmaaGreat
open Go.VL
def pR (k n:Nat):VL.Obj:=⟨0,true,1,[[.so k n 0 n]]⟩
def tS (b a:Nat) (x:aw):V:=.ag (x.cells b a)
section
variable (t:List Int) (root parts:D) (bg nb:Nat) (Bs:List (List Bool)) (b a:Nat)
theorem V9 (C:List aw) (hC:C.length<=1000000000000) (x:aw):av Tryz.prog 63 [tS b a x,.rf 2 0 0 0] [dV t root parts bg nb,fW bg Bs,pR 3 C.length,db C.length b a C] λv s=>v=i64 C.length/\s=[dV t root parts bg nb,fW bg Bs,pR 3 (C.length+1),db (C.length+1) b a (C++[x])]:=by
 have hg:(db C.length b a C).g=C.length:=rfl;have hz:(db C.length b a C).sz=5:=rfl;have he:(db C.length b a C).aA=C.map (aw.cells b a):=rfl;have hl:(db C.length b a C).live=true:=rfl;have w1:IntKind.i64.wrap (((C.length:Int)+1)-1)=(C.length:Int):=by rw[bK _ ae];omega
 refine br Tryz.func63 Tryz.ntmps63 Tryz.results63 4 15 ?_;simp only[zQ,simprocAttr,tS,aw.cells,pR,hg,hz,he,hl,ak4];have hp:Ql (cB b a x.node)=none\/∃d,Ql (cB b a x.node)=some d/\cB b a x.node=.d d:=by
  cases hx:x.node with
  |none=>exact .inr ⟨_,rfl,rfl⟩
  |some y =>
   obtain⟨re,k⟩:=y;refine .inl ?_;exact ZbW
 have hb:=hU 4 bg Bs;have hm:((dV t root parts bg nb).aA.all λe=>e.all (ak 4))=true:=rfl;have hT:List.take C.length (C.map (aw.cells b a))++[[V.d (D.sc (Value.int IntKind.i64 x.op)),V.d (D.sc (Value.int IntKind.i64 x.x)),V.d (D.sc (Value.int IntKind.i64 x.y)),V.d (D.sc (Value.int IntKind.i64 x.n)),cB b a x.node]]=(C++[x]).map (aw.cells b a):=by rw[aln (by rw[ak4];exact ale _)];simp [aw.cells,i64]
 have jw:(((C++[x]).map (aw.cells b a)).all λe=>e.all (ak 4))=true:=kR 4 0 b a ae (C++[x]);rcases hp with hp|⟨d,hp,hv⟩
 ·rw[hp];simp only[Option.bind_none];exact Zcr
 ·rw[hv]at hT;rw[hp,hv];simp only[alO,ak8,ak9,alg,alf,alc];exact Zcr
end
def s9 (re:Re) (k:Nat):aw:=⟨1,0,0,0,some (re,k)⟩
def lG (re:Re) (k:Nat):aw:=⟨5,0,0,0,some (re,k)⟩
def dh (x y:Int):aw:=⟨2,x,y,0,none⟩
def jZ (x:Int):aw:=⟨3,x,0,0,none⟩
def jo (n:Int):aw:=⟨4,0,0,n,none⟩
def yi (C:List aw) (c:Nat) (x y:Int):List aw:=C.set c ⟨(bH C c).op,x,y,(bH C c).n,(bH C c).node⟩
def xO (E:Int) (C:List aw) (c:Nat):List aw:=yi C c E (bH C c).y
def oB (mode:Int) (C:List aw) (c:Nat):List aw:=if mode=1 then yi C c C.length ((c:Int)+1) else yi C c ((c:Int)+1) C.length
def iO (f:List aw->List aw):Nat->List aw->List aw
 |0,C=>C
 |n+1,C=>f (iO f n C)
def gx (f:List aw->List aw):Nat->List aw->List aw×List Nat
 |0,C=>(C,[])
 |n+1,C=>(f ((gx f n C).1++[dh 0 0]),(gx f n C).2++[(gx f n C).1.length])
def mI (f:List aw->List aw) (mn mx:Int) (C:List aw):List aw×List Nat :=
 let C1:=iO f mn.toNat C
 if mx=-1 then (f (C1++[dh 0 0])++[jZ C1.length],[C1.length]) else gx f (mx-mn).toNat C1
mutual
def Re.emit:Re->Nat->List aw->List aw
 |.mk op set kids mn mx mode n neg,k,C =>
  if op=1 then C++[s9 (.mk op set kids mn mx mode n neg) k]
  else if op=11\/op=7\/op=8 then C++[lG (.mk op set kids mn mx mode n neg) k]
  else if op=2 then Re.dn kids k C
  else if op=3 then Re.mr kids k C []
  else if op=5 then Re.dn kids k (C++[jo (2*n-2)])++[jo (2*n-1)]
  else if op=4 then (mI (λC=>Re.dn kids k C) mn mx C).2.foldl (oB mode) (mI (λC=>Re.dn kids k C) mn mx C).1
  else C
def Re.dn:List Re->Nat->List aw->List aw
 |[],_,C=>C
 |x::l,k,C=>Re.dn l (k+x.looks) (x.emit k C)
def Re.mr:List Re->Nat->List aw->List Nat->List aw
 |[],_,C,_=>C
 |x::l,k,C,J=>match l with
  |[]=>J.foldl (xO (x.emit k C).length) (x.emit k C)
  |_::_=>Re.mr l (k+x.looks) (yi (x.emit k (C++[dh 0 0])++[jZ 0]) C.length ((C.length:Int)+1) (((x.emit k (C++[dh 0 0])).length:Int)+1)) (J++[(x.emit k (C++[dh 0 0])).length])
end
def js:List Re->Nat->List aw->List Nat->List aw×List Nat
 |[],_,C,J=>(C,J)
 |x::l,k,C,J=>js l (k+x.looks) (yi (x.emit k (C++[dh 0 0])++[jZ 0]) C.length ((C.length:Int)+1) (((x.emit k (C++[dh 0 0])).length:Int)+1)) (J++[(x.emit k (C++[dh 0 0])).length])
theorem J4:∀(l:List Re) (z:Re) (k:Nat) (C:List aw) (J:List Nat),Re.mr (l++[z]) k C J=(js l k C J).2.foldl (xO (z.emit (k+Re.bd l) (js l k C J).1).length) (z.emit (k+Re.bd l) (js l k C J).1)
 |[],z,k,C,J=>by simp [Re.mr,js,Re.bd]
 |x::l,z,k,C,J=>by
  have ih:=J4 l z (k+x.looks);obtain⟨y,l',hl⟩:∃y l',l++[z]=y::l':=by
   cases l with
   |nil=>exact⟨z,[],rfl⟩
   |cons a l=>exact⟨a,l++[z],rfl⟩
  rw[ak5,hl,Re.mr,<- hl]
  ·rw[ih,js,Re.bd,alL]
theorem GP:∀(l:List Re) (z:Re) (k:Nat) (C:List aw) (J:List Nat),js (l++[z]) k C J=js [z] (k+Re.bd l) (js l k C J).1 (js l k C J).2
 |[],z,k,C,J=>by simp [js,Re.bd]
 |x::l,z,k,C,J=>by show js (l++[z]) (k+x.looks) _ _=_;rw[GP l z,Re.bd,<- alL];rfl
theorem E7:∀(l:List Re) (z:Re) (k:Nat) (C:List aw),Re.dn (l++[z]) k C=z.emit (k+Re.bd l) (Re.dn l k C)
 |[],z,k,C=>by simp [Re.dn,Re.bd]
 |x::l,z,k,C=>by rw[ak5,Re.dn,E7 l z,Re.dn,Re.bd,alL]
theorem Re.kN (re:Re) (k:Nat) (C:List aw):re.emit k C=if re.op=1 then C++[s9 re k]
  else if re.op=11\/re.op=7\/re.op=8 then C++[lG re k]
  else if re.op=2 then Re.dn re.kids k C
  else if re.op=3 then Re.mr re.kids k C []
  else if re.op=5 then Re.dn re.kids k (C++[jo (2*re.n-2)])++[jo (2*re.n-1)]
  else if re.op=4 then (mI (λC=>Re.dn re.kids k C) re.mn re.mx C).2.foldl (oB re.mode) (mI (λC=>Re.dn re.kids k C) re.mn re.mx C).1
  else C:=by
 cases re;rw[Re.emit];rfl
def nW (op mn mx:Int) (k n:Nat):Nat :=
 if op=1\/op=11\/op=7\/op=8 then 1 else if op=2 then n else if op=3 then n+2*(k-1) else if op=5 then n+2
  else if op=4 then (if mx=-1 then mn.toNat*n+n+2 else mn.toNat*n+(mx-mn).toNat*(n+1)) else 0
mutual
def Re.dp:Re->Nat
 |.mk op _ kids mn mx _ _ _=>nW op mn mx kids.length (Re.cC kids)
def Re.cC:List Re->Nat
 |[]=>0
 |x::l=>x.dp+Re.cC l
end
theorem Re.ga (re:Re):re.dp=nW re.op re.mn re.mx re.kids.length (Re.cC re.kids):=by
 cases re;rw[Re.dp];rfl
theorem oH (C:List aw) (c:Nat) (x y:Int):(yi C c x y).length=C.length:=by simp [yi]
theorem Jr (E:Int) (C:List aw) (c:Nat):(xO E C c).length=C.length:=by simp [xO,oH]
theorem Ku (mode:Int) (C:List aw) (c:Nat):(oB mode C c).length=C.length:=by unfold oB;split <;> simp [oH]
theorem CQ (E:Int):∀(J:List Nat) (C:List aw),(J.foldl (xO E) C).length=C.length
 |[],_=>rfl
 |a::J,C=>by rw[aml,CQ E J,Jr]
theorem vS (mode:Int):∀(J:List Nat) (C:List aw),(J.foldl (oB mode) C).length=C.length
 |[],_=>rfl
 |a::J,C=>by rw[aml,vS mode J,Ku]
theorem wL {f:List aw->List aw}{z:Nat} (h:∀C,(f C).length=C.length+z):∀n C,(iO f n C).length=C.length+n*z
 |0,C=>by simp [iO]
 |n+1,C=>by rw[iO,h,wL h n,alS];omega
theorem zc {f:List aw->List aw}{z:Nat} (h:∀C,(f C).length=C.length+z):∀n C,(gx f n C).1.length=C.length+n*(z+1)/\(gx f n C).2.length=n
 |0,C=>by simp [gx]
 |n+1,C=>by obtain⟨h1,h2⟩:=zc h n C;have e:(n+1)*(z+1)=n*(z+1)+(z+1):=Nat.succ_mul _ _;refine⟨?_,by simp [gx,h2]⟩;rw[gx,h,ald,h1,e,alC];generalize n*(z+1)=y;omega
theorem SY {f:List aw->List aw}{z:Nat} (h:∀C,(f C).length=C.length+z) (mn mx:Int) (C:List aw):(mI f mn mx C).1.length=C.length+(if mx=-1 then mn.toNat*z+z+2 else mn.toNat*z+(mx-mn).toNat*(z+1)):=by
 unfold mI;simp only;split
 ·simp only[h,ald,alC,wL h];omega
 ·rw[(zc h _ _).1,wL h];omega
mutual
theorem Re.eR:∀(re:Re) (k:Nat) (C:List aw),(re.emit k C).length=C.length+re.dp
 |.mk op set kids mn mx mode n neg,k,C=>by
  have hL:=Re.wy kids;have hA:=Re.Ik kids;rw[Re.emit,Re.dp,nW];by_cases o1:op=1
  ·rw[be o1,be (.inl o1)];simp
  rw[ap o1];by_cases o7:op=11\/op=7\/op=8
  ·rw[be o7,be (.inr o7)];simp
  rw[ap o7,ap (show ¬(op=1\/op=11\/op=7\/op=8) from λh=>h.elim o1 o7)];by_cases o2:op=2
  ·rw[be o2,be o2,hL]
  rw[ap o2,ap o2];by_cases o3:op=3
  ·rw[be o3,be o3,hA]
  rw[ap o3,ap o3];by_cases o5:op=5
  ·rw[be o5,be o5,ald,hL];simp only[ald,alC];omega
  rw[ap o5,ap o5];by_cases o4:op=4
  ·rw[be o4,be o4,vS,SY (λC=>hL k C)]
  rw[ap o4,ap o4];rfl
theorem Re.wy:∀(l:List Re) (k:Nat) (C:List aw),(Re.dn l k C).length=C.length+Re.cC l
 |[],_,C=>rfl
 |x::l,k,C=>by rw[Re.dn,Re.wy l,Re.eR x,Re.cC];omega
theorem Re.Ik:∀(l:List Re) (k:Nat) (C:List aw) (J:List Nat),(Re.mr l k C J).length=C.length+(Re.cC l+2*(l.length-1))
 |[],_,C,_=>rfl
 |[x],k,C,J=>by simp only[Re.mr,CQ,Re.eR x,Re.cC,alC];omega
 |x::y::l,k,C,J=>by
  have e:Re.cC (x::y::l)=x.dp+Re.cC (y::l):=by rw[Re.cC]
  rw[Re.mr,Re.Ik (y::l),oH,ald,Re.eR x,e];simp only[ald,alg,alf];omega
end
theorem zq:∀(l:List Re) (k:Nat) (C:List aw) (J:List Nat),(js l k C J).1.length=C.length+(Re.cC l+2*l.length)/\(js l k C J).2.length=J.length+l.length
 |[],_,C,_=>⟨rfl,rfl⟩
 |x::l,k,C,J=>by
  obtain⟨h1,h2⟩:=zq l (k+x.looks) (yi (x.emit k (C++[dh 0 0])++[jZ 0]) C.length ((C.length:Int)+1) (((x.emit k (C++[dh 0 0])).length:Int)+1)) (J++[(x.emit k (C++[dh 0 0])).length]);show (js l _ _ _).1.length=_/\(js l _ _ _).2.length=_;have e:Re.cC (x::l)=x.dp+Re.cC l:=by rw[Re.cC]
  rw[h1,h2,oH,ald,ald,Re.eR x,e];simp only[ald,alg,alf];omega
theorem iP:∀(l m:List Re),Re.cC (l++m)=Re.cC l+Re.cC m
 |[],m=>by simp [Re.cC]
 |x::l,m=>by rw[ak5,Re.cC,iP l m,Re.cC];omega
theorem nt:∀(l m:List Re),Re.bd (l++m)=Re.bd l+Re.bd m
 |[],m=>by simp [Re.bd]
 |x::l,m=>by rw[ak5,Re.bd,nt l m,Re.bd];omega
theorem xL:∀(l:List Re) (k i:Nat) (x:Re),l[i]?=some x->(Re.ew l k)[i]?=some [x.bA (k+Re.bd (l.take i))]
 |[],_,_,_,h=>by simp at h
 |y::l,k,0,x,h=>by simp at h;subst h;simp [Re.ew,Re.bd]
 |y::l,k,i+1,x,h=>by rw[List.getElem?_cons_succ]at h;rw[Re.ew,List.getElem?_cons_succ,xL l (k+y.looks) i x h,al9,Re.bd,alL]
section
variable (t:List Int) (root parts:D) (bg nb:Nat) (Bs:List (List Bool)) (g b a:Nat) (C:List aw) (p:Nat) (Lt:List Bool)
omit t root parts bg nb Bs g b a C p Lt in
theorem ie (l:List Bool) (n:Nat) (x:Bool):(l.map λx=>[V.d (D.sc (Value.bool x))]).set n [V.d (D.sc (Value.bool x))]=(l.set n x).map λx=>[V.d (D.sc (Value.bool x))]:=by rw[ams]
theorem eD {f:FuncId}{args:List V}{r:V}{s:List VL.Obj}{K:V->List VL.Obj->Prop} (h:av Tryz.prog f args [dV t root parts bg nb,fW bg Bs] λv s=>v=r/\s=[dV t root parts bg nb,fW bg Bs])
  (ha:args=args.map (aI [0,1])) (xj:ak.go 2 args=true) (hr:aI [0,1] r=r) (h0:s[0]?=some (dV t root parts bg nb)) (h1:s[1]?=some (fW bg Bs)) (hk:K r s):av Tryz.prog f args s K:=by
 have e0:ba [0,1] (dV t root parts bg nb)=dV t root parts bg nb:=rfl;refine dD [0,1] h aF rfl ?_ ha xj ?_ hr ?_
 ·simp only[ak8,ak9,e0,fQ,h0,h1]
 ·have:=hU 2 bg Bs;simp only[alR,alW,aY,alg,alf,Nat.reduceAdd,this,alp];rfl
 ·simp only[ak8,ak9,e0,fQ,aT];have e1:s.set 0 (dV t root parts bg nb)=s:=by
   exact Zee
  have e2:s.set 1 (fW bg Bs)=s:=by
   exact Zef
  rw[e1,e2];exact hk
theorem HS (hg:fz t Bs C) (oK:nb=Bs.length) (ht:t.length<=1000000) (hp:p<=t.length) (Nb:Lt.length=C.length) (k:Nat) (IH:∀j,j+1=k->EOK t root parts bg nb Bs g b a C p Lt j):EOK t root parts bg nb Bs g b a C p Lt k:=by
 intro n st hn h1 h2 hu;have jj:(n:Int)<(C.length:Int):=ae;have fS:(0:Int)<=(n:Int):=ae;have ka:n<st.kn.length:=ae;have yG:n<st.nw.length:=ae;have gY:=hU 11 bg Bs;have ll:((dV t root parts bg nb).aA.all λe=>e.all (ak 11))=true:=rfl;have XK:((db g b a C).aA.all λe=>e.all (ak 11))=true:=kR 11 g b a ae C;have kG:((C.map (aw.cells b a)).all λe=>e.all (ak 11))=true:=kR 11 g b a ae C;have hB:∀l:List Bool,((l.map λb=>[V.d (D.sc (Value.bool b))]).all λe=>e.all (ak 11))=true:=λl=>Dg 11 0 l;obtain⟨kb,rL⟩:∃kb,st.kn[n]?=some kb:=cb ka;obtain⟨wb,BQ⟩:∃wb,st.nw[n]?=some wb:=cb yG;obtain⟨i,hi⟩:∃i,C[n]?=some i:=cb hn;have lD:bH C n=i:=by unfold bH;rw[List.getD_eq_getElem?_getD,hi];rfl
 cases kb with
 |true =>
  have hr:bF t Bs C p Lt (k+1) n st=(wb,st):=by rw[bF,be (by rw[List.getD_eq_getElem?_getD,rL];rfl),List.getD_eq_getElem?_getD,BQ];rfl
  rw[hr];unfold dP lM;refine br Tryz.func97 Tryz.ntmps97 Tryz.results97 11 134219647 ?_;simp only[zQ,simprocAttr,dP,lM,cA,aV,dK,cF,y8,jj,fS,ka,yG,hn,h1,h2,ak7,ak4,List.getElem?_map,rL,BQ,ala,alc,ll,gY,XK,hB,alp]
 |false =>
  have hu1:=IS rL;by_cases o0:i.op=0
  ·have hr:bF t Bs C p Lt (k+1) n st=(true,⟨st.kn.set n true,st.nw.set n true⟩):=by rw[bF,ap (by rw[List.getD_eq_getElem?_getD,rL];simp),lD];simp only[o0,if_true]
   rw[hr];unfold dP lM;refine br Tryz.func97 Tryz.ntmps97 Tryz.results97 11 134219647 ?_;simp only[zQ,simprocAttr,dP,lM,cA,aV,dK,cF,y8,db,jj,fS,ka,yG,hn,h1,h2,ak7,ak4,List.getElem?_map,rL,BQ,hi,ala,alc,aw.cells,o0,ie,ll,gY,kG,hB,alp]
  by_cases o3:i.op=3
  ·obtain⟨x0,x1⟩:=hg.jump n hn (by rw[lD];exact o3);rw[lD]at x0 x1;obtain⟨X,hX⟩:∃X:Nat,i.x=X:=⟨i.x.toNat,ae⟩
   have Co:X<C.length:=ae;obtain⟨j,rfl⟩:∃j,k=j+1:=⟨k-1,by have:=zT rL;omega⟩
   have hc:=λK hk=>nj (IH j rfl) (n:=X) (st:=⟨st.kn.set n true,st.nw⟩) Co (by simpa using h1) h2 oE (tl:=[⟨0,true,5,[[i64 3,i64 X,i64 i.y,i64 i.n,cB b a i.node]]⟩]) (K:=K) hk;have hr:bF t Bs C p Lt (j+1+1) n st=((bF t Bs C p Lt (j+1) X ⟨st.kn.set n true,st.nw⟩).1,⟨(bF t Bs C p Lt (j+1) X ⟨st.kn.set n true,st.nw⟩).2.kn,(bF t Bs C p Lt (j+1) X ⟨st.kn.set n true,st.nw⟩).2.nw.set n (bF t Bs C p Lt (j+1) X ⟨st.kn.set n true,st.nw⟩).1⟩):=by rw[bF,ap (by rw[List.getD_eq_getElem?_getD,rL];simp),lD];simp only[o3,hX,ak7];rfl
   rw[hr];have hlen:=ir t Bs C p Lt (j+1) X ⟨st.kn.set n true,st.nw⟩;generalize bF t Bs C p Lt (j+1) X ⟨st.kn.set n true,st.nw⟩=R at *;have uG:n<R.2.nw.length:=by rw[hlen.2.1];exact yG
   obtain⟨wr,hwr⟩:∃wr,R.2.nw[n]?=some wr:=cb uG;unfold dP lM at hc;unfold dP lM;refine br Tryz.func97 Tryz.ntmps97 Tryz.results97 11 134219647 ?_;simp only[zQ,simprocAttr,dP,lM,cA,aV,dK,cF,y8,db,jj,fS,ka,yG,hn,h1,h2,ak7,ak4,List.getElem?_map,rL,BQ,hi,ala,alc,aw.cells,o3,hX,ie,ll,gY,kG,hB,alp,ak5,ak6,alu];refine hc _ ?_;simp only[zQ,simprocAttr,dP,lM,cA,aV,dK,cF,y8,db,jj,fS,ka,yG,uG,hwr,hlen.2.1,hn,h1,h2,ak7,ak4,List.getElem?_map,rL,BQ,hi,ala,alc,aw.cells,o3,hX,ie,ll,gY,kG,hB,alp,ak5,ak6,alu]
  by_cases o4:i.op=4
  ·have Co:=hg.next n hn (by rw[lD];exact .inr (.inl o4));have hw:IntKind.i64.wrap ((n:Int)+1)=((n+1:Nat):Int):=by have:=hg.len;rw[bK _ ae];rfl
   obtain⟨j,rfl⟩:∃j,k=j+1:=⟨k-1,by have:=zT rL;omega⟩
   have hc:=λK hk=>nj (IH j rfl) (n:=n+1) (st:=⟨st.kn.set n true,st.nw⟩) Co (by simpa using h1) h2 oE (tl:=[⟨0,true,5,[[i64 4,i64 i.x,i64 i.y,i64 i.n,cB b a i.node]]⟩]) (K:=K) hk;have hr:bF t Bs C p Lt (j+1+1) n st=((bF t Bs C p Lt (j+1) (n+1) ⟨st.kn.set n true,st.nw⟩).1,⟨(bF t Bs C p Lt (j+1) (n+1) ⟨st.kn.set n true,st.nw⟩).2.kn,(bF t Bs C p Lt (j+1) (n+1) ⟨st.kn.set n true,st.nw⟩).2.nw.set n (bF t Bs C p Lt (j+1) (n+1) ⟨st.kn.set n true,st.nw⟩).1⟩):=by rw[bF,ap (by rw[List.getD_eq_getElem?_getD,rL];simp),lD];simp only[o4];rfl
   rw[hr];have hlen:=ir t Bs C p Lt (j+1) (n+1) ⟨st.kn.set n true,st.nw⟩;generalize bF t Bs C p Lt (j+1) (n+1) ⟨st.kn.set n true,st.nw⟩=R at *;have uG:n<R.2.nw.length:=by rw[hlen.2.1];exact yG
   obtain⟨wr,hwr⟩:∃wr,R.2.nw[n]?=some wr:=cb uG;unfold dP lM at hc;unfold dP lM;refine br Tryz.func97 Tryz.ntmps97 Tryz.results97 11 134219647 ?_;simp only[zQ,simprocAttr,dP,lM,cA,aV,dK,cF,y8,db,jj,fS,ka,yG,hn,h1,h2,ak7,ak4,List.getElem?_map,rL,BQ,hi,ala,alc,aw.cells,o4,hw,ie,ll,gY,kG,hB,alp,ak5,ak6,alu];refine hc _ ?_;simp only[zQ,simprocAttr,dP,lM,cA,aV,dK,cF,y8,db,jj,fS,ka,yG,uG,hwr,hlen.2.1,hn,h1,h2,ak7,ak4,List.getElem?_map,rL,BQ,hi,ala,alc,aw.cells,o4,hw,ie,ll,gY,kG,hB,alp,ak5,ak6,alu]
  by_cases o1:i.op=1
  ·obtain⟨re,k',iL,rk,fB⟩:=hg.set n hn (by rw[lD];exact o1);rw[lD]at iL;have Co:=hg.next n hn (by rw[lD];exact .inl o1);have hw:IntKind.i64.wrap ((n:Int)+1)=((n+1:Nat):Int):=by have:=hg.len;rw[bK _ ae];rfl
   have hX1:((n+1:Nat):Int)<(C.length:Int):=ae;have hX2:(0:Int)<=((n+1:Nat):Int):=ae;have hX3:n+1<C.length:=Co;obtain⟨lv,VU⟩:∃lv,Lt[n+1]?=some lv:=cb;have tP:=DY t root parts bg nb Bs b a re k' p ae fB ht;have n8:i.pass t Bs p=(decide ((p:Int)<t.length)&&yP re.set (lK t p)):=by unfold aw.pass;rw[iL];simp only[rk,if_true]
   have hr:bF t Bs C p Lt (k+1) n st=(i.pass t Bs p&&lv,⟨st.kn.set n true,st.nw.set n (i.pass t Bs p&&lv)⟩):=by rw[bF,ap (by rw[List.getD_eq_getElem?_getD,rL];simp),lD];simp only[o1,List.getD_eq_getElem?_getD,VU,amk];rfl
   rw[hr,n8];generalize (decide ((p:Int)<t.length)&&yP re.set (lK t p))=y at *;unfold dP lM;cases y with
   |true =>
    refine br Tryz.func97 Tryz.ntmps97 Tryz.results97 11 134219647 ?_;simp only[zQ,simprocAttr,dP,lM,cA,aV,dK,cF,y8,db,jj,fS,ka,yG,hn,h1,h2,ak7,ak4,List.getElem?_map,rL,BQ,hi,ala,alc,aw.cells,o1,iL,rk,cB,mB,nB,if_true,hw,VU,Nb,hX1,hX2,hX3,ie,ll,gY,kG,hB,alp,ak5,ak6,alu];refine eD t root parts bg nb Bs tP rfl rfl rfl rfl rfl ?_;simp only[zQ,simprocAttr,dP,lM,cA,aV,dK,cF,y8,db,jj,fS,ka,yG,hn,h1,h2,ak7,ak4,List.getElem?_map,rL,BQ,hi,ala,alc,aw.cells,o1,iL,rk,cB,mB,nB,if_true,hw,VU,Nb,hX1,hX2,hX3,ie,ll,gY,kG,hB,alp,ak5,ak6,alu]
   |false =>
    refine br Tryz.func97 Tryz.ntmps97 Tryz.results97 11 134219647 ?_;simp only[zQ,simprocAttr,dP,lM,cA,aV,dK,cF,y8,db,jj,fS,ka,yG,hn,h1,h2,ak7,ak4,List.getElem?_map,rL,BQ,hi,ala,alc,aw.cells,o1,iL,rk,cB,mB,nB,if_true,hw,VU,Nb,hX1,hX2,hX3,ie,ll,gY,kG,hB,alp,ak5,ak6,alu];refine eD t root parts bg nb Bs tP rfl rfl rfl rfl rfl ?_;simp only[zQ,simprocAttr,dP,lM,cA,aV,dK,cF,y8,db,jj,fS,ka,yG,hn,h1,h2,ak7,ak4,List.getElem?_map,rL,BQ,hi,ala,alc,aw.cells,o1,iL,rk,cB,mB,nB,if_true,hw,VU,Nb,hX1,hX2,hX3,ie,ll,gY,kG,hB,alp,ak5,ak6,alu];exact⟨rfl,rfl⟩
  by_cases o5:i.op=5
  ·obtain⟨re,k',iL,rk,ab7,J7⟩:=hg.ask n hn (by rw[lD];exact o5);rw[lD]at iL;have Co:=hg.next n hn (by rw[lD];exact .inr (.inr o5));have hw:IntKind.i64.wrap ((n:Int)+1)=((n+1:Nat):Int):=by have:=hg.len;rw[bK _ ae];rfl
   by_cases kr:re.op=11
   ·have tP:=xJ t root parts bg nb Bs b a re k' p ae ae (ab7 kr).1 (ab7 kr).2 ht;have n8:i.pass t Bs p=bY re.n t p:=by unfold aw.pass;rw[iL];simp only[kr];rfl
    generalize bY re.n t p=y at *;cases y with
    |true =>
     obtain⟨j,rfl⟩:∃j,k=j+1:=⟨k-1,by have:=zT rL;omega⟩
     have hc:=λK hk=>nj (IH j rfl) (n:=n+1) (st:=⟨st.kn.set n true,st.nw⟩) Co (by simpa using h1) h2 oE (tl:=[⟨0,true,5,[[i64 5,i64 i.x,i64 i.y,i64 i.n,.cl (.func 67) [] [nB re k',mB b a]]]⟩]) (K:=K) hk;have hr:bF t Bs C p Lt (j+1+1) n st=((bF t Bs C p Lt (j+1) (n+1) ⟨st.kn.set n true,st.nw⟩).1,⟨(bF t Bs C p Lt (j+1) (n+1) ⟨st.kn.set n true,st.nw⟩).2.kn,(bF t Bs C p Lt (j+1) (n+1) ⟨st.kn.set n true,st.nw⟩).2.nw.set n (bF t Bs C p Lt (j+1) (n+1) ⟨st.kn.set n true,st.nw⟩).1⟩):=by rw[bF,ap (by rw[List.getD_eq_getElem?_getD,rL];simp),lD];simp only[o5,n8,if_true];rfl
     exact Zan
    |false =>
     exact Zay
   ·obtain⟨l,tc,BT⟩:=J7 kr;obtain⟨y,hy⟩:∃y,l[p]?=some y:=cb;have tP:=BI t root parts bg nb Bs b a re k' p oK tc hy;have n8:i.pass t Bs p=y:=by unfold aw.pass;rw[iL];simp only[rk,kr,if_false,List.getD_eq_getElem?_getD,tc,amk,hy]
    cases y with
    |true =>
     obtain⟨j,rfl⟩:∃j,k=j+1:=⟨k-1,by have:=zT rL;omega⟩
     have hc:=λK hk=>nj (IH j rfl) (n:=n+1) (st:=⟨st.kn.set n true,st.nw⟩) Co (by simpa using h1) h2 oE (tl:=[⟨0,true,5,[[i64 5,i64 i.x,i64 i.y,i64 i.n,.cl (.func 69) [] [mB b a,nB re k']]]⟩]) (K:=K) hk;have hr:bF t Bs C p Lt (j+1+1) n st=((bF t Bs C p Lt (j+1) (n+1) ⟨st.kn.set n true,st.nw⟩).1,⟨(bF t Bs C p Lt (j+1) (n+1) ⟨st.kn.set n true,st.nw⟩).2.kn,(bF t Bs C p Lt (j+1) (n+1) ⟨st.kn.set n true,st.nw⟩).2.nw.set n (bF t Bs C p Lt (j+1) (n+1) ⟨st.kn.set n true,st.nw⟩).1⟩):=by rw[bF,ap (by rw[List.getD_eq_getElem?_getD,rL];simp),lD];simp only[o5,n8,if_true];rfl
     exact Zan
    |false =>
     exact Zay
  by_cases o2:i.op=2
  ·obtain⟨x0,x1,y0,y1⟩:=hg.split n hn (by rw[lD];exact o2);rw[lD]at x0 x1 y0 y1;obtain⟨X,hX⟩:∃X:Nat,i.x=X:=⟨i.x.toNat,ae⟩
   obtain⟨Y,hY⟩:∃Y:Nat,i.y=Y:=⟨i.y.toNat,ae⟩
   have Co:X<C.length:=ae;have hYC:Y<C.length:=ae;obtain⟨j,rfl⟩:∃j,k=j+1:=⟨k-1,by have:=zT rL;omega⟩
   have hc:=λK hk=>nj (IH j rfl) (n:=X) (st:=⟨st.kn.set n true,st.nw⟩) Co (by simpa using h1) h2 oE (tl:=[⟨0,true,5,[[i64 2,i64 X,i64 Y,i64 i.n,cB b a i.node]]⟩]) (K:=K) hk;have hlen:=ir t Bs C p Lt (j+1) X ⟨st.kn.set n true,st.nw⟩;have hr:bF t Bs C p Lt (j+1+1) n st=(if (bF t Bs C p Lt (j+1) X ⟨st.kn.set n true,st.nw⟩).1=true then ((bF t Bs C p Lt (j+1) X ⟨st.kn.set n true,st.nw⟩).1,⟨(bF t Bs C p Lt (j+1) X ⟨st.kn.set n true,st.nw⟩).2.kn,(bF t Bs C p Lt (j+1) X ⟨st.kn.set n true,st.nw⟩).2.nw.set n (bF t Bs C p Lt (j+1) X ⟨st.kn.set n true,st.nw⟩).1⟩)
     else ((bF t Bs C p Lt (j+1) Y (bF t Bs C p Lt (j+1) X ⟨st.kn.set n true,st.nw⟩).2).1,⟨(bF t Bs C p Lt (j+1) Y (bF t Bs C p Lt (j+1) X ⟨st.kn.set n true,st.nw⟩).2).2.kn,(bF t Bs C p Lt (j+1) Y (bF t Bs C p Lt (j+1) X ⟨st.kn.set n true,st.nw⟩).2).2.nw.set n (bF t Bs C p Lt (j+1) Y (bF t Bs C p Lt (j+1) X ⟨st.kn.set n true,st.nw⟩).2).1⟩)):=by
    rw[bF,ap (by rw[List.getD_eq_getElem?_getD,rL];simp),lD];simp only[o2,hX,hY,ak7];generalize bF t Bs C p Lt (j+1) X ⟨st.kn.set n true,st.nw⟩=A;by_cases hh:A.1=true <;> simp [hh]
   rw[hr];clear hr;generalize bF t Bs C p Lt (j+1) X ⟨st.kn.set n true,st.nw⟩=R at *;have ud:=λK hk=>nj (IH j rfl) (n:=Y) (st:=R.2) hYC (by rw[hlen.1];simpa using h1) (by rw[hlen.2.1];exact h2) (al7 hlen.2.2 oE) (tl:=[⟨0,true,5,[[i64 2,i64 X,i64 Y,i64 i.n,cB b a i.node]]⟩]) (K:=K) hk;have EK:=ir t Bs C p Lt (j+1) Y R.2;generalize bF t Bs C p Lt (j+1) Y R.2=R2 at *;have uG:n<R.2.nw.length:=by rw[hlen.2.1];exact yG
   have abZ:n<R2.2.nw.length:=by rw[EK.2.1];exact uG
   obtain⟨wr,hwr⟩:∃wr,R.2.nw[n]?=some wr:=cb uG;obtain⟨wr2,agN⟩:∃wr,R2.2.nw[n]?=some wr:=cb abZ;obtain⟨r1,Gs⟩:=R;simp only at hc ud hlen EK uG hwr ⊢;unfold dP lM at hc ud;unfold dP lM;cases r1 with
   |true =>
    rw[be rfl];refine br Tryz.func97 Tryz.ntmps97 Tryz.results97 11 134219647 ?_;simp only[zQ,simprocAttr,dP,lM,cA,aV,dK,cF,y8,db,jj,fS,ka,yG,hn,h1,h2,ak7,ak4,List.getElem?_map,rL,BQ,hi,ala,alc,aw.cells,o2,hX,hY,ie,ll,gY,kG,hB,alp,ak5,ak6,alu];refine hc _ ?_;simp only[zQ,simprocAttr,dP,lM,cA,aV,dK,cF,y8,db,jj,fS,ka,yG,hn,h1,h2,ak7,ak4,List.getElem?_map,rL,BQ,hi,ala,alc,aw.cells,o2,hX,hY,ie,ll,gY,kG,hB,alp,ak5,ak6,alu,uG,hwr,hlen.2.1]
   |false =>
    rw[ap aq];refine br Tryz.func97 Tryz.ntmps97 Tryz.results97 11 134219647 ?_;simp only[zQ,simprocAttr,dP,lM,cA,aV,dK,cF,y8,db,jj,fS,ka,yG,hn,h1,h2,ak7,ak4,List.getElem?_map,rL,BQ,hi,ala,alc,aw.cells,o2,hX,hY,ie,ll,gY,kG,hB,alp,ak5,ak6,alu];refine hc _ ?_;simp only[zQ,simprocAttr,dP,lM,cA,aV,dK,cF,y8,db,jj,fS,ka,yG,hn,h1,h2,ak7,ak4,List.getElem?_map,rL,BQ,hi,ala,alc,aw.cells,o2,hX,hY,ie,ll,gY,kG,hB,alp,ak5,ak6,alu,uG,hwr,hlen.2.1];refine ud _ ?_;simp only[zQ,simprocAttr,dP,lM,cA,aV,dK,cF,y8,db,jj,fS,ka,yG,hn,h1,h2,ak7,ak4,List.getElem?_map,rL,BQ,hi,ala,alc,aw.cells,o2,hX,hY,ie,ll,gY,kG,hB,alp,ak5,ak6,alu,abZ,agN,hlen.2.1,EK.2.1]
  exact Zdn
theorem HN (hg:fz t Bs C) (oK:nb=Bs.length) (ht:t.length<=1000000) (hp:p<=t.length) (Nb:Lt.length=C.length):∀k,EOK t root parts bg nb Bs g b a C p Lt k
 |0=>HS t root parts bg nb Bs g b a C p Lt hg oK ht hp Nb 0 (λj h=>ae)
 |k+1=>HS t root parts bg nb Bs g b a C p Lt hg oK ht hp Nb (k+1) (λj h=>by
  have:j=k:=ae;subst this;exact HN hg oK ht hp Nb j)
end
variable{l:List Nat}
structure sR where
 ad:List Nat
 ho:List Bool
 rd:List Nat
 gn:Nat
def fC (p:Nat) (l:List Nat):Nat:=l.countP λx=>x != p+1
def gH (t:List Int) (Bs:List (List Bool)) (C:List aw) (p:Nat):Nat->Nat->sR->sR
 |0,_,st=>st
 |k+1,n,st =>
  if st.ad[n]?=none\/st.ad[n]?=some (p+1) then st else
  let dI:sR:=⟨st.ad.set n (p+1),st.ho,st.rd,st.gn⟩
  let i:=bH C n
  if i.op=0 then ⟨dI.ad,dI.ho.set p true,dI.rd,dI.gn⟩
  else if i.op=1 then (if i.pass t Bs p=true then ⟨dI.ad,dI.ho,dI.rd++[n],dI.gn+1⟩ else dI)
  else if i.op=2 then gH t Bs C p k i.y.toNat (gH t Bs C p k i.x.toNat dI)
  else if i.op=3 then gH t Bs C p k i.x.toNat dI
  else if i.op=4 then gH t Bs C p k (n+1) dI
  else if i.op=5 then (if i.pass t Bs p=true then gH t Bs C p k (n+1) dI else dI)
  else dI
theorem rO {p n:Nat}{x:Nat} (h:l[n]?=some x) (hx:x≠p+1):fC p (l.set n (p+1))+1=fC p l:=by unfold fC;have hn:=(List.getElem?_eq_some_iff.1 h).1;have he:l[n]=x:=(List.getElem?_eq_some_iff.1 h).2;have hp:0<l.countP λx=>x != p+1:=List.countP_pos_iff.2 ⟨x,List.mem_of_getElem? h,by simp [hx]⟩;rw[List.countP_set hn,he];simp [hx];omega
theorem KZ {p n:Nat}{x:Nat} (h:l[n]?=some x) (hx:x≠p+1):0<fC p l:=List.countP_pos_iff.2 ⟨x,List.mem_of_getElem? h,by simp [hx]⟩
section
variable (t:List Int) (Bs:List (List Bool)) (C:List aw) (p:Nat)
def tE (st st':sR):Prop:=st'.ad.length=st.ad.length/\st'.ho.length=st.ho.length/\fC p st'.ad<=fC p st.ad/\st'.rd.length+fC p st'.ad<=st.rd.length+fC p st.ad/\∀e∈st'.rd,e∈st.rd\/(bH C e).op=1
variable {C p}
theorem tE.refl (st:sR):tE C p st st:=⟨rfl,rfl,ale _,ale _,λ_ h=>.inl h⟩
theorem tE.trans {a b c:sR} (h:tE C p a b) (k:tE C p b c):tE C p a c :=
 ⟨k.1.trans h.1,k.2.1.trans h.2.1,al7 k.2.2.1 h.2.2.1,al7 k.2.2.2.1 h.2.2.2.1,λe he=>(k.2.2.2.2 e he).elim (λh'=>h.2.2.2.2 e h') .inr⟩
variable (C p)
theorem CM:∀(k n:Nat) (st:sR),tE C p st (gH t Bs C p k n st)
 |0,_,st=>.refl st
 |k+1,n,st=>by
  have ih:=CM k;rw[gH];split
  ·exact .refl st
  ·rename_i hk;obtain⟨x,hx⟩:∃x,st.ad[n]?=some x:=by
    cases h:st.ad[n]? with
    |none=>exact absurd (.inl h) hk
    |some x=>exact⟨x,rfl⟩
   have yb:x≠p+1:=λh=>hk (.inr (by rw[hx,h]));have hu:=rO hx yb;have key:tE C p st ⟨st.ad.set n (p+1),st.ho,st.rd,st.gn⟩:=⟨aq,rfl,oE,oE,λ_ h=>.inl h⟩
   simp only;split
   ·exact key.trans ⟨rfl,aq,ale _,ale _,λ_ h=>.inl h⟩
   split
   ·split
    ·rename_i h1 _;refine⟨aq,rfl,oE,by simp only[ald,alC];omega,λe he=>?_⟩;rcases List.mem_append.1 he with h|h
     ·exact .inl h
     ·rw[List.mem_singleton.1 h];exact .inr h1
    ·exact key
   split
   ·exact(key.trans (ih _ _)).trans (ih _ _)
   split
   ·exact key.trans (ih _ _)
   split
   ·exact key.trans (ih _ _)
   split
   ·split
    ·exact key.trans (ih _ _)
    ·exact key
   ·exact key
end
def bG (q:Nat) (l:List Nat):VL.Obj:=⟨q,true,1,l.map λ(x:Nat)=>[i64 (x:Int)]⟩
def dG (k q n:Nat):VL.Obj:=⟨0,true,1,[[.so k q 0 n]]⟩
def Cb (g N:Nat):V:=.cl (.func 99) [] [.rf 4 0 0 0,.bx (.so 2 g 0 N),.rf 6 0 0 0,.rf 8 0 0 0,.rf 9 0 0 0]
def fP (t:List Int) (root parts:D) (bg nb:Nat) (Bs:List (List Bool)) (g b a:Nat) (C:List aw) (st:sR):List VL.Obj :=
 [dV t root parts bg nb,fW bg Bs,db g b a C,bG 0 st.ad,dK 0 3 C.length,cF 0 st.ho,dK 0 5 (t.length+1),bG st.gn st.rd,dG 7 st.gn st.rd.length,⟨0,true,1,[[Cb g C.length]]⟩]
def ff (g N n p:Nat):List V:=[i64 n,i64 p,.rf 4 0 0 0,.bx (.so 2 g 0 N),.rf 6 0 0 0,.rf 8 0 0 0,.rf 9 0 0 0]
theorem oY (ρ:List Nat) (q:Nat) (l:List Nat):ba ρ (bG q l)=bG q l:=by unfold ba bG;simp only[alH];congr 1
theorem oD (n q:Nat) (l:List Nat):aY n (bG q l)=true:=by unfold aY bG;rw[als];intro e he;obtain⟨i,_,rfl⟩:=List.mem_map.1 he;rfl
theorem rK (t:List Int) (root parts:D) (bg nb:Nat) (Bs:List (List Bool)) (b a:Nat) (C:List aw) (hg:fz t Bs C) (oK:nb=Bs.length) (ht:t.length<=1000000) {n:Nat} (hn:n<C.length) (ho:(bH C n).op=1\/(bH C n).op=5) (p:Nat) (hp:p<=t.length) :
  ∃Xc aj,cB b a (bH C n).node=.cl (.func Xc) [] aj/\ak.go 2 aj=true/\aj.map (aI [0,1])=aj /\
   av Tryz.prog Xc (i64 (p:Int)::aj) [dV t root parts bg nb,fW bg Bs] λv s=>v=bV ((bH C n).pass t Bs p)/\s=[dV t root parts bg nb,fW bg Bs]:=by
 rcases ho with o|o
 ·obtain⟨re,k,h1,h2,h3⟩:=hg.set n hn o;have tP:=DY t root parts bg nb Bs b a re k p ae h3 ht;rw[h1];refine⟨65,[mB b a,nB re k],by unfold cB;simp only[h2,if_true],?_,?_,?_⟩
  ·simp [ak,ak.go,mB,nB]
  ·simp [aI,aI.go,mB,nB]
  ·have:(bH C n).pass t Bs p=(decide ((p:Int)<t.length)&&yP re.set (lK t p)):=by unfold aw.pass;rw[h1];simp only[h2,if_true]
   rw[this];exact tP
 ·obtain⟨re,k,h1,h2,h3,h4⟩:=hg.ask n hn o;rw[h1];by_cases kr:re.op=11
  ·have tP:=xJ t root parts bg nb Bs b a re k p ae ae (h3 kr).1 (h3 kr).2 ht;refine⟨67,[nB re k,mB b a],by unfold cB;simp only[kr];rfl,?_,?_,?_⟩
   ·simp [ak,ak.go,mB,nB]
   ·simp [aI,aI.go,mB,nB]
   ·have:(bH C n).pass t Bs p=bY re.n t p:=by unfold aw.pass;rw[h1];simp only[kr];rfl
    rw[this];exact tP
  ·obtain⟨l,tc,BT⟩:=h4 kr;obtain⟨y,hy⟩:∃y,l[p]?=some y:=cb;have tP:=BI t root parts bg nb Bs b a re k p oK tc hy;refine⟨69,[mB b a,nB re k],by unfold cB;simp only[h2,kr,if_false],?_,?_,?_⟩
   ·simp [ak,ak.go,mB,nB]
   ·simp [aI,aI.go,mB,nB]
   ·have:(bH C n).pass t Bs p=y:=by unfold aw.pass;rw[h1];simp only[h2,kr,if_false,List.getD_eq_getElem?_getD,tc,amk,hy]
    rw[this];exact tP
section
variable (t:List Int) (root parts:D) (bg nb:Nat) (Bs:List (List Bool)) (g b a:Nat) (C:List aw) (p:Nat)
theorem M6 (st:sR):(fP t root parts bg nb Bs g b a C st).map (ba [0,1,2,3,4,5,6,7,8,9])=fP t root parts bg nb Bs g b a C st:=by simp only[fP,ak8,ak9,kL,zV,fQ,oY];simp [ba,dV,dK,dG,Cb,aI,aI.go,i64]
theorem Pq (st:sR):(fP t root parts bg nb Bs g b a C st).all (aY 10)=true:=by have:=hU 10 bg Bs;simp only[fP,alR,alW,kR 10 _ _ _ ae,Dg,oD,alp];simp [aY,dV,dK,dG,Cb,ak,ak.go,i64,this]
def MW (k:Nat):Prop:=∀(n:Nat) (st:sR),n<C.length->st.ad.length=C.length->st.ho.length=t.length+1->fC p st.ad<=k->st.rd.length+fC p st.ad<=C.length ->
 av Tryz.prog 99 (ff g C.length n p) (fP t root parts bg nb Bs g b a C st) λv s=>v=.tu []/\s=fP t root parts bg nb Bs g b a C (gH t Bs C p (k+1) n st)
variable {t root parts bg nb Bs g b a C p}
theorem Ho {k n:Nat}{st:sR} (h:MW t root parts bg nb Bs g b a C p k) (hn:n<C.length) (h1:st.ad.length=C.length) (h2:st.ho.length=t.length+1) (hu:fC p st.ad<=k) (hr:st.rd.length+fC p st.ad<=C.length) {tl:List VL.Obj}{K:V->List VL.Obj->Prop}
  (hk:K (.tu []) (fP t root parts bg nb Bs g b a C (gH t Bs C p (k+1) n st)++tl)) :
  av Tryz.prog 99 (ff g C.length n p) (fP t root parts bg nb Bs g b a C st++tl) K:=by
 have CX:=M6 t root parts bg nb Bs g b a C st;refine dD [0,1,2,3,4,5,6,7,8,9] (h n st hn h1 h2 hu hr) aF rfl ?_ eh eh (Pq t root parts bg nb Bs g b a C st) (r':=.tu []) rfl ?_
 ·have h2:(fP t root parts bg nb Bs g b a C st).map (λo=>some (ba [0,1,2,3,4,5,6,7,8,9] o))=((fP t root parts bg nb Bs g b a C st).map (ba [0,1,2,3,4,5,6,7,8,9])).map some:=by rw[alH];rfl
  rw[h2,CX];rfl
 ·rw[M6];exact hk
end
end Go.Proofs.YtjjfioalgbecmaaGreat
