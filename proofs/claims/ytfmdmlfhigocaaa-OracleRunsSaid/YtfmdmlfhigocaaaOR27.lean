/- A part of the proof (O5 O6 Vre Vzs Vzt). -/
import Derived.Test.YtfmdmlfhigocaaaOR12
import Derived.Test.YtfmdmlfhigocaaaOR14
import Derived.Test.YtfmdmlfhigocaaaOR26
set_option linter.unusedSimpArgs false
set_option linter.unusedVariables false
set_option maxRecDepth 100000
set_option maxHeartbeats 80000000
namespace Go.Proofs.Ytfmdmlfhigocaaa
open Go.VL
variable{l:List Bool}
structure au where
 op:Int
 x:Int
 y:Int
 n:Int
 node:Option (Re×Nat)
def mB (b a:Nat):V:=.bx (.pp 0 0 0 0 b a)
def nB (re:Re) (k:Nat):V:=.bx (.d (re.bq k))
def cq (b a:Nat):Option (Re×Nat)->V
 |none=>.d (.sc .nilFunc)
 |some (re,k)=>if re.op=1 then .cl (.func 57) [] [mB b a,nB re k] else if re.op=11 then .cl (.func 59) [] [nB re k,mB b a] else .cl (.func 61) [] [mB b a,nB re k]
def au.cells (b a:Nat) (i:au):List V:=[i64 i.op,i64 i.x,i64 i.y,i64 i.n,cq b a i.node]
def cP (g b a:Nat) (C:List au):VL.Obj:=⟨g,true,5,C.map (au.cells b a)⟩
def au.pass (t:List Int) (Bs:List (List Bool)) (i:au) (p:Nat):Bool:=match i.node with
 |none=>false
 |some (re,k)=>if re.op=1 then decide ((p:Int)<t.length)&&E7 re.set (oo t p) else if re.op=11 then bY re.n t p else (Bs.getD k []).getD p false
def bz (C:List au) (n:Nat):au:=C.getD n ⟨0,0,0,0,none⟩
structure fw (t:List Int) (Bs:List (List Bool)) (C:List au):Prop where
 len:C.length<=100000
 ops:∀n,n<C.length->0<=(bz C n).op/\(bz C n).op<=5
 set:∀n,n<C.length->(bz C n).op=1->∃re k,(bz C n).node=some (re,k)/\re.op=1/\re.set.length<=1000000
 ask:∀n,n<C.length->(bz C n).op=5->∃re k,(bz C n).node=some (re,k)/\re.op≠1/\(re.op=11->0<=re.n/\re.n<=5)/\(re.op≠11->∃l,Bs[k]?=some l/\l.length=t.length+1)
 split:∀n,n<C.length->(bz C n).op=2->0<=(bz C n).x/\(bz C n).x<C.length/\0<=(bz C n).y/\(bz C n).y<C.length
 jump:∀n,n<C.length->(bz C n).op=3->0<=(bz C n).x/\(bz C n).x<C.length
 next:∀n,n<C.length->(bz C n).op=1\/(bz C n).op=4\/(bz C n).op=5->n+1<C.length
structure IE where
 kn:List Bool
 nw:List Bool
def Js (l:List Bool):Nat:=l.count false
def bu (t:List Int) (Bs:List (List Bool)) (C:List au) (p:Nat) (Lt:List Bool):Nat->Nat->IE->Bool×IE
 |0,_,st=>(false,st)
 |k+1,n,st =>
  if st.kn.getD n true=true then (st.nw.getD n false,st) else
  let dM:IE:=⟨st.kn.set n true,st.nw⟩
  let i:=bz C n;let r:Bool×IE :=
   if i.op=0 then (true,dM)
   else if i.op=1 then (i.pass t Bs p&&Lt.getD (n+1) false,dM)
   else if i.op=2 then
    let r1:=bu t Bs C p Lt k i.x.toNat dM
    if r1.1=true then r1 else bu t Bs C p Lt k i.y.toNat r1.2
   else if i.op=3 then bu t Bs C p Lt k i.x.toNat dM
   else if i.op=4 then bu t Bs C p Lt k (n+1) dM
   else if i.op=5 then (if i.pass t Bs p=true then bu t Bs C p Lt k (n+1) dM else (false,dM))
   else (false,dM)
  (r.1,⟨r.2.kn,r.2.nw.set n r.1⟩)
theorem Ig{n:Nat} (h:l[n]?=some false):Js (l.set n true)+1=Js l:=by unfold Js;have hn:=(List.getElem?_eq_some_iff.1 h).1;have he:l[n]=false:=(List.getElem?_eq_some_iff.1 h).2;have hp:0<l.count false:=List.count_pos_iff.2 (ai4 h);rw[List.count_set hn,he];simp;omega
theorem zM{n:Nat} (h:l[n]?=some false):0<Js l:=List.count_pos_iff.2 (ai4 h)
section
variable (t:List Int) (Bs:List (List Bool)) (C:List au) (p:Nat) (Lt:List Bool)
theorem iC:∀(k n:Nat) (st:IE),(bu t Bs C p Lt k n st).2.kn.length=st.kn.length/\(bu t Bs C p Lt k n st).2.nw.length=st.nw.length/\Js (bu t Bs C p Lt k n st).2.kn<=Js st.kn
 |0,_,_=>⟨rfl,rfl,ajc _⟩
 |k+1,n,st=>by
  have ih:=iC k;rw[bu];split
  ·exact⟨rfl,rfl,ajc _⟩
  ·rename_i hk;have h0:st.kn[n]?=some false:=by
    rw[aja]at hk;cases h:st.kn[n]? with
    |none=>rw[h]at hk;simp at hk
    |some b=>rw[h]at hk;cases b <;> simp_all
   have hu:=Ig h0;simp only[ajp];have key:∀r:Bool×IE,(r.2.kn.length=(st.kn.set n true).length/\r.2.nw.length=st.nw.length/\Js r.2.kn<=Js (st.kn.set n true))->r.2.kn.length=st.kn.length/\r.2.nw.length=st.nw.length/\Js r.2.kn<=Js st.kn:=λr h=>⟨by rw[h.1,ajp],h.2.1,ae⟩
   refine key _ ?_;split
   ·exact⟨rfl,rfl,ajc _⟩
   split
   ·exact⟨rfl,rfl,ajc _⟩
   split
   ·split
    ·exact ih _ _
    ·have a:=ih (bz C n).x.toNat ⟨st.kn.set n true,st.nw⟩;have b:=ih (bz C n).y.toNat (bu t Bs C p Lt k (bz C n).x.toNat ⟨st.kn.set n true,st.nw⟩).2;exact⟨b.1.trans a.1,b.2.1.trans a.2.1,aj0 b.2.2 a.2.2⟩
   split
   ·exact ih _ _
   split
   ·exact ih _ _
   split
   ·split
    ·exact ih _ _
    ·exact⟨rfl,rfl,ajc _⟩
   ·exact⟨rfl,rfl,ajc _⟩
end
def cx (q:Nat) (l:List Bool):VL.Obj:=⟨q,true,1,l.map λb=>[bV b]⟩
def dF (q k n:Nat):VL.Obj:=⟨q,true,1,[[.so k q 0 n]]⟩
def yV (g N:Nat):V:=.cl (.func 83) [] [.rf 4 0 0 0,.rf 6 1 0 0,.bx (.so 2 g 0 N),.rf 7 0 0 0,.rf 9 1 0 0,.rf 10 0 0 0]
def lW (t:List Int) (root parts:D) (bg nb:Nat) (Bs:List (List Bool)) (g b a:Nat) (C:List au) (p:Nat) (Lt:List Bool) (st:IE):List VL.Obj :=
 [dK t root parts bg nb,fX bg Bs,cP g b a C,cx 0 st.kn,dF 0 3 C.length,cx 1 st.nw,dF 1 5 C.length,⟨0,true,1,[[i64 p]]⟩,cx 1 Lt,dF 1 8 C.length,⟨0,true,1,[[yV g C.length]]⟩]
def dH (g N n:Nat):List V:=[i64 n,.rf 4 0 0 0,.rf 6 1 0 0,.bx (.so 2 g 0 N),.rf 7 0 0 0,.rf 9 1 0 0,.rf 10 0 0 0]
theorem GP (ρ:List Nat) (b a:Nat) (x:Option (Re×Nat)):aS (0::ρ) (cq b a x)=cq b a x:=by
 cases x with
 |none=>rfl
 |some x =>
  obtain⟨re,k⟩:=x;unfold cq;simp only;split
  ·rfl
  ·split <;> rfl
theorem Ld (n b a:Nat) (hn:0<n) (x:Option (Re×Nat)):ak n (cq b a x)=true:=by
 cases x with
 |none=>rfl
 |some x =>
  obtain⟨re,k⟩:=x;unfold cq;simp only;split
  ·simp [ak,ak.go,mB,nB,hn]
  ·split <;> simp [ak,ak.go,mB,nB,hn]
theorem kY (ρ:List Nat) (g b a:Nat) (C:List au):bf (0::ρ) (cP g b a C)=cP g b a C:=by unfold bf cP;simp only[ajL];congr 1;apply ajK;intro i _;simp [au.cells,GP,aS,aS.go,i64]
theorem ll (n g b a:Nat) (hn:0<n) (C:List au):bc n (cP g b a C)=true:=by unfold bc cP;rw[ajo];intro e he;obtain⟨i,_,rfl⟩:=List.mem_map.1 he;simp [au.cells,Ld n b a hn,ak,i64]
theorem zN (ρ:List Nat) (q:Nat) (l:List Bool):bf ρ (cx q l)=cx q l:=by unfold bf cx;simp only[ajL];congr 1
theorem Dd (n q:Nat) (l:List Bool):bc n (cx q l)=true:=by unfold bc cx;rw[ajo];intro e he;obtain⟨i,_,rfl⟩:=List.mem_map.1 he;rfl
theorem fN (ρ:List Nat) (bg:Nat) (Bs:List (List Bool)):bf ρ (fX bg Bs)=fX bg Bs:=by unfold bf fX;simp only[ajL];congr 1
section
variable (t:List Int) (root parts:D) (bg nb:Nat) (Bs:List (List Bool)) (g b a:Nat) (C:List au) (p:Nat) (Lt:List Bool)
theorem PE (st:IE):(lW t root parts bg nb Bs g b a C p Lt st).map (bf [0,1,2,3,4,5,6,7,8,9,10])=lW t root parts bg nb Bs g b a C p Lt st:=by simp only[lW,aiZ,ai2,kY,zN,fN];simp [bf,dK,dF,yV,aS,aS.go,i64]
theorem XP (st:IE):(lW t root parts bg nb Bs g b a C p Lt st).all (bc 11)=true:=by have:=ij 11 bg Bs;simp only[lW,ajS,ajV,ll 11 _ _ _ ae,Dd,ajk];simp [bc,dK,dF,yV,ak,ak.go,i64,this]
def EOK (k:Nat):Prop:=∀(n:Nat) (st:IE),n<C.length->st.kn.length=C.length->st.nw.length=C.length->Js st.kn<=k ->
 az Try.prog 83 (dH g C.length n) (lW t root parts bg nb Bs g b a C p Lt st) λv s=>v=bV (bu t Bs C p Lt (k+1) n st).1/\s=lW t root parts bg nb Bs g b a C p Lt (bu t Bs C p Lt (k+1) n st).2
variable {t root parts bg nb Bs g b a C p Lt}
theorem mZ {k n:Nat}{st:IE} (h:EOK t root parts bg nb Bs g b a C p Lt k) (hn:n<C.length) (h1:st.kn.length=C.length) (h2:st.nw.length=C.length) (hu:Js st.kn<=k) {tl:List VL.Obj}{K:V->List VL.Obj->Prop}
  (hk:K (bV (bu t Bs C p Lt (k+1) n st).1) (lW t root parts bg nb Bs g b a C p Lt (bu t Bs C p Lt (k+1) n st).2++tl)) :
  az Try.prog 83 (dH g C.length n) (lW t root parts bg nb Bs g b a C p Lt st++tl) K:=by
 have hr:=PE t root parts bg nb Bs g b a C p Lt st;refine ew [0,1,2,3,4,5,6,7,8,9,10] (h n st hn h1 h2 hu) aJ rfl ?_ aN aN (XP t root parts bg nb Bs g b a C p Lt st) (r':=bV (bu t Bs C p Lt (k+1) n st).1) rfl ?_
 ·have h2:(lW t root parts bg nb Bs g b a C p Lt st).map (λo=>some (bf [0,1,2,3,4,5,6,7,8,9,10] o))=((lW t root parts bg nb Bs g b a C p Lt st).map (bf [0,1,2,3,4,5,6,7,8,9,10])).map some:=by rw[ajL];rfl
  rw[h2,hr];rfl
 ·rw[PE];exact hk
end
end Go.Proofs.Ytfmdmlfhigocaaa
namespace Go.VL
def pt (k g:Nat) (x:V):V->V
 |.rf id g' i off=>if id=k/\g'=g/\i=0/\off=0 then .bx x else .rf id g' i off
 |.so id g' lo n=>.so id g' lo n
 |.pp id g' i off b a=>.pp id g' i off b a
 |.mp id g'=>.mp id g'
 |.ag cs=>.ag (go cs)
 |.tu cs=>.tu (go cs)
 |.bx v=>.bx (pt k g x v)
 |.cap lo hi v=>.cap lo hi (pt k g x v)
 |.cl fn first ai=>.cl fn (go first) (go ai)
 |.d y=>.d y
 |.fu aw=>.fu aw
 |.un=>.un
 |.any=>.any
where go:List V->List V
 |[]=>[]
 |v::vs=>pt k g x v::go vs
theorem Iw (k g:Nat) (x:V):∀(l:List V),pt.go k g x l=l.map (pt k g x)
 |[]=>rfl
 |v::vs=>by simp [pt.go,Iw k g x vs]
def N4 (k g:Nat) (v:V) (s:List Obj):List Obj:=(bP s k).map λo=>{ o with aw:=o.aw.map λc=>c.map (pt k g v) }
section
variable {σ:Gh}{s:List Obj}{w:World}{k:Nat}{o:Obj}{v:V}
variable{u:Value}
theorem aC.aaJ (hI:Inv σ s w) (ho:s[k]?=some o) (hl:o.live=true) (iG:o.aw=[[v]]) (hr:aC σ s w (.rf k o.g 0 0) u):aC σ (bP s k) w (.bx v) u:=by
 obtain⟨h1,h2⟩:=uX hI k;cases hr with|rf o' jV hg hu hk=>?_
 rw[ho]at jV;cases jV;obtain⟨b,base,hs,hc,rfl⟩:=hk rfl;rcases hI.content k o ho with h0|⟨b',bQ,arr,E,k1,k2,k3,k4,k5⟩
 ·exact(h0.Cz hs hc).elim
 rw[hs]at k1;cases k1;obtain⟨u',g1,g2,g3⟩:=k5 0 0 v (by rw[iG];rfl);have rG:w.cell? ⟨b,base+0*o.sz+0,none⟩=some u':=by simp only[World.cell?,k2];simpa using g1
 refine .bx rfl rG ?_ g2 (g3.aZ h1);rintro (hb|⟨id,o2,B6,l1,l2,l3⟩)
 ·exact hI.apart k o b base ho hs hb
 ·obtain⟨o3,m1,_,_,_,m5⟩:=kv l1;have:id=k:=hI.inj id k o3 o b B6 base m1 ho (m5 l2) l3 hs;subst this;unfold bP at l1;rw[ho]at l1;simp only at l1;rw[ajm (List.getElem?_eq_some_iff.1 ho).1]at l1;cases l1;cases l2
theorem aC.Vf (hI:Inv σ s w) (ho:s[k]?=some o) (hl:o.live=true) (iG:o.aw=[[v]]) {x:V} (hr:aC σ s w x u):aC σ (bP s k) w (pt k o.g v x) u:=by
 have hE:=(uX hI k).1;have im:∀b,Own σ (bP s k) b->Own σ s b:=by
  rintro b (h|⟨id,p,base,h1,h2,h3⟩)
  ·exact .inl h
  ·obtain⟨p',m1,_,_,_,m5⟩:=kv h1;exact .inr ⟨id,p',base,m1,m5 h2,h3⟩
 have g:∀(cs:List V) (i:Nat) (y:V),(cs.map (pt k o.g v))[i]?=some y->∃x,cs[i]?=some x/\pt k o.g v x=y:=λcs i y hy=>by rw[aiY]at hy;exact Option.map_eq_some_iff.1 hy
 induction hr with
 |d hx=>exact(aC.d hx).aZ hE
 |fu hx=>exact(aC.fu hx).aZ hE
 |un=>exact .un
 |any=>exact .any
 |ag h1 h2 _ ih =>
  simp only[pt,Iw];refine .ag (by simpa using h1) (λi y hy=>?_) (λi y hy=>?_)
  ·obtain⟨x,hx,rfl⟩:=g _ i y hy;exact h2 i x hx
  ·obtain⟨x,hx,rfl⟩:=g _ i y hy;exact ih i x hx
 |tu h1 _ ih =>
  simp only[pt,Iw];refine .tu (by simpa using h1) (λi y hy=>?_);obtain⟨x,hx,rfl⟩:=g _ i y hy;exact ih i x hx
 |bx h1 h2 h3 hu _ ih =>
  simp only[pt];exact .bx h1 h2 (λh'=>h3 (im _ h')) hu ih
 |cap h1 _ ih=>simp only[pt];exact .cap h1 ih
 |cl h1 _ h3 _ Aq gy =>
  simp only[pt,Iw];refine .cl (by simpa using h1) (λi y hy=>?_) (by simpa using h3) (λi y hy=>?_)
  ·obtain⟨x,hx,rfl⟩:=g _ i y hy;exact Aq i x hx
  ·obtain⟨x,hx,rfl⟩:=g _ i y hy;exact gy i x hx
 |so o ho hg hu hk=>exact(aC.so o ho hg hu hk).aZ hE
 |pp o ho hg hk=>exact(aC.pp o ho hg hk).aZ hE
 |mp o ho hg hu hk=>exact(aC.mp o ho hg hu hk).aZ hE
 |@rf _ _ _ _ u o2 SQ hg hu hk =>
  simp only[pt];split
  ·rename_i h;obtain⟨rfl,rfl,rfl,rfl⟩:=h;exact aC.aaJ hI ho hl iG (.rf o2 SQ hg hu hk)
  ·exact(aC.rf o2 SQ hg hu hk).aZ hE
theorem SU (hI:Inv σ s w) (ho:s[k]?=some o) (hl:o.live=true) (iG:o.aw=[[v]]):aG σ s w σ (N4 k o.g v s) w/\Inv σ (N4 k o.g v s) w/\∀{x:V}{u:Value},aC σ s w x u->aC σ (N4 k o.g v s) w (pt k o.g v x) u:=by
 obtain⟨Tp,UP⟩:=uX hI k;have get:∀(id:Nat) (p:Obj),(N4 k o.g v s)[id]?=some p->∃o',(bP s k)[id]?=some o'/\p={ o' with aw:=o'.aw.map λc=>c.map (pt k o.g v) }:=by intro id p hp;unfold N4 at hp;rw[aiY]at hp;obtain⟨o',h1,h2⟩:=Option.map_eq_some_iff.1 hp;exact⟨o',h1,h2.symm⟩
 have Du:aG σ (bP s k) w σ (N4 k o.g v s) w:=by
  refine⟨rfl,rfl,rfl,ajc _,λ_ _ _=>rfl,λ_ arr _ _ h=>⟨arr,h,rfl⟩,λ_ _ h=>h,λb hb=>.inl ?_,λid p hp=>?_,rfl,λ_ _ _=>rfl⟩
  ·rcases hb with h|⟨id,p,base,h1,h2,h3⟩
   ·exact .inl h
   ·obtain⟨o',k1,rfl⟩:=get id p h1;exact .inr ⟨id,o',base,k1,h2,h3⟩
  ·exact⟨{ p with aw:=p.aw.map λc=>c.map (pt k o.g v) },by unfold N4;rw[aiY,hp];rfl,ajc _,λ_=>⟨rfl,rfl⟩⟩
 refine⟨Tp.trans Du,⟨λid p hp=>?_,λi i' p p' b base bQ h1 h2 h3 h4 h5=>?_,hI.low,λi p b base h1 h2=>?_⟩,λhr=>(hr.Vf hI ho hl iG).aZ Du⟩
 ·obtain⟨o',k1,rfl⟩:=get id p hp;obtain⟨o2,k2,q1,q2,q3,_⟩:=kv k1;rcases hI.content id o2 k2 with (⟨h1,h2⟩|⟨b,es,c,h1,h2,h3⟩)|⟨b,base,arr,E,h1,h2,h3,h4,h5⟩
  ·exact .inl (.inl ⟨h1,by simp [q3,h2]⟩)
  ·refine .inl (.inr ⟨b,es,c,h1,h2,?_⟩);simp only[q3,h3,fZ,ajL];apply ajK;intro e _;rfl
  ·refine .inr ⟨b,base,arr,E,h1,h2,λc hc=>?_,by rw[<- q2,<- q3]at h4;simpa using h4,λi j x hx=>?_⟩
   ·obtain⟨c',MT,rfl⟩:=List.mem_map.1 hc;rw[q3]at MT;simpa [q2]using h3 c' MT
   ·simp only[aiY]at hx;rw[q3]at hx;cases hi:o2.aw[i]? with
    |none=>simp [hi]at hx
    |some c =>
     simp only[hi,ai3,ajM,aiY]at hx;obtain⟨y,hy,rfl⟩:=Option.map_eq_some_iff.1 hx;obtain⟨u,g1,g2,g3⟩:=h5 i j y (by simp [hi,hy]);refine⟨u,?_,g2,(g3.Vf hI ho hl iG).aZ Du⟩;show arr[base+i*o'.sz+j]?=some u;rw[q2];exact g1
 ·obtain⟨p1,k1,rfl⟩:=get _ _ h1;obtain⟨p1',l1,rfl⟩:=get _ _ h2;exact UP.inj i i' p1 p1' b base bQ k1 l1 h3 h4 h5
 ·obtain⟨p1,k1,rfl⟩:=get _ _ h1;exact UP.apart i p1 b base k1 h2
theorem Pk {P:Program}{f:FuncId}{args:List V}{K:V->List Obj->Prop} (k:Nat) (ho:s[k]?=some o) (hl:o.live=true) (iG:o.aw=[[v]]) (h:az P f (args.map (pt k o.g v)) (N4 k o.g v s) K):az P f args s K:=by
 refine⟨h.1,λσ w vals hI hlen hv=>?_⟩;obtain⟨hE,ko,hR⟩:=SU hI ho hl iG;refine(h.2 σ w vals ko (by simpa using hlen) λi x hx=>?_).mono λe w' ⟨u,v,σ',s',h1,h2,h3,h4,h5⟩=>⟨u,v,σ',s',h1,hE.trans h2,h3,h4,h5⟩
 rw[aiY]at hx;obtain⟨y,hy,rfl⟩:=Option.map_eq_some_iff.1 hx;exact hR (hv i y hy)
theorem ct.bx {e:Env} (k:Nat) (ho:s[k]?=some o) (hl:o.live=true) (iG:o.aw=[[v]]):ct e s (λt=>pt k o.g v (e t)) (N4 k o.g v s):=by intro σ0 s0 w0 σ w N a hE hI hR;obtain⟨yd,ko,qp⟩:=SU hI ho hl iG;exact⟨σ,hE.trans yd,ko,hR.1,hR.2.1,λt=>qp (hR.2.2 t)⟩
end
end Go.VL
namespace Go.VL
inductive Zn (lim:Nat) (s:List Obj):V->V->Prop
 |Zl {x y:V}:bm lim s x=some y->Zn lim s x y
 |ba {x:V}:ak lim x=true->Zn lim s x x
 |ag {cs ds:List V}:ds.length=cs.length->(∀(i:Nat) (x y:V),cs[i]?=some x->ds[i]?=some y->Zn lim s x y)->Zn lim s (.ag cs) (.ag ds)
 |tu {cs ds:List V}:ds.length=cs.length->(∀(i:Nat) (x y:V),cs[i]?=some x->ds[i]?=some y->Zn lim s x y)->Zn lim s (.tu cs) (.tu ds)
end Go.VL
