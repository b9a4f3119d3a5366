/- A part of the proof (O5 O6 Vre Vzs Vzt). -/
import Derived.Test.YtfmdmlfhigocaaaON12
import Derived.Test.YtfmdmlfhigocaaaON14
import Derived.Test.YtfmdmlfhigocaaaON27
set_option linter.unusedSimpArgs false
set_option linter.unusedVariables false
set_option maxRecDepth 100000
set_option maxHeartbeats 80000000
namespace Go.Proofs.Ytfmdmlfhigocaaa
open Go.VL
variable{l:List Bool}
structure ay where
 op:Int
 x:Int
 y:Int
 n:Int
 node:Option (Re×Nat)
def mB (b a:Nat):V:=.bx (.pp 0 0 0 0 b a)
def nB (re:Re) (k:Nat):V:=.bx (.d (re.bj k))
def bY (b a:Nat):Option (Re×Nat)->V
 |none=>.d (.sc .nilFunc)
 |some (re,k)=>if re.op=1 then .cl (.func 57) [] [mB b a,nB re k] else if re.op=11 then .cl (.func 59) [] [nB re k,mB b a] else .cl (.func 61) [] [mB b a,nB re k]
def ay.cells (b a:Nat) (i:ay):List V:=[i64 i.op,i64 i.x,i64 i.y,i64 i.n,bY b a i.node]
def cG (g b a:Nat) (C:List ay):VL.Obj:=⟨g,true,5,C.map (ay.cells b a)⟩
def ay.pass (t:List Int) (Bs:List (List Bool)) (i:ay) (p:Nat):Bool:=match i.node with
 |none=>false
 |some (re,k)=>if re.op=1 then decide ((p:Int)<t.length)&&E3 re.set (n7 t p) else if re.op=11 then bX re.n t p else (Bs.getD k []).getD p false
def eV (C:List ay) (n:Nat):ay:=C.getD n ⟨0,0,0,0,none⟩
structure m8 (t:List Int) (Bs:List (List Bool)) (C:List ay):Prop where
 len:C.length<=100000
 ops:∀n,n<C.length->0<=(eV C n).op/\(eV C n).op<=5
 set:∀n,n<C.length->(eV C n).op=1->∃re k,(eV C n).node=some (re,k)/\re.op=1/\re.set.length<=1000000
 ask:∀n,n<C.length->(eV C n).op=5->∃re k,(eV C n).node=some (re,k)/\re.op≠1/\(re.op=11->0<=re.n/\re.n<=5)/\(re.op≠11->∃l,Bs[k]?=some l/\l.length=t.length+1)
 split:∀n,n<C.length->(eV C n).op=2->0<=(eV C n).x/\(eV C n).x<C.length/\0<=(eV C n).y/\(eV C n).y<C.length
 jump:∀n,n<C.length->(eV C n).op=3->0<=(eV C n).x/\(eV C n).x<C.length
 next:∀n,n<C.length->(eV C n).op=1\/(eV C n).op=4\/(eV C n).op=5->n+1<C.length
structure L8 where
 kn:List Bool
 nw:List Bool
def NN (l:List Bool):Nat:=l.count false
def bB (t:List Int) (Bs:List (List Bool)) (C:List ay) (p:Nat) (Lt:List Bool):Nat->Nat->L8->Bool×L8
 |0,_,st=>(false,st)
 |k+1,n,st =>
  if st.kn.getD n true=true then (st.nw.getD n false,st) else
  let kO:L8:=⟨st.kn.set n true,st.nw⟩
  let i:=eV C n;let r:Bool×L8 :=
   if i.op=0 then (true,kO)
   else if i.op=1 then (i.pass t Bs p&&Lt.getD (n+1) false,kO)
   else if i.op=2 then
    let r1:=bB t Bs C p Lt k i.x.toNat kO
    if r1.1=true then r1 else bB t Bs C p Lt k i.y.toNat r1.2
   else if i.op=3 then bB t Bs C p Lt k i.x.toNat kO
   else if i.op=4 then bB t Bs C p Lt k (n+1) kO
   else if i.op=5 then (if i.pass t Bs p=true then bB t Bs C p Lt k (n+1) kO else (false,kO))
   else (false,kO)
  (r.1,⟨r.2.kn,r.2.nw.set n r.1⟩)
theorem LI{n:Nat} (h:l[n]?=some false):NN (l.set n true)+1=NN l:=by unfold NN;have hn:=(List.getElem?_eq_some_iff.1 h).1;have he:l[n]=false:=(List.getElem?_eq_some_iff.1 h).2;have hp:0<l.count false:=List.count_pos_iff.2 (afW h);rw[List.count_set hn,he];simp;omega
theorem xW{n:Nat} (h:l[n]?=some false):0<NN l:=List.count_pos_iff.2 (afW h)
section
variable (t:List Int) (Bs:List (List Bool)) (C:List ay) (p:Nat) (Lt:List Bool)
theorem mr:∀(k n:Nat) (st:L8),(bB t Bs C p Lt k n st).2.kn.length=st.kn.length/\(bB t Bs C p Lt k n st).2.nw.length=st.nw.length/\NN (bB t Bs C p Lt k n st).2.kn<=NN st.kn
 |0,_,_=>⟨rfl,rfl,af3 _⟩
 |k+1,n,st=>by
  have ih:=mr k;rw[bB];split
  ·exact⟨rfl,rfl,af3 _⟩
  ·rename_i hk;have h0:st.kn[n]?=some false:=by
    rw[af9]at hk;cases h:st.kn[n]? with
    |none=>rw[h]at hk;simp at hk
    |some b=>rw[h]at hk;cases b <;> simp_all
   have hu:=LI h0;simp only[agl];have key:∀r:Bool×L8,(r.2.kn.length=(st.kn.set n true).length/\r.2.nw.length=st.nw.length/\NN r.2.kn<=NN (st.kn.set n true))->r.2.kn.length=st.kn.length/\r.2.nw.length=st.nw.length/\NN r.2.kn<=NN st.kn:=λr h=>⟨by rw[h.1,agl],h.2.1,by omega⟩
   refine key _ ?_;split
   ·exact⟨rfl,rfl,af3 _⟩
   split
   ·exact⟨rfl,rfl,af3 _⟩
   split
   ·split
    ·exact ih _ _
    ·have a:=ih (eV C n).x.toNat ⟨st.kn.set n true,st.nw⟩;have b:=ih (eV C n).y.toNat (bB t Bs C p Lt k (eV C n).x.toNat ⟨st.kn.set n true,st.nw⟩).2;exact⟨b.1.trans a.1,b.2.1.trans a.2.1,ag4 b.2.2 a.2.2⟩
   split
   ·exact ih _ _
   split
   ·exact ih _ _
   split
   ·split
    ·exact ih _ _
    ·exact⟨rfl,rfl,af3 _⟩
   ·exact⟨rfl,rfl,af3 _⟩
end
def b5 (q:Nat) (l:List Bool):VL.Obj:=⟨q,true,1,l.map λb=>[bV b]⟩
def dc (q k n:Nat):VL.Obj:=⟨q,true,1,[[.so k q 0 n]]⟩
def wZ (g N:Nat):V:=.cl (.func 83) [] [.rf 4 0 0 0,.rf 6 1 0 0,.bx (.so 2 g 0 N),.rf 7 0 0 0,.rf 9 1 0 0,.rf 10 0 0 0]
def kP (t:List Int) (root parts:D) (bg nb:Nat) (Bs:List (List Bool)) (g b a:Nat) (C:List ay) (p:Nat) (Lt:List Bool) (st:L8):List VL.Obj :=
 [dp t root parts bg nb,fr bg Bs,cG g b a C,b5 0 st.kn,dc 0 3 C.length,b5 1 st.nw,dc 1 5 C.length,⟨0,true,1,[[i64 p]]⟩,b5 1 Lt,dc 1 8 C.length,⟨0,true,1,[[wZ g C.length]]⟩]
def dh (g N n:Nat):List V:=[i64 n,.rf 4 0 0 0,.rf 6 1 0 0,.bx (.so 2 g 0 N),.rf 7 0 0 0,.rf 9 1 0 0,.rf 10 0 0 0]
theorem Ea (ρ:List Nat) (b a:Nat) (x:Option (Re×Nat)):aL (0::ρ) (bY b a x)=bY b a x:=by
 cases x with
 |none=>rfl
 |some x =>
  obtain⟨re,k⟩:=x;unfold bY;simp only;split
  ·rfl
  ·split <;> rfl
theorem IC (n b a:Nat) (hn:0<n) (x:Option (Re×Nat)):ah n (bY b a x)=true:=by
 cases x with
 |none=>rfl
 |some x =>
  obtain⟨re,k⟩:=x;unfold bY;simp only;split
  ·simp [ah,ah.go,mB,nB,hn]
  ·split <;> simp [ah,ah.go,mB,nB,hn]
theorem jY (ρ:List Nat) (g b a:Nat) (C:List ay):aT (0::ρ) (cG g b a C)=cG g b a C:=by unfold aT cG;simp only[agy];congr 1;apply agC;intro i _;simp [ay.cells,Ea,aL,aL.go,i64]
theorem kj (n g b a:Nat) (hn:0<n) (C:List ay):aG n (cG g b a C)=true:=by unfold aG cG;rw[af8];intro e he;obtain⟨i,_,rfl⟩:=List.mem_map.1 he;simp [ay.cells,IC n b a hn,ah,i64]
theorem xX (ρ:List Nat) (q:Nat) (l:List Bool):aT ρ (b5 q l)=b5 q l:=by unfold aT b5;simp only[agy];congr 1
theorem AW (n q:Nat) (l:List Bool):aG n (b5 q l)=true:=by unfold aG b5;rw[af8];intro e he;obtain⟨i,_,rfl⟩:=List.mem_map.1 he;rfl
theorem fh (ρ:List Nat) (bg:Nat) (Bs:List (List Bool)):aT ρ (fr bg Bs)=fr bg Bs:=by unfold aT fr;simp only[agy];congr 1
section
variable (t:List Int) (root parts:D) (bg nb:Nat) (Bs:List (List Bool)) (g b a:Nat) (C:List ay) (p:Nat) (Lt:List Bool)
theorem My (st:L8):(kP t root parts bg nb Bs g b a C p Lt st).map (aT [0,1,2,3,4,5,6,7,8,9,10])=kP t root parts bg nb Bs g b a C p Lt st:=by simp only[kP,afR,afU,jY,xX,fh];simp [aT,dp,dc,wZ,aL,aL.go,i64]
theorem UJ (st:L8):(kP t root parts bg nb Bs g b a C p Lt st).all (aG 11)=true:=by have:=gr 11 bg Bs;simp only[kP,agq,agA,kj 11 _ _ _ (by omega),AW,af5];simp [aG,dp,dc,wZ,ah,ah.go,i64,this]
def YX (k:Nat):Prop:=∀(n:Nat) (st:L8),n<C.length->st.kn.length=C.length->st.nw.length=C.length->NN st.kn<=k ->
 aq Try.prog 83 (dh g C.length n) (kP t root parts bg nb Bs g b a C p Lt st) λv s=>v=bV (bB t Bs C p Lt (k+1) n st).1/\s=kP t root parts bg nb Bs g b a C p Lt (bB t Bs C p Lt (k+1) n st).2
variable {t root parts bg nb Bs g b a C p Lt}
theorem lX {k n:Nat}{st:L8} (h:YX t root parts bg nb Bs g b a C p Lt k) (hn:n<C.length) (h1:st.kn.length=C.length) (h2:st.nw.length=C.length) (hu:NN st.kn<=k) {tl:List VL.Obj}{K:V->List VL.Obj->Prop}
  (hk:K (bV (bB t Bs C p Lt (k+1) n st).1) (kP t root parts bg nb Bs g b a C p Lt (bB t Bs C p Lt (k+1) n st).2++tl)) :
  aq Try.prog 83 (dh g C.length n) (kP t root parts bg nb Bs g b a C p Lt st++tl) K:=by
 have hr:=My t root parts bg nb Bs g b a C p Lt st;refine cH [0,1,2,3,4,5,6,7,8,9,10] (h n st hn h1 h2 hu) (by decide) rfl ?_ (by rfl) (by rfl) (UJ t root parts bg nb Bs g b a C p Lt st) (r':=bV (bB t Bs C p Lt (k+1) n st).1) rfl ?_
 ·have h2:(kP t root parts bg nb Bs g b a C p Lt st).map (λo=>some (aT [0,1,2,3,4,5,6,7,8,9,10] o))=((kP t root parts bg nb Bs g b a C p Lt st).map (aT [0,1,2,3,4,5,6,7,8,9,10])).map some:=by rw[agy];rfl
  rw[h2,hr];rfl
 ·rw[My];exact hk
end
end Go.Proofs.Ytfmdmlfhigocaaa
namespace Go.VL
def nO (k g:Nat) (x:V):V->V
 |.rf id g' i off=>if id=k/\g'=g/\i=0/\off=0 then .bx x else .rf id g' i off
 |.so id g' lo n=>.so id g' lo n
 |.pp id g' i off b a=>.pp id g' i off b a
 |.mp id g'=>.mp id g'
 |.ag cs=>.ag (go cs)
 |.tu cs=>.tu (go cs)
 |.bx v=>.bx (nO k g x v)
 |.cap lo hi v=>.cap lo hi (nO k g x v)
 |.cl fn first ak=>.cl fn (go first) (go ak)
 |.d y=>.d y
 |.fu aw=>.fu aw
 |.un=>.un
 |.any=>.any
where go:List V->List V
 |[]=>[]
 |v::vs=>nO k g x v::go vs
theorem FX (k g:Nat) (x:V):∀(l:List V),nO.go k g x l=l.map (nO k g x)
 |[]=>rfl
 |v::vs=>by simp [nO.go,FX k g x vs]
def K5 (k g:Nat) (v:V) (s:List Obj):List Obj:=(bM s k).map λo=>{ o with aw:=o.aw.map λc=>c.map (nO k g v) }
section
variable {σ:Gh}{s:List Obj}{w:World}{k:Nat}{o:Obj}{v:V}
variable{u:Value}
theorem aA.XD (hI:Inv σ s w) (ho:s[k]?=some o) (hl:o.live=true) (fP:o.aw=[[v]]) (hr:aA σ s w (.rf k o.g 0 0) u):aA σ (bM s k) w (.bx v) u:=by
 obtain⟨h1,h2⟩:=sW hI k;cases hr with|rf o' iY hg hu hk=>?_
 rw[ho]at iY;cases iY;obtain⟨b,base,hs,hc,rfl⟩:=hk rfl;rcases hI.content k o ho with h0|⟨b',bI,arr,E,k1,k2,k3,k4,k5⟩
 ·exact(h0.Ax hs hc).elim
 rw[hs]at k1;cases k1;obtain⟨u',g1,g2,g3⟩:=k5 0 0 v (by rw[fP];rfl);have qh:w.cell? ⟨b,base+0*o.sz+0,none⟩=some u':=by simp only[World.cell?,k2];simpa using g1
 refine .bx rfl qh ?_ g2 (g3.aX h1);rintro (hb|⟨id,o2,z5,l1,l2,l3⟩)
 ·exact hI.apart k o b base ho hs hb
 ·obtain⟨o3,m1,_,_,_,m5⟩:=jt l1;have:id=k:=hI.inj id k o3 o b z5 base m1 ho (m5 l2) l3 hs;subst this;unfold bM at l1;rw[ho]at l1;simp only at l1;rw[agc (List.getElem?_eq_some_iff.1 ho).1]at l1;cases l1;cases l2
theorem aA.Sd (hI:Inv σ s w) (ho:s[k]?=some o) (hl:o.live=true) (fP:o.aw=[[v]]) {x:V} (hr:aA σ s w x u):aA σ (bM s k) w (nO k o.g v x) u:=by
 have hE:=(sW hI k).1;have xr:∀b,Own σ (bM s k) b->Own σ s b:=by
  rintro b (h|⟨id,p,base,h1,h2,h3⟩)
  ·exact .inl h
  ·obtain⟨p',m1,_,_,_,m5⟩:=jt h1;exact .inr ⟨id,p',base,m1,m5 h2,h3⟩
 have g:∀(cs:List V) (i:Nat) (y:V),(cs.map (nO k o.g v))[i]?=some y->∃x,cs[i]?=some x/\nO k o.g v x=y:=λcs i y hy=>by rw[afO]at hy;exact Option.map_eq_some_iff.1 hy
 induction hr with
 |d hx=>exact(aA.d hx).aX hE
 |fu hx=>exact(aA.fu hx).aX hE
 |un=>exact .un
 |any=>exact .any
 |ag h1 h2 _ ih =>
  simp only[nO,FX];refine .ag (by simpa using h1) (λi y hy=>?_) (λi y hy=>?_)
  ·obtain⟨x,hx,rfl⟩:=g _ i y hy;exact h2 i x hx
  ·obtain⟨x,hx,rfl⟩:=g _ i y hy;exact ih i x hx
 |tu h1 _ ih =>
  simp only[nO,FX];refine .tu (by simpa using h1) (λi y hy=>?_);obtain⟨x,hx,rfl⟩:=g _ i y hy;exact ih i x hx
 |bx h1 h2 h3 hu _ ih =>
  simp only[nO];exact .bx h1 h2 (λh'=>h3 (xr _ h')) hu ih
 |cap h1 _ ih=>simp only[nO];exact .cap h1 ih
 |cl h1 _ h3 _ yp ym =>
  simp only[nO,FX];refine .cl (by simpa using h1) (λi y hy=>?_) (by simpa using h3) (λi y hy=>?_)
  ·obtain⟨x,hx,rfl⟩:=g _ i y hy;exact yp i x hx
  ·obtain⟨x,hx,rfl⟩:=g _ i y hy;exact ym i x hx
 |so o ho hg hu hk=>exact(aA.so o ho hg hu hk).aX hE
 |pp o ho hg hk=>exact(aA.pp o ho hg hk).aX hE
 |mp o ho hg hu hk=>exact(aA.mp o ho hg hu hk).aX hE
 |@rf _ _ _ _ u o2 PH hg hu hk =>
  simp only[nO];split
  ·rename_i h;obtain⟨rfl,rfl,rfl,rfl⟩:=h;exact aA.XD hI ho hl fP (.rf o2 PH hg hu hk)
  ·exact(aA.rf o2 PH hg hu hk).aX hE
theorem PJ (hI:Inv σ s w) (ho:s[k]?=some o) (hl:o.live=true) (fP:o.aw=[[v]]):aF σ s w σ (K5 k o.g v s) w/\Inv σ (K5 k o.g v s) w/\∀{x:V}{u:Value},aA σ s w x u->aA σ (K5 k o.g v s) w (nO k o.g v x) u:=by
 obtain⟨Qk,RP⟩:=sW hI k;have get:∀(id:Nat) (p:Obj),(K5 k o.g v s)[id]?=some p->∃o',(bM s k)[id]?=some o'/\p={ o' with aw:=o'.aw.map λc=>c.map (nO k o.g v) }:=by intro id p hp;unfold K5 at hp;rw[afO]at hp;obtain⟨o',h1,h2⟩:=Option.map_eq_some_iff.1 hp;exact⟨o',h1,h2.symm⟩
 have AB:aF σ (bM s k) w σ (K5 k o.g v s) w:=by
  refine⟨rfl,rfl,rfl,af3 _,λ_ _ _=>rfl,λ_ arr _ _ h=>⟨arr,h,rfl⟩,λ_ _ h=>h,λb hb=>.inl ?_,λid p hp=>?_,rfl,λ_ _ _=>rfl⟩
  ·rcases hb with h|⟨id,p,base,h1,h2,h3⟩
   ·exact .inl h
   ·obtain⟨o',k1,rfl⟩:=get id p h1;exact .inr ⟨id,o',base,k1,h2,h3⟩
  ·exact⟨{ p with aw:=p.aw.map λc=>c.map (nO k o.g v) },by unfold K5;rw[afO,hp];rfl,af3 _,λ_=>⟨rfl,rfl⟩⟩
 refine⟨Qk.trans AB,⟨λid p hp=>?_,λi i' p p' b base bI h1 h2 h3 h4 h5=>?_,hI.low,λi p b base h1 h2=>?_⟩,λhr=>(hr.Sd hI ho hl fP).aX AB⟩
 ·obtain⟨o',k1,rfl⟩:=get id p hp;obtain⟨o2,k2,q1,q2,q3,_⟩:=jt k1;rcases hI.content id o2 k2 with (⟨h1,h2⟩|⟨b,es,c,h1,h2,h3⟩)|⟨b,base,arr,E,h1,h2,h3,h4,h5⟩
  ·exact .inl (.inl ⟨h1,by simp [q3,h2]⟩)
  ·refine .inl (.inr ⟨b,es,c,h1,h2,?_⟩);simp only[q3,h3,eR,agy];apply agC;intro e _;rfl
  ·refine .inr ⟨b,base,arr,E,h1,h2,λc hc=>?_,by rw[<- q2,<- q3]at h4;simpa using h4,λi j x hx=>?_⟩
   ·obtain⟨c',T8,rfl⟩:=List.mem_map.1 hc;rw[q3]at T8;simpa [q2]using h3 c' T8
   ·simp only[afO]at hx;rw[q3]at hx;cases hi:o2.aw[i]? with
    |none=>simp [hi]at hx
    |some c =>
     simp only[hi,afV,agE,afO]at hx;obtain⟨y,hy,rfl⟩:=Option.map_eq_some_iff.1 hx;obtain⟨u,g1,g2,g3⟩:=h5 i j y (by simp [hi,hy]);refine⟨u,?_,g2,(g3.Sd hI ho hl fP).aX AB⟩;show arr[base+i*o'.sz+j]?=some u;rw[q2];exact g1
 ·obtain⟨p1,k1,rfl⟩:=get _ _ h1;obtain⟨p1',l1,rfl⟩:=get _ _ h2;exact RP.inj i i' p1 p1' b base bI k1 l1 h3 h4 h5
 ·obtain⟨p1,k1,rfl⟩:=get _ _ h1;exact RP.apart i p1 b base k1 h2
theorem Md {P:Program}{f:FuncId}{args:List V}{K:V->List Obj->Prop} (k:Nat) (ho:s[k]?=some o) (hl:o.live=true) (fP:o.aw=[[v]]) (h:aq P f (args.map (nO k o.g v)) (K5 k o.g v s) K):aq P f args s K:=by
 refine⟨h.1,λσ w vals hI hlen hv=>?_⟩;obtain⟨hE,jo,hR⟩:=PJ hI ho hl fP;refine(h.2 σ w vals jo (by simpa using hlen) λi x hx=>?_).mono λe w' ⟨u,v,σ',s',h1,h2,h3,h4,h5⟩=>⟨u,v,σ',s',h1,hE.trans h2,h3,h4,h5⟩
 rw[afO]at hx;obtain⟨y,hy,rfl⟩:=Option.map_eq_some_iff.1 hx;exact hR (hv i y hy)
theorem bO.bx {e:Env} (k:Nat) (ho:s[k]?=some o) (hl:o.live=true) (fP:o.aw=[[v]]):bO e s (λt=>nO k o.g v (e t)) (K5 k o.g v s):=by intro σ0 s0 w0 σ w N a hE hI hR;obtain⟨vV,jo,oR⟩:=PJ hI ho hl fP;exact⟨σ,hE.trans vV,jo,hR.1,hR.2.1,λt=>oR (hR.2.2 t)⟩
end
end Go.VL
namespace Go.VL
inductive Wh (lim:Nat) (s:List Obj):V->V->Prop
 |W6 {x y:V}:ba lim s x=some y->Wh lim s x y
 |aY {x:V}:ah lim x=true->Wh lim s x x
 |ag {cs ds:List V}:ds.length=cs.length->(∀(i:Nat) (x y:V),cs[i]?=some x->ds[i]?=some y->Wh lim s x y)->Wh lim s (.ag cs) (.ag ds)
 |tu {cs ds:List V}:ds.length=cs.length->(∀(i:Nat) (x y:V),cs[i]?=some x->ds[i]?=some y->Wh lim s x y)->Wh lim s (.tu cs) (.tu ds)
end Go.VL
