/- A part of the proof (G63 H5). -/
import Derived.Test.YtllagoeijcjpiaaBD48
import Derived.Test.YtllagoeijcjpiaaBD7
import Derived.Test.YtllagoeijcjpiaaBD32
import Derived.Test.YtllagoeijcjpiaaBD50
set_option linter.unusedSimpArgs false
set_option linter.unusedVariables false
set_option maxRecDepth 100000
set_option maxHeartbeats 80000000
namespace Go.Proofs.Ytllagoeijcjpiaa
open Go.VL Go.Proofs.Try
def nZ:aB→ao→Bool→List (Int×aq×aB)→aB→Prop
 |m,p,al,[],mE=>Ev m 0 p al (mE,.zero,false)
 |m,p,al,r::L,mE=>Ev m 0 p al (r.2.2,⟨r.1,r.2.1,.nil⟩,true)∧nZ r.2.2 .zero false L mE
def zE:aB→ao→Bool→List (Int×aq×aB)→Prop
 |_,_,_,[]=>True
 |m,p,al,r::L=>Ev m 0 p al (r.2.2,⟨r.1,r.2.1,.nil⟩,true)∧zE r.2.2 .zero false L
theorem rH {m:aB}{b:Nat}{p:ao}{al:Bool}{x y:Rs} (h1:Ev m b p al x) (h2:Ev m b p al y):x=y:=by
 obtain⟨_,h1⟩:=h1
 obtain⟨_,h2⟩:=h2
 exact G4 h1 h2
theorem w7:∀{L' L:List (Int×aq×aB)}{m:aB}{p:ao}{al:Bool}{mE:aB},nZ m p al L mE→zE m p al L'→∃L2,L=L'++L2
 |[],L,_,_,_,_,_,_=>⟨L,rfl⟩
 |r'::L',[],_,_,_,_,h,h'=>by
  have:=rH h h'.1
  simp at this
 |r'::L',r::L,_,_,_,_,h,h'=>by
  have:=rH h.1 h'.1
  obtain⟨a,c,m⟩:=r
  obtain⟨a',c',m'⟩:=r'
  simp only[Prod.mk.injEq,ao.mk.injEq,and_true]at this
  obtain⟨rfl,rfl,rfl⟩:=this
  obtain⟨L2,rfl⟩:=w7 h.2 h'.2
  exact⟨L2,rfl⟩
theorem sS:∀{L L':List (Int×aq×aB)}{m:aB}{p:ao}{al:Bool}{mE Pa:aB},nZ m p al L mE→nZ m p al L' Pa→L=L'∧mE=Pa
 |[],[],_,_,_,_,_,h,h'=>by
  have:=rH h h'
  simp at this
  exact⟨rfl,this⟩
 |[],_::_,_,_,_,_,_,h,h'=>by
  have:=rH h h'.1
  simp at this
 |_::_,[],_,_,_,_,_,h,h'=>by
  have:=rH h.1 h'
  simp at this
 |r::L,r'::L',_,_,_,_,_,h,h'=>by
  have:=rH h.1 h'.1
  obtain⟨a,c,m⟩:=r
  obtain⟨a',c',m'⟩:=r'
  simp only[Prod.mk.injEq,ao.mk.injEq,and_true]at this
  obtain⟨rfl,rfl,rfl⟩:=this
  obtain⟨rfl,rfl⟩:=sS h.2 h'.2
  exact⟨rfl,rfl⟩
theorem jQ:∀{R:List (Int×aq)}{m m':aB}{p p':ao}{al G3:Bool},kH 0 m p al R m' p' G3 →
  ∃L:List (Int×aq×aB),L.map (fun r=>(r.1,r.2.1))=R∧(∀r∈L,r.2.2.aW=false)∧(∀L2 mE,nZ m' p' G3 L2 mE→nZ m p al (L++L2) mE)∧∀L2,zE m' p' G3 L2→zE m p al (L++L2)
 |[],_,_,_,_,_,_,h=>by
  refine⟨[],rfl,fun r hr=>by simp at hr,fun L2 mE h2=>?_,fun L2 h2=>?_⟩
  ·cases L2 with
   |nil=>exact iK h rfl h2
   |cons r L2=>exact⟨iK h rfl h2.1,h2.2⟩
  ·cases L2 with
   |nil=>trivial
   |cons r L2=>exact⟨iK h rfl h2.1,h2.2⟩
 |r::R,_,_,_,_,_,_,h=>by
  obtain⟨m1,k1,k2,k3⟩:=Eg h rfl
  obtain⟨L,j1,j2,j3,j4⟩:=jQ k3
  refine⟨(r.1,r.2,m1)::L,by simp [j1],fun q hq=>?_,fun L2 mE h2=>⟨k1,j3 L2 mE h2⟩,fun L2 h2=>⟨k1,j4 L2 h2⟩⟩
  rcases List.mem_cons.1 hq with rfl|hq
  ·exact k2
  ·exact j2 q hq
theorem Lr {m:aB}{p:ao}{S:List ao} (hS:oo m S) (hs:m.aW=true):∃m2,Ev m 0 p false (m2,.zero,false)∧m2.top≤m2.dY.length∧m2.aW=true∧Po m m2:=by
 rcases List.eq_nil_or_concat S with rfl|⟨S2,q2,rfl⟩
 ·exact⟨m,jv hS.2.1,hS.len,hs,.refl _⟩
 ·have k5:oo m (S2++[q2]):=by simpa [List.concat_eq_append]using hS
  refine⟨m.pop,?_,k5.last.2.len,hs,uA m⟩
  have hl:=k5.len
  have ht:m.top=S2.length+1:=by rw[k5.2.1,VN];rfl
  refine⟨2,?_⟩
  rw[aQ.eq_2,if_neg (show ¬(false=true∧m.aW=true) from fun h=>by cases h.1),if_neg (fun h=>by cases h.1),if_neg (fun h=>by cases h),if_neg (by omega),if_neg (by have:=k5.2.2;omega),k5.last.1]
  simp only
  rw[aQ.eq_2,if_pos ⟨rfl,hs⟩]
theorem Cz {p:ic}{t:List Int}{at_ ah F:Int} (hv:cF p t F=0) (a0:0≤at_) (a1:at_≤t.length) (hm:0≤ah→0<ah) {m:aB} (hp:m.p=p) :
  ∃L:List (Int×aq×aB),(bK p t at_ ah F).2.ends=L.map (fun r=>r.1)∧(bK p t at_ ah F).2.ai=L.map (fun r=>r.2.1)∧(∀r∈L,r.2.2.aW=false∧r.2.1.length=p.ai.toNat) ∧
   ((0≤ah∧(bK p t at_ ah F).2.empty=false∧(L.length:Int)=ah∧zE (m.iG t at_ F) (df m at_) true L∧∃L0 r,L=L0++[r]∧r.2.2.steps=(bK p t at_ ah F).2.steps∧r.2.2.top≤r.2.2.dY.length∧Po (m.iG t at_ F) r.2.2) ∨
    ((0≤ah→(L.length:Int)<ah)∧∃mE,nZ (m.iG t at_ F) (df m at_) true L mE∧mE.aW=(bK p t at_ ah F).2.empty∧((bK p t at_ ah F).2.empty=false→mE.steps=(bK p t at_ ah F).2.steps)∧mE.top≤mE.dY.length∧Po (m.iG t at_ F) mE)):=by
 obtain⟨R,m',h1,h2,h3,h4,h5,h6⟩:=F8 (ah:=ah) hv a0 a1 hm hp
 simp only[Vx]at h1 h2
 have Fv:∀{L:List (Int×aq×aB)}{R:List (Int×aq)},L.map (fun r=>(r.1,r.2.1))=R→R.map Prod.fst=L.map (fun r=>r.1)∧R.map Prod.snd=L.map (fun r=>r.2.1):=by
  rintro L R rfl;simp
 rcases h6 with ⟨_,k2,k3,k4,_,p',k5⟩|⟨_,k2,k3,k4,_,S',R0,e,d,k5,rfl,k7⟩|⟨_,k2,k3,k4,p',S',k5,k6⟩
 ·obtain⟨L,j1,j2,j3,j4⟩:=jQ k5
  obtain⟨q1,q2⟩:=Fv j1
  have hl:(bK p t at_ ah F).2.ends.length=L.length:=by rw[h1,q1,Vv]
  refine⟨L,by rw[h1,q1],by rw[h2,q2],fun r hr=>⟨j2 r hr,(h3 (r.1,r.2.1) (by rw[← j1];exact List.mem_map.2 ⟨r,hr,rfl⟩)).2.2.2⟩,.inr ⟨fun h0=>by have:=k3 h0;omega,m',?_,by rw[k4.aW,k2],fun _=>k4.steps,k4.dY.len,h4⟩⟩
  have:=j3 [] m' (jv k4.dY.2.1)
  simpa using this
 ·obtain⟨L,j1,j2,j3,j4⟩:=jQ k7
  have Tp:(L++[(e,d,m')]).map (fun r=>(r.1,r.2.1))=R0++[(e,d)]:=by simp [j1]
  obtain⟨q1,q2⟩:=Fv Tp
  have hl:(bK p t at_ ah F).2.ends.length=(L++[(e,d,m')]).length:=by rw[h1,q1,Vv]
  refine⟨L++[(e,d,m')],by rw[h1,q1],by rw[h2,q2],fun r hr=>⟨?_,(h3 (r.1,r.2.1) (by rw[← Tp];exact List.mem_map.2 ⟨r,hr,rfl⟩)).2.2.2⟩,.inl ⟨k3,k2,by omega,j4 _ ⟨?_,trivial⟩,L,_,rfl,k5.steps,k5.dY.len,h4⟩⟩
  ·rcases List.mem_append.1 hr with hr|hr
   ·exact j2 r hr
   ·rw[List.mem_singleton.1 hr];exact k5.aW
  ·have:=nH (m:=m') (base:=0) (p:=⟨e,d,.nil⟩) rfl
   rwa [k5.aW]at this
 ·obtain⟨L,j1,j2,j3,j4⟩:=jQ k6
  obtain⟨q1,q2⟩:=Fv j1
  have hl:(bK p t at_ ah F).2.ends.length=L.length:=by rw[h1,q1,Vv]
  obtain⟨m2,i1,i2,i3,i4⟩:=Lr (p:=p') (by simpa using k5) k4
  refine⟨L,by rw[h1,q1],by rw[h2,q2],fun r hr=>⟨j2 r hr,(h3 (r.1,r.2.1) (by rw[← j1];exact List.mem_map.2 ⟨r,hr,rfl⟩)).2.2.2⟩,.inr ⟨fun h0=>by have:=k3 h0;omega,m2,?_,by rw[i3,k2],(fun h=>by rw[k2]at h;cases h),i2,h4.trans i4⟩⟩
  have:=j3 [] m2 i1
  simpa using this
theorem JG {p:ic}{t:List Int}{at_ F:Int} (hv:cF p t F=0) (a0:0≤at_) (a1:at_≤t.length) {m:aB} (hp:m.p=p) :
  ∃(L:List (Int×aq×aB)) (mE:aB),(bK p t at_ (-1) F).2.ends=L.map (fun r=>r.1)∧(bK p t at_ (-1) F).2.ai=L.map (fun r=>r.2.1)∧(∀r∈L,r.2.2.aW=false∧r.2.1.length=p.ai.toNat) ∧
   nZ (m.iG t at_ F) (df m at_) true L mE∧mE.aW=(bK p t at_ (-1) F).2.empty∧((bK p t at_ (-1) F).2.empty=false→mE.steps=(bK p t at_ (-1) F).2.steps)∧mE.top≤mE.dY.length∧Po (m.iG t at_ F) mE:=by
 obtain⟨L,h1,h2,h3,h4⟩:=Cz (ah:=-1) hv a0 a1 (fun h=>by omega) hp
 rcases h4 with ⟨h,_⟩|⟨_,mE,k1,k2,k3,k4,k5⟩
 ·omega
 ·exact⟨L,mE,h1,h2,h3,k1,k2,k3,k4,k5⟩
theorem CQ {p:ic}{t:List Int}{at_ F:Int} (hv:cF p t F=0) (a0:0≤at_) (a1:at_≤t.length) {m:aB} (hp:m.p=p) {L:List (Int×aq×aB)}{mE:aB} (hO:nZ (m.iG t at_ F) (df m at_) true L mE) {j:Nat}{r:Int×aq×aB} (hj:L[j]?=some r) :
  gU p t at_ (j+1) F=0∧allM p t at_ (j+1) F=(L.take (j+1)).map (fun r=>(r.1,r.2.1))∧sq p t at_ (j+1) F=r.2.2.steps∧r.2.2.top≤r.2.2.dY.length∧Po (m.iG t at_ F) r.2.2:=by
 obtain⟨L',h1,h2,h3,h4⟩:=Cz (ah:=(j:Int)+1) hv a0 a1 (fun h=>by omega) hp
 have La:=(List.getElem?_eq_some_iff.1 hj).1
 rcases h4 with ⟨_,k2,k3,k4,L0,r',k5,k6,k7,k8⟩|⟨k0,Pa,k1,_⟩
 ·have hE:=zH hv a0 a1 k2
  obtain⟨L2,rfl⟩:=w7 hO k4
  have hl:L'.length=j+1:=by omega
  have hr:r'=r:=by
   have dg:L0.length=j:=by rw[k5,VN]at hl;simp at hl;omega
   rw[k5,VY,VF (by omega),dg,Wv]at hj
   simpa using hj
  subst hr
  refine⟨hE,?_,?_,k7,k8⟩
  ·unfold allM
   rw[if_pos hE,h1,h2,List.take_append_of_le_length (by omega),VZ (by omega)]
   clear h1 h2 h3 k4 k5 hO hj hl La k3
   induction L' with
   |nil=>rfl
   |cons x l ih=>simp only[VP,List.zip_cons_cons,ih]
  ·unfold sq;rw[if_pos hE,k6]
 ·obtain⟨rfl,_⟩:=sS hO k1
  have:=k0 (by omega)
  omega
def Fp (p:ic) (t:List Int) (at_ ah F:Int) (d':Int):Prop :=
 eM t F ah (.run (.mk 0 p.re 0 0 .nil) at_ (iv p)) ⟨0,false,[],[]⟩ (bK p t at_ ah F).1 (bK p t at_ ah F).2 0 0 d'
theorem KY {p:ic}{t:List Int}{at_ ah F:Int} (hv:cF p t F=0) (a0:0≤at_) (a1:at_≤t.length):∃d',Fp p t at_ ah F d':=by
 obtain⟨n,e1,_⟩:=iY (ah:=ah) hv a0 a1
 exact(J0 n _ _ _ _ _ e1).GG 0 0
theorem Kq {p:ic}{t:List Int}{at_ ah fuel d':Int} (hv:cF p t fuel=0) (a0:0≤at_) (a1:at_≤t.length) (hm:0≤ah→0<ah) {m:aB} (hp:m.p=p) (hd:m.aC=0) (hT:Fp p t at_ ah fuel d') :
  cA p.re t fuel p.ai.toNat 0 [] ah at_ (m.iG t at_ fuel) (df m at_) true ⟨0,false,[],[]⟩ (bK p t at_ ah fuel).1 (bK p t at_ ah fuel).2 d':=by
 obtain⟨h1,h2,h3,h4,h5⟩:=dA hv
 obtain⟨k1,k2,k3,k4,k5⟩:=eF h1
 have cI:(iv p).length=p.ai.toNat:=by unfold iv;rw[V7]
 have Ir:df m at_=⟨at_,iv p,.mk 0 .root 0 0 .nil⟩:=by unfold df iv;rw[hp]
 rw[Ir]
 refine RW (P:=p.re) (nc:=p.ai.toNat) ⟨by omega,by omega,by omega⟩ hT 0 [] rfl ⟨rfl,Vr _,h4,fun h=>by have:=hm h;simpa using this,VA _,a0,a1,⟨by omega,fun q hq=>.inl (Wm hq)⟩,cI⟩
  (m.iG t at_ fuel) _ ⟨by show m.p.re=p.re;rw[hp],rfl,rfl,(fun h=>by cases h),⟨rfl,rfl,by show 0≤_;omega⟩,rfl,rfl,Vr _⟩ hd (.tree rfl .nil) ?_
 refine⟨fun _=>?_,fun h=>by omega,fun h=>by omega,fun h=>by omega,fun h=>by omega,trivial⟩
 have:((p.ai.toNat:Nat):Int)=p.ai:=by omega
 rw[this]
 exact yc _ k5 (by omega)
theorem Jn {m:aB}{p:ao}{S:List ao} (hS:oo m S) (hs:m.aW=true):∃m2,Ev m 0 p false (m2,.zero,false)∧m2.aC=m.aC:=by
 rcases List.eq_nil_or_concat S with rfl|⟨S2,q2,rfl⟩
 ·exact⟨m,jv hS.2.1,rfl⟩
 ·have k5:oo m (S2++[q2]):=by simpa [List.concat_eq_append]using hS
  refine⟨m.pop,?_,rfl⟩
  have hl:=k5.len
  have ht:m.top=S2.length+1:=by rw[k5.2.1,VN];rfl
  refine⟨2,?_⟩
  rw[aQ.eq_2,if_neg (show ¬(false=true∧m.aW=true) from fun h=>by cases h.1),if_neg (fun h=>by cases h.1),if_neg (fun h=>by cases h),if_neg (by omega),if_neg (by have:=k5.2.2;omega),k5.last.1]
  simp only
  rw[aQ.eq_2,if_pos ⟨rfl,hs⟩]
theorem z5 {p:ic}{t:List Int}{at_ ah F d':Int} (hv:cF p t F=0) (a0:0≤at_) (a1:at_≤t.length) (hm:0≤ah→0<ah) {m:aB} (hp:m.p=p) (hd:m.aC=0) (hT:Fp p t at_ ah F d') :
  ∃L:List (Int×aq×aB),(0≤ah∧(L.length:Int)=ah∧zE (m.iG t at_ F) (df m at_) true L∧∃L0 r,L=L0++[r]∧r.2.2.aC=d') ∨
    ((0≤ah→(L.length:Int)<ah)∧∃mE,nZ (m.iG t at_ F) (df m at_) true L mE∧mE.aC=d'):=by
 obtain⟨R,m',h1,h2,h3,⟨h4,RX⟩,h5,h6⟩:=Kq hv a0 a1 hm hp hd hT
 simp only[Vx]at h1 h2
 have Fv:∀{L:List (Int×aq×aB)}{R:List (Int×aq)},L.map (fun r=>(r.1,r.2.1))=R→R.length=L.length:=by
  rintro L R rfl;simp
 have hR:(bK p t at_ ah F).2.ends.length=R.length:=by rw[h1,Vv]
 rcases h6 with ⟨_,k2,k3,k4,_,p',k5⟩|⟨_,k2,k3,k4,_,S',R0,e,d,k5,rfl,k7⟩|⟨_,k2,k3,k4,p',S',k5,k6⟩
 ·obtain⟨L,j1,j2,j3,j4⟩:=jQ k5
  have hl:=Fv j1
  refine⟨L,.inr ⟨fun h0=>by have:=k3 h0;omega,m',?_,RX⟩⟩
  have:=j3 [] m' (jv k4.dY.2.1)
  simpa using this
 ·obtain⟨L,j1,j2,j3,j4⟩:=jQ k7
  have hl:=Fv j1
  rw[VN]at hR
  refine⟨L++[(e,d,m')],.inl ⟨k3,by rw[VN];simp at hR ⊢;omega,j4 _ ⟨?_,trivial⟩,L,_,rfl,RX⟩⟩
  have:=nH (m:=m') (base:=0) (p:=⟨e,d,.nil⟩) rfl
  rwa [k5.aW]at this
 ·obtain⟨L,j1,j2,j3,j4⟩:=jQ k6
  have hl:=Fv j1
  obtain⟨m2,i1,i2⟩:=Jn (p:=p') (by simpa using k5) k4
  refine⟨L,.inr ⟨fun h0=>by have:=k3 h0;omega,m2,?_,i2.trans RX⟩⟩
  have:=j3 [] m2 i1
  simpa using this
theorem IW {p:ic}{t:List Int}{at_ F d':Int}{k:Nat} (hv:cF p t F=0) (a0:0≤at_) (a1:at_≤t.length) {m:aB} (hp:m.p=p) (hd:m.aC=0) {L:List (Int×aq×aB)}{mE:aB} (hO:nZ (m.iG t at_ F) (df m at_) true L mE)
  (hT:Fp p t at_ ((k:Int)+1) F d'):match L[k]? with
   |some r=>r.2.2.aC=d'
   |none=>mE.aC=d':=by
 obtain⟨L',h|h⟩:=z5 hv a0 a1 (fun h=>by omega) hp hd hT
 ·obtain⟨_,k3,k4,L0,r',k5,k6⟩:=h
  obtain⟨L2,rfl⟩:=w7 hO k4
  have dg:L0.length=k:=by rw[k5,VN]at k3;simp at k3;omega
  have hg:(L'++L2)[k]?=some r':=by
   rw[k5,VY,VF (by omega),dg,Wv]
   rfl
  rw[hg]
  exact k6
 ·obtain⟨k0,Pa,k1,k2⟩:=h
  obtain⟨rfl,rfl⟩:=sS hO k1
  have:=k0 (by omega)
  rw[Wb (by omega)]
  exact k2
theorem JY {p:ic}{t:List Int}{at_ F d':Int} (hv:cF p t F=0) (a0:0≤at_) (a1:at_≤t.length) {m:aB} (hp:m.p=p) (hd:m.aC=0) {L:List (Int×aq×aB)}{mE:aB} (hO:nZ (m.iG t at_ F) (df m at_) true L mE)
  (hT:Fp p t at_ (-1) F d'):mE.aC=d':=by
 obtain⟨L',h|h⟩:=z5 hv a0 a1 (fun h=>by omega) hp hd hT
 ·have:=h.1;omega
 ·obtain⟨k0,Pa,k1,k2⟩:=h
  obtain⟨rfl,rfl⟩:=sS hO k1
  exact k2
end Go.Proofs.Ytllagoeijcjpiaa
