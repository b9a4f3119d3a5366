/- A part of the proof (G58 G64 G65 G61 G66 G71 G69). -/
import Derived.Test.YtllagoeijcjpiaaBD19
import Derived.Test.YtllagoeijcjpiaaBD48
import Derived.Test.YtllagoeijcjpiaaBD50
import Derived.Test.YtllagoeijcjpiaaBD51
set_option linter.unusedSimpArgs false
set_option linter.unusedVariables false
set_option maxRecDepth 100000
set_option maxHeartbeats 80000000
namespace Go.Proofs.Ytllagoeijcjpiaa
open Go.VL Go.Proofs.Try
theorem cE:(true == true)=true∧(false == false)=true∧(true == false)=false∧(false == true)=false:=⟨rfl,rfl,rfl,rfl⟩
mutual
theorem tg {ρ:List Nat}{k n:Nat} (h:∀i,i<k→ρ.getD i 0<n):∀v:V,ar k v=true→ar n (bu ρ v)=true
 |.so _ _ _ _,hv=>by simp only[ar,bu,decide_eq_true_eq]at *;exact h _ hv
 |.rf _ _ _ _,hv=>by simp only[ar,bu,decide_eq_true_eq]at *;exact h _ hv
 |.pp _ _ _ _ _ _,hv=>by simp only[ar,bu,decide_eq_true_eq]at *;exact h _ hv
 |.mp _ _,hv=>by simp only[ar,bu,decide_eq_true_eq]at *;exact h _ hv
 |.ag cs,hv=>by simp only[ar,bu]at *;exact nG h cs hv
 |.tu cs,hv=>by simp only[ar,bu]at *;exact nG h cs hv
 |.bx v,hv=>by simp only[ar,bu]at *;exact tg h v hv
 |.cap _ _ v,hv=>by simp only[ar,bu]at *;exact tg h v hv
 |.cl _ first ai,hv=>by simp only[ar,bu,VE]at *;exact⟨nG h first hv.1,nG h ai hv.2⟩
 |.d _,_=>rfl
 |.fu _,_=>rfl
 |.un,_=>rfl
 |.any,hv=>hv
theorem nG {ρ:List Nat}{k n:Nat} (h:∀i,i<k→ρ.getD i 0<n):∀l:List V,ar.go k l=true→ar.go n (bu.go ρ l)=true
 |[],_=>rfl
 |v::vs,hv=>by simp only[ar.go,bu.go,VE]at *;exact⟨tg h v hv.1,nG h vs hv.2⟩
end
theorem GX {X Y Z n:Nat} (hX:X<n) (hY:Y<n) (hZ:Z<n) {T:V} (h:ar 3 T=true):ar n (bu [X,Y,Z] T)=true:=by
 refine tg (k:=3) (fun i hi=>?_) T h
 match i,hi with
 |0,_=>exact hX
 |1,_=>exact hY
 |2,_=>exact hZ
theorem Ad {Y Z n:Nat}{m:aB}{T:V} (b a:Nat) (hY:Y<n) (hZ:Z<n) (hT:ar n T=true):cP n (vW Y Z m T)=true∧cP n (xB b a m)=true∧cP n (wH m)=true:=by
 refine⟨?_,?_,mY m.own iD n⟩
 ·unfold vW cP
  simp only[List.all_cons,List.all_nil,Wy,hT,i64,bV,iD,bD]
  simp [ar]
  exact⟨hZ,hY⟩
 ·exact sH m.dY b a n
theorem zY:type_of% (And.intro @i64.eq_1<|And.intro @bV.eq_1<|And.intro @iD.eq_1<|And.intro @bD.eq_1<|And.intro @GM.v.eq_1<|And.intro @ay.eq_1<|And.intro @bk.eq_1<|And.intro @bk.eq_2<|And.intro @List.length_map.{0,0}<|And.intro @List.set_cons_zero.{0}<|And.intro @List.set_cons_succ.{0}<|And.intro @List.length_cons.{0}<|And.intro @List.length_nil.{0}<|And.intro @List.cons_append.{0}<|And.intro @List.nil_append.{0}<|And.intro @ne_eq.{1}<|And.intro @not_true_eq_false<|And.intro @not_false_eq_true<|And.intro @Bool.not_false<|And.intro @Bool.not_true<|And.intro @gt_iff_lt.{0} @decide_true):=(And.intro @i64.eq_1<|And.intro @bV.eq_1<|And.intro @iD.eq_1<|And.intro @bD.eq_1<|And.intro @GM.v.eq_1<|And.intro @ay.eq_1<|And.intro @bk.eq_1<|And.intro @bk.eq_2<|And.intro @List.length_map.{0,0}<|And.intro @List.set_cons_zero.{0}<|And.intro @List.set_cons_succ.{0}<|And.intro @List.length_cons.{0}<|And.intro @List.length_nil.{0}<|And.intro @List.cons_append.{0}<|And.intro @List.nil_append.{0}<|And.intro @ne_eq.{1}<|And.intro @not_true_eq_false<|And.intro @not_false_eq_true<|And.intro @Bool.not_false<|And.intro @Bool.not_true<|And.intro @gt_iff_lt.{0} @decide_true)
structure PU (p:ic) (m:aB):Prop where
 p:m.p=p
 top:m.top≤m.dY.length
theorem Ka (m:aB):ar 3 m.gW=true∧bu [0,1,2] m.gW=m.gW:=by
 unfold aB.gW;split <;> exact⟨rfl,rfl⟩
def AtR (m mm:aB) (T:V):Prop:=m.aW=false∧mm.ready=true∧((∃o w g,mm=m.up true o w g∧(o=true→w=m.t)∧T=mm.text)∨(m.top=0∧mm={ m with ready:=true,t:=[],bq:=false }∧T=.fu []))
theorem Qk {m mm:aB}{T:V} (h:AtR m mm T):ar 3 T=true∧bu [0,1,2] T=T:=by
 rcases h.2.2 with ⟨o,w,g,rfl,_,rfl⟩|⟨_,_,rfl⟩
 ·unfold aB.text;split <;> exact⟨rfl,rfl⟩
 ·exact⟨rfl,rfl⟩
theorem LW {m mm:aB}{T:V} (h:AtR m mm T):mm.p=m.p∧mm.aC=m.aC∧mm.top=m.top∧mm.dY=m.dY:=by
 rcases h.2.2 with ⟨o,w,g,rfl,_,rfl⟩|⟨_,rfl,rfl⟩ <;> exact⟨rfl,rfl,rfl,rfl⟩
theorem Ni {m:aB} (hs:m.aW=false):AtR m (m.done true).kept (m.done true).gW:=by
 have hr:(m.done true).ready=true:=by show (true&&!m.aW)=true;rw[hs];rfl
 have hk:(m.done true).kept.ready=true:=by unfold aB.kept;split <;> exact hr
 refine⟨hs,hk,?_⟩
 by_cases c:0<m.top
 ·refine .inl ⟨true,m.t,m.ew+1,?_,fun _=>rfl,?_⟩
  ·rw[Gf m true ⟨hr,c⟩,hr]
  ·rw[Gf m true ⟨hr,c⟩]
   unfold aB.gW
   rw[if_pos ⟨hr,c⟩]
   rfl
 ·refine .inr ⟨by omega,?_,?_⟩
  ·unfold aB.kept
   rw[if_neg (show ¬((m.done true).ready=true∧0<(m.done true).top) from fun h=>c h.2)]
   have h2:(m.done true).ready=true:=hr
   unfold aB.done at h2 ⊢
   simp only at h2
   rw[h2]
  ·unfold aB.gW
   rw[if_neg (show ¬((m.done true).ready=true∧0<(m.done true).top) from fun h=>c h.2)]
theorem FV {m mm:aB}{T:V} (h:AtR m mm T) {m2:aB}{q:ao}{f:Bool} (he:Ev m 0 .zero false (m2,q,f)) (hq:q.ai.length≤1000000000) :
  ∃mm' T',(∀b a:Nat,az prog 26 [.pp 0 0 0 0 b a] (mm.aA 0 b a T) fun v s=>v=tX (m2.res q f)∧s=mm'.aA 0 b a T')∧ar 3 T'=true∧bu [0,1,2] T'=T' ∧
   mm'.p=m2.p∧mm'.aC=m2.aC∧mm'.top=m2.top∧mm'.dY=m2.dY∧(f=true→m2.aW=false→AtR m2 mm' T')∧(f=false→mm'.ready=false):=by
 obtain⟨hs,hr,h⟩:=h
 rcases h with ⟨o,w,g,rfl,hw,rfl⟩|⟨ht,rfl,rfl⟩
 ·obtain⟨k,hk⟩:=QF hs he true o w g hw
  have hn:=fun b a=>sB 0 b a (m.up true o w g) rfl hk hq
  have yl:m.Fr m2:=by obtain⟨k,hk⟩:=he;exact iM _ _ _ _ _ _ _ hk
  refine⟨(m2.up true o w g).done f,((m2.up true o w g).done f).text,fun b a=>hn b a,gx _,by unfold aB.text;split <;> rfl,rfl,rfl,rfl,rfl,fun hf eD=>?_,fun hf=>?_⟩
  ·have e:(m2.up true o w g).done f=m2.up true o w g:=by rw[Gv,hf,eD];rfl
   rw[e]
   exact⟨eD,rfl,.inl ⟨o,w,g,rfl,fun ho=>by rw[hw ho,yl.t],rfl⟩⟩
  ·rw[Gv,hf];rfl
 ·have hd:=rH he (jv ht)
  cases hd
  have lP:aQ 1 true { m with ready:=true,t:=[],bq:=false } 0 .zero false=some ({ m with ready:=true,t:=[],bq:=false },.zero,false):=by
   rw[aQ.eq_2,if_neg (show ¬(true=true∧m.aW=true) from fun h=>by rw[hs]at h;cases h.2),if_neg (fun h=>by cases h.1),if_neg (fun h=>by cases h),if_pos (show m.top=0 from ht)]
  have hn:=fun b a=>sB 0 b a { m with ready:=true,t:=[],bq:=false } rfl lP (Nat.zero_le _)
  refine⟨({ m with ready:=true,t:=[],bq:=false }:aB).done false,(({ m with ready:=true,t:=[],bq:=false }:aB).done false).text,fun b a=>?_,gx _,by unfold aB.text;split <;> rfl,rfl,rfl,rfl,rfl,fun hf=>(by cases hf),fun _=>rfl⟩
  have:=Jq (ext:=[]) (m:={ m with ready:=true,t:=[],bq:=false }) (by rw[List.append_nil];exact hn b a)
  rw[List.append_nil]at this
  exact this
theorem ue {m:aB}{p:ao}{al:Bool}{L:List (Int×aq×aB)}{mE:aB} (h:nZ m p al L mE):(∀r,L[0]?=some r→Ev m 0 p al (r.2.2,⟨r.1,r.2.1,.nil⟩,true))∧(L[0]?=none→Ev m 0 p al (mE,.zero,false)):=by
 cases L with
 |nil=>exact⟨fun r hr=>(by cases hr),fun _=>h⟩
 |cons x L=>exact⟨fun r hr=>by cases hr;exact h.1,fun hr=>(by cases hr)⟩
theorem Hz {m:aB}{p:ao}{al:Bool}{x:Int×aq×aB}{L:List (Int×aq×aB)}{mE:aB} (h:nZ m p al (x::L) mE):Ev m 0 p al (x.2.2,⟨x.1,x.2.1,.nil⟩,true)∧nZ x.2.2 .zero false L mE:=h
theorem zo {L:List (Int×aq×aB)}:∀{k:Nat}{m:aB}{p:ao}{al:Bool}{mE:aB}{q:Int×aq×aB},nZ m p al L mE→L[k]?=some q →
  (∀r,L[k+1]?=some r→Ev q.2.2 0 .zero false (r.2.2,⟨r.1,r.2.1,.nil⟩,true))∧(L[k+1]?=none→Ev q.2.2 0 .zero false (mE,.zero,false)):=by
 induction L with
 |nil=>intro k m p al mE q h hq;cases hq
 |cons x L ih =>
  intro k m p al mE q h hq
  have h2:=(Hz h).2
  clear h
  cases k with
  |zero =>
   have hq:x=q:=Option.some.inj hq
   rw[hq]at h2
   have:=ue h2
   exact this
  |succ k=>exact ih h2 hq
theorem Jk {p:ic}{t:List Int}{i F:Int} (hv:cF p t F=0) (a0:0≤i) (a1:i≤t.length) {L:List (Int×aq×aB)}{mE m0:aB}{T0:V} (hm:PU p m0) (hT:ar 3 T0=true) (Cq:bu [0,1,2] T0=T0)
  (hL:∀r∈L,r.2.2.aW=false∧r.2.1.length=p.ai.toNat) (hO:nZ (m0.iG t i F) (df m0 i) true L mE) :
  (∀r,L[0]?=some r→∃(m':aB) (T':V),AtR r.2.2 m' T'∧∀b a:Nat,az prog 24 [.pp 0 0 0 0 b a,.d (ay t),i64 i,i64 F] (m0.aA 0 b a T0) fun v s=>v=tX [i64 i,i64 r.1,.d (bd r.2.1),bV true,i64 r.2.2.steps,i64 0]∧s=m'.aA 0 b a T') ∧
  (L[0]?=none→∃(m':aB) (T':V),m'.ready=false∧ar 3 T'=true∧bu [0,1,2] T'=T'∧m'.p=mE.p∧m'.aC=mE.aC∧m'.top=mE.top∧m'.dY=mE.dY∧∀b a:Nat,az prog 24 [.pp 0 0 0 0 b a,.d (ay t),i64 i,i64 F] (m0.aA 0 b a T0) fun v s=>v=tX (mE.res .zero false)∧s=m'.aA 0 b a T'):=by
 obtain⟨v1,v2,v3,v4,v5⟩:=dA hv
 obtain⟨k1,k2,k3,k4,k5⟩:=eF v1
 have zK:fQ m0.p.bG t i F=0:=by rw[hm.p];exact DC hv a0 a1
 have cY:∀{k:Nat}{m2:aB}{p2:ao}{found:Bool},aQ k true (m0.iG t i F) 0 (df m0 i) true=some (m2,p2,found)→p2.ai.length≤1000000000→∀b a:Nat,az prog 24 [.pp 0 0 0 0 b a,.d (ay t),i64 i,i64 F] (m0.aA 0 b a T0) fun v s=>v=tX (m2.res p2 found)∧s=(m2.done found).kept.aA 0 b a (m2.done found).gW :=
  fun hx hp b a=>A1 0 b a m0 T0 hT Cq hm.top t i F (by omega) (FN hv) zK p.ai.toNat (by rw[hm.p];omega) (by omega) hx hp
 refine⟨fun r h0=>?_,fun h0=>?_⟩
 ·have hr:=hL r (Vy h0)
  have eT:=(ue hO).1 r h0
  have yl:(m0.iG t i F).Fr r.2.2:=by obtain⟨k,hk⟩:=eT;exact iM _ _ _ _ _ _ _ hk
  obtain⟨k,hk⟩:=uw rfl eT
  refine⟨_,_,Ni hr.1,fun b a=>?_⟩
  have:=cY hk (by show r.2.1.length≤_;omega) b a
  have e:r.2.2.res ⟨r.1,r.2.1,.nil⟩ true=[i64 i,i64 r.1,.d (bd r.2.1),bV true,i64 r.2.2.steps,i64 0]:=by
   unfold aB.res
   rw[if_neg (by rw[hr.1];simp),if_pos rfl,yl.start];rfl
  rw[← e]
  exact this
 ·have eT:=(ue hO).2 h0
  obtain⟨k,hk⟩:=uw rfl eT
  have hT:=Ka (mE.done false)
  have bH:(mE.done false).kept.ready=false∧(mE.done false).kept.p=mE.p∧(mE.done false).kept.aC=mE.aC∧(mE.done false).kept.top=mE.top∧(mE.done false).kept.dY=mE.dY:=by unfold aB.kept;split <;> exact⟨rfl,rfl,rfl,rfl,rfl⟩
  exact⟨_,_,bH.1,hT.1,hT.2,bH.2.1,bH.2.2.1,bH.2.2.2.1,bH.2.2.2.2,fun b a=>cY hk (Nat.zero_le _) b a⟩
theorem GP {p:ic} (hv:dV p=0) (t:List Int) (i f:Int):(fQ p.bG t i f=0∧cF p t f=0∧0≤i∧i≤t.length)∨(fQ p.bG t i f≠0∧∀ah,gU p t i ah f=fQ p.bG t i f):=by
 unfold fQ gU cF
 rw[if_neg (show ¬dV p≠0 by rw[hv];simp)]
 by_cases c1:65536<t.length
 ·rw[if_pos c1,if_pos c1]
  exact .inr ⟨by decide,fun ah=>by rw[if_pos (by decide)]⟩
 rw[if_neg c1,if_neg c1]
 by_cases c2:t.all (mS p.bG)=false
 ·rw[if_pos c2,if_pos c2]
  exact .inr ⟨by decide,fun ah=>by rw[if_pos (by decide)]⟩
 rw[if_neg c2,if_neg c2]
 by_cases c3:f<0∨1099511627776<f
 ·rw[if_pos c3,if_pos c3]
  exact .inr ⟨by decide,fun ah=>by rw[if_pos (by decide)]⟩
 rw[if_neg c3,if_neg c3]
 by_cases c4:i<0∨(t.length:Int)<i
 ·rw[if_pos c4]
  exact .inr ⟨by decide,fun ah=>by rw[if_neg (by decide),if_pos c4]⟩
 ·rw[if_neg c4]
  exact .inl ⟨rfl,rfl,by omega,by omega⟩
theorem Lm {p:ic} (hv:dV p=0) {t:List Int} (ht:t.length≤1000000) (hI:∀x∈t,iV x) (i f:Int) {m:aB} (hm:PU p m) (T:V) (hT:ar 3 T=true) (Cq:bu [0,1,2] T=T) :
  ∃(m':aB) (T':V),PU p m'∧ar 3 T'=true∧bu [0,1,2] T'=T'∧m'.ready=(decide (gU p t i 1 f=0)&&!(allM p t i 1 f).isEmpty)∧m.aC≤m'.aC∧m'.aC≤max m.aC (max 0 f)∧(gU p t i 1 f=0→m'.aC≤max m.aC (sq p t i 1 f)) ∧
   ∀b a:Nat,az prog 24 [.pp 0 0 0 0 b a,.d (ay t),i64 i,i64 f] (m.aA 0 b a T) fun v s=>v=tX (C3 p t i f)∧s=m'.aA 0 b a T':=by
 rcases GP hv t i f with ⟨zK,Nc,h0,h1⟩|⟨zK,hE⟩
 ·obtain⟨v1,v2,v3,v4,v5⟩:=dA Nc
  obtain⟨k1,k2,k3,k4,k5⟩:=eF v1
  obtain⟨k,m2,r,found,j1,j2,j3,j4,j5,j6⟩:=LL Nc h0 h1 hm.p
  have hk:=Ka (m2.done found)
  have Sg:m2.fuel=f:=j2.fr.fuel
  have Lh:m2.steps≤f:=by have:=j2.cL (by show (0:Int)≤f;omega);rw[Sg]at this;exact this
  have hd:(m2.done found).kept.aC=m2.aC:=by unfold aB.kept;split <;> rfl
  have eL:m.aC≤m2.aC:=j2.J7
  have pS:m2.aC≤max m.aC m2.steps:=j2.IE
  refine⟨(m2.done found).kept,(m2.done found).gW,⟨?_,I9 (m:=m2.done found) j3⟩,hk.1,hk.2,?_,by rw[hd];exact eL,by rw[hd];omega,fun hE=>?_,fun b a=>?_⟩
  ·have h1:m2.p=p:=by rw[j2.fr.p];exact hm.p
   unfold aB.kept
   split <;> exact h1
  ·rw[← j6]
   unfold aB.kept
   split <;> rfl
  ·rw[hd]
   have aH:m2.steps=sq p t i 1 f:=by
    unfold aB.res C3 at j5
    rw[if_neg (show ¬gU p t i 1 f≠0 from by rw[hE];simp)]at j5
    cases hM:allM p t i 1 f with
    |nil =>
     rw[hM]at j5
     simp only at j5
     split at j5
     ·simp [i64]at j5
     ·split at j5
      ·simp [bV]at j5
      ·simp [i64]at j5;omega
    |cons e l =>
     rw[hM]at j5
     obtain⟨e1,e2⟩:=e
     simp only at j5
     split at j5
     ·simp [i64]at j5
     ·split at j5
      ·simp [i64]at j5;omega
      ·simp [bV]at j5
   rw[aH]at pS
   exact pS
  ·have zK:fQ m.p.bG t i f=0:=by rw[hm.p];exact zK
   have:=A1 0 b a m T hT Cq hm.top t i f ht hI zK p.ai.toNat (by rw[hm.p];omega) (by omega) j1 j4
   rw[j5]at this
   exact this
 ·refine⟨m.rest,T,⟨hm.p,Nat.zero_le _⟩,hT,Cq,?_,Vr _,by show m.aC≤_;omega,fun h=>?_,fun b a=>?_⟩
  ·rw[hE 1,decide_eq_false zK];rfl
  ·rw[hE 1]at h;exact absurd h zK
  ·have SG:fQ m.p.bG t i f≠0:=by rw[hm.p];exact zK
   have:=KV 0 b a m T hT Cq hm.top t i f (by omega) hI SG
   have KC:C3 p t i f=[i64 0,i64 0,.d (.sl []),bV false,i64 0,i64 (fQ m.p.bG t i f)]:=by
    unfold C3
    rw[hE 1,if_pos zK,hm.p]
   rw[KC]
   exact this
def iu (p:ic):VL.Obj:=⟨0,true,10,[[.d (.sc (.int .i64 p.re.op)),.d (.sl (p.re.set.map aM)),.d (.sl (p.re.kids.map Re.cells)),.d (.sc (.int .i64 p.re.mn)),.d (.sc (.int .i64 p.re.mx)),.d (.sc (.int .i64 p.re.mode)),.d (.sc (.int .i64 p.re.n)),.d (.sc (.bool p.re.neg)),.d (.sc (.int .i64 p.ai)),.d (.sc (.bool p.bG))]]⟩
theorem wE {f:FuncId}{cargs args:List V}{r r':V}{m m':aB}{T T' TX OI:V}{X Y Z b a:Nat}{s:List VL.Obj}{K:V→List VL.Obj→Prop} (h:az prog f cargs (m.aA 0 b a T) fun v s=>v=r∧s=m'.aA 0 b a T')
  (hT:ar 3 T=true) (RP:bu [X,Y,Z] T=TX) (Nn:bu [X,Y,Z] T'=OI) (CY:[X,Y,Z].Nodup) (hX:s[X]?=some (vW Y Z m TX)) (hY:s[Y]?=some (xB b a m)) (hZ:s[Z]?=some (wH m)) (ha:args=cargs.map (bu [X,Y,Z])) (rn:ar.go 3 cargs=true) (hr:bu [X,Y,Z] r=r')
  (hk:K r' (((s.set X (vW Y Z m' OI)).set Y (xB b a m')).set Z (wH m'))):C4 prog [X,Y,Z] [X,Y,Z] f args s K:=by
 refine⟨r',[vW Y Z m' OI,xB b a m',wH m'],rfl,fun s' hl hs=>?_,hk⟩
 exact cV h hT RP Nn CY (by rw[hs X (by simp)];exact hX) (by rw[hs Y (by simp)];exact hY) (by rw[hs Z (by simp)];exact hZ) ha rn hr ⟨rfl,rfl⟩
theorem FD {p:ic}{t:List Int}{i f:Int} (hv:dV p=0):∃(e1 e2:Int) (e3:aq) (e4:Bool) (n err:Int),C3 p t i f=[i64 e1,i64 e2,.d (bd e3),bV e4,i64 n,i64 err]∧0≤n∧n≤max 0 f∧e3.length≤1000000000∧(e4=true→err=0):=by
 unfold C3
 by_cases hE:gU p t i 1 f=0
 ·rw[if_neg (by rw[hE];simp)]
  obtain⟨Nc,h0,h1,he⟩:=xw hE
  obtain⟨k,e1,e2⟩:=iY (ah:=1) Nc h0 h1
  have hN:sq p t i 1 f=(bK p t i 1 f).2.steps:=by unfold sq;rw[if_pos hE]
  have eB:(0:Int)≤(bK p t i 1 f).2.steps:=e2.s0
  have ga:(bK p t i 1 f).2.steps≤f:=by
   have:=e2.empty
   rw[he]at this
   have:=of_decide_eq_false this.symm
   omega
  cases hM:allM p t i 1 f with
  |nil=>exact⟨0,0,[],false,_,0,rfl,by omega,by omega,by simp,fun h=>by cases h⟩
  |cons ed rest =>
   obtain⟨e,d⟩:=ed
   refine⟨i,e,d,true,_,0,rfl,by omega,by omega,?_,fun _=>rfl⟩
   obtain⟨new,pM,z1,z2,_,_,_,z6⟩:=e2.more
   have mR:(e,d)∈allM p t i 1 f:=by rw[hM];simp
   unfold allM at mR
   rw[if_pos hE]at mR
   have hd:=(List.of_mem_zip mR).2
   rw[z2]at hd
   exact(z6 d (by simpa using hd)).1.1
 ·rw[if_pos hE]
  exact⟨0,0,[],false,0,_,rfl,by omega,by omega,by simp,fun h=>by cases h⟩
end Go.Proofs.Ytllagoeijcjpiaa
