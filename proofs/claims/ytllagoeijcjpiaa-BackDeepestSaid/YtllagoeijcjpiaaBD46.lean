/- A part of the proof (F48 F49). -/
import Derived.Test.YtllagoeijcjpiaaBD43
import Derived.Test.YtllagoeijcjpiaaBD44
import Derived.Test.YtllagoeijcjpiaaBD45
import Derived.Test.YtllagoeijcjpiaaBD19
set_option linter.unusedSimpArgs false
set_option linter.unusedVariables false
set_option maxRecDepth 100000
set_option maxHeartbeats 80000000
set_option linter.unusedSimpArgs false
set_option linter.unusedVariables false
namespace Go.Proofs.Ytllagoeijcjpiaa
open Go.VL Go.Proofs.Try
theorem Ht (re:Re) (hf:re.gi=true) (ai top:Int) (ht:top≤1114111):bI prog 92 [ck re,i64 ai,i64 top] (bV (cg re ai top)):=by
 have hc:(re.op=0∨re.op=2∨re.op=3)∨(re.op=5∨re.op=6∨re.op=7)∨(re.op=8∨re.op=9)∨(re.op=10∨re.op=11)∨(re.op=1∨re.op=4∨(¬re.op=0∧¬re.op=1∧¬re.op=2∧¬re.op=3∧¬re.op=4∧¬re.op=5∧¬re.op=6∧¬re.op=7∧¬re.op=8∧¬re.op=9∧¬re.op=10∧¬re.op=11)):=by omega
 rcases hc with h|h|h|h|h
 ·exact KB re hf ai top ht h
 ·exact KK re hf ai top ht h
 ·exact JB re hf ai top ht h
 ·exact Kr re hf ai top ht h
 ·exact JH re hf ai top ht h
mutual
def Re.vw (ai top:Int):Re→Int→Int→Bool→Bool×Int×Bool
 |.mk op set kids mn mx mode n neg,d,sz,g =>
  if 256<sz+1∨24<d then (false,sz+1,g) else Re.oI ai top kids (d+1) (sz+1) (g&&cg (.mk op set kids mn mx mode n neg) ai top)
def Re.oI (ai top:Int):List Re→Int→Int→Bool→Bool×Int×Bool
 |[],_,sz,g=>(true,sz,g)
 |k::l,d,sz,g=>if (Re.vw ai top k d sz g).1=true then Re.oI ai top l d (Re.vw ai top k d sz g).2.1 (Re.vw ai top k d sz g).2.2 else Re.vw ai top k d sz g
end
theorem Re.M6 (ai top:Int) (re:Re) (d sz:Int) (g:Bool):re.vw ai top d sz g=if 256<sz+1∨24<d then (false,sz+1,g) else Re.oI ai top re.kids (d+1) (sz+1) (g&&cg re ai top):=by
 cases re;simp [Re.vw,Re.kids]
theorem Re.rX (ai top:Int):∀(a b:List Re) (d sz:Int) (g:Bool),Re.oI ai top (a++b) d sz g=if (Re.oI ai top a d sz g).1=true then Re.oI ai top b d (Re.oI ai top a d sz g).2.1 (Re.oI ai top a d sz g).2.2 else Re.oI ai top a d sz g
 |[],b,d,sz,g=>by simp [Re.oI]
 |k::a,b,d,sz,g=>by
  simp only[Vz,Re.oI]
  split
  ·exact Re.rX ai top a b d _ _
  ·rename_i h;first|rfl|rw[if_neg h]
theorem Re.IQ (ai top:Int) (a:List Re) (k:Re) (d sz:Int) (g:Bool) (h:(Re.oI ai top a d sz g).1=true):Re.oI ai top (a++[k]) d sz g=k.vw ai top d (Re.oI ai top a d sz g).2.1 (Re.oI ai top a d sz g).2.2:=by
 rw[Re.rX,if_pos h]
 simp only[Re.oI]
 split
 ·rename_i hk
  exact Prod.ext hk.symm rfl
 ·rfl
def NQ (ai top:Int) (re:Re):Prop:=∀(d sz:Int) (g:Bool),0≤sz→sz≤256 →
 ((re.vw ai top d sz g).1=true ↔ (sz+re.size≤256∧d+re.depth-1≤24))∧0≤(re.vw ai top d sz g).2.1∧(re.vw ai top d sz g).2.1≤257 ∧
 ((re.vw ai top d sz g).1=true→(re.vw ai top d sz g).2.1=sz+re.size∧(re.vw ai top d sz g).2.2=(g&&re.whole ai top))
theorem E6 (ai top:Int):∀(l:List Re),(∀k∈l,NQ ai top k)→∀(d sz:Int) (g:Bool),0≤sz→sz≤256 →
  ((Re.oI ai top l d sz g).1=true ↔ (sz+Re.dQ l≤256∧∀k∈l,d+k.depth-1≤24))∧0≤(Re.oI ai top l d sz g).2.1∧(Re.oI ai top l d sz g).2.1≤257 ∧
  ((Re.oI ai top l d sz g).1=true→(Re.oI ai top l d sz g).2.1=sz+Re.dQ l∧(Re.oI ai top l d sz g).2.2=(g&&l.all fun k=>k.whole ai top))
 |[],_,d,sz,g,h0,h1=>by
  simp only[Re.oI,Re.dQ]
  exact⟨⟨fun _=>⟨by omega,fun k hk=>by cases hk⟩,fun _=>trivial⟩,h0,by omega,fun _=>⟨by omega,by simp⟩⟩
 |k::l,hk,d,sz,g,h0,h1=>by
  obtain⟨a1,a2,a3,a4⟩:=hk k (by simp) d sz g h0 h1
  simp only[Re.oI,Re.dQ]
  split
  ·rename_i ht
   obtain⟨b1,b2⟩:=a4 ht
   obtain⟨c1,c2⟩:=a1.1 ht
   obtain⟨e1,e2,e3,e4⟩:=E6 ai top l (fun x hx=>hk x (by simp [hx])) d (k.vw ai top d sz g).2.1 (k.vw ai top d sz g).2.2 a2 (by omega)
   refine⟨?_,e2,e3,fun h=>?_⟩
   ·rw[e1,b1]
    constructor
    ·rintro ⟨f1,f2⟩
     refine⟨by omega,fun x hx=>?_⟩
     rcases List.mem_cons.1 hx with rfl|hx
     ·exact c2
     ·exact f2 x hx
    ·rintro ⟨f1,f2⟩
     exact⟨by omega,fun x hx=>f2 x (by simp [hx])⟩
   ·obtain⟨f1,f2⟩:=e4 h
    refine⟨by omega,?_⟩
    rw[f2,b2,List.all_cons,Bool.and_assoc]
  ·rename_i ht
   refine⟨⟨fun h=>absurd h ht,fun ⟨f1,f2⟩=>absurd (a1.2 ⟨by omega,f2 k (by simp)⟩) ht⟩,a2,a3,fun h=>absurd h ht⟩
theorem Al (re:Re) (b:Int) (hb:0≤b):re.depth-1≤b ↔ ∀k∈re.kids,k.depth≤b:=by
 rw[Re.pq]
 constructor
 ·intro h k hk
  have:∀(l:List Int) (a x:Int),x∈l→x≤l.foldl max a:=by
   intro l
   induction l with
   |nil=>intro a x hx;cases hx
   |cons y l ih =>
    intro a x hx
    rcases List.mem_cons.1 hx with rfl|hx
    ·exact Int.le_trans (by omega) (lu l (max a x))
    ·exact ih (max a y) x hx
  have:=this (re.kids.map Re.depth) 0 k.depth (List.mem_map.2 ⟨k,hk,rfl⟩)
  unfold sb at h
  omega
 ·intro h
  have:=ln (b:=b) (re.kids.map Re.depth) 0 hb (fun x hx=>by obtain⟨k,hk,rfl⟩:=List.mem_map.1 hx;exact h k hk)
  unfold sb
  omega
theorem MA (ai top:Int) (re:Re):NQ ai top re:=by
 refine Re.ind (Q:=NQ ai top) (fun re ih=>?_) re
 intro d sz g h0 h1
 have hd:=Re.BU re
 have hp:=re.size_pos
 rw[Re.M6,Re.size_eq]
 split
 ·rename_i hc
  simp only
  refine⟨⟨fun h=>(by cases h),fun h=>?_⟩,by omega,by omega,fun h=>(by cases h)⟩
  have gT:1≤re.depth:=by rw[Re.pq];have:=lu (re.kids.map Re.depth) 0;unfold sb;omega
  omega
 ·rename_i hc
  obtain⟨a1,a2,a3,a4⟩:=E6 ai top re.kids ih (d+1) (sz+1) (g&&cg re ai top) (by omega) (by omega)
  refine⟨?_,a2,a3,fun h=>?_⟩
  ·rw[a1]
   have Bm:=Al re (24-d) (by omega)
   constructor
   ·rintro ⟨f1,f2⟩
    have:=Bm.2 (fun k hk=>by have:=f2 k hk;omega)
    omega
   ·rintro ⟨f1,f2⟩
    have:=Bm.1 (by omega)
    exact⟨by omega,fun k hk=>by have:=this k hk;omega⟩
  ·obtain⟨f1,f2⟩:=a4 h
   refine⟨by omega,?_⟩
   rw[f2,Bool.and_assoc]
   congr 1
   unfold Re.whole
   rw[Bool.eq_iff_iff,VE,Re.cS,VT]
def gO (g:Bool):VL.Obj:=⟨0,true,1,[[bV g]]⟩
def nE (lv:Bool) (p:ic):VL.Obj:=⟨0,lv,10,[(yZ p).map .d]⟩
def gY (f:FuncId):VL.Obj:=⟨0,true,1,[[.cl (.func f) [] [.rf 0 0 0 0,.rf 1 0 0 0,.rf 2 0 0 0,.rf 3 0 0 0,.rf 4 0 0 0]]]⟩
def Mv (p:ic) (top:Int) (re:Re):Prop:=∀(d sz:Int) (g lv:Bool) (pv:V),(pv=.rf 2 0 0 0∨pv=.d (.el (yZ p)))→0≤d→d≤25→0≤sz→sz≤256 →
 az prog 91 [ck re,i64 d,.rf 0 0 0 0,.rf 1 0 0 0,pv,.rf 3 0 0 0,.rf 4 0 0 0] [lE sz,gO g,nE lv p,lE top,gY 91]
  fun v s=>v=bV (re.vw p.ai top d sz g).1∧s=[lE (re.vw p.ai top d sz g).2.1,gO (re.vw p.ai top d sz g).2.2,nE lv p,lE top,gY 91]
theorem Ig (p:ic) (top:Int) (ht:top≤1114111) (re:Re) (hf:re.gi=true):Mv p top re:=by
 revert hf
 refine Re.ind (Q:=fun re=>re.gi=true→Mv p top re) (fun re ih hf=>?_) re
 obtain⟨oT,hlen,JR⟩:=Re.ie hf
 have FY:=Ht re hf p.ai top ht
 rw[ck,Re.ae]at FY
 simp only[i64,iD,bD]at FY
 intro d sz g lv pv LH eL pS eB ga
 have w1:IntKind.i64.wrap (sz+1)=sz+1:=bR _ (by omega)
 have w2:IntKind.i64.wrap (d+1)=d+1:=bR _ (by omega)
 rw[Re.M6]
 by_cases hc:256<sz+1∨24<d
 ·rw[if_pos hc]
  have Hh:256<sz+1∨(¬256<sz+1∧24<d):=by omega
  refine av func91 rfl ntmps91 results91 rfl 5 6442452607 (by simp) (by simp) ?_
  rcases Hh with c1|⟨c1,c2⟩
  ·simp only[zX,simprocAttr,i64,ck,Re.ae re,iD,bD,lE,gO,nE,gP p,gY,bV,w1,c1]
   all_goals first|exact⟨rfl,rfl⟩|exact⟨rfl,trivial⟩|rfl|trivial|(rw[aw];rfl)
  ·simp only[zX,simprocAttr,i64,ck,Re.ae re,iD,bD,lE,gO,nE,gP p,gY,bV,w1,c1,c2]
   all_goals first|exact⟨rfl,rfl⟩|exact⟨rfl,trivial⟩|rfl|trivial|(rw[aw];rfl)
 rw[if_neg hc]
 have c1:¬256<sz+1:=fun h=>hc (.inl h)
 have c2:¬24<d:=fun h=>hc (.inr h)
 generalize hG:(g&&cg re p.ai top)=G
 rcases LH with rfl|rfl
 all_goals
  cases g
  all_goals
   refine av func91 rfl ntmps91 results91 rfl 5 6442452607 (by simp) (by simp) ?_
   simp only[zX,simprocAttr,i64,ck,Re.ae re,iD,bD,lE,gO,nE,gP p,gY,bV,w1,c1,c2]
   try
    rw[Bool.true_and]at hG
    rw[hG]at FY
    refine aE FY (by simp [ar,ar.go,aw,i64,bV,ck]) (by simp [ar,ar.go,aw,i64,bV,ck]) ?_
    simp only[zX,simprocAttr,i64,iD,bD,bV]
   refine aY (fun n e s=>∃i:Nat,n=re.kids.length-i∧i≤re.kids.length∧e 0=ck re∧e 1=i64 d∧e 6=.rf 4 0 0 0∧e 31=i64 re.kids.length∧e 32=i64 i ∧
     (Re.oI p.ai top (re.kids.take i) (d+1) (sz+1) G).1=true ∧
     s=[lE (Re.oI p.ai top (re.kids.take i) (d+1) (sz+1) G).2.1,gO (Re.oI p.ai top (re.kids.take i) (d+1) (sz+1) G).2.2,nE lv p,lE top,gY 91])
    ⟨_,_,_,dt.refl,0,rfl,by omega,by simp [ck,Re.ae re,iD,bD];rfl,rfl,rfl,rfl,rfl,rfl,by simp only[List.take_zero,Re.oI,lE,gO,nE,gP p,gY,i64,bV,iD,bD,VP,VO,← hG,Bool.false_and]⟩ ?_
   rintro n e s ⟨i,rfl,hi,h0,h1,h6,m9,jE,gI,rfl⟩
   have OY:=E6 p.ai top (re.kids.take i) (fun k _=>MA p.ai top k) (d+1) (sz+1) G (by omega) (by omega)
   obtain⟨b1,b2⟩:=OY.2.2.2 gI
   have b3:=(OY.1.1 gI).1
   have b4:=OY.2.1
   rcases VX i re.kids.length with aT|iR
   ·obtain⟨k,hk⟩:∃k,re.kids[i]?=some k:=⟨_,Vu aT⟩
    have hm:=Vy hk
    have Tf:=Re.IQ p.ai top (re.kids.take i) k (d+1) (sz+1) G gI
    rw[← fg hk]at Tf
    have PF:Re.oI p.ai top re.kids (d+1) (sz+1) G=if (Re.oI p.ai top (re.kids.take (i+1)) (d+1) (sz+1) G).1=true then Re.oI p.ai top (re.kids.drop (i+1)) (d+1) (Re.oI p.ai top (re.kids.take (i+1)) (d+1) (sz+1) G).2.1 (Re.oI p.ai top (re.kids.take (i+1)) (d+1) (sz+1) G).2.2 else Re.oI p.ai top (re.kids.take (i+1)) (d+1) (sz+1) G:=by
     rw[← Re.rX,List.take_append_drop]
    have fe:=ih k hm (JR k hm) (d+1) (Re.oI p.ai top (re.kids.take i) (d+1) (sz+1) G).2.1 (Re.oI p.ai top (re.kids.take i) (d+1) (sz+1) G).2.2 lv (.rf 2 0 0 0) (.inl rfl) (by omega) (by omega) b4 (by omega)
    rw[← Tf]at fe
    simp only[nE,gP p,iD,bD,VP,VO]at fe
    generalize Re.oI p.ai top (re.kids.take i) (d+1) (sz+1) G=A at *
    generalize hB:Re.oI p.ai top (re.kids.take (i+1)) (d+1) (sz+1) G=B at *
    obtain⟨B1,B2,B3⟩:=B
    simp only[zX,simprocAttr,i64,lE,gO,nE,gP p,gY,bV,h0,h1,h6,m9,jE,aT]
    refine an mix [] [(0,[4],[]),(9,[0,1,2,3,4],[0,1,2,3,4])] (by rfl) ?_
    simp only[zX,simprocAttr,i64,lE,gO,nE,gP p,gY,bV,ck,Re.ae re,iD,bD,h0,h1,h6,m9,jE,aT,hk,w2]
    refine DV fe (by intro j hj;simp only[VC,VK]at hj;simp only[Wu,List.not_mem_nil,or_false];omega) rfl rfl ?_
    cases B1 with
    |false =>
     simp only[Vw,if_false]at PF
     rw[PF]
     simp only[zX,simprocAttr,i64,lE,gO,nE,gP p,gY,bV,h0,h1,h6,m9,jE]
     all_goals first|exact⟨rfl,rfl⟩|exact⟨rfl,trivial⟩|rfl|trivial|(rw[aw];rfl)
    |true =>
     simp only[zX,simprocAttr,i64,lE,gO,bV,h0,h1,h6,m9,jE]
     refine⟨re.kids.length-(i+1),_,_,by omega,dt.refl,i+1,rfl,aT,?_,?_,?_,?_,?_,by rw[hB],?_⟩ <;> (try simp only[zU,Nat.reduceBEq,Nat.reduceShiftRight,Nat.reduceMod,Nat.reduceEqDiff,reduceIte])
     ·simpa [ck,Re.ae re,iD,bD]using h0
     ·exact h1
     ·exact h6
     ·exact m9
     ·rw[bR _ (by omega)];rfl
     ·rw[hB];simp only[nE,gP p,iD,bD,VP,VO];rfl
   ·have kT:i=re.kids.length:=by omega
    subst kT
    rw[We]at *
    simp only[zX,simprocAttr,i64,lE,gO,nE,gP p,gY,bV,h0,h1,h6,m9,jE,Wj]
    rw[gI]
    all_goals first|exact⟨rfl,rfl⟩|exact⟨rfl,trivial⟩|rfl|trivial|(rw[aw];rfl)
theorem Be (p:ic) (g:Bool) (hg:g=(decide (0≤p.ai)&&decide (p.ai≤9))) :
  (if (p.re.vw p.ai (fk p.bG) 1 0 g).1=true then (if (p.re.vw p.ai (fk p.bG) 1 0 g).2.2=true then (0:Int) else 1) else 4)=dV p:=by
 obtain⟨a1,_,_,a4⟩:=MA p.ai (fk p.bG) p.re 1 0 g (by omega) (by omega)
 by_cases h:(p.re.vw p.ai (fk p.bG) 1 0 g).1=true
 ·have h1:=a1.1 h
  have hv:dV p=if p.ai<0∨9<p.ai∨p.re.whole p.ai (fk p.bG)=false then 1 else 0:=by
   unfold dV;rw[if_neg (by omega)]
  rw[if_pos h,hv,(a4 h).2,hg]
  cases hw:p.re.whole p.ai (fk p.bG)
  ·rw[if_neg (by simp),if_pos (.inr (.inr rfl))]
  ·by_cases hc:p.ai<0∨9<p.ai
   ·rw[if_neg (by simp only[Wy,VE,decide_eq_true_eq];omega),if_pos (by omega)]
   ·rw[if_pos (by simp only[Wy,VE,decide_eq_true_eq];omega),if_neg (by rintro (h'|h'|h') <;> first|omega|cases h')]
 ·have hh:¬(0+(p.re.size:Int)≤256∧1+p.re.depth-1≤24):=fun hh=>h (a1.2 hh)
  have hv:dV p=4:=by
   unfold dV;rw[if_pos (by omega)]
  rw[if_neg h,hv]
theorem Dv (p:ic) (hf:p.re.gi=true):bI prog 48 [.ag ((yZ p).map .d)] (i64 (dV p)):=by
 have S7:=KL p.bG
 have SM:fk p.bG≤1114111:=by unfold fk;split <;> omega
 have hk:∀g:Bool,g=(decide (0≤p.ai)&&decide (p.ai≤9))→az prog 91 [.d (.el (yZ p)),i64 1,.rf 0 0 0 0,.rf 1 0 0 0,.d (.el (yZ p)),.rf 3 0 0 0,.rf 4 0 0 0] [lE 0,gO g,nE false p,lE (fk p.bG),gY 91]
   fun v s=>v=bV (p.re.vw p.ai (fk p.bG) 1 0 g).1∧s=[lE (p.re.vw p.ai (fk p.bG) 1 0 g).2.1,gO (p.re.vw p.ai (fk p.bG) 1 0 g).2.2,nE false p,lE (fk p.bG),gY 91]:=by
  intro g _
  have:=Ig p (fk p.bG) SM p.re hf 1 0 g false (.d (.el (yZ p))) (.inr rfl) (by omega) (by omega) (by omega) (by omega)
  exact Hg (ex:=[iD p.ai,bD p.bG]) this
 have fin:=fun g hg=>Be p g hg
 generalize hG:(decide (0≤p.ai)&&decide (p.ai≤9))=G at hk fin
 have hk:=hk G rfl
 have fin:=fin G rfl
 generalize p.re.vw p.ai (fk p.bG) 1 0 G=R at hk fin
 obtain⟨R1,R2,R3⟩:=R
 simp only at fin
 rw[← fin]
 simp only[nE,gP p,iD,bD,bV,i64,VP,VO]at hk S7 ⊢
 refine av func48 rfl ntmps48 results48 rfl 0 127 (by simp) (by simp) ?_
 simp only[zX,simprocAttr,i64,iD,bD,VP,VO]
 by_cases g1:0≤p.ai
 all_goals
  try (by_cases g2:p.ai≤9)
 all_goals
  first
   |(have Qu:G=true:=by rw[← hG,decide_eq_true g1,decide_eq_true g2];rfl
     subst Qu
     simp only[zX,simprocAttr,i64,iD,bD,g1,g2])
   |(have Qu:G=false:=by rw[← hG,decide_eq_true g1,decide_eq_false g2];rfl
     subst Qu
     simp only[zX,simprocAttr,i64,iD,bD,g1,g2])
   |(have Qu:G=false:=by rw[← hG,decide_eq_false g1];rfl
     subst Qu
     simp only[zX,simprocAttr,i64,iD,bD,g1])
  refine aE S7 rfl rfl ?_
  simp only[zX,simprocAttr,i64,iD,bD]
  refine aP [0] rfl ?_
  refine lX [1,2,0,3,4] hk (by decide) rfl rfl rfl (by simp [ar,ar.go]) (by simp [cP,lE,gO,nE,gY,ar,ar.go,i64,bV]) rfl ?_
  cases R1
  ·simp only[zX,simprocAttr,i64,bk,bA,ct,bu,bu.go,lE,gO,nE,gP p,gY,bV,bm,iD,bD]
   all_goals first|exact⟨rfl,rfl⟩|exact⟨rfl,trivial⟩|rfl|trivial|(rw[aw];rfl)
  ·cases R3
   ·simp only[zX,simprocAttr,i64,bk,bA,ct,bu,bu.go,lE,gO,nE,gP p,gY,bV,bm,iD,bD]
    all_goals first|exact⟨rfl,rfl⟩|exact⟨rfl,trivial⟩|rfl|trivial|(rw[aw];rfl)
   ·simp only[zX,simprocAttr,i64,bk,bA,ct,bu,bu.go,lE,gO,nE,gP p,gY,bV,bm,iD,bD]
    all_goals first|exact⟨rfl,rfl⟩|exact⟨rfl,trivial⟩|rfl|trivial|(rw[aw];rfl)
end Go.Proofs.Ytllagoeijcjpiaa
