/- A part of the proof (F48 F49). -/
import Derived.Test.YtmihcpdhcillaaaGreatBG32
import Derived.Test.YtmihcpdhcillaaaGreatBG33
import Derived.Test.YtmihcpdhcillaaaGreatBG34
import Derived.Test.YtmihcpdhcillaaaGreatBG31
set_option linter.unusedSimpArgs false
set_option linter.unusedVariables false
set_option maxRecDepth 100000
set_option maxHeartbeats 80000000
set_option linter.unusedSimpArgs false
set_option linter.unusedVariables false
namespace Go.Proofs.YtmihcpdhcillaaaGreat
open Go.VL Go.Proofs.Tryz
theorem Hq (re:Re) (hf:re.fA=true) (ak top:Int) (ht:top≤1114111):br prog 35 [bT re,i64 ak,i64 top] (bV (b7 re ak top)):=by
 have hc:(re.op=0∨re.op=2∨re.op=3)∨(re.op=5∨re.op=6∨re.op=7)∨(re.op=8∨re.op=9)∨(re.op=10∨re.op=11)∨(re.op=1∨re.op=4∨(¬re.op=0∧¬re.op=1∧¬re.op=2∧¬re.op=3∧¬re.op=4∧¬re.op=5∧¬re.op=6∧¬re.op=7∧¬re.op=8∧¬re.op=9∧¬re.op=10∧¬re.op=11)):=by omega
 rcases hc with h|h|h|h|h
 ·exact Ki re hf ak top ht h
 ·exact Ke re hf ak top ht h
 ·exact J3 re hf ak top ht h
 ·exact Kb re hf ak top ht h
 ·exact JJ re hf ak top ht h
mutual
def Re.vw (ak top:Int):Re→Int→Int→Bool→Bool×Int×Bool
 |.mk op set kids mn mx mode n neg,d,sz,g =>
  if 256<sz+1∨24<d then (false,sz+1,g) else Re.oU ak top kids (d+1) (sz+1) (g&&b7 (.mk op set kids mn mx mode n neg) ak top)
def Re.oU (ak top:Int):List Re→Int→Int→Bool→Bool×Int×Bool
 |[],_,sz,g=>(true,sz,g)
 |k::l,d,sz,g=>if (Re.vw ak top k d sz g).1=true then Re.oU ak top l d (Re.vw ak top k d sz g).2.1 (Re.vw ak top k d sz g).2.2 else Re.vw ak top k d sz g
end
theorem Re.M7 (ak top:Int) (re:Re) (d sz:Int) (g:Bool):re.vw ak top d sz g=if 256<sz+1∨24<d then (false,sz+1,g) else Re.oU ak top re.kids (d+1) (sz+1) (g&&b7 re ak top):=by
 cases re;simp [Re.vw,Re.kids]
theorem Re.sq (ak top:Int):∀(a b:List Re) (d sz:Int) (g:Bool),Re.oU ak top (a++b) d sz g=if (Re.oU ak top a d sz g).1=true then Re.oU ak top b d (Re.oU ak top a d sz g).2.1 (Re.oU ak top a d sz g).2.2 else Re.oU ak top a d sz g
 |[],b,d,sz,g=>by simp [Re.oU]
 |k::a,b,d,sz,g=>by
  simp only[WR,Re.oU]
  split
  ·exact Re.sq ak top a b d _ _
  ·rename_i h;first|rfl|rw[if_neg h]
theorem Re.JE (ak top:Int) (a:List Re) (k:Re) (d sz:Int) (g:Bool) (h:(Re.oU ak top a d sz g).1=true):Re.oU ak top (a++[k]) d sz g=k.vw ak top d (Re.oU ak top a d sz g).2.1 (Re.oU ak top a d sz g).2.2:=by
 rw[Re.sq,if_pos h]
 simp only[Re.oU]
 split
 ·rename_i hk
  exact Prod.ext hk.symm rfl
 ·rfl
def Od (ak top:Int) (re:Re):Prop:=∀(d sz:Int) (g:Bool),0≤sz→sz≤256 →
 ((re.vw ak top d sz g).1=true ↔ (sz+re.size≤256∧d+re.depth-1≤24))∧0≤(re.vw ak top d sz g).2.1∧(re.vw ak top d sz g).2.1≤257 ∧
 ((re.vw ak top d sz g).1=true→(re.vw ak top d sz g).2.1=sz+re.size∧(re.vw ak top d sz g).2.2=(g&&re.whole ak top))
theorem Er (ak top:Int):∀(l:List Re),(∀k∈l,Od ak top k)→∀(d sz:Int) (g:Bool),0≤sz→sz≤256 →
  ((Re.oU ak top l d sz g).1=true ↔ (sz+Re.dL l≤256∧∀k∈l,d+k.depth-1≤24))∧0≤(Re.oU ak top l d sz g).2.1∧(Re.oU ak top l d sz g).2.1≤257 ∧
  ((Re.oU ak top l d sz g).1=true→(Re.oU ak top l d sz g).2.1=sz+Re.dL l∧(Re.oU ak top l d sz g).2.2=(g&&l.all fun k=>k.whole ak top))
 |[],_,d,sz,g,h0,h1=>by
  simp only[Re.oU,Re.dL]
  exact⟨⟨fun _=>⟨by omega,fun k hk=>by cases hk⟩,fun _=>trivial⟩,h0,by omega,fun _=>⟨by omega,by simp⟩⟩
 |k::l,hk,d,sz,g,h0,h1=>by
  obtain⟨a1,a2,a3,a4⟩:=hk k (by simp) d sz g h0 h1
  simp only[Re.oU,Re.dL]
  split
  ·rename_i ht
   obtain⟨b1,b2⟩:=a4 ht
   obtain⟨c1,c2⟩:=a1.1 ht
   obtain⟨e1,e2,e3,e4⟩:=Er ak top l (fun x hx=>hk x (by simp [hx])) d (k.vw ak top d sz g).2.1 (k.vw ak top d sz g).2.2 a2 (by omega)
   refine⟨?_,e2,e3,fun h=>?_⟩
   ·rw[e1,b1]
    constructor
    ·rintro ⟨f1,f2⟩
     refine⟨by omega,fun x hx=>?_⟩
     rcases List.mem_cons.1 hx with rfl|hx
     ·exact c2
     ·exact f2 x hx
    ·rintro ⟨f1,f2⟩
     exact⟨by omega,fun x hx=>f2 x (by simp [hx])⟩
   ·obtain⟨f1,f2⟩:=e4 h
    refine⟨by omega,?_⟩
    rw[f2,b2,List.all_cons,Bool.and_assoc]
  ·rename_i ht
   refine⟨⟨fun h=>absurd h ht,fun ⟨f1,f2⟩=>absurd (a1.2 ⟨by omega,f2 k (by simp)⟩) ht⟩,a2,a3,fun h=>absurd h ht⟩
theorem BQ (re:Re) (b:Int) (hb:0≤b):re.depth-1≤b ↔ ∀k∈re.kids,k.depth≤b:=by
 rw[Re.py]
 constructor
 ·intro h k hk
  have:∀(l:List Int) (a x:Int),x∈l→x≤l.foldl max a:=by
   intro l
   induction l with
   |nil=>intro a x hx;cases hx
   |cons y l ih =>
    intro a x hx
    rcases List.mem_cons.1 hx with rfl|hx
    ·exact Int.le_trans (by omega) (kW l (max a x))
    ·exact ih (max a y) x hx
  have:=this (re.kids.map Re.depth) 0 k.depth (List.mem_map.2 ⟨k,hk,rfl⟩)
  unfold rN at h
  omega
 ·intro h
  have:=kK (b:=b) (re.kids.map Re.depth) 0 hb (fun x hx=>by obtain⟨k,hk,rfl⟩:=List.mem_map.1 hx;exact h k hk)
  unfold rN
  omega
theorem Nk (ak top:Int) (re:Re):Od ak top re:=by
 refine Re.ind (Q:=Od ak top) (fun re ih=>?_) re
 intro d sz g h0 h1
 have hd:=Re.Cn re
 have hp:=re.size_pos
 rw[Re.M7,Re.size_eq]
 split
 ·rename_i hc
  simp only
  refine⟨⟨fun h=>(by cases h),fun h=>?_⟩,by omega,by omega,fun h=>(by cases h)⟩
  have U1:1≤re.depth:=by rw[Re.py];have:=kW (re.kids.map Re.depth) 0;unfold rN;omega
  omega
 ·rename_i hc
  obtain⟨a1,a2,a3,a4⟩:=Er ak top re.kids ih (d+1) (sz+1) (g&&b7 re ak top) (by omega) (by omega)
  refine⟨?_,a2,a3,fun h=>?_⟩
  ·rw[a1]
   have IJ:=BQ re (24-d) (by omega)
   constructor
   ·rintro ⟨f1,f2⟩
    have:=IJ.2 (fun k hk=>by have:=f2 k hk;omega)
    omega
   ·rintro ⟨f1,f2⟩
    have:=IJ.1 (by omega)
    exact⟨by omega,fun k hk=>by have:=this k hk;omega⟩
  ·obtain⟨f1,f2⟩:=a4 h
   refine⟨by omega,?_⟩
   rw[f2,Bool.and_assoc]
   congr 1
   unfold Re.whole
   rw[Bool.eq_iff_iff,W7,Re.ck,Xn]
def gO (g:Bool):VL.Obj:=⟨0,true,1,[[bV g]]⟩
def nv (lv:Bool) (p:fj):VL.Obj:=⟨0,lv,10,[(jy p).map .d]⟩
def gI (f:FuncId):VL.Obj:=⟨0,true,1,[[.cl (.func f) [] [.rf 0 0 0 0,.rf 1 0 0 0,.rf 2 0 0 0,.rf 3 0 0 0,.rf 4 0 0 0]]]⟩
def Nf (p:fj) (top:Int) (re:Re):Prop:=∀(d sz:Int) (g lv:Bool) (pv:V),(pv=.rf 2 0 0 0∨pv=.d (.el (jy p)))→0≤d→d≤25→0≤sz→sz≤256 →
 av prog 34 [bT re,i64 d,.rf 0 0 0 0,.rf 1 0 0 0,pv,.rf 3 0 0 0,.rf 4 0 0 0] [lG sz,gO g,nv lv p,lG top,gI 34]
  fun v s=>v=bV (re.vw p.ak top d sz g).1∧s=[lG (re.vw p.ak top d sz g).2.1,gO (re.vw p.ak top d sz g).2.2,nv lv p,lG top,gI 34]
theorem Ig (p:fj) (top:Int) (ht:top≤1114111) (re:Re) (hf:re.fA=true):Nf p top re:=by
 revert hf
 refine Re.ind (Q:=fun re=>re.fA=true→Nf p top re) (fun re ih hf=>?_) re
 obtain⟨pf,hlen,J4⟩:=Re.gR hf
 have GQ:=Hq re hf p.ak top ht
 rw[bT,Re.ae]at GQ
 simp only[i64,iD,bD]at GQ
 intro d sz g lv pv MY eM rI ij gy
 have w1:IntKind.i64.wrap (sz+1)=sz+1:=bU _ (by omega)
 have w2:IntKind.i64.wrap (d+1)=d+1:=bU _ (by omega)
 rw[Re.M7]
 by_cases hc:256<sz+1∨24<d
 ·rw[if_pos hc]
  have Nt:256<sz+1∨(¬256<sz+1∧24<d):=by omega
  refine aw func34 rfl ntmps34 results34 rfl 5 6442452607 (by simp) (by simp) ?_
  rcases Nt with c1|⟨c1,c2⟩
  ·simp only[zX,simprocAttr,i64,bT,Re.ae re,iD,bD,lG,gO,nv,gz p,gI,bV,w1,c1]
   all_goals first|exact⟨rfl,rfl⟩|exact⟨rfl,trivial⟩|rfl|trivial|(rw[ay];rfl)
  ·simp only[zX,simprocAttr,i64,bT,Re.ae re,iD,bD,lG,gO,nv,gz p,gI,bV,w1,c1,c2]
   all_goals first|exact⟨rfl,rfl⟩|exact⟨rfl,trivial⟩|rfl|trivial|(rw[ay];rfl)
 rw[if_neg hc]
 have c1:¬256<sz+1:=fun h=>hc (.inl h)
 have c2:¬24<d:=fun h=>hc (.inr h)
 generalize hG:(g&&b7 re p.ak top)=G
 rcases MY with rfl|rfl
 all_goals
  cases g
  all_goals
   refine aw func34 rfl ntmps34 results34 rfl 5 6442452607 (by simp) (by simp) ?_
   simp only[zX,simprocAttr,i64,bT,Re.ae re,iD,bD,lG,gO,nv,gz p,gI,bV,w1,c1,c2]
   try
    rw[X0]at hG
    rw[hG]at GQ
    refine aD GQ (by simp [ao,ao.go,ay,i64,bV,bT]) (by simp [ao,ao.go,ay,i64,bV,bT]) ?_
    simp only[zX,simprocAttr,i64,iD,bD,bV]
   refine aX (fun n e s=>∃i:Nat,n=re.kids.length-i∧i≤re.kids.length∧e 0=bT re∧e 1=i64 d∧e 6=.rf 4 0 0 0∧e 31=i64 re.kids.length∧e 32=i64 i ∧
     (Re.oU p.ak top (re.kids.take i) (d+1) (sz+1) G).1=true ∧
     s=[lG (Re.oU p.ak top (re.kids.take i) (d+1) (sz+1) G).2.1,gO (Re.oU p.ak top (re.kids.take i) (d+1) (sz+1) G).2.2,nv lv p,lG top,gI 34])
    ⟨_,_,_,dw.refl,0,rfl,by omega,by simp [bT,Re.ae re,iD,bD];rfl,rfl,rfl,rfl,rfl,rfl,by simp only[List.take_zero,Re.oU,lG,gO,nv,gz p,gI,i64,bV,iD,bD,WU,WV,← hG,Bool.false_and]⟩ ?_
   rintro n e s ⟨i,rfl,hi,h0,h1,h6,kB,ie,fM,rfl⟩
   have Px:=Er p.ak top (re.kids.take i) (fun k _=>Nk p.ak top k) (d+1) (sz+1) G (by omega) (by omega)
   obtain⟨b1,b2⟩:=Px.2.2.2 fM
   have b3:=(Px.1.1 fM).1
   have b4:=Px.2.1
   rcases Xw i re.kids.length with aS|lW
   ·obtain⟨k,hk⟩:∃k,re.kids[i]?=some k:=⟨_,WZ aS⟩
    have hm:=W6 hk
    have T7:=Re.JE p.ak top (re.kids.take i) k (d+1) (sz+1) G fM
    rw[← dZ hk]at T7
    have QH:Re.oU p.ak top re.kids (d+1) (sz+1) G=if (Re.oU p.ak top (re.kids.take (i+1)) (d+1) (sz+1) G).1=true then Re.oU p.ak top (re.kids.drop (i+1)) (d+1) (Re.oU p.ak top (re.kids.take (i+1)) (d+1) (sz+1) G).2.1 (Re.oU p.ak top (re.kids.take (i+1)) (d+1) (sz+1) G).2.2 else Re.oU p.ak top (re.kids.take (i+1)) (d+1) (sz+1) G:=by
     rw[← Re.sq,List.take_append_drop]
    have dn:=ih k hm (J4 k hm) (d+1) (Re.oU p.ak top (re.kids.take i) (d+1) (sz+1) G).2.1 (Re.oU p.ak top (re.kids.take i) (d+1) (sz+1) G).2.2 lv (.rf 2 0 0 0) (.inl rfl) (by omega) (by omega) b4 (by omega)
    rw[← T7]at dn
    simp only[nv,gz p,iD,bD,WU,WV]at dn
    generalize Re.oU p.ak top (re.kids.take i) (d+1) (sz+1) G=A at *
    generalize hB:Re.oU p.ak top (re.kids.take (i+1)) (d+1) (sz+1) G=B at *
    obtain⟨B1,B2,B3⟩:=B
    simp only[zX,simprocAttr,i64,lG,gO,nv,gz p,gI,bV,h0,h1,h6,kB,ie,aS]
    refine aq mix [] [(0,[4],[]),(9,[0,1,2,3,4],[0,1,2,3,4])] (by rfl) ?_
    simp only[zX,simprocAttr,i64,lG,gO,nv,gz p,gI,bV,bT,Re.ae re,iD,bD,h0,h1,h6,kB,ie,aS,hk,w2]
    refine Cm dn (by intro j hj;simp only[W3,Xa]at hj;simp only[List.mem_cons,List.not_mem_nil,or_false];omega) rfl rfl ?_
    cases B1 with
    |false =>
     simp only[W2,if_false]at QH
     rw[QH]
     simp only[zX,simprocAttr,i64,lG,gO,nv,gz p,gI,bV,h0,h1,h6,kB,ie]
     all_goals first|exact⟨rfl,rfl⟩|exact⟨rfl,trivial⟩|rfl|trivial|(rw[ay];rfl)
    |true =>
     simp only[zX,simprocAttr,i64,lG,gO,bV,h0,h1,h6,kB,ie]
     refine⟨re.kids.length-(i+1),_,_,by omega,dw.refl,i+1,rfl,aS,?_,?_,?_,?_,?_,by rw[hB],?_⟩ <;> (try simp only[zU,Nat.reduceBEq,Nat.reduceShiftRight,Nat.reduceMod,Nat.reduceEqDiff,reduceIte])
     ·simpa [bT,Re.ae re,iD,bD]using h0
     ·exact h1
     ·exact h6
     ·exact kB
     ·rw[bU _ (by omega)];rfl
     ·rw[hB];simp only[nv,gz p,iD,bD,WU,WV];rfl
   ·have iQ:i=re.kids.length:=by omega
    subst iQ
    rw[XA]at *
    simp only[zX,simprocAttr,i64,lG,gO,nv,gz p,gI,bV,h0,h1,h6,kB,ie,XP]
    rw[fM]
    all_goals first|exact⟨rfl,rfl⟩|exact⟨rfl,trivial⟩|rfl|trivial|(rw[ay];rfl)
theorem AZ (p:fj) (g:Bool) (hg:g=(decide (0≤p.ak)&&decide (p.ak≤9))) :
  (if (p.re.vw p.ak (eG p.bk) 1 0 g).1=true then (if (p.re.vw p.ak (eG p.bk) 1 0 g).2.2=true then (0:Int) else 1) else 4)=df p:=by
 obtain⟨a1,_,_,a4⟩:=Nk p.ak (eG p.bk) p.re 1 0 g (by omega) (by omega)
 by_cases h:(p.re.vw p.ak (eG p.bk) 1 0 g).1=true
 ·have h1:=a1.1 h
  have hv:df p=if p.ak<0∨9<p.ak∨p.re.whole p.ak (eG p.bk)=false then 1 else 0:=by
   unfold df;rw[if_neg (by omega)]
  rw[if_pos h,hv,(a4 h).2,hg]
  cases hw:p.re.whole p.ak (eG p.bk)
  ·rw[if_neg (by simp),if_pos (.inr (.inr rfl))]
  ·by_cases hc:p.ak<0∨9<p.ak
   ·rw[if_neg (by simp only[XT,W7,decide_eq_true_eq];omega),if_pos (by omega)]
   ·rw[if_pos (by simp only[XT,W7,decide_eq_true_eq];omega),if_neg (by rintro (h'|h'|h') <;> first|omega|cases h')]
 ·have hh:¬(0+(p.re.size:Int)≤256∧1+p.re.depth-1≤24):=fun hh=>h (a1.2 hh)
  have hv:df p=4:=by
   unfold df;rw[if_pos (by omega)]
  rw[if_neg h,hv]
theorem wX (p:fj) (hf:p.re.fA=true):br prog 14 [.ag ((jy p).map .d)] (i64 (df p)):=by
 have Ul:=I7 p.bk
 have Vt:eG p.bk≤1114111:=by unfold eG;split <;> omega
 have hk:∀g:Bool,g=(decide (0≤p.ak)&&decide (p.ak≤9))→av prog 34 [.d (.el (jy p)),i64 1,.rf 0 0 0 0,.rf 1 0 0 0,.d (.el (jy p)),.rf 3 0 0 0,.rf 4 0 0 0] [lG 0,gO g,nv false p,lG (eG p.bk),gI 34]
   fun v s=>v=bV (p.re.vw p.ak (eG p.bk) 1 0 g).1∧s=[lG (p.re.vw p.ak (eG p.bk) 1 0 g).2.1,gO (p.re.vw p.ak (eG p.bk) 1 0 g).2.2,nv false p,lG (eG p.bk),gI 34]:=by
  intro g _
  have:=Ig p (eG p.bk) Vt p.re hf 1 0 g false (.d (.el (jy p))) (.inr rfl) (by omega) (by omega) (by omega) (by omega)
  exact HH (ex:=[iD p.ak,bD p.bk]) this
 have fin:=fun g hg=>AZ p g hg
 generalize hG:(decide (0≤p.ak)&&decide (p.ak≤9))=G at hk fin
 have hk:=hk G rfl
 have fin:=fin G rfl
 generalize p.re.vw p.ak (eG p.bk) 1 0 G=R at hk fin
 obtain⟨R1,R2,R3⟩:=R
 simp only at fin
 rw[← fin]
 simp only[nv,gz p,iD,bD,bV,i64,WU,WV]at hk Ul ⊢
 refine aw func14 rfl ntmps14 results14 rfl 0 127 (by simp) (by simp) ?_
 simp only[zX,simprocAttr,i64,iD,bD,WU,WV]
 by_cases g1:0≤p.ak
 all_goals
  try (by_cases g2:p.ak≤9)
 all_goals
  first
   |(have QJ:G=true:=by rw[← hG,decide_eq_true g1,decide_eq_true g2];rfl
     subst QJ
     simp only[zX,simprocAttr,i64,iD,bD,g1,g2])
   |(have QJ:G=false:=by rw[← hG,decide_eq_true g1,decide_eq_false g2];rfl
     subst QJ
     simp only[zX,simprocAttr,i64,iD,bD,g1,g2])
   |(have QJ:G=false:=by rw[← hG,decide_eq_false g1];rfl
     subst QJ
     simp only[zX,simprocAttr,i64,iD,bD,g1])
  refine aD Ul rfl rfl ?_
  simp only[zX,simprocAttr,i64,iD,bD]
  refine aO [0] rfl ?_
  refine jt [1,2,0,3,4] hk (by decide) rfl rfl rfl (by simp [ao,ao.go]) (by simp [cU,lG,gO,nv,gI,ao,ao.go,i64,bV]) rfl ?_
  cases R1
  ·simp only[zX,simprocAttr,i64,aM,bf,bX,bF,bF.go,lG,gO,nv,gz p,gI,bV,aZ,iD,bD]
   all_goals first|exact⟨rfl,rfl⟩|exact⟨rfl,trivial⟩|rfl|trivial|(rw[ay];rfl)
  ·cases R3
   ·simp only[zX,simprocAttr,i64,aM,bf,bX,bF,bF.go,lG,gO,nv,gz p,gI,bV,aZ,iD,bD]
    all_goals first|exact⟨rfl,rfl⟩|exact⟨rfl,trivial⟩|rfl|trivial|(rw[ay];rfl)
   ·simp only[zX,simprocAttr,i64,aM,bf,bX,bF,bF.go,lG,gO,nv,gz p,gI,bV,aZ,iD,bD]
    all_goals first|exact⟨rfl,rfl⟩|exact⟨rfl,trivial⟩|rfl|trivial|(rw[ay];rfl)
end Go.Proofs.YtmihcpdhcillaaaGreat
