/- A part of the proof (H10). -/
import Derived.Test.YtllagoeijcjpiaaBD24
set_option linter.unusedSimpArgs false
set_option linter.unusedVariables false
set_option maxRecDepth 100000
set_option maxHeartbeats 80000000
namespace Go.Proofs.Ytllagoeijcjpiaa
open Go.VL
section node
variable {g0:Nat}{t:List Int}{F:Int}{kind:Int}{re:Re}{k bO:Int}{next:Goal}{i:Int}{c:aq}{n:Int}{st st' s2:aU}{o d d' d2 w e wl el:Int}{l ll:aq}
theorem LF (ho:re.op=4) (hc:dH g0 t F 98 (Goal.mk 1 re 0 0 next).d i c n st o d st' d' w e l) :
  dH g0 t F 99 (Goal.mk kind re k bO next).d i c n st o d st' d' w e l:=by
 have d4:decide (re.op=4)=true:=decide_eq_true ho
 unfold dH cW fm at hc ⊢
 simp only[Goal.aN,i64,bV,iD,bD]at hc
 refine av Try.func99 rfl Try.ntmps99 Try.results99 rfl 1 130370302485407109521180524058200202307293977194619920040712988758680403184925606790312229919 (by simp) (by simp) ?_
 simp only[zX,simprocAttr,i64,bV,Goal.aN,iD,bD,d4]
 refine aK bL.aV ?_
 refine an mix [11,15] [(7,[3],[3])] (by rfl) ?_
 simp only[zX,simprocAttr,i64,bV,iD,bD,hole,Re.ae re]
 refine bn (aP [3] (by simp [bk,bA,aZ.go,aZ,bQ]) (au hc rfl rfl rfl rfl rfl rfl ⟨rfl,rfl⟩)) ?_
 simp only[zX,simprocAttr,i64,bV,iD,bD]
theorem H8 (ho:re.op=10) (he:st.empty=false) (h0:0≤st.steps) (h1:st.steps≤10000000000000) (hs:(st.step F).empty=false) {yes no:Re}{lk:List Re} (bH:re.kids=yes::no::lk) {x:Int×Int} (n1:1≤re.n) (n2:re.n≤c.length) (n3:re.n≤1000000) (hg:c[(re.n-1).toNat]?=some x) (hx:0≤x.1)
  (hc:dH g0 t F 56 (Goal.mk 0 yes 0 0 next).d i c n (st.step F) o d st' d' w e l) :
  dH g0 t F 99 (Goal.mk kind re k bO next).d i c n st o d st' d' w e l:=by
 have aH:=b6 g0 t F st o d he h0 h1
 rw[hs]at aH
 generalize st.step F=s1 at *
 have d4:decide (re.op=4)=false:=decide_eq_false (by omega)
 have d1:decide (re.op=1)=false:=decide_eq_false (by omega)
 have d2:decide (re.op=2)=false:=decide_eq_false (by omega)
 have d3:decide (re.op=3)=false:=decide_eq_false (by omega)
 have d5:decide (re.op=5)=false:=decide_eq_false (by omega)
 have d6:decide (re.op=6)=false:=decide_eq_false (by omega)
 have d7:decide (re.op=7)=false:=decide_eq_false (by omega)
 have d8:decide (re.op=8)=false:=decide_eq_false (by omega)
 have d9:decide (re.op=9)=false:=decide_eq_false (by omega)
 have d10:decide (re.op=10)=true:=decide_eq_true ho
 unfold cW at aH
 unfold dH cW fm
 simp only[i64,bV,iD,Vt]at aH
 have dL:re.kids[0]?=some yes:=by rw[bH];rfl
 have eO:re.kids[1]?=some no:=by rw[bH];rfl
 have dg:(0:Int)<(re.kids.length:Int):=by rw[bH,VC];omega
 have wq:(1:Int)<(re.kids.length:Int):=by rw[bH,VC,VC];omega
 have q0:(0:Int)<((2:Nat):Int):=by decide
 have w1:IntKind.i64.wrap (re.n-1)=re.n-1:=bR _ (by omega)
 have aT:(re.n-1).toNat<c.length:=by omega
 have b1:0≤re.n-1:=by omega
 have b2:re.n-1<(c.length:Int):=by omega
 unfold dH cW fm at hc
 simp only[i64,bV]at hc
 simp only[Goal.aN,iD,bD,bd,aM]at hc
 refine av Try.func99 rfl Try.ntmps99 Try.results99 rfl 1 130370302485407109521180524058200202307293977194619920040712988758680403184925606790312229919 (by simp) (by simp) ?_
 simp only[zX,simprocAttr,i64,bV,Goal.aN,iD,bD,d4,d1,d2,d3,d5,d6,d7,d8,d9,d10]
 refine au aH rfl rfl rfl rfl rfl rfl ?_
 simp only[zX,simprocAttr,i64,bV,iD,bD,Vs,d4,d1,d2,d3,d5,d6,d7,d8,d9,d10]
 simp only[zX,simprocAttr,i64,bV,iD,bD,bd,aM,dL,eO,dg,wq,aw yes,Re.ae yes,aw no,Re.ae no,w1,b1,b2,aT,hg,hx,q0,ge_iff_le]
 refine aK bL.aV ?_
 refine an mix [11,15] [(7,[4],[4])] (by rfl) ?_
 simp only[zX,simprocAttr,i64,bV,iD,bD,hole,Re.ae yes,Re.ae no]
 refine bn (aP [4] (by simp [bk,bA,aZ.go,aZ,bQ]) (au hc rfl rfl rfl rfl rfl rfl ⟨rfl,rfl⟩)) ?_
 simp only[zX,simprocAttr,i64,bV,iD,bD]
theorem G2 (ho:re.op=10) (he:st.empty=false) (h0:0≤st.steps) (h1:st.steps≤10000000000000) (hs:(st.step F).empty=false) {yes no:Re}{lk:List Re} (bH:re.kids=yes::no::lk) {x:Int×Int} (n1:1≤re.n) (n2:re.n≤c.length) (n3:re.n≤1000000) (hg:c[(re.n-1).toNat]?=some x) (hx:¬0≤x.1)
  (hc:dH g0 t F 56 (Goal.mk 0 no 0 0 next).d i c n (st.step F) o d st' d' w e l) :
  dH g0 t F 99 (Goal.mk kind re k bO next).d i c n st o d st' d' w e l:=by
 have aH:=b6 g0 t F st o d he h0 h1
 rw[hs]at aH
 generalize st.step F=s1 at *
 have d4:decide (re.op=4)=false:=decide_eq_false (by omega)
 have d1:decide (re.op=1)=false:=decide_eq_false (by omega)
 have d2:decide (re.op=2)=false:=decide_eq_false (by omega)
 have d3:decide (re.op=3)=false:=decide_eq_false (by omega)
 have d5:decide (re.op=5)=false:=decide_eq_false (by omega)
 have d6:decide (re.op=6)=false:=decide_eq_false (by omega)
 have d7:decide (re.op=7)=false:=decide_eq_false (by omega)
 have d8:decide (re.op=8)=false:=decide_eq_false (by omega)
 have d9:decide (re.op=9)=false:=decide_eq_false (by omega)
 have d10:decide (re.op=10)=true:=decide_eq_true ho
 unfold cW at aH
 unfold dH cW fm
 simp only[i64,bV,iD,Vt]at aH
 have dL:re.kids[0]?=some yes:=by rw[bH];rfl
 have eO:re.kids[1]?=some no:=by rw[bH];rfl
 have dg:(0:Int)<(re.kids.length:Int):=by rw[bH,VC];omega
 have wq:(1:Int)<(re.kids.length:Int):=by rw[bH,VC,VC];omega
 have q0:(0:Int)<((2:Nat):Int):=by decide
 have w1:IntKind.i64.wrap (re.n-1)=re.n-1:=bR _ (by omega)
 have aT:(re.n-1).toNat<c.length:=by omega
 have b1:0≤re.n-1:=by omega
 have b2:re.n-1<(c.length:Int):=by omega
 unfold dH cW fm at hc
 simp only[i64,bV]at hc
 simp only[Goal.aN,iD,bD,bd,aM]at hc
 refine av Try.func99 rfl Try.ntmps99 Try.results99 rfl 1 130370302485407109521180524058200202307293977194619920040712988758680403184925606790312229919 (by simp) (by simp) ?_
 simp only[zX,simprocAttr,i64,bV,Goal.aN,iD,bD,d4,d1,d2,d3,d5,d6,d7,d8,d9,d10]
 refine au aH rfl rfl rfl rfl rfl rfl ?_
 simp only[zX,simprocAttr,i64,bV,iD,bD,Vs,d4,d1,d2,d3,d5,d6,d7,d8,d9,d10]
 simp only[zX,simprocAttr,i64,bV,iD,bD,bd,aM,dL,eO,dg,wq,aw yes,Re.ae yes,aw no,Re.ae no,w1,b1,b2,aT,hg,hx,q0,ge_iff_le]
 refine aK bL.aV ?_
 refine an mix [11,15] [(7,[4],[4])] (by rfl) ?_
 simp only[zX,simprocAttr,i64,bV,iD,bD,hole,Re.ae yes,Re.ae no]
 refine bn (aP [4] (by simp [bk,bA,aZ.go,aZ,bQ]) (au hc rfl rfl rfl rfl rfl rfl ⟨rfl,rfl⟩)) ?_
 simp only[zX,simprocAttr,i64,bV,iD,bD]
theorem Fb (ho:re.op=7) (he:st.empty=false) (h0:0≤st.steps) (h1:st.steps≤10000000000000) (hs:(st.step F).empty=false) (gR:fR g0 t F re i c (st.step F) s2 o d d2 wl el ll) (hx:s2.empty=true) :
  dH g0 t F 99 (Goal.mk kind re k bO next).d i c n st o d s2 d2 n 0 []:=by
 have aH:=b6 g0 t F st o d he h0 h1
 rw[hs]at aH
 generalize st.step F=s1 at *
 have d4:decide (re.op=4)=false:=decide_eq_false (by omega)
 have d1:decide (re.op=1)=false:=decide_eq_false (by omega)
 have d2:decide (re.op=2)=false:=decide_eq_false (by omega)
 have d3:decide (re.op=3)=false:=decide_eq_false (by omega)
 have d5:decide (re.op=5)=false:=decide_eq_false (by omega)
 have d6:decide (re.op=6)=false:=decide_eq_false (by omega)
 have d7:decide (re.op=7)=true:=decide_eq_true ho
 unfold cW at aH
 unfold dH cW fm
 simp only[i64,bV,iD,Vt]at aH
 unfold fR cW fm at gR
 simp only[i64,bV,iD,bD,aw re,VP,VO]at gR
 rw[hx]at gR
 refine av Try.func99 rfl Try.ntmps99 Try.results99 rfl 1 130370302485407109521180524058200202307293977194619920040712988758680403184925606790312229919 (by simp) (by simp) ?_
 simp only[zX,simprocAttr,i64,bV,Goal.aN,iD,bD,d4,d1,d2,d3,d5,d6,d7]
 refine au aH rfl rfl rfl rfl rfl rfl ?_
 simp only[zX,simprocAttr,i64,bV,iD,bD,Vs,d4,d1,d2,d3,d5,d6,d7]
 refine au gR rfl rfl rfl rfl rfl rfl ?_
 simp only[zX,simprocAttr,i64,bV,iD,bD,hx,bd,VO]
theorem uZ (ho:re.op=7) (he:st.empty=false) (h0:0≤st.steps) (h1:st.steps≤10000000000000) (hs:(st.step F).empty=false) (gR:fR g0 t F re i c (st.step F) s2 o d d2 wl el ll) (hx:s2.empty=false) (hw:decide (wl≤0)=re.neg) :
  dH g0 t F 99 (Goal.mk kind re k bO next).d i c n st o d s2 d2 n 0 []:=by
 have aH:=b6 g0 t F st o d he h0 h1
 rw[hs]at aH
 generalize st.step F=s1 at *
 have d4:decide (re.op=4)=false:=decide_eq_false (by omega)
 have d1:decide (re.op=1)=false:=decide_eq_false (by omega)
 have d2:decide (re.op=2)=false:=decide_eq_false (by omega)
 have d3:decide (re.op=3)=false:=decide_eq_false (by omega)
 have d5:decide (re.op=5)=false:=decide_eq_false (by omega)
 have d6:decide (re.op=6)=false:=decide_eq_false (by omega)
 have d7:decide (re.op=7)=true:=decide_eq_true ho
 unfold cW at aH
 unfold dH cW fm
 simp only[i64,bV,iD,Vt]at aH
 unfold fR cW fm at gR
 simp only[i64,bV,iD,bD,aw re,VP,VO]at gR
 rw[hx]at gR
 refine av Try.func99 rfl Try.ntmps99 Try.results99 rfl 1 130370302485407109521180524058200202307293977194619920040712988758680403184925606790312229919 (by simp) (by simp) ?_
 simp only[zX,simprocAttr,i64,bV,Goal.aN,iD,bD,d4,d1,d2,d3,d5,d6,d7]
 refine au aH rfl rfl rfl rfl rfl rfl ?_
 simp only[zX,simprocAttr,i64,bV,iD,bD,Vs,d4,d1,d2,d3,d5,d6,d7]
 refine au gR rfl rfl rfl rfl rfl rfl ?_
 simp only[zX,simprocAttr,i64,bV,iD,bD,hx,hw,beq_self_eq_true,bd,VO]
theorem ED (ho:re.op=7) (he:st.empty=false) (h0:0≤st.steps) (h1:st.steps≤10000000000000) (hs:(st.step F).empty=false) (gR:fR g0 t F re i c (st.step F) s2 o d d2 wl el ll) (hx:s2.empty=false) (ca:re.neg=true) (hw:decide (wl≤0)=false)
  (hc:dH g0 t F 56 next.d i c n s2 o d2 st' d' w e l) :
  dH g0 t F 99 (Goal.mk kind re k bO next).d i c n st o d st' d' w e l:=by
 have aH:=b6 g0 t F st o d he h0 h1
 rw[hs]at aH
 generalize st.step F=s1 at *
 have d4:decide (re.op=4)=false:=decide_eq_false (by omega)
 have d1:decide (re.op=1)=false:=decide_eq_false (by omega)
 have d2:decide (re.op=2)=false:=decide_eq_false (by omega)
 have d3:decide (re.op=3)=false:=decide_eq_false (by omega)
 have d5:decide (re.op=5)=false:=decide_eq_false (by omega)
 have d6:decide (re.op=6)=false:=decide_eq_false (by omega)
 have d7:decide (re.op=7)=true:=decide_eq_true ho
 unfold cW at aH
 unfold dH cW fm
 simp only[i64,bV,iD,Vt]at aH
 unfold fR cW fm at gR
 simp only[i64,bV,iD,bD,aw re,VP,VO]at gR
 unfold dH cW fm at hc
 simp only[i64,bV]at hc
 rw[hx,ca]at gR
 rw[hx]at hc
 have bt:((false:Bool) == true)=false:=rfl
 have bf:((true:Bool) == false)=false:=rfl
 refine av Try.func99 rfl Try.ntmps99 Try.results99 rfl 1 130370302485407109521180524058200202307293977194619920040712988758680403184925606790312229919 (by simp) (by simp) ?_
 simp only[zX,simprocAttr,i64,bV,Goal.aN,iD,bD,d4,d1,d2,d3,d5,d6,d7]
 refine au aH rfl rfl rfl rfl rfl rfl ?_
 simp only[zX,simprocAttr,i64,bV,iD,bD,Vs,d4,d1,d2,d3,d5,d6,d7]
 rw[ca]
 refine au gR rfl rfl rfl rfl rfl rfl ?_
 simp only[zX,simprocAttr,i64,bV,iD,bD,hx,hw,bt]
 refine au hc rfl rfl rfl rfl rfl rfl ?_
 simp only[zX,simprocAttr,i64,bV,iD,bD]
theorem ET (ho:re.op=7) (he:st.empty=false) (h0:0≤st.steps) (h1:st.steps≤10000000000000) (hs:(st.step F).empty=false) (gR:fR g0 t F re i c (st.step F) s2 o d d2 wl el ll) (hx:s2.empty=false) (ca:re.neg=false) (hw:decide (wl≤0)=true)
  (hc:dH g0 t F 56 next.d i ll n s2 o d2 st' d' w e l) :
  dH g0 t F 99 (Goal.mk kind re k bO next).d i c n st o d st' d' w e l:=by
 have aH:=b6 g0 t F st o d he h0 h1
 rw[hs]at aH
 generalize st.step F=s1 at *
 have d4:decide (re.op=4)=false:=decide_eq_false (by omega)
 have d1:decide (re.op=1)=false:=decide_eq_false (by omega)
 have d2:decide (re.op=2)=false:=decide_eq_false (by omega)
 have d3:decide (re.op=3)=false:=decide_eq_false (by omega)
 have d5:decide (re.op=5)=false:=decide_eq_false (by omega)
 have d6:decide (re.op=6)=false:=decide_eq_false (by omega)
 have d7:decide (re.op=7)=true:=decide_eq_true ho
 unfold cW at aH
 unfold dH cW fm
 simp only[i64,bV,iD,Vt]at aH
 unfold fR cW fm at gR
 simp only[i64,bV,iD,bD,aw re,VP,VO]at gR
 unfold dH cW fm at hc
 simp only[i64,bV]at hc
 rw[hx,ca]at gR
 rw[hx]at hc
 have bt:((false:Bool) == true)=false:=rfl
 have bf:((true:Bool) == false)=false:=rfl
 refine av Try.func99 rfl Try.ntmps99 Try.results99 rfl 1 130370302485407109521180524058200202307293977194619920040712988758680403184925606790312229919 (by simp) (by simp) ?_
 simp only[zX,simprocAttr,i64,bV,Goal.aN,iD,bD,d4,d1,d2,d3,d5,d6,d7]
 refine au aH rfl rfl rfl rfl rfl rfl ?_
 simp only[zX,simprocAttr,i64,bV,iD,bD,Vs,d4,d1,d2,d3,d5,d6,d7]
 rw[ca]
 refine au gR rfl rfl rfl rfl rfl rfl ?_
 simp only[zX,simprocAttr,i64,bV,iD,bD,hx,hw,bf]
 refine an mix [9,13] [] (by rfl) ?_
 simp only[zX,simprocAttr,i64,bV,iD,bD]
 refine bn (au hc rfl rfl rfl rfl rfl rfl ⟨rfl,rfl⟩) ?_
 simp only[zX,simprocAttr,i64,bV,iD,bD]
theorem EM (ho:re.op=8) (he:st.empty=false) (h0:0≤st.steps) (h1:st.steps≤10000000000000) (hs:(st.step F).empty=false) (gR:fR g0 t F re i c (st.step F) s2 o d d2 wl el ll) (hx:s2.empty=true) :
  dH g0 t F 99 (Goal.mk kind re k bO next).d i c n st o d s2 d2 n 0 []:=by
 have aH:=b6 g0 t F st o d he h0 h1
 rw[hs]at aH
 generalize st.step F=s1 at *
 have d4:decide (re.op=4)=false:=decide_eq_false (by omega)
 have d1:decide (re.op=1)=false:=decide_eq_false (by omega)
 have d2:decide (re.op=2)=false:=decide_eq_false (by omega)
 have d3:decide (re.op=3)=false:=decide_eq_false (by omega)
 have d5:decide (re.op=5)=false:=decide_eq_false (by omega)
 have d6:decide (re.op=6)=false:=decide_eq_false (by omega)
 have d7:decide (re.op=7)=false:=decide_eq_false (by omega)
 have d8:decide (re.op=8)=true:=decide_eq_true ho
 unfold cW at aH
 unfold dH cW fm
 simp only[i64,bV,iD,Vt]at aH
 unfold fR cW fm at gR
 simp only[i64,bV,iD,bD,aw re,VP,VO]at gR
 rw[hx]at gR
 refine av Try.func99 rfl Try.ntmps99 Try.results99 rfl 1 130370302485407109521180524058200202307293977194619920040712988758680403184925606790312229919 (by simp) (by simp) ?_
 simp only[zX,simprocAttr,i64,bV,Goal.aN,iD,bD,d4,d1,d2,d3,d5,d6,d7,d8]
 refine au aH rfl rfl rfl rfl rfl rfl ?_
 simp only[zX,simprocAttr,i64,bV,iD,bD,Vs,d4,d1,d2,d3,d5,d6,d7,d8]
 refine au gR rfl rfl rfl rfl rfl rfl ?_
 simp only[zX,simprocAttr,i64,bV,iD,bD,hx,bd,VO]
theorem Ds (ho:re.op=8) (he:st.empty=false) (h0:0≤st.steps) (h1:st.steps≤10000000000000) (hs:(st.step F).empty=false) (gR:fR g0 t F re i c (st.step F) s2 o d d2 wl el ll) (hx:s2.empty=false) (hw:decide (wl≤0)=re.neg) :
  dH g0 t F 99 (Goal.mk kind re k bO next).d i c n st o d s2 d2 n 0 []:=by
 have aH:=b6 g0 t F st o d he h0 h1
 rw[hs]at aH
 generalize st.step F=s1 at *
 have d4:decide (re.op=4)=false:=decide_eq_false (by omega)
 have d1:decide (re.op=1)=false:=decide_eq_false (by omega)
 have d2:decide (re.op=2)=false:=decide_eq_false (by omega)
 have d3:decide (re.op=3)=false:=decide_eq_false (by omega)
 have d5:decide (re.op=5)=false:=decide_eq_false (by omega)
 have d6:decide (re.op=6)=false:=decide_eq_false (by omega)
 have d7:decide (re.op=7)=false:=decide_eq_false (by omega)
 have d8:decide (re.op=8)=true:=decide_eq_true ho
 unfold cW at aH
 unfold dH cW fm
 simp only[i64,bV,iD,Vt]at aH
 unfold fR cW fm at gR
 simp only[i64,bV,iD,bD,aw re,VP,VO]at gR
 rw[hx]at gR
 refine av Try.func99 rfl Try.ntmps99 Try.results99 rfl 1 130370302485407109521180524058200202307293977194619920040712988758680403184925606790312229919 (by simp) (by simp) ?_
 simp only[zX,simprocAttr,i64,bV,Goal.aN,iD,bD,d4,d1,d2,d3,d5,d6,d7,d8]
 refine au aH rfl rfl rfl rfl rfl rfl ?_
 simp only[zX,simprocAttr,i64,bV,iD,bD,Vs,d4,d1,d2,d3,d5,d6,d7,d8]
 refine au gR rfl rfl rfl rfl rfl rfl ?_
 simp only[zX,simprocAttr,i64,bV,iD,bD,hx,hw,beq_self_eq_true,bd,VO]
theorem Et (ho:re.op=8) (he:st.empty=false) (h0:0≤st.steps) (h1:st.steps≤10000000000000) (hs:(st.step F).empty=false) (gR:fR g0 t F re i c (st.step F) s2 o d d2 wl el ll) (hx:s2.empty=false) (ca:re.neg=true) (hw:decide (wl≤0)=false)
  (hc:dH g0 t F 56 next.d i c n s2 o d2 st' d' w e l) :
  dH g0 t F 99 (Goal.mk kind re k bO next).d i c n st o d st' d' w e l:=by
 have aH:=b6 g0 t F st o d he h0 h1
 rw[hs]at aH
 generalize st.step F=s1 at *
 have d4:decide (re.op=4)=false:=decide_eq_false (by omega)
 have d1:decide (re.op=1)=false:=decide_eq_false (by omega)
 have d2:decide (re.op=2)=false:=decide_eq_false (by omega)
 have d3:decide (re.op=3)=false:=decide_eq_false (by omega)
 have d5:decide (re.op=5)=false:=decide_eq_false (by omega)
 have d6:decide (re.op=6)=false:=decide_eq_false (by omega)
 have d7:decide (re.op=7)=false:=decide_eq_false (by omega)
 have d8:decide (re.op=8)=true:=decide_eq_true ho
 unfold cW at aH
 unfold dH cW fm
 simp only[i64,bV,iD,Vt]at aH
 unfold fR cW fm at gR
 simp only[i64,bV,iD,bD,aw re,VP,VO]at gR
 unfold dH cW fm at hc
 simp only[i64,bV]at hc
 rw[hx,ca]at gR
 rw[hx]at hc
 have bt:((false:Bool) == true)=false:=rfl
 have bf:((true:Bool) == false)=false:=rfl
 refine av Try.func99 rfl Try.ntmps99 Try.results99 rfl 1 130370302485407109521180524058200202307293977194619920040712988758680403184925606790312229919 (by simp) (by simp) ?_
 simp only[zX,simprocAttr,i64,bV,Goal.aN,iD,bD,d4,d1,d2,d3,d5,d6,d7,d8]
 refine au aH rfl rfl rfl rfl rfl rfl ?_
 simp only[zX,simprocAttr,i64,bV,iD,bD,Vs,d4,d1,d2,d3,d5,d6,d7,d8]
 rw[ca]
 refine au gR rfl rfl rfl rfl rfl rfl ?_
 simp only[zX,simprocAttr,i64,bV,iD,bD,hx,hw,bt]
 refine au hc rfl rfl rfl rfl rfl rfl ?_
 simp only[zX,simprocAttr,i64,bV,iD,bD]
theorem Ed (ho:re.op=8) (he:st.empty=false) (h0:0≤st.steps) (h1:st.steps≤10000000000000) (hs:(st.step F).empty=false) (gR:fR g0 t F re i c (st.step F) s2 o d d2 wl el ll) (hx:s2.empty=false) (ca:re.neg=false) (hw:decide (wl≤0)=true)
  (hc:dH g0 t F 56 next.d i ll n s2 o d2 st' d' w e l) :
  dH g0 t F 99 (Goal.mk kind re k bO next).d i c n st o d st' d' w e l:=by
 have aH:=b6 g0 t F st o d he h0 h1
 rw[hs]at aH
 generalize st.step F=s1 at *
 have d4:decide (re.op=4)=false:=decide_eq_false (by omega)
 have d1:decide (re.op=1)=false:=decide_eq_false (by omega)
 have d2:decide (re.op=2)=false:=decide_eq_false (by omega)
 have d3:decide (re.op=3)=false:=decide_eq_false (by omega)
 have d5:decide (re.op=5)=false:=decide_eq_false (by omega)
 have d6:decide (re.op=6)=false:=decide_eq_false (by omega)
 have d7:decide (re.op=7)=false:=decide_eq_false (by omega)
 have d8:decide (re.op=8)=true:=decide_eq_true ho
 unfold cW at aH
 unfold dH cW fm
 simp only[i64,bV,iD,Vt]at aH
 unfold fR cW fm at gR
 simp only[i64,bV,iD,bD,aw re,VP,VO]at gR
 unfold dH cW fm at hc
 simp only[i64,bV]at hc
 rw[hx,ca]at gR
 rw[hx]at hc
 have bt:((false:Bool) == true)=false:=rfl
 have bf:((true:Bool) == false)=false:=rfl
 refine av Try.func99 rfl Try.ntmps99 Try.results99 rfl 1 130370302485407109521180524058200202307293977194619920040712988758680403184925606790312229919 (by simp) (by simp) ?_
 simp only[zX,simprocAttr,i64,bV,Goal.aN,iD,bD,d4,d1,d2,d3,d5,d6,d7,d8]
 refine au aH rfl rfl rfl rfl rfl rfl ?_
 simp only[zX,simprocAttr,i64,bV,iD,bD,Vs,d4,d1,d2,d3,d5,d6,d7,d8]
 rw[ca]
 refine au gR rfl rfl rfl rfl rfl rfl ?_
 simp only[zX,simprocAttr,i64,bV,iD,bD,hx,hw,bf]
 refine an mix [9,13] [] (by rfl) ?_
 simp only[zX,simprocAttr,i64,bV,iD,bD]
 refine bn (au hc rfl rfl rfl rfl rfl rfl ⟨rfl,rfl⟩) ?_
 simp only[zX,simprocAttr,i64,bV,iD,bD]
theorem FJ (ho:re.op=9) (he:st.empty=false) (h0:0≤st.steps) (h1:st.steps≤10000000000000) (hs:(st.step F).empty=false) {kid:Re}{lk:List Re} (bH:re.kids=kid::lk) (sC:gy g0 t F (Goal.mk 0 kid 0 0 .nil).d i c (st.step F) s2 o d d2 wl el ll) (hx:s2.empty=true) (hw:decide (wl>0)=false) :
  dH g0 t F 99 (Goal.mk kind re k bO next).d i c n st o d s2 d2 n 0 []:=by
 have aH:=b6 g0 t F st o d he h0 h1
 rw[hs]at aH
 generalize st.step F=s1 at *
 have d4:decide (re.op=4)=false:=decide_eq_false (by omega)
 have d1:decide (re.op=1)=false:=decide_eq_false (by omega)
 have d2:decide (re.op=2)=false:=decide_eq_false (by omega)
 have d3:decide (re.op=3)=false:=decide_eq_false (by omega)
 have d5:decide (re.op=5)=false:=decide_eq_false (by omega)
 have d6:decide (re.op=6)=false:=decide_eq_false (by omega)
 have d7:decide (re.op=7)=false:=decide_eq_false (by omega)
 have d8:decide (re.op=8)=false:=decide_eq_false (by omega)
 have d9:decide (re.op=9)=true:=decide_eq_true ho
 unfold cW at aH
 unfold dH cW fm
 simp only[i64,bV,iD,Vt]at aH
 have dL:re.kids[0]?=some kid:=by rw[bH];rfl
 have dg:(0:Int)<(re.kids.length:Int):=by rw[bH,VC];omega
 have mZ:Goal.nil.d=.sc (.pointer none):=rfl
 unfold gy cW fm at sC
 simp only[i64,bV,iD,bD,Goal.aN,mZ]at sC
 rw[hx]at sC
 refine av Try.func99 rfl Try.ntmps99 Try.results99 rfl 1 130370302485407109521180524058200202307293977194619920040712988758680403184925606790312229919 (by simp) (by simp) ?_
 simp only[zX,simprocAttr,i64,bV,Goal.aN,iD,bD,d4,d1,d2,d3,d5,d6,d7,d8,d9]
 refine au aH rfl rfl rfl rfl rfl rfl ?_
 simp only[zX,simprocAttr,i64,bV,iD,bD,Vs,d4,d1,d2,d3,d5,d6,d7,d8,d9]
 simp only[zX,simprocAttr,i64,bV,iD,bD,dL,dg,aw kid,Re.ae kid]
 refine aP [3] (by simp [bk,bA,aZ.go,aZ,bQ]) (au sC rfl rfl rfl rfl rfl rfl ?_)
 simp only[zX,simprocAttr,i64,bV,iD,bD,hx,hw,bd,VO]
theorem zJ (ho:re.op=9) (he:st.empty=false) (h0:0≤st.steps) (h1:st.steps≤10000000000000) (hs:(st.step F).empty=false) {kid:Re}{lk:List Re} (bH:re.kids=kid::lk) (sC:gy g0 t F (Goal.mk 0 kid 0 0 .nil).d i c (st.step F) s2 o d d2 wl el ll) (hw:decide (wl>0)=true) :
  dH g0 t F 99 (Goal.mk kind re k bO next).d i c n st o d s2 d2 n 0 []:=by
 have aH:=b6 g0 t F st o d he h0 h1
 rw[hs]at aH
 generalize st.step F=s1 at *
 have d4:decide (re.op=4)=false:=decide_eq_false (by omega)
 have d1:decide (re.op=1)=false:=decide_eq_false (by omega)
 have d2:decide (re.op=2)=false:=decide_eq_false (by omega)
 have d3:decide (re.op=3)=false:=decide_eq_false (by omega)
 have d5:decide (re.op=5)=false:=decide_eq_false (by omega)
 have d6:decide (re.op=6)=false:=decide_eq_false (by omega)
 have d7:decide (re.op=7)=false:=decide_eq_false (by omega)
 have d8:decide (re.op=8)=false:=decide_eq_false (by omega)
 have d9:decide (re.op=9)=true:=decide_eq_true ho
 unfold cW at aH
 unfold dH cW fm
 simp only[i64,bV,iD,Vt]at aH
 have dL:re.kids[0]?=some kid:=by rw[bH];rfl
 have dg:(0:Int)<(re.kids.length:Int):=by rw[bH,VC];omega
 have mZ:Goal.nil.d=.sc (.pointer none):=rfl
 unfold gy cW fm at sC
 simp only[i64,bV,iD,bD,Goal.aN,mZ]at sC
 refine av Try.func99 rfl Try.ntmps99 Try.results99 rfl 1 130370302485407109521180524058200202307293977194619920040712988758680403184925606790312229919 (by simp) (by simp) ?_
 simp only[zX,simprocAttr,i64,bV,Goal.aN,iD,bD,d4,d1,d2,d3,d5,d6,d7,d8,d9]
 refine au aH rfl rfl rfl rfl rfl rfl ?_
 simp only[zX,simprocAttr,i64,bV,iD,bD,Vs,d4,d1,d2,d3,d5,d6,d7,d8,d9]
 simp only[zX,simprocAttr,i64,bV,iD,bD,dL,dg,aw kid,Re.ae kid]
 refine aP [3] (by simp [bk,bA,aZ.go,aZ,bQ]) (au sC rfl rfl rfl rfl rfl rfl ?_)
 simp only[zX,simprocAttr,i64,bV,iD,bD,hw,bd,VO]
theorem HQ (ho:re.op=9) (he:st.empty=false) (h0:0≤st.steps) (h1:st.steps≤10000000000000) (hs:(st.step F).empty=false) {kid:Re}{lk:List Re} (bH:re.kids=kid::lk) (sC:gy g0 t F (Goal.mk 0 kid 0 0 .nil).d i c (st.step F) s2 o d d2 wl el ll) (hx:s2.empty=false) (hw:decide (wl>0)=false)
  (hc:dH g0 t F 56 next.d el ll n s2 o d2 st' d' w e l) :
  dH g0 t F 99 (Goal.mk kind re k bO next).d i c n st o d st' d' w e l:=by
 have aH:=b6 g0 t F st o d he h0 h1
 rw[hs]at aH
 generalize st.step F=s1 at *
 have d4:decide (re.op=4)=false:=decide_eq_false (by omega)
 have d1:decide (re.op=1)=false:=decide_eq_false (by omega)
 have d2:decide (re.op=2)=false:=decide_eq_false (by omega)
 have d3:decide (re.op=3)=false:=decide_eq_false (by omega)
 have d5:decide (re.op=5)=false:=decide_eq_false (by omega)
 have d6:decide (re.op=6)=false:=decide_eq_false (by omega)
 have d7:decide (re.op=7)=false:=decide_eq_false (by omega)
 have d8:decide (re.op=8)=false:=decide_eq_false (by omega)
 have d9:decide (re.op=9)=true:=decide_eq_true ho
 unfold cW at aH
 unfold dH cW fm
 simp only[i64,bV,iD,Vt]at aH
 have dL:re.kids[0]?=some kid:=by rw[bH];rfl
 have dg:(0:Int)<(re.kids.length:Int):=by rw[bH,VC];omega
 have mZ:Goal.nil.d=.sc (.pointer none):=rfl
 unfold gy cW fm at sC
 simp only[i64,bV,iD,bD,Goal.aN,mZ]at sC
 unfold dH cW fm at hc
 simp only[i64,bV]at hc
 rw[hx]at sC hc
 refine av Try.func99 rfl Try.ntmps99 Try.results99 rfl 1 130370302485407109521180524058200202307293977194619920040712988758680403184925606790312229919 (by simp) (by simp) ?_
 simp only[zX,simprocAttr,i64,bV,Goal.aN,iD,bD,d4,d1,d2,d3,d5,d6,d7,d8,d9]
 refine au aH rfl rfl rfl rfl rfl rfl ?_
 simp only[zX,simprocAttr,i64,bV,iD,bD,Vs,d4,d1,d2,d3,d5,d6,d7,d8,d9]
 simp only[zX,simprocAttr,i64,bV,iD,bD,dL,dg,aw kid,Re.ae kid]
 refine aP [3] (by simp [bk,bA,aZ.go,aZ,bQ]) (au sC rfl rfl rfl rfl rfl rfl ?_)
 simp only[zX,simprocAttr,i64,bV,iD,bD,hx,hw]
 refine an mix [10,14] [] (by rfl) ?_
 simp only[zX,simprocAttr,i64,bV,iD,bD]
 refine bn (au hc rfl rfl rfl rfl rfl rfl ⟨rfl,rfl⟩) ?_
 simp only[zX,simprocAttr,i64,bV,iD,bD]
end node
end Go.Proofs.Ytllagoeijcjpiaa
