/- A part of the proof (H9). -/
import Derived.Test.YtllagoeijcjpiaaBD23
set_option linter.unusedSimpArgs false
set_option linter.unusedVariables false
set_option maxRecDepth 100000
set_option maxHeartbeats 80000000
namespace Go.Proofs.Ytllagoeijcjpiaa
open Go.VL
def dH (g0:Nat) (t:List Int) (F:Int) (f:FuncId) (gd:D) (i:Int) (c:aq) (n:Int) (st:aU) (o d:Int) (st':aU) (d' w e:Int) (l:aq):Prop :=
 az Try.prog f [.rf 0 g0 0 0,.d gd,i64 i,.d (bd c),i64 n] [cW g0 t F st o d] fun v s=>v=.tu [i64 w,fm e l]∧s=[cW g0 t F st' o d']
section node
variable {g0:Nat}{t:List Int}{F:Int}{kind:Int}{re:Re}{k bO:Int}{next:Goal}{i:Int}{c:aq}{n:Int}{st st':aU}{o d d' w e:Int}{l:aq}
theorem GQ (ho:re.op≠4) (he:st.empty=false) (h0:0≤st.steps) (h1:st.steps≤10000000000000) (hs:(st.step F).empty=true) :
  dH g0 t F 99 (Goal.mk kind re k bO next).d i c n st o d (st.step F) d 0 0 []:=by
 have aH:=b6 g0 t F st o d he h0 h1
 rw[hs]at aH
 generalize st.step F=s1 at *
 have d4:decide (re.op=4)=false:=decide_eq_false ho
 unfold cW at aH
 unfold dH cW fm
 simp only[i64,bV,iD,Vs]at aH
 refine av Try.func99 rfl Try.ntmps99 Try.results99 rfl 1 130370302485407109521180524058200202307293977194619920040712988758680403184925606790312229919 (by simp) (by simp) ?_
 simp only[zX,simprocAttr,i64,bV,Goal.aN,iD,bD,d4]
 refine au aH rfl rfl rfl rfl rfl rfl ?_
 simp only[zX,simprocAttr,i64,bV,iD,bD,Vt,bd,VO]
theorem BY (ho:re.op≠1∧re.op≠2∧re.op≠3∧re.op≠4∧re.op≠5∧re.op≠6∧re.op≠7∧re.op≠8∧re.op≠9∧re.op≠10∧re.op≠11) (he:st.empty=false) (h0:0≤st.steps) (h1:st.steps≤10000000000000) (hs:(st.step F).empty=false)
  (hc:dH g0 t F 56 next.d i c n (st.step F) o d st' d' w e l) :
  dH g0 t F 99 (Goal.mk kind re k bO next).d i c n st o d st' d' w e l:=by
 have aH:=b6 g0 t F st o d he h0 h1
 rw[hs]at aH
 generalize st.step F=s1 at *
 have d4:decide (re.op=4)=false:=decide_eq_false (by omega)
 have d1:decide (re.op=1)=false:=decide_eq_false (by omega)
 have d2:decide (re.op=2)=false:=decide_eq_false (by omega)
 have d3:decide (re.op=3)=false:=decide_eq_false (by omega)
 have d5:decide (re.op=5)=false:=decide_eq_false (by omega)
 have d6:decide (re.op=6)=false:=decide_eq_false (by omega)
 have d7:decide (re.op=7)=false:=decide_eq_false (by omega)
 have d8:decide (re.op=8)=false:=decide_eq_false (by omega)
 have d9:decide (re.op=9)=false:=decide_eq_false (by omega)
 have d10:decide (re.op=10)=false:=decide_eq_false (by omega)
 have d11:decide (re.op=11)=false:=decide_eq_false (by omega)
 unfold cW at aH
 unfold dH cW fm
 simp only[i64,bV,iD,Vt]at aH
 unfold dH cW fm at hc
 simp only[i64,bV]at hc
 refine av Try.func99 rfl Try.ntmps99 Try.results99 rfl 1 130370302485407109521180524058200202307293977194619920040712988758680403184925606790312229919 (by simp) (by simp) ?_
 simp only[zX,simprocAttr,i64,bV,Goal.aN,iD,bD,d4,d1,d2,d3,d5,d6,d7,d8,d9,d10,d11]
 refine au aH rfl rfl rfl rfl rfl rfl ?_
 simp only[zX,simprocAttr,i64,bV,iD,bD,Vs,d4,d1,d2,d3,d5,d6,d7,d8,d9,d10,d11]
 refine au hc rfl rfl rfl rfl rfl rfl ?_
 simp only[zX,simprocAttr,i64,bV,iD,bD]
theorem Ih (ho:re.op=11) (he:st.empty=false) (h0:0≤st.steps) (h1:st.steps≤10000000000000) (hs:(st.step F).empty=false) (ht:t.length≤1000000) (hi0:0≤i) (eK:i≤t.length) (hb:bN re.n t i=true)
  (hc:dH g0 t F 56 next.d i c n (st.step F) o d st' d' w e l) :
  dH g0 t F 99 (Goal.mk kind re k bO next).d i c n st o d st' d' w e l:=by
 have aH:=b6 g0 t F st o d he h0 h1
 rw[hs]at aH
 generalize st.step F=s1 at *
 have d4:decide (re.op=4)=false:=decide_eq_false (by omega)
 have d1:decide (re.op=1)=false:=decide_eq_false (by omega)
 have d2:decide (re.op=2)=false:=decide_eq_false (by omega)
 have d3:decide (re.op=3)=false:=decide_eq_false (by omega)
 have d5:decide (re.op=5)=false:=decide_eq_false (by omega)
 have d6:decide (re.op=6)=false:=decide_eq_false (by omega)
 have d7:decide (re.op=7)=false:=decide_eq_false (by omega)
 have d8:decide (re.op=8)=false:=decide_eq_false (by omega)
 have d9:decide (re.op=9)=false:=decide_eq_false (by omega)
 have d10:decide (re.op=10)=false:=decide_eq_false (by omega)
 have d11:decide (re.op=11)=true:=decide_eq_true ho
 unfold cW at aH
 unfold dH cW fm
 simp only[i64,bV,iD,Vt]at aH
 unfold dH cW fm at hc
 simp only[i64,bV]at hc
 have hh:=xp re.n t i ht hi0 eK
 rw[hb]at hh
 simp only[i64,bV]at hh
 refine av Try.func99 rfl Try.ntmps99 Try.results99 rfl 1 130370302485407109521180524058200202307293977194619920040712988758680403184925606790312229919 (by simp) (by simp) ?_
 simp only[zX,simprocAttr,i64,bV,Goal.aN,iD,bD,d4,d1,d2,d3,d5,d6,d7,d8,d9,d10,d11]
 refine au aH rfl rfl rfl rfl rfl rfl ?_
 simp only[zX,simprocAttr,i64,bV,iD,bD,Vs,d4,d1,d2,d3,d5,d6,d7,d8,d9,d10,d11]
 refine an mix [] [] (by rfl) ?_
 simp only[zX,simprocAttr,i64,bV,iD,bD]
 refine cz hh rfl rfl ?_
 simp only[zX,simprocAttr,i64,bV,iD,bD]
 refine au hc rfl rfl rfl rfl rfl rfl ?_
 simp only[zX,simprocAttr,i64,bV,iD,bD]
theorem HZ (ho:re.op=11) (he:st.empty=false) (h0:0≤st.steps) (h1:st.steps≤10000000000000) (hs:(st.step F).empty=false) (ht:t.length≤1000000) (hi0:0≤i) (eK:i≤t.length) (hb:bN re.n t i=false) :
  dH g0 t F 99 (Goal.mk kind re k bO next).d i c n st o d (st.step F) d n 0 []:=by
 have aH:=b6 g0 t F st o d he h0 h1
 rw[hs]at aH
 generalize st.step F=s1 at *
 have d4:decide (re.op=4)=false:=decide_eq_false (by omega)
 have d1:decide (re.op=1)=false:=decide_eq_false (by omega)
 have d2:decide (re.op=2)=false:=decide_eq_false (by omega)
 have d3:decide (re.op=3)=false:=decide_eq_false (by omega)
 have d5:decide (re.op=5)=false:=decide_eq_false (by omega)
 have d6:decide (re.op=6)=false:=decide_eq_false (by omega)
 have d7:decide (re.op=7)=false:=decide_eq_false (by omega)
 have d8:decide (re.op=8)=false:=decide_eq_false (by omega)
 have d9:decide (re.op=9)=false:=decide_eq_false (by omega)
 have d10:decide (re.op=10)=false:=decide_eq_false (by omega)
 have d11:decide (re.op=11)=true:=decide_eq_true ho
 unfold cW at aH
 unfold dH cW fm
 simp only[i64,bV,iD,Vt]at aH
 have hh:=xp re.n t i ht hi0 eK
 rw[hb]at hh
 simp only[i64,bV]at hh
 refine av Try.func99 rfl Try.ntmps99 Try.results99 rfl 1 130370302485407109521180524058200202307293977194619920040712988758680403184925606790312229919 (by simp) (by simp) ?_
 simp only[zX,simprocAttr,i64,bV,Goal.aN,iD,bD,d4,d1,d2,d3,d5,d6,d7,d8,d9,d10,d11]
 refine au aH rfl rfl rfl rfl rfl rfl ?_
 simp only[zX,simprocAttr,i64,bV,iD,bD,Vs,d4,d1,d2,d3,d5,d6,d7,d8,d9,d10,d11]
 refine an mix [] [] (by rfl) ?_
 simp only[zX,simprocAttr,i64,bV,iD,bD]
 refine cz hh rfl rfl ?_
 simp only[zX,simprocAttr,i64,bV,iD,bD,bd,VO]
theorem Lx (ho:re.op=5) (he:st.empty=false) (h0:0≤st.steps) (h1:st.steps≤10000000000000) (hs:(st.step F).empty=false) {kid:Re}{lk:List Re} (bH:re.kids=kid::lk)
  (hc:dH g0 t F 56 (Goal.mk 0 kid 0 0 (.mk 3 re 0 i next)).d i c n (st.step F) o d st' d' w e l) :
  dH g0 t F 99 (Goal.mk kind re k bO next).d i c n st o d st' d' w e l:=by
 have aH:=b6 g0 t F st o d he h0 h1
 rw[hs]at aH
 generalize st.step F=s1 at *
 have d4:decide (re.op=4)=false:=decide_eq_false (by omega)
 have d1:decide (re.op=1)=false:=decide_eq_false (by omega)
 have d2:decide (re.op=2)=false:=decide_eq_false (by omega)
 have d3:decide (re.op=3)=false:=decide_eq_false (by omega)
 have d5:decide (re.op=5)=true:=decide_eq_true ho
 unfold cW at aH
 unfold dH cW fm
 simp only[i64,bV,iD,Vt]at aH
 have dL:re.kids[0]?=some kid:=by rw[bH];rfl
 have dg:(0:Int)<(re.kids.length:Int):=by rw[bH,VC];omega
 have mZ:Goal.nil.d=.sc (.pointer none):=rfl
 unfold dH cW fm at hc
 simp only[i64,bV]at hc
 simp only[Goal.aN,iD,bD]at hc
 refine av Try.func99 rfl Try.ntmps99 Try.results99 rfl 1 130370302485407109521180524058200202307293977194619920040712988758680403184925606790312229919 (by simp) (by simp) ?_
 simp only[zX,simprocAttr,i64,bV,Goal.aN,iD,bD,d4,d1,d2,d3,d5]
 refine au aH rfl rfl rfl rfl rfl rfl ?_
 simp only[zX,simprocAttr,i64,bV,iD,bD,Vs,d4,d1,d2,d3,d5]
 refine aK (bL.trans bL.aV bL.aV) ?_
 refine an mix [18,22] [(12,[3],[3]),(14,[4],[4])] (by rfl) ?_
 simp only[zX,simprocAttr,i64,bV,iD,bD,hole,dL,dg,aw kid,Re.ae kid]
 refine bn (aP [3,4] (by simp [bk,bA,aZ.go,aZ,bQ]) (au hc rfl rfl rfl rfl rfl rfl ⟨rfl,rfl⟩)) ?_
 simp only[zX,simprocAttr,i64,bV,iD,bD]
end node
end Go.Proofs.Ytllagoeijcjpiaa
