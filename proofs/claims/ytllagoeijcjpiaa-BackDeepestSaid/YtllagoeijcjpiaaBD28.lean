/- A part of the proof (H14). -/
import Derived.Test.YtllagoeijcjpiaaBD27
set_option linter.unusedSimpArgs false
set_option linter.unusedVariables false
set_option maxRecDepth 100000
set_option maxHeartbeats 80000000
namespace Go.Proofs.Ytllagoeijcjpiaa
open Go.VL
def su (g0:Nat) (t:List Int) (F:Int) (gd hd:D) (i:Int) (c:aq) (n:Int) (st:aU) (o d:Int) (st':aU) (d' w e:Int) (l:aq):Prop :=
 az Try.prog 124 [.rf 0 g0 0 0,.d gd,.d hd,i64 i,.d (bd c),i64 n] [cW g0 t F st o d] fun v s=>v=.tu [i64 w,fm e l]∧s=[cW g0 t F st' o d']
section rep
variable {g0:Nat}{t:List Int}{F:Int}{kind:Int}{re:Re}{k bO:Int}{next:Goal}{i:Int}{c:aq}{n:Int}{st st' s2:aU}{o d d' d2 w e wl el:Int}{l ll:aq}
theorem EF (re:Re):(Goal.mk 1 (re.bP 0) 0 0 .nil).d=.el [iD 1,iD re.op,.sl (re.set.map aM),.sl (re.kids.map Re.cells),iD re.mn,iD re.mx,iD 0,iD re.n,bD re.neg,iD 0,iD 0,.sc (.pointer none)]:=by
 rw[Goal.aN];rfl
theorem DN (hm:re.mode=2) (sC:gy g0 t F (Goal.mk 1 (re.bP 0) 0 0 .nil).d i c st s2 o d d2 wl el ll) (hw:decide (wl>0)=true) :
  dH g0 t F 98 (Goal.mk kind re k bO next).d i c n st o d s2 d2 n 0 []:=by
 have dm:decide (re.mode=2)=true:=decide_eq_true hm
 unfold gy cW fm at sC
 unfold dH cW fm
 simp only[EF,i64,bV,iD,bD]at sC
 refine av Try.func98 rfl Try.ntmps98 Try.results98 rfl 1 130079 (by simp) (by simp) ?_
 simp only[zX,simprocAttr,i64,bV,Goal.aN,iD,bD,dm]
 refine aP [3] (by simp [bk,bA,aZ.go,aZ,bQ]) (au sC rfl rfl rfl rfl rfl rfl ?_)
 simp only[zX,simprocAttr,i64,bV,iD,bD,hw,bd,VO]
theorem Hm (hm:re.mode=2) (sC:gy g0 t F (Goal.mk 1 (re.bP 0) 0 0 .nil).d i c st s2 o d d2 wl el ll) (hx:s2.empty=true) (hw:decide (wl>0)=false) :
  dH g0 t F 98 (Goal.mk kind re k bO next).d i c n st o d s2 d2 n 0 []:=by
 have dm:decide (re.mode=2)=true:=decide_eq_true hm
 unfold gy cW fm at sC
 unfold dH cW fm
 simp only[EF,i64,bV,iD,bD,hx]at sC
 refine av Try.func98 rfl Try.ntmps98 Try.results98 rfl 1 130079 (by simp) (by simp) ?_
 simp only[zX,simprocAttr,i64,bV,Goal.aN,iD,bD,dm]
 refine aP [3] (by simp [bk,bA,aZ.go,aZ,bQ]) (au sC rfl rfl rfl rfl rfl rfl ?_)
 simp only[zX,simprocAttr,i64,bV,iD,bD,hx,hw,bd,VO]
theorem Jd (hm:re.mode=2) (sC:gy g0 t F (Goal.mk 1 (re.bP 0) 0 0 .nil).d i c st s2 o d d2 wl el ll) (hx:s2.empty=false) (hw:decide (wl>0)=false) (hc:dH g0 t F 56 next.d el ll n s2 o d2 st' d' w e l) :
  dH g0 t F 98 (Goal.mk kind re k bO next).d i c n st o d st' d' w e l:=by
 have dm:decide (re.mode=2)=true:=decide_eq_true hm
 unfold gy cW fm at sC
 unfold dH cW fm at hc ⊢
 simp only[EF,i64,bV,iD,bD,hx]at sC hc
 refine av Try.func98 rfl Try.ntmps98 Try.results98 rfl 1 130079 (by simp) (by simp) ?_
 simp only[zX,simprocAttr,i64,bV,Goal.aN,iD,bD,dm]
 refine aP [3] (by simp [bk,bA,aZ.go,aZ,bQ]) (au sC rfl rfl rfl rfl rfl rfl ?_)
 simp only[zX,simprocAttr,i64,bV,iD,bD,hx,hw]
 refine an mix [10,14] [] (by rfl) ?_
 simp only[zX,simprocAttr,i64,bV,iD,bD]
 refine bn (au hc rfl rfl rfl rfl rfl rfl ⟨rfl,rfl⟩) ?_
 simp only[zX,simprocAttr,i64,bV,iD,bD]
theorem Jx (hm:re.mode≠2) (he:st.empty=false) (h0:0≤st.steps) (h1:st.steps≤10000000000000) (hs:(st.step F).empty=true) :
  dH g0 t F 98 (Goal.mk kind re k bO next).d i c n st o d (st.step F) d 0 0 []:=by
 have dm:decide (re.mode=2)=false:=decide_eq_false hm
 have aH:=b6 g0 t F st o d he h0 h1
 rw[hs]at aH
 generalize st.step F=s1 at *
 unfold cW at aH
 unfold dH cW fm
 simp only[i64,bV,iD,Vs]at aH
 refine av Try.func98 rfl Try.ntmps98 Try.results98 rfl 1 130079 (by simp) (by simp) ?_
 simp only[zX,simprocAttr,i64,bV,Goal.aN,iD,bD,dm]
 refine au aH rfl rfl rfl rfl rfl rfl ?_
 simp only[zX,simprocAttr,i64,bV,iD,bD,Vt,bd,VO]
section step
variable (hm:re.mode≠2) (he:st.empty=false) (h0:0≤st.steps) (h1:st.steps≤10000000000000) (hs:(st.step F).empty=false) {kid:Re}{lk:List Re} (bH:re.kids=kid::lk)
include hm he h0 h1 hs bH
theorem Kw (hk:k<re.mn) (hc:dH g0 t F 56 (Goal.mk 0 kid 0 0 (.mk 2 re k i next)).d i c n (st.step F) o d st' d' w e l) :
  dH g0 t F 98 (Goal.mk kind re k bO next).d i c n st o d st' d' w e l:=by
 have dm:decide (re.mode=2)=false:=decide_eq_false hm
 have aH:=b6 g0 t F st o d he h0 h1
 rw[hs]at aH
 have dL:re.kids[0]?=some kid:=by rw[bH];rfl
 have dg:(0:Int)<(re.kids.length:Int):=by rw[bH,VC];omega
 clear bH
 generalize st.step F=s1 at *
 unfold cW at aH
 unfold dH cW fm at hc ⊢
 simp only[i64,bV,iD,bD,Goal.aN,Vt]at aH hc
 refine av Try.func98 rfl Try.ntmps98 Try.results98 rfl 1 130079 (by simp) (by simp) ?_
 simp only[zX,simprocAttr,i64,bV,Goal.aN,iD,bD,dm]
 refine au aH rfl rfl rfl rfl rfl rfl ?_
 simp only[zX,simprocAttr,i64,bV,iD,bD,Vs]
 refine aK (bL.trans bL.aV bL.aV) ?_
 refine an mix [] [(15,[3],[3]),(17,[4],[4])] (by rfl) ?_
 simp only[zX,simprocAttr,i64,bV,iD,bD,hole,dL,dg,aw kid,Re.ae kid]
 refine an mix [] [] (by rfl) ?_
 simp only[zX,simprocAttr,i64,bV,iD,bD,hk]
 refine aP [3,4] (by simp [bk,bA,aZ.go,aZ,bQ]) (au hc rfl rfl rfl rfl rfl rfl ?_)
 simp only[zX,simprocAttr,i64,bV,iD,bD]
theorem I5 (hk:¬k<re.mn) (Rr:0≤re.mx) (P0:re.mx≤k) (hc:dH g0 t F 56 next.d i c n (st.step F) o d st' d' w e l) :
  dH g0 t F 98 (Goal.mk kind re k bO next).d i c n st o d st' d' w e l:=by
 have dm:decide (re.mode=2)=false:=decide_eq_false hm
 have aH:=b6 g0 t F st o d he h0 h1
 rw[hs]at aH
 have dL:re.kids[0]?=some kid:=by rw[bH];rfl
 have dg:(0:Int)<(re.kids.length:Int):=by rw[bH,VC];omega
 clear bH
 generalize st.step F=s1 at *
 unfold cW at aH
 unfold dH cW fm at hc ⊢
 simp only[i64,bV,iD,bD,Vt]at aH hc
 refine av Try.func98 rfl Try.ntmps98 Try.results98 rfl 1 130079 (by simp) (by simp) ?_
 simp only[zX,simprocAttr,i64,bV,Goal.aN,iD,bD,dm]
 refine au aH rfl rfl rfl rfl rfl rfl ?_
 simp only[zX,simprocAttr,i64,bV,iD,bD,Vs]
 refine aK (bL.trans bL.aV bL.aV) ?_
 refine an mix [] [(15,[3],[3]),(17,[4],[4])] (by rfl) ?_
 simp only[zX,simprocAttr,i64,bV,iD,bD,hole,dL,dg,aw kid,Re.ae kid]
 refine an mix [] [] (by rfl) ?_
 simp only[zX,simprocAttr,i64,bV,iD,bD,hk]
 refine an mix [] [] (by rfl) ?_
 simp only[zX,simprocAttr,i64,bV,iD,bD,decide_eq_true (show re.mx ≥ 0 from Rr),decide_eq_true (show k ≥ re.mx from P0)]
 refine au hc rfl rfl rfl rfl rfl rfl ?_
 simp only[zX,simprocAttr,i64,bV,iD,bD]
theorem zB (ly:re.mode=1) (hk:¬k<re.mn) (hx:re.mx<0∨k<re.mx) (hc:su g0 t F next.d (Goal.mk 0 kid 0 0 (.mk 2 re k i next)).d i c n (st.step F) o d st' d' w e l) :
  dH g0 t F 98 (Goal.mk kind re k bO next).d i c n st o d st' d' w e l:=by
 have dm:decide (re.mode=2)=false:=decide_eq_false hm
 have O5:decide (re.mode=1)=true:=decide_eq_true ly
 have aH:=b6 g0 t F st o d he h0 h1
 rw[hs]at aH
 have dL:re.kids[0]?=some kid:=by rw[bH];rfl
 have dg:(0:Int)<(re.kids.length:Int):=by rw[bH,VC];omega
 clear bH
 generalize st.step F=s1 at *
 unfold cW at aH
 unfold su cW fm at hc
 unfold dH cW fm
 simp only[i64,bV,iD,bD,Goal.aN,Vt]at aH hc
 have dG:decide (re.mx ≥ 0)=false∨(decide (re.mx ≥ 0)=true∧decide (k ≥ re.mx)=false):=by
  by_cases h:re.mx ≥ 0
  ·exact .inr ⟨decide_eq_true h,decide_eq_false (by omega)⟩
  ·exact .inl (decide_eq_false h)
 rcases dG with dx|⟨dx,dk⟩
 ·refine av Try.func98 rfl Try.ntmps98 Try.results98 rfl 1 130079 (by simp) (by simp) ?_
  simp only[zX,simprocAttr,i64,bV,Goal.aN,iD,bD,dm]
  refine au aH rfl rfl rfl rfl rfl rfl ?_
  simp only[zX,simprocAttr,i64,bV,iD,bD,Vs]
  refine aK (bL.trans bL.aV bL.aV) ?_
  refine an mix [] [(15,[3],[3]),(17,[4],[4])] (by rfl) ?_
  simp only[zX,simprocAttr,i64,bV,iD,bD,hole,dL,dg,aw kid,Re.ae kid]
  refine an mix [] [] (by rfl) ?_
  simp only[zX,simprocAttr,i64,bV,iD,bD,hk]
  refine an mix [] [] (by rfl) ?_
  simp only[zX,simprocAttr,i64,bV,iD,bD,dx,O5]
  refine aP [3,4] (by simp [bk,bA,aZ.go,aZ,bQ]) (au hc rfl rfl rfl rfl rfl rfl ?_)
  simp only[zX,simprocAttr,i64,bV,iD,bD]
 ·refine av Try.func98 rfl Try.ntmps98 Try.results98 rfl 1 130079 (by simp) (by simp) ?_
  simp only[zX,simprocAttr,i64,bV,Goal.aN,iD,bD,dm]
  refine au aH rfl rfl rfl rfl rfl rfl ?_
  simp only[zX,simprocAttr,i64,bV,iD,bD,Vs]
  refine aK (bL.trans bL.aV bL.aV) ?_
  refine an mix [] [(15,[3],[3]),(17,[4],[4])] (by rfl) ?_
  simp only[zX,simprocAttr,i64,bV,iD,bD,hole,dL,dg,aw kid,Re.ae kid]
  refine an mix [] [] (by rfl) ?_
  simp only[zX,simprocAttr,i64,bV,iD,bD,hk]
  refine an mix [] [] (by rfl) ?_
  simp only[zX,simprocAttr,i64,bV,iD,bD,dx,dk,O5]
  refine aP [3,4] (by simp [bk,bA,aZ.go,aZ,bQ]) (au hc rfl rfl rfl rfl rfl rfl ?_)
  simp only[zX,simprocAttr,i64,bV,iD,bD]
theorem zR (ly:re.mode≠1) (hk:¬k<re.mn) (hx:re.mx<0∨k<re.mx) (hc:su g0 t F (Goal.mk 0 kid 0 0 (.mk 2 re k i next)).d next.d i c n (st.step F) o d st' d' w e l) :
  dH g0 t F 98 (Goal.mk kind re k bO next).d i c n st o d st' d' w e l:=by
 have dm:decide (re.mode=2)=false:=decide_eq_false hm
 have O5:decide (re.mode=1)=false:=decide_eq_false ly
 have aH:=b6 g0 t F st o d he h0 h1
 rw[hs]at aH
 have dL:re.kids[0]?=some kid:=by rw[bH];rfl
 have dg:(0:Int)<(re.kids.length:Int):=by rw[bH,VC];omega
 clear bH
 generalize st.step F=s1 at *
 unfold cW at aH
 unfold su cW fm at hc
 unfold dH cW fm
 simp only[i64,bV,iD,bD,Goal.aN,Vt]at aH hc
 have dG:decide (re.mx ≥ 0)=false∨(decide (re.mx ≥ 0)=true∧decide (k ≥ re.mx)=false):=by
  by_cases h:re.mx ≥ 0
  ·exact .inr ⟨decide_eq_true h,decide_eq_false (by omega)⟩
  ·exact .inl (decide_eq_false h)
 rcases dG with dx|⟨dx,dk⟩
 ·refine av Try.func98 rfl Try.ntmps98 Try.results98 rfl 1 130079 (by simp) (by simp) ?_
  simp only[zX,simprocAttr,i64,bV,Goal.aN,iD,bD,dm]
  refine au aH rfl rfl rfl rfl rfl rfl ?_
  simp only[zX,simprocAttr,i64,bV,iD,bD,Vs]
  refine aK (bL.trans bL.aV bL.aV) ?_
  refine an mix [] [(15,[3],[3]),(17,[4],[4])] (by rfl) ?_
  simp only[zX,simprocAttr,i64,bV,iD,bD,hole,dL,dg,aw kid,Re.ae kid]
  refine an mix [] [] (by rfl) ?_
  simp only[zX,simprocAttr,i64,bV,iD,bD,hk]
  refine an mix [] [] (by rfl) ?_
  simp only[zX,simprocAttr,i64,bV,iD,bD,dx,O5]
  refine aP [3,4] (by simp [bk,bA,aZ.go,aZ,bQ]) (au hc rfl rfl rfl rfl rfl rfl ?_)
  simp only[zX,simprocAttr,i64,bV,iD,bD]
 ·refine av Try.func98 rfl Try.ntmps98 Try.results98 rfl 1 130079 (by simp) (by simp) ?_
  simp only[zX,simprocAttr,i64,bV,Goal.aN,iD,bD,dm]
  refine au aH rfl rfl rfl rfl rfl rfl ?_
  simp only[zX,simprocAttr,i64,bV,iD,bD,Vs]
  refine aK (bL.trans bL.aV bL.aV) ?_
  refine an mix [] [(15,[3],[3]),(17,[4],[4])] (by rfl) ?_
  simp only[zX,simprocAttr,i64,bV,iD,bD,hole,dL,dg,aw kid,Re.ae kid]
  refine an mix [] [] (by rfl) ?_
  simp only[zX,simprocAttr,i64,bV,iD,bD,hk]
  refine an mix [] [] (by rfl) ?_
  simp only[zX,simprocAttr,i64,bV,iD,bD,dx,dk,O5]
  refine aP [3,4] (by simp [bk,bA,aZ.go,aZ,bQ]) (au hc rfl rfl rfl rfl rfl rfl ?_)
  simp only[zX,simprocAttr,i64,bV,iD,bD]
end step
end rep
end Go.Proofs.Ytllagoeijcjpiaa
