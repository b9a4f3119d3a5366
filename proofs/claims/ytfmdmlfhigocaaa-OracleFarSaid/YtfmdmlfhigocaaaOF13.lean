/- A part of the proof (Vv Vw Vy Da Db G1 F2 F3). -/
import Derived.Test.YtfmdmlfhigocaaaOF8
import Derived.Test.YtfmdmlfhigocaaaOF12
set_option linter.unusedSimpArgs false
set_option linter.unusedVariables false
set_option maxRecDepth 100000
set_option maxHeartbeats 80000000
namespace Go.VL
theorem jc {α β:Type}{A B:α->β->Prop}{e:α}{s:β}{p:Prop} [Decidable p] (h:p->A e s) (k:¬p->B e s):lh (.d (.sc (.bool (decide p)))) A B e s:=by
 rw[vo];exact⟨h,k⟩
theorem fL {α β:Type}{A B:α->β->Prop}{e:α}{s:β}{b:Bool} (h:b=true->A e s) (k:b=false->B e s):lh (.d (.sc (.bool b))) A B e s:=by
 rw[Iv];exact⟨h,k⟩
theorem dj {d:Nat}{A B:Env->Prop}{e:Env}{p:Prop} [Decidable p] (h:p->A (bB e d (.d (.sc (.bool true))))) (k:¬p->B (bB e d (.d (.sc (.bool false))))):dR (.d (.sc (.bool (decide p)))) d true A B e:=by
 rw[v7];exact⟨h,k⟩
theorem di {d:Nat}{A B:Env->Prop}{e:Env}{p:Prop} [Decidable p] (h:p->B (bB e d (.d (.sc (.bool true))))) (k:¬p->A (bB e d (.d (.sc (.bool false))))):dR (.d (.sc (.bool (decide p)))) d false A B e:=by
 rw[ve];exact⟨h,k⟩
theorem cF {d:Nat}{A B:Env->Prop}{e:Env}{p:Prop} [Decidable p] (h:p->B (bB e d (.d (.sc (.bool false))))) (k:¬p->A (bB e d (.d (.sc (.bool true))))):dR (.d (.sc (.bool (!decide p)))) d true A B e:=by
 rw[sW];exact⟨h,k⟩
theorem cE {d:Nat}{A B:Env->Prop}{e:Env}{p:Prop} [Decidable p] (h:p->A (bB e d (.d (.sc (.bool false))))) (k:¬p->B (bB e d (.d (.sc (.bool true))))):dR (.d (.sc (.bool (!decide p)))) d false A B e:=by
 rw[sN];exact⟨h,k⟩
theorem df {d:Nat}{w:Bool}{A B:Env->Prop}{e:Env}{b:Bool} (h:b=true->dR (.d (.sc (.bool true))) d w A B e) (k:b=false->dR (.d (.sc (.bool false))) d w A B e):dR (.d (.sc (.bool b))) d w A B e:=by
 cases b
 ·exact k rfl
 ·exact h rfl
theorem Di {α:Type}{x:α}:(some x).toArray.toList=[x]:=(rfl)
theorem Fa {α:Type}:(none:Option α).toArray.toList=[]:=(rfl)
theorem tz {f:Operand->V}:Option.map f none=none:=(rfl)
theorem AY {d:Int}:xt none d=some d:=(rfl)
theorem Eh {k:IntKind}{n d:Int}:xt (some (.d (.sc (.int k n)))) d=some n:=(rfl)
theorem CC:type_of% (
 And.intro @Di <|
 And.intro @Fa <|
 And.intro @AY <|
 And.intro @Eh <|
 And.intro @tz <|
 And.intro @mM <|
 And.intro @kr <|
 And.intro @mK <|
 And.intro @oT <|
 And.intro @nW <|
 And.intro @lj <|
 And.intro @mN <|
 And.intro @n8 <|
 And.intro @qD <|
 And.intro @qZ <|
 And.intro @qz <|
 And.intro @BI <|
 And.intro @B6 <|
 And.intro @By <|
 And.intro @BG <|
 And.intro @mr <|
 And.intro @rk <|
 And.intro @qB <|
 And.intro @rF <|
 And.intro @qL <|
 And.intro @rE <|
 And.intro @oG <|
 And.intro @mw <|
 And.intro @ry <|
 And.intro @oP <|
 And.intro @mH <|
 And.intro @qK <|
 And.intro @xL <|
 And.intro @xJ <|
 And.intro @tR <|
 And.intro @uG <|
 And.intro @Ca <|
 And.intro @mz <|
 And.intro @tF <|
 And.intro @rh <|
 And.intro @mP <|
 And.intro @uJ <|
 And.intro @qU <|
 And.intro @tY <|
 And.intro @qE <|
 And.intro @mF <|
 And.intro @nU <|
 And.intro @tA <|
 And.intro @ou <|
 And.intro @iK <|
 And.intro @rp <|
 And.intro @lr <|
 And.intro @m6 <|
 And.intro @ju <|
 And.intro @oK <|
 And.intro @uM <|
 And.intro @uN <|
 And.intro @qt <|
 And.intro @lG <|
 And.intro @kx <|
 And.intro @jt <|
 And.intro @oL <|
 And.intro @jq <|
 And.intro @n6 <|
 And.intro @jF <|
 And.intro @oo <|
 And.intro @lI <|
 And.intro @qH <|
 And.intro @qW <|
 And.intro @qs <|
 And.intro @rC <|
 And.intro @qJ <|
 And.intro @uz <|
 And.intro @oF <|
 And.intro @uO <|
 And.intro @qv <|
 And.intro @xP <|
 And.intro @qA <|
 And.intro @jI <|
 And.intro @tM <|
 And.intro @mO <|
 And.intro @oc <|
 And.intro @kk <|
 And.intro @ox <|
 And.intro @qP <|
 And.intro @xF <|
 And.intro @uv <|
 And.intro @tZ <|
 And.intro @tW <|
 And.intro @tH <|
 And.intro @tS <|
 And.intro @ug <|
 And.intro @tO <|
 And.intro @mR <|
 And.intro @lk <|
 And.intro @kj <|
 And.intro @qG <|
 And.intro @ki <|
 And.intro @qF <|
 And.intro @ku <|
 And.intro @qT <|
 And.intro @mZ <|
 And.intro @tX <|
 And.intro @qV <|
 And.intro @xG <|
 And.intro @oN <|
 And.intro @tP <|
 And.intro @qQ <|
 And.intro @xQ <|
 And.intro @xA <|
 And.intro @tL <|
 And.intro @lN <|
 And.intro @ka <|
 And.intro @aL <|
 And.intro @qM <|
 And.intro @uf <|
 And.intro @qS <|
 And.intro @rb <|
 And.intro @qC <|
 And.intro @rA <|
 And.intro @true_and <|
 And.intro @and_true <|
 And.intro @true_or <|
 And.intro @or_true <|
 And.intro @Bool.not_true <|
 And.intro @Bool.not_false <|
 And.intro @false_or <|
 And.intro @or_false <|
 And.intro @decide_eq_true_eq <|
 And.intro @true_imp_iff <|
 And.intro @false_imp_iff <|
 And.intro @not_true_eq_false <|
 And.intro @not_false_eq_true <|
 And.intro @decide_eq_false_iff_not <|
 And.intro @Bool.and_self <|
 And.intro @Bool.or_false <|
 And.intro @Bool.false_or <|
 And.intro @Bool.or_true <|
 And.intro @Bool.true_or <|
 And.intro @Bool.and_true <|
 And.intro @Bool.true_and <|
 And.intro @Int.toNat_natCast <|
 And.intro @Int.ofNat_lt <|
 And.intro @Int.natCast_nonneg <|
 And.intro @decide_true <|
 And.intro @decide_false <|
 And.intro @V.d.injEq <|
 And.intro @D.sc.injEq <|
 And.intro @Go.Value.int.injEq <|
 @Go.Value.bool.injEq) :=
 And.intro @Di <|
 And.intro @Fa <|
 And.intro @AY <|
 And.intro @Eh <|
 And.intro @tz <|
 And.intro @mM <|
 And.intro @kr <|
 And.intro @mK <|
 And.intro @oT <|
 And.intro @nW <|
 And.intro @lj <|
 And.intro @mN <|
 And.intro @n8 <|
 And.intro @qD <|
 And.intro @qZ <|
 And.intro @qz <|
 And.intro @BI <|
 And.intro @B6 <|
 And.intro @By <|
 And.intro @BG <|
 And.intro @mr <|
 And.intro @rk <|
 And.intro @qB <|
 And.intro @rF <|
 And.intro @qL <|
 And.intro @rE <|
 And.intro @oG <|
 And.intro @mw <|
 And.intro @ry <|
 And.intro @oP <|
 And.intro @mH <|
 And.intro @qK <|
 And.intro @xL <|
 And.intro @xJ <|
 And.intro @tR <|
 And.intro @uG <|
 And.intro @Ca <|
 And.intro @mz <|
 And.intro @tF <|
 And.intro @rh <|
 And.intro @mP <|
 And.intro @uJ <|
 And.intro @qU <|
 And.intro @tY <|
 And.intro @qE <|
 And.intro @mF <|
 And.intro @nU <|
 And.intro @tA <|
 And.intro @ou <|
 And.intro @iK <|
 And.intro @rp <|
 And.intro @lr <|
 And.intro @m6 <|
 And.intro @ju <|
 And.intro @oK <|
 And.intro @uM <|
 And.intro @uN <|
 And.intro @qt <|
 And.intro @lG <|
 And.intro @kx <|
 And.intro @jt <|
 And.intro @oL <|
 And.intro @jq <|
 And.intro @n6 <|
 And.intro @jF <|
 And.intro @oo <|
 And.intro @lI <|
 And.intro @qH <|
 And.intro @qW <|
 And.intro @qs <|
 And.intro @rC <|
 And.intro @qJ <|
 And.intro @uz <|
 And.intro @oF <|
 And.intro @uO <|
 And.intro @qv <|
 And.intro @xP <|
 And.intro @qA <|
 And.intro @jI <|
 And.intro @tM <|
 And.intro @mO <|
 And.intro @oc <|
 And.intro @kk <|
 And.intro @ox <|
 And.intro @qP <|
 And.intro @xF <|
 And.intro @uv <|
 And.intro @tZ <|
 And.intro @tW <|
 And.intro @tH <|
 And.intro @tS <|
 And.intro @ug <|
 And.intro @tO <|
 And.intro @mR <|
 And.intro @lk <|
 And.intro @kj <|
 And.intro @qG <|
 And.intro @ki <|
 And.intro @qF <|
 And.intro @ku <|
 And.intro @qT <|
 And.intro @mZ <|
 And.intro @tX <|
 And.intro @qV <|
 And.intro @xG <|
 And.intro @oN <|
 And.intro @tP <|
 And.intro @qQ <|
 And.intro @xQ <|
 And.intro @xA <|
 And.intro @tL <|
 And.intro @lN <|
 And.intro @ka <|
 And.intro @aL <|
 And.intro @qM <|
 And.intro @uf <|
 And.intro @qS <|
 And.intro @rb <|
 And.intro @qC <|
 And.intro @rA <|
 And.intro @true_and <|
 And.intro @and_true <|
 And.intro @true_or <|
 And.intro @or_true <|
 And.intro @Bool.not_true <|
 And.intro @Bool.not_false <|
 And.intro @false_or <|
 And.intro @or_false <|
 And.intro @decide_eq_true_eq <|
 And.intro @true_imp_iff <|
 And.intro @false_imp_iff <|
 And.intro @not_true_eq_false <|
 And.intro @not_false_eq_true <|
 And.intro @decide_eq_false_iff_not <|
 And.intro @Bool.and_self <|
 And.intro @Bool.or_false <|
 And.intro @Bool.false_or <|
 And.intro @Bool.or_true <|
 And.intro @Bool.true_or <|
 And.intro @Bool.and_true <|
 And.intro @Bool.true_and <|
 And.intro @Int.toNat_natCast <|
 And.intro @Int.ofNat_lt <|
 And.intro @Int.natCast_nonneg <|
 And.intro @decide_true <|
 And.intro @decide_false <|
 And.intro @V.d.injEq <|
 And.intro @D.sc.injEq <|
 And.intro @Go.Value.int.injEq <|
 @Go.Value.bool.injEq
def Acc (base:List Obj) (sz:Nat) (v:V) (s:List Obj) (l:List (List D)):Prop :=
 (v=.fu l/\s=base)\/∃g,v=.so base.length g 0 l.length/\s=base++[⟨g,true,sz,l.map (·.map .d)⟩]
theorem Acc.append {P:Program}{t et:TypeId}{i:Kh}{base:List Obj}{sz:Nat}{v:V}{s:List Obj}{l ns:List (List D)}{K:V->List Obj->Prop} (ha:Acc base sz v s l) (ht:gm P t=some (et,i)) (hz:i.sz=sz) (h0:0<sz) (hb:0<i.yW)
  (hl:∀e∈l,e.length=sz) (hn:∀e∈ns,e.length=sz) (eF:0<ns.length) (fo:(l.length+ns.length)*i.yW<=140737488355328) (hk:∀v' s',Acc base sz v' s' (l++ns)->K v' s'):cP P t v (.fu ns) s K:=by
 subst hz
 have Yd:∀e∈ns.map (fun (e:List D)=>e.map V.d),e.length=i.sz:=by
  intro e he
  obtain⟨d,hd,rfl⟩:=List.mem_map.1 he
  simpa using hn d hd
 unfold cP
 simp only[ht,fV]
 refine⟨⟨Yd,h0,hb⟩,?_⟩
 rcases ha with ⟨rfl,rfl⟩|⟨g,rfl,rfl⟩
 ·simp only
  refine⟨⟨.inr (by simpa using eF),by simpa using fo,hl⟩,?_⟩
  have:=hk (.so s.length 0 0 (l++ns).length) (s++[⟨0,true,i.sz,(l++ns).map (·.map .d)⟩]) (.inr ⟨0,rfl,rfl⟩)
  simpa [List.map_append]using this
 ·simp only[rj]
  rw[List.getElem?_append_right (Nat.le_refl _),Nat.sub_self]
  simp only[List.getElem?_cons_zero,true_and]
  refine⟨⟨by simp,by simpa using fo⟩,?_⟩
  have:=hk (.so base.length (g+1) 0 (l++ns).length) (base++[⟨g+1,true,i.sz,(l++ns).map (·.map .d)⟩]) (.inr ⟨g+1,rfl,rfl⟩)
  have he:((l.map (fun (e:List D)=>e.map V.d)).take l.length)=l.map (fun (e:List D)=>e.map V.d):=List.take_of_length_le (by simp)
  simp only[List.drop_zero,List.length_map,he]
  rw[List.set_append_right _ _ (Nat.le_refl _),Nat.sub_self]
  simpa [List.map_append]using this
theorem Ai (f:V->Option D) (hf:∀x,f (.d x)=some x):∀l:List (List D),((l.map fun c=>c.map V.d).mapM fun (e:List V)=>e.mapM f)=some l
 |[]=>rfl
 |c::l=>by
  have h1:∀c:List D,(c.map V.d).mapM f=some c:=by
   intro c
   induction c with
   |nil=>rfl
   |cons x c ih=>rw[List.map_cons,List.mapM_cons,hf,ih];rfl
  rw[List.map_cons,List.mapM_cons,h1,Ai f hf l];rfl
theorem Acc.RB {base:List Obj}{sz:Nat}{v:V}{s:List Obj}{l:List (List D)}{lim:Nat} (ha:Acc base sz v s l) (h:lim<=base.length):bh lim s v=some (.d (.sl l)):=by
 rcases ha with ⟨rfl,rfl⟩|⟨g,rfl,rfl⟩
 ·rfl
 ·simp only[bh,cA]
  rw[List.getElem?_append_right (Nat.le_refl _),Nat.sub_self]
  simp only[List.getElem?_cons_zero,true_and]
  rw[if_pos ⟨by simp,.inl h⟩]
  have he:((l.map (fun (e:List D)=>e.map V.d)).take l.length)=l.map (fun (e:List D)=>e.map V.d):=List.take_of_length_le (by simp)
  rw[List.drop_zero,he,Ai _ (fun x=>rfl) l]
  rfl
theorem Acc.get {base:List Obj}{sz:Nat}{v:V}{s:List Obj}{l:List (List D)} (ha:Acc base sz v s l) {id:Nat}{o:Obj} (h:base[id]?=some o):s[id]?=some o:=by
 rcases ha with ⟨rfl,rfl⟩|⟨g,rfl,rfl⟩
 ·exact h
 ·rw[List.getElem?_append_left (List.getElem?_eq_some_iff.1 h).1];exact h
theorem Ec {e:Env}{d t:Nat}{v:V}:bB e d v t=if t=d then v else e t:=(rfl)
theorem zL:type_of% (
 And.intro @eq_self.{1} <|
 And.intro @hole.eq_1 <|
 And.intro @eg.eq_1 <|
 And.intro @jR.eq_1 <|
 And.intro @fC.eq_1 <|
 And.intro @fC.eq_2 <|
 And.intro @Cl.eq_1 <|
 And.intro @Cl.eq_2 <|
 And.intro @Cd.eq_1 <|
 And.intro @MZ.eq_1 <|
 And.intro @JD.eq_1 <|
 And.intro @oQ.eq_1 <|
 And.intro @KN.eq_1 <|
 And.intro @LH.eq_1 <|
 And.intro @KU.eq_1 <|
 And.intro @eJ.eq_1 <|
 And.intro @eJ.eq_2 <|
 And.intro @eJ.eq_3 <|
 And.intro @eJ.eq_4 <|
 And.intro @eJ.eq_5 <|
 And.intro @Go.Op.operands.eq_1 <|
 And.intro @Go.Op.operands.eq_2 <|
 And.intro @Go.Op.operands.eq_3 <|
 And.intro @Go.Op.operands.eq_4 <|
 And.intro @Go.Op.operands.eq_5 <|
 And.intro @Go.Op.operands.eq_6 <|
 And.intro @Go.Op.operands.eq_7 <|
 And.intro @Go.Op.operands.eq_8 <|
 And.intro @Go.Op.operands.eq_9 <|
 And.intro @Go.Op.operands.eq_10 <|
 And.intro @Go.Op.operands.eq_11 <|
 And.intro @Go.Op.operands.eq_12 <|
 And.intro @Go.Op.operands.eq_13 <|
 And.intro @Go.Op.operands.eq_14 <|
 And.intro @Go.Op.operands.eq_15 <|
 And.intro @Go.Op.operands.eq_16 <|
 And.intro @Go.Op.operands.eq_17 <|
 And.intro @Go.Op.operands.eq_18 <|
 And.intro @Go.Op.operands.eq_19 <|
 And.intro @Go.Op.operands.eq_20 <|
 And.intro @Go.Op.operands.eq_21 <|
 And.intro @Go.Op.operands.eq_22 <|
 And.intro @Go.Op.operands.eq_23 <|
 And.intro @Go.Op.operands.eq_24 <|
 And.intro @Go.Op.operands.eq_25 <|
 And.intro @Go.Op.operands.eq_26 <|
 And.intro @Go.Op.operands.eq_27 <|
 And.intro @Go.Op.operands.eq_28 <|
 And.intro @Go.Op.operands.eq_29 <|
 And.intro @Go.Op.operands.eq_30 <|
 And.intro @Go.Op.operands.eq_31 <|
 And.intro @Go.Op.operands.eq_32 <|
 And.intro @Go.Op.operands.eq_33 <|
 And.intro @Go.Op.operands.eq_34 <|
 And.intro @Go.Op.operands.eq_35 <|
 And.intro @Go.Op.operands.eq_36 <|
 And.intro @Go.Op.operands.eq_37 <|
 And.intro @Go.Op.operands.eq_38 <|
 And.intro @Go.Op.operands.eq_39 <|
 And.intro @Go.Op.operands.eq_40 <|
 And.intro @Go.Op.operands.eq_41 <|
 And.intro @Go.Op.operands.eq_42 <|
 And.intro @Go.Op.operands.eq_43 <|
 And.intro @Go.Call.operands.eq_1 <|
 And.intro @Array.toList_append.{0} <|
 And.intro @dv.eq_1 <|
 And.intro @dv.eq_2 <|
 And.intro @dv.eq_3 <|
 And.intro @dv.eq_4 <|
 And.intro @dv.eq_5 <|
 And.intro @dv.eq_6 <|
 And.intro @dv.eq_7 <|
 And.intro @xn.eq_1 <|
 And.intro @xn.eq_2 <|
 And.intro @xn.eq_3 <|
 And.intro @jV.eq_1 <|
 And.intro @dz.eq_1 <|
 And.intro @dz.eq_2 <|
 And.intro @gp.eq_1 <|
 And.intro @gp.eq_2 <|
 And.intro @Ec <|
 And.intro @ev.eq_1 <|
 And.intro @ev.eq_2 <|
 And.intro @ev.eq_3 <|
 And.intro @ev.eq_4 <|
 And.intro @O0.eq_1 <|
 And.intro @O0.eq_2 <|
 And.intro @cv.eq_1 <|
 And.intro @cv.eq_2 <|
 And.intro @cv.eq_3 <|
 And.intro @cv.eq_4 <|
 And.intro @na.eq_1 <|
 And.intro @mv.eq_1 <|
 And.intro @mv.eq_2 <|
 And.intro @mv.eq_3 <|
 And.intro @oI.eq_1 <|
 And.intro @oI.eq_2 <|
 And.intro @cN.eq_1 <|
 And.intro @cN.eq_2 <|
 And.intro @cN.eq_3 <|
 And.intro @cN.eq_4 <|
 And.intro @cN.eq_5 <|
 And.intro @cN.eq_6 <|
 And.intro @cN.eq_7 <|
 And.intro @cN.eq_8 <|
 And.intro @cN.eq_9 <|
 And.intro @cN.eq_10 <|
 And.intro @cN.eq_11 <|
 And.intro @cN.eq_12 <|
 And.intro @dX.eq_1 <|
 And.intro @dX.eq_2 <|
 And.intro @dX.eq_3 <|
 And.intro @dX.eq_4 <|
 And.intro @dX.eq_5 <|
 And.intro @dX.eq_6 <|
 And.intro @dX.eq_7 <|
 And.intro @dX.eq_8 <|
 And.intro @dX.eq_9 <|
 And.intro @dX.eq_10 <|
 And.intro @dX.eq_11 <|
 And.intro @dX.eq_12 <|
 And.intro @dX.eq_13 <|
 And.intro @dX.eq_14 <|
 And.intro @dX.eq_15 <|
 And.intro @xm.eq_1 <|
 And.intro @xm.eq_2 <|
 And.intro @xm.eq_3 <|
 And.intro @ic.eq_1 <|
 And.intro @ic.eq_2 <|
 And.intro @ic.eq_3 <|
 And.intro @ic.eq_4 <|
 And.intro @ic.eq_5 <|
 And.intro @ic.eq_6 <|
 And.intro @yz.eq_1 <|
 And.intro @Cp.eq_1 <|
 And.intro @Cp.eq_2 <|
 And.intro @F7.eq_1 <|
 And.intro @F7.eq_2 <|
 And.intro @Ib.eq_1 <|
 And.intro @bh.eq_1 <|
 And.intro @bh.eq_2 <|
 And.intro @bh.eq_3 <|
 And.intro @bh.eq_4 <|
 And.intro @bh.eq_5 <|
 And.intro @bh.eq_6 <|
 And.intro @bh.eq_7 <|
 And.intro @bh.eq_8 <|
 And.intro @bh.eq_9 <|
 And.intro @bh.eq_10 <|
 And.intro @bh.eq_11 <|
 And.intro @bh.eq_12 <|
 And.intro @bh.go.eq_1 <|
 And.intro @bh.go.eq_2 <|
 And.intro @cA.eq_1 <|
 And.intro @cA.eq_2 <|
 And.intro @cA.eq_3 <|
 And.intro @cA.eq_4 <|
 And.intro @cA.eq_5 <|
 And.intro @cA.eq_6 <|
 And.intro @cA.eq_7 <|
 And.intro @cA.eq_8 <|
 And.intro @ie.eq_1 <|
 And.intro @ie.eq_2 <|
 And.intro @ie.eq_3 <|
 And.intro @jJ.eq_1 <|
 And.intro @nd.eq_1 <|
 And.intro @nd.eq_2 <|
 And.intro @nd.eq_3 <|
 And.intro @fK.eq_1 <|
 And.intro @wR.eq_1 <|
 And.intro @mW.eq_1 <|
 And.intro @jG.eq_1 <|
 And.intro @jG.eq_2 <|
 And.intro @jG.eq_3 <|
 And.intro @jG.eq_4 <|
 And.intro @jG.eq_5 <|
 And.intro @c7.eq_1 <|
 And.intro @c7.eq_2 <|
 And.intro @dN.eq_1 <|
 And.intro @kz.eq_1 <|
 And.intro @kz.eq_2 <|
 And.intro @iL.eq_1 <|
 And.intro @iL.eq_2 <|
 And.intro @iL.eq_3 <|
 And.intro @pC.eq_1 <|
 And.intro @OK.eq_1 <|
 And.intro @rj.eq_1 <|
 And.intro @uj.eq_1 <|
 And.intro @uj.eq_2 <|
 And.intro @mG.eq_1 <|
 And.intro @mG.eq_2 <|
 And.intro @mG.eq_3 <|
 And.intro @mG.eq_4 <|
 And.intro @List.map_cons.{0,0} <|
 And.intro @List.map_nil.{0,0} <|
 And.intro @List.toList_toArray.{0} <|
 And.intro @List.getElem?_cons_zero.{0} <|
 And.intro @List.getElem?_cons_succ.{0} <|
 And.intro @List.take_zero.{0} <|
 And.intro @List.all_nil.{0} <|
 And.intro @List.length_cons.{0} <|
 And.intro @List.length_nil.{0} <|
 And.intro @List.drop_zero.{0} <|
 And.intro @List.drop_succ_cons.{0} <|
 And.intro @if_true.{1} <|
 And.intro @if_false.{1} <|
 And.intro @List.nil_append.{0} <|
 And.intro @List.cons_append.{0} <|
 And.intro @ne_eq.{1} <|
 And.intro @mX.eq_1 <|
 And.intro @dK.eq_1 <|
 And.intro @sh.eq_1 <|
 And.intro @sh.eq_2 <|
 And.intro @pU.eq_1 <|
 And.intro @pU.eq_2 <|
 And.intro @qd.eq_1 <|
 And.intro @Il.eq_1 <|
 And.intro @Il.eq_2 <|
 And.intro @Il.eq_3 <|
 And.intro @eV.eq_1 <|
 And.intro @fV.eq_1 <|
 And.intro @fV.eq_2 <|
 And.intro @fV.eq_3 <|
 And.intro @fV.eq_4 <|
 And.intro @aQ.eq_1 <|
 And.intro @ah.eq_1 <|
 And.intro @ah.eq_2 <|
 And.intro @ah.eq_3 <|
 And.intro @ah.eq_4 <|
 And.intro @ah.eq_5 <|
 And.intro @ah.eq_6 <|
 And.intro @ah.eq_7 <|
 And.intro @ah.eq_8 <|
 And.intro @ah.eq_9 <|
 And.intro @ah.eq_10 <|
 And.intro @ah.eq_11 <|
 And.intro @ah.eq_12 <|
 And.intro @ah.go.eq_1 <|
 And.intro @ah.go.eq_2 <|
 And.intro @jw.eq_1 <|
 And.intro @xt.eq_1 <|
 And.intro @xt.eq_2 <|
 And.intro @EW.eq_1 <|
 And.intro @EW.eq_2 <|
 And.intro @nh.eq_1 <|
 And.intro @nh.eq_2 <|
 And.intro @ed.eq_1 <|
 And.intro @ed.eq_2 <|
 And.intro @ed.eq_3 <|
 And.intro @List.replicate.eq_1.{0} <|
 And.intro @List.replicate.eq_2.{0} <|
 And.intro @List.mapM_cons.{0,0,0} <|
 And.intro @List.mapM_nil.{0,0,0} <|
 And.intro @Option.pure_def.{0} <|
 And.intro @Option.bind_eq_bind.{0} <|
 And.intro @Option.bind_some.{0,0} <|
 And.intro @fy.eq_1 <|
 And.intro @List.set_cons_zero.{0} <|
 And.intro @List.set_cons_succ.{0} <|
 And.intro @List.take_succ_cons.{0} <|
 And.intro @List.contains_nil.{0} <|
 And.intro @List.contains_cons.{0} <|
 And.intro @List.flatMap_cons.{0,0} <|
 And.intro @List.flatMap_nil.{0,0} <|
 And.intro @List.all_cons.{0} <|
 And.intro @List.append_nil.{0} <|
 And.intro @List.length_map.{0,0} <|
 And.intro @List.getElem?_map.{0,0} <|
 And.intro @Option.map_some.{0,0} <|
 And.intro @gN.eq_1 <|
 And.intro @si.eq_1 <|
 And.intro @lK.eq_1 <|
 And.intro @g7.eq_1 <|
 And.intro @g7.eq_2 <|
 And.intro @g7.eq_3 <|
 And.intro @g7.eq_4 <|
 And.intro @Go.VL.D6 <|
 And.intro @Go.VL.EA <|
 And.intro @Go.VL.E6 <|
 And.intro @Go.VL.A3 <|
 And.intro @Go.VL.HC <|
 And.intro @Go.VL.Az <|
 And.intro @Go.VL.He <|
 And.intro @Go.VL.HF <|
 And.intro @Go.VL.Ic <|
 And.intro @Go.VL.Mn <|
 And.intro @Go.VL.K9 <|
 And.intro @Go.VL.Ep <|
 And.intro @Go.VL.Bb <|
 And.intro @Go.VL.AL <|
 And.intro @Go.VL.yO <|
 And.intro @Go.VL.Bg <|
 And.intro @Go.VL.Dd <|
 And.intro @Go.VL.Ao <|
 And.intro @Go.VL.Au <|
 And.intro @Go.VL.CD <|
 And.intro @Go.VL.An <|
 And.intro @Go.VL.yH <|
 @jX.eq_1) :=
 And.intro @eq_self.{1} <|
 And.intro @hole.eq_1 <|
 And.intro @eg.eq_1 <|
 And.intro @jR.eq_1 <|
 And.intro @fC.eq_1 <|
 And.intro @fC.eq_2 <|
 And.intro @Cl.eq_1 <|
 And.intro @Cl.eq_2 <|
 And.intro @Cd.eq_1 <|
 And.intro @MZ.eq_1 <|
 And.intro @JD.eq_1 <|
 And.intro @oQ.eq_1 <|
 And.intro @KN.eq_1 <|
 And.intro @LH.eq_1 <|
 And.intro @KU.eq_1 <|
 And.intro @eJ.eq_1 <|
 And.intro @eJ.eq_2 <|
 And.intro @eJ.eq_3 <|
 And.intro @eJ.eq_4 <|
 And.intro @eJ.eq_5 <|
 And.intro @Go.Op.operands.eq_1 <|
 And.intro @Go.Op.operands.eq_2 <|
 And.intro @Go.Op.operands.eq_3 <|
 And.intro @Go.Op.operands.eq_4 <|
 And.intro @Go.Op.operands.eq_5 <|
 And.intro @Go.Op.operands.eq_6 <|
 And.intro @Go.Op.operands.eq_7 <|
 And.intro @Go.Op.operands.eq_8 <|
 And.intro @Go.Op.operands.eq_9 <|
 And.intro @Go.Op.operands.eq_10 <|
 And.intro @Go.Op.operands.eq_11 <|
 And.intro @Go.Op.operands.eq_12 <|
 And.intro @Go.Op.operands.eq_13 <|
 And.intro @Go.Op.operands.eq_14 <|
 And.intro @Go.Op.operands.eq_15 <|
 And.intro @Go.Op.operands.eq_16 <|
 And.intro @Go.Op.operands.eq_17 <|
 And.intro @Go.Op.operands.eq_18 <|
 And.intro @Go.Op.operands.eq_19 <|
 And.intro @Go.Op.operands.eq_20 <|
 And.intro @Go.Op.operands.eq_21 <|
 And.intro @Go.Op.operands.eq_22 <|
 And.intro @Go.Op.operands.eq_23 <|
 And.intro @Go.Op.operands.eq_24 <|
 And.intro @Go.Op.operands.eq_25 <|
 And.intro @Go.Op.operands.eq_26 <|
 And.intro @Go.Op.operands.eq_27 <|
 And.intro @Go.Op.operands.eq_28 <|
 And.intro @Go.Op.operands.eq_29 <|
 And.intro @Go.Op.operands.eq_30 <|
 And.intro @Go.Op.operands.eq_31 <|
 And.intro @Go.Op.operands.eq_32 <|
 And.intro @Go.Op.operands.eq_33 <|
 And.intro @Go.Op.operands.eq_34 <|
 And.intro @Go.Op.operands.eq_35 <|
 And.intro @Go.Op.operands.eq_36 <|
 And.intro @Go.Op.operands.eq_37 <|
 And.intro @Go.Op.operands.eq_38 <|
 And.intro @Go.Op.operands.eq_39 <|
 And.intro @Go.Op.operands.eq_40 <|
 And.intro @Go.Op.operands.eq_41 <|
 And.intro @Go.Op.operands.eq_42 <|
 And.intro @Go.Op.operands.eq_43 <|
 And.intro @Go.Call.operands.eq_1 <|
 And.intro @Array.toList_append.{0} <|
 And.intro @dv.eq_1 <|
 And.intro @dv.eq_2 <|
 And.intro @dv.eq_3 <|
 And.intro @dv.eq_4 <|
 And.intro @dv.eq_5 <|
 And.intro @dv.eq_6 <|
 And.intro @dv.eq_7 <|
 And.intro @xn.eq_1 <|
 And.intro @xn.eq_2 <|
 And.intro @xn.eq_3 <|
 And.intro @jV.eq_1 <|
 And.intro @dz.eq_1 <|
 And.intro @dz.eq_2 <|
 And.intro @gp.eq_1 <|
 And.intro @gp.eq_2 <|
 And.intro @Ec <|
 And.intro @ev.eq_1 <|
 And.intro @ev.eq_2 <|
 And.intro @ev.eq_3 <|
 And.intro @ev.eq_4 <|
 And.intro @O0.eq_1 <|
 And.intro @O0.eq_2 <|
 And.intro @cv.eq_1 <|
 And.intro @cv.eq_2 <|
 And.intro @cv.eq_3 <|
 And.intro @cv.eq_4 <|
 And.intro @na.eq_1 <|
 And.intro @mv.eq_1 <|
 And.intro @mv.eq_2 <|
 And.intro @mv.eq_3 <|
 And.intro @oI.eq_1 <|
 And.intro @oI.eq_2 <|
 And.intro @cN.eq_1 <|
 And.intro @cN.eq_2 <|
 And.intro @cN.eq_3 <|
 And.intro @cN.eq_4 <|
 And.intro @cN.eq_5 <|
 And.intro @cN.eq_6 <|
 And.intro @cN.eq_7 <|
 And.intro @cN.eq_8 <|
 And.intro @cN.eq_9 <|
 And.intro @cN.eq_10 <|
 And.intro @cN.eq_11 <|
 And.intro @cN.eq_12 <|
 And.intro @dX.eq_1 <|
 And.intro @dX.eq_2 <|
 And.intro @dX.eq_3 <|
 And.intro @dX.eq_4 <|
 And.intro @dX.eq_5 <|
 And.intro @dX.eq_6 <|
 And.intro @dX.eq_7 <|
 And.intro @dX.eq_8 <|
 And.intro @dX.eq_9 <|
 And.intro @dX.eq_10 <|
 And.intro @dX.eq_11 <|
 And.intro @dX.eq_12 <|
 And.intro @dX.eq_13 <|
 And.intro @dX.eq_14 <|
 And.intro @dX.eq_15 <|
 And.intro @xm.eq_1 <|
 And.intro @xm.eq_2 <|
 And.intro @xm.eq_3 <|
 And.intro @ic.eq_1 <|
 And.intro @ic.eq_2 <|
 And.intro @ic.eq_3 <|
 And.intro @ic.eq_4 <|
 And.intro @ic.eq_5 <|
 And.intro @ic.eq_6 <|
 And.intro @yz.eq_1 <|
 And.intro @Cp.eq_1 <|
 And.intro @Cp.eq_2 <|
 And.intro @F7.eq_1 <|
 And.intro @F7.eq_2 <|
 And.intro @Ib.eq_1 <|
 And.intro @bh.eq_1 <|
 And.intro @bh.eq_2 <|
 And.intro @bh.eq_3 <|
 And.intro @bh.eq_4 <|
 And.intro @bh.eq_5 <|
 And.intro @bh.eq_6 <|
 And.intro @bh.eq_7 <|
 And.intro @bh.eq_8 <|
 And.intro @bh.eq_9 <|
 And.intro @bh.eq_10 <|
 And.intro @bh.eq_11 <|
 And.intro @bh.eq_12 <|
 And.intro @bh.go.eq_1 <|
 And.intro @bh.go.eq_2 <|
 And.intro @cA.eq_1 <|
 And.intro @cA.eq_2 <|
 And.intro @cA.eq_3 <|
 And.intro @cA.eq_4 <|
 And.intro @cA.eq_5 <|
 And.intro @cA.eq_6 <|
 And.intro @cA.eq_7 <|
 And.intro @cA.eq_8 <|
 And.intro @ie.eq_1 <|
 And.intro @ie.eq_2 <|
 And.intro @ie.eq_3 <|
 And.intro @jJ.eq_1 <|
 And.intro @nd.eq_1 <|
 And.intro @nd.eq_2 <|
 And.intro @nd.eq_3 <|
 And.intro @fK.eq_1 <|
 And.intro @wR.eq_1 <|
 And.intro @mW.eq_1 <|
 And.intro @jG.eq_1 <|
 And.intro @jG.eq_2 <|
 And.intro @jG.eq_3 <|
 And.intro @jG.eq_4 <|
 And.intro @jG.eq_5 <|
 And.intro @c7.eq_1 <|
 And.intro @c7.eq_2 <|
 And.intro @dN.eq_1 <|
 And.intro @kz.eq_1 <|
 And.intro @kz.eq_2 <|
 And.intro @iL.eq_1 <|
 And.intro @iL.eq_2 <|
 And.intro @iL.eq_3 <|
 And.intro @pC.eq_1 <|
 And.intro @OK.eq_1 <|
 And.intro @rj.eq_1 <|
 And.intro @uj.eq_1 <|
 And.intro @uj.eq_2 <|
 And.intro @mG.eq_1 <|
 And.intro @mG.eq_2 <|
 And.intro @mG.eq_3 <|
 And.intro @mG.eq_4 <|
 And.intro @List.map_cons.{0,0} <|
 And.intro @List.map_nil.{0,0} <|
 And.intro @List.toList_toArray.{0} <|
 And.intro @List.getElem?_cons_zero.{0} <|
 And.intro @List.getElem?_cons_succ.{0} <|
 And.intro @List.take_zero.{0} <|
 And.intro @List.all_nil.{0} <|
 And.intro @List.length_cons.{0} <|
 And.intro @List.length_nil.{0} <|
 And.intro @List.drop_zero.{0} <|
 And.intro @List.drop_succ_cons.{0} <|
 And.intro @if_true.{1} <|
 And.intro @if_false.{1} <|
 And.intro @List.nil_append.{0} <|
 And.intro @List.cons_append.{0} <|
 And.intro @ne_eq.{1} <|
 And.intro @mX.eq_1 <|
 And.intro @dK.eq_1 <|
 And.intro @sh.eq_1 <|
 And.intro @sh.eq_2 <|
 And.intro @pU.eq_1 <|
 And.intro @pU.eq_2 <|
 And.intro @qd.eq_1 <|
 And.intro @Il.eq_1 <|
 And.intro @Il.eq_2 <|
 And.intro @Il.eq_3 <|
 And.intro @eV.eq_1 <|
 And.intro @fV.eq_1 <|
 And.intro @fV.eq_2 <|
 And.intro @fV.eq_3 <|
 And.intro @fV.eq_4 <|
 And.intro @aQ.eq_1 <|
 And.intro @ah.eq_1 <|
 And.intro @ah.eq_2 <|
 And.intro @ah.eq_3 <|
 And.intro @ah.eq_4 <|
 And.intro @ah.eq_5 <|
 And.intro @ah.eq_6 <|
 And.intro @ah.eq_7 <|
 And.intro @ah.eq_8 <|
 And.intro @ah.eq_9 <|
 And.intro @ah.eq_10 <|
 And.intro @ah.eq_11 <|
 And.intro @ah.eq_12 <|
 And.intro @ah.go.eq_1 <|
 And.intro @ah.go.eq_2 <|
 And.intro @jw.eq_1 <|
 And.intro @xt.eq_1 <|
 And.intro @xt.eq_2 <|
 And.intro @EW.eq_1 <|
 And.intro @EW.eq_2 <|
 And.intro @nh.eq_1 <|
 And.intro @nh.eq_2 <|
 And.intro @ed.eq_1 <|
 And.intro @ed.eq_2 <|
 And.intro @ed.eq_3 <|
 And.intro @List.replicate.eq_1.{0} <|
 And.intro @List.replicate.eq_2.{0} <|
 And.intro @List.mapM_cons.{0,0,0} <|
 And.intro @List.mapM_nil.{0,0,0} <|
 And.intro @Option.pure_def.{0} <|
 And.intro @Option.bind_eq_bind.{0} <|
 And.intro @Option.bind_some.{0,0} <|
 And.intro @fy.eq_1 <|
 And.intro @List.set_cons_zero.{0} <|
 And.intro @List.set_cons_succ.{0} <|
 And.intro @List.take_succ_cons.{0} <|
 And.intro @List.contains_nil.{0} <|
 And.intro @List.contains_cons.{0} <|
 And.intro @List.flatMap_cons.{0,0} <|
 And.intro @List.flatMap_nil.{0,0} <|
 And.intro @List.all_cons.{0} <|
 And.intro @List.append_nil.{0} <|
 And.intro @List.length_map.{0,0} <|
 And.intro @List.getElem?_map.{0,0} <|
 And.intro @Option.map_some.{0,0} <|
 And.intro @gN.eq_1 <|
 And.intro @si.eq_1 <|
 And.intro @lK.eq_1 <|
 And.intro @g7.eq_1 <|
 And.intro @g7.eq_2 <|
 And.intro @g7.eq_3 <|
 And.intro @g7.eq_4 <|
 And.intro @Go.VL.D6 <|
 And.intro @Go.VL.EA <|
 And.intro @Go.VL.E6 <|
 And.intro @Go.VL.A3 <|
 And.intro @Go.VL.HC <|
 And.intro @Go.VL.Az <|
 And.intro @Go.VL.He <|
 And.intro @Go.VL.HF <|
 And.intro @Go.VL.Ic <|
 And.intro @Go.VL.Mn <|
 And.intro @Go.VL.K9 <|
 And.intro @Go.VL.Ep <|
 And.intro @Go.VL.Bb <|
 And.intro @Go.VL.AL <|
 And.intro @Go.VL.yO <|
 And.intro @Go.VL.Bg <|
 And.intro @Go.VL.Dd <|
 And.intro @Go.VL.Ao <|
 And.intro @Go.VL.Au <|
 And.intro @Go.VL.CD <|
 And.intro @Go.VL.An <|
 And.intro @Go.VL.yH <|
 @jX.eq_1
end Go.VL
namespace Go.Proofs.Ytfmdmlfhigocaaa
open Go.VL Go.Proofs.Try
def iD (n:Int):D:=.sc (.int .i64 n)
def bD (b:Bool):D:=.sc (.bool b)
def i64 (n:Int):V:=.d (.sc (.int .i64 n))
def bV (b:Bool):V:=.d (.sc (.bool b))
abbrev ao (l:List Int):D:=.sl (l.map fun x=>[iD x])
theorem br (n:Int) (h:-9223372036854775808<=n/\n<=9223372036854775807):IntKind.i64.wrap n=n:=IntWalk.i64_in n h
def aV (s:Int×Int):List D:=[iD s.1,iD s.2]
inductive Re where
 |mk (op:Int) (set:List (Int×Int)) (kids:List Re) (mn mx mode n:Int) (neg:Bool)
def Re.op:Re->Int|.mk x _ _ _ _ _ _ _=>x
def Re.set:Re->List (Int×Int)|.mk _ x _ _ _ _ _ _=>x
def Re.kids:Re->List Re|.mk _ _ x _ _ _ _ _=>x
def Re.mn:Re->Int|.mk _ _ _ x _ _ _ _=>x
def Re.mx:Re->Int|.mk _ _ _ _ x _ _ _=>x
def Re.mode:Re->Int|.mk _ _ _ _ _ x _ _=>x
def Re.n:Re->Int|.mk _ _ _ _ _ _ x _=>x
def Re.neg:Re->Bool|.mk _ _ _ _ _ _ _ x=>x
mutual
def Re.cells:Re->List D
 |.mk op set kids mn mx mode n neg=>[iD op,.sl (set.map aV),.sl (Re.yu kids),iD mn,iD mx,iD mode,iD n,bD neg]
def Re.yu:List Re->List (List D)
 |[]=>[]
 |k::l=>k.cells::Re.yu l
end
theorem Re.AR:∀l:List Re,Re.yu l=l.map Re.cells
 |[]=>by simp [Re.yu]
 |k::l=>by simp [Re.yu,Re.AR l]
theorem Re.ae (re:Re):re.cells=[iD re.op,.sl (re.set.map aV),.sl (re.kids.map Re.cells),iD re.mn,iD re.mx,iD re.mode,iD re.n,bD re.neg]:=by
 cases re;simp [Re.cells,Re.AR,Re.op,Re.set,Re.kids,Re.mn,Re.mx,Re.mode,Re.n,Re.neg]
theorem Re.jb (re:Re):re.cells.length=8:=by rw[Re.ae];rfl
def jW (re:Re):V:=.ag (re.cells.map .d)
theorem yl (re:Re):(re.cells.map V.d).take 8=re.cells.map V.d:=List.take_of_length_le (by simp [Re.jb])
theorem yB (re:Re):(re.cells.map V.d).drop 8=[]:=List.drop_of_length_le (by simp [Re.jb])
theorem CN (re:Re):V.ag (re.cells.map V.d)=jW re:=rfl
theorem aj (re:Re):jW re=.ag [.d (iD re.op),.d (.sl (re.set.map aV)),.d (.sl (re.kids.map Re.cells)),.d (iD re.mn),.d (iD re.mx),.d (iD re.mode),.d (iD re.n),.d (bD re.neg)]:=by
 rw[jW,Re.ae];rfl
theorem bj (ρ:List Nat) (re:Re):aJ ρ (jW re)=jW re:=by rw[aj];rfl
def bm (re:Re):V:=.d (.el re.cells)
mutual
def Re.size:Re->Nat
 |.mk _ _ kids _ _ _ _ _=>1+Re.cR kids
def Re.cR:List Re->Nat
 |[]=>0
 |k::l=>k.size+Re.cR l
end
theorem Re.size_eq (re:Re):re.size=1+Re.cR re.kids:=by cases re;simp [Re.size,Re.kids]
theorem Re.size_pos (re:Re):0<re.size:=by rw[Re.size_eq];omega
theorem Re.vi:∀{l:List Re}{k:Re},k∈l->k.size<=Re.cR l
 |k'::l,k,h=>by
  simp only[Re.cR]
  rcases List.mem_cons.1 h with rfl|h
  ·omega
  ·have:=Re.vi h;omega
theorem Re.iv {re k:Re} (h:k∈re.kids):k.size<re.size:=by
 have:=Re.vi h
 rw[Re.size_eq re];omega
theorem Re.sw:∀l:List Re,l.length<=Re.cR l
 |[]=>by simp
 |k::l=>by simp only[List.length_cons,Re.cR];have:=Re.sw l;have:=k.size_pos;omega
theorem bt {α:Type}{l:List α}{i:Nat}{x:α} (h:l[i]?=some x):l.take (i+1)=l.take i++[x]:=by
 rw[List.take_add_one,h];rfl
theorem Re.ln:∀a b:List Re,Re.cR (a++b)=Re.cR a+Re.cR b
 |[],b=>by simp [Re.cR]
 |k::l,b=>by simp only[List.cons_append,Re.cR,Re.ln l b];omega
theorem Re.Gk (l:List Re) (i:Nat):Re.cR (l.take i)<=Re.cR l:=by
 conv=>rhs;rw[<- List.take_append_drop i l]
 rw[Re.ln];omega
theorem x5 (re:Re):du (jW re)=some (re.cells.map V.d):=rfl
theorem mapM_some {α β:Type} (f:α->Option β) (g:β->α) (h:∀x,f (g x)=some x):∀l:List β,(l.map g).mapM f=some l
 |[]=>rfl
 |x::l=>by rw[List.map_cons,List.mapM_cons,h,mapM_some f g h l];rfl
theorem FB (cs:List D):(cs.map V.d).mapM Il=some cs:=mapM_some Il V.d (fun _=>rfl) cs
theorem Hb (n lim:Nat) (s:List VL.Obj) (x:D):cA n lim s (.d x)=some x:=by cases n <;> rfl
theorem vZ (n lim:Nat) (s:List VL.Obj) (cs:List D):(cs.map V.d).mapM (cA n lim s)=some cs:=mapM_some (cA n lim s) V.d (Hb n lim s) cs
theorem qu (n lim:Nat) (s:List VL.Obj) (l:List (List D)):(l.map fun c=>c.map V.d).mapM (fun (e:List V)=>e.mapM (cA n lim s))=some l:=mapM_some (fun (e:List V)=>e.mapM (cA n lim s)) (fun c=>c.map V.d) (vZ n lim s) l
theorem Re.ind {Q:Re->Prop} (h:∀re,(∀k∈re.kids,Q k)->Q re) (re:Re):Q re:=by
 induction hn:re.size using Nat.strongRecOn generalizing re with
 |_ n ih=>exact h re fun k hk=>ih k.size (by have:=Re.iv hk;omega) k rfl
theorem zK:type_of% (
 And.intro @x5 <|
 And.intro @FB <|
 And.intro @vZ <|
 And.intro @qu <|
 And.intro @Hb <|
 And.intro @Re.jb <|
 And.intro @yl <|
 And.intro @yB <|
 @CN) :=
 And.intro @x5 <|
 And.intro @FB <|
 And.intro @vZ <|
 And.intro @qu <|
 And.intro @Hb <|
 And.intro @Re.jb <|
 And.intro @yl <|
 And.intro @yB <|
 @CN
theorem zX:type_of% (And.intro CC<|And.intro zK<|And.intro zL<|And.intro nF @cP.eq_1):=(And.intro CC<|And.intro zK<|And.intro zL<|And.intro nF @cP.eq_1)
theorem zW:type_of% (And.intro TY<|And.intro zK<|And.intro zL<|And.intro nF @cP.eq_1):=(And.intro TY<|And.intro zK<|And.intro zL<|And.intro nF @cP.eq_1)
theorem zU:type_of% (And.intro @Av<|And.intro @List.contains_cons.{0}<|And.intro @List.contains_nil.{0}<|And.intro Bool.or_false<|And.intro Bool.false_or<|And.intro Bool.or_true<|And.intro Bool.true_or<|And.intro @bB.eq_1<|And.intro @lN<|And.intro @ka<|And.intro @aL<|And.intro @if_true.{1} @if_false.{1}):=(And.intro @Av<|And.intro @List.contains_cons.{0}<|And.intro @List.contains_nil.{0}<|And.intro Bool.or_false<|And.intro Bool.false_or<|And.intro Bool.or_true<|And.intro Bool.true_or<|And.intro @bB.eq_1<|And.intro @lN<|And.intro @ka<|And.intro @aL<|And.intro @if_true.{1} @if_false.{1})
theorem Io (lim:Nat) (re:Re):ah lim (jW re)=true:=by
 unfold jW;rw[ah,G3]
inductive Goal where
 |nil
 |mk (kind:Int) (re:Re) (k eA:Int) (next:Goal)
abbrev aE:=List (Int×Int)
def cy (c:aE):D:=.sl (c.map aV)
def Goal.d:Goal->D
 |.nil=>.sc (.pointer none)
 |.mk kind re k eA next=>.el (iD kind::(re.cells++[iD k,iD eA,next.d]))
structure bq where
 steps:Int
 empty:Bool
 ends:List Int
 ai:List aE
inductive Task where
 |run (g:Goal) (i:Int) (c:aE)
 |rep (g:Goal) (i:Int) (c:aE)
 |node (g:Goal) (i:Int) (c:aE)
def kW (t:List Int) (i:Int):Int:=t.getD i.toNat 0
def oV (x:Int):Bool:=(decide (48<=x)&&decide (x<=57))||((decide (65<=x)&&decide (x<=90))||((decide (97<=x)&&decide (x<=122))||decide (x=95)))
def mC (t:List Int) (i:Int):Bool:=decide (0<i)&&oV (kW t (i-1))
def jB (t:List Int) (i:Int):Bool:=decide (i<t.length)&&oV (kW t i)
def bP (n:Int) (t:List Int) (i:Int):Bool :=
 if n=0 then decide (i=0) else if n=1 then decide (i=t.length)
 else if n=2 then decide (i=0)||decide (kW t (i-1)=10)
 else if n=3 then decide (i=t.length)||decide (kW t i=10)
 else if n=4 then mC t i != jB t i
 else mC t i == jB t i
def Ba (l:List (Int×Int)) (x:Int):Bool:=l.any fun s=>decide (s.1<=x)&&decide (x<=s.2)
def nM (c:aE) (n eA to:Int):aE:=if 1<=n/\n<=c.length then c.set (n-1).toNat (eA,to) else c
def ck (c:aE) (n:Int):Int×Int:=if n<1\/(c.length:Int)<n then (-1,-1) else c.getD (n-1).toNat (-1,-1)
def Re.eo (re:Re) (m:Int):Re:=.mk re.op re.set re.kids re.mn re.mx m re.n re.neg
def bq.step (fuel:Int) (st:bq):bq:={ st with steps:=st.steps+1,empty:=st.empty||decide (fuel<st.steps+1) }
def FJ (r:Option (Bool×bq)) (k:bq->Option (Bool×bq)):Option (Bool×bq) :=
 match r with
 |none=>none
 |some (true,s)=>some (true,s)
 |some (false,s)=>k s
def ff (rec:Int->Task->bq->Option (Bool×bq)) (g:Goal) (i:Int) (c:aE) (st:bq):Option (Option (Int×aE)×bq) :=
 match rec 1 (.run g i c) ⟨st.steps,false,[],[]⟩ with
 |none=>none
 |some (_,x)=>if x.empty then some (none,{ st with steps:=x.steps,empty:=x.empty }) else match x.ends,x.ai with
   |[],_=>some (none,{ st with steps:=x.steps,empty:=x.empty })
   |e::_,d::_=>some (some (e,d),{ st with steps:=x.steps,empty:=x.empty })
   |_::_,[]=>none
def iH (f:Int->bq->Option (Option (Int×aE)×bq)):Nat->bq->Option (Option aE×bq)
 |0,st=>some (none,st)
 |n+1,st=>if st.empty then some (none,st) else match f n st with
  |none=>none
  |some (some (_,d),st')=>some (some d,st')
  |some (none,st')=>iH f n st'
def oZ (rec:Int->Task->bq->Option (Bool×bq)) (op:Int) (kid:Re) (i:Int) (c:aE) (st:bq):Option (Option aE×bq) :=
 if op=7 then match ff rec (.mk 0 kid 0 0 .nil) i c st with
  |none=>none
  |some (r,st')=>some (r.map (·.2),st')
 else iH (fun k st=>ff rec (.mk 0 kid 0 0 (.mk 4 (.mk 0 [] [] 0 0 0 0 false) 0 i .nil)) k c st) (i.toNat+1) st
def ov (kids:List Re) (next:Goal):Goal:=kids.foldr (fun k nx=>.mk 0 k 0 0 nx) next
def yf (f:Re->bq->Option (Bool×bq)):List Re->bq->Option (Bool×bq)
 |[],st=>some (false,st)
 |k::l,st=>FJ (f k st) (yf f l)
def oW (t:List Int) (a i:Int) (n:Nat):Bool:=(List.range n).all fun j=>kW t (a+j) == kW t (i+j)
def eE (t:List Int) (rec:Int->Task->bq->Option (Bool×bq)) (most:Int) (re:Re) (next:Goal) (i:Int) (c:aE) (st:bq):Option (Bool×bq) :=
 if re.op=1 then (if i<t.length/\Ba re.set (kW t i)=true then rec most (.run next (i+1) c) st else some (false,st))
 else if re.op=2 then rec most (.run (ov re.kids next) i c) st
 else if re.op=3 then yf (fun k st=>rec most (.run (.mk 0 k 0 0 next) i c) st) re.kids st
 else if re.op=5 then match re.kids with
  |[]=>none
  |kid::_=>rec most (.run (.mk 0 kid 0 0 (.mk 3 re 0 i next)) i c) st
 else if re.op=6 then
  let x:=ck c re.n
  if x.1<0 then some (false,st)
  else if x.2<x.1\/(t.length:Int)<x.2 then none
  else if t.length<i+x.2-x.1 then some (false,st)
  else if oW t x.1 i (x.2-x.1).toNat=true then rec most (.run next (i+x.2-x.1) c) st else some (false,st)
 else if re.op=7\/re.op=8 then match re.kids with
  |[]=>none
  |kid::_=>match oZ rec re.op kid i c st with
   |none=>none
   |some (r,st') =>
    if st'.empty then some (true,st')
    else if re.neg=true then (match r with
     |some _=>some (false,st')
     |none=>rec most (.run next i c) st')
    else match r with
     |some d=>rec most (.run next i d) st'
     |none=>some (false,st')
 else if re.op=9 then match re.kids with
  |[]=>none
  |kid::_=>match ff rec (.mk 0 kid 0 0 .nil) i c st with
   |none=>none
   |some (r,st')=>if st'.empty then some (true,st') else match r with
    |some (e,d)=>rec most (.run next e d) st'
    |none=>some (false,st')
 else if re.op=10 then match re.kids with
  |yes::no::_=>rec most (.run (.mk 0 (if 0<=(ck c re.n).1 then yes else no) 0 0 next) i c) st
  |_=>none
 else if re.op=11 then (if bP re.n t i=true then rec most (.run next i c) st else some (false,st))
 else rec most (.run next i c) st
def vA (fuel:Int) (rec:Int->Task->bq->Option (Bool×bq)) (most:Int) (re:Re) (k:Int) (next:Goal) (i:Int) (c:aE) (st:bq):Option (Bool×bq) :=
 if re.mode=2 then match ff rec (.mk 1 (re.eo 0) 0 0 .nil) i c st with
  |none=>none
  |some (r,st')=>match r with
   |some (e,d)=>rec most (.run next e d) st'
   |none=>some (st'.empty,st')
 else if st.steps<0\/10000000000000<st.steps then none
 else
  let s1:=st.step fuel
  if s1.empty then some (true,s1)
  else match re.kids with
   |[]=>none
   |kid::_ =>
    let more:=re.mx=-1\/k<re.mx
    let once:bq->Option (Bool×bq):=fun s=>rec most (.run (.mk 0 kid 0 0 (.mk 2 re k i next)) i c) s
    if k<re.mn then once s1
    else if re.mode=1 then FJ (rec most (.run next i c) s1) (fun s=>if more then once s else some (false,s))
    else FJ (if more then once s1 else some (false,s1)) (fun s=>rec most (.run next i c) s)
def cn (t:List Int) (fuel:Int) (rec:Int->Task->bq->Option (Bool×bq)) (most:Int):Task->bq->Option (Bool×bq)
 |.run g i c,st =>
  if i<0\/(t.length:Int)<i then none else match g with
  |.nil=>if st.ends.length<2000000000000/\st.ai.length=st.ends.length then some (decide (0<=most)&&decide (most<=(st.ends.length:Int)+1),{ st with ends:=st.ends++[i],ai:=st.ai++[c] }) else none
  |.mk kind re k eA next =>
   if kind=1 then rec most (.rep (.mk kind re k eA next) i c) st
   else if kind=2 then (if re.mn<=k/\i=eA then some (false,st) else if k<0\/10000000000000<k then none else rec most (.run (.mk 1 re (k+1) 0 next) i c) st)
   else if kind=3 then (if 1000000000<c.length then none else rec most (.run next i (nM c re.n eA i)) st)
   else if kind=4 then (if i=eA then rec most (.run next i c) st else some (false,st))
   else rec most (.node (.mk kind re k eA next) i c) st
 |.rep g i c,st=>if i<0\/(t.length:Int)<i then none else match g with
  |.nil=>none
  |.mk _ re k _ next=>vA fuel rec most re k next i c st
 |.node g i c,st=>if i<0\/(t.length:Int)<i then none else match g with
  |.nil=>none
  |.mk _ re _ _ next =>
   if re.op=4 then rec most (.rep (.mk 1 re 0 0 next) i c) st
   else if 1000000000<re.set.length\/1000000000<re.kids.length\/1000000000<c.length then none
   else if st.steps<0\/10000000000000<st.steps then none
   else if (st.step fuel).empty then some (true,st.step fuel)
   else eE t rec most re next i c (st.step fuel)
def fG (t:List Int) (fuel:Int):Nat->Int->Task->bq->Option (Bool×bq)
 |0=>fun _ _ _=>none
 |n+1=>cn t fuel (fG t fuel n)
theorem GW (re:Re):re.size<=1000000000->ba prog 46 [jW re] (i64 re.size):=by
 induction re using Re.ind with
 |h re ih =>
 intro hs
 have hlen:=Re.sw re.kids
 have fo:=Re.size_eq re
 refine an func46 rfl ntmps46 results46 rfl 0 31 (by simp) (by simp) ?_
 simp only[zW,simprocAttr,aj re,iD,bD]
 refine ay (fun n e s=>∃i:Nat,n=re.kids.length-i/\i<=re.kids.length/\e 1=.rf 0 0 0 0/\e 3=i64 (1+Re.cR (re.kids.take i):Nat)/\e 4=i64 i/\s=[⟨0,true,8,[re.cells.map .d]⟩]) ⟨_,_,_,bI.refl,0,rfl,by simp,rfl,rfl,rfl,by simp [Re.ae re,iD,bD]⟩ ?_
 rintro n e s ⟨i,rfl,hi,h1,h3,h4,rfl⟩
 rcases Nat.lt_or_ge i re.kids.length with az|ib
 ·obtain⟨k,hk⟩:∃k,re.kids[i]?=some k:=⟨_,List.getElem?_eq_getElem az⟩
  have hm:=List.mem_of_getElem? hk
  have MR:=Re.iv hm
  simp only[zW,simprocAttr,Re.ae re,iD,bD,h1,h3,h4,i64,az,hk]
  refine al (ih k hm (by omega)) (by simp [ah,ah.go,aj,i64,bV,bm]) (by simp [ah,ah.go,aj,i64,bV,bm]) ?_
  have h5:=Re.Gk re.kids (i+1)
  rw[bt hk,Re.ln]at h5
  simp only[Re.cR]at h5
  simp only[zW,simprocAttr,Re.ae re,iD,bD,h1,h3,h4,i64,az,hk]
  refine⟨_,_,_,?_,bI.refl,i+1,rfl,az,?_⟩
  ·omega
  simp only[bB,Nat.reduceEqDiff,if_true,if_false]
  refine⟨h1,?_,?_,by simp [Re.ae re,iD,bD]⟩
  ·rw[br _ (by omega),bt hk,Re.ln];simp only[Re.cR,i64];congr 3;omega
  ·rw[br _ (by omega)];rfl
 ·have eQ:i=re.kids.length:=by omega
  subst eQ
  simp only[zW,simprocAttr,Re.ae re,iD,bD,h1,h3,h4,i64,Nat.lt_irrefl]
  simp [fo]
theorem mix:prog.follows .mixedOrders=true:=by rfl
def lA (n:Int):Prop:=-9223372036854775808<=n/\n<=9223372036854775807
def nj (n most:Int):Int:=if n<0 then (-(n+1)).tmod most else n.tmod most
theorem AS (n m:Int) (hm:1<=m) (hn:lA n):ba prog 11 [i64 n,i64 m] (i64 (nj n m)):=by
 unfold lA at hn
 refine an func11 rfl ntmps11 results11 rfl 0 19 (by simp) (by simp) ?_
 simp only[TY,zK,zL,cP,simprocAttr,i64]
 refine⟨fun h=>⟨by omega,?_⟩,fun h=>⟨by omega,?_⟩⟩
 ·rw[br (n+1) (by omega),br _ (by omega)]
  simp [nj,h]
 ·simp [nj,h]
def pick (l:List Int) (i:Int) (most:Int):Int:=if i<0\/l.length<=i then 0 else nj (l[i.toNat]?.getD 0) most
theorem HD (l:List Int) (hl:∀x∈l,lA x) (i m:Int) (hm:1<=m):ba prog 34 [.d (ao l),i64 i,i64 m] (i64 (pick l i m)):=by
 refine an func34 rfl ntmps34 results34 rfl 0 71 (by simp) (by simp) ?_
 by_cases h0:i<0
 ·simp only[zW,simprocAttr,i64,ao,iD,h0]
  simp [h0,pick]
 ·by_cases h1:(l.length:Int)<=i
  ·simp only[zW,simprocAttr,i64,ao,iD,h0,h1,ge_iff_le]
   simp [h0,pick];omega
  ·have az:i.toNat<l.length:=by omega
   obtain⟨x,hx⟩:∃x,l[i.toNat]?=some x:=⟨_,List.getElem?_eq_getElem az⟩
   simp only[zW,simprocAttr,i64,ao,iD,h0,h1,ge_iff_le,hx,show 0<=i by omega,show i<l.length by omega]
   refine al (AS x m hm (hl x (List.mem_of_getElem? hx))) rfl rfl ?_
   simp only[zW,simprocAttr,i64]
   simp [h0,pick,hx];omega
end Go.Proofs.Ytfmdmlfhigocaaa
