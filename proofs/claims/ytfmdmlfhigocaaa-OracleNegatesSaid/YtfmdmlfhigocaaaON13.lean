/- A part of the proof (Vv Vw Vy Da Db G1 F2 F3). -/
import Derived.Test.YtfmdmlfhigocaaaON8
import Derived.Test.YtfmdmlfhigocaaaON12
set_option linter.unusedSimpArgs false
set_option linter.unusedVariables false
set_option maxRecDepth 100000
set_option maxHeartbeats 80000000
namespace Go.VL
variable{p:Prop}{b:Bool}{e:Env}{A:Env->Prop}{B:Env->Prop}{base:List Obj}{sz:Nat}{l:List (List D)}{s:List Obj}{v:V}
theorem kB {α β:Type}{A B:α->β->Prop}{e:α}{s:β} [Decidable p] (h:p->A e s) (k:¬p->B e s):na (.d (.sc (.bool (decide p)))) A B e s:=by rw[yI];exact⟨h,k⟩
theorem g8 {α β:Type}{A B:α->β->Prop}{e:α}{s:β} (h:b=true->A e s) (k:b=false->B e s):na (.d (.sc (.bool b))) A B e s:=by rw[MV];exact⟨h,k⟩
theorem dM {d:Nat} [Decidable p] (h:p->A (bz e d (.d (.sc (.bool true))))) (k:¬p->B (bz e d (.d (.sc (.bool false))))):eK (.d (.sc (.bool (decide p)))) d true A B e:=by rw[zg];exact⟨h,k⟩
theorem dL {d:Nat} [Decidable p] (h:p->B (bz e d (.d (.sc (.bool true))))) (k:¬p->A (bz e d (.d (.sc (.bool false))))):eK (.d (.sc (.bool (decide p)))) d false A B e:=by rw[yw];exact⟨h,k⟩
theorem cX {d:Nat} [Decidable p] (h:p->B (bz e d (.d (.sc (.bool false))))) (k:¬p->A (bz e d (.d (.sc (.bool true))))):eK (.d (.sc (.bool (!decide p)))) d true A B e:=by rw[vZ];exact⟨h,k⟩
theorem cW {d:Nat} [Decidable p] (h:p->A (bz e d (.d (.sc (.bool false))))) (k:¬p->B (bz e d (.d (.sc (.bool true))))):eK (.d (.sc (.bool (!decide p)))) d false A B e:=by rw[vS];exact⟨h,k⟩
theorem dG {d:Nat}{w:Bool} (h:b=true->eK (.d (.sc (.bool true))) d w A B e) (k:b=false->eK (.d (.sc (.bool false))) d w A B e):eK (.d (.sc (.bool b))) d w A B e:=by
 cases b
 ·exact k rfl
 ·exact h rfl
theorem Hw {α:Type}{x:α}:(some x).toArray.toList=[x]:=(rfl)
theorem Jt {α:Type}:(none:Option α).toArray.toList=[]:=(rfl)
theorem wN {f:Operand->V}:Option.map f none=none:=(rfl)
theorem EN {d:Int}:Ay none d=some d:=(rfl)
theorem IE {k:IntKind}{n d:Int}:Ay (some (.d (.sc (.int k n)))) d=some n:=(rfl)
abbrev GQ:=am @Hw @Jt @EN @IE @wN @oU @mc<|am @oT @rC @qx @nd @oV @qE @tF<|am @ue @tB @FK @F8 @Fz @FJ @oD<|am @ur @tD @uK @tO @uJ @qY @oI<|am @uz @rr @oQ @tN @AU @AS @xt<|am @xV @Gc @oK @wX @ug @oY @xZ<|am @tV @xA @tG @oO @qu @wQ @qM<|am @j0 @uv @np @py @kT @rj @x7<|am @x9 @tt @nz @mh @kS @rk @kQ<|am @qC @lp @qK @nA @tJ @tX @ts<|am @uE @tM @xP @qW @ya @tv @AX<|am @tC @ly @xk @oW @qF @l9 @qP<|am @tR @AL @xM @xB @xx @xb @xu<|am @xE @xm @pa @nf @l8 @tI @l7<|am @tH @mf @tU @pw @xz @tW @AN<|am @rm @xn @tS @A0 @AF @xj @nH<|am @lV @aH @tP @xD @tT @uf @tE<|am @uC @true_and @and_true @true_or @or_true @Bool.not_true @Bool.not_false<|am @false_or @or_false @decide_eq_true_eq @true_imp_iff @false_imp_iff @not_true_eq_false @not_false_eq_true<|am @decide_eq_false_iff_not @Bool.and_self @Bool.or_false @Bool.false_or @Bool.or_true @Bool.true_or @Bool.and_true<|am @Bool.true_and @Int.toNat_natCast @Int.ofNat_lt @Int.natCast_nonneg @decide_true @decide_false @V.d.injEq<|And.intro @D.sc.injEq<|And.intro @Go.Value.int.injEq @Go.Value.bool.injEq
def Acc (base:List Obj) (sz:Nat) (v:V) (s:List Obj) (l:List (List D)):Prop :=
 (v=.fu l/\s=base)\/∃g,v=.so base.length g 0 l.length/\s=base++[⟨g,true,sz,l.map (·.map .d)⟩]
theorem Acc.append {P:Program}{t et:TypeId}{i:O9}{ns:List (List D)}{K:V->List Obj->Prop} (ha:Acc base sz v s l) (ht:iN P t=some (et,i)) (hz:i.sz=sz) (h0:0<sz) (hb:0<i.Cs)
  (hl:∀e∈l,e.length=sz) (hn:∀e∈ns,e.length=sz) (cB:0<ns.length) (fF:(l.length+ns.length)*i.Cs<=140737488355328) (hk:∀v' s',Acc base sz v' s' (l++ns)->K v' s'):df P t v (.fu ns) s K:=by
 subst hz;have hn':∀e∈ns.map (λ(e:List D)=>e.map V.d),e.length=i.sz:=by intro e he;obtain⟨d,hd,rfl⟩:=List.mem_map.1 he;simpa using hn d hd
 unfold df;simp only[ht,iy];refine⟨⟨hn',h0,hb⟩,?_⟩;rcases ha with ⟨rfl,rfl⟩|⟨g,rfl,rfl⟩
 ·simp only;refine⟨⟨.inr (by simpa using cB),by simpa using fF,hl⟩,?_⟩;have:=hk (.so s.length 0 0 (l++ns).length) (s++[⟨0,true,i.sz,(l++ns).map (·.map .d)⟩]) (.inr ⟨0,rfl,rfl⟩);simpa [aha]using this
 ·simp only[uo];rw[af6 (af3 _),ahi];simp only[agm,true_and];refine⟨⟨by simp,by simpa using fF⟩,?_⟩;have:=hk (.so base.length (g+1) 0 (l++ns).length) (base++[⟨g+1,true,i.sz,(l++ns).map (·.map .d)⟩]) (.inr ⟨g+1,rfl,rfl⟩);have he:((l.map (λ(e:List D)=>e.map V.d)).take l.length)=l.map (λ(e:List D)=>e.map V.d):=af1 (by simp);simp only[agH,afN,he];rw[ahd _ _ (af3 _),ahi];simpa [aha]using this
theorem DQ (f:V->Option D) (hf:∀x,f (.d x)=some x):∀l:List (List D),((l.map λc=>c.map V.d).mapM λ(e:List V)=>e.mapM f)=some l
 |[]=>rfl
 |c::l=>by
  have h1:∀c:List D,(c.map V.d).mapM f=some c:=by
   intro c;induction c with
   |nil=>rfl
   |cons x c ih=>rw[afR,agS,hf,ih];rfl
  rw[afR,agS,h1,DQ f hf l];rfl
theorem Acc.W6{lim:Nat} (ha:Acc base sz v s l) (h:lim<=base.length):ba lim s v=some (.d (.sl l)):=by
 rcases ha with ⟨rfl,rfl⟩|⟨g,rfl,rfl⟩
 ·rfl
 ·simp only[ba,cj];rw[af6 (af3 _),ahi];simp only[agm,true_and];rw[be ⟨by simp,.inl h⟩];have he:((l.map (λ(e:List D)=>e.map V.d)).take l.length)=l.map (λ(e:List D)=>e.map V.d):=af1 (by simp);rw[agH,he,DQ _ (λx=>rfl) l];rfl
theorem Acc.get (ha:Acc base sz v s l) {id:Nat}{o:Obj} (h:base[id]?=some o):s[id]?=some o:=by
 rcases ha with ⟨rfl,rfl⟩|⟨g,rfl,rfl⟩
 ·exact h
 ·rw[af2 (List.getElem?_eq_some_iff.1 h).1];exact h
theorem Ix{d t:Nat}:bz e d v t=if t=d then v else e t:=(rfl)
abbrev Dj:=am @eq_self.{1} @hole.eq_1 @eZ.eq_1 @lI.eq_1 @gP.eq_1 @gP.eq_2 @Gr.eq_1<|am @Gr.eq_2 @Gf.eq_1 @Sc.eq_1 @Oh.eq_1 @ry.eq_1 @PI.eq_1 @QP.eq_1<|am @PR.eq_1 @fQ.eq_1 @fQ.eq_2 @fQ.eq_3 @fQ.eq_4 @fQ.eq_5 @Go.Op.operands.eq_1<|am @Go.Op.operands.eq_2 @Go.Op.operands.eq_3 @Go.Op.operands.eq_4 @Go.Op.operands.eq_5 @Go.Op.operands.eq_6 @Go.Op.operands.eq_7 @Go.Op.operands.eq_8<|am @Go.Op.operands.eq_9 @Go.Op.operands.eq_10 @Go.Op.operands.eq_11 @Go.Op.operands.eq_12 @Go.Op.operands.eq_13 @Go.Op.operands.eq_14 @Go.Op.operands.eq_15<|am @Go.Op.operands.eq_16 @Go.Op.operands.eq_17 @Go.Op.operands.eq_18 @Go.Op.operands.eq_19 @Go.Op.operands.eq_20 @Go.Op.operands.eq_21 @Go.Op.operands.eq_22<|am @Go.Op.operands.eq_23 @Go.Op.operands.eq_24 @Go.Op.operands.eq_25 @Go.Op.operands.eq_26 @Go.Op.operands.eq_27 @Go.Op.operands.eq_28 @Go.Op.operands.eq_29<|am @Go.Op.operands.eq_30 @Go.Op.operands.eq_31 @Go.Op.operands.eq_32 @Go.Op.operands.eq_33 @Go.Op.operands.eq_34 @Go.Op.operands.eq_35 @Go.Op.operands.eq_36<|am @Go.Op.operands.eq_37 @Go.Op.operands.eq_38 @Go.Op.operands.eq_39 @Go.Op.operands.eq_40 @Go.Op.operands.eq_41 @Go.Op.operands.eq_42 @Go.Op.operands.eq_43<|am @Go.Call.operands.eq_1 @Array.toList_append.{0} @dU.eq_1 @dU.eq_2 @dU.eq_3 @dU.eq_4 @dU.eq_5<|am @dU.eq_6 @dU.eq_7 @xT.eq_1 @xT.eq_2 @xT.eq_3 @lM.eq_1 @dY.eq_1<|am @dY.eq_2 @iP.eq_1 @iP.eq_2 @Ix @ev.eq_1 @ev.eq_2 @ev.eq_3<|am @ev.eq_4 @Uw.eq_1 @Uw.eq_2 @cv.eq_1 @cv.eq_2 @cv.eq_3 @cv.eq_4<|am @pD.eq_1 @oG.eq_1 @oG.eq_2 @oG.eq_3 @rb.eq_1 @rb.eq_2 @de.eq_1<|am @de.eq_2 @de.eq_3 @de.eq_4 @de.eq_5 @de.eq_6 @de.eq_7 @de.eq_8<|am @de.eq_9 @de.eq_10 @de.eq_11 @de.eq_12 @eP.eq_1 @eP.eq_2 @eP.eq_3<|am @eP.eq_4 @eP.eq_5 @eP.eq_6 @eP.eq_7 @eP.eq_8 @eP.eq_9 @eP.eq_10<|am @eP.eq_11 @eP.eq_12 @eP.eq_13 @eP.eq_14 @eP.eq_15 @Au.eq_1 @Au.eq_2<|am @Au.eq_3 @jy.eq_1 @jy.eq_2 @jy.eq_3 @jy.eq_4 @jy.eq_5 @jy.eq_6<|am @xp.eq_1 @Gv.eq_1 @Gv.eq_2 @Kt.eq_1 @Kt.eq_2 @MD.eq_1 @ba.eq_1<|am @ba.eq_2 @ba.eq_3 @ba.eq_4 @ba.eq_5 @ba.eq_6 @ba.eq_7 @ba.eq_8<|am @ba.eq_9 @ba.eq_10 @ba.eq_11 @ba.eq_12 @ba.go.eq_1 @ba.go.eq_2 @cj.eq_1<|am @cj.eq_2 @cj.eq_3 @cj.eq_4 @cj.eq_5 @cj.eq_6 @cj.eq_7 @cj.eq_8<|am @im.eq_1 @im.eq_2 @im.eq_3 @lB.eq_1 @pE.eq_1 @pE.eq_2 @pE.eq_3<|am @gY.eq_1 @zT.eq_1 @pq.eq_1 @lq.eq_1 @lq.eq_2 @lq.eq_3 @lq.eq_4<|am @lq.eq_5 @dy.eq_1 @dy.eq_2 @eD.eq_1 @mj.eq_1 @mj.eq_2 @ka.eq_1<|am @ka.eq_2 @ka.eq_3 @sd.eq_1 @Ue.eq_1 @uo.eq_1 @xF.eq_1 @xF.eq_2<|am @oP.eq_1 @oP.eq_2 @oP.eq_3 @oP.eq_4 @List.map_cons.{0,0} @List.map_nil.{0,0} @List.toList_toArray.{0}<|am @List.getElem?_cons_zero.{0} @List.getElem?_cons_succ.{0} @List.take_zero.{0} @List.all_nil.{0} @List.length_cons.{0} @List.length_nil.{0} @List.drop_zero.{0}<|am @List.drop_succ_cons.{0} @if_true.{1} @if_false.{1} @List.nil_append.{0} @List.cons_append.{0} @ne_eq.{1} @pr.eq_1<|am @ey.eq_1 @vp.eq_1 @vp.eq_2 @sP.eq_1 @sP.eq_2 @sY.eq_1 @GR.eq_1<|am @GR.eq_2 @GR.eq_3 @fY.eq_1 @iy.eq_1 @iy.eq_2 @iy.eq_3 @iy.eq_4<|am @aG.eq_1 @ah.eq_1 @ah.eq_2 @ah.eq_3 @ah.eq_4 @ah.eq_5 @ah.eq_6<|am @ah.eq_7 @ah.eq_8 @ah.eq_9 @ah.eq_10 @ah.eq_11 @ah.eq_12 @ah.go.eq_1<|am @ah.go.eq_2 @kU.eq_1 @Ay.eq_1 @Ay.eq_2 @Je.eq_1 @Je.eq_2 @pI.eq_1<|am @pI.eq_2 @eX.eq_1 @eX.eq_2 @eX.eq_3 @List.replicate.eq_1.{0} @List.replicate.eq_2.{0} @List.mapM_cons.{0,0,0}<|am @List.mapM_nil.{0,0,0} @Option.pure_def.{0} @Option.bind_eq_bind.{0} @Option.bind_some.{0,0} @gI.eq_1 @List.set_cons_zero.{0} @List.set_cons_succ.{0}<|am @List.take_succ_cons.{0} @List.contains_nil.{0} @List.contains_cons.{0} @List.flatMap_cons.{0,0} @List.flatMap_nil.{0,0} @List.all_cons.{0} @List.append_nil.{0}<|am @List.length_map.{0,0} @List.getElem?_map.{0,0} @Option.map_some.{0,0} @jh.eq_1 @vq.eq_1 @nD.eq_1 @jq.eq_1<|am @jq.eq_2 @jq.eq_3 @jq.eq_4 @Go.VL.Iq @Go.VL.IV @Go.VL.Jo @Go.VL.ES<|am @Go.VL.L3 @Go.VL.Ed @Go.VL.LA @Go.VL.L6 @Go.VL.MG @Go.VL.Rz @Go.VL.Qa<|am @Go.VL.IL @Go.VL.E4 @Go.VL.Eu @Go.VL.Cf @Go.VL.Fa @Go.VL.Hp @Go.VL.DW<|And.intro @Go.VL.D8<|And.intro @Go.VL.GS<|And.intro @Go.VL.DV<|And.intro @Go.VL.B5 @lQ.eq_1
end Go.VL
namespace Go.Proofs.Ytfmdmlfhigocaaa
open Go.VL Go.Proofs.Try
def iD (n:Int):D:=.sc (.int .i64 n)
def bD (b:Bool):D:=.sc (.bool b)
def i64 (n:Int):V:=.d (.sc (.int .i64 n))
def bV (b:Bool):V:=.d (.sc (.bool b))
abbrev al (l:List Int):D:=.sl (l.map λx=>[iD x])
theorem bd (n:Int) (h:-9223372036854775808<=n/\n<=9223372036854775807):IntKind.i64.wrap n=n:=IntWalk.i64_in n h
def aV (s:Int×Int):List D:=[iD s.1,iD s.2]
inductive Re where
 |mk (op:Int) (set:List (Int×Int)) (kids:List Re) (mn mx mode n:Int) (neg:Bool)
def Re.op:Re->Int|.mk x _ _ _ _ _ _ _=>x
def Re.set:Re->List (Int×Int)|.mk _ x _ _ _ _ _ _=>x
def Re.kids:Re->List Re|.mk _ _ x _ _ _ _ _=>x
def Re.mn:Re->Int|.mk _ _ _ x _ _ _ _=>x
def Re.mx:Re->Int|.mk _ _ _ _ x _ _ _=>x
def Re.mode:Re->Int|.mk _ _ _ _ _ x _ _=>x
def Re.n:Re->Int|.mk _ _ _ _ _ _ x _=>x
def Re.neg:Re->Bool|.mk _ _ _ _ _ _ _ x=>x
mutual
def Re.cells:Re->List D
 |.mk op set kids mn mx mode n neg=>[iD op,.sl (set.map aV),.sl (Re.BH kids),iD mn,iD mx,iD mode,iD n,bD neg]
def Re.BH:List Re->List (List D)
 |[]=>[]
 |k::l=>k.cells::Re.BH l
end
theorem Re.ED:∀l:List Re,Re.BH l=l.map Re.cells
 |[]=>by simp [Re.BH]
 |k::l=>by simp [Re.BH,Re.ED l]
theorem Re.ae (re:Re):re.cells=[iD re.op,.sl (re.set.map aV),.sl (re.kids.map Re.cells),iD re.mn,iD re.mx,iD re.mode,iD re.n,bD re.neg]:=by
 cases re;simp [Re.cells,Re.ED,Re.op,Re.set,Re.kids,Re.mn,Re.mx,Re.mode,Re.n,Re.neg]
theorem Re.bG (re:Re):re.cells.length=8:=by rw[Re.ae];rfl
def fv (re:Re):V:=.ag (re.cells.map .d)
theorem BB (re:Re):(re.cells.map V.d).take 8=re.cells.map V.d:=af1 (by simp [Re.bG])
theorem BO (re:Re):(re.cells.map V.d).drop 8=[]:=List.drop_of_length_le (by simp [Re.bG])
theorem G3 (re:Re):V.ag (re.cells.map V.d)=fv re:=rfl
theorem ai (re:Re):fv re=.ag [.d (iD re.op),.d (.sl (re.set.map aV)),.d (.sl (re.kids.map Re.cells)),.d (iD re.mn),.d (iD re.mx),.d (iD re.mode),.d (iD re.n),.d (bD re.neg)]:=by rw[fv,Re.ae];rfl
theorem bm (ρ:List Nat) (re:Re):aL ρ (fv re)=fv re:=by rw[ai];rfl
def aM (re:Re):V:=.d (.el re.cells)
mutual
def Re.size:Re->Nat
 |.mk _ _ kids _ _ _ _ _=>1+Re.bZ kids
def Re.bZ:List Re->Nat
 |[]=>0
 |k::l=>k.size+Re.bZ l
end
theorem Re.size_eq (re:Re):re.size=1+Re.bZ re.kids:=by cases re;simp [Re.size,Re.kids]
theorem Re.size_pos (re:Re):0<re.size:=by rw[Re.size_eq];omega
theorem Re.yA:∀{l:List Re}{k:Re},k∈l->k.size<=Re.bZ l
 |k'::l,k,h=>by
  simp only[Re.bZ];rcases List.mem_cons.1 h with rfl|h
  ·omega
  ·have:=Re.yA h;omega
theorem Re.bL {re k:Re} (h:k∈re.kids):k.size<re.size:=by have:=Re.yA h;rw[Re.size_eq re];omega
theorem Re.lO:∀l:List Re,l.length<=Re.bZ l
 |[]=>by simp
 |k::l=>by simp only[afZ,Re.bZ];have:=Re.lO l;have:=k.size_pos;omega
theorem aR {α:Type}{l:List α}{i:Nat}{x:α} (h:l[i]?=some x):l.take (i+1)=l.take i++[x]:=by rw[List.take_add_one,h];rfl
theorem Re.kW:∀a b:List Re,Re.bZ (a++b)=Re.bZ a+Re.bZ b
 |[],b=>by simp [Re.bZ]
 |k::l,b=>by simp only[afQ,Re.bZ,Re.kW l b];omega
theorem Re.BF (l:List Re) (i:Nat):Re.bZ (l.take i)<=Re.bZ l:=by
 conv=>rhs;rw[<- ahk i l]
 rw[Re.kW];omega
theorem Bd (re:Re):dT (fv re)=some (re.cells.map V.d):=rfl
theorem mapM_some {α β:Type} (f:α->Option β) (g:β->α) (h:∀x,f (g x)=some x):∀l:List β,(l.map g).mapM f=some l
 |[]=>rfl
 |x::l=>by rw[afR,agS,h,mapM_some f g h l];rfl
theorem J0 (cs:List D):(cs.map V.d).mapM GR=some cs:=mapM_some GR V.d (λ_=>rfl) cs
theorem CR (n lim:Nat) (s:List VL.Obj) (x:D):cj n lim s (.d x)=some x:=by cases n <;> rfl
theorem uH (n lim:Nat) (s:List VL.Obj) (cs:List D):(cs.map V.d).mapM (cj n lim s)=some cs:=mapM_some (cj n lim s) V.d (CR n lim s) cs
theorem pR (n lim:Nat) (s:List VL.Obj) (l:List (List D)):(l.map λc=>c.map V.d).mapM (λ(e:List V)=>e.mapM (cj n lim s))=some l:=mapM_some (λ(e:List V)=>e.mapM (cj n lim s)) (λc=>c.map V.d) (uH n lim s) l
theorem Re.ind {Q:Re->Prop} (h:∀re,(∀k∈re.kids,Q k)->Q re) (re:Re):Q re:=by
 induction hn:re.size using Nat.strongRecOn generalizing re with
 |_ n ih=>exact h re λk hk=>ih k.size (by have:=Re.bL hk;omega) k rfl
abbrev Di:=am @Bd @J0 @uH @pR @CR @Re.bG @BB<|And.intro @BO @G3
abbrev zX:=And.intro GQ<|And.intro Di<|And.intro Dj<|And.intro qc @df.eq_1
abbrev zW:=And.intro Zk<|And.intro Di<|And.intro Dj<|And.intro qc @df.eq_1
abbrev zU:=am @D9 @List.contains_cons.{0} @List.contains_nil.{0} ag7 agr Bool.or_true agz<|And.intro @bz.eq_1<|And.intro @nH<|And.intro @lV<|And.intro @aH<|And.intro @if_true.{1} @if_false.{1}
theorem za (lim:Nat) (s:List VL.Obj):∀l:List D,ba.go lim s (l.map V.d)=some (l.map V.d)
 |[]=>rfl
 |x::l=>by rw[afR,ba.go,za lim s l];rfl
theorem Ro (lim:Nat) (s:List VL.Obj) (re:Re):ba lim s (fv re)=some (fv re):=by unfold fv;rw[ba,za];rfl
theorem nC (lim:Nat) (re:Re):ah lim (fv re)=true:=by unfold fv;rw[ah,Li]
inductive Goal where
 |nil
 |mk (kind:Int) (re:Re) (k fw:Int) (next:Goal)
abbrev aK:=List (Int×Int)
def cM (c:aK):D:=.sl (c.map aV)
def Goal.d:Goal->D
 |.nil=>.sc (.pointer none)
 |.mk kind re k fw next=>.el (iD kind::(re.cells++[iD k,iD fw,next.d]))
structure bJ where
 steps:Int
 empty:Bool
 ends:List Int
 ak:List aK
inductive Task where
 |run (g:Goal) (i:Int) (c:aK)
 |rep (g:Goal) (i:Int) (c:aK)
 |node (g:Goal) (i:Int) (c:aK)
def n7 (t:List Int) (i:Int):Int:=t.getD i.toNat 0
def rE (x:Int):Bool:=(decide (48<=x)&&decide (x<=57))||((decide (65<=x)&&decide (x<=90))||((decide (97<=x)&&decide (x<=122))||decide (x=95)))
def oL (t:List Int) (i:Int):Bool:=decide (0<i)&&rE (n7 t (i-1))
def lj (t:List Int) (i:Int):Bool:=decide (i<t.length)&&rE (n7 t i)
def bX (n:Int) (t:List Int) (i:Int):Bool :=
 if n=0 then decide (i=0) else if n=1 then decide (i=t.length)
 else if n=2 then decide (i=0)||decide (n7 t (i-1)=10)
 else if n=3 then decide (i=t.length)||decide (n7 t i=10)
 else if n=4 then oL t i != lj t i
 else oL t i == lj t i
def E3 (l:List (Int×Int)) (x:Int):Bool:=l.any λs=>decide (s.1<=x)&&decide (x<=s.2)
def ql (c:aK) (n fw to:Int):aK:=if 1<=n/\n<=c.length then c.set (n-1).toNat (fw,to) else c
def cE (c:aK) (n:Int):Int×Int:=if n<1\/(c.length:Int)<n then (-1,-1) else c.getD (n-1).toNat (-1,-1)
def Re.ff (re:Re) (m:Int):Re:=.mk re.op re.set re.kids re.mn re.mx m re.n re.neg
def bJ.step (fuel:Int) (st:bJ):bJ:={ st with steps:=st.steps+1,empty:=st.empty||decide (fuel<st.steps+1) }
def J6 (r:Option (Bool×bJ)) (k:bJ->Option (Bool×bJ)):Option (Bool×bJ) :=
 match r with
 |none=>none
 |some (true,s)=>some (true,s)
 |some (false,s)=>k s
def gu (rec:Int->Task->bJ->Option (Bool×bJ)) (g:Goal) (i:Int) (c:aK) (st:bJ):Option (Option (Int×aK)×bJ) :=
 match rec 1 (.run g i c) ⟨st.steps,false,[],[]⟩ with
 |none=>none
 |some (_,x)=>if x.empty then some (none,{ st with steps:=x.steps,empty:=x.empty }) else match x.ends,x.ak with
   |[],_=>some (none,{ st with steps:=x.steps,empty:=x.empty })
   |e::_,d::_=>some (some (e,d),{ st with steps:=x.steps,empty:=x.empty })
   |_::_,[]=>none
def jX (f:Int->bJ->Option (Option (Int×aK)×bJ)):Nat->bJ->Option (Option aK×bJ)
 |0,st=>some (none,st)
 |n+1,st=>if st.empty then some (none,st) else match f n st with
  |none=>none
  |some (some (_,d),st')=>some (some d,st')
  |some (none,st')=>jX f n st'
def rI (rec:Int->Task->bJ->Option (Bool×bJ)) (op:Int) (kid:Re) (i:Int) (c:aK) (st:bJ):Option (Option aK×bJ) :=
 if op=7 then match gu rec (.mk 0 kid 0 0 .nil) i c st with
  |none=>none
  |some (r,st')=>some (r.map (·.2),st')
 else jX (λk st=>gu rec (.mk 0 kid 0 0 (.mk 4 (.mk 0 [] [] 0 0 0 0 false) 0 i .nil)) k c st) (i.toNat+1) st
def qN (kids:List Re) (next:Goal):Goal:=kids.foldr (λk nx=>.mk 0 k 0 0 nx) next
def Bv (f:Re->bJ->Option (Bool×bJ)):List Re->bJ->Option (Bool×bJ)
 |[],st=>some (false,st)
 |k::l,st=>J6 (f k st) (Bv f l)
def rF (t:List Int) (a i:Int) (n:Nat):Bool:=(List.range n).all λj=>n7 t (a+j) == n7 t (i+j)
def fL (t:List Int) (rec:Int->Task->bJ->Option (Bool×bJ)) (most:Int) (re:Re) (next:Goal) (i:Int) (c:aK) (st:bJ):Option (Bool×bJ) :=
 if re.op=1 then (if i<t.length/\E3 re.set (n7 t i)=true then rec most (.run next (i+1) c) st else some (false,st))
 else if re.op=2 then rec most (.run (qN re.kids next) i c) st
 else if re.op=3 then Bv (λk st=>rec most (.run (.mk 0 k 0 0 next) i c) st) re.kids st
 else if re.op=5 then match re.kids with
  |[]=>none
  |kid::_=>rec most (.run (.mk 0 kid 0 0 (.mk 3 re 0 i next)) i c) st
 else if re.op=6 then
  let x:=cE c re.n
  if x.1<0 then some (false,st)
  else if x.2<x.1\/(t.length:Int)<x.2 then none
  else if t.length<i+x.2-x.1 then some (false,st)
  else if rF t x.1 i (x.2-x.1).toNat=true then rec most (.run next (i+x.2-x.1) c) st else some (false,st)
 else if re.op=7\/re.op=8 then match re.kids with
  |[]=>none
  |kid::_=>match rI rec re.op kid i c st with
   |none=>none
   |some (r,st') =>
    if st'.empty then some (true,st')
    else if re.neg=true then (match r with
     |some _=>some (false,st')
     |none=>rec most (.run next i c) st')
    else match r with
     |some d=>rec most (.run next i d) st'
     |none=>some (false,st')
 else if re.op=9 then match re.kids with
  |[]=>none
  |kid::_=>match gu rec (.mk 0 kid 0 0 .nil) i c st with
   |none=>none
   |some (r,st')=>if st'.empty then some (true,st') else match r with
    |some (e,d)=>rec most (.run next e d) st'
    |none=>some (false,st')
 else if re.op=10 then match re.kids with
  |yes::no::_=>rec most (.run (.mk 0 (if 0<=(cE c re.n).1 then yes else no) 0 0 next) i c) st
  |_=>none
 else if re.op=11 then (if bX re.n t i=true then rec most (.run next i c) st else some (false,st))
 else rec most (.run next i c) st
def yS (fuel:Int) (rec:Int->Task->bJ->Option (Bool×bJ)) (most:Int) (re:Re) (k:Int) (next:Goal) (i:Int) (c:aK) (st:bJ):Option (Bool×bJ) :=
 if re.mode=2 then match gu rec (.mk 1 (re.ff 0) 0 0 .nil) i c st with
  |none=>none
  |some (r,st')=>match r with
   |some (e,d)=>rec most (.run next e d) st'
   |none=>some (st'.empty,st')
 else if st.steps<0\/10000000000000<st.steps then none
 else
  let s1:=st.step fuel
  if s1.empty then some (true,s1)
  else match re.kids with
   |[]=>none
   |kid::_ =>
    let more:=re.mx=-1\/k<re.mx;let once:bJ->Option (Bool×bJ):=λs=>rec most (.run (.mk 0 kid 0 0 (.mk 2 re k i next)) i c) s
    if k<re.mn then once s1
    else if re.mode=1 then J6 (rec most (.run next i c) s1) (λs=>if more then once s else some (false,s))
    else J6 (if more then once s1 else some (false,s1)) (λs=>rec most (.run next i c) s)
def cF (t:List Int) (fuel:Int) (rec:Int->Task->bJ->Option (Bool×bJ)) (most:Int):Task->bJ->Option (Bool×bJ)
 |.run g i c,st =>
  if i<0\/(t.length:Int)<i then none else match g with
  |.nil=>if st.ends.length<2000000000000/\st.ak.length=st.ends.length then some (decide (0<=most)&&decide (most<=(st.ends.length:Int)+1),{ st with ends:=st.ends++[i],ak:=st.ak++[c] }) else none
  |.mk kind re k fw next =>
   if kind=1 then rec most (.rep (.mk kind re k fw next) i c) st
   else if kind=2 then (if re.mn<=k/\i=fw then some (false,st) else if k<0\/10000000000000<k then none else rec most (.run (.mk 1 re (k+1) 0 next) i c) st)
   else if kind=3 then (if 1000000000<c.length then none else rec most (.run next i (ql c re.n fw i)) st)
   else if kind=4 then (if i=fw then rec most (.run next i c) st else some (false,st))
   else rec most (.node (.mk kind re k fw next) i c) st
 |.rep g i c,st=>if i<0\/(t.length:Int)<i then none else match g with
  |.nil=>none
  |.mk _ re k _ next=>yS fuel rec most re k next i c st
 |.node g i c,st=>if i<0\/(t.length:Int)<i then none else match g with
  |.nil=>none
  |.mk _ re _ _ next =>
   if re.op=4 then rec most (.rep (.mk 1 re 0 0 next) i c) st
   else if 1000000000<re.set.length\/1000000000<re.kids.length\/1000000000<c.length then none
   else if st.steps<0\/10000000000000<st.steps then none
   else if (st.step fuel).empty then some (true,st.step fuel)
   else fL t rec most re next i c (st.step fuel)
def gT (t:List Int) (fuel:Int):Nat->Int->Task->bJ->Option (Bool×bJ)
 |0=>λ_ _ _=>none
 |n+1=>cF t fuel (gT t fuel n)
theorem Le (re:Re):re.size<=1000000000->aO prog 46 [fv re] (i64 re.size):=by
 induction re using Re.ind with
 |h re ih =>
 intro hs;have hlen:=Re.lO re.kids;have fF:=Re.size_eq re;refine an func46 rfl ntmps46 results46 rfl 0 31 (by simp) (by simp) ?_;simp only[zW,simprocAttr,ai re,iD,bD];refine au (λn e s=>∃i:Nat,n=re.kids.length-i/\i<=re.kids.length/\e 1=.rf 0 0 0 0/\e 3=i64 (1+Re.bZ (re.kids.take i):Nat)/\e 4=i64 i/\s=[⟨0,true,8,[re.cells.map .d]⟩]) ⟨_,_,_,br.refl,0,rfl,by simp,rfl,rfl,rfl,by simp [Re.ae re,iD,bD]⟩ ?_;rintro n e s ⟨i,rfl,hi,h1,h3,h4,rfl⟩;rcases agi i re.kids.length with az|fI
 ·obtain⟨k,hk⟩:∃k,re.kids[i]?=some k:=⟨_,afP az⟩
  have hm:=afW hk;have wC:=Re.bL hm;simp only[zW,simprocAttr,Re.ae re,iD,bD,h1,h3,h4,i64,az,hk];refine aj (ih k hm (by omega)) (by simp [ah,ah.go,ai,i64,bV,aM]) (by simp [ah,ah.go,ai,i64,bV,aM]) ?_;have h5:=Re.BF re.kids (i+1);rw[aR hk,Re.kW]at h5;simp only[Re.bZ]at h5;simp only[zW,simprocAttr,Re.ae re,iD,bD,h1,h3,h4,i64,az,hk];refine⟨_,_,_,?_,br.refl,i+1,rfl,az,?_⟩
  ·omega
  simp only[bz,Nat.reduceEqDiff,if_true,if_false];refine⟨h1,?_,?_,by simp [Re.ae re,iD,bD]⟩
  ·rw[bd _ (by omega),aR hk,Re.kW];simp only[Re.bZ,i64];congr 3;omega
  ·rw[bd _ (by omega)];rfl
 ·have cV:i=re.kids.length:=by omega
  subst cV;simp only[zW,simprocAttr,Re.ae re,iD,bD,h1,h3,h4,i64,agK];simp [fF]
theorem mix:prog.follows .mixedOrders=true:=by rfl
def jC (n:Int):Prop:=-9223372036854775808<=n/\n<=9223372036854775807
def pM (n most:Int):Int:=if n<0 then (-(n+1)).tmod most else n.tmod most
theorem EF (n m:Int) (hm:1<=m) (hn:jC n):aO prog 11 [i64 n,i64 m] (i64 (pM n m)):=by
 unfold jC at hn;refine an func11 rfl ntmps11 results11 rfl 0 19 (by simp) (by simp) ?_;simp only[Zk,Di,Dj,df,simprocAttr,i64];refine⟨λh=>⟨by omega,?_⟩,λh=>⟨by omega,?_⟩⟩
 ·rw[bd (n+1) (by omega),bd _ (by omega)];simp [pM,h]
 ·simp [pM,h]
def pick (l:List Int) (i:Int) (most:Int):Int:=if i<0\/l.length<=i then 0 else pM (l[i.toNat]?.getD 0) most
theorem AM (l:List Int) (hl:∀x∈l,jC x) (i m:Int) (hm:1<=m):aO prog 34 [.d (al l),i64 i,i64 m] (i64 (pick l i m)):=by
 refine an func34 rfl ntmps34 results34 rfl 0 71 (by simp) (by simp) ?_;by_cases h0:i<0
 ·simp only[zW,simprocAttr,i64,al,iD,h0];simp [h0,pick]
 ·by_cases h1:(l.length:Int)<=i
  ·simp only[zW,simprocAttr,i64,al,iD,h0,h1,ge_iff_le];simp [h0,pick];omega
  ·have az:i.toNat<l.length:=by omega
   obtain⟨x,hx⟩:∃x,l[i.toNat]?=some x:=⟨_,afP az⟩
   simp only[zW,simprocAttr,i64,al,iD,h0,h1,ge_iff_le,hx,show 0<=i by omega,show i<l.length by omega];refine aj (EF x m hm (hl x (afW hx))) rfl rfl ?_;simp only[zW,simprocAttr,i64];simp [h0,pick,hx];omega
end Go.Proofs.Ytfmdmlfhigocaaa
