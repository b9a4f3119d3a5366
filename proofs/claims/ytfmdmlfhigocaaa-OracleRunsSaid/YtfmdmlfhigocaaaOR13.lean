/- A part of the proof (Vv Vw Vy Da Db G1 F2 F3). -/
import Derived.Test.YtfmdmlfhigocaaaOR8
import Derived.Test.YtfmdmlfhigocaaaOR12
set_option linter.unusedSimpArgs false
set_option linter.unusedVariables false
set_option maxRecDepth 100000
set_option maxHeartbeats 80000000
namespace Go.VL
variable{p:Prop}{b:Bool}{e:Env}{A:Env->Prop}{B:Env->Prop}{base:List Obj}{sz:Nat}{l:List (List D)}{et:TypeId}{K:V->List Obj->Prop}{P:Program}{t:TypeId}{s:List Obj}{v:V}
theorem lI {α β:Type}{A B:α->β->Prop}{e:α}{s:β} [Decidable p] (h:p->A e s) (k:¬p->B e s):ow (.d (.sc (.bool (decide p)))) A B e s:=by rw[AF];exact⟨h,k⟩
theorem ja {α β:Type}{A B:α->β->Prop}{e:α}{s:β} (h:b=true->A e s) (k:b=false->B e s):ow (.d (.sc (.bool b))) A B e s:=by rw[Qe];exact⟨h,k⟩
theorem eu {d:Nat} [Decidable p] (h:p->A (bX e d (.d (.sc (.bool true))))) (k:¬p->B (bX e d (.d (.sc (.bool false))))):fm (.d (.sc (.bool (decide p)))) d true A B e:=by rw[Bg];exact⟨h,k⟩
theorem ep {d:Nat} [Decidable p] (h:p->B (bX e d (.d (.sc (.bool true))))) (k:¬p->A (bX e d (.d (.sc (.bool false))))):fm (.d (.sc (.bool (decide p)))) d false A B e:=by rw[At];exact⟨h,k⟩
theorem dn {d:Nat} [Decidable p] (h:p->B (bX e d (.d (.sc (.bool false))))) (k:¬p->A (bX e d (.d (.sc (.bool true))))):fm (.d (.sc (.bool (!decide p)))) d true A B e:=by rw[yl];exact⟨h,k⟩
theorem dm {d:Nat} [Decidable p] (h:p->A (bX e d (.d (.sc (.bool false))))) (k:¬p->B (bX e d (.d (.sc (.bool true))))):fm (.d (.sc (.bool (!decide p)))) d false A B e:=by rw[ya];exact⟨h,k⟩
theorem eh {d:Nat}{w:Bool} (h:b=true->fm (.d (.sc (.bool true))) d w A B e) (k:b=false->fm (.d (.sc (.bool false))) d w A B e):fm (.d (.sc (.bool b))) d w A B e:=by
 cases b
 ·exact k rfl
 ·exact h rfl
theorem J6 {α:Type}{x:α}:(some x).toArray.toList=[x]:=(rfl)
theorem Me {α:Type}:(none:Option α).toArray.toList=[]:=(rfl)
theorem yK {f:Operand->V}:Option.map f none=none:=(rfl)
theorem Hm {d:Int}:CA none d=some d:=(rfl)
theorem Lf {k:IntKind}{n d:Int}:CA (some (.d (.sc (.int k n)))) d=some n:=(rfl)
abbrev E6:=am @J6 @Me @Hm @Lf @yK @qt @ni<|am @qs @tq @rX @ox @qu @sf @vE<|am @wg @vA @Im @IL @H8 @Ij @qc<|am @wu @vC @wM @vL @wL @sP @qf<|am @wB @tc @qo @vK @C9 @C6 @zh<|am @zL @IP @qi @yS @wj @qw @zR<|am @vU @zo @vF @qm @rU @yL @sy<|am @lh @wy @oJ @qJ @l9 @sX @zV<|am @zZ @vu @oS @nr @l8 @sY @lY<|am @sa @mm @sq @oU @vI @vX @vq<|am @wI @vJ @zE @sO @z0 @vv @De<|am @vB @mw @y7 @qv @sg @ng @sD<|am @vP @CR @zB @zp @zm @yY @zi<|am @zu @zb @qx @oy @m9 @vH @m8<|am @vG @nm @vT @qI @zn @vW @CU<|am @s9 @zc @vQ @Dh @CF @y6 @oY<|am @mX @aY @vM @zt @vS @wh @vD<|am @wG @true_and @and_true @true_or @or_true @Bool.not_true @Bool.not_false<|am @false_or @or_false @decide_eq_true_eq @true_imp_iff @false_imp_iff @not_true_eq_false @not_false_eq_true<|am @decide_eq_false_iff_not @Bool.and_self @Bool.or_false @Bool.false_or @Bool.or_true @Bool.true_or @Bool.and_true<|am @Bool.true_and @Int.toNat_natCast @Int.ofNat_lt @Int.natCast_nonneg @decide_true @decide_false @V.d.injEq<|And.intro @D.sc.injEq<|And.intro @Go.Value.int.injEq @Go.Value.bool.injEq
def Acc (base:List Obj) (sz:Nat) (v:V) (s:List Obj) (l:List (List D)):Prop :=
 (v=.fu l/\s=base)\/∃g,v=.so base.length g 0 l.length/\s=base++[⟨g,true,sz,l.map (·.map .d)⟩]
theorem Acc.start:Acc base sz (.fu l) base l:=.inl ⟨rfl,rfl⟩
theorem Acc.append{i:RF}{ns:List (List D)} (ha:Acc base sz v s l) (ht:jk P t=some (et,i)) (hz:i.sz=sz) (h0:0<sz) (hb:0<i.Cx)
  (hl:∀e∈l,e.length=sz) (hn:∀e∈ns,e.length=sz) (dP:0<ns.length) (fY:(l.length+ns.length)*i.Cx<=140737488355328) (hk:∀v' s',Acc base sz v' s' (l++ns)->K v' s'):dj P t v (.fu ns) s K:=by
 subst hz;have Te:∀e∈ns.map (λ(e:List D)=>e.map V.d),e.length=i.sz:=by intro e he;obtain⟨d,hd,rfl⟩:=List.mem_map.1 he;simpa using hn d hd
 unfold dj;simp only[ht,jj];refine⟨⟨Te,h0,hb⟩,?_⟩;rcases ha with ⟨rfl,rfl⟩|⟨g,rfl,rfl⟩
 ·simp only;refine⟨⟨.inr (by simpa using dP),by simpa using fY,hl⟩,?_⟩;have:=hk (.so s.length 0 0 (l++ns).length) (s++[⟨0,true,i.sz,(l++ns).map (·.map .d)⟩]) (.inr ⟨0,rfl,rfl⟩);simpa [akf]using this
 ·simp only[wo];rw[ajh (ajc _),akp];simp only[ajv,true_and];refine⟨⟨aj,by simpa using fY⟩,?_⟩;have:=hk (.so base.length (g+1) 0 (l++ns).length) (base++[⟨g+1,true,i.sz,(l++ns).map (·.map .d)⟩]) (.inr ⟨g+1,rfl,rfl⟩);have he:((l.map (λ(e:List D)=>e.map V.d)).take l.length)=l.map (λ(e:List D)=>e.map V.d):=ajb aj;simp only[ajQ,aiW,he];rw[akh _ _ (ajc _),akp];simpa [akf]using this
theorem Gn (f:V->Option D) (hf:∀x,f (.d x)=some x):∀l:List (List D),((l.map λc=>c.map V.d).mapM λ(e:List V)=>e.mapM f)=some l
 |[]=>rfl
 |c::l=>by
  have h1:∀c:List D,(c.map V.d).mapM f=some c:=by
   intro c;induction c with
   |nil=>rfl
   |cons x c ih=>rw[aiZ,aki,hf,ih];rfl
  rw[aiZ,aki,h1,Gn f hf l];rfl
theorem Acc.Zl{lim:Nat} (ha:Acc base sz v s l) (h:lim<=base.length):bm lim s v=some (.d (.sl l)):=by
 rcases ha with ⟨rfl,rfl⟩|⟨g,rfl,rfl⟩
 ·rfl
 ·simp only[bm,cR];rw[ajh (ajc _),akp];simp only[ajv,true_and];rw[be ⟨aj,.inl h⟩];have he:((l.map (λ(e:List D)=>e.map V.d)).take l.length)=l.map (λ(e:List D)=>e.map V.d):=ajb aj;rw[ajQ,he,Gn _ (λx=>rfl) l];rfl
theorem Uv{i:RF}{aw ds:List (List D)} (ht:jk P t=some (et,i)) (h0:0<i.sz) (hb:0<i.Cx)
  (hl:∀e∈aw,e.length=i.sz) (hn:∀e∈ds,e.length=i.sz) (dP:0<aw.length) (fY:(aw.length+ds.length)*i.Cx<=140737488355328) (hk:K (.d (.sl (aw++ds))) s):dj P t (.fu aw) (.d (.sl ds)) s K:=by
 have Te:∀e∈ds.map (λ(e:List D)=>e.map V.d),e.length=i.sz:=by intro e he;obtain⟨d,hd,rfl⟩:=List.mem_map.1 he;simpa using hn d hd
 unfold dj;simp only[ht,jj];refine⟨⟨Te,h0,hb⟩,?_⟩;cases aw with
 |nil=>simp at dP
 |cons x aw=>exact⟨⟨fY,hl⟩,hk⟩
theorem Acc.get (ha:Acc base sz v s l) {id:Nat}{o:Obj} (h:base[id]?=some o):s[id]?=some o:=by
 rcases ha with ⟨rfl,rfl⟩|⟨g,rfl,rfl⟩
 ·exact h
 ·rw[ajj (List.getElem?_eq_some_iff.1 h).1];exact h
theorem K7{d t:Nat}:bX e d v t=if t=d then v else e t:=(rfl)
abbrev BG:=am @eq_self.{1} @hole.eq_1 @fF.eq_1 @mI.eq_1 @iP.eq_1 @iP.eq_2 @I6.eq_1<|am @I6.eq_2 @IQ.eq_1 @Ve.eq_1 @Rs.eq_1 @td.eq_1 @SR.eq_1 @TR.eq_1<|am @S0.eq_1 @gI.eq_1 @gI.eq_2 @gI.eq_3 @gI.eq_4 @gI.eq_5 @Go.Op.operands.eq_1<|am @Go.Op.operands.eq_2 @Go.Op.operands.eq_3 @Go.Op.operands.eq_4 @Go.Op.operands.eq_5 @Go.Op.operands.eq_6 @Go.Op.operands.eq_7 @Go.Op.operands.eq_8<|am @Go.Op.operands.eq_9 @Go.Op.operands.eq_10 @Go.Op.operands.eq_11 @Go.Op.operands.eq_12 @Go.Op.operands.eq_13 @Go.Op.operands.eq_14 @Go.Op.operands.eq_15<|am @Go.Op.operands.eq_16 @Go.Op.operands.eq_17 @Go.Op.operands.eq_18 @Go.Op.operands.eq_19 @Go.Op.operands.eq_20 @Go.Op.operands.eq_21 @Go.Op.operands.eq_22<|am @Go.Op.operands.eq_23 @Go.Op.operands.eq_24 @Go.Op.operands.eq_25 @Go.Op.operands.eq_26 @Go.Op.operands.eq_27 @Go.Op.operands.eq_28 @Go.Op.operands.eq_29<|am @Go.Op.operands.eq_30 @Go.Op.operands.eq_31 @Go.Op.operands.eq_32 @Go.Op.operands.eq_33 @Go.Op.operands.eq_34 @Go.Op.operands.eq_35 @Go.Op.operands.eq_36<|am @Go.Op.operands.eq_37 @Go.Op.operands.eq_38 @Go.Op.operands.eq_39 @Go.Op.operands.eq_40 @Go.Op.operands.eq_41 @Go.Op.operands.eq_42 @Go.Op.operands.eq_43<|am @Go.Call.operands.eq_1 @Array.toList_append.{0} @eI.eq_1 @eI.eq_2 @eI.eq_3 @eI.eq_4 @eI.eq_5<|am @eI.eq_6 @eI.eq_7 @zK.eq_1 @zK.eq_2 @zK.eq_3 @mN.eq_1 @eP.eq_1<|am @eP.eq_2 @jJ.eq_1 @jJ.eq_2 @K7 @ev.eq_1 @ev.eq_2 @ev.eq_3<|am @ev.eq_4 @Xx.eq_1 @Xx.eq_2 @cv.eq_1 @cv.eq_2 @cv.eq_3 @cv.eq_4<|am @qP.eq_1 @qe.eq_1 @qe.eq_2 @qe.eq_3 @sR.eq_1 @sR.eq_2 @dG.eq_1<|am @dG.eq_2 @dG.eq_3 @dG.eq_4 @dG.eq_5 @dG.eq_6 @dG.eq_7 @dG.eq_8<|am @dG.eq_9 @dG.eq_10 @dG.eq_11 @dG.eq_12 @fv.eq_1 @fv.eq_2 @fv.eq_3<|am @fv.eq_4 @fv.eq_5 @fv.eq_6 @fv.eq_7 @fv.eq_8 @fv.eq_9 @fv.eq_10<|am @fv.eq_11 @fv.eq_12 @fv.eq_13 @fv.eq_14 @fv.eq_15 @Cw.eq_1 @Cw.eq_2<|am @Cw.eq_3 @kD.eq_1 @kD.eq_2 @kD.eq_3 @kD.eq_4 @kD.eq_5 @kD.eq_6<|am @ze.eq_1 @Jc.eq_1 @Jc.eq_2 @Nb.eq_1 @Nb.eq_2 @PO.eq_1 @bm.eq_1<|am @bm.eq_2 @bm.eq_3 @bm.eq_4 @bm.eq_5 @bm.eq_6 @bm.eq_7 @bm.eq_8<|am @bm.eq_9 @bm.eq_10 @bm.eq_11 @bm.eq_12 @bm.go.eq_1 @bm.go.eq_2 @cR.eq_1<|am @cR.eq_2 @cR.eq_3 @cR.eq_4 @cR.eq_5 @cR.eq_6 @cR.eq_7 @cR.eq_8<|am @iX.eq_1 @iX.eq_2 @iX.eq_3 @mz.eq_1 @qQ.eq_1 @qQ.eq_2 @qQ.eq_3<|am @iY.eq_1 @BZ.eq_1 @qF.eq_1 @mo.eq_1 @mo.eq_2 @mo.eq_3 @mo.eq_4<|am @mo.eq_5 @dT.eq_1 @dT.eq_2 @fh.eq_1 @ny.eq_1 @ny.eq_2 @lj.eq_1<|am @lj.eq_2 @lj.eq_3 @tW.eq_1 @Xe.eq_1 @wo.eq_1 @zv.eq_1 @zv.eq_2<|am @qn.eq_1 @qn.eq_2 @qn.eq_3 @qn.eq_4 @List.map_cons.{0,0} @List.map_nil.{0,0} @List.toList_toArray.{0}<|am @List.getElem?_cons_zero.{0} @List.getElem?_cons_succ.{0} @List.take_zero.{0} @List.all_nil.{0} @List.length_cons.{0} @List.length_nil.{0} @List.drop_zero.{0}<|am @List.drop_succ_cons.{0} @if_true.{1} @if_false.{1} @List.nil_append.{0} @List.cons_append.{0} @ne_eq.{1} @qG.eq_1<|am @e9.eq_1 @xz.eq_1 @xz.eq_2 @uO.eq_1 @uO.eq_2 @u6.eq_1 @P4.eq_1<|am @P4.eq_2 @P4.eq_3 @gY.eq_1 @jj.eq_1 @jj.eq_2 @jj.eq_3 @jj.eq_4<|am @bc.eq_1 @ak.eq_1 @ak.eq_2 @ak.eq_3 @ak.eq_4 @ak.eq_5 @ak.eq_6<|am @ak.eq_7 @ak.eq_8 @ak.eq_9 @ak.eq_10 @ak.eq_11 @ak.eq_12 @ak.go.eq_1<|am @ak.go.eq_2 @ma.eq_1 @CA.eq_1 @CA.eq_2 @LY.eq_1 @LY.eq_2 @qU.eq_1<|am @qU.eq_2 @fD.eq_1 @fD.eq_2 @fD.eq_3 @List.replicate.eq_1.{0} @List.replicate.eq_2.{0} @List.mapM_cons.{0,0,0}<|am @List.mapM_nil.{0,0,0} @Option.pure_def.{0} @Option.bind_eq_bind.{0} @Option.bind_some.{0,0} @iK.eq_1 @List.set_cons_zero.{0} @List.set_cons_succ.{0}<|am @List.take_succ_cons.{0} @List.contains_nil.{0} @List.contains_cons.{0} @List.flatMap_cons.{0,0} @List.flatMap_nil.{0,0} @List.all_cons.{0} @List.append_nil.{0}<|am @List.length_map.{0,0} @List.getElem?_map.{0,0} @Option.map_some.{0,0} @j0.eq_1 @xA.eq_1 @oW.eq_1 @kq.eq_1<|am @kq.eq_2 @kq.eq_3 @kq.eq_4 @Go.VL.K0 @Go.VL.Ly @Go.VL.L7 @Go.VL.Hq<|am @Go.VL.O8 @Go.VL.GS @Go.VL.OG @Go.VL.Pb @Go.VL.PR @Go.VL.Uy @Go.VL.Th<|am @Go.VL.Lm @Go.VL.HC @Go.VL.G6 @Go.VL.EL @Go.VL.HI @Go.VL.JZ @Go.VL.Gw<|And.intro @Go.VL.GI<|And.intro @Go.VL.Jx<|And.intro @Go.VL.Gv<|And.intro @Go.VL.Ey @mS.eq_1
end Go.VL
namespace Go.Proofs.Ytfmdmlfhigocaaa
open Go.VL Go.Proofs.Try
def iD (n:Int):D:=.sc (.int .i64 n)
def bD (b:Bool):D:=.sc (.bool b)
def i64 (n:Int):V:=.d (.sc (.int .i64 n))
def bV (b:Bool):V:=.d (.sc (.bool b))
abbrev an (l:List Int):D:=.sl (l.map λx=>[iD x])
theorem bF (n:Int) (h:-9223372036854775808<=n/\n<=9223372036854775807):IntKind.i64.wrap n=n:=IntWalk.i64_in n h
def aU (s:Int×Int):List D:=[iD s.1,iD s.2]
inductive Re where
 |mk (op:Int) (set:List (Int×Int)) (kids:List Re) (mn mx mode n:Int) (neg:Bool)
def Re.op:Re->Int|.mk x _ _ _ _ _ _ _=>x
def Re.set:Re->List (Int×Int)|.mk _ x _ _ _ _ _ _=>x
def Re.kids:Re->List Re|.mk _ _ x _ _ _ _ _=>x
def Re.mn:Re->Int|.mk _ _ _ x _ _ _ _=>x
def Re.mx:Re->Int|.mk _ _ _ _ x _ _ _=>x
def Re.mode:Re->Int|.mk _ _ _ _ _ x _ _=>x
def Re.n:Re->Int|.mk _ _ _ _ _ _ x _=>x
def Re.neg:Re->Bool|.mk _ _ _ _ _ _ _ x=>x
mutual
def Re.cells:Re->List D
 |.mk op set kids mn mx mode n neg=>[iD op,.sl (set.map aU),.sl (Re.AJ kids),iD mn,iD mx,iD mode,iD n,bD neg]
def Re.AJ:List Re->List (List D)
 |[]=>[]
 |k::l=>k.cells::Re.AJ l
end
theorem Re.Hh:∀l:List Re,Re.AJ l=l.map Re.cells
 |[]=>by simp [Re.AJ]
 |k::l=>by simp [Re.AJ,Re.Hh l]
theorem Re.ah (re:Re):re.cells=[iD re.op,.sl (re.set.map aU),.sl (re.kids.map Re.cells),iD re.mn,iD re.mx,iD re.mode,iD re.n,bD re.neg]:=by
 cases re;simp [Re.cells,Re.Hh,Re.op,Re.set,Re.kids,Re.mn,Re.mx,Re.mode,Re.n,Re.neg]
theorem Re.fW (re:Re):re.cells.length=8:=by rw[Re.ah];rfl
def kj (re:Re):V:=.ag (re.cells.map .d)
theorem DX (re:Re):(re.cells.map V.d).take 8=re.cells.map V.d:=ajb (by simp [Re.fW])
theorem Ei (re:Re):(re.cells.map V.d).drop 8=[]:=List.drop_of_length_le (by simp [Re.fW])
theorem JF (re:Re):V.ag (re.cells.map V.d)=kj re:=rfl
theorem aq (re:Re):kj re=.ag [.d (iD re.op),.d (.sl (re.set.map aU)),.d (.sl (re.kids.map Re.cells)),.d (iD re.mn),.d (iD re.mx),.d (iD re.mode),.d (iD re.n),.d (bD re.neg)]:=by rw[kj,Re.ah];rfl
theorem ca (ρ:List Nat) (re:Re):aS ρ (kj re)=kj re:=by rw[aq];rfl
def gH (re:Re):V:=.d (.el re.cells)
mutual
def Re.size:Re->Nat
 |.mk _ _ kids _ _ _ _ _=>1+Re.bT kids
def Re.bT:List Re->Nat
 |[]=>0
 |k::l=>k.size+Re.bT l
end
theorem Re.size_eq (re:Re):re.size=1+Re.bT re.kids:=by cases re;simp [Re.size,Re.kids]
theorem Re.size_pos (re:Re):0<re.size:=by rw[Re.size_eq];omega
theorem Re.Ay:∀{l:List Re}{k:Re},k∈l->k.size<=Re.bT l
 |k'::l,k,h=>by
  simp only[Re.bT];rcases List.mem_cons.1 h with rfl|h
  ·omega
  ·have:=Re.Ay h;omega
theorem Re.bN {re k:Re} (h:k∈re.kids):k.size<re.size:=by have:=Re.Ay h;rw[Re.size_eq re];omega
theorem Re.mP:∀l:List Re,l.length<=Re.bT l
 |[]=>aj
 |k::l=>by simp only[ai8,Re.bT];have:=Re.mP l;have:=k.size_pos;omega
theorem bj {α:Type}{l:List α}{i:Nat}{x:α} (h:l[i]?=some x):l.take (i+1)=l.take i++[x]:=by rw[List.take_add_one,h];rfl
theorem Re.gX:∀a b:List Re,Re.bT (a++b)=Re.bT a+Re.bT b
 |[],b=>by simp [Re.bT]
 |k::l,b=>by simp only[aiX,Re.bT,Re.gX l b];omega
theorem Re.D5 (l:List Re) (i:Nat):Re.bT (l.take i)<=Re.bT l:=by
 conv=>rhs;rw[<- aku i l]
 rw[Re.gX];omega
theorem Dz (re:Re):eH (kj re)=some (re.cells.map V.d):=rfl
theorem mapM_some {α β:Type} (f:α->Option β) (g:β->α) (h:∀x,f (g x)=some x):∀l:List β,(l.map g).mapM f=some l
 |[]=>rfl
 |x::l=>by rw[aiZ,aki,h,mapM_some f g h l];rfl
theorem MJ (cs:List D):(cs.map V.d).mapM P4=some cs:=mapM_some P4 V.d (λ_=>rfl) cs
theorem OE (n lim:Nat) (s:List VL.Obj) (x:D):cR n lim s (.d x)=some x:=by cases n <;> rfl
theorem Bf (n lim:Nat) (s:List VL.Obj) (cs:List D):(cs.map V.d).mapM (cR n lim s)=some cs:=mapM_some (cR n lim s) V.d (OE n lim s) cs
theorem oV (n lim:Nat) (s:List VL.Obj) (l:List (List D)):(l.map λc=>c.map V.d).mapM (λ(e:List V)=>e.mapM (cR n lim s))=some l:=mapM_some (λ(e:List V)=>e.mapM (cR n lim s)) (λc=>c.map V.d) (Bf n lim s) l
theorem Re.ind {Q:Re->Prop} (h:∀re,(∀k∈re.kids,Q k)->Q re) (re:Re):Q re:=by
 induction hn:re.size using Nat.strongRecOn generalizing re with
 |_ n ih=>exact h re λk hk=>ih k.size (by have:=Re.bN hk;omega) k rfl
abbrev BB:=am @Dz @MJ @Bf @oV @OE @Re.fW @DX<|And.intro @Ei @JF
abbrev zX:=And.intro E6<|And.intro BB<|And.intro BG<|And.intro nX @dj.eq_1
abbrev zW:=And.intro vsA<|And.intro BB<|And.intro BG<|And.intro nX @dj.eq_1
abbrev zQ:=And.intro zX<|And.intro @i64.eq_1<|And.intro @bV.eq_1<|And.intro @iD.eq_1 @bD.eq_1
abbrev zI:=And.intro zX @i64.eq_1
abbrev zJ:=And.intro zW @i64.eq_1
abbrev zU:=am @GN @List.contains_cons.{0} @List.contains_nil.{0} akq ajx Bool.or_true ajC<|And.intro @bX.eq_1<|And.intro @oY<|And.intro @mX<|And.intro @aY<|And.intro @if_true.{1} @if_false.{1}
theorem HA (lim:Nat) (s:List VL.Obj):∀l:List D,bm.go lim s (l.map V.d)=some (l.map V.d)
 |[]=>rfl
 |x::l=>by rw[aiZ,bm.go,HA lim s l];rfl
theorem Uk (lim:Nat) (s:List VL.Obj) (re:Re):bm lim s (kj re)=some (kj re):=by unfold kj;rw[bm,HA];rfl
theorem P7 (lim:Nat) (re:Re):ak lim (kj re)=true:=by unfold kj;rw[ak,Oh]
inductive Goal where
 |nil
 |mk (kind:Int) (re:Re) (k fH:Int) (next:Goal)
abbrev aD:=List (Int×Int)
def df (c:aD):D:=.sl (c.map aU)
def Goal.d:Goal->D
 |.nil=>.sc (.pointer none)
 |.mk kind re k fH next=>.el (iD kind::(re.cells++[iD k,iD fH,next.d]))
structure bh where
 steps:Int
 empty:Bool
 ends:List Int
 ai:List aD
inductive Task where
 |run (g:Goal) (i:Int) (c:aD)
 |rep (g:Goal) (i:Int) (c:aD)
 |node (g:Goal) (i:Int) (c:aD)
def oo (t:List Int) (i:Int):Int:=t.getD i.toNat 0
def tx (x:Int):Bool:=(decide (48<=x)&&decide (x<=57))||((decide (65<=x)&&decide (x<=90))||((decide (97<=x)&&decide (x<=122))||decide (x=95)))
def qj (t:List Int) (i:Int):Bool:=decide (0<i)&&tx (oo t (i-1))
def mi (t:List Int) (i:Int):Bool:=decide (i<t.length)&&tx (oo t i)
def bY (n:Int) (t:List Int) (i:Int):Bool :=
 if n=0 then decide (i=0) else if n=1 then decide (i=t.length)
 else if n=2 then decide (i=0)||decide (oo t (i-1)=10)
 else if n=3 then decide (i=t.length)||decide (oo t i=10)
 else if n=4 then qj t i != mi t i
 else qj t i == mi t i
def E7 (l:List (Int×Int)) (x:Int):Bool:=l.any λs=>decide (s.1<=x)&&decide (x<=s.2)
def ou (c:aD) (n fH to:Int):aD:=if 1<=n/\n<=c.length then c.set (n-1).toNat (fH,to) else c
def bG (c:aD) (n:Int):Int×Int:=if n<1\/(c.length:Int)<n then (-1,-1) else c.getD (n-1).toNat (-1,-1)
def Re.eo (re:Re) (m:Int):Re:=.mk re.op re.set re.kids re.mn re.mx m re.n re.neg
def bh.step (fuel:Int) (st:bh):bh:={ st with steps:=st.steps+1,empty:=st.empty||decide (fuel<st.steps+1) }
def rS (r:Option (Bool×bh)) (k:bh->Option (Bool×bh)):Option (Bool×bh) :=
 match r with
 |none=>none
 |some (true,s)=>some (true,s)
 |some (false,s)=>k s
def cF (rec:Int->Task->bh->Option (Bool×bh)) (g:Goal) (i:Int) (c:aD) (st:bh):Option (Option (Int×aD)×bh) :=
 match rec 1 (.run g i c) ⟨st.steps,false,[],[]⟩ with
 |none=>none
 |some (_,x)=>if x.empty then some (none,{ st with steps:=x.steps,empty:=x.empty }) else match x.ends,x.ai with
   |[],_=>some (none,{ st with steps:=x.steps,empty:=x.empty })
   |e::_,d::_=>some (some (e,d),{ st with steps:=x.steps,empty:=x.empty })
   |_::_,[]=>none
def dh (f:Int->bh->Option (Option (Int×aD)×bh)):Nat->bh->Option (Option aD×bh)
 |0,st=>some (none,st)
 |n+1,st=>if st.empty then some (none,st) else match f n st with
  |none=>none
  |some (some (_,d),st')=>some (some d,st')
  |some (none,st')=>dh f n st'
def lG (rec:Int->Task->bh->Option (Bool×bh)) (op:Int) (aP:Re) (i:Int) (c:aD) (st:bh):Option (Option aD×bh) :=
 if op=7 then match cF rec (.mk 0 aP 0 0 .nil) i c st with
  |none=>none
  |some (r,st')=>some (r.map (·.2),st')
 else dh (λk st=>cF rec (.mk 0 aP 0 0 (.mk 4 (.mk 0 [] [] 0 0 0 0 false) 0 i .nil)) k c st) (i.toNat+1) st
def iB (kids:List Re) (next:Goal):Goal:=kids.foldr (λk nx=>.mk 0 k 0 0 nx) next
def po (f:Re->bh->Option (Bool×bh)):List Re->bh->Option (Bool×bh)
 |[],st=>some (false,st)
 |k::l,st=>rS (f k st) (po f l)
def ph (t:List Int) (a i:Int) (n:Nat):Bool:=(List.range n).all λj=>oo t (a+j) == oo t (i+j)
def dI (t:List Int) (rec:Int->Task->bh->Option (Bool×bh)) (most:Int) (re:Re) (next:Goal) (i:Int) (c:aD) (st:bh):Option (Bool×bh) :=
 if re.op=1 then (if i<t.length/\E7 re.set (oo t i)=true then rec most (.run next (i+1) c) st else some (false,st))
 else if re.op=2 then rec most (.run (iB re.kids next) i c) st
 else if re.op=3 then po (λk st=>rec most (.run (.mk 0 k 0 0 next) i c) st) re.kids st
 else if re.op=5 then match re.kids with
  |[]=>none
  |aP::_=>rec most (.run (.mk 0 aP 0 0 (.mk 3 re 0 i next)) i c) st
 else if re.op=6 then
  let x:=bG c re.n
  if x.1<0 then some (false,st)
  else if x.2<x.1\/(t.length:Int)<x.2 then none
  else if t.length<i+x.2-x.1 then some (false,st)
  else if ph t x.1 i (x.2-x.1).toNat=true then rec most (.run next (i+x.2-x.1) c) st else some (false,st)
 else if re.op=7\/re.op=8 then match re.kids with
  |[]=>none
  |aP::_=>match lG rec re.op aP i c st with
   |none=>none
   |some (r,st') =>
    if st'.empty then some (true,st')
    else if re.neg=true then (match r with
     |some _=>some (false,st')
     |none=>rec most (.run next i c) st')
    else match r with
     |some d=>rec most (.run next i d) st'
     |none=>some (false,st')
 else if re.op=9 then match re.kids with
  |[]=>none
  |aP::_=>match cF rec (.mk 0 aP 0 0 .nil) i c st with
   |none=>none
   |some (r,st')=>if st'.empty then some (true,st') else match r with
    |some (e,d)=>rec most (.run next e d) st'
    |none=>some (false,st')
 else if re.op=10 then match re.kids with
  |yes::no::_=>rec most (.run (.mk 0 (if 0<=(bG c re.n).1 then yes else no) 0 0 next) i c) st
  |_=>none
 else if re.op=11 then (if bY re.n t i=true then rec most (.run next i c) st else some (false,st))
 else rec most (.run next i c) st
def qT (fuel:Int) (rec:Int->Task->bh->Option (Bool×bh)) (most:Int) (re:Re) (k:Int) (next:Goal) (i:Int) (c:aD) (st:bh):Option (Bool×bh) :=
 if re.mode=2 then match cF rec (.mk 1 (re.eo 0) 0 0 .nil) i c st with
  |none=>none
  |some (r,st')=>match r with
   |some (e,d)=>rec most (.run next e d) st'
   |none=>some (st'.empty,st')
 else if st.steps<0\/10000000000000<st.steps then none
 else
  let s1:=st.step fuel
  if s1.empty then some (true,s1)
  else match re.kids with
   |[]=>none
   |aP::_ =>
    let more:=re.mx=-1\/k<re.mx;let once:bh->Option (Bool×bh):=λs=>rec most (.run (.mk 0 aP 0 0 (.mk 2 re k i next)) i c) s
    if k<re.mn then once s1
    else if re.mode=1 then rS (rec most (.run next i c) s1) (λs=>if more then once s else some (false,s))
    else rS (if more then once s1 else some (false,s1)) (λs=>rec most (.run next i c) s)
def bI (t:List Int) (fuel:Int) (rec:Int->Task->bh->Option (Bool×bh)) (most:Int):Task->bh->Option (Bool×bh)
 |.run g i c,st =>
  if i<0\/(t.length:Int)<i then none else match g with
  |.nil=>if st.ends.length<2000000000000/\st.ai.length=st.ends.length then some (decide (0<=most)&&decide (most<=(st.ends.length:Int)+1),{ st with ends:=st.ends++[i],ai:=st.ai++[c] }) else none
  |.mk kind re k fH next =>
   if kind=1 then rec most (.rep (.mk kind re k fH next) i c) st
   else if kind=2 then (if re.mn<=k/\i=fH then some (false,st) else if k<0\/10000000000000<k then none else rec most (.run (.mk 1 re (k+1) 0 next) i c) st)
   else if kind=3 then (if 1000000000<c.length then none else rec most (.run next i (ou c re.n fH i)) st)
   else if kind=4 then (if i=fH then rec most (.run next i c) st else some (false,st))
   else rec most (.node (.mk kind re k fH next) i c) st
 |.rep g i c,st=>if i<0\/(t.length:Int)<i then none else match g with
  |.nil=>none
  |.mk _ re k _ next=>qT fuel rec most re k next i c st
 |.node g i c,st=>if i<0\/(t.length:Int)<i then none else match g with
  |.nil=>none
  |.mk _ re _ _ next =>
   if re.op=4 then rec most (.rep (.mk 1 re 0 0 next) i c) st
   else if 1000000000<re.set.length\/1000000000<re.kids.length\/1000000000<c.length then none
   else if st.steps<0\/10000000000000<st.steps then none
   else if (st.step fuel).empty then some (true,st.step fuel)
   else dI t rec most re next i c (st.step fuel)
def fV (t:List Int) (fuel:Int):Nat->Int->Task->bh->Option (Bool×bh)
 |0=>λ_ _ _=>none
 |n+1=>bI t fuel (fV t fuel n)
theorem Oc (re:Re):re.size<=1000000000->aM prog 46 [kj re] (i64 re.size):=by
 induction re using Re.ind with
 |h re ih =>
 intro hs;have hlen:=Re.mP re.kids;have fY:=Re.size_eq re;refine bk func46 ntmps46 results46 0 31 ?_;simp only[zW,simprocAttr,aq re,iD,bD];refine ay (λn e s=>∃i:Nat,n=re.kids.length-i/\i<=re.kids.length/\e 1=.rf 0 0 0 0/\e 3=i64 (1+Re.bT (re.kids.take i):Nat)/\e 4=i64 i/\s=[⟨0,true,8,[re.cells.map .d]⟩]) ⟨_,_,_,bJ.refl,0,rfl,aj,rfl,rfl,rfl,by simp [Re.ah re,iD,bD]⟩ ?_;rintro n e s ⟨i,rfl,hi,h1,h3,h4,rfl⟩;rcases ajr i re.kids.length with aB|iA
 ·obtain⟨k,hk⟩:∃k,re.kids[i]?=some k:=bZ aB;have hm:=ai4 hk;have JM:=Re.bN hm;simp only[zW,simprocAttr,Re.ah re,iD,bD,h1,h3,h4,i64,aB,hk];refine bO (ih k hm ae) ?_;have h5:=Re.D5 re.kids (i+1);rw[bj hk,Re.gX]at h5;simp only[Re.bT]at h5;simp only[zW,simprocAttr,Re.ah re,iD,bD,h1,h3,h4,i64,aB,hk];refine⟨_,_,_,?_,bJ.refl,i+1,rfl,aB,?_⟩
  ·omega
  simp only[bX,Nat.reduceEqDiff,if_true,if_false];refine⟨h1,?_,?_,by simp [Re.ah re,iD,bD]⟩
  ·rw[bF _ ae,bj hk,Re.gX];simp only[Re.bT,i64];congr 3;omega
  ·rw[bF _ ae];rfl
 ·have dY:i=re.kids.length:=by omega
  subst dY;simp only[zW,simprocAttr,Re.ah re,iD,bD,h1,h3,h4,i64,aj7];simp [fY]
theorem mix:prog.follows .mixedOrders=true:=aN
def fx (n:Int):Prop:=-9223372036854775808<=n/\n<=9223372036854775807
def cZ (n most:Int):Int:=if n<0 then (-(n+1)).tmod most else n.tmod most
theorem gQ (n m:Int) (hm:1<=m) (hn:fx n):aM prog 11 [i64 n,i64 m] (i64 (cZ n m)):=by
 unfold fx at hn;refine bk func11 ntmps11 results11 0 19 ?_;simp only[vsA,BB,BG,dj,simprocAttr,i64];refine⟨λh=>⟨ae,?_⟩,λh=>⟨ae,?_⟩⟩
 ·rw[bF (n+1) ae,bF _ ae];simp [cZ,h]
 ·simp [cZ,h]
def pick (l:List Int) (i:Int) (most:Int):Int:=if i<0\/l.length<=i then 0 else cZ (l[i.toNat]?.getD 0) most
theorem CT (l:List Int) (hl:∀x∈l,fx x) (i m:Int) (hm:1<=m):aM prog 34 [.d (an l),i64 i,i64 m] (i64 (pick l i m)):=by
 refine bk func34 ntmps34 results34 0 71 ?_;by_cases h0:i<0
 ·simp only[zJ,simprocAttr,an,iD,h0];simp [h0,pick]
 ·by_cases h1:(l.length:Int)<=i
  ·simp only[zJ,simprocAttr,an,iD,h0,h1,ge_iff_le];simp [h0,pick];omega
  ·have aB:i.toNat<l.length:=by omega
   obtain⟨x,hx⟩:∃x,l[i.toNat]?=some x:=bZ aB;simp only[zJ,simprocAttr,an,iD,h0,h1,ge_iff_le,hx,show 0<=i by omega,show i<l.length by omega];refine bO (gQ x m hm (hl x (ai4 hx))) ?_;simp only[zW,simprocAttr,i64];simp [h0,pick,hx];omega
end Go.Proofs.Ytfmdmlfhigocaaa
