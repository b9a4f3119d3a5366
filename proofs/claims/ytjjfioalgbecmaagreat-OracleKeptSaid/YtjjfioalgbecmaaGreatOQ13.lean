/- A part of the proof (Vv Vw Vy Da Db G1 F2 F3). -/
import Derived.Test.YtjjfioalgbecmaaGreatOQ8
import Derived.Test.YtjjfioalgbecmaaGreatOQ12
set_option linter.unusedSimpArgs false
set_option linter.unusedVariables false
set_option maxRecDepth 100000
set_option maxHeartbeats 80000000
namespace Go.VL
variable{p:Prop}{b:Bool}{e:Env}{A:Env->Prop}{B:Env->Prop}{base:List Obj}{sz:Nat}{l:List (List D)}{s:List Obj}{v:V}
theorem jQ {α β:Type}{A B:α->β->Prop}{e:α}{s:β} [Decidable p] (h:p->A e s) (k:¬p->B e s):mb (.d (.sc (.bool (decide p)))) A B e s:=by rw[zg];exact⟨h,k⟩
theorem gX {α β:Type}{A B:α->β->Prop}{e:α}{s:β} (h:b=true->A e s) (k:b=false->B e s):mb (.d (.sc (.bool b))) A B e s:=by rw[Pz];exact⟨h,k⟩
theorem dI {d:Nat} [Decidable p] (h:p->A (bK e d (.d (.sc (.bool true))))) (k:¬p->B (bK e d (.d (.sc (.bool false))))):eT (.d (.sc (.bool (decide p)))) d true A B e:=by rw[Ah];exact⟨h,k⟩
theorem dH {d:Nat} [Decidable p] (h:p->B (bK e d (.d (.sc (.bool true))))) (k:¬p->A (bK e d (.d (.sc (.bool false))))):eT (.d (.sc (.bool (decide p)))) d false A B e:=by rw[yY];exact⟨h,k⟩
theorem cZ {d:Nat} [Decidable p] (h:p->B (bK e d (.d (.sc (.bool false))))) (k:¬p->A (bK e d (.d (.sc (.bool true))))):eT (.d (.sc (.bool (!decide p)))) d true A B e:=by rw[xc];exact⟨h,k⟩
theorem cY {d:Nat} [Decidable p] (h:p->A (bK e d (.d (.sc (.bool false))))) (k:¬p->B (bK e d (.d (.sc (.bool true))))):eT (.d (.sc (.bool (!decide p)))) d false A B e:=by rw[wW];exact⟨h,k⟩
theorem dF {d:Nat}{w:Bool} (h:b=true->eT (.d (.sc (.bool true))) d w A B e) (k:b=false->eT (.d (.sc (.bool false))) d w A B e):eT (.d (.sc (.bool b))) d w A B e:=by
 cases b
 ·exact k rfl
 ·exact h rfl
theorem Jq {α:Type}{x:α}:(some x).toArray.toList=[x]:=(rfl)
theorem LB {α:Type}:(none:Option α).toArray.toList=[]:=(rfl)
theorem xD {f:Operand->V}:Option.map f none=none:=(rfl)
theorem GS {d:Int}:BB none d=some d:=(rfl)
theorem KD {k:IntKind}{n d:Int}:BB (some (.d (.sc (.int k n)))) d=some n:=(rfl)
abbrev IM:=am @Jq @LB @GS @KD @xD @px @mD<|am @pw @oH @qS @kZ @py @rh @uC<|am @u6 @uw @HK @HZ @Hw @HG @oY<|am @vf @uA @vx @uO @vv @rP @ph<|am @vk @r8 @pr @uN @BW @BU @x5<|am @yr @H5 @pj @xM @u9 @pA @yy<|am @uX @ya @uD @po @qP @xE @rA<|am @kr @vh @ny @pL @lq @rV @yB<|am @yD @uo @nJ @mH @lp @rW @la<|am @qY @lJ @rp @nM @uH @uZ @uj<|am @vq @uL @yn @rO @yE @ur @BZ<|am @uz @lP @xW @pz @rj @mA @rD<|am @uR @BN @yl @yb @x8 @xR @x6<|am @yg @xZ @pC @nm @mz @uF @my<|am @uE @mF @uW @pK @x9 @uY @BQ<|am @rY @x3 @uS @B4 @BG @xV @nQ<|am @mo @aS @uP @yf @uU @u7 @uB<|am @vn @true_and @and_true @true_or @or_true @Bool.not_true @Bool.not_false<|am @false_or @or_false @decide_eq_true_eq @true_imp_iff @false_imp_iff @not_true_eq_false @not_false_eq_true<|am @decide_eq_false_iff_not @Bool.and_self @Bool.or_false @Bool.false_or @Bool.or_true @Bool.true_or @Bool.and_true<|am @Bool.true_and @Int.toNat_natCast @Int.ofNat_lt @Int.natCast_nonneg @decide_true @decide_false @V.d.injEq<|And.intro @D.sc.injEq<|And.intro @Go.Value.int.injEq @Go.Value.bool.injEq
def Acc (base:List Obj) (sz:Nat) (v:V) (s:List Obj) (l:List (List D)):Prop :=
 (v=.fu l/\s=base)\/∃g,v=.so base.length g 0 l.length/\s=base++[⟨g,true,sz,l.map (·.map .d)⟩]
theorem Acc.append {P:Program}{t et:TypeId}{i:RW}{ns:List (List D)}{K:V->List Obj->Prop} (ha:Acc base sz v s l) (ht:iL P t=some (et,i)) (hz:i.sz=sz) (h0:0<sz) (hb:0<i.A3)
  (hl:∀e∈l,e.length=sz) (hn:∀e∈ns,e.length=sz) (eU:0<ns.length) (eZ:(l.length+ns.length)*i.A3<=140737488355328) (hk:∀v' s',Acc base sz v' s' (l++ns)->K v' s'):dt P t v (.fu ns) s K:=by
 subst hz;have hn':∀e∈ns.map (λ(e:List D)=>e.map V.d),e.length=i.sz:=by intro e he;obtain⟨d,hd,rfl⟩:=List.mem_map.1 he;simpa using hn d hd
 unfold dt;simp only[ht,il];refine⟨⟨hn',h0,hb⟩,?_⟩;rcases ha with ⟨rfl,rfl⟩|⟨g,rfl,rfl⟩
 ·simp only;refine⟨⟨.inr (by simpa using eU),by simpa using eZ,hl⟩,?_⟩;have:=hk (.so s.length 0 0 (l++ns).length) (s++[⟨0,true,i.sz,(l++ns).map (·.map .d)⟩]) (.inr ⟨0,rfl,rfl⟩);simpa [akF]using this
 ·simp only[tE];rw[List.getElem?_append_right (ajZ _),akQ];simp only[List.getElem?_cons_zero,true_and];refine⟨⟨ak,by simpa using eZ⟩,?_⟩;have:=hk (.so base.length (g+1) 0 (l++ns).length) (base++[⟨g+1,true,i.sz,(l++ns).map (·.map .d)⟩]) (.inr ⟨g+1,rfl,rfl⟩);have he:((l.map (λ(e:List D)=>e.map V.d)).take l.length)=l.map (λ(e:List D)=>e.map V.d):=akb ak;simp only[akJ,ajM,he];rw[akI _ _ (ajZ _),akQ];simpa [akF]using this
theorem FI (f:V->Option D) (hf:∀x,f (.d x)=some x):∀l:List (List D),((l.map λc=>c.map V.d).mapM λ(e:List V)=>e.mapM f)=some l
 |[]=>rfl
 |c::l=>by
  have h1:∀c:List D,(c.map V.d).mapM f=some c:=by
   intro c;induction c with
   |nil=>rfl
   |cons x c ih=>rw[ajR,akR,hf,ih];rfl
  rw[ajR,akR,h1,FI f hf l];rfl
theorem Acc.frz{lim:Nat} (ha:Acc base sz v s l) (h:lim<=base.length):bc lim s v=some (.d (.sl l)):=by
 rcases ha with ⟨rfl,rfl⟩|⟨g,rfl,rfl⟩
 ·rfl
 ·simp only[bc,cT];rw[List.getElem?_append_right (ajZ _),akQ];simp only[List.getElem?_cons_zero,true_and];rw[be ⟨ak,.inl h⟩];have he:((l.map (λ(e:List D)=>e.map V.d)).take l.length)=l.map (λ(e:List D)=>e.map V.d):=akb ak;rw[akJ,he,FI _ (λx=>rfl) l];rfl
theorem Acc.get (ha:Acc base sz v s l) {id:Nat}{o:Obj} (h:base[id]?=some o):s[id]?=some o:=by
 rcases ha with ⟨rfl,rfl⟩|⟨g,rfl,rfl⟩
 ·exact h
 ·rw[List.getElem?_append_left (List.getElem?_eq_some_iff.1 h).1];exact h
theorem Kv{d t:Nat}:bK e d v t=if t=d then v else e t:=(rfl)
abbrev E3:=am @eq_self.{1} @hole.eq_1 @ff.eq_1 @lZ.eq_1 @ic.eq_1 @ic.eq_2 @Ip.eq_1<|am @Ip.eq_2 @H8.eq_1 @Vm.eq_1 @QV.eq_1 @r9.eq_1 @SC.eq_1 @TL.eq_1<|am @SL.eq_1 @fN.eq_1 @fN.eq_2 @fN.eq_3 @fN.eq_4 @fN.eq_5 @Go.Op.operands.eq_1<|am @Go.Op.operands.eq_2 @Go.Op.operands.eq_3 @Go.Op.operands.eq_4 @Go.Op.operands.eq_5 @Go.Op.operands.eq_6 @Go.Op.operands.eq_7 @Go.Op.operands.eq_8<|am @Go.Op.operands.eq_9 @Go.Op.operands.eq_10 @Go.Op.operands.eq_11 @Go.Op.operands.eq_12 @Go.Op.operands.eq_13 @Go.Op.operands.eq_14 @Go.Op.operands.eq_15<|am @Go.Op.operands.eq_16 @Go.Op.operands.eq_17 @Go.Op.operands.eq_18 @Go.Op.operands.eq_19 @Go.Op.operands.eq_20 @Go.Op.operands.eq_21 @Go.Op.operands.eq_22<|am @Go.Op.operands.eq_23 @Go.Op.operands.eq_24 @Go.Op.operands.eq_25 @Go.Op.operands.eq_26 @Go.Op.operands.eq_27 @Go.Op.operands.eq_28 @Go.Op.operands.eq_29<|am @Go.Op.operands.eq_30 @Go.Op.operands.eq_31 @Go.Op.operands.eq_32 @Go.Op.operands.eq_33 @Go.Op.operands.eq_34 @Go.Op.operands.eq_35 @Go.Op.operands.eq_36<|am @Go.Op.operands.eq_37 @Go.Op.operands.eq_38 @Go.Op.operands.eq_39 @Go.Op.operands.eq_40 @Go.Op.operands.eq_41 @Go.Op.operands.eq_42 @Go.Op.operands.eq_43<|am @Go.Call.operands.eq_1 @Array.toList_append.{0} @ej.eq_1 @ej.eq_2 @ej.eq_3 @ej.eq_4 @ej.eq_5<|am @ej.eq_6 @ej.eq_7 @Bx.eq_1 @Bx.eq_2 @Bx.eq_3 @lR.eq_1 @dQ.eq_1<|am @dQ.eq_2 @gP.eq_1 @gP.eq_2 @Kv @ev.eq_1 @ev.eq_2 @ev.eq_3<|am @ev.eq_4 @XW.eq_1 @XW.eq_2 @cv.eq_1 @cv.eq_2 @cv.eq_3 @cv.eq_4<|am @pP.eq_1 @pg.eq_1 @pg.eq_2 @pg.eq_3 @rQ.eq_1 @rQ.eq_2 @dp.eq_1<|am @dp.eq_2 @dp.eq_3 @dp.eq_4 @dp.eq_5 @dp.eq_6 @dp.eq_7 @dp.eq_8<|am @dp.eq_9 @dp.eq_10 @dp.eq_11 @dp.eq_12 @eX.eq_1 @eX.eq_2 @eX.eq_3<|am @eX.eq_4 @eX.eq_5 @eX.eq_6 @eX.eq_7 @eX.eq_8 @eX.eq_9 @eX.eq_10<|am @eX.eq_11 @eX.eq_12 @eX.eq_13 @eX.eq_14 @eX.eq_15 @Bv.eq_1 @Bv.eq_2<|am @Bv.eq_3 @jP.eq_1 @jP.eq_2 @jP.eq_3 @jP.eq_4 @jP.eq_5 @jP.eq_6<|am @CS.eq_1 @Iu.eq_1 @Iu.eq_2 @Mt.eq_1 @Mt.eq_2 @Pa.eq_1 @bc.eq_1<|am @bc.eq_2 @bc.eq_3 @bc.eq_4 @bc.eq_5 @bc.eq_6 @bc.eq_7 @bc.eq_8<|am @bc.eq_9 @bc.eq_10 @bc.eq_11 @bc.eq_12 @bc.go.eq_1 @bc.go.eq_2 @cT.eq_1<|am @cT.eq_2 @cT.eq_3 @cT.eq_4 @cT.eq_5 @cT.eq_6 @cT.eq_7 @cT.eq_8<|am @iB.eq_1 @iB.eq_2 @iB.eq_3 @lT.eq_1 @pQ.eq_1 @pQ.eq_2 @pQ.eq_3<|am @iF.eq_1 @AX.eq_1 @pF.eq_1 @lK.eq_1 @lK.eq_2 @lK.eq_3 @lK.eq_4<|am @lK.eq_5 @dG.eq_1 @dG.eq_2 @eR.eq_1 @mK.eq_1 @mK.eq_2 @ks.eq_1<|am @ks.eq_2 @ks.eq_3 @sV.eq_1 @XF.eq_1 @tE.eq_1 @yh.eq_1 @yh.eq_2<|am @pq.eq_1 @pq.eq_2 @pq.eq_3 @pq.eq_4 @List.map_cons.{0,0} @List.map_nil.{0,0} @List.toList_toArray.{0}<|am @List.getElem?_cons_zero.{0} @List.getElem?_cons_succ.{0} @List.take_zero.{0} @List.all_nil.{0} @List.length_cons.{0} @List.length_nil.{0} @List.drop_zero.{0}<|am @List.drop_succ_cons.{0} @if_true.{1} @if_false.{1} @List.nil_append.{0} @List.cons_append.{0} @ne_eq.{1} @pI.eq_1<|am @eN.eq_1 @vX.eq_1 @vX.eq_2 @tC.eq_1 @tC.eq_2 @tM.eq_1 @Pn.eq_1<|am @Pn.eq_2 @Pn.eq_3 @fY.eq_1 @il.eq_1 @il.eq_2 @il.eq_3 @il.eq_4<|am @aK.eq_1 @aj.eq_1 @aj.eq_2 @aj.eq_3 @aj.eq_4 @aj.eq_5 @aj.eq_6<|am @aj.eq_7 @aj.eq_8 @aj.eq_9 @aj.eq_10 @aj.eq_11 @aj.eq_12 @aj.go.eq_1<|am @aj.go.eq_2 @ly.eq_1 @BB.eq_1 @BB.eq_2 @Ln.eq_1 @Ln.eq_2 @pX.eq_1<|am @pX.eq_2 @fe.eq_1 @fe.eq_2 @fe.eq_3 @List.replicate.eq_1.{0} @List.replicate.eq_2.{0} @List.mapM_cons.{0,0,0}<|am @List.mapM_nil.{0,0,0} @Option.pure_def.{0} @Option.bind_eq_bind.{0} @Option.bind_some.{0,0} @g8.eq_1 @List.set_cons_zero.{0} @List.set_cons_succ.{0}<|am @List.take_succ_cons.{0} @List.contains_nil.{0} @List.contains_cons.{0} @List.flatMap_cons.{0,0} @List.flatMap_nil.{0,0} @List.all_cons.{0} @List.append_nil.{0}<|am @List.length_map.{0,0} @List.getElem?_map.{0,0} @Option.map_some.{0,0} @jt.eq_1 @vY.eq_1 @nN.eq_1 @jH.eq_1<|am @jH.eq_2 @jH.eq_3 @jH.eq_4 @Go.VL.Km @Go.VL.KW @Go.VL.Lx @Go.VL.GW<|am @Go.VL.Ol @Go.VL.Gc @Go.VL.NQ @Go.VL.Ot @Go.VL.Pc @Go.VL.Uz @Go.VL.S1<|am @Go.VL.KL @Go.VL.Hb @Go.VL.Gs @Go.VL.Dk @Go.VL.Hf @Go.VL.Jm @Go.VL.FP<|And.intro @Go.VL.F3<|And.intro @Go.VL.IQ<|And.intro @Go.VL.FO<|And.intro @Go.VL.C8 @me.eq_1
end Go.VL
namespace Go.Proofs.YtjjfioalgbecmaaGreat
open Go.VL Go.Proofs.Tryz
def iD (n:Int):D:=.sc (.int .i64 n)
def bD (b:Bool):D:=.sc (.bool b)
def i64 (n:Int):V:=.d (.sc (.int .i64 n))
def bV (b:Bool):V:=.d (.sc (.bool b))
abbrev ao (l:List Int):D:=.sl (l.map λx=>[iD x])
theorem bG (n:Int) (h:-9223372036854775808<=n/\n<=9223372036854775807):IntKind.i64.wrap n=n:=IntWalk.i64_in n h
def aT (s:Int×Int):List D:=[iD s.1,iD s.2]
inductive Re where
 |mk (op:Int) (set:List (Int×Int)) (kids:List Re) (mn mx mode n:Int) (neg:Bool)
def Re.op:Re->Int|.mk x _ _ _ _ _ _ _=>x
def Re.set:Re->List (Int×Int)|.mk _ x _ _ _ _ _ _=>x
def Re.kids:Re->List Re|.mk _ _ x _ _ _ _ _=>x
def Re.mn:Re->Int|.mk _ _ _ x _ _ _ _=>x
def Re.mx:Re->Int|.mk _ _ _ _ x _ _ _=>x
def Re.mode:Re->Int|.mk _ _ _ _ _ x _ _=>x
def Re.n:Re->Int|.mk _ _ _ _ _ _ x _=>x
def Re.neg:Re->Bool|.mk _ _ _ _ _ _ _ x=>x
mutual
def Re.cells:Re->List D
 |.mk op set kids mn mx mode n neg=>[iD op,.sl (set.map aT),.sl (Re.CM kids),iD mn,iD mx,iD mode,iD n,bD neg]
def Re.CM:List Re->List (List D)
 |[]=>[]
 |k::l=>k.cells::Re.CM l
end
theorem Re.GI:∀l:List Re,Re.CM l=l.map Re.cells
 |[]=>by simp [Re.CM]
 |k::l=>by simp [Re.CM,Re.GI l]
theorem Re.ah (re:Re):re.cells=[iD re.op,.sl (re.set.map aT),.sl (re.kids.map Re.cells),iD re.mn,iD re.mx,iD re.mode,iD re.n,bD re.neg]:=by
 cases re;simp [Re.cells,Re.GI,Re.op,Re.set,Re.kids,Re.mn,Re.mx,Re.mode,Re.n,Re.neg]
theorem Re.kM (re:Re):re.cells.length=8:=by rw[Re.ah];rfl
def sN (re:Re):V:=.ag (re.cells.map .d)
theorem CC (re:Re):(re.cells.map V.d).take 8=re.cells.map V.d:=akb (by simp [Re.kM])
theorem CV (re:Re):(re.cells.map V.d).drop 8=[]:=List.drop_of_length_le (by simp [Re.kM])
theorem I3 (re:Re):V.ag (re.cells.map V.d)=sN re:=rfl
theorem av (re:Re):sN re=.ag [.d (iD re.op),.d (.sl (re.set.map aT)),.d (.sl (re.kids.map Re.cells)),.d (iD re.mn),.d (iD re.mx),.d (iD re.mode),.d (iD re.n),.d (bD re.neg)]:=by rw[sN,Re.ah];rfl
theorem yj (ρ:List Nat) (re:Re):aE ρ (sN re)=sN re:=by rw[av];rfl
def fA (re:Re):V:=.d (.el re.cells)
mutual
def Re.size:Re->Nat
 |.mk _ _ kids _ _ _ _ _=>1+Re.dw kids
def Re.dw:List Re->Nat
 |[]=>0
 |k::l=>k.size+Re.dw l
end
theorem Re.size_eq (re:Re):re.size=1+Re.dw re.kids:=by cases re;simp [Re.size,Re.kids]
theorem Re.size_pos (re:Re):0<re.size:=by rw[Re.size_eq];omega
theorem Re.y8:∀{l:List Re}{k:Re},k∈l->k.size<=Re.dw l
 |k'::l,k,h=>by
  simp only[Re.dw];rcases List.mem_cons.1 h with rfl|h
  ·omega
  ·have:=Re.y8 h;omega
theorem Re.de {re k:Re} (h:k∈re.kids):k.size<re.size:=by have:=Re.y8 h;rw[Re.size_eq re];omega
theorem Re.pR:∀l:List Re,l.length<=Re.dw l
 |[]=>ak
 |k::l=>by simp only[ajW,Re.dw];have:=Re.pR l;have:=k.size_pos;omega
theorem bm {α:Type}{l:List α}{i:Nat}{x:α} (h:l[i]?=some x):l.take (i+1)=l.take i++[x]:=by rw[List.take_add_one,h];rfl
theorem Re.nu:∀a b:List Re,Re.dw (a++b)=Re.dw a+Re.dw b
 |[],b=>by simp [Re.dw]
 |k::l,b=>by simp only[ajN,Re.dw,Re.nu l b];omega
theorem Re.MF (l:List Re) (i:Nat):Re.dw (l.take i)<=Re.dw l:=by
 conv=>rhs;rw[<- List.take_append_drop i l]
 rw[Re.nu];omega
theorem Cj (re:Re):eg (sN re)=some (re.cells.map V.d):=rfl
theorem mapM_some {α β:Type} (f:α->Option β) (g:β->α) (h:∀x,f (g x)=some x):∀l:List β,(l.map g).mapM f=some l
 |[]=>rfl
 |x::l=>by rw[ajR,akR,h,mapM_some f g h l];rfl
theorem L5 (cs:List D):(cs.map V.d).mapM Pn=some cs:=mapM_some Pn V.d (λ_=>rfl) cs
theorem NK (n lim:Nat) (s:List VL.Obj) (x:D):cT n lim s (.d x)=some x:=by cases n <;> rfl
theorem Ag (n lim:Nat) (s:List VL.Obj) (cs:List D):(cs.map V.d).mapM (cT n lim s)=some cs:=mapM_some (cT n lim s) V.d (NK n lim s) cs
theorem uq (n lim:Nat) (s:List VL.Obj) (l:List (List D)):(l.map λc=>c.map V.d).mapM (λ(e:List V)=>e.mapM (cT n lim s))=some l:=mapM_some (λ(e:List V)=>e.mapM (cT n lim s)) (λc=>c.map V.d) (Ag n lim s) l
theorem Re.ind {Q:Re->Prop} (h:∀re,(∀k∈re.kids,Q k)->Q re) (re:Re):Q re:=by
 induction hn:re.size using Nat.strongRecOn generalizing re with
 |_ n ih=>exact h re λk hk=>ih k.size (by have:=Re.de hk;omega) k rfl
abbrev EY:=am @Cj @L5 @Ag @uq @NK @Re.kM @CC<|And.intro @CV @I3
abbrev zX:=And.intro IM<|And.intro EY<|And.intro E3<|And.intro qt @dt.eq_1
abbrev zW:=And.intro vsA<|And.intro EY<|And.intro E3<|And.intro qt @dt.eq_1
abbrev zQ:=And.intro zX<|And.intro @i64.eq_1<|And.intro @bV.eq_1<|And.intro @iD.eq_1 @bD.eq_1
abbrev zI:=And.intro zX @i64.eq_1
abbrev zJ:=And.intro zW @i64.eq_1
abbrev zU:=am @F5 @List.contains_cons.{0} @List.contains_nil.{0} akw akl Bool.or_true ako<|And.intro @bK.eq_1<|And.intro @nQ<|And.intro @mo<|And.intro @aS<|And.intro @if_true.{1} @if_false.{1}
theorem Pq (lim:Nat) (re:Re):aj lim (sN re)=true:=by unfold sN;rw[aj,Nv]
inductive Goal where
 |nil
 |mk (kind:Int) (re:Re) (k bZ:Int) (next:Goal)
abbrev aH:=List (Int×Int)
def cQ (c:aH):D:=.sl (c.map aT)
def Goal.d:Goal->D
 |.nil=>.sc (.pointer none)
 |.mk kind re k bZ next=>.el (iD kind::(re.cells++[iD k,iD bZ,next.d]))
structure bO where
 steps:Int
 empty:Bool
 ends:List Int
 ai:List aH
inductive Task where
 |run (g:Goal) (i:Int) (c:aH)
 |rep (g:Goal) (i:Int) (c:aH)
 |node (g:Goal) (i:Int) (c:aH)
def mG (t:List Int) (i:Int):Int:=t.getD i.toNat 0
def sj (x:Int):Bool:=(decide (48<=x)&&decide (x<=57))||((decide (65<=x)&&decide (x<=90))||((decide (97<=x)&&decide (x<=122))||decide (x=95)))
def pn (t:List Int) (i:Int):Bool:=decide (0<i)&&sj (mG t (i-1))
def lD (t:List Int) (i:Int):Bool:=decide (i<t.length)&&sj (mG t i)
def bL (n:Int) (t:List Int) (i:Int):Bool :=
 if n=0 then decide (i=0) else if n=1 then decide (i=t.length)
 else if n=2 then decide (i=0)||decide (mG t (i-1)=10)
 else if n=3 then decide (i=t.length)||decide (mG t i=10)
 else if n=4 then pn t i != lD t i
 else pn t i == lD t i
def ED (l:List (Int×Int)) (x:Int):Bool:=l.any λs=>decide (s.1<=x)&&decide (x<=s.2)
def qy (c:aH) (n bZ to:Int):aH:=if 1<=n/\n<=c.length then c.set (n-1).toNat (bZ,to) else c
def cK (c:aH) (n:Int):Int×Int:=if n<1\/(c.length:Int)<n then (-1,-1) else c.getD (n-1).toNat (-1,-1)
def Re.fo (re:Re) (m:Int):Re:=.mk re.op re.set re.kids re.mn re.mx m re.n re.neg
def bO.step (fuel:Int) (st:bO):bO:={ st with steps:=st.steps+1,empty:=st.empty||decide (fuel<st.steps+1) }
def Ma (r:Option (Bool×bO)) (k:bO->Option (Bool×bO)):Option (Bool×bO) :=
 match r with
 |none=>none
 |some (true,s)=>some (true,s)
 |some (false,s)=>k s
def gv (rec:Int->Task->bO->Option (Bool×bO)) (g:Goal) (i:Int) (c:aH) (st:bO):Option (Option (Int×aH)×bO) :=
 match rec 1 (.run g i c) ⟨st.steps,false,[],[]⟩ with
 |none=>none
 |some (_,x)=>if x.empty then some (none,{ st with steps:=x.steps,empty:=x.empty }) else match x.ends,x.ai with
   |[],_=>some (none,{ st with steps:=x.steps,empty:=x.empty })
   |e::_,d::_=>some (some (e,d),{ st with steps:=x.steps,empty:=x.empty })
   |_::_,[]=>none
def kk (f:Int->bO->Option (Option (Int×aH)×bO)):Nat->bO->Option (Option aH×bO)
 |0,st=>some (none,st)
 |n+1,st=>if st.empty then some (none,st) else match f n st with
  |none=>none
  |some (some (_,d),st')=>some (some d,st')
  |some (none,st')=>kk f n st'
def su (rec:Int->Task->bO->Option (Bool×bO)) (op:Int) (kid:Re) (i:Int) (c:aH) (st:bO):Option (Option aH×bO) :=
 if op=7 then match gv rec (.mk 0 kid 0 0 .nil) i c st with
  |none=>none
  |some (r,st')=>some (r.map (·.2),st')
 else kk (λk st=>gv rec (.mk 0 kid 0 0 (.mk 4 (.mk 0 [] [] 0 0 0 0 false) 0 i .nil)) k c st) (i.toNat+1) st
def rB (kids:List Re) (next:Goal):Goal:=kids.foldr (λk nx=>.mk 0 k 0 0 nx) next
def Cv (f:Re->bO->Option (Bool×bO)):List Re->bO->Option (Bool×bO)
 |[],st=>some (false,st)
 |k::l,st=>Ma (f k st) (Cv f l)
def sk (t:List Int) (a i:Int) (n:Nat):Bool:=(List.range n).all λj=>mG t (a+j) == mG t (i+j)
def fG (t:List Int) (rec:Int->Task->bO->Option (Bool×bO)) (most:Int) (re:Re) (next:Goal) (i:Int) (c:aH) (st:bO):Option (Bool×bO) :=
 if re.op=1 then (if i<t.length/\ED re.set (mG t i)=true then rec most (.run next (i+1) c) st else some (false,st))
 else if re.op=2 then rec most (.run (rB re.kids next) i c) st
 else if re.op=3 then Cv (λk st=>rec most (.run (.mk 0 k 0 0 next) i c) st) re.kids st
 else if re.op=5 then match re.kids with
  |[]=>none
  |kid::_=>rec most (.run (.mk 0 kid 0 0 (.mk 3 re 0 i next)) i c) st
 else if re.op=6 then
  let x:=cK c re.n
  if x.1<0 then some (false,st)
  else if x.2<x.1\/(t.length:Int)<x.2 then none
  else if t.length<i+x.2-x.1 then some (false,st)
  else if sk t x.1 i (x.2-x.1).toNat=true then rec most (.run next (i+x.2-x.1) c) st else some (false,st)
 else if re.op=7\/re.op=8 then match re.kids with
  |[]=>none
  |kid::_=>match su rec re.op kid i c st with
   |none=>none
   |some (r,st') =>
    if st'.empty then some (true,st')
    else if re.neg=true then (match r with
     |some _=>some (false,st')
     |none=>rec most (.run next i c) st')
    else match r with
     |some d=>rec most (.run next i d) st'
     |none=>some (false,st')
 else if re.op=9 then match re.kids with
  |[]=>none
  |kid::_=>match gv rec (.mk 0 kid 0 0 .nil) i c st with
   |none=>none
   |some (r,st')=>if st'.empty then some (true,st') else match r with
    |some (e,d)=>rec most (.run next e d) st'
    |none=>some (false,st')
 else if re.op=10 then match re.kids with
  |yes::no::_=>rec most (.run (.mk 0 (if 0<=(cK c re.n).1 then yes else no) 0 0 next) i c) st
  |_=>none
 else if re.op=11 then (if bL re.n t i=true then rec most (.run next i c) st else some (false,st))
 else rec most (.run next i c) st
def zx (fuel:Int) (rec:Int->Task->bO->Option (Bool×bO)) (most:Int) (re:Re) (k:Int) (next:Goal) (i:Int) (c:aH) (st:bO):Option (Bool×bO) :=
 if re.mode=2 then match gv rec (.mk 1 (re.fo 0) 0 0 .nil) i c st with
  |none=>none
  |some (r,st')=>match r with
   |some (e,d)=>rec most (.run next e d) st'
   |none=>some (st'.empty,st')
 else if st.steps<0\/10000000000000<st.steps then none
 else
  let s1:=st.step fuel
  if s1.empty then some (true,s1)
  else match re.kids with
   |[]=>none
   |kid::_ =>
    let more:=re.mx=-1\/k<re.mx;let once:bO->Option (Bool×bO):=λs=>rec most (.run (.mk 0 kid 0 0 (.mk 2 re k i next)) i c) s
    if k<re.mn then once s1
    else if re.mode=1 then Ma (rec most (.run next i c) s1) (λs=>if more then once s else some (false,s))
    else Ma (if more then once s1 else some (false,s1)) (λs=>rec most (.run next i c) s)
def cM (t:List Int) (fuel:Int) (rec:Int->Task->bO->Option (Bool×bO)) (most:Int):Task->bO->Option (Bool×bO)
 |.run g i c,st =>
  if i<0\/(t.length:Int)<i then none else match g with
  |.nil=>if st.ends.length<2000000000000/\st.ai.length=st.ends.length then some (decide (0<=most)&&decide (most<=(st.ends.length:Int)+1),{ st with ends:=st.ends++[i],ai:=st.ai++[c] }) else none
  |.mk kind re k bZ next =>
   if kind=1 then rec most (.rep (.mk kind re k bZ next) i c) st
   else if kind=2 then (if re.mn<=k/\i=bZ then some (false,st) else if k<0\/10000000000000<k then none else rec most (.run (.mk 1 re (k+1) 0 next) i c) st)
   else if kind=3 then (if 1000000000<c.length then none else rec most (.run next i (qy c re.n bZ i)) st)
   else if kind=4 then (if i=bZ then rec most (.run next i c) st else some (false,st))
   else rec most (.node (.mk kind re k bZ next) i c) st
 |.rep g i c,st=>if i<0\/(t.length:Int)<i then none else match g with
  |.nil=>none
  |.mk _ re k _ next=>zx fuel rec most re k next i c st
 |.node g i c,st=>if i<0\/(t.length:Int)<i then none else match g with
  |.nil=>none
  |.mk _ re _ _ next =>
   if re.op=4 then rec most (.rep (.mk 1 re 0 0 next) i c) st
   else if 1000000000<re.set.length\/1000000000<re.kids.length\/1000000000<c.length then none
   else if st.steps<0\/10000000000000<st.steps then none
   else if (st.step fuel).empty then some (true,st.step fuel)
   else fG t rec most re next i c (st.step fuel)
def iw (t:List Int) (fuel:Int):Nat->Int->Task->bO->Option (Bool×bO)
 |0=>λ_ _ _=>none
 |n+1=>cM t fuel (iw t fuel n)
theorem No (re:Re):re.size<=1000000000->aM prog 92 [sN re] (i64 re.size):=by
 induction re using Re.ind with
 |h re ih =>
 intro hs;have hlen:=Re.pR re.kids;have eZ:=Re.size_eq re;refine bo func92 ntmps92 results92 0 31 ?_;simp only[zW,simprocAttr,av re,iD,bD];refine aw (λn e s=>∃i:Nat,n=re.kids.length-i/\i<=re.kids.length/\e 1=.rf 0 0 0 0/\e 3=i64 (1+Re.dw (re.kids.take i):Nat)/\e 4=i64 i/\s=[⟨0,true,8,[re.cells.map .d]⟩]) ⟨_,_,_,bA.refl,0,rfl,ak,rfl,rfl,rfl,by simp [Re.ah re,iD,bD]⟩ ?_;rintro n e s ⟨i,rfl,hi,h1,h3,h4,rfl⟩;rcases akd i re.kids.length with az|gx
 ·obtain⟨k,hk⟩:∃k,re.kids[i]?=some k:=cc az;have hm:=List.mem_of_getElem? hk;have UF:=Re.de hm;simp only[zW,simprocAttr,Re.ah re,iD,bD,h1,h3,h4,i64,az,hk];refine dY (ih k hm ae) ?_;have h5:=Re.MF re.kids (i+1);rw[bm hk,Re.nu]at h5;simp only[Re.dw]at h5;simp only[zW,simprocAttr,Re.ah re,iD,bD,h1,h3,h4,i64,az,hk];refine⟨_,_,_,?_,bA.refl,i+1,rfl,az,?_⟩
  ·omega
  simp only[bK,Nat.reduceEqDiff,if_true,if_false];refine⟨h1,?_,?_,by simp [Re.ah re,iD,bD]⟩
  ·rw[bG _ ae,bm hk,Re.nu];simp only[Re.dw,i64];congr 3;omega
  ·rw[bG _ ae];rfl
 ·have dX:i=re.kids.length:=by omega
  subst dX;simp only[zW,simprocAttr,Re.ah re,iD,bD,h1,h3,h4,i64,ak9];simp [eZ]
theorem mix:prog.follows .mixedOrders=true:=cB
def l9 (n:Int):Prop:=-9223372036854775808<=n/\n<=9223372036854775807
def m8 (n most:Int):Int:=if n<0 then (-(n+1)).tmod most else n.tmod most
theorem zT (n m:Int) (hm:1<=m) (hn:l9 n):aM prog 19 [i64 n,i64 m] (i64 (m8 n m)):=by
 unfold l9 at hn;refine bo func19 ntmps19 results19 0 19 ?_;simp only[vsA,EY,E3,dt,simprocAttr,i64];refine⟨λh=>⟨ae,?_⟩,λh=>⟨ae,?_⟩⟩
 ·rw[bG (n+1) ae,bG _ ae];simp [m8,h]
 ·simp [m8,h]
def pick (l:List Int) (i:Int) (most:Int):Int:=if i<0\/l.length<=i then 0 else m8 (l[i.toNat]?.getD 0) most
theorem Om (l:List Int) (hl:∀x∈l,l9 x) (i m:Int) (hm:1<=m):aM prog 24 [.d (ao l),i64 i,i64 m] (i64 (pick l i m)):=by
 refine bo func24 ntmps24 results24 0 71 ?_;by_cases h0:i<0
 ·simp only[zJ,simprocAttr,ao,iD,h0];simp [h0,pick]
 ·by_cases h1:(l.length:Int)<=i
  ·simp only[zJ,simprocAttr,ao,iD,h0,h1,ge_iff_le];simp [h0,pick];omega
  ·have az:i.toNat<l.length:=by omega
   obtain⟨x,hx⟩:∃x,l[i.toNat]?=some x:=cc az;simp only[zJ,simprocAttr,ao,iD,h0,h1,ge_iff_le,hx,show 0<=i by omega,show i<l.length by omega];refine dY (zT x m hm (hl x (List.mem_of_getElem? hx))) ?_;simp only[zW,simprocAttr,i64];simp [h0,pick,hx];omega
end Go.Proofs.YtjjfioalgbecmaaGreat
