/- A part of the proof (S34 S35). -/
import Derived.Test.YtpppfpaalcbggaaML44
import Derived.Test.YtpppfpaalcbggaaML46
set_option linter.unusedSimpArgs false
set_option linter.unusedVariables false
set_option maxRecDepth 100000
set_option maxHeartbeats 80000000
namespace Go.Proofs.Ytpppfpaalcbggaa
open Go.VL Go.Proofs.Try
inductive NextsE:Nat→Smt→SPlace→Bool→List (Int × CapsL)→Smt→Prop where
 | full {m:Smt} {p:SPlace}:NextsE 0 m p false [] m
 | stop {n:Nat} {m m':Smt} {p r:SPlace} {al:Bool} (h:EvS m 0 p al m' r false):NextsE (n + 1) m p al [] m'
 | more {n:Nat} {m m1 m':Smt} {p r:SPlace} {al:Bool} {c:CapsL} {L:List (Int × CapsL)} (h:EvS m 0 p al m1 r true) (hc:r.caps=some c) (hl:c.length=9) (h2:NextsE n m1 .zero false L m'):NextsE (n + 1) m p al ((r.at_,c)::L) m'
inductive NextsS:Nat→Smt→List (Int × CapsL)→Smt→Prop where
 | full {m:Smt}:NextsS 0 m [] m
 | stop {n k:Nat} {m m':Smt} {r:SPlace} (h:SEv k (.search 0) m m' r false):NextsS (n + 1) m [] m'
 | more {n k:Nat} {m m1 m':Smt} {r:SPlace} {c:CapsL} {L:List (Int × CapsL)} (h:SEv k (.search 0) m m1 r true) (hc:r.caps=some c) (hl:c.length=9) (h2:NextsS n m1 L m'):NextsS (n + 1) m ((r.at_,c)::L) m'
theorem evS_search {m m':Smt} {base:Nat} {p r:SPlace} {f:Bool} (h:EvS m base p false m' r f):∃k,SEv k (.search base) m m' r f:=by
 obtain⟨n,h⟩:=h
 cases h with
 | dead hk h=>exact⟨_,h⟩
theorem nextsE_S {n:Nat} {m m':Smt} {p:SPlace} {al:Bool} {L:List (Int × CapsL)} (h:NextsE n m p al L m') (ha:al=false):NextsS n m L m':=by
 induction h with
 | full=>exact .full
 | stop h =>
  subst ha
  obtain⟨k,hk⟩:=evS_search h
  exact .stop hk
 | more h hc hl _ ih =>
  subst ha
  obtain⟨k,hk⟩:=evS_search h
  exact .more hk hc hl (ih rfl)
theorem nextsE_before {n:Nat} {m m1 m':Smt} {p p1:SPlace} {al al1:Bool} {L:List (Int × CapsL)} (hn:1≤n) (hb:∀m2 r f,EvS m1 0 p1 al1 m2 r f→EvS m 0 p al m2 r f) (h:NextsE n m1 p1 al1 L m'):NextsE n m p al L m':=by
 cases h with
 | full=>omega
 | stop h=>exact .stop (hb _ _ _ h)
 | more h hc hl h2=>exact .more (hb _ _ _ h) hc hl h2
def padP (r:Int × CapsL):Int × CapsL:=(r.1,padC r.2)
theorem runs_nexts {m m' mf:Smt} {p p':SPlace} {al al':Bool} {Q:List (Int × Option CapsL)} {j:Nat} {L:List (Int × CapsL)} (h:RunsS 0 m p al Q m' p' al') (hj:1≤j) (hn:NextsE j m' p' al' L mf) :
  ∀R:List (Int × CapsL),Q=R.map pR→(∀r∈R,r.2.length≤9)→NextsE (R.length + j) m p al (R.map padP++L) mf:=by
 induction h with
 | refl =>
  intro R hR _
  have:R=[]:=List.map_eq_nil_iff.1 hR.symm
  subst this
  simpa using hn
 | call hg ha _ ih=>exact fun R hR hl=>nextsE_before (by omega) (fun _ _ _ h=>evS_call hg ha h) (ih hn R hR hl)
 | pop hS hb hm hs _ ih=>exact fun R hR hl=>nextsE_before (by omega) (fun _ _ _ h=>evS_pop hS hb hm hs h) (ih hn R hR hl)
 | @emit m m' i c p' Q al' h ih =>
  intro R hR hl
  cases R with
  | nil=>cases hR
  | cons r R1 =>
   rw[List.map_cons] at hR
   obtain⟨h1,h2⟩:=List.cons.inj hR
   obtain⟨rfl,rfl⟩:=Prod.mk.inj h1
   have h3:=ih hn R1 h2 (fun r hr=>hl r (by simp [hr]))
   have:=NextsE.more (n:=R1.length + j) (m:=m) (m1:=m) (p:=⟨r.1,some (padC r.2),.nil⟩) (al:=true) (evS_found rfl) rfl (padC_len (hl r (by simp))) h3
   rw[List.length_cons,show R1.length + 1 + j=R1.length + j + 1 by omega]
   exact this
theorem zip_pair {α β:Type}:∀R:List (α × β),(R.map Prod.fst).zip (R.map Prod.snd)=R
 | []=>rfl
 |(a,b)::l=>by simp [zip_pair l]
theorem con_nexts {t:List Int} {F:Int} {nc:Nat} {i:Int} {m:Smt} {q:SPlace} {s:Int} {b:Bool} {x:Sst} {n:Nat} (ht:t.length≤1000000) (hnc:nc≤9) (hn:1≤n) {most:Int} (hmost:most=n∨(most < 0∧(x.ends.length:Int) + 2≤n)) (hS:StkS m [q]) (hsp:m.spent=false)
  (h:ConS t F nc 0 [] most i m.pop q true ⟨s,false,[],[]⟩ b x) :
  ∃L m',NextsS n m L m'∧FrS m m'∧L.length≤x.ends.length + 1∧(x.empty=false→m'.spent=false∧m'.steps=x.steps∧x.steps≤F∧L=(x.ends.zip x.caps).map padP∧m'.top≤m'.stk.length∧(∀d∈x.caps,d.length=nc))∧(x.empty=true→m'.spent=true∧m'.top≤m'.stk.length)∧(most < 0→L.length < n):=by
 obtain⟨R,m',h1,h2,h3,h4,h6⟩:=h
 simp only[List.nil_append] at h1 h2
 have hfr:FrS m m':=(frS_pop m).trans h4
 have hl9:∀r∈R,r.2.length≤9:=fun r hr=>by have:=(h3 r hr).2.2.2; omega
 have hRl:R.length=x.ends.length:=by rw[h1,List.length_map]
 have hzip:x.ends.zip x.caps=R:=by
  rw[h1,h2]
  exact zip_pair R
 have hcl:∀d∈x.caps,d.length=nc:=by
  intro d hd
  rw[h2] at hd
  obtain⟨r,hr,rfl⟩:=List.mem_map.1 hd
  exact(h3 r hr).2.2.2
 have front:∀{Q:List (Int × Option CapsL)} {m1:Smt} {p1:SPlace} {al1:Bool},RunsS 0 m.pop q true Q m1 p1 al1→RunsS 0 m .zero false Q m1 p1 al1:=fun hr=>.pop (S:=[]) hS (Nat.zero_le _) (by rw[hS.2]; simp) hsp hr
 rcases h6 with ⟨k1,k2,k3,k4,kF,p',k5⟩ | ⟨k1,k2,k3,k4,kF,S',R0,e,d,k5,k6,k7⟩ | ⟨k1,k2,k3,k4,p',al',S',k5,k6,k7⟩
 ·
  have hlt:R.length < n:=by
   rcases hmost with h | h
   ·have:=k3 (by omega); omega
   ·omega
  obtain⟨j,hj⟩:∃j,n=R.length + (j + 1):=⟨n - R.length - 1,by omega⟩
  have hE:=runs_nexts (j:=j + 1) (front k5) (by omega) (.stop (evS_none (.inl (by rw[k4.stk.2]; exact Nat.le_refl _)))) R rfl hl9
  rw[← hj,List.append_nil] at hE
  refine⟨_,m',nextsE_S hE rfl,hfr,by rw[List.length_map]; omega,fun _=>⟨k4.spent,k4.steps,kF,by rw[hzip],k4.stk.len,hcl⟩,fun h=>absurd (k2.symm.trans h) Bool.false_ne_true,fun _=>by rw[List.length_map]; exact hlt⟩
 ·have hmn:most=n:=by
   rcases hmost with h | h
   ·exact h
   ·omega
  subst k6
  have hR0:n=R0.length + 1:=by rw[List.length_append] at hRl; simp at hRl; omega
  have hE:=runs_nexts (j:=1) (front k7) (Nat.le_refl _) (.more (evS_found rfl) rfl (padC_len (hl9 (e,d) (by simp))) .full) R0 rfl (fun r hr=>hl9 r (by simp [hr]))
  rw[← hR0] at hE
  refine⟨_,m',nextsE_S hE rfl,hfr,by rw[List.length_append,List.length_map] at *; simp at hRl ⊢; omega,fun _=>⟨k5.spent,k5.steps,kF,by rw[hzip,List.map_append]; rfl,k5.stk.len,hcl⟩,fun h=>absurd (k2.symm.trans h) Bool.false_ne_true,fun h=>by omega⟩
 ·have hlt:R.length < n:=by
   rcases hmost with h | h
   ·have:=k3 (by omega); omega
   ·omega
  obtain⟨j,hj⟩:∃j,n=R.length + (j + 1):=⟨n - R.length - 1,by omega⟩
  cases al' with
  | false =>
   have hE:=runs_nexts (j:=j + 1) (front k7) (by omega) (.stop (evS_none (.inr k4.spent))) R rfl hl9
   rw[← hj,List.append_nil] at hE
   exact⟨_,m',nextsE_S hE rfl,hfr,by rw[List.length_map]; omega,fun h=>absurd (h.symm.trans k2) Bool.false_ne_true,fun _=>⟨k4.spent,k4.top⟩,fun _=>by rw[List.length_map]; exact hlt⟩
  | true =>
   obtain⟨m2,r,f,j1,j2,j3,j4,j5⟩:=drainS ht (base:=0) p'.todo m' p'.at_ p'.caps k4 (k6 rfl)
   cases f with
   | false =>
    have hE:=runs_nexts (j:=j + 1) (front k7) (by omega) (.stop j1) R rfl hl9
    rw[← hj,List.append_nil] at hE
    exact⟨_,m2,nextsE_S hE rfl,hfr.trans j3,by rw[List.length_map]; omega,fun h=>absurd (h.symm.trans k2) Bool.false_ne_true,fun _=>⟨j2.spent,j2.top⟩,fun _=>by rw[List.length_map]; exact hlt⟩
   | true =>
    obtain⟨c,hc,hl⟩:=(j5 rfl).caps
    have hE0:NextsE j m2 .zero false [] m2:=by
     cases j with
     | zero=>exact .full
     | succ j=>exact .stop (evS_none (.inr j2.spent))
    have hE:=runs_nexts (j:=j + 1) (front k7) (by omega) (.more j1 hc hl hE0) R rfl hl9
    rw[← hj] at hE
    exact⟨_,m2,nextsE_S hE rfl,hfr.trans j3,by simp; omega,fun h=>absurd (h.symm.trans k2) Bool.false_ne_true,fun _=>⟨j2.spent,j2.top⟩,fun hm=>by simp; rcases hmost with h | h <;> omega⟩
theorem sev_fr {n:Nat} {task:STask} {m m':Smt} {r:SPlace} {f:Bool} (h:SEv n task m m' r f):FrS m m':=by
 induction h with
 | pop hk hb ht hm hs hq h ih=>exact(frS_pop _).trans ih
 | dead hk h ih=>exact ih
 | move hk1 hk2 hp h1 h2 ih1 ih2=>exact ih1.trans ih2
 | treeOut=>exact frS_step _
 | tree hk hg ho hf h ih=>exact(frS_step _).trans ih
 | rep hk ho h ih=>exact ih
 | roundOut=>exact frS_step _
 | roundMin=>exact frS_step _
 | roundMax=>exact frS_step _
 | roundLazy=>exact(frS_step _).trans (frS_push _ _)
 | roundMore=>exact(frS_step _).trans (frS_push _ _)
 | moved hj hy h ih=>exact ih
 | alt=>exact frS_alt _ _ _
 | repP hk ho hm h ih=>exact ih
 | ahead hk ho hkk h ih=>exact ih
 | behind hk ho hkk hp hp1 h ih=>exact ih
 | atom hk ho hkk h ih=>exact ih
 | first hk ht hm h h1 h2 ih=>exact⟨ih.p,ih.t,ih.start,ih.fuel⟩
 | behindYes hk hs h ih=>exact ih
 | behindMore hk1 hk2 hs h h2 ih ih2=>exact ih.trans ih2
 | _=>exact .refl _
theorem nilS0 {e:VL.Env} {s:List VL.Obj} (t sz:Nat) (h:e t=.fu []):Cln0 e s (updE e t (.so s.length 0 0 0)) (s++[⟨0,true,sz,[]⟩]):=by
 intro σ0 s0 w0 σ w N a hE hI hR
 have hp:=push_obj (p:=none) (o':=⟨0,true,sz,[]⟩) (w':=w) hI rfl rfl rfl (Nat.le_refl _) (fun _ _=>rfl) (fun _ _ h'=>by cases h') (fun _=>.inl (.inl ⟨rfl,rfl⟩))
 refine⟨_,hE.trans hp.1,hp.2,hR.1,hR.2.1,fun x=>?_⟩
 have hx:=(hR.2.2 x).evolve hp.1
 unfold updE
 by_cases hxt:x=t
 ·subst hxt
  rw[if_pos rfl]
  rw[h] at hx
  generalize (a.tmps.getD x undef)=u at hx ⊢
  cases hx with | fu hx=>?_
  exact .so ⟨0,true,sz,[]⟩ (by simp) (Nat.le_refl _) ⟨_,_,rfl⟩ (fun _=>.inl ⟨updG_same _ _ _,⟨_,rfl⟩,rfl,rfl⟩)
 ·rw[if_neg hxt]; exact hx
theorem nilS1 {L:Nat} {e:VL.Env} {s:List VL.Obj} (t sz:Nat) (h:e t=.fu []):Cln L e s (updE e t (.so s.length 0 0 0)) (s++[⟨0,true,sz,[]⟩]):=.of0 (nilS0 t sz h)
def matchC (n:Nat) (at_:Int) (x:Int × CapsL):List D:=[iD at_,iD x.1,capD (x.2.take n)]
def boxP (p:Pat):VL.Obj:=⟨0,false,10,[(patC p).map .d]⟩
theorem boxP_ok (p:Pat) (n:Nat):objOk n (boxP p)=true:=by
 unfold boxP objOk
 rw[List.all_cons,List.all_nil,Bool.and_true,List.all_eq_true]
 intro v hv
 obtain⟨d,_,rfl⟩:=List.mem_map.1 hv
 rfl
theorem sO_ok {Y Z n:Nat} (m:Smt) (b a:Nat) (hY:Y < n) (hZ:Z < n):(objOk n (sO1 Y Z m)&&(objOk n sO2&&objOk n (sO3 b a m)))=true:=by
 have h:=sobj_ok m b a n
 rw[Bool.and_eq_true] at h
 have h1:objOk n (sO1 Y Z m)=true:=by
  unfold sO1 objOk
  simp [refsV,i64,bV,hY,hZ]
 rw[h1,Bool.true_and]
 unfold sO2 sO3 objOk
 rw[Bool.and_eq_true]
 exact h
theorem matchC_ok (n k:Nat) (at_:Int) (L:List (Int × CapsL)) (g sz:Nat):objOk n ⟨g,true,sz,(L.map (matchC k at_)).map (·.map V.d)⟩=true:=by
 unfold objOk
 rw[List.all_eq_true]
 intro e he
 obtain⟨x,_,rfl⟩:=List.mem_map.1 he
 rw[List.all_eq_true]
 intro v hv
 obtain⟨d,_,rfl⟩:=List.mem_map.1 hv
 rfl
theorem semAll_run (p:Pat) (t:List Int) (at_ most fuel:Int) (hf:p.re.fine=true) (ht:t.length≤1000000000) (hv:valid7 p t fuel=0) (hm:1≤most) (a0:0≤at_) (a1:at_≤t.length) (hc0:0≤p.caps) (hc9:p.caps≤9)
  {L:List (Int × CapsL)} {m':Smt} (h:NextsS most.toNat ((freshS p t fuel).begin at_) L m') (hL:L.length≤1000000000) :
  PureOK prog 16 [patV p,.d (intsD t),i64 at_,i64 most,i64 fuel] (if m'.spent=true then .tu [.d (.sl []),i64 0,i64 11] else .tu [.d (.sl (L.map (matchC p.caps.toNat at_))),i64 m'.steps,i64 0]):=by
 have hck:=check_okS [p] t fuel (by simp) (fun q hq=>by rw[List.mem_singleton.1 hq]; exact hf) ht
 rw[check_one,hv] at hck
 have hpc:patC p=p.re.cells++[iD p.caps,bD p.runes]:=rfl
 simp only[List.map_cons,List.map_nil,hpc,Re.cells_eq p.re,List.cons_append,List.nil_append,i64,iD,bD] at hck
 have c1:¬most < 1:=by omega
 have c2:¬at_ < 0:=by omega
 have c3:¬(t.length:Int) < at_:=by omega
 have hnew:=fun K hk=>call_newS (p:=p) (t:=t) (fuel:=fuel) (s:=[boxP p]) (K:=K) hk
 refine fn_ok func16 rfl ntmps16 results16 rfl 0 261183 (by simp) (by simp) ?_
 simp only[zX,Nat.reduceShiftRight,Nat.reduceMod,Nat.reduceLT,Nat.reduceMul,Nat.reduceSub,Int.reduceToNat,Int.reduceNeg,Int.reduceLT,Int.reduceLE,Int.reduceEq,Nat.reduceEqDiff,Nat.reduceAdd,Nat.reduceLeDiff,reduceIte,reduceCtorEq,Nat.reduceBEq,i64,patV,Re.cells_eq p.re,bV,iD,bD,List.map_cons,List.map_nil,List.cons_append,List.nil_append]
 refine call_give [] (by simp [killO,frzV.go,frzV,frzD]; rfl) ?_
 refine call_pure hck rfl rfl ?_
 simp only[zX,Nat.reduceShiftRight,Nat.reduceMod,Nat.reduceLT,Nat.reduceMul,Nat.reduceSub,Int.reduceToNat,Int.reduceNeg,Int.reduceLT,Int.reduceLE,Int.reduceEq,Nat.reduceEqDiff,Nat.reduceAdd,Nat.reduceLeDiff,reduceIte,reduceCtorEq,Nat.reduceBEq,i64,patV,bV,iD,bD,ne_eq,not_true_eq_false,c1,c2,c3,intsD,gt_iff_lt,List.length_map]
 refine call_give [0] (by simp [killO,kill1,frzV.go,frzV,frzD]; rfl) ?_
 simp only[killO,kill1,List.getElem?_cons_zero,List.set_cons_zero]
 have hbo:boxP p=boxP p:=rfl
 conv at hbo=>rhs; simp only[boxP,hpc,Re.cells_eq p.re,i64,iD,bD,List.map_cons,List.map_nil,List.cons_append,List.nil_append]
 rw[← hbo]
 have hbok:=boxP_ok p
 generalize boxP p=bo at *
 clear hbo
 simp only[hpc,Re.cells_eq p.re,i64,iD,bD,intsD,List.map_cons,List.map_nil,List.cons_append,List.nil_append,List.length_cons,List.length_nil,Nat.zero_add,Nat.reduceAdd] at hnew
 refine hnew _ (fun b a=>?_)
 simp only[zX,Nat.reduceShiftRight,Nat.reduceMod,Nat.reduceLT,Nat.reduceMul,Nat.reduceSub,Int.reduceToNat,Int.reduceNeg,Int.reduceLT,Int.reduceLE,Int.reduceEq,Nat.reduceEqDiff,Nat.reduceAdd,Nat.reduceLeDiff,reduceIte,reduceCtorEq,Nat.reduceBEq,i64,patV,bV,iD,bD,List.cons_append,List.nil_append]
 refine call_sx (X:=1) (Y:=2) (Z:=3) (begin_okS 0 b a (freshS p t fuel) at_ (Nat.le_refl _)) (by decide) rfl rfl rfl rfl rfl rfl ?_
 simp only[List.set_cons_zero,List.set_cons_succ]
 simp only[zX,Nat.reduceShiftRight,Nat.reduceMod,Nat.reduceLT,Nat.reduceMul,Nat.reduceSub,Int.reduceToNat,Int.reduceNeg,Int.reduceLT,Int.reduceLE,Int.reduceEq,Nat.reduceEqDiff,Nat.reduceAdd,Nat.reduceLeDiff,reduceIte,reduceCtorEq,Nat.reduceBEq,i64,patV,bV,iD,bD,List.cons_append,List.nil_append]
 refine loop_rule (fun n e s=>∃(m1:Smt) (L1 L2:List (Int × CapsL)) (g:Nat),n + L1.length=most.toNat∧L1++L2=L∧NextsS n m1 L2 m'∧m1.start=at_∧m1.p=p∧e 3=i64 most∧e 14=.pp 1 0 0 0 b a∧e 15=.so 4 g 0 L1.length ∧
   s=[bo,sO1 2 3 m1,sO2,sO3 b a m1,⟨g,true,3,(L1.map (matchC p.caps.toNat at_)).map (·.map .d)⟩])
  ⟨_,_,_,nilS1 15 3 rfl,(freshS p t fuel).begin at_,[],L,0,by simp,rfl,h,rfl,rfl,rfl,rfl,rfl,rfl⟩ ?_
 clear h
 rintro n e s ⟨m1,L1,L2,g,hn,hLL,hx,hst,hmp,h3,h14,h15,rfl⟩
 have hl1:L1.length≤L.length:=by rw[← hLL,List.length_append]; omega
 cases hx with
 | full =>
  have hmo:¬(L1.length:Int) < most:=by omega
  rw[List.append_nil] at hLL
  subst hLL
  have hmf:∀s:List VL.Obj,List.mapM (fun e=>List.mapM (frzD 7 0 s) e) (List.take L1.length (List.map (fun x=>List.map V.d x) (List.map (matchC p.caps.toNat at_) L1)))=some (L1.map (matchC p.caps.toNat at_)):=fun s=>by
   rw[List.take_of_length_le (by simp)]
   exact mapM_frzE 7 0 s _
  simp only[zX,Nat.reduceShiftRight,Nat.reduceMod,Nat.reduceLT,Nat.reduceMul,Nat.reduceSub,Int.reduceToNat,Int.reduceNeg,Int.reduceLT,Int.reduceLE,Int.reduceEq,Nat.reduceEqDiff,Nat.reduceAdd,Nat.reduceLeDiff,reduceIte,reduceCtorEq,Nat.reduceBEq,i64,bV,iD,bD,h3,h14,h15,hmo,List.length_map]
  cases hsp:m'.spent with
  | true =>
   unfold sO1
   simp only[zX,Nat.reduceShiftRight,Nat.reduceMod,Nat.reduceLT,Nat.reduceMul,Nat.reduceSub,Int.reduceToNat,Int.reduceNeg,Int.reduceLT,Int.reduceLE,Int.reduceEq,Nat.reduceEqDiff,Nat.reduceAdd,Nat.reduceLeDiff,reduceIte,reduceCtorEq,Nat.reduceBEq,i64,bV,iD,bD,h3,h14,h15,hsp]
  | false =>
   rw[if_neg Bool.false_ne_true]
   unfold sO1
   simp only[zX,Nat.reduceShiftRight,Nat.reduceMod,Nat.reduceLT,Nat.reduceMul,Nat.reduceSub,Int.reduceToNat,Int.reduceNeg,Int.reduceLT,Int.reduceLE,Int.reduceEq,Nat.reduceEqDiff,Nat.reduceAdd,Nat.reduceLeDiff,reduceIte,reduceCtorEq,Nat.reduceBEq,i64,bV,iD,bD,h3,h14,h15,hsp,Bool.false_eq_true]
   refine draw_c mix [] [] (by rfl) ?_
   simp only[zX,Nat.reduceShiftRight,Nat.reduceMod,Nat.reduceLT,Nat.reduceMul,Nat.reduceSub,Int.reduceToNat,Int.reduceNeg,Int.reduceLT,Int.reduceLE,Int.reduceEq,Nat.reduceEqDiff,Nat.reduceAdd,Nat.reduceLeDiff,reduceIte,reduceCtorEq,Nat.reduceBEq,i64,bV,iD,bD,h3,h14,h15,hsp,hmf,Nat.zero_add,Nat.le_refl,if_true,Option.map_some]
 | stop hs =>
  have hnx:=next_no 0 b a (sev_wp _ _ _ _ _ _ hs 0 b a)
  have hmo:(L1.length:Int) < most:=by omega
  rw[List.append_nil] at hLL
  subst hLL
  have hmf:∀s:List VL.Obj,List.mapM (fun e=>List.mapM (frzD 7 0 s) e) (List.take L1.length (List.map (fun x=>List.map V.d x) (List.map (matchC p.caps.toNat at_) L1)))=some (L1.map (matchC p.caps.toNat at_)):=fun s=>by
   rw[List.take_of_length_le (by simp)]
   exact mapM_frzE 7 0 s _
  simp only[zX,Nat.reduceShiftRight,Nat.reduceMod,Nat.reduceLT,Nat.reduceMul,Nat.reduceSub,Int.reduceToNat,Int.reduceNeg,Int.reduceLT,Int.reduceLE,Int.reduceEq,Nat.reduceEqDiff,Nat.reduceAdd,Nat.reduceLeDiff,reduceIte,reduceCtorEq,Nat.reduceBEq,i64,bV,iD,bD,h3,h14,h15,hmo,List.length_map]
  refine call_sx (X:=1) (Y:=2) (Z:=3) (r':=.tu [.ag [i64 0,i64 0,.d (.sl [])],bV false]) hnx (by decide) rfl rfl rfl rfl rfl rfl ?_
  simp only[List.set_cons_zero,List.set_cons_succ]
  simp only[zX,Nat.reduceShiftRight,Nat.reduceMod,Nat.reduceLT,Nat.reduceMul,Nat.reduceSub,Int.reduceToNat,Int.reduceNeg,Int.reduceLT,Int.reduceLE,Int.reduceEq,Nat.reduceEqDiff,Nat.reduceAdd,Nat.reduceLeDiff,reduceIte,reduceCtorEq,Nat.reduceBEq,i64,bV,iD,bD,h3,h14,h15,hmo,List.length_map,Bool.not_false]
  cases hsp:m'.spent with
  | true =>
   unfold sO1
   simp only[zX,Nat.reduceShiftRight,Nat.reduceMod,Nat.reduceLT,Nat.reduceMul,Nat.reduceSub,Int.reduceToNat,Int.reduceNeg,Int.reduceLT,Int.reduceLE,Int.reduceEq,Nat.reduceEqDiff,Nat.reduceAdd,Nat.reduceLeDiff,reduceIte,reduceCtorEq,Nat.reduceBEq,i64,bV,iD,bD,h3,h14,h15,hsp]
  | false =>
   rw[if_neg Bool.false_ne_true]
   unfold sO1
   simp only[zX,Nat.reduceShiftRight,Nat.reduceMod,Nat.reduceLT,Nat.reduceMul,Nat.reduceSub,Int.reduceToNat,Int.reduceNeg,Int.reduceLT,Int.reduceLE,Int.reduceEq,Nat.reduceEqDiff,Nat.reduceAdd,Nat.reduceLeDiff,reduceIte,reduceCtorEq,Nat.reduceBEq,i64,bV,iD,bD,h3,h14,h15,hsp,Bool.false_eq_true]
   refine draw_c mix [] [] (by rfl) ?_
   simp only[zX,Nat.reduceShiftRight,Nat.reduceMod,Nat.reduceLT,Nat.reduceMul,Nat.reduceSub,Int.reduceToNat,Int.reduceNeg,Int.reduceLT,Int.reduceLE,Int.reduceEq,Nat.reduceEqDiff,Nat.reduceAdd,Nat.reduceLeDiff,reduceIte,reduceCtorEq,Nat.reduceBEq,i64,bV,iD,bD,h3,h14,h15,hsp,hmf,Nat.zero_add,Nat.le_refl,if_true,Option.map_some]
 | @more n k _ m2 _ r c L3 hs hc hl hx2 =>
  have hfr:=sev_fr hs
  have hnx:=next_yes 0 b a (sev_wp _ _ _ _ _ _ hs 0 b a) hc hl (by rw[hfr.p,hmp]; exact hc0) (by rw[hfr.p,hmp]; exact hc9)
  rw[hfr.p,hmp,hfr.start,hst] at hnx
  have hmo:(L1.length:Int) < most:=by omega
  simp only[zX,Nat.reduceShiftRight,Nat.reduceMod,Nat.reduceLT,Nat.reduceMul,Nat.reduceSub,Int.reduceToNat,Int.reduceNeg,Int.reduceLT,Int.reduceLE,Int.reduceEq,Nat.reduceEqDiff,Nat.reduceAdd,Nat.reduceLeDiff,reduceIte,reduceCtorEq,Nat.reduceBEq,i64,bV,iD,bD,h3,h14,h15,hmo,List.length_map]
  refine call_sx (X:=1) (Y:=2) (Z:=3) (r':=.tu [.ag [i64 at_,i64 r.at_,.d (capD (c.take p.caps.toNat))],bV true]) hnx (by decide) rfl rfl rfl rfl rfl rfl ?_
  simp only[List.set_cons_zero,List.set_cons_succ]
  simp only[zX,Nat.reduceShiftRight,Nat.reduceMod,Nat.reduceLT,Nat.reduceMul,Nat.reduceSub,Int.reduceToNat,Int.reduceNeg,Int.reduceLT,Int.reduceLE,Int.reduceEq,Nat.reduceEqDiff,Nat.reduceAdd,Nat.reduceLeDiff,reduceIte,reduceCtorEq,Nat.reduceBEq,i64,bV,iD,bD,h3,h14,h15,hmo,List.length_map,Bool.not_true]
  refine⟨by simp,⟨by omega,by omega⟩,n,_,_,Nat.lt_succ_self n,Cln.cut (s':=[bo,sO1 2 3 m2,sO2,sO3 b a m2,⟨g + 1,true,3,((L1++[(r.at_,c)]).map (matchC p.caps.toNat at_)).map (·.map .d)⟩]) 5 (by omega) ?_ ?_ [3,14,15] ?_,m2,L1++[(r.at_,c)],L3,g + 1,?_,?_,hx2,?_,?_,?_,?_,?_,rfl⟩ <;> (try simp only[zU,Nat.reduceBEq,Nat.reduceShiftRight,Nat.reduceMod,Nat.reduceEqDiff,reduceIte])
  ·have htk:List.take L1.length (List.map (fun x=>List.map V.d x) (List.map (matchC p.caps.toNat at_) L1))=List.map (fun x=>List.map V.d x) (List.map (matchC p.caps.toNat at_) L1):=List.take_of_length_le (by simp)
   rw[htk,List.map_append,List.map_append]
   rfl
  ·have h1:=sO_ok (Y:=2) (Z:=3) (n:=5) m2 b a (by decide) (by decide)
   simp only[List.all_cons,List.all_nil,Bool.and_true,hbok,Bool.true_and,matchC_ok]
   exact h1
  ·simp [updE,trimE_app,refsV,i64,h3,h14,h15]
  ·rw[List.length_append]; simp; omega
  ·rw[List.append_assoc]; exact hLL
  ·exact hfr.start.trans hst
  ·exact hfr.p.trans hmp
  ·exact h3
  ·exact h14
  ·rw[List.length_append]; rfl
end Go.Proofs.Ytpppfpaalcbggaa
