/- A part of the proof (S61 S62). -/
import Derived.Test.YtimnnipoaafdfaaSU40
import Derived.Test.YtimnnipoaafdfaaSU44
import Derived.Test.YtimnnipoaafdfaaSU46
import Derived.Test.YtimnnipoaafdfaaSU47
set_option linter.unusedSimpArgs false
set_option linter.unusedVariables false
set_option maxRecDepth 100000
set_option maxHeartbeats 80000000
namespace Go.Proofs.Ytimnnipoaafdfaa
open Go.VL Go.Proofs.Try
theorem search_false {n:Nat} {task:STask} {m m':Smt} {r:SPlace} {f:Bool} (h:SEv n task m m' r f):f=false→match task with
  | .search base=>m'.top≤base∨m'.spent=true
  | .inner base _ _=>m'.top≤base∨m'.spent=true
  | _=>True:=by
 induction h with
 | stop h=>intro _; exact h
 | pop hk hb ht hm hs hq h ih=>exact ih
 | done h=>intro e; cases e
 | dead hk h ih=>exact ih
 | move hk1 hk2 hp h1 h2 ih1 ih2=>exact ih2
 | _=>intro _; trivial
def AllS (m:Smt) (L:List (Int × CapsL)) (m':Smt):Prop:=NextsS (L.length + 1) m L m'
theorem nexts_cut {n:Nat} {m m':Smt} {L:List (Int × CapsL)} (h:NextsS n m L m') (hl:L.length < n):AllS m L m':=by
 unfold AllS
 induction h with
 | full=>exact absurd hl (Nat.lt_irrefl 0)
 | stop h=>exact .stop h
 | more h hc hl' _ ih=>exact .more h hc hl' (ih (by simpa using hl))
theorem AllS.over {m m':Smt} {L:List (Int × CapsL)} (h:AllS m L m'):DrainS 0 m' m':=by
 have key:∀{n:Nat} {m m':Smt} {L:List (Int × CapsL)},NextsS n m L m'→L.length < n→m'.top≤0∨m'.spent=true:=by
  intro n m m' L h
  induction h with
  | full=>intro hl; exact absurd hl (Nat.lt_irrefl 0)
  | stop h=>intro _; exact search_false h rfl
  | more h hc hl' _ ih=>intro hl; exact ih (by simpa using hl)
 exact .stop (k:=0) (.stop (key h (Nat.lt_succ_self _)))
theorem sym_zero {p:Pat} {t:List Int} {F:Int} (h:valid7 p t F=0):symE p t=0:=by
 obtain⟨h1,h2,_⟩:=valid7_spec h
 have hl:¬65536 < t.length:=by omega
 rw[← check_one] at h
 apply Classical.byContradiction
 intro hs
 unfold checkS at h
 simp [List.find?,h1,hs,hl] at h
theorem check_two {p q:Pat} {t:List Int} {F:Int} (h:valid7 p t F=0) (k:valid7 q t F=0):checkS [p,q] t F=0:=by
 obtain⟨h1,h2,_,h4,h5⟩:=valid7_spec h
 have k1:=(valid7_spec k).1
 have hl:¬65536 < t.length:=by omega
 have hf:¬(F < 0∨1099511627776 < F):=by omega
 unfold checkS
 simp [List.find?,h1,k1,sym_zero h,sym_zero k,hl,hf]
theorem pos_all {p:Pat} {t:List Int} {F i:Int} (hv:valid7 p t F=0) (a0:0≤i) (a1:i≤t.length) {m:Smt} (hmp:m.p=p) (hmt:m.t=t) (hmf:m.fuel=F) (hms:m.steps=0) (hsp:m.spent=false) (hB:F≤10000000) :
  ∃L m',AllS (m.begin i) L m'∧FrS (m.begin i) m'∧m'.top≤m'.stk.length∧m'.spent=(searchX p t i (-1) F).2.empty∧((searchX p t i (-1) F).2.empty=false→L=(searchX p t i (-1) F).2.res.map padP∧∀x∈(searchX p t i (-1) F).2.res,x.2.length=p.caps.toNat):=by
 subst hmp hmt
 obtain⟨h1,h2,h3,h4,h5⟩:=valid7_spec hv
 obtain⟨k1,k2,k3,k4,k5⟩:=validR_spec h1
 obtain⟨n,e1,e2⟩:=search_ends (most:=-1) hv a0 a1
 have hst:StkS (m.begin i) ([]++[m.startP i]):=⟨rfl,rfl⟩
 have hsB:(searchX m.p m.t i (-1) F).2.steps≤100000000:=by
  have:=e2.s1
  omega
 have hcon:=sem_con (s:=0) h1 h2 a0 a1 (fun h=>by omega) (Int.le_refl _) h4 e1 hsB (m:=(m.begin i).pop) rfl rfl hmf hms hsp hst.last.2
 obtain⟨L,m',q1,q2,q3,q4,q5,q6⟩:=con_nexts (x:=(searchX m.p m.t i (-1) F).2) (n:=(searchX m.p m.t i (-1) F).2.ends.length + 2) (most:=-1) (by omega) (by omega) (by omega) (.inr ⟨by omega,by omega⟩) hst hsp hcon
 refine⟨L,m',nexts_cut q1 (q6 (by omega)),q2,?_,?_,fun he=>?_⟩
 ·cases he:(searchX m.p m.t i (-1) F).2.empty with
  | false=>exact(q4 he).2.2.2.2.1
  | true=>exact(q5 he).2
 ·cases he:(searchX m.p m.t i (-1) F).2.empty with
  | false=>exact(q4 he).1
  | true=>exact(q5 he).1
 ·obtain⟨r1,r2,r3,r4,r5,r6⟩:=q4 he
  refine⟨r4,fun x hx=>?_⟩
  obtain⟨e,d⟩:=x
  exact r6 d (List.of_mem_zip hx).2
theorem okx_ev (re:Re) (hv:re.every valB=true) (ha:re.exa=true):re.every okx=true:=by
 revert hv ha
 refine Re.ind (Q:=fun re=>re.every valB=true→re.exa=true→re.every okx=true) (fun re ih hv ha=>?_) re
 obtain⟨v1,v2⟩:=(Re.every_iff re).1 hv
 have hv1:=of_decide_eq_true v1
 rw[Re.exa_eq,Bool.and_eq_true] at ha
 obtain⟨a1,a2⟩:=ha
 rw[List.all_eq_true] at a2
 refine(Re.every_iff re).2 ⟨okx_iff.2 ⟨hv1.1,hv1.2.1,fun ho=>?_⟩,fun k hk=>ih k hk (v2 k hk) (a2 k hk)⟩
 obtain⟨w1,w2,w3,w4⟩:=hv1.2.2.1 ho
 obtain⟨kid,l,hkk⟩:∃kid l,re.kids=kid::l:=List.exists_cons_of_length_pos (by omega)
 have h1:=sole_kid w1 hkk
 unfold exaNode at a1
 rw[h1] at a1
 simp [ho] at a1
 refine⟨a1.1,w1,w2,by omega,?_⟩
 rcases a1.2 with h | h
 ·refine .inl ?_
  unfold Re.kept
  simp [h]
 ·refine .inr ?_
  rw[h1]
  simp [h]
theorem unrolled_res {p:Pat} {t:List Int} {F i:Int} (hv1:valid7 p t F=0) (hv2:valid7 ⟨p.re.exp,p.caps,false⟩ t F=0) (ha:p.re.exa=true) (a0:0≤i) (a1:i≤t.length) (e1:(searchX p t i (-1) F).2.empty=false) (e2:(searchX ⟨p.re.exp,p.caps,false⟩ t i (-1) F).2.empty=false) :
  (searchX p t i (-1) F).2.res=(searchX ⟨p.re.exp,p.caps,false⟩ t i (-1) F).2.res:=by
 obtain⟨n1,h1,_⟩:=search_ends (most:=-1) hv1 a0 a1
 obtain⟨n2,h2,_⟩:=search_ends (most:=-1) hv2 a0 a1
 have k1:=evI_of n1 _ _ _ _ _ h1
 have k2:=evI_of n2 _ _ _ _ _ h2
 exact exp_res (okx_ev p.re (val_whole (validR_spec (valid7_spec hv1).1).2.2.2.2) ha) k1 e1 k2 e2
end Go.Proofs.Ytimnnipoaafdfaa
