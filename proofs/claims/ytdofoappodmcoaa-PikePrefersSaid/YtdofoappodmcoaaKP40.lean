/- A part of the proof (K90 K91 K92). -/
import Derived.Test.YtdofoappodmcoaaKP36
set_option linter.unusedSimpArgs false
set_option linter.unusedVariables false
set_option maxRecDepth 100000
set_option maxHeartbeats 80000000
namespace Go.Proofs.Ytdofoappodmcoaa
open Go.VL Go.Proofs.Try
inductive Way (g:Prg) (t:List Int):Int→Int→List Int→Nat→Option (Int × List Int)→Prop
 | done {pc a:Int} {regs:List Int} (h:(insAt g pc).op=0):Way g t pc a regs 1 (some (a,regs))
 | symN {pc a:Int} {regs:List Int} (h:(insAt g pc).op=1) (hc:¬(a < t.length∧hasB (insAt g pc).set (tAt t a)=true)):Way g t pc a regs 1 none
 | sym {pc a:Int} {regs:List Int} {n:Nat} {r:Option (Int × List Int)} (h:(insAt g pc).op=1) (h1:a < t.length) (h2:hasB (insAt g pc).set (tAt t a)=true) (w:Way g t (pc + 1) (a + 1) regs n r):Way g t pc a regs (n + 1) r
 | spl {pc a:Int} {regs:List Int} {n:Nat} {r:Int × List Int} (h:(insAt g pc).op=2) (w:Way g t (insAt g pc).x a regs n (some r)):Way g t pc a regs (n + 1) (some r)
 | spr {pc a:Int} {regs:List Int} {n m:Nat} {r:Option (Int × List Int)} (h:(insAt g pc).op=2) (w:Way g t (insAt g pc).x a regs n none) (w2:Way g t (insAt g pc).y a regs m r):Way g t pc a regs (n + m + 1) r
 | jmp {pc a:Int} {regs:List Int} {n:Nat} {r:Option (Int × List Int)} (h:(insAt g pc).op=3) (w:Way g t (insAt g pc).x a regs n r):Way g t pc a regs (n + 1) r
 | sav {pc a:Int} {regs:List Int} {n:Nat} {r:Option (Int × List Int)} (h:(insAt g pc).op=4) (w:Way g t (pc + 1) a (regs.set (insAt g pc).n.toNat a) n r):Way g t pc a regs (n + 1) r
 | ass {pc a:Int} {regs:List Int} {n:Nat} {r:Option (Int × List Int)} (h:(insAt g pc).op=5) (hc:holdsR (insAt g pc).n t a=true) (w:Way g t (pc + 1) a regs n r):Way g t pc a regs (n + 1) r
 | assN {pc a:Int} {regs:List Int} (h:(insAt g pc).op=5) (hc:¬holdsR (insAt g pc).n t a=true):Way g t pc a regs 1 none
theorem Way.det {g:Prg} {t:List Int} {pc a:Int} {regs:List Int} {n:Nat} {r:Option (Int × List Int)} (w:Way g t pc a regs n r):∀{regs':List Int} {n':Nat} {r':Option (Int × List Int)},Way g t pc a regs' n' r'→n=n'∧r.isSome=r'.isSome∧(regs=regs'→r=r'):=by
 induction w with
 | done h =>
  intro regs' n' r' w'
  cases w' <;> (try (exfalso; simp_all; done))
  exact⟨rfl,rfl,fun e=>by rw[e]⟩
 | symN h hc =>
  intro regs' n' r' w'
  cases w' <;> (try (exfalso; simp_all; done))
  exact⟨rfl,rfl,fun e=>rfl⟩
 | sym h h1 h2 w ih =>
  intro regs' n' r' w'
  cases w' <;> (try (exfalso; simp_all; done))
  rename_i w'
  obtain⟨e1,e2,e3⟩:=ih w'
  exact⟨by omega,e2,e3⟩
 | spl h w ih =>
  intro regs' n' r' w'
  cases w' <;> (try (exfalso; simp_all; done))
  ·rename_i w'
   obtain⟨e1,e2,e3⟩:=ih w'
   exact⟨by omega,e2,e3⟩
  ·rename_i w' _
   obtain⟨e1,e2,e3⟩:=ih w'
   cases e2
 | spr h w w2 ih ih2 =>
  intro regs' n' r' w'
  cases w' <;> (try (exfalso; simp_all; done))
  ·rename_i w'
   obtain⟨e1,e2,e3⟩:=ih w'
   cases e2
  ·rename_i w' w2'
   obtain⟨e1,e2,e3⟩:=ih w'
   obtain⟨f1,f2,f3⟩:=ih2 w2'
   exact⟨by omega,f2,f3⟩
 | jmp h w ih =>
  intro regs' n' r' w'
  cases w' <;> (try (exfalso; simp_all; done))
  rename_i w'
  obtain⟨e1,e2,e3⟩:=ih w'
  exact⟨by omega,e2,e3⟩
 | sav h w ih =>
  intro regs' n' r' w'
  cases w' <;> (try (exfalso; simp_all; done))
  rename_i w'
  obtain⟨e1,e2,e3⟩:=ih w'
  exact⟨by omega,e2,fun e=>e3 (by rw[e])⟩
 | ass h hc w ih =>
  intro regs' n' r' w'
  cases w' <;> (try (exfalso; simp_all; done))
  rename_i w'
  obtain⟨e1,e2,e3⟩:=ih w'
  exact⟨by omega,e2,e3⟩
 | assN h hc =>
  intro regs' n' r' w'
  cases w' <;> (try (exfalso; simp_all; done))
  exact⟨rfl,rfl,fun e=>rfl⟩
def NoWay (g:Prg) (t:List Int) (a q:Int):Prop:=∃n regs,Way g t q a regs n none
inductive Out (g:Prg) (t:List Int) (a:Int):List RTh→Option (Int × List Int)→Prop
 | nil:Out g t a [] none
 | hit {x l n r} (w:Way g t x.pc a x.regs n (some r)):Out g t a (x::l) (some r)
 | miss {x l n r} (w:Way g t x.pc a x.regs n none) (h:Out g t a l r):Out g t a (x::l) r
theorem Out.app_some {g:Prg} {t:List Int} {a:Int} {l l':List RTh} {o:Int × List Int} (h:Out g t a l (some o)):Out g t a (l++l') (some o):=by
 generalize hr:some o=r at h
 induction h with
 | nil=>cases hr
 | hit w=>exact hr ▸ .hit (hr ▸ w)
 | miss w h ih=>exact .miss w (ih hr)
theorem Out.app_none {g:Prg} {t:List Int} {a:Int} {l l':List RTh} {r:Option (Int × List Int)} (h:Out g t a l none) (h':Out g t a l' r):Out g t a (l++l') r:=by
 generalize hr:(none:Option (Int × List Int))=r0 at h
 induction h with
 | nil=>exact h'
 | hit w=>cases hr
 | miss w h ih=>exact .miss w (ih hr)
theorem rAdd_pre (g:Prg) (t:List Int) (a:Int):∀(k:Nat) (pc:Int) (regs:List Int) (st:RSt),st.ths <+: (rAdd g t a k pc regs st).ths
 | 0,_,_,st=>List.prefix_refl _
 | k + 1,pc,regs,st=>by
  rw[rAdd]
  split
  ·exact List.prefix_refl _
  simp only
  split
  ·exact(rAdd_pre g t a k _ regs ⟨st.added.set pc.toNat true,st.ths⟩).trans (rAdd_pre g t a k _ _ _)
  split
  ·exact rAdd_pre g t a k _ regs ⟨st.added.set pc.toNat true,st.ths⟩
  split
  ·exact rAdd_pre g t a k _ _ ⟨st.added.set pc.toNat true,st.ths⟩
  split
  ·split
   ·exact rAdd_pre g t a k _ regs ⟨st.added.set pc.toNat true,st.ths⟩
   ·exact List.prefix_refl _
  ·exact List.prefix_append _ _
theorem Out.pre {g:Prg} {t:List Int} {a:Int} {l l':List RTh} {o:Int × List Int} (h:Out g t a l (some o)) (hp:l <+: l'):Out g t a l' (some o):=by
 obtain⟨r,rfl⟩:=hp
 exact h.app_some
def Added (g:Prg) (t:List Int) (a:Int) (S:Int→Prop) (st:RSt):Prop:=∀q:Int,0≤q→q < g.ins.length→st.added.getD q.toNat true=true→NoWay g t a q∨S q
theorem rAdd_out {g:Prg} (hg:g.good) {t:List Int} {a:Int}:∀(k:Nat) (pc:Int) (regs:List Int) (st:RSt) (S:Int→Prop) (n:Nat) (r:Option (Int × List Int)),Way g t pc a regs n r→0≤pc→pc < g.ins.length→st.added.length=g.ins.length→free st.added < k →
  Added g t a S st→(∀q,S q→∃m regs' r',n < m∧Way g t q a regs' m r')→Out g t a st.ths none→Out g t a (rAdd g t a k pc regs st).ths r∧(r=none→Added g t a S (rAdd g t a k pc regs st))
 | 0,_,_,_,_,_,_,_,_,_,_,h,_,_,_=>by omega
 | k + 1,pc,regs,st,S,n,r,w,p0,p1,hl,hf,hA,hS,ho=>by
  rw[rAdd]
  by_cases hc:st.added.getD pc.toNat true=true
  ·rw[if_pos hc]
   rcases hA pc p0 p1 hc with ⟨m,regs',w'⟩ | hs
   ·have:=w.det w'
    have hr:r=none:=by cases r with
     | none=>rfl
     | some r=>have:=this.2.1; cases this
    exact⟨hr ▸ ho,fun _=>hA⟩
   ·obtain⟨m,regs',r',hm,w'⟩:=hS pc hs
    have:=(w.det w').1
    omega
  rw[if_neg hc]
  have hins:=insAt_get p0 p1
  have hf1:=free_set (l:=st.added) (i:=pc.toNat) (by simpa using hc)
  simp only
  generalize hst:(⟨st.added.set pc.toNat true,st.ths⟩:RSt)=st1
  have hl1:st1.added.length=g.ins.length:=by rw[← hst]; simpa using hl
  have hfr:free st1.added < k:=by rw[← hst]; show free (st.added.set pc.toNat true) < k; omega
  have ho1:Out g t a st1.ths none:=by rw[← hst]; exact ho
  have hA1:Added g t a (fun q=>S q∨q=pc) st1:=by
   intro q q0 q1 hq
   by_cases e:q=pc
   ·exact .inr (.inr e)
   ·rw[← hst] at hq
    have hne:pc.toNat≠q.toNat:=by omega
    have:st.added.getD q.toNat true=true:=by
     simp only[List.getD_eq_getElem?_getD,List.getElem?_set_ne hne] at hq ⊢
     exact hq
    rcases hA q q0 q1 this with h | h
    ·exact .inl h
    ·exact .inr (.inl h)
  have hback:∀st2:RSt,r=none→Added g t a (fun q=>S q∨q=pc) st2→Added g t a S st2:=fun st2 hr h2 q q0 q1 hq=>by
   rcases h2 q q0 q1 hq with h | h | h
   ·exact .inl h
   ·exact .inr h
   ·exact .inl (h ▸ ⟨n,regs,hr ▸ w⟩)
  have hS1:∀n',n' < n→∀q,(S q∨q=pc)→∃m regs' r',n' < m∧Way g t q a regs' m r':=fun n' hn q hq=>by
   rcases hq with hq | rfl
   ·obtain⟨m,regs',r',hm,w'⟩:=hS q hq
    exact⟨m,regs',r',by omega,w'⟩
   ·exact⟨n,regs,r,hn,w⟩
  have hth:∀(o:Option (Int × List Int)) (m:Nat),Way g t pc a regs m o→Out g t a (st1.ths++[⟨pc,regs⟩]) o:=fun o m w'=>by
   refine ho1.app_none ?_
   cases o with
   | none=>exact .miss w' .nil
   | some o=>exact .hit w'
  cases w with
  | done h =>
   rw[if_neg (by omega),if_neg (by omega),if_neg (by omega),if_neg (by omega)]
   subst hst
   exact⟨hth _ _ (.done h),fun e=>by cases e⟩
  | symN h hn =>
   rw[if_neg (by omega),if_neg (by omega),if_neg (by omega),if_neg (by omega)]
   subst hst
   exact⟨hth _ _ (.symN h hn),fun e=>hback _ e hA1⟩
  | sym h h1 h2 w =>
   rw[if_neg (by omega),if_neg (by omega),if_neg (by omega),if_neg (by omega)]
   subst hst
   exact⟨hth _ _ (.sym h h1 h2 w),fun e=>hback _ e hA1⟩
  | spl h w =>
   rw[if_pos h]
   have hsp:=hg.split _ _ hins h
   have ih:=rAdd_out hg k _ regs st1 _ _ _ w hsp.1 hsp.2.1 hl1 hfr hA1 (hS1 _ (by omega)) ho1
   exact⟨ih.1.pre (rAdd_pre g t a k _ _ _),fun e=>by cases e⟩
  | spr h w w2 =>
   rw[if_pos h]
   have hsp:=hg.split _ _ hins h
   have ih:=rAdd_out hg k _ regs st1 _ _ _ w hsp.1 hsp.2.1 hl1 hfr hA1 (hS1 _ (by omega)) ho1
   have hlen:=rAdd_len g t a k (insAt g pc).x regs st1
   have ih2:=rAdd_out hg k _ regs _ _ _ _ w2 hsp.2.2.1 hsp.2.2.2 (by omega) (by omega) (ih.2 rfl) (hS1 _ (by omega)) ih.1
   exact⟨ih2.1,fun e=>hback _ e (ih2.2 e)⟩
  | jmp h w =>
   rw[if_neg (by omega),if_pos h]
   have hsp:=hg.jump _ _ hins h
   have ih:=rAdd_out hg k _ regs st1 _ _ _ w hsp.1 hsp.2 hl1 hfr hA1 (hS1 _ (by omega)) ho1
   exact⟨ih.1,fun e=>hback _ e (ih.2 e)⟩
  | sav h w =>
   rw[if_neg (by omega),if_neg (by omega),if_pos h]
   have hsp:=hg.next _ _ hins (.inr (by omega))
   have ih:=rAdd_out hg k _ _ st1 _ _ _ w (by omega) (by omega) hl1 hfr hA1 (hS1 _ (by omega)) ho1
   exact⟨ih.1,fun e=>hback _ e (ih.2 e)⟩
  | ass h hh w =>
   rw[if_neg (by omega),if_neg (by omega),if_neg (by omega),if_pos h,if_pos hh]
   have hsp:=hg.next _ _ hins (.inr (by omega))
   have ih:=rAdd_out hg k _ regs st1 _ _ _ w (by omega) (by omega) hl1 hfr hA1 (hS1 _ (by omega)) ho1
   exact⟨ih.1,fun e=>hback _ e (ih.2 e)⟩
  | assN h hh =>
   rw[if_neg (by omega),if_neg (by omega),if_neg (by omega),if_pos h,if_neg hh]
   exact⟨ho1,fun e=>hback _ e hA1⟩
def goOn (g:Prg) (l:List RTh):List RTh:=l.filter fun x=>decide ((insAt g x.pc).op≠0)
theorem goOn_cons (g:Prg) (x:RTh) (l:List RTh):goOn g (x::l)=if (insAt g x.pc).op=0 then goOn g l else x::goOn g l:=by
 unfold goOn
 rw[List.filter_cons]
 by_cases h:(insAt g x.pc).op=0
 ·rw[if_neg (by simp [h]),if_pos h]
 ·rw[if_pos (by simp [h]),if_neg h]
theorem fold_pre (g:Prg) (t:List Int) (a:Int):∀(l:List RTh) (st:RSt),st.ths <+: (l.foldl (nextS g t a) st).ths
 | [],st=>List.prefix_refl _
 | x::l,st=>by
  rw[List.foldl_cons]
  refine List.IsPrefix.trans ?_ (fold_pre g t a l _)
  unfold nextS
  split
  ·exact rAdd_pre g t (a + 1) _ _ _ _
  ·exact List.prefix_refl _
theorem next_out {g:Prg} (hg:g.good) {t:List Int} {a:Int} (ha:a < t.length):∀(l:List RTh) (st:RSt) (r:Option (Int × List Int)),(∀x∈l,x.ok g)→st.added.length=g.ins.length→Added g t (a + 1) (fun _=>False) st→Out g t (a + 1) st.ths none→Out g t a (goOn g l) r→Out g t (a + 1) (l.foldl (nextS g t a) st).ths r
 | [],st,r,_,_,_,ho,h=>by cases h; exact ho
 | x::l,st,r,hok,hl,hA,ho,h=>by
  rw[List.foldl_cons]
  have hx:=hok x (by simp)
  have hins:=insAt_get hx.p0 hx.p1
  rw[goOn_cons] at h
  have hl':∀y∈l,y.ok g:=fun y hy=>hok y (by simp [hy])
  by_cases h0:(insAt g x.pc).op=0
  ·rw[if_pos h0] at h
   have e:nextS g t a st x=st:=if_neg (fun hh=>by omega)
   rw[e]
   exact next_out hg ha l st r hl' hl hA ho h
  ·rw[if_neg h0] at h
   have h1:(insAt g x.pc).op=1:=hx.op.resolve_left h0
   have hn:=hg.next x.pc.toNat _ hins (.inl h1)
   have hp0:=hx.p0
   have hfree:free st.added < rGas g:=by have:=free_le st.added; unfold rGas; omega
   by_cases hm:hasB (insAt g x.pc).set (tAt t a)=true
   ·have e:nextS g t a st x=rAdd g t (a + 1) (rGas g) (x.pc + 1) x.regs st:=if_pos ⟨h1,hm⟩
    rw[e]
    have hlen:=rAdd_len g t (a + 1) (rGas g) (x.pc + 1) x.regs st
    have key:∀n o,Way g t x.pc a x.regs n o→∃m,Way g t (x.pc + 1) (a + 1) x.regs m o:=by
     intro n o w
     cases w <;> (try (exfalso; simp_all; done))
     rename_i w
     exact⟨_,w⟩
    cases h with
    | hit w =>
     obtain⟨m,w'⟩:=key _ _ w
     have:=rAdd_out hg (rGas g) _ _ st (fun _=>False) _ _ w' (by omega) (by omega) hl hfree hA (fun q hq=>hq.elim) ho
     exact this.1.pre (fold_pre g t a l _)
    | miss w h =>
     obtain⟨m,w'⟩:=key _ _ w
     have:=rAdd_out hg (rGas g) _ _ st (fun _=>False) _ _ w' (by omega) (by omega) hl hfree hA (fun q hq=>hq.elim) ho
     exact next_out hg ha l _ r hl' (by omega) (this.2 rfl) this.1 h
   ·have e:nextS g t a st x=st:=if_neg (fun hh=>hm hh.2)
    rw[e]
    cases h with
    | hit w =>
     exfalso
     cases w <;> simp_all
    | miss w h=>exact next_out hg ha l st r hl' hl hA ho h
def outM (g:Prg) (s:Int) (b:Option Mat):Option (Int × List Int)→Option Mat
 | none=>b
 | some (e,regs)=>some ⟨s,e,capsOf g.caps.toNat regs⟩
theorem lastRegs_cons (x:RTh) {l:List RTh} (h:l≠[]):lastRegs (x::l)=lastRegs l:=by
 unfold lastRegs
 obtain⟨y,l',rfl⟩:=List.exists_cons_of_ne_nil h
 simp
theorem cut_ne {g:Prg}:∀{l:List RTh},(cutR g l).2=true→(cutR g l).1≠[]
 | [],h=>by simp [cutR] at h
 | x::l,h=>by unfold cutR; split <;> simp
theorem cut_out {g:Prg} {t:List Int} {a:Int}:∀{l:List RTh} {r:Option (Int × List Int)},Out g t a l r→∃r1,Out g t a (goOn g (cutR g l).1) r1∧∀s b,outM g s b r=outM g s (if (cutR g l).2=true then some ⟨s,a,capsOf g.caps.toNat (lastRegs (cutR g l).1)⟩ else b) r1
 | [],r,h=>by
  cases h
  exact⟨none,.nil,fun s b=>rfl⟩
 | x::l,r,h=>by
  by_cases h0:(insAt g x.pc).op=0
  ·have e:cutR g (x::l)=([x],true):=by rw[cutR,if_pos h0]
   rw[e]
   refine⟨none,?_,fun s b=>?_⟩
   ·rw[goOn_cons,if_pos h0]; exact .nil
   ·have hr:r=some (a,x.regs):=by
     cases h with
     | hit w=>exact((w.det (.done h0)).2.2 rfl)
     | miss w h=>have:=(w.det (.done h0 (regs:=x.regs))).2.1; cases this
    rw[hr]
    rfl
  ·have e:cutR g (x::l)=(x::(cutR g l).1,(cutR g l).2):=by rw[cutR,if_neg h0]
   rw[e]
   simp only
   cases h with
   | hit w =>
    refine⟨some _,?_,fun s b=>rfl⟩
    rw[goOn_cons,if_neg h0]; exact .hit w
   | miss w h =>
    obtain⟨r1,h1,h2⟩:=cut_out h
    refine⟨r1,?_,fun s b=>?_⟩
    ·rw[goOn_cons,if_neg h0]; exact .miss w h1
    ·rw[h2 s b]
     by_cases hc:(cutR g l).2=true
     ·rw[if_pos hc,if_pos hc,lastRegs_cons x (cut_ne hc)]
     ·rw[if_neg hc,if_neg hc]
theorem cutR_mem (g:Prg):∀{l:List RTh} {x:RTh},x∈(cutR g l).1→x∈l
 | [],_,h=>by simp [cutR] at h
 | y::l,x,h=>by
  rw[cutR] at h
  split at h
  ·rw[List.mem_singleton.1 h]; simp
  ·rcases List.mem_cons.1 h with rfl | h
   ·simp
   ·exact List.mem_cons_of_mem _ (cutR_mem g h)
theorem end_out {g:Prg} {t:List Int} {a:Int} (ha:(t.length:Int)≤a):∀{l:List RTh} {r:Option (Int × List Int)},(∀x∈l,x.ok g)→Out g t a (goOn g l) r→r=none
 | [],r,_,h=>by cases h; rfl
 | x::l,r,hok,h=>by
  rw[goOn_cons] at h
  have hl':∀y∈l,y.ok g:=fun y hy=>hok y (by simp [hy])
  by_cases h0:(insAt g x.pc).op=0
  ·rw[if_pos h0] at h
   exact end_out ha hl' h
  ·rw[if_neg h0] at h
   have h1:(insAt g x.pc).op=1:=(hok x (by simp)).op.resolve_left h0
   cases h with
   | hit w =>
    exfalso
    have:=(w.det (.symN (regs:=x.regs) h1 (fun hh=>by omega))).2.1
    cases this
   | miss w h=>exact end_out ha hl' h
theorem runR_out {g:Prg} (hg:g.good) {t:List Int} (s:Int):∀(k:Nat) (l:RList) (b:Option Mat) (r:Option (Int × List Int)),(∀x∈l.st.ths,x.ok g)→l.at_≤t.length→(t.length:Int) - l.at_ < k→Out g t l.at_ l.st.ths r→runR g t s k l b=outM g s b r
 | 0,_,_,_,_,_,h,_=>by omega
 | k + 1,l,b,r,hok,ha,hk,h=>by
  obtain⟨r1,h1,h2⟩:=cut_out h
  have hok1:∀x∈(cutR g l.st.ths).1,x.ok g:=fun x hx=>hok x (cutR_mem g hx)
  rw[runR,h2 s b]
  have hbe:bestR g s l b=if (cutR g l.st.ths).2=true then some ⟨s,l.at_,capsOf g.caps.toNat (lastRegs (cutR g l.st.ths).1)⟩ else b:=rfl
  rw[hbe]
  by_cases hc:(cutR g l.st.ths).1=[]∨(t.length:Int)≤l.at_
  ·rw[if_pos hc]
   have hr1:r1=none:=by
    rcases hc with hc | hc
    ·rw[hc] at h1; cases h1; rfl
    ·exact end_out hc hok1 h1
   rw[hr1]; rfl
  ·rw[if_neg hc]
   have hlt:l.at_ < t.length:=by omega
   have hnx:=next_out hg hlt _ (rNone g) r1 hok1 (by simp [rNone]) (fun q q0 q1 hq=>by
    exfalso
    simp only[rNone,List.getD_eq_getElem?_getD] at hq
    rw[List.getElem?_replicate,if_pos (by omega)] at hq
    cases hq) .nil h1
   exact runR_out hg s k (nextR g t l) _ r1 ((nextF_ok g hg t l.at_ _ hok1).2.2) (by show l.at_ + 1≤t.length; omega) (by show (t.length:Int) - (l.at_ + 1) < k; omega) hnx
theorem run0_out {g:Prg} (hg:g.good) {t:List Int} {a:Int} (ha0:0≤a) (ha:a≤t.length) {n:Nat} {r:Option (Int × List Int)} (w:Way g t 0 a (List.replicate (2 * g.caps).toNat (-1)) n r):run0 g t a=outM g a none r:=by
 have h0:=hg.len0
 have hb:=rAdd_out hg (a:=a) (rGas g) 0 (List.replicate (2 * g.caps).toNat (-1)) (rNone g) (fun _=>False) n r w (Int.le_refl _) (by omega) (by simp [rNone]) (by have:=free_le (rNone g).added; simp [rNone] at this; unfold rGas; simp only[rNone]; omega) (fun q q0 q1 hq=>by
  exfalso
  simp only[rNone,List.getD_eq_getElem?_getD] at hq
  rw[List.getElem?_replicate,if_pos (by omega)] at hq
  cases hq) (fun q hq=>hq.elim) .nil
 exact runR_out hg a _ (beginR g t a) none r (begin_th g hg t a).1 ha (by show (t.length:Int) - a < ((t.length + 1:Nat):Int); omega) hb.1
theorem Way.pos {g:Prg} {t:List Int} {pc a:Int} {regs:List Int} {n:Nat} {r:Option (Int × List Int)} (w:Way g t pc a regs n r):1≤n:=by
 cases w <;> omega
structure Met (g:Prg) (t:List Int) (a:Int) (V:List Int) (n:Nat):Prop where
 nd:V.Nodup
 rg:∀q∈V,0≤q∧q < g.ins.length
 st:∀q∈V,∃m regs r,n < m∧Way g t q a regs m r
theorem Met.nil (g:Prg) (t:List Int) (a:Int) (n:Nat):Met g t a [] n:=⟨List.nodup_nil,fun _ h=>(by cases h),fun _ h=>(by cases h)⟩
theorem Met.cons {g:Prg} {t:List Int} {a:Int} {V:List Int} {n n':Nat} {pc:Int} {regs:List Int} {r:Option (Int × List Int)} (h:Met g t a V n) (w:Way g t pc a regs n r) (p0:0≤pc) (p1:pc < g.ins.length) (hn:n' < n):Met g t a (pc::V) n':=by
 refine⟨List.nodup_cons.2 ⟨fun hm=>?_,h.nd⟩,fun q hq=>?_,fun q hq=>?_⟩
 ·obtain⟨m,regs',r',hlt,w'⟩:=h.st pc hm
  have:=(w.det w').1
  omega
 ·rcases List.mem_cons.1 hq with rfl | hq
  ·exact⟨p0,p1⟩
  ·exact h.rg q hq
 ·rcases List.mem_cons.1 hq with rfl | hq
  ·exact⟨n,regs,r,hn,w⟩
  ·obtain⟨m,regs',r',hlt,w'⟩:=h.st q hq
   exact⟨m,regs',r',by omega,w'⟩
theorem nodup_len:∀{L:Nat} {V:List Int},V.Nodup→(∀q∈V,0≤q∧q < L)→V.length≤L
 | 0,V,_,h=>by
  cases V with
  | nil=>simp
  | cons q V=>have:=h q (by simp); omega
 | L + 1,V,hn,h=>by
  have h1:=nodup_len (L:=L) (V:=V.filter fun q=>decide (q≠(L:Int))) (hn.filter _) (fun q hq=>by
   obtain⟨h2,h3⟩:=List.mem_filter.1 hq
   have:=h q h2
   have h3:q≠(L:Int):=of_decide_eq_true h3
   omega)
  have h2:V.length≤(V.filter fun q=>decide (q≠(L:Int))).length + 1:=by
   have h3:=List.countP_eq_length_filter (p:=fun q:Int=>decide (q≠(L:Int))) (l:=V)
   have h4:=List.length_eq_countP_add_countP (fun q:Int=>decide (q≠(L:Int))) (l:=V)
   have h5:V.countP (fun q:Int=>!decide (q≠(L:Int)))≤1:=by
    have:V.countP (fun q:Int=>!decide (q≠(L:Int)))=V.count (L:Int):=by
     unfold List.count
     congr 1
     funext q
     by_cases hq:q=(L:Int) <;> simp [hq]
    rw[this]
    exact List.nodup_iff_count.1 hn _
   have h6:V.countP (fun q:Int=>decide ¬decide (q≠(L:Int))=true)=V.countP (fun q:Int=>!decide (q≠(L:Int))):=by
    congr 1
    funext q
    by_cases hq:q=(L:Int) <;> simp [hq]
   omega
  omega
theorem Met.idle {g:Prg} {t:List Int} {a:Int} {V:List Int} {n:Nat} {pc:Int} {regs:List Int} {r:Option (Int × List Int)} (h:Met g t a V n) (w:Way g t pc a regs n r) (p0:0≤pc) (p1:pc < g.ins.length):V.length + 1≤g.ins.length:=by
 have hn:=w.pos
 have h1:=h.cons w p0 p1 (n':=n - 1) (by omega)
 exact nodup_len h1.nd h1.rg
end Go.Proofs.Ytdofoappodmcoaa
