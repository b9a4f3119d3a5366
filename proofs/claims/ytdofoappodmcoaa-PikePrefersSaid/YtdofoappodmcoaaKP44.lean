/- A part of the proof (K40 K41 K42). -/
import Derived.Test.YtdofoappodmcoaaKP43
set_option linter.unusedSimpArgs false
set_option linter.unusedVariables false
set_option maxRecDepth 100000
set_option maxHeartbeats 80000000
namespace Go.Proofs.Ytdofoappodmcoaa
open Go.VL Go.Proofs.Try
def PTh.toR (x:PTh):RTh:=⟨x.insn,x.regs⟩
theorem cutR_app (g:Prg) (m:List RTh):∀l:List RTh,(cutR g l).2=true→cutR g (l++m)=cutR g l
 | [],h=>by simp [cutR] at h
 | x::l,h=>by
  rw[List.cons_append,cutR,cutR]
  rw[cutR] at h
  split
  ·rfl
  ·rename_i hc
   rw[if_neg hc] at h
   rw[cutR_app g m l h]
theorem cutR_snoc (g:Prg) (x:RTh):∀l:List RTh,(cutR g l).2=false→(cutR g l).1=l∧cutR g (l++[x])=(l++[x],decide ((insAt g x.pc).op=0))
 | [],_=>by
  refine⟨rfl,?_⟩
  simp only[List.nil_append,cutR]
  split
  ·rename_i h; simp [h]
  ·rename_i h; simp [h]
 | y::l,h=>by
  rw[cutR] at h
  by_cases hc:(insAt g y.pc).op=0
  ·rw[if_pos hc] at h; cases h
  ·rw[if_neg hc] at h
   obtain⟨h1,h2⟩:=cutR_snoc g x l h
   refine⟨by rw[cutR,if_neg hc,h1],?_⟩
   rw[List.cons_append,cutR,if_neg hc,h2]
theorem rAdd_ext (g:Prg) (t:List Int) (at_:Int):∀(k:Nat) (pc:Int) (regs:List Int) (r:RSt),∃m,(rAdd g t at_ k pc regs r).ths=r.ths++m
 | 0,_,_,r=>⟨[],by simp [rAdd]⟩
 | k + 1,pc,regs,r=>by
  rw[rAdd]
  split
  ·exact⟨[],by simp⟩
  simp only
  split
  ·obtain⟨m1,h1⟩:=rAdd_ext g t at_ k (insAt g pc).x regs ⟨r.added.set pc.toNat true,r.ths⟩
   obtain⟨m2,h2⟩:=rAdd_ext g t at_ k (insAt g pc).y regs (rAdd g t at_ k (insAt g pc).x regs ⟨r.added.set pc.toNat true,r.ths⟩)
   exact⟨m1++m2,by rw[h2,h1,List.append_assoc]⟩
  split
  ·exact rAdd_ext g t at_ k _ _ ⟨r.added.set pc.toNat true,r.ths⟩
  split
  ·exact rAdd_ext g t at_ k _ _ ⟨r.added.set pc.toNat true,r.ths⟩
  split
  ·split
   ·exact rAdd_ext g t at_ k _ _ ⟨r.added.set pc.toNat true,r.ths⟩
   ·exact⟨[],by simp⟩
  ·exact⟨_,rfl⟩
structure Sim (g:Prg) (at_ frm:Int) (st:PSt) (r:RSt):Prop where
 added:r.added.length=g.ins.length
 marks:st.closed=false→∀i,i < g.ins.length→(st.marks.getD i 0=at_ + 1 ↔ r.added.getD i true=true)
 list:st.list.map PTh.toR=(cutR g r.ths).1
 done:st.closed=(cutR g r.ths).2
 from_:∀x∈st.list,x.from_=frm
 le:∀m∈st.marks,m≤at_ + 1
theorem add_sim (g:Prg) (hg:g.good) (t:List Int) (at_ frm:Int):∀(k:Nat) (pc:Int) (regs:List Int) (st:PSt) (r:RSt),st.ok g→Sim g at_ frm st r→0≤pc→pc < g.ins.length→Sim g at_ frm (pAdd g t at_ frm k pc regs st) (rAdd g t at_ k pc regs r)
 | 0,_,_,st,r,_,h,_,_=>by simpa [pAdd,rAdd] using h
 | k + 1,pc,regs,st,r,hok,h,h0,h1=>by
  by_cases hc:st.closed=true
  ·rw[pAdd,if_pos (.inl hc)]
   obtain⟨m,hm⟩:=rAdd_ext g t at_ (k + 1) pc regs r
   have hcut:cutR g (rAdd g t at_ (k + 1) pc regs r).ths=cutR g r.ths:=by rw[hm]; exact cutR_app g m _ (by rw[← h.done]; exact hc)
   exact⟨by rw[(rAdd_len g t at_ (k + 1) pc regs r).1]; exact h.added,fun hcl=>(by rw[hc] at hcl; cases hcl),by rw[hcut]; exact h.list,by rw[hcut]; exact h.done,h.from_,h.le⟩
  have hcf:st.closed=false:=by simpa using hc
  have hmk:=h.marks hcf pc.toNat (by omega)
  by_cases hm:st.marks.getD pc.toNat 0=at_ + 1
  ·rw[pAdd,rAdd,if_pos (.inr hm),if_pos (hmk.1 hm)]
   exact h
  rw[pAdd,rAdd,if_neg (fun hh=>hh.elim hc hm),if_neg (fun hh=>hm (hmk.2 hh))]
  have hx:=insAt_get h0 h1
  have hs:=hg.split pc.toNat _ hx
  have hj:=hg.jump pc.toNat _ hx
  have hn:=hg.next pc.toNat _ hx
  have ho:=hg.ops _ (List.mem_of_getElem? hx)
  have hok1:=hok.mark' pc (at_ + 1)
  have hlen:=hok.len
  have hS:Sim g at_ frm (st.mark pc (at_ + 1)) ⟨r.added.set pc.toNat true,r.ths⟩:=by
   refine⟨by simpa using h.added,fun _ i hi=>?_,h.list,h.done,h.from_,fun m hmm=>?_⟩
   ·have ha:=h.added
    have hi2:=h.marks hcf i hi
    show (st.marks.set pc.toNat (at_ + 1)).getD i 0=at_ + 1 ↔ (r.added.set pc.toNat true).getD i true=true
    simp only[List.getD_eq_getElem?_getD,List.getElem?_set] at hi2 ⊢
    by_cases he:pc.toNat=i
    ·subst he
     simp [show pc.toNat < st.marks.length by omega,show pc.toNat < r.added.length by omega]
    ·simpa [he] using hi2
   ·rcases List.mem_or_eq_of_mem_set hmm with hmm | rfl
    ·exact h.le m hmm
    ·exact Int.le_refl _
  simp only
  have hcl1:(st.mark pc (at_ + 1)).closed=false:=hcf
  generalize st.mark pc (at_ + 1)=st1 at *
  have hpush:∀c:Bool,c=decide ((insAt g pc).op=0)→Sim g at_ frm (st1.push ⟨pc,frm,regs⟩ c) ⟨r.added.set pc.toNat true,r.ths++[⟨pc,regs⟩]⟩:=by
   rintro c rfl
   obtain⟨q1,q2⟩:=cutR_snoc g ⟨pc,regs⟩ r.ths (by rw[← hS.done]; exact hcl1)
   refine⟨hS.added,fun _=>hS.marks hcl1,?_,?_,?_,hS.le⟩
   ·rw[PSt.list_push hok1.n,List.map_append,hS.list,q1,q2]; rfl
   ·rw[q2]; rfl
   ·rw[PSt.list_push hok1.n]
    intro x hx
    rcases List.mem_append.1 hx with hx | hx
    ·exact hS.from_ x hx
    ·rw[List.mem_singleton.1 hx]
  by_cases o0:(insAt g pc).op=0
  ·rw[if_pos (.inl o0),if_neg (by omega),if_neg (by omega),if_neg (by omega),if_neg (by omega)]
   exact hpush _ rfl
  by_cases o1:(insAt g pc).op=1
  ·rw[if_pos (.inr o1),if_neg (by omega),if_neg (by omega),if_neg (by omega),if_neg (by omega)]
   exact hpush _ rfl
  rw[if_neg (fun hh=>hh.elim o0 o1)]
  by_cases o2:(insAt g pc).op=2
  ·rw[if_pos o2,if_pos o2]
   have:=hs o2
   have k1:=add_sim g hg t at_ frm k (insAt g pc).x regs st1 ⟨r.added.set pc.toNat true,r.ths⟩ hok1 hS (by omega) (by omega)
   have k2:=(pAdd_inv g t at_ frm k (insAt g pc).x regs st1 hg hok1 (by omega) (by omega)).1
   exact add_sim g hg t at_ frm k (insAt g pc).y regs _ _ k2 k1 (by omega) (by omega)
  rw[if_neg o2,if_neg o2]
  by_cases o3:(insAt g pc).op=3
  ·rw[if_pos o3,if_pos o3]
   have:=hj o3
   exact add_sim g hg t at_ frm k _ _ _ _ hok1 hS (by omega) (by omega)
  rw[if_neg o3,if_neg o3]
  by_cases o4:(insAt g pc).op=4
  ·rw[if_pos o4,if_pos o4]
   have:=hn (.inr (by omega))
   exact add_sim g hg t at_ frm k _ _ _ _ hok1 hS (by omega) (by omega)
  rw[if_neg o4,if_neg o4,if_pos (by omega:(insAt g pc).op=5)]
  split
  ·have:=hn (.inr (by omega))
   exact add_sim g hg t at_ frm k _ _ _ _ hok1 hS (by omega) (by omega)
  ·exact hS
theorem feed_sim (g:Prg) (hg:g.good) (t:List Int) (at_ frm:Int):∀(l:List PTh) (st:PSt) (r:RSt),(∀x∈l,x.ok g)→(∀x∈l,x.from_=frm)→st.ok g→Sim g (at_ + 1) frm st r→Sim g (at_ + 1) frm (pFeed g t at_ l st) ((l.map PTh.toR).foldl (nextS g t at_) r)
 | [],_,_,_,_,_,h=>h
 | x::l,st,r,hl,hf,hok,h=>by
  have hx:=hl x (by simp)
  have hfx:=hf x (by simp)
  show Sim g (at_ + 1) frm (pFeed g t at_ l (pFeed1 g t at_ st x)) ((l.map PTh.toR).foldl (nextS g t at_) (nextS g t at_ r x.toR))
  by_cases hc:pReads g t at_ x
  ·have hn:=hg.next x.insn.toNat _ (insAt_get hx.p0 hx.p1) (.inl hc.1)
   have hp:=hx.p0
   have e1:pFeed1 g t at_ st x=pAdd g t (at_ + 1) frm (rGas g) (x.insn + 1) x.regs st:=by unfold pFeed1; rw[if_pos hc,hfx]
   have e2:nextS g t at_ r x.toR=rAdd g t (at_ + 1) (rGas g) (x.insn + 1) x.regs r:=if_pos hc
   rw[e1,e2]
   exact feed_sim g hg t at_ frm l _ _ (fun y hy=>hl y (by simp [hy])) (fun y hy=>hf y (by simp [hy])) (pAdd_inv g t (at_ + 1) frm (rGas g) (x.insn + 1) x.regs st hg hok (by omega) (by omega)).1
    (add_sim g hg t (at_ + 1) frm (rGas g) (x.insn + 1) x.regs st r hok h (by omega) (by omega))
  ·have e1:pFeed1 g t at_ st x=st:=if_neg hc
   have e2:nextS g t at_ r x.toR=r:=if_neg hc
   rw[e1,e2]
   exact feed_sim g hg t at_ frm l _ _ (fun y hy=>hl y (by simp [hy])) (fun y hy=>hf y (by simp [hy])) hok h
theorem none_sim (g:Prg) (at_ frm:Int) (marks:List Int) (arr:List PTh) (gen:Nat) (hm:marks.length=g.ins.length) (hle:∀m∈marks,m≤at_):Sim g at_ frm ⟨marks,false,arr,0,gen⟩ (rNone g):=by
 refine⟨by simp [rNone],fun _ i hi=>?_,by simp [PSt.list,rNone,cutR],by simp [rNone,cutR],fun x hx=>by simp [PSt.list] at hx,fun m hmm=>by have:=hle m hmm; show m≤at_ + 1; omega⟩
 have h1:marks.getD i 0≠at_ + 1:=by
  have:marks[i]?=some (marks.getD i 0):=getD_get (by omega)
  have:=hle _ (List.mem_of_getElem? this)
  omega
 have h2:(rNone g).added.getD i true=false:=by simp [rNone,List.getD_eq_getElem?_getD,List.getElem?_replicate,hi]
 rw[h2]
 exact⟨fun h=>(h1 h).elim,fun h=>by cases h⟩
theorem cutR_last (g:Prg):∀l:List RTh,(cutR g l).2=true→∃x,(cutR g l).1.getLast?=some x∧(insAt g x.pc).op=0
 | [],h=>by simp [cutR] at h
 | x::l,h=>by
  rw[cutR] at h ⊢
  by_cases hc:(insAt g x.pc).op=0
  ·rw[if_pos hc]; exact⟨x,rfl,hc⟩
  ·rw[if_neg hc] at h ⊢
   obtain⟨y,h1,h2⟩:=cutR_last g l h
   exact⟨y,by simp only; rw[List.getLast?_cons,h1]; rfl,h2⟩
theorem cutR_no (g:Prg):∀l:List RTh,(cutR g l).2=false→∀x∈(cutR g l).1,(insAt g x.pc).op≠0
 | [],_=>by simp [cutR]
 | x::l,h=>by
  rw[cutR] at h ⊢
  by_cases hc:(insAt g x.pc).op=0
  ·rw[if_pos hc] at h; cases h
  ·rw[if_neg hc] at h ⊢
   intro y hy
   rcases List.mem_cons.1 hy with rfl | hy
   ·exact hc
   ·exact cutR_no g l h y hy
theorem best_law (g:Prg) (at_ frm:Int) (st:PSt) (l:RList) (σ:FSt) (hl:l.at_=at_) (h:Sim g at_ frm st l.st):(fF g σ at_ st.list).2=bestR g frm l σ.2:=by
 have hlist:=h.list
 unfold fF bestR lastRegs
 simp only[← List.getLast?_eq_getElem?]
 cases hc:(cutR g l.st.ths).2 with
 | true =>
  obtain⟨y,h1,h2⟩:=cutR_last g l.st.ths hc
  rw[← hlist,List.getLast?_map] at h1
  obtain⟨x,hx,rfl⟩:=Option.map_eq_some_iff.1 h1
  have hxf:=h.from_ x (List.mem_of_getLast? hx)
  rw[← hlist,List.getLast?_map,hx]
  simp only[if_true,Option.map_some]
  have h2':(insAt g x.insn).op=0:=h2
  rw[if_pos h2',hxf,hl]
  rfl
 | false =>
  have hno:=cutR_no g l.st.ths hc
  rw[← hlist] at hno
  simp only[Bool.false_eq_true,if_false]
  cases hx:st.list.getLast? with
  | none=>rfl
  | some x =>
   have:(insAt g x.insn).op≠0:=hno x.toR (List.mem_map.2 ⟨x,List.mem_of_getLast? hx,rfl⟩)
   simp only
   rw[if_neg this]
theorem loop_law (S:See FSt) (g:Prg) (hg:g.good) (t:List Int) (hF:S.F=fun σ i l=>fF g σ i l) (hB:S.B=fun _ _ _=>true) (at0:Int):∀(k:Nat) (a:Int) (fd:Bool) (st:PSt) (sp:List PTh × Nat) (σ:FSt) (l:RList),at0≤a→l.at_=a→(pStart g t a at0 fd st).inv g a→Sim g a at0 (pStart g t a at0 fd st) l.st →
  (pLoop S g t at0 k a fd st sp σ).2.2=runR g t at0 k l σ.2
 | 0,_,_,_,_,_,_,_,_,_,_=>rfl
 | k + 1,a,fd,st,sp,σ,l,h0,hl,hi,hs=>by
  rw[pLoop,runR]
  generalize pStart g t a at0 fd st=st1 at *
  have hbest:=best_law g a at0 st1 l σ hl hs
  have hσ:S.F σ a st1.list=fF g σ a st1.list:=by rw[hF]
  have hb:S.B σ a st1.list=true:=by rw[hB]
  rw[hσ,hb]
  have hemp:st1.list=[] ↔ (cutR g l.st.ths).1=[]:=by rw[← hs.list,List.map_eq_nil_iff]
  by_cases hc:(cutR g l.st.ths).1=[]∨(t.length:Int)≤l.at_
  ·rw[if_pos hc,if_pos ?_]
   ·exact hbest
   ·rcases hc with hc | hc
    ·exact .inr (.inl ⟨hemp.2 hc,.inr h0⟩)
    ·exact .inr (.inr (by omega))
  ·rw[if_neg hc,if_neg ?_]
   ·have hns:∀fd' st',pStart g t (a + 1) at0 fd' st'=st':=fun fd' st'=>if_neg (fun h=>by have:=h.1; omega)
    have hinv0:(⟨st1.marks,false,sp.1,0,sp.2⟩:PSt).inv g (a + 1):=by
     have hm1:=hi.ok.len
     refine⟨⟨hm1,Nat.zero_le _⟩,?_,fun x hx=>by simp [PSt.list] at hx⟩
     have:=unm_le (a + 1) st1.marks
     show 0 + unm (a + 1) st1.marks≤_; omega
    have hfs:=feed_sim g hg t a at0 st1.list ⟨st1.marks,false,sp.1,0,sp.2⟩ (rNone g) hi.th hs.from_ hinv0.ok (none_sim g (a + 1) at0 st1.marks sp.1 sp.2 hi.ok.len hs.le)
    have hfk:=pFeed_keep g hg t a st1.list _ hi.th hinv0
    rw[← hbest]
    refine loop_law S g hg t hF hB at0 k (a + 1) _ _ _ _ (nextR g t l) (by omega) (by rw[← hl]; rfl) (by rw[hns]; exact hfk) ?_
    rw[hns]
    unfold nextR nextF
    rw[← hs.list,hl]
    exact hfs
   ·intro h
    rcases h with h | ⟨h,_⟩ | h
    ·cases h
    ·exact hc (.inl (hemp.1 h))
    ·exact hc (.inr (by omega))
theorem first_law (g:Prg) (hg:g.good) (t:List Int) (at_:Int) (ha0:0≤at_):(pFirst g t at_ at_).2.2=run0 g t at_:=by
 have hlen:=hg.len0
 have hok:(pBegin g).ok g:=⟨by simp [pBegin],Nat.le_refl _⟩
 have hinv:(pBegin g).inv g at_:=by
  refine⟨hok,?_,fun x hx=>by simp [PSt.list,pBegin] at hx⟩
  have:=unm_le at_ (pBegin g).marks
  have h':(pBegin g).marks.length=g.ins.length:=by simp [pBegin]
  show 0 + unm at_ (pBegin g).marks≤_; omega
 have hst:pStart g t at_ at_ false (pBegin g)=pAdd g t at_ at_ (rGas g) 0 (pBlank g) (pBegin g):=if_pos ⟨Int.le_refl _,rfl⟩
 have h0:Sim g at_ at_ (pBegin g) (rNone g):=none_sim g at_ at_ _ [] 0 (by simp) (fun m hm=>by rw[(List.mem_replicate.1 hm).2]; exact ha0)
 refine loop_law (firstSee g) g hg t rfl rfl at_ (t.length + 1) at_ false (pBegin g) ([],0) (false,none) (beginR g t at_) (Int.le_refl _) rfl ?_ ?_
 ·rw[hst]
  exact pAdd_keep g hg t at_ at_ _ _ _ _ hinv (Int.le_refl _) (by omega) (by simp [pBlank])
 ·rw[hst]
  exact add_sim g hg t at_ at_ (rGas g) 0 (pBlank g) (pBegin g) (rNone g) hok h0 (Int.le_refl _) (by omega)
end Go.Proofs.Ytdofoappodmcoaa
