/- A part of the proof (K32). -/
import Derived.Test.YtdofoappodmcoaaKP37
set_option linter.unusedSimpArgs false
set_option linter.unusedVariables false
set_option maxRecDepth 100000
set_option maxHeartbeats 80000000
namespace Go.Proofs.Ytdofoappodmcoaa
open Go.VL Go.Proofs.Try
structure See (W:Type) where
 T2:W→VL.Obj
 T3:W→VL.Obj
 T4:W→VL.Obj
 T5:W→VL.Obj
 f:FuncId
 caps:List V
 F:W→Int→List PTh→W
 B:W→Int→List PTh→Bool
def See.objs {W:Type} (S:See W) (σ:W):List VL.Obj:=[S.T2 σ,S.T3 σ,S.T4 σ,S.T5 σ]
structure See.ok {W:Type} (S:See W) (g:Prg) (t:List Int) (I:W→Prop):Prop where
 ren:∀σ a,(S.objs σ).map (renO [0,1,2,3,4,5,a])=S.objs σ
 all:∀σ n,6≤n→(S.objs σ).all (objOk n)=true
 refs:∀n,6≤n→refsV.go n S.caps=true
 down:∀σ,(S.objs σ).map (downO [0,1,2,3,4,5,6,7,8,9,10,12,11])=S.objs σ
 dcaps:downV.go [0,1,2,3,4,5,6,7,8,9,10,12,11] S.caps=S.caps
 rcaps:∀a,S.caps.map (renV [0,1,2,3,4,5,a])=S.caps
 keep:∀σ i l,I σ→S.B σ i l=true→I (S.F σ i l)
 call:∀(σ:W) (i:Int) (st:PSt),I σ→0≤i→i≤t.length→st.ok g→(∀x∈st.list,x.ok g)→st.n≤100000 →
  callWp prog S.f (i64 i::.so 6 st.gen 0 st.n::S.caps) (pMach g t 1 st::pMarks st::(S.objs σ++[pArr st])) fun v s=>v=bV (S.B σ i st.list)∧s=pMach g t 1 st::pMarks st::(S.objs (S.F σ i st.list)++[pArr st])
def pBlank (g:Prg):List Int:=List.replicate (2 * g.caps).toNat (-1)
def pStart (g:Prg) (t:List Int) (at_ last:Int) (found:Bool) (st:PSt):PSt :=
 if at_≤last∧found=false then pAdd g t at_ at_ (rGas g) 0 (pBlank g) st else st
def pLoop {W:Type} (S:See W) (g:Prg) (t:List Int) (last:Int):Nat→Int→Bool→PSt→List PTh × Nat→W→List Int × W
 | 0,_,_,st,_,σ=>(st.marks,σ)
 | k + 1,at_,found,st,sp,σ =>
  let st1:=pStart g t at_ last found st
  let found1:=found||st1.closed
  let σ1:=S.F σ at_ st1.list
  if S.B σ at_ st1.list=false∨(st1.list=[]∧(found1=true∨last≤at_))∨(t.length:Int)≤at_ then (st1.marks,σ1)
  else pLoop S g t last k (at_ + 1) found1 (pFeed g t at_ st1.list ⟨st1.marks,false,sp.1,0,sp.2⟩) (st1.arr,st1.gen) σ1
def pBegin (g:Prg):PSt:=⟨List.replicate g.ins.length 0,false,[],0,0⟩
def mkO1 (l:List Int):VL.Obj:=⟨1,true,1,l.map fun x=>[i64 x]⟩
def mkO0 (g:Prg) (t:List Int):VL.Obj:=⟨1,true,5,[[.d (.sl (g.ins.map Ins.cells)),i64 g.caps,bV g.runes,.d (intsD t),.so 1 1 0 g.ins.length]]⟩
theorem putEls_zeros {α:Type} (l:List α) (f:α→List V) (n:Nat) (z:List V) (h:l.length=n):putEls (l.map f) 0 (List.replicate n z)=List.replicate n z:=by
 simp [putEls,h]
theorem rep_set {α:Type} (a b:α) {N i:Nat} (h:i < N):(List.replicate i a++List.replicate (N - i) b).set i a=List.replicate (i + 1) a++List.replicate (N - (i + 1)) b:=by
 rw[List.set_append_right _ _ (by simp)]
 obtain⟨m,hm⟩:∃m,N - i=m + 1:=⟨N - i - 1,by omega⟩
 rw[hm]
 simp only[List.length_replicate,Nat.sub_self,List.replicate_succ,List.set_cons_zero]
 have:N - (i + 1)=m:=by omega
 rw[this,← List.replicate_succ,List.replicate_succ',List.append_assoc]
 rfl
theorem pMach_mk {g:Prg} {t:List Int} {st:PSt} (h:st.marks.length=g.ins.length):pMach g t 1 st=mkO0 g t:=by unfold pMach mkO0; rw[h]
theorem Cln0.frz2 {e:VL.Env} {s:List VL.Obj} (ids:List Nat) (t:Nat) {v:V} (h:frzV (killO s ids).length (killO s ids) (e t)=some v):Cln0 e s (updE e t v) (killO s ids):=by
 have hc:=Cln0.freeze (e:=e) (s:=s) ids [t]
 have he:freezeE (killO s ids) [t] e=updE e t v:=by
  funext x
  unfold freezeE updE
  by_cases hx:x=t
  ·subst hx; simp [cleanV,h]
  ·simp [hx]
 rwa [he] at hc
def deadO (N:Nat):VL.Obj:=⟨0,false,1,List.replicate N [i64 (-1)]⟩
def spareO (sp:List PTh × Nat):VL.Obj:=⟨sp.2,true,3,sp.1.map fun x=>x.cells.map V.d⟩
def rObjs {W:Type} (S:See W) (g:Prg) (t:List Int) (st:PSt) (sp:List PTh × Nat) (σ:W):List VL.Obj :=
 [mkO0 g t,pMarks st,S.T2 σ,S.T3 σ,S.T4 σ,S.T5 σ,pMbox 0,deadO (2 * g.caps).toNat,pList 11 st,pClosed st,pAddb 6 9 8 10,pArr st,spareO sp]
theorem rObjs_eq {W:Type} (S:See W) (g:Prg) (t:List Int) (st:PSt) (sp:List PTh × Nat) (σ:W):rObjs S g t st sp σ =
 [mkO0 g t,pMarks st,S.T2 σ,S.T3 σ,S.T4 σ,S.T5 σ,pMbox 0,deadO (2 * g.caps).toNat,pList 11 st,pClosed st,pAddb 6 9 8 10,pArr st,spareO sp]:=rfl
structure REnv {W:Type} (S:See W) (g:Prg) (last a:Int) (fd:Bool) (sp:List PTh × Nat) (m:Nat) (e:VL.Env):Prop where
 h1:e 1=i64 a
 h2:e 2=i64 last
 h3:e 3=.cl (.func S.f) [] S.caps
 h4:e 4=.rf 6 0 0 0
 h8:e 8=.d (intsD (pBlank g))
 h10:e 10=.rf 8 0 0 0
 h11:e 11=.so 12 sp.2 0 m
 h12:e 12=bV fd
 h13:e 13=.rf 9 0 0 0
 h14:e 14=.rf 10 0 0 0
theorem seq_join {P:Program} {N L M:Nat} {a b:Code} {Q:Exit→VL.Env→List VL.Obj→Prop} {e:VL.Env} {s:List VL.Obj} (J:VL.Env→List VL.Obj→Prop) (h1:∀(B:VL.Env→List VL.Obj→Prop) (Q:Exit→VL.Env→List VL.Obj→Prop),(∀e s,J e s→B e s)→codeWp P N L M a (Qseq B Q) e s) (h2:∀e s,J e s→codeWp P N L M b Q e s):codeWp P N L M (.seq a b) Q e s:=h1 _ _ h2
theorem pMarks_ren (ρ:List Nat) (st:PSt):renO ρ (pMarks st)=pMarks st:=by
 unfold renO pMarks
 simp only[List.map_map]
 congr 1
theorem pArr_ren (ρ:List Nat) (st:PSt):renO ρ (pArr st)=pArr st:=by
 unfold renO pArr
 simp only[List.map_map]
 congr 1
theorem call_see {W:Type} {S:See W} {g:Prg} {t:List Int} {I:W→Prop} (hS:S.ok g t I) {σ:W} {a:Int} {st:PSt} {sp:List PTh × Nat} {K:V→List VL.Obj→Prop} (hI:I σ) (ha0:0≤a) (ha1:a≤t.length) (hst:st.ok g) (hth:∀x∈st.list,x.ok g) (hn:st.n≤100000)
  (hk:K (bV (S.B σ a st.list)) (rObjs S g t st sp (S.F σ a st.list))):callWp prog S.f (i64 a::.so 11 st.gen 0 st.n::S.caps) (rObjs S g t st sp σ) K:=by
 have hmk:=pMach_mk (t:=t) hst.len
 have hren:=hS.ren σ 11
 have hren':=hS.ren (S.F σ a st.list) 11
 have hr0:renO [0,1,2,3,4,5,11] (mkO0 g t)=mkO0 g t:=by unfold renO mkO0; simp [renV.go,renV,i64,bV]
 refine call_map [0,1,2,3,4,5,11] (hS.call σ a st hI ha0 ha1 hst hth hn) (by decide) (by simp [See.objs]) ?_ ?_ ?_ ?_ rfl ?_
 ·simp only[See.objs,List.map_cons,List.map_nil,List.cons.injEq,and_true,List.cons_append,List.nil_append] at hren ⊢
  simp only[hren,hmk,pMarks_ren,pArr_ren,hr0]
  exact⟨rfl,rfl,rfl,rfl,rfl,rfl,rfl⟩
 ·simp only[List.map_cons,hS.rcaps]; rfl
 ·have:refsV.go 7 S.caps=true:=hS.refs 7 (by omega)
  simpa [See.objs,refsV.go,refsV,i64] using this
 ·have:=hS.all σ 7 (by omega)
  simp only[List.all_cons,List.all_append,List.all_nil,pMarks_ok,pArr_ok,Bool.and_true,Bool.true_and]
  simp only[See.objs] at *
  rw[hmk]
  simp [objOk,mkO0,refsV,i64,bV,refsV.go] at this ⊢
  exact this
 ·simp only[See.objs,List.map_cons,List.map_nil,List.cons.injEq,and_true,List.cons_append,List.nil_append] at hren' ⊢
  simp only[hren',hmk,pMarks_ren,pArr_ren,hr0]
  exact hk
theorem end_ok {W:Type} {S:See W} {g:Prg} {t:List Int} {I:W→Prop} (hS:S.ok g t I) (st:PSt) (σ:W):(((mkO0 g t).els.all fun e=>e.all (refsV 6)) &&
  (((pMarks st).els.all fun e=>e.all (refsV 6))&&(((S.T2 σ).els.all fun e=>e.all (refsV 6))&&(((S.T3 σ).els.all fun e=>e.all (refsV 6))&&(((S.T4 σ).els.all fun e=>e.all (refsV 6))&&(S.T5 σ).els.all fun e=>e.all (refsV 6))))))=true:=by
 have h:=hS.all σ 6 (Nat.le_refl _)
 have h2:=pMarks_ok 6 st
 simp only[See.objs,List.all_cons,List.all_nil,Bool.and_true] at h
 unfold objOk at h h2
 rw[h2,h]
 rfl
def fObjs {W:Type} (S:See W) (g:Prg) (t:List Int) (st1 st:PSt) (σ:W):List VL.Obj :=
 [mkO0 g t,pMarks st,S.T2 σ,S.T3 σ,S.T4 σ,S.T5 σ,pMbox 0,deadO (2 * g.caps).toNat,pList 12 st,pClosed st,pAddb 6 9 8 10,pArr st1,pArr st]
theorem fObjs_eq {W:Type} (S:See W) (g:Prg) (t:List Int) (st1 st:PSt) (σ:W):fObjs S g t st1 st σ =
 [mkO0 g t,pMarks st,S.T2 σ,S.T3 σ,S.T4 σ,S.T5 σ,pMbox 0,deadO (2 * g.caps).toNat,pList 12 st,pClosed st,pAddb 6 9 8 10,pArr st1,pArr st]:=rfl
theorem deadO_ok (n N:Nat):objOk n (deadO N)=true:=by
 unfold objOk deadO
 rw[List.all_eq_true]
 intro e he
 rw[(List.mem_replicate.1 he).2]
 rfl
theorem fObjs_ok {W:Type} {S:See W} {g:Prg} {t:List Int} {I:W→Prop} (hS:S.ok g t I) (st1 st:PSt) (σ:W):(fObjs S g t st1 st σ).all (objOk 13)=true:=by
 have h:=hS.all σ 13 (by omega)
 simp only[See.objs,List.all_cons,List.all_nil,Bool.and_true,Bool.and_eq_true] at h
 obtain⟨a,b,c,d⟩:=h
 simp only[fObjs,List.all_cons,List.all_nil,pMarks_ok,pArr_ok,deadO_ok,a,b,c,d,Bool.and_true,Bool.true_and]
 simp [objOk,mkO0,pMbox,pClosed,pList,pAddb,refsV,refsV.go,i64,bV]
theorem fObjs_sel {W:Type} {S:See W} {g:Prg} {t:List Int} {I:W→Prop} (hS:S.ok g t I) (st1 st:PSt) (σ:W):selS [0,1,2,3,4,5,6,7,8,9,10,12,11] (fObjs S g t st1 st σ)=rObjs S g t st (st1.arr,st1.gen) σ:=by
 have h:=hS.down σ
 simp only[See.objs,List.map_cons,List.map_nil,List.cons.injEq,and_true] at h
 obtain⟨a,b,c,d⟩:=h
 have hd:∀(ρ:List Nat) (l:List (List D)) (g0:Nat) (b:Bool) (z:Nat),downO ρ ⟨g0,b,z,l.map fun c=>c.map V.d⟩=⟨g0,b,z,l.map fun c=>c.map V.d⟩:=by
  intro ρ l g0 b z
  unfold downO
  rw[List.map_map]
  congr 1
  exact List.map_congr_left fun c _=>downV_go_data _ c
 have e1:∀st:PSt,pMarks st=⟨1,true,1,(st.marks.map fun x=>[iD x]).map fun c=>c.map V.d⟩:=fun st=>by simp [pMarks,iD,i64]
 have e2:∀st:PSt,pArr st=⟨st.gen,true,3,(st.arr.map PTh.cells).map fun c=>c.map V.d⟩:=fun st=>by simp [pArr]
 have e3:∀N,deadO N=⟨0,false,1,(List.replicate N [iD (-1)]).map fun c=>c.map V.d⟩:=fun N=>by simp [deadO,iD,i64]
 have m1:∀ρ,downO ρ (pMarks st)=pMarks st:=fun ρ=>by rw[e1]; exact hd ρ _ _ _ _
 have m2:∀ρ st,downO ρ (pArr st)=pArr st:=fun ρ st=>by rw[e2]; exact hd ρ _ _ _ _
 have m3:∀ρ N,downO ρ (deadO N)=deadO N:=fun ρ N=>by rw[e3]; exact hd ρ _ _ _ _
 unfold selS fObjs rObjs
 simp only[List.map_cons,List.map_nil,List.getD_cons_zero,List.getD_cons_succ,a,b,c,d,m1,m2,m3,List.cons.injEq,and_true,true_and]
 refine⟨?_,?_,?_,?_,?_,?_⟩
 ·simp [downO,mkO0,downV.go,downV,List.idxOf?,List.findIdx?_cons,i64,bV]
 ·simp [downO,pMbox,downV.go,downV,List.idxOf?,List.findIdx?_cons]
 ·simp [downO,pList,downV.go,downV,List.idxOf?,List.findIdx?_cons]
 ·simp [downO,pClosed,downV.go,downV,bV]
 ·simp [downO,pAddb,downV.go,downV,List.idxOf?,List.findIdx?_cons]
 ·simp [spareO,pArr]
theorem prun_ok {W:Type} (S:See W) (g:Prg) (hg:g.good) (t:List Int) (ht:t.length≤65536) (I:W→Prop) (hS:S.ok g t I) (at_ last:Int) (ha0:0≤at_) (ha1:at_≤t.length) (hl1:last≤t.length) (σ:W) (hI:I σ) (marks:List Int) (hm:marks.length=g.ins.length) :
  callWp prog 38 [.rf 0 1 0 0,i64 at_,i64 last,.cl (.func S.f) [] S.caps] (mkO0 g t::mkO1 marks::S.objs σ) fun v s =>
   v=.tu []∧s=mkO0 g t::mkO1 (pLoop S g t last (t.length + 1) at_ false (pBegin g) ([],0) σ).1::S.objs (pLoop S g t last (t.length + 1) at_ false (pBegin g) ([],0) σ).2:=by
 have hgl:=hg.len1
 have hgl0:=hg.len0
 have hgc:=hg.caps1
 have hgc0:=hg.caps0
 have wc:IntKind.i64.wrap (2 * g.caps)=2 * g.caps:=w64 _ (by omega)
 obtain⟨R,hR⟩:∃R,R=pLoop S g t last (t.length + 1) at_ false (pBegin g) ([],0) σ:=⟨_,rfl⟩
 rw[← hR]
 unfold See.objs
 refine fn_ok func38 rfl ntmps38 results38 rfl 6 4332790137498830968589844255 (by simp) (by simp) ?_
 simp only[zX,simprocAttr,i64,bV,iD,bD,mkO0,mkO1,wc,hm,List.length_map,clearWp,Nat.zero_add]
 refine⟨Nat.le_refl _,⟨by omega,Int.le_refl _,by omega,by omega⟩,?_⟩
 obtain⟨N,hN⟩:∃N,N=(2 * g.caps).toNat:=⟨_,rfl⟩
 have hN':(N:Int)=2 * g.caps:=by omega
 have hpb:pBlank g=List.replicate N (-1):=by rw[hN]; rfl
 refine loop_rule (fun n e s=>∃i:Nat,n=N - i∧i≤N∧e 1=i64 at_∧e 2=i64 last∧e 3=.cl (.func S.f) [] S.caps∧e 4=.rf 6 0 0 0∧e 8=.so 7 0 0 N∧e 31=i64 N∧e 32=i64 i∧s=[mkO0 g t,mkO1 (pBegin g).marks,S.T2 σ,S.T3 σ,S.T4 σ,S.T5 σ,pMbox 0,⟨0,true,1,List.replicate i [i64 (-1)]++List.replicate (N - i) [i64 0]⟩])
  ⟨_,_,_,Cln.refl,0,rfl,by omega,rfl,rfl,rfl,rfl,by rw[hN]; rfl,by rw[hN]; rfl,rfl,by rw[← hN]; simp [mkO0,mkO1,pBegin,pMbox,i64,bV,putEls_zeros _ _ _ _ hm]⟩ ?_
 rintro n e s ⟨i,rfl,hi,h1,h2,h3,h4,h8,h31,h32,rfl⟩
 rcases Nat.lt_or_ge i N with hlt | hge
 ·have hlt':(i:Int) < N:=by omega
  have hget:(List.replicate i [V.d (.sc (.int .i64 (-1)))]++List.replicate (N - i) [V.d (.sc (.int .i64 0))])[i]?=some [V.d (.sc (.int .i64 0))]:=by
   rw[List.getElem?_append_right (by simp)]; simp [List.getElem?_replicate]; omega
  simp only[zX,simprocAttr,i64,bV,iD,bD,h1,h2,h3,h4,h8,h31,h32,hlt',hget,Nat.zero_add]
  refine⟨N - (i + 1),_,_,by omega,Cln.refl,i + 1,rfl,hlt,?_,?_,?_,?_,?_,?_,?_,?_⟩ <;> (try simp only[zU,Nat.reduceBEq,Nat.reduceShiftRight,Nat.reduceMod,Nat.reduceEqDiff,reduceIte])
  ·exact h1
  ·exact h2
  ·exact h3
  ·exact h4
  ·exact h8
  ·exact h31
  ·rw[w64 _ (by omega)]; rfl
  ·rw[← rep_set _ _ hlt]
 ·have hie:i=N:=by omega
  subst hie
  have hlt':¬(i:Int) < i:=by omega
  simp only[zX,simprocAttr,i64,bV,iD,bD,h1,h2,h3,h4,h8,h31,h32,hlt']
  have hb:(List.replicate i (-1:Int)).map (fun x=>[iD x])=List.replicate i [iD (-1)]:=by simp
  refine loop_rule (fun n e s=>∃(a:Int) (fd:Bool) (st:PSt) (sp:List PTh × Nat) (m:Nat) (σ':W),(t.length:Int) + 1≤n + a∧0≤a∧a≤t.length∧I σ'∧st.inv g a∧m≤sp.1.length∧pLoop S g t last n a fd st sp σ'=R∧REnv S g last a fd sp m e∧s=rObjs S g t st sp σ')
   ⟨_,_,_,.of0 ((Cln0.frz2 (v:=.d (intsD (pBlank g))) [7] 8 ?_).trans ((reserveCell (pre:=[]) (post:=[]) 8 3 rfl rfl rfl).trans (reserveSlot 11 3 rfl))),at_,false,pBegin g,([],0),0,σ,?_,ha0,ha1,hI,?_,Nat.le_refl _,hR.symm,?_,?_⟩ ?_
  ·simp only[zU,Nat.reduceBEq,Nat.reduceShiftRight,Nat.reduceMod,Nat.reduceEqDiff,reduceIte]
   rw[h8,frz_ownK (live:=false) (g:=0) (sz:=1) (els:=List.replicate i [i64 (-1)]++List.replicate (i - i) [i64 0]) (ds:=(pBlank g).map fun x=>[iD x]) (by rfl) ?_ (by simp) (.inr rfl)]
   rw[hpb,hb]; simp [iD,i64]
  ·omega
  ·refine⟨⟨by simp [pBegin],Nat.le_refl _⟩,?_,fun x hx=>by simp [PSt.list,pBegin] at hx⟩
   have:=unm_le at_ (pBegin g).marks
   have h':(pBegin g).marks.length=g.ins.length:=by simp [pBegin]
   have h'':(pBegin g).n=0:=rfl
   omega
  ·refine⟨?_,?_,?_,?_,?_,?_,?_,?_,?_,?_⟩ <;> (try simp only[zU,Nat.reduceBEq,Nat.reduceShiftRight,Nat.reduceMod,Nat.reduceEqDiff,reduceIte])
   all_goals (first | exact h1 | exact h2 | exact h3 | exact h4 | rfl)
  ·simp [killO,kill1,rObjs,deadO,← hN,i64,bV,pList,pClosed,pAddb,pArr,spareO,pMarks,mkO1,pBegin]
  rintro n e s ⟨a,fd,st,sp,m,σ',hna,ha0,ha1,hI',hinv,hm,hR',⟨h1,h2,h3,h4,h8,h10,h11,h12,h13,h14⟩,rfl⟩
  obtain⟨k,rfl⟩:∃k,n=k + 1:=⟨n - 1,by omega⟩
  rw[pLoop] at hR'
  have hst1:(pStart g t a last fd st).inv g a:=by
   unfold pStart
   split
   ·exact pAdd_keep g hg t a a _ _ _ st hinv (Int.le_refl _) (by omega) (by simp [pBlank])
   ·exact hinv
  rw[codeWp_seq,codeWp_block]
  refine seq_join (fun e s=>REnv S g last a fd sp m e∧s=rObjs S g t (pStart g t a last fd st) sp σ') ?_ ?_
  ·intro B Q hB
   have hml:=hinv.ok.len
   have hmk:=pMach_mk (t:=t) hml
   by_cases c1:a≤last
   ·cases fd with
    | false =>
     have hs:pStart g t a last false st=pAdd g t a a (rGas g) 0 (pBlank g) st:=if_pos ⟨c1,rfl⟩
     have hadd:=pAdd_ok g hg t ht a a ha0 ha1 g.ins.length 0 (pBlank g) st (Int.le_refl _) (by omega) (by simp [pBlank]) hinv.ok (by have:=unm_le a st.marks; omega) (by have:=hinv.n; omega)
     rw[hs] at hB hst1
     unfold rGas at *
     generalize pAdd g t a a (g.ins.length + 1) 0 (pBlank g) st=R1 at *
     unfold rObjs
     simp only[zX,simprocAttr,i64,bV,iD,bD,h1,h2,h3,h4,h8,h10,h11,h12,h13,h14,c1,pAddb]
     refine call_pk (a0:=0) (a1:=1) (a2:=6) (a3:=9) (a4:=8) (a5:=10) (a6:=11) hadd (by decide) (congrArg some hmk.symm) rfl rfl rfl rfl rfl rfl rfl rfl rfl ?_
     rw[pMach_mk hst1.ok.len]
     simp only[List.set_cons_zero,List.set_cons_succ]
     simp only[zX,simprocAttr,i64,bV,iD,bD]
     refine hB _ _ ⟨⟨?_,?_,?_,?_,?_,?_,?_,?_,?_,?_⟩,rfl⟩ <;> (try simp only[zU,Nat.reduceBEq,Nat.reduceShiftRight,Nat.reduceMod,Nat.reduceEqDiff,reduceIte])
     ·exact h1
     ·exact h2
     ·exact h3
     ·exact h4
     ·exact h8
     ·exact h10
     ·exact h11
     ·exact h12
     ·exact h13
     ·exact h14
    | true =>
     have hs:pStart g t a last true st=st:=if_neg (by simp)
     rw[hs] at hB
     unfold rObjs
     simp only[zX,simprocAttr,i64,bV,iD,bD,h1,h2,h3,h4,h8,h10,h11,h12,h13,h14,c1]
     refine hB _ _ ⟨⟨?_,?_,?_,?_,?_,?_,?_,?_,?_,?_⟩,rfl⟩ <;> (try simp only[zU,Nat.reduceBEq,Nat.reduceShiftRight,Nat.reduceMod,Nat.reduceEqDiff,reduceIte])
     ·exact h1
     ·exact h2
     ·exact h3
     ·exact h4
     ·exact h8
     ·exact h10
     ·exact h11
     ·exact h12
     ·exact h13
     ·exact h14
   ·have hs:pStart g t a last fd st=st:=if_neg (fun h=>c1 h.1)
    rw[hs] at hB
    unfold rObjs
    simp only[zX,simprocAttr,i64,bV,iD,bD,h1,h2,h3,h4,h8,h10,h11,h12,h13,h14,c1]
    refine hB _ _ ⟨⟨?_,?_,?_,?_,?_,?_,?_,?_,?_,?_⟩,rfl⟩ <;> (try simp only[zU,Nat.reduceBEq,Nat.reduceShiftRight,Nat.reduceMod,Nat.reduceEqDiff,reduceIte])
    ·exact h1
    ·exact h2
    ·exact h3
    ·exact h4
    ·exact h8
    ·exact h10
    ·exact h11
    ·exact h12
    ·exact h13
    ·exact h14
  rintro e s ⟨⟨h1,h2,h3,h4,h8,h10,h11,h12,h13,h14⟩,rfl⟩
  generalize pStart g t a last fd st=st1 at *
  refine seq_join (fun e s=>REnv S g last a (fd||st1.closed) sp m e∧s=rObjs S g t st1 sp σ') ?_ ?_
  ·intro B Q hB
   unfold rObjs at *
   cases fd with
   | true =>
    simp only[zX,simprocAttr,i64,bV,iD,bD,h1,h2,h3,h4,h8,h10,h11,h12,h13,h14]
    refine hB _ _ ⟨⟨?_,?_,?_,?_,?_,?_,?_,?_,?_,?_⟩,rfl⟩ <;> (try simp only[zU,Nat.reduceBEq,Nat.reduceShiftRight,Nat.reduceMod,Nat.reduceEqDiff,reduceIte])
    all_goals (first | exact h1 | exact h2 | exact h3 | exact h4 | exact h8 | exact h10 | exact h11 | exact h13 | exact h14 | rfl | (simp [pClosed,hcc,bV]; done))
   | false =>
    cases hcc:st1.closed with
    | true =>
     rw[hcc] at hB
     simp only[zX,simprocAttr,i64,bV,iD,bD,h1,h2,h3,h4,h8,h10,h11,h12,h13,h14,pClosed,hcc]
     refine hB _ _ ⟨⟨?_,?_,?_,?_,?_,?_,?_,?_,?_,?_⟩,?_⟩ <;> (try simp only[zU,Nat.reduceBEq,Nat.reduceShiftRight,Nat.reduceMod,Nat.reduceEqDiff,reduceIte])
     all_goals (first | exact h1 | exact h2 | exact h3 | exact h4 | exact h8 | exact h10 | exact h11 | exact h13 | exact h14 | rfl | (simp [pClosed,hcc,bV]; done))
    | false =>
     rw[hcc] at hB
     simp only[zX,simprocAttr,i64,bV,iD,bD,h1,h2,h3,h4,h8,h10,h11,h12,h13,h14,pClosed,hcc]
     refine hB _ _ ⟨⟨?_,?_,?_,?_,?_,?_,?_,?_,?_,?_⟩,?_⟩ <;> (try simp only[zU,Nat.reduceBEq,Nat.reduceShiftRight,Nat.reduceMod,Nat.reduceEqDiff,reduceIte])
     all_goals (first | exact h1 | exact h2 | exact h3 | exact h4 | exact h8 | exact h10 | exact h11 | exact h13 | exact h14 | rfl | (simp [pClosed,hcc,bV]; done))
  rintro e s ⟨⟨h1,h2,h3,h4,h8,h10,h11,h12,h13,h14⟩,rfl⟩
  generalize (fd||st1.closed)=fd1 at *
  refine seq_join (fun e s=>(REnv S g last a fd1 sp m e∧e 15=bV (decide (st1.n=0∧(fd1=true∨last≤a))))∧s=rObjs S g t st1 sp σ') ?_ ?_
  ·intro B Q hB
   unfold rObjs at *
   have hgA:(pArr st1).g=st1.gen:=rfl
   by_cases z0:st1.n=0
   ·have hz:=eq_true (show (st1.n:Int)=0 by omega)
    cases fd1 with
    | true =>
     simp only[zX,simprocAttr,i64,bV,iD,bD,h1,h2,h3,h4,h8,h10,h11,h12,h13,h14,pList,hgA,hz]
     refine hB _ _ ⟨⟨⟨?_,?_,?_,?_,?_,?_,?_,?_,?_,?_⟩,?_⟩,?_⟩ <;> (try simp only[zU,Nat.reduceBEq,Nat.reduceShiftRight,Nat.reduceMod,Nat.reduceEqDiff,reduceIte])
     all_goals (first | exact h1 | exact h2 | exact h3 | exact h4 | exact h8 | exact h10 | exact h11 | exact h12 | exact h13 | exact h14 | (simp [z0,bV]; done) | (simp [pList,z0]; done) | (simp [pList]; done))
    | false =>
     by_cases c2:last≤a
     ·simp only[zX,simprocAttr,i64,bV,iD,bD,h1,h2,h3,h4,h8,h10,h11,h12,h13,h14,pList,hgA,hz,c2]
      refine hB _ _ ⟨⟨⟨?_,?_,?_,?_,?_,?_,?_,?_,?_,?_⟩,?_⟩,?_⟩ <;> (try simp only[zU,Nat.reduceBEq,Nat.reduceShiftRight,Nat.reduceMod,Nat.reduceEqDiff,reduceIte])
      all_goals (first | exact h1 | exact h2 | exact h3 | exact h4 | exact h8 | exact h10 | exact h11 | exact h12 | exact h13 | exact h14 | (simp [z0,c2,bV]; done) | (simp [pList,z0]; done))
     ·simp only[zX,simprocAttr,i64,bV,iD,bD,h1,h2,h3,h4,h8,h10,h11,h12,h13,h14,pList,hgA,hz,c2]
      refine hB _ _ ⟨⟨⟨?_,?_,?_,?_,?_,?_,?_,?_,?_,?_⟩,?_⟩,?_⟩ <;> (try simp only[zU,Nat.reduceBEq,Nat.reduceShiftRight,Nat.reduceMod,Nat.reduceEqDiff,reduceIte])
      all_goals (first | exact h1 | exact h2 | exact h3 | exact h4 | exact h8 | exact h10 | exact h11 | exact h12 | exact h13 | exact h14 | (simp [z0,c2,bV]; done) | (simp [pList,z0]; done))
   ·have z0':¬(st1.n:Int)=0:=by omega
    simp only[zX,simprocAttr,i64,bV,iD,bD,h1,h2,h3,h4,h8,h10,h11,h12,h13,h14,pList,hgA,z0']
    refine hB _ _ ⟨⟨⟨?_,?_,?_,?_,?_,?_,?_,?_,?_,?_⟩,?_⟩,?_⟩ <;> (try simp only[zU,Nat.reduceBEq,Nat.reduceShiftRight,Nat.reduceMod,Nat.reduceEqDiff,reduceIte])
    all_goals (first | exact h1 | exact h2 | exact h3 | exact h4 | exact h8 | exact h10 | exact h11 | exact h12 | exact h13 | exact h14 | (simp [z0,bV]; done) | (simp [pList,z0]; done) | (simp [pList]; done))
  rintro e s ⟨⟨⟨h1,h2,h3,h4,h8,h10,h11,h12,h13,h14⟩,h15⟩,rfl⟩
  have hgA:(pArr st1).g=st1.gen:=rfl
  have hnl:=hst1.ok.n
  have hnn:=hst1.n
  have hln:st1.list=[] ↔ st1.n=0:=by
   unfold PSt.list
   rw[← List.length_eq_zero_iff,List.length_take]; omega
  simp only[hln] at hR'
  rw[rObjs_eq]
  simp only[zX,simprocAttr,i64,bV,iD,bD,h1,h2,h3,h4,h8,h10,h11,h12,h13,h14,h15,pList]
  refine call_see (st:=st1) (sp:=sp) (σ:=σ') (a:=a) hS hI' ha0 ha1 hst1.ok hst1.th (by omega) ?_
  have hI2:=hS.keep σ' a st1.list hI'
  have hsee:∀σ,(S.objs σ).all (objOk 6)=true:=fun σ=>hS.all σ 6 (Nat.le_refl _)
  generalize S.F σ' a st1.list=σ2 at *
  rw[rObjs_eq]
  cases hBB:S.B σ' a st1.list with
  | false =>
   rw[if_pos (.inl hBB)] at hR'
   simp only[zX,simprocAttr,i64,bV,iD,bD,h1,h2,h3,h4,h8,h10,h11,h12,h13,h14,h15]
   rw[← hR']
   exact⟨end_ok hS st1 σ2,rfl⟩
  | true =>
   have hI2:=hI2 hBB
   have hm1:=hst1.ok.len
   by_cases dn:st1.n=0∧(fd1=true∨last≤a)
   ·rw[if_pos (.inr (.inl dn))] at hR'
    rw[decide_eq_true dn] at h15
    simp only[zX,simprocAttr,i64,bV,iD,bD,h1,h2,h3,h4,h8,h10,h11,h12,h13,h14,h15]
    rw[← hR']
    exact⟨end_ok hS st1 σ2,rfl⟩
   rw[decide_eq_false dn] at h15
   by_cases hal:(t.length:Int)≤a
   ·rw[if_pos (.inr (.inr hal))] at hR'
    simp only[zX,simprocAttr,i64,bV,iD,bD,h1,h2,h3,h4,h8,h10,h11,h12,h13,h14,h15,mkO0,pMbox,intsD,hal,List.length_map]
    rw[← hR']
    exact⟨end_ok hS st1 σ2,rfl⟩
   rw[if_neg (fun h=>h.elim (by rw[hBB]; simp) (fun h=>h.elim dn hal))] at hR'
   simp only[zX,simprocAttr,i64,bV,iD,bD,h1,h2,h3,h4,h8,h10,h11,h12,h13,h14,h15,mkO0,pMbox,intsD,hal,List.length_map]
   have hnil:⟨st1.marks,false,sp.1,0,sp.2⟩=pFeed g t a (st1.list.take 0) ⟨st1.marks,false,sp.1,0,sp.2⟩:=rfl
   refine draw_c mix [] [(2,[8],[]),(3,[8],[8]),(5,[9],[9])] (by rfl) ?_
   have hs1:(spareO sp).g=sp.2:=rfl
   have hs2:(spareO sp).sz=3:=rfl
   have hs3:m≤(spareO sp).els.length:=by simpa [spareO] using hm
   simp only[zX,simprocAttr,i64,bV,iD,bD,h1,h2,h3,h4,h8,h10,h11,h12,h13,h14,h15,hs1,hs2,hs3,hgA,Nat.zero_add,pList,pClosed]
   obtain⟨st0,hst0⟩:∃st0:PSt,st0=⟨st1.marks,false,sp.1,0,sp.2⟩:=⟨_,rfl⟩
   rw[← hst0] at hR'
   refine loop_rule (fun n e s=>∃(i:Nat) (st:PSt),n=st1.n - i∧i≤st1.n∧st=pFeed g t a (st1.list.take i) st0∧e 1=i64 a∧e 2=i64 last∧e 3=.cl (.func S.f) [] S.caps∧e 4=.rf 6 0 0 0∧e 8=.d (intsD (pBlank g))∧e 10=.rf 8 0 0 0∧e 11=.so 11 st1.gen 0 st1.n∧e 12=bV fd1∧e 13=.rf 9 0 0 0∧e 14=.rf 10 0 0 0∧e 89=.so 11 st1.gen 0 st1.n∧e 90=i64 st1.n∧e 91=i64 i∧s=fObjs S g t st1 st σ2)
    ?_ ?_
   ·refine⟨_,_,_,Cln.refl,0,st0,rfl,by omega,rfl,?_,?_,?_,?_,?_,?_,?_,?_,?_,?_,?_,?_,?_,?_⟩ <;> (try simp only[zU,Nat.reduceBEq,Nat.reduceShiftRight,Nat.reduceMod,Nat.reduceEqDiff,reduceIte])
    all_goals (first | exact h1 | exact h2 | exact h3 | exact h4 | exact h8 | exact h10 | exact h12 | exact h13 | exact h14 | rfl | (rw[hst0]; rfl))
   rintro n e s ⟨i,st,rfl,hi,hst,h1,h2,h3,h4,h8,h10,h11,h12,h13,h14,h89,h90,h91,rfl⟩
   have hinv0:st0.inv g (a + 1):=by
    rw[hst0]
    refine⟨⟨hm1,Nat.zero_le _⟩,?_,fun x hx=>by simp [PSt.list] at hx⟩
    have:=unm_le (a + 1) st1.marks
    show 0 + unm (a + 1) st1.marks≤_; omega
   have hinvi:st.inv g (a + 1):=by
    rw[hst]
    exact pFeed_keep g hg t a _ st0 (fun x hx=>hst1.th x (List.mem_of_mem_take hx)) hinv0
   have hmi:=hinvi.ok.len
   have hgA2:(pArr st1).g=st1.gen:=rfl
   rcases Nat.lt_or_ge i st1.n with hlt | hge
   ·obtain⟨x,hx⟩:∃x,st1.arr[i]?=some x:=⟨_,List.getElem?_eq_getElem (by omega)⟩
    have hxl:st1.list[i]?=some x:=by unfold PSt.list; rw[List.getElem?_take,if_pos hlt]; exact hx
    have hxo:=hst1.th x (List.mem_of_getElem? hxl)
    have hp0:=hxo.p0
    have hp1:=hxo.p1
    have hins:=insAt_get hp0 hp1
    have hlt':(i:Int) < st1.n:=by omega
    have hsl:=hg.sets _ (List.mem_of_getElem? hins)
    have hhas:=phas_ok (insAt g x.insn).set (tAt t a) (by omega)
    have hnx:=hg.next x.insn.toNat _ hins
    have w2:IntKind.i64.wrap (x.insn + 1)=x.insn + 1:=w64 _ (by omega)
    have wa2:IntKind.i64.wrap (a + 1)=a + 1:=w64 _ (by omega)
    have htx:t[a.toNat]?=some (tAt t a):=tAt_get ha0 (by omega)
    have hst':pFeed g t a (st1.list.take (i + 1)) st0=pFeed1 g t a st x:=by rw[take_get hxl,pFeed_snoc,← hst]
    simp only[i64,bV] at hhas
    have hgetA:(pArr st1).els[i]?=some [V.d (iD x.insn),V.d (iD x.from_),V.d (intsD x.regs)]:=by simp [pArr,hx,PTh.cells]
    have hszA:(pArr st1).sz=3:=rfl
    have hal':a < (t.length:Int):=by omega
    have hob:=fObjs_ok hS (t:=t) st1
    rw[fObjs_eq]
    simp only[zX,simprocAttr,i64,bV,iD,bD,h1,h2,h3,h4,h8,h10,h11,h12,h13,h14,h89,h90,h91,hlt',hgA2,hgetA,hszA,Nat.zero_add]
    refine draw_first Cln0.reserve ?_
    refine draw_c mix [] [(9,[14],[14]),(10,[14],[14])] (by rfl) ?_
    simp only[zX,simprocAttr,i64,bV,iD,bD,h1,h2,h3,h4,h8,h10,h11,h12,h13,h14,h89,h90,h91,mkO0,pMbox,hp0,hp1,hins,Ins.cells,hole,List.length_map]
    refine draw_c mix [] [] (by rfl) ?_
    by_cases ho:(insAt g x.insn).op=1
    ·have ho':=eq_true ho
     simp only[zX,simprocAttr,i64,bV,iD,bD,h1,h2,h3,h4,h8,h10,h11,h12,h13,h14,h89,h90,h91,intsD,ho',ha0,hal',htx,List.length_map]
     refine callC_pure hhas rfl rfl ?_
     cases hh':hasB (insAt g x.insn).set (tAt t a) with
     | true =>
      have hF:pFeed1 g t a st x=pAdd g t (a + 1) x.from_ (g.ins.length + 1) (x.insn + 1) x.regs st:=if_pos ⟨ho,hh'⟩
      have hn1:=hnx (.inl ho)
      have hadd:=pAdd_ok g hg t ht (a + 1) x.from_ (by omega) (by omega) g.ins.length (x.insn + 1) x.regs st (by omega) (by omega) hxo.regs hinvi.ok (by have:=unm_le (a + 1) st.marks; omega) (by have:=hinvi.n; omega)
      have hml2:(pAdd g t (a + 1) x.from_ (g.ins.length + 1) (x.insn + 1) x.regs st).marks.length=g.ins.length:=(pAdd_keep g hg t (a + 1) x.from_ _ _ _ st hinvi (by omega) (by omega) hxo.regs).ok.len
      obtain⟨RR,hRR⟩:∃RR,RR=pAdd g t (a + 1) x.from_ (g.ins.length + 1) (x.insn + 1) x.regs st:=⟨_,rfl⟩
      rw[← hRR] at hadd hF hml2
      have hmkR:=pMach_mk (t:=t) hml2
      have hmk:=pMach_mk (t:=t) hmi
      simp only[zX,simprocAttr,i64,bV,iD,bD,h1,h2,h3,h4,h8,h10,h11,h12,h13,h14,h89,h90,h91,pAddb,w2,wa2]
      refine call_pk (a0:=0) (a1:=1) (a2:=6) (a3:=9) (a4:=8) (a5:=10) (a6:=12) hadd (by decide) (congrArg some hmk.symm) rfl rfl rfl rfl rfl rfl rfl rfl rfl ?_
      rw[hmkR]
      simp only[List.set_cons_zero,List.set_cons_succ]
      simp only[zX,simprocAttr,i64,bV,iD,bD,h1,h2,h3,h4,h8,h10,h11,h12,h13,h14,h89,h90,h91]
      refine⟨st1.n - (i + 1),_,_,by omega,Cln.cut (s':=fObjs S g t st1 RR σ2) 13 (by omega) rfl (hob _ _) [1,2,3,4,8,10,11,12,13,14,89,90,91] ?_,i + 1,RR,rfl,hlt,by rw[hst',hF],?_,?_,?_,?_,?_,?_,?_,?_,?_,?_,?_,?_,?_,rfl⟩ <;> (try simp only[zU,Nat.reduceBEq,Nat.reduceShiftRight,Nat.reduceMod,Nat.reduceEqDiff,reduceIte])
      ·simp [updE,trimE_app,refsV,refsV.go,h1,h2,h3,h4,h8,h10,h11,h12,h13,h14,h89,h90,h91,i64,bV,hS.refs 13 (by omega)]
      all_goals (first | exact h1 | exact h2 | exact h3 | exact h4 | exact h8 | exact h10 | exact h11 | exact h12 | exact h13 | exact h14 | exact h89 | exact h90 | (rw[w64 _ (by omega)]; rfl))
     | false =>
      have hF:pFeed1 g t a st x=st:=if_neg (fun h=>by have h2:=h.2; rw[hh'] at h2; cases h2)
      simp only[zX,simprocAttr,i64,bV,iD,bD,h1,h2,h3,h4,h8,h10,h11,h12,h13,h14,h89,h90,h91]
      refine⟨st1.n - (i + 1),_,_,by omega,Cln.cut (s':=fObjs S g t st1 st σ2) 13 (by omega) rfl (hob _ _) [1,2,3,4,8,10,11,12,13,14,89,90,91] ?_,i + 1,st,rfl,hlt,by rw[hst',hF],?_,?_,?_,?_,?_,?_,?_,?_,?_,?_,?_,?_,?_,rfl⟩ <;> (try simp only[zU,Nat.reduceBEq,Nat.reduceShiftRight,Nat.reduceMod,Nat.reduceEqDiff,reduceIte])
      ·simp [updE,trimE_app,refsV,refsV.go,h1,h2,h3,h4,h8,h10,h11,h12,h13,h14,h89,h90,h91,i64,bV,hS.refs 13 (by omega)]
      all_goals (first | exact h1 | exact h2 | exact h3 | exact h4 | exact h8 | exact h10 | exact h11 | exact h12 | exact h13 | exact h14 | exact h89 | exact h90 | (rw[w64 _ (by omega)]; rfl))
    ·have hF:pFeed1 g t a st x=st:=if_neg (fun h=>ho h.1)
     simp only[zX,simprocAttr,i64,bV,iD,bD,h1,h2,h3,h4,h8,h10,h11,h12,h13,h14,h89,h90,h91,ho]
     refine⟨st1.n - (i + 1),_,_,by omega,Cln.cut (s':=fObjs S g t st1 st σ2) 13 (by omega) rfl (hob _ _) [1,2,3,4,8,10,11,12,13,14,89,90,91] ?_,i + 1,st,rfl,hlt,by rw[hst',hF],?_,?_,?_,?_,?_,?_,?_,?_,?_,?_,?_,?_,?_,rfl⟩ <;> (try simp only[zU,Nat.reduceBEq,Nat.reduceShiftRight,Nat.reduceMod,Nat.reduceEqDiff,reduceIte])
     ·simp [updE,trimE_app,refsV,refsV.go,h1,h2,h3,h4,h8,h10,h11,h12,h13,h14,h89,h90,h91,i64,bV,hS.refs 13 (by omega)]
     all_goals (first | exact h1 | exact h2 | exact h3 | exact h4 | exact h8 | exact h10 | exact h11 | exact h12 | exact h13 | exact h14 | exact h89 | exact h90 | (rw[w64 _ (by omega)]; rfl))
   ·have hie:i=st1.n:=by omega
    subst hie
    have hlt':¬(st1.n:Int) < st1.n:=by omega
    have hLt:st1.list.take st1.n=st1.list:=List.take_of_length_le (by unfold PSt.list; rw[List.length_take]; omega)
    rw[hLt] at hst
    rw[← hst] at hR'
    rw[fObjs_eq]
    simp only[zX,simprocAttr,i64,bV,iD,bD,h1,h2,h3,h4,h8,h10,h11,h12,h13,h14,h89,h90,h91,hlt']
    rw[← fObjs_eq S g t st1 st σ2]
    refine⟨k,_,_,Nat.lt_succ_self k,Cln.sel [0,1,2,3,4,5,6,7,8,9,10,12,11] [1,2,3,4,8,10,11,12,13,14] (by rfl),a + 1,fd1,st,(st1.arr,st1.gen),st1.n,σ2,by omega,by omega,by omega,hI2,hinvi,hnl,hR',?_,fObjs_sel hS st1 st σ2⟩
    ·refine⟨?_,?_,?_,?_,?_,?_,?_,?_,?_,?_⟩
     all_goals
      rw[selE_app,if_pos (by rfl)]
      try simp only[zU,Nat.reduceBEq,Nat.reduceShiftRight,Nat.reduceMod,Nat.reduceEqDiff,reduceIte]
     ·rw[w64 _ (by omega)]; rfl
     ·rw[h2]; rfl
     ·rw[h3]
      have hdc:=hS.dcaps
      show V.cl _ _ (downV.go _ S.caps)=_
      rw[hdc]; rfl
     ·rw[h4]; rfl
     ·rw[h8]; rfl
     ·rw[h10]; rfl
     ·rw[h11]; rfl
     ·rw[h12]; rfl
     ·rw[h13]; rfl
     ·rw[h14]; rfl
end Go.Proofs.Ytdofoappodmcoaa
