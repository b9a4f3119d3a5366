/- A part of the proof (K30 K31). -/
import Derived.Test.YtdofoappodmcoaaKP36
set_option linter.unusedSimpArgs false
set_option linter.unusedVariables false
set_option maxRecDepth 100000
set_option maxHeartbeats 80000000
namespace Go.Proofs.Ytdofoappodmcoaa
open Go.VL Go.Proofs.Try
structure PTh where
 insn:Int
 from_:Int
 regs:List Int
def PTh.cells (x:PTh):List D:=[iD x.insn,iD x.from_,intsD x.regs]
structure PSt where
 marks:List Int
 closed:Bool
 arr:List PTh
 n:Nat
 gen:Nat
def PSt.push (st:PSt) (x:PTh) (c:Bool):PSt:=⟨st.marks,c,st.arr.take st.n++[x],st.n + 1,st.gen + 1⟩
def PSt.mark (st:PSt) (pc v:Int):PSt:=⟨st.marks.set pc.toNat v,st.closed,st.arr,st.n,st.gen⟩
def pAdd (g:Prg) (t:List Int) (at_ frm:Int):Nat→Int→List Int→PSt→PSt
 | 0,_,_,st=>st
 | k + 1,pc,regs,st =>
  if st.closed=true∨st.marks.getD pc.toNat 0=at_ + 1 then st
  else
   let st:=st.mark pc (at_ + 1)
   let x:Ins:=insAt g pc
   if x.op=0∨x.op=1 then st.push ⟨pc,frm,regs⟩ (decide (x.op=0))
   else if x.op=2 then pAdd g t at_ frm k x.y regs (pAdd g t at_ frm k x.x regs st)
   else if x.op=3 then pAdd g t at_ frm k x.x regs st
   else if x.op=4 then pAdd g t at_ frm k (pc + 1) (regs.set x.n.toNat at_) st
   else if holdsR x.n t at_=true then pAdd g t at_ frm k (pc + 1) regs st else st
def unm (at_:Int) (l:List Int):Nat:=l.countP (fun m=>decide (m≠at_ + 1))
theorem unm_set {at_:Int} {l:List Int} {i:Nat} (hi:i < l.length) (h:l.getD i 0≠at_ + 1):unm at_ (l.set i (at_ + 1)) + 1=unm at_ l:=by
 induction l generalizing i with
 | nil=>simp at hi
 | cons b l ih =>
  cases i with
  | zero =>
   have h:b≠at_ + 1:=by simpa using h
   unfold unm
   rw[List.set_cons_zero,List.countP_cons,List.countP_cons]
   simp [h]
  | succ i =>
   have:=ih (i:=i) (by simpa using hi) (by simpa using h)
   unfold unm at *
   simp only[List.set_cons_succ,List.countP_cons]
   omega
structure PSt.ok (g:Prg) (st:PSt):Prop where
 len:st.marks.length=g.ins.length
 n:st.n≤st.arr.length
theorem PSt.ok.mark' {g:Prg} {st:PSt} (h:st.ok g) (pc v:Int):(st.mark pc v).ok g:=⟨by simpa [PSt.mark] using h.len,h.n⟩
theorem PSt.ok.push' {g:Prg} {st:PSt} (h:st.ok g) (x:PTh) (c:Bool):(st.push x c).ok g:=⟨h.len,by have:=h.n; simp [PSt.push]; omega⟩
theorem pAdd_inv (g:Prg) (t:List Int) (at_ frm:Int):∀(k:Nat) (pc:Int) (regs:List Int) (st:PSt),g.good→st.ok g→0≤pc→pc < g.ins.length→(pAdd g t at_ frm k pc regs st).ok g∧unm at_ (pAdd g t at_ frm k pc regs st).marks≤unm at_ st.marks∧(pAdd g t at_ frm k pc regs st).n + unm at_ (pAdd g t at_ frm k pc regs st).marks≤st.n + unm at_ st.marks
 | 0,_,_,st,_,h,_,_=>by simpa [pAdd] using h
 | k + 1,pc,regs,st,hg,h,h0,h1=>by
  have hx:=insAt_get h0 h1
  have hs:=hg.split pc.toNat _ hx
  have hj:=hg.jump pc.toNat _ hx
  have hn:=hg.next pc.toNat _ hx
  have ho:=hg.ops _ (List.mem_of_getElem? hx)
  rw[pAdd]
  split
  ·exact⟨h,Nat.le_refl _,Nat.le_refl _⟩
  rename_i hc
  have hu:=unm_set (at_:=at_) (l:=st.marks) (i:=pc.toNat) (by have:=h.len; omega) (fun e=>hc (.inr e))
  have hm:=h.mark' pc (at_ + 1)
  have e1:(st.mark pc (at_ + 1)).marks=st.marks.set pc.toNat (at_ + 1):=rfl
  have e2:(st.mark pc (at_ + 1)).n=st.n:=rfl
  simp only
  rw[← e1] at hu
  generalize st.mark pc (at_ + 1)=st1 at *
  split
  ·refine⟨hm.push' _ _,?_,?_⟩
   ·show unm at_ st1.marks≤_; omega
   ·show st1.n + 1 + unm at_ st1.marks≤_; omega
  split
  ·rename_i o2
   have:=hs o2
   have k1:=pAdd_inv g t at_ frm k (insAt g pc).x regs st1 hg hm (by omega) (by omega)
   have k2:=pAdd_inv g t at_ frm k (insAt g pc).y regs _ hg k1.1 (by omega) (by omega)
   exact⟨k2.1,by omega,by omega⟩
  split
  ·rename_i o3
   have:=hj o3
   have k1:=pAdd_inv g t at_ frm k (insAt g pc).x regs st1 hg hm (by omega) (by omega)
   exact⟨k1.1,by omega,by omega⟩
  split
  ·rename_i o4
   have:=hn (.inr (by omega))
   have k1:=pAdd_inv g t at_ frm k (pc + 1) (regs.set (insAt g pc).n.toNat at_) st1 hg hm (by omega) (by omega)
   exact⟨k1.1,by omega,by omega⟩
  split
  ·have:=hn (.inr (by omega))
   have k1:=pAdd_inv g t at_ frm k (pc + 1) regs st1 hg hm (by omega) (by omega)
   exact⟨k1.1,by omega,by omega⟩
  ·exact⟨hm,by omega,by omega⟩
def pMach (g:Prg) (t:List Int) (a1:Nat) (st:PSt):VL.Obj:=⟨1,true,5,[[.d (.sl (g.ins.map Ins.cells)),i64 g.caps,bV g.runes,.d (intsD t),.so a1 1 0 st.marks.length]]⟩
def pMarks (st:PSt):VL.Obj:=⟨1,true,1,st.marks.map fun x=>[i64 x]⟩
def pMbox (a0:Nat):VL.Obj:=⟨0,true,1,[[.rf a0 1 0 0]]⟩
def pClosed (st:PSt):VL.Obj:=⟨0,true,1,[[bV st.closed]]⟩
def pList (a6:Nat) (st:PSt):VL.Obj:=⟨0,true,1,[[.so a6 st.gen 0 st.n]]⟩
def pAddb (a2 a3 a4 a5:Nat):VL.Obj:=⟨0,true,1,[[.cl (.func 68) [] [.rf a3 0 0 0,.rf a2 0 0 0,.rf a4 0 0 0,.rf a5 0 0 0]]]⟩
def pArr (st:PSt):VL.Obj:=⟨st.gen,true,3,st.arr.map fun x=>x.cells.map V.d⟩
def pObjs (g:Prg) (t:List Int) (st:PSt):List VL.Obj:=[pMach g t 1 st,pMarks st,pMbox 0,pClosed st,pList 6 st,pAddb 2 3 4 5,pArr st]
theorem pMarks_ok (n:Nat) (st:PSt):objOk n (pMarks st)=true:=by
 unfold objOk pMarks
 rw[List.all_eq_true]
 intro e he
 obtain⟨c,hc,rfl⟩:=List.mem_map.1 he
 rfl
theorem pArr_ok (n:Nat) (st:PSt):objOk n (pArr st)=true:=by
 unfold objOk pArr
 rw[List.all_eq_true]
 intro e he
 obtain⟨c,hc,rfl⟩:=List.mem_map.1 he
 rfl
theorem pObjs_all (g:Prg) (t:List Int) (st:PSt) (n:Nat) (h:7≤n):(pObjs g t st).all (objOk n)=true:=by
 simp only[pObjs,List.all_cons,List.all_nil,pMarks_ok,pArr_ok,Bool.and_true,Bool.true_and]
 simp [objOk,pMach,pMbox,pClosed,pList,pAddb,refsV,refsV.go,i64,bV]
 omega
theorem pObjs_ren (g:Prg) (t:List Int) (st:PSt) (a0 a1 a2 a3 a4 a5 a6:Nat):(pObjs g t st).map (renO [a0,a1,a2,a3,a4,a5,a6])=[pMach g t a1 st,pMarks st,pMbox a0,pClosed st,pList a6 st,pAddb a2 a3 a4 a5,pArr st]:=by
 unfold pObjs
 simp only[List.map_cons,List.map_nil,List.cons.injEq,and_true]
 refine⟨?_,?_,?_,?_,?_,?_,?_⟩
 ·unfold renO pMach
  simp [renV.go,renV,i64,bV]
 ·unfold renO pMarks
  simp only[List.map_map]
  congr 1
 ·unfold renO pMbox
  simp [renV.go,renV]
 ·unfold renO pClosed
  simp [renV.go,renV,bV]
 ·unfold renO pList
  simp [renV.go,renV]
 ·unfold renO pAddb
  simp [renV.go,renV]
 ·unfold renO pArr
  simp only[List.map_map]
  congr 1
theorem call_pk {f:FuncId} {cargs args:List V} {r r':V} {g:Prg} {t:List Int} {st st':PSt} {a0 a1 a2 a3 a4 a5 a6:Nat} {s:List VL.Obj} {K:V→List VL.Obj→Prop} (h:callWp prog f cargs (pObjs g t st) fun v s=>v=r∧s=pObjs g t st')
  (hnd:[a0,a1,a2,a3,a4,a5,a6].Nodup) (h0:s[a0]?=some (pMach g t a1 st)) (h1:s[a1]?=some (pMarks st)) (h2:s[a2]?=some (pMbox a0)) (h3:s[a3]?=some (pClosed st)) (h4:s[a4]?=some (pList a6 st)) (h5:s[a5]?=some (pAddb a2 a3 a4 a5)) (h6:s[a6]?=some (pArr st))
  (ha:args=cargs.map (renV [a0,a1,a2,a3,a4,a5,a6])) (hra:refsV.go 7 cargs=true) (hr:renV [a0,a1,a2,a3,a4,a5,a6] r=r')
  (hk:K r' (((((((s.set a0 (pMach g t a1 st')).set a1 (pMarks st')).set a2 (pMbox a0)).set a3 (pClosed st')).set a4 (pList a6 st')).set a5 (pAddb a2 a3 a4 a5)).set a6 (pArr st'))):callWp prog f args s K:=by
 refine call_map [a0,a1,a2,a3,a4,a5,a6] h hnd (by rfl) ?_ ha hra (pObjs_all g t st 7 (Nat.le_refl _)) hr ?_
 ·have e:(pObjs g t st).map (fun o=>some (renO [a0,a1,a2,a3,a4,a5,a6] o))=((pObjs g t st).map (renO [a0,a1,a2,a3,a4,a5,a6])).map some:=by rw[List.map_map]; rfl
  rw[e,pObjs_ren]
  simp only[List.map_cons,List.map_nil,h0,h1,h2,h3,h4,h5,h6]
 ·rw[pObjs_ren]
  exact hk
def pArgs (pc at_ frm:Int) (regs:List Int):List V:=[i64 pc,i64 at_,i64 frm,.d (intsD regs),.rf 3 0 0 0,.rf 2 0 0 0,.rf 4 0 0 0,.rf 5 0 0 0]
def PAddOK (g:Prg) (t:List Int) (at_ frm:Int) (k:Nat):Prop:=∀(pc:Int) (regs:List Int) (st:PSt),0≤pc→pc < g.ins.length→regs.length=(2 * g.caps).toNat→st.ok g→unm at_ st.marks≤k→st.n + unm at_ st.marks≤100000 →
 callWp prog 68 (pArgs pc at_ frm regs) (pObjs g t st) fun v s=>v=.tu []∧s=pObjs g t (pAdd g t at_ frm (k + 1) pc regs st)
theorem pAdd_step (g:Prg) (hg:g.good) (t:List Int) (ht:t.length≤65536) (at_ frm:Int) (ha0:0≤at_) (ha1:at_≤t.length) (k:Nat) (ih:∀j,j + 1=k→PAddOK g t at_ frm j):PAddOK g t at_ frm k:=by
 intro pc regs st h0 h1 hr hst hf hn
 have hx:=insAt_get h0 h1
 have hml:=hst.len
 have hnl:=hst.n
 have hpl:pc < (st.marks.length:Int):=by omega
 have hb:st.marks[pc.toNat]?=some (st.marks.getD pc.toNat 0):=getD_get (by omega)
 have hok:=pObjs_all g t st 7 (Nat.le_refl _)
 have hgl:=hg.len1
 have hgc:=hg.caps1
 have hgc0:=hg.caps0
 have wa:IntKind.i64.wrap (at_ + 1)=at_ + 1:=w64 _ (by omega)
 rw[pAdd]
 unfold pArgs
 by_cases hc1:st.closed=true
 ·rw[if_pos (.inl hc1)]
  unfold pObjs at *
  refine fn_ok func68 rfl ntmps68 results68 rfl 7 52776558145791 (by simp) (by simp) ?_
  simp only[zX,simprocAttr,i64,bV,iD,bD,pClosed,hc1]
  simp [pMach,pMarks,pMbox,pClosed,pList,pAddb,pArr,refsV,refsV.go,i64,bV,PTh.cells]
 have hc1':st.closed=false:=by simpa using hc1
 by_cases hc2:st.marks.getD pc.toNat 0=at_ + 1
 ·rw[if_pos (.inr hc2)]
  have hc2':=eq_true hc2
  unfold pObjs at *
  refine fn_ok func68 rfl ntmps68 results68 rfl 7 52776558145791 (by simp) (by simp) ?_
  simp only[zX,simprocAttr,i64,bV,iD,bD,pClosed,pMbox,pMach,pMarks,hc1',h0,hpl,hb,Nat.zero_add,wa,hc2',List.length_map]
  simp [pMach,pMarks,pMbox,pClosed,pList,pAddb,pArr,refsV,refsV.go,i64,bV,PTh.cells]
 rw[if_neg (fun h=>h.elim hc1 hc2)]
 have hu:=unm_set (at_:=at_) (l:=st.marks) (i:=pc.toNat) (by omega) hc2
 have hm:=hst.mark' pc (at_ + 1)
 have e1:(st.mark pc (at_ + 1)).marks=st.marks.set pc.toNat (at_ + 1):=rfl
 have e2:(st.mark pc (at_ + 1)).n=st.n:=rfl
 have hX0:(⟨1,true,5,[[.d (.sl (g.ins.map Ins.cells)),.d (.sc (.int .i64 g.caps)),.d (.sc (.bool g.runes)),.d (intsD t),.so 1 1 0 st.marks.length]]⟩:VL.Obj)=pMach g t 1 (st.mark pc (at_ + 1)):=by simp [pMach,PSt.mark,i64,bV]
 have hX1:(⟨1,true,1,(st.marks.map fun x=>[V.d (.sc (.int .i64 x))]).set pc.toNat [V.d (.sc (.int .i64 (at_ + 1)))]⟩:VL.Obj)=pMarks (st.mark pc (at_ + 1)):=by simp [pMarks,PSt.mark,i64,List.map_set]
 have hX2:(⟨0,true,1,[[.rf 0 1 0 0]]⟩:VL.Obj)=pMbox 0:=rfl
 have hX3:(⟨0,true,1,[[V.d (.sc (.bool false))]]⟩:VL.Obj)=pClosed (st.mark pc (at_ + 1)):=by simp [pClosed,PSt.mark,hc1',bV]
 have hX4:pList 6 st=pList 6 (st.mark pc (at_ + 1)):=rfl
 have hX5:(⟨0,true,1,[[.cl (.func 68) [] [.rf 3 0 0 0,.rf 2 0 0 0,.rf 4 0 0 0,.rf 5 0 0 0]]]⟩:VL.Obj)=pAddb 2 3 4 5:=rfl
 have hX6:pArr st=pArr (st.mark pc (at_ + 1)):=rfl
 have hgs:=hg.split pc.toNat _ hx
 have hgj:=hg.jump pc.toNat _ hx
 have hgv:=hg.save pc.toNat _ hx
 have hga:=hg.assert pc.toNat _ hx
 have hgn:=hg.next pc.toNat _ hx
 have hop:=hg.ops _ (List.mem_of_getElem? hx)
 simp only
 rw[← e1] at hu
 have hinv:=fun j pc regs st h a b=>pAdd_inv g t at_ frm (j + 1) pc regs st hg h a b
 generalize hst1:st.mark pc (at_ + 1)=st1 at *
 generalize insAt g pc=x at *
 obtain⟨j,rfl⟩:∃j,k=j + 1:=⟨k - 1,by omega⟩
 have ih:=ih j rfl
 unfold PAddOK pArgs at ih
 by_cases o2:x.op=2
 ·rw[if_neg (by omega),if_pos o2]
  have hg2:=hgs o2
  have ih1:=ih x.x regs st1 (by omega) (by omega) hr hm (by omega) (by omega)
  have h2:=hinv j x.x regs st1 hm (by omega) (by omega)
  have ih2:=ih x.y regs (pAdd g t at_ frm (j + 1) x.x regs st1) (by omega) (by omega) hr h2.1 (by omega) (by omega)
  generalize pAdd g t at_ frm (j + 1) x.x regs st1=R1 at *
  generalize pAdd g t at_ frm (j + 1) x.y regs R1=R2 at *
  unfold pObjs
  refine fn_ok func68 rfl ntmps68 results68 rfl 7 52776558145791 (by simp) (by simp) ?_
  simp only[zX,simprocAttr,i64,bV,iD,bD,pClosed,pMbox,pMach,pMarks,pAddb,hc1',h0,h1,hpl,hb,hx,Nat.zero_add,wa,hc2,Ins.cells,List.length_map,o2]
  rw[hX0,hX1,hX2,hX3,hX4,hX5,hX6]
  refine call_pk (a0:=0) (a1:=1) (a2:=2) (a3:=3) (a4:=4) (a5:=5) (a6:=6) ih1 (by decide) rfl rfl rfl rfl rfl rfl rfl rfl rfl rfl ?_
  simp only[List.set_cons_zero,List.set_cons_succ]
  simp only[zX,simprocAttr,i64,bV,iD,bD,pMbox,pMach,pAddb,h0,h1,Nat.zero_add,Ins.cells,List.length_map,o2]
  refine call_pk (a0:=0) (a1:=1) (a2:=2) (a3:=3) (a4:=4) (a5:=5) (a6:=6) ih2 (by decide) rfl rfl rfl rfl rfl rfl rfl rfl rfl rfl ?_
  simp only[List.set_cons_zero,List.set_cons_succ]
  simp only[zX,simprocAttr,i64,bV,iD,bD,pMbox,pMach,pAddb,h0,h1,Nat.zero_add,Ins.cells,List.length_map,o2]
  simp [pMach,pMarks,pMbox,pClosed,pList,pAddb,pArr,refsV,refsV.go,i64,bV,PTh.cells]
 by_cases o3:x.op=3
 ·rw[if_neg (by omega),if_neg o2,if_pos o3]
  have hg2:=hgj o3
  have ih1:=ih x.x regs st1 (by omega) (by omega) hr hm (by omega) (by omega)
  generalize pAdd g t at_ frm (j + 1) x.x regs st1=R2 at *
  unfold pObjs
  refine fn_ok func68 rfl ntmps68 results68 rfl 7 52776558145791 (by simp) (by simp) ?_
  simp only[zX,simprocAttr,i64,bV,iD,bD,pClosed,pMbox,pMach,pMarks,pAddb,hc1',h0,h1,hpl,hb,hx,Nat.zero_add,wa,hc2,Ins.cells,List.length_map,o2,o3]
  rw[hX0,hX1,hX2,hX3,hX4,hX5,hX6]
  refine call_pk (a0:=0) (a1:=1) (a2:=2) (a3:=3) (a4:=4) (a5:=5) (a6:=6) ih1 (by decide) rfl rfl rfl rfl rfl rfl rfl rfl rfl rfl ?_
  simp only[List.set_cons_zero,List.set_cons_succ]
  simp only[zX,simprocAttr,i64,bV,iD,bD,pMbox,pMach,pAddb,h0,h1,Nat.zero_add,Ins.cells,List.length_map,o2,o3]
  simp [pMach,pMarks,pMbox,pClosed,pList,pAddb,pArr,refsV,refsV.go,i64,bV,PTh.cells]
 by_cases o4:x.op=4
 ·rw[if_neg (by omega),if_neg o2,if_neg o3,if_pos o4]
  have hg2:=hgv o4
  have hg3:=hgn (.inr (by omega))
  have w1:IntKind.i64.wrap (pc + 1)=pc + 1:=w64 _ (by omega)
  have ih1:=ih (pc + 1) (regs.set x.n.toNat at_) st1 (by omega) (by omega) (by simpa using hr) hm (by omega) (by omega)
  generalize pAdd g t at_ frm (j + 1) (pc + 1) (regs.set x.n.toNat at_) st1=R2 at *
  have w2:IntKind.i64.wrap (x.n + 1)=x.n + 1:=w64 _ (by omega)
  have b1:x.n≤(regs.length:Int):=by omega
  have b2:x.n + 1≤(regs.length:Int):=by omega
  have z1:(x.n - 0).toNat=x.n.toNat:=by omega
  have z2:(x.n + 1).toNat=x.n.toNat + 1:=by omega
  have z3:List.take ((regs.length:Int) - (x.n + 1)).toNat (List.drop (x.n.toNat + 1) (regs.map fun x=>[D.sc (.int .i64 x)]))=(regs.drop (x.n.toNat + 1)).map fun x=>[D.sc (.int .i64 x)]:=by
   rw[← List.map_drop,List.take_of_length_le (by simp; omega)]
  have z4:List.take x.n.toNat (regs.map fun x=>[D.sc (.int .i64 x)])=(regs.take x.n.toNat).map fun x=>[D.sc (.int .i64 x)]:=by rw[List.map_take]
  have hset:regs.set x.n.toNat at_=regs.take x.n.toNat++at_::regs.drop (x.n.toNat + 1):=by
   rw[List.set_eq_take_append_cons_drop,if_pos (by omega)]
  have hdl:(regs.drop (x.n.toNat + 1)).length≤100000:=by simp; omega
  have htl:(regs.take x.n.toNat).length≤100000:=by simp; omega
  unfold pObjs
  refine fn_ok func68 rfl ntmps68 results68 rfl 7 52776558145791 (by simp) (by simp) ?_
  simp only[zX,simprocAttr,i64,bV,iD,bD,pClosed,pMbox,pMach,pMarks,pAddb,hc1',h0,h1,hpl,hb,hx,Nat.zero_add,wa,hc2,Ins.cells,List.length_map,o2,o3,o4,intsD,hg2.1,b1,Int.le_refl,z1,z4]
  refine⟨rfl,fun e he=>by rw[List.mem_singleton.1 he]; rfl,?_⟩
  split
  ·rename_i heq
   cases heq
  refine⟨⟨by omega,fun e he=>by obtain⟨y,_,rfl⟩:=List.mem_map.1 he; rfl⟩,?_⟩
  refine draw_c mix [12] [(11,[8],[8])] (by rfl) ?_
  simp only[zX,simprocAttr,i64,bV,iD,bD,pMbox,pMach,pAddb,h0,h1,Nat.zero_add,Ins.cells,List.length_map,w1,w2,b2,Int.le_refl,z1,z2,z3,z4]
  refine⟨by omega,.inr (fun e he=>by obtain⟨y,_,rfl⟩:=List.mem_map.1 he; rfl),rfl,intEls _,⟨by simp,by omega⟩,?_⟩
  have hX0':=hX0
  simp only[intsD,iD] at hX0'
  rw[hX0',hX1,hX2,hX3,hX4,hX5,hX6]
  refine callD_of (call_give (cargs:=[i64 (pc + 1),i64 at_,i64 frm,.d (intsD (regs.set x.n.toNat at_)),.rf 3 0 0 0,.rf 2 0 0 0,.rf 4 0 0 0,.rf 5 0 0 0]) [8] ?_ (call_pk (a0:=0) (a1:=1) (a2:=2) (a3:=3) (a4:=4) (a5:=5) (a6:=6) ih1 (by decide) rfl rfl rfl rfl rfl rfl rfl rfl rfl rfl ⟨rfl,rfl⟩)) ?_
  ·simp only[killO,kill1,List.getElem?_cons_succ,List.getElem?_cons_zero,List.set_cons_succ,List.set_cons_zero,List.length_cons,List.length_nil,frzV.go]
   rw[frz_ownK (ds:=(regs.set x.n.toNat at_).map fun x=>[iD x]) (by rfl) ?_ ?_ (.inr rfl)]
   ·rfl
   ·rw[List.drop_zero,List.take_of_length_le (by simp),List.take_of_length_le (by simp),hset]
    simp [iD]
   ·simp
  simp only[killO,kill1,List.getElem?_cons_succ,List.getElem?_cons_zero,List.set_cons_zero,List.set_cons_succ]
  simp only[zX,simprocAttr,i64,bV,iD,bD,o2,o3,o4]
  simp [pMach,pMarks,pMbox,pClosed,pList,pAddb,pArr,refsV,refsV.go,i64,bV,PTh.cells,iD]
 by_cases o5:x.op=5
 ·rw[if_neg (by omega),if_neg o2,if_neg o3,if_neg o4]
  have hg2:=hga o5
  have hg3:=hgn (.inr (by omega))
  have w1:IntKind.i64.wrap (pc + 1)=pc + 1:=w64 _ (by omega)
  have has:=assert_ok x.n t at_ hg2.1 hg2.2 (by omega) ha0 ha1
  simp only[i64,bV] at has
  by_cases hh:holdsR x.n t at_=true
  ·rw[if_pos hh]
   rw[hh] at has
   have ih1:=ih (pc + 1) regs st1 (by omega) (by omega) hr hm (by omega) (by omega)
   generalize pAdd g t at_ frm (j + 1) (pc + 1) regs st1=R2 at *
   unfold pObjs
   refine fn_ok func68 rfl ntmps68 results68 rfl 7 52776558145791 (by simp) (by simp) ?_
   simp only[zX,simprocAttr,i64,bV,iD,bD,pClosed,pMbox,pMach,pMarks,pAddb,hc1',h0,h1,hpl,hb,hx,Nat.zero_add,wa,hc2,Ins.cells,List.length_map,o2,o3,o4,o5]
   refine draw_c mix [] [] (by rfl) ?_
   simp only[zX,simprocAttr,i64,bV,iD,bD,pClosed,pMbox,pMach,pMarks,pAddb,hc1',h0,h1,hpl,hb,hx,Nat.zero_add,wa,hc2,Ins.cells,List.length_map,o2,o3,o4,o5]
   refine callC_pure has rfl rfl ?_
   simp only[zX,simprocAttr,i64,bV,iD,bD,pClosed,pMbox,pMach,pMarks,pAddb,hc1',h0,h1,hpl,hb,hx,Nat.zero_add,wa,hc2,Ins.cells,List.length_map,o2,o3,o4,o5,w1]
   rw[hX0,hX1,hX2,hX3,hX4,hX5,hX6]
   refine call_pk (a0:=0) (a1:=1) (a2:=2) (a3:=3) (a4:=4) (a5:=5) (a6:=6) ih1 (by decide) rfl rfl rfl rfl rfl rfl rfl rfl rfl rfl ?_
   simp only[List.set_cons_zero,List.set_cons_succ]
   simp only[zX,simprocAttr,i64,bV,iD,bD,pMbox,pMach,pAddb,h0,h1,Nat.zero_add,Ins.cells,List.length_map,o2,o3,o4,o5]
   simp [pMach,pMarks,pMbox,pClosed,pList,pAddb,pArr,refsV,refsV.go,i64,bV,PTh.cells]
  ·rw[if_neg hh]
   have hh':holdsR x.n t at_=false:=by simpa using hh
   rw[hh'] at has
   unfold pObjs
   refine fn_ok func68 rfl ntmps68 results68 rfl 7 52776558145791 (by simp) (by simp) ?_
   simp only[zX,simprocAttr,i64,bV,iD,bD,pClosed,pMbox,pMach,pMarks,pAddb,hc1',h0,h1,hpl,hb,hx,Nat.zero_add,wa,hc2,Ins.cells,List.length_map,o2,o3,o4,o5]
   refine draw_c mix [] [] (by rfl) ?_
   simp only[zX,simprocAttr,i64,bV,iD,bD,pClosed,pMbox,pMach,pMarks,pAddb,hc1',h0,h1,hpl,hb,hx,Nat.zero_add,wa,hc2,Ins.cells,List.length_map,o2,o3,o4,o5]
   refine callC_pure has rfl rfl ?_
   rw[hX0,hX1,hX2,hX3,hX4,hX5,hX6]
   simp only[zX,simprocAttr,i64,bV,iD,bD,o2,o3,o4,o5,Bool.false_eq_true]
   simp [pMach,pMarks,pMbox,pClosed,pList,pAddb,pArr,refsV,refsV.go,i64,bV,PTh.cells]
 have o01:x.op=0∨x.op=1:=by omega
 rw[if_pos o01]
 subst hst1
 unfold pObjs
 rcases o01 with o0 | o1
 ·refine fn_ok func68 rfl ntmps68 results68 rfl 7 52776558145791 (by simp) (by simp) ?_
  simp only[zX,simprocAttr,i64,bV,iD,bD,pClosed,pMbox,pMach,pMarks,pAddb,hc1',h0,h1,hpl,hb,hx,Nat.zero_add,wa,hc2,Ins.cells,List.length_map,pList,pArr,o0]
  refine⟨fun e he=>by rw[List.mem_singleton.1 he]; rfl,⟨by omega,by omega⟩,?_,?_⟩
  ·rw[Bool.and_eq_true]
   refine⟨?_,?_⟩
   ·rw[List.all_eq_true]
    intro e he
    rcases List.mem_or_eq_of_mem_set he with he | rfl
    ·obtain⟨y,_,rfl⟩:=List.mem_map.1 he; rfl
    ·rfl
   ·rw[List.all_append,Bool.and_eq_true]
    refine⟨?_,rfl⟩
    rw[List.all_eq_true]
    intro e he
    obtain⟨y,_,rfl⟩:=List.mem_map.1 (List.mem_of_mem_take he)
    rfl
  ·simp [PSt.push,PSt.mark,PTh.cells,iD,List.map_take,List.map_set,o0]
 ·refine fn_ok func68 rfl ntmps68 results68 rfl 7 52776558145791 (by simp) (by simp) ?_
  simp only[zX,simprocAttr,i64,bV,iD,bD,pClosed,pMbox,pMach,pMarks,pAddb,hc1',h0,h1,hpl,hb,hx,Nat.zero_add,wa,hc2,Ins.cells,List.length_map,pList,pArr,o1]
  refine⟨fun e he=>by rw[List.mem_singleton.1 he]; rfl,⟨by omega,by omega⟩,?_,?_⟩
  ·rw[Bool.and_eq_true]
   refine⟨?_,?_⟩
   ·rw[List.all_eq_true]
    intro e he
    rcases List.mem_or_eq_of_mem_set he with he | rfl
    ·obtain⟨y,_,rfl⟩:=List.mem_map.1 he; rfl
    ·rfl
   ·rw[List.all_append,Bool.and_eq_true]
    refine⟨?_,rfl⟩
    rw[List.all_eq_true]
    intro e he
    obtain⟨y,_,rfl⟩:=List.mem_map.1 (List.mem_of_mem_take he)
    rfl
  ·simp [PSt.push,PSt.mark,PTh.cells,iD,List.map_take,List.map_set,o1]
theorem pAdd_ok (g:Prg) (hg:g.good) (t:List Int) (ht:t.length≤65536) (at_ frm:Int) (ha0:0≤at_) (ha1:at_≤t.length):∀k,PAddOK g t at_ frm k
 | 0=>pAdd_step g hg t ht at_ frm ha0 ha1 0 (fun j h=>by omega)
 | k + 1=>by
  refine pAdd_step g hg t ht at_ frm ha0 ha1 (k + 1) (fun j h=>?_)
  have:j=k:=by omega
  subst this
  exact pAdd_ok g hg t ht at_ frm ha0 ha1 j
structure PTh.ok (g:Prg) (x:PTh):Prop where
 p0:0≤x.insn
 p1:x.insn < g.ins.length
 regs:x.regs.length=(2 * g.caps).toNat
 op:(insAt g x.insn).op=0∨(insAt g x.insn).op=1
def PSt.list (st:PSt):List PTh:=st.arr.take st.n
theorem PSt.list_push {st:PSt} (h:st.n≤st.arr.length) (x:PTh) (c:Bool):(st.push x c).list=st.list++[x]:=by
 unfold PSt.list PSt.push
 simp only
 rw[List.take_of_length_le]
 simp; omega
theorem pAdd_all (g:Prg) (hg:g.good) (t:List Int) (at_ frm:Int):∀(k:Nat) (pc:Int) (regs:List Int) (st:PSt),st.ok g→0≤pc→pc < g.ins.length→regs.length=(2 * g.caps).toNat→(∀x∈st.list,x.ok g)→∀x∈(pAdd g t at_ frm k pc regs st).list,x.ok g
 | 0,_,_,st,_,_,_,_,h=>by simpa [pAdd] using h
 | k + 1,pc,regs,st,hst,h0,h1,hr,h=>by
  have hx:=insAt_get h0 h1
  have hs:=hg.split pc.toNat _ hx
  have hj:=hg.jump pc.toNat _ hx
  have hn:=hg.next pc.toNat _ hx
  have ho:=hg.ops _ (List.mem_of_getElem? hx)
  rw[pAdd]
  split
  ·exact h
  have hm:=hst.mark' pc (at_ + 1)
  have hl:(st.mark pc (at_ + 1)).list=st.list:=rfl
  simp only
  rw[← hl] at h
  generalize st.mark pc (at_ + 1)=st1 at *
  split
  ·rename_i o01
   intro x hx
   rw[PSt.list_push hm.n] at hx
   rcases List.mem_append.1 hx with hx | hx
   ·exact h x hx
   ·rw[List.mem_singleton.1 hx]; exact⟨h0,h1,hr,o01⟩
  split
  ·rename_i o2
   have:=hs o2
   have k1:=pAdd_inv g t at_ frm k (insAt g pc).x regs st1 hg hm (by omega) (by omega)
   exact pAdd_all g hg t at_ frm k _ _ _ k1.1 (by omega) (by omega) hr (pAdd_all g hg t at_ frm k _ _ _ hm (by omega) (by omega) hr h)
  split
  ·rename_i o3
   have:=hj o3
   exact pAdd_all g hg t at_ frm k _ _ _ hm (by omega) (by omega) hr h
  split
  ·rename_i o4
   have:=hn (.inr (by omega))
   exact pAdd_all g hg t at_ frm k _ _ _ hm (by omega) (by omega) (by simpa using hr) h
  split
  ·have:=hn (.inr (by omega))
   exact pAdd_all g hg t at_ frm k _ _ _ hm (by omega) (by omega) hr h
  ·exact h
theorem unm_le (at_:Int) (l:List Int):unm at_ l≤l.length:=List.countP_le_length
def pReads (g:Prg) (t:List Int) (at_:Int) (x:PTh):Prop:=(insAt g x.insn).op=1∧hasB (insAt g x.insn).set (tAt t at_)=true
instance (g:Prg) (t:List Int) (at_:Int) (x:PTh):Decidable (pReads g t at_ x):=by unfold pReads; infer_instance
def pFeed1 (g:Prg) (t:List Int) (at_:Int) (st:PSt) (x:PTh):PSt:=if pReads g t at_ x then pAdd g t (at_ + 1) x.from_ (rGas g) (x.insn + 1) x.regs st else st
def pFeed (g:Prg) (t:List Int) (at_:Int) (l:List PTh) (st:PSt):PSt:=l.foldl (pFeed1 g t at_) st
theorem pFeed_snoc (g:Prg) (t:List Int) (at_:Int) (l:List PTh) (x:PTh) (st:PSt):pFeed g t at_ (l++[x]) st=pFeed1 g t at_ (pFeed g t at_ l st) x:=by
 unfold pFeed; rw[List.foldl_append]; rfl
structure PSt.inv (g:Prg) (at_:Int) (st:PSt):Prop where
 ok:st.ok g
 n:st.n + unm at_ st.marks≤g.ins.length
 th:∀x∈st.list,x.ok g
theorem pAdd_keep (g:Prg) (hg:g.good) (t:List Int) (at_ frm:Int) (k:Nat) (pc:Int) (regs:List Int) (st:PSt) (h:st.inv g at_) (h0:0≤pc) (h1:pc < g.ins.length) (hr:regs.length=(2 * g.caps).toNat):(pAdd g t at_ frm k pc regs st).inv g at_:=by
 obtain⟨k1,k2,k3⟩:=pAdd_inv g t at_ frm k pc regs st hg h.ok h0 h1
 exact⟨k1,Nat.le_trans k3 h.n,pAdd_all g hg t at_ frm k pc regs st h.ok h0 h1 hr h.th⟩
theorem pFeed_keep (g:Prg) (hg:g.good) (t:List Int) (at_:Int):∀(l:List PTh) (st:PSt),(∀x∈l,x.ok g)→st.inv g (at_ + 1)→(pFeed g t at_ l st).inv g (at_ + 1)
 | [],st,_,h=>h
 | x::l,st,hl,h=>by
  have hx:=hl x (by simp)
  refine pFeed_keep g hg t at_ l _ (fun y hy=>hl y (by simp [hy])) ?_
  unfold pFeed1
  split
  ·rename_i hc
   have hn:=hg.next x.insn.toNat _ (insAt_get hx.p0 hx.p1) (.inl hc.1)
   have:=hx.p0
   exact pAdd_keep g hg t (at_ + 1) x.from_ _ _ _ st h (by omega) (by omega) hx.regs
  ·exact h
theorem phas_ok (l:List (Int × Int)) (x:Int) (hl:l.length≤1000000):PureOK prog 69 [.d (.sl (l.map spanC)),i64 x] (bV (hasB l x)):=by
 refine fn_ok func69 rfl ntmps69 results69 rfl 0 979 (by simp) (by simp) ?_
 simp only[zX,simprocAttr,i64,List.length_map]
 refine loop_rule (fun n e s=>∃i:Nat,n=l.length - i∧i≤l.length∧e 1=i64 x∧e 7=.d (.sl (l.map spanC))∧e 8=i64 l.length∧e 9=i64 i∧s=[]∧(l.take i).any (fun s=>decide (s.1≤x∧x≤s.2))=false)
  ⟨_,_,_,Cln.refl,0,rfl,by omega,rfl,rfl,rfl,rfl,rfl,by simp⟩ ?_
 rintro n e s ⟨i,rfl,hi,h1,h7,h8,h9,rfl,hno⟩
 rcases Nat.lt_or_ge i l.length with hlt | hge
 ·obtain⟨k,hk⟩:∃k,l[i]?=some k:=⟨_,List.getElem?_eq_getElem hlt⟩
  have hlt':(i:Int) < l.length:=by omega
  have hm:=List.mem_of_getElem? hk
  by_cases c1:k.1≤x
  ·by_cases c2:x≤k.2
   ·simp only[zX,simprocAttr,i64,bV,iD,bD,spanC,h1,h7,h8,h9,hlt',hk,c1,c2]
    have:hasB l x=true:=List.any_eq_true.2 ⟨k,hm,by simp [c1,c2]⟩
    rw[this]
   ·simp only[zX,simprocAttr,i64,bV,iD,bD,spanC,h1,h7,h8,h9,hlt',hk,c1,c2]
    refine⟨l.length - (i + 1),_,_,by omega,Cln.cut (s':=[]) 0 (by omega) rfl rfl [1,7,8,9] (by simp [updE,trimE_app,refsV,h1,h7,h8,h9,i64]),i + 1,rfl,hlt,?_,?_,?_,?_,rfl,by rw[take_get hk,List.any_append,hno]; simp [c2]⟩ <;> (try simp only[zU,Nat.reduceBEq,Nat.reduceShiftRight,Nat.reduceMod,Nat.reduceEqDiff,reduceIte])
    ·exact h1
    ·exact h7
    ·exact h8
    ·rw[w64 _ (by omega)]; rfl
  ·simp only[zX,simprocAttr,i64,bV,iD,bD,spanC,h1,h7,h8,h9,hlt',hk,c1]
   refine⟨l.length - (i + 1),_,_,by omega,Cln.cut (s':=[]) 0 (by omega) rfl rfl [1,7,8,9] (by simp [updE,trimE_app,refsV,h1,h7,h8,h9,i64]),i + 1,rfl,hlt,?_,?_,?_,?_,rfl,by rw[take_get hk,List.any_append,hno]; simp [c1]⟩ <;> (try simp only[zU,Nat.reduceBEq,Nat.reduceShiftRight,Nat.reduceMod,Nat.reduceEqDiff,reduceIte])
   ·exact h1
   ·exact h7
   ·exact h8
   ·rw[w64 _ (by omega)]; rfl
 ·have hie:i=l.length:=by omega
  subst hie
  have hlt':¬(l.length:Int) < l.length:=by omega
  rw[List.take_length] at hno
  simp only[zX,simprocAttr,i64,bV,iD,bD,h1,h7,h8,h9,hlt']
  have:hasB l x=false:=hno
  rw[this]
end Go.Proofs.Ytdofoappodmcoaa
