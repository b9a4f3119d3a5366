/- A part of the proof (K20). -/
import Derived.Test.YtdofoappodmcoaaKS24
import Derived.Test.YtdofoappodmcoaaKS28
import Derived.Test.YtdofoappodmcoaaKS25
set_option linter.unusedSimpArgs false
set_option linter.unusedVariables false
set_option maxRecDepth 100000
set_option maxHeartbeats 80000000
namespace Go.Proofs.Ytdofoappodmcoaa
open Go.VL Go.Proofs.Try
structure RTh where
 pc : Int
 regs : List Int
def RTh.cells (t : RTh) : List D := [iD t.pc,intsD t.regs]
structure RSt where
 added : List Bool
 ths : List RTh
def insAt (g : Prg) (n : Int) : Ins := g.ins.getD n.toNat ⟨0,0,0,0,[]⟩
def rAdd (g : Prg) (t : List Int) (at_ : Int) : Nat→Int→List Int→RSt→RSt
 | 0,_,_,st=>st
 | k + 1,pc,regs,st =>
  if st.added.getD pc.toNat true=true then st
  else
   let st : RSt := ⟨st.added.set pc.toNat true,st.ths⟩
   let x := insAt g pc
   if x.op=2 then rAdd g t at_ k x.y regs (rAdd g t at_ k x.x regs st)
   else if x.op=3 then rAdd g t at_ k x.x regs st
   else if x.op=4 then rAdd g t at_ k (pc + 1) (regs.set x.n.toNat at_) st
   else if x.op=5 then (if holdsR x.n t at_=true then rAdd g t at_ k (pc + 1) regs st else st)
   else ⟨st.added,st.ths ++ [⟨pc,regs⟩]⟩
structure Prg.good (g : Prg) : Prop where
 len0 : 1≤g.ins.length
 len1 : g.ins.length≤8192
 caps0 : 0≤g.caps
 caps1 : g.caps≤9
 sets : ∀ x ∈ g.ins,x.set.length≤64
 split : ∀ (i : Nat) (x : Ins),g.ins[i]?=some x→x.op=2→0≤x.x∧x.x < g.ins.length∧0≤x.y∧x.y < g.ins.length
 jump : ∀ (i : Nat) (x : Ins),g.ins[i]?=some x→x.op=3→0≤x.x∧x.x < g.ins.length
 save : ∀ (i : Nat) (x : Ins),g.ins[i]?=some x→x.op=4→0≤x.n∧x.n < 2 * g.caps
 assert : ∀ (i : Nat) (x : Ins),g.ins[i]?=some x→x.op=5→0≤x.n∧x.n≤5
 next : ∀ (i : Nat) (x : Ins),g.ins[i]?=some x→(x.op=1 ∨ 4≤x.op)→i + 1 < g.ins.length
 ops : ∀ x ∈ g.ins,0≤x.op∧x.op≤5
def free (l : List Bool) : Nat := l.countP (fun b=>!b)
theorem free_set {l : List Bool} {i : Nat} (h : l.getD i true=false) : free (l.set i true) + 1=free l := by
 induction l generalizing i with
 | nil=>simp at h
 | cons b l ih =>
  cases i with
  | zero=>simp at h; subst h; simp [free]
  | succ i =>
   have := ih (i := i) (by simpa using h)
   unfold free at *
   simp only [List.set_cons_succ,List.countP_cons]
   omega
theorem rAdd_len (g : Prg) (t : List Int) (at_ : Int) : ∀ (k : Nat) (pc : Int) (regs : List Int) (st : RSt),(rAdd g t at_ k pc regs st).added.length=st.added.length∧free (rAdd g t at_ k pc regs st).added≤free st.added ∧
  (rAdd g t at_ k pc regs st).ths.length + free (rAdd g t at_ k pc regs st).added≤st.ths.length + free st.added
 | 0,_,_,st=>by simp [rAdd]
 | k + 1,pc,regs,st=>by
  rw [rAdd]
  by_cases h : st.added.getD pc.toNat true=true
  ·rw [if_pos h]; simp
  rw [if_neg h]
  have hf := free_set (l := st.added) (i := pc.toNat) (by simpa using h)
  have hl : (st.added.set pc.toNat true).length=st.added.length := by simp
  simp only
  generalize hst : (⟨st.added.set pc.toNat true,st.ths⟩ : RSt)=st1
  have e1 : st1.added=st.added.set pc.toNat true := by rw [← hst]
  have e2 : st1.ths=st.ths := by rw [← hst]
  have hf0 := hf
  have hl0 := hl
  rw [← e1] at hf hl
  split
  ·have h1 := rAdd_len g t at_ k (insAt g pc).x regs st1
   have h2 := rAdd_len g t at_ k (insAt g pc).y regs (rAdd g t at_ k (insAt g pc).x regs st1)
   rw [e2] at h1
   omega
  split
  ·have h1 := rAdd_len g t at_ k (insAt g pc).x regs st1
   rw [e2] at h1
   omega
  split
  ·have h1 := rAdd_len g t at_ k (pc + 1) (regs.set (insAt g pc).n.toNat at_) st1
   rw [e2] at h1
   omega
  split
  ·split
   ·have h1 := rAdd_len g t at_ k (pc + 1) regs st1
    rw [e2] at h1
    omega
   ·rw [e2]; omega
  ·show (st.added.set pc.toNat true).length=_∧free (st.added.set pc.toNat true)≤_∧(st.ths ++ [(⟨pc,regs⟩ : RTh)]).length + free (st.added.set pc.toNat true)≤_
   simp only [List.length_append,List.length_cons,List.length_nil]
   omega
def lO1 (q Y Z : Nat) (at_ : Int) (st : RSt) : VL.Obj := ⟨q,true,3,[[i64 at_,.so Z st.ths.length 0 st.ths.length,.so Y q 0 st.added.length]]⟩
def lO2 (q : Nat) (st : RSt) : VL.Obj := ⟨q,true,1,st.added.map fun b=>[bV b]⟩
def lO3 (st : RSt) : VL.Obj := ⟨st.ths.length,true,2,st.ths.map fun x=>x.cells.map .d⟩
def listObjs (q : Nat) (at_ : Int) (st : RSt) : List VL.Obj := [lO1 q 1 2 at_ st,lO2 q st,lO3 st]
theorem lO2_ok (n q : Nat) (st : RSt) : objOk n (lO2 q st)=true := by
 unfold objOk lO2
 rw [List.all_eq_true]
 intro e he
 obtain ⟨c,hc,rfl⟩ := List.mem_map.1 he
 rfl
theorem lO3_ok (n : Nat) (st : RSt) : objOk n (lO3 st)=true := by
 unfold objOk lO3
 rw [List.all_eq_true]
 intro e he
 obtain ⟨c,hc,rfl⟩ := List.mem_map.1 he
 rfl
theorem listObjs_all (q : Nat) (at_ : Int) (st : RSt) (n : Nat) (h : 3≤n) : (listObjs q at_ st).all (objOk n)=true := by
 have h1 : objOk n (lO1 q 1 2 at_ st)=true := by simp [objOk,lO1,refsV,i64]; omega
 simp only [listObjs,List.all_cons,List.all_nil,h1,lO2_ok,lO3_ok,Bool.and_true]
theorem listObjs_ren (q X Y Z : Nat) (at_ : Int) (st : RSt) : (listObjs q at_ st).map (renO [X,Y,Z])=[lO1 q Y Z at_ st,lO2 q st,lO3 st] := by
 unfold listObjs
 simp only [List.map_cons,List.map_nil,List.cons.injEq,and_true]
 refine ⟨?_,?_,?_⟩
 ·unfold renO lO1
  simp [renV.go,renV,i64]
 ·unfold renO lO2
  simp only [List.map_map]
  congr 1
 ·unfold renO lO3
  simp only [List.map_map]
  congr 1
theorem call_list {f : FuncId} {cargs args : List V} {r r' : V} {at_ : Int} {st st' : RSt} {q X Y Z : Nat} {s : List VL.Obj} {K : V→List VL.Obj→Prop} (h : callWp prog f cargs (listObjs q at_ st) fun v s=>v=r∧s=listObjs q at_ st')
  (hnd : [X,Y,Z].Nodup) (hX : s[X]?=some (lO1 q Y Z at_ st)) (hY : s[Y]?=some (lO2 q st)) (hZ : s[Z]?=some (lO3 st)) (ha : args=cargs.map (renV [X,Y,Z])) (hra : refsV.go 3 cargs=true) (hr : renV [X,Y,Z] r=r')
  (hk : K r' (((s.set X (lO1 q Y Z at_ st')).set Y (lO2 q st')).set Z (lO3 st'))) : callWp prog f args s K := by
 refine call_map [X,Y,Z] h hnd (by rfl) ?_ ha hra (listObjs_all q at_ st 3 (Nat.le_refl _)) hr ?_
 ·have e : (listObjs q at_ st).map (fun o=>some (renO [X,Y,Z] o))=((listObjs q at_ st).map (renO [X,Y,Z])).map some := by rw [List.map_map]; rfl
  rw [e,listObjs_ren]
  simp only [List.map_cons,List.map_nil,hX,hY,hZ]
 ·rw [listObjs_ren]
  exact hk
def RAddOK (q : Nat) (g : Prg) (t : List Int) (at_ : Int) (k : Nat) : Prop := ∀ (pc : Int) (regs : List Int) (st : RSt),0≤pc→pc < g.ins.length→regs.length=(2 * g.caps).toNat→st.added.length=g.ins.length→free st.added≤k→st.ths.length + free st.added≤100000 →
 callWp prog 70 [.rf 0 q 0 0,prgV g,.d (intsD t),i64 pc,.d (intsD regs)] (listObjs q at_ st) fun v s=>v=.tu []∧s=listObjs q at_ (rAdd g t at_ (k + 1) pc regs st)
theorem insAt_get {g : Prg} {pc : Int} (h0 : 0≤pc) (h1 : pc < g.ins.length) : g.ins[pc.toNat]?=some (insAt g pc) := by
 unfold insAt
 rw [List.getD,List.getElem?_eq_getElem (by omega : pc.toNat < g.ins.length)]
 rfl
theorem intEls (l : List Int) : ∀ e ∈ (l.map fun x=>[iD x]).map (fun x=>x.map V.d),e.length=1 := fun e he=>by
 obtain ⟨x,hx,rfl⟩ := List.mem_map.1 he
 obtain ⟨p,_,rfl⟩ := List.mem_map.1 hx
 rfl
theorem with11_ok (l : List Int) (n v : Int) (hl : l.length≤1000000000) (h0 : 0≤n) (h1 : n < l.length) : PureOK prog 95 [.d (intsD l),i64 n,i64 v] (.d (intsD (l.set n.toNat v))) := by
 have hel := intEls l
 have hlt : n.toNat < l.length := by omega
 have hg : l[n.toNat]?=some l[n.toNat] := List.getElem?_eq_getElem hlt
 have hset : ((l.map fun x=>[iD x]).map (fun x=>x.map V.d)).set n.toNat [i64 v]=((l.set n.toNat v).map fun x=>[iD x]).map (fun x=>x.map V.d) := by rw [List.map_set,List.map_set]; rfl
 simp only [iD,i64] at hset hel
 refine fn_ok func95 rfl ntmps95 results95 rfl 0 199 (by simp) (by simp) ?_
 simp only [zX,simprocAttr,i64,intsD,iD]
 refine ⟨hel,⟨by omega,by simp⟩,?_⟩
 simp only [zX,simprocAttr,i64,intsD,iD,Nat.zero_add,hlt,h0,h1,hg]
 rw [hset,frz_data 7 0 _ _ _ (by simp),if_pos (by simp)]
 rfl
theorem bools_get {l : List Bool} {i : Int} (h0 : 0≤i) (h1 : i < l.length) : l[i.toNat]?=some (l.getD i.toNat true) := by
 rw [List.getD,List.getElem?_eq_getElem (by omega : i.toNat < l.length)]; rfl
theorem rAdd_step (q : Nat) (g : Prg) (hg : g.good) (t : List Int) (ht : t.length≤65536) (at_ : Int) (ha0 : 0≤at_) (ha1 : at_≤t.length) (k : Nat) (ih : ∀ j,j + 1=k→RAddOK q g t at_ j) : RAddOK q g t at_ k := by
 intro pc regs st h0 h1 hr hl hf hn
 have hx := insAt_get h0 h1
 have hb := bools_get (l := st.added) (i := pc) h0 (by omega)
 have hpl : pc < (st.added.length : Int) := by omega
 have hok := listObjs_all q at_ st 3 (Nat.le_refl _)
 have hgl := hg.len1
 have hgc := hg.caps1
 have hgc0 := hg.caps0
 rw [rAdd]
 by_cases hc : st.added.getD pc.toNat true=true
 ·rw [if_pos hc]
  rw [hc] at hb
  unfold listObjs lO1 lO2 lO3 at *
  simp only [i64,bV] at hok
  refine fn_ok func70 rfl ntmps70 results70 rfl 3 2147486815 (by simp) (by simp) ?_
  simp only [zX,simprocAttr,i64,bV,iD,bD,prgV_eq,h0,h1,hpl,hb,List.length_map,Nat.zero_add,hok]
 rw [if_neg hc]
 have hcf : st.added.getD pc.toNat true=false := by simpa using hc
 have hfs := free_set hcf
 have hset : (st.added.map fun b=>[V.d (.sc (.bool b))]).set pc.toNat [V.d (.sc (.bool true))]=(st.added.set pc.toNat true).map fun b=>[V.d (.sc (.bool b))] := by rw [List.map_set]
 have hls : (st.added.set pc.toNat true).length=st.added.length := by simp
 rw [hcf] at hb
 have hsm := hg.ops (insAt g pc) (List.mem_of_getElem? hx)
 have hxc : (g.ins.map Ins.cells)[pc.toNat]?=some (insAt g pc).cells := by rw [List.getElem?_map,hx]; rfl
 have hgs := hg.split pc.toNat _ hx
 have hgj := hg.jump pc.toNat _ hx
 have hgv := hg.save pc.toNat _ hx
 have hga := hg.assert pc.toNat _ hx
 have hgn := hg.next pc.toNat _ hx
 simp only
 generalize insAt g pc=x at *
 have hk : ∃ j,k=j + 1 := ⟨k - 1,by omega⟩
 obtain ⟨j,rfl⟩ := hk
 have ih := ih j rfl
 have hlen1 := rAdd_len g t at_ (j + 1)
 have hst1 : ∀ (st1 : RSt),st1=⟨st.added.set pc.toNat true,st.ths⟩→st1.added.length=g.ins.length∧free st1.added≤j∧st1.ths.length + free st1.added≤100000 := by
  rintro st1 rfl
  exact ⟨by simpa using hl,by show free (st.added.set pc.toNat true)≤j; omega,by show st.ths.length + free (st.added.set pc.toNat true)≤100000; omega⟩
 obtain ⟨st1,e1⟩ : ∃ st1 : RSt,st1=⟨st.added.set pc.toNat true,st.ths⟩ := ⟨_,rfl⟩
 obtain ⟨s1,s2,s3⟩ := hst1 st1 e1
 rw [← e1]
 have hX1 : (⟨q,true,3,[[V.d (.sc (.int .i64 at_)),.so 2 st.ths.length 0 st.ths.length,.so 1 q 0 st.added.length]]⟩ : VL.Obj)=lO1 q 1 2 at_ st1 := by rw [e1]; simp [lO1,i64]
 have hX2 : (⟨q,true,1,(st.added.map fun b=>[V.d (.sc (.bool b))]).set pc.toNat [V.d (.sc (.bool true))]⟩ : VL.Obj)=lO2 q st1 := by rw [e1,hset]; rfl
 have hX3 : (⟨st.ths.length,true,2,st.ths.map fun x=>x.cells.map V.d⟩ : VL.Obj)=lO3 st1 := by rw [e1]; rfl
 by_cases o2 : x.op=2
 ·rw [if_pos o2]
  have hg2 := hgs o2
  have ih1 := ih x.x regs st1 (by omega) (by omega) hr (by omega) (by omega) (by omega)
  have h2 := hlen1 x.x regs st1
  have ih2 := ih x.y regs (rAdd g t at_ (j + 1) x.x regs st1) (by omega) (by omega) hr (by omega) (by omega) (by omega)
  generalize rAdd g t at_ (j + 1) x.x regs st1=R1 at *
  generalize rAdd g t at_ (j + 1) x.y regs R1=R2 at *
  have ok2 := listObjs_all q at_ R2 3 (Nat.le_refl _)
  unfold listObjs lO1 lO2 lO3
  refine fn_ok func70 rfl ntmps70 results70 rfl 3 2147486815 (by simp) (by simp) ?_
  simp only [zX,simprocAttr,i64,bV,iD,bD,prgV_eq,h0,h1,hpl,hb,hx,List.length_map,Nat.zero_add,Ins.cells,o2]
  rw [hX1,hX2,hX3]
  refine call_list (X := 0) (Y := 1) (Z := 2) ih1 (by decide) rfl rfl rfl rfl rfl rfl ?_
  simp only [List.set_cons_zero,List.set_cons_succ]
  simp only [zX,simprocAttr,i64,bV,iD,bD,prgV_eq,h0,h1,hpl,hb,hx,List.length_map,Nat.zero_add,Ins.cells,o2]
  refine call_list (X := 0) (Y := 1) (Z := 2) ih2 (by decide) rfl rfl rfl rfl rfl rfl ?_
  simp only [List.set_cons_zero,List.set_cons_succ]
  unfold listObjs at ok2
  simp only [zX,simprocAttr,i64,bV,iD,bD,prgV_eq,h0,h1,hpl,hb,hx,List.length_map,Nat.zero_add,Ins.cells,o2,ok2]
  rfl
 rw [if_neg o2]
 by_cases o3 : x.op=3
 ·rw [if_pos o3]
  have hg2 := hgj o3
  have ih1 := ih x.x regs st1 (by omega) (by omega) hr (by omega) (by omega) (by omega)
  generalize rAdd g t at_ (j + 1) x.x regs st1=R2 at *
  have ok2 := listObjs_all q at_ R2 3 (Nat.le_refl _)
  unfold listObjs lO1 lO2 lO3
  refine fn_ok func70 rfl ntmps70 results70 rfl 3 2147486815 (by simp) (by simp) ?_
  simp only [zX,simprocAttr,i64,bV,iD,bD,prgV_eq,h0,h1,hpl,hb,hx,List.length_map,Nat.zero_add,Ins.cells,o2,o3]
  rw [hX1,hX2,hX3]
  refine call_list (X := 0) (Y := 1) (Z := 2) ih1 (by decide) rfl rfl rfl rfl rfl rfl ?_
  simp only [List.set_cons_zero,List.set_cons_succ]
  unfold listObjs at ok2
  simp only [zX,simprocAttr,i64,bV,iD,bD,prgV_eq,h0,h1,hpl,hb,hx,List.length_map,Nat.zero_add,Ins.cells,o2,o3,ok2]
  rfl
 rw [if_neg o3]
 by_cases o4 : x.op=4
 ·rw [if_pos o4]
  have hg2 := hgv o4
  have hg3 := hgn (.inr (by omega))
  have w1 : IntKind.i64.wrap (pc + 1)=pc + 1 := w64 _ (by omega)
  have hwith := with11_ok regs x.n at_ (by omega) (by omega) (by omega)
  simp only [i64] at hwith
  have ih1 := ih (pc + 1) (regs.set x.n.toNat at_) st1 (by omega) (by omega) (by simpa using hr) (by omega) (by omega) (by omega)
  generalize rAdd g t at_ (j + 1) (pc + 1) (regs.set x.n.toNat at_) st1=R2 at *
  have ok2 := listObjs_all q at_ R2 3 (Nat.le_refl _)
  unfold listObjs lO1 lO2 lO3
  refine fn_ok func70 rfl ntmps70 results70 rfl 3 2147486815 (by simp) (by simp) ?_
  simp only [zX,simprocAttr,i64,bV,iD,bD,prgV_eq,h0,h1,hpl,hb,hx,List.length_map,Nat.zero_add,Ins.cells,o2,o3,o4]
  refine draw_c mix [13] [] (by rfl) ?_
  simp only [zX,simprocAttr,i64,bV,iD,bD,prgV_eq,h0,h1,hpl,hb,hx,List.length_map,Nat.zero_add,Ins.cells,o2,o3,o4,w1]
  refine callC_pure hwith rfl rfl ?_
  simp only [zX,simprocAttr,i64,bV,iD,bD,prgV_eq,h0,h1,hpl,hb,hx,List.length_map,Nat.zero_add,Ins.cells,o2,o3,o4,w1]
  rw [hX1,hX2,hX3]
  refine callD_of (call_list (X := 0) (Y := 1) (Z := 2) ih1 (by decide) rfl rfl rfl rfl rfl rfl ⟨rfl,rfl⟩) ?_
  simp only [List.set_cons_zero,List.set_cons_succ]
  unfold listObjs at ok2
  simp only [zX,simprocAttr,i64,bV,iD,bD,prgV_eq,o2,o3,o4,ok2]
  rfl
 rw [if_neg o4]
 by_cases o5 : x.op=5
 ·rw [if_pos o5]
  have hg2 := hga o5
  have hg3 := hgn (.inr (by omega))
  have w1 : IntKind.i64.wrap (pc + 1)=pc + 1 := w64 _ (by omega)
  have has := assert4_ok x.n t at_ hg2.1 hg2.2 (by omega) ha0 ha1
  simp only [i64,bV] at has
  by_cases hh : holdsR x.n t at_=true
  ·rw [if_pos hh]
   rw [hh] at has
   have ih1 := ih (pc + 1) regs st1 (by omega) (by omega) hr (by omega) (by omega) (by omega)
   generalize rAdd g t at_ (j + 1) (pc + 1) regs st1=R2 at *
   have ok2 := listObjs_all q at_ R2 3 (Nat.le_refl _)
   unfold listObjs lO1 lO2 lO3
   refine fn_ok func70 rfl ntmps70 results70 rfl 3 2147486815 (by simp) (by simp) ?_
   simp only [zX,simprocAttr,i64,bV,iD,bD,prgV_eq,h0,h1,hpl,hb,hx,List.length_map,Nat.zero_add,Ins.cells,o2,o3,o4,o5]
   refine draw_c mix [] [] (by rfl) ?_
   simp only [zX,simprocAttr,i64,bV,iD,bD,prgV_eq,h0,h1,hpl,hb,hx,List.length_map,Nat.zero_add,Ins.cells,o2,o3,o4,o5,w1]
   refine callC_pure has rfl rfl ?_
   simp only [zX,simprocAttr,i64,bV,iD,bD,prgV_eq,h0,h1,hpl,hb,hx,List.length_map,Nat.zero_add,Ins.cells,o2,o3,o4,o5,w1]
   rw [hX1,hX2,hX3]
   refine call_list (X := 0) (Y := 1) (Z := 2) ih1 (by decide) rfl rfl rfl rfl rfl rfl ?_
   simp only [List.set_cons_zero,List.set_cons_succ]
   unfold listObjs at ok2
   simp only [zX,simprocAttr,i64,bV,iD,bD,prgV_eq,h0,h1,hpl,hb,hx,List.length_map,Nat.zero_add,Ins.cells,o2,o3,o4,o5,ok2]
   rfl
  ·rw [if_neg hh]
   have hh' : holdsR x.n t at_=false := by simpa using hh
   rw [hh'] at has
   have ok2 := listObjs_all q at_ st1 3 (Nat.le_refl _)
   unfold listObjs lO1 lO2 lO3
   refine fn_ok func70 rfl ntmps70 results70 rfl 3 2147486815 (by simp) (by simp) ?_
   simp only [zX,simprocAttr,i64,bV,iD,bD,prgV_eq,h0,h1,hpl,hb,hx,List.length_map,Nat.zero_add,Ins.cells,o2,o3,o4,o5]
   refine draw_c mix [] [] (by rfl) ?_
   simp only [zX,simprocAttr,i64,bV,iD,bD,prgV_eq,h0,h1,hpl,hb,hx,List.length_map,Nat.zero_add,Ins.cells,o2,o3,o4,o5,w1]
   refine callC_pure has rfl rfl ?_
   rw [hX1,hX2,hX3]
   unfold listObjs at ok2
   simp only [zX,simprocAttr,i64,bV,iD,bD,prgV_eq,h0,h1,hpl,hb,hx,List.length_map,Nat.zero_add,Ins.cells,o2,o3,o4,o5,Bool.false_eq_true,ok2]
   rfl
 rw [if_neg o5]
 have ok2 := listObjs_all q at_ ⟨st1.added,st1.ths ++ [⟨pc,regs⟩]⟩ 3 (Nat.le_refl _)
 unfold listObjs lO1 lO2 lO3
 refine fn_ok func70 rfl ntmps70 results70 rfl 3 2147486815 (by simp) (by simp) ?_
 simp only [zX,simprocAttr,i64,bV,iD,bD,prgV_eq,h0,h1,hpl,hb,hx,List.length_map,Nat.zero_add,Ins.cells,o2,o3,o4,o5]
 have hth : List.take st.ths.length (st.ths.map fun x=>x.cells.map V.d) ++ [[V.d (.sc (.int .i64 pc)),V.d (intsD regs)]]=(st1.ths ++ [(⟨pc,regs⟩ : RTh)]).map fun x=>x.cells.map V.d := by
  rw [List.take_of_length_le (by simp),e1]; simp [RTh.cells,iD]
 have hle : st.ths.length + 1=(st1.ths ++ [(⟨pc,regs⟩ : RTh)]).length := by rw [e1]; simp
 have hle2 : st.added.length=st1.added.length := by rw [e1]; simp
 have hset1 : (st.added.map fun b=>[V.d (.sc (.bool b))]).set pc.toNat [V.d (.sc (.bool true))]=st1.added.map fun b=>[V.d (.sc (.bool b))] := by rw [hset,e1]
 refine ⟨fun e he=>by rw [List.mem_singleton.1 he]; rfl,⟨by simp,by omega⟩,?_⟩
 rw [hth,hset1,hle,hle2]
 refine ⟨?_,by rw [e1]⟩
 rw [Bool.and_eq_true]
 have k1 := lO2_ok 3 q ⟨st1.added,[]⟩
 have k2 := lO3_ok 3 ⟨[],st1.ths ++ [(⟨pc,regs⟩ : RTh)]⟩
 unfold objOk lO2 lO3 at *
 exact ⟨k1,k2⟩
theorem rAdd_ok (q : Nat) (g : Prg) (hg : g.good) (t : List Int) (ht : t.length≤65536) (at_ : Int) (ha0 : 0≤at_) (ha1 : at_≤t.length) : ∀ k,RAddOK q g t at_ k
 | 0=>rAdd_step q g hg t ht at_ ha0 ha1 0 (fun j h=>by omega)
 | k + 1=>by
  refine rAdd_step q g hg t ht at_ ha0 ha1 (k + 1) (fun j h=>?_)
  have : j=k := by omega
  subst this
  exact rAdd_ok q g hg t ht at_ ha0 ha1 j
end Go.Proofs.Ytdofoappodmcoaa
