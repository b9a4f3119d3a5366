/- A part of the proof (F112). -/
import Derived.Test.YtffeafbdcakfbaaAQ4
import Derived.Test.YtffeafbdcakfbaaAQ20
set_option linter.unusedSimpArgs false
set_option linter.unusedVariables false
set_option maxRecDepth 100000
set_option maxHeartbeats 80000000
set_option linter.unusedSimpArgs false
set_option linter.unusedVariables false
namespace Go.Proofs.Ytffeafbdcakfbaa
open Go.VL Go.Proofs.Try
def CloneCh (re:Re) (p:List Int) (hs:List VL.Obj):Prop :=
 callWp prog 38 [reV re] hs fun v s=>v=.ag (chC 0 ((re.atR p).1.cells.map V.d) re p)∧s=chO ((re.atR p).1.cells.map V.d) 0 re p
theorem clone_ch0 (re:Re) (hf:re.fine=true):CloneCh re [] []:=by
 have:=clone_ok re hf
 unfold CloneCh
 rw[atR_nil,chO_nil]
 exact this
def chE (re:Re) (h:Int) (e:List V):List (List V):=(re.kids.map fun x=>x.cells.map V.d).set h.toNat e
theorem chE_len (re:Re) (h:Int) (e:List V):(chE re h e).length=re.kids.length:=by simp [chE]
theorem chE_other {re k:Re} {h:Int} {e:List V} {i:Nat} (hi:i≠h.toNat) (hk:re.kids[i]?=some k):(chE re h e)[i]?=some (k.cells.map V.d):=by
 unfold chE
 rw[List.getElem?_set_ne (Ne.symm hi),List.getElem?_map,hk]; rfl
theorem chE_self {re k:Re} {h:Int} {e:List V} (hk:re.kids[h.toNat]?=some k):(chE re h e)[h.toNat]?=some e:=by
 unfold chE
 exact List.getElem?_set_self (by rw[List.length_map]; exact(List.getElem?_eq_some_iff.1 hk).1)
theorem chE_all {re k0:Re} {h:Int} {e:List V} (hk0:re.kids[h.toNat]?=some k0) {Q:List V→Prop} (he:Q e) (hd:∀k:Re,Q (k.cells.map V.d)):∀x∈chE re h e,Q x:=by
 intro x hx
 rcases List.mem_or_eq_of_mem_set hx with hx | rfl
 ·obtain⟨k,_,rfl⟩:=List.mem_map.1 hx
  exact hd k
 ·exact he
theorem obj_app {lim g sz i:Nat} {E:List (List V)} {c:List V} (hE:∀e∈E,e.all (refsV lim)=true) (hc:c.all (refsV lim)=true):objOk lim ⟨g,true,sz,(E.take i).take i++[c]⟩=true:=by
 unfold objOk
 rw[List.all_append,Bool.and_eq_true]
 refine⟨List.all_eq_true.2 fun e he=>hE e (List.mem_of_mem_take (List.mem_of_mem_take he)),?_⟩
 simp [hc]
theorem clone_ch1 (re:Re) (hf:re.fine=true) (p:List Int) (hp:p.length=1) (ho:okP re p):CloneCh re p [hole8]:=by
 obtain⟨h,q,rfl⟩:∃h q,p=h::q:=by
  cases p with
  | nil=>simp at hp
  | cons h q=>exact⟨h,q,rfl⟩
 obtain⟨h0,k0,hk0,ho⟩:=okP_cons.1 ho
 simp only[List.length_cons,Nat.succ.injEq] at hp
 obtain⟨hset1,hlen,hfk⟩:=Re.fine_spec hf
 have hm0:=List.mem_of_getElem? hk0
 have hh0:=(List.getElem?_eq_some_iff.1 hk0).1
 obtain rfl:q=[]:=List.eq_nil_of_length_eq_zero (by omega)
 have ih:=clone_ch0 k0 (hfk k0 hm0)
 unfold CloneCh at ih ⊢
 rw[atR_cons h0 hk0,chO_cons hk0]
 have hol:=chO_len ((k0.atR []).1.cells.map V.d) [] 0 k0 ho
 have hor:=chO_ren (ρ:=[]) (k0.atR []).1.cells [] 0 1 k0 (fun j h1 h2=>by
  first
  |(exfalso; omega)
  |(exfalso; simp at h2; done)
  |(have:False:=by omega
    rcases this with h <;> rfl))
 have hcr:=chC_ren (ρ:=[]) (b:=0) (b':=1) (k0.atR []).1.cells k0 [] (fun hne=>by first | rfl | exact(hne rfl).elim)
 have hcf:=chC_refs 1 0 (k0.atR []).1.cells k0 [] (fun _=>by omega)
 have hoo:=chO_obj 1 (k0.atR []).1.cells [] 1 k0 (by first | omega | simp)
 have hoo1:=chO_obj 3 (k0.atR []).1.cells [] 1 k0 (by first | omega | simp)
 have hcf1:=chC_refs 1 1 (k0.atR []).1.cells k0 [] (fun hne=>by first | omega | exact(hne rfl).elim)
 have hcf2:=chC_refs 3 1 (k0.atR []).1.cells k0 [] (fun _=>by omega)
 have hcf4:=chC_refs 5 1 (k0.atR []).1.cells k0 [] (fun _=>by omega)
 have hc8:(chC 1 ((k0.atR []).1.cells.map V.d) k0 []).length=8:=by
  rcases hq:[] with _ | ⟨a,b⟩
  ·simp [chC,Re.cells_len]
  ·rfl
 rw[Nat.zero_add]
 generalize hC:(k0.atR []).1.cells.map V.d=C at *
 obtain⟨E,hE⟩:∃E,E=chE re h (chC 1 C k0 []):=⟨_,rfl⟩
 rw[show (re.kids.map fun x=>x.cells.map V.d).set h.toNat (chC 1 C k0 [])=E from hE.symm]
 have hEl:E.length=re.kids.length:=by rw[hE]; exact chE_len ..
 have hEk:∀(i:Nat) (k:Re),i≠h.toNat→re.kids[i]?=some k→E[i]?=some (k.cells.map V.d):=fun i k hi hk=>by rw[hE]; exact chE_other hi hk
 have hEh:E[h.toNat]?=some (chC 1 C k0 []):=by rw[hE]; exact chE_self hk0
 have hE8:∀e∈E,e.length=8:=by rw[hE]; exact chE_all (Q:=fun e=>e.length=8) hk0 hc8 fun k=>by simp [Re.cells_len]
 have hEr:∀e∈E,e.all (refsV 1)=true:=by rw[hE]; exact chE_all (Q:=fun e=>e.all (refsV 1)=true) hk0 hcf1 fun k=>refs_data _ _
 have hEr2:∀e∈E,e.all (refsV 3)=true:=by rw[hE]; exact chE_all (Q:=fun e=>e.all (refsV 3)=true) hk0 hcf2 fun k=>refs_data _ _
 generalize hC1:chC 1 C k0 []=C1 at *
 generalize hC0:chC 0 C k0 []=C0 at *
 clear hE
 generalize chO C 0 k0 []=O0 at *
 generalize hO1:chO C 1 k0 []=O1 at *
 obtain rfl:O1=[]:=by rw[← hO1,chO_nil]
 refine fn_ok func38 rfl ntmps38 results38 rfl 1 57391 (by simp) (by simp) ?_
 simp only[zW,Nat.reduceShiftRight,Nat.reduceMod,Nat.reduceLT,Nat.reduceMul,Nat.reduceSub,Int.reduceToNat,Int.reduceNeg,Int.reduceLT,Int.reduceLE,Int.reduceEq,Nat.reduceEqDiff,Nat.reduceAdd,Nat.reduceLeDiff,reduceIte,reduceCtorEq,Nat.reduceBEq,i64,reV_eq re,iD,bD]
 refine call_pure (cloneSpans_ok re.set hset1) (by simp [refsV,refsV.go,reV_eq,i64,bV,reEl]) (by simp [refsV,refsV.go,reV_eq,i64,bV,reEl]) ?_
 simp only[zW,Nat.reduceShiftRight,Nat.reduceMod,Nat.reduceLT,Nat.reduceMul,Nat.reduceSub,Int.reduceToNat,Int.reduceNeg,Int.reduceLT,Int.reduceLE,Int.reduceEq,Nat.reduceEqDiff,Nat.reduceAdd,Nat.reduceLeDiff,reduceIte,reduceCtorEq,Nat.reduceBEq,i64,iD,bD]
 refine loop_rule (fun n e s=>∃i:Nat,n=re.kids.length - i∧i≤re.kids.length∧e 1=.rf 1 0 0 0∧e 2=.rf 2 0 0 0∧e 13=.d (.sl (re.kids.map Re.cells))∧e 14=i64 re.kids.length∧e 15=i64 i ∧
   s=[⟨1 + i,true,8,E.take i⟩,cloneO re (.so 0 (1 + i) 0 i),zeroO])
  ⟨_,_,_,.of0 (Cln0.takeCell (o:=hole8) (pre:=[i64 re.op,.d (.sl (re.set.map spanC))]) (post:=[i64 re.mn,i64 re.mx,i64 re.mode,i64 re.n,bV re.neg]) 0 1 8 (by decide) rfl rfl rfl rfl rfl),0,rfl,by omega,rfl,rfl,rfl,rfl,rfl,rfl⟩ ?_
 rintro n e s ⟨i,rfl,hi,h1,h2,h13,h14,h15,rfl⟩
 rcases Nat.lt_or_ge i re.kids.length with hlt | hge
 ·obtain⟨k,hk⟩:∃k,re.kids[i]?=some k:=⟨_,List.getElem?_eq_getElem hlt⟩
  have hm:=List.mem_of_getElem? hk
  have hks:=hfk k hm
  have hti:(E.take i).length=i:=by rw[List.length_take]; omega
  have htt:(E.take i).take i=E.take i:=by rw[List.take_take,Nat.min_self]
  have hEi:E[i]?=some (k.cells.map V.d):=by
   by_cases hih:i=h.toNat
   ·subst hih
    rw[hEh,← hC1,← hC]
    rw[hk0] at hk; cases hk
    rw[atR_nil]; rfl
   ·exact hEk i k hih hk
  simp only[zW,Nat.reduceShiftRight,Nat.reduceMod,Nat.reduceLT,Nat.reduceMul,Nat.reduceSub,Int.reduceToNat,Int.reduceNeg,Int.reduceLT,Int.reduceLE,Int.reduceEq,Nat.reduceEqDiff,Nat.reduceAdd,Nat.reduceLeDiff,reduceIte,reduceCtorEq,Nat.reduceBEq,h1,h2,h13,h14,h15,i64,bV,hlt,hk,cloneO,zeroO]
  refine draw_c mix [5,7] [] (by rfl) ?_
  simp only[zW,Nat.reduceShiftRight,Nat.reduceMod,Nat.reduceLT,Nat.reduceMul,Nat.reduceSub,Int.reduceToNat,Int.reduceNeg,Int.reduceLT,Int.reduceLE,Int.reduceEq,Nat.reduceEqDiff,Nat.reduceAdd,Nat.reduceLeDiff,reduceIte,reduceCtorEq,Nat.reduceBEq,h1,h2,h13,h14,h15,i64,bV]
  refine callC_pure (clone_ok k hks) (by simp [refsV,refsV.go,reV_eq,i64,bV,reEl]) (by simp [refsV,refsV.go,reV_eq,i64,bV,reEl]) ?_
  simp only[zW,Nat.reduceShiftRight,Nat.reduceMod,Nat.reduceLT,Nat.reduceMul,Nat.reduceSub,Int.reduceToNat,Int.reduceNeg,Int.reduceLT,Int.reduceLE,Int.reduceEq,Nat.reduceEqDiff,Nat.reduceAdd,Nat.reduceLeDiff,reduceIte,reduceCtorEq,Nat.reduceBEq,h1,h2,h13,h14,h15,i64,bV]
  refine⟨fun x hx=>by rw[List.mem_singleton.1 hx]; simp [Re.cells_len],⟨by omega,by omega⟩,re.kids.length - (i + 1),_,_,by omega,Cln.cut 3 (by omega) rfl ?_ [1,2,13,14,15] ?_,i + 1,rfl,by omega,?_,?_,?_,?_,?_,?_⟩ <;> (try simp only[zU,Nat.reduceBEq,Nat.reduceShiftRight,Nat.reduceMod,Nat.reduceEqDiff,reduceIte])
  ·simp only[List.take_succ_cons,List.take_zero,List.all_cons,List.all_nil,Bool.and_true,Bool.and_eq_true]
   exact⟨obj_app hEr2 (refs_data _ _),by simp [objOk,refsV],by simp [objOk,refsV]⟩
  ·simp [updE,trimE_app,refsV,h1,h2,h13,h14,i64]
  ·exact h1
  ·exact h2
  ·exact h13
  ·exact h14
  ·rw[w64 _ (by omega)]; rfl
  ·rw[htt,← take_get hEi]
   rfl
 ·have hie:i=re.kids.length:=by omega
  subst hie
  have hEt:E.take re.kids.length=E:=List.take_of_length_le (by omega)
  rw[hEt]
  simp only[zW,Nat.reduceShiftRight,Nat.reduceMod,Nat.reduceLT,Nat.reduceMul,Nat.reduceSub,Int.reduceToNat,Int.reduceNeg,Int.reduceLT,Int.reduceLE,Int.reduceEq,Nat.reduceEqDiff,Nat.reduceAdd,Nat.reduceLeDiff,reduceIte,reduceCtorEq,Nat.reduceBEq,h1,h2,h13,h14,h15,i64,bV,Nat.lt_irrefl,cloneO,zeroO]
  refine⟨by first | exact List.all_eq_true.2 hEr | (simp only[Bool.and_eq_true]; exact List.all_eq_true.2 hEr),?_⟩
  simp only[and_false,if_false]
  rw[Nat.add_comm 1]
  exact⟨rfl,rfl⟩
theorem clone_ch2 (re:Re) (hf:re.fine=true) (p:List Int) (hp:p.length=2) (ho:okP re p):CloneCh re p [hole8,hole8]:=by
 obtain⟨h,q,rfl⟩:∃h q,p=h::q:=by
  cases p with
  | nil=>simp at hp
  | cons h q=>exact⟨h,q,rfl⟩
 obtain⟨h0,k0,hk0,ho⟩:=okP_cons.1 ho
 simp only[List.length_cons,Nat.succ.injEq] at hp
 obtain⟨hset1,hlen,hfk⟩:=Re.fine_spec hf
 have hm0:=List.mem_of_getElem? hk0
 have hh0:=(List.getElem?_eq_some_iff.1 hk0).1
 have ih:=clone_ch1 k0 (hfk k0 hm0) q (by omega) ho
 unfold CloneCh at ih ⊢
 rw[atR_cons h0 hk0,chO_cons hk0]
 have hol:=chO_len ((k0.atR q).1.cells.map V.d) q 0 k0 ho
 have hor:=chO_ren (ρ:=[1]) (k0.atR q).1.cells q 0 1 k0 (fun j h1 h2=>by
  first
  |(exfalso; omega)
  |(exfalso; simp at h2; done)
  |(have:False:=by omega
    rcases this with h <;> rfl))
 have hcr:=chC_ren (ρ:=[1]) (b:=0) (b':=1) (k0.atR q).1.cells k0 q (fun hne=>by first | rfl | exact(hne rfl).elim)
 have hcf:=chC_refs 2 0 (k0.atR q).1.cells k0 q (fun _=>by omega)
 have hoo:=chO_obj 2 (k0.atR q).1.cells q 1 k0 (by first | omega | simp)
 have hoo1:=chO_obj 4 (k0.atR q).1.cells q 1 k0 (by first | omega | simp)
 have hcf1:=chC_refs 2 1 (k0.atR q).1.cells k0 q (fun hne=>by first | omega | exact(hne rfl).elim)
 have hcf2:=chC_refs 4 1 (k0.atR q).1.cells k0 q (fun _=>by omega)
 have hcf4:=chC_refs 6 1 (k0.atR q).1.cells k0 q (fun _=>by omega)
 have hc8:(chC 1 ((k0.atR q).1.cells.map V.d) k0 q).length=8:=by
  rcases hq:q with _ | ⟨a,b⟩
  ·simp [chC,Re.cells_len]
  ·rfl
 rw[Nat.zero_add]
 generalize hC:(k0.atR q).1.cells.map V.d=C at *
 obtain⟨E,hE⟩:∃E,E=chE re h (chC 1 C k0 q):=⟨_,rfl⟩
 rw[show (re.kids.map fun x=>x.cells.map V.d).set h.toNat (chC 1 C k0 q)=E from hE.symm]
 have hEl:E.length=re.kids.length:=by rw[hE]; exact chE_len ..
 have hEk:∀(i:Nat) (k:Re),i≠h.toNat→re.kids[i]?=some k→E[i]?=some (k.cells.map V.d):=fun i k hi hk=>by rw[hE]; exact chE_other hi hk
 have hEh:E[h.toNat]?=some (chC 1 C k0 q):=by rw[hE]; exact chE_self hk0
 have hE8:∀e∈E,e.length=8:=by rw[hE]; exact chE_all (Q:=fun e=>e.length=8) hk0 hc8 fun k=>by simp [Re.cells_len]
 have hEr:∀e∈E,e.all (refsV 2)=true:=by rw[hE]; exact chE_all (Q:=fun e=>e.all (refsV 2)=true) hk0 hcf1 fun k=>refs_data _ _
 have hEr2:∀e∈E,e.all (refsV 4)=true:=by rw[hE]; exact chE_all (Q:=fun e=>e.all (refsV 4)=true) hk0 hcf2 fun k=>refs_data _ _
 have hnd:(chC 1 C k0 q).mapM toD=none:=by
  rcases hq:q with _ | ⟨a,b⟩
  ·rw[hq] at hp; simp at hp
  ·rfl
 generalize hC1:chC 1 C k0 q=C1 at *
 generalize hC0:chC 0 C k0 q=C0 at *
 clear hE
 generalize chO C 0 k0 q=O0 at *
 generalize hO1:chO C 1 k0 q=O1 at *
 have hl1:O1.length=1:=by rw[← hor,List.length_map]; omega
 obtain⟨r1,rfl⟩:∃r1:VL.Obj,O1=[r1]:=by
  match O1,hl1 with
  | [r1],_=>exact⟨_,rfl⟩
 simp only[List.all_cons,List.all_nil,Bool.and_true,Bool.and_eq_true] at hoo hoo1
 have hoo_1:=hoo
 have hoo1_1:=hoo1
 refine fn_ok func38 rfl ntmps38 results38 rfl 2 57391 (by simp) (by simp) ?_
 simp only[zW,Nat.reduceShiftRight,Nat.reduceMod,Nat.reduceLT,Nat.reduceMul,Nat.reduceSub,Int.reduceToNat,Int.reduceNeg,Int.reduceLT,Int.reduceLE,Int.reduceEq,Nat.reduceEqDiff,Nat.reduceAdd,Nat.reduceLeDiff,reduceIte,reduceCtorEq,Nat.reduceBEq,i64,reV_eq re,iD,bD]
 refine call_pure (cloneSpans_ok re.set hset1) (by simp [refsV,refsV.go,reV_eq,i64,bV,reEl]) (by simp [refsV,refsV.go,reV_eq,i64,bV,reEl]) ?_
 simp only[zW,Nat.reduceShiftRight,Nat.reduceMod,Nat.reduceLT,Nat.reduceMul,Nat.reduceSub,Int.reduceToNat,Int.reduceNeg,Int.reduceLT,Int.reduceLE,Int.reduceEq,Nat.reduceEqDiff,Nat.reduceAdd,Nat.reduceLeDiff,reduceIte,reduceCtorEq,Nat.reduceBEq,i64,iD,bD]
 refine loop_rule (fun n e s=>∃i:Nat,n=re.kids.length - i∧i≤re.kids.length∧e 1=.rf 2 0 0 0∧e 2=.rf 3 0 0 0∧e 13=.d (.sl (re.kids.map Re.cells))∧e 14=i64 re.kids.length∧e 15=i64 i ∧
   ∃x1:VL.Obj,((i≤h.toNat∧x1=hole8)∨(h.toNat < i∧x1=r1))∧s=[⟨1 + i,true,8,E.take i⟩,x1,cloneO re (.so 0 (1 + i) 0 i),zeroO])
  ⟨_,_,_,.of0 (Cln0.takeCell (o:=hole8) (pre:=[i64 re.op,.d (.sl (re.set.map spanC))]) (post:=[i64 re.mn,i64 re.mx,i64 re.mode,i64 re.n,bV re.neg]) 0 2 8 (by decide) rfl rfl rfl rfl rfl),0,rfl,by omega,rfl,rfl,rfl,rfl,rfl,_,.inl ⟨Nat.zero_le _,rfl⟩,rfl⟩ ?_
 rintro n e s ⟨i,rfl,hi,h1,h2,h13,h14,h15,x1,hph,rfl⟩
 rcases Nat.lt_or_ge i re.kids.length with hlt | hge
 ·obtain⟨k,hk⟩:∃k,re.kids[i]?=some k:=⟨_,List.getElem?_eq_getElem hlt⟩
  have hm:=List.mem_of_getElem? hk
  have hks:=hfk k hm
  have hti:(E.take i).length=i:=by rw[List.length_take]; omega
  have htt:(E.take i).take i=E.take i:=by rw[List.take_take,Nat.min_self]
  by_cases hih:i=h.toNat
  ·subst hih
   rw[hk0] at hk; cases hk
   obtain⟨-,rfl⟩:h.toNat≤h.toNat∧x1=hole8:=by
    rcases hph with h | h
    ·exact h
    ·exact absurd h.1 (Nat.lt_irrefl _)
   simp only[zW,Nat.reduceShiftRight,Nat.reduceMod,Nat.reduceLT,Nat.reduceMul,Nat.reduceSub,Int.reduceToNat,Int.reduceNeg,Int.reduceLT,Int.reduceLE,Int.reduceEq,Nat.reduceEqDiff,Nat.reduceAdd,Nat.reduceLeDiff,reduceIte,reduceCtorEq,Nat.reduceBEq,h1,h2,h13,h14,h15,i64,bV,hlt,hk0,cloneO,zeroO,hole8]
   refine draw_first Cln0.reserve ?_
   refine draw_c mix [5,7] [(3,[1],[1]),(4,[5],[5])] (by rfl) ?_
   simp only[zW,Nat.reduceShiftRight,Nat.reduceMod,Nat.reduceLT,Nat.reduceMul,Nat.reduceSub,Int.reduceToNat,Int.reduceNeg,Int.reduceLT,Int.reduceLE,Int.reduceEq,Nat.reduceEqDiff,Nat.reduceAdd,Nat.reduceLeDiff,reduceIte,reduceCtorEq,Nat.reduceBEq,h1,h2,h13,h14,h15,i64,bV]
   refine callF_map [1] ih (by decide) (by rw[hol]; simp; omega) rfl (by simp [renV_reV]) (by simp [refsV.go,refsV_reV]) rfl (show renV [1] (.ag C0)=.ag C1 by simp only[renV,hcr]) ?_
   rw[hor]
   simp only[putObjs,List.set_cons_succ,List.set_cons_zero]
   simp only[zW,Nat.reduceShiftRight,Nat.reduceMod,Nat.reduceLT,Nat.reduceMul,Nat.reduceSub,Int.reduceToNat,Int.reduceNeg,Int.reduceLT,Int.reduceLE,Int.reduceEq,Nat.reduceEqDiff,Nat.reduceAdd,Nat.reduceLeDiff,reduceIte,reduceCtorEq,Nat.reduceBEq,h1,h2,h13,h14,h15,i64,bV,bsAt.eq_1]
   simp only[hc8,if_true,List.mapM_cons,hnd,Option.bind_eq_bind,Option.bind_none,List.length_cons,List.length_nil,Nat.zero_add,Nat.le_refl,List.take_succ_cons,List.take_zero,true_and]
   refine⟨fun e he x hx=>by rw[List.mem_singleton.1 he] at hx; exact List.all_eq_true.1 hcf4 x hx,?_⟩
   refine⟨fun x hx=>by rw[List.mem_singleton.1 hx]; exact hc8,⟨by omega,by omega⟩,re.kids.length - (h.toNat + 1),_,_,by omega,Cln.cut 4 (by omega) rfl ?_ [1,2,13,14,15] ?_,h.toNat + 1,rfl,by omega,?_,?_,?_,?_,?_,_,.inr ⟨by omega,rfl⟩,?_⟩ <;> (try simp only[zU,Nat.reduceBEq,Nat.reduceShiftRight,Nat.reduceMod,Nat.reduceEqDiff,reduceIte])
   ·simp only[List.take_succ_cons,List.take_zero,List.all_cons,List.all_nil,Bool.and_true,Bool.and_eq_true]
    exact⟨obj_app hEr2 hcf2,hoo1_1,by simp [objOk,refsV],by simp [objOk,refsV]⟩
   ·simp [updE,trimE_app,refsV,h1,h2,h13,h14,i64]
   ·exact h1
   ·exact h2
   ·exact h13
   ·exact h14
   ·rw[w64 _ (by omega)]; rfl
   ·rw[htt,← take_get hEh]
    rfl
  ·have hdj:(i + 1≤h.toNat∧x1=hole8)∨(h.toNat < i + 1∧x1=r1):=by
    rcases hph with ⟨ha,hb⟩ | ⟨ha,hb⟩
    ·exact .inl ⟨by omega,hb⟩
    ·exact .inr ⟨by omega,hb⟩
   simp only[zW,Nat.reduceShiftRight,Nat.reduceMod,Nat.reduceLT,Nat.reduceMul,Nat.reduceSub,Int.reduceToNat,Int.reduceNeg,Int.reduceLT,Int.reduceLE,Int.reduceEq,Nat.reduceEqDiff,Nat.reduceAdd,Nat.reduceLeDiff,reduceIte,reduceCtorEq,Nat.reduceBEq,h1,h2,h13,h14,h15,i64,bV,hlt,hk,cloneO,zeroO]
   refine draw_c mix [5,7] [] (by rfl) ?_
   simp only[zW,Nat.reduceShiftRight,Nat.reduceMod,Nat.reduceLT,Nat.reduceMul,Nat.reduceSub,Int.reduceToNat,Int.reduceNeg,Int.reduceLT,Int.reduceLE,Int.reduceEq,Nat.reduceEqDiff,Nat.reduceAdd,Nat.reduceLeDiff,reduceIte,reduceCtorEq,Nat.reduceBEq,h1,h2,h13,h14,h15,i64,bV]
   refine callC_pure (clone_ok k hks) (by simp [refsV,refsV.go,reV_eq,i64,bV,reEl]) (by simp [refsV,refsV.go,reV_eq,i64,bV,reEl]) ?_
   simp only[zW,Nat.reduceShiftRight,Nat.reduceMod,Nat.reduceLT,Nat.reduceMul,Nat.reduceSub,Int.reduceToNat,Int.reduceNeg,Int.reduceLT,Int.reduceLE,Int.reduceEq,Nat.reduceEqDiff,Nat.reduceAdd,Nat.reduceLeDiff,reduceIte,reduceCtorEq,Nat.reduceBEq,h1,h2,h13,h14,h15,i64,bV]
   refine⟨fun x hx=>by rw[List.mem_singleton.1 hx]; simp [Re.cells_len],⟨by omega,by omega⟩,re.kids.length - (i + 1),_,_,by omega,Cln.cut 4 (by omega) rfl ?_ [1,2,13,14,15] ?_,i + 1,rfl,by omega,?_,?_,?_,?_,?_,x1,hdj,?_⟩ <;> (try simp only[zU,Nat.reduceBEq,Nat.reduceShiftRight,Nat.reduceMod,Nat.reduceEqDiff,reduceIte])
   ·simp only[List.take_succ_cons,List.take_zero,List.all_cons,List.all_nil,Bool.and_true,Bool.and_eq_true]
    exact⟨obj_app hEr2 (refs_data _ _),by rcases hph with ⟨_,rfl⟩ | ⟨_,rfl⟩ <;> first | rfl | assumption,by simp [objOk,refsV],by simp [objOk,refsV]⟩
   ·simp [updE,trimE_app,refsV,h1,h2,h13,h14,i64]
   ·exact h1
   ·exact h2
   ·exact h13
   ·exact h14
   ·rw[w64 _ (by omega)]; rfl
   ·rw[htt,← take_get (hEk i k hih hk)]
    rfl
 ·have hie:i=re.kids.length:=by omega
  subst hie
  have hEt:E.take re.kids.length=E:=List.take_of_length_le (by omega)
  rw[hEt]
  obtain⟨-,rfl⟩:h.toNat < re.kids.length∧x1=r1:=by
   rcases hph with h | h
   ·exact absurd hh0 (by omega)
   ·exact h
  simp only[zW,Nat.reduceShiftRight,Nat.reduceMod,Nat.reduceLT,Nat.reduceMul,Nat.reduceSub,Int.reduceToNat,Int.reduceNeg,Int.reduceLT,Int.reduceLE,Int.reduceEq,Nat.reduceEqDiff,Nat.reduceAdd,Nat.reduceLeDiff,reduceIte,reduceCtorEq,Nat.reduceBEq,h1,h2,h13,h14,h15,i64,bV,Nat.lt_irrefl,cloneO,zeroO]
  refine⟨by first | exact⟨List.all_eq_true.2 hEr,hoo_1⟩ | (simp only[Bool.and_eq_true]; exact⟨List.all_eq_true.2 hEr,hoo_1⟩),?_⟩
  simp only[and_false,if_false]
  rw[Nat.add_comm 1]
  exact⟨rfl,rfl⟩
theorem clone_ch3 (re:Re) (hf:re.fine=true) (p:List Int) (hp:p.length=3) (ho:okP re p):CloneCh re p [hole8,hole8,hole8]:=by
 obtain⟨h,q,rfl⟩:∃h q,p=h::q:=by
  cases p with
  | nil=>simp at hp
  | cons h q=>exact⟨h,q,rfl⟩
 obtain⟨h0,k0,hk0,ho⟩:=okP_cons.1 ho
 simp only[List.length_cons,Nat.succ.injEq] at hp
 obtain⟨hset1,hlen,hfk⟩:=Re.fine_spec hf
 have hm0:=List.mem_of_getElem? hk0
 have hh0:=(List.getElem?_eq_some_iff.1 hk0).1
 have ih:=clone_ch2 k0 (hfk k0 hm0) q (by omega) ho
 unfold CloneCh at ih ⊢
 rw[atR_cons h0 hk0,chO_cons hk0]
 have hol:=chO_len ((k0.atR q).1.cells.map V.d) q 0 k0 ho
 have hor:=chO_ren (ρ:=[1,2]) (k0.atR q).1.cells q 0 1 k0 (fun j h1 h2=>by
  first
  |(exfalso; omega)
  |(exfalso; simp at h2; done)
  |(have:j=1:=by omega
    rcases this with rfl <;> rfl))
 have hcr:=chC_ren (ρ:=[1,2]) (b:=0) (b':=1) (k0.atR q).1.cells k0 q (fun hne=>by first | rfl | exact(hne rfl).elim)
 have hcf:=chC_refs 3 0 (k0.atR q).1.cells k0 q (fun _=>by omega)
 have hoo:=chO_obj 3 (k0.atR q).1.cells q 1 k0 (by first | omega | simp)
 have hoo1:=chO_obj 5 (k0.atR q).1.cells q 1 k0 (by first | omega | simp)
 have hcf1:=chC_refs 3 1 (k0.atR q).1.cells k0 q (fun hne=>by first | omega | exact(hne rfl).elim)
 have hcf2:=chC_refs 5 1 (k0.atR q).1.cells k0 q (fun _=>by omega)
 have hcf4:=chC_refs 7 1 (k0.atR q).1.cells k0 q (fun _=>by omega)
 have hc8:(chC 1 ((k0.atR q).1.cells.map V.d) k0 q).length=8:=by
  rcases hq:q with _ | ⟨a,b⟩
  ·simp [chC,Re.cells_len]
  ·rfl
 rw[Nat.zero_add]
 generalize hC:(k0.atR q).1.cells.map V.d=C at *
 obtain⟨E,hE⟩:∃E,E=chE re h (chC 1 C k0 q):=⟨_,rfl⟩
 rw[show (re.kids.map fun x=>x.cells.map V.d).set h.toNat (chC 1 C k0 q)=E from hE.symm]
 have hEl:E.length=re.kids.length:=by rw[hE]; exact chE_len ..
 have hEk:∀(i:Nat) (k:Re),i≠h.toNat→re.kids[i]?=some k→E[i]?=some (k.cells.map V.d):=fun i k hi hk=>by rw[hE]; exact chE_other hi hk
 have hEh:E[h.toNat]?=some (chC 1 C k0 q):=by rw[hE]; exact chE_self hk0
 have hE8:∀e∈E,e.length=8:=by rw[hE]; exact chE_all (Q:=fun e=>e.length=8) hk0 hc8 fun k=>by simp [Re.cells_len]
 have hEr:∀e∈E,e.all (refsV 3)=true:=by rw[hE]; exact chE_all (Q:=fun e=>e.all (refsV 3)=true) hk0 hcf1 fun k=>refs_data _ _
 have hEr2:∀e∈E,e.all (refsV 5)=true:=by rw[hE]; exact chE_all (Q:=fun e=>e.all (refsV 5)=true) hk0 hcf2 fun k=>refs_data _ _
 have hnd:(chC 1 C k0 q).mapM toD=none:=by
  rcases hq:q with _ | ⟨a,b⟩
  ·rw[hq] at hp; simp at hp
  ·rfl
 generalize hC1:chC 1 C k0 q=C1 at *
 generalize hC0:chC 0 C k0 q=C0 at *
 clear hE
 generalize chO C 0 k0 q=O0 at *
 generalize hO1:chO C 1 k0 q=O1 at *
 have hl1:O1.length=2:=by rw[← hor,List.length_map]; omega
 obtain⟨r1,r2,rfl⟩:∃r1 r2:VL.Obj,O1=[r1,r2]:=by
  match O1,hl1 with
  | [r1,r2],_=>exact⟨_,_,rfl⟩
 simp only[List.all_cons,List.all_nil,Bool.and_true,Bool.and_eq_true] at hoo hoo1
 obtain⟨hoo_1,hoo_2⟩:=hoo
 obtain⟨hoo1_1,hoo1_2⟩:=hoo1
 refine fn_ok func38 rfl ntmps38 results38 rfl 3 57391 (by simp) (by simp) ?_
 simp only[zW,Nat.reduceShiftRight,Nat.reduceMod,Nat.reduceLT,Nat.reduceMul,Nat.reduceSub,Int.reduceToNat,Int.reduceNeg,Int.reduceLT,Int.reduceLE,Int.reduceEq,Nat.reduceEqDiff,Nat.reduceAdd,Nat.reduceLeDiff,reduceIte,reduceCtorEq,Nat.reduceBEq,i64,reV_eq re,iD,bD]
 refine call_pure (cloneSpans_ok re.set hset1) (by simp [refsV,refsV.go,reV_eq,i64,bV,reEl]) (by simp [refsV,refsV.go,reV_eq,i64,bV,reEl]) ?_
 simp only[zW,Nat.reduceShiftRight,Nat.reduceMod,Nat.reduceLT,Nat.reduceMul,Nat.reduceSub,Int.reduceToNat,Int.reduceNeg,Int.reduceLT,Int.reduceLE,Int.reduceEq,Nat.reduceEqDiff,Nat.reduceAdd,Nat.reduceLeDiff,reduceIte,reduceCtorEq,Nat.reduceBEq,i64,iD,bD]
 refine loop_rule (fun n e s=>∃i:Nat,n=re.kids.length - i∧i≤re.kids.length∧e 1=.rf 3 0 0 0∧e 2=.rf 4 0 0 0∧e 13=.d (.sl (re.kids.map Re.cells))∧e 14=i64 re.kids.length∧e 15=i64 i ∧
   ∃x1 x2:VL.Obj,((i≤h.toNat∧x1=hole8∧x2=hole8)∨(h.toNat < i∧x1=r1∧x2=r2))∧s=[⟨1 + i,true,8,E.take i⟩,x1,x2,cloneO re (.so 0 (1 + i) 0 i),zeroO])
  ⟨_,_,_,.of0 (Cln0.takeCell (o:=hole8) (pre:=[i64 re.op,.d (.sl (re.set.map spanC))]) (post:=[i64 re.mn,i64 re.mx,i64 re.mode,i64 re.n,bV re.neg]) 0 3 8 (by decide) rfl rfl rfl rfl rfl),0,rfl,by omega,rfl,rfl,rfl,rfl,rfl,_,_,.inl ⟨Nat.zero_le _,rfl,rfl⟩,rfl⟩ ?_
 rintro n e s ⟨i,rfl,hi,h1,h2,h13,h14,h15,x1,x2,hph,rfl⟩
 rcases Nat.lt_or_ge i re.kids.length with hlt | hge
 ·obtain⟨k,hk⟩:∃k,re.kids[i]?=some k:=⟨_,List.getElem?_eq_getElem hlt⟩
  have hm:=List.mem_of_getElem? hk
  have hks:=hfk k hm
  have hti:(E.take i).length=i:=by rw[List.length_take]; omega
  have htt:(E.take i).take i=E.take i:=by rw[List.take_take,Nat.min_self]
  by_cases hih:i=h.toNat
  ·subst hih
   rw[hk0] at hk; cases hk
   obtain⟨-,rfl,rfl⟩:h.toNat≤h.toNat∧x1=hole8∧x2=hole8:=by
    rcases hph with h | h
    ·exact h
    ·exact absurd h.1 (Nat.lt_irrefl _)
   simp only[zW,Nat.reduceShiftRight,Nat.reduceMod,Nat.reduceLT,Nat.reduceMul,Nat.reduceSub,Int.reduceToNat,Int.reduceNeg,Int.reduceLT,Int.reduceLE,Int.reduceEq,Nat.reduceEqDiff,Nat.reduceAdd,Nat.reduceLeDiff,reduceIte,reduceCtorEq,Nat.reduceBEq,h1,h2,h13,h14,h15,i64,bV,hlt,hk0,cloneO,zeroO,hole8]
   refine draw_first Cln0.reserve ?_
   refine draw_c mix [5,7] [(3,[1,2],[1,2]),(4,[6],[6])] (by rfl) ?_
   simp only[zW,Nat.reduceShiftRight,Nat.reduceMod,Nat.reduceLT,Nat.reduceMul,Nat.reduceSub,Int.reduceToNat,Int.reduceNeg,Int.reduceLT,Int.reduceLE,Int.reduceEq,Nat.reduceEqDiff,Nat.reduceAdd,Nat.reduceLeDiff,reduceIte,reduceCtorEq,Nat.reduceBEq,h1,h2,h13,h14,h15,i64,bV]
   refine callF_map [1,2] ih (by decide) (by rw[hol]; simp; omega) rfl (by simp [renV_reV]) (by simp [refsV.go,refsV_reV]) rfl (show renV [1,2] (.ag C0)=.ag C1 by simp only[renV,hcr]) ?_
   rw[hor]
   simp only[putObjs,List.set_cons_succ,List.set_cons_zero]
   simp only[zW,Nat.reduceShiftRight,Nat.reduceMod,Nat.reduceLT,Nat.reduceMul,Nat.reduceSub,Int.reduceToNat,Int.reduceNeg,Int.reduceLT,Int.reduceLE,Int.reduceEq,Nat.reduceEqDiff,Nat.reduceAdd,Nat.reduceLeDiff,reduceIte,reduceCtorEq,Nat.reduceBEq,h1,h2,h13,h14,h15,i64,bV,bsAt.eq_1]
   simp only[hc8,if_true,List.mapM_cons,hnd,Option.bind_eq_bind,Option.bind_none,List.length_cons,List.length_nil,Nat.zero_add,Nat.le_refl,List.take_succ_cons,List.take_zero,true_and]
   refine⟨fun e he x hx=>by rw[List.mem_singleton.1 he] at hx; exact List.all_eq_true.1 hcf4 x hx,?_⟩
   refine⟨fun x hx=>by rw[List.mem_singleton.1 hx]; exact hc8,⟨by omega,by omega⟩,re.kids.length - (h.toNat + 1),_,_,by omega,Cln.cut 5 (by omega) rfl ?_ [1,2,13,14,15] ?_,h.toNat + 1,rfl,by omega,?_,?_,?_,?_,?_,_,_,.inr ⟨by omega,rfl,rfl⟩,?_⟩ <;> (try simp only[zU,Nat.reduceBEq,Nat.reduceShiftRight,Nat.reduceMod,Nat.reduceEqDiff,reduceIte])
   ·simp only[List.take_succ_cons,List.take_zero,List.all_cons,List.all_nil,Bool.and_true,Bool.and_eq_true]
    exact⟨obj_app hEr2 hcf2,hoo1_1,hoo1_2,by simp [objOk,refsV],by simp [objOk,refsV]⟩
   ·simp [updE,trimE_app,refsV,h1,h2,h13,h14,i64]
   ·exact h1
   ·exact h2
   ·exact h13
   ·exact h14
   ·rw[w64 _ (by omega)]; rfl
   ·rw[htt,← take_get hEh]
    rfl
  ·have hdj:(i + 1≤h.toNat∧x1=hole8∧x2=hole8)∨(h.toNat < i + 1∧x1=r1∧x2=r2):=by
    rcases hph with ⟨ha,hb⟩ | ⟨ha,hb⟩
    ·exact .inl ⟨by omega,hb⟩
    ·exact .inr ⟨by omega,hb⟩
   simp only[zW,Nat.reduceShiftRight,Nat.reduceMod,Nat.reduceLT,Nat.reduceMul,Nat.reduceSub,Int.reduceToNat,Int.reduceNeg,Int.reduceLT,Int.reduceLE,Int.reduceEq,Nat.reduceEqDiff,Nat.reduceAdd,Nat.reduceLeDiff,reduceIte,reduceCtorEq,Nat.reduceBEq,h1,h2,h13,h14,h15,i64,bV,hlt,hk,cloneO,zeroO]
   refine draw_c mix [5,7] [] (by rfl) ?_
   simp only[zW,Nat.reduceShiftRight,Nat.reduceMod,Nat.reduceLT,Nat.reduceMul,Nat.reduceSub,Int.reduceToNat,Int.reduceNeg,Int.reduceLT,Int.reduceLE,Int.reduceEq,Nat.reduceEqDiff,Nat.reduceAdd,Nat.reduceLeDiff,reduceIte,reduceCtorEq,Nat.reduceBEq,h1,h2,h13,h14,h15,i64,bV]
   refine callC_pure (clone_ok k hks) (by simp [refsV,refsV.go,reV_eq,i64,bV,reEl]) (by simp [refsV,refsV.go,reV_eq,i64,bV,reEl]) ?_
   simp only[zW,Nat.reduceShiftRight,Nat.reduceMod,Nat.reduceLT,Nat.reduceMul,Nat.reduceSub,Int.reduceToNat,Int.reduceNeg,Int.reduceLT,Int.reduceLE,Int.reduceEq,Nat.reduceEqDiff,Nat.reduceAdd,Nat.reduceLeDiff,reduceIte,reduceCtorEq,Nat.reduceBEq,h1,h2,h13,h14,h15,i64,bV]
   refine⟨fun x hx=>by rw[List.mem_singleton.1 hx]; simp [Re.cells_len],⟨by omega,by omega⟩,re.kids.length - (i + 1),_,_,by omega,Cln.cut 5 (by omega) rfl ?_ [1,2,13,14,15] ?_,i + 1,rfl,by omega,?_,?_,?_,?_,?_,x1,x2,hdj,?_⟩ <;> (try simp only[zU,Nat.reduceBEq,Nat.reduceShiftRight,Nat.reduceMod,Nat.reduceEqDiff,reduceIte])
   ·simp only[List.take_succ_cons,List.take_zero,List.all_cons,List.all_nil,Bool.and_true,Bool.and_eq_true]
    exact⟨obj_app hEr2 (refs_data _ _),by rcases hph with ⟨_,rfl,rfl⟩ | ⟨_,rfl,rfl⟩ <;> first | rfl | assumption,by rcases hph with ⟨_,rfl,rfl⟩ | ⟨_,rfl,rfl⟩ <;> first | rfl | assumption,by simp [objOk,refsV],by simp [objOk,refsV]⟩
   ·simp [updE,trimE_app,refsV,h1,h2,h13,h14,i64]
   ·exact h1
   ·exact h2
   ·exact h13
   ·exact h14
   ·rw[w64 _ (by omega)]; rfl
   ·rw[htt,← take_get (hEk i k hih hk)]
    rfl
 ·have hie:i=re.kids.length:=by omega
  subst hie
  have hEt:E.take re.kids.length=E:=List.take_of_length_le (by omega)
  rw[hEt]
  obtain⟨-,rfl,rfl⟩:h.toNat < re.kids.length∧x1=r1∧x2=r2:=by
   rcases hph with h | h
   ·exact absurd hh0 (by omega)
   ·exact h
  simp only[zW,Nat.reduceShiftRight,Nat.reduceMod,Nat.reduceLT,Nat.reduceMul,Nat.reduceSub,Int.reduceToNat,Int.reduceNeg,Int.reduceLT,Int.reduceLE,Int.reduceEq,Nat.reduceEqDiff,Nat.reduceAdd,Nat.reduceLeDiff,reduceIte,reduceCtorEq,Nat.reduceBEq,h1,h2,h13,h14,h15,i64,bV,Nat.lt_irrefl,cloneO,zeroO]
  refine⟨by first | exact⟨List.all_eq_true.2 hEr,hoo_1,hoo_2⟩ | (simp only[Bool.and_eq_true]; exact⟨List.all_eq_true.2 hEr,hoo_1,hoo_2⟩),?_⟩
  simp only[and_false,if_false]
  rw[Nat.add_comm 1]
  exact⟨rfl,rfl⟩
theorem clone_ch4 (re:Re) (hf:re.fine=true) (p:List Int) (hp:p.length=4) (ho:okP re p):CloneCh re p [hole8,hole8,hole8,hole8]:=by
 obtain⟨h,q,rfl⟩:∃h q,p=h::q:=by
  cases p with
  | nil=>simp at hp
  | cons h q=>exact⟨h,q,rfl⟩
 obtain⟨h0,k0,hk0,ho⟩:=okP_cons.1 ho
 simp only[List.length_cons,Nat.succ.injEq] at hp
 obtain⟨hset1,hlen,hfk⟩:=Re.fine_spec hf
 have hm0:=List.mem_of_getElem? hk0
 have hh0:=(List.getElem?_eq_some_iff.1 hk0).1
 have ih:=clone_ch3 k0 (hfk k0 hm0) q (by omega) ho
 unfold CloneCh at ih ⊢
 rw[atR_cons h0 hk0,chO_cons hk0]
 have hol:=chO_len ((k0.atR q).1.cells.map V.d) q 0 k0 ho
 have hor:=chO_ren (ρ:=[1,2,3]) (k0.atR q).1.cells q 0 1 k0 (fun j h1 h2=>by
  first
  |(exfalso; omega)
  |(exfalso; simp at h2; done)
  |(have:j=1∨j=2:=by omega
    rcases this with rfl | rfl <;> rfl))
 have hcr:=chC_ren (ρ:=[1,2,3]) (b:=0) (b':=1) (k0.atR q).1.cells k0 q (fun hne=>by first | rfl | exact(hne rfl).elim)
 have hcf:=chC_refs 4 0 (k0.atR q).1.cells k0 q (fun _=>by omega)
 have hoo:=chO_obj 4 (k0.atR q).1.cells q 1 k0 (by first | omega | simp)
 have hoo1:=chO_obj 6 (k0.atR q).1.cells q 1 k0 (by first | omega | simp)
 have hcf1:=chC_refs 4 1 (k0.atR q).1.cells k0 q (fun hne=>by first | omega | exact(hne rfl).elim)
 have hcf2:=chC_refs 6 1 (k0.atR q).1.cells k0 q (fun _=>by omega)
 have hcf4:=chC_refs 8 1 (k0.atR q).1.cells k0 q (fun _=>by omega)
 have hc8:(chC 1 ((k0.atR q).1.cells.map V.d) k0 q).length=8:=by
  rcases hq:q with _ | ⟨a,b⟩
  ·simp [chC,Re.cells_len]
  ·rfl
 rw[Nat.zero_add]
 generalize hC:(k0.atR q).1.cells.map V.d=C at *
 obtain⟨E,hE⟩:∃E,E=chE re h (chC 1 C k0 q):=⟨_,rfl⟩
 rw[show (re.kids.map fun x=>x.cells.map V.d).set h.toNat (chC 1 C k0 q)=E from hE.symm]
 have hEl:E.length=re.kids.length:=by rw[hE]; exact chE_len ..
 have hEk:∀(i:Nat) (k:Re),i≠h.toNat→re.kids[i]?=some k→E[i]?=some (k.cells.map V.d):=fun i k hi hk=>by rw[hE]; exact chE_other hi hk
 have hEh:E[h.toNat]?=some (chC 1 C k0 q):=by rw[hE]; exact chE_self hk0
 have hE8:∀e∈E,e.length=8:=by rw[hE]; exact chE_all (Q:=fun e=>e.length=8) hk0 hc8 fun k=>by simp [Re.cells_len]
 have hEr:∀e∈E,e.all (refsV 4)=true:=by rw[hE]; exact chE_all (Q:=fun e=>e.all (refsV 4)=true) hk0 hcf1 fun k=>refs_data _ _
 have hEr2:∀e∈E,e.all (refsV 6)=true:=by rw[hE]; exact chE_all (Q:=fun e=>e.all (refsV 6)=true) hk0 hcf2 fun k=>refs_data _ _
 have hnd:(chC 1 C k0 q).mapM toD=none:=by
  rcases hq:q with _ | ⟨a,b⟩
  ·rw[hq] at hp; simp at hp
  ·rfl
 generalize hC1:chC 1 C k0 q=C1 at *
 generalize hC0:chC 0 C k0 q=C0 at *
 clear hE
 generalize chO C 0 k0 q=O0 at *
 generalize hO1:chO C 1 k0 q=O1 at *
 have hl1:O1.length=3:=by rw[← hor,List.length_map]; omega
 obtain⟨r1,r2,r3,rfl⟩:∃r1 r2 r3:VL.Obj,O1=[r1,r2,r3]:=by
  match O1,hl1 with
  | [r1,r2,r3],_=>exact⟨_,_,_,rfl⟩
 simp only[List.all_cons,List.all_nil,Bool.and_true,Bool.and_eq_true] at hoo hoo1
 obtain⟨hoo_1,hoo_2,hoo_3⟩:=hoo
 obtain⟨hoo1_1,hoo1_2,hoo1_3⟩:=hoo1
 refine fn_ok func38 rfl ntmps38 results38 rfl 4 57391 (by simp) (by simp) ?_
 simp only[zW,Nat.reduceShiftRight,Nat.reduceMod,Nat.reduceLT,Nat.reduceMul,Nat.reduceSub,Int.reduceToNat,Int.reduceNeg,Int.reduceLT,Int.reduceLE,Int.reduceEq,Nat.reduceEqDiff,Nat.reduceAdd,Nat.reduceLeDiff,reduceIte,reduceCtorEq,Nat.reduceBEq,i64,reV_eq re,iD,bD]
 refine call_pure (cloneSpans_ok re.set hset1) (by simp [refsV,refsV.go,reV_eq,i64,bV,reEl]) (by simp [refsV,refsV.go,reV_eq,i64,bV,reEl]) ?_
 simp only[zW,Nat.reduceShiftRight,Nat.reduceMod,Nat.reduceLT,Nat.reduceMul,Nat.reduceSub,Int.reduceToNat,Int.reduceNeg,Int.reduceLT,Int.reduceLE,Int.reduceEq,Nat.reduceEqDiff,Nat.reduceAdd,Nat.reduceLeDiff,reduceIte,reduceCtorEq,Nat.reduceBEq,i64,iD,bD]
 refine loop_rule (fun n e s=>∃i:Nat,n=re.kids.length - i∧i≤re.kids.length∧e 1=.rf 4 0 0 0∧e 2=.rf 5 0 0 0∧e 13=.d (.sl (re.kids.map Re.cells))∧e 14=i64 re.kids.length∧e 15=i64 i ∧
   ∃x1 x2 x3:VL.Obj,((i≤h.toNat∧x1=hole8∧x2=hole8∧x3=hole8)∨(h.toNat < i∧x1=r1∧x2=r2∧x3=r3))∧s=[⟨1 + i,true,8,E.take i⟩,x1,x2,x3,cloneO re (.so 0 (1 + i) 0 i),zeroO])
  ⟨_,_,_,.of0 (Cln0.takeCell (o:=hole8) (pre:=[i64 re.op,.d (.sl (re.set.map spanC))]) (post:=[i64 re.mn,i64 re.mx,i64 re.mode,i64 re.n,bV re.neg]) 0 4 8 (by decide) rfl rfl rfl rfl rfl),0,rfl,by omega,rfl,rfl,rfl,rfl,rfl,_,_,_,.inl ⟨Nat.zero_le _,rfl,rfl,rfl⟩,rfl⟩ ?_
 rintro n e s ⟨i,rfl,hi,h1,h2,h13,h14,h15,x1,x2,x3,hph,rfl⟩
 rcases Nat.lt_or_ge i re.kids.length with hlt | hge
 ·obtain⟨k,hk⟩:∃k,re.kids[i]?=some k:=⟨_,List.getElem?_eq_getElem hlt⟩
  have hm:=List.mem_of_getElem? hk
  have hks:=hfk k hm
  have hti:(E.take i).length=i:=by rw[List.length_take]; omega
  have htt:(E.take i).take i=E.take i:=by rw[List.take_take,Nat.min_self]
  by_cases hih:i=h.toNat
  ·subst hih
   rw[hk0] at hk; cases hk
   obtain⟨-,rfl,rfl,rfl⟩:h.toNat≤h.toNat∧x1=hole8∧x2=hole8∧x3=hole8:=by
    rcases hph with h | h
    ·exact h
    ·exact absurd h.1 (Nat.lt_irrefl _)
   simp only[zW,Nat.reduceShiftRight,Nat.reduceMod,Nat.reduceLT,Nat.reduceMul,Nat.reduceSub,Int.reduceToNat,Int.reduceNeg,Int.reduceLT,Int.reduceLE,Int.reduceEq,Nat.reduceEqDiff,Nat.reduceAdd,Nat.reduceLeDiff,reduceIte,reduceCtorEq,Nat.reduceBEq,h1,h2,h13,h14,h15,i64,bV,hlt,hk0,cloneO,zeroO,hole8]
   refine draw_first Cln0.reserve ?_
   refine draw_c mix [5,7] [(3,[1,2,3],[1,2,3]),(4,[7],[7])] (by rfl) ?_
   simp only[zW,Nat.reduceShiftRight,Nat.reduceMod,Nat.reduceLT,Nat.reduceMul,Nat.reduceSub,Int.reduceToNat,Int.reduceNeg,Int.reduceLT,Int.reduceLE,Int.reduceEq,Nat.reduceEqDiff,Nat.reduceAdd,Nat.reduceLeDiff,reduceIte,reduceCtorEq,Nat.reduceBEq,h1,h2,h13,h14,h15,i64,bV]
   refine callF_map [1,2,3] ih (by decide) (by rw[hol]; simp; omega) rfl (by simp [renV_reV]) (by simp [refsV.go,refsV_reV]) rfl (show renV [1,2,3] (.ag C0)=.ag C1 by simp only[renV,hcr]) ?_
   rw[hor]
   simp only[putObjs,List.set_cons_succ,List.set_cons_zero]
   simp only[zW,Nat.reduceShiftRight,Nat.reduceMod,Nat.reduceLT,Nat.reduceMul,Nat.reduceSub,Int.reduceToNat,Int.reduceNeg,Int.reduceLT,Int.reduceLE,Int.reduceEq,Nat.reduceEqDiff,Nat.reduceAdd,Nat.reduceLeDiff,reduceIte,reduceCtorEq,Nat.reduceBEq,h1,h2,h13,h14,h15,i64,bV,bsAt.eq_1]
   simp only[hc8,if_true,List.mapM_cons,hnd,Option.bind_eq_bind,Option.bind_none,List.length_cons,List.length_nil,Nat.zero_add,Nat.le_refl,List.take_succ_cons,List.take_zero,true_and]
   refine⟨fun e he x hx=>by rw[List.mem_singleton.1 he] at hx; exact List.all_eq_true.1 hcf4 x hx,?_⟩
   refine⟨fun x hx=>by rw[List.mem_singleton.1 hx]; exact hc8,⟨by omega,by omega⟩,re.kids.length - (h.toNat + 1),_,_,by omega,Cln.cut 6 (by omega) rfl ?_ [1,2,13,14,15] ?_,h.toNat + 1,rfl,by omega,?_,?_,?_,?_,?_,_,_,_,.inr ⟨by omega,rfl,rfl,rfl⟩,?_⟩ <;> (try simp only[zU,Nat.reduceBEq,Nat.reduceShiftRight,Nat.reduceMod,Nat.reduceEqDiff,reduceIte])
   ·simp only[List.take_succ_cons,List.take_zero,List.all_cons,List.all_nil,Bool.and_true,Bool.and_eq_true]
    exact⟨obj_app hEr2 hcf2,hoo1_1,hoo1_2,hoo1_3,by simp [objOk,refsV],by simp [objOk,refsV]⟩
   ·simp [updE,trimE_app,refsV,h1,h2,h13,h14,i64]
   ·exact h1
   ·exact h2
   ·exact h13
   ·exact h14
   ·rw[w64 _ (by omega)]; rfl
   ·rw[htt,← take_get hEh]
    rfl
  ·have hdj:(i + 1≤h.toNat∧x1=hole8∧x2=hole8∧x3=hole8)∨(h.toNat < i + 1∧x1=r1∧x2=r2∧x3=r3):=by
    rcases hph with ⟨ha,hb⟩ | ⟨ha,hb⟩
    ·exact .inl ⟨by omega,hb⟩
    ·exact .inr ⟨by omega,hb⟩
   simp only[zW,Nat.reduceShiftRight,Nat.reduceMod,Nat.reduceLT,Nat.reduceMul,Nat.reduceSub,Int.reduceToNat,Int.reduceNeg,Int.reduceLT,Int.reduceLE,Int.reduceEq,Nat.reduceEqDiff,Nat.reduceAdd,Nat.reduceLeDiff,reduceIte,reduceCtorEq,Nat.reduceBEq,h1,h2,h13,h14,h15,i64,bV,hlt,hk,cloneO,zeroO]
   refine draw_c mix [5,7] [] (by rfl) ?_
   simp only[zW,Nat.reduceShiftRight,Nat.reduceMod,Nat.reduceLT,Nat.reduceMul,Nat.reduceSub,Int.reduceToNat,Int.reduceNeg,Int.reduceLT,Int.reduceLE,Int.reduceEq,Nat.reduceEqDiff,Nat.reduceAdd,Nat.reduceLeDiff,reduceIte,reduceCtorEq,Nat.reduceBEq,h1,h2,h13,h14,h15,i64,bV]
   refine callC_pure (clone_ok k hks) (by simp [refsV,refsV.go,reV_eq,i64,bV,reEl]) (by simp [refsV,refsV.go,reV_eq,i64,bV,reEl]) ?_
   simp only[zW,Nat.reduceShiftRight,Nat.reduceMod,Nat.reduceLT,Nat.reduceMul,Nat.reduceSub,Int.reduceToNat,Int.reduceNeg,Int.reduceLT,Int.reduceLE,Int.reduceEq,Nat.reduceEqDiff,Nat.reduceAdd,Nat.reduceLeDiff,reduceIte,reduceCtorEq,Nat.reduceBEq,h1,h2,h13,h14,h15,i64,bV]
   refine⟨fun x hx=>by rw[List.mem_singleton.1 hx]; simp [Re.cells_len],⟨by omega,by omega⟩,re.kids.length - (i + 1),_,_,by omega,Cln.cut 6 (by omega) rfl ?_ [1,2,13,14,15] ?_,i + 1,rfl,by omega,?_,?_,?_,?_,?_,x1,x2,x3,hdj,?_⟩ <;> (try simp only[zU,Nat.reduceBEq,Nat.reduceShiftRight,Nat.reduceMod,Nat.reduceEqDiff,reduceIte])
   ·simp only[List.take_succ_cons,List.take_zero,List.all_cons,List.all_nil,Bool.and_true,Bool.and_eq_true]
    exact⟨obj_app hEr2 (refs_data _ _),by rcases hph with ⟨_,rfl,rfl,rfl⟩ | ⟨_,rfl,rfl,rfl⟩ <;> first | rfl | assumption,by rcases hph with ⟨_,rfl,rfl,rfl⟩ | ⟨_,rfl,rfl,rfl⟩ <;> first | rfl | assumption,by rcases hph with ⟨_,rfl,rfl,rfl⟩ | ⟨_,rfl,rfl,rfl⟩ <;> first | rfl | assumption,by simp [objOk,refsV],by simp [objOk,refsV]⟩
   ·simp [updE,trimE_app,refsV,h1,h2,h13,h14,i64]
   ·exact h1
   ·exact h2
   ·exact h13
   ·exact h14
   ·rw[w64 _ (by omega)]; rfl
   ·rw[htt,← take_get (hEk i k hih hk)]
    rfl
 ·have hie:i=re.kids.length:=by omega
  subst hie
  have hEt:E.take re.kids.length=E:=List.take_of_length_le (by omega)
  rw[hEt]
  obtain⟨-,rfl,rfl,rfl⟩:h.toNat < re.kids.length∧x1=r1∧x2=r2∧x3=r3:=by
   rcases hph with h | h
   ·exact absurd hh0 (by omega)
   ·exact h
  simp only[zW,Nat.reduceShiftRight,Nat.reduceMod,Nat.reduceLT,Nat.reduceMul,Nat.reduceSub,Int.reduceToNat,Int.reduceNeg,Int.reduceLT,Int.reduceLE,Int.reduceEq,Nat.reduceEqDiff,Nat.reduceAdd,Nat.reduceLeDiff,reduceIte,reduceCtorEq,Nat.reduceBEq,h1,h2,h13,h14,h15,i64,bV,Nat.lt_irrefl,cloneO,zeroO]
  refine⟨by first | exact⟨List.all_eq_true.2 hEr,hoo_1,hoo_2,hoo_3⟩ | (simp only[Bool.and_eq_true]; exact⟨List.all_eq_true.2 hEr,hoo_1,hoo_2,hoo_3⟩),?_⟩
  simp only[and_false,if_false]
  rw[Nat.add_comm 1]
  exact⟨rfl,rfl⟩
theorem clone_ch5 (re:Re) (hf:re.fine=true) (p:List Int) (hp:p.length=5) (ho:okP re p):CloneCh re p [hole8,hole8,hole8,hole8,hole8]:=by
 obtain⟨h,q,rfl⟩:∃h q,p=h::q:=by
  cases p with
  | nil=>simp at hp
  | cons h q=>exact⟨h,q,rfl⟩
 obtain⟨h0,k0,hk0,ho⟩:=okP_cons.1 ho
 simp only[List.length_cons,Nat.succ.injEq] at hp
 obtain⟨hset1,hlen,hfk⟩:=Re.fine_spec hf
 have hm0:=List.mem_of_getElem? hk0
 have hh0:=(List.getElem?_eq_some_iff.1 hk0).1
 have ih:=clone_ch4 k0 (hfk k0 hm0) q (by omega) ho
 unfold CloneCh at ih ⊢
 rw[atR_cons h0 hk0,chO_cons hk0]
 have hol:=chO_len ((k0.atR q).1.cells.map V.d) q 0 k0 ho
 have hor:=chO_ren (ρ:=[1,2,3,4]) (k0.atR q).1.cells q 0 1 k0 (fun j h1 h2=>by
  first
  |(exfalso; omega)
  |(exfalso; simp at h2; done)
  |(have:j=1∨j=2∨j=3:=by omega
    rcases this with rfl | rfl | rfl <;> rfl))
 have hcr:=chC_ren (ρ:=[1,2,3,4]) (b:=0) (b':=1) (k0.atR q).1.cells k0 q (fun hne=>by first | rfl | exact(hne rfl).elim)
 have hcf:=chC_refs 5 0 (k0.atR q).1.cells k0 q (fun _=>by omega)
 have hoo:=chO_obj 5 (k0.atR q).1.cells q 1 k0 (by first | omega | simp)
 have hoo1:=chO_obj 7 (k0.atR q).1.cells q 1 k0 (by first | omega | simp)
 have hcf1:=chC_refs 5 1 (k0.atR q).1.cells k0 q (fun hne=>by first | omega | exact(hne rfl).elim)
 have hcf2:=chC_refs 7 1 (k0.atR q).1.cells k0 q (fun _=>by omega)
 have hcf4:=chC_refs 9 1 (k0.atR q).1.cells k0 q (fun _=>by omega)
 have hc8:(chC 1 ((k0.atR q).1.cells.map V.d) k0 q).length=8:=by
  rcases hq:q with _ | ⟨a,b⟩
  ·simp [chC,Re.cells_len]
  ·rfl
 rw[Nat.zero_add]
 generalize hC:(k0.atR q).1.cells.map V.d=C at *
 obtain⟨E,hE⟩:∃E,E=chE re h (chC 1 C k0 q):=⟨_,rfl⟩
 rw[show (re.kids.map fun x=>x.cells.map V.d).set h.toNat (chC 1 C k0 q)=E from hE.symm]
 have hEl:E.length=re.kids.length:=by rw[hE]; exact chE_len ..
 have hEk:∀(i:Nat) (k:Re),i≠h.toNat→re.kids[i]?=some k→E[i]?=some (k.cells.map V.d):=fun i k hi hk=>by rw[hE]; exact chE_other hi hk
 have hEh:E[h.toNat]?=some (chC 1 C k0 q):=by rw[hE]; exact chE_self hk0
 have hE8:∀e∈E,e.length=8:=by rw[hE]; exact chE_all (Q:=fun e=>e.length=8) hk0 hc8 fun k=>by simp [Re.cells_len]
 have hEr:∀e∈E,e.all (refsV 5)=true:=by rw[hE]; exact chE_all (Q:=fun e=>e.all (refsV 5)=true) hk0 hcf1 fun k=>refs_data _ _
 have hEr2:∀e∈E,e.all (refsV 7)=true:=by rw[hE]; exact chE_all (Q:=fun e=>e.all (refsV 7)=true) hk0 hcf2 fun k=>refs_data _ _
 have hnd:(chC 1 C k0 q).mapM toD=none:=by
  rcases hq:q with _ | ⟨a,b⟩
  ·rw[hq] at hp; simp at hp
  ·rfl
 generalize hC1:chC 1 C k0 q=C1 at *
 generalize hC0:chC 0 C k0 q=C0 at *
 clear hE
 generalize chO C 0 k0 q=O0 at *
 generalize hO1:chO C 1 k0 q=O1 at *
 have hl1:O1.length=4:=by rw[← hor,List.length_map]; omega
 obtain⟨r1,r2,r3,r4,rfl⟩:∃r1 r2 r3 r4:VL.Obj,O1=[r1,r2,r3,r4]:=by
  match O1,hl1 with
  | [r1,r2,r3,r4],_=>exact⟨_,_,_,_,rfl⟩
 simp only[List.all_cons,List.all_nil,Bool.and_true,Bool.and_eq_true] at hoo hoo1
 obtain⟨hoo_1,hoo_2,hoo_3,hoo_4⟩:=hoo
 obtain⟨hoo1_1,hoo1_2,hoo1_3,hoo1_4⟩:=hoo1
 refine fn_ok func38 rfl ntmps38 results38 rfl 5 57391 (by simp) (by simp) ?_
 simp only[zW,Nat.reduceShiftRight,Nat.reduceMod,Nat.reduceLT,Nat.reduceMul,Nat.reduceSub,Int.reduceToNat,Int.reduceNeg,Int.reduceLT,Int.reduceLE,Int.reduceEq,Nat.reduceEqDiff,Nat.reduceAdd,Nat.reduceLeDiff,reduceIte,reduceCtorEq,Nat.reduceBEq,i64,reV_eq re,iD,bD]
 refine call_pure (cloneSpans_ok re.set hset1) (by simp [refsV,refsV.go,reV_eq,i64,bV,reEl]) (by simp [refsV,refsV.go,reV_eq,i64,bV,reEl]) ?_
 simp only[zW,Nat.reduceShiftRight,Nat.reduceMod,Nat.reduceLT,Nat.reduceMul,Nat.reduceSub,Int.reduceToNat,Int.reduceNeg,Int.reduceLT,Int.reduceLE,Int.reduceEq,Nat.reduceEqDiff,Nat.reduceAdd,Nat.reduceLeDiff,reduceIte,reduceCtorEq,Nat.reduceBEq,i64,iD,bD]
 refine loop_rule (fun n e s=>∃i:Nat,n=re.kids.length - i∧i≤re.kids.length∧e 1=.rf 5 0 0 0∧e 2=.rf 6 0 0 0∧e 13=.d (.sl (re.kids.map Re.cells))∧e 14=i64 re.kids.length∧e 15=i64 i ∧
   ∃x1 x2 x3 x4:VL.Obj,((i≤h.toNat∧x1=hole8∧x2=hole8∧x3=hole8∧x4=hole8)∨(h.toNat < i∧x1=r1∧x2=r2∧x3=r3∧x4=r4))∧s=[⟨1 + i,true,8,E.take i⟩,x1,x2,x3,x4,cloneO re (.so 0 (1 + i) 0 i),zeroO])
  ⟨_,_,_,.of0 (Cln0.takeCell (o:=hole8) (pre:=[i64 re.op,.d (.sl (re.set.map spanC))]) (post:=[i64 re.mn,i64 re.mx,i64 re.mode,i64 re.n,bV re.neg]) 0 5 8 (by decide) rfl rfl rfl rfl rfl),0,rfl,by omega,rfl,rfl,rfl,rfl,rfl,_,_,_,_,.inl ⟨Nat.zero_le _,rfl,rfl,rfl,rfl⟩,rfl⟩ ?_
 rintro n e s ⟨i,rfl,hi,h1,h2,h13,h14,h15,x1,x2,x3,x4,hph,rfl⟩
 rcases Nat.lt_or_ge i re.kids.length with hlt | hge
 ·obtain⟨k,hk⟩:∃k,re.kids[i]?=some k:=⟨_,List.getElem?_eq_getElem hlt⟩
  have hm:=List.mem_of_getElem? hk
  have hks:=hfk k hm
  have hti:(E.take i).length=i:=by rw[List.length_take]; omega
  have htt:(E.take i).take i=E.take i:=by rw[List.take_take,Nat.min_self]
  by_cases hih:i=h.toNat
  ·subst hih
   rw[hk0] at hk; cases hk
   obtain⟨-,rfl,rfl,rfl,rfl⟩:h.toNat≤h.toNat∧x1=hole8∧x2=hole8∧x3=hole8∧x4=hole8:=by
    rcases hph with h | h
    ·exact h
    ·exact absurd h.1 (Nat.lt_irrefl _)
   simp only[zW,Nat.reduceShiftRight,Nat.reduceMod,Nat.reduceLT,Nat.reduceMul,Nat.reduceSub,Int.reduceToNat,Int.reduceNeg,Int.reduceLT,Int.reduceLE,Int.reduceEq,Nat.reduceEqDiff,Nat.reduceAdd,Nat.reduceLeDiff,reduceIte,reduceCtorEq,Nat.reduceBEq,h1,h2,h13,h14,h15,i64,bV,hlt,hk0,cloneO,zeroO,hole8]
   refine draw_first Cln0.reserve ?_
   refine draw_c mix [5,7] [(3,[1,2,3,4],[1,2,3,4]),(4,[8],[8])] (by rfl) ?_
   simp only[zW,Nat.reduceShiftRight,Nat.reduceMod,Nat.reduceLT,Nat.reduceMul,Nat.reduceSub,Int.reduceToNat,Int.reduceNeg,Int.reduceLT,Int.reduceLE,Int.reduceEq,Nat.reduceEqDiff,Nat.reduceAdd,Nat.reduceLeDiff,reduceIte,reduceCtorEq,Nat.reduceBEq,h1,h2,h13,h14,h15,i64,bV]
   refine callF_map [1,2,3,4] ih (by decide) (by rw[hol]; simp; omega) rfl (by simp [renV_reV]) (by simp [refsV.go,refsV_reV]) rfl (show renV [1,2,3,4] (.ag C0)=.ag C1 by simp only[renV,hcr]) ?_
   rw[hor]
   simp only[putObjs,List.set_cons_succ,List.set_cons_zero]
   simp only[zW,Nat.reduceShiftRight,Nat.reduceMod,Nat.reduceLT,Nat.reduceMul,Nat.reduceSub,Int.reduceToNat,Int.reduceNeg,Int.reduceLT,Int.reduceLE,Int.reduceEq,Nat.reduceEqDiff,Nat.reduceAdd,Nat.reduceLeDiff,reduceIte,reduceCtorEq,Nat.reduceBEq,h1,h2,h13,h14,h15,i64,bV,bsAt.eq_1]
   simp only[hc8,if_true,List.mapM_cons,hnd,Option.bind_eq_bind,Option.bind_none,List.length_cons,List.length_nil,Nat.zero_add,Nat.le_refl,List.take_succ_cons,List.take_zero,true_and]
   refine⟨fun e he x hx=>by rw[List.mem_singleton.1 he] at hx; exact List.all_eq_true.1 hcf4 x hx,?_⟩
   refine⟨fun x hx=>by rw[List.mem_singleton.1 hx]; exact hc8,⟨by omega,by omega⟩,re.kids.length - (h.toNat + 1),_,_,by omega,Cln.cut 7 (by omega) rfl ?_ [1,2,13,14,15] ?_,h.toNat + 1,rfl,by omega,?_,?_,?_,?_,?_,_,_,_,_,.inr ⟨by omega,rfl,rfl,rfl,rfl⟩,?_⟩ <;> (try simp only[zU,Nat.reduceBEq,Nat.reduceShiftRight,Nat.reduceMod,Nat.reduceEqDiff,reduceIte])
   ·simp only[List.take_succ_cons,List.take_zero,List.all_cons,List.all_nil,Bool.and_true,Bool.and_eq_true]
    exact⟨obj_app hEr2 hcf2,hoo1_1,hoo1_2,hoo1_3,hoo1_4,by simp [objOk,refsV],by simp [objOk,refsV]⟩
   ·simp [updE,trimE_app,refsV,h1,h2,h13,h14,i64]
   ·exact h1
   ·exact h2
   ·exact h13
   ·exact h14
   ·rw[w64 _ (by omega)]; rfl
   ·rw[htt,← take_get hEh]
    rfl
  ·have hdj:(i + 1≤h.toNat∧x1=hole8∧x2=hole8∧x3=hole8∧x4=hole8)∨(h.toNat < i + 1∧x1=r1∧x2=r2∧x3=r3∧x4=r4):=by
    rcases hph with ⟨ha,hb⟩ | ⟨ha,hb⟩
    ·exact .inl ⟨by omega,hb⟩
    ·exact .inr ⟨by omega,hb⟩
   simp only[zW,Nat.reduceShiftRight,Nat.reduceMod,Nat.reduceLT,Nat.reduceMul,Nat.reduceSub,Int.reduceToNat,Int.reduceNeg,Int.reduceLT,Int.reduceLE,Int.reduceEq,Nat.reduceEqDiff,Nat.reduceAdd,Nat.reduceLeDiff,reduceIte,reduceCtorEq,Nat.reduceBEq,h1,h2,h13,h14,h15,i64,bV,hlt,hk,cloneO,zeroO]
   refine draw_c mix [5,7] [] (by rfl) ?_
   simp only[zW,Nat.reduceShiftRight,Nat.reduceMod,Nat.reduceLT,Nat.reduceMul,Nat.reduceSub,Int.reduceToNat,Int.reduceNeg,Int.reduceLT,Int.reduceLE,Int.reduceEq,Nat.reduceEqDiff,Nat.reduceAdd,Nat.reduceLeDiff,reduceIte,reduceCtorEq,Nat.reduceBEq,h1,h2,h13,h14,h15,i64,bV]
   refine callC_pure (clone_ok k hks) (by simp [refsV,refsV.go,reV_eq,i64,bV,reEl]) (by simp [refsV,refsV.go,reV_eq,i64,bV,reEl]) ?_
   simp only[zW,Nat.reduceShiftRight,Nat.reduceMod,Nat.reduceLT,Nat.reduceMul,Nat.reduceSub,Int.reduceToNat,Int.reduceNeg,Int.reduceLT,Int.reduceLE,Int.reduceEq,Nat.reduceEqDiff,Nat.reduceAdd,Nat.reduceLeDiff,reduceIte,reduceCtorEq,Nat.reduceBEq,h1,h2,h13,h14,h15,i64,bV]
   refine⟨fun x hx=>by rw[List.mem_singleton.1 hx]; simp [Re.cells_len],⟨by omega,by omega⟩,re.kids.length - (i + 1),_,_,by omega,Cln.cut 7 (by omega) rfl ?_ [1,2,13,14,15] ?_,i + 1,rfl,by omega,?_,?_,?_,?_,?_,x1,x2,x3,x4,hdj,?_⟩ <;> (try simp only[zU,Nat.reduceBEq,Nat.reduceShiftRight,Nat.reduceMod,Nat.reduceEqDiff,reduceIte])
   ·simp only[List.take_succ_cons,List.take_zero,List.all_cons,List.all_nil,Bool.and_true,Bool.and_eq_true]
    exact⟨obj_app hEr2 (refs_data _ _),by rcases hph with ⟨_,rfl,rfl,rfl,rfl⟩ | ⟨_,rfl,rfl,rfl,rfl⟩ <;> first | rfl | assumption,by rcases hph with ⟨_,rfl,rfl,rfl,rfl⟩ | ⟨_,rfl,rfl,rfl,rfl⟩ <;> first | rfl | assumption,by rcases hph with ⟨_,rfl,rfl,rfl,rfl⟩ | ⟨_,rfl,rfl,rfl,rfl⟩ <;> first | rfl | assumption,by rcases hph with ⟨_,rfl,rfl,rfl,rfl⟩ | ⟨_,rfl,rfl,rfl,rfl⟩ <;> first | rfl | assumption,by simp [objOk,refsV],by simp [objOk,refsV]⟩
   ·simp [updE,trimE_app,refsV,h1,h2,h13,h14,i64]
   ·exact h1
   ·exact h2
   ·exact h13
   ·exact h14
   ·rw[w64 _ (by omega)]; rfl
   ·rw[htt,← take_get (hEk i k hih hk)]
    rfl
 ·have hie:i=re.kids.length:=by omega
  subst hie
  have hEt:E.take re.kids.length=E:=List.take_of_length_le (by omega)
  rw[hEt]
  obtain⟨-,rfl,rfl,rfl,rfl⟩:h.toNat < re.kids.length∧x1=r1∧x2=r2∧x3=r3∧x4=r4:=by
   rcases hph with h | h
   ·exact absurd hh0 (by omega)
   ·exact h
  simp only[zW,Nat.reduceShiftRight,Nat.reduceMod,Nat.reduceLT,Nat.reduceMul,Nat.reduceSub,Int.reduceToNat,Int.reduceNeg,Int.reduceLT,Int.reduceLE,Int.reduceEq,Nat.reduceEqDiff,Nat.reduceAdd,Nat.reduceLeDiff,reduceIte,reduceCtorEq,Nat.reduceBEq,h1,h2,h13,h14,h15,i64,bV,Nat.lt_irrefl,cloneO,zeroO]
  refine⟨by first | exact⟨List.all_eq_true.2 hEr,hoo_1,hoo_2,hoo_3,hoo_4⟩ | (simp only[Bool.and_eq_true]; exact⟨List.all_eq_true.2 hEr,hoo_1,hoo_2,hoo_3,hoo_4⟩),?_⟩
  simp only[and_false,if_false]
  rw[Nat.add_comm 1]
  exact⟨rfl,rfl⟩
end Go.Proofs.Ytffeafbdcakfbaa
