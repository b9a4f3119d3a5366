/- A part of the proof (F40). -/
import Derived.Test.YtafbdphblilenaaAB15
set_option linter.unusedSimpArgs false
set_option linter.unusedVariables false
set_option maxRecDepth 100000
set_option maxHeartbeats 80000000
set_option linter.unusedSimpArgs false
set_option linter.unusedVariables false
namespace Go.Proofs.Ytafbdphblilenaa
open Go.VL Go.Proofs.Try
theorem reV_mk (op mn mx mode n:Int) (set:List (Int × Int)) (kids:List Re) (neg:Bool):reV (.mk op set kids mn mx mode n neg)=.ag [.d (iD op),.d (.sl (set.map spanC)),.d (.sl (kids.map Re.cells)),.d (iD mn),.d (iD mx),.d (iD mode),.d (iD n),.d (bD neg)]:=by
 rw[reV_eq]; rfl
theorem frz_own {lim id g lo n sz:Nat} {live:Bool} {s:List VL.Obj} {els:List (List V)} {ds:List (List D)} (ho:s[id]?=some ⟨g,live,sz,els⟩) (he:(els.drop lo).take n=ds.map (fun c=>c.map V.d)) (hn:lo + n≤els.length) (hl:lim≤id∨live=false) :
  frzV lim s (.so id g lo n)=some (.d (.sl ds)):=by
 simp only[frzV,frzD,ho,true_and]
 rw[if_pos ⟨hn,hl⟩,he,mapM_frzE]
 rfl
theorem callGiveP {P:Program} {f:FuncId} {args cargs:List V} {s:List VL.Obj} {r:V} {K:V→List VL.Obj→Prop} (ids:List Nat) (h:PureOK P f cargs r) (hc:frzV.go (killO s ids).length (killO s ids) args=some cargs) (ha:refsV.go 0 cargs=true) (hr:refsV 0 r=true) (hk:K r (killO s ids)):callWp P f args s K :=
 call_give ids hc (call_pure h ha hr hk)
theorem Re.sizeL_drop (l:List Re):Re.sizeL (l.drop 1)≤Re.sizeL l:=by
 cases l with
 | nil=>simp
 | cons k l=>simp [Re.sizeL]
theorem cutL {l:List (List D)} {n:Nat} (hn:l.length≤n):((l.map fun c=>c.map V.d).drop 0).take n=l.map (fun c=>c.map V.d):=by
 rw[List.drop_zero,List.take_of_length_le (by simpa using hn)]
theorem frz3 {lim:Nat} {s:List VL.Obj} {y op mn mx mode n neg:D} {l:List V} {r:List V} {a b a' b':V} (ha:frzV lim s a=some a') (hb:frzV lim s b=some b') (hl:frzV.go lim s l=some r) :
  frzV.go lim s [.ag l,.d y,.ag [.d op,a,b,.d mn,.d mx,.d mode,.d n,.d neg]]=some [.ag r,.d y,.ag [.d op,a',b',.d mn,.d mx,.d mode,.d n,.d neg]]:=by
 simp only[frzV.go,frzV,ha,hb,hl,Option.map_some]
theorem spoilt_ok (c:Nat) (hc:c≤40000) (p:Pat) (hp:p.small c) (tat how by':Int) (ha:I64 tat) (hh:I64 how) (hb:I64 by'):∃p':Pat,p'.small (2 * c + 1)∧PureOK prog 33 [patV p,i64 tat,i64 how,i64 by'] (patV p'):=by
 obtain⟨re,caps,runes⟩:=p
 have hev:re.every (smallB c)=true:=hp.ev
 have hsz:re.size≤c:=hp.sz
 have hcaps:I64 caps:=hp.caps
 have hf:=small_fine (by omega) re hev
 have hpaths:=refPaths_ok re (by omega)
 have hpl:(re.paths.length:Int)=re.size:=by rw[Re.paths_len]
 have hpos:=re.size_pos
 have har:=around_ok tat re.size (by omega) ha
 have hin:=around_in tat re.size (by omega) ha
 obtain⟨path,hpath⟩:∃q,re.paths[(around tat re.size).toNat]?=some q:=⟨_,List.getElem?_eq_getElem (by omega)⟩
 have hat:=refAt_ok path re hf
 have hate:=at_every (zero_every c) path re hev
 have hats:=at_size path re
 have hput:=fun x=>refPut_ok x path re hf
 have key:∀(x:Re) (cp:Int) (rn:Bool),x.every (smallB (c + 1))=true→x.size≤c + 1→I64 cp→(⟨(re.putR path x).1,cp,rn⟩:Pat).small (2 * c + 1):=by
  intro x cp rn h1 h2 h3
  refine⟨put_every (smallB_setKids _) (zero_every _) (every_mono' (smallB_mono (by omega)) x h1) path re (every_mono' (smallB_mono (by omega)) re hev),?_,h3⟩
  have:=put_size x path re
  show (re.putR path x).1.size≤_
  omega
 generalize re.atR path=nd at *
 generalize re.putR path=pr at *
 generalize re.paths=ps at *
 obtain⟨⟨op,set,kids,mn,mx,mode,n,neg⟩,ne⟩:=nd
 obtain⟨n1,n2⟩:=(Re.every_iff _).1 hate
 obtain⟨⟨n3,n4,n5,n6,n7,n8,n9⟩,n10⟩:=smallB_iff.1 n1
 replace n2:∀k∈kids,k.every (smallB c)=true:=n2
 replace n3:set.length≤c:=n3
 replace n4:kids.length≤c:=n4
 replace n5:I64 op:=n5
 replace n6:I64 mn:=n6
 replace n7:I64 mx:=n7
 replace n8:I64 mode:=n8
 replace n9:I64 n:=n9
 replace n10:∀s∈set,I64 s.1∧I64 s.2:=n10
 replace hats:1 + Re.sizeL kids≤re.size:=hats
 have hown:=around_ok how 12 (by omega) hh
 have hin2:=around_in how 12 (by omega) hh
 have hcs:around how 12=0∨around how 12=1∨around how 12=2∨around how 12=3∨around how 12=4∨around how 12=5∨around how 12=6∨around how 12=7∨around how 12=8∨around how 12=9∨around how 12=10∨around how 12=11:=by omega
 rw[reV_eq re] at hpaths hat hput
 rw[reV_mk] at hat
 simp only[i64,iD,bD] at hpaths hat hput
 have n2':∀k∈kids,k.every (smallB (c + 1))=true:=fun k hk=>every_mono' (smallB_mono (by omega)) k (n2 k hk)
 have hs2:∀e∈(set.map spanC).map (fun x=>x.map V.d),e.length=2:=by
  intro e he
  obtain⟨x,hx,rfl⟩:=List.mem_map.1 he
  obtain⟨y,_,rfl⟩:=List.mem_map.1 hx
  rfl
 have hs8:∀e∈(kids.map Re.cells).map (fun x=>x.map V.d),e.length=8:=by
  intro e he
  obtain⟨x,hx,rfl⟩:=List.mem_map.1 he
  obtain⟨y,_,rfl⟩:=List.mem_map.1 hx
  simp [Re.cells_len]
 rcases hcs with hk | hk | hk | hk | hk | hk | hk | hk | hk | hk | hk | hk
 ·
  rw[hk] at hown
  have hb0:=(around_in by' 6 (by omega) hb).1
  have hb1:=(around_in by' 6 (by omega) hb).2
  obtain⟨v,hv,hidx⟩:=idx_lit [by',-1,12,2,9,4] (around by' 6) hb0 hb1 (by intro x hx; simp only[List.mem_cons,List.not_mem_nil,or_false] at hx; rcases hx with rfl | rfl | rfl | rfl | rfl | rfl <;> first | exact hb | decide)
  simp only[List.map_cons,List.map_nil,iD] at hidx
  refine⟨⟨(pr (.mk v set kids mn mx mode n neg)).1,caps,runes⟩,key _ _ _ (mk_small (by omega) (by omega) ⟨hv,n6,n7,n8,n9⟩ n10 n2') (by simp only[Re.size]; omega) hcaps,?_⟩
  have hput:=hput (.mk v set kids mn mx mode n neg)
  rw[reV_mk] at hput
  simp only[iD,bD] at hput
  generalize pr (.mk v set kids mn mx mode n neg)=R at *
  obtain⟨R,E⟩:=R
  refine fn_ok func33 rfl ntmps33 results33 rfl 0 2199023259423 (by simp) (by simp) ?_
  simp only[zX,Nat.reduceShiftRight,Nat.reduceMod,Nat.reduceLT,Nat.reduceMul,Nat.reduceSub,Int.reduceToNat,Int.reduceNeg,Int.reduceLT,Int.reduceLE,Int.reduceEq,Nat.reduceEqDiff,Nat.reduceAdd,Nat.reduceLeDiff,reduceIte,reduceCtorEq,Nat.reduceBEq,i64,patV,Re.cells_eq re,bV,iD,bD,List.map_cons,List.map_nil]
  refine call_pure hpaths (by simp [refsV,refsV.go,reV_eq,i64,bV,reEl]) rfl ?_
  simp only[zX,Nat.reduceShiftRight,Nat.reduceMod,Nat.reduceLT,Nat.reduceMul,Nat.reduceSub,Int.reduceToNat,Int.reduceNeg,Int.reduceLT,Int.reduceLE,Int.reduceEq,Nat.reduceEqDiff,Nat.reduceAdd,Nat.reduceLeDiff,reduceIte,reduceCtorEq,Nat.reduceBEq,i64,pathsD,List.length_map,hpl]
  refine call_pure har (by simp [refsV,refsV.go,reV_eq,i64,bV,reEl]) (by simp [refsV,refsV.go,reV_eq,i64,bV,reEl]) ?_
  simp only[zX,Nat.reduceShiftRight,Nat.reduceMod,Nat.reduceLT,Nat.reduceMul,Nat.reduceSub,Int.reduceToNat,Int.reduceNeg,Int.reduceLT,Int.reduceLE,Int.reduceEq,Nat.reduceEqDiff,Nat.reduceAdd,Nat.reduceLeDiff,reduceIte,reduceCtorEq,Nat.reduceBEq,i64,pathsD,hin,hpl,hpath,pathD]
  refine call_pure hat (by simp [refsV,refsV.go,reV_eq,i64,bV,reEl]) (by simp [refsV,refsV.go,reV_eq,i64,bV,reEl]) ?_
  simp only[zX,Nat.reduceShiftRight,Nat.reduceMod,Nat.reduceLT,Nat.reduceMul,Nat.reduceSub,Int.reduceToNat,Int.reduceNeg,Int.reduceLT,Int.reduceLE,Int.reduceEq,Nat.reduceEqDiff,Nat.reduceAdd,Nat.reduceLeDiff,reduceIte,reduceCtorEq,Nat.reduceBEq,i64,patV,bV,iD,bD]
  refine⟨hs2,⟨by omega,by simp⟩,hs8,⟨by omega,by simp⟩,?_⟩
  refine call_pure hown rfl rfl ?_
  simp only[zX,Nat.reduceShiftRight,Nat.reduceMod,Nat.reduceLT,Nat.reduceMul,Nat.reduceSub,Int.reduceToNat,Int.reduceNeg,Int.reduceLT,Int.reduceLE,Int.reduceEq,Nat.reduceEqDiff,Nat.reduceAdd,Nat.reduceLeDiff,reduceIte,reduceCtorEq,Nat.reduceBEq,i64,patV,bV,iD,bD]
  refine call_pure (around_ok by' 6 (by omega) hb) rfl rfl ?_
  simp only[zX,Nat.reduceShiftRight,Nat.reduceMod,Nat.reduceLT,Nat.reduceMul,Nat.reduceSub,Int.reduceToNat,Int.reduceNeg,Int.reduceLT,Int.reduceLE,Int.reduceEq,Nat.reduceEqDiff,Nat.reduceAdd,Nat.reduceLeDiff,reduceIte,reduceCtorEq,Nat.reduceBEq,i64,patV,bV,iD,bD,hb0,hb1,hidx]
  refine⟨by omega,?_⟩
  refine callGiveP [3,4] hput ?_ (by simp [refsV,refsV.go,reV_eq,i64,bV,reEl]) (by simp [refsV,refsV.go,reV_eq,i64,bV,reEl]) ?_
  ·exact frz3 (frz_own (ds:=set.map spanC) rfl (cutL (by simp)) (by simp) (.inr rfl)) (frz_own (ds:=kids.map Re.cells) rfl (cutL (by simp)) (by simp) (.inr rfl)) rfl
  simp only[zX,Nat.reduceShiftRight,Nat.reduceMod,Nat.reduceLT,Nat.reduceMul,Nat.reduceSub,Int.reduceToNat,Int.reduceNeg,Int.reduceLT,Int.reduceLE,Int.reduceEq,Nat.reduceEqDiff,Nat.reduceAdd,Nat.reduceLeDiff,reduceIte,reduceCtorEq,Nat.reduceBEq,i64,patV,bV,iD,bD,killO,kill1,Re.cells_eq R,List.map_cons,List.map_nil]
 ·
  rw[hk] at hown
  refine⟨⟨(pr (.mk op (set++[(by',by')]) kids mn mx mode n neg)).1,caps,runes⟩,key _ _ _ (mk_small (by simp; omega) (by omega) ⟨n5,n6,n7,n8,n9⟩ (by intro s hs; rcases List.mem_append.1 hs with hs | hs; exact n10 s hs; rw[List.mem_singleton.1 hs]; exact⟨hb,hb⟩) n2') (by simp only[Re.size]; omega) hcaps,?_⟩
  have hput:=hput (.mk op (set++[(by',by')]) kids mn mx mode n neg)
  rw[reV_mk] at hput
  simp only[iD,bD] at hput
  generalize pr (.mk op (set++[(by',by')]) kids mn mx mode n neg)=R at *
  obtain⟨R,E⟩:=R
  refine fn_ok func33 rfl ntmps33 results33 rfl 0 2199023259423 (by simp) (by simp) ?_
  simp only[zX,Nat.reduceShiftRight,Nat.reduceMod,Nat.reduceLT,Nat.reduceMul,Nat.reduceSub,Int.reduceToNat,Int.reduceNeg,Int.reduceLT,Int.reduceLE,Int.reduceEq,Nat.reduceEqDiff,Nat.reduceAdd,Nat.reduceLeDiff,reduceIte,reduceCtorEq,Nat.reduceBEq,i64,patV,Re.cells_eq re,bV,iD,bD,List.map_cons,List.map_nil]
  refine call_pure hpaths (by simp [refsV,refsV.go,reV_eq,i64,bV,reEl]) rfl ?_
  simp only[zX,Nat.reduceShiftRight,Nat.reduceMod,Nat.reduceLT,Nat.reduceMul,Nat.reduceSub,Int.reduceToNat,Int.reduceNeg,Int.reduceLT,Int.reduceLE,Int.reduceEq,Nat.reduceEqDiff,Nat.reduceAdd,Nat.reduceLeDiff,reduceIte,reduceCtorEq,Nat.reduceBEq,i64,pathsD,List.length_map,hpl]
  refine call_pure har (by simp [refsV,refsV.go,reV_eq,i64,bV,reEl]) (by simp [refsV,refsV.go,reV_eq,i64,bV,reEl]) ?_
  simp only[zX,Nat.reduceShiftRight,Nat.reduceMod,Nat.reduceLT,Nat.reduceMul,Nat.reduceSub,Int.reduceToNat,Int.reduceNeg,Int.reduceLT,Int.reduceLE,Int.reduceEq,Nat.reduceEqDiff,Nat.reduceAdd,Nat.reduceLeDiff,reduceIte,reduceCtorEq,Nat.reduceBEq,i64,pathsD,hin,hpl,hpath,pathD]
  refine call_pure hat (by simp [refsV,refsV.go,reV_eq,i64,bV,reEl]) (by simp [refsV,refsV.go,reV_eq,i64,bV,reEl]) ?_
  simp only[zX,Nat.reduceShiftRight,Nat.reduceMod,Nat.reduceLT,Nat.reduceMul,Nat.reduceSub,Int.reduceToNat,Int.reduceNeg,Int.reduceLT,Int.reduceLE,Int.reduceEq,Nat.reduceEqDiff,Nat.reduceAdd,Nat.reduceLeDiff,reduceIte,reduceCtorEq,Nat.reduceBEq,i64,patV,bV,iD,bD]
  refine⟨hs2,⟨by omega,by simp⟩,hs8,⟨by omega,by simp⟩,?_⟩
  refine call_pure hown rfl rfl ?_
  simp only[zX,Nat.reduceShiftRight,Nat.reduceMod,Nat.reduceLT,Nat.reduceMul,Nat.reduceSub,Int.reduceToNat,Int.reduceNeg,Int.reduceLT,Int.reduceLE,Int.reduceEq,Nat.reduceEqDiff,Nat.reduceAdd,Nat.reduceLeDiff,reduceIte,reduceCtorEq,Nat.reduceBEq,i64,patV,bV,iD,bD]
  refine⟨by simp,⟨by simp,by omega⟩,?_⟩
  refine callGiveP [3,4] hput ?_ (by simp [refsV,refsV.go,reV_eq,i64,bV,reEl]) (by simp [refsV,refsV.go,reV_eq,i64,bV,reEl]) ?_
  ·exact frz3 (frz_own (ds:=(set++[(by',by')]).map spanC) rfl (by rw[List.drop_zero,List.take_of_length_le (by simp),List.take_of_length_le (by simp)]; simp [spanC,iD]) (by simp) (.inr rfl)) (frz_own (ds:=kids.map Re.cells) rfl (cutL (by simp)) (by simp) (.inr rfl)) rfl
  simp only[zX,Nat.reduceShiftRight,Nat.reduceMod,Nat.reduceLT,Nat.reduceMul,Nat.reduceSub,Int.reduceToNat,Int.reduceNeg,Int.reduceLT,Int.reduceLE,Int.reduceEq,Nat.reduceEqDiff,Nat.reduceAdd,Nat.reduceLeDiff,reduceIte,reduceCtorEq,Nat.reduceBEq,i64,patV,bV,iD,bD,killO,kill1,Re.cells_eq R,List.map_cons,List.map_nil]
 ·
  by_cases h0:0 < set.length
  rotate_left
  ·have hpr:¬(0:Int) < ((0 + set.length:Nat):Int):=by omega
   rw[hk] at hown
   refine⟨⟨(pr (.mk op set kids mn mx mode n neg)).1,caps,runes⟩,key _ _ _ (mk_small (by omega) (by omega) ⟨n5,n6,n7,n8,n9⟩ n10 n2') (by simp only[Re.size]; omega) hcaps,?_⟩
   have hput:=hput (.mk op set kids mn mx mode n neg)
   rw[reV_mk] at hput
   simp only[iD,bD] at hput
   generalize pr (.mk op set kids mn mx mode n neg)=R at *
   obtain⟨R,E⟩:=R
   refine fn_ok func33 rfl ntmps33 results33 rfl 0 2199023259423 (by simp) (by simp) ?_
   simp only[zX,Nat.reduceShiftRight,Nat.reduceMod,Nat.reduceLT,Nat.reduceMul,Nat.reduceSub,Int.reduceToNat,Int.reduceNeg,Int.reduceLT,Int.reduceLE,Int.reduceEq,Nat.reduceEqDiff,Nat.reduceAdd,Nat.reduceLeDiff,reduceIte,reduceCtorEq,Nat.reduceBEq,i64,patV,Re.cells_eq re,bV,iD,bD,List.map_cons,List.map_nil]
   refine call_pure hpaths (by simp [refsV,refsV.go,reV_eq,i64,bV,reEl]) rfl ?_
   simp only[zX,Nat.reduceShiftRight,Nat.reduceMod,Nat.reduceLT,Nat.reduceMul,Nat.reduceSub,Int.reduceToNat,Int.reduceNeg,Int.reduceLT,Int.reduceLE,Int.reduceEq,Nat.reduceEqDiff,Nat.reduceAdd,Nat.reduceLeDiff,reduceIte,reduceCtorEq,Nat.reduceBEq,i64,pathsD,List.length_map,hpl]
   refine call_pure har (by simp [refsV,refsV.go,reV_eq,i64,bV,reEl]) (by simp [refsV,refsV.go,reV_eq,i64,bV,reEl]) ?_
   simp only[zX,Nat.reduceShiftRight,Nat.reduceMod,Nat.reduceLT,Nat.reduceMul,Nat.reduceSub,Int.reduceToNat,Int.reduceNeg,Int.reduceLT,Int.reduceLE,Int.reduceEq,Nat.reduceEqDiff,Nat.reduceAdd,Nat.reduceLeDiff,reduceIte,reduceCtorEq,Nat.reduceBEq,i64,pathsD,hin,hpl,hpath,pathD]
   refine call_pure hat (by simp [refsV,refsV.go,reV_eq,i64,bV,reEl]) (by simp [refsV,refsV.go,reV_eq,i64,bV,reEl]) ?_
   simp only[zX,Nat.reduceShiftRight,Nat.reduceMod,Nat.reduceLT,Nat.reduceMul,Nat.reduceSub,Int.reduceToNat,Int.reduceNeg,Int.reduceLT,Int.reduceLE,Int.reduceEq,Nat.reduceEqDiff,Nat.reduceAdd,Nat.reduceLeDiff,reduceIte,reduceCtorEq,Nat.reduceBEq,i64,patV,bV,iD,bD]
   refine⟨hs2,⟨by omega,by simp⟩,hs8,⟨by omega,by simp⟩,?_⟩
   refine call_pure hown rfl rfl ?_
   simp only[zX,Nat.reduceShiftRight,Nat.reduceMod,Nat.reduceLT,Nat.reduceMul,Nat.reduceSub,Int.reduceToNat,Int.reduceNeg,Int.reduceLT,Int.reduceLE,Int.reduceEq,Nat.reduceEqDiff,Nat.reduceAdd,Nat.reduceLeDiff,reduceIte,reduceCtorEq,Nat.reduceBEq,i64,patV,bV,iD,bD,hpr]
   refine callGiveP [3,4] hput ?_ (by simp [refsV,refsV.go,reV_eq,i64,bV,reEl]) (by simp [refsV,refsV.go,reV_eq,i64,bV,reEl]) ?_
   ·exact frz3 (frz_own (ds:=set.map spanC) rfl (cutL (by simp)) (by simp) (.inr rfl)) (frz_own (ds:=kids.map Re.cells) rfl (cutL (by simp)) (by simp) (.inr rfl)) rfl
   simp only[zX,Nat.reduceShiftRight,Nat.reduceMod,Nat.reduceLT,Nat.reduceMul,Nat.reduceSub,Int.reduceToNat,Int.reduceNeg,Int.reduceLT,Int.reduceLE,Int.reduceEq,Nat.reduceEqDiff,Nat.reduceAdd,Nat.reduceLeDiff,reduceIte,reduceCtorEq,Nat.reduceBEq,i64,patV,bV,iD,bD,killO,kill1,Re.cells_eq R,List.map_cons,List.map_nil]
  ·obtain⟨s0,rest,rfl⟩:∃s0 rest,set=s0::rest:=by
    cases set with
    | nil=>simp at h0
    | cons s0 rest=>exact⟨s0,rest,rfl⟩
   have hpr:(0:Int) < ((0 + (rest.length + 1):Nat):Int):=by omega
   have hpe:0 < 0 + (rest.length + 1):=by omega
   have hb0:=(around_in by' 5 (by omega) hb).1
   have hb1:=(around_in by' 5 (by omega) hb).2
   obtain⟨v,hv,hidx⟩:=idx_lit [by',255,256,1114111,1114112] (around by' 5) hb0 hb1 (by intro x hx; simp only[List.mem_cons,List.not_mem_nil,or_false] at hx; rcases hx with rfl | rfl | rfl | rfl | rfl <;> first | exact hb | decide)
   simp only[List.map_cons,List.map_nil,iD] at hidx
   rw[hk] at hown
   refine⟨⟨(pr (.mk op ((s0.1,v)::rest) kids mn mx mode n neg)).1,caps,runes⟩,key _ _ _ (mk_small (by simp only[List.length_cons] at n3 ⊢; omega) (by omega) ⟨n5,n6,n7,n8,n9⟩ (by intro s hs; rcases List.mem_cons.1 hs with rfl | hs; exact⟨(n10 s0 (by simp)).1,hv⟩; exact n10 s (by simp [hs])) n2') (by simp only[Re.size]; omega) hcaps,?_⟩
   have hput:=hput (.mk op ((s0.1,v)::rest) kids mn mx mode n neg)
   rw[reV_mk] at hput
   simp only[iD,bD] at hput
   generalize pr (.mk op ((s0.1,v)::rest) kids mn mx mode n neg)=R at *
   obtain⟨R,E⟩:=R
   refine fn_ok func33 rfl ntmps33 results33 rfl 0 2199023259423 (by simp) (by simp) ?_
   simp only[zX,Nat.reduceShiftRight,Nat.reduceMod,Nat.reduceLT,Nat.reduceMul,Nat.reduceSub,Int.reduceToNat,Int.reduceNeg,Int.reduceLT,Int.reduceLE,Int.reduceEq,Nat.reduceEqDiff,Nat.reduceAdd,Nat.reduceLeDiff,reduceIte,reduceCtorEq,Nat.reduceBEq,i64,patV,Re.cells_eq re,bV,iD,bD,List.map_cons,List.map_nil]
   refine call_pure hpaths (by simp [refsV,refsV.go,reV_eq,i64,bV,reEl]) rfl ?_
   simp only[zX,Nat.reduceShiftRight,Nat.reduceMod,Nat.reduceLT,Nat.reduceMul,Nat.reduceSub,Int.reduceToNat,Int.reduceNeg,Int.reduceLT,Int.reduceLE,Int.reduceEq,Nat.reduceEqDiff,Nat.reduceAdd,Nat.reduceLeDiff,reduceIte,reduceCtorEq,Nat.reduceBEq,i64,pathsD,List.length_map,hpl]
   refine call_pure har (by simp [refsV,refsV.go,reV_eq,i64,bV,reEl]) (by simp [refsV,refsV.go,reV_eq,i64,bV,reEl]) ?_
   simp only[zX,Nat.reduceShiftRight,Nat.reduceMod,Nat.reduceLT,Nat.reduceMul,Nat.reduceSub,Int.reduceToNat,Int.reduceNeg,Int.reduceLT,Int.reduceLE,Int.reduceEq,Nat.reduceEqDiff,Nat.reduceAdd,Nat.reduceLeDiff,reduceIte,reduceCtorEq,Nat.reduceBEq,i64,pathsD,hin,hpl,hpath,pathD]
   refine call_pure hat (by simp [refsV,refsV.go,reV_eq,i64,bV,reEl]) (by simp [refsV,refsV.go,reV_eq,i64,bV,reEl]) ?_
   simp only[zX,Nat.reduceShiftRight,Nat.reduceMod,Nat.reduceLT,Nat.reduceMul,Nat.reduceSub,Int.reduceToNat,Int.reduceNeg,Int.reduceLT,Int.reduceLE,Int.reduceEq,Nat.reduceEqDiff,Nat.reduceAdd,Nat.reduceLeDiff,reduceIte,reduceCtorEq,Nat.reduceBEq,i64,patV,bV,iD,bD]
   refine⟨hs2,⟨by simp only[List.length_cons] at n3 ⊢; omega,by simp⟩,hs8,⟨by omega,by simp⟩,?_⟩
   refine call_pure hown rfl rfl ?_
   simp only[zX,Nat.reduceShiftRight,Nat.reduceMod,Nat.reduceLT,Nat.reduceMul,Nat.reduceSub,Int.reduceToNat,Int.reduceNeg,Int.reduceLT,Int.reduceLE,Int.reduceEq,Nat.reduceEqDiff,Nat.reduceAdd,Nat.reduceLeDiff,reduceIte,reduceCtorEq,Nat.reduceBEq,i64,patV,bV,iD,bD,List.length_cons,hpr,List.map_cons]
   refine draw_c mix [10] [] (by rfl) ?_
   simp only[zX,Nat.reduceShiftRight,Nat.reduceMod,Nat.reduceLT,Nat.reduceMul,Nat.reduceSub,Int.reduceToNat,Int.reduceNeg,Int.reduceLT,Int.reduceLE,Int.reduceEq,Nat.reduceEqDiff,Nat.reduceAdd,Nat.reduceLeDiff,reduceIte,reduceCtorEq,Nat.reduceBEq,i64,patV,bV,iD,bD,List.length_cons,hpr,hpe,List.map_cons]
   refine callC_pure (around_ok by' 5 (by omega) hb) rfl rfl ?_
   simp only[zX,Nat.reduceShiftRight,Nat.reduceMod,Nat.reduceLT,Nat.reduceMul,Nat.reduceSub,Int.reduceToNat,Int.reduceNeg,Int.reduceLT,Int.reduceLE,Int.reduceEq,Nat.reduceEqDiff,Nat.reduceAdd,Nat.reduceLeDiff,reduceIte,reduceCtorEq,Nat.reduceBEq,i64,patV,bV,iD,bD,List.length_cons,hpr,hpe,hb0,hb1,hidx,List.map_cons,spanC]
   refine⟨by omega,?_⟩
   refine callGiveP [3,4] hput ?_ (by simp [refsV,refsV.go,reV_eq,i64,bV,reEl]) (by simp [refsV,refsV.go,reV_eq,i64,bV,reEl]) ?_
   ·exact frz3 (frz_own (ds:=((s0.1,v)::rest).map spanC) rfl (by rw[List.drop_zero,List.take_of_length_le (by simp)]; simp [spanC,iD]) (by simp) (.inr rfl)) (frz_own (ds:=kids.map Re.cells) rfl (cutL (by simp)) (by simp) (.inr rfl)) rfl
   simp only[zX,Nat.reduceShiftRight,Nat.reduceMod,Nat.reduceLT,Nat.reduceMul,Nat.reduceSub,Int.reduceToNat,Int.reduceNeg,Int.reduceLT,Int.reduceLE,Int.reduceEq,Nat.reduceEqDiff,Nat.reduceAdd,Nat.reduceLeDiff,reduceIte,reduceCtorEq,Nat.reduceBEq,i64,patV,bV,iD,bD,killO,kill1,Re.cells_eq R,List.map_cons,List.map_nil]
 ·
  rw[hk] at hown
  have hb0:=(around_in by' 4 (by omega) hb).1
  have hb1:=(around_in by' 4 (by omega) hb).2
  obtain⟨v,hv,hidx⟩:=idx_lit [by',32,33,-1] (around by' 4) hb0 hb1 (by intro x hx; simp only[List.mem_cons,List.not_mem_nil,or_false] at hx; rcases hx with rfl | rfl | rfl | rfl <;> first | exact hb | decide)
  simp only[List.map_cons,List.map_nil,iD] at hidx
  refine⟨⟨(pr (.mk op set kids v mx mode n neg)).1,caps,runes⟩,key _ _ _ (mk_small (by omega) (by omega) ⟨n5,hv,n7,n8,n9⟩ n10 n2') (by simp only[Re.size]; omega) hcaps,?_⟩
  have hput:=hput (.mk op set kids v mx mode n neg)
  rw[reV_mk] at hput
  simp only[iD,bD] at hput
  generalize pr (.mk op set kids v mx mode n neg)=R at *
  obtain⟨R,E⟩:=R
  refine fn_ok func33 rfl ntmps33 results33 rfl 0 2199023259423 (by simp) (by simp) ?_
  simp only[zX,Nat.reduceShiftRight,Nat.reduceMod,Nat.reduceLT,Nat.reduceMul,Nat.reduceSub,Int.reduceToNat,Int.reduceNeg,Int.reduceLT,Int.reduceLE,Int.reduceEq,Nat.reduceEqDiff,Nat.reduceAdd,Nat.reduceLeDiff,reduceIte,reduceCtorEq,Nat.reduceBEq,i64,patV,Re.cells_eq re,bV,iD,bD,List.map_cons,List.map_nil]
  refine call_pure hpaths (by simp [refsV,refsV.go,reV_eq,i64,bV,reEl]) rfl ?_
  simp only[zX,Nat.reduceShiftRight,Nat.reduceMod,Nat.reduceLT,Nat.reduceMul,Nat.reduceSub,Int.reduceToNat,Int.reduceNeg,Int.reduceLT,Int.reduceLE,Int.reduceEq,Nat.reduceEqDiff,Nat.reduceAdd,Nat.reduceLeDiff,reduceIte,reduceCtorEq,Nat.reduceBEq,i64,pathsD,List.length_map,hpl]
  refine call_pure har (by simp [refsV,refsV.go,reV_eq,i64,bV,reEl]) (by simp [refsV,refsV.go,reV_eq,i64,bV,reEl]) ?_
  simp only[zX,Nat.reduceShiftRight,Nat.reduceMod,Nat.reduceLT,Nat.reduceMul,Nat.reduceSub,Int.reduceToNat,Int.reduceNeg,Int.reduceLT,Int.reduceLE,Int.reduceEq,Nat.reduceEqDiff,Nat.reduceAdd,Nat.reduceLeDiff,reduceIte,reduceCtorEq,Nat.reduceBEq,i64,pathsD,hin,hpl,hpath,pathD]
  refine call_pure hat (by simp [refsV,refsV.go,reV_eq,i64,bV,reEl]) (by simp [refsV,refsV.go,reV_eq,i64,bV,reEl]) ?_
  simp only[zX,Nat.reduceShiftRight,Nat.reduceMod,Nat.reduceLT,Nat.reduceMul,Nat.reduceSub,Int.reduceToNat,Int.reduceNeg,Int.reduceLT,Int.reduceLE,Int.reduceEq,Nat.reduceEqDiff,Nat.reduceAdd,Nat.reduceLeDiff,reduceIte,reduceCtorEq,Nat.reduceBEq,i64,patV,bV,iD,bD]
  refine⟨hs2,⟨by omega,by simp⟩,hs8,⟨by omega,by simp⟩,?_⟩
  refine call_pure hown rfl rfl ?_
  simp only[zX,Nat.reduceShiftRight,Nat.reduceMod,Nat.reduceLT,Nat.reduceMul,Nat.reduceSub,Int.reduceToNat,Int.reduceNeg,Int.reduceLT,Int.reduceLE,Int.reduceEq,Nat.reduceEqDiff,Nat.reduceAdd,Nat.reduceLeDiff,reduceIte,reduceCtorEq,Nat.reduceBEq,i64,patV,bV,iD,bD]
  refine call_pure (around_ok by' 4 (by omega) hb) rfl rfl ?_
  simp only[zX,Nat.reduceShiftRight,Nat.reduceMod,Nat.reduceLT,Nat.reduceMul,Nat.reduceSub,Int.reduceToNat,Int.reduceNeg,Int.reduceLT,Int.reduceLE,Int.reduceEq,Nat.reduceEqDiff,Nat.reduceAdd,Nat.reduceLeDiff,reduceIte,reduceCtorEq,Nat.reduceBEq,i64,patV,bV,iD,bD,hb0,hb1,hidx]
  refine⟨by omega,?_⟩
  refine callGiveP [3,4] hput ?_ (by simp [refsV,refsV.go,reV_eq,i64,bV,reEl]) (by simp [refsV,refsV.go,reV_eq,i64,bV,reEl]) ?_
  ·exact frz3 (frz_own (ds:=set.map spanC) rfl (cutL (by simp)) (by simp) (.inr rfl)) (frz_own (ds:=kids.map Re.cells) rfl (cutL (by simp)) (by simp) (.inr rfl)) rfl
  simp only[zX,Nat.reduceShiftRight,Nat.reduceMod,Nat.reduceLT,Nat.reduceMul,Nat.reduceSub,Int.reduceToNat,Int.reduceNeg,Int.reduceLT,Int.reduceLE,Int.reduceEq,Nat.reduceEqDiff,Nat.reduceAdd,Nat.reduceLeDiff,reduceIte,reduceCtorEq,Nat.reduceBEq,i64,patV,bV,iD,bD,killO,kill1,Re.cells_eq R,List.map_cons,List.map_nil]
 ·
  rw[hk] at hown
  have hb0:=(around_in by' 6 (by omega) hb).1
  have hb1:=(around_in by' 6 (by omega) hb).2
  obtain⟨v,hv,hidx⟩:=idx_lit [by',32,33,-1,-2,0] (around by' 6) hb0 hb1 (by intro x hx; simp only[List.mem_cons,List.not_mem_nil,or_false] at hx; rcases hx with rfl | rfl | rfl | rfl | rfl | rfl <;> first | exact hb | decide)
  simp only[List.map_cons,List.map_nil,iD] at hidx
  refine⟨⟨(pr (.mk op set kids mn v mode n neg)).1,caps,runes⟩,key _ _ _ (mk_small (by omega) (by omega) ⟨n5,n6,hv,n8,n9⟩ n10 n2') (by simp only[Re.size]; omega) hcaps,?_⟩
  have hput:=hput (.mk op set kids mn v mode n neg)
  rw[reV_mk] at hput
  simp only[iD,bD] at hput
  generalize pr (.mk op set kids mn v mode n neg)=R at *
  obtain⟨R,E⟩:=R
  refine fn_ok func33 rfl ntmps33 results33 rfl 0 2199023259423 (by simp) (by simp) ?_
  simp only[zX,Nat.reduceShiftRight,Nat.reduceMod,Nat.reduceLT,Nat.reduceMul,Nat.reduceSub,Int.reduceToNat,Int.reduceNeg,Int.reduceLT,Int.reduceLE,Int.reduceEq,Nat.reduceEqDiff,Nat.reduceAdd,Nat.reduceLeDiff,reduceIte,reduceCtorEq,Nat.reduceBEq,i64,patV,Re.cells_eq re,bV,iD,bD,List.map_cons,List.map_nil]
  refine call_pure hpaths (by simp [refsV,refsV.go,reV_eq,i64,bV,reEl]) rfl ?_
  simp only[zX,Nat.reduceShiftRight,Nat.reduceMod,Nat.reduceLT,Nat.reduceMul,Nat.reduceSub,Int.reduceToNat,Int.reduceNeg,Int.reduceLT,Int.reduceLE,Int.reduceEq,Nat.reduceEqDiff,Nat.reduceAdd,Nat.reduceLeDiff,reduceIte,reduceCtorEq,Nat.reduceBEq,i64,pathsD,List.length_map,hpl]
  refine call_pure har (by simp [refsV,refsV.go,reV_eq,i64,bV,reEl]) (by simp [refsV,refsV.go,reV_eq,i64,bV,reEl]) ?_
  simp only[zX,Nat.reduceShiftRight,Nat.reduceMod,Nat.reduceLT,Nat.reduceMul,Nat.reduceSub,Int.reduceToNat,Int.reduceNeg,Int.reduceLT,Int.reduceLE,Int.reduceEq,Nat.reduceEqDiff,Nat.reduceAdd,Nat.reduceLeDiff,reduceIte,reduceCtorEq,Nat.reduceBEq,i64,pathsD,hin,hpl,hpath,pathD]
  refine call_pure hat (by simp [refsV,refsV.go,reV_eq,i64,bV,reEl]) (by simp [refsV,refsV.go,reV_eq,i64,bV,reEl]) ?_
  simp only[zX,Nat.reduceShiftRight,Nat.reduceMod,Nat.reduceLT,Nat.reduceMul,Nat.reduceSub,Int.reduceToNat,Int.reduceNeg,Int.reduceLT,Int.reduceLE,Int.reduceEq,Nat.reduceEqDiff,Nat.reduceAdd,Nat.reduceLeDiff,reduceIte,reduceCtorEq,Nat.reduceBEq,i64,patV,bV,iD,bD]
  refine⟨hs2,⟨by omega,by simp⟩,hs8,⟨by omega,by simp⟩,?_⟩
  refine call_pure hown rfl rfl ?_
  simp only[zX,Nat.reduceShiftRight,Nat.reduceMod,Nat.reduceLT,Nat.reduceMul,Nat.reduceSub,Int.reduceToNat,Int.reduceNeg,Int.reduceLT,Int.reduceLE,Int.reduceEq,Nat.reduceEqDiff,Nat.reduceAdd,Nat.reduceLeDiff,reduceIte,reduceCtorEq,Nat.reduceBEq,i64,patV,bV,iD,bD]
  refine call_pure (around_ok by' 6 (by omega) hb) rfl rfl ?_
  simp only[zX,Nat.reduceShiftRight,Nat.reduceMod,Nat.reduceLT,Nat.reduceMul,Nat.reduceSub,Int.reduceToNat,Int.reduceNeg,Int.reduceLT,Int.reduceLE,Int.reduceEq,Nat.reduceEqDiff,Nat.reduceAdd,Nat.reduceLeDiff,reduceIte,reduceCtorEq,Nat.reduceBEq,i64,patV,bV,iD,bD,hb0,hb1,hidx]
  refine⟨by omega,?_⟩
  refine callGiveP [3,4] hput ?_ (by simp [refsV,refsV.go,reV_eq,i64,bV,reEl]) (by simp [refsV,refsV.go,reV_eq,i64,bV,reEl]) ?_
  ·exact frz3 (frz_own (ds:=set.map spanC) rfl (cutL (by simp)) (by simp) (.inr rfl)) (frz_own (ds:=kids.map Re.cells) rfl (cutL (by simp)) (by simp) (.inr rfl)) rfl
  simp only[zX,Nat.reduceShiftRight,Nat.reduceMod,Nat.reduceLT,Nat.reduceMul,Nat.reduceSub,Int.reduceToNat,Int.reduceNeg,Int.reduceLT,Int.reduceLE,Int.reduceEq,Nat.reduceEqDiff,Nat.reduceAdd,Nat.reduceLeDiff,reduceIte,reduceCtorEq,Nat.reduceBEq,i64,patV,bV,iD,bD,killO,kill1,Re.cells_eq R,List.map_cons,List.map_nil]
 ·
  rw[hk] at hown
  have hb0:=(around_in by' 4 (by omega) hb).1
  have hb1:=(around_in by' 4 (by omega) hb).2
  obtain⟨v,hv,hidx⟩:=idx_lit [by',2,3,-1] (around by' 4) hb0 hb1 (by intro x hx; simp only[List.mem_cons,List.not_mem_nil,or_false] at hx; rcases hx with rfl | rfl | rfl | rfl <;> first | exact hb | decide)
  simp only[List.map_cons,List.map_nil,iD] at hidx
  refine⟨⟨(pr (.mk op set kids mn mx v n neg)).1,caps,runes⟩,key _ _ _ (mk_small (by omega) (by omega) ⟨n5,n6,n7,hv,n9⟩ n10 n2') (by simp only[Re.size]; omega) hcaps,?_⟩
  have hput:=hput (.mk op set kids mn mx v n neg)
  rw[reV_mk] at hput
  simp only[iD,bD] at hput
  generalize pr (.mk op set kids mn mx v n neg)=R at *
  obtain⟨R,E⟩:=R
  refine fn_ok func33 rfl ntmps33 results33 rfl 0 2199023259423 (by simp) (by simp) ?_
  simp only[zX,Nat.reduceShiftRight,Nat.reduceMod,Nat.reduceLT,Nat.reduceMul,Nat.reduceSub,Int.reduceToNat,Int.reduceNeg,Int.reduceLT,Int.reduceLE,Int.reduceEq,Nat.reduceEqDiff,Nat.reduceAdd,Nat.reduceLeDiff,reduceIte,reduceCtorEq,Nat.reduceBEq,i64,patV,Re.cells_eq re,bV,iD,bD,List.map_cons,List.map_nil]
  refine call_pure hpaths (by simp [refsV,refsV.go,reV_eq,i64,bV,reEl]) rfl ?_
  simp only[zX,Nat.reduceShiftRight,Nat.reduceMod,Nat.reduceLT,Nat.reduceMul,Nat.reduceSub,Int.reduceToNat,Int.reduceNeg,Int.reduceLT,Int.reduceLE,Int.reduceEq,Nat.reduceEqDiff,Nat.reduceAdd,Nat.reduceLeDiff,reduceIte,reduceCtorEq,Nat.reduceBEq,i64,pathsD,List.length_map,hpl]
  refine call_pure har (by simp [refsV,refsV.go,reV_eq,i64,bV,reEl]) (by simp [refsV,refsV.go,reV_eq,i64,bV,reEl]) ?_
  simp only[zX,Nat.reduceShiftRight,Nat.reduceMod,Nat.reduceLT,Nat.reduceMul,Nat.reduceSub,Int.reduceToNat,Int.reduceNeg,Int.reduceLT,Int.reduceLE,Int.reduceEq,Nat.reduceEqDiff,Nat.reduceAdd,Nat.reduceLeDiff,reduceIte,reduceCtorEq,Nat.reduceBEq,i64,pathsD,hin,hpl,hpath,pathD]
  refine call_pure hat (by simp [refsV,refsV.go,reV_eq,i64,bV,reEl]) (by simp [refsV,refsV.go,reV_eq,i64,bV,reEl]) ?_
  simp only[zX,Nat.reduceShiftRight,Nat.reduceMod,Nat.reduceLT,Nat.reduceMul,Nat.reduceSub,Int.reduceToNat,Int.reduceNeg,Int.reduceLT,Int.reduceLE,Int.reduceEq,Nat.reduceEqDiff,Nat.reduceAdd,Nat.reduceLeDiff,reduceIte,reduceCtorEq,Nat.reduceBEq,i64,patV,bV,iD,bD]
  refine⟨hs2,⟨by omega,by simp⟩,hs8,⟨by omega,by simp⟩,?_⟩
  refine call_pure hown rfl rfl ?_
  simp only[zX,Nat.reduceShiftRight,Nat.reduceMod,Nat.reduceLT,Nat.reduceMul,Nat.reduceSub,Int.reduceToNat,Int.reduceNeg,Int.reduceLT,Int.reduceLE,Int.reduceEq,Nat.reduceEqDiff,Nat.reduceAdd,Nat.reduceLeDiff,reduceIte,reduceCtorEq,Nat.reduceBEq,i64,patV,bV,iD,bD]
  refine call_pure (around_ok by' 4 (by omega) hb) rfl rfl ?_
  simp only[zX,Nat.reduceShiftRight,Nat.reduceMod,Nat.reduceLT,Nat.reduceMul,Nat.reduceSub,Int.reduceToNat,Int.reduceNeg,Int.reduceLT,Int.reduceLE,Int.reduceEq,Nat.reduceEqDiff,Nat.reduceAdd,Nat.reduceLeDiff,reduceIte,reduceCtorEq,Nat.reduceBEq,i64,patV,bV,iD,bD,hb0,hb1,hidx]
  refine⟨by omega,?_⟩
  refine callGiveP [3,4] hput ?_ (by simp [refsV,refsV.go,reV_eq,i64,bV,reEl]) (by simp [refsV,refsV.go,reV_eq,i64,bV,reEl]) ?_
  ·exact frz3 (frz_own (ds:=set.map spanC) rfl (cutL (by simp)) (by simp) (.inr rfl)) (frz_own (ds:=kids.map Re.cells) rfl (cutL (by simp)) (by simp) (.inr rfl)) rfl
  simp only[zX,Nat.reduceShiftRight,Nat.reduceMod,Nat.reduceLT,Nat.reduceMul,Nat.reduceSub,Int.reduceToNat,Int.reduceNeg,Int.reduceLT,Int.reduceLE,Int.reduceEq,Nat.reduceEqDiff,Nat.reduceAdd,Nat.reduceLeDiff,reduceIte,reduceCtorEq,Nat.reduceBEq,i64,patV,bV,iD,bD,killO,kill1,Re.cells_eq R,List.map_cons,List.map_nil]
 ·
  rw[hk] at hown
  have hb0:=(around_in by' 5 (by omega) hb).1
  have hb1:=(around_in by' 5 (by omega) hb).2
  obtain⟨v,hv,hidx⟩:=idx_lit [by',0,1,5,6] (around by' 5) hb0 hb1 (by intro x hx; simp only[List.mem_cons,List.not_mem_nil,or_false] at hx; rcases hx with rfl | rfl | rfl | rfl | rfl <;> first | exact hb | decide)
  simp only[List.map_cons,List.map_nil,iD] at hidx
  refine⟨⟨(pr (.mk op set kids mn mx mode v neg)).1,caps,runes⟩,key _ _ _ (mk_small (by omega) (by omega) ⟨n5,n6,n7,n8,hv⟩ n10 n2') (by simp only[Re.size]; omega) hcaps,?_⟩
  have hput:=hput (.mk op set kids mn mx mode v neg)
  rw[reV_mk] at hput
  simp only[iD,bD] at hput
  generalize pr (.mk op set kids mn mx mode v neg)=R at *
  obtain⟨R,E⟩:=R
  refine fn_ok func33 rfl ntmps33 results33 rfl 0 2199023259423 (by simp) (by simp) ?_
  simp only[zX,Nat.reduceShiftRight,Nat.reduceMod,Nat.reduceLT,Nat.reduceMul,Nat.reduceSub,Int.reduceToNat,Int.reduceNeg,Int.reduceLT,Int.reduceLE,Int.reduceEq,Nat.reduceEqDiff,Nat.reduceAdd,Nat.reduceLeDiff,reduceIte,reduceCtorEq,Nat.reduceBEq,i64,patV,Re.cells_eq re,bV,iD,bD,List.map_cons,List.map_nil]
  refine call_pure hpaths (by simp [refsV,refsV.go,reV_eq,i64,bV,reEl]) rfl ?_
  simp only[zX,Nat.reduceShiftRight,Nat.reduceMod,Nat.reduceLT,Nat.reduceMul,Nat.reduceSub,Int.reduceToNat,Int.reduceNeg,Int.reduceLT,Int.reduceLE,Int.reduceEq,Nat.reduceEqDiff,Nat.reduceAdd,Nat.reduceLeDiff,reduceIte,reduceCtorEq,Nat.reduceBEq,i64,pathsD,List.length_map,hpl]
  refine call_pure har (by simp [refsV,refsV.go,reV_eq,i64,bV,reEl]) (by simp [refsV,refsV.go,reV_eq,i64,bV,reEl]) ?_
  simp only[zX,Nat.reduceShiftRight,Nat.reduceMod,Nat.reduceLT,Nat.reduceMul,Nat.reduceSub,Int.reduceToNat,Int.reduceNeg,Int.reduceLT,Int.reduceLE,Int.reduceEq,Nat.reduceEqDiff,Nat.reduceAdd,Nat.reduceLeDiff,reduceIte,reduceCtorEq,Nat.reduceBEq,i64,pathsD,hin,hpl,hpath,pathD]
  refine call_pure hat (by simp [refsV,refsV.go,reV_eq,i64,bV,reEl]) (by simp [refsV,refsV.go,reV_eq,i64,bV,reEl]) ?_
  simp only[zX,Nat.reduceShiftRight,Nat.reduceMod,Nat.reduceLT,Nat.reduceMul,Nat.reduceSub,Int.reduceToNat,Int.reduceNeg,Int.reduceLT,Int.reduceLE,Int.reduceEq,Nat.reduceEqDiff,Nat.reduceAdd,Nat.reduceLeDiff,reduceIte,reduceCtorEq,Nat.reduceBEq,i64,patV,bV,iD,bD]
  refine⟨hs2,⟨by omega,by simp⟩,hs8,⟨by omega,by simp⟩,?_⟩
  refine call_pure hown rfl rfl ?_
  simp only[zX,Nat.reduceShiftRight,Nat.reduceMod,Nat.reduceLT,Nat.reduceMul,Nat.reduceSub,Int.reduceToNat,Int.reduceNeg,Int.reduceLT,Int.reduceLE,Int.reduceEq,Nat.reduceEqDiff,Nat.reduceAdd,Nat.reduceLeDiff,reduceIte,reduceCtorEq,Nat.reduceBEq,i64,patV,bV,iD,bD]
  refine call_pure (around_ok by' 5 (by omega) hb) rfl rfl ?_
  simp only[zX,Nat.reduceShiftRight,Nat.reduceMod,Nat.reduceLT,Nat.reduceMul,Nat.reduceSub,Int.reduceToNat,Int.reduceNeg,Int.reduceLT,Int.reduceLE,Int.reduceEq,Nat.reduceEqDiff,Nat.reduceAdd,Nat.reduceLeDiff,reduceIte,reduceCtorEq,Nat.reduceBEq,i64,patV,bV,iD,bD,hb0,hb1,hidx]
  refine⟨by omega,?_⟩
  refine callGiveP [3,4] hput ?_ (by simp [refsV,refsV.go,reV_eq,i64,bV,reEl]) (by simp [refsV,refsV.go,reV_eq,i64,bV,reEl]) ?_
  ·exact frz3 (frz_own (ds:=set.map spanC) rfl (cutL (by simp)) (by simp) (.inr rfl)) (frz_own (ds:=kids.map Re.cells) rfl (cutL (by simp)) (by simp) (.inr rfl)) rfl
  simp only[zX,Nat.reduceShiftRight,Nat.reduceMod,Nat.reduceLT,Nat.reduceMul,Nat.reduceSub,Int.reduceToNat,Int.reduceNeg,Int.reduceLT,Int.reduceLE,Int.reduceEq,Nat.reduceEqDiff,Nat.reduceAdd,Nat.reduceLeDiff,reduceIte,reduceCtorEq,Nat.reduceBEq,i64,patV,bV,iD,bD,killO,kill1,Re.cells_eq R,List.map_cons,List.map_nil]
 ·
  rw[hk] at hown
  refine⟨⟨(pr (.mk op set kids mn mx mode n (!neg))).1,caps,runes⟩,key _ _ _ (mk_small (by omega) (by omega) ⟨n5,n6,n7,n8,n9⟩ n10 n2') (by simp only[Re.size]; omega) hcaps,?_⟩
  have hput:=hput (.mk op set kids mn mx mode n (!neg))
  rw[reV_mk] at hput
  simp only[iD,bD] at hput
  generalize pr (.mk op set kids mn mx mode n (!neg))=R at *
  obtain⟨R,E⟩:=R
  refine fn_ok func33 rfl ntmps33 results33 rfl 0 2199023259423 (by simp) (by simp) ?_
  simp only[zX,Nat.reduceShiftRight,Nat.reduceMod,Nat.reduceLT,Nat.reduceMul,Nat.reduceSub,Int.reduceToNat,Int.reduceNeg,Int.reduceLT,Int.reduceLE,Int.reduceEq,Nat.reduceEqDiff,Nat.reduceAdd,Nat.reduceLeDiff,reduceIte,reduceCtorEq,Nat.reduceBEq,i64,patV,Re.cells_eq re,bV,iD,bD,List.map_cons,List.map_nil]
  refine call_pure hpaths (by simp [refsV,refsV.go,reV_eq,i64,bV,reEl]) rfl ?_
  simp only[zX,Nat.reduceShiftRight,Nat.reduceMod,Nat.reduceLT,Nat.reduceMul,Nat.reduceSub,Int.reduceToNat,Int.reduceNeg,Int.reduceLT,Int.reduceLE,Int.reduceEq,Nat.reduceEqDiff,Nat.reduceAdd,Nat.reduceLeDiff,reduceIte,reduceCtorEq,Nat.reduceBEq,i64,pathsD,List.length_map,hpl]
  refine call_pure har (by simp [refsV,refsV.go,reV_eq,i64,bV,reEl]) (by simp [refsV,refsV.go,reV_eq,i64,bV,reEl]) ?_
  simp only[zX,Nat.reduceShiftRight,Nat.reduceMod,Nat.reduceLT,Nat.reduceMul,Nat.reduceSub,Int.reduceToNat,Int.reduceNeg,Int.reduceLT,Int.reduceLE,Int.reduceEq,Nat.reduceEqDiff,Nat.reduceAdd,Nat.reduceLeDiff,reduceIte,reduceCtorEq,Nat.reduceBEq,i64,pathsD,hin,hpl,hpath,pathD]
  refine call_pure hat (by simp [refsV,refsV.go,reV_eq,i64,bV,reEl]) (by simp [refsV,refsV.go,reV_eq,i64,bV,reEl]) ?_
  simp only[zX,Nat.reduceShiftRight,Nat.reduceMod,Nat.reduceLT,Nat.reduceMul,Nat.reduceSub,Int.reduceToNat,Int.reduceNeg,Int.reduceLT,Int.reduceLE,Int.reduceEq,Nat.reduceEqDiff,Nat.reduceAdd,Nat.reduceLeDiff,reduceIte,reduceCtorEq,Nat.reduceBEq,i64,patV,bV,iD,bD]
  refine⟨hs2,⟨by omega,by simp⟩,hs8,⟨by omega,by simp⟩,?_⟩
  refine call_pure hown rfl rfl ?_
  simp only[zX,Nat.reduceShiftRight,Nat.reduceMod,Nat.reduceLT,Nat.reduceMul,Nat.reduceSub,Int.reduceToNat,Int.reduceNeg,Int.reduceLT,Int.reduceLE,Int.reduceEq,Nat.reduceEqDiff,Nat.reduceAdd,Nat.reduceLeDiff,reduceIte,reduceCtorEq,Nat.reduceBEq,i64,patV,bV,iD,bD]
  refine callGiveP [3,4] hput ?_ (by simp [refsV,refsV.go,reV_eq,i64,bV,reEl]) (by simp [refsV,refsV.go,reV_eq,i64,bV,reEl]) ?_
  ·exact frz3 (frz_own (ds:=set.map spanC) rfl (cutL (by simp)) (by simp) (.inr rfl)) (frz_own (ds:=kids.map Re.cells) rfl (cutL (by simp)) (by simp) (.inr rfl)) rfl
  simp only[zX,Nat.reduceShiftRight,Nat.reduceMod,Nat.reduceLT,Nat.reduceMul,Nat.reduceSub,Int.reduceToNat,Int.reduceNeg,Int.reduceLT,Int.reduceLE,Int.reduceEq,Nat.reduceEqDiff,Nat.reduceAdd,Nat.reduceLeDiff,reduceIte,reduceCtorEq,Nat.reduceBEq,i64,patV,bV,iD,bD,killO,kill1,Re.cells_eq R,List.map_cons,List.map_nil]
 ·
  rw[hk] at hown
  refine⟨⟨(pr (.mk op set (kids++[zeroRe]) mn mx mode n neg)).1,caps,runes⟩,key _ _ _ (mk_small (by omega) (by simp; omega) ⟨n5,n6,n7,n8,n9⟩ n10 (by intro k hk; rcases List.mem_append.1 hk with hk | hk; exact n2' k hk; rw[List.mem_singleton.1 hk]; exact zero_every _)) (by simp only[Re.size,Re.sizeL_append,Re.sizeL,zeroRe]; omega) hcaps,?_⟩
  have hput:=hput (.mk op set (kids++[zeroRe]) mn mx mode n neg)
  rw[reV_mk] at hput
  simp only[iD,bD] at hput
  generalize pr (.mk op set (kids++[zeroRe]) mn mx mode n neg)=R at *
  obtain⟨R,E⟩:=R
  refine fn_ok func33 rfl ntmps33 results33 rfl 0 2199023259423 (by simp) (by simp) ?_
  simp only[zX,Nat.reduceShiftRight,Nat.reduceMod,Nat.reduceLT,Nat.reduceMul,Nat.reduceSub,Int.reduceToNat,Int.reduceNeg,Int.reduceLT,Int.reduceLE,Int.reduceEq,Nat.reduceEqDiff,Nat.reduceAdd,Nat.reduceLeDiff,reduceIte,reduceCtorEq,Nat.reduceBEq,i64,patV,Re.cells_eq re,bV,iD,bD,List.map_cons,List.map_nil]
  refine call_pure hpaths (by simp [refsV,refsV.go,reV_eq,i64,bV,reEl]) rfl ?_
  simp only[zX,Nat.reduceShiftRight,Nat.reduceMod,Nat.reduceLT,Nat.reduceMul,Nat.reduceSub,Int.reduceToNat,Int.reduceNeg,Int.reduceLT,Int.reduceLE,Int.reduceEq,Nat.reduceEqDiff,Nat.reduceAdd,Nat.reduceLeDiff,reduceIte,reduceCtorEq,Nat.reduceBEq,i64,pathsD,List.length_map,hpl]
  refine call_pure har (by simp [refsV,refsV.go,reV_eq,i64,bV,reEl]) (by simp [refsV,refsV.go,reV_eq,i64,bV,reEl]) ?_
  simp only[zX,Nat.reduceShiftRight,Nat.reduceMod,Nat.reduceLT,Nat.reduceMul,Nat.reduceSub,Int.reduceToNat,Int.reduceNeg,Int.reduceLT,Int.reduceLE,Int.reduceEq,Nat.reduceEqDiff,Nat.reduceAdd,Nat.reduceLeDiff,reduceIte,reduceCtorEq,Nat.reduceBEq,i64,pathsD,hin,hpl,hpath,pathD]
  refine call_pure hat (by simp [refsV,refsV.go,reV_eq,i64,bV,reEl]) (by simp [refsV,refsV.go,reV_eq,i64,bV,reEl]) ?_
  simp only[zX,Nat.reduceShiftRight,Nat.reduceMod,Nat.reduceLT,Nat.reduceMul,Nat.reduceSub,Int.reduceToNat,Int.reduceNeg,Int.reduceLT,Int.reduceLE,Int.reduceEq,Nat.reduceEqDiff,Nat.reduceAdd,Nat.reduceLeDiff,reduceIte,reduceCtorEq,Nat.reduceBEq,i64,patV,bV,iD,bD]
  refine⟨hs2,⟨by omega,by simp⟩,hs8,⟨by omega,by simp⟩,?_⟩
  refine call_pure hown rfl rfl ?_
  simp only[zX,Nat.reduceShiftRight,Nat.reduceMod,Nat.reduceLT,Nat.reduceMul,Nat.reduceSub,Int.reduceToNat,Int.reduceNeg,Int.reduceLT,Int.reduceLE,Int.reduceEq,Nat.reduceEqDiff,Nat.reduceAdd,Nat.reduceLeDiff,reduceIte,reduceCtorEq,Nat.reduceBEq,i64,patV,bV,iD,bD]
  refine⟨by simp,⟨by simp,by omega⟩,?_⟩
  refine callGiveP [3,4] hput ?_ (by simp [refsV,refsV.go,reV_eq,i64,bV,reEl]) (by simp [refsV,refsV.go,reV_eq,i64,bV,reEl]) ?_
  ·exact frz3 (frz_own (ds:=set.map spanC) rfl (cutL (by simp)) (by simp) (.inr rfl)) (frz_own (ds:=(kids++[zeroRe]).map Re.cells) rfl (by rw[List.drop_zero,List.take_of_length_le (by simp),List.take_of_length_le (by simp)]; simp [zeroRe,Re.cells,Re.cellsL,iD,bD]) (by simp) (.inr rfl)) rfl
  simp only[zX,Nat.reduceShiftRight,Nat.reduceMod,Nat.reduceLT,Nat.reduceMul,Nat.reduceSub,Int.reduceToNat,Int.reduceNeg,Int.reduceLT,Int.reduceLE,Int.reduceEq,Nat.reduceEqDiff,Nat.reduceAdd,Nat.reduceLeDiff,reduceIte,reduceCtorEq,Nat.reduceBEq,i64,patV,bV,iD,bD,killO,kill1,Re.cells_eq R,List.map_cons,List.map_nil]
 ·
  by_cases h0:0 < kids.length
  rotate_left
  ·have hpr:¬(0:Int) < ((0 + kids.length:Nat):Int):=by omega
   rw[hk] at hown
   refine⟨⟨(pr (.mk op set kids mn mx mode n neg)).1,caps,runes⟩,key _ _ _ (mk_small (by omega) (by omega) ⟨n5,n6,n7,n8,n9⟩ n10 n2') (by simp only[Re.size]; omega) hcaps,?_⟩
   have hput:=hput (.mk op set kids mn mx mode n neg)
   rw[reV_mk] at hput
   simp only[iD,bD] at hput
   generalize pr (.mk op set kids mn mx mode n neg)=R at *
   obtain⟨R,E⟩:=R
   refine fn_ok func33 rfl ntmps33 results33 rfl 0 2199023259423 (by simp) (by simp) ?_
   simp only[zX,Nat.reduceShiftRight,Nat.reduceMod,Nat.reduceLT,Nat.reduceMul,Nat.reduceSub,Int.reduceToNat,Int.reduceNeg,Int.reduceLT,Int.reduceLE,Int.reduceEq,Nat.reduceEqDiff,Nat.reduceAdd,Nat.reduceLeDiff,reduceIte,reduceCtorEq,Nat.reduceBEq,i64,patV,Re.cells_eq re,bV,iD,bD,List.map_cons,List.map_nil]
   refine call_pure hpaths (by simp [refsV,refsV.go,reV_eq,i64,bV,reEl]) rfl ?_
   simp only[zX,Nat.reduceShiftRight,Nat.reduceMod,Nat.reduceLT,Nat.reduceMul,Nat.reduceSub,Int.reduceToNat,Int.reduceNeg,Int.reduceLT,Int.reduceLE,Int.reduceEq,Nat.reduceEqDiff,Nat.reduceAdd,Nat.reduceLeDiff,reduceIte,reduceCtorEq,Nat.reduceBEq,i64,pathsD,List.length_map,hpl]
   refine call_pure har (by simp [refsV,refsV.go,reV_eq,i64,bV,reEl]) (by simp [refsV,refsV.go,reV_eq,i64,bV,reEl]) ?_
   simp only[zX,Nat.reduceShiftRight,Nat.reduceMod,Nat.reduceLT,Nat.reduceMul,Nat.reduceSub,Int.reduceToNat,Int.reduceNeg,Int.reduceLT,Int.reduceLE,Int.reduceEq,Nat.reduceEqDiff,Nat.reduceAdd,Nat.reduceLeDiff,reduceIte,reduceCtorEq,Nat.reduceBEq,i64,pathsD,hin,hpl,hpath,pathD]
   refine call_pure hat (by simp [refsV,refsV.go,reV_eq,i64,bV,reEl]) (by simp [refsV,refsV.go,reV_eq,i64,bV,reEl]) ?_
   simp only[zX,Nat.reduceShiftRight,Nat.reduceMod,Nat.reduceLT,Nat.reduceMul,Nat.reduceSub,Int.reduceToNat,Int.reduceNeg,Int.reduceLT,Int.reduceLE,Int.reduceEq,Nat.reduceEqDiff,Nat.reduceAdd,Nat.reduceLeDiff,reduceIte,reduceCtorEq,Nat.reduceBEq,i64,patV,bV,iD,bD]
   refine⟨hs2,⟨by omega,by simp⟩,hs8,⟨by omega,by simp⟩,?_⟩
   refine call_pure hown rfl rfl ?_
   simp only[zX,Nat.reduceShiftRight,Nat.reduceMod,Nat.reduceLT,Nat.reduceMul,Nat.reduceSub,Int.reduceToNat,Int.reduceNeg,Int.reduceLT,Int.reduceLE,Int.reduceEq,Nat.reduceEqDiff,Nat.reduceAdd,Nat.reduceLeDiff,reduceIte,reduceCtorEq,Nat.reduceBEq,i64,patV,bV,iD,bD,hpr]
   refine callGiveP [3,4] hput ?_ (by simp [refsV,refsV.go,reV_eq,i64,bV,reEl]) (by simp [refsV,refsV.go,reV_eq,i64,bV,reEl]) ?_
   ·exact frz3 (frz_own (ds:=set.map spanC) rfl (cutL (by simp)) (by simp) (.inr rfl)) (frz_own (ds:=kids.map Re.cells) rfl (cutL (by simp)) (by simp) (.inr rfl)) rfl
   simp only[zX,Nat.reduceShiftRight,Nat.reduceMod,Nat.reduceLT,Nat.reduceMul,Nat.reduceSub,Int.reduceToNat,Int.reduceNeg,Int.reduceLT,Int.reduceLE,Int.reduceEq,Nat.reduceEqDiff,Nat.reduceAdd,Nat.reduceLeDiff,reduceIte,reduceCtorEq,Nat.reduceBEq,i64,patV,bV,iD,bD,killO,kill1,Re.cells_eq R,List.map_cons,List.map_nil]
  ·have hpr:(0:Int) < ((0 + kids.length:Nat):Int):=by omega
   have hsd:=Re.sizeL_drop kids
   have hle:0 + (0 + kids.length)≤kids.length:=by omega
   rw[hk] at hown
   refine⟨⟨(pr (.mk op set (kids.drop 1) mn mx mode n neg)).1,caps,runes⟩,key _ _ _ (mk_small (by omega) (by simp; omega) ⟨n5,n6,n7,n8,n9⟩ n10 (fun k hk=>n2' k (List.mem_of_mem_drop hk))) (by simp only[Re.size]; omega) hcaps,?_⟩
   have hput:=hput (.mk op set (kids.drop 1) mn mx mode n neg)
   rw[reV_mk] at hput
   simp only[iD,bD] at hput
   generalize pr (.mk op set (kids.drop 1) mn mx mode n neg)=R at *
   obtain⟨R,E⟩:=R
   refine fn_ok func33 rfl ntmps33 results33 rfl 0 2199023259423 (by simp) (by simp) ?_
   simp only[zX,Nat.reduceShiftRight,Nat.reduceMod,Nat.reduceLT,Nat.reduceMul,Nat.reduceSub,Int.reduceToNat,Int.reduceNeg,Int.reduceLT,Int.reduceLE,Int.reduceEq,Nat.reduceEqDiff,Nat.reduceAdd,Nat.reduceLeDiff,reduceIte,reduceCtorEq,Nat.reduceBEq,i64,patV,Re.cells_eq re,bV,iD,bD,List.map_cons,List.map_nil]
   refine call_pure hpaths (by simp [refsV,refsV.go,reV_eq,i64,bV,reEl]) rfl ?_
   simp only[zX,Nat.reduceShiftRight,Nat.reduceMod,Nat.reduceLT,Nat.reduceMul,Nat.reduceSub,Int.reduceToNat,Int.reduceNeg,Int.reduceLT,Int.reduceLE,Int.reduceEq,Nat.reduceEqDiff,Nat.reduceAdd,Nat.reduceLeDiff,reduceIte,reduceCtorEq,Nat.reduceBEq,i64,pathsD,List.length_map,hpl]
   refine call_pure har (by simp [refsV,refsV.go,reV_eq,i64,bV,reEl]) (by simp [refsV,refsV.go,reV_eq,i64,bV,reEl]) ?_
   simp only[zX,Nat.reduceShiftRight,Nat.reduceMod,Nat.reduceLT,Nat.reduceMul,Nat.reduceSub,Int.reduceToNat,Int.reduceNeg,Int.reduceLT,Int.reduceLE,Int.reduceEq,Nat.reduceEqDiff,Nat.reduceAdd,Nat.reduceLeDiff,reduceIte,reduceCtorEq,Nat.reduceBEq,i64,pathsD,hin,hpl,hpath,pathD]
   refine call_pure hat (by simp [refsV,refsV.go,reV_eq,i64,bV,reEl]) (by simp [refsV,refsV.go,reV_eq,i64,bV,reEl]) ?_
   simp only[zX,Nat.reduceShiftRight,Nat.reduceMod,Nat.reduceLT,Nat.reduceMul,Nat.reduceSub,Int.reduceToNat,Int.reduceNeg,Int.reduceLT,Int.reduceLE,Int.reduceEq,Nat.reduceEqDiff,Nat.reduceAdd,Nat.reduceLeDiff,reduceIte,reduceCtorEq,Nat.reduceBEq,i64,patV,bV,iD,bD]
   refine⟨hs2,⟨by omega,by simp⟩,hs8,⟨by omega,by simp⟩,?_⟩
   refine call_pure hown rfl rfl ?_
   simp only[zX,Nat.reduceShiftRight,Nat.reduceMod,Nat.reduceLT,Nat.reduceMul,Nat.reduceSub,Int.reduceToNat,Int.reduceNeg,Int.reduceLT,Int.reduceLE,Int.reduceEq,Nat.reduceEqDiff,Nat.reduceAdd,Nat.reduceLeDiff,reduceIte,reduceCtorEq,Nat.reduceBEq,i64,patV,bV,iD,bD,hpr,hle]
   have hesl:(List.take (0 + kids.length) ((kids.map Re.cells).map (fun x=>x.map V.d))).length=kids.length:=by simp
   rw[hesl]
   refine⟨⟨by omega,by omega⟩,?_⟩
   by_cases h1:(1:Int) < (kids.length:Int)
   ·rw[if_pos h1]
    refine callGiveP [3,4] hput ?_ (by simp [refsV,refsV.go,reV_eq,i64,bV,reEl]) (by simp [refsV,refsV.go,reV_eq,i64,bV,reEl]) ?_
    ·refine frz3 (frz_own (ds:=set.map spanC) rfl (cutL (by simp)) (by simp) (.inr rfl)) (frz_own (ds:=(kids.drop 1).map Re.cells) rfl ?_ ?_ (.inr rfl)) rfl
     ·rw[List.take_of_length_le (by simp)]; simp
     ·simp; omega
    simp only[zX,Nat.reduceShiftRight,Nat.reduceMod,Nat.reduceLT,Nat.reduceMul,Nat.reduceSub,Int.reduceToNat,Int.reduceNeg,Int.reduceLT,Int.reduceLE,Int.reduceEq,Nat.reduceEqDiff,Nat.reduceAdd,Nat.reduceLeDiff,reduceIte,reduceCtorEq,Nat.reduceBEq,i64,patV,bV,iD,bD,killO,kill1,Re.cells_eq R,List.map_cons,List.map_nil]
   ·rw[if_neg h1]
    have hd1:kids.drop 1=[]:=List.drop_of_length_le (by omega)
    rw[hd1] at hput
    refine callGiveP [3,4] hput ?_ (by simp [refsV,refsV.go,reV_eq,i64,bV,reEl]) (by simp [refsV,refsV.go,reV_eq,i64,bV,reEl]) ?_
    ·exact frz3 (frz_own (ds:=set.map spanC) rfl (cutL (by simp)) (by simp) (.inr rfl)) rfl rfl
    simp only[zX,Nat.reduceShiftRight,Nat.reduceMod,Nat.reduceLT,Nat.reduceMul,Nat.reduceSub,Int.reduceToNat,Int.reduceNeg,Int.reduceLT,Int.reduceLE,Int.reduceEq,Nat.reduceEqDiff,Nat.reduceAdd,Nat.reduceLeDiff,reduceIte,reduceCtorEq,Nat.reduceBEq,i64,patV,bV,iD,bD,killO,kill1,Re.cells_eq R,List.map_cons,List.map_nil]
 ·
  rw[hk] at hown
  have hb0:=(around_in by' 5 (by omega) hb).1
  have hb1:=(around_in by' 5 (by omega) hb).2
  obtain⟨v,hv,hidx⟩:=idx_lit [by',0,9,10,-1] (around by' 5) hb0 hb1 (by intro x hx; simp only[List.mem_cons,List.not_mem_nil,or_false] at hx; rcases hx with rfl | rfl | rfl | rfl | rfl <;> first | exact hb | decide)
  simp only[List.map_cons,List.map_nil,iD] at hidx
  refine⟨⟨(pr (.mk op set kids mn mx mode n neg)).1,v,runes⟩,key _ _ _ (mk_small (by omega) (by omega) ⟨n5,n6,n7,n8,n9⟩ n10 n2') (by simp only[Re.size]; omega) hv,?_⟩
  have hput:=hput (.mk op set kids mn mx mode n neg)
  rw[reV_mk] at hput
  simp only[iD,bD] at hput
  generalize pr (.mk op set kids mn mx mode n neg)=R at *
  obtain⟨R,E⟩:=R
  refine fn_ok func33 rfl ntmps33 results33 rfl 0 2199023259423 (by simp) (by simp) ?_
  simp only[zX,Nat.reduceShiftRight,Nat.reduceMod,Nat.reduceLT,Nat.reduceMul,Nat.reduceSub,Int.reduceToNat,Int.reduceNeg,Int.reduceLT,Int.reduceLE,Int.reduceEq,Nat.reduceEqDiff,Nat.reduceAdd,Nat.reduceLeDiff,reduceIte,reduceCtorEq,Nat.reduceBEq,i64,patV,Re.cells_eq re,bV,iD,bD,List.map_cons,List.map_nil]
  refine call_pure hpaths (by simp [refsV,refsV.go,reV_eq,i64,bV,reEl]) rfl ?_
  simp only[zX,Nat.reduceShiftRight,Nat.reduceMod,Nat.reduceLT,Nat.reduceMul,Nat.reduceSub,Int.reduceToNat,Int.reduceNeg,Int.reduceLT,Int.reduceLE,Int.reduceEq,Nat.reduceEqDiff,Nat.reduceAdd,Nat.reduceLeDiff,reduceIte,reduceCtorEq,Nat.reduceBEq,i64,pathsD,List.length_map,hpl]
  refine call_pure har (by simp [refsV,refsV.go,reV_eq,i64,bV,reEl]) (by simp [refsV,refsV.go,reV_eq,i64,bV,reEl]) ?_
  simp only[zX,Nat.reduceShiftRight,Nat.reduceMod,Nat.reduceLT,Nat.reduceMul,Nat.reduceSub,Int.reduceToNat,Int.reduceNeg,Int.reduceLT,Int.reduceLE,Int.reduceEq,Nat.reduceEqDiff,Nat.reduceAdd,Nat.reduceLeDiff,reduceIte,reduceCtorEq,Nat.reduceBEq,i64,pathsD,hin,hpl,hpath,pathD]
  refine call_pure hat (by simp [refsV,refsV.go,reV_eq,i64,bV,reEl]) (by simp [refsV,refsV.go,reV_eq,i64,bV,reEl]) ?_
  simp only[zX,Nat.reduceShiftRight,Nat.reduceMod,Nat.reduceLT,Nat.reduceMul,Nat.reduceSub,Int.reduceToNat,Int.reduceNeg,Int.reduceLT,Int.reduceLE,Int.reduceEq,Nat.reduceEqDiff,Nat.reduceAdd,Nat.reduceLeDiff,reduceIte,reduceCtorEq,Nat.reduceBEq,i64,patV,bV,iD,bD]
  refine⟨hs2,⟨by omega,by simp⟩,hs8,⟨by omega,by simp⟩,?_⟩
  refine call_pure hown rfl rfl ?_
  simp only[zX,Nat.reduceShiftRight,Nat.reduceMod,Nat.reduceLT,Nat.reduceMul,Nat.reduceSub,Int.reduceToNat,Int.reduceNeg,Int.reduceLT,Int.reduceLE,Int.reduceEq,Nat.reduceEqDiff,Nat.reduceAdd,Nat.reduceLeDiff,reduceIte,reduceCtorEq,Nat.reduceBEq,i64,patV,bV,iD,bD]
  refine call_pure (around_ok by' 5 (by omega) hb) rfl rfl ?_
  simp only[zX,Nat.reduceShiftRight,Nat.reduceMod,Nat.reduceLT,Nat.reduceMul,Nat.reduceSub,Int.reduceToNat,Int.reduceNeg,Int.reduceLT,Int.reduceLE,Int.reduceEq,Nat.reduceEqDiff,Nat.reduceAdd,Nat.reduceLeDiff,reduceIte,reduceCtorEq,Nat.reduceBEq,i64,patV,bV,iD,bD,hb0,hb1,hidx]
  refine⟨by omega,?_⟩
  refine callGiveP [3,4] hput ?_ (by simp [refsV,refsV.go,reV_eq,i64,bV,reEl]) (by simp [refsV,refsV.go,reV_eq,i64,bV,reEl]) ?_
  ·exact frz3 (frz_own (ds:=set.map spanC) rfl (cutL (by simp)) (by simp) (.inr rfl)) (frz_own (ds:=kids.map Re.cells) rfl (cutL (by simp)) (by simp) (.inr rfl)) rfl
  simp only[zX,Nat.reduceShiftRight,Nat.reduceMod,Nat.reduceLT,Nat.reduceMul,Nat.reduceSub,Int.reduceToNat,Int.reduceNeg,Int.reduceLT,Int.reduceLE,Int.reduceEq,Nat.reduceEqDiff,Nat.reduceAdd,Nat.reduceLeDiff,reduceIte,reduceCtorEq,Nat.reduceBEq,i64,patV,bV,iD,bD,killO,kill1,Re.cells_eq R,List.map_cons,List.map_nil]
 ·
  rw[hk] at hown
  refine⟨⟨(pr (.mk op set kids mn mx mode n neg)).1,caps,(!runes)⟩,key _ _ _ (mk_small (by omega) (by omega) ⟨n5,n6,n7,n8,n9⟩ n10 n2') (by simp only[Re.size]; omega) hcaps,?_⟩
  have hput:=hput (.mk op set kids mn mx mode n neg)
  rw[reV_mk] at hput
  simp only[iD,bD] at hput
  generalize pr (.mk op set kids mn mx mode n neg)=R at *
  obtain⟨R,E⟩:=R
  refine fn_ok func33 rfl ntmps33 results33 rfl 0 2199023259423 (by simp) (by simp) ?_
  simp only[zX,Nat.reduceShiftRight,Nat.reduceMod,Nat.reduceLT,Nat.reduceMul,Nat.reduceSub,Int.reduceToNat,Int.reduceNeg,Int.reduceLT,Int.reduceLE,Int.reduceEq,Nat.reduceEqDiff,Nat.reduceAdd,Nat.reduceLeDiff,reduceIte,reduceCtorEq,Nat.reduceBEq,i64,patV,Re.cells_eq re,bV,iD,bD,List.map_cons,List.map_nil]
  refine call_pure hpaths (by simp [refsV,refsV.go,reV_eq,i64,bV,reEl]) rfl ?_
  simp only[zX,Nat.reduceShiftRight,Nat.reduceMod,Nat.reduceLT,Nat.reduceMul,Nat.reduceSub,Int.reduceToNat,Int.reduceNeg,Int.reduceLT,Int.reduceLE,Int.reduceEq,Nat.reduceEqDiff,Nat.reduceAdd,Nat.reduceLeDiff,reduceIte,reduceCtorEq,Nat.reduceBEq,i64,pathsD,List.length_map,hpl]
  refine call_pure har (by simp [refsV,refsV.go,reV_eq,i64,bV,reEl]) (by simp [refsV,refsV.go,reV_eq,i64,bV,reEl]) ?_
  simp only[zX,Nat.reduceShiftRight,Nat.reduceMod,Nat.reduceLT,Nat.reduceMul,Nat.reduceSub,Int.reduceToNat,Int.reduceNeg,Int.reduceLT,Int.reduceLE,Int.reduceEq,Nat.reduceEqDiff,Nat.reduceAdd,Nat.reduceLeDiff,reduceIte,reduceCtorEq,Nat.reduceBEq,i64,pathsD,hin,hpl,hpath,pathD]
  refine call_pure hat (by simp [refsV,refsV.go,reV_eq,i64,bV,reEl]) (by simp [refsV,refsV.go,reV_eq,i64,bV,reEl]) ?_
  simp only[zX,Nat.reduceShiftRight,Nat.reduceMod,Nat.reduceLT,Nat.reduceMul,Nat.reduceSub,Int.reduceToNat,Int.reduceNeg,Int.reduceLT,Int.reduceLE,Int.reduceEq,Nat.reduceEqDiff,Nat.reduceAdd,Nat.reduceLeDiff,reduceIte,reduceCtorEq,Nat.reduceBEq,i64,patV,bV,iD,bD]
  refine⟨hs2,⟨by omega,by simp⟩,hs8,⟨by omega,by simp⟩,?_⟩
  refine call_pure hown rfl rfl ?_
  simp only[zX,Nat.reduceShiftRight,Nat.reduceMod,Nat.reduceLT,Nat.reduceMul,Nat.reduceSub,Int.reduceToNat,Int.reduceNeg,Int.reduceLT,Int.reduceLE,Int.reduceEq,Nat.reduceEqDiff,Nat.reduceAdd,Nat.reduceLeDiff,reduceIte,reduceCtorEq,Nat.reduceBEq,i64,patV,bV,iD,bD]
  refine callGiveP [3,4] hput ?_ (by simp [refsV,refsV.go,reV_eq,i64,bV,reEl]) (by simp [refsV,refsV.go,reV_eq,i64,bV,reEl]) ?_
  ·exact frz3 (frz_own (ds:=set.map spanC) rfl (cutL (by simp)) (by simp) (.inr rfl)) (frz_own (ds:=kids.map Re.cells) rfl (cutL (by simp)) (by simp) (.inr rfl)) rfl
  simp only[zX,Nat.reduceShiftRight,Nat.reduceMod,Nat.reduceLT,Nat.reduceMul,Nat.reduceSub,Int.reduceToNat,Int.reduceNeg,Int.reduceLT,Int.reduceLE,Int.reduceEq,Nat.reduceEqDiff,Nat.reduceAdd,Nat.reduceLeDiff,reduceIte,reduceCtorEq,Nat.reduceBEq,i64,patV,bV,iD,bD,killO,kill1,Re.cells_eq R,List.map_cons,List.map_nil]
end Go.Proofs.Ytafbdphblilenaa
