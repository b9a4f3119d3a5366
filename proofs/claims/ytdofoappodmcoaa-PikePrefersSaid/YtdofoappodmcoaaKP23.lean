/- A part of the proof (K72 K73). -/
import Derived.Test.YtdofoappodmcoaaKP2
import Derived.Test.YtdofoappodmcoaaKP3
import Derived.Test.YtdofoappodmcoaaKP22
import Derived.Test.YtdofoappodmcoaaKP13
set_option linter.unusedSimpArgs false
set_option linter.unusedVariables false
set_option maxRecDepth 100000
set_option maxHeartbeats 80000000
namespace Go.Proofs.Ytdofoappodmcoaa
open Go.VL Go.Proofs.Try
def zeroI:Ins:=⟨0,0,0,0,[]⟩
def cVar (k n:Nat):VL.Obj:=⟨0,true,1,[[.so k n 0 n]]⟩
def cArr (C:List Ins):VL.Obj:=⟨C.length,true,5,(C.map Ins.cells).map fun c=>c.map V.d⟩
theorem cArr_ok (n:Nat) (C:List Ins):objOk n (cArr C)=true:=by
 unfold objOk cArr
 rw[List.all_eq_true]
 intro e he
 obtain⟨c,hc,rfl⟩:=List.mem_map.1 he
 rw[List.all_eq_true]
 intro x hx
 obtain⟨d,_,rfl⟩:=List.mem_map.1 hx
 rfl
theorem cArr_ren (ρ:List Nat) (C:List Ins):renO ρ (cArr C)=cArr C:=by
 unfold renO cArr
 simp only[List.map_map]
 congr 1
def putV (x:Ins):V:=.ag [i64 x.op,i64 x.x,i64 x.y,i64 x.n,.d (.sl (x.set.map spanC))]
theorem put_okP (C:List Ins) (hC:C.length≤1000000000000) (x:Ins):callWp prog 80 [putV x,.rf 0 0 0 0] [cVar 1 C.length,cArr C] fun v s=>v=i64 C.length∧s=[cVar 1 (C.length + 1),cArr (C++[x])]:=by
 have hg:(cArr C).g=C.length:=rfl
 have hz:(cArr C).sz=5:=rfl
 have he:(cArr C).els=(C.map Ins.cells).map fun c=>c.map V.d:=rfl
 have hl:(cArr C).live=true:=rfl
 have w1:IntKind.i64.wrap (((C.length:Int) + 1) - 1)=(C.length:Int):=by rw[w64 _ (by omega)]; omega
 refine fn_ok func80 rfl ntmps80 results80 rfl 2 15 (by simp) (by simp) ?_
 simp only[zX,simprocAttr,i64,bV,iD,bD,putV,cVar,hg,hz,he,hl,List.length_map]
 have hN:List.take C.length (List.map (fun x=>List.map V.d x) (List.map Ins.cells C))++[[V.d (D.sc (Value.int IntKind.i64 x.op)),V.d (D.sc (Value.int IntKind.i64 x.x)),V.d (D.sc (Value.int IntKind.i64 x.y)),V.d (D.sc (Value.int IntKind.i64 x.n)),V.d (D.sl (List.map spanC x.set))]]=((C++[x]).map Ins.cells).map fun c=>c.map V.d:=by
  rw[List.take_of_length_le (by simp)]
  simp [Ins.cells,iD]
 rw[hN]
 refine⟨fun e he=>by rw[List.mem_singleton.1 he]; rfl,⟨by omega,by omega⟩,?_,by rw[Int.natCast_add]; exact w1,?_⟩
 ·have:=cArr_ok 2 (C++[x])
  exact this
 ·simp [cArr]
def wCode (C:List Ins):List VL.Obj:=[cVar 5 C.length,
 ⟨0,true,1,[[.cl (.func 80) [] [.rf 0 0 0 0]]]⟩,
 ⟨0,true,1,[[.cl (.func 84) [] [.rf 1 0 0 0,.rf 2 0 0 0,.rf 4 0 0 0,.rf 3 0 0 0]]]⟩,
 ⟨0,true,1,[[.cl (.func 81) [] [.rf 2 0 0 0,.rf 1 0 0 0,.rf 0 0 0 0]]]⟩,
 ⟨0,true,1,[[.cl (.func 83) [] [.rf 1 0 0 0,.rf 2 0 0 0,.rf 0 0 0 0]]]⟩,cArr C]
theorem call_put (C:List Ins) (hC:C.length≤1000000000000) (x:Ins) {tl:List VL.Obj} {K:V→List VL.Obj→Prop} (hk:K (i64 C.length) (wCode (C++[x])++tl)):callWp prog 80 [putV x,.rf 0 0 0 0] (wCode C++tl) K:=by
 have e0:∀n,renO [0,5] (cVar 1 n)=cVar 5 n:=fun n=>by simp [renO,cVar,renV,renV.go]
 refine call_map [0,5] (put_okP C hC x) (by simp) (by rfl) ?_ ?_ (by rfl) ?_ (r':=i64 C.length) rfl ?_
 ·simp only[List.map_cons,List.map_nil,e0,cArr_ren]
  rfl
 ·simp [putV,renV,renV.go,i64]
 ·simp only[List.all_cons,List.all_nil,cArr_ok,Bool.and_true,List.length_cons,List.length_nil]
  simp [objOk,cVar,refsV]
 ·simp only[List.map_cons,List.map_nil,e0,cArr_ren,putObjs,wCode,List.cons_append,List.nil_append,List.set_cons_zero,List.set_cons_succ]
  simpa [wCode] using hk
theorem call_put0 (C:List Ins) (hC:C.length≤1000000000000) (op x y n:Int) {tl:List VL.Obj} {K:V→List VL.Obj→Prop} (hk:K (i64 C.length) (wCode (C++[⟨op,x,y,n,[]⟩])++tl)):callWp prog 80 [.ag [i64 op,i64 x,i64 y,i64 n,.fu []],.rf 0 0 0 0] (wCode C++tl) K :=
 call_give [] (cargs:=[putV ⟨op,x,y,n,[]⟩,.rf 0 0 0 0]) (by simp only[killO,List.foldl_nil,frzV.go,frzV,putV,i64]; simp [frzV,frzV.go,frzD,wCode,cVar]) (call_put C hC _ (by simpa [killO] using hk))
theorem wCode_ren (C:List Ins):(wCode C).map (renO [0,1,2,3,4,5])=wCode C:=by
 simp only[wCode,List.map_cons,List.map_nil,cArr_ren]
 simp [renO,cVar,renV,renV.go]
theorem wCode_ok (C:List Ins):(wCode C).all (objOk 6)=true:=by
 simp only[wCode,List.all_cons,List.all_nil,cArr_ok,Bool.and_true]
 simp [objOk,cVar,refsV,refsV.go]
def wArgs (re:Re):List V:=[.d (.el re.cells),.rf 1 0 0 0,.rf 2 0 0 0,.rf 4 0 0 0,.rf 3 0 0 0]
def WOK (re:Re):Prop:=∀C:List Ins,C.length + 100000000 * re.size≤1000000000000 →
 callWp prog 84 (wArgs re) (wCode C) fun v s=>v=.tu []∧s=wCode (C++re.code C.length)
theorem call_w {f:FuncId} {args:List V} {C C':List Ins} (h:callWp prog f args (wCode C) fun v s=>v=.tu []∧s=wCode C') (ha:args=args.map (renV [0,1,2,3,4,5])) (hra:refsV.go 6 args=true) {tl:List VL.Obj} {K:V→List VL.Obj→Prop} (hk:K (.tu []) (wCode C'++tl)):callWp prog f args (wCode C++tl) K:=by
 have hr:=wCode_ren C'
 refine call_map [0,1,2,3,4,5] h (by decide) rfl ?_ ha hra (wCode_ok C) (r':=.tu []) rfl ?_
 ·have:=wCode_ren C
  have h2:(wCode C).map (fun o=>some (renO [0,1,2,3,4,5] o))=((wCode C).map (renO [0,1,2,3,4,5])).map some:=by rw[List.map_map]; rfl
  rw[h2,this]
  rfl
 ·rw[hr]
  exact hk
def wSt (C:List Ins):List VL.Obj:=wCode C
def rArgs (re:Re):List V:=[.d (.el re.cells),.rf 2 0 0 0,.rf 1 0 0 0,.rf 0 0 0 0]
def aArgs (l:List Re):List V:=[.d (.sl (l.map Re.cells)),.rf 1 0 0 0,.rf 2 0 0 0,.rf 0 0 0 0]
theorem wtake0 (C:List Ins):List.take 6 (wCode C)=wCode C:=rfl
def ROK (re:Re):Prop:=∀C:List Ins,C.length + 100000000 * re.size≤1000000000000 →
 callWp prog 81 (rArgs re) (wCode C) fun v s=>v=.tu []∧s=wCode (C++repC (fun i=>Re.code0 re.kids i) re.mn re.mx re.mode re.csz C.length)
def AOK (l:List Re):Prop:=∀C:List Ins,(∀k∈l,C.length + 100000000 * k.size + 100000000≤1000000000000) →
 callWp prog 83 (aArgs l) (wCode C) fun v s=>v=.tu []∧s=wCode (C++Re.codeAlt l C.length)
theorem write_ok (re:Re) (hs:re.every kshD=true) (hz:re.csz≤8500) (hW:¬isLeaf re→∀k∈re.kids,WOK k) (hR:re.op=4→ROK re) (hA:re.op=3→AOK re.kids):WOK re:=by
 intro C hC
 obtain⟨hs1,hs2⟩:=(Re.every_iff re).1 hs
 obtain⟨hcc,hop,h1k,hk0⟩:=kshD_iff.1 hs1
 obtain⟨q1,q2,q3,q4,_,_,_,_,_,hn64⟩:=kshB_iff.1 (kshC_iff.1 hcc).1
 rcases hop with o | o | o | o | o | o | o
 ·have hc:re.code C.length=[]:=by rw[Re.code_eq,if_neg (by omega),if_neg (by omega),if_neg (by omega),if_neg (by omega),if_neg (by omega),if_neg (by omega)]
  rw[hc,List.append_nil]
  refine fn_ok func84 rfl ntmps84 results84 rfl 6 206158431327 (Nat.le_refl 6) (by first | decide | (simp [wArgs,rArgs,aArgs]; done)) ?_
  simp only[zX,Nat.reduceShiftRight,Nat.reduceMod,Nat.reduceLT,Nat.reduceMul,Nat.reduceSub,Int.reduceToNat,Int.reduceNeg,Int.reduceLT,Int.reduceLE,Int.reduceEq,Nat.reduceEqDiff,Nat.reduceAdd,Nat.reduceLeDiff,reduceIte,reduceCtorEq,Nat.reduceBEq,i64,bV,iD,bD,wArgs,Re.cells_eq re,o,List.append_nil,wtake0,wCode_ok]
 ·have hcs:re.csz=1:=by rw[Re.csz_eq,cszN,if_pos (.inl o)]; rfl
  have hc:re.code C.length=[⟨1,0,0,0,re.set⟩]:=by rw[Re.code_eq,if_pos o]
  rw[hc]
  have hcl:=cloneSpans_ok re.set (by omega)
  refine fn_ok func84 rfl ntmps84 results84 rfl 6 206158431327 (Nat.le_refl 6) (by first | decide | (simp [wArgs,rArgs,aArgs]; done)) ?_
  simp only[zX,Nat.reduceShiftRight,Nat.reduceMod,Nat.reduceLT,Nat.reduceMul,Nat.reduceSub,Int.reduceToNat,Int.reduceNeg,Int.reduceLT,Int.reduceLE,Int.reduceEq,Nat.reduceEqDiff,Nat.reduceAdd,Nat.reduceLeDiff,reduceIte,reduceCtorEq,Nat.reduceBEq,i64,bV,iD,bD,wArgs,wCode,Re.cells_eq re,o]
  refine draw_c mix [7] [] (by rfl) ?_
  simp only[zX,Nat.reduceShiftRight,Nat.reduceMod,Nat.reduceLT,Nat.reduceMul,Nat.reduceSub,Int.reduceToNat,Int.reduceNeg,Int.reduceLT,Int.reduceLE,Int.reduceEq,Nat.reduceEqDiff,Nat.reduceAdd,Nat.reduceLeDiff,reduceIte,reduceCtorEq,Nat.reduceBEq,i64,bV,iD,bD,wCode,cVar,o]
  refine callC_pure hcl rfl rfl ?_
  simp only[zX,Nat.reduceShiftRight,Nat.reduceMod,Nat.reduceLT,Nat.reduceMul,Nat.reduceSub,Int.reduceToNat,Int.reduceNeg,Int.reduceLT,Int.reduceLE,Int.reduceEq,Nat.reduceEqDiff,Nat.reduceAdd,Nat.reduceLeDiff,reduceIte,reduceCtorEq,Nat.reduceBEq,i64,bV,iD,bD,wCode,cVar,o,List.cons_append,List.nil_append,List.append_nil]
  refine callD_of (call_put C (by omega) ⟨1,0,0,0,re.set⟩ (tl:=[]) ⟨rfl,rfl⟩) ?_
  simp only[zX,Nat.reduceShiftRight,Nat.reduceMod,Nat.reduceLT,Nat.reduceMul,Nat.reduceSub,Int.reduceToNat,Int.reduceNeg,Int.reduceLT,Int.reduceLE,Int.reduceEq,Nat.reduceEqDiff,Nat.reduceAdd,Nat.reduceLeDiff,reduceIte,reduceCtorEq,Nat.reduceBEq,i64,bV,iD,bD,List.append_nil,wtake0,wCode_ok]
  rfl
 ·have hc:re.code C.length=Re.codeCat re.kids C.length:=by rw[Re.code_eq,if_neg (by omega),if_neg (by omega),if_pos o]
  have hkz:=csz_kid hs (by omega) ⟨by omega,by omega⟩
  have hkl:∀k∈re.kids,∀f,((k.code f).length:Int)=k.csz:=fun k hk=>code_len k (hs2 k hk) (hkz.2 k hk)
  have hcl:∀i,((Re.codeCat (re.kids.take i) C.length).length:Int)≤10000000:=fun i=>by
   rw[codeCat_len (fun k hk=>hkl k (List.mem_of_mem_take hk)) C.length]
   have:=(cszL_range (l:=re.kids.take i) (fun k hk=>csz_range k (every_DC (hs2 k (List.mem_of_mem_take hk))))).2
   rw[List.length_take] at this
   omega
  rw[hc]
  refine fn_ok func84 rfl ntmps84 results84 rfl 6 206158431327 (Nat.le_refl 6) (by first | decide | (simp [wArgs,rArgs,aArgs]; done)) ?_
  simp only[zX,Nat.reduceShiftRight,Nat.reduceMod,Nat.reduceLT,Nat.reduceMul,Nat.reduceSub,Int.reduceToNat,Int.reduceNeg,Int.reduceLT,Int.reduceLE,Int.reduceEq,Nat.reduceEqDiff,Nat.reduceAdd,Nat.reduceLeDiff,reduceIte,reduceCtorEq,Nat.reduceBEq,i64,bV,iD,bD,wArgs,Re.cells_eq re,o,List.length_map]
  refine loop_rule (fun n e s=>∃i:Nat,n=re.kids.length - i∧i≤re.kids.length∧e 0=.d (.el re.cells)∧e 2=.rf 2 0 0 0∧e 36=i64 re.kids.length∧e 37=i64 i∧s=wSt (C++Re.codeCat (re.kids.take i) C.length))
   ⟨_,_,_,Cln.refl,0,rfl,by omega,by rw[Re.cells_eq re,o]; rfl,rfl,rfl,rfl,by simp [Re.codeCat,wSt]⟩ ?_
  rintro n e s ⟨i,rfl,hi,h0,h2,h36,h37,rfl⟩
  rcases Nat.lt_or_ge i re.kids.length with hlt | hge
  ·obtain⟨k,hk⟩:∃k,re.kids[i]?=some k:=⟨_,List.getElem?_eq_getElem hlt⟩
   have hm:=List.mem_of_getElem? hk
   have hlt':(i:Int) < (re.kids.length:Int):=by omega
   have hi0:(0:Int)≤(i:Int):=by omega
   have hsk:k.size < re.size:=Re.size_kid hm
   have hb:=hcl i
   have hw:=hW (by unfold isLeaf; omega) k hm (C++Re.codeCat (re.kids.take i) C.length) (by rw[List.length_append]; omega)
   have hsucc:C++Re.codeCat (re.kids.take i) C.length++k.code (C++Re.codeCat (re.kids.take i) C.length).length=C++Re.codeCat (re.kids.take (i + 1)) C.length:=by
    rw[take_get hk,Re.codeCat_snoc,List.append_assoc,List.length_append,Int.natCast_add]
   rw[hsucc] at hw
   generalize C++Re.codeCat (re.kids.take i) C.length=C1 at *
   generalize hC2:C++Re.codeCat (re.kids.take (i + 1)) C.length=C2 at *
   rw[show wSt C1=wCode C1 from rfl]
   simp only[zX,Nat.reduceShiftRight,Nat.reduceMod,Nat.reduceLT,Nat.reduceMul,Nat.reduceSub,Int.reduceToNat,Int.reduceNeg,Int.reduceLT,Int.reduceLE,Int.reduceEq,Nat.reduceEqDiff,Nat.reduceAdd,Nat.reduceLeDiff,reduceIte,reduceCtorEq,Nat.reduceBEq,i64,bV,iD,bD,h0,h2,h36,h37,Re.cells_eq re,hlt']
   refine draw_c mix [7] [] (by rfl) ?_
   simp only[zX,Nat.reduceShiftRight,Nat.reduceMod,Nat.reduceLT,Nat.reduceMul,Nat.reduceSub,Int.reduceToNat,Int.reduceNeg,Int.reduceLT,Int.reduceLE,Int.reduceEq,Nat.reduceEqDiff,Nat.reduceAdd,Nat.reduceLeDiff,reduceIte,reduceCtorEq,Nat.reduceBEq,i64,bV,iD,bD,wCode,cVar,h0,h2,h36,h37,Re.cells_eq re,hlt',hi0,hlt,Int.toNat_natCast,hk,List.length_map,List.cons_append,List.nil_append,List.append_nil]
   refine callD_of (call_w hw (by rfl) (by rfl) (tl:=[]) ⟨rfl,rfl⟩) ?_
   simp only[zX,Nat.reduceShiftRight,Nat.reduceMod,Nat.reduceLT,Nat.reduceMul,Nat.reduceSub,Int.reduceToNat,Int.reduceNeg,Int.reduceLT,Int.reduceLE,Int.reduceEq,Nat.reduceEqDiff,Nat.reduceAdd,Nat.reduceLeDiff,reduceIte,reduceCtorEq,Nat.reduceBEq,i64,bV,iD,bD,h0,h2,h36,h37,List.append_nil]
   refine⟨re.kids.length - (i + 1),_,_,by omega,Cln.refl,i + 1,rfl,hlt,?_,?_,?_,?_,by rw[hC2]; rfl⟩ <;> (try simp only[zU,Nat.reduceBEq,Nat.reduceShiftRight,Nat.reduceMod,Nat.reduceEqDiff,reduceIte])
   ·rw[h0,Re.cells_eq re]; rfl
   ·exact h2
   ·exact h36
   ·rw[w64 _ (by omega)]; rfl
  ·have hie:i=re.kids.length:=by omega
   subst hie
   rw[List.take_length]
   simp only[zX,Nat.reduceShiftRight,Nat.reduceMod,Nat.reduceLT,Nat.reduceMul,Nat.reduceSub,Int.reduceToNat,Int.reduceNeg,Int.reduceLT,Int.reduceLE,Int.reduceEq,Nat.reduceEqDiff,Nat.reduceAdd,Nat.reduceLeDiff,reduceIte,reduceCtorEq,Nat.reduceBEq,i64,bV,iD,bD,h0,h2,h36,h37,Int.lt_irrefl,wtake0,wCode_ok]
   exact⟨wCode_ok _,rfl⟩
 ·have hc:re.code C.length=Re.codeAlt re.kids C.length:=by rw[Re.code_eq,if_neg (by omega),if_neg (by omega),if_neg (by omega),if_pos o]
  have hw:=hA o C (fun k hk=>by have:=Re.size_kid hk; omega)
  rw[hc]
  generalize C++Re.codeAlt re.kids C.length=C2 at *
  refine fn_ok func84 rfl ntmps84 results84 rfl 6 206158431327 (Nat.le_refl 6) (by first | decide | (simp [wArgs,rArgs,aArgs]; done)) ?_
  simp only[zX,Nat.reduceShiftRight,Nat.reduceMod,Nat.reduceLT,Nat.reduceMul,Nat.reduceSub,Int.reduceToNat,Int.reduceNeg,Int.reduceLT,Int.reduceLE,Int.reduceEq,Nat.reduceEqDiff,Nat.reduceAdd,Nat.reduceLeDiff,reduceIte,reduceCtorEq,Nat.reduceBEq,i64,bV,iD,bD,wArgs,wCode,Re.cells_eq re,o]
  refine draw_c mix [5] [] (by rfl) ?_
  simp only[zX,Nat.reduceShiftRight,Nat.reduceMod,Nat.reduceLT,Nat.reduceMul,Nat.reduceSub,Int.reduceToNat,Int.reduceNeg,Int.reduceLT,Int.reduceLE,Int.reduceEq,Nat.reduceEqDiff,Nat.reduceAdd,Nat.reduceLeDiff,reduceIte,reduceCtorEq,Nat.reduceBEq,i64,bV,iD,bD,wCode,cVar,o,List.cons_append,List.nil_append,List.append_nil]
  refine callD_of (call_w hw (by rfl) (by rfl) (tl:=[]) ⟨rfl,rfl⟩) ?_
  simp only[zX,Nat.reduceShiftRight,Nat.reduceMod,Nat.reduceLT,Nat.reduceMul,Nat.reduceSub,Int.reduceToNat,Int.reduceNeg,Int.reduceLT,Int.reduceLE,Int.reduceEq,Nat.reduceEqDiff,Nat.reduceAdd,Nat.reduceLeDiff,reduceIte,reduceCtorEq,Nat.reduceBEq,i64,bV,iD,bD,List.append_nil,wtake0,wCode_ok]
  rfl
 ·have hc:re.code C.length=repC (fun i=>Re.code0 re.kids i) re.mn re.mx re.mode re.csz C.length:=by rw[Re.code_eq,if_neg (by omega),if_neg (by omega),if_neg (by omega),if_neg (by omega),if_neg (by omega),if_pos o]
  have hw:=hR o C hC
  rw[hc]
  generalize C++repC (fun i=>Re.code0 re.kids i) re.mn re.mx re.mode re.csz C.length=C2 at *
  refine fn_ok func84 rfl ntmps84 results84 rfl 6 206158431327 (Nat.le_refl 6) (by first | decide | (simp [wArgs,rArgs,aArgs]; done)) ?_
  simp only[zX,Nat.reduceShiftRight,Nat.reduceMod,Nat.reduceLT,Nat.reduceMul,Nat.reduceSub,Int.reduceToNat,Int.reduceNeg,Int.reduceLT,Int.reduceLE,Int.reduceEq,Nat.reduceEqDiff,Nat.reduceAdd,Nat.reduceLeDiff,reduceIte,reduceCtorEq,Nat.reduceBEq,i64,bV,iD,bD,wArgs,wCode,cVar,Re.cells_eq re,o,List.cons_append,List.nil_append,List.append_nil]
  unfold rArgs at hw
  rw[Re.cells_eq re,o] at hw
  refine call_w hw (by rfl) (by rfl) (tl:=[]) ?_
  simp only[zX,Nat.reduceShiftRight,Nat.reduceMod,Nat.reduceLT,Nat.reduceMul,Nat.reduceSub,Int.reduceToNat,Int.reduceNeg,Int.reduceLT,Int.reduceLE,Int.reduceEq,Nat.reduceEqDiff,Nat.reduceAdd,Nat.reduceLeDiff,reduceIte,reduceCtorEq,Nat.reduceBEq,i64,bV,iD,bD,List.append_nil,wtake0,wCode_ok]
  rfl
 ·obtain⟨k,hk⟩:∃k,re.kids=[k]:=List.length_eq_one_iff.1 (h1k (.inr o))
  have hc:re.code C.length=savI (2 * re.n - 2)::(k.code (C.length + 1)++[savI (2 * re.n - 1)]):=by
   rw[Re.code_eq,if_neg (by omega),if_neg (by omega),if_neg (by omega),if_neg (by omega),if_pos o,hk]; rfl
  have hm:k∈re.kids:=by rw[hk]; simp
  have hsk:k.size < re.size:=Re.size_kid hm
  have hw:=hW (by unfold isLeaf; omega) k hm (C++[savI (2 * re.n - 2)]) (by rw[List.length_append]; simp only[List.length_cons,List.length_nil]; omega)
  have hl1:((C++[savI (2 * re.n - 2)]).length:Int)=C.length + 1:=by simp
  rw[hl1] at hw
  have hkl:=code_len k (hs2 k hm) ((csz_kid hs (by omega) ⟨by omega,by omega⟩).2 k hm) (C.length + 1)
  have hkr:=(csz_range k (every_DC (hs2 k hm))).2
  have wn1:IntKind.i64.wrap (2 * re.n)=2 * re.n:=w64 _ (by omega)
  have wn2:IntKind.i64.wrap (2 * re.n - 2)=2 * re.n - 2:=w64 _ (by omega)
  have wn3:IntKind.i64.wrap (2 * re.n - 1)=2 * re.n - 1:=w64 _ (by omega)
  rw[hc,show C++savI (2 * re.n - 2)::(k.code (C.length + 1)++[savI (2 * re.n - 1)])=C++[savI (2 * re.n - 2)]++k.code (C.length + 1)++[savI (2 * re.n - 1)] by simp]
  have hp1:=fun K hk=>call_put0 C (by omega) 4 0 0 (2 * re.n - 2) (tl:=[]) (K:=K) hk
  have hCl:(C++[savI (2 * re.n - 2)]++k.code (C.length + 1)).length≤1000000000000:=by
   simp only[List.length_append,List.length_cons,List.length_nil]; omega
  have hp2:=fun K hk=>call_put0 (C++[savI (2 * re.n - 2)]++k.code (C.length + 1)) hCl 4 0 0 (2 * re.n - 1) (tl:=[]) (K:=K) hk
  rw[show C++[(⟨4,0,0,2 * re.n - 2,[]⟩:Ins)]=C++[savI (2 * re.n - 2)] from rfl] at hp1
  rw[show C++[savI (2 * re.n - 2)]++k.code (C.length + 1)++[(⟨4,0,0,2 * re.n - 1,[]⟩:Ins)]=C++[savI (2 * re.n - 2)]++k.code (C.length + 1)++[savI (2 * re.n - 1)] from rfl] at hp2
  generalize C++[savI (2 * re.n - 2)]++k.code (C.length + 1)++[savI (2 * re.n - 1)]=C3 at *
  generalize C++[savI (2 * re.n - 2)]++k.code (C.length + 1)=C2 at *
  generalize C++[savI (2 * re.n - 2)]=C1 at *
  refine fn_ok func84 rfl ntmps84 results84 rfl 6 206158431327 (Nat.le_refl 6) (by first | decide | (simp [wArgs,rArgs,aArgs]; done)) ?_
  simp only[zX,Nat.reduceShiftRight,Nat.reduceMod,Nat.reduceLT,Nat.reduceMul,Nat.reduceSub,Int.reduceToNat,Int.reduceNeg,Int.reduceLT,Int.reduceLE,Int.reduceEq,Nat.reduceEqDiff,Nat.reduceAdd,Nat.reduceLeDiff,reduceIte,reduceCtorEq,Nat.reduceBEq,i64,bV,iD,bD,wArgs,wCode,Re.cells_eq re,o]
  refine draw_c mix [8] [] (by rfl) ?_
  simp only[zX,Nat.reduceShiftRight,Nat.reduceMod,Nat.reduceLT,Nat.reduceMul,Nat.reduceSub,Int.reduceToNat,Int.reduceNeg,Int.reduceLT,Int.reduceLE,Int.reduceEq,Nat.reduceEqDiff,Nat.reduceAdd,Nat.reduceLeDiff,reduceIte,reduceCtorEq,Nat.reduceBEq,i64,bV,iD,bD,wCode,cVar,o,List.cons_append,List.nil_append,List.append_nil,wn1,wn2]
  refine callD_of (hp1 _ ⟨rfl,rfl⟩) ?_
  simp only[zX,Nat.reduceShiftRight,Nat.reduceMod,Nat.reduceLT,Nat.reduceMul,Nat.reduceSub,Int.reduceToNat,Int.reduceNeg,Int.reduceLT,Int.reduceLE,Int.reduceEq,Nat.reduceEqDiff,Nat.reduceAdd,Nat.reduceLeDiff,reduceIte,reduceCtorEq,Nat.reduceBEq,i64,bV,iD,bD,List.append_nil,wCode,cVar]
  refine draw_c mix [6] [] (by rfl) ?_
  simp only[zX,Nat.reduceShiftRight,Nat.reduceMod,Nat.reduceLT,Nat.reduceMul,Nat.reduceSub,Int.reduceToNat,Int.reduceNeg,Int.reduceLT,Int.reduceLE,Int.reduceEq,Nat.reduceEqDiff,Nat.reduceAdd,Nat.reduceLeDiff,reduceIte,reduceCtorEq,Nat.reduceBEq,i64,bV,iD,bD,wCode,cVar,o,List.cons_append,List.nil_append,List.append_nil,hk,List.map_cons,List.map_nil]
  refine⟨by decide,?_⟩
  refine callD_of (call_w hw (by rfl) (by rfl) (tl:=[]) ⟨rfl,rfl⟩) ?_
  simp only[zX,Nat.reduceShiftRight,Nat.reduceMod,Nat.reduceLT,Nat.reduceMul,Nat.reduceSub,Int.reduceToNat,Int.reduceNeg,Int.reduceLT,Int.reduceLE,Int.reduceEq,Nat.reduceEqDiff,Nat.reduceAdd,Nat.reduceLeDiff,reduceIte,reduceCtorEq,Nat.reduceBEq,i64,bV,iD,bD,List.append_nil,wCode,cVar]
  refine draw_c mix [8] [] (by rfl) ?_
  simp only[zX,Nat.reduceShiftRight,Nat.reduceMod,Nat.reduceLT,Nat.reduceMul,Nat.reduceSub,Int.reduceToNat,Int.reduceNeg,Int.reduceLT,Int.reduceLE,Int.reduceEq,Nat.reduceEqDiff,Nat.reduceAdd,Nat.reduceLeDiff,reduceIte,reduceCtorEq,Nat.reduceBEq,i64,bV,iD,bD,wCode,cVar,o,List.cons_append,List.nil_append,List.append_nil,wn1,wn3]
  refine callD_of (hp2 _ ⟨rfl,rfl⟩) ?_
  simp only[zX,Nat.reduceShiftRight,Nat.reduceMod,Nat.reduceLT,Nat.reduceMul,Nat.reduceSub,Int.reduceToNat,Int.reduceNeg,Int.reduceLT,Int.reduceLE,Int.reduceEq,Nat.reduceEqDiff,Nat.reduceAdd,Nat.reduceLeDiff,reduceIte,reduceCtorEq,Nat.reduceBEq,i64,bV,iD,bD,List.append_nil,wtake0,wCode_ok]
  rfl
 ·have hcs:re.csz=1:=by rw[Re.csz_eq,cszN,if_pos (.inr o)]; rfl
  have hc:re.code C.length=[⟨5,0,0,re.n,[]⟩]:=by rw[Re.code_eq,if_neg (by omega),if_pos o]
  rw[hc]
  refine fn_ok func84 rfl ntmps84 results84 rfl 6 206158431327 (Nat.le_refl 6) (by first | decide | (simp [wArgs,rArgs,aArgs]; done)) ?_
  simp only[zX,Nat.reduceShiftRight,Nat.reduceMod,Nat.reduceLT,Nat.reduceMul,Nat.reduceSub,Int.reduceToNat,Int.reduceNeg,Int.reduceLT,Int.reduceLE,Int.reduceEq,Nat.reduceEqDiff,Nat.reduceAdd,Nat.reduceLeDiff,reduceIte,reduceCtorEq,Nat.reduceBEq,i64,bV,iD,bD,wArgs,wCode,Re.cells_eq re,o]
  refine draw_c mix [6] [] (by rfl) ?_
  simp only[zX,Nat.reduceShiftRight,Nat.reduceMod,Nat.reduceLT,Nat.reduceMul,Nat.reduceSub,Int.reduceToNat,Int.reduceNeg,Int.reduceLT,Int.reduceLE,Int.reduceEq,Nat.reduceEqDiff,Nat.reduceAdd,Nat.reduceLeDiff,reduceIte,reduceCtorEq,Nat.reduceBEq,i64,bV,iD,bD,wCode,cVar,o,List.cons_append,List.nil_append,List.append_nil]
  refine callD_of (call_put0 C (by omega) 5 0 0 re.n (tl:=[]) ⟨rfl,rfl⟩) ?_
  simp only[zX,Nat.reduceShiftRight,Nat.reduceMod,Nat.reduceLT,Nat.reduceMul,Nat.reduceSub,Int.reduceToNat,Int.reduceNeg,Int.reduceLT,Int.reduceLE,Int.reduceEq,Nat.reduceEqDiff,Nat.reduceAdd,Nat.reduceLeDiff,reduceIte,reduceCtorEq,Nat.reduceBEq,i64,bV,iD,bD,List.append_nil,wtake0,wCode_ok]
  rfl
end Go.Proofs.Ytdofoappodmcoaa
