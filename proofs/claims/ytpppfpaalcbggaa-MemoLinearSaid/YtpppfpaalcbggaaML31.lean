/- A part of the proof (MM2 K0 MM17 MM18). -/
import Derived.Test.YtpppfpaalcbggaaML13
import Derived.Test.YtpppfpaalcbggaaML30
set_option linter.unusedSimpArgs false
set_option linter.unusedVariables false
set_option maxRecDepth 100000
set_option maxHeartbeats 80000000
namespace Go.Proofs.Ytpppfpaalcbggaa
open Go.VL Go.Proofs.Try
def nulH:List Re→Bool
 | []=>false
 | k::_=>k.anul
mutual
def numR:Re→Int→Nd × Int
 | .mk op set kids mn mx mode n neg,c =>
  let x:=numL kids (c + 1)
  (.mk (.mk op set kids mn mx mode n neg) c x.1 (decide (op=4)&&(nulH kids)),x.2)
def numL:List Re→Int→List Nd × Int
 | [],c=>([],c)
 | k::l,c =>
  let x:=numR k c
  let y:=numL l x.2
  (x.1::y.1,y.2)
end
mutual
theorem numR_le:∀(re:Re) (c:Int),c≤(numR re c).2
 | .mk op set kids mn mx mode n neg,c=>by
  have:=numL_le kids (c + 1)
  simp only[numR]
  omega
theorem numL_le:∀(l:List Re) (c:Int),c≤(numL l c).2
 | [],c=>by simp [numL]
 | k::l,c=>by
  have h1:=numR_le k c
  have h2:=numL_le l (numR k c).2
  simp only[numL]
  omega
end
theorem numL_length:∀(l:List Re) (c:Int),(numL l c).1.length=l.length
 | [],c=>by simp [numL]
 | k::l,c=>by simp [numL,numL_length l]
theorem reserveCell {e:Env} {s:List VL.Obj} {o:VL.Obj} {pre post:List V} (k sz:Nat) (ho:s[k]?=some o) (hels:o.els=[pre++.fu []::post]) (hsz:pre.length + 1 + post.length=o.sz) :
  Cln0 e s e (s.set k { o with els:=[pre++.so s.length 0 0 0::post] }++[⟨0,true,sz,[]⟩]):=by
 intro σ0 s0 w0 σ w N a hE hI hR
 obtain⟨σ',h1,h2⟩:=reserve_ok hI k sz ho hels hsz
 exact⟨σ',hE.trans h1,h2,hR.evolve h1⟩
def mcntO (c:Int):VL.Obj:=⟨0,true,1,[[.d (iD c)]]⟩
def repB (re:Re):Bool:=decide (re.op=4→re.kids≠[])
theorem nulH_anul {l:List Re} {k:Re} (h:l[0]?=some k):nulH l=k.anul:=by
 cases l with
 | nil=>cases h
 | cons x l=>simp only[List.getElem?_cons_zero,Option.some.injEq] at h; subst h; rfl
theorem numR_eq (re:Re) (c:Int):numR re c=(.mk re c (numL re.kids (c + 1)).1 (decide (re.op=4)&&nulH re.kids),(numL re.kids (c + 1)).2):=by
 cases re; rfl
theorem numL_take (l:List Re) (c:Int) {i:Nat} {k:Re} (hk:l[i]?=some k):numL (l.take (i + 1)) c=((numL (l.take i) c).1++[(numR k (numL (l.take i) c).2).1],(numR k (numL (l.take i) c).2).2):=by
 induction l generalizing c i with
 | nil=>simp at hk
 | cons x l ih =>
  cases i with
  | zero =>
   simp only[List.getElem?_cons_zero,Option.some.injEq] at hk
   subst hk
   simp [numL]
  | succ i =>
   have:=ih (numR x c).2 (by simpa using hk)
   simp only[List.take_succ_cons,numL] at this ⊢
   rw[this]
   rfl
mutual
theorem numR_size:∀(re:Re) (c:Int),(numR re c).2=c + re.size
 | .mk op set kids mn mx mode n neg,c=>by
  have h:=numL_size kids (c + 1)
  show (numL kids (c + 1)).2=c + ((1 + Re.sizeL kids:Nat):Int)
  rw[h]
  omega
theorem numL_size:∀(l:List Re) (c:Int),(numL l c).2=c + Re.sizeL l
 | [],c=>by simp [numL,Re.sizeL]
 | k::l,c=>by
  have h1:=numR_size k c
  have h2:=numL_size l (numR k c).2
  show (numL l (numR k c).2).2=c + ((k.size + Re.sizeL l:Nat):Int)
  rw[h2,h1]
  omega
end
theorem nd_mapM (n lim:Nat) (s:List VL.Obj) (ns:List Nd):(ns.map fun k=>[V.d k.d]).mapM (fun (e:List V)=>e.mapM (frzD n lim s))=some (ns.map fun k=>[k.d]):=by
 have h:=mapM_frzE n lim s (ns.map fun k=>[k.d])
 rw[List.map_map] at h
 exact h
theorem number_ok (re:Re):re.fine=true→re.every repB=true→∀c:Int,0≤c→c + re.size≤1000000000000 →
  callWp Try.prog 53 [.d (.el re.cells),.rf 0 0 0 0] [mcntO c] fun v s=>v=.d (numR re c).1.d∧s=[mcntO (numR re c).2]:=by
 induction re using Re.ind with
 | h re ih =>
 intro hf hev c hc hcs
 obtain⟨hset1,hlen,hfk⟩:=Re.fine_spec hf
 obtain⟨he1,he2⟩:=(Re.every_iff _).1 hev
 have hsz:=Re.size_eq re
 have w1:IntKind.i64.wrap (c + 1)=c + 1:=w64 _ (by omega)
 unfold mcntO
 rw[numR_eq]
 refine fn_ok Try.func53 rfl Try.ntmps53 Try.results53 rfl 1 12583027 (by simp) (by simp) ?_
 simp only[zX,Nat.reduceShiftRight,Nat.reduceMod,Nat.reduceLT,Nat.reduceMul,Nat.reduceSub,Int.reduceToNat,Int.reduceNeg,Int.reduceLT,Int.reduceLE,Int.reduceEq,Nat.reduceEqDiff,Nat.reduceAdd,Nat.reduceLeDiff,reduceIte,reduceCtorEq,Nat.reduceBEq,i64,iD,bD,Re.cells_eq re,w1]
 refine loop_rule (fun n e s=>∃(i g:Nat),n=re.kids.length - i∧i≤re.kids.length∧e 0=.d (.el re.cells)∧e 1=.rf 0 0 0 0∧e 5=.rf 1 0 0 0∧e 22=i64 re.kids.length∧e 23=i64 i ∧
   s=[mcntO (numL (re.kids.take i) (c + 1)).2,⟨0,true,4,[[.d (.el re.cells),.d (iD c),.so 2 g 0 i,.d (bD false)]]⟩,⟨g,true,1,(numL (re.kids.take i) (c + 1)).1.map fun k=>[.d k.d]⟩])
  ⟨_,_,_,Cln.of0 (reserveCell (pre:=[.d (.el re.cells),.d (iD c)]) (post:=[.d (bD false)]) 1 1 rfl (by simp [Re.cells_eq re,iD,bD]) rfl),0,0,rfl,by omega,by rw[Re.cells_eq re]; rfl,rfl,rfl,by (try simp); rfl,rfl,?_⟩ ?_
 ·simp [numL,mcntO,Re.cells_eq re,iD,bD]
 rintro n e s ⟨i,g,rfl,hi,h0,h1,h5,h22,h23,rfl⟩
 rcases Nat.lt_or_ge i re.kids.length with hlt | hge
 ·obtain⟨k,hk⟩:∃k,re.kids[i]?=some k:=⟨_,List.getElem?_eq_getElem hlt⟩
  have hm:=List.mem_of_getElem? hk
  have hT:=Re.sizeL_take re.kids (i + 1)
  rw[take_get hk,Re.sizeL_append] at hT
  simp only[Re.sizeL] at hT
  have hcv:(numL (re.kids.take i) (c + 1)).2=c + 1 + Re.sizeL (re.kids.take i):=numL_size _ _
  have hcall:=ih k hm (hfk k hm) (he2 k hm) (numL (re.kids.take i) (c + 1)).2 (by omega) (by omega)
  have hnt:=numL_take re.kids (c + 1) hk
  have hll:(numL (re.kids.take i) (c + 1)).1.length=i:=by rw[numL_length]; simp; omega
  generalize numL (re.kids.take i) (c + 1)=A at *
  obtain⟨ns,c1⟩:=A
  simp only at hcv hcall hnt hll
  simp only[zX,Nat.reduceShiftRight,Nat.reduceMod,Nat.reduceLT,Nat.reduceMul,Nat.reduceSub,Int.reduceToNat,Int.reduceNeg,Int.reduceLT,Int.reduceLE,Int.reduceEq,Nat.reduceEqDiff,Nat.reduceAdd,Nat.reduceLeDiff,reduceIte,reduceCtorEq,Nat.reduceBEq,i64,iD,bD,mcntO,Re.cells_eq re,h0,h1,h5,h22,h23,hlt]
  refine draw_c mix [] [(2,[1],[]),(3,[1],[]),(4,[1],[]),(12,[0],[0]),(14,[2],[2]),(15,[1],[]),(16,[1],[]),(17,[1],[1])] (by rfl) ?_
  simp only[zX,Nat.reduceShiftRight,Nat.reduceMod,Nat.reduceLT,Nat.reduceMul,Nat.reduceSub,Int.reduceToNat,Int.reduceNeg,Int.reduceLT,Int.reduceLE,Int.reduceEq,Nat.reduceEqDiff,Nat.reduceAdd,Nat.reduceLeDiff,reduceIte,reduceCtorEq,Nat.reduceBEq,i64,iD,bD,mcntO,Re.cells_eq re,h0,h1,h5,h22,h23,hlt,hk]
  refine callF_one hcall rfl rfl rfl rfl rfl rfl ?_
  simp only[zX,Nat.reduceShiftRight,Nat.reduceMod,Nat.reduceLT,Nat.reduceMul,Nat.reduceSub,Int.reduceToNat,Int.reduceNeg,Int.reduceLT,Int.reduceLE,Int.reduceEq,Nat.reduceEqDiff,Nat.reduceAdd,Nat.reduceLeDiff,reduceIte,reduceCtorEq,Nat.reduceBEq,i64,iD,bD,mcntO,h0,h1,h5,h22,h23,hlt,List.length_map,hll]
  refine⟨rfl,by simp,⟨by omega,by omega⟩,?_⟩
  refine⟨re.kids.length - (i + 1),_,_,by omega,Cln.refl,i + 1,g + 1,rfl,hlt,?_,?_,?_,?_,?_,?_⟩ <;> (try simp only[zU,Nat.reduceBEq,Nat.reduceShiftRight,Nat.reduceMod,Nat.reduceEqDiff,reduceIte])
  ·rw[h0,Re.cells_eq re]; rfl
  ·exact h1
  ·exact h5
  ·exact h22
  ·rw[w64 _ (by omega)]; rfl
  ·rw[hnt]
   have htk:List.take i (List.map (fun k=>[V.d k.d]) ns)=List.map (fun k=>[V.d k.d]) ns:=List.take_of_length_le (by simp [hll])
   simp only[htk,List.map_append,List.map_cons,List.map_nil]
 ·have hie:i=re.kids.length:=by omega
  subst hie
  rw[List.take_length]
  have hll:(numL re.kids (c + 1)).1.length=re.kids.length:=numL_length _ _
  have hnd:(Nd.mk re c (numL re.kids (c + 1)).1 (decide (re.op=4)&&nulH re.kids)).d=.el [.el re.cells,.sc (.int .i64 c),.sl ((numL re.kids (c + 1)).1.map fun k=>[k.d]),.sc (.bool (decide (re.op=4)&&nulH re.kids))]:=Nd.d_eq _
  rw[hnd]
  generalize numL re.kids (c + 1)=A at *
  obtain⟨ns,c1⟩:=A
  simp only at hll
  have htk:List.take re.kids.length (List.map (fun k=>[V.d k.d]) ns)=List.map (fun k=>[V.d k.d]) ns:=List.take_of_length_le (by simp [hll])
  by_cases o4:re.op=4
  ·obtain⟨k,hk⟩:∃k,re.kids[0]?=some k:=by
    have:=of_decide_eq_true he1 o4
    cases hh:re.kids with
    | nil=>exact absurd hh this
    | cons y l=>exact⟨y,by rfl⟩
   have hl0:(0:Int) < (re.kids.length:Int):=by
    have:=(List.getElem?_eq_some_iff.1 hk).1
    omega
   have hnu:=nullable_ok k (hfk k (List.mem_of_getElem? hk))
   rw[nulH_anul hk]
   simp only[zX,Nat.reduceShiftRight,Nat.reduceMod,Nat.reduceLT,Nat.reduceMul,Nat.reduceSub,Int.reduceToNat,Int.reduceNeg,Int.reduceLT,Int.reduceLE,Int.reduceEq,Nat.reduceEqDiff,Nat.reduceAdd,Nat.reduceLeDiff,reduceIte,reduceCtorEq,Nat.reduceBEq,i64,iD,bD,mcntO,Re.cells_eq re,h0,h1,h5,h22,h23,Int.lt_irrefl,o4,hl0,hk,List.length_map,List.getElem?_map,Option.map_some]
   refine call_pure hnu (by simp [refsV,refsV.go,reV_eq,i64,bV,reEl]) (by simp [refsV,refsV.go,reV_eq,i64,bV,reEl]) ?_
   cases hkn:k.anul
   all_goals
    simp only[zX,Nat.reduceShiftRight,Nat.reduceMod,Nat.reduceLT,Nat.reduceMul,Nat.reduceSub,Int.reduceToNat,Int.reduceNeg,Int.reduceLT,Int.reduceLE,Int.reduceEq,Nat.reduceEqDiff,Nat.reduceAdd,Nat.reduceLeDiff,reduceIte,reduceCtorEq,Nat.reduceBEq,i64,iD,bD,bV,mcntO,Re.cells_eq re,h0,h1,h5,h22,h23,o4,hkn,List.length_map,hll,htk,frzD,frzV]
    simp only[nd_mapM,Nat.zero_add,Nat.le_refl,if_true,Option.map_some,Option.bind_some,decide_true,Bool.true_and,o4]
  ·simp only[zX,Nat.reduceShiftRight,Nat.reduceMod,Nat.reduceLT,Nat.reduceMul,Nat.reduceSub,Int.reduceToNat,Int.reduceNeg,Int.reduceLT,Int.reduceLE,Int.reduceEq,Nat.reduceEqDiff,Nat.reduceAdd,Nat.reduceLeDiff,reduceIte,reduceCtorEq,Nat.reduceBEq,i64,iD,bD,bV,mcntO,Re.cells_eq re,h0,h1,h5,h22,h23,o4,Int.lt_irrefl,List.length_map,hll,htk,frzD,frzV]
   simp only[nd_mapM,Nat.zero_add,Nat.le_refl,if_true,Option.map_some,Option.bind_some,decide_false,Bool.false_and,o4]
theorem mraw_bx (x v:V):rawAt x (.bx v)=.bx v:=by cases x <;> rfl
theorem msymbol_ok (x top:Int):PureOK Try.prog 52 [i64 x,.bx (i64 top)] (bV (decide (x < 0)||decide (top < x))):=by
 refine fn_ok Try.func52 rfl Try.ntmps52 Try.results52 rfl 0 11 (by simp) (by simp) ?_
 by_cases c:x < 0
 ·simp only[zX,Nat.reduceShiftRight,Nat.reduceMod,Nat.reduceLT,Nat.reduceMul,Nat.reduceSub,Int.reduceToNat,Int.reduceNeg,Int.reduceLT,Int.reduceLE,Int.reduceEq,Nat.reduceEqDiff,Nat.reduceAdd,Nat.reduceLeDiff,reduceIte,reduceCtorEq,Nat.reduceBEq,i64,bV,iD,mraw_bx,c,decide_true,Bool.true_or]
 ·simp only[zX,Nat.reduceShiftRight,Nat.reduceMod,Nat.reduceLT,Nat.reduceMul,Nat.reduceSub,Int.reduceToNat,Int.reduceNeg,Int.reduceLT,Int.reduceLE,Int.reduceEq,Nat.reduceEqDiff,Nat.reduceAdd,Nat.reduceLeDiff,reduceIte,reduceCtorEq,Nat.reduceBEq,i64,bV,iD,mraw_bx,c,gt_iff_lt,decide_false,Bool.false_or]
def mtopCl (top:Int):D:=.cl (.func 52) [] [.el [iD top]]
def mbad (top x:Int):Bool:=decide (x < 0)||decide (top < x)
theorem mindex_ok (t:List Int) (top:Int) (ht:t.length≤1000000000):PureOK Try.prog 68 [.d (intsD t),.d (mtopCl top)] (i64 (match t.findIdx? (mbad top) with | some i=>(i:Int) | none=>-1)):=by
 refine fn_ok Try.func68 rfl Try.ntmps68 Try.results68 rfl 0 435 (by simp) (by simp) ?_
 simp only[zX,Nat.reduceShiftRight,Nat.reduceMod,Nat.reduceLT,Nat.reduceMul,Nat.reduceSub,Int.reduceToNat,Int.reduceNeg,Int.reduceLT,Int.reduceLE,Int.reduceEq,Nat.reduceEqDiff,Nat.reduceAdd,Nat.reduceLeDiff,reduceIte,reduceCtorEq,Nat.reduceBEq,i64,iD,intsD,mtopCl,List.length_map]
 refine loop_rule (fun n e s=>∃i:Nat,n=t.length - i∧i≤t.length∧e 0=.d (intsD t)∧e 1=.d (mtopCl top)∧e 7=i64 t.length∧e 8=i64 i∧s=[]∧(t.take i).any (mbad top)=false)
  ⟨_,_,_,Cln.refl,0,rfl,by omega,rfl,rfl,rfl,rfl,rfl,rfl⟩ ?_
 rintro n e s ⟨i,rfl,hi,h0,h1,h7,h8,rfl,hno⟩
 simp only[mtopCl,intsD] at h0 h1
 rcases Nat.lt_or_ge i t.length with hlt | hge
 ·obtain⟨x,hx⟩:∃x,t[i]?=some x:=⟨_,List.getElem?_eq_getElem hlt⟩
  have hlt':(i:Int) < t.length:=by omega
  have hs:=msymbol_ok x top
  simp only[i64,bV] at hs
  simp only[zX,Nat.reduceShiftRight,Nat.reduceMod,Nat.reduceLT,Nat.reduceMul,Nat.reduceSub,Int.reduceToNat,Int.reduceNeg,Int.reduceLT,Int.reduceLE,Int.reduceEq,Nat.reduceEqDiff,Nat.reduceAdd,Nat.reduceLeDiff,reduceIte,reduceCtorEq,Nat.reduceBEq,i64,iD,h0,h1,h7,h8,hlt',hlt,hx]
  refine call_pure hs rfl rfl ?_
  by_cases c:(decide (x < 0)||decide (top < x))=true
  ·have hfi:t.findIdx? (mbad top)=some i:=by
    rw[List.findIdx?_eq_some_iff_getElem]
    refine⟨hlt,?_,fun j hj=>?_⟩
    ·rw[(List.getElem?_eq_some_iff.1 hx).2]; exact c
    ·intro hc
     have hm:t[j]∈t.take i:=by
      rw[List.mem_take_iff_getElem]
      exact⟨j,by omega,rfl⟩
     have:(t.take i).any (mbad top)=true:=List.any_eq_true.2 ⟨t[j],hm,hc⟩
     rw[hno] at this; cases this
   rw[hfi]
   simp only[zX,Nat.reduceShiftRight,Nat.reduceMod,Nat.reduceLT,Nat.reduceMul,Nat.reduceSub,Int.reduceToNat,Int.reduceNeg,Int.reduceLT,Int.reduceLE,Int.reduceEq,Nat.reduceEqDiff,Nat.reduceAdd,Nat.reduceLeDiff,reduceIte,reduceCtorEq,Nat.reduceBEq,i64,iD,h0,h1,h7,h8,c]
  ·have c:(decide (x < 0)||decide (top < x))=false:=by simpa using c
   simp only[zX,Nat.reduceShiftRight,Nat.reduceMod,Nat.reduceLT,Nat.reduceMul,Nat.reduceSub,Int.reduceToNat,Int.reduceNeg,Int.reduceLT,Int.reduceLE,Int.reduceEq,Nat.reduceEqDiff,Nat.reduceAdd,Nat.reduceLeDiff,reduceIte,reduceCtorEq,Nat.reduceBEq,i64,iD,h0,h1,h7,h8,c,Bool.false_eq_true]
   refine⟨t.length - (i + 1),_,_,by omega,Cln.refl,i + 1,rfl,hlt,?_,?_,?_,?_,rfl,?_⟩ <;> (try simp only[zU,Nat.reduceBEq,Nat.reduceShiftRight,Nat.reduceMod,Nat.reduceEqDiff,reduceIte])
   ·exact h0
   ·exact h1
   ·exact h7
   ·rw[w64 _ (by omega)]; rfl
   ·rw[take_get hx,List.any_append,hno]
    simp [mbad,c]
 ·have hie:i=t.length:=by omega
  subst hie
  rw[List.take_length] at hno
  have hfi:t.findIdx? (mbad top)=none:=by
   rw[List.findIdx?_eq_none_iff]
   intro x hx
   exact Bool.eq_false_iff.2 fun h=>by
    have:t.any (mbad top)=true:=List.any_eq_true.2 ⟨x,hx,h⟩
    rw[hno] at this; cases this
  have hlt':¬(t.length:Int) < t.length:=by omega
  rw[hfi]
  simp only[zX,Nat.reduceShiftRight,Nat.reduceMod,Nat.reduceLT,Nat.reduceMul,Nat.reduceSub,Int.reduceToNat,Int.reduceNeg,Int.reduceLT,Int.reduceLE,Int.reduceEq,Nat.reduceEqDiff,Nat.reduceAdd,Nat.reduceLeDiff,reduceIte,reduceCtorEq,Nat.reduceBEq,i64,iD,h0,h1,h7,h8,hlt']
theorem mbad_any (t:List Int) (top:Int):decide (0≤(match t.findIdx? (mbad top) with | some i=>(i:Int) | none=>-1))=t.any (mbad top):=by
 cases h:t.findIdx? (mbad top) with
 | none =>
  rw[List.findIdx?_eq_none_iff] at h
  have:t.any (mbad top)=false:=by
   rw[Bool.eq_false_iff]; intro hc
   obtain⟨x,hx,h1⟩:=List.any_eq_true.1 hc
   rw[h x hx] at h1; cases h1
  rw[this]; rfl
 | some i =>
  rw[List.findIdx?_eq_some_iff_getElem] at h
  obtain⟨h1,h2,_⟩:=h
  have:t.any (mbad top)=true:=List.any_eq_true.2 ⟨t[i],List.getElem_mem h1,h2⟩
  rw[this]
  exact decide_eq_true (by show 0≤(i:Int); omega)
theorem mcontains_ok (t:List Int) (top:Int) (ht:t.length≤1000000000):PureOK Try.prog 51 [.d (intsD t),.d (mtopCl top)] (bV (t.any (mbad top))):=by
 have h1:=mindex_ok t top ht
 rw[← mbad_any t top]
 simp only[i64,mtopCl,iD] at h1
 generalize (match t.findIdx? (mbad top) with | some i=>(i:Int) | none=>-1)=r at *
 refine fn_ok Try.func51 rfl Try.ntmps51 Try.results51 rfl 0 19 (by simp) (by simp) ?_
 simp only[zX,Nat.reduceShiftRight,Nat.reduceMod,Nat.reduceLT,Nat.reduceMul,Nat.reduceSub,Int.reduceToNat,Int.reduceNeg,Int.reduceLT,Int.reduceLE,Int.reduceEq,Nat.reduceEqDiff,Nat.reduceAdd,Nat.reduceLeDiff,reduceIte,reduceCtorEq,Nat.reduceBEq,i64,iD,mtopCl]
 refine call_pure h1 rfl rfl ?_
 simp only[zX,Nat.reduceShiftRight,Nat.reduceMod,Nat.reduceLT,Nat.reduceMul,Nat.reduceSub,Int.reduceToNat,Int.reduceNeg,Int.reduceLT,Int.reduceLE,Int.reduceEq,Nat.reduceEqDiff,Nat.reduceAdd,Nat.reduceLeDiff,reduceIte,reduceCtorEq,Nat.reduceBEq,i64,iD,ge_iff_le,bV]
def checkM (p:Pat) (t:List Int) (at_ fuel:Int):Int :=
 if validR p≠0 then validR p else if 65536 < t.length then 4 else if t.any (mbad (topR p.runes))=true then 1 else if fuel < 0∨1099511627776 < fuel then 1 else if at_ < 0∨(t.length:Int) < at_ then 5 else 0
theorem mcheck_ok (p:Pat) (t:List Int) (at_ fuel:Int) (hf:p.re.fine=true) (ht:t.length≤1000000000):PureOK Try.prog 25 [.ag ((patC p).map .d),.d (intsD t),i64 at_,i64 fuel] (i64 (checkM p t at_ fuel)):=by
 have hv:=valid_ok p hf
 have h1:=mcontains_ok t (topR p.runes) ht
 unfold checkM
 generalize validR p=vp at *
 generalize t.any (mbad (topR p.runes))=r at *
 obtain⟨re,caps,runes⟩:=p
 simp only[patC,Re.cells_eq re,List.map_cons,List.map_nil,List.cons_append,List.nil_append,i64,iD,bD,bV] at hv
 simp only[i64,mtopCl,iD,bV,topR] at h1
 simp only[patC,Re.cells_eq re,List.map_cons,List.map_nil,List.cons_append,List.nil_append,i64,iD,bD,bV,intsD]
 refine fn_ok Try.func25 rfl Try.ntmps25 Try.results25 rfl 0 1823 (by simp) (by simp) ?_
 simp only[zX,Nat.reduceShiftRight,Nat.reduceMod,Nat.reduceLT,Nat.reduceMul,Nat.reduceSub,Int.reduceToNat,Int.reduceNeg,Int.reduceLT,Int.reduceLE,Int.reduceEq,Nat.reduceEqDiff,Nat.reduceAdd,Nat.reduceLeDiff,reduceIte,reduceCtorEq,Nat.reduceBEq,i64,bV,iD,bD]
 refine call_pure hv rfl rfl ?_
 by_cases c:vp=0
 case neg =>
  rw[if_pos c]
  simp only[zX,Nat.reduceShiftRight,Nat.reduceMod,Nat.reduceLT,Nat.reduceMul,Nat.reduceSub,Int.reduceToNat,Int.reduceNeg,Int.reduceLT,Int.reduceLE,Int.reduceEq,Nat.reduceEqDiff,Nat.reduceAdd,Nat.reduceLeDiff,reduceIte,reduceCtorEq,Nat.reduceBEq,i64,bV,iD,bD,c,ne_eq,not_false_eq_true]
 rw[if_neg (fun h=>h c)]
 by_cases cl:65536 < t.length
 ·have cl':(65536:Int) < (t.length:Int):=by omega
  rw[if_pos cl]
  cases runes with
  | true=>simp only[zX,Nat.reduceShiftRight,Nat.reduceMod,Nat.reduceLT,Nat.reduceMul,Nat.reduceSub,Int.reduceToNat,Int.reduceNeg,Int.reduceLT,Int.reduceLE,Int.reduceEq,Nat.reduceEqDiff,Nat.reduceAdd,Nat.reduceLeDiff,reduceIte,reduceCtorEq,Nat.reduceBEq,i64,iD,bV,bD,c,ne_eq,not_true_eq_false,gt_iff_lt,List.length_map,cl']
  | false=>simp only[zX,Nat.reduceShiftRight,Nat.reduceMod,Nat.reduceLT,Nat.reduceMul,Nat.reduceSub,Int.reduceToNat,Int.reduceNeg,Int.reduceLT,Int.reduceLE,Int.reduceEq,Nat.reduceEqDiff,Nat.reduceAdd,Nat.reduceLeDiff,reduceIte,reduceCtorEq,Nat.reduceBEq,i64,iD,bV,bD,c,ne_eq,not_true_eq_false,gt_iff_lt,List.length_map,cl',Bool.false_eq_true]
 have cl':¬(65536:Int) < (t.length:Int):=by omega
 rw[if_neg cl]
 cases runes
 all_goals
  simp only[Bool.false_eq_true,if_false,if_true] at h1
  simp only[zX,Nat.reduceShiftRight,Nat.reduceMod,Nat.reduceLT,Nat.reduceMul,Nat.reduceSub,Int.reduceToNat,Int.reduceNeg,Int.reduceLT,Int.reduceLE,Int.reduceEq,Nat.reduceEqDiff,Nat.reduceAdd,Nat.reduceLeDiff,reduceIte,reduceCtorEq,Nat.reduceBEq,i64,iD,bV,bD,c,ne_eq,not_true_eq_false,gt_iff_lt,List.length_map,cl',Bool.false_eq_true]
  refine call_give [1] (by simp [killO,kill1,frzV.go,frzV,frzD]; rfl) ?_
  refine call_pure h1 rfl rfl ?_
  cases r with
  | true=>simp only[zX,Nat.reduceShiftRight,Nat.reduceMod,Nat.reduceLT,Nat.reduceMul,Nat.reduceSub,Int.reduceToNat,Int.reduceNeg,Int.reduceLT,Int.reduceLE,Int.reduceEq,Nat.reduceEqDiff,Nat.reduceAdd,Nat.reduceLeDiff,reduceIte,reduceCtorEq,Nat.reduceBEq,i64,iD,bV,bD,if_true]
  | false =>
   rw[if_neg (by simp)]
   by_cases c1:fuel < 0
   ·rw[if_pos (.inl c1)]
    simp only[zX,Nat.reduceShiftRight,Nat.reduceMod,Nat.reduceLT,Nat.reduceMul,Nat.reduceSub,Int.reduceToNat,Int.reduceNeg,Int.reduceLT,Int.reduceLE,Int.reduceEq,Nat.reduceEqDiff,Nat.reduceAdd,Nat.reduceLeDiff,reduceIte,reduceCtorEq,Nat.reduceBEq,i64,iD,bV,bD,Bool.false_eq_true,c1]
   by_cases c2:1099511627776 < fuel
   ·rw[if_pos (.inr c2)]
    simp only[zX,Nat.reduceShiftRight,Nat.reduceMod,Nat.reduceLT,Nat.reduceMul,Nat.reduceSub,Int.reduceToNat,Int.reduceNeg,Int.reduceLT,Int.reduceLE,Int.reduceEq,Nat.reduceEqDiff,Nat.reduceAdd,Nat.reduceLeDiff,reduceIte,reduceCtorEq,Nat.reduceBEq,i64,iD,bV,bD,Bool.false_eq_true,c1,c2,gt_iff_lt]
   rw[if_neg (by omega)]
   by_cases c3:at_ < 0
   ·rw[if_pos (.inl c3)]
    simp only[zX,Nat.reduceShiftRight,Nat.reduceMod,Nat.reduceLT,Nat.reduceMul,Nat.reduceSub,Int.reduceToNat,Int.reduceNeg,Int.reduceLT,Int.reduceLE,Int.reduceEq,Nat.reduceEqDiff,Nat.reduceAdd,Nat.reduceLeDiff,reduceIte,reduceCtorEq,Nat.reduceBEq,i64,iD,bV,bD,Bool.false_eq_true,c1,c2,c3,gt_iff_lt]
   by_cases c4:(t.length:Int) < at_
   ·rw[if_pos (.inr c4)]
    simp only[zX,Nat.reduceShiftRight,Nat.reduceMod,Nat.reduceLT,Nat.reduceMul,Nat.reduceSub,Int.reduceToNat,Int.reduceNeg,Int.reduceLT,Int.reduceLE,Int.reduceEq,Nat.reduceEqDiff,Nat.reduceAdd,Nat.reduceLeDiff,reduceIte,reduceCtorEq,Nat.reduceBEq,i64,iD,bV,bD,Bool.false_eq_true,c1,c2,c3,c4,gt_iff_lt,List.length_map]
   ·rw[if_neg (by omega)]
    simp only[zX,Nat.reduceShiftRight,Nat.reduceMod,Nat.reduceLT,Nat.reduceMul,Nat.reduceSub,Int.reduceToNat,Int.reduceNeg,Int.reduceLT,Int.reduceLE,Int.reduceEq,Nat.reduceEqDiff,Nat.reduceAdd,Nat.reduceLeDiff,reduceIte,reduceCtorEq,Nat.reduceBEq,i64,iD,bV,bD,Bool.false_eq_true,c1,c2,c3,c4,gt_iff_lt,List.length_map]
end Go.Proofs.Ytpppfpaalcbggaa
