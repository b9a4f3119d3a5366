/- A part of the proof (E30 E31 E32 E33 E34 E35). -/
import Derived.Test.YtllagoeijcjpiaaSL2
import Derived.Test.YtllagoeijcjpiaaSL26
import Derived.Test.YtllagoeijcjpiaaSL3
import Derived.Test.YtllagoeijcjpiaaSL21
import Derived.Test.YtllagoeijcjpiaaSL25
set_option linter.unusedSimpArgs false
set_option linter.unusedVariables false
set_option maxRecDepth 100000
set_option maxHeartbeats 80000000
namespace Go.Proofs.Ytllagoeijcjpiaa
open Go.VL Go.Proofs.Try
theorem sym0_ok:PureOK prog 105 [i64 0] (bV false):=by
 refine fn_ok func105 rfl ntmps105 results105 rfl 0 5 (by simp) (by simp) ?_
 simp only[zX,Nat.reduceShiftRight,Nat.reduceMod,Nat.reduceLT,Nat.reduceMul,Nat.reduceSub,Int.reduceToNat,Int.reduceNeg,Int.reduceLT,Int.reduceLE,Int.reduceEq,Nat.reduceEqDiff,Nat.reduceAdd,Nat.reduceLeDiff,reduceIte,reduceCtorEq,Nat.reduceBEq,i64,iD,bV]
def symF:V:=.cl (.func 105) [] []
theorem index0_ok (n:Nat) (hl:n≤1000000000):PureOK prog 143 [.d (intsD (List.replicate n 0)),symF] (i64 (-1)):=by
 have hrep:∀i:Nat,i < n→(List.replicate n (0:Int))[i]?=some 0:=fun i hi=>by simp [hi]
 have hlen:(List.replicate n (0:Int)).length=n:=List.length_replicate
 generalize List.replicate n (0:Int)=l at *
 subst hlen
 refine fn_ok func143 rfl ntmps143 results143 rfl 0 435 (by simp) (by simp) ?_
 simp only[zX,Nat.reduceShiftRight,Nat.reduceMod,Nat.reduceLT,Nat.reduceMul,Nat.reduceSub,Int.reduceToNat,Int.reduceNeg,Int.reduceLT,Int.reduceLE,Int.reduceEq,Nat.reduceEqDiff,Nat.reduceAdd,Nat.reduceLeDiff,reduceIte,reduceCtorEq,Nat.reduceBEq,i64,iD,intsD,List.length_map,symF]
 refine loop_rule (fun n e s=>∃i:Nat,n=l.length - i∧i≤l.length∧e 0=.d (intsD l)∧e 1=symF∧e 7=i64 l.length∧e 8=i64 i∧s=[])
  ⟨_,_,_,Cln.refl,0,rfl,by omega,rfl,rfl,rfl,rfl,rfl⟩ ?_
 rintro n e s ⟨i,rfl,hi,h0,h1,h7,h8,rfl⟩
 rcases Nat.lt_or_ge i l.length with hlt | hge
 ·have hlt':(i:Int) < (l.length:Int):=by omega
  have hi0:(0:Int)≤(i:Int):=by omega
  have hx:=hrep i hlt
  simp only[zX,Nat.reduceShiftRight,Nat.reduceMod,Nat.reduceLT,Nat.reduceMul,Nat.reduceSub,Int.reduceToNat,Int.reduceNeg,Int.reduceLT,Int.reduceLE,Int.reduceEq,Nat.reduceEqDiff,Nat.reduceAdd,Nat.reduceLeDiff,reduceIte,reduceCtorEq,Nat.reduceBEq,i64,iD,intsD,symF,h0,h1,h7,h8,hlt',hi0,Int.toNat_natCast,hlt,hx,List.length_map]
  refine call_pure sym0_ok rfl rfl ?_
  simp only[zX,Nat.reduceShiftRight,Nat.reduceMod,Nat.reduceLT,Nat.reduceMul,Nat.reduceSub,Int.reduceToNat,Int.reduceNeg,Int.reduceLT,Int.reduceLE,Int.reduceEq,Nat.reduceEqDiff,Nat.reduceAdd,Nat.reduceLeDiff,reduceIte,reduceCtorEq,Nat.reduceBEq,i64,iD,intsD,symF,bV,h0,h1,h7,h8,hlt',hi0,Int.toNat_natCast,hlt,hx,List.length_map]
  refine⟨l.length - (i + 1),_,_,by omega,Cln.refl,i + 1,rfl,hlt,?_,?_,?_,?_,rfl⟩ <;> (try simp only[zU,Nat.reduceBEq,Nat.reduceShiftRight,Nat.reduceMod,Nat.reduceEqDiff,reduceIte])
  ·exact h0
  ·exact h1
  ·exact h7
  ·rw[w64 _ (by omega)]; rfl
 ·have hie:i=l.length:=by omega
  subst hie
  simp only[zX,Nat.reduceShiftRight,Nat.reduceMod,Nat.reduceLT,Nat.reduceMul,Nat.reduceSub,Int.reduceToNat,Int.reduceNeg,Int.reduceLT,Int.reduceLE,Int.reduceEq,Nat.reduceEqDiff,Nat.reduceAdd,Nat.reduceLeDiff,reduceIte,reduceCtorEq,Nat.reduceBEq,i64,iD,intsD,symF,h0,h1,h7,h8,Int.lt_irrefl,List.length_map]
theorem contains0_ok (n:Nat) (hl:n≤1000000000):PureOK prog 104 [.d (intsD (List.replicate n 0)),symF] (bV false):=by
 have h:=index0_ok n hl
 generalize List.replicate n (0:Int)=l at *
 simp only[i64,intsD,symF] at h
 refine fn_ok func104 rfl ntmps104 results104 rfl 0 19 (by simp) (by simp) ?_
 simp only[zX,Nat.reduceShiftRight,Nat.reduceMod,Nat.reduceLT,Nat.reduceMul,Nat.reduceSub,Int.reduceToNat,Int.reduceNeg,Int.reduceLT,Int.reduceLE,Int.reduceEq,Nat.reduceEqDiff,Nat.reduceAdd,Nat.reduceLeDiff,reduceIte,reduceCtorEq,Nat.reduceBEq,i64,iD,bV,intsD,symF]
 refine call_pure h rfl rfl ?_
 simp only[zX,Nat.reduceShiftRight,Nat.reduceMod,Nat.reduceLT,Nat.reduceMul,Nat.reduceSub,Int.reduceToNat,Int.reduceNeg,Int.reduceLT,Int.reduceLE,Int.reduceEq,Nat.reduceEqDiff,Nat.reduceAdd,Nat.reduceLeDiff,reduceIte,reduceCtorEq,Nat.reduceBEq,i64,iD,bV,intsD,ge_iff_le]
def editV (x:Int) (n:Nat):V:=.ag [i64 0,i64 x,.d (intsD (List.replicate n 0))]
theorem check0_ok (t:List Int) (x:Int) (n:Nat) (ht:t.length≤1000) (hx:0≤x) (hxt:x≤t.length) (hn:n≤1000) :
  PureOK prog 61 [.d (intsD t),editV x n] (i64 0):=by
 have h:=contains0_ok n (by omega)
 have hlen:(List.replicate n (0:Int)).length=n:=List.length_replicate
 rw[editV]
 generalize List.replicate n (0:Int)=l at *
 subst hlen
 have w1:IntKind.i64.wrap ((t.length:Int) - 0)=t.length:=w64 _ (by omega)
 have w1':IntKind.i64.wrap (t.length:Int)=t.length:=w64 _ (by omega)
 have w2:IntKind.i64.wrap ((t.length:Int) - x)=t.length - x:=w64 _ (by omega)
 have w3:IntKind.i64.wrap ((t.length:Int) - x + l.length)=t.length - x + l.length:=w64 _ (by omega)
 have a1:¬x < 0:=by omega
 have a2:¬(t.length:Int) < 0:=by omega
 have a3:¬(t.length:Int) < x:=by omega
 have a4:¬(65536:Int) < t.length - x + l.length:=by omega
 simp only[intsD,symF,bV] at h
 refine fn_ok func61 rfl ntmps61 results61 rfl 0 27 (by simp) (by simp) ?_
 simp only[zX,Nat.reduceShiftRight,Nat.reduceMod,Nat.reduceLT,Nat.reduceMul,Nat.reduceSub,Int.reduceToNat,Int.reduceNeg,Int.reduceLT,Int.reduceLE,Int.reduceEq,Nat.reduceEqDiff,Nat.reduceAdd,Nat.reduceLeDiff,reduceIte,reduceCtorEq,Nat.reduceBEq,i64,iD,intsD,List.length_map,w1,w1',w2,w3,a1,a2,a3,a4,Int.sub_zero,Int.lt_irrefl]
 refine call_pure h rfl rfl ?_
 simp only[zX,Nat.reduceShiftRight,Nat.reduceMod,Nat.reduceLT,Nat.reduceMul,Nat.reduceSub,Int.reduceToNat,Int.reduceNeg,Int.reduceLT,Int.reduceLE,Int.reduceEq,Nat.reduceEqDiff,Nat.reduceAdd,Nat.reduceLeDiff,reduceIte,reduceCtorEq,Nat.reduceBEq,i64,iD,bV,intsD,List.length_map,w1,w1',w2,w3,a1,a2,a3,a4,Int.sub_zero,Int.lt_irrefl]
theorem grow_zero:callWp prog 106 [.fu [],i64 0] [] fun v s=>v=.fu []∧s=[]:=by
 have w0:IntKind.i64.wrap 0=0:=rfl
 refine fn_keep func106 rfl ntmps106 results106 rfl 0 19 (by simp) (by simp) ?_
 simp only[zX,Nat.reduceShiftRight,Nat.reduceMod,Nat.reduceLT,Nat.reduceMul,Nat.reduceSub,Int.reduceToNat,Int.reduceNeg,Int.reduceLT,Int.reduceLE,Int.reduceEq,Nat.reduceEqDiff,Nat.reduceAdd,Nat.reduceLeDiff,reduceIte,reduceCtorEq,Nat.reduceBEq,i64,List.length_nil,Int.natCast_zero,Int.sub_zero,w0,Int.lt_irrefl,decide_false,Bool.false_eq_true,opW_cap,capWp,Qkeep,keepWp]
 all_goals first | exact⟨rfl,rfl⟩ | trivial | skip
theorem grow_pos (n:Nat) (h0:0 < n) (hn:n≤1000000):callWp prog 106 [.fu [],i64 n] [] fun v s=>v=.so 0 0 0 0∧s=[⟨0,true,1,List.replicate n [i64 0]⟩]:=by
 have w1:IntKind.i64.wrap (n:Int)=n:=w64 _ (by omega)
 have a1:¬(n:Int) < 0:=by omega
 have a2:0 < (n:Int):=by omega
 have a3:((8:Nat):Int) * (n:Int)≤140737488355328:=by omega
 have a4:(n:Int)≤140737488355328:=by omega
 have w0:IntKind.i64.wrap 0=0:=rfl
 refine fn_own func106 rfl ntmps106 results106 rfl 0 19 (by simp) (by simp) ?_
 simp only[zX,Nat.reduceShiftRight,Nat.reduceMod,Nat.reduceLT,Nat.reduceMul,Nat.reduceSub,Int.reduceToNat,Int.reduceNeg,Int.reduceLT,Int.reduceLE,Int.reduceEq,Nat.reduceEqDiff,Nat.reduceAdd,Nat.reduceLeDiff,reduceIte,reduceCtorEq,Nat.reduceBEq,i64,List.length_nil,Int.natCast_zero,w0,opW_cap,capWp,appendZWp,List.isEmpty_nil,cond_true,List.length_replicate,Nat.zero_add,Nat.le_refl,Int.sub_zero,w1,a1,a2,a3,a4,Int.toNat_natCast,Qown,ownWp]
 refine⟨[0],by decide,rfl,?_⟩
 simp [selS,downO,downV,downV.go]
def sumL:List (List Int)→Nat
 | []=>0
 | l::L=>l.length + sumL L
theorem sumL_take:∀(L:List (List Int)) (i:Nat) (h:i < L.length),sumL (L.take (i + 1))=sumL (L.take i) + L[i].length
 | l::L,0,_=>by simp [sumL]
 | l::L,i + 1,h=>by
  have:=sumL_take L i (by simpa using h)
  simp only[List.take_succ_cons,sumL,List.getElem_cons_succ]
  omega
theorem sumL_le:∀(L:List (List Int)) (i:Nat),sumL (L.take i)≤sumL L
 | [],i=>by simp [sumL]
 | l::L,0=>by simp [sumL]
 | l::L,i + 1=>by simp only[List.take_succ_cons,sumL]; have:=sumL_le L i; omega
theorem sumL_flat:∀L:List (List Int),L.flatten.length=sumL L
 | []=>rfl
 | l::L=>by simp [sumL,sumL_flat L]
def CatS (v:V) (s:List VL.Obj) (l:List Int):Prop :=
 (v=.fu []∧s=[]∧l=[])∨∃g els,v=.so 0 g 0 l.length∧s=[⟨g,true,1,els⟩]∧els.take l.length=l.map (fun x=>[i64 x])∧l.length≤els.length
theorem grow_cat (n:Nat) (hn:n≤1000000):callWp prog 106 [.fu [],i64 n] [] fun v s=>CatS v s []:=by
 rcases Nat.eq_zero_or_pos n with rfl | h
 ·exact callWp_mono grow_zero fun v s ⟨h1,h2⟩=>.inl ⟨h1,h2,rfl⟩
 ·exact callWp_mono (grow_pos n h hn) fun v s ⟨h1,h2⟩=>.inr ⟨0,_,h1,h2,by simp,by simp⟩
def intssV (L:List (List Int)):V:=.d (.sl (L.map fun l=>[intsD l]))
theorem cat_frz {v:V} {s:List VL.Obj} {l:List Int} (h:CatS v s l):frzV 0 s v=some (.d (intsD l)):=by
 rcases h with ⟨rfl,rfl,rfl⟩ | ⟨g,els,rfl,rfl,h1,h2⟩
 ·rfl
 ·simp only[frzV,frzD,List.getElem?_cons_zero,true_and,List.drop_zero]
  rw[if_pos (by simp; omega),h1]
  have:=mapM_frzE 7 0 [(⟨g,true,1,els⟩:VL.Obj)] (l.map fun x=>[iD x])
  rw[List.map_map] at this
  have he:(l.map fun x=>[i64 x])=List.map ((fun c=>List.map V.d c) ∘ fun x=>[iD x]) l:=List.map_congr_left fun x _=>rfl
  rw[he,this]
  rfl
theorem concat_ok (L:List (List Int)) (hL:L.length≤1000) (hs:sumL L≤1000000):PureOK prog 62 [intssV L] (.d (intsD L.flatten)):=by
 have len_le:∀i (h:i < L.length),sumL (L.take i) + L[i].length≤1000000:=by
  intro i h
  rw[← sumL_take L i h]
  exact Nat.le_trans (sumL_le L _) hs
 refine fn_ok func62 rfl ntmps62 results62 rfl 0 234884973 (by simp) (by simp) ?_
 simp only[zX,Nat.reduceShiftRight,Nat.reduceMod,Nat.reduceLT,Nat.reduceMul,Nat.reduceSub,Int.reduceToNat,Int.reduceNeg,Int.reduceLT,Int.reduceLE,Int.reduceEq,Nat.reduceEqDiff,Nat.reduceAdd,Nat.reduceLeDiff,reduceIte,reduceCtorEq,Nat.reduceBEq,i64,intssV,List.length_map]
 refine loop_rule (fun n e s=>∃i:Nat,n=L.length - i∧i≤L.length∧e 0=intssV L∧e 3=i64 (sumL (L.take i))∧e 9=intssV L∧e 10=i64 L.length∧e 11=i64 i∧s=[])
  ⟨_,_,_,Cln.refl,0,rfl,by omega,rfl,rfl,rfl,rfl,rfl,rfl⟩ ?_
 rintro n e s ⟨i,rfl,hi,h0,h3,h9,h10,h11,rfl⟩
 rcases Nat.lt_or_ge i L.length with hlt | hge
 ·have hlt':(i:Int) < (L.length:Int):=by omega
  have hi0:(0:Int)≤(i:Int):=by omega
  have hx:L[i]?=some L[i]:=List.getElem?_eq_getElem hlt
  have hle:=len_le i hlt
  have hst:=sumL_take L i hlt
  generalize L[i]=l at *
  have w1:IntKind.i64.wrap ((sumL (L.take i):Int) + l.length)=((sumL (L.take (i + 1)):Nat):Int):=by rw[w64 _ (by omega)]; omega
  have w2:¬((sumL (L.take (i + 1)):Nat):Int) < 0:=by omega
  simp only[zX,Nat.reduceShiftRight,Nat.reduceMod,Nat.reduceLT,Nat.reduceMul,Nat.reduceSub,Int.reduceToNat,Int.reduceNeg,Int.reduceLT,Int.reduceLE,Int.reduceEq,Nat.reduceEqDiff,Nat.reduceAdd,Nat.reduceLeDiff,reduceIte,reduceCtorEq,Nat.reduceBEq,i64,iD,intsD,intssV,h0,h3,h9,h10,h11,hlt',hi0,Int.toNat_natCast,hlt,hx,List.length_map,w1,w2]
  refine⟨L.length - (i + 1),_,_,by omega,Cln.refl,i + 1,rfl,hlt,?_,?_,?_,?_,?_,rfl⟩ <;> (try simp only[zU,Nat.reduceBEq,Nat.reduceShiftRight,Nat.reduceMod,Nat.reduceEqDiff,reduceIte])
  ·exact h0
  ·exact h9
  ·exact h10
  ·rw[w64 _ (by omega)]; rfl
 ·have hie:i=L.length:=by omega
  subst hie
  rw[List.take_length] at h3
  simp only[zX,Nat.reduceShiftRight,Nat.reduceMod,Nat.reduceLT,Nat.reduceMul,Nat.reduceSub,Int.reduceToNat,Int.reduceNeg,Int.reduceLT,Int.reduceLE,Int.reduceEq,Nat.reduceEqDiff,Nat.reduceAdd,Nat.reduceLeDiff,reduceIte,reduceCtorEq,Nat.reduceBEq,i64,intssV,h0,h3,h9,h10,h11,Int.lt_irrefl,List.length_map]
  refine callWp_mono (grow_cat (sumL L) hs) ?_
  intro v s hv
  simp only[zX,Nat.reduceShiftRight,Nat.reduceMod,Nat.reduceLT,Nat.reduceMul,Nat.reduceSub,Int.reduceToNat,Int.reduceNeg,Int.reduceLT,Int.reduceLE,Int.reduceEq,Nat.reduceEqDiff,Nat.reduceAdd,Nat.reduceLeDiff,reduceIte,reduceCtorEq,Nat.reduceBEq,i64,intssV,h0,List.length_map]
  refine loop_rule (fun n e s=>∃i:Nat,n=L.length - i∧i≤L.length∧e 6=e 6∧e 25=intssV L∧e 26=i64 L.length∧e 27=i64 i∧CatS (e 6) s (L.take i).flatten)
   ⟨_,_,_,Cln.refl,0,rfl,by omega,rfl,rfl,rfl,rfl,hv⟩ ?_
  clear hv h0 h3 h9 h10 h11
  rintro n e s ⟨i,rfl,hi,-,h25,h26,h27,hc⟩
  generalize h6:e 6=v6 at hc
  rcases Nat.lt_or_ge i L.length with hlt | hge
  ·have hlt':(i:Int) < (L.length:Int):=by omega
   have hi0:(0:Int)≤(i:Int):=by omega
   have hx:L[i]?=some L[i]:=List.getElem?_eq_getElem hlt
   have hle:=len_le i hlt
   have hfl:(L.take (i + 1)).flatten=(L.take i).flatten++L[i]:=by rw[List.take_succ_eq_append_getElem hlt,List.flatten_append]; simp
   have hsz:=sumL_flat (L.take i)
   generalize L[i]=l at *
   generalize (L.take i).flatten=A at *
   rcases hc with ⟨rfl,rfl,rfl⟩ | ⟨g,els,rfl,rfl,q1,q2⟩
   ·simp only[zX,Nat.reduceShiftRight,Nat.reduceMod,Nat.reduceLT,Nat.reduceMul,Nat.reduceSub,Int.reduceToNat,Int.reduceNeg,Int.reduceLT,Int.reduceLE,Int.reduceEq,Nat.reduceEqDiff,Nat.reduceAdd,Nat.reduceLeDiff,reduceIte,reduceCtorEq,Nat.reduceBEq,i64,iD,intsD,intssV,h6,h25,h26,h27,hlt',hi0,Int.toNat_natCast,hlt,hx,List.length_map]
    refine⟨fun e he=>?_,⟨by omega,by simp⟩,?_⟩
    ·rw[List.map_map] at he
     obtain⟨y,_,rfl⟩:=List.mem_map.1 he
     rfl
    refine⟨L.length - (i + 1),_,_,by omega,Cln.refl,i + 1,rfl,hlt,?_,?_,?_,?_⟩ <;> (try simp only[zU,Nat.reduceBEq,Nat.reduceShiftRight,Nat.reduceMod,Nat.reduceEqDiff,reduceIte])
    ·exact h25
    ·exact h26
    ·rw[w64 _ (by omega)]; rfl
    ·rw[hfl]
     refine .inr ⟨0,_,?_,rfl,?_,?_⟩
     ·simp
     ·simp [i64,Function.comp_def]
      exact List.take_of_length_le (by simp)
     ·simp
   ·simp only[zX,Nat.reduceShiftRight,Nat.reduceMod,Nat.reduceLT,Nat.reduceMul,Nat.reduceSub,Int.reduceToNat,Int.reduceNeg,Int.reduceLT,Int.reduceLE,Int.reduceEq,Nat.reduceEqDiff,Nat.reduceAdd,Nat.reduceLeDiff,reduceIte,reduceCtorEq,Nat.reduceBEq,i64,iD,intsD,intssV,h6,h25,h26,h27,hlt',hi0,Int.toNat_natCast,hlt,hx,List.length_map]
    refine⟨fun e he=>?_,⟨by omega,by omega⟩,?_⟩
    ·rw[List.map_map] at he
     obtain⟨y,_,rfl⟩:=List.mem_map.1 he
     rfl
    refine⟨L.length - (i + 1),_,_,by omega,Cln.refl,i + 1,rfl,hlt,?_,?_,?_,?_⟩ <;> (try simp only[zU,Nat.reduceBEq,Nat.reduceShiftRight,Nat.reduceMod,Nat.reduceEqDiff,reduceIte])
    ·exact h25
    ·exact h26
    ·rw[w64 _ (by omega)]; rfl
    ·rw[hfl]
     refine .inr ⟨g + 1,_,?_,rfl,?_,?_⟩
     ·simp
     ·simp [i64,Function.comp_def,q1]
      exact List.take_of_length_le (by simp)
     ·simp; omega
  ·have hie:i=L.length:=by omega
   subst hie
   rw[List.take_length] at hc
   have hf:=cat_frz hc
   simp only[zX,Nat.reduceShiftRight,Nat.reduceMod,Nat.reduceLT,Nat.reduceMul,Nat.reduceSub,Int.reduceToNat,Int.reduceNeg,Int.reduceLT,Int.reduceLE,Int.reduceEq,Nat.reduceEqDiff,Nat.reduceAdd,Nat.reduceLeDiff,reduceIte,reduceCtorEq,Nat.reduceBEq,i64,intssV,h6,h25,h26,h27,Int.lt_irrefl,List.length_map,hf]
theorem splice_ok (t:List Int) (x n:Nat) (ht:t.length≤1000) (hxt:x≤t.length) (hn:n≤1000) :
  PureOK prog 29 [.d (intsD t),editV x n] (.tu [.d (intsD (List.replicate n 0++t.drop x)),i64 0]):=by
 have h:=check0_ok t x n ht (by omega) (by omega) hn
 have hc:=concat_ok [[],List.replicate n 0,t.drop x] (by simp) (by simp [sumL]; omega)
 have hlen:(List.replicate n (0:Int)).length=n:=List.length_replicate
 have w1:IntKind.i64.wrap (x:Int)=x:=w64 _ (by omega)
 have a1:(x:Int)≤t.length:=by omega
 have e1:([[],List.replicate n 0,t.drop x]:List (List Int)).flatten=List.replicate n 0++t.drop x:=by simp
 rw[e1] at hc
 simp only[editV] at h ⊢
 generalize List.replicate n (0:Int)=l at *
 subst hlen
 simp only[intsD,i64,intssV,List.map_cons,List.map_nil] at h hc
 have tk:(List.drop x (t.map fun x=>[D.sc (.int .i64 x)])).take ((t.length:Int) - (x:Int)).toNat=(t.drop x).map fun x=>[D.sc (.int .i64 x)]:=by
  rw[List.take_of_length_le (by simp),List.map_drop]
 refine fn_ok func29 rfl ntmps29 results29 rfl 0 123 (by simp) (by simp) ?_
 simp only[zX,Nat.reduceShiftRight,Nat.reduceMod,Nat.reduceLT,Nat.reduceMul,Nat.reduceSub,Int.reduceToNat,Int.reduceNeg,Int.reduceLT,Int.reduceLE,Int.reduceEq,Nat.reduceEqDiff,Nat.reduceAdd,Nat.reduceLeDiff,reduceIte,reduceCtorEq,Nat.reduceBEq,i64,iD,intsD,List.length_map]
 refine call_pure h rfl rfl ?_
 simp only[zX,Nat.reduceShiftRight,Nat.reduceMod,Nat.reduceLT,Nat.reduceMul,Nat.reduceSub,Int.reduceToNat,Int.reduceNeg,Int.reduceLT,Int.reduceLE,Int.reduceEq,Nat.reduceEqDiff,Nat.reduceAdd,Nat.reduceLeDiff,reduceIte,reduceCtorEq,Nat.reduceBEq,i64,iD,intsD,List.length_map,Int.lt_irrefl]
 refine draw_c mix [] [] (by rfl) ?_
 simp only[zX,Nat.reduceShiftRight,Nat.reduceMod,Nat.reduceLT,Nat.reduceMul,Nat.reduceSub,Int.reduceToNat,Int.reduceNeg,Int.reduceLT,Int.reduceLE,Int.reduceEq,Nat.reduceEqDiff,Nat.reduceAdd,Nat.reduceLeDiff,reduceIte,reduceCtorEq,Nat.reduceBEq,i64,iD,intsD,List.length_map,Int.lt_irrefl,Int.zero_add,w1,a1,Int.toNat_natCast]
 rw[tk]
 refine⟨Int.le_refl _,.inr (fun e he=>?_),?_⟩
 ·obtain⟨y,_,rfl⟩:=List.mem_map.1 he
  rfl
 simp only[Int.sub_self,Int.toNat_zero,List.take_zero]
 simp only[iD] at hc
 refine callC_give hc (fun s'=>rfl) rfl rfl ?_
 simp only[zX,Nat.reduceShiftRight,Nat.reduceMod,Nat.reduceLT,Nat.reduceMul,Nat.reduceSub,Int.reduceToNat,Int.reduceNeg,Int.reduceLT,Int.reduceLE,Int.reduceEq,Nat.reduceEqDiff,Nat.reduceAdd,Nat.reduceLeDiff,reduceIte,reduceCtorEq,Nat.reduceBEq,i64,iD,intsD,List.length_map,Int.lt_irrefl]
def mvP (b:Int) (p:Int × Int):Int × Int:=if 0≤p.1 then (p.1 + b,p.2 + b) else p
def mvC (b:Int) (c:CapsL):CapsL:=c.map (mvP b)
def capO (g:Nat) (c:CapsL):VL.Obj:=⟨g,true,2,c.map fun p=>[i64 p.1,i64 p.2]⟩
def mvN (b:Int) (c:CapsL) (i:Nat):CapsL:=mvC b (c.take i)++c.drop i
def SmallC (c:CapsL):Prop:=∀p∈c,-1000000≤p.1∧p.1≤1000000∧-1000000≤p.2∧p.2≤1000000
theorem mvN_len (b:Int) (c:CapsL) (i:Nat) (h:i≤c.length):(mvN b c i).length=c.length:=by
 simp [mvN,mvC]; omega
theorem mvN_get {b:Int} {c:CapsL} {i:Nat} {x:Int × Int} (hx:c[i]?=some x):(mvN b c i)[i]?=some x:=by
 have hlt:=(List.getElem?_eq_some_iff.1 hx).1
 unfold mvN mvC
 rw[List.getElem?_append_right (by simp; omega)]
 simp only[List.length_map,List.length_take,List.getElem?_drop]
 rw[← hx]
 congr 1
 omega
theorem mvN_set {b:Int} {c:CapsL} {i:Nat} {x:Int × Int} (hx:c[i]?=some x):(mvN b c i).set i (mvP b x)=mvN b c (i + 1):=by
 have hlt:=(List.getElem?_eq_some_iff.1 hx).1
 have hxe:c[i]=x:=(List.getElem?_eq_some_iff.1 hx).2
 have h1:c.drop i=x::c.drop (i + 1):=by rw[List.drop_eq_getElem_cons hlt,hxe]
 have h2:c.take (i + 1)=c.take i++[x]:=by rw[List.take_succ_eq_append_getElem hlt,hxe]
 unfold mvN mvC
 rw[h1,h2,List.set_append_right _ _ (by simp; omega)]
 simp only[List.length_map,List.length_take,List.map_append,List.map_cons,List.map_nil]
 rw[show i - min i c.length=0 by omega]
 simp
theorem shift_ok (g:Nat) (s e b:Int) (c:CapsL) (hc:c.length≤1000) (hs:-1000000≤s∧s≤1000000) (he:-1000000≤e∧e≤1000000) (hb:-1000000≤b∧b≤1000000) (hcs:SmallC c) :
  callWp prog 31 [.ag [i64 s,i64 e,.so 0 g 0 c.length],i64 b] [capO g c] fun v s'=>v=.ag [i64 (s + b),i64 (e + b),.so 0 g 0 c.length]∧s'=[capO g (mvC b c)]:=by
 have w1:IntKind.i64.wrap (s + b)=s + b:=w64 _ (by omega)
 have w2:IntKind.i64.wrap (e + b)=e + b:=w64 _ (by omega)
 refine fn_keep func31 rfl ntmps31 results31 rfl 1 55 (by simp) (by simp) ?_
 simp only[zX,Nat.reduceShiftRight,Nat.reduceMod,Nat.reduceLT,Nat.reduceMul,Nat.reduceSub,Int.reduceToNat,Int.reduceNeg,Int.reduceLT,Int.reduceLE,Int.reduceEq,Nat.reduceEqDiff,Nat.reduceAdd,Nat.reduceLeDiff,reduceIte,reduceCtorEq,Nat.reduceBEq,i64,capO,w1,w2,List.length_map]
 refine loop_rule (fun n E S=>∃i:Nat,n=c.length - i∧i≤c.length∧E 1=i64 b∧E 2=.rf 1 0 0 0∧E 4=.rf 2 0 0 0∧E 5=i64 i∧S=[capO g (mvN b c i),⟨0,true,3,[[i64 (s + b),i64 (e + b),.so 0 g 0 c.length]]⟩,⟨0,true,3,[[i64 0,i64 0,.fu []]]⟩])
  ⟨_,_,_,Cln.refl,0,rfl,by omega,rfl,rfl,rfl,rfl,rfl⟩ ?_
 rintro n E S ⟨i,rfl,hi,h1,h2,h4,h5,rfl⟩
 have hmv:=mvN_len b c i hi
 rcases Nat.lt_or_ge i c.length with hlt | hge
 ·obtain⟨x,hx⟩:∃x,c[i]?=some x:=⟨_,List.getElem?_eq_getElem hlt⟩
  have hlt':(i:Int) < (c.length:Int):=by omega
  have hi0:(0:Int)≤(i:Int):=by omega
  have hg:=mvN_get (b:=b) hx
  have hset:=mvN_set (b:=b) hx
  obtain⟨b1,b2,b3,b4⟩:=hcs x (List.mem_of_getElem? hx)
  have v1:IntKind.i64.wrap (x.1 + b)=x.1 + b:=w64 _ (by omega)
  have v2:IntKind.i64.wrap (x.2 + b)=x.2 + b:=w64 _ (by omega)
  have wi:IntKind.i64.wrap ((i:Int) + 1)=((i + 1:Nat):Int):=by rw[w64 _ (by omega)]; omega
  have q0:(0:Int) < ((2:Nat):Int):=by decide
  have q1:(1:Int) < ((2:Nat):Int):=by decide
  by_cases hx0:0≤x.1
  ·have hmp:mvP b x=(x.1 + b,x.2 + b):=if_pos hx0
   rw[hmp] at hset
   generalize mvN b c i=C at *
   simp only[zX,Nat.reduceShiftRight,Nat.reduceMod,Nat.reduceLT,Nat.reduceMul,Nat.reduceSub,Int.reduceToNat,Int.reduceNeg,Int.reduceLT,Int.reduceLE,Int.reduceEq,Nat.reduceEqDiff,Nat.reduceAdd,Nat.reduceLeDiff,reduceIte,reduceCtorEq,Nat.reduceBEq,i64,capO,h1,h2,h4,h5,hlt,hlt',hi0,hmv,hg,hx0,q0,q1,Nat.zero_add,List.length_map,List.getElem?_map,Option.map_some,Int.toNat_natCast,ge_iff_le]
   refine draw_c mix [13] [] (by rfl) ?_
   simp only[zX,Nat.reduceShiftRight,Nat.reduceMod,Nat.reduceLT,Nat.reduceMul,Nat.reduceSub,Int.reduceToNat,Int.reduceNeg,Int.reduceLT,Int.reduceLE,Int.reduceEq,Nat.reduceEqDiff,Nat.reduceAdd,Nat.reduceLeDiff,reduceIte,reduceCtorEq,Nat.reduceBEq,i64,capO,h1,h2,h4,h5,hlt,hlt',hi0,hmv,hg,hx0,q0,q1,v1,v2,Nat.zero_add,List.length_map,List.getElem?_map,Option.map_some,Int.toNat_natCast,ge_iff_le]
   refine draw_c mix [13] [] (by rfl) ?_
   simp only[zX,Nat.reduceShiftRight,Nat.reduceMod,Nat.reduceLT,Nat.reduceMul,Nat.reduceSub,Int.reduceToNat,Int.reduceNeg,Int.reduceLT,Int.reduceLE,Int.reduceEq,Nat.reduceEqDiff,Nat.reduceAdd,Nat.reduceLeDiff,reduceIte,reduceCtorEq,Nat.reduceBEq,i64,capO,h1,h2,h4,h5,hlt,hlt',hi0,hmv,hg,hx0,q0,q1,v1,v2,Nat.zero_add,List.length_map,List.getElem?_map,Option.map_some,Int.toNat_natCast,ge_iff_le,List.getElem?_set,List.length_set,if_true]
   refine⟨c.length - (i + 1),_,_,by omega,Cln.refl,i + 1,rfl,hlt,?_,?_,?_,?_,by rw[← hset,List.map_set]; simp only[List.set_set]⟩ <;> (try simp only[zU,Nat.reduceBEq,Nat.reduceShiftRight,Nat.reduceMod,Nat.reduceEqDiff,reduceIte])
   ·exact h1
   ·exact h2
   ·exact h4
   ·rw[wi]
  ·have hmp:mvP b x=x:=if_neg hx0
   rw[hmp] at hset
   generalize mvN b c i=C at *
   have hself:C.set i x=C:=by
    obtain⟨h,he⟩:=List.getElem?_eq_some_iff.1 hg
    rw[← he]
    exact List.set_getElem_self h
   simp only[zX,Nat.reduceShiftRight,Nat.reduceMod,Nat.reduceLT,Nat.reduceMul,Nat.reduceSub,Int.reduceToNat,Int.reduceNeg,Int.reduceLT,Int.reduceLE,Int.reduceEq,Nat.reduceEqDiff,Nat.reduceAdd,Nat.reduceLeDiff,reduceIte,reduceCtorEq,Nat.reduceBEq,i64,capO,h1,h2,h4,h5,hlt,hlt',hi0,hmv,hg,hx0,q0,q1,Nat.zero_add,List.length_map,List.getElem?_map,Option.map_some,Int.toNat_natCast,ge_iff_le]
   refine⟨c.length - (i + 1),_,_,by omega,Cln.refl,i + 1,rfl,hlt,?_,?_,?_,?_,by rw[← hset,hself]⟩ <;> (try simp only[zU,Nat.reduceBEq,Nat.reduceShiftRight,Nat.reduceMod,Nat.reduceEqDiff,reduceIte])
   ·exact h1
   ·exact h2
   ·exact h4
   ·rw[wi]
 ·have hie:i=c.length:=by omega
  subst hie
  have hfull:mvN b c c.length=mvC b c:=by simp [mvN]
  rw[hfull]
  have hl:(mvC b c).length=c.length:=by simp [mvC]
  generalize mvC b c=C at *
  simp only[zX,Nat.reduceShiftRight,Nat.reduceMod,Nat.reduceLT,Nat.reduceMul,Nat.reduceSub,Int.reduceToNat,Int.reduceNeg,Int.reduceLT,Int.reduceLE,Int.reduceEq,Nat.reduceEqDiff,Nat.reduceAdd,Nat.reduceLeDiff,reduceIte,reduceCtorEq,Nat.reduceBEq,i64,capO,h1,h2,h4,h5,Int.lt_irrefl,hl,List.length_map,Qkeep,keepWp]
  refine List.all_eq_true.2 fun e he=>?_
  obtain⟨p,_,rfl⟩:=List.mem_map.1 he
  rfl
end Go.Proofs.Ytllagoeijcjpiaa
