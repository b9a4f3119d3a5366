/- A part of the proof (E36 E37 E38 E39). -/
import Derived.Test.YtllagoeijcjpiaaSL28
import Derived.Test.YtllagoeijcjpiaaSL51
import Derived.Test.YtllagoeijcjpiaaSL24
import Derived.Test.YtllagoeijcjpiaaSL27
set_option linter.unusedSimpArgs false
set_option linter.unusedVariables false
set_option maxRecDepth 100000
set_option maxHeartbeats 80000000
namespace Go.Proofs.Ytllagoeijcjpiaa
open Go.VL Go.Proofs.Try
theorem mv_sh {x δ:Int} {c:CapsL} (hx:0≤x) (hd:δ≤x) (h:CapX x c):mvC δ (shC δ c)=c:=by
 unfold mvC shC
 rw[List.map_map]
 refine(List.map_congr_left fun q hq=>?_).trans (List.map_id c)
 show mvP δ (shP δ q)=q
 rcases h q hq with rfl | h1
 ·rfl
 ·have h2:shP δ q=(q.1 - δ,q.2 - δ):=if_neg (by omega)
  have h3:mvP δ (q.1 - δ,q.2 - δ)=(q.1 - δ + δ,q.2 - δ + δ):=if_pos (by show 0≤q.1 - δ; omega)
  rw[h2,h3]
  exact Prod.ext (by simp) (by simp)
def dupE:Nat→List Mat→List (List V)
 | _,[]=>[]
 | b,m::L=>[i64 m.s,i64 m.e,.so b 1 0 m.c.length]::dupE (b + 1) L
def dupO (L:List Mat):List VL.Obj:=L.map fun m=>capO 1 m.c
theorem dupE_len:∀(L:List Mat) (b:Nat),(dupE b L).length=L.length
 | [],_=>rfl
 | m::L,b=>by simp [dupE,dupE_len L]
theorem dupO_len (L:List Mat):(dupO L).length=L.length:=by simp [dupO]
theorem dupE_get:∀(L:List Mat) (b j:Nat),(dupE b L)[j]?=(L[j]?).map fun m=>[i64 m.s,i64 m.e,.so (b + j) 1 0 m.c.length]
 | [],b,j=>by simp [dupE]
 | m::L,b,0=>by simp [dupE]
 | m::L,b,j + 1=>by
  simp only[dupE,List.getElem?_cons_succ,dupE_get L (b + 1) j]
  rw[show b + 1 + j=b + (j + 1) by omega]
theorem dupE_app:∀(L M:List Mat) (b:Nat),dupE b (L++M)=dupE b L++dupE (b + L.length) M
 | [],M,b=>by simp [dupE]
 | m::L,M,b=>by
  simp only[List.cons_append,dupE,dupE_app L M (b + 1),List.length_cons]
  rw[show b + 1 + L.length=b + (L.length + 1) by omega]
theorem dupO_get (L:List Mat) (j:Nat):(dupO L)[j]?=(L[j]?).map fun m=>capO 1 m.c:=by simp [dupO]
theorem down_capO (keep:List Nat) (g:Nat) (c:CapsL):downO keep (capO g c)=capO g c:=by
 unfold downO capO
 congr 1
 rw[List.map_map]
 exact List.map_congr_left fun p _=>rfl
theorem idx_at {keep:List Nat} (hn:keep.Nodup) {k id:Nat} (h:keep[k]?=some id):keep.idxOf? id=some k:=by
 obtain⟨h1,h2⟩:=List.getElem?_eq_some_iff.1 h
 rw[List.idxOf?_eq_some_iff]
 refine⟨h1,by simp [h2],fun j hj hb=>?_⟩
 have hb':keep[j]=id:=by simpa using hb
 have:=(List.getElem_inj hn).1 (hb'.trans h2.symm)
 omega
theorem dupE_down {keep:List Nat} (hn:keep.Nodup):∀(L:List Mat) (b b':Nat),(∀j,j < L.length→keep[b' + j]?=some (b + j))→(dupE b L).map (downV.go keep)=dupE b' L
 | [],_,_,_=>rfl
 | m::L,b,b',h=>by
  have h0:=idx_at hn (h 0 (by simp))
  simp only[Nat.add_zero] at h0
  simp only[dupE,List.map_cons,downV.go,downV,h0]
  congr 1
  refine dupE_down hn L (b + 1) (b' + 1) fun j hj=>?_
  have:=h (j + 1) (by simpa using hj)
  rw[show b' + 1 + j=b' + (j + 1) by omega,this]
  congr 1
  omega
theorem idx_zero (l:List Nat):(0::l).idxOf? 0=some 0:=by
 rw[List.idxOf?_eq_some_iff]
 exact⟨by simp,by simp,fun j hj=>by omega⟩
theorem range_get (a n k:Nat) (h:k < n):(List.range' a n)[k]?=some (a + k):=by
 rw[List.getElem?_range' h]; simp
def dupK (n:Nat):List Nat:=0::(n + 3)::(n + 4)::(List.range' 3 n++[1])
theorem dupK_ok (n:Nat):keepOk 0 (dupK n) (n + 5)=true:=by
 unfold keepOk dupK
 simp only[Bool.and_eq_true,decide_eq_true_eq,List.all_eq_true,List.range_zero,List.not_mem_nil,false_implies,implies_true,and_true]
 refine⟨?_,fun id hid=>?_⟩
 ·simp only[List.nodup_cons,List.nodup_append,List.mem_cons,List.mem_append,List.mem_range',List.not_mem_nil,or_false,not_or,not_exists,not_and]
  refine⟨⟨by omega,by omega,fun x hx=>by omega,by omega⟩,⟨by omega,fun x hx=>by omega,by omega⟩,⟨fun x hx=>by omega,by omega⟩,List.nodup_range',by simp,fun x hx y hy=>?_⟩
  obtain⟨k,hk,rfl⟩:=hx
  omega
 ·simp only[List.mem_cons,List.mem_append,List.mem_range',List.not_mem_nil,or_false] at hid
  rcases hid with rfl | rfl | rfl | ⟨k,hk,rfl⟩ | rfl <;> omega
theorem dupK_get {n j:Nat} (h:j < n):(dupK n)[3 + j]?=some (3 + j):=by
 unfold dupK
 rw[show 3 + j=j + 1 + 1 + 1 by omega,List.getElem?_cons_succ,List.getElem?_cons_succ,List.getElem?_cons_succ,List.getElem?_append_left (by simpa using h),range_get _ _ _ h]
 congr 1
 omega
theorem dupK_last (n:Nat):(dupK n)[3 + n]?=some 1:=by
 unfold dupK
 rw[show 3 + n=n + 1 + 1 + 1 by omega,List.getElem?_cons_succ,List.getElem?_cons_succ,List.getElem?_cons_succ,List.getElem?_append_right (by simp)]
 simp
theorem dup_sel (g:Nat) (L:List Mat) (m:Mat) (x:VL.Obj) :
  selS (dupK L.length) (((⟨g,true,3,dupE 3 L++[[i64 m.s,i64 m.e,.so 1 1 0 m.c.length]]⟩:VL.Obj)::capO 1 m.c::x::dupO L)++[hole]++[hole]) =
   (⟨g,true,3,dupE 3 (L++[m])⟩:VL.Obj)::hole::hole::dupO (L++[m]):=by
 have hn:=(keepOk_spec (dupK_ok L.length)).1
 have e0:downO (dupK L.length) (⟨g,true,3,dupE 3 L++[[i64 m.s,i64 m.e,.so 1 1 0 m.c.length]]⟩:VL.Obj)=⟨g,true,3,dupE 3 (L++[m])⟩:=by
  unfold downO
  congr 1
  rw[List.map_append,dupE_down hn L 3 3 (fun j hj=>dupK_get hj),dupE_app]
  congr 1
  simp only[List.map_cons,List.map_nil,downV.go,downV,idx_at hn (dupK_last L.length),dupE,i64]
 have eh:downO (dupK L.length) hole=hole:=rfl
 have h3:((((⟨g,true,3,dupE 3 L++[[i64 m.s,i64 m.e,.so 1 1 0 m.c.length]]⟩:VL.Obj)::capO 1 m.c::x::dupO L)++[hole]++[hole]).getD (L.length + 3) hole)=hole:=by
  rw[List.getD_eq_getElem?_getD,List.append_assoc,List.getElem?_append_right (by simp [dupO_len])]
  simp [dupO_len]
 have h4:((((⟨g,true,3,dupE 3 L++[[i64 m.s,i64 m.e,.so 1 1 0 m.c.length]]⟩:VL.Obj)::capO 1 m.c::x::dupO L)++[hole]++[hole]).getD (L.length + 4) hole)=hole:=by
  rw[List.getD_eq_getElem?_getD,List.append_assoc,List.getElem?_append_right (by simp [dupO_len])]
  simp [dupO_len]
 have hr:(List.range' 3 L.length).map (fun id=>downO (dupK L.length) ((((⟨g,true,3,dupE 3 L++[[i64 m.s,i64 m.e,.so 1 1 0 m.c.length]]⟩:VL.Obj)::capO 1 m.c::x::dupO L)++[hole]++[hole]).getD id hole))=dupO L:=by
  apply List.ext_getElem?
  intro j
  rw[List.getElem?_map,dupO_get]
  rcases Nat.lt_or_ge j L.length with hj | hj
  ·rw[range_get _ _ _ hj,List.getElem?_eq_getElem hj]
   simp only[Option.map_some]
   rw[List.getD_eq_getElem?_getD,List.append_assoc,List.getElem?_append_left (by simp [dupO_len]; omega),show 3 + j=j + 1 + 1 + 1 by omega,List.getElem?_cons_succ,List.getElem?_cons_succ,List.getElem?_cons_succ,dupO_get,List.getElem?_eq_getElem hj]
   simp only[Option.map_some,Option.getD_some,down_capO]
  ·rw[List.getElem?_eq_none (by simpa using hj),List.getElem?_eq_none hj]
   rfl
 unfold selS
 generalize hS:(((⟨g,true,3,dupE 3 L++[[i64 m.s,i64 m.e,.so 1 1 0 m.c.length]]⟩:VL.Obj)::capO 1 m.c::x::dupO L)++[hole]++[hole])=S at h3 h4 hr
 have q0:S.getD 0 hole=⟨g,true,3,dupE 3 L++[[i64 m.s,i64 m.e,.so 1 1 0 m.c.length]]⟩:=by rw[← hS]; rfl
 have q1:S.getD 1 hole=capO 1 m.c:=by rw[← hS]; rfl
 conv=>lhs; arg 2; unfold dupK
 simp only[List.map_cons,List.map_append,List.map_nil,q0,q1,h3,h4,hr,e0,eh,down_capO]
 unfold dupO
 simp
theorem dup_exit (g:Nat) (L:List Mat) (a b:VL.Obj) :
  keepOk 0 (0::List.range' 3 L.length) (L.length + 3)=true∧selS (0::List.range' 3 L.length) ((⟨g,true,3,dupE 3 L⟩:VL.Obj)::a::b::dupO L)=(⟨g,true,3,dupE 1 L⟩:VL.Obj)::dupO L:=by
 have hk:keepOk 0 (0::List.range' 3 L.length) (L.length + 3)=true:=by
  unfold keepOk
  simp only[Bool.and_eq_true,decide_eq_true_eq,List.all_eq_true,List.range_zero,List.not_mem_nil,false_implies,implies_true,and_true]
  refine⟨?_,fun id hid=>?_⟩
  ·simp only[List.nodup_cons,List.mem_range',not_exists,not_and]
   exact⟨fun x hx=>by omega,List.nodup_range'⟩
  ·simp only[List.mem_cons,List.mem_range'] at hid
   rcases hid with rfl | ⟨k,hk,rfl⟩ <;> omega
 refine⟨hk,?_⟩
 have hn:=(keepOk_spec hk).1
 have e0:downO (0::List.range' 3 L.length) (⟨g,true,3,dupE 3 L⟩:VL.Obj)=⟨g,true,3,dupE 1 L⟩:=by
  unfold downO
  congr 1
  exact dupE_down hn L 3 1 (fun j hj=>by rw[Nat.add_comm 1 j,List.getElem?_cons_succ,range_get _ _ _ hj])
 have hr:(List.range' 3 L.length).map (fun id=>downO (0::List.range' 3 L.length) (((⟨g,true,3,dupE 3 L⟩:VL.Obj)::a::b::dupO L).getD id hole))=dupO L:=by
  apply List.ext_getElem?
  intro j
  rw[List.getElem?_map,dupO_get]
  rcases Nat.lt_or_ge j L.length with hj | hj
  ·rw[range_get _ _ _ hj,List.getElem?_eq_getElem hj]
   simp only[Option.map_some]
   rw[List.getD_eq_getElem?_getD,show 3 + j=j + 1 + 1 + 1 by omega,List.getElem?_cons_succ,List.getElem?_cons_succ,List.getElem?_cons_succ,dupO_get,List.getElem?_eq_getElem hj]
   simp only[Option.map_some,Option.getD_some,down_capO]
  ·rw[List.getElem?_eq_none (by simpa using hj),List.getElem?_eq_none hj]
   rfl
 unfold selS
 rw[List.map_cons,hr]
 congr 1
theorem dup_ok (L:List Mat) (hL:L.length≤100000) (hc:∀m∈L,m.c.length≤100000) :
  callWp prog 30 [.d (.sl (L.map fun m=>[iD m.s,iD m.e,capD m.c]))] [] fun v s=>∃g,v=.so 0 g 0 L.length∧s=(⟨g,true,3,dupE 1 L⟩:VL.Obj)::dupO L:=by
 refine fn_own func30 rfl ntmps30 results30 rfl 0 29 (by simp) (by simp) ?_
 simp only[zX,Nat.reduceShiftRight,Nat.reduceMod,Nat.reduceLT,Nat.reduceMul,Nat.reduceSub,Int.reduceToNat,Int.reduceNeg,Int.reduceLT,Int.reduceLE,Int.reduceEq,Nat.reduceEqDiff,Nat.reduceAdd,Nat.reduceLeDiff,reduceIte,reduceCtorEq,Nat.reduceBEq,i64,iD,List.length_map]
 refine loop_rule (fun n e s=>∃(i g:Nat),n=L.length - i∧i≤L.length∧e 0=.d (.sl (L.map fun m=>[iD m.s,iD m.e,capD m.c]))∧e 3=.so 0 g 0 i∧e 4=i64 i∧s=(⟨g,true,3,dupE 3 (L.take i)⟩:VL.Obj)::hole::hole::dupO (L.take i))
  ⟨_,_,_,.of0 ((reserveSlot 3 3 rfl).trans (Cln0.reserve.trans Cln0.reserve)),0,0,rfl,by omega,rfl,rfl,rfl,rfl⟩ ?_
 rintro n e s ⟨i,g,rfl,hi,h0,h3,h4,rfl⟩
 rcases Nat.lt_or_ge i L.length with hlt | hge
 ·obtain⟨m,hm⟩:∃m,L[i]?=some m:=⟨_,List.getElem?_eq_getElem hlt⟩
  have hlt':(i:Int) < (L.length:Int):=by omega
  have hi0:(0:Int)≤(i:Int):=by omega
  have hmc:=hc m (List.mem_of_getElem? hm)
  have htk:(L.take i).length=i:=by simp; omega
  have hts:L.take (i + 1)=L.take i++[m]:=by
   have hxe:L[i]=m:=(List.getElem?_eq_some_iff.1 hm).2
   rw[List.take_succ_eq_append_getElem hlt,hxe]
  have hde:=dupE_len (L.take i) 3
  rw[htk] at hde
  simp only[zX,Nat.reduceShiftRight,Nat.reduceMod,Nat.reduceLT,Nat.reduceMul,Nat.reduceSub,Int.reduceToNat,Int.reduceNeg,Int.reduceLT,Int.reduceLE,Int.reduceEq,Nat.reduceEqDiff,Nat.reduceAdd,Nat.reduceLeDiff,reduceIte,reduceCtorEq,Nat.reduceBEq,i64,iD,h0,h3,h4,hlt',hlt,List.length_map]
  refine draw_c mix [20] [(17,[1],[1]),(19,[1,2],[2])] (by rfl) ?_
  simp only[zX,Nat.reduceShiftRight,Nat.reduceMod,Nat.reduceLT,Nat.reduceMul,Nat.reduceSub,Int.reduceToNat,Int.reduceNeg,Int.reduceLT,Int.reduceLE,Int.reduceEq,Nat.reduceEqDiff,Nat.reduceAdd,Nat.reduceLeDiff,reduceIte,reduceCtorEq,Nat.reduceBEq,i64,iD,h0,h3,h4,hlt',hlt,hi0,hm,capD,List.length_map,List.getElem?_map,Option.map_some,Int.toNat_natCast,fuAt,bsAt,hole]
  have hkk:List.map (fun x=>List.map V.d x) (List.map spanC m.c)=(capO 1 m.c).els:=by
   unfold capO
   rw[List.map_map]
   rfl
  have hsel:=dup_sel (g + 1) (L.take i) m ⟨1,true,3,[[i64 m.s,i64 m.e,.so 1 1 0 m.c.length]]⟩
  have hko:=dupK_ok i
  rw[htk] at hsel
  rw[← hts] at hsel
  rw[hkk,List.take_of_length_le (Nat.le_of_eq hde)]
  refine⟨⟨by omega,fun e he=>?_⟩,⟨rfl,fun e he x hx=>?_⟩,fun e he=>?_,⟨by omega,by omega⟩,L.length - (i + 1),_,_,by omega,(Cln.of0 (Cln0.reserve.trans Cln0.reserve)).trans (Cln.sel (dupK i) [0,3,4] (by simpa only[List.length_append,List.length_cons,List.length_nil,dupO_len,htk] using hko)),i + 1,g + 1,rfl,hlt,?_,?_,?_,hsel⟩
  ·obtain⟨q,_,rfl⟩:=List.mem_map.1 he
   rfl
  ·simp only[List.mem_singleton] at he
   subst he
   simp only[List.mem_cons,List.not_mem_nil,or_false] at hx
   rcases hx with rfl | rfl | rfl
   ·rfl
   ·rfl
   ·simp [refsV]
  ·simp only[List.mem_singleton] at he
   subst he
   rfl
  ·simp only[selE_app,List.contains_cons,List.contains_nil,Nat.reduceBEq,Bool.or_false,Bool.false_or,Bool.or_true,Bool.true_or,updE,trimE_app,Nat.reduceShiftRight,Nat.reduceMod,Nat.reduceEqDiff,if_true,if_false,reduceIte,h0,downV]
   rfl
  ·simp only[selE_app,List.contains_cons,List.contains_nil,Nat.reduceBEq,Bool.or_false,Bool.false_or,Bool.or_true,Bool.true_or,updE,trimE_app,Nat.reduceShiftRight,Nat.reduceMod,Nat.reduceEqDiff,if_true,if_false,reduceIte]
   simp only[downV,dupK,idx_zero]
  ·simp only[selE_app,List.contains_cons,List.contains_nil,Nat.reduceBEq,Bool.or_false,Bool.false_or,Bool.or_true,Bool.true_or,updE,trimE_app,Nat.reduceShiftRight,Nat.reduceMod,Nat.reduceEqDiff,if_true,if_false,reduceIte,downV]
   rw[w64 _ (by omega)]
   rfl
 ·have hie:i=L.length:=by omega
  subst hie
  have hlt':¬(L.length:Int) < (L.length:Int):=by omega
  rw[List.take_length]
  simp only[zX,Nat.reduceShiftRight,Nat.reduceMod,Nat.reduceLT,Nat.reduceMul,Nat.reduceSub,Int.reduceToNat,Int.reduceNeg,Int.reduceLT,Int.reduceLE,Int.reduceEq,Nat.reduceEqDiff,Nat.reduceAdd,Nat.reduceLeDiff,reduceIte,reduceCtorEq,Nat.reduceBEq,i64,iD,h0,h3,h4,hlt',List.length_map,Qown_app]
  obtain⟨k1,k2⟩:=dup_exit g L hole hole
  exact⟨0::List.range' 3 L.length,by simpa only[List.length_cons,dupO_len] using k1,g,by simp only[downV,idx_zero],k2⟩
theorem fitsFrom_loc {p:Pat} {t:List Int} {F:Int} (h:p.re.every genB=true∧p.re.every locB=true∧p.runes=false):∀n,(fitsFrom p t F n).1.re.every genB=true∧(fitsFrom p t F n).1.re.every locB=true∧(fitsFrom p t F n).1.runes=false
 | 0=>⟨rfl,rfl,rfl⟩
 | n + 1=>by
  unfold fitsFrom
  split
  ·exact h
  ·exact fitsFrom_loc h n
theorem fits_loc (l m:List Int) (hl:∀x∈l,I64 x) (hm:∀x∈m,I64 x):∃(p:Pat) (t:List Int),PureOK prog 21 [.d (intsD l),.d (intsD m),i64 107,i64 20,i64 6000] (.tu [patV p,.d (intsD t)]) ∧
  (∀i:Int,0≤i→i≤t.length→allE p t i (-1) 6000=0)∧p.re.fine=true∧t.length≤12∧p.re.every genB=true∧p.re.every locB=true∧p.runes=false:=by
 obtain⟨hv,hsz⟩:=pat_valid l 107 20 hl (by omega) (by omega)
 have hsm:=pat_small l 107 20 hl (by omega) (by omega)
 have hfine:(patOf l 107 20).re.fine=true:=small_fine (by omega) _ hsm.ev
 have htl:(textR m 12).length≤12:=by simp [textR]; omega
 obtain⟨g1,g2,g3⟩:=fits_good (p:=patOf l 107 20) (t:=textR m 12) (F:=6000) hv hfine (by omega) (by omega) ((textR m 12).length + 1) (Nat.le_refl _)
 obtain⟨q1,q2,q3⟩:=fitsFrom_loc (t:=textR m 12) (F:=6000) ⟨pat_gen l 107 20,pat_loc l 20,rfl⟩ ((textR m 12).length + 1)
 exact⟨_,_,fits_ok l m hl hm 107 20 6000 (by omega) (by omega),g1,g2,by omega,q1,q2,q3⟩
def mvM (δ:Int) (m:Mat):Mat:=⟨m.s + δ,m.e + δ,mvC δ m.c⟩
structure MatB (m:Mat):Prop where
 s:-1000≤m.s∧m.s≤1000
 e:-1000≤m.e∧m.e≤1000
 l:m.c.length≤1000
 c:SmallC m.c
theorem mats_mv {x δ:Int} {L:List (Int × CapsL)} (hx:0≤x) (hd:δ≤x) (h:∀m∈L,x≤m.1∧CapX x m.2):(matsL (x - δ) (L.map fun m=>(m.1 - δ,shC δ m.2))).map (mvM δ)=matsL x L:=by
 unfold matsL
 rw[List.map_map,List.map_map]
 refine List.map_congr_left fun m hm=>?_
 show (⟨x - δ + δ,m.1 - δ + δ,mvC δ (shC δ m.2)⟩:Mat)=⟨x,m.1,m.2⟩
 rw[mv_sh hx hd (h m hm).2,show x - δ + δ=x by omega,show m.1 - δ + δ=m.1 by omega]
theorem sh_small {δ:Int} {c:CapsL} (hd:-100≤δ∧δ≤100) (h:∀q∈c,-1≤q.1∧q.1≤12∧-1≤q.2∧q.2≤12):SmallC (shC δ c):=by
 intro p hp
 obtain⟨q,hq,rfl⟩:=List.mem_map.1 hp
 have:=h q hq
 unfold shP
 split
 ·omega
 ·simp only; omega
theorem loc_data {p:Pat} {t:List Int} (hgood:∀i:Int,0≤i→i≤t.length→allE p t i (-1) 6000=0) (hf:p.re.fine=true) (htl:t.length≤12) (hgen:p.re.every genB=true) (hloc:p.re.every locB=true) (hr:p.runes=false)
  (x n:Nat) (hx:x≤t.length) (hn:n≤4):∃(A B C:List Mat) (s:Int),
   PureOK prog 28 [patV p,.d (intsD t),i64 x,i64 1073741824,i64 6000] (.tu [.d (.sl (A.map matD)),i64 s,i64 0]) ∧
   PureOK prog 28 [patV p,.d (intsD (t.drop x)),i64 0,i64 1073741824,i64 6000] (.tu [.d (.sl (B.map matD)),i64 s,i64 0]) ∧
   PureOK prog 28 [patV p,.d (intsD (List.replicate n 0++t.drop x)),i64 n,i64 1073741824,i64 6000] (.tu [.d (.sl (C.map matD)),i64 s,i64 0]) ∧
   B.length=A.length∧C.length=A.length∧A.length≤7000∧(∀m∈A,m.c.length≤1000)∧(∀m∈B,MatB m)∧(∀m∈C,MatB m)∧B.map (mvM x)=A∧C.map (mvM ((x:Int) - n))=A:=by
 have hg:=hgood x (by omega) (by omega)
 obtain⟨hv7,_,_,_⟩:=allE_valid hg
 obtain⟨hp,hlen,hsym,_,_⟩:=valid7_spec hv7
 obtain⟨_,_,hc0,hc9,_⟩:=validR_spec hp
 have hsp:=spans_law hgen htl hg
 have hdl:(t.drop x).length≤12:=by rw[List.length_drop]; omega
 have hvB:valid7 p (t.drop x) 6000=0:=by
  unfold valid7
  rw[if_neg (by omega),if_neg (by omega),if_neg (by
   rw[List.all_eq_true] at hsym
   rw[Bool.not_eq_false,List.all_eq_true]
   exact fun y hy=>hsym y (List.mem_of_mem_drop hy)),if_neg (by omega)]
 have hlC:(List.replicate n (0:Int)++t.drop x).length≤16:=by rw[List.length_append,List.length_replicate]; omega
 have hvC:valid7 p (List.replicate n 0++t.drop x) 6000=0:=by
  unfold valid7
  rw[if_neg (by omega),if_neg (by omega),if_neg (by
   rw[List.all_eq_true] at hsym
   rw[Bool.not_eq_false,List.all_eq_true]
   intro y hy
   rcases List.mem_append.1 hy with h | h
   ·rw[List.eq_of_mem_replicate h,hr]; rfl
   ·exact hsym y (List.mem_of_mem_drop h)),if_neg (by omega)]
 obtain⟨b1,b2,b3,b4⟩:=local_search (drop_sh t x hx) hloc hg hvB
 obtain⟨c1,c2,c3,_⟩:=local_search (ins_sh t x n hx) hloc hg hvC
 rw[show (x:Int) - x=0 by omega] at b1 b2 b3
 rw[show (x:Int) - (x - n)=n by omega] at c1 c2 c3
 have kA:=semAll_few p t x 6000 hf htl (by omega)
 have kB:=semAll_few p (t.drop x) 0 6000 hf hdl (by omega)
 have kC:=semAll_few0 p (List.replicate n 0++t.drop x) n 6000 hf (by omega) (by omega)
 rw[hg] at kA
 rw[b1,b2,b3] at kB
 rw[c1,c2,c3] at kC
 have hl:=allM_len hg
 have hst:=steps_le hg
 have hM:∀m∈allM p t x (-1) 6000,(x:Int)≤m.1∧m.1≤12∧m.2.length≤9∧∀q∈m.2,-1≤q.1∧q.1≤12∧-1≤q.2∧q.2≤12:=by
  intro m hm
  have h:=hsp ⟨x,m.1,m.2⟩ (List.mem_map.2 ⟨m,hm,rfl⟩)
  have h1:=h.e0
  have h2:=h.e1
  have h3:=h.caps
  simp only at h1 h2 h3
  refine⟨h1,by omega,by omega,fun q hq=>?_⟩
  rcases h.ok q hq with rfl | h'
  ·simp
  ·omega
 have eB:=mats_mv (x:=x) (δ:=x) (by omega) (Int.le_refl _) b4
 have eC:=mats_mv (x:=x) (δ:=(x:Int) - n) (by omega) (by omega) b4
 rw[show (x:Int) - x=0 by omega] at eB
 rw[show (x:Int) - (x - n)=n by omega] at eC
 refine⟨_,_,_,_,kA,kB,kC,by simp [matsL],by simp [matsL],by simp [matsL]; omega,?_,?_,?_,eB,eC⟩
 ·intro m hm
  obtain⟨y,hy,rfl⟩:=List.mem_map.1 hm
  have:=(hM y hy).2.2.1
  show y.2.length≤1000
  omega
 ·intro m hm
  obtain⟨z,hz,rfl⟩:=List.mem_map.1 hm
  obtain⟨y,hy,rfl⟩:=List.mem_map.1 hz
  obtain⟨h1,h2,h3,h4⟩:=hM y hy
  exact⟨by simp only; omega,by simp only; omega,by simp only[shC,List.length_map]; omega,sh_small (by omega) h4⟩
 ·intro m hm
  obtain⟨z,hz,rfl⟩:=List.mem_map.1 hm
  obtain⟨y,hy,rfl⟩:=List.mem_map.1 hz
  obtain⟨h1,h2,h3,h4⟩:=hM y hy
  exact⟨by simp only; omega,by simp only; omega,by simp only[shC,List.length_map]; omega,sh_small (by omega) h4⟩
theorem kill1_at (s:List VL.Obj) (a id:Nat):(kill1 s a)[id]?=(s[id]?).map fun o=>if id=a then { o with live:=false } else o:=by
 unfold kill1
 split
 ·rename_i o ho
  rw[List.getElem?_set]
  by_cases h:a=id
  ·subst h
   have hl:=(List.getElem?_eq_some_iff.1 ho).1
   rw[if_pos rfl,if_pos hl,ho]
   simp
  ·rw[if_neg h]
   have h':¬id=a:=fun e=>h e.symm
   simp [h']
 ·rename_i ho
  by_cases h:id=a
  ·subst h; rw[ho]; rfl
  ·simp [h]
theorem killO_at:∀(ids:List Nat) (s:List VL.Obj) (id:Nat),(killO s ids)[id]?=(s[id]?).map fun o=>if id∈ids then { o with live:=false } else o
 | [],s,id=>by simp [killO]
 | a::ids,s,id=>by
  rw[killO,killO_at ids,kill1_at,Option.map_map]
  congr 1
  funext o
  simp only[Function.comp,List.mem_cons]
  by_cases h1:id=a <;> by_cases h2:id∈ids <;> simp [h1,h2]
theorem frz_ag3 {lim:Nat} {S:List VL.Obj} {a b:D} {c c':V} (h:frzV lim S c=some c'):frzV lim S (.ag [.d a,.d b,c])=some (.ag [.d a,.d b,c']):=by
 have e:∀x:D,frzV lim S (.d x)=some (.d x):=fun x=>by simp only[frzV]
 conv=>lhs; unfold frzV
 simp only[frzV.go,e,h,Option.map_some]
theorem frz_capO {n lim b:Nat} {S:List VL.Obj} {c:CapsL} (h:S[b]?=some ⟨1,false,2,(capO 1 c).els⟩):frzD (n + 1) lim S (.so b 1 0 c.length)=some (capD c):=by
 simp only[frzD,h]
 have hl:(capO 1 c).els=(c.map spanC).map fun l=>l.map V.d:=by
  unfold capO
  rw[List.map_map]
  rfl
 rw[if_pos ⟨trivial,by simp [hl],.inr trivial⟩,List.drop_zero,List.take_of_length_le (by simp [hl]),hl,mapM_frzE]
 rfl
theorem frz_dupE {n lim:Nat} {S:List VL.Obj}:∀(M:List Mat) (b:Nat),(∀(j:Nat) (m:Mat),M[j]?=some m→S[b + j]?=some ⟨1,false,2,(capO 1 m.c).els⟩)→(dupE b M).mapM (fun (e:List V)=>e.mapM (frzD (n + 1) lim S))=some (M.map matD)
 | [],_,_=>rfl
 | m::M,b,h=>by
  have h0:frzD (n + 1) lim S (.so b 1 0 m.c.length)=some (capD m.c):=frz_capO (h 0 m rfl)
  have hd:∀x:D,frzD (n + 1) lim S (.d x)=some x:=fun _=>rfl
  have ih:=frz_dupE (n:=n) (lim:=lim) (S:=S) M (b + 1) (fun j m' hj=>by
   have:=h (j + 1) m' hj
   rwa [show b + (j + 1)=b + 1 + j by omega] at this)
  simp only[dupE,List.mapM_cons,List.mapM_nil,h0,ih,i64,hd,Option.pure_def,Option.bind_eq_bind,Option.bind_some,List.map_cons]
  rfl
theorem frz_dup {lim k g b:Nat} {S:List VL.Obj} {M:List Mat} (hk:S[k]?=some ⟨g,false,3,dupE b M⟩) (h:∀(j:Nat) (m:Mat),M[j]?=some m→S[b + j]?=some ⟨1,false,2,(capO 1 m.c).els⟩):frzV lim S (.so k g 0 M.length)=some (.d (.sl (M.map matD))):=by
 simp only[frzV]
 rw[show frzD 8 lim S (.so k g 0 M.length)=some (.sl (M.map matD)) from by
  simp only[frzD,hk]
  rw[if_pos ⟨trivial,by simp [dupE_len],.inr trivial⟩,List.drop_zero,List.take_of_length_le (by simp [dupE_len]),frz_dupE M b h]
  rfl]
def movN (δ:Int) (L:List Mat) (i:Nat):List Mat:=(L.take i).map (mvM δ)++L.drop i
theorem movN_zero (δ:Int) (L:List Mat):movN δ L 0=L:=by simp [movN]
theorem movN_len (δ:Int) (L:List Mat) (i:Nat):(movN δ L i).length=L.length:=by simp [movN]; omega
theorem movN_all (δ:Int) (L:List Mat):movN δ L L.length=L.map (mvM δ):=by simp [movN]
theorem movN_get {δ:Int} {L:List Mat} {i:Nat} {m:Mat} (h:L[i]?=some m):(movN δ L i)[i]?=some m:=by
 have hlt:=(List.getElem?_eq_some_iff.1 h).1
 unfold movN
 rw[List.getElem?_append_right (by simp; omega)]
 simp only[List.length_map,List.length_take,List.getElem?_drop]
 rw[← h]
 congr 1
 omega
theorem movN_succ {δ:Int} {L:List Mat} {i:Nat} {m:Mat} (h:L[i]?=some m):movN δ L (i + 1)=(movN δ L i).set i (mvM δ m):=by
 have hlt:=(List.getElem?_eq_some_iff.1 h).1
 have hxe:L[i]=m:=(List.getElem?_eq_some_iff.1 h).2
 have h1:L.drop i=m::L.drop (i + 1):=by rw[List.drop_eq_getElem_cons hlt,hxe]
 have h2:L.take (i + 1)=L.take i++[m]:=by rw[List.take_succ_eq_append_getElem hlt,hxe]
 unfold movN
 rw[h1,h2,List.set_append_right _ _ (by simp; omega)]
 simp only[List.length_map,List.length_take,List.map_append,List.map_cons,List.map_nil]
 rw[show i - min i L.length=0 by omega]
 simp
theorem dupE_set {b i:Nat} {L:List Mat} {m:Mat}:dupE b (L.set i m)=(dupE b L).set i [i64 m.s,i64 m.e,.so (b + i) 1 0 m.c.length]:=by
 apply List.ext_getElem?
 intro j
 rw[dupE_get,List.getElem?_set,List.getElem?_set,dupE_len]
 by_cases h:i=j
 ·subst h
  by_cases hl:i < L.length
  ·simp [hl]
  ·simp [hl]
 ·simp [h,dupE_get]
structure DupAt (S:List VL.Obj) (k g b:Nat) (L:List Mat):Prop where
 out:S[k]?=some ⟨g,true,3,dupE b L⟩
 caps:∀(j:Nat) (m:Mat),L[j]?=some m→S[b + j]?=some (capO 1 m.c)
theorem DupAt.move {S:List VL.Obj} {k g b i:Nat} {δ:Int} {L:List Mat} {m:Mat} (h:DupAt S k g b (movN δ L i)) (hm:L[i]?=some m) (hk:k < b∨b + L.length≤k) :
  DupAt ((S.set (b + i) (capO 1 (mvC δ m.c))).set k ⟨g,true,3,(dupE b (movN δ L i)).set i [i64 (m.s + δ),i64 (m.e + δ),.so (b + i) 1 0 m.c.length]⟩) k g b (movN δ L (i + 1)):=by
 have hlt:=(List.getElem?_eq_some_iff.1 hm).1
 have hkl:=(List.getElem?_eq_some_iff.1 h.out).1
 have hcl:(mvC δ m.c).length=m.c.length:=by simp [mvC]
 refine⟨?_,fun j m' hj=>?_⟩
 ·rw[List.getElem?_set,if_pos rfl,if_pos (by simpa using hkl),movN_succ hm,dupE_set]
  show some _=some _
  rw[show (mvM δ m).c.length=m.c.length from hcl]
  rfl
 ·have hjl:j < L.length:=by have:=(List.getElem?_eq_some_iff.1 hj).1; rwa [movN_len] at this
  rw[List.getElem?_set,if_neg (by omega),List.getElem?_set]
  rw[movN_succ hm,List.getElem?_set,movN_len] at hj
  by_cases hij:i=j
  ·subst hij
   rw[if_pos rfl,if_pos hlt] at hj
   have he:mvM δ m=m':=by simpa using hj
   have hbl:=(List.getElem?_eq_some_iff.1 (h.caps i m (movN_get hm))).1
   rw[if_pos rfl,if_pos hbl,← he]
   rfl
  ·rw[if_neg hij] at hj
   rw[if_neg (by omega)]
   exact h.caps j m' hj
theorem DupAt.other {S:List VL.Obj} {k g b:Nat} {L:List Mat} (h:DupAt S k g b L) {x:Nat} {o:VL.Obj} (hx:x≠k) (hb:x < b∨b + L.length≤x):DupAt (S.set x o) k g b L:=by
 refine⟨by rw[List.getElem?_set_ne hx]; exact h.out,fun j m hj=>?_⟩
 have hjl:=(List.getElem?_eq_some_iff.1 hj).1
 rw[List.getElem?_set_ne (by omega)]
 exact h.caps j m hj
theorem DupAt.frz {S:List VL.Obj} {k g b lim:Nat} {L:List Mat} {ids:List Nat} (h:DupAt S k g b L) (hk:k∈ids) (hb:∀j,j < L.length→b + j∈ids):frzV lim (killO S ids) (.so k g 0 L.length)=some (.d (.sl (L.map matD))):=by
 refine frz_dup (b:=b) ?_ fun j m hj=>?_
 ·rw[killO_at,h.out]
  simp [hk]
 ·have hjl:=(List.getElem?_eq_some_iff.1 hj).1
  rw[killO_at,h.caps j m hj]
  simp [hb j hjl,capO]
theorem DupAt.kill {S:List VL.Obj} {k g b:Nat} {L:List Mat} {ids:List Nat} (h:DupAt S k g b L) (hk:k ∉ ids) (hb:∀j,j < L.length→b + j ∉ ids):DupAt (killO S ids) k g b L:=by
 refine⟨?_,fun j m hj=>?_⟩
 ·rw[killO_at,h.out]
  simp [hk]
 ·have hjl:=(List.getElem?_eq_some_iff.1 hj).1
  rw[killO_at,h.caps j m hj]
  simp [hb j hjl]
theorem call_dup {args:List V} {S:List VL.Obj} {K:V→List VL.Obj→Prop} {L:List Mat} (hL:L.length≤100000) (hc:∀m∈L,m.c.length≤100000) (ha:args=[.d (.sl (L.map matD))])
  (hk:∀g,K (.so S.length g 0 L.length) (S++((⟨g,true,3,dupE (S.length + 1) L⟩:VL.Obj)::dupO L))):callWp prog 30 args S K:=by
 subst ha
 refine call_frame_new (dup_ok L hL hc) [] rfl (by simp) (fun k o h=>by simp at h) rfl rfl rfl ?_
 rintro v s' ⟨g,rfl,rfl⟩ _
 have hrho:∀x,x < L.length + 1→(rhoN [] S [] ((⟨g,true,3,dupE 1 L⟩:VL.Obj)::dupO L)).getD x 0=S.length + x:=by
  intro x hx
  unfold rhoN
  simp only[List.nil_append,List.getD]
  rw[List.getElem?_range' (by simp [dupO_len]; omega)]
  simp
 generalize rhoN [] S [] ((⟨g,true,3,dupE 1 L⟩:VL.Obj)::dupO L)=R at *
 have e1:renV R (.so 0 g 0 L.length)=.so S.length g 0 L.length:=by
  show V.so (R.getD 0 0) g 0 L.length=_
  rw[hrho 0 (by omega)]
  rfl
 have e2:∀(M:List Mat) (b:Nat),b + M.length≤L.length + 1→(dupE b M).map (renV.go R)=dupE (S.length + b) M:=by
  intro M
  induction M with
  | nil=>intro b _; rfl
  | cons m M ih =>
   intro b hb
   simp only[List.length_cons] at hb
   simp only[dupE,List.map_cons,ih (b + 1) (by omega)]
   congr 1
   show [_,_,V.so (R.getD b 0) 1 0 m.c.length]=_
   rw[hrho b (by omega)]
   rfl
 have e3:(dupO L).map (renO R)=dupO L:=by
  unfold dupO
  rw[List.map_map]
  refine List.map_congr_left fun m _=>?_
  show renO R (capO 1 m.c)=capO 1 m.c
  unfold renO capO
  congr 1
  rw[List.map_map]
  exact List.map_congr_left fun p _=>rfl
 have e4:renO R ⟨g,true,3,dupE 1 L⟩=⟨g,true,3,dupE (S.length + 1) L⟩:=by
  unfold renO
  rw[e2 L 1 (by omega)]
 rw[e1]
 simp only[List.length_nil,List.take_zero,List.drop_zero,List.map_nil,List.map_cons,e3,e4,putObjs]
 exact hk g
theorem call_dup' {args:List V} {S:List VL.Obj} {K:V→List VL.Obj→Prop} {L:List Mat} (hL:L.length≤100000) (hc:∀m∈L,m.c.length≤100000) (ha:args=[.d (.sl (L.map matD))])
  (hk:∀(g:Nat) (S':List VL.Obj),S'.length=S.length + 1 + L.length→(∀(id:Nat) (o:VL.Obj),S[id]?=some o→S'[id]?=some o)→DupAt S' S.length g (S.length + 1) L→K (.so S.length g 0 L.length) S'):callWp prog 30 args S K:=by
 refine call_dup hL hc ha fun g=>hk g _ (by simp [dupO_len]; omega) (fun id o ho=>?_) ⟨?_,fun j m hj=>?_⟩
 ·rw[List.getElem?_append_left (List.getElem?_eq_some_iff.1 ho).1]
  exact ho
 ·rw[List.getElem?_append_right (Nat.le_refl _),Nat.sub_self]
  rfl
 ·rw[List.getElem?_append_right (by omega),show S.length + 1 + j - S.length=j + 1 by omega,List.getElem?_cons_succ,dupO_get,hj]
  rfl
theorem ren_capO (ρ:List Nat) (g:Nat) (c:CapsL):renO ρ (capO g c)=capO g c:=by
 unfold renO capO
 congr 1
 rw[List.map_map]
 exact List.map_congr_left fun p _=>rfl
theorem obj_capO (lim g:Nat) (c:CapsL):objOk lim (capO g c)=true:=by
 unfold objOk capO
 rw[List.all_eq_true]
 intro e he
 obtain⟨p,_,rfl⟩:=List.mem_map.1 he
 rfl
theorem DupAt.later {S S':List VL.Obj} {k g b:Nat} {L:List Mat} (h:DupAt S k g b L) (hs:∀(id:Nat) (o:VL.Obj),S[id]?=some o→S'[id]?=some o):DupAt S' k g b L :=
 ⟨hs _ _ h.out,fun j m hj=>hs _ _ (h.caps j m hj)⟩
end Go.Proofs.Ytllagoeijcjpiaa
