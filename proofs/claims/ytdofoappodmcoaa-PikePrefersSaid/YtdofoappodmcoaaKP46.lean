/- A part of the proof (K95 K93 K94). -/
import Derived.Test.YtdofoappodmcoaaKP36
import Derived.Test.YtdofoappodmcoaaKP45
import Derived.Test.YtdofoappodmcoaaKP40
set_option linter.unusedSimpArgs false
set_option linter.unusedVariables false
set_option maxRecDepth 100000
set_option maxHeartbeats 80000000
namespace Go.Proofs.Ytdofoappodmcoaa
open Go.VL Go.Proofs.Try
structure Wy where
 pc:Int
 a:Int
 idle:Int
 regs:List Int
structure Wy.ok (g:Prg) (t:List Int) (w:Wy) (n:Nat) (r:Option (Int × List Int)):Prop where
 way:Way g t w.pc w.a w.regs n r
 p0:0≤w.pc
 p1:w.pc < g.ins.length
 met:∃V:List Int,w.idle=V.length∧Met g t w.a V n
inductive SOut (g:Prg) (t:List Int):List Wy→Nat→Option (Int × List Int)→Prop
 | nil:SOut g t [] 0 none
 | hit {w:Wy} {l:List Wy} {n:Nat} {r:Int × List Int} (h:w.ok g t n (some r)):SOut g t (w::l) n (some r)
 | miss {w:Wy} {l:List Wy} {n m:Nat} {r:Option (Int × List Int)} (h:w.ok g t n none) (h2:SOut g t l m r):SOut g t (w::l) (n + m) r
theorem Wy.ok.idle {g:Prg} {t:List Int} {w:Wy} {n:Nat} {r:Option (Int × List Int)} (h:w.ok g t n r):0≤w.idle∧w.idle + 1≤g.ins.length:=by
 obtain⟨V,h1,h2⟩:=h.met
 have:=h2.idle h.way h.p0 h.p1
 omega
theorem SOut.top {g:Prg} {t:List Int} {w:Wy} {l:List Wy} {k:Nat} {r:Option (Int × List Int)} (h:SOut g t (w::l) k r):0≤w.idle∧w.idle + 1≤g.ins.length∧0≤w.pc∧w.pc < g.ins.length∧1≤k:=by
 cases h with
 | hit h=>have:=h.idle; have:=h.way.pos; have:=h.p0; have:=h.p1; omega
 | miss h _=>have:=h.idle; have:=h.way.pos; have:=h.p0; have:=h.p1; omega
theorem Wy.ok.next {g:Prg} {t:List Int} {w:Wy} {n n':Nat} {r r':Option (Int × List Int)} (h:w.ok g t n r) {pc:Int} {regs:List Int} (w':Way g t pc w.a regs n' r') (p0:0≤pc) (p1:pc < g.ins.length) (hn:n' < n):Wy.ok g t ⟨pc,w.a,w.idle + 1,regs⟩ n' r':=by
 obtain⟨V,h1,h2⟩:=h.met
 exact⟨w',p0,p1,w.pc::V,by rw[h1]; simp,h2.cons h.way h.p0 h.p1 hn⟩
theorem SOut.one {g:Prg} {t:List Int} {l:List Wy} {m:Nat} {w:Wy} {n:Nat} {r r':Option (Int × List Int)} (h:w.ok g t n r') (hr:(r'=r∧r'.isSome=true∧m=0)∨(r'=none∧SOut g t l m r)):SOut g t (w::l) (n + m) r:=by
 rcases hr with ⟨rfl,hs,rfl⟩ | ⟨rfl,h2⟩
 ·obtain⟨x,rfl⟩:=Option.isSome_iff_exists.1 hs
  exact .hit h
 ·exact .miss h h2
theorem SOut.split {g:Prg} {t:List Int} {w:Wy} {l:List Wy} {k:Nat} {r:Option (Int × List Int)} (h:SOut g t (w::l) k r):∃n m r',k=n + m∧w.ok g t n r'∧((r'=r∧r'.isSome=true∧m=0)∨(r'=none∧SOut g t l m r)):=by
 cases h with
 | hit h=>exact⟨k,0,_,rfl,h,.inl ⟨rfl,rfl,rfl⟩⟩
 | miss h h2=>exact⟨_,_,none,rfl,h,.inr ⟨rfl,h2⟩⟩
section step
variable {g:Prg} (hg:g.good) {t:List Int} {w:Wy} {l:List Wy} {k:Nat} {r:Option (Int × List Int)}
theorem SOut.done (h:SOut g t (w::l) k r) (ho:(insAt g w.pc).op=0):r=some (w.a,w.regs):=by
 obtain⟨n,m,r',rfl,hw,hr⟩:=h.split
 have:=(hw.way.det (.done ho)).2.2 rfl
 rcases hr with ⟨rfl,_,_⟩ | ⟨rfl,_⟩
 ·exact this
 ·cases this
theorem SOut.symN (h:SOut g t (w::l) k r) (ho:(insAt g w.pc).op=1) (hc:¬(w.a < t.length∧hasB (insAt g w.pc).set (tAt t w.a)=true)):∃k',k=k' + 1∧SOut g t l k' r:=by
 obtain⟨n,m,r',rfl,hw,hr⟩:=h.split
 have hd:=hw.way.det (.symN (regs:=w.regs) ho hc)
 rcases hr with ⟨rfl,hs,_⟩ | ⟨rfl,h2⟩
 ·have:=hd.2.1; rw[hs] at this; cases this
 ·exact⟨m,by omega,h2⟩
include hg in
theorem SOut.sym (h:SOut g t (w::l) k r) (ho:(insAt g w.pc).op=1) (h1:w.a < t.length) (h2:hasB (insAt g w.pc).set (tAt t w.a)=true):∃k',k=k' + 1∧SOut g t (⟨w.pc + 1,w.a + 1,0,w.regs⟩::l) k' r:=by
 obtain⟨n,m,r',rfl,hw,hr⟩:=h.split
 have hx:=hg.next _ _ (insAt_get hw.p0 hw.p1) (.inl ho)
 have hp0:=hw.p0
 obtain⟨n',rfl,w'⟩:∃n',n=n' + 1∧Way g t (w.pc + 1) (w.a + 1) w.regs n' r':=by
  have hww:=hw.way
  cases hww <;> (try (exfalso; simp_all; done))
  rename_i w'
  exact⟨_,rfl,w'⟩
 exact⟨n' + m,by omega,.one ⟨w',by show 0≤w.pc + 1; omega,by show w.pc + 1 < _; omega,[],rfl,Met.nil _ _ _ _⟩ hr⟩
include hg in
theorem SOut.spl (h:SOut g t (w::l) k r) (ho:(insAt g w.pc).op=2):∃k',k=k' + 1∧SOut g t (⟨(insAt g w.pc).x,w.a,w.idle + 1,w.regs⟩::⟨(insAt g w.pc).y,w.a,w.idle + 1,w.regs⟩::l) k' r:=by
 obtain⟨n,m,r',rfl,hw,hr⟩:=h.split
 have hx:=hg.split _ _ (insAt_get hw.p0 hw.p1) ho
 have hww:=hw.way
 cases hww <;> (try (exfalso; simp_all; done))
 ·rename_i n' r0 _ w'
  rcases hr with ⟨rfl,_,rfl⟩ | ⟨e,_⟩
  ·exact⟨n',by omega,.hit (hw.next w' hx.1 hx.2.1 (by omega))⟩
  ·cases e
 ·rename_i n1 m1 _ w1 w2
  exact⟨n1 + (m1 + m),by omega,.miss (hw.next w1 hx.1 hx.2.1 (by omega)) (.one (hw.next w2 hx.2.2.1 hx.2.2.2 (by omega)) hr)⟩
include hg in
theorem SOut.jmp (h:SOut g t (w::l) k r) (ho:(insAt g w.pc).op=3):∃k',k=k' + 1∧SOut g t (⟨(insAt g w.pc).x,w.a,w.idle + 1,w.regs⟩::l) k' r:=by
 obtain⟨n,m,r',rfl,hw,hr⟩:=h.split
 have hx:=hg.jump _ _ (insAt_get hw.p0 hw.p1) ho
 have hww:=hw.way
 cases hww <;> (try (exfalso; simp_all; done))
 rename_i n' _ w'
 exact⟨n' + m,by omega,.one (hw.next w' hx.1 hx.2 (by omega)) hr⟩
include hg in
theorem SOut.sav (h:SOut g t (w::l) k r) (ho:(insAt g w.pc).op=4):∃k',k=k' + 1∧SOut g t (⟨w.pc + 1,w.a,w.idle + 1,w.regs.set (insAt g w.pc).n.toNat w.a⟩::l) k' r:=by
 obtain⟨n,m,r',rfl,hw,hr⟩:=h.split
 have hx:=hg.next _ _ (insAt_get hw.p0 hw.p1) (.inr (by omega))
 have hp0:=hw.p0
 have hww:=hw.way
 cases hww <;> (try (exfalso; simp_all; done))
 rename_i n' _ w'
 exact⟨n' + m,by omega,.one (hw.next w' (by omega) (by omega) (by omega)) hr⟩
include hg in
theorem SOut.ass (h:SOut g t (w::l) k r) (ho:(insAt g w.pc).op=5) (hc:holdsR (insAt g w.pc).n t w.a=true):∃k',k=k' + 1∧SOut g t (⟨w.pc + 1,w.a,w.idle + 1,w.regs⟩::l) k' r:=by
 obtain⟨n,m,r',rfl,hw,hr⟩:=h.split
 have hx:=hg.next _ _ (insAt_get hw.p0 hw.p1) (.inr (by omega))
 have hp0:=hw.p0
 have hww:=hw.way
 cases hww <;> (try (exfalso; simp_all; done))
 rename_i n' _ _ w'
 exact⟨n' + m,by omega,.one (hw.next w' (by omega) (by omega) (by omega)) hr⟩
theorem SOut.assN (h:SOut g t (w::l) k r) (ho:(insAt g w.pc).op=5) (hc:¬holdsR (insAt g w.pc).n t w.a=true):∃k',k=k' + 1∧SOut g t l k' r:=by
 obtain⟨n,m,r',rfl,hw,hr⟩:=h.split
 have hd:=hw.way.det (.assN (regs:=w.regs) ho hc)
 rcases hr with ⟨rfl,hs,_⟩ | ⟨rfl,h2⟩
 ·have:=hd.2.1; rw[hs] at this; cases this
 ·exact⟨m,by omega,h2⟩
end step
theorem pathsCheck_ok (g:Prg) (hs:g.ins.length≤1000000000) (hl:∀x∈g.ins,x.set.length≤1000000000) (hv:prgE g=0) (t:List Int) (ht:t.length≤65536) (a:Int) (h0:0≤a) (h1:a≤t.length):PureOK prog 50 [prgV g,.d (intsD t),i64 a,i64 1,i64 1048576] (i64 0):=by
 have hva:=progValid_ok g hs hl
 rw[hv] at hva
 have c1:¬(65536:Int) < t.length:=by omega
 have c2:¬a < 0:=by omega
 have c3:¬(t.length:Int) < a:=by omega
 simp only[prgV_eq,i64,iD,bD] at hva
 refine fn_ok func50 rfl ntmps50 results50 rfl 0 3135 (by simp) (by simp) ?_
 simp only[zX,Nat.reduceShiftRight,Nat.reduceMod,Nat.reduceLT,Nat.reduceMul,Nat.reduceSub,Int.reduceToNat,Int.reduceNeg,Int.reduceLT,Int.reduceLE,Int.reduceEq,Nat.reduceEqDiff,Nat.reduceAdd,Nat.reduceLeDiff,reduceIte,reduceCtorEq,Nat.reduceBEq,i64,bV,iD,bD,prgV_eq]
 refine call_pure hva rfl rfl ?_
 simp only[zX,Nat.reduceShiftRight,Nat.reduceMod,Nat.reduceLT,Nat.reduceMul,Nat.reduceSub,Int.reduceToNat,Int.reduceNeg,Int.reduceLT,Int.reduceLE,Int.reduceEq,Nat.reduceEqDiff,Nat.reduceAdd,Nat.reduceLeDiff,reduceIte,reduceCtorEq,Nat.reduceBEq,i64,bV,iD,bD,ne_eq,not_true_eq_false,intsD,List.length_map,gt_iff_lt,c1,c2,c3]
def wayO (gen:Nat) (pc a idle found:Int) (r:V):VL.Obj:=⟨gen,true,5,[[i64 pc,i64 a,i64 idle,i64 found,r]]⟩
theorem circles_no (g:Prg) (gen q:Nat) (pc a idle found n most:Int) (r:D) (h0:0≤idle) (hi:idle + 1≤g.ins.length) (hl:g.ins.length≤1000000000) :
  callWp prog 51 [.rf 0 0 0 0,.rf 1 q 0 0,i64 n,i64 most] [⟨0,true,3,[[.d (.sl (g.ins.map Ins.cells)),i64 g.caps,bV g.runes]]⟩,wayO q pc a idle found (.d r)]
   fun v s=>v=bV false∧s=[⟨0,true,3,[[.d (.sl (g.ins.map Ins.cells)),i64 g.caps,bV g.runes]]⟩,wayO q pc a (idle + 1) found (.d r)]:=by
 have w1:IntKind.i64.wrap (idle + 1)=idle + 1:=w64 _ (by omega)
 refine fn_ok func51 rfl ntmps51 results51 rfl 2 271 (by simp) (by simp) ?_
 simp only[zX,Nat.reduceShiftRight,Nat.reduceMod,Nat.reduceLT,Nat.reduceMul,Nat.reduceSub,Int.reduceToNat,Int.reduceNeg,Int.reduceLT,Int.reduceLE,Int.reduceEq,Nat.reduceEqDiff,Nat.reduceAdd,Nat.reduceLeDiff,reduceIte,reduceCtorEq,Nat.reduceBEq,i64,bV,iD,bD,wayO,w1]
 refine draw_c mix [] [] (by rfl) ?_
 simp only[zX,Nat.reduceShiftRight,Nat.reduceMod,Nat.reduceLT,Nat.reduceMul,Nat.reduceSub,Int.reduceToNat,Int.reduceNeg,Int.reduceLT,Int.reduceLE,Int.reduceEq,Nat.reduceEqDiff,Nat.reduceAdd,Nat.reduceLeDiff,reduceIte,reduceCtorEq,Nat.reduceBEq,i64,bV,iD,bD,wayO,w1,List.length_map,hi]
def prgO (g:Prg):VL.Obj:=⟨0,true,3,[[.d (.sl (g.ins.map Ins.cells)),i64 g.caps,bV g.runes]]⟩
theorem drop_reg {regs:List Int} {i:Nat} (h:i < regs.length):∃R,List.drop (i * 1) (List.map iD regs)=.sc (.int .i64 (regs.getD i 0))::R:=by
 refine⟨List.drop (i + 1) (List.map iD regs),?_⟩
 rw[Nat.mul_one,List.drop_eq_getElem_cons (by simpa using h),List.getElem_map,List.getD_eq_getElem?_getD,List.getElem?_eq_getElem h]
 rfl
theorem matchOf_ok (g:Prg) (hc0:0≤g.caps) (hc1:g.caps≤9) (q:Nat) (pc a idle found st:Int) (regs:List Int) (hr:regs.length=18) :
  callWp prog 52 [.rf 0 0 0 0,.rf 1 q 0 0,i64 st] [prgO g,wayO q pc a idle found (.d (.el (regs.map iD)))]
   fun v s=>v=.ag [i64 st,i64 a,.d (capD (capsOf g.caps.toNat regs))]∧s=[prgO g,wayO q pc a idle found (.d (.el (regs.map iD)))]:=by
 refine fn_ok func52 rfl ntmps52 results52 rfl 2 1573831 (by simp) (by simp) ?_
 simp only[zX,Nat.reduceShiftRight,Nat.reduceMod,Nat.reduceLT,Nat.reduceMul,Nat.reduceSub,Int.reduceToNat,Int.reduceNeg,Int.reduceLT,Int.reduceLE,Int.reduceEq,Nat.reduceEqDiff,Nat.reduceAdd,Nat.reduceLeDiff,reduceIte,reduceCtorEq,Nat.reduceBEq,i64,bV,iD,bD,wayO,prgO]
 refine loop_rule (fun n e s=>∃j gg:Nat,n=g.caps.toNat - j∧j≤g.caps.toNat∧e 1=.rf 1 q 0 0∧e 6=.rf 2 0 0 0∧e 7=.rf 3 0 0 0∧e 19=i64 g.caps∧e 20=i64 j∧s=[prgO g,wayO q pc a idle found (.d (.el (regs.map iD))),zeroMO,matB st a (.so 4 gg 0 j),capA gg ((List.range j).map (pairAt regs))])
  ⟨_,_,_,.of0 (reserveCell (pre:=[.d (.sc (.int .i64 st)),.d (.sc (.int .i64 a))]) (post:=[]) 3 2 rfl rfl rfl),0,0,rfl,by omega,rfl,rfl,rfl,rfl,rfl,by simp [prgO,wayO,zeroMO,matB,capA,i64,bV,iD]⟩ ?_
 rintro n e s ⟨j,gg,rfl,hj,h1,h6,h7,h19,h20,rfl⟩
 rcases Nat.lt_or_ge j g.caps.toNat with hlt | hge
 ·have hlt':(j:Int) < g.caps:=by omega
  have w1:IntKind.i64.wrap (2 * (j:Int))=((2 * j:Nat):Int):=by rw[w64 _ (by omega)]; omega
  have w2:IntKind.i64.wrap (((2 * j:Nat):Int) + 1)=((2 * j + 1:Nat):Int):=by rw[w64 _ (by omega)]; omega
  have c1:((2 * j + 1:Nat):Int) < ((18:Nat):Int):=by omega
  have c2:((2 * j:Nat):Int) < ((18:Nat):Int):=by omega
  have c3:(0:Int)≤((2 * j:Nat):Int):=by omega
  have c4:(0:Int)≤((2 * j + 1:Nat):Int):=by omega
  obtain⟨R1,hd1⟩:=drop_reg (regs:=regs) (i:=2 * j) (by omega)
  obtain⟨R2,hd2⟩:=drop_reg (regs:=regs) (i:=2 * j + 1) (by omega)
  have hP:pairAt regs j=if regs.getD (2 * j) 0=-1∨regs.getD (2 * j + 1) 0=-1 then (-1,-1) else (regs.getD (2 * j) 0,regs.getD (2 * j + 1) 0):=rfl
  generalize regs.getD (2 * j) 0=x at *
  generalize regs.getD (2 * j + 1) 0=y at *
  have k02:(0:Int) < ((2:Nat):Int):=by decide
  have k12:(1:Int) < ((2:Nat):Int):=by decide
  have fin:∀z:Int × Int,pairAt regs j=z→(⟨gg + 1,true,2,List.take j (List.map (fun x=>List.map V.d x) (List.map spanC (List.map (pairAt regs) (List.range j))))++[[i64 z.1,i64 z.2]]⟩:VL.Obj)=capA (gg + 1) ((List.range (j + 1)).map (pairAt regs)):=by
   intro z hz
   rw[List.take_of_length_le (by simp),List.range_succ]
   simp [capA,hz,spanC,iD,i64]
  by_cases hx:x=-1
  ·have hx':=eq_true hx
   have hf:=fin (-1,-1) (by rw[hP,if_pos (.inl hx)])
   simp only[zX,Nat.reduceShiftRight,Nat.reduceMod,Nat.reduceLT,Nat.reduceMul,Nat.reduceSub,Int.reduceToNat,Int.reduceNeg,Int.reduceLT,Int.reduceLE,Int.reduceEq,Nat.reduceEqDiff,Nat.reduceAdd,Nat.reduceLeDiff,reduceIte,reduceCtorEq,Nat.reduceBEq,i64,bV,iD,bD,zeroMO,matB,capA,prgO,wayO,h1,h6,h7,h19,h20,hlt',w1,w2]
   refine draw_first Cln0.reserve ?_
   refine draw_c mix [] [(20,[5],[5]),(21,[5],[5])] (by rfl) ?_
   simp only[zX,Nat.reduceShiftRight,Nat.reduceMod,Nat.reduceLT,Nat.reduceMul,Nat.reduceSub,Int.reduceToNat,Int.reduceNeg,Int.reduceLT,Int.reduceLE,Int.reduceEq,Nat.reduceEqDiff,Nat.reduceAdd,Nat.reduceLeDiff,reduceIte,reduceCtorEq,Nat.reduceBEq,i64,bV,iD,bD,zeroMO,matB,capA,prgO,wayO,h1,h6,h7,h19,h20,hlt',w1,w2,c1,c2,c3,c4,hole,hd1,hd2,k02,k12,hx']
   refine⟨fun e he=>by rw[List.mem_singleton.1 he]; rfl,⟨by simp,by omega⟩,g.caps.toNat - (j + 1),_,_,by omega,Cln.cut (s':=[prgO g,wayO q pc a idle found (.d (.el (regs.map iD))),zeroMO,matB st a (.so 4 (gg + 1) 0 (j + 1)),capA (gg + 1) ((List.range (j + 1)).map (pairAt regs))]) 5 (by omega) ?_ (by simp only[List.all_cons,List.all_nil,capA_ok,Bool.and_true]; simp [zeroMO,matB,objOk,refsV,i64,prgO,wayO,bV]) [1,6,7,19,20] ?_,j + 1,gg + 1,rfl,hlt,?_,?_,?_,?_,?_,rfl⟩ <;> (try simp only[zU,Nat.reduceBEq,Nat.reduceShiftRight,Nat.reduceMod,Nat.reduceEqDiff,reduceIte])
   ·simp only[List.take_succ_cons,List.take_zero]
    exact congrArg (fun o=>[prgO g,wayO q pc a idle found (.d (.el (regs.map iD))),zeroMO,matB st a (.so 4 (gg + 1) 0 (j + 1)),o]) hf
   ·simp [updE,trimE_app,refsV,h1,h6,h7,h19,i64]
   ·exact h1
   ·exact h6
   ·exact h7
   ·exact h19
   ·rw[w64 _ (by omega)]; rfl
  ·by_cases hy:y=-1
   ·have hy':=eq_true hy
    have hf:=fin (-1,-1) (by rw[hP,if_pos (.inr hy)])
    simp only[zX,Nat.reduceShiftRight,Nat.reduceMod,Nat.reduceLT,Nat.reduceMul,Nat.reduceSub,Int.reduceToNat,Int.reduceNeg,Int.reduceLT,Int.reduceLE,Int.reduceEq,Nat.reduceEqDiff,Nat.reduceAdd,Nat.reduceLeDiff,reduceIte,reduceCtorEq,Nat.reduceBEq,i64,bV,iD,bD,zeroMO,matB,capA,prgO,wayO,h1,h6,h7,h19,h20,hlt',w1,w2]
    refine draw_first Cln0.reserve ?_
    refine draw_c mix [] [(20,[5],[5]),(21,[5],[5])] (by rfl) ?_
    simp only[zX,Nat.reduceShiftRight,Nat.reduceMod,Nat.reduceLT,Nat.reduceMul,Nat.reduceSub,Int.reduceToNat,Int.reduceNeg,Int.reduceLT,Int.reduceLE,Int.reduceEq,Nat.reduceEqDiff,Nat.reduceAdd,Nat.reduceLeDiff,reduceIte,reduceCtorEq,Nat.reduceBEq,i64,bV,iD,bD,zeroMO,matB,capA,prgO,wayO,h1,h6,h7,h19,h20,hlt',w1,w2,c1,c2,c3,c4,hole,hd1,hd2,k02,k12,hx,hy']
    refine⟨fun e he=>by rw[List.mem_singleton.1 he]; rfl,⟨by simp,by omega⟩,g.caps.toNat - (j + 1),_,_,by omega,Cln.cut (s':=[prgO g,wayO q pc a idle found (.d (.el (regs.map iD))),zeroMO,matB st a (.so 4 (gg + 1) 0 (j + 1)),capA (gg + 1) ((List.range (j + 1)).map (pairAt regs))]) 5 (by omega) ?_ (by simp only[List.all_cons,List.all_nil,capA_ok,Bool.and_true]; simp [zeroMO,matB,objOk,refsV,i64,prgO,wayO,bV]) [1,6,7,19,20] ?_,j + 1,gg + 1,rfl,hlt,?_,?_,?_,?_,?_,rfl⟩ <;> (try simp only[zU,Nat.reduceBEq,Nat.reduceShiftRight,Nat.reduceMod,Nat.reduceEqDiff,reduceIte])
    ·simp only[List.take_succ_cons,List.take_zero]
     exact congrArg (fun o=>[prgO g,wayO q pc a idle found (.d (.el (regs.map iD))),zeroMO,matB st a (.so 4 (gg + 1) 0 (j + 1)),o]) hf
    ·simp [updE,trimE_app,refsV,h1,h6,h7,h19,i64]
    ·exact h1
    ·exact h6
    ·exact h7
    ·exact h19
    ·rw[w64 _ (by omega)]; rfl
   ·have hf:=fin (x,y) (by rw[hP,if_neg (by omega)])
    simp only[zX,Nat.reduceShiftRight,Nat.reduceMod,Nat.reduceLT,Nat.reduceMul,Nat.reduceSub,Int.reduceToNat,Int.reduceNeg,Int.reduceLT,Int.reduceLE,Int.reduceEq,Nat.reduceEqDiff,Nat.reduceAdd,Nat.reduceLeDiff,reduceIte,reduceCtorEq,Nat.reduceBEq,i64,bV,iD,bD,zeroMO,matB,capA,prgO,wayO,h1,h6,h7,h19,h20,hlt',w1,w2]
    refine draw_first Cln0.reserve ?_
    refine draw_c mix [] [(20,[5],[5]),(21,[5],[5])] (by rfl) ?_
    simp only[zX,Nat.reduceShiftRight,Nat.reduceMod,Nat.reduceLT,Nat.reduceMul,Nat.reduceSub,Int.reduceToNat,Int.reduceNeg,Int.reduceLT,Int.reduceLE,Int.reduceEq,Nat.reduceEqDiff,Nat.reduceAdd,Nat.reduceLeDiff,reduceIte,reduceCtorEq,Nat.reduceBEq,i64,bV,iD,bD,zeroMO,matB,capA,prgO,wayO,h1,h6,h7,h19,h20,hlt',w1,w2,c1,c2,c3,c4,hole,hd1,hd2,k02,k12,hx,hy]
    refine⟨fun e he=>by rw[List.mem_singleton.1 he]; rfl,⟨by simp,by omega⟩,g.caps.toNat - (j + 1),_,_,by omega,Cln.cut (s':=[prgO g,wayO q pc a idle found (.d (.el (regs.map iD))),zeroMO,matB st a (.so 4 (gg + 1) 0 (j + 1)),capA (gg + 1) ((List.range (j + 1)).map (pairAt regs))]) 5 (by omega) ?_ (by simp only[List.all_cons,List.all_nil,capA_ok,Bool.and_true]; simp [zeroMO,matB,objOk,refsV,i64,prgO,wayO,bV]) [1,6,7,19,20] ?_,j + 1,gg + 1,rfl,hlt,?_,?_,?_,?_,?_,rfl⟩ <;> (try simp only[zU,Nat.reduceBEq,Nat.reduceShiftRight,Nat.reduceMod,Nat.reduceEqDiff,reduceIte])
    ·simp only[List.take_succ_cons,List.take_zero]
     exact congrArg (fun o=>[prgO g,wayO q pc a idle found (.d (.el (regs.map iD))),zeroMO,matB st a (.so 4 (gg + 1) 0 (j + 1)),o]) hf
    ·simp [updE,trimE_app,refsV,h1,h6,h7,h19,i64]
    ·exact h1
    ·exact h6
    ·exact h7
    ·exact h19
    ·rw[w64 _ (by omega)]; rfl
 ·have hje:j=g.caps.toNat:=by omega
  have hlt':¬(j:Int) < g.caps:=by omega
  simp only[zX,Nat.reduceShiftRight,Nat.reduceMod,Nat.reduceLT,Nat.reduceMul,Nat.reduceSub,Int.reduceToNat,Int.reduceNeg,Int.reduceLT,Int.reduceLE,Int.reduceEq,Nat.reduceEqDiff,Nat.reduceAdd,Nat.reduceLeDiff,reduceIte,reduceCtorEq,Nat.reduceBEq,i64,bV,iD,bD,zeroMO,matB,capA,prgO,wayO,h1,h6,h7,h19,h20,hlt']
  rw[frz_data 7 2 _ _ _ (by simp),if_pos (by simp),hje]
  rfl
end Go.Proofs.Ytdofoappodmcoaa
