/- A part of the proof (K96A). -/
import Derived.Test.YtdofoappodmcoaaKP33
import Derived.Test.YtdofoappodmcoaaKP46
set_option linter.unusedSimpArgs false
set_option linter.unusedVariables false
set_option maxRecDepth 100000
set_option maxHeartbeats 80000000
namespace Go.Proofs.Ytdofoappodmcoaa
open Go.VL Go.Proofs.Try
def onePathD (g:Prg) (a:Int):Option (Int × List Int)→List (List D)
 | none=>[]
 | some (e,regs)=>[[iD a,iD e,capD (capsOf g.caps.toNat regs)]]
def negs (j:Nat):List Int:=List.replicate j (-1)++List.replicate (18 - j) 0
theorem negs_set:∀j,j < 18→(negs j).set j (-1)=negs (j + 1):=by decide
theorem negs_len:∀j,j < 19→(negs j).length=18:=by decide
def regO (b:Bool) (R:List Int):VL.Obj:=⟨0,b,18,[R.map i64]⟩
def wyC (w:Wy):List V:=[i64 w.pc,i64 w.a,i64 w.idle,i64 0,.d (.el (w.regs.map iD))]
def stO (gg:Nat) (S:List Wy):VL.Obj:=⟨gg,true,5,S.map wyC⟩
theorem cell_set {l:List V} {i:Nat} {x:V} (h:i < l.length):List.take (0 + i * 1) l++[x]++List.drop (0 + i * 1 + 1) l=l.set i x:=by
 rw[List.set_eq_take_append_cons_drop,if_pos h]; simp
theorem call_circ {g:Prg} {pc a idle:Int} {r:D} {s1 s2:VL.Obj} {K:V→List VL.Obj→Prop} (h0:0≤idle) (hi:idle + 1≤g.ins.length) (hl:g.ins.length≤1000000000) (hk:K (bV false) [prgO g,s1,s2,wayO 0 pc a (idle + 1) 0 (.d r)]) :
  callWp prog 51 [.rf 0 0 0 0,.rf 3 0 0 0,i64 ((0:Nat):Int),i64 1] [prgO g,s1,s2,wayO 0 pc a idle 0 (.d r)] K :=
 call_at2 0 3 (by decide) (circles_no g 0 0 pc a idle 0 ((0:Nat):Int) 1 r h0 hi hl) (by rfl) (by rfl) (by rfl) (by rfl) (by rfl) (by rfl) (by rfl) hk
theorem call_match {g:Prg} {pc a idle st:Int} {regs:List Int} {s1 s2:VL.Obj} {K:V→List VL.Obj→Prop} (hc0:0≤g.caps) (hc1:g.caps≤9) (hr:regs.length=18) (hk:K (.ag [i64 st,i64 a,.d (capD (capsOf g.caps.toNat regs))]) [prgO g,s1,s2,wayO 0 pc a idle 0 (.d (.el (regs.map iD)))]) :
  callWp prog 52 [.rf 0 0 0 0,.rf 3 0 0 0,i64 st] [prgO g,s1,s2,wayO 0 pc a idle 0 (.d (.el (regs.map iD)))] K :=
 call_at2 0 3 (by decide) (matchOf_ok g hc0 hc1 0 pc a idle 0 st regs hr) (by rfl) (by rfl) (by rfl) (by rfl) (by rfl) (by rfl) (by rfl) hk
def Wy.fit (t:List Int) (w:Wy):Prop:=w.regs.length=18∧0≤w.a∧w.a≤t.length
def OutI (g:Prg) (t:List Int) (a:Int) (r:Option (Int × List Int)) (n:Nat) (e:VL.Env) (s:List VL.Obj):Prop :=
 ∃(R J:List Wy) (gg k' F:Nat),e 1=.d (intsD t)∧e 2=i64 a∧e 3=i64 1∧e 4=i64 F∧k'≤F∧R.length + F≤1048577∧e 5=.rf 0 0 0 0∧e 16=.so 2 gg 0 R.length∧s=[prgO g,regO false (negs 18),stO gg (R.reverse++J)]∧(∀x∈R,x.fit t) ∧
  ((e 15=.fu []∧n=k' + 1∧SOut g t R k' r)∨(e 15=.d (.sl (onePathD g a r))∧n=0∧(onePathD g a r).length=1))
def InI (g:Prg) (t:List Int) (a:Int) (r:Option (Int × List Int)) (k' n:Nat) (e:VL.Env) (s:List VL.Obj):Prop :=
 ∃(w:Wy) (R J:List Wy) (gg F:Nat),e 1=.d (intsD t)∧e 2=i64 a∧e 3=i64 1∧e 4=i64 F∧n≤F∧R.length + F≤1048576∧e 5=.rf 0 0 0 0∧e 15=.fu []∧e 16=.so 2 gg 0 R.length∧e 17=.rf 3 0 0 0 ∧
  s=[prgO g,regO false (negs 18),stO gg (R.reverse++J),wayO 0 w.pc w.a w.idle 0 (.d (.el (w.regs.map iD)))]∧(∀x∈w::R,x.fit t)∧n≤k'∧SOut g t (w::R) n r
theorem stO_ok (gg:Nat) (S:List Wy) (n:Nat):objOk n (stO gg S)=true:=by
 simp only[objOk,stO,List.all_map,List.all_eq_true,Function.comp]
 intro x _ y hy
 simp only[wyC,List.mem_cons,List.not_mem_nil,or_false] at hy
 rcases hy with rfl | rfl | rfl | rfl | rfl <;> rfl
theorem path_objs (g:Prg) (gg:Nat) (S:List Wy) (n:Nat):[prgO g,regO false (negs 18),stO gg S].all (objOk n)=true:=by
 simp only[List.all_cons,List.all_nil,stO_ok,Bool.and_true]
 rfl
theorem push_st (gg:Nat) (R J:List Wy) (w:Wy):(⟨gg,true,5,List.take R.length (List.map wyC (R.reverse++J))++[wyC w]⟩:VL.Obj)=stO gg ((w::R).reverse++[]):=by
 unfold stO
 congr 1
 rw[List.map_append,List.take_left' (by simp)]
 simp
theorem regs_18 {l:List Int} (h:l.length=18):List.take 18 (List.map V.d (List.map iD l))=l.map i64:=by
 rw[List.take_of_length_le (by simp [h]),List.map_map]; rfl
section nexts
variable {g:Prg} {t:List Int} {a:Int} {r:Option (Int × List Int)} {N k':Nat} {e:VL.Env} {s:List VL.Obj} {R J:List Wy} {gg F:Nat}
theorem out_next {o:VL.Obj} {k:Nat} (h1:e 1=.d (intsD t)) (h2:e 2=i64 a) (h3:e 3=i64 1) (h4:e 4=i64 F) (h5:e 5=.rf 0 0 0 0) (h15:e 15=.fu []) (h16:e 16=.so 2 gg 0 R.length) (hs:s=[prgO g,regO false (negs 18),stO gg (R.reverse++J),o])
  (hk:k≤F) (hF:R.length + F≤1048577) (hR:∀x∈R,x.fit t) (hS:SOut g t R k r) (hN:k + 1 < N):Lnext 0 (OutI g t a r) N e s :=
 ⟨k + 1,_,_,hN,Cln.cut (s':=[prgO g,regO false (negs 18),stO gg (R.reverse++J)]) 3 (by omega) (by rw[hs]; rfl) (path_objs g gg _ 3) [1,2,3,4,5,15,16] (by simp [h1,h2,h3,h4,h5,h15,h16,refsV,i64]),R,J,gg,k,F,h1,h2,h3,h4,hk,hF,h5,h16,rfl,hR,.inl ⟨h15,rfl,hS⟩⟩
theorem out_done {o:VL.Obj} {x:Int × List Int} (h1:e 1=.d (intsD t)) (h2:e 2=i64 a) (h3:e 3=i64 1) (h4:e 4=i64 F) (h5:e 5=.rf 0 0 0 0) (h15:e 15=.so 4 0 0 1) (h16:e 16=.so 2 gg 0 R.length)
  (hs:s=[prgO g,regO false (negs 18),stO gg (R.reverse++J),o,⟨0,true,3,[[i64 a,i64 x.1,.d (capD (capsOf g.caps.toNat x.2))]]⟩])
  (hF:R.length + F≤1048577) (hR:∀x∈R,x.fit t) (hr:r=some x) (hN:0 < N):Lnext 0 (OutI g t a r) N e s:=by
 subst hs hr
 refine⟨0,_,_,hN,(Cln.freeze [4] [15]).trans (Cln.cut (s':=[prgO g,regO false (negs 18),stO gg (R.reverse++J)]) 3 (by omega) (by rfl) (path_objs g gg _ 3) [1,2,3,4,5,15,16] ?_),R,J,gg,0,F,?_,?_,?_,?_,by omega,hF,?_,?_,rfl,hR,.inr ⟨?_,rfl,rfl⟩⟩
 ·simp [freezeE,h1,h2,h3,h4,h5,h15,h16,refsV,i64]; rfl
 ·simpa [keepE,freezeE] using h1
 ·simpa [keepE,freezeE] using h2
 ·simpa [keepE,freezeE] using h3
 ·simpa [keepE,freezeE] using h4
 ·simpa [keepE,freezeE] using h5
 ·simpa [keepE,freezeE] using h16
 ·simp [keepE,freezeE,h15]; rfl
theorem in_next {os:List VL.Obj} {w:Wy} {n:Nat} (h1:e 1=.d (intsD t)) (h2:e 2=i64 a) (h3:e 3=i64 1) (h4:e 4=i64 F) (h5:e 5=.rf 0 0 0 0) (h15:e 15=.fu []) (h16:e 16=.so 2 gg 0 R.length) (h17:e 17=.rf 3 0 0 0)
  (hs:s=[prgO g,regO false (negs 18),stO gg (R.reverse++J),wayO 0 w.pc w.a w.idle 0 (.d (.el (w.regs.map iD)))]++os)
  (hn:n≤F) (hF:R.length + F≤1048576) (hR:∀x∈w::R,x.fit t) (hk:n≤k') (hS:SOut g t (w::R) n r) (hN:n < N):Lnext 0 (InI g t a r k') N e s :=
 ⟨n,_,_,hN,Cln.cut (s':=[prgO g,regO false (negs 18),stO gg (R.reverse++J),wayO 0 w.pc w.a w.idle 0 (.d (.el (w.regs.map iD)))]) 4 (by omega) (by rw[hs]; rfl) (by rw[show ([prgO g,regO false (negs 18),stO gg (R.reverse++J),wayO 0 w.pc w.a w.idle 0 (.d (.el (w.regs.map iD)))]:List VL.Obj)=[prgO g,regO false (negs 18),stO gg (R.reverse++J)]++[wayO 0 w.pc w.a w.idle 0 (.d (.el (w.regs.map iD)))] from rfl,List.all_append,path_objs]; rfl) [1,2,3,4,5,15,16,17] (by simp [h1,h2,h3,h4,h5,h15,h16,h17,refsV,i64]),w,R,J,gg,F,h1,h2,h3,h4,hn,hF,h5,h15,h16,h17,rfl,hR,hk,hS⟩
theorem mapM_i64 (f:V→Option D) (hf:∀x,f (.d x)=some x):∀L:List Int,(L.map i64).mapM f=some (L.map iD)
 | []=>rfl
 | x::L=>by
  rw[List.map_cons,List.mapM_cons,mapM_i64 f hf L,show f (i64 x)=some (iD x) from hf (iD x)]
  rfl
theorem frz_box {lim:Nat} {s:List VL.Obj} {L:List Int} (ho:s[4]?=some (regO true L)) (hl:lim≤4):cleanV lim s (.rf 4 0 0 0)=.d (.el (L.map iD)):=by
 unfold cleanV
 simp only[frzV,frzD,ho,regO]
 rw[if_pos ⟨trivial,.inl hl⟩]
 simp only[List.getElem?_cons_zero,List.drop_zero]
 rw[mapM_i64 _ (fun x=>by simp [frzD])]
 rfl
theorem in_sav {pc at_ idle:Int} {L:List Int} {n:Nat} (h1:e 1=.d (intsD t)) (h2:e 2=i64 a) (h3:e 3=i64 1) (h4:e 4=i64 F) (h5:e 5=.rf 0 0 0 0) (h15:e 15=.fu []) (h16:e 16=.so 2 gg 0 R.length) (h17:e 17=.rf 3 0 0 0)
  (hs:s=[prgO g,regO false (negs 18),stO gg (R.reverse++J),wayO 0 pc at_ idle 0 (.rf 4 0 0 0),regO true L])
  (hn:n≤F) (hF:R.length + F≤1048576) (hR:∀x∈⟨pc,at_,idle,L⟩::R,x.fit t) (hk:n≤k') (hS:SOut g t (⟨pc,at_,idle,L⟩::R) n r) (hN:n < N):Lnext 0 (InI g t a r k') N e s:=by
 have hst:(R.reverse++J).map wyC=((R.reverse++J).map wyC).map fun c=>c.map (cleanV 4 s):=by
  rw[List.map_map]
  exact List.map_congr_left fun x _=>rfl
 have hb:=frz_box (lim:=4) (s:=s) (L:=L) (by rw[hs]; rfl) (Nat.le_refl _)
 have hso:∀m,cleanV 4 s (.so 2 gg 0 m)=.so 2 gg 0 m:=fun m=>by
  unfold cleanV
  simp only[frzV,frzD,hs,List.getElem?_cons_succ,List.getElem?_cons_zero,stO]
  rw[if_neg (by simp)]
  rfl
 have hrf:∀i,i=0∨i=3→cleanV 4 s (.rf i 0 0 0)=.rf i 0 0 0:=fun i hi=>by
  unfold cleanV
  rcases hi with rfl | rfl
  ·simp only[frzV,frzD,hs,List.getElem?_cons_zero,prgO]
   rw[if_neg (by simp)]
   rfl
  ·simp only[frzV,frzD,hs,List.getElem?_cons_succ,List.getElem?_cons_zero,wayO]
   rw[if_neg (by simp)]
   rfl
 refine⟨n,_,_,hN,Cln.dropK 4 (by omega) [5,16,17] [1,2,3,4,15] (by simp [h1,h2,h3,h4,h15,refsV,i64]),⟨pc,at_,idle,L⟩,R,J,gg,F,?_,?_,?_,?_,hn,hF,?_,?_,?_,?_,?_,hR,hk,hS⟩
 ·simpa using h1
 ·simpa using h2
 ·simpa using h3
 ·simpa using h4
 ·simp only[cleanE,List.contains_cons,List.contains_nil,Nat.reduceBEq,Bool.or_false,Bool.false_or,Bool.or_true,Bool.true_or,if_true,if_false,reduceIte,h5,Bool.false_eq_true]
  exact hrf 0 (.inl rfl)
 ·simpa using h15
 ·simp only[cleanE,List.contains_cons,List.contains_nil,Nat.reduceBEq,Bool.or_false,Bool.false_or,Bool.or_true,Bool.true_or,if_true,if_false,reduceIte,h16,Bool.false_eq_true]
  exact hso _
 ·simp only[cleanE,List.contains_cons,List.contains_nil,Nat.reduceBEq,Bool.or_false,Bool.false_or,Bool.or_true,Bool.true_or,if_true,if_false,reduceIte,h17,Bool.false_eq_true]
  exact hrf 3 (.inr rfl)
 ·unfold cleanS
  rw[hs] at hst hb ⊢
  simp only[List.take_succ_cons,List.take_zero,List.map_cons,List.map_nil]
  rw[List.cons.injEq,List.cons.injEq,List.cons.injEq,List.cons.injEq]
  refine⟨rfl,rfl,?_,?_,rfl⟩
  ·unfold stO
   exact congrArg (VL.Obj.mk gg true 5) hst.symm
  ·unfold wayO
   simp only[List.map_cons,List.map_nil]
   unfold wayO at hb
   rw[hb]
   rfl
end nexts
theorem shas_ok (l:List (Int × Int)) (x:Int) (hl:l.length≤1000000):PureOK prog 53 [.d (.sl (l.map spanC)),i64 x] (bV (hasB l x)):=by
 refine fn_ok func53 rfl ntmps53 results53 rfl 0 979 (by simp) (by simp) ?_
 simp only[zX,simprocAttr,i64,List.length_map]
 refine loop_rule (fun n e s=>∃i:Nat,n=l.length - i∧i≤l.length∧e 1=i64 x∧e 7=.d (.sl (l.map spanC))∧e 8=i64 l.length∧e 9=i64 i∧s=[]∧(l.take i).any (fun s=>decide (s.1≤x∧x≤s.2))=false)
  ⟨_,_,_,Cln.refl,0,rfl,by omega,rfl,rfl,rfl,rfl,rfl,by simp⟩ ?_
 rintro n e s ⟨i,rfl,hi,h1,h7,h8,h9,rfl,hno⟩
 rcases Nat.lt_or_ge i l.length with hlt | hge
 ·obtain⟨k,hk⟩:∃k,l[i]?=some k:=⟨_,List.getElem?_eq_getElem hlt⟩
  have hlt':(i:Int) < l.length:=by omega
  have hm:=List.mem_of_getElem? hk
  by_cases c1:k.1≤x
  ·by_cases c2:x≤k.2
   ·simp only[zX,simprocAttr,i64,bV,iD,bD,spanC,h1,h7,h8,h9,hlt',hk,c1,c2]
    have:hasB l x=true:=List.any_eq_true.2 ⟨k,hm,by simp [c1,c2]⟩
    rw[this]
   ·simp only[zX,simprocAttr,i64,bV,iD,bD,spanC,h1,h7,h8,h9,hlt',hk,c1,c2]
    refine⟨l.length - (i + 1),_,_,by omega,Cln.cut (s':=[]) 0 (by omega) rfl rfl [1,7,8,9] (by simp [updE,trimE_app,refsV,h1,h7,h8,h9,i64]),i + 1,rfl,hlt,?_,?_,?_,?_,rfl,by rw[take_get hk,List.any_append,hno]; simp [c2]⟩ <;> (try simp only[zU,Nat.reduceBEq,Nat.reduceShiftRight,Nat.reduceMod,Nat.reduceEqDiff,reduceIte])
    ·exact h1
    ·exact h7
    ·exact h8
    ·rw[w64 _ (by omega)]; rfl
  ·simp only[zX,simprocAttr,i64,bV,iD,bD,spanC,h1,h7,h8,h9,hlt',hk,c1]
   refine⟨l.length - (i + 1),_,_,by omega,Cln.cut (s':=[]) 0 (by omega) rfl rfl [1,7,8,9] (by simp [updE,trimE_app,refsV,h1,h7,h8,h9,i64]),i + 1,rfl,hlt,?_,?_,?_,?_,rfl,by rw[take_get hk,List.any_append,hno]; simp [c1]⟩ <;> (try simp only[zU,Nat.reduceBEq,Nat.reduceShiftRight,Nat.reduceMod,Nat.reduceEqDiff,reduceIte])
   ·exact h1
   ·exact h7
   ·exact h8
   ·rw[w64 _ (by omega)]; rfl
 ·have hie:i=l.length:=by omega
  subst hie
  have hlt':¬(l.length:Int) < l.length:=by omega
  rw[List.take_length] at hno
  simp only[zX,simprocAttr,i64,bV,iD,bD,h1,h7,h8,h9,hlt']
  have:hasB l x=false:=hno
  rw[this]
end Go.Proofs.Ytdofoappodmcoaa
