/- A part of the proof (O17 O18 O19 O27). -/
import Derived.Test.YtfmdmlfhigocaaaOF14
import Derived.Test.YtfmdmlfhigocaaaOF33
import Derived.Test.YtfmdmlfhigocaaaOF34
import Derived.Test.YtfmdmlfhigocaaaOF35
import Derived.Test.YtfmdmlfhigocaaaOF36
import Derived.Test.YtfmdmlfhigocaaaOF42
set_option linter.unusedSimpArgs false
set_option linter.unusedVariables false
set_option maxRecDepth 100000
set_option maxHeartbeats 80000000
namespace Go.Proofs.Ytfmdmlfhigocaaa
open Go.VL
section
variable (t:List Int) (root parts:D) (bg nb:Nat) (Bs:List (List Bool)) (b a:Nat)
omit t root parts bg nb Bs b a in
def mY:V:=.cl (.func 55) [] [.rf 2 0 0 0]
omit t root parts bg nb Bs in
def s9:V:=.cl (.func 56) [] [.rf 3 0 0 0,mB b a,.rf 4 0 0 0,.rf 2 0 0 0]
theorem Kw (C:List av) (g:Nat) (J:List Nat):jZ [0,1,2,3,4,5,6] (wO t root parts bg nb Bs b a C++[bd g J])=wO t root parts bg nb Bs b a C++[bd g J]:=by
 simp only[wO,List.cons_append,List.nil_append,jZ,List.map_cons,List.map_nil,List.getD_cons_zero,List.getD_cons_succ,gP,nA,jK _ (rfl:List.idxOf? 0 [0,1,2,3,4,5,6]=some 0)]
 rfl
omit t root parts bg nb Bs b a in
theorem Hq {f:List av->List av}{z:Nat} (h:∀C,(f C).length=C.length+z):∀n C,∀x∈(iO f n C).2,x<(iO f n C).1.length
 |0,_,_,hx=>by simp [iO]at hx
 |n+1,C,x,hx=>by
  have ih:=Hq h n C
  simp only[iO,List.mem_append,List.mem_singleton]at hx
  simp only[iO,h,List.length_append,List.length_singleton]
  rcases hx with hx|rfl
  ·have:=ih x hx;omega
  ·omega
def NZ (re x:Re):Prop:=∀(k:Nat) (C:List av),C.length+re.fT<=1000000000000 ->
 aq Try.prog 62 [.d (re.aY k),mY,s9 b a] (wO t root parts bg nb Bs b a C) fun v s=>∃g,v=.so 6 g 0 (kX (x.emit k) re.mn re.mx C).2.length/\s=wO t root parts bg nb Bs b a (kX (x.emit k) re.mn re.mx C).1++[bd g (kX (x.emit k) re.mn re.mx C).2]
theorem G6 (re x:Re) (o:re.op=4) (hE:Hf re=true) (hk:re.kids=[x]) (hK:uC t root parts bg nb Bs b a x):NZ t root parts bg nb Bs b a re x:=by
 intro k C hC
 obtain⟨_,_,_,m0,m1,x0,x1,_,_⟩:=oE.1 hE
 have gZ:=fun C=>tD t root parts bg nb Bs b a C
 have hf:∀C,(x.emit k C).length=C.length+x.fT:=fun C=>Re.eY x k C
 have hz:re.fT=if re.mx=-1 then re.mn.toNat*x.fT+x.fT+2 else re.mn.toNat*x.fT+(re.mx-re.mn).toNat*(x.fT+1):=by
  rw[Re.nm,vv,if_neg (by omega),if_neg (by omega),if_neg (by omega),if_neg (by omega),if_pos o,hk];simp [Re.da]
 have SF:re.mn.toNat*x.fT<=re.fT:=by
  rw[hz];split
  ·omega
  ·exact Nat.le_add_right _ _
 have B9:Re.dg re.kids k=[[x.aY k]]:=by rw[hk];rfl
 have eF:re.aY k=.el [iD 4,.sl (re.set.map aV),.sl (re.kids.map Re.cells),iD re.mn,iD re.mx,iD re.mode,iD re.n,bD re.neg,.sl [[x.aY k]],iD k]:=by
  rw[Re.dw,if_neg (by omega),Nat.add_zero,B9,o]
 have hq:([[x.aY k]]:List (List D))[0]?=some [x.aY k]:=rfl
 rw[eF]
 unfold mY s9
 generalize hR:kX (x.emit k) re.mn re.mx C=R
 refine BU Try.func62 rfl Try.ntmps62 Try.results62 rfl 6 6917529027641094343 (Nat.le_refl 6) (by first|decide|(simp;done)) ?_
 simp only[zX,Nat.reduceShiftRight,Nat.reduceMod,Nat.reduceLT,Nat.reduceMul,Nat.reduceSub,Int.reduceToNat,Int.reduceNeg,Int.reduceLT,Int.reduceLE,Int.reduceEq,Nat.reduceEqDiff,Nat.reduceAdd,Nat.reduceLeDiff,reduceIte,reduceCtorEq,Nat.reduceBEq,i64,bV,iD,bD]
 refine ay (fun n e s=>∃i:Nat,n=re.mn.toNat-i/\i<=re.mn.toNat/\e 0=.d (.el [iD 4,.sl (re.set.map aV),.sl (re.kids.map Re.cells),iD re.mn,iD re.mx,iD re.mode,iD re.n,bD re.neg,.sl [[x.aY k]],iD k])/\e 1=mY/\e 2=s9 b a/\e 12=i64 re.mn/\e 13=i64 i/\s=wS t root parts bg nb Bs b a (gu (x.emit k) i C))
  ⟨_,_,_,bI.refl,0,rfl,by omega,rfl,rfl,rfl,rfl,rfl,rfl⟩ ?_
 rintro n e s ⟨i,rfl,hi,h0,h1,h2,iF,ta,rfl⟩
 have Tu:(gu (x.emit k) i C).length=C.length+i*x.fT:=rD hf i C
 have ZC:i*x.fT<=re.mn.toNat*x.fT:=Nat.mul_le_mul_right _ hi
 rw[show wS t root parts bg nb Bs b a (gu (x.emit k) i C)=wO t root parts bg nb Bs b a (gu (x.emit k) i C) from rfl]
 by_cases az:(i:Int)<re.mn
 ·have F4:gu (x.emit k) (i+1) C=x.emit k (gu (x.emit k) i C):=rfl
  have UL:(i+1)*x.fT<=re.mn.toNat*x.fT:=Nat.mul_le_mul_right _ (by omega)
  rw[Nat.succ_mul]at UL
  have hw:=fun K hk=>nX hK k (C:=gu (x.emit k) i C) (by omega) (tl:=[]) (K:=K) hk
  rw[<- F4]at hw
  simp only[List.append_nil]at hw
  generalize gu (x.emit k) i C=C1 at *
  generalize VC:gu (x.emit k) (i+1) C=C2 at *
  unfold cT at hw
  generalize x.aY k=xd at *
  simp only[zX,Nat.reduceShiftRight,Nat.reduceMod,Nat.reduceLT,Nat.reduceMul,Nat.reduceSub,Int.reduceToNat,Int.reduceNeg,Int.reduceLT,Int.reduceLE,Int.reduceEq,Nat.reduceEqDiff,Nat.reduceAdd,Nat.reduceLeDiff,reduceIte,reduceCtorEq,Nat.reduceBEq,i64,bV,iD,bD,wO,h0,h1,h2,iF,ta,az,s9,List.length_cons,List.length_nil,Nat.zero_add,hq]
  refine⟨by decide,?_⟩
  refine hw _ ?_
  simp only[zX,Nat.reduceShiftRight,Nat.reduceMod,Nat.reduceLT,Nat.reduceMul,Nat.reduceSub,Int.reduceToNat,Int.reduceNeg,Int.reduceLT,Int.reduceLE,Int.reduceEq,Nat.reduceEqDiff,Nat.reduceAdd,Nat.reduceLeDiff,reduceIte,reduceCtorEq,Nat.reduceBEq,i64,bV,iD,bD,h0,h1,h2,iF,ta]
  refine⟨re.mn.toNat-(i+1),_,_,by omega,bI.refl,i+1,by omega,by omega,?_,?_,?_,?_,?_,by rw[VC];rfl⟩ <;> (try simp only[zU,Nat.reduceBEq,Nat.reduceShiftRight,Nat.reduceMod,Nat.reduceEqDiff,reduceIte])
  ·exact h0
  ·exact h1
  ·exact h2
  ·exact iF
  ·rw[br _ (by omega)];rfl
 ·have eQ:i=re.mn.toNat:=by omega
  subst eQ
  have QV:R=if re.mx=-1 then (x.emit k (gu (x.emit k) re.mn.toNat C++[dS 0 0])++[jN (gu (x.emit k) re.mn.toNat C).length],[(gu (x.emit k) re.mn.toNat C).length]) else iO (x.emit k) (re.mx-re.mn).toNat (gu (x.emit k) re.mn.toNat C):=hR.symm
  generalize gu (x.emit k) re.mn.toNat C=C1 at *
  by_cases hm:re.mx=-1
  ·rw[if_pos hm]at QV hz
   have vK:=fun K hk=>iM (t:=t) (root:=root) (parts:=parts) (bg:=bg) (nb:=nb) (Bs:=Bs) (b:=b) (a:=a) (C:=C1) (by omega) 2 0 0 0 (tl:=[]) (K:=K) hk
   have hw:=fun K hk=>nX hK k (C:=C1++[dS 0 0]) (by rw[List.length_append,List.length_singleton];omega) (tl:=[bd 0 [C1.length]]) (K:=K) hk
   have AE:(x.emit k (C1++[dS 0 0])).length<=1000000000000:=by rw[hf,List.length_append,List.length_singleton];omega
   have BX:=fun K hk=>iM (t:=t) (root:=root) (parts:=parts) (bg:=bg) (nb:=nb) (Bs:=Bs) (b:=b) (a:=a) (C:=x.emit k (C1++[dS 0 0])) AE 3 C1.length 0 0 (tl:=[bd 0 [C1.length]]) (K:=K) hk
   rw[show (⟨2,0,0,0,none⟩:av)=dS 0 0 from rfl]at vK
   rw[show (⟨3,C1.length,0,0,none⟩:av)=jN C1.length from rfl]at BX
   subst QV
   generalize x.emit k (C1++[dS 0 0])++[jN C1.length]=C4 at *
   generalize x.emit k (C1++[dS 0 0])=C3 at *
   generalize C1++[dS 0 0]=C2 at *
   unfold cT at hw
   simp only[List.append_nil]at vK
   generalize x.aY k=xd at *
   have ud:decide (re.mx=-1)=true:=decide_eq_true hm
   have hT:∀(J:List Nat),List.map (fun (x:Nat)=>[V.d (D.sc (Value.int IntKind.i64 (x:Int)))]) J=(bd 0 J).au:=fun J=>rfl
   simp only[zX,Nat.reduceShiftRight,Nat.reduceMod,Nat.reduceLT,Nat.reduceMul,Nat.reduceSub,Int.reduceToNat,Int.reduceNeg,Int.reduceLT,Int.reduceLE,Int.reduceEq,Nat.reduceEqDiff,Nat.reduceAdd,Nat.reduceLeDiff,reduceIte,reduceCtorEq,Nat.reduceBEq,i64,bV,iD,bD,h0,h1,h2,iF,ta,az,ud,mY,s9]
   refine vK _ ?_
   simp only[zX,Nat.reduceShiftRight,Nat.reduceMod,Nat.reduceLT,Nat.reduceMul,Nat.reduceSub,Int.reduceToNat,Int.reduceNeg,Int.reduceLT,Int.reduceLE,Int.reduceEq,Nat.reduceEqDiff,Nat.reduceAdd,Nat.reduceLeDiff,reduceIte,reduceCtorEq,Nat.reduceBEq,i64,bV,iD,bD,h0,h1,h2,iF,ta,ud,mY,s9,wO,List.cons_append,List.nil_append,List.length_cons,List.length_nil,Nat.zero_add,hq]
   first|refine⟨fun e he=>by rw[List.mem_singleton.1 he];rfl,by decide,by decide,?_⟩|refine⟨fun e he=>by rw[List.mem_singleton.1 he];rfl,by decide,?_⟩|refine⟨fun e he=>by rw[List.mem_singleton.1 he];rfl,?_⟩
   refine hw _ ?_
   simp only[zX,Nat.reduceShiftRight,Nat.reduceMod,Nat.reduceLT,Nat.reduceMul,Nat.reduceSub,Int.reduceToNat,Int.reduceNeg,Int.reduceLT,Int.reduceLE,Int.reduceEq,Nat.reduceEqDiff,Nat.reduceAdd,Nat.reduceLeDiff,reduceIte,reduceCtorEq,Nat.reduceBEq,i64,bV,iD,bD,h0,h1,h2,iF,ta,ud,mY,s9,wO,bd,List.cons_append,List.nil_append,List.length_cons,List.length_nil,Nat.zero_add,List.map_cons,List.map_nil]
   refine⟨by decide,?_⟩
   refine BX _ ?_
   simp only[zX,Nat.reduceShiftRight,Nat.reduceMod,Nat.reduceLT,Nat.reduceMul,Nat.reduceSub,Int.reduceToNat,Int.reduceNeg,Int.reduceLT,Int.reduceLE,Int.reduceEq,Nat.reduceEqDiff,Nat.reduceAdd,Nat.reduceLeDiff,reduceIte,reduceCtorEq,Nat.reduceBEq,i64,bV,iD,bD,h0,h1,h2,iF,ta,Bw,wT]
   refine⟨[0,1,2,3,4,5,6],rfl,0,?_⟩
   rw[Kw]
   exact⟨rfl,rfl⟩
  ·rw[if_neg hm]at QV hz
   have ud:decide (re.mx=-1)=false:=decide_eq_false hm
   have wx:IntKind.i64.wrap (re.mx-re.mn)=re.mx-re.mn:=br _ (by omega)
   simp only[zX,Nat.reduceShiftRight,Nat.reduceMod,Nat.reduceLT,Nat.reduceMul,Nat.reduceSub,Int.reduceToNat,Int.reduceNeg,Int.reduceLT,Int.reduceLE,Int.reduceEq,Nat.reduceEqDiff,Nat.reduceAdd,Nat.reduceLeDiff,reduceIte,reduceCtorEq,Nat.reduceBEq,i64,bV,iD,bD,h0,h1,h2,iF,ta,az,ud,mY,s9]
   refine ar mix [] [] (by rfl) ?_
   simp only[zX,Nat.reduceShiftRight,Nat.reduceMod,Nat.reduceLT,Nat.reduceMul,Nat.reduceSub,Int.reduceToNat,Int.reduceNeg,Int.reduceLT,Int.reduceLE,Int.reduceEq,Nat.reduceEqDiff,Nat.reduceAdd,Nat.reduceLeDiff,reduceIte,reduceCtorEq,Nat.reduceBEq,i64,bV,iD,bD,h0,h1,h2,iF,ta,wx]
   generalize hM:(re.mx-re.mn).toNat=m at *
   refine ay (fun n e s=>∃(i g:Nat),n=m-i/\i<=m/\e 0=.d (.el [iD 4,.sl (re.set.map aV),.sl (re.kids.map Re.cells),iD re.mn,iD re.mx,iD re.mode,iD re.n,bD re.neg,.sl [[x.aY k]],iD k])/\e 1=mY/\e 2=s9 b a/\e 7=.so 6 g 0 i/\e 61=i64 (re.mx-re.mn)/\e 62=i64 i/\s=wO t root parts bg nb Bs b a (iO (x.emit k) i C1).1++[bd g (iO (x.emit k) i C1).2])
    ⟨_,_,_,.JV (mA 7 1 rfl),0,0,rfl,by omega,?_,?_,?_,rfl,rfl,rfl,rfl⟩ ?_
   ·(try simp only[zU,Nat.reduceBEq,Nat.reduceShiftRight,Nat.reduceMod,Nat.reduceEqDiff,reduceIte]);exact h0
   ·(try simp only[zU,Nat.reduceBEq,Nat.reduceShiftRight,Nat.reduceMod,Nat.reduceEqDiff,reduceIte]);exact h1
   ·(try simp only[zU,Nat.reduceBEq,Nat.reduceShiftRight,Nat.reduceMod,Nat.reduceEqDiff,reduceIte]);exact h2
   clear h0 h1 h2 iF ta
   rintro n e s ⟨i,g,rfl,hi,h0,h1,h2,h7,rK,sg,rfl⟩
   obtain⟨Xz,Xk⟩:=tK hf i C1
   have XJ:i*(x.fT+1)<=m*(x.fT+1):=Nat.mul_le_mul_right _ hi
   rcases Nat.lt_or_ge i m with Qf|YQ
   ·have aK:(i:Int)<re.mx-re.mn:=by omega
    have VT:(i+1)*(x.fT+1)<=m*(x.fT+1):=Nat.mul_le_mul_right _ (by omega)
    rw[Nat.succ_mul]at VT
    have F4:iO (x.emit k) (i+1) C1=(x.emit k ((iO (x.emit k) i C1).1++[dS 0 0]),(iO (x.emit k) i C1).2++[(iO (x.emit k) i C1).1.length]):=rfl
    generalize Xl:iO (x.emit k) (i+1) C1=O2 at *
    generalize iO (x.emit k) i C1=O1 at *
    obtain⟨D1,J⟩:=O1
    simp only at Xz Xk F4 ⊢
    have vK:=fun K hk=>iM (t:=t) (root:=root) (parts:=parts) (bg:=bg) (nb:=nb) (Bs:=Bs) (b:=b) (a:=a) (C:=D1) (by omega) 2 0 0 0 (tl:=[bd g J]) (K:=K) hk
    have hw:=fun K hk=>nX hK k (C:=D1++[dS 0 0]) (by rw[List.length_append,List.length_singleton];omega) (tl:=[bd (g+1) (J++[D1.length])]) (K:=K) hk
    rw[show (⟨2,0,0,0,none⟩:av)=dS 0 0 from rfl]at vK
    generalize x.emit k (D1++[dS 0 0])=D3 at *
    generalize D1++[dS 0 0]=D2 at *
    unfold cT at hw
    have hT:List.take i (J.map fun (x:Nat)=>[V.d (D.sc (Value.int IntKind.i64 (x:Int)))])++[[V.d (D.sc (Value.int IntKind.i64 (D1.length:Int)))]]=(J++[D1.length]).map fun (x:Nat)=>[V.d (D.sc (Value.int IntKind.i64 (x:Int)))]:=by
     rw[List.take_of_length_le (by rw[List.length_map];omega)];simp
    simp only[zX,Nat.reduceShiftRight,Nat.reduceMod,Nat.reduceLT,Nat.reduceMul,Nat.reduceSub,Int.reduceToNat,Int.reduceNeg,Int.reduceLT,Int.reduceLE,Int.reduceEq,Nat.reduceEqDiff,Nat.reduceAdd,Nat.reduceLeDiff,reduceIte,reduceCtorEq,Nat.reduceBEq,i64,bV,iD,bD,h0,h1,h2,h7,rK,sg,aK,mY,s9]
    refine vK _ ?_
    simp only[zX,Nat.reduceShiftRight,Nat.reduceMod,Nat.reduceLT,Nat.reduceMul,Nat.reduceSub,Int.reduceToNat,Int.reduceNeg,Int.reduceLT,Int.reduceLE,Int.reduceEq,Nat.reduceEqDiff,Nat.reduceAdd,Nat.reduceLeDiff,reduceIte,reduceCtorEq,Nat.reduceBEq,i64,bV,iD,bD,h0,h1,h2,h7,rK,sg,mY,s9,wO,bd,List.cons_append,List.nil_append,List.length_cons,List.length_nil,Nat.zero_add,List.length_map,hT]
    refine⟨fun e he=>by rw[List.mem_singleton.1 he];rfl,⟨by omega,by omega⟩,by decide,?_⟩
    refine hw _ ?_
    simp only[zX,Nat.reduceShiftRight,Nat.reduceMod,Nat.reduceLT,Nat.reduceMul,Nat.reduceSub,Int.reduceToNat,Int.reduceNeg,Int.reduceLT,Int.reduceLE,Int.reduceEq,Nat.reduceEqDiff,Nat.reduceAdd,Nat.reduceLeDiff,reduceIte,reduceCtorEq,Nat.reduceBEq,i64,bV,iD,bD,h0,h1,h2,h7,rK,sg]
    refine⟨m-(i+1),_,_,by omega,bI.refl,i+1,g+1,rfl,Qf,?_,?_,?_,?_,?_,?_,by rw[Xl,F4];rfl⟩ <;> (try simp only[zU,Nat.reduceBEq,Nat.reduceShiftRight,Nat.reduceMod,Nat.reduceEqDiff,reduceIte])
    ·exact h0
    ·exact h1
    ·exact h2
    ·exact rK
    ·rw[br _ (by omega)];rfl
   ·have eQ:i=m:=by omega
    subst eQ
    have Ui:¬(i:Int)<re.mx-re.mn:=by omega
    simp only[zX,Nat.reduceShiftRight,Nat.reduceMod,Nat.reduceLT,Nat.reduceMul,Nat.reduceSub,Int.reduceToNat,Int.reduceNeg,Int.reduceLT,Int.reduceLE,Int.reduceEq,Nat.reduceEqDiff,Nat.reduceAdd,Nat.reduceLeDiff,reduceIte,reduceCtorEq,Nat.reduceBEq,i64,bV,iD,bD,h0,h1,h2,h7,rK,sg,Ui,Bw,wT]
    refine⟨[0,1,2,3,4,5,6],rfl,g,?_⟩
    rw[Kw,QV,Xk]
    exact⟨rfl,rfl⟩
end
section
variable (t:List Int) (root parts:D) (bg nb:Nat) (Bs:List (List Bool)) (b a:Nat)
variable {t root parts bg nb Bs b a}
theorem KX {re x:Re} (h:NZ t root parts bg nb Bs b a re x) (k:Nat) {C:List av} (hC:C.length+re.fT<=1000000000000) {K:V->List VL.Obj->Prop}
  (hk:∀g,K (.so 7 g 0 (kX (x.emit k) re.mn re.mx C).2.length) (wO t root parts bg nb Bs b a (kX (x.emit k) re.mn re.mx C).1++[lT re k,bd g (kX (x.emit k) re.mn re.mx C).2])) :
  aq Try.prog 62 [.d (re.aY k),mY,s9 b a] (wO t root parts bg nb Bs b a C++[lT re k]) K:=by
 have Vx:=FZ t root parts bg nb Bs b a C
 refine jy (h k C hC) [0,1,2,3,4,5] rfl (by decide) (fun j o ho=>?_) ?_ ?_ (tD t root parts bg nb Bs b a C) ?_
 ·have h1:((wO t root parts bg nb Bs b a C).map (aP [0,1,2,3,4,5]))[j]?=some (aP [0,1,2,3,4,5] o):=by rw[List.getElem?_map,ho];rfl
  rw[Vx]at h1
  have hj:j<6:=(List.getElem?_eq_some_iff.1 h1).1
  have e1:[0,1,2,3,4,5].getD j 0=j:=by
   match j,hj with
   |0,_=>rfl
   |1,_=>rfl
   |2,_=>rfl
   |3,_=>rfl
   |4,_=>rfl
   |5,_=>rfl
  rw[e1,List.getElem?_append_left (by exact hj)]
  exact h1
 ·simp [mY,s9,aJ,aJ.go,mB]
 ·simp [mY,s9,ah,ah.go,mB,wO]
 rintro v s' ⟨g,rfl,rfl⟩ _
 have hk:=hk g
 generalize kX (x.emit k) re.mn re.mx C=R at *
 have e1:vE [0,1,2,3,4,5] (wO t root parts bg nb Bs b a C++[lT re k]) (wO t root parts bg nb Bs b a C) (wO t root parts bg nb Bs b a R.1++[bd g R.2])=[0,1,2,3,4,5,7]:=rfl
 rw[e1]
 have e2:(wO t root parts bg nb Bs b a R.1).map (aP [0,1,2,3,4,5,7])=wO t root parts bg nb Bs b a R.1:=by
  simp only[wO,List.map_cons,List.map_nil,iI,er]
  simp [aP,cV,ma,mB,aJ,aJ.go]
 have e3:List.take (wO t root parts bg nb Bs b a C).length (wO t root parts bg nb Bs b a R.1++[bd g R.2])=wO t root parts bg nb Bs b a R.1:=rfl
 have e4:List.drop (wO t root parts bg nb Bs b a C).length (wO t root parts bg nb Bs b a R.1++[bd g R.2])=[bd g R.2]:=rfl
 rw[e3,e4,e2,List.map_cons,List.map_nil,lO]
 have e5:aJ [0,1,2,3,4,5,7] (.so 6 g 0 R.2.length)=.so 7 g 0 R.2.length:=rfl
 rw[e5]
 exact hk
variable (t root parts bg nb Bs b a)
theorem Mi (re x:Re) (o:re.op=4) (hE:Hf re=true) (hk:re.kids=[x]) (hK:uC t root parts bg nb Bs b a x):uC t root parts bg nb Bs b a re:=by
 intro k C hC
 have gZ:=fun C=>tD t root parts bg nb Bs b a C
 have hrep:=G6 t root parts bg nb Bs b a re x o hE hk hK
 have hc:re.emit k C=(kX (x.emit k) re.mn re.mx C).2.foldl (nz re.mode) (kX (x.emit k) re.mn re.mx C).1:=by
  rw[Re.jE,if_neg (by omega),if_neg (by omega),if_neg (by omega),if_neg (by omega),if_neg (by omega),if_pos o,hk]
  rfl
 have Rg:(kX (x.emit k) re.mn re.mx C).1.length<=1000000000000:=by
  have h1:=Re.eY re k C
  rw[hc,qN]at h1
  omega
 have Sr:∀c∈(kX (x.emit k) re.mn re.mx C).2,c<(kX (x.emit k) re.mn re.mx C).1.length:=by
  intro c O8
  have hf:∀C,(x.emit k C).length=C.length+x.fT:=fun C=>Re.eY x k C
  unfold kX at O8 ⊢
  simp only at O8 ⊢
  split at O8
  ·rename_i hm
   rw[if_pos hm]
   rw[List.mem_singleton]at O8
   simp only[List.length_append,hf,List.length_singleton]
   omega
  ·rename_i hm
   rw[if_neg hm]
   exact Hq hf _ _ c O8
 have Q7:(kX (x.emit k) re.mn re.mx C).2.length<=3000000:=by
  obtain⟨_,_,_,m0,m1,x0,x1,_,_⟩:=oE.1 hE
  have hf:∀C,(x.emit k C).length=C.length+x.fT:=fun C=>Re.eY x k C
  unfold kX
  simp only
  split
  ·simp
  ·rw[(tK hf _ _).2];omega
 rw[hc]
 have QH:=fun K hk=>KX hrep k hC (K:=K) hk
 unfold cT
 have B9:Re.dg re.kids k=[[x.aY k]]:=by rw[hk];rfl
 have eF:re.aY k=.el [iD 4,.sl (re.set.map aV),.sl (re.kids.map Re.cells),iD re.mn,iD re.mx,iD re.mode,iD re.n,bD re.neg,.sl [[x.aY k]],iD k]:=by
  rw[Re.dw,if_neg (by omega),Nat.add_zero,B9,o]
 have ly:lT re k=⟨0,true,1,[[.d (re.aY k)]]⟩:=rfl
 generalize kX (x.emit k) re.mn re.mx C=R at *
 obtain⟨C1,J⟩:=R
 simp only at Rg Sr QH Q7 ⊢
 unfold mY s9 at QH
 rw[ly]at QH
 rw[eF]at QH ly ⊢
 simp only[iD,bD]at QH
 refine an Try.func56 rfl Try.ntmps56 Try.results56 rfl 6 1278813932664544596687975450732993771492559903679 (Nat.le_refl 6) (by first|decide|(simp [cT];done)) ?_
 simp only[zX,Nat.reduceShiftRight,Nat.reduceMod,Nat.reduceLT,Nat.reduceMul,Nat.reduceSub,Int.reduceToNat,Int.reduceNeg,Int.reduceLT,Int.reduceLE,Int.reduceEq,Nat.reduceEqDiff,Nat.reduceAdd,Nat.reduceLeDiff,reduceIte,reduceCtorEq,Nat.reduceBEq,i64,bV,iD,bD,wO,List.cons_append,List.nil_append]
 refine QH _ (fun g=>?_)
 simp only[zX,Nat.reduceShiftRight,Nat.reduceMod,Nat.reduceLT,Nat.reduceMul,Nat.reduceSub,Int.reduceToNat,Int.reduceNeg,Int.reduceLT,Int.reduceLE,Int.reduceEq,Nat.reduceEqDiff,Nat.reduceAdd,Nat.reduceLeDiff,reduceIte,reduceCtorEq,Nat.reduceBEq,i64,bV,iD,bD,wO,List.cons_append,List.nil_append]
 refine ay (fun n e s=>∃j:Nat,n=J.length-j/\j<=J.length/\e 4=.rf 2 0 0 0/\e 5=.rf 6 0 0 0/\e 157=.so 7 g 0 J.length/\e 158=i64 J.length/\e 159=i64 j/\s=yI t root parts bg nb Bs b a ((J.take j).foldl (nz re.mode) C1) re k g J)
  ⟨_,_,_,bI.refl,0,rfl,by omega,rfl,rfl,rfl,rfl,rfl,by rw[yI,ly];rfl⟩ ?_
 rintro n e s ⟨j,rfl,hj,h4,h5,Ef,ED,Iy,rfl⟩
 have R8:((J.take j).foldl (nz re.mode) C1).length=C1.length:=qN _ _ _
 rcases Nat.lt_or_ge j J.length with az|ib
 ·obtain⟨c,hx⟩:∃c,J[j]?=some c:=⟨_,List.getElem?_eq_getElem az⟩
  have X6:=Sr c (List.mem_of_getElem? hx)
  have aK:(j:Int)<(J.length:Int):=by omega
  have Mu:(0:Int)<=(j:Int):=by omega
  have KL:(J.take (j+1)).foldl (nz re.mode) C1=nz re.mode ((J.take j).foldl (nz re.mode) C1) c:=by
   rw[bt hx,List.foldl_append];rfl
  rw[show yI t root parts bg nb Bs b a ((J.take j).foldl (nz re.mode) C1) re k g J=wO t root parts bg nb Bs b a ((J.take j).foldl (nz re.mode) C1)++[lT re k,bd g J] from rfl,ly]
  generalize (J.take j).foldl (nz re.mode) C1=Dc at *
  have g1:(cr Dc.length b a Dc).g=Dc.length:=rfl
  have g2:(cr Dc.length b a Dc).sz=5:=rfl
  have g3:(cr Dc.length b a Dc).au=Dc.map (av.cells b a):=rfl
  have g4:(cr Dc.length b a Dc).live=true:=rfl
  obtain⟨y,hy⟩:∃y,Dc[c]?=some y:=⟨_,List.getElem?_eq_getElem (by omega)⟩
  have c2:c<Dc.length:=by omega
  have c1:(c:Int)<(Dc.length:Int):=by omega
  have c0:(0:Int)<=(c:Int):=by omega
  have w1:IntKind.i64.wrap ((c:Int)+1)=(c:Int)+1:=br _ (by omega)
  have Qy:db Dc c=y:=by unfold db;rw[List.getD_eq_getElem?_getD,hy];rfl
  have e1:∀v,((Dc.map (av.cells b a)).set c v)[c]?=some v:=fun v=>List.getElem?_set_self (by simpa using c2)
  have e2:∀u (p q:Int),((Dc.map (av.cells b a)).set c u).set c [V.d (D.sc (Value.int IntKind.i64 y.op)),V.d (D.sc (Value.int IntKind.i64 p)),V.d (D.sc (Value.int IntKind.i64 q)),V.d (D.sc (Value.int IntKind.i64 y.n)),bQ b a y.node]=(u7 Dc c p q).map (av.cells b a):=by
   intro u p q
   rw[List.set_set,u7,List.map_set,Qy]
   rfl
  have e4:∀(p q:Int),(u7 Dc c p q)[c]?=some ⟨y.op,p,q,y.n,y.node⟩:=by
   intro p q
   rw[u7,Qy]
   exact List.getElem?_set_self c2
  have e5:∀(p q p' q':Int) u,(((u7 Dc c p q).map (av.cells b a)).set c u).set c [V.d (D.sc (Value.int IntKind.i64 y.op)),V.d (D.sc (Value.int IntKind.i64 p')),V.d (D.sc (Value.int IntKind.i64 q')),V.d (D.sc (Value.int IntKind.i64 y.n)),bQ b a y.node]=(u7 Dc c p' q').map (av.cells b a):=by
   intro p q p' q' u
   rw[List.set_set,u7,u7,List.map_set,List.map_set,List.set_set,Qy]
   rfl
  have e6:∀(p q:Int) v,(((u7 Dc c p q).map (av.cells b a)).set c v)[c]?=some v:=fun p q v=>List.getElem?_set_self (by simpa [lq]using c2)
  have e7:∀(p q:Int),(u7 Dc c p q).length=Dc.length:=fun p q=>lq _ _ _ _
  by_cases QY:re.mode=1
  ·have MN:decide (re.mode=1)=true:=decide_eq_true QY
   simp only[zX,Nat.reduceShiftRight,Nat.reduceMod,Nat.reduceLT,Nat.reduceMul,Nat.reduceSub,Int.reduceToNat,Int.reduceNeg,Int.reduceLT,Int.reduceLE,Int.reduceEq,Nat.reduceEqDiff,Nat.reduceAdd,Nat.reduceLeDiff,reduceIte,reduceCtorEq,Nat.reduceBEq,i64,bV,iD,bD,wO,bd,ma,h4,h5,Ef,ED,Iy,aK,Mu,az,hx,Int.toNat_natCast,Nat.zero_add,List.length_map,List.getElem?_map,Option.map_some,List.cons_append,List.nil_append]
   refine ar mix [] [(8,[5],[]),(9,[5],[]),(10,[5],[5]),(11,[5],[]),(12,[5],[]),(13,[5],[5])] (by rfl) ?_
   simp only[zX,Nat.reduceShiftRight,Nat.reduceMod,Nat.reduceLT,Nat.reduceMul,Nat.reduceSub,Int.reduceToNat,Int.reduceNeg,Int.reduceLT,Int.reduceLE,Int.reduceEq,Nat.reduceEqDiff,Nat.reduceAdd,Nat.reduceLeDiff,reduceIte,reduceCtorEq,Nat.reduceBEq,i64,bV,iD,bD,h4,h5,Ef,ED,Iy,bK,aG,c0,c1,c2,g1,g2,g3,g4,hy,w1,Int.toNat_natCast,Nat.zero_add,List.length_map,List.getElem?_map,Option.map_some,av.cells,e1,e2,List.take_succ_cons,List.take_zero,List.drop_succ_cons,List.drop_zero,List.cons_append,List.nil_append,List.length_cons,List.length_nil,MN]
   refine ar mix [] [(6,[5],[]),(7,[5],[]),(8,[5],[]),(11,[5],[]),(12,[5],[]),(13,[5],[]),(14,[5],[]),(15,[5],[]),(16,[5],[5]),(17,[5],[]),(18,[5],[]),(19,[5],[5])] (by rfl) ?_
   simp only[zX,Nat.reduceShiftRight,Nat.reduceMod,Nat.reduceLT,Nat.reduceMul,Nat.reduceSub,Int.reduceToNat,Int.reduceNeg,Int.reduceLT,Int.reduceLE,Int.reduceEq,Nat.reduceEqDiff,Nat.reduceAdd,Nat.reduceLeDiff,reduceIte,reduceCtorEq,Nat.reduceBEq,i64,bV,iD,bD,h4,h5,Ef,ED,Iy,bK,aG,c0,c1,c2,g1,g2,g3,g4,hy,w1,Int.toNat_natCast,Nat.zero_add,List.length_map,List.getElem?_map,Option.map_some,av.cells,e1,e2,e4,e5,e6,e7,List.take_succ_cons,List.take_zero,List.drop_succ_cons,List.drop_zero,List.cons_append,List.nil_append,List.length_cons,List.length_nil,MN]
   refine⟨J.length-(j+1),_,_,by omega,bI.refl,j+1,rfl,az,?_,?_,?_,?_,?_,?_⟩ <;> (try simp only[zU,Nat.reduceBEq,Nat.reduceShiftRight,Nat.reduceMod,Nat.reduceEqDiff,reduceIte])
   ·exact h4
   ·exact h5
   ·exact Ef
   ·exact ED
   ·rw[br _ (by omega)];rfl
   ·rw[KL,nz,if_pos QY]
    simp only[yI,ly,wO,bd,ma,cr,e7,R8,iD,bD,List.cons_append,List.nil_append,i64]
  ·have MN:decide (re.mode=1)=false:=decide_eq_false QY
   simp only[zX,Nat.reduceShiftRight,Nat.reduceMod,Nat.reduceLT,Nat.reduceMul,Nat.reduceSub,Int.reduceToNat,Int.reduceNeg,Int.reduceLT,Int.reduceLE,Int.reduceEq,Nat.reduceEqDiff,Nat.reduceAdd,Nat.reduceLeDiff,reduceIte,reduceCtorEq,Nat.reduceBEq,i64,bV,iD,bD,wO,bd,ma,h4,h5,Ef,ED,Iy,aK,Mu,az,hx,Int.toNat_natCast,Nat.zero_add,List.length_map,List.getElem?_map,Option.map_some,List.cons_append,List.nil_append]
   refine ar mix [] [(8,[5],[]),(9,[5],[]),(10,[5],[5]),(11,[5],[]),(12,[5],[]),(13,[5],[5])] (by rfl) ?_
   simp only[zX,Nat.reduceShiftRight,Nat.reduceMod,Nat.reduceLT,Nat.reduceMul,Nat.reduceSub,Int.reduceToNat,Int.reduceNeg,Int.reduceLT,Int.reduceLE,Int.reduceEq,Nat.reduceEqDiff,Nat.reduceAdd,Nat.reduceLeDiff,reduceIte,reduceCtorEq,Nat.reduceBEq,i64,bV,iD,bD,h4,h5,Ef,ED,Iy,bK,aG,c0,c1,c2,g1,g2,g3,g4,hy,w1,Int.toNat_natCast,Nat.zero_add,List.length_map,List.getElem?_map,Option.map_some,av.cells,e1,e2,e4,e5,e6,e7,List.take_succ_cons,List.take_zero,List.drop_succ_cons,List.drop_zero,List.cons_append,List.nil_append,List.length_cons,List.length_nil,MN]
   refine⟨J.length-(j+1),_,_,by omega,bI.refl,j+1,rfl,az,?_,?_,?_,?_,?_,?_⟩ <;> (try simp only[zU,Nat.reduceBEq,Nat.reduceShiftRight,Nat.reduceMod,Nat.reduceEqDiff,reduceIte])
   ·exact h4
   ·exact h5
   ·exact Ef
   ·exact ED
   ·rw[br _ (by omega)];rfl
   ·rw[KL,nz,if_neg QY]
    simp only[yI,ly,wO,bd,ma,cr,e7,R8,iD,bD,List.cons_append,List.nil_append,i64]
 ·have Lb:j=J.length:=by omega
  subst Lb
  rw[List.take_length]
  simp only[zX,Nat.reduceShiftRight,Nat.reduceMod,Nat.reduceLT,Nat.reduceMul,Nat.reduceSub,Int.reduceToNat,Int.reduceNeg,Int.reduceLT,Int.reduceLE,Int.reduceEq,Nat.reduceEqDiff,Nat.reduceAdd,Nat.reduceLeDiff,reduceIte,reduceCtorEq,Nat.reduceBEq,i64,bV,iD,bD,h4,h5,Ef,ED,Iy,Int.lt_irrefl,yI,qo,gZ]
  rfl
end
section
variable (t:List Int) (root parts:D) (bg nb:Nat) (Bs:List (List Bool)) (b a:Nat)
theorem L8 (re:Re):re.every Hf=true->uC t root parts bg nb Bs b a re:=by
 refine Re.ind (Q:=fun re=>re.every Hf=true->uC t root parts bg nb Bs b a re) (fun re ih hs=>?_) re
 obtain⟨gX,pj⟩:=(Re.aS re).1 hs
 have hK:∀x∈re.kids,uC t root parts bg nb Bs b a x:=fun x hx=>ih x hx (pj x hx)
 obtain⟨q1,q2,_⟩:=oE.1 gX
 by_cases o2:re.op=2
 ·exact KK t root parts bg nb Bs b a re o2 gX hK
 by_cases o3:re.op=3
 ·have eF:re.kids≠[]:=by have:=q2 o3;intro h;rw[h]at this;simp at this
  exact Kp t root parts bg nb Bs b a re re.kids.dropLast (re.kids.getLast eF) o3 gX (List.dropLast_concat_getLast eF).symm hK
 by_cases o4:re.op=4
 ·obtain⟨x,hx⟩:∃x,re.kids=[x]:=List.length_eq_one_iff.1 (q1 (.inl o4))
  exact Mi t root parts bg nb Bs b a re x o4 gX hx (hK x (by rw[hx];simp))
 by_cases o5:re.op=5
 ·obtain⟨x,hx⟩:∃x,re.kids=[x]:=List.length_eq_one_iff.1 (q1 (.inr o5))
  exact Ko t root parts bg nb Bs b a re x o5 gX hx (hK x (by rw[hx];simp))
 exact IF t root parts bg nb Bs b a re ⟨o2,o3,o4,o5⟩
def cO (C:List av):List VL.Obj:=[cV t root parts bg nb,ez bg Bs,⟨0,false,1,[[.pp 0 0 0 0 b a]]⟩,ma 6 C.length,
 ⟨0,true,1,[[.cl (.func 55) [] [.rf 3 0 0 0]]]⟩,
 ⟨0,true,1,[[.cl (.func 56) [] [.rf 4 0 0 0,mB b a,.rf 5 0 0 0,.rf 3 0 0 0]]]⟩,cr C.length b a C]
variable {t root parts bg nb Bs b a}
theorem HA {f:FuncId}{args OA:List V}{r:V}{C C':List av} (h:aq Try.prog f args (wO t root parts bg nb Bs b a C) fun v s=>v=r/\s=wO t root parts bg nb Bs b a C') (ha:OA=args.map (aJ [0,1,3,4,5,6])) (z8:ah.go 6 args=true) (hr:aJ [0,1,3,4,5,6] r=r) {K:V->List VL.Obj->Prop}
  (hk:K r (cO t root parts bg nb Bs b a C')):aq Try.prog f OA (cO t root parts bg nb Bs b a C) K:=by
 have hm:∀C,(wO t root parts bg nb Bs b a C).map (aP [0,1,3,4,5,6])=[cV t root parts bg nb,ez bg Bs,ma 6 C.length,
   ⟨0,true,1,[[.cl (.func 55) [] [.rf 3 0 0 0]]]⟩,
   ⟨0,true,1,[[.cl (.func 56) [] [.rf 4 0 0 0,mB b a,.rf 5 0 0 0,.rf 3 0 0 0]]]⟩,cr C.length b a C]:=by
  intro C
  simp only[wO,List.map_cons,List.map_nil,iI,er]
  simp [aP,cV,ma,mB,aJ,aJ.go]
 refine dk [0,1,3,4,5,6] h (by decide) rfl ?_ ha z8 (tD t root parts bg nb Bs b a C) (r':=r) hr ?_
 ·have h2:(wO t root parts bg nb Bs b a C).map (fun o=>some (aP [0,1,3,4,5,6] o))=((wO t root parts bg nb Bs b a C).map (aP [0,1,3,4,5,6])).map some:=by rw[List.map_map];rfl
  rw[h2,hm]
  rfl
 ·rw[hm]
  exact hk
variable (t root parts bg nb Bs b a)
def cc:av:=⟨0,0,0,0,none⟩
theorem K7 (re:Re) (hs:re.every Hf=true) (hz:re.fT<=1000000) (k:Nat) :
  aq Try.prog 28 [.pp 0 0 0 0 b a,.d (re.aY k)] [cV t root parts bg nb,ez bg Bs] fun v s=>v=.so 2 (re.emit k []++[cc]).length 0 (re.emit k []++[cc]).length/\s=[cV t root parts bg nb,ez bg Bs,cr (re.emit k []++[cc]).length b a (re.emit k []++[cc])]:=by
 have hw:=L8 t root parts bg nb Bs b a re hs k [] (by simp;omega)
 have hl:(re.emit k []).length<=1000000:=by rw[Re.eY];simp;omega
 have hp:aq Try.prog 55 [oY b a cc,.rf 2 0 0 0] (wO t root parts bg nb Bs b a (re.emit k [])) fun v s=>v=i64 (re.emit k []).length/\s=wO t root parts bg nb Bs b a (re.emit k []++[cc]):=by
  have:=v8 (t:=t) (root:=root) (parts:=parts) (bg:=bg) (nb:=nb) (Bs:=Bs) (b:=b) (a:=a) (C:=re.emit k []) (by omega) cc (tl:=[]) (K:=fun v s=>v=i64 (re.emit k []).length/\s=wO t root parts bg nb Bs b a (re.emit k []++[cc])) ⟨rfl,by simp⟩
  simpa using this
 generalize re.emit k []++[cc]=C2 at *
 generalize re.emit k []=C1 at *
 unfold cT at hw
 generalize re.aY k=xd at *
 refine BU Try.func28 rfl Try.ntmps28 Try.results28 rfl 2 131071 (by simp) (by simp) ?_
 simp only[zX,Nat.reduceShiftRight,Nat.reduceMod,Nat.reduceLT,Nat.reduceMul,Nat.reduceSub,Int.reduceToNat,Int.reduceNeg,Int.reduceLT,Int.reduceLE,Int.reduceEq,Nat.reduceEqDiff,Nat.reduceAdd,Nat.reduceLeDiff,reduceIte,reduceCtorEq,Nat.reduceBEq,i64,bV,iD,bD]
 refine HO (o:=⟨0,true,1,[[.pp 0 0 0 0 b a]]⟩) (v:=.pp 0 0 0 0 b a) 2 rfl rfl rfl ?_
 have h1:GP 2 0 (.pp 0 0 0 0 b a) [cV t root parts bg nb,ez bg Bs,(⟨0,true,1,[[.pp 0 0 0 0 b a]]⟩:VL.Obj),⟨0,true,1,[[.fu []]]⟩,⟨0,true,1,[[.cl (.func 55) [] [.rf 3 0 0 0]]]⟩,⟨0,true,1,[[.cl (.func 56) [] [.rf 4 0 0 0,.rf 2 0 0 0,.rf 5 0 0 0,.rf 3 0 0 0]]]⟩] =
   [cV t root parts bg nb,ez bg Bs,⟨0,false,1,[[.pp 0 0 0 0 b a]]⟩,⟨0,true,1,[[.fu []]]⟩,⟨0,true,1,[[.cl (.func 55) [] [.rf 3 0 0 0]]]⟩,⟨0,true,1,[[.cl (.func 56) [] [.rf 4 0 0 0,mB b a,.rf 5 0 0 0,.rf 3 0 0 0]]]⟩]:=by
  simp only[GP,bS,List.getElem?_cons_succ,List.getElem?_cons_zero,List.set_cons_succ,List.set_cons_zero,List.map_cons,List.map_nil,H9]
  rfl
 have h2:List.map (lU 2 0 (.pp 0 0 0 0 b a)) [V.d xd,V.rf 4 0 0 0,V.rf 2 0 0 0,V.rf 5 0 0 0,V.rf 3 0 0 0]=[V.d xd,V.rf 4 0 0 0,mB b a,V.rf 5 0 0 0,V.rf 3 0 0 0]:=rfl
 rw[show (⟨0,true,1,[[.pp 0 0 0 0 b a]]⟩:VL.Obj).g=0 from rfl,show [V.pp 0 0 0 0 b a].length=1 from rfl,h1,h2]
 refine fM (pre:=[]) (post:=[]) 3 5 rfl rfl rfl ?_
 refine HA (C:=[]) (C':=C1) hw (by rfl) (by rfl) rfl ?_
 simp only[zX,Nat.reduceShiftRight,Nat.reduceMod,Nat.reduceLT,Nat.reduceMul,Nat.reduceSub,Int.reduceToNat,Int.reduceNeg,Int.reduceLT,Int.reduceLE,Int.reduceEq,Nat.reduceEqDiff,Nat.reduceAdd,Nat.reduceLeDiff,reduceIte,reduceCtorEq,Nat.reduceBEq,i64,bV,iD,bD,cO]
 refine HA (C:=C1) (C':=C2) hp (by rfl) (by rfl) rfl ?_
 simp only[zX,Nat.reduceShiftRight,Nat.reduceMod,Nat.reduceLT,Nat.reduceMul,Nat.reduceSub,Int.reduceToNat,Int.reduceNeg,Int.reduceLT,Int.reduceLE,Int.reduceEq,Nat.reduceEqDiff,Nat.reduceAdd,Nat.reduceLeDiff,reduceIte,reduceCtorEq,Nat.reduceBEq,i64,bV,iD,bD,cO,ma,Bw,wT]
 refine⟨[0,1,6],rfl,?_⟩
 simp only[jZ,List.map_cons,List.map_nil,List.getD_cons_zero,List.getD_cons_succ,gP,jK _ (rfl:List.idxOf? 0 [0,1,6]=some 0)]
 exact⟨rfl,rfl⟩
end
theorem vd (t:List Int) (Bs:List (List Bool)) (re:Re) (hs:re.every nt=true) (k:Nat) (hz:re.fT<=99999) (hB:∀j,k<=j->j<k+re.looks->∃l,Bs[j]?=some l/\l.length=t.length+1):lg t Bs (re.emit k []++[cc]):=by
 have Sd:=Nu (fun j=>∃l,Bs[j]?=some l/\l.length=t.length+1) re hs k hB [] ⟨by simp,by simp⟩
 have hl:=Re.eY re k []
 rw[List.length_nil,Nat.zero_add]at hl
 have Zu:(re.emit k []++[cc]).length=(re.emit k []).length+1:=by simp
 have get:∀n,n<(re.emit k []++[cc]).length->(n+1<(re.emit k []++[cc]).length/\db (re.emit k []++[cc]) n∈re.emit k [])\/db (re.emit k []++[cc]) n=cc:=by
  intro n hn
  unfold db
  rw[List.getD_eq_getElem?_getD]
  by_cases h:n<(re.emit k []).length
  ·refine .inl ⟨by omega,?_⟩
   rw[List.getElem?_append_left h,List.getElem?_eq_getElem h]
   exact List.getElem_mem h
  ·refine .inr ?_
   rw[List.getElem?_append_right (by omega),show n-(re.emit k []).length=0 by omega]
   rfl
 generalize re.emit k []=C at *
 refine⟨by omega,fun n hn=>?_,fun n hn ho=>?_,fun n hn ho=>?_,fun n hn ho=>?_,fun n hn ho=>?_,fun n hn ho=>?_⟩
 ·rcases get n hn with ⟨_,h⟩|h
  ·exact(Sd.1 _ h).1
  ·rw[h];simp [cc]
 ·rcases get n hn with ⟨_,h⟩|h
  ·exact(Sd.1 _ h).2.1 ho
  ·rw[h]at ho;simp [cc]at ho
 ·rcases get n hn with ⟨_,h⟩|h
  ·exact(Sd.1 _ h).2.2 ho
  ·rw[h]at ho;simp [cc]at ho
 ·rcases get n hn with ⟨_,h⟩|h
  ·have:=Sd.2 _ h;unfold CK at this;omega
  ·rw[h]at ho;simp [cc]at ho
 ·rcases get n hn with ⟨_,h⟩|h
  ·have:=Sd.2 _ h;unfold CK at this;omega
  ·rw[h]at ho;simp [cc]at ho
 ·rcases get n hn with ⟨h,_⟩|h
  ·exact h
  ·rw[h]at ho;simp [cc]at ho
mutual
def Re.bU:Re->Nat->List (Re×Nat)
 |.mk op set kids mn mx mode n neg,k =>
  if op=7\/op=8 then (Re.mk op set kids mn mx mode n neg,k)::Re.kg kids (k+1) else Re.kg kids k
def Re.kg:List Re->Nat->List (Re×Nat)
 |[],_=>[]
 |x::l,k=>x.bU k++Re.kg l (k+x.looks)
end
mutual
theorem Re.Bv:∀(re:Re) (k:Nat),re.jC k=(re.bU k).map fun p=>p.1.aY p.2
 |.mk op set kids mn mx mode n neg,k=>by
  have h:=Re.ts kids
  rw[Re.jC,Re.bU]
  split <;> simp [h]
theorem Re.ts:∀(l:List Re) (k:Nat),Re.dM l k=(Re.kg l k).map fun p=>p.1.aY p.2
 |[],_=>rfl
 |x::l,k=>by rw[Re.dM,Re.kg,Re.Bv x,Re.ts l,List.map_append]
end
theorem Re.qR (re:Re) (k:Nat):(re.bU k).length=re.looks:=by rw[<- Re.wk re k,Re.Bv,List.length_map]
theorem Re.Db (re:Re) (k:Nat):re.bU k=if re.op=7\/re.op=8 then (re,k)::Re.kg re.kids (k+1) else Re.kg re.kids k:=by
 cases re;rw[Re.bU];rfl
structure FU (L:List (Re×Nat)) (k i:Nat) (r:Re):Prop where
 num:∃p,L[i]?=some (r,p)/\p=k+i
 op:r.op=7\/r.op=8
 Zs:r.every nt=true
 short:∃x,r.kids=[x]/\1+il x<=8192
 fit:i+r.looks<=L.length
theorem MV (re:Re):re.every nt=true->re.every BL=true->∀k i,i<re.looks->∃r,FU (re.bU k) k i r:=by
 refine Re.ind (Q:=fun re=>re.every nt=true->re.every BL=true->∀k i,i<re.looks->∃r,FU (re.bU k) k i r) (fun re ih hs hh k i hi=>?_) re
 obtain⟨gX,pj⟩:=(Re.aS re).1 hs
 obtain⟨Mp,VW⟩:=(Re.aS re).1 hh
 have hL:∀(l:List Re) (k i:Nat),(∀x∈l,x∈re.kids)->i<Re.aN l->∃r,FU (Re.kg l k) k i r:=by
  intro l
  induction l with
  |nil=>intro k i _ h;simp [Re.aN]at h
  |cons x l IK =>
   intro k i hm h
   rw[Re.aN]at h
   have S9:=Re.qR x k
   have FG:∀k,(Re.kg l k).length=Re.aN l:=fun k=>by rw[<- Re.lP l k,Re.ts,List.length_map]
   rw[Re.kg]
   by_cases PL:i<x.looks
   ·obtain⟨r,⟨p,a1,a2⟩,a3,a4,a5,a6⟩:=ih x (hm x (by simp)) (pj x (hm x (by simp))) (VW x (hm x (by simp))) k i PL
    refine⟨r,⟨p,?_,a2⟩,a3,a4,a5,?_⟩
    ·rw[List.getElem?_append_left (by omega)];exact a1
    ·rw[List.length_append];omega
   ·obtain⟨r,⟨p,a1,a2⟩,a3,a4,a5,a6⟩:=IK (k+x.looks) (i-x.looks) (fun y hy=>hm y (by simp [hy])) (by omega)
    refine⟨r,⟨p,?_,by omega⟩,a3,a4,a5,?_⟩
    ·rw[List.getElem?_append_right (by omega),S9];exact a1
    ·rw[List.length_append];omega
 rw[Re.Db]
 rw[Re.iu]at hi
 by_cases ho:re.op=7\/re.op=8
 ·rw[if_pos ho]at hi ⊢
  have FG:(Re.kg re.kids (k+1)).length=Re.aN re.kids:=by rw[<- Re.lP re.kids (k+1),Re.ts,List.length_map]
  obtain⟨q1,_⟩:=kP.1 gX
  obtain⟨x,hx⟩:∃x,re.kids=[x]:=List.length_eq_one_iff.1 (q1 (by omega))
  cases i with
  |zero =>
   refine⟨re,⟨k,rfl,rfl⟩,ho,hs,⟨x,hx,?_⟩,?_⟩
   ·unfold BL at Mp
    have hl:re.kf=true:=decide_eq_true ho
    rw[hl,hx]at Mp
    simpa using Mp
   ·rw[Re.iu,if_pos ho,List.length_cons,FG];omega
  |succ i =>
   obtain⟨r,⟨p,a1,a2⟩,a3,a4,a5,a6⟩:=hL re.kids (k+1) i (fun _ h=>h) (by omega)
   exact⟨r,⟨p,by rw[List.getElem?_cons_succ];exact a1,by omega⟩,a3,a4,a5,by rw[List.length_cons];omega⟩
 ·rw[if_neg ho,Nat.zero_add]at hi
  rw[if_neg ho]
  exact hL re.kids k i (fun _ h=>h) hi
def gT (t:List Int) (Bs:List (List Bool)) (r:Re) (i:Nat):List Bool :=
 let C:=Re.dc r.kids (i+1) []++[cc]
 (if r.op=7 then eI t Bs C else n9 t Bs C).map fun b=>b != r.neg
def aW (t:List Int) (L:List (Re×Nat)):Nat->List (List Bool)
 |0=>List.replicate L.length []
 |c+1=>match L[L.length-1-c]? with
  |some p=>(aW t L c).set (L.length-1-c) (gT t (aW t L c) p.1 (L.length-1-c))
  |none=>aW t L c
theorem eS (t:List Int) (L:List (Re×Nat)):∀c,(aW t L c).length=L.length
 |0=>by simp [aW]
 |c+1=>by
  rw[aW]
  split
  ·rw[List.length_set,eS t L c]
  ·exact eS t L c
theorem mi (t:List Int) (Bs:List (List Bool)) (C:List av):(eI t Bs C).length=t.length+1:=by simp [eI]
theorem pZ (t:List Int) (Bs:List (List Bool)) (C:List av):(n9 t Bs C).length=t.length+1:=(sS t Bs C (t.length+1)).2.1
theorem oB (t:List Int) (Bs:List (List Bool)) (r:Re) (i:Nat):(gT t Bs r i).length=t.length+1:=by
 unfold gT
 simp only[List.length_map]
 split
 ·exact mi _ _ _
 ·exact pZ _ _ _
theorem jr (t:List Int) (L:List (Re×Nat)):∀c j,j<L.length->L.length<=j+c->∃l,(aW t L c)[j]?=some l/\l.length=t.length+1
 |0,j,h1,h2=>by omega
 |c+1,j,h1,h2=>by
  rw[aW]
  have hp:L.length-1-c<L.length:=by omega
  rw[List.getElem?_eq_getElem hp]
  simp only
  by_cases hj:j=L.length-1-c
  ·subst hj
   exact⟨_,List.getElem?_set_self (by rw[eS];exact hp),oB _ _ _ _⟩
  ·obtain⟨l,h3,h4⟩:=jr t L c j h1 (by omega)
   exact⟨l,by rw[List.getElem?_set_ne (Ne.symm hj)];exact h3,h4⟩
end Go.Proofs.Ytfmdmlfhigocaaa
