/- A part of the proof (O32 O33 O34 O35). -/
import Derived.Test.YtfmdmlfhigocaaaOF14
import Derived.Test.YtfmdmlfhigocaaaOF15
import Derived.Test.YtfmdmlfhigocaaaOF28
import Derived.Test.YtfmdmlfhigocaaaOF33
import Derived.Test.YtfmdmlfhigocaaaOF34
import Derived.Test.YtfmdmlfhigocaaaOF45
set_option linter.unusedSimpArgs false
set_option linter.unusedVariables false
set_option maxRecDepth 100000
set_option maxHeartbeats 80000000
namespace Go.Proofs.Ytfmdmlfhigocaaa
open Go.VL
structure jj where
 iN:Nat
 dn:List Int
def jj.cells (x:jj):List D:=[iD x.iN,ao x.dn]
structure fS where
 ad:List Nat
 cl:Bool
 rd:List jj
 gn:Nat
def fR (t:List Int) (Bs:List (List Bool)) (C:List av) (p:Nat):Nat->Nat->List Int->fS->fS
 |0,_,_,st=>st
 |k+1,n,rg,st =>
  if st.cl=true\/st.ad[n]?=none\/st.ad[n]?=some (p+1) then st else
  let jn:fS:=⟨st.ad.set n (p+1),st.cl,st.rd,st.gn⟩
  let i:=db C n
  if i.op=0\/i.op=1 then ⟨jn.ad,decide (i.op=0),jn.rd++[⟨n,rg⟩],jn.gn+1⟩
  else if i.op=2 then fR t Bs C p k i.y.toNat rg (fR t Bs C p k i.x.toNat rg jn)
  else if i.op=3 then fR t Bs C p k i.x.toNat rg jn
  else if i.op=4 then fR t Bs C p k (n+1) (rg.set i.n.toNat p) jn
  else if i.op=5 then (if i.pass t Bs p=true then fR t Bs C p k (n+1) rg jn else jn)
  else jn
section
variable (t:List Int) (Bs:List (List Bool)) (C:List av) (p:Nat) (c:Nat)
def jj.ok (x:jj):Prop:=x.dn.length=c/\x.iN<C.length/\((db C x.iN).op=0\/(db C x.iN).op=1)
def wm (st st':fS):Prop:=st'.ad.length=st.ad.length/\gl p st'.ad<=gl p st.ad/\st'.rd.length+gl p st'.ad<=st.rd.length+gl p st.ad/\∀e∈st'.rd,e∈st.rd\/e.ok C c
variable {C p c}
theorem wm.refl (st:fS):wm C p c st st:=⟨rfl,Nat.le_refl _,Nat.le_refl _,fun _ h=>.inl h⟩
theorem wm.trans {a b d:fS} (h:wm C p c a b) (k:wm C p c b d):wm C p c a d :=
 ⟨k.1.trans h.1,Nat.le_trans k.2.1 h.2.1,Nat.le_trans k.2.2.1 h.2.2.1,fun e he=>(k.2.2.2 e he).elim (fun h'=>h.2.2.2 e h') .inr⟩
variable (C p c)
theorem x6:∀(k n:Nat) (rg:List Int) (st:fS),rg.length=c->st.ad.length=C.length->wm C p c st (fR t Bs C p k n rg st)
 |0,_,_,st,_,_=>.refl st
 |k+1,n,rg,st,hr,hd=>by
  have ih:=x6 k
  rw[fR]
  split
  ·exact .refl st
  ·rename_i hk
   obtain⟨x,hx⟩:∃x,st.ad[n]?=some x:=by
    cases h:st.ad[n]? with
    |none=>exact absurd (.inr (.inl h)) hk
    |some x=>exact⟨x,rfl⟩
   have Li:x≠p+1:=fun h=>hk (.inr (.inr (by rw[hx,h])))
   have hn:=(List.getElem?_eq_some_iff.1 hx).1
   have hu:=uo hx Li
   have key:wm C p c st ⟨st.ad.set n (p+1),st.cl,st.rd,st.gn⟩:=⟨by simp,by simp only;omega,by simp only;omega,fun _ h=>.inl h⟩
   have np:(⟨st.ad.set n (p+1),st.cl,st.rd,st.gn⟩:fS).ad.length=C.length:=by simpa using hd
   simp only
   split
   ·rename_i h1
    refine⟨by simp,by simp only;omega,by simp only[List.length_append,List.length_singleton];omega,fun e he=>?_⟩
    rcases List.mem_append.1 he with h|h
    ·exact .inl h
    ·rw[List.mem_singleton.1 h];exact .inr ⟨hr,by simp only;omega,h1⟩
   split
   ·have k1:=ih (db C n).x.toNat rg _ hr np
    exact(key.trans k1).trans (ih _ _ _ hr (k1.1.trans np))
   split
   ·exact key.trans (ih _ _ _ hr np)
   split
   ·exact key.trans (ih _ _ _ (by simpa using hr) np)
   split
   ·split
    ·exact key.trans (ih _ _ _ hr np)
    ·exact key
   ·exact key
end
def dT (q:Nat) (l:List jj):VL.Obj:=⟨q,true,2,l.map fun x=>x.cells.map V.d⟩
def Ad (g N:Nat):V:=.cl (.func 63) [] [.rf 5 0 0 0,.rf 4 0 0 0,.bx (.so 2 g 0 N),.rf 6 0 0 0,.rf 8 0 0 0]
def mo (t:List Int) (root parts:D) (bg nb:Nat) (Bs:List (List Bool)) (g b a:Nat) (C:List av) (q:Nat) (st:fS):List VL.Obj :=
 [cV t root parts bg nb,ez bg Bs,cr g b a C,bd q st.ad,cK 3 q C.length,⟨0,true,1,[[bV st.cl]]⟩,cK 7 st.gn st.rd.length,dT st.gn st.rd,⟨0,true,1,[[Ad g C.length]]⟩]
def cH (g N n p:Nat) (rg:List Int):List V:=[i64 n,i64 p,.d (ao rg),.rf 5 0 0 0,.rf 4 0 0 0,.bx (.so 2 g 0 N),.rf 6 0 0 0,.rf 8 0 0 0]
theorem AW (ρ:List Nat) (q:Nat) (l:List jj):aP ρ (dT q l)=dT q l:=by
 unfold aP dT
 simp only[List.map_map]
 congr 1
theorem GM (aR:List Nat) (q:Nat) (l:List jj):eD aR (dT q l)=dT q l:=by
 unfold eD dT
 simp only[List.map_map]
 congr 1
theorem qj (n q:Nat) (l:List jj):aQ n (dT q l)=true:=by
 unfold aQ dT
 rw[List.all_eq_true]
 intro e he
 obtain⟨i,_,rfl⟩:=List.mem_map.1 he
 rfl
section
variable (t:List Int) (root parts:D) (bg nb:Nat) (Bs:List (List Bool)) (g b a:Nat) (C:List av) (q:Nat) (p:Nat) (c:Nat)
theorem Hg (st:fS):(mo t root parts bg nb Bs g b a C q st).map (aP [0,1,2,3,4,5,6,7,8])=mo t root parts bg nb Bs g b a C q st:=by
 simp only[mo,List.map_cons,List.map_nil,iI,er,lO,AW]
 simp [aP,cV,cK,Ad,aJ,aJ.go,bV]
theorem KE (st:fS):(mo t root parts bg nb Bs g b a C q st).all (aQ 9)=true:=by
 have:=fe 9 bg Bs
 simp only[mo,List.all_cons,List.all_nil,iP 9 _ _ _ (by omega),ll,qj,Bool.and_true]
 simp [aQ,cV,cK,Ad,ah,ah.go,bV,this]
def L7 (k:Nat):Prop:=∀(n:Nat) (rg:List Int) (st:fS),n<C.length->rg.length=c->st.ad.length=C.length->gl p st.ad<=k->st.rd.length+gl p st.ad<=C.length ->
 aq Try.prog 63 (cH g C.length n p rg) (mo t root parts bg nb Bs g b a C q st) fun v s=>v=.tu []/\s=mo t root parts bg nb Bs g b a C q (fR t Bs C p (k+1) n rg st)
def Bf:Prop:=∀n,n<C.length->(db C n).op=4->0<=(db C n).n/\(db C n).n<(c:Int)
variable {t root parts bg nb Bs g b a C q p c}
theorem AN {k n:Nat}{rg:List Int}{st:fS} (h:L7 t root parts bg nb Bs g b a C q p c k) (hn:n<C.length) (hc:rg.length=c) (h1:st.ad.length=C.length) (hu:gl p st.ad<=k) (hr:st.rd.length+gl p st.ad<=C.length) {tl:List VL.Obj}{K:V->List VL.Obj->Prop}
  (hk:K (.tu []) (mo t root parts bg nb Bs g b a C q (fR t Bs C p (k+1) n rg st)++tl)) :
  aq Try.prog 63 (cH g C.length n p rg) (mo t root parts bg nb Bs g b a C q st++tl) K:=by
 have zv:=Hg t root parts bg nb Bs g b a C q st
 refine dk [0,1,2,3,4,5,6,7,8] (h n rg st hn hc h1 hu hr) (by decide) rfl ?_ (by rfl) (by rfl) (KE t root parts bg nb Bs g b a C q st) (r':=.tu []) rfl ?_
 ·have h2:(mo t root parts bg nb Bs g b a C q st).map (fun o=>some (aP [0,1,2,3,4,5,6,7,8] o))=((mo t root parts bg nb Bs g b a C q st).map (aP [0,1,2,3,4,5,6,7,8])).map some:=by rw[List.map_map];rfl
  rw[h2,zv]
  rfl
 ·rw[Hg]
  exact hk
end
theorem Ck (l:List Int):∀e∈(l.map fun x=>[iD x]).map (fun x=>x.map V.d),e.length=1:=fun e he=>by
 obtain⟨x,hx,rfl⟩:=List.mem_map.1 he
 obtain⟨y,_,rfl⟩:=List.mem_map.1 hx
 rfl
theorem ye {P:Program}{f:FuncId}{args:List V}{s:List VL.Obj}{K:V->List VL.Obj->Prop}{x y:V} (ids:List Nat) (j:Nat) (hj:args[j]?=some x) (hf:bh (ca s ids).length (ca s ids) x=some y) (h:aq P f (args.set j y) (ca s ids) K):aq P f args s K:=by
 refine⟨h.1,fun σ w vals hI hl hv=>?_⟩
 obtain⟨hE,im⟩:=qq ids s hI
 refine(h.2 σ w vals im (by simpa using hl) fun i z hz=>?_).mono fun e w' ⟨u,v,σ',s',h1,h2,h3,h4,h5⟩=>⟨u,v,σ',s',h1,hE.trans h2,h3,h4,h5⟩
 rw[List.getElem?_set]at hz
 split at hz
 ·rename_i O5
  subst O5
  split at hz
  ·cases hz
   have:=lL im ((hv j x hj).aO hE) hf
   rwa [List.take_length]at this
  ·cases hz
 ·exact(hv i z hz).aO hE
section
variable (t:List Int) (root parts:D) (bg nb:Nat) (Bs:List (List Bool)) (g b a:Nat) (C:List av) (q:Nat) (p:Nat) (c:Nat)
theorem A6 (hg:lg t Bs C) (JR:Bf C c) (Gj:c<=100000) (ly:nb=Bs.length) (ht:t.length<=1000000) (hp:p<=t.length) (k:Nat) (IH:∀j,j+1=k->L7 t root parts bg nb Bs g b a C q p c j):L7 t root parts bg nb Bs g b a C q p c k:=by
 intro n rg st hn QN h1 hu Wi
 have Rc:=hg.len
 have fU:(n:Int)<(C.length:Int):=by omega
 have fl:(0:Int)<=(n:Int):=by omega
 have iA:n<st.ad.length:=by omega
 have pn:IntKind.i64.wrap ((p:Int)+1)=((p+1:Nat):Int):=by rw[br _ (by omega)];rfl
 have fP:=fe 9 bg Bs
 have iY:((cV t root parts bg nb).au.all fun e=>e.all (ah 9))=true:=rfl
 have ji:((C.map (av.cells b a)).all fun e=>e.all (ah 9))=true:=iP 9 g b a (by omega) C
 have EM:∀q l,((dT q l).au.all fun e=>e.all (ah 9))=true:=fun q l=>qj 9 q l
 have pf:∀l:List Nat,((l.map fun (x:Nat)=>[V.d (D.sc (Value.int IntKind.i64 (x:Int)))]).all fun e=>e.all (ah 9))=true:=fun l=>ll 9 0 l
 obtain⟨x,hx⟩:∃x,st.ad[n]?=some x:=⟨_,List.getElem?_eq_getElem iA⟩
 obtain⟨i,hi⟩:∃i,C[n]?=some i:=⟨_,List.getElem?_eq_getElem hn⟩
 have jh:db C n=i:=by unfold db;rw[List.getD_eq_getElem?_getD,hi];rfl
 cases iJ:st.cl with
 |true =>
  have hr:fR t Bs C p (k+1) n rg st=st:=by rw[fR,if_pos (.inl iJ)]
  rw[hr]
  unfold cH mo
  refine an Try.func63 rfl Try.ntmps63 Try.results63 rfl 9 25769810175 (by simp) (by simp) ?_
  simp only[zX,Nat.reduceShiftRight,Nat.reduceMod,Nat.reduceLT,Nat.reduceMul,Nat.reduceSub,Int.reduceToNat,Int.reduceNeg,Int.reduceLT,Int.reduceLE,Int.reduceEq,Nat.reduceEqDiff,Nat.reduceAdd,Nat.reduceLeDiff,reduceIte,reduceCtorEq,Nat.reduceBEq,i64,bV,iD,bD,cH,mo,bK,aG,cK,bd,Ad,cr,fU,fl,iA,hn,h1,Int.toNat_natCast,List.length_map,List.getElem?_map,hx,hi,Option.map_some,Nat.zero_add,av.cells,gI,iY,fP,ji,EM,pf,Bool.and_true,List.cons_append,List.nil_append,List.length_set,pn,iJ]
 |false =>
 by_cases M6:x=p+1
 ·subst M6
  have hr:fR t Bs C p (k+1) n rg st=st:=by rw[fR,if_pos (.inr (.inr hx))]
  rw[hr]
  unfold cH mo
  refine an Try.func63 rfl Try.ntmps63 Try.results63 rfl 9 25769810175 (by simp) (by simp) ?_
  simp only[zX,Nat.reduceShiftRight,Nat.reduceMod,Nat.reduceLT,Nat.reduceMul,Nat.reduceSub,Int.reduceToNat,Int.reduceNeg,Int.reduceLT,Int.reduceLE,Int.reduceEq,Nat.reduceEqDiff,Nat.reduceAdd,Nat.reduceLeDiff,reduceIte,reduceCtorEq,Nat.reduceBEq,i64,bV,iD,bD,cH,mo,bK,aG,cK,bd,Ad,cr,fU,fl,iA,hn,h1,Int.toNat_natCast,List.length_map,List.getElem?_map,hx,hi,Option.map_some,Nat.zero_add,av.cells,gI,iY,fP,ji,EM,pf,Bool.and_true,List.cons_append,List.nil_append,List.length_set,pn,iJ]
 have rO:((x:Int)=((p+1:Nat):Int))=False:=eq_false (by omega)
 have WR:=uo hx M6
 have Vm:=DM hx M6
 have DL:fR t Bs C p (k+1) n rg st=(let jn:fS:=⟨st.ad.set n (p+1),false,st.rd,st.gn⟩
  if i.op=0\/i.op=1 then ⟨jn.ad,decide (i.op=0),jn.rd++[⟨n,rg⟩],jn.gn+1⟩
  else if i.op=2 then fR t Bs C p k i.y.toNat rg (fR t Bs C p k i.x.toNat rg jn)
  else if i.op=3 then fR t Bs C p k i.x.toNat rg jn
  else if i.op=4 then fR t Bs C p k (n+1) (rg.set i.n.toNat p) jn
  else if i.op=5 then (if i.pass t Bs p=true then fR t Bs C p k (n+1) rg jn else jn)
  else jn):=by rw[fR,if_neg (by rw[hx,iJ];rintro (h|h|h) <;> simp at h;exact M6 h),jh,iJ]
 simp only at DL
 rw[DL]
 have hT:List.take st.rd.length (st.rd.map fun (x:jj)=>x.cells.map V.d)++[[V.d (iD n),V.d (ao rg)]]=(st.rd++[(⟨n,rg⟩:jj)]).map fun (x:jj)=>x.cells.map V.d:=by
  rw[List.take_of_length_le (by rw[List.length_map];exact Nat.le_refl _)];simp [jj.cells]
 have Tx:gl p st.ad<=st.ad.length:=List.countP_le_length
 by_cases o0:i.op=0
 ·simp only[o0,true_or,if_true]
  unfold cH mo
  refine an Try.func63 rfl Try.ntmps63 Try.results63 rfl 9 25769810175 (by simp) (by simp) ?_
  simp only[iD,ao]at hT
  simp only[zX,Nat.reduceShiftRight,Nat.reduceMod,Nat.reduceLT,Nat.reduceMul,Nat.reduceSub,Int.reduceToNat,Int.reduceNeg,Int.reduceLT,Int.reduceLE,Int.reduceEq,Nat.reduceEqDiff,Nat.reduceAdd,Nat.reduceLeDiff,reduceIte,reduceCtorEq,Nat.reduceBEq,i64,bV,iD,bD,cH,mo,bK,aG,cK,bd,Ad,cr,fU,fl,iA,hn,h1,Int.toNat_natCast,List.length_map,List.getElem?_map,hx,hi,Option.map_some,Nat.zero_add,av.cells,gI,iY,fP,ji,EM,pf,Bool.and_true,List.cons_append,List.nil_append,List.length_set,pn,iJ,rO,o0,dT,hT,ao]
  refine⟨fun e he=>by rw[List.mem_singleton.1 he];rfl,⟨Nat.le_refl _,by omega⟩,?_,?_⟩
  ·exact qj 9 0 _
  ·simp
 by_cases o1:i.op=1
 ·simp only[o1,or_true,if_true]
  unfold cH mo
  refine an Try.func63 rfl Try.ntmps63 Try.results63 rfl 9 25769810175 (by simp) (by simp) ?_
  simp only[iD,ao]at hT
  simp only[zX,Nat.reduceShiftRight,Nat.reduceMod,Nat.reduceLT,Nat.reduceMul,Nat.reduceSub,Int.reduceToNat,Int.reduceNeg,Int.reduceLT,Int.reduceLE,Int.reduceEq,Nat.reduceEqDiff,Nat.reduceAdd,Nat.reduceLeDiff,reduceIte,reduceCtorEq,Nat.reduceBEq,i64,bV,iD,bD,cH,mo,bK,aG,cK,bd,Ad,cr,fU,fl,iA,hn,h1,Int.toNat_natCast,List.length_map,List.getElem?_map,hx,hi,Option.map_some,Nat.zero_add,av.cells,gI,iY,fP,ji,EM,pf,Bool.and_true,List.cons_append,List.nil_append,List.length_set,pn,iJ,rO,o1,dT,hT,ao]
  refine⟨fun e he=>by rw[List.mem_singleton.1 he];rfl,⟨Nat.le_refl _,by omega⟩,?_,?_⟩
  ·exact qj 9 0 _
  ·simp
 rw[if_neg (by omega)]
 obtain⟨j,rfl⟩:∃j,k=j+1:=⟨k-1,by omega⟩
 have MA:=fun (m:Nat) (r:List Int) (hm:m<C.length) (hr:r.length=c) (tl:List VL.Obj) (K:V->List VL.Obj->Prop) hk=>AN (IH j rfl) (n:=m) (rg:=r) (st:=⟨st.ad.set n (p+1),false,st.rd,st.gn⟩) hm hr (by simpa using h1) (by simp only;omega) (by simp only;omega) (tl:=tl) (K:=K) hk
 have hlen:=fun m=>x6 t Bs C p c (j+1) m rg ⟨st.ad.set n (p+1),false,st.rd,st.gn⟩ QN (by simpa using h1)
 by_cases o3:i.op=3
 ·obtain⟨x0,x1⟩:=hg.jump n hn (by rw[jh];exact o3)
  rw[jh]at x0 x1
  obtain⟨X,hX⟩:∃X:Nat,i.x=X:=⟨i.x.toNat,by omega⟩
  have xc:X<C.length:=by omega
  have hc:=MA X rg xc QN [⟨0,true,5,[[i64 3,i64 X,i64 i.y,i64 i.n,bQ b a i.node]]⟩]
  simp only[o3,hX,Int.reduceEq,reduceIte,Int.toNat_natCast]
  generalize fR t Bs C p (j+1) X rg ⟨st.ad.set n (p+1),false,st.rd,st.gn⟩=R at *
  unfold cH mo at hc
  unfold cH mo
  refine an Try.func63 rfl Try.ntmps63 Try.results63 rfl 9 25769810175 (by simp) (by simp) ?_
  simp only[zX,Nat.reduceShiftRight,Nat.reduceMod,Nat.reduceLT,Nat.reduceMul,Nat.reduceSub,Int.reduceToNat,Int.reduceNeg,Int.reduceLT,Int.reduceLE,Int.reduceEq,Nat.reduceEqDiff,Nat.reduceAdd,Nat.reduceLeDiff,reduceIte,reduceCtorEq,Nat.reduceBEq,i64,bV,iD,bD,cH,mo,bK,aG,cK,bd,Ad,cr,fU,fl,iA,hn,h1,Int.toNat_natCast,List.length_map,List.getElem?_map,hx,hi,Option.map_some,Nat.zero_add,av.cells,gI,iY,fP,ji,EM,pf,Bool.and_true,List.cons_append,List.nil_append,List.length_set,pn,iJ,rO,o3,hX]
  refine hc _ ?_
  simp only[zX,Nat.reduceShiftRight,Nat.reduceMod,Nat.reduceLT,Nat.reduceMul,Nat.reduceSub,Int.reduceToNat,Int.reduceNeg,Int.reduceLT,Int.reduceLE,Int.reduceEq,Nat.reduceEqDiff,Nat.reduceAdd,Nat.reduceLeDiff,reduceIte,reduceCtorEq,Nat.reduceBEq,i64,bV,iD,bD,cH,mo,bK,aG,cK,bd,Ad,cr,fU,fl,iA,hn,h1,Int.toNat_natCast,List.length_map,List.getElem?_map,hx,hi,Option.map_some,Nat.zero_add,av.cells,gI,iY,fP,ji,EM,pf,Bool.and_true,List.cons_append,List.nil_append,List.length_set,pn,iJ,rO,o3,hX]
 by_cases o4:i.op=4
 ·have xc:=hg.next n hn (by rw[jh];exact .inr (.inl o4))
  obtain⟨s0,s1⟩:=JR n hn (by rw[jh];exact o4)
  rw[jh]at s0 s1
  obtain⟨N,hN⟩:∃N:Nat,i.n=N:=⟨i.n.toNat,by omega⟩
  have hw:IntKind.i64.wrap ((n:Int)+1)=((n+1:Nat):Int):=by rw[br _ (by omega)];rfl
  have w2:IntKind.i64.wrap ((N:Int)+1)=((N+1:Nat):Int):=by rw[br _ (by omega)];rfl
  have b0:(0:Int)<=(N:Int):=by omega
  have b1:(N:Int)<=(rg.length:Int):=by omega
  have b2:((N+1:Nat):Int)<=(rg.length:Int):=by omega
  have b3:(0:Int)<=((N+1:Nat):Int):=by omega
  have z3:List.take ((rg.length:Int)-((N+1:Nat):Int)).toNat (List.drop (N+1) (rg.map fun x=>[D.sc (.int .i64 x)]))=(rg.drop (N+1)).map fun x=>[D.sc (.int .i64 x)]:=by
   rw[<- List.map_drop,List.take_of_length_le (by simp;omega)]
  have z4:List.take N (rg.map fun x=>[D.sc (.int .i64 x)])=(rg.take N).map fun x=>[D.sc (.int .i64 x)]:=by rw[List.map_take]
  have eO:rg.set N (p:Int)=rg.take N++(p:Int)::rg.drop (N+1):=by
   rw[List.set_eq_take_append_cons_drop,if_pos (by omega)]
  have PI:(rg.drop (N+1)).length<=100000:=by simp;omega
  have Mw:(rg.take N).length<=100000:=by simp;omega
  simp only[o4,hN,Int.reduceEq,reduceIte,Int.toNat_natCast]
  have hc:=MA (n+1) (rg.set N (p:Int)) xc (by simpa using QN)
  generalize fR t Bs C p (j+1) (n+1) (rg.set N (p:Int)) ⟨st.ad.set n (p+1),false,st.rd,st.gn⟩=R at *
  unfold cH mo at hc
  unfold cH mo
  refine an Try.func63 rfl Try.ntmps63 Try.results63 rfl 9 25769810175 (by simp) (by simp) ?_
  simp only[zX,Nat.reduceShiftRight,Nat.reduceMod,Nat.reduceLT,Nat.reduceMul,Nat.reduceSub,Int.reduceToNat,Int.reduceNeg,Int.reduceLT,Int.reduceLE,Int.reduceEq,Nat.reduceEqDiff,Nat.reduceAdd,Nat.reduceLeDiff,reduceIte,reduceCtorEq,Nat.reduceBEq,i64,bV,iD,bD,cH,mo,bK,aG,cK,bd,Ad,cr,fU,fl,iA,hn,h1,Int.toNat_natCast,List.length_map,List.getElem?_map,hx,hi,Option.map_some,Nat.zero_add,av.cells,gI,iY,fP,ji,EM,pf,Bool.and_true,List.cons_append,List.nil_append,List.length_set,pn,iJ,rO,o4,hN,ao,b0,b1,Int.le_refl,z4,Int.sub_zero]
  refine⟨rfl,fun e he=>by rw[List.mem_singleton.1 he];rfl,?_⟩
  split
  ·rename_i heq
   cases heq
  refine⟨⟨by omega,fun e he=>by obtain⟨y,_,rfl⟩:=List.mem_map.1 he;rfl⟩,?_⟩
  refine ar mix [11] [(10,[10],[10])] (by rfl) ?_
  simp only[zX,Nat.reduceShiftRight,Nat.reduceMod,Nat.reduceLT,Nat.reduceMul,Nat.reduceSub,Int.reduceToNat,Int.reduceNeg,Int.reduceLT,Int.reduceLE,Int.reduceEq,Nat.reduceEqDiff,Nat.reduceAdd,Nat.reduceLeDiff,reduceIte,reduceCtorEq,Nat.reduceBEq,i64,bV,iD,bD,cH,mo,bK,aG,cK,bd,Ad,cr,fU,fl,iA,hn,h1,Int.toNat_natCast,List.length_map,List.getElem?_map,hx,hi,Option.map_some,Nat.zero_add,av.cells,gI,iY,fP,ji,EM,pf,Bool.and_true,List.cons_append,List.nil_append,List.length_set,pn,iJ,rO,o4,hN,ao,hw,w2,b2,b3,Int.le_refl,z3,z4]
  refine⟨.inr (fun e he=>by obtain⟨y,_,rfl⟩:=List.mem_map.1 he;rfl),rfl,Ck _,⟨by simp,by omega⟩,?_⟩
  refine eh (ye (y:=.d (ao (rg.set N (p:Int)))) [10] 2 rfl ?_ (hc [⟨0,true,5,[[i64 4,i64 i.x,i64 i.y,i64 N,bQ b a i.node]]⟩,⟨1,false,1,List.take ((List.take N rg).length+1) (List.map (fun x=>List.map V.d x) (List.map (fun x=>[D.sc (Value.int IntKind.i64 x)]) (List.take N rg))++[[V.d (D.sc (Value.int IntKind.i64 p))]])++List.map (fun x=>List.map V.d x) (List.map (fun x=>[D.sc (Value.int IntKind.i64 x)]) (List.drop (N+1) rg))⟩] _ ⟨rfl,rfl⟩)) ?_
  ·simp only[ca,bS,List.getElem?_cons_succ,List.getElem?_cons_zero,List.set_cons_succ,List.set_cons_zero,List.length_cons,List.length_nil]
   rw[nD (ds:=(rg.set N (p:Int)).map fun x=>[iD x]) (by rfl) ?_ ?_ (.inr rfl)]
   ·rw[List.drop_zero,List.take_of_length_le (by simp),List.take_of_length_le (by simp),eO]
    simp [iD]
   ·simp
  ·simp only[zX,Nat.reduceShiftRight,Nat.reduceMod,Nat.reduceLT,Nat.reduceMul,Nat.reduceSub,Int.reduceToNat,Int.reduceNeg,Int.reduceLT,Int.reduceLE,Int.reduceEq,Nat.reduceEqDiff,Nat.reduceAdd,Nat.reduceLeDiff,reduceIte,reduceCtorEq,Nat.reduceBEq,i64,bV,iD,bD,cH,mo,bK,aG,cK,bd,Ad,cr,fU,fl,iA,hn,h1,Int.toNat_natCast,List.length_map,List.getElem?_map,hx,hi,Option.map_some,Nat.zero_add,av.cells,gI,iY,fP,ji,EM,pf,Bool.and_true,List.cons_append,List.nil_append,List.length_set,pn,iJ,rO,o4,hN]
 by_cases o5:i.op=5
 ·obtain⟨Ns,ai,kU,zu,rQ,pg⟩:=nH t root parts bg nb Bs b a C hg ly ht hn (.inr (by rw[jh];exact o5)) p hp
  have xc:=hg.next n hn (by rw[jh];exact .inr (.inr o5))
  have hw:IntKind.i64.wrap ((n:Int)+1)=((n+1:Nat):Int):=by rw[br _ (by omega)];rfl
  rw[jh]at kU pg
  have hc:=MA (n+1) rg xc QN [⟨0,true,5,[[i64 5,i64 i.x,i64 i.y,i64 i.n,.cl (.func Ns) [] ai]]⟩]
  simp only[o5,Int.reduceEq,reduceIte]
  generalize i.pass t Bs p=y at *
  cases y with
  |true =>
   simp only[reduceIte]
   generalize fR t Bs C p (j+1) (n+1) rg ⟨st.ad.set n (p+1),false,st.rd,st.gn⟩=R at *
   unfold cH mo at hc
   unfold cH mo
   refine an Try.func63 rfl Try.ntmps63 Try.results63 rfl 9 25769810175 (by simp) (by simp) ?_
   simp only[zX,Nat.reduceShiftRight,Nat.reduceMod,Nat.reduceLT,Nat.reduceMul,Nat.reduceSub,Int.reduceToNat,Int.reduceNeg,Int.reduceLT,Int.reduceLE,Int.reduceEq,Nat.reduceEqDiff,Nat.reduceAdd,Nat.reduceLeDiff,reduceIte,reduceCtorEq,Nat.reduceBEq,i64,bV,iD,bD,cH,mo,bK,aG,cK,bd,Ad,cr,fU,fl,iA,hn,h1,Int.toNat_natCast,List.length_map,List.getElem?_map,hx,hi,Option.map_some,Nat.zero_add,av.cells,gI,iY,fP,ji,EM,pf,Bool.and_true,List.cons_append,List.nil_append,List.length_set,pn,iJ,rO,o5,kU,hw]
   refine dm t root parts bg nb Bs pg ?_ ?_ rfl rfl rfl ?_
   ·simp [aJ,i64,rQ]
   ·simp [ah,ah.go,i64,zu]
   simp only[zX,Nat.reduceShiftRight,Nat.reduceMod,Nat.reduceLT,Nat.reduceMul,Nat.reduceSub,Int.reduceToNat,Int.reduceNeg,Int.reduceLT,Int.reduceLE,Int.reduceEq,Nat.reduceEqDiff,Nat.reduceAdd,Nat.reduceLeDiff,reduceIte,reduceCtorEq,Nat.reduceBEq,i64,bV,iD,bD,cH,mo,bK,aG,cK,bd,Ad,cr,fU,fl,iA,hn,h1,Int.toNat_natCast,List.length_map,List.getElem?_map,hx,hi,Option.map_some,Nat.zero_add,av.cells,gI,iY,fP,ji,EM,pf,Bool.and_true,List.cons_append,List.nil_append,List.length_set,pn,iJ,rO,o5,kU,hw]
   refine hc _ ?_
   simp only[zX,Nat.reduceShiftRight,Nat.reduceMod,Nat.reduceLT,Nat.reduceMul,Nat.reduceSub,Int.reduceToNat,Int.reduceNeg,Int.reduceLT,Int.reduceLE,Int.reduceEq,Nat.reduceEqDiff,Nat.reduceAdd,Nat.reduceLeDiff,reduceIte,reduceCtorEq,Nat.reduceBEq,i64,bV,iD,bD,cH,mo,bK,aG,cK,bd,Ad,cr,fU,fl,iA,hn,h1,Int.toNat_natCast,List.length_map,List.getElem?_map,hx,hi,Option.map_some,Nat.zero_add,av.cells,gI,iY,fP,ji,EM,pf,Bool.and_true,List.cons_append,List.nil_append,List.length_set,pn,iJ,rO,o5,kU,hw]
  |false =>
   simp only[Bool.false_eq_true,reduceIte]
   unfold cH mo
   refine an Try.func63 rfl Try.ntmps63 Try.results63 rfl 9 25769810175 (by simp) (by simp) ?_
   simp only[zX,Nat.reduceShiftRight,Nat.reduceMod,Nat.reduceLT,Nat.reduceMul,Nat.reduceSub,Int.reduceToNat,Int.reduceNeg,Int.reduceLT,Int.reduceLE,Int.reduceEq,Nat.reduceEqDiff,Nat.reduceAdd,Nat.reduceLeDiff,reduceIte,reduceCtorEq,Nat.reduceBEq,i64,bV,iD,bD,cH,mo,bK,aG,cK,bd,Ad,cr,fU,fl,iA,hn,h1,Int.toNat_natCast,List.length_map,List.getElem?_map,hx,hi,Option.map_some,Nat.zero_add,av.cells,gI,iY,fP,ji,EM,pf,Bool.and_true,List.cons_append,List.nil_append,List.length_set,pn,iJ,rO,o5,kU]
   refine dm t root parts bg nb Bs pg ?_ ?_ rfl rfl rfl ?_
   ·simp [aJ,i64,rQ]
   ·simp [ah,ah.go,i64,zu]
   simp only[zX,Nat.reduceShiftRight,Nat.reduceMod,Nat.reduceLT,Nat.reduceMul,Nat.reduceSub,Int.reduceToNat,Int.reduceNeg,Int.reduceLT,Int.reduceLE,Int.reduceEq,Nat.reduceEqDiff,Nat.reduceAdd,Nat.reduceLeDiff,reduceIte,reduceCtorEq,Nat.reduceBEq,i64,bV,iD,bD,cH,mo,bK,aG,cK,bd,Ad,cr,fU,fl,iA,hn,h1,Int.toNat_natCast,List.length_map,List.getElem?_map,hx,hi,Option.map_some,Nat.zero_add,av.cells,gI,iY,fP,ji,EM,pf,Bool.and_true,List.cons_append,List.nil_append,List.length_set,pn,iJ,rO,o5,kU]
 by_cases o2:i.op=2
 ·obtain⟨x0,x1,y0,y1⟩:=hg.split n hn (by rw[jh];exact o2)
  rw[jh]at x0 x1 y0 y1
  obtain⟨X,hX⟩:∃X:Nat,i.x=X:=⟨i.x.toNat,by omega⟩
  obtain⟨Y,hY⟩:∃Y:Nat,i.y=Y:=⟨i.y.toNat,by omega⟩
  have xc:X<C.length:=by omega
  have SH:Y<C.length:=by omega
  have hc:=MA X rg xc QN [⟨0,true,5,[[i64 2,i64 X,i64 Y,i64 i.n,bQ b a i.node]]⟩]
  have hl:=hlen X
  simp only[o2,hX,hY,Int.reduceEq,reduceIte,Int.toNat_natCast]
  generalize fR t Bs C p (j+1) X rg ⟨st.ad.set n (p+1),false,st.rd,st.gn⟩=R at *
  obtain⟨l1,l2,l3,_⟩:=hl
  simp only[List.length_set]at l1 l2 l3
  have rQ:=fun (K:V->List VL.Obj->Prop) hk=>AN (IH j rfl) (n:=Y) (rg:=rg) (st:=R) SH QN (by omega) (by omega) (by omega) (tl:=[⟨0,true,5,[[i64 2,i64 X,i64 Y,i64 i.n,bQ b a i.node]]⟩]) (K:=K) hk
  generalize fR t Bs C p (j+1) Y rg R=R2 at *
  unfold cH mo at hc rQ
  unfold cH mo
  refine an Try.func63 rfl Try.ntmps63 Try.results63 rfl 9 25769810175 (by simp) (by simp) ?_
  simp only[zX,Nat.reduceShiftRight,Nat.reduceMod,Nat.reduceLT,Nat.reduceMul,Nat.reduceSub,Int.reduceToNat,Int.reduceNeg,Int.reduceLT,Int.reduceLE,Int.reduceEq,Nat.reduceEqDiff,Nat.reduceAdd,Nat.reduceLeDiff,reduceIte,reduceCtorEq,Nat.reduceBEq,i64,bV,iD,bD,cH,mo,bK,aG,cK,bd,Ad,cr,fU,fl,iA,hn,h1,Int.toNat_natCast,List.length_map,List.getElem?_map,hx,hi,Option.map_some,Nat.zero_add,av.cells,gI,iY,fP,ji,EM,pf,Bool.and_true,List.cons_append,List.nil_append,List.length_set,pn,iJ,rO,o2,hX,hY]
  refine hc _ ?_
  simp only[zX,Nat.reduceShiftRight,Nat.reduceMod,Nat.reduceLT,Nat.reduceMul,Nat.reduceSub,Int.reduceToNat,Int.reduceNeg,Int.reduceLT,Int.reduceLE,Int.reduceEq,Nat.reduceEqDiff,Nat.reduceAdd,Nat.reduceLeDiff,reduceIte,reduceCtorEq,Nat.reduceBEq,i64,bV,iD,bD,cH,mo,bK,aG,cK,bd,Ad,cr,fU,fl,iA,hn,h1,Int.toNat_natCast,List.length_map,List.getElem?_map,hx,hi,Option.map_some,Nat.zero_add,av.cells,gI,iY,fP,ji,EM,pf,Bool.and_true,List.cons_append,List.nil_append,List.length_set,pn,iJ,rO,o2,hX,hY]
  refine rQ _ ?_
  simp only[zX,Nat.reduceShiftRight,Nat.reduceMod,Nat.reduceLT,Nat.reduceMul,Nat.reduceSub,Int.reduceToNat,Int.reduceNeg,Int.reduceLT,Int.reduceLE,Int.reduceEq,Nat.reduceEqDiff,Nat.reduceAdd,Nat.reduceLeDiff,reduceIte,reduceCtorEq,Nat.reduceBEq,i64,bV,iD,bD,cH,mo,bK,aG,cK,bd,Ad,cr,fU,fl,iA,hn,h1,Int.toNat_natCast,List.length_map,List.getElem?_map,hx,hi,Option.map_some,Nat.zero_add,av.cells,gI,iY,fP,ji,EM,pf,Bool.and_true,List.cons_append,List.nil_append,List.length_set,pn,iJ,rO,o2,hX,hY]
 have Om:=hg.ops n hn
 rw[jh]at Om
 omega
theorem uR (hg:lg t Bs C) (JR:Bf C c) (Gj:c<=100000) (ly:nb=Bs.length) (ht:t.length<=1000000) (hp:p<=t.length):∀k,L7 t root parts bg nb Bs g b a C q p c k
 |0=>A6 t root parts bg nb Bs g b a C q p c hg JR Gj ly ht hp 0 (fun j h=>by omega)
 |k+1=>A6 t root parts bg nb Bs g b a C q p c hg JR Gj ly ht hp (k+1) (fun j h=>by
  have:j=k:=by omega
  subst this
  exact uR hg JR Gj ly ht hp j)
end
def QI (dn:List Int) (j:Nat):Int×Int :=
 if dn.getD (2*j) 0=-1\/dn.getD (2*j+1) 0=-1 then (-1,-1) else (dn.getD (2*j) 0,dn.getD (2*j+1) 0)
def Ia (c:Nat) (dn:List Int):aE:=(List.range c).map (QI dn)
theorem Ou {l:List Int}{i:Nat} (h:i<l.length):l[i]?=some (l.getD i 0):=by
 rw[List.getD,List.getElem?_eq_getElem h];rfl
def MF (st en:Int) (v:V):VL.Obj:=⟨0,true,3,[[i64 st,i64 en,v]]⟩
def HP:VL.Obj:=⟨0,true,3,[[i64 0,i64 0,.fu []]]⟩
def ER (c i:Nat) (dn:List Int):VL.Obj:=⟨0,true,2,(List.range i).map (fun j=>[i64 (QI dn j).1,i64 (QI dn j).2])++List.replicate (c-i) [i64 0,i64 0]⟩
theorem Nt {α:Type} (l:List α) (z:α) {c j:Nat} (hl:l.length=j) (h:j<c):(l++List.replicate (c-j) z)[j]?=some z:=by
 rw[List.getElem?_append_right (by omega)]
 simp [List.getElem?_replicate,hl]
 omega
theorem QF {α:Type} (l:List α) (z y:α) {c j:Nat} (hl:l.length=j) (h:j<c):((l++List.replicate (c-j) z).set j y)[j]?=some y :=
 List.getElem?_set_self (by simp;omega)
theorem Na {α:Type} (l:List α) (z y:α) {c j:Nat} (hl:l.length=j) (h:j<c):(l++List.replicate (c-j) z).set j y=(l++[y])++List.replicate (c-(j+1)) z:=by
 rw[List.set_append_right _ _ (by omega)]
 obtain⟨m,hm⟩:∃m,c-j=m+1:=⟨c-j-1,by omega⟩
 rw[hm,hl,Nat.sub_self,List.replicate_succ,List.set_cons_zero,List.append_assoc]
 have:c-(j+1)=m:=by omega
 rw[this]
 rfl
theorem Ip (c:Nat) (hc:c<=1000) (st en:Int) (dn:List Int) (hr:dn.length=2*c):ba Try.prog 64 [i64 st,i64 en,.d (ao dn)] (lQ.mk st en (Ia c dn)).v:=by
 have w0:Int.tdiv (dn.length:Int) 2=(c:Int):=by rw[hr,Int.tdiv_eq_ediv_of_nonneg (by omega)];omega
 have Q0:IntKind.i64.wrap (c:Int)=(c:Int):=br _ (by omega)
 refine an Try.func64 rfl Try.ntmps64 Try.results64 rfl 0 786887 (by simp) (by simp) ?_
 simp only[zX,Nat.reduceShiftRight,Nat.reduceMod,Nat.reduceLT,Nat.reduceMul,Nat.reduceSub,Int.reduceToNat,Int.reduceNeg,Int.reduceLT,Int.reduceLE,Int.reduceEq,Nat.reduceEqDiff,Nat.reduceAdd,Nat.reduceLeDiff,reduceIte,reduceCtorEq,Nat.reduceBEq,i64,bV,iD,bD,ao,List.length_map,w0,Q0]
 refine⟨by omega,?_⟩
 refine ay (fun n e s=>∃j:Nat,n=c-j/\j<=c/\e 2=.d (ao dn)/\e 6=.rf 0 0 0 0/\e 7=.rf 2 0 0 0/\e 18=i64 c/\e 19=i64 j/\s=[HP,ER c j dn,MF st en (.so 1 0 0 c)])
  ⟨_,_,_,bI.refl,0,rfl,by omega,rfl,rfl,rfl,rfl,rfl,by simp [HP,ER,MF,i64]⟩ ?_
 rintro n e s ⟨j,rfl,hj,h2,h6,h7,iV,js,rfl⟩
 rcases Nat.lt_or_ge j c with az|ib
 ·have aK:(j:Int)<c:=by omega
  have w1:IntKind.i64.wrap (2*(j:Int))=((2*j:Nat):Int):=by rw[br _ (by omega)];omega
  have w2:IntKind.i64.wrap (((2*j:Nat):Int)+1)=((2*j+1:Nat):Int):=by rw[br _ (by omega)];omega
  have c1:((2*j+1:Nat):Int)<(dn.length:Int):=by omega
  have c2:((2*j:Nat):Int)<(dn.length:Int):=by omega
  have c3:(0:Int)<=((2*j:Nat):Int):=by omega
  have c4:(0:Int)<=((2*j+1:Nat):Int):=by omega
  have g1:=Ou (l:=dn) (i:=2*j) (by omega)
  have g2:=Ou (l:=dn) (i:=2*j+1) (by omega)
  have hP:QI dn j=if dn.getD (2*j) 0=-1\/dn.getD (2*j+1) 0=-1 then (-1,-1) else (dn.getD (2*j) 0,dn.getD (2*j+1) 0):=rfl
  generalize dn.getD (2*j) 0=a at *
  generalize dn.getD (2*j+1) 0=b at *
  simp only[ao]at h2
  have FG:((List.range j).map (fun j=>[V.d (.sc (.int .i64 (QI dn j).1)),V.d (.sc (.int .i64 (QI dn j).2))])).length=j:=by simp
  have fm:=Nt _ [V.d (.sc (.int .i64 0)),V.d (.sc (.int .i64 0))] FG az
  have eO:=fun y=>Na _ [V.d (.sc (.int .i64 0)),V.d (.sc (.int .i64 0))] y FG az
  have Em:=fun y=>QF _ [V.d (.sc (.int .i64 0)),V.d (.sc (.int .i64 0))] y FG az
  by_cases ha:a=-1
  ·have Ln:=eq_true ha
   simp only[zX,Nat.reduceShiftRight,Nat.reduceMod,Nat.reduceLT,Nat.reduceMul,Nat.reduceSub,Int.reduceToNat,Int.reduceNeg,Int.reduceLT,Int.reduceLE,Int.reduceEq,Nat.reduceEqDiff,Nat.reduceAdd,Nat.reduceLeDiff,reduceIte,reduceCtorEq,Nat.reduceBEq,i64,bV,iD,bD,h2,h6,h7,iV,js,aK,w1,w2,c1,c2,c3,c4,g1,g2,Ln,HP,ER,MF,ao,fm,Nat.zero_add,Int.natCast_nonneg,Int.toNat_natCast,List.length_map,ne_eq,not_true_eq_false,not_false_eq_true]
   refine⟨c-(j+1),_,_,by omega,bI.refl,j+1,rfl,az,?_,?_,?_,?_,?_,?_⟩ <;> (try simp only[zU,Nat.reduceBEq,Nat.reduceShiftRight,Nat.reduceMod,Nat.reduceEqDiff,reduceIte])
   ·exact h2
   ·exact h6
   ·exact h7
   ·exact iV
   ·rw[br _ (by omega)];rfl
   ·rw[eO];simp [hP,ha,List.range_succ]
  ·by_cases hb:b=-1
   ·have JT:=eq_true hb
    simp only[zX,Nat.reduceShiftRight,Nat.reduceMod,Nat.reduceLT,Nat.reduceMul,Nat.reduceSub,Int.reduceToNat,Int.reduceNeg,Int.reduceLT,Int.reduceLE,Int.reduceEq,Nat.reduceEqDiff,Nat.reduceAdd,Nat.reduceLeDiff,reduceIte,reduceCtorEq,Nat.reduceBEq,i64,bV,iD,bD,h2,h6,h7,iV,js,aK,w1,w2,c1,c2,c3,c4,g1,g2,ha,JT,HP,ER,MF,ao,fm,Nat.zero_add,Int.natCast_nonneg,Int.toNat_natCast,List.length_map,ne_eq,not_true_eq_false,not_false_eq_true]
    refine⟨c-(j+1),_,_,by omega,bI.refl,j+1,rfl,az,?_,?_,?_,?_,?_,?_⟩ <;> (try simp only[zU,Nat.reduceBEq,Nat.reduceShiftRight,Nat.reduceMod,Nat.reduceEqDiff,reduceIte])
    ·exact h2
    ·exact h6
    ·exact h7
    ·exact iV
    ·rw[br _ (by omega)];rfl
    ·rw[eO];simp [hP,ha,hb,List.range_succ]
   ·simp only[zX,Nat.reduceShiftRight,Nat.reduceMod,Nat.reduceLT,Nat.reduceMul,Nat.reduceSub,Int.reduceToNat,Int.reduceNeg,Int.reduceLT,Int.reduceLE,Int.reduceEq,Nat.reduceEqDiff,Nat.reduceAdd,Nat.reduceLeDiff,reduceIte,reduceCtorEq,Nat.reduceBEq,i64,bV,iD,bD,h2,h6,h7,iV,js,aK,w1,w2,c1,c2,c3,c4,g1,g2,ha,hb,HP,ER,MF,ao,fm,Nat.zero_add,Int.natCast_nonneg,Int.toNat_natCast,List.length_map,ne_eq,not_true_eq_false,not_false_eq_true]
    refine ar mix [16] [] (by rfl) ?_
    simp only[zX,Nat.reduceShiftRight,Nat.reduceMod,Nat.reduceLT,Nat.reduceMul,Nat.reduceSub,Int.reduceToNat,Int.reduceNeg,Int.reduceLT,Int.reduceLE,Int.reduceEq,Nat.reduceEqDiff,Nat.reduceAdd,Nat.reduceLeDiff,reduceIte,reduceCtorEq,Nat.reduceBEq,Em,i64,bV,iD,bD,h2,h6,h7,iV,js,aK,w1,w2,c1,c2,c3,c4,g1,g2,ha,hb,HP,ER,MF,ao,fm,Nat.zero_add,Int.natCast_nonneg,Int.toNat_natCast,List.length_map,ne_eq,not_true_eq_false,not_false_eq_true]
    refine⟨c-(j+1),_,_,by omega,bI.refl,j+1,rfl,az,?_,?_,?_,?_,?_,?_⟩ <;> (try simp only[zU,Nat.reduceBEq,Nat.reduceShiftRight,Nat.reduceMod,Nat.reduceEqDiff,reduceIte])
    ·exact h2
    ·exact h6
    ·exact h7
    ·exact iV
    ·rw[br _ (by omega)];rfl
    ·rw[List.set_set,eO];simp [hP,ha,hb,List.range_succ]
 ·have Lb:j=c:=by omega
  subst Lb
  have aK:¬(j:Int)<j:=by omega
  have Ue:ER j j dn=⟨0,true,2,((Ia j dn).map aV).map fun x=>x.map V.d⟩:=by
   simp [ER,Ia,aV,iD,i64]
  simp only[zX,Nat.reduceShiftRight,Nat.reduceMod,Nat.reduceLT,Nat.reduceMul,Nat.reduceSub,Int.reduceToNat,Int.reduceNeg,Int.reduceLT,Int.reduceLE,Int.reduceEq,Nat.reduceEqDiff,Nat.reduceAdd,Nat.reduceLeDiff,reduceIte,reduceCtorEq,Nat.reduceBEq,i64,bV,iD,h2,h6,h7,iV,js,aK,HP,Ue,MF]
  rw[kK 7 0 _ _ _ (by simp [Ia]),if_pos (by simp [Ia])]
  rfl
section
variable (t:List Int) (Bs:List (List Bool)) (C:List av)
def jQ (p:Nat) (st:fS) (x:jj):fS:=if (db C x.iN).op=1/\(db C x.iN).pass t Bs p=true then fR t Bs C (p+1) (C.length+1) (x.iN+1) x.dn st else st
def iW (p:Nat) (l:List jj) (st:fS):fS:=l.foldl (jQ t Bs C p) st
def yZ (b p c:Nat) (st:fS) (ga:Option lQ):Option lQ:=if st.cl=true then some ⟨b,p,Ia c (st.rd.getLastD ⟨0,[]⟩).dn⟩ else ga
def pS (b c:Nat):Nat->Nat->fS->Nat->Option lQ->Option lQ×List Nat
 |0,_,st,_,ga=>(ga,st.ad)
 |k+1,p,st,gb,ga=>if st.rd=[] then (ga,st.ad) else pS b c k (p+1) (iW t Bs C p st.rd ⟨st.ad,false,[],gb⟩) st.gn (yZ b p c st ga)
def lz (c:Nat):List Int:=List.replicate (2*c) (-1)
def uF (p c:Nat):fS:=fR t Bs C p (C.length+1) 0 (lz c) ⟨List.replicate C.length 0,false,[],0⟩
def fY (p c:Nat):Option lQ×List Nat:=pS t Bs C p c (t.length+2-p) p (uF t Bs C p c) 0 none
def Lx (r:Option lQ):lQ:=r.getD ⟨0,0,[]⟩
variable {t Bs C}
theorem yQ (p:Nat) (l:List jj) (x:jj) (st:fS):iW t Bs C p (l++[x]) st=jQ t Bs C p (iW t Bs C p l st) x:=by
 unfold iW;rw[List.foldl_append];rfl
structure rY (C:List av) (c:Nat) (st:fS):Prop where
 ad:st.ad.length=C.length
 th:∀x∈st.rd,x.ok C (2*c)
 last:st.cl=true->st.rd≠[]
def jU (C:List av) (p:Nat) (st:fS):Prop:=st.rd.length+gl p st.ad<=C.length
theorem Aj (p:Nat):∀(k n:Nat) (rg:List Int) (st:fS),(st.cl=true->st.rd≠[])->((fR t Bs C p k n rg st).cl=true->(fR t Bs C p k n rg st).rd≠[])
 |0,_,_,st,h=>h
 |k+1,n,rg,st,h=>by
  have ih:=Aj p k
  rw[fR]
  split
  ·exact h
  simp only
  split
  ·intro _;simp
  split
  ·exact ih _ _ _ (ih _ _ _ h)
  split
  ·exact ih _ _ _ h
  split
  ·exact ih _ _ _ h
  split
  ·split
   ·exact ih _ _ _ h
   ·exact h
  ·exact h
theorem vG {c p k n:Nat}{rg:List Int}{st:fS} (h:rY C c st) (hn:jU C p st) (hr:rg.length=2*c):rY C c (fR t Bs C p k n rg st)/\jU C p (fR t Bs C p k n rg st):=by
 obtain⟨l1,l2,l3,l4⟩:=x6 t Bs C p (2*c) k n rg st hr h.ad
 refine⟨⟨l1.trans h.ad,fun x hx=>(l4 x hx).elim (h.th x) id,Aj p k n rg st h.last⟩,?_⟩
 unfold jU at *
 omega
theorem GJ {c p:Nat}{st:fS}{x:jj} (hx:x.ok C (2*c)) (h:rY C c st) (hn:jU C (p+1) st):rY C c (jQ t Bs C p st x)/\jU C (p+1) (jQ t Bs C p st x):=by
 unfold jQ
 split
 ·exact vG h hn hx.1
 ·exact⟨h,hn⟩
theorem oA {c p:Nat}:∀(l:List jj) (st:fS),(∀x∈l,x.ok C (2*c))->rY C c st->jU C (p+1) st->rY C c (iW t Bs C p l st)/\jU C (p+1) (iW t Bs C p l st)
 |[],st,_,h,hn=>⟨h,hn⟩
 |x::l,st,hl,h,hn=>by
  obtain⟨k1,k2⟩:=GJ (t:=t) (Bs:=Bs) (hl x (by simp)) h hn
  exact oA l _ (fun y hy=>hl y (by simp [hy])) k1 k2
theorem Cc (hg:lg t Bs C) {n p:Nat} (hn:n<C.length) (ho:(db C n).op=1) (h:(db C n).pass t Bs p=true):p<t.length:=by
 obtain⟨re,k,h1,h2,_⟩:=hg.set n hn ho
 unfold av.pass at h
 rw[h1]at h
 simp only[h2,if_true,Bool.and_eq_true,decide_eq_true_eq]at h
 omega
theorem II (hg:lg t Bs C) {c p:Nat}{st:fS}{x:jj} (hx:x.ok C (2*c)) (hp:t.length<=p):jQ t Bs C p st x=st:=by
 unfold jQ
 rw[if_neg]
 rintro ⟨h1,h2⟩
 have:=Cc hg hx.2.1 h1 h2
 omega
theorem vY (hg:lg t Bs C) {c p:Nat} (hp:t.length<=p):∀(l:List jj) (st:fS),(∀x∈l,x.ok C (2*c))->iW t Bs C p l st=st
 |[],_,_=>rfl
 |x::l,st,hl=>by
  show iW t Bs C p l (jQ t Bs C p st x)=st
  rw[II hg (hl x (by simp)) hp]
  exact vY hg hp l st fun y hy=>hl y (by simp [hy])
end
theorem Lp {P:Program}{f:FuncId}{args:List V}{s:List VL.Obj}{K:V->List VL.Obj->Prop}{o:VL.Obj}{pre post:List V} (k sz:Nat) (ho:s[k]?=some o) (fv:o.au=[pre++.fu []::post]) (fo:pre.length+1+post.length=o.sz)
  (h:aq P f args (s.set k { o with au:=[pre++.so s.length 0 0 0::post] }++[⟨0,true,sz,[]⟩]) K):aq P f args s K:=by
 refine⟨h.1,fun σ w vals hI hl hv=>?_⟩
 obtain⟨σ',h1,h2⟩:=yp hI k sz ho fv fo
 exact(h.2 σ' w vals h2 hl (fun i x hx=>(hv i x hx).aO h1)).mono fun _ _ ⟨u,v,SX,s',a,b,c,d,e⟩=>⟨u,v,SX,s',a,h1.trans b,c,d,e⟩
def JX (b:Bool):VL.Obj:=⟨0,true,1,[[bV b]]⟩
def oh (g N a3 a4 a5 a6:Nat):VL.Obj:=⟨0,true,1,[[.cl (.func 63) [] [.rf a3 0 0 0,.rf a4 0 0 0,.bx (.so 2 g 0 N),.rf a5 0 0 0,.rf a6 0 0 0]]]⟩
section
variable {t:List Int}{root parts:D}{bg nb:Nat}{Bs:List (List Bool)}{g b a:Nat}{C:List av}{q p c:Nat}
theorem vl {k n:Nat}{rg:List Int}{st:fS} (h:L7 t root parts bg nb Bs g b a C q p c k) (hn:n<C.length) (hc:rg.length=c) (h1:st.ad.length=C.length) (hu:gl p st.ad<=k) (hr:st.rd.length+gl p st.ad<=C.length) {s:List VL.Obj}{K:V->List VL.Obj->Prop}
  (a4 a5 a6 a7 a8:Nat) (uA:[0,1,2,3,a4,a5,a6,a7,a8].Nodup) (s0:s[0]?=some (cV t root parts bg nb)) (s1:s[1]?=some (ez bg Bs)) (s2:s[2]?=some (cr g b a C)) (s3:s[3]?=some (bd q st.ad)) (s4:s[a4]?=some (cK 3 q C.length)) (s5:s[a5]?=some (JX st.cl)) (s6:s[a6]?=some (cK a7 st.gn st.rd.length)) (s7:s[a7]?=some (dT st.gn st.rd)) (s8:s[a8]?=some (oh g C.length a5 a4 a6 a8))
  {R:fS} (hR:R=fR t Bs C p (k+1) n rg st)
  (hk:K (.tu []) (((((((((s.set 0 (cV t root parts bg nb)).set 1 (ez bg Bs)).set 2 (cr g b a C)).set 3 (bd q R.ad)).set a4 (cK 3 q C.length)).set a5 (JX R.cl)).set a6 (cK a7 R.gn R.rd.length)).set a7 (dT R.gn R.rd)).set a8 (oh g C.length a5 a4 a6 a8))) :
  aq Try.prog 63 [i64 n,i64 p,.d (ao rg),.rf a5 0 0 0,.rf a4 0 0 0,.bx (.so 2 g 0 C.length),.rf a6 0 0 0,.rf a8 0 0 0] s K:=by
 subst hR
 have zv:∀st,(mo t root parts bg nb Bs g b a C q st).map (aP [0,1,2,3,a4,a5,a6,a7,a8])=[cV t root parts bg nb,ez bg Bs,cr g b a C,bd q st.ad,cK 3 q C.length,JX st.cl,cK a7 st.gn st.rd.length,dT st.gn st.rd,oh g C.length a5 a4 a6 a8]:=by
  intro st
  simp only[mo,List.map_cons,List.map_nil,iI,er,lO,AW]
  simp [aP,cV,cK,Ad,aJ,aJ.go,bV,JX,oh]
 refine dk [0,1,2,3,a4,a5,a6,a7,a8] (h n rg st hn hc h1 hu hr) uA rfl ?_ (by simp [cH,aJ,aJ.go,i64]) (by rfl) (KE t root parts bg nb Bs g b a C q st) (r':=.tu []) rfl ?_
 ·have h3:(mo t root parts bg nb Bs g b a C q st).map (fun o=>some (aP [0,1,2,3,a4,a5,a6,a7,a8] o))=((mo t root parts bg nb Bs g b a C q st).map (aP [0,1,2,3,a4,a5,a6,a7,a8])).map some:=by rw[List.map_map];rfl
  rw[h3,zv]
  simp only[List.map_cons,List.map_nil,s0,s1,s2,s3,s4,s5,s6,s7,s8]
 ·rw[zv]
  exact hk
end
end Go.Proofs.Ytfmdmlfhigocaaa
