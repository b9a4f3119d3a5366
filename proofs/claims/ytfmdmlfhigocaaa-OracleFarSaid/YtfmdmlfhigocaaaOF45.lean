/- A part of the proof (O30 O31). -/
import Derived.Test.YtfmdmlfhigocaaaOF44
set_option linter.unusedSimpArgs false
set_option linter.unusedVariables false
set_option maxRecDepth 100000
set_option maxHeartbeats 80000000
namespace Go.Proofs.Ytfmdmlfhigocaaa
open Go.VL
theorem I9 (p:jl) (t:List Int) (hf:p.re.dG=true) (h:dE p t=0) :
  aq Try.prog 27 [bL p,.d (ao t)] [] fun v s=>v=.tu [.rf 0 0 0 0,i64 0]/\s=[cV t (p.re.aY 0) (dp (p.re.bU 0)) 0 (p.re.bU 0).length,ez 0 (aW t (p.re.bU 0) (p.re.bU 0).length)]:=by
 obtain⟨a1,a2,a3⟩:=wB h
 obtain⟨b1,b2,b3⟩:=As a1
 obtain⟨v1,v2,v3,v4,v5⟩:=gx b1
 have JL:=qO v4 p.re v5 v1
 have hsh:p.re.every BL=true:=by unfold pM at b3;exact(Bool.and_eq_true_iff.1 b3).2
 have Ew:=Hd p.re
 have h1:=mQ p hf
 rw[a1]at h1
 have CO:=MV p.re JL hsh 0
 have sK:=L1 t (.sc (.pointer none)) p.re JL 0 [] (by simp;omega)
 have YZ:=Re.qR p.re 0
 have Wd:=Re.Bv p.re 0
 rw[List.length_nil,List.nil_append,Nat.zero_add,Wd,List.length_map]at sK
 clear JL hsh b2 b3 Wd v2 v3 v5 b1 a1 h
 cases p with
 |mk re ai aU =>
 simp only at *
 generalize re.bU 0=L at *
 rw[<- YZ]at CO Ew sK
 generalize re.aY 0=ej at *
 simp only[bL,Re.ae,List.map_cons,List.map_nil,List.cons_append,List.nil_append,i64,iD,bD,bV]at h1
 have yF:¬(65536:Int)<(t.length:Int):=by omega
 have gZ:=a3
 obtain⟨ru,uQ⟩:∃ru,aU=ru:=⟨_,rfl⟩
 cases ru with
 |true =>
  refine BU Try.func27 rfl Try.ntmps27 Try.results27 rfl 0 62307562302417931542365956185554679 (by simp) (by simp) ?_
  simp only[zX,Nat.reduceShiftRight,Nat.reduceMod,Nat.reduceLT,Nat.reduceMul,Nat.reduceSub,Int.reduceToNat,Int.reduceNeg,Int.reduceLT,Int.reduceLE,Int.reduceEq,Nat.reduceEqDiff,Nat.reduceAdd,Nat.reduceLeDiff,reduceIte,reduceCtorEq,Nat.reduceBEq,i64,bL,Re.ae,bV,iD,bD,ao]
  refine al h1 rfl rfl ?_
  simp only[zX,Nat.reduceShiftRight,Nat.reduceMod,Nat.reduceLT,Nat.reduceMul,Nat.reduceSub,Int.reduceToNat,Int.reduceNeg,Int.reduceLT,Int.reduceLE,Int.reduceEq,Nat.reduceEqDiff,Nat.reduceAdd,Nat.reduceLeDiff,reduceIte,reduceCtorEq,Nat.reduceBEq,i64,bL,Re.ae,bV,iD,bD,ne_eq,not_true_eq_false,List.length_map,yF,gt_iff_lt,uQ]
  refine ay (fun n e s=>∃i:Nat,n=t.length-i/\i<=t.length/\e 1=.d (ao t)/\e 2=.rf 0 0 0 0/\e 7=i64 (fB aU)/\e 25=.d (ao t)/\e 26=i64 t.length/\e 27=i64 i/\(t.take i).all (eH aU)=true/\s=[⟨0,true,10,[re.cells.map .d++[i64 ai,bV aU]]⟩])
   ⟨_,_,_,bI.refl,0,rfl,by omega,rfl,rfl,by subst uQ;rfl,rfl,by first|rfl|(rw[List.length_map];rfl),rfl,by simp,by subst uQ;simp [Re.ae re,iD,bD,bV,i64]⟩ ?_
  rintro n e s ⟨i,rfl,hi,q1,q2,q7,CA,tp,zG,bM,rfl⟩
  have ng:e 25=.d (.sl (t.map fun x=>[iD x])):=CA
  rcases Nat.lt_or_ge i t.length with az|ib
  ·obtain⟨x,hx⟩:∃x,t[i]?=some x:=⟨_,List.getElem?_eq_getElem az⟩
   have aK:(i:Int)<(t.length:Int):=by omega
   have hi0:(0:Int)<=(i:Int):=by omega
   have hT:=bt hx
   by_cases c1:x<0
   ·have kL:t.all (eH aU)=false:=all_false hx (by simp [eH];omega)
    simp only[zX,Nat.reduceShiftRight,Nat.reduceMod,Nat.reduceLT,Nat.reduceMul,Nat.reduceSub,Int.reduceToNat,Int.reduceNeg,Int.reduceLT,Int.reduceLE,Int.reduceEq,Nat.reduceEqDiff,Nat.reduceAdd,Nat.reduceLeDiff,reduceIte,reduceCtorEq,Nat.reduceBEq,i64,iD,bD,bV,Re.ae re,List.map_cons,List.map_nil,q1,q2,q7,ng,tp,zG,aK,hi0,az,hx,List.length_map,List.getElem?_map,Option.map_some,Int.toNat_natCast,c1]
    first|(rw[gZ]at kL;cases kL;done)|(all_goals rfl)
   ·by_cases c2:fB aU<x
    ·have kL:t.all (eH aU)=false:=all_false hx (by simp [eH];omega)
     simp only[zX,Nat.reduceShiftRight,Nat.reduceMod,Nat.reduceLT,Nat.reduceMul,Nat.reduceSub,Int.reduceToNat,Int.reduceNeg,Int.reduceLT,Int.reduceLE,Int.reduceEq,Nat.reduceEqDiff,Nat.reduceAdd,Nat.reduceLeDiff,reduceIte,reduceCtorEq,Nat.reduceBEq,i64,iD,bD,bV,Re.ae re,List.map_cons,List.map_nil,q1,q2,q7,ng,tp,zG,aK,hi0,az,hx,List.length_map,List.getElem?_map,Option.map_some,Int.toNat_natCast,c1,c2,gt_iff_lt]
     first|(rw[gZ]at kL;cases kL;done)|(all_goals rfl)
    ·simp only[zX,Nat.reduceShiftRight,Nat.reduceMod,Nat.reduceLT,Nat.reduceMul,Nat.reduceSub,Int.reduceToNat,Int.reduceNeg,Int.reduceLT,Int.reduceLE,Int.reduceEq,Nat.reduceEqDiff,Nat.reduceAdd,Nat.reduceLeDiff,reduceIte,reduceCtorEq,Nat.reduceBEq,i64,iD,bD,bV,Re.ae re,List.map_cons,List.map_nil,q1,q2,q7,ng,tp,zG,aK,hi0,az,hx,List.length_map,List.getElem?_map,Option.map_some,Int.toNat_natCast,c1,c2,gt_iff_lt]
     refine⟨t.length-(i+1),_,_,by omega,bI.refl,i+1,rfl,az,?_,?_,?_,?_,?_,?_,?_,by simp [Re.ae re,iD,bD,bV,i64]⟩ <;> (try simp only[zU,Nat.reduceBEq,Nat.reduceShiftRight,Nat.reduceMod,Nat.reduceEqDiff,reduceIte])
     ·exact q1
     ·exact q2
     ·exact q7
     ·exact CA
     ·exact tp
     ·rw[br _ (by omega)];rfl
     ·rw[hT,List.all_append,bM];simp [eH];omega
  ·have eQ:i=t.length:=by omega
   subst eQ
   simp only[zX,Nat.reduceShiftRight,Nat.reduceMod,Nat.reduceLT,Nat.reduceMul,Nat.reduceSub,Int.reduceToNat,Int.reduceNeg,Int.reduceLT,Int.reduceLE,Int.reduceEq,Nat.reduceEqDiff,Nat.reduceAdd,Nat.reduceLeDiff,reduceIte,reduceCtorEq,Nat.reduceBEq,i64,iD,bD,bV,Re.ae re,List.map_cons,List.map_nil,q1,q2,q7,ng,tp,zG,Int.lt_irrefl,ao]
   refine fM (pre:=[.d (.sl (t.map fun x=>[D.sc (Value.int IntKind.i64 x)])),.d (.sc (.pointer none))]) (post:=[.fu []]) 1 1 rfl rfl rfl ?_
   refine EU (pre:=[.d (.sl (t.map fun x=>[D.sc (Value.int IntKind.i64 x)])),.d (.sc (.pointer none)),.so 2 0 0 0]) (post:=[]) 1 rfl rfl rfl ?_
   rw[aj]at sK
   simp only[iD,bD]at sK
   refine dk [1,2] sK (by decide) rfl ?_ ?_ ?_ ?_ (r':=.d ej) rfl ?_
   ·have e0:aP [1,2] (gM t (.sc (.pointer none)) 0 0)=⟨0,true,4,[[.d (ao t),.d (.sc (.pointer none)),.so 2 0 0 0,.d (.sl [])]]⟩:=by simp [aP,gM,aJ,aJ.go]
    simp only[List.map_cons,List.map_nil,List.length_nil,e0,iB]
    rfl
   ·simp [aJ,aJ.go]
   ·simp [ah,ah.go]
   ·have e3:aQ 2 (gM t (.sc (.pointer none)) 0 0)=true:=by simp [gM,aQ,ah]
    simp only[List.all_cons,List.all_nil,List.length_cons,List.length_nil,Nat.zero_add,Nat.reduceAdd,e3,ky,Bool.and_self]
   have e0:∀G n,aP [1,2] (gM t (.sc (.pointer none)) G n)=⟨0,true,4,[[.d (ao t),.d (.sc (.pointer none)),.so 2 G 0 n,.d (.sl [])]]⟩:=fun G n=>by simp [aP,gM,aJ,aJ.go]
   simp only[List.map_cons,List.map_nil,e0,iB,aH,List.set_cons_succ,List.set_cons_zero,List.cons_append,List.nil_append]
   have Yn:L.length<=256:=by omega
   have Ra:IntKind.i64.wrap ((L.length:Int)-1)=(L.length:Int)-1:=br _ (by omega)
   simp only[zX,Nat.reduceShiftRight,Nat.reduceMod,Nat.reduceLT,Nat.reduceMul,Nat.reduceSub,Int.reduceToNat,Int.reduceNeg,Int.reduceLT,Int.reduceLE,Int.reduceEq,Nat.reduceEqDiff,Nat.reduceAdd,Nat.reduceLeDiff,reduceIte,reduceCtorEq,Nat.reduceBEq,i64,iD,bD,bV,q1,q2,q7,ng,tp,zG,Ra]
   refine⟨⟨by omega,by omega,by omega⟩,?_⟩
   refine ay (fun n e s=>∃c:Nat,n=L.length-c/\c<=L.length/\e 10=.rf 0 0 0 0/\e 11=i64 ((L.length:Int)-1-c)/\s=[cV t ej (dp L) 0 L.length,ez 0 (aW t L c)])
    ⟨_,_,_,(bI.D9 [2] 4 (by omega) [10,11]).trans (bI.zx [1,3] [10,11] (by rfl)),0,rfl,by omega,by rfl,by simp only[Int.natCast_zero,Int.sub_zero];rfl,?_⟩ ?_
   ·exact DX t ej L _
   clear q1 q2 q7 ng CA tp zG sK e0
   rintro n e s ⟨c,rfl,hc,gY,lJ,rfl⟩
   by_cases az:c<L.length
   ·obtain⟨ix,PL⟩:∃ix:Nat,ix=L.length-1-c:=⟨_,rfl⟩
    have UJ:(L.length:Int)-1-c=(ix:Int):=by omega
    obtain⟨r,⟨p,r1,r2⟩,r3,r4,⟨x,r5,r6⟩,r7⟩:=CO ix (by omega)
    obtain rfl:p=ix:=by omega
    rw[UJ]at lJ
    have i0:(0:Int)<=(p:Int):=by omega
    have i1:(p:Int)<(L.length:Int):=by omega
    have i2:p<L.length:=by omega
    have RX:(L.map fun p=>[p.1.aY p.2])[p]?=some [r.aY p]:=by rw[List.getElem?_map,r1];rfl
    have Js:r.aY p=.el [iD r.op,.sl (r.set.map aV),.sl (r.kids.map Re.cells),iD r.mn,iD r.mx,iD r.mode,iD r.n,bD r.neg,.sl [[x.aY (p+1)]],iD p]:=by
     rw[Re.dw,if_pos r3,r5];rfl
    have Vb:([[x.aY (p+1)]]:List (List D))[0]?=some [x.aY (p+1)]:=rfl
    have Lz:=((Re.aS r).1 r4).2 x (by rw[r5];simp)
    have WY:x.fT<=8191:=by unfold il at r6;omega
    have Jv:=eS t L c
    have eN:=jr t L c
    have S9:r.looks=1+x.looks:=by rw[Re.iu,if_pos r3,r5];simp [Re.aN]
    have Dp:=vd t (aW t L c) x Lz (p+1) (by omega) (fun j h1 h2=>eN j (by omega) (by omega))
    have M5:aW t L (c+1)=(aW t L c).set p (gT t (aW t L c) r p):=by
     rw[aW,<- PL,r1]
    have Ng:gT t (aW t L c) r p=(if r.op=7 then eI t (aW t L c) (x.emit (p+1) []++[cc]) else n9 t (aW t L c) (x.emit (p+1) []++[cc])).map fun b=>b != r.neg:=by
     unfold gT
     rw[r5]
     rfl
    have nr:=fun K hk=>vF (t:=t) (root:=ej) (parts:=dp L) (bg:=0) (nb:=L.length) (Bs:=aW t L c) (y6 Lz) (by omega) (p+1) (K:=K) hk
    have NP:0<(x.emit (p+1) []++[cc]).length:=by simp
    generalize O9:aW t L (c+1)=Y4 at *
    generalize aW t L c=Bs at *
    generalize x.emit (p+1) []++[cc]=C at *
    have Bo:p<Bs.length:=by omega
    obtain⟨lo,hlo⟩:∃lo,Bs[p]?=some lo:=⟨_,List.getElem?_eq_getElem Bo⟩
    simp only[iD,bD]at Js
    generalize x.aY (p+1)=xd at *
    simp only[zX,Nat.reduceShiftRight,Nat.reduceMod,Nat.reduceLT,Nat.reduceMul,Nat.reduceSub,Int.reduceToNat,Int.reduceNeg,Int.reduceLT,Int.reduceLE,Int.reduceEq,Nat.reduceEqDiff,Nat.reduceAdd,Nat.reduceLeDiff,reduceIte,reduceCtorEq,Nat.reduceBEq,i64,iD,bD,bV,cV,dp,gY,lJ,i0,i1,i2,RX,Js,Vb,List.length_map,Int.toNat_natCast,List.length_cons,List.length_nil,Nat.zero_add,ge_iff_le]
    refine⟨by decide,?_⟩
    refine nr _ (fun b a=>?_)
    have Rk:=En t ej (dp L) 0 L.length Bs C.length b a C Dp Jv.symm (by omega) NP
    have R7:=Bi t ej (dp L) 0 L.length Bs C.length b a C Dp Jv.symm (by omega) NP
    simp only[zX,Nat.reduceShiftRight,Nat.reduceMod,Nat.reduceLT,Nat.reduceMul,Nat.reduceSub,Int.reduceToNat,Int.reduceNeg,Int.reduceLT,Int.reduceLE,Int.reduceEq,Nat.reduceEqDiff,Nat.reduceAdd,Nat.reduceLeDiff,reduceIte,reduceCtorEq,Nat.reduceBEq,i64,iD,bD,bV,cV,dp,gY,lJ,Js]
    have RD:∀v:V,[V.d (.sl (lo.map fun b=>[bD b]))].length=1:=fun _=>rfl
    have PC:(ez 0 Bs).g=0:=rfl
    have Nd:(ez 0 Bs).sz=1:=rfl
    have FY:(ez 0 Bs).au=Bs.map fun l=>[V.d (.sl (l.map fun b=>[bD b]))]:=rfl
    have Pw:(ez 0 Bs).live=true:=rfl
    have XC:(p:Int)<(L.length:Int):=i1
    refine ya (fun e s=>e 10=.rf 0 0 0 0/\e 11=i64 p/\e 12=.d (r.aY p)/\s=[cV t ej (dp L) 0 L.length,⟨0,true,1,(Bs.map fun l=>[V.d (.sl (l.map fun b=>[bD b]))]).set p [.so 3 1 0 (t.length+1)]⟩,cr C.length b a C,bT 1 (if r.op=7 then eI t Bs C else n9 t Bs C)]) ?_ ?_ ?_
    ·intro ho B Q hB
     simp only[zX,Nat.reduceShiftRight,Nat.reduceMod,Nat.reduceLT,Nat.reduceMul,Nat.reduceSub,Int.reduceToNat,Int.reduceNeg,Int.reduceLT,Int.reduceLE,Int.reduceEq,Nat.reduceEqDiff,Nat.reduceAdd,Nat.reduceLeDiff,reduceIte,reduceCtorEq,Nat.reduceBEq,i64,iD,bD,bV,gY,lJ]
     refine aT bZ.bk ?_
     refine ar mix [] [(7,[0,1,2,3],[3]),(8,[1],[]),(9,[1],[1])] (by rfl) ?_
     simp only[zX,Nat.reduceShiftRight,Nat.reduceMod,Nat.reduceLT,Nat.reduceMul,Nat.reduceSub,Int.reduceToNat,Int.reduceNeg,Int.reduceLT,Int.reduceLE,Int.reduceEq,Nat.reduceEqDiff,Nat.reduceAdd,Nat.reduceLeDiff,reduceIte,reduceCtorEq,Nat.reduceBEq,i64,iD,bD,bV,gY,lJ,cV,List.cons_append,List.nil_append]
     refine oU Rk ?_
     simp only[zX,Nat.reduceShiftRight,Nat.reduceMod,Nat.reduceLT,Nat.reduceMul,Nat.reduceSub,Int.reduceToNat,Int.reduceNeg,Int.reduceLT,Int.reduceLE,Int.reduceEq,Nat.reduceEqDiff,Nat.reduceAdd,Nat.reduceLeDiff,reduceIte,reduceCtorEq,Nat.reduceBEq,i64,iD,bD,bV,gY,lJ,i0,i1,Bo,PC,Nd,FY,Pw,Int.toNat_natCast,Nat.zero_add,List.getElem?_map,hlo,Option.map_some,List.length_map]
     refine hB _ _ ⟨?_,?_,?_,?_⟩ <;> (try simp only[zU,Nat.reduceBEq,Nat.reduceShiftRight,Nat.reduceMod,Nat.reduceEqDiff,reduceIte])
     ·exact gY
     ·rw[lJ]
     ·rw[Js]
     ·rw[if_pos ho];rfl
    ·intro ho B Q hB
     simp only[zX,Nat.reduceShiftRight,Nat.reduceMod,Nat.reduceLT,Nat.reduceMul,Nat.reduceSub,Int.reduceToNat,Int.reduceNeg,Int.reduceLT,Int.reduceLE,Int.reduceEq,Nat.reduceEqDiff,Nat.reduceAdd,Nat.reduceLeDiff,reduceIte,reduceCtorEq,Nat.reduceBEq,i64,iD,bD,bV,gY,lJ]
     refine aT bZ.bk ?_
     refine ar mix [] [(7,[0,1,2,3],[3]),(8,[1],[]),(9,[1],[1])] (by rfl) ?_
     simp only[zX,Nat.reduceShiftRight,Nat.reduceMod,Nat.reduceLT,Nat.reduceMul,Nat.reduceSub,Int.reduceToNat,Int.reduceNeg,Int.reduceLT,Int.reduceLE,Int.reduceEq,Nat.reduceEqDiff,Nat.reduceAdd,Nat.reduceLeDiff,reduceIte,reduceCtorEq,Nat.reduceBEq,i64,iD,bD,bV,gY,lJ,cV,List.cons_append,List.nil_append]
     refine oU R7 ?_
     simp only[zX,Nat.reduceShiftRight,Nat.reduceMod,Nat.reduceLT,Nat.reduceMul,Nat.reduceSub,Int.reduceToNat,Int.reduceNeg,Int.reduceLT,Int.reduceLE,Int.reduceEq,Nat.reduceEqDiff,Nat.reduceAdd,Nat.reduceLeDiff,reduceIte,reduceCtorEq,Nat.reduceBEq,i64,iD,bD,bV,gY,lJ,i0,i1,Bo,PC,Nd,FY,Pw,Int.toNat_natCast,Nat.zero_add,List.getElem?_map,hlo,Option.map_some,List.length_map]
     refine hB _ _ ⟨?_,?_,?_,?_⟩ <;> (try simp only[zU,Nat.reduceBEq,Nat.reduceShiftRight,Nat.reduceMod,Nat.reduceEqDiff,reduceIte])
     ·exact gY
     ·rw[lJ]
     ·rw[Js]
     ·rw[if_neg ho];rfl
    clear gY lJ Rk R7 nr PC Nd FY Pw
    rintro e s ⟨gY,lJ,zp,rfl⟩
    have FG:(if r.op=7 then eI t Bs C else n9 t Bs C).length=t.length+1:=by
     split
     ·exact mi _ _ _
     ·exact pZ _ _ _
    generalize (if r.op=7 then eI t Bs C else n9 t Bs C)=lb at *
    have GS:∀v,((Bs.map fun l=>[V.d (.sl (l.map fun b=>[D.sc (Value.bool b)]))]).set p v)[p]?=some v:=fun v=>List.getElem?_set_self (by simpa using Bo)
    rw[Js]at zp
    simp only[zX,Nat.reduceShiftRight,Nat.reduceMod,Nat.reduceLT,Nat.reduceMul,Nat.reduceSub,Int.reduceToNat,Int.reduceNeg,Int.reduceLT,Int.reduceLE,Int.reduceEq,Nat.reduceEqDiff,Nat.reduceAdd,Nat.reduceLeDiff,reduceIte,reduceCtorEq,Nat.reduceBEq,i64,iD,bD,bV,cV,gY,lJ,zp,i0,i1,Int.toNat_natCast,Nat.zero_add,GS]
    refine ay (fun n e s=>∃m:Nat,n=t.length+1-m/\m<=t.length+1/\e 10=.rf 0 0 0 0/\e 11=i64 p/\e 12=.d (.el [D.sc (Value.int IntKind.i64 r.op),D.sl (List.map aV r.set),D.sl (List.map Re.cells r.kids),D.sc (Value.int IntKind.i64 r.mn),D.sc (Value.int IntKind.i64 r.mx),D.sc (Value.int IntKind.i64 r.mode),D.sc (Value.int IntKind.i64 r.n),D.sc (Value.bool r.neg),D.sl [[xd]],D.sc (Value.int IntKind.i64 p)])/\e 114=i64 ((t.length+1:Nat):Int)/\e 115=i64 m/\s=[cV t ej (dp L) 0 L.length,⟨0,true,1,(Bs.map fun l=>[V.d (.sl (l.map fun b=>[bD b]))]).set p [.so 3 1 0 (t.length+1)]⟩,cr C.length b a C,bT 1 (fN r.neg m lb)])
     ⟨_,_,_,bI.refl,0,rfl,by omega,by (try simp only[zU,Nat.reduceBEq,Nat.reduceShiftRight,Nat.reduceMod,Nat.reduceEqDiff,reduceIte]);exact gY,by (try simp only[zU,Nat.reduceBEq,Nat.reduceShiftRight,Nat.reduceMod,Nat.reduceEqDiff,reduceIte]);exact lJ,by (try simp only[zU,Nat.reduceBEq,Nat.reduceShiftRight,Nat.reduceMod,Nat.reduceEqDiff,reduceIte]);exact zp,rfl,rfl,by rw[AX];rfl⟩ ?_
    clear gY lJ zp
    rintro n e s ⟨m,rfl,hm,gY,lJ,zp,BT,BK,rfl⟩
    rcases Nat.lt_or_ge m (t.length+1) with Vq|ib
    ·obtain⟨y,hy⟩:∃y,lb[m]?=some y:=⟨_,List.getElem?_eq_getElem (by omega)⟩
     have QW:=Dk (neg:=r.neg) hy
     have Ri:=AO (neg:=r.neg) hy
     have JU:=DC r.neg m lb
     have m0:(0:Int)<=(m:Int):=by omega
     have m1:(m:Int)<((t.length+1:Nat):Int):=by omega
     have m2:m<(fN r.neg m lb).length:=by omega
     generalize Ul:fN r.neg (m+1) lb=F2 at *
     generalize fN r.neg m lb=F1 at *
     simp only[zX,Nat.reduceShiftRight,Nat.reduceMod,Nat.reduceLT,Nat.reduceMul,Nat.reduceSub,Int.reduceToNat,Int.reduceNeg,Int.reduceLT,Int.reduceLE,Int.reduceEq,Nat.reduceEqDiff,Nat.reduceAdd,Nat.reduceLeDiff,reduceIte,reduceCtorEq,Nat.reduceBEq,i64,iD,bD,bV,cV,bT,gY,lJ,zp,BT,BK,m1,GS,Int.toNat_natCast]
     refine ar mix [25] [] (by rfl) ?_
     simp only[zX,Nat.reduceShiftRight,Nat.reduceMod,Nat.reduceLT,Nat.reduceMul,Nat.reduceSub,Int.reduceToNat,Int.reduceNeg,Int.reduceLT,Int.reduceLE,Int.reduceEq,Nat.reduceEqDiff,Nat.reduceAdd,Nat.reduceLeDiff,reduceIte,reduceCtorEq,Nat.reduceBEq,i64,iD,bD,bV,bT,gY,lJ,zp,BT,BK,i0,i1,m0,m1,m2,GS,QW,Int.toNat_natCast,Nat.zero_add,List.getElem?_map,Option.map_some,List.length_map]
     refine⟨t.length+1-(m+1),_,_,by omega,bI.refl,m+1,rfl,Vq,?_,?_,?_,?_,?_,by rw[Ul,<- Ri,List.map_set];rfl⟩ <;> (try simp only[zU,Nat.reduceBEq,Nat.reduceShiftRight,Nat.reduceMod,Nat.reduceEqDiff,reduceIte])
     ·exact gY
     ·exact lJ
     ·exact zp
     ·exact BT
     ·rw[br _ (by omega)];rfl
    ·have LC:m=lb.length:=by omega
     subst LC
     rw[EF,<- Ng,FG]
     have Ks:=oB t Bs r p
     rw[Ng]at Ks
     have wi:IntKind.i64.wrap ((p:Int)-1)=(L.length:Int)-1-((c+1:Nat):Int):=by rw[br _ (by omega)];omega
     rw[Ng]
     rw[Ng]at M5
     generalize (lb.map fun b=>b != r.neg)=lf at *
     rw[FG]at BK
     have Pb:¬((t.length+1:Nat):Int)<((t.length+1:Nat):Int):=by omega
     simp only[zX,Nat.reduceShiftRight,Nat.reduceMod,Nat.reduceLT,Nat.reduceMul,Nat.reduceSub,Int.reduceToNat,Int.reduceNeg,Int.reduceLT,Int.reduceLE,Int.reduceEq,Nat.reduceEqDiff,Nat.reduceAdd,Nat.reduceLeDiff,reduceIte,reduceCtorEq,Nat.reduceBEq,i64,iD,bD,bV,gY,lJ,zp,BT,BK,Pb,wi]
     refine⟨L.length-(c+1),_,_,by omega,bI.drop 2 (by omega) [10,11],c+1,rfl,by omega,?_,?_,?_⟩
     ·rw[oR (by rfl)]
      (try simp only[zU,Nat.reduceBEq,Nat.reduceShiftRight,Nat.reduceMod,Nat.reduceEqDiff,reduceIte])
      rw[gY]
      rfl
     ·rw[oR (by rfl)]
      (try simp only[zU,Nat.reduceBEq,Nat.reduceShiftRight,Nat.reduceMod,Nat.reduceEqDiff,reduceIte])
      rfl
     ·have:=Hw t ej (dp L) L.length p (t.length+1) Bs lf Ks (cr C.length b a C)
      rw[O9,M5]
      exact this
   ·have UC:c=L.length:=by omega
    subst UC
    have MO:¬(0:Int)<=(L.length:Int)-1-(L.length:Int):=by omega
    simp only[zX,Nat.reduceShiftRight,Nat.reduceMod,Nat.reduceLT,Nat.reduceMul,Nat.reduceSub,Int.reduceToNat,Int.reduceNeg,Int.reduceLT,Int.reduceLE,Int.reduceEq,Nat.reduceEqDiff,Nat.reduceAdd,Nat.reduceLeDiff,reduceIte,reduceCtorEq,Nat.reduceBEq,i64,iD,bD,bV,gY,lJ,MO,ge_iff_le,Bw,wT]
    refine⟨[0,1],rfl,?_⟩
    simp only[jZ,List.map_cons,List.map_nil,List.getD_cons_zero,List.getD_cons_succ,gP]
    exact⟨rfl,rfl⟩
 |false =>
  refine BU Try.func27 rfl Try.ntmps27 Try.results27 rfl 0 62307562302417931542365956185554679 (by simp) (by simp) ?_
  simp only[zX,Nat.reduceShiftRight,Nat.reduceMod,Nat.reduceLT,Nat.reduceMul,Nat.reduceSub,Int.reduceToNat,Int.reduceNeg,Int.reduceLT,Int.reduceLE,Int.reduceEq,Nat.reduceEqDiff,Nat.reduceAdd,Nat.reduceLeDiff,reduceIte,reduceCtorEq,Nat.reduceBEq,i64,bL,Re.ae,bV,iD,bD,ao]
  refine al h1 rfl rfl ?_
  simp only[zX,Nat.reduceShiftRight,Nat.reduceMod,Nat.reduceLT,Nat.reduceMul,Nat.reduceSub,Int.reduceToNat,Int.reduceNeg,Int.reduceLT,Int.reduceLE,Int.reduceEq,Nat.reduceEqDiff,Nat.reduceAdd,Nat.reduceLeDiff,reduceIte,reduceCtorEq,Nat.reduceBEq,i64,bL,Re.ae,bV,iD,bD,ne_eq,not_true_eq_false,List.length_map,yF,gt_iff_lt,uQ]
  refine ay (fun n e s=>∃i:Nat,n=t.length-i/\i<=t.length/\e 1=.d (ao t)/\e 2=.rf 0 0 0 0/\e 7=i64 (fB aU)/\e 25=.d (ao t)/\e 26=i64 t.length/\e 27=i64 i/\(t.take i).all (eH aU)=true/\s=[⟨0,true,10,[re.cells.map .d++[i64 ai,bV aU]]⟩])
   ⟨_,_,_,bI.refl,0,rfl,by omega,rfl,rfl,by subst uQ;rfl,rfl,by first|rfl|(rw[List.length_map];rfl),rfl,by simp,by subst uQ;simp [Re.ae re,iD,bD,bV,i64]⟩ ?_
  rintro n e s ⟨i,rfl,hi,q1,q2,q7,CA,tp,zG,bM,rfl⟩
  have ng:e 25=.d (.sl (t.map fun x=>[iD x])):=CA
  rcases Nat.lt_or_ge i t.length with az|ib
  ·obtain⟨x,hx⟩:∃x,t[i]?=some x:=⟨_,List.getElem?_eq_getElem az⟩
   have aK:(i:Int)<(t.length:Int):=by omega
   have hi0:(0:Int)<=(i:Int):=by omega
   have hT:=bt hx
   by_cases c1:x<0
   ·have kL:t.all (eH aU)=false:=all_false hx (by simp [eH];omega)
    simp only[zX,Nat.reduceShiftRight,Nat.reduceMod,Nat.reduceLT,Nat.reduceMul,Nat.reduceSub,Int.reduceToNat,Int.reduceNeg,Int.reduceLT,Int.reduceLE,Int.reduceEq,Nat.reduceEqDiff,Nat.reduceAdd,Nat.reduceLeDiff,reduceIte,reduceCtorEq,Nat.reduceBEq,i64,iD,bD,bV,Re.ae re,List.map_cons,List.map_nil,q1,q2,q7,ng,tp,zG,aK,hi0,az,hx,List.length_map,List.getElem?_map,Option.map_some,Int.toNat_natCast,c1]
    first|(rw[gZ]at kL;cases kL;done)|(all_goals rfl)
   ·by_cases c2:fB aU<x
    ·have kL:t.all (eH aU)=false:=all_false hx (by simp [eH];omega)
     simp only[zX,Nat.reduceShiftRight,Nat.reduceMod,Nat.reduceLT,Nat.reduceMul,Nat.reduceSub,Int.reduceToNat,Int.reduceNeg,Int.reduceLT,Int.reduceLE,Int.reduceEq,Nat.reduceEqDiff,Nat.reduceAdd,Nat.reduceLeDiff,reduceIte,reduceCtorEq,Nat.reduceBEq,i64,iD,bD,bV,Re.ae re,List.map_cons,List.map_nil,q1,q2,q7,ng,tp,zG,aK,hi0,az,hx,List.length_map,List.getElem?_map,Option.map_some,Int.toNat_natCast,c1,c2,gt_iff_lt]
     first|(rw[gZ]at kL;cases kL;done)|(all_goals rfl)
    ·simp only[zX,Nat.reduceShiftRight,Nat.reduceMod,Nat.reduceLT,Nat.reduceMul,Nat.reduceSub,Int.reduceToNat,Int.reduceNeg,Int.reduceLT,Int.reduceLE,Int.reduceEq,Nat.reduceEqDiff,Nat.reduceAdd,Nat.reduceLeDiff,reduceIte,reduceCtorEq,Nat.reduceBEq,i64,iD,bD,bV,Re.ae re,List.map_cons,List.map_nil,q1,q2,q7,ng,tp,zG,aK,hi0,az,hx,List.length_map,List.getElem?_map,Option.map_some,Int.toNat_natCast,c1,c2,gt_iff_lt]
     refine⟨t.length-(i+1),_,_,by omega,bI.refl,i+1,rfl,az,?_,?_,?_,?_,?_,?_,?_,by simp [Re.ae re,iD,bD,bV,i64]⟩ <;> (try simp only[zU,Nat.reduceBEq,Nat.reduceShiftRight,Nat.reduceMod,Nat.reduceEqDiff,reduceIte])
     ·exact q1
     ·exact q2
     ·exact q7
     ·exact CA
     ·exact tp
     ·rw[br _ (by omega)];rfl
     ·rw[hT,List.all_append,bM];simp [eH];omega
  ·have eQ:i=t.length:=by omega
   subst eQ
   simp only[zX,Nat.reduceShiftRight,Nat.reduceMod,Nat.reduceLT,Nat.reduceMul,Nat.reduceSub,Int.reduceToNat,Int.reduceNeg,Int.reduceLT,Int.reduceLE,Int.reduceEq,Nat.reduceEqDiff,Nat.reduceAdd,Nat.reduceLeDiff,reduceIte,reduceCtorEq,Nat.reduceBEq,i64,iD,bD,bV,Re.ae re,List.map_cons,List.map_nil,q1,q2,q7,ng,tp,zG,Int.lt_irrefl,ao]
   refine fM (pre:=[.d (.sl (t.map fun x=>[D.sc (Value.int IntKind.i64 x)])),.d (.sc (.pointer none))]) (post:=[.fu []]) 1 1 rfl rfl rfl ?_
   refine EU (pre:=[.d (.sl (t.map fun x=>[D.sc (Value.int IntKind.i64 x)])),.d (.sc (.pointer none)),.so 2 0 0 0]) (post:=[]) 1 rfl rfl rfl ?_
   rw[aj]at sK
   simp only[iD,bD]at sK
   refine dk [1,2] sK (by decide) rfl ?_ ?_ ?_ ?_ (r':=.d ej) rfl ?_
   ·have e0:aP [1,2] (gM t (.sc (.pointer none)) 0 0)=⟨0,true,4,[[.d (ao t),.d (.sc (.pointer none)),.so 2 0 0 0,.d (.sl [])]]⟩:=by simp [aP,gM,aJ,aJ.go]
    simp only[List.map_cons,List.map_nil,List.length_nil,e0,iB]
    rfl
   ·simp [aJ,aJ.go]
   ·simp [ah,ah.go]
   ·have e3:aQ 2 (gM t (.sc (.pointer none)) 0 0)=true:=by simp [gM,aQ,ah]
    simp only[List.all_cons,List.all_nil,List.length_cons,List.length_nil,Nat.zero_add,Nat.reduceAdd,e3,ky,Bool.and_self]
   have e0:∀G n,aP [1,2] (gM t (.sc (.pointer none)) G n)=⟨0,true,4,[[.d (ao t),.d (.sc (.pointer none)),.so 2 G 0 n,.d (.sl [])]]⟩:=fun G n=>by simp [aP,gM,aJ,aJ.go]
   simp only[List.map_cons,List.map_nil,e0,iB,aH,List.set_cons_succ,List.set_cons_zero,List.cons_append,List.nil_append]
   have Yn:L.length<=256:=by omega
   have Ra:IntKind.i64.wrap ((L.length:Int)-1)=(L.length:Int)-1:=br _ (by omega)
   simp only[zX,Nat.reduceShiftRight,Nat.reduceMod,Nat.reduceLT,Nat.reduceMul,Nat.reduceSub,Int.reduceToNat,Int.reduceNeg,Int.reduceLT,Int.reduceLE,Int.reduceEq,Nat.reduceEqDiff,Nat.reduceAdd,Nat.reduceLeDiff,reduceIte,reduceCtorEq,Nat.reduceBEq,i64,iD,bD,bV,q1,q2,q7,ng,tp,zG,Ra]
   refine⟨⟨by omega,by omega,by omega⟩,?_⟩
   refine ay (fun n e s=>∃c:Nat,n=L.length-c/\c<=L.length/\e 10=.rf 0 0 0 0/\e 11=i64 ((L.length:Int)-1-c)/\s=[cV t ej (dp L) 0 L.length,ez 0 (aW t L c)])
    ⟨_,_,_,(bI.D9 [2] 4 (by omega) [10,11]).trans (bI.zx [1,3] [10,11] (by rfl)),0,rfl,by omega,by rfl,by simp only[Int.natCast_zero,Int.sub_zero];rfl,?_⟩ ?_
   ·exact DX t ej L _
   clear q1 q2 q7 ng CA tp zG sK e0
   rintro n e s ⟨c,rfl,hc,gY,lJ,rfl⟩
   by_cases az:c<L.length
   ·obtain⟨ix,PL⟩:∃ix:Nat,ix=L.length-1-c:=⟨_,rfl⟩
    have UJ:(L.length:Int)-1-c=(ix:Int):=by omega
    obtain⟨r,⟨p,r1,r2⟩,r3,r4,⟨x,r5,r6⟩,r7⟩:=CO ix (by omega)
    obtain rfl:p=ix:=by omega
    rw[UJ]at lJ
    have i0:(0:Int)<=(p:Int):=by omega
    have i1:(p:Int)<(L.length:Int):=by omega
    have i2:p<L.length:=by omega
    have RX:(L.map fun p=>[p.1.aY p.2])[p]?=some [r.aY p]:=by rw[List.getElem?_map,r1];rfl
    have Js:r.aY p=.el [iD r.op,.sl (r.set.map aV),.sl (r.kids.map Re.cells),iD r.mn,iD r.mx,iD r.mode,iD r.n,bD r.neg,.sl [[x.aY (p+1)]],iD p]:=by
     rw[Re.dw,if_pos r3,r5];rfl
    have Vb:([[x.aY (p+1)]]:List (List D))[0]?=some [x.aY (p+1)]:=rfl
    have Lz:=((Re.aS r).1 r4).2 x (by rw[r5];simp)
    have WY:x.fT<=8191:=by unfold il at r6;omega
    have Jv:=eS t L c
    have eN:=jr t L c
    have S9:r.looks=1+x.looks:=by rw[Re.iu,if_pos r3,r5];simp [Re.aN]
    have Dp:=vd t (aW t L c) x Lz (p+1) (by omega) (fun j h1 h2=>eN j (by omega) (by omega))
    have M5:aW t L (c+1)=(aW t L c).set p (gT t (aW t L c) r p):=by
     rw[aW,<- PL,r1]
    have Ng:gT t (aW t L c) r p=(if r.op=7 then eI t (aW t L c) (x.emit (p+1) []++[cc]) else n9 t (aW t L c) (x.emit (p+1) []++[cc])).map fun b=>b != r.neg:=by
     unfold gT
     rw[r5]
     rfl
    have nr:=fun K hk=>vF (t:=t) (root:=ej) (parts:=dp L) (bg:=0) (nb:=L.length) (Bs:=aW t L c) (y6 Lz) (by omega) (p+1) (K:=K) hk
    have NP:0<(x.emit (p+1) []++[cc]).length:=by simp
    generalize O9:aW t L (c+1)=Y4 at *
    generalize aW t L c=Bs at *
    generalize x.emit (p+1) []++[cc]=C at *
    have Bo:p<Bs.length:=by omega
    obtain⟨lo,hlo⟩:∃lo,Bs[p]?=some lo:=⟨_,List.getElem?_eq_getElem Bo⟩
    simp only[iD,bD]at Js
    generalize x.aY (p+1)=xd at *
    simp only[zX,Nat.reduceShiftRight,Nat.reduceMod,Nat.reduceLT,Nat.reduceMul,Nat.reduceSub,Int.reduceToNat,Int.reduceNeg,Int.reduceLT,Int.reduceLE,Int.reduceEq,Nat.reduceEqDiff,Nat.reduceAdd,Nat.reduceLeDiff,reduceIte,reduceCtorEq,Nat.reduceBEq,i64,iD,bD,bV,cV,dp,gY,lJ,i0,i1,i2,RX,Js,Vb,List.length_map,Int.toNat_natCast,List.length_cons,List.length_nil,Nat.zero_add,ge_iff_le]
    refine⟨by decide,?_⟩
    refine nr _ (fun b a=>?_)
    have Rk:=En t ej (dp L) 0 L.length Bs C.length b a C Dp Jv.symm (by omega) NP
    have R7:=Bi t ej (dp L) 0 L.length Bs C.length b a C Dp Jv.symm (by omega) NP
    simp only[zX,Nat.reduceShiftRight,Nat.reduceMod,Nat.reduceLT,Nat.reduceMul,Nat.reduceSub,Int.reduceToNat,Int.reduceNeg,Int.reduceLT,Int.reduceLE,Int.reduceEq,Nat.reduceEqDiff,Nat.reduceAdd,Nat.reduceLeDiff,reduceIte,reduceCtorEq,Nat.reduceBEq,i64,iD,bD,bV,cV,dp,gY,lJ,Js]
    have RD:∀v:V,[V.d (.sl (lo.map fun b=>[bD b]))].length=1:=fun _=>rfl
    have PC:(ez 0 Bs).g=0:=rfl
    have Nd:(ez 0 Bs).sz=1:=rfl
    have FY:(ez 0 Bs).au=Bs.map fun l=>[V.d (.sl (l.map fun b=>[bD b]))]:=rfl
    have Pw:(ez 0 Bs).live=true:=rfl
    have XC:(p:Int)<(L.length:Int):=i1
    refine ya (fun e s=>e 10=.rf 0 0 0 0/\e 11=i64 p/\e 12=.d (r.aY p)/\s=[cV t ej (dp L) 0 L.length,⟨0,true,1,(Bs.map fun l=>[V.d (.sl (l.map fun b=>[bD b]))]).set p [.so 3 1 0 (t.length+1)]⟩,cr C.length b a C,bT 1 (if r.op=7 then eI t Bs C else n9 t Bs C)]) ?_ ?_ ?_
    ·intro ho B Q hB
     simp only[zX,Nat.reduceShiftRight,Nat.reduceMod,Nat.reduceLT,Nat.reduceMul,Nat.reduceSub,Int.reduceToNat,Int.reduceNeg,Int.reduceLT,Int.reduceLE,Int.reduceEq,Nat.reduceEqDiff,Nat.reduceAdd,Nat.reduceLeDiff,reduceIte,reduceCtorEq,Nat.reduceBEq,i64,iD,bD,bV,gY,lJ]
     refine aT bZ.bk ?_
     refine ar mix [] [(7,[0,1,2,3],[3]),(8,[1],[]),(9,[1],[1])] (by rfl) ?_
     simp only[zX,Nat.reduceShiftRight,Nat.reduceMod,Nat.reduceLT,Nat.reduceMul,Nat.reduceSub,Int.reduceToNat,Int.reduceNeg,Int.reduceLT,Int.reduceLE,Int.reduceEq,Nat.reduceEqDiff,Nat.reduceAdd,Nat.reduceLeDiff,reduceIte,reduceCtorEq,Nat.reduceBEq,i64,iD,bD,bV,gY,lJ,cV,List.cons_append,List.nil_append]
     refine oU Rk ?_
     simp only[zX,Nat.reduceShiftRight,Nat.reduceMod,Nat.reduceLT,Nat.reduceMul,Nat.reduceSub,Int.reduceToNat,Int.reduceNeg,Int.reduceLT,Int.reduceLE,Int.reduceEq,Nat.reduceEqDiff,Nat.reduceAdd,Nat.reduceLeDiff,reduceIte,reduceCtorEq,Nat.reduceBEq,i64,iD,bD,bV,gY,lJ,i0,i1,Bo,PC,Nd,FY,Pw,Int.toNat_natCast,Nat.zero_add,List.getElem?_map,hlo,Option.map_some,List.length_map]
     refine hB _ _ ⟨?_,?_,?_,?_⟩ <;> (try simp only[zU,Nat.reduceBEq,Nat.reduceShiftRight,Nat.reduceMod,Nat.reduceEqDiff,reduceIte])
     ·exact gY
     ·rw[lJ]
     ·rw[Js]
     ·rw[if_pos ho];rfl
    ·intro ho B Q hB
     simp only[zX,Nat.reduceShiftRight,Nat.reduceMod,Nat.reduceLT,Nat.reduceMul,Nat.reduceSub,Int.reduceToNat,Int.reduceNeg,Int.reduceLT,Int.reduceLE,Int.reduceEq,Nat.reduceEqDiff,Nat.reduceAdd,Nat.reduceLeDiff,reduceIte,reduceCtorEq,Nat.reduceBEq,i64,iD,bD,bV,gY,lJ]
     refine aT bZ.bk ?_
     refine ar mix [] [(7,[0,1,2,3],[3]),(8,[1],[]),(9,[1],[1])] (by rfl) ?_
     simp only[zX,Nat.reduceShiftRight,Nat.reduceMod,Nat.reduceLT,Nat.reduceMul,Nat.reduceSub,Int.reduceToNat,Int.reduceNeg,Int.reduceLT,Int.reduceLE,Int.reduceEq,Nat.reduceEqDiff,Nat.reduceAdd,Nat.reduceLeDiff,reduceIte,reduceCtorEq,Nat.reduceBEq,i64,iD,bD,bV,gY,lJ,cV,List.cons_append,List.nil_append]
     refine oU R7 ?_
     simp only[zX,Nat.reduceShiftRight,Nat.reduceMod,Nat.reduceLT,Nat.reduceMul,Nat.reduceSub,Int.reduceToNat,Int.reduceNeg,Int.reduceLT,Int.reduceLE,Int.reduceEq,Nat.reduceEqDiff,Nat.reduceAdd,Nat.reduceLeDiff,reduceIte,reduceCtorEq,Nat.reduceBEq,i64,iD,bD,bV,gY,lJ,i0,i1,Bo,PC,Nd,FY,Pw,Int.toNat_natCast,Nat.zero_add,List.getElem?_map,hlo,Option.map_some,List.length_map]
     refine hB _ _ ⟨?_,?_,?_,?_⟩ <;> (try simp only[zU,Nat.reduceBEq,Nat.reduceShiftRight,Nat.reduceMod,Nat.reduceEqDiff,reduceIte])
     ·exact gY
     ·rw[lJ]
     ·rw[Js]
     ·rw[if_neg ho];rfl
    clear gY lJ Rk R7 nr PC Nd FY Pw
    rintro e s ⟨gY,lJ,zp,rfl⟩
    have FG:(if r.op=7 then eI t Bs C else n9 t Bs C).length=t.length+1:=by
     split
     ·exact mi _ _ _
     ·exact pZ _ _ _
    generalize (if r.op=7 then eI t Bs C else n9 t Bs C)=lb at *
    have GS:∀v,((Bs.map fun l=>[V.d (.sl (l.map fun b=>[D.sc (Value.bool b)]))]).set p v)[p]?=some v:=fun v=>List.getElem?_set_self (by simpa using Bo)
    rw[Js]at zp
    simp only[zX,Nat.reduceShiftRight,Nat.reduceMod,Nat.reduceLT,Nat.reduceMul,Nat.reduceSub,Int.reduceToNat,Int.reduceNeg,Int.reduceLT,Int.reduceLE,Int.reduceEq,Nat.reduceEqDiff,Nat.reduceAdd,Nat.reduceLeDiff,reduceIte,reduceCtorEq,Nat.reduceBEq,i64,iD,bD,bV,cV,gY,lJ,zp,i0,i1,Int.toNat_natCast,Nat.zero_add,GS]
    refine ay (fun n e s=>∃m:Nat,n=t.length+1-m/\m<=t.length+1/\e 10=.rf 0 0 0 0/\e 11=i64 p/\e 12=.d (.el [D.sc (Value.int IntKind.i64 r.op),D.sl (List.map aV r.set),D.sl (List.map Re.cells r.kids),D.sc (Value.int IntKind.i64 r.mn),D.sc (Value.int IntKind.i64 r.mx),D.sc (Value.int IntKind.i64 r.mode),D.sc (Value.int IntKind.i64 r.n),D.sc (Value.bool r.neg),D.sl [[xd]],D.sc (Value.int IntKind.i64 p)])/\e 114=i64 ((t.length+1:Nat):Int)/\e 115=i64 m/\s=[cV t ej (dp L) 0 L.length,⟨0,true,1,(Bs.map fun l=>[V.d (.sl (l.map fun b=>[bD b]))]).set p [.so 3 1 0 (t.length+1)]⟩,cr C.length b a C,bT 1 (fN r.neg m lb)])
     ⟨_,_,_,bI.refl,0,rfl,by omega,by (try simp only[zU,Nat.reduceBEq,Nat.reduceShiftRight,Nat.reduceMod,Nat.reduceEqDiff,reduceIte]);exact gY,by (try simp only[zU,Nat.reduceBEq,Nat.reduceShiftRight,Nat.reduceMod,Nat.reduceEqDiff,reduceIte]);exact lJ,by (try simp only[zU,Nat.reduceBEq,Nat.reduceShiftRight,Nat.reduceMod,Nat.reduceEqDiff,reduceIte]);exact zp,rfl,rfl,by rw[AX];rfl⟩ ?_
    clear gY lJ zp
    rintro n e s ⟨m,rfl,hm,gY,lJ,zp,BT,BK,rfl⟩
    rcases Nat.lt_or_ge m (t.length+1) with Vq|ib
    ·obtain⟨y,hy⟩:∃y,lb[m]?=some y:=⟨_,List.getElem?_eq_getElem (by omega)⟩
     have QW:=Dk (neg:=r.neg) hy
     have Ri:=AO (neg:=r.neg) hy
     have JU:=DC r.neg m lb
     have m0:(0:Int)<=(m:Int):=by omega
     have m1:(m:Int)<((t.length+1:Nat):Int):=by omega
     have m2:m<(fN r.neg m lb).length:=by omega
     generalize Ul:fN r.neg (m+1) lb=F2 at *
     generalize fN r.neg m lb=F1 at *
     simp only[zX,Nat.reduceShiftRight,Nat.reduceMod,Nat.reduceLT,Nat.reduceMul,Nat.reduceSub,Int.reduceToNat,Int.reduceNeg,Int.reduceLT,Int.reduceLE,Int.reduceEq,Nat.reduceEqDiff,Nat.reduceAdd,Nat.reduceLeDiff,reduceIte,reduceCtorEq,Nat.reduceBEq,i64,iD,bD,bV,cV,bT,gY,lJ,zp,BT,BK,m1,GS,Int.toNat_natCast]
     refine ar mix [25] [] (by rfl) ?_
     simp only[zX,Nat.reduceShiftRight,Nat.reduceMod,Nat.reduceLT,Nat.reduceMul,Nat.reduceSub,Int.reduceToNat,Int.reduceNeg,Int.reduceLT,Int.reduceLE,Int.reduceEq,Nat.reduceEqDiff,Nat.reduceAdd,Nat.reduceLeDiff,reduceIte,reduceCtorEq,Nat.reduceBEq,i64,iD,bD,bV,bT,gY,lJ,zp,BT,BK,i0,i1,m0,m1,m2,GS,QW,Int.toNat_natCast,Nat.zero_add,List.getElem?_map,Option.map_some,List.length_map]
     refine⟨t.length+1-(m+1),_,_,by omega,bI.refl,m+1,rfl,Vq,?_,?_,?_,?_,?_,by rw[Ul,<- Ri,List.map_set];rfl⟩ <;> (try simp only[zU,Nat.reduceBEq,Nat.reduceShiftRight,Nat.reduceMod,Nat.reduceEqDiff,reduceIte])
     ·exact gY
     ·exact lJ
     ·exact zp
     ·exact BT
     ·rw[br _ (by omega)];rfl
    ·have LC:m=lb.length:=by omega
     subst LC
     rw[EF,<- Ng,FG]
     have Ks:=oB t Bs r p
     rw[Ng]at Ks
     have wi:IntKind.i64.wrap ((p:Int)-1)=(L.length:Int)-1-((c+1:Nat):Int):=by rw[br _ (by omega)];omega
     rw[Ng]
     rw[Ng]at M5
     generalize (lb.map fun b=>b != r.neg)=lf at *
     rw[FG]at BK
     have Pb:¬((t.length+1:Nat):Int)<((t.length+1:Nat):Int):=by omega
     simp only[zX,Nat.reduceShiftRight,Nat.reduceMod,Nat.reduceLT,Nat.reduceMul,Nat.reduceSub,Int.reduceToNat,Int.reduceNeg,Int.reduceLT,Int.reduceLE,Int.reduceEq,Nat.reduceEqDiff,Nat.reduceAdd,Nat.reduceLeDiff,reduceIte,reduceCtorEq,Nat.reduceBEq,i64,iD,bD,bV,gY,lJ,zp,BT,BK,Pb,wi]
     refine⟨L.length-(c+1),_,_,by omega,bI.drop 2 (by omega) [10,11],c+1,rfl,by omega,?_,?_,?_⟩
     ·rw[oR (by rfl)]
      (try simp only[zU,Nat.reduceBEq,Nat.reduceShiftRight,Nat.reduceMod,Nat.reduceEqDiff,reduceIte])
      rw[gY]
      rfl
     ·rw[oR (by rfl)]
      (try simp only[zU,Nat.reduceBEq,Nat.reduceShiftRight,Nat.reduceMod,Nat.reduceEqDiff,reduceIte])
      rfl
     ·have:=Hw t ej (dp L) L.length p (t.length+1) Bs lf Ks (cr C.length b a C)
      rw[O9,M5]
      exact this
   ·have UC:c=L.length:=by omega
    subst UC
    have MO:¬(0:Int)<=(L.length:Int)-1-(L.length:Int):=by omega
    simp only[zX,Nat.reduceShiftRight,Nat.reduceMod,Nat.reduceLT,Nat.reduceMul,Nat.reduceSub,Int.reduceToNat,Int.reduceNeg,Int.reduceLT,Int.reduceLE,Int.reduceEq,Nat.reduceEqDiff,Nat.reduceAdd,Nat.reduceLeDiff,reduceIte,reduceCtorEq,Nat.reduceBEq,i64,iD,bD,bV,gY,lJ,MO,ge_iff_le,Bw,wT]
    refine⟨[0,1],rfl,?_⟩
    simp only[jZ,List.map_cons,List.map_nil,List.getD_cons_zero,List.getD_cons_succ,gP]
    exact⟨rfl,rfl⟩
def py (p:jl) (t:List Int):List (List Bool):=if dE p t=0 then aW t (p.re.bU 0) (p.re.bU 0).length else []
def gK (Bs:List (List Bool)):V:=.d (.sl (Bs.map fun l=>[.sl (l.map fun b=>[bD b])]))
def FH (t:List Int) (root parts:D) (Y nb:Nat):VL.Obj:=⟨0,true,4,[[.d (ao t),.d root,.d parts,.so Y 0 0 nb]]⟩
theorem pR {p:jl}{t:List Int} (hf:p.re.dG=true) (h:dE p t=0) {s:List VL.Obj}{K:V->List VL.Obj->Prop}
  (hk:K (.tu [.rf s.length 0 0 0,i64 0]) (s++[FH t (p.re.aY 0) (dp (p.re.bU 0)) (s.length+1) (p.re.bU 0).length,ez 0 (aW t (p.re.bU 0) (p.re.bU 0).length)])) :
  aq Try.prog 27 [bL p,.d (ao t)] s K:=by
 refine jy (I9 p t hf h) [] rfl (by simp) (fun k o h=>by simp at h) (by cases p;simp [bL,aJ,aJ.go,Re.ae,i64,bV,iD,bD]) (by cases p;simp [bL,ah,ah.go,Re.ae,i64,bV]) rfl ?_
 rintro v s' ⟨rfl,rfl⟩ _
 have e1:vE [] s [] [cV t (p.re.aY 0) (dp (p.re.bU 0)) 0 (p.re.bU 0).length,ez 0 (aW t (p.re.bU 0) (p.re.bU 0).length)]=[s.length,s.length+1]:=rfl
 rw[e1]
 have e5:aJ [s.length,s.length+1] (.tu [.rf 0 0 0 0,i64 0])=.tu [.rf s.length 0 0 0,i64 0]:=rfl
 have e6:∀n a b,aP [s.length,s.length+1] (cV t a b 0 n)=FH t a b (s.length+1) n:=fun n a b=>rfl
 rw[e5]
 simp only[List.length_nil,List.take_zero,List.drop_zero,List.map_nil,List.map_cons,e6,er,aH]
 exact hk
theorem nQ (p:jl) (t:List Int) (hf:p.re.dG=true) (hl:t.length<=1000000):ba Try.prog 18 [bL p,.d (ao t)] (.tu [gK (py p t),i64 (dE p t)]):=by
 by_cases h:dE p t=0
 ·have hb:py p t=aW t (p.re.bU 0) (p.re.bU 0).length:=if_pos h
  rw[hb,h]
  have ct:=fun s K hk=>pR hf h (s:=s) (K:=K) hk
  have Jv:=eS t (p.re.bU 0) (p.re.bU 0).length
  generalize aW t (p.re.bU 0) (p.re.bU 0).length=Bs at *
  generalize (p.re.bU 0).length=n at *
  generalize p.re.aY 0=rd at *
  generalize dp (p.re.bU 0)=pd at *
  clear h hf hb
  cases p with
  |mk re ai aU =>
  unfold bL at ct
  simp only[Re.ae,List.map_cons,List.map_nil,List.cons_append,List.nil_append,i64,iD,bD,bV,ao]at ct
  refine an Try.func18 rfl Try.ntmps18 Try.results18 rfl 0 247 (by simp) (by simp) ?_
  simp only[zX,Nat.reduceShiftRight,Nat.reduceMod,Nat.reduceLT,Nat.reduceMul,Nat.reduceSub,Int.reduceToNat,Int.reduceNeg,Int.reduceLT,Int.reduceLE,Int.reduceEq,Nat.reduceEqDiff,Nat.reduceAdd,Nat.reduceLeDiff,reduceIte,reduceCtorEq,Nat.reduceBEq,i64,bL,Re.ae,bV,iD,bD,ao,gK]
  refine ct _ _ ?_
  simp only[zX,Nat.reduceShiftRight,Nat.reduceMod,Nat.reduceLT,Nat.reduceMul,Nat.reduceSub,Int.reduceToNat,Int.reduceNeg,Int.reduceLT,Int.reduceLE,Int.reduceEq,Nat.reduceEqDiff,Nat.reduceAdd,Nat.reduceLeDiff,reduceIte,reduceCtorEq,Nat.reduceBEq,i64,bV,iD,bD,ao,gK,FH,List.length_cons,List.length_nil,Nat.zero_add,List.cons_append,List.nil_append,ne_eq,not_true_eq_false]
  have hg:(ez 0 Bs).g=0:=rfl
  have he:(ez 0 Bs).au=(Bs.map fun l=>[D.sl (l.map fun b=>[D.sc (Value.bool b)])]).map fun c=>c.map V.d:=by rw[List.map_map];rfl
  have vO:(ez 0 Bs).au.length=n:=by rw[he];simpa using Jv
  rw[vO,if_pos ⟨hg,Nat.le_refl _⟩,he,kK 7 0 _ _ _ (by simp;omega)]
  rfl
 ·have hb:py p t=[]:=if_neg h
  rw[hb]
  have he:=vg p t hf h hl
  generalize dE p t=se at *
  clear hf hb
  cases p with
  |mk re ai aU =>
  unfold bL at he
  simp only[Re.ae,List.map_cons,List.map_nil,List.cons_append,List.nil_append,i64,iD,bD,bV,ao]at he
  refine an Try.func18 rfl Try.ntmps18 Try.results18 rfl 0 247 (by simp) (by simp) ?_
  simp only[zX,Nat.reduceShiftRight,Nat.reduceMod,Nat.reduceLT,Nat.reduceMul,Nat.reduceSub,Int.reduceToNat,Int.reduceNeg,Int.reduceLT,Int.reduceLE,Int.reduceEq,Nat.reduceEqDiff,Nat.reduceAdd,Nat.reduceLeDiff,reduceIte,reduceCtorEq,Nat.reduceBEq,i64,bL,Re.ae,bV,iD,bD,ao,gK]
  refine al he rfl rfl ?_
  simp only[zX,Nat.reduceShiftRight,Nat.reduceMod,Nat.reduceLT,Nat.reduceMul,Nat.reduceSub,Int.reduceToNat,Int.reduceNeg,Int.reduceLT,Int.reduceLE,Int.reduceEq,Nat.reduceEqDiff,Nat.reduceAdd,Nat.reduceLeDiff,reduceIte,reduceCtorEq,Nat.reduceBEq,i64,bV,iD,bD,ao,gK,ne_eq,h,not_false_eq_true]
  all_goals rfl
end Go.Proofs.Ytfmdmlfhigocaaa
