/- A part of the proof (K36 K37 K37B K37C K38 K42 K43 K44 K48 K49 K50 K53 K54 K60 K61 K62 K63). -/
import Derived.Test.YtjjfioalgbecmaaGreatOQ49
set_option linter.unusedSimpArgs false
set_option linter.unusedVariables false
open Nat renaming reduceShiftRight → jN, reduceMod → oN, reduceEqDiff → oV, reduceAdd → oW, reduceBEq → pZ
set_option maxRecDepth 100000
set_option maxHeartbeats 80000000
namespace Go.Proofs.YtjjfioalgbecmaaGreat
open Go.VL Go.Proofs.Tryz
variable{s:List VL.Obj}{K:V->List VL.Obj->Prop}
theorem kO:Ty prog 196=some .i64:=by kernel_rfl
theorem Y9 (g:dk) (x:Int) (hs:g.ins.length<=1000000000):ar prog 125 [i64 x,.rf 0 0 0 0] [np g] λv s=>v=bV (sS g.ins.length x)/\s=[np g]:=by
 by_cases h0:0<=x
 ·by_cases h1:x<g.ins.length
  ·have e:sS g.ins.length x=true:=bi ⟨h0,h1⟩;rw[e];refine bo func125 ntmps125 results125 1 11 ?_;simp only[zQ,simprocAttr,np,h0,h1,ajM]
  ·have e:sS g.ins.length x=false:=ce (λh=>h1 h.2);rw[e];refine bo func125 ntmps125 results125 1 11 ?_;simp only[zQ,simprocAttr,np,h0,h1,ajM]
 ·have e:sS g.ins.length x=false:=ce (λh=>h0 h.1);rw[e];refine bo func125 ntmps125 results125 1 11 ?_;simp only[zQ,simprocAttr,np,h0,ajM]
theorem CJ {g:dk}{x:Int} (hs:g.ins.length<=1000000000) (ho:s[0]?=some (np g)) (hk:K (bV (sS g.ins.length x)) s):ar prog 125 [i64 x,.rf 0 0 0 0] s K:=by
 have e:aN [0] (np g)=np g:=by unfold aN np;simp [aE.go,aE,i64,bV]
 refine Im 0 (Y9 g x hs) rfl rfl (by simp [aK,np,aj,i64,bV]) (by rw[e];exact ho) rfl ?_;rw[e,Lv ho];exact hk
theorem RQ (g:dk) (x:bM) (hl:x.set.length<=1000000000) (o:x.op=0):aM prog 106 [sH g,.d (.el x.cells)] (bV (jw g.ins.length g.ai g.aB x)):=by
 have bH:=kO;refine bo func106 ntmps106 results106 0 16887 ?_;simp only[zQ,simprocAttr,aQ,bM.cells,o];refine cu mix [] [] ?_;by_cases hs:(x.set.length:Int)=0
 ·have jz:=eq_true hs;have kA:x.set=[]:=List.length_eq_zero_iff.1 ae;simp only[zQ,simprocAttr,aQ,bM.cells,o,jz,bH,ajM];by_cases a1:x.x=0 <;> by_cases a2:x.y=0 <;> by_cases a3:x.n=0 <;> simp [jw,db,oG,o,a1,a2,a3,kA]
 ·have kA:x.set≠[]:=λh=>hs (by rw[h];rfl);simp only[zQ,simprocAttr,aQ,bM.cells,o,hs,bH,ajM];by_cases a1:x.x=0 <;> by_cases a2:x.y=0 <;> by_cases a3:x.n=0 <;> simp [jw,db,oG,o,a1,a2,a3,kA]
theorem T9 (g:dk) (x:bM) (hl:x.set.length<=1000000000) (hg:g.ins.length<=1000000000) (o:x.op=3):aM prog 106 [sH g,.d (.el x.cells)] (bV (jw g.ins.length g.ai g.aB x)):=by
 have bH:=kO;have hb:jw g.ins.length g.ai g.aB x=(db x&&sS g.ins.length x.x):=by unfold jw oG;simp [o]
 rw[hb];refine bo func106 ntmps106 results106 0 16887 ?_;simp only[zQ,simprocAttr,aQ,bM.cells,o];refine CJ (g:=g) (x:=x.x) hg rfl ?_;cases sS g.ins.length x.x with
 |true =>
  simp only[zQ,simprocAttr,aQ,bM.cells,o];refine cu mix [] [] ?_;by_cases hs:(x.set.length:Int)=0
  ·have jz:=eq_true hs;have kA:x.set=[]:=List.length_eq_zero_iff.1 ae;simp only[zQ,simprocAttr,aQ,bM.cells,o,jz,bH,ajM];by_cases a1:x.x=0 <;> by_cases a2:x.y=0 <;> by_cases a3:x.n=0 <;> simp [db,o,a1,a2,a3,kA]
  ·have kA:x.set≠[]:=λh=>hs (by rw[h];rfl);simp only[zQ,simprocAttr,aQ,bM.cells,o,hs,bH,ajM];by_cases a1:x.x=0 <;> by_cases a2:x.y=0 <;> by_cases a3:x.n=0 <;> simp [db,o,a1,a2,a3,kA]
 |false =>
  simp only[zQ,simprocAttr,aQ,bM.cells,o];refine cu mix [] [] ?_;simp only[zQ,simprocAttr,aQ,bM.cells,o,bH,ajM,Bool.and_false]
theorem Sc (g:dk) (x:bM) (hl:x.set.length<=1000000000) (hg:g.ins.length<=1000000000) (o:x.op=2):aM prog 106 [sH g,.d (.el x.cells)] (bV (jw g.ins.length g.ai g.aB x)):=by
 have bH:=kO;have hb:jw g.ins.length g.ai g.aB x=(db x&&(sS g.ins.length x.x&&sS g.ins.length x.y)):=by unfold jw oG;simp [o]
 rw[hb];refine bo func106 ntmps106 results106 0 16887 ?_;simp only[zQ,simprocAttr,aQ,bM.cells,o];refine CJ (g:=g) (x:=x.x) hg rfl ?_;cases sS g.ins.length x.x with
 |true =>
  simp only[zQ,simprocAttr,aQ,bM.cells,o];refine CJ (g:=g) (x:=x.y) hg rfl ?_;cases sS g.ins.length x.y with
  |true =>
   simp only[zQ,simprocAttr,aQ,bM.cells,o];refine cu mix [] [(8,[1],[]),(9,[1],[1]),(10,[1],[]),(11,[1],[1])] ?_;simp only[zQ,simprocAttr,aQ,bM.cells,o];refine cu mix [] [] ?_;by_cases hs:(x.set.length:Int)=0
   ·have jz:=eq_true hs;have kA:x.set=[]:=List.length_eq_zero_iff.1 ae;simp only[zQ,simprocAttr,aQ,bM.cells,o,jz,bH,ajM];by_cases a1:x.x=0 <;> by_cases a2:x.y=0 <;> by_cases a3:x.n=0 <;> simp [db,o,a1,a2,a3,kA]
   ·have kA:x.set≠[]:=λh=>hs (by rw[h];rfl);simp only[zQ,simprocAttr,aQ,bM.cells,o,hs,bH,ajM];by_cases a1:x.x=0 <;> by_cases a2:x.y=0 <;> by_cases a3:x.n=0 <;> simp [db,o,a1,a2,a3,kA]
  |false =>
   simp only[zQ,simprocAttr,aQ,bM.cells,o];refine cu mix [] [(8,[1],[]),(9,[1],[1]),(10,[1],[]),(11,[1],[1])] ?_;simp only[zQ,simprocAttr,aQ,bM.cells,o];refine cu mix [] [] ?_;simp only[zQ,simprocAttr,aQ,bM.cells,o,bH,ajM,Bool.and_false]
 |false =>
  simp only[zQ,simprocAttr,aQ,bM.cells,o];refine cu mix [] [(8,[1],[]),(9,[1],[1]),(10,[1],[]),(11,[1],[1])] ?_;simp only[zQ,simprocAttr,aQ,bM.cells,o];refine cu mix [] [] ?_;simp only[zQ,simprocAttr,aQ,bM.cells,o,bH,ajM,Bool.and_false,Bool.false_and]
theorem TI (g:dk) (x:bM) (hl:x.set.length<=1000000000) (o:x.op=5):aM prog 106 [sH g,.d (.el x.cells)] (bV (jw g.ins.length g.ai g.aB x)):=by
 have bH:=kO;have hb:jw g.ins.length g.ai g.aB x=(db x&&decide (0<=x.n/\x.n<=5)):=by unfold jw oG;simp [o]
 rw[hb];refine bo func106 ntmps106 results106 0 16887 ?_;by_cases n0:0<=x.n
 ·by_cases n1:x.n<=5
  ·rw[bi ⟨n0,n1⟩];simp only[zQ,simprocAttr,aQ,bM.cells,o,n0,n1];refine cu mix [] [] ?_;by_cases hs:(x.set.length:Int)=0
   ·have jz:=eq_true hs;have kA:x.set=[]:=List.length_eq_zero_iff.1 ae;simp only[zQ,simprocAttr,aQ,bM.cells,o,jz,bH,ajM];by_cases a1:x.x=0 <;> by_cases a2:x.y=0 <;> by_cases a3:x.n=0 <;> simp [db,jw,oG,a1,a2,a3,kA,o]
   ·have kA:x.set≠[]:=λh=>hs (by rw[h];rfl);simp only[zQ,simprocAttr,aQ,bM.cells,o,hs,bH,ajM];by_cases a1:x.x=0 <;> by_cases a2:x.y=0 <;> by_cases a3:x.n=0 <;> simp [db,jw,oG,a1,a2,a3,kA,o]
  ·rw[ce (λh=>n1 h.2)];simp only[zQ,simprocAttr,aQ,bM.cells,o,n0,n1];refine cu mix [] [] ?_;simp only[zQ,simprocAttr,aQ,bM.cells,o,n0,n1,Bool.and_false]
 ·rw[ce (λh=>n0 h.1)];simp only[zQ,simprocAttr,aQ,bM.cells,o,n0];refine cu mix [] [] ?_;simp only[zQ,simprocAttr,aQ,bM.cells,o,n0,Bool.and_false]
theorem TC (g:dk) (x:bM) (hl:x.set.length<=1000000000) (OX:0<=g.ai) (wJ:g.ai<=9) (o:x.op=4):aM prog 106 [sH g,.d (.el x.cells)] (bV (jw g.ins.length g.ai g.aB x)):=by
 have bH:=kO;have w1:IntKind.i64.wrap (2*g.ai)=2*g.ai:=bG _ ae;have w2:IntKind.i64.wrap (2*g.ai-1)=2*g.ai-1:=bG _ ae;have hb:jw g.ins.length g.ai g.aB x=(db x&&decide (0<=x.n/\x.n<2*g.ai)):=by unfold jw oG;simp [o]
 rw[hb];refine bo func106 ntmps106 results106 0 16887 ?_;by_cases n0:0<=x.n
 ·by_cases n1:x.n<=2*g.ai-1
  ·rw[bi ⟨n0,ae⟩];simp only[zQ,simprocAttr,aQ,bM.cells,o];refine cu mix [] [] ?_;simp only[zQ,simprocAttr,aQ,bM.cells,o,n0,n1,w1,w2];refine cu mix [] [] ?_;by_cases hs:(x.set.length:Int)=0
   ·have jz:=eq_true hs;have kA:x.set=[]:=List.length_eq_zero_iff.1 ae;simp only[zQ,simprocAttr,aQ,bM.cells,o,jz,bH,ajM];by_cases a1:x.x=0 <;> by_cases a2:x.y=0 <;> by_cases a3:x.n=0 <;> simp [db,jw,oG,a1,a2,a3,kA,o]
   ·have kA:x.set≠[]:=λh=>hs (by rw[h];rfl);simp only[zQ,simprocAttr,aQ,bM.cells,o,hs,bH,ajM];by_cases a1:x.x=0 <;> by_cases a2:x.y=0 <;> by_cases a3:x.n=0 <;> simp [db,jw,oG,a1,a2,a3,kA,o]
  ·rw[ce (λh=>n1 ae)];simp only[zQ,simprocAttr,aQ,bM.cells,o];refine cu mix [] [] ?_;simp only[zQ,simprocAttr,aQ,bM.cells,o,n0,n1,w1,w2];refine cu mix [] [] ?_;simp only[zQ,simprocAttr,aQ,bM.cells,o,n0,n1,Bool.and_false]
 ·rw[ce (λh=>n0 h.1)];simp only[zQ,simprocAttr,aQ,bM.cells,o];refine cu mix [] [] ?_;simp only[zQ,simprocAttr,aQ,bM.cells,o,n0];refine cu mix [] [] ?_;simp only[zQ,simprocAttr,aQ,bM.cells,o,n0,Bool.and_false]
theorem RN (g:dk) (x:bM) (o0:¬x.op=0) (o1:¬x.op=1) (o2:¬x.op=2) (o3:¬x.op=3) (o4:¬x.op=4) (o5:¬x.op=5):aM prog 106 [sH g,.d (.el x.cells)] (bV (jw g.ins.length g.ai g.aB x)):=by
 have hb:jw g.ins.length g.ai g.aB x=false:=by unfold jw oG;simp [o0,o1,o2,o3,o4,o5]
 rw[hb];refine bo func106 ntmps106 results106 0 16887 ?_;simp only[zQ,simprocAttr,aQ,bM.cells,o0,o1,o2,o3,o4,o5];refine cu mix [] [] ?_;simp only[zQ,simprocAttr,aQ,bM.cells,o0,o1,o2,o3,o4,o5]
theorem Sk (g:dk) (x:bM) (hl:x.set.length<=1000000000) (o:x.op=1):aM prog 106 [sH g,.d (.el x.cells)] (bV (jw g.ins.length g.ai g.aB x)):=by
 have bH:=kO;have hv:=Hy x.set hl;simp only[i64]at hv;have hb:jw g.ins.length g.ai g.aB x=(db x&&(decide (zh x.set=0)&&Ua g.aB x.set)):=by unfold jw oG;simp [o]
 have w1:IntKind.i64.wrap ((x.set.length:Int)-1)=(x.set.length:Int)-1:=bG _ ae;rw[hb];refine bo func106 ntmps106 results106 0 16887 ?_;simp only[zQ,simprocAttr,aQ,bM.cells,o];refine dY hv ?_;by_cases e0:zh x.set=0
 ·have e0':=eq_true e0;rw[bi e0,ak5];cases hr:g.aB with
  |true =>
   have hh:Ua true x.set=true:=by simp [Ua]
   rw[hh];simp only[zQ,simprocAttr,aQ,bM.cells,o,e0',hr,w1,ajM,aj4];refine cu mix [] [] ?_;simp only[zQ,simprocAttr,aQ,bM.cells,o,bH,ajM];by_cases a1:x.x=0 <;> by_cases a2:x.y=0 <;> by_cases a3:x.n=0 <;> simp [db,o,a1,a2,a3]
  |false =>
   by_cases l0:0<=(x.set.length:Int)-1
   ·obtain⟨sp,jO⟩:∃sp,x.set[x.set.length-1]?=some sp:=cc;have hh:Ua false x.set=decide (sp.2<=255):=by simp [Ua,jO]
    have ln:((x.set.length:Int)-1).toNat=x.set.length-1:=ae;have lb:(x.set.length:Int)-1<x.set.length:=ae;rw[hh];simp only[zQ,simprocAttr,aQ,bM.cells,o,e0',hr,w1,l0,ln,lb,jO,aT,ajM];by_cases c:sp.2<=255
    ·rw[bi c];rw[aj4];refine cu mix [] [] ?_;simp only[zQ,simprocAttr,aQ,bM.cells,o,bH,ajM];by_cases a1:x.x=0 <;> by_cases a2:x.y=0 <;> by_cases a3:x.n=0 <;> simp [db,o,a1,a2,a3]
    ·rw[ce c];refine cu mix [] [] ?_;simp only[zQ,simprocAttr,aQ,bM.cells,o,bH,ajM,Bool.and_false]
   ·have hn:x.set=[]:=List.length_eq_zero_iff.1 ae;have hh:Ua false x.set=true:=by simp [Ua,hn]
    rw[hh];simp only[zQ,simprocAttr,aQ,bM.cells,o,e0',hr,w1,l0,ajM,aj4];refine cu mix [] [] ?_;simp only[zQ,simprocAttr,aQ,bM.cells,o,bH,ajM];by_cases a1:x.x=0 <;> by_cases a2:x.y=0 <;> by_cases a3:x.n=0 <;> simp [db,o,a1,a2,a3]
 ·rw[ce e0,Bool.false_and];simp only[zQ,simprocAttr,aQ,bM.cells,o,e0,w1,ajM];refine cu mix [] [] ?_;simp only[zQ,simprocAttr,aQ,bM.cells,o,bH,ajM,Bool.and_false]
theorem PY (g:dk) (x:bM) (hl:x.set.length<=1000000000) (hg:g.ins.length<=1000000000) (OX:0<=g.ai) (wJ:g.ai<=9):aM prog 106 [sH g,.d (.el x.cells)] (bV (jw g.ins.length g.ai g.aB x)):=by
 by_cases o0:x.op=0
 ·exact RQ g x hl o0
 by_cases o1:x.op=1
 ·exact Sk g x hl o1
 by_cases o2:x.op=2
 ·exact Sc g x hl hg o2
 by_cases o3:x.op=3
 ·exact T9 g x hl hg o3
 by_cases o4:x.op=4
 ·exact TC g x hl OX wJ o4
 by_cases o5:x.op=5
 ·exact TI g x hl o5
 exact RN g x o0 o1 o2 o3 o4 o5
theorem Ti {α:Type}{p:α->Bool}{l:List α}{i:Nat}{x:α} (hx:l[i]?=some x) (h:(l.take i).all p=true) (hp:p x=true):(l.take (i+1)).all p=true:=by rw[bm hx,akZ,h];simp [hp]
theorem xJ (g:dk) (hs:g.ins.length<=1000000000) (hl:∀x∈g.ins,x.set.length<=1000000000):aM prog 83 [sH g] (i64 (m9 g)):=by
 have agG:(⟨0,true,3,[[.d (.sl (g.ins.map bM.cells)),.d (.sc (.int .i64 g.ai)),.d (.sc (.bool g.aB))]]⟩:VL.Obj)=np g:=rfl;unfold m9;refine bo func83 ntmps83 results83 0 52776608464911 ?_;by_cases c1:8192<g.ins.length
 ·have K6:(8192:Int)<g.ins.length:=by omega
  rw[be c1];simp only[zQ,simprocAttr,aQ,K6,ajM]
 rw[ap c1];have K6:¬(8192:Int)<g.ins.length:=ae;by_cases c2:g.ins.length=0\/g.ai<0\/9<g.ai
 ·rw[be c2];by_cases d1:g.ai<0
  ·simp only[zQ,simprocAttr,aQ,K6,d1,ajM]
  ·by_cases d2:9<g.ai
   ·simp only[zQ,simprocAttr,aQ,K6,d1,d2,ajM]
   ·have d3:=eq_true (show (g.ins.length:Int)=0 by omega);simp only[zQ,simprocAttr,aQ,K6,d1,d2,d3,ajM]
 rw[ap c2];have d1:¬g.ai<0:=ae;have d2:¬9<g.ai:=ae;have d3:¬(g.ins.length:Int)=0:=ae;simp only[zQ,simprocAttr,aQ,K6,d1,d2,d3,ajM];refine aw (λn e s=>∃i:Nat,n=g.ins.length-i/\i<=g.ins.length/\e 1=.rf 0 0 0 0/\e 24=i64 g.ins.length/\e 25=i64 i/\(g.ins.take i).all (jw g.ins.length g.ai g.aB)=true/\s=[np g])
  ⟨_,_,_,bA.refl,0,rfl,ae,rfl,rfl,rfl,rfl,rfl⟩ ?_
 rintro n e s ⟨i,rfl,hi,h1,Rq,h25,bX,rfl⟩;rcases akd i g.ins.length with az|gx
 ·obtain⟨x,hx⟩:∃x,g.ins[i]?=some x:=cc az;have aA:(i:Int)<g.ins.length:=ae;have hp:=PY g x (hl x (List.mem_of_getElem? hx)) hs ae ae;simp only[aQ,i64,bV,iD,bD]at hp;simp only[zQ,simprocAttr,np,h1,Rq,h25,aA,hx,ajM];refine cu mix [] [] ?_;simp only[zQ,simprocAttr,np,h1,Rq,h25,aA,hx,ajM];refine⟨rfl,Fk hp ?_⟩;cases hB:jw g.ins.length g.ai g.aB x with
  |true =>
   simp only[zQ,simprocAttr,np,h1,Rq,h25,aA,hx,ajM];refine⟨g.ins.length-(i+1),_,_,ae,bA.refl,i+1,rfl,az,?_,?_,?_,Ti hx bX hB,rfl⟩ <;> (try simp only[zU,pZ,jN,oN,oV,reduceIte])
   ·exact h1
   ·exact Rq
   ·rw[bG _ ae];rfl
  |false =>
   have hn:¬g.ins.all (jw g.ins.length g.ai g.aB)=true:=λh=>by have:=List.all_eq_true.1 h x (List.mem_of_getElem? hx);rw[hB]at this;cases this
   rw[ap hn];simp only[zQ,simprocAttr,np,h1,Rq,h25,aA,hx,ajM]
 ·have dX:i=g.ins.length:=by omega
  subst dX;rw[akg]at bX;rw[be bX];have aA:¬(g.ins.length:Int)<g.ins.length:=ae;have w1:IntKind.i64.wrap ((g.ins.length:Int)-1)=((g.ins.length-1:Nat):Int):=by rw[bG _ ae];omega
  have hb:((g.ins.length-1:Nat):Int)<g.ins.length:=ae;obtain⟨x,hx⟩:∃x,g.ins[g.ins.length-1]?=some x:=cc;have hlo:rl g=x.op:=by unfold rl;rw[hx]
  rw[hlo];simp only[zQ,simprocAttr,np,h1,Rq,h25,aA,w1,hb,hx,bM.cells,ajM];have AY:=List.all_eq_true.1 bX x (List.mem_of_getElem? hx);by_cases o0:x.op=0
  ·rw[bd];have o0':=eq_true o0;simp only[zQ,simprocAttr,o0']
  by_cases o2:x.op=2
  ·rw[bd];have o2':=eq_true o2;simp only[zQ,simprocAttr,o0,o2']
  by_cases o3:x.op=3
  ·rw[bd];have UP:=eq_true o3;simp only[zQ,simprocAttr,o0,o2,UP]
  have dA:x.op=1\/4<=x.op:=by
   by_cases o1:x.op=1
   ·exact .inl o1
   by_cases o4:x.op=4
   ·exact .inr ae
   by_cases o5:x.op=5
   ·exact .inr ae
   unfold jw oG at AY;simp [o0,o1,o2,o3,o4,o5]at AY
  rw[be dA];simp only[zQ,simprocAttr,o0,o2,o3]
theorem zn (g:dk) (hg:g.eF) (t:List Int) (at_:Int) (Gw:0<=at_):(mr g t at_ at_).2.2=SP g t at_:=by
 have hlen:=hg.BA;have gL:(bh g).ok g:=⟨by simp [bh],ajZ _⟩
 have hinv:(bh g).inv g at_:=by
  refine⟨gL,?_,λx hx=>by simp [dK.list,bh]at hx⟩;have:=nf at_ (bh g).marks;have h':(bh g).marks.length=g.ins.length:=by simp [bh]
  show 0+zl at_ (bh g).marks<=_;omega
 have bH:fB g t at_ at_ false (bh g)=gI g t at_ at_ (qb g) 0 (fi g) (bh g):=be ⟨akc _,rfl⟩;have h0:Dh g at_ at_ (bh g) (ts g):=LQ g at_ at_ _ [] 0 ak (λm hm=>by rw[(List.mem_replicate.1 hm).2];exact Gw);refine JW (ij g) g hg t rfl rfl at_ (t.length+1) at_ false (bh g) ([],0) (false,none) (UB g t at_) (akc _) rfl ?_ ?_
 ·rw[bH];exact mf g hg t at_ at_ _ _ _ _ hinv (akc _) ae (by simp [fi])
 ·rw[bH];exact rz g hg t at_ at_ (qb g) 0 (fi g) (bh g) (ts g) gL h0 (akc _) ae
theorem Pu (g:dk) (t:List Int) (hs:g.ins.length<=1000000000) (hl:∀x∈g.ins,x.set.length<=1000000000) (h:m9 g≠0\/65536<t.length):aM prog 41 [sH g,.d (ao t)] (.tu [.d (.sc (.pointer none)),i64 (if m9 g≠0 then m9 g else 4)]):=by
 have hv:=xJ g hs hl;generalize m9 g=E at *;simp only[aQ,i64,iD,bD]at hv;by_cases he:E=0
 ·have vV:=eq_true he;have ht:(65536:Int)<t.length:=ae;rw[ap (λh=>h he)];refine bo func41 ntmps41 results41 0 119 ?_;simp only[zQ,simprocAttr,aQ];refine dY hv ?_;simp only[zQ,simprocAttr,aQ,vV,ht,ao,ajM,ne_eq,not_true_eq_false,decide_false]
 ·rw[be he];refine bo func41 ntmps41 results41 0 119 ?_;simp only[zQ,simprocAttr,aQ];refine dY hv ?_;simp only[zQ,simprocAttr,aQ,he,ne_eq,not_false_eq_true,decide_true]
theorem Qi (g:dk) (t:List Int) (hg:g.eF) (hl:∀x∈g.ins,x.set.length<=1000000000) (h:m9 g=0) (ht:t.length<=65536):ar prog 41 [sH g,.d (ao t)] [] λv s=>v=.tu [.rf 0 1 0 0,i64 0]/\s=[jf g t,lM (List.replicate g.ins.length 0)]:=by have hgl:=hg.Du;have hv:=xJ g ae hl;rw[h]at hv;simp only[aQ,i64,iD,bD]at hv;have ht':¬(65536:Int)<t.length:=ae;refine zE func41 rfl ntmps41 results41 rfl 0 119 ak ak ?_;simp only[zQ,simprocAttr,aQ];refine dY hv ?_;simp only[zQ,simprocAttr,aQ,ht',ao,ajM,ne_eq,not_true_eq_false,decide_false];refine aX bW.bn ?_;refine aX bW.bn ?_;refine cu mix [] [(5,[1],[1]),(7,[2],[2])] ?_;simp only[zQ,simprocAttr,aQ,ht',ao,ajM,hole,QQ,Cl,v7];refine⟨⟨ae,ae,ae⟩,[2,1],aU,rfl,?_⟩;simp [kx,di,cJ.go,cJ,List.idxOf?,List.findIdx?_cons,jf,lM,i64,bV,ao,iD]
theorem MA {g:dk}{t:List Int} (hg:g.eF) (hl:∀x∈g.ins,x.set.length<=1000000000) (h:m9 g=0) (ht:t.length<=65536)
  (hk:K (.tu [.rf s.length 1 0 0,i64 0]) (s++[ca g t (s.length+1) (bh g),lM (List.replicate g.ins.length 0)])):ar prog 41 [sH g,.d (ao t)] s K:=by
 refine g9 (Qi g t hg hl h ht) [] rfl ak (λk o h=>by simp at h) (by simp [aQ,aE,aE.go,i64,bV]) (by simp [aQ,aj,aj.go,i64,bV]) rfl ?_;rintro v s' ⟨rfl,rfl⟩ _;have e1:aE (pY [] s [] [jf g t,lM (List.replicate g.ins.length 0)]) (.tu [.rf 0 1 0 0,i64 0])=.tu [.rf s.length 1 0 0,i64 0]:=by simp [pY,aE,aE.go,i64]
 have e2:aN (pY [] s [] [jf g t,lM (List.replicate g.ins.length 0)]) (jf g t)=ca g t (s.length+1) (bh g):=by simp [pY,aN,jf,ca,bh,aE,aE.go,i64,bV]
 have e3:aN (pY [] s [] [jf g t,lM (List.replicate g.ins.length 0)]) (lM (List.replicate g.ins.length 0))=lM (List.replicate g.ins.length 0):=by simp [aN,lM,aE,aE.go,i64]
 rw[e1];simp only[ajX,akW,akJ,ajV,ajR,e2,e3,aJ];exact hk
end Go.Proofs.YtjjfioalgbecmaaGreat
namespace Go.Proofs.YtjjfioalgbecmaaGreat
open Go.VL Go.Proofs.Tryz
end Go.Proofs.YtjjfioalgbecmaaGreat
namespace Go.Proofs.YtjjfioalgbecmaaGreat
open Go.VL Go.Proofs.Tryz
end Go.Proofs.YtjjfioalgbecmaaGreat
namespace Go.Proofs.YtjjfioalgbecmaaGreat
open Go.VL Go.Proofs.Tryz
structure RNd (st:JI):Prop where
 nd:(st.qg.map IG.pc).Nodup
 ad:∀x∈st.qg,0<=x.pc/\st.added.getD x.pc.toNat true=true
inductive Live (g:dk) (t:List Int):Int->Int->Prop
 |done {pc p:Int}:(bu g pc).op=0->Live g t pc p
 |sym {pc p:Int}:(bu g pc).op=1->p<t.length->hasB (bu g pc).set (mG t p)=true->Live g t (pc+1) (p+1)->Live g t pc p
 |left {pc p:Int}:(bu g pc).op=2->Live g t (bu g pc).x p->Live g t pc p
 |right {pc p:Int}:(bu g pc).op=2->Live g t (bu g pc).y p->Live g t pc p
 |jump {pc p:Int}:(bu g pc).op=3->Live g t (bu g pc).x p->Live g t pc p
 |save {pc p:Int}:(bu g pc).op=4->Live g t (pc+1) p->Live g t pc p
 |assert {pc p:Int}:(bu g pc).op=5->bL (bu g pc).n t p=true->Live g t (pc+1) p->Live g t pc p
def Eps (g:dk) (t:List Int) (p a b:Int):Prop :=
 ((bu g a).op=2/\(b=(bu g a).x\/b=(bu g a).y))\/((bu g a).op=3/\b=(bu g a).x)\/((bu g a).op=4/\b=a+1)\/((bu g a).op=5/\bL (bu g a).n t p=true/\b=a+1)
structure RCl (g:dk) (t:List Int) (p:Int) (st st':JI):Prop where
 mono:∀i,st.added.getD i true=true->st'.added.getD i true=true
 ext:∀x∈st.qg,x∈st'.qg
 new:∀i:Int,0<=i->i<g.ins.length->st.added.getD i.toNat true=false->st'.added.getD i.toNat true=true ->
  (∀b,Eps g t p i b->st'.added.getD b.toNat true=true)/\((bu g i).op=0\/(bu g i).op=1->∃x∈st'.qg,x.pc=i)
open Classical in
noncomputable def WT (g:dk) (t:List Int) (p:Int) (x:kE):Bool:=decide (Live g t x.cI p)
open Classical in
noncomputable def WV (g:dk) (t:List Int) (p:Int) (x:IG):Bool:=decide (Live g t x.pc p)
structure ahw (g:dk) (t:List Int) (at_ s0:Int) (st:dK) (r:JI):Prop where
 added:r.added.length=g.ins.length
 marks:st.closed=false->∀i:Nat,i<g.ins.length->Live g t i at_->(st.marks.getD i 0=at_+1 ↔ r.added.getD i true=true)
 list:(st.list.filter (WT g t at_)).map kE.Vz=(gN g r.qg).1.filter (WV g t at_)
 done:st.closed=(gN g r.qg).2
 last:st.closed=true->∃l x,st.list=l++[x]/\(bu g x.cI).op=0
 afT:∀x∈st.list,x.from_<=s0
 afJ:∀x∈st.list,Live g t x.cI at_->x.from_=s0
 le:∀m∈st.marks,m<=at_+1
structure ahs (g:dk) (t:List Int) (a s0:Int) (st:dK) (l:AF):Prop where
 split:∃P C,st.list=P++C/\(P.filter (WT g t a)).map kE.Vz=(gN g l.st.qg).1.filter (WV g t a)/\(∀x∈P,x.from_<=s0/\(Live g t x.cI a->x.from_=s0))/\(∀x∈C,s0<x.from_) /\
  ((gN g l.st.qg).2=true->C=[]/\∃l' x,P=l'++[x]/\(bu g x.cI).op=0)
 closed:(gN g l.st.qg).2=true->st.closed=true
 le:∀m∈st.marks,m<=a+1
theorem F6 {W:Type} (S:wZ W) (g:dk) (hg:g.eF) (t:List Int) (last:Int):∀(k:Nat) (a:Int) (fd:Bool) (st:dK) (sp:List kE×Nat) (σ:W),st.inv g a->(pt S g t last k a fd st sp σ).1.length=g.ins.length
 |0,_,_,st,_,_,h=>h.ok.len
 |k+1,a,fd,st,sp,σ,h=>by
  have pU:=hg.BA;have hi:(fB g t a last fd st).inv g a:=by
   unfold fB;split
   ·exact mf g hg t a a _ _ _ _ h (akc _) ae (by simp [fi])
   ·exact h
  rw[pt];generalize fB g t a last fd st=bF at *;split
  ·exact hi.ok.len
  ·refine F6 S g hg t last k (a+1) _ _ _ _ (nV g hg t a bF.list _ hi.th ?_);refine⟨⟨hi.ok.len,alf _⟩,?_,λx hx=>by simp [dK.list]at hx⟩;have:=nf (a+1) bF.marks;have:=hi.ok.len;show 0+zl (a+1) bF.marks<=_;omega
theorem NJ (g:dk) (hg:g.eF) (t:List Int) (a last:Int):(mr g t a last).1.length=g.ins.length:=by
 refine F6 _ g hg t last _ a false (bh g) _ _ ⟨⟨by simp [bh],ajZ _⟩,?_,λx hx=>by simp [dK.list,bh]at hx⟩;have:=nf a (bh g).marks;have h':(bh g).marks.length=g.ins.length:=by simp [bh]
 show 0+zl a (bh g).marks<=_;omega
theorem IV (g:dk) (hg:g.eF) (t:List Int) (ht:t.length<=65536) (at_ last:Int) (Gw:0<=at_) (Mc:at_<=t.length) (oT:last<=t.length) (X Y:Nat) (hXY:X≠Y) (marks:List Int) (hm:marks.length=g.ins.length) {s:List VL.Obj}{K:V->List VL.Obj->Prop} (h2:s[X]?=some (ca g t Y (bh g))) (h3:s[Y]?=some (lM marks))
  (hk:K (.tu [(QW (mr g t at_ last).2.2).v,bV (mr g t at_ last).2.2.isSome]) ((s.set X (ca g t Y (bh g))).set Y (lM (mr g t at_ last).1))):ar prog 42 [.rf X 1 0 0,i64 at_,i64 last] s K:=by
 have h:=Qt g hg t ht at_ last Gw Mc oT marks hm;have e0:aN [X,Y] (jf g t)=ca g t Y (bh g):=by simp [aN,jf,ca,bh,aE,aE.go,i64,bV]
 have e1:∀m,aN [X,Y] (lM m)=lM m:=λm=>by simp [aN,lM,aE,aE.go,i64]
 have I5:∀m,aK 2 (lM m)=true:=λm=>by unfold aK;rw[aj3];intro e he;obtain⟨c,hc,rfl⟩:=List.mem_map.1 he;rfl
 have EP:aK 2 (jf g t)=true:=by simp [aK,jf,aj,i64,bV]
 generalize mr g t at_ last=R at *;obtain⟨mk,fl,r⟩:=R;refine cV [X,Y] h (by simp [hXY]) cB ?_ cB cB ?_ (r':=.tu [(QW r).v,bV r.isSome]) ?_ ?_
 ·simp only[ajR,ajV,h2,h3,e0,e1]
 ·simp only[aks,akB,ajW,ajX,ajT,oW,EP,I5,aj4]
 ·simp [aE,aE.go,jy.v,i64,bV]
 ·simp only[ajR,ajV,e0,e1];exact hk
def LX (g:dk) (t:List Int) (i:Nat):List jy:=(SP g t i).toList
def sG (g:dk) (t:List Int) (n:Nat):List jy:=(List.range n).flatMap (LX g t)
theorem zN (g:dk) (t:List Int) (n:Nat):sG g t (n+1)=sG g t n++LX g t n:=by unfold sG;rw[alb,List.flatMap_append];simp
theorem JQ (g:dk) (t:List Int):∀n,(sG g t n).length<=n
 |0=>by simp [sG]
 |n+1=>by
  rw[zN,ajQ];have:=JQ g t n;have:(LX g t n).length<=1:=by unfold LX;cases SP g t n <;> simp
  omega
def ow (g:dk) (t:List Int):List jy×Int:=if Nq g t 0=0 then (sG g t (t.length+1),0) else ([],Nq g t 0)
def TV (m:jy):List D:=[iD m.s,iD m.e,cQ m.c]
def wu (L:List jy):VL.Obj:=⟨L.length,true,3,(L.map TV).map λc=>c.map V.d⟩
theorem OO (n:Nat) (L:List jy):aK n (wu L)=true:=by unfold aK wu;rw[aj3];intro e he;obtain⟨c,hc,rfl⟩:=List.mem_map.1 he;rw[aj3];intro x hx;obtain⟨d,_,rfl⟩:=List.mem_map.1 hx;rfl
theorem Jf (n:Nat) (g:dk):aK n (np g)=true:=by simp [aK,np,aj,i64,bV]
theorem NP (n:Nat) (m:List Int):aK n (lM m)=true:=by unfold aK;rw[aj3];intro e he;obtain⟨c,hc,rfl⟩:=List.mem_map.1 he;rfl
theorem H3 (g:dk) (hs:g.ins.length<=1000000000) (hl:∀x∈g.ins,x.set.length<=1000000000) (t:List Int) (ht:t.length<=1000000000):aM prog 15 [sH g,.d (ao t)] (.tu [.d (.sl ((ow g t).1.map TV)),i64 (ow g t).2]):=by
 by_cases hE:m9 g≠0\/65536<t.length
 ·have hse:=Pu g t hs hl hE;have hr:ow g t=([],if m9 g≠0 then m9 g else 4):=by
   unfold ow Nq;by_cases h0:m9 g≠0
   ·rw[be h0,ap h0];try rw[be h0]
   ·rw[ap h0,ap h0,be (hE.resolve_left h0)];rfl
  rw[hr];have eU:(if m9 g≠0 then m9 g else 4)≠0:=by split <;> omega
  generalize (if m9 g≠0 then m9 g else 4)=E at *;simp only[aQ,i64,iD,bD]at hse;refine bo func15 ntmps15 results15 0 25169911 ?_;simp only[zQ,simprocAttr,aQ];refine dY hse ?_;simp only[zQ,simprocAttr,aQ,eU,ne_eq,not_false_eq_true,decide_true];all_goals exact dW
 ·have NX:m9 g=0:=by
   by_cases h:m9 g=0
   ·exact h
   ·exact(hE (.inl h)).elim
  have ht2:t.length<=65536:=ae;have hg:g.eF:=OT NX;have YS:Nq g t 0=0:=by unfold Nq;rw[ap (λh=>h NX),bd,bd]
  have hr:ow g t=(sG g t (t.length+1),0):=by unfold ow;rw[be YS]
  rw[hr];have wl:IntKind.i64.wrap ((t.length:Int)+1)=(t.length:Int)+1:=bG _ ae;refine bo func15 ntmps15 results15 0 25169911 ?_;simp only[zQ,simprocAttr,aQ];refine MA hg hl NX ht2 ?_;simp only[ajW,ajX,ajN,ajO,ajT,oW];simp only[zQ,simprocAttr,aQ,ao,ajM,ne_eq,not_true_eq_false,decide_false,wl];refine aw (λn e s=>∃(i:Nat) (mk:List Int),n=t.length+1-i/\i<=t.length+1/\mk.length=g.ins.length/\e 6=.rf 1 1 0 0/\e 8=.so 3 (sG g t i).length 0 (sG g t i).length/\e 23=i64 ((t.length:Int)+1)/\e 24=i64 i/\s=[np g,ca g t 2 (bh g),lM mk,wu (sG g t i)])
   ⟨_,_,_,.K4 (fW 8 3 rfl),0,List.replicate g.ins.length 0,rfl,ae,ak,rfl,rfl,rfl,rfl,by simp [np,i64,bV,wu,sG]⟩ ?_
  rintro n e s ⟨i,mk,rfl,hi,Ia,h6,h8,GH,Rq,rfl⟩;rcases akd i (t.length+1) with az|gx
  ·have aA:(i:Int)<(t.length:Int)+1:=by omega
   have hal:=JQ g t i;have has:=zN g t i;have oZ:=NJ g hg t i i;have xu:=λK hk=>IV g hg t ht2 i i ae ae ae 1 2 aU mk Ia (s:=[np g,ca g t 2 (bh g),lM mk,wu (sG g t i)]) (K:=K) rfl rfl hk;rw[zn g hg t i ae]at xu;unfold LX at has;generalize (mr g t i i).1=mk2 at *;generalize SP g t i=R at *;generalize hA:sG g t i=A at *;simp only[zQ,simprocAttr,h6,h8,GH,Rq,aA];refine xu _ ?_;simp only[aj9,akf];cases R with
   |none =>
    simp only[zQ,simprocAttr,h6,h8,GH,Rq,QW,jy.v,Option.getD_none,Option.isSome_none];refine⟨t.length+1-(i+1),_,_,ae,bA.cut (s':=[np g,ca g t 2 (bh g),lM mk2,wu A]) 4 ae rfl ?_ [6,8,23,24] ?_,i+1,mk2,rfl,ae,oZ,?_,?_,?_,?_,?_⟩ <;> (try simp only[zU,pZ,jN,oN,oV,reduceIte])
    ·simp only[aks,akB,Jf,NP,OO,aj4];simp [aK,ca,aj,i64,bV]
    ·simp [bK,aS,aj,h6,h8,GH,Rq,i64]
    ·exact h6
    ·rw[has];simpa using h8
    ·exact GH
    ·rw[bG _ ae];rfl
    ·rw[has];simp
   |some m =>
    have NO:(wu A).g=A.length:=rfl;have Zy:(wu A).sz=3:=rfl;have heA:(wu A).au=(A.map TV).map λc=>c.map V.d:=rfl;have hlA:(wu A).live=true:=rfl;simp only[zQ,simprocAttr,h6,h8,GH,Rq,QW,jy.v,ak2,Option.isSome_some,NO,Zy,heA,hlA,ajM,ajT];have abP:sG g t (i+1)=A++[m]:=by rw[has];rfl
    refine⟨λe he=>by rw[List.mem_singleton.1 he];rfl,⟨ajZ _,ae⟩,t.length+1-(i+1),_,_,ae,bA.cut (s':=[np g,ca g t 2 (bh g),lM mk2,wu (A++[m])]) 4 ae ?_ ?_ [6,8,23,24] ?_,i+1,mk2,rfl,ae,oZ,?_,?_,?_,?_,?_⟩ <;> (try simp only[zU,pZ,jN,oN,oV,reduceIte])
    ·simp only[akO,akW,wu];rw[akb ak];simp [TV,iD]
    ·simp only[aks,akB,Jf,NP,OO,aj4];simp [aK,ca,aj,i64,bV]
    ·simp [bK,aS,aj,h6,GH,i64]
    ·exact h6
    ·rw[abP];simp
    ·exact GH
    ·rw[bG _ ae];rfl
    ·rw[abP]
  ·have dX:i=t.length+1:=by omega
   subst dX;have aA:¬((t.length+1:Nat):Int)<(t.length:Int)+1:=ae;generalize sG g t (t.length+1)=A at *;have NO:(wu A).g=A.length:=rfl;have Zy:(wu A).sz=3:=rfl;have heA:(wu A).au=(A.map TV).map λc=>c.map V.d:=rfl;simp only[zQ,simprocAttr,h6,h8,GH,Rq,aA,NO,Zy,heA];rw[js 7 0 _ _ _ ak,sP];rfl
end Go.Proofs.YtjjfioalgbecmaaGreat
