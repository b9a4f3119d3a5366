/- A part of the proof (F40 F41 F32 F33 F43 F44 F46). -/
import Derived.Test.YtfmdmlfhigocaaaOR13
import Derived.Test.YtfmdmlfhigocaaaOR14
import Derived.Test.YtfmdmlfhigocaaaOR20
import Derived.Test.YtfmdmlfhigocaaaOR23
import Derived.Test.YtfmdmlfhigocaaaOR24
set_option linter.unusedSimpArgs false
set_option linter.unusedVariables false
open Nat renaming reduceShiftRight → cy, reduceMod → cJ, reduceEqDiff → dV, reduceBEq → gV
open Int renaming reduceEq → jT, reduceNatCast' → kd
set_option maxRecDepth 100000
set_option maxHeartbeats 80000000
namespace Go.Proofs.Ytfmdmlfhigocaaa
open Go.VL Go.Proofs.Try
variable{s:List VL.Obj}{lim:Nat}
theorem lu (op mn mx mode n:Int) (set:List (Int×Int)) (kids:List Re) (neg:Bool):kj (.mk op set kids mn mx mode n neg)=.ag [.d (iD op),.d (.sl (set.map aU)),.d (.sl (kids.map Re.cells)),.d (iD mn),.d (iD mx),.d (iD mode),.d (iD n),.d (bD neg)]:=by rw[aq];rfl
theorem cV {id g lo n sz:Nat}{live:Bool}{aw:List (List V)}{ds:List (List D)} (ho:s[id]?=some ⟨g,live,sz,aw⟩) (he:(aw.drop lo).take n=ds.map (λc=>c.map V.d)) (hn:lo+n<=aw.length) (hl:lim<=id\/live=false) :
  bm lim s (.so id g lo n)=some (.d (.sl ds)):=by
 simp only[bm,cR,ho,true_and];rw[be ⟨hn,hl⟩,he,oV];rfl
theorem eT {P:Program}{f:FuncId}{args cargs:List V}{r:V}{K:V->List VL.Obj->Prop} (ids:List Nat) (h:aM P f cargs r) (hc:bm.go (bA s ids).length (bA s ids) args=some cargs) (ha:ak.go 0 cargs=true) (hr:ak 0 r=true) (hk:K r (bA s ids)):az P f args s K :=
 bL ids hc (bp h ha hr hk)
theorem Re.NF (l:List Re):Re.bT (l.drop 1)<=Re.bT l:=by
 cases l with
 |nil=>simp
 |cons k l=>simp [Re.bT]
theorem od {l:List (List D)}{n:Nat} (hn:l.length<=n):((l.map λc=>c.map V.d).drop 0).take n=l.map (λc=>c.map V.d):=by rw[ajQ,ajb (by simpa using hn)]
theorem ye{y op mn mx mode n neg:D}{l:List V}{r:List V}{a b a' b':V} (ha:bm lim s a=some a') (hb:bm lim s b=some b') (hl:bm.go lim s l=some r) :
  bm.go lim s [.ag l,.d y,.ag [.d op,a,b,.d mn,.d mx,.d mode,.d n,.d neg]]=some [.ag r,.d y,.ag [.d op,a',b',.d mn,.d mx,.d mode,.d n,.d neg]]:=by
 simp only[bm.go,bm,ha,hb,hl,ai3]
theorem QS (c:Nat) (hc:c<=40000) (p:eJ) (hp:p.small c) (tat CQ lU:Int) (ha:fx tat) (hh:fx CQ) (hb:fx lU):∃p':eJ,p'.small (2*c+1)/\aM prog 24 [aE p,i64 tat,i64 CQ,i64 lU] (aE p'):=by
 obtain⟨re,ai,aF⟩:=p;have uS:re.every (fl c)=true:=hp.ev;have fY:re.size<=c:=hp.sz;have kR:fx ai:=hp.ai;have hf:=ts ae re uS;have kI:=Mq re ae;have ki:(re.paths.length:Int)=re.size:=by rw[Re.Aw]
 have lQ:=re.size_pos;have Jv:=gQ tat re.size ae ha;have iU:=eA tat re.size ae ha;obtain⟨path,qO⟩:∃q,re.paths[(cZ tat re.size).toNat]?=some q:=bZ;have wZ:=Ta path re hf;have adO:=LF (xV c) path re uS;have La:=Pw path re;have cU:=λx=>QM x path re hf;have key:∀(x:Re) (cp:Int) (rn:Bool),x.every (fl (c+1))=true->x.size<=c+1->fx cp->(⟨(re.pY path x).1,cp,rn⟩:eJ).small (2*c+1):=by intro x cp rn h1 h2 h3;refine⟨HN (Eo _) (xV _) (dN (ue ae) x h1) path re (dN (ue ae) re uS),?_,h3⟩;have:=JS x path re;show (re.pY path x).1.size<=_;omega
 generalize re.atR path=nd at *;generalize re.pY path=pr at *;generalize re.paths=ps at *;obtain⟨⟨op,set,kids,mn,mx,mode,n,neg⟩,ne⟩:=nd;obtain⟨n1,n2⟩:=(Re.av _).1 adO;obtain⟨⟨n3,n4,n5,n6,n7,n8,n9⟩,KV⟩:=je.1 n1
 replace n2:∀k∈kids,k.every (fl c)=true:=n2
 replace n3:set.length<=c:=n3
 replace n4:kids.length<=c:=n4
 replace n5:fx op:=n5
 replace n6:fx mn:=n6
 replace n7:fx mx:=n7
 replace n8:fx mode:=n8
 replace n9:fx n:=n9
 replace KV:∀s∈set,fx s.1/\fx s.2:=KV
 replace La:1+Re.bT kids<=re.size:=La
 have im:=gQ CQ 12 ae hh;have af3:=eA CQ 12 ae hh;have oq:cZ CQ 12=0\/cZ CQ 12=1\/cZ CQ 12=2\/cZ CQ 12=3\/cZ CQ 12=4\/cZ CQ 12=5\/cZ CQ 12=6\/cZ CQ 12=7\/cZ CQ 12=8\/cZ CQ 12=9\/cZ CQ 12=10\/cZ CQ 12=11:=ae;rw[aq re]at kI wZ cU;rw[lu]at wZ;simp only[i64,iD,bD]at kI wZ cU;have OR:∀k∈kids,k.every (fl (c+1))=true:=λk hk=>dN (ue ae) k (n2 k hk);have fU:∀e∈(set.map aU).map (λx=>x.map V.d),e.length=2:=by intro e he;obtain⟨x,hx,rfl⟩:=List.mem_map.1 he;obtain⟨y,_,rfl⟩:=List.mem_map.1 hx;rfl
 have PY:∀e∈(kids.map Re.cells).map (λx=>x.map V.d),e.length=8:=by intro e he;obtain⟨x,hx,rfl⟩:=List.mem_map.1 he;obtain⟨y,_,rfl⟩:=List.mem_map.1 hx;simp [Re.fW]
 rcases oq with hk|hk|hk|hk|hk|hk|hk|hk|hk|hk|hk|hk
 ·
  rw[hk]at im;have G0:=(eA lU 6 ae hb).1;have gR:=(eA lU 6 ae hb).2;obtain⟨v,hv,oK⟩:=te [lU,-1,12,2,9,4] (cZ lU 6) G0 gR (by intro x hx;simp only[ajF,ajP,or_false]at hx;rcases hx with rfl|rfl|rfl|rfl|rfl|rfl <;> first|exact hb|decide);simp only[aiZ,ai2,iD]at oK;refine⟨⟨(pr (.mk v set kids mn mx mode n neg)).1,ai,aF⟩,key _ _ _ (hZ ae ae ⟨hv,n6,n7,n8,n9⟩ KV OR) (by simp only[Re.size];omega) kR,?_⟩;have cU:=cU (.mk v set kids mn mx mode n neg);rw[lu]at cU;simp only[iD,bD]at cU;generalize pr (.mk v set kids mn mx mode n neg)=R at *;obtain⟨R,E⟩:=R;refine bk func24 ntmps24 results24 0 2199023259423 ?_;simp only[zI,simprocAttr,-kd,aE,Re.ah re,bV,iD,bD,aiZ,ai2];refine bO kI ?_;simp only[zI,simprocAttr,-kd,dD,aiW,ki];refine bO Jv ?_;simp only[zI,simprocAttr,-kd,dD,iU,ki,qO,lD];refine bO wZ ?_;simp only[zI,simprocAttr,-kd,aE,bV,iD,bD];refine⟨fU,⟨ae,aj⟩,PY,⟨ae,aj⟩,?_⟩;refine bO im ?_;simp only[zI,simprocAttr,-kd,aE,bV,iD,bD];refine bO (gQ lU 6 ae hb) ?_;simp only[zI,simprocAttr,-kd,aE,bV,iD,bD,G0,gR,oK];refine⟨ae,?_⟩;refine eT [3,4] cU ?_ eX eX ?_
  ·exact ye (cV (ds:=set.map aU) rfl (od aj) aj (.inr rfl)) (cV (ds:=kids.map Re.cells) rfl (od aj) aj (.inr rfl)) rfl
  simp only[zI,simprocAttr,-kd,aE,bV,iD,bD,bA,bP,Re.ah R,aiZ,ai2]
 ·
  rw[hk]at im;refine⟨⟨(pr (.mk op (set++[(lU,lU)]) kids mn mx mode n neg)).1,ai,aF⟩,key _ _ _ (hZ cG ae ⟨n5,n6,n7,n8,n9⟩ (by intro s hs;rcases List.mem_append.1 hs with hs|hs;exact KV s hs;rw[List.mem_singleton.1 hs];exact⟨hb,hb⟩) OR) (by simp only[Re.size];omega) kR,?_⟩;have cU:=cU (.mk op (set++[(lU,lU)]) kids mn mx mode n neg);rw[lu]at cU;simp only[iD,bD]at cU;generalize pr (.mk op (set++[(lU,lU)]) kids mn mx mode n neg)=R at *;obtain⟨R,E⟩:=R;refine bk func24 ntmps24 results24 0 2199023259423 ?_;simp only[zI,simprocAttr,-kd,aE,Re.ah re,bV,iD,bD,aiZ,ai2];refine bO kI ?_;simp only[zI,simprocAttr,-kd,dD,aiW,ki];refine bO Jv ?_;simp only[zI,simprocAttr,-kd,dD,iU,ki,qO,lD];refine bO wZ ?_;simp only[zI,simprocAttr,-kd,aE,bV,iD,bD];refine⟨fU,⟨ae,aj⟩,PY,⟨ae,aj⟩,?_⟩;refine bO im ?_;simp only[zI,simprocAttr,-kd,aE,bV,iD,bD];refine⟨aj,⟨aj,ae⟩,?_⟩;refine eT [3,4] cU ?_ eX eX ?_
  ·exact ye (cV (ds:=(set++[(lU,lU)]).map aU) rfl (by rw[ajQ,ajb aj,ajb aj];simp [aU,iD]) aj (.inr rfl)) (cV (ds:=kids.map Re.cells) rfl (od aj) aj (.inr rfl)) rfl
  simp only[zI,simprocAttr,-kd,aE,bV,iD,bD,bA,bP,Re.ah R,aiZ,ai2]
 ·
  by_cases h0:0<set.length
  rotate_left
  ·have RM:¬(0:Int)<((0+set.length:Nat):Int):=by omega
   rw[hk]at im;refine⟨⟨(pr (.mk op set kids mn mx mode n neg)).1,ai,aF⟩,key _ _ _ (hZ ae ae ⟨n5,n6,n7,n8,n9⟩ KV OR) (by simp only[Re.size];omega) kR,?_⟩;have cU:=cU (.mk op set kids mn mx mode n neg);rw[lu]at cU;simp only[iD,bD]at cU;generalize pr (.mk op set kids mn mx mode n neg)=R at *;obtain⟨R,E⟩:=R;refine bk func24 ntmps24 results24 0 2199023259423 ?_;simp only[zI,simprocAttr,-kd,aE,Re.ah re,bV,iD,bD,aiZ,ai2];refine bO kI ?_;simp only[zI,simprocAttr,-kd,dD,aiW,ki];refine bO Jv ?_;simp only[zI,simprocAttr,-kd,dD,iU,ki,qO,lD];refine bO wZ ?_;simp only[zI,simprocAttr,-kd,aE,bV,iD,bD];refine⟨fU,⟨ae,aj⟩,PY,⟨ae,aj⟩,?_⟩;refine bO im ?_;simp only[zI,simprocAttr,-kd,aE,bV,iD,bD,RM];refine eT [3,4] cU ?_ eX eX ?_
   ·exact ye (cV (ds:=set.map aU) rfl (od aj) aj (.inr rfl)) (cV (ds:=kids.map Re.cells) rfl (od aj) aj (.inr rfl)) rfl
   simp only[zI,simprocAttr,-kd,aE,bV,iD,bD,bA,bP,Re.ah R,aiZ,ai2]
  ·obtain⟨s0,rest,rfl⟩:∃s0 rest,set=s0::rest:=by
    cases set with
    |nil=>simp at h0
    |cons s0 rest=>exact⟨s0,rest,rfl⟩
   have RM:(0:Int)<((0+(rest.length+1):Nat):Int):=ae;have UQ:0<0+(rest.length+1):=ae;have G0:=(eA lU 5 ae hb).1;have gR:=(eA lU 5 ae hb).2;obtain⟨v,hv,oK⟩:=te [lU,255,256,1114111,1114112] (cZ lU 5) G0 gR (by intro x hx;simp only[ajF,ajP,or_false]at hx;rcases hx with rfl|rfl|rfl|rfl|rfl <;> first|exact hb|decide);simp only[aiZ,ai2,iD]at oK;rw[hk]at im;refine⟨⟨(pr (.mk op ((s0.1,v)::rest) kids mn mx mode n neg)).1,ai,aF⟩,key _ _ _ (hZ (by simp only[ai8]at n3 ⊢;omega) ae ⟨n5,n6,n7,n8,n9⟩ (by intro s hs;rcases List.mem_cons.1 hs with rfl|hs;exact⟨(KV s0 aj).1,hv⟩;exact KV s (by simp [hs])) OR) (by simp only[Re.size];omega) kR,?_⟩;have cU:=cU (.mk op ((s0.1,v)::rest) kids mn mx mode n neg);rw[lu]at cU;simp only[iD,bD]at cU;generalize pr (.mk op ((s0.1,v)::rest) kids mn mx mode n neg)=R at *;obtain⟨R,E⟩:=R;refine bk func24 ntmps24 results24 0 2199023259423 ?_;simp only[zI,simprocAttr,-kd,aE,Re.ah re,bV,iD,bD,aiZ,ai2];refine bO kI ?_;simp only[zI,simprocAttr,-kd,dD,aiW,ki];refine bO Jv ?_;simp only[zI,simprocAttr,-kd,dD,iU,ki,qO,lD];refine bO wZ ?_;simp only[zI,simprocAttr,-kd,aE,bV,iD,bD];refine⟨fU,⟨by simp only[ai8]at n3 ⊢;omega,aj⟩,PY,⟨ae,aj⟩,?_⟩;refine bO im ?_;simp only[zI,simprocAttr,-kd,aE,bV,iD,bD,ai8,RM,aiZ];refine aA mix [10] [] aN ?_;simp only[zI,simprocAttr,-kd,aE,bV,iD,bD,ai8,RM,UQ,aiZ];refine bR (gQ lU 5 ae hb) rfl rfl ?_;simp only[zI,simprocAttr,-kd,aE,bV,iD,bD,ai8,RM,UQ,G0,gR,oK,aiZ,aU];refine⟨ae,?_⟩;refine eT [3,4] cU ?_ eX eX ?_
   ·exact ye (cV (ds:=((s0.1,v)::rest).map aU) rfl (by rw[ajQ,ajb aj];simp [aU,iD]) aj (.inr rfl)) (cV (ds:=kids.map Re.cells) rfl (od aj) aj (.inr rfl)) rfl
   simp only[zI,simprocAttr,-kd,aE,bV,iD,bD,bA,bP,Re.ah R,aiZ,ai2]
 ·
  rw[hk]at im;have G0:=(eA lU 4 ae hb).1;have gR:=(eA lU 4 ae hb).2;obtain⟨v,hv,oK⟩:=te [lU,32,33,-1] (cZ lU 4) G0 gR (by intro x hx;simp only[ajF,ajP,or_false]at hx;rcases hx with rfl|rfl|rfl|rfl <;> first|exact hb|decide);simp only[aiZ,ai2,iD]at oK;refine⟨⟨(pr (.mk op set kids v mx mode n neg)).1,ai,aF⟩,key _ _ _ (hZ ae ae ⟨n5,hv,n7,n8,n9⟩ KV OR) (by simp only[Re.size];omega) kR,?_⟩;have cU:=cU (.mk op set kids v mx mode n neg);rw[lu]at cU;simp only[iD,bD]at cU;generalize pr (.mk op set kids v mx mode n neg)=R at *;obtain⟨R,E⟩:=R;refine bk func24 ntmps24 results24 0 2199023259423 ?_;simp only[zI,simprocAttr,-kd,aE,Re.ah re,bV,iD,bD,aiZ,ai2];refine bO kI ?_;simp only[zI,simprocAttr,-kd,dD,aiW,ki];refine bO Jv ?_;simp only[zI,simprocAttr,-kd,dD,iU,ki,qO,lD];refine bO wZ ?_;simp only[zI,simprocAttr,-kd,aE,bV,iD,bD];refine⟨fU,⟨ae,aj⟩,PY,⟨ae,aj⟩,?_⟩;refine bO im ?_;simp only[zI,simprocAttr,-kd,aE,bV,iD,bD];refine bO (gQ lU 4 ae hb) ?_;simp only[zI,simprocAttr,-kd,aE,bV,iD,bD,G0,gR,oK];refine⟨ae,?_⟩;refine eT [3,4] cU ?_ eX eX ?_
  ·exact ye (cV (ds:=set.map aU) rfl (od aj) aj (.inr rfl)) (cV (ds:=kids.map Re.cells) rfl (od aj) aj (.inr rfl)) rfl
  simp only[zI,simprocAttr,-kd,aE,bV,iD,bD,bA,bP,Re.ah R,aiZ,ai2]
 ·
  rw[hk]at im;have G0:=(eA lU 6 ae hb).1;have gR:=(eA lU 6 ae hb).2;obtain⟨v,hv,oK⟩:=te [lU,32,33,-1,-2,0] (cZ lU 6) G0 gR (by intro x hx;simp only[ajF,ajP,or_false]at hx;rcases hx with rfl|rfl|rfl|rfl|rfl|rfl <;> first|exact hb|decide);simp only[aiZ,ai2,iD]at oK;refine⟨⟨(pr (.mk op set kids mn v mode n neg)).1,ai,aF⟩,key _ _ _ (hZ ae ae ⟨n5,n6,hv,n8,n9⟩ KV OR) (by simp only[Re.size];omega) kR,?_⟩;have cU:=cU (.mk op set kids mn v mode n neg);rw[lu]at cU;simp only[iD,bD]at cU;generalize pr (.mk op set kids mn v mode n neg)=R at *;obtain⟨R,E⟩:=R;refine bk func24 ntmps24 results24 0 2199023259423 ?_;simp only[zI,simprocAttr,-kd,aE,Re.ah re,bV,iD,bD,aiZ,ai2];refine bO kI ?_;simp only[zI,simprocAttr,-kd,dD,aiW,ki];refine bO Jv ?_;simp only[zI,simprocAttr,-kd,dD,iU,ki,qO,lD];refine bO wZ ?_;simp only[zI,simprocAttr,-kd,aE,bV,iD,bD];refine⟨fU,⟨ae,aj⟩,PY,⟨ae,aj⟩,?_⟩;refine bO im ?_;simp only[zI,simprocAttr,-kd,aE,bV,iD,bD];refine bO (gQ lU 6 ae hb) ?_;simp only[zI,simprocAttr,-kd,aE,bV,iD,bD,G0,gR,oK];refine⟨ae,?_⟩;refine eT [3,4] cU ?_ eX eX ?_
  ·exact ye (cV (ds:=set.map aU) rfl (od aj) aj (.inr rfl)) (cV (ds:=kids.map Re.cells) rfl (od aj) aj (.inr rfl)) rfl
  simp only[zI,simprocAttr,-kd,aE,bV,iD,bD,bA,bP,Re.ah R,aiZ,ai2]
 ·
  rw[hk]at im;have G0:=(eA lU 4 ae hb).1;have gR:=(eA lU 4 ae hb).2;obtain⟨v,hv,oK⟩:=te [lU,2,3,-1] (cZ lU 4) G0 gR (by intro x hx;simp only[ajF,ajP,or_false]at hx;rcases hx with rfl|rfl|rfl|rfl <;> first|exact hb|decide);simp only[aiZ,ai2,iD]at oK;refine⟨⟨(pr (.mk op set kids mn mx v n neg)).1,ai,aF⟩,key _ _ _ (hZ ae ae ⟨n5,n6,n7,hv,n9⟩ KV OR) (by simp only[Re.size];omega) kR,?_⟩;have cU:=cU (.mk op set kids mn mx v n neg);rw[lu]at cU;simp only[iD,bD]at cU;generalize pr (.mk op set kids mn mx v n neg)=R at *;obtain⟨R,E⟩:=R;refine bk func24 ntmps24 results24 0 2199023259423 ?_;simp only[zI,simprocAttr,-kd,aE,Re.ah re,bV,iD,bD,aiZ,ai2];refine bO kI ?_;simp only[zI,simprocAttr,-kd,dD,aiW,ki];refine bO Jv ?_;simp only[zI,simprocAttr,-kd,dD,iU,ki,qO,lD];refine bO wZ ?_;simp only[zI,simprocAttr,-kd,aE,bV,iD,bD];refine⟨fU,⟨ae,aj⟩,PY,⟨ae,aj⟩,?_⟩;refine bO im ?_;simp only[zI,simprocAttr,-kd,aE,bV,iD,bD];refine bO (gQ lU 4 ae hb) ?_;simp only[zI,simprocAttr,-kd,aE,bV,iD,bD,G0,gR,oK];refine⟨ae,?_⟩;refine eT [3,4] cU ?_ eX eX ?_
  ·exact ye (cV (ds:=set.map aU) rfl (od aj) aj (.inr rfl)) (cV (ds:=kids.map Re.cells) rfl (od aj) aj (.inr rfl)) rfl
  simp only[zI,simprocAttr,-kd,aE,bV,iD,bD,bA,bP,Re.ah R,aiZ,ai2]
 ·
  rw[hk]at im;have G0:=(eA lU 5 ae hb).1;have gR:=(eA lU 5 ae hb).2;obtain⟨v,hv,oK⟩:=te [lU,0,1,5,6] (cZ lU 5) G0 gR (by intro x hx;simp only[ajF,ajP,or_false]at hx;rcases hx with rfl|rfl|rfl|rfl|rfl <;> first|exact hb|decide);simp only[aiZ,ai2,iD]at oK;refine⟨⟨(pr (.mk op set kids mn mx mode v neg)).1,ai,aF⟩,key _ _ _ (hZ ae ae ⟨n5,n6,n7,n8,hv⟩ KV OR) (by simp only[Re.size];omega) kR,?_⟩;have cU:=cU (.mk op set kids mn mx mode v neg);rw[lu]at cU;simp only[iD,bD]at cU;generalize pr (.mk op set kids mn mx mode v neg)=R at *;obtain⟨R,E⟩:=R;refine bk func24 ntmps24 results24 0 2199023259423 ?_;simp only[zI,simprocAttr,-kd,aE,Re.ah re,bV,iD,bD,aiZ,ai2];refine bO kI ?_;simp only[zI,simprocAttr,-kd,dD,aiW,ki];refine bO Jv ?_;simp only[zI,simprocAttr,-kd,dD,iU,ki,qO,lD];refine bO wZ ?_;simp only[zI,simprocAttr,-kd,aE,bV,iD,bD];refine⟨fU,⟨ae,aj⟩,PY,⟨ae,aj⟩,?_⟩;refine bO im ?_;simp only[zI,simprocAttr,-kd,aE,bV,iD,bD];refine bO (gQ lU 5 ae hb) ?_;simp only[zI,simprocAttr,-kd,aE,bV,iD,bD,G0,gR,oK];refine⟨ae,?_⟩;refine eT [3,4] cU ?_ eX eX ?_
  ·exact ye (cV (ds:=set.map aU) rfl (od aj) aj (.inr rfl)) (cV (ds:=kids.map Re.cells) rfl (od aj) aj (.inr rfl)) rfl
  simp only[zI,simprocAttr,-kd,aE,bV,iD,bD,bA,bP,Re.ah R,aiZ,ai2]
 ·
  rw[hk]at im;refine⟨⟨(pr (.mk op set kids mn mx mode n (!neg))).1,ai,aF⟩,key _ _ _ (hZ ae ae ⟨n5,n6,n7,n8,n9⟩ KV OR) (by simp only[Re.size];omega) kR,?_⟩;have cU:=cU (.mk op set kids mn mx mode n (!neg));rw[lu]at cU;simp only[iD,bD]at cU;generalize pr (.mk op set kids mn mx mode n (!neg))=R at *;obtain⟨R,E⟩:=R;refine bk func24 ntmps24 results24 0 2199023259423 ?_;simp only[zI,simprocAttr,-kd,aE,Re.ah re,bV,iD,bD,aiZ,ai2];refine bO kI ?_;simp only[zI,simprocAttr,-kd,dD,aiW,ki];refine bO Jv ?_;simp only[zI,simprocAttr,-kd,dD,iU,ki,qO,lD];refine bO wZ ?_;simp only[zI,simprocAttr,-kd,aE,bV,iD,bD];refine⟨fU,⟨ae,aj⟩,PY,⟨ae,aj⟩,?_⟩;refine bO im ?_;simp only[zI,simprocAttr,-kd,aE,bV,iD,bD];refine eT [3,4] cU ?_ eX eX ?_
  ·exact ye (cV (ds:=set.map aU) rfl (od aj) aj (.inr rfl)) (cV (ds:=kids.map Re.cells) rfl (od aj) aj (.inr rfl)) rfl
  simp only[zI,simprocAttr,-kd,aE,bV,iD,bD,bA,bP,Re.ah R,aiZ,ai2]
 ·
  rw[hk]at im;refine⟨⟨(pr (.mk op set (kids++[gi]) mn mx mode n neg)).1,ai,aF⟩,key _ _ _ (hZ ae cG ⟨n5,n6,n7,n8,n9⟩ KV (by intro k hk;rcases List.mem_append.1 hk with hk|hk;exact OR k hk;rw[List.mem_singleton.1 hk];exact xV _)) (by simp only[Re.size,Re.gX,Re.bT,gi];omega) kR,?_⟩;have cU:=cU (.mk op set (kids++[gi]) mn mx mode n neg);rw[lu]at cU;simp only[iD,bD]at cU;generalize pr (.mk op set (kids++[gi]) mn mx mode n neg)=R at *;obtain⟨R,E⟩:=R;refine bk func24 ntmps24 results24 0 2199023259423 ?_;simp only[zI,simprocAttr,-kd,aE,Re.ah re,bV,iD,bD,aiZ,ai2];refine bO kI ?_;simp only[zI,simprocAttr,-kd,dD,aiW,ki];refine bO Jv ?_;simp only[zI,simprocAttr,-kd,dD,iU,ki,qO,lD];refine bO wZ ?_;simp only[zI,simprocAttr,-kd,aE,bV,iD,bD];refine⟨fU,⟨ae,aj⟩,PY,⟨ae,aj⟩,?_⟩;refine bO im ?_;simp only[zI,simprocAttr,-kd,aE,bV,iD,bD];refine⟨aj,⟨aj,ae⟩,?_⟩;refine eT [3,4] cU ?_ eX eX ?_
  ·exact ye (cV (ds:=set.map aU) rfl (od aj) aj (.inr rfl)) (cV (ds:=(kids++[gi]).map Re.cells) rfl (by rw[ajQ,ajb aj,ajb aj];simp [gi,Re.cells,Re.AJ,iD,bD]) aj (.inr rfl)) rfl
  simp only[zI,simprocAttr,-kd,aE,bV,iD,bD,bA,bP,Re.ah R,aiZ,ai2]
 ·
  by_cases h0:0<kids.length
  rotate_left
  ·have RM:¬(0:Int)<((0+kids.length:Nat):Int):=by omega
   rw[hk]at im;refine⟨⟨(pr (.mk op set kids mn mx mode n neg)).1,ai,aF⟩,key _ _ _ (hZ ae ae ⟨n5,n6,n7,n8,n9⟩ KV OR) (by simp only[Re.size];omega) kR,?_⟩;have cU:=cU (.mk op set kids mn mx mode n neg);rw[lu]at cU;simp only[iD,bD]at cU;generalize pr (.mk op set kids mn mx mode n neg)=R at *;obtain⟨R,E⟩:=R;refine bk func24 ntmps24 results24 0 2199023259423 ?_;simp only[zI,simprocAttr,-kd,aE,Re.ah re,bV,iD,bD,aiZ,ai2];refine bO kI ?_;simp only[zI,simprocAttr,-kd,dD,aiW,ki];refine bO Jv ?_;simp only[zI,simprocAttr,-kd,dD,iU,ki,qO,lD];refine bO wZ ?_;simp only[zI,simprocAttr,-kd,aE,bV,iD,bD];refine⟨fU,⟨ae,aj⟩,PY,⟨ae,aj⟩,?_⟩;refine bO im ?_;simp only[zI,simprocAttr,-kd,aE,bV,iD,bD,RM];refine eT [3,4] cU ?_ eX eX ?_
   ·exact ye (cV (ds:=set.map aU) rfl (od aj) aj (.inr rfl)) (cV (ds:=kids.map Re.cells) rfl (od aj) aj (.inr rfl)) rfl
   simp only[zI,simprocAttr,-kd,aE,bV,iD,bD,bA,bP,Re.ah R,aiZ,ai2]
  ·have RM:(0:Int)<((0+kids.length:Nat):Int):=by omega
   have hsd:=Re.NF kids;have hle:0+(0+kids.length)<=kids.length:=ae;rw[hk]at im;refine⟨⟨(pr (.mk op set (kids.drop 1) mn mx mode n neg)).1,ai,aF⟩,key _ _ _ (hZ ae cG ⟨n5,n6,n7,n8,n9⟩ KV (λk hk=>OR k (akk hk))) (by simp only[Re.size];omega) kR,?_⟩;have cU:=cU (.mk op set (kids.drop 1) mn mx mode n neg);rw[lu]at cU;simp only[iD,bD]at cU;generalize pr (.mk op set (kids.drop 1) mn mx mode n neg)=R at *;obtain⟨R,E⟩:=R;refine bk func24 ntmps24 results24 0 2199023259423 ?_;simp only[zI,simprocAttr,-kd,aE,Re.ah re,bV,iD,bD,aiZ,ai2];refine bO kI ?_;simp only[zI,simprocAttr,-kd,dD,aiW,ki];refine bO Jv ?_;simp only[zI,simprocAttr,-kd,dD,iU,ki,qO,lD];refine bO wZ ?_;simp only[zI,simprocAttr,-kd,aE,bV,iD,bD];refine⟨fU,⟨ae,aj⟩,PY,⟨ae,aj⟩,?_⟩;refine bO im ?_;simp only[zI,simprocAttr,-kd,aE,bV,iD,bD,RM,hle];have m7:(List.take (0+kids.length) ((kids.map Re.cells).map (λx=>x.map V.d))).length=kids.length:=aj;rw[m7];refine⟨⟨ae,ae⟩,?_⟩;by_cases h1:(1:Int)<(kids.length:Int)
   ·rw[be h1];refine eT [3,4] cU ?_ eX eX ?_
    ·refine ye (cV (ds:=set.map aU) rfl (od aj) aj (.inr rfl)) (cV (ds:=(kids.drop 1).map Re.cells) rfl ?_ ?_ (.inr rfl)) rfl
     ·rw[ajb aj];simp
     ·simp;omega
    simp only[zI,simprocAttr,-kd,aE,bV,iD,bD,bA,bP,Re.ah R,aiZ,ai2]
   ·rw[ap h1];have qK:kids.drop 1=[]:=List.drop_of_length_le ae;rw[qK]at cU;refine eT [3,4] cU ?_ eX eX ?_
    ·exact ye (cV (ds:=set.map aU) rfl (od aj) aj (.inr rfl)) rfl rfl
    simp only[zI,simprocAttr,-kd,aE,bV,iD,bD,bA,bP,Re.ah R,aiZ,ai2]
 ·
  rw[hk]at im;have G0:=(eA lU 5 ae hb).1;have gR:=(eA lU 5 ae hb).2;obtain⟨v,hv,oK⟩:=te [lU,0,9,10,-1] (cZ lU 5) G0 gR (by intro x hx;simp only[ajF,ajP,or_false]at hx;rcases hx with rfl|rfl|rfl|rfl|rfl <;> first|exact hb|decide);simp only[aiZ,ai2,iD]at oK;refine⟨⟨(pr (.mk op set kids mn mx mode n neg)).1,v,aF⟩,key _ _ _ (hZ ae ae ⟨n5,n6,n7,n8,n9⟩ KV OR) (by simp only[Re.size];omega) hv,?_⟩;have cU:=cU (.mk op set kids mn mx mode n neg);rw[lu]at cU;simp only[iD,bD]at cU;generalize pr (.mk op set kids mn mx mode n neg)=R at *;obtain⟨R,E⟩:=R;refine bk func24 ntmps24 results24 0 2199023259423 ?_;simp only[zI,simprocAttr,-kd,aE,Re.ah re,bV,iD,bD,aiZ,ai2];refine bO kI ?_;simp only[zI,simprocAttr,-kd,dD,aiW,ki];refine bO Jv ?_;simp only[zI,simprocAttr,-kd,dD,iU,ki,qO,lD];refine bO wZ ?_;simp only[zI,simprocAttr,-kd,aE,bV,iD,bD];refine⟨fU,⟨ae,aj⟩,PY,⟨ae,aj⟩,?_⟩;refine bO im ?_;simp only[zI,simprocAttr,-kd,aE,bV,iD,bD];refine bO (gQ lU 5 ae hb) ?_;simp only[zI,simprocAttr,-kd,aE,bV,iD,bD,G0,gR,oK];refine⟨ae,?_⟩;refine eT [3,4] cU ?_ eX eX ?_
  ·exact ye (cV (ds:=set.map aU) rfl (od aj) aj (.inr rfl)) (cV (ds:=kids.map Re.cells) rfl (od aj) aj (.inr rfl)) rfl
  simp only[zI,simprocAttr,-kd,aE,bV,iD,bD,bA,bP,Re.ah R,aiZ,ai2]
 ·
  rw[hk]at im;refine⟨⟨(pr (.mk op set kids mn mx mode n neg)).1,ai,(!aF)⟩,key _ _ _ (hZ ae ae ⟨n5,n6,n7,n8,n9⟩ KV OR) (by simp only[Re.size];omega) kR,?_⟩;have cU:=cU (.mk op set kids mn mx mode n neg);rw[lu]at cU;simp only[iD,bD]at cU;generalize pr (.mk op set kids mn mx mode n neg)=R at *;obtain⟨R,E⟩:=R;refine bk func24 ntmps24 results24 0 2199023259423 ?_;simp only[zI,simprocAttr,-kd,aE,Re.ah re,bV,iD,bD,aiZ,ai2];refine bO kI ?_;simp only[zI,simprocAttr,-kd,dD,aiW,ki];refine bO Jv ?_;simp only[zI,simprocAttr,-kd,dD,iU,ki,qO,lD];refine bO wZ ?_;simp only[zI,simprocAttr,-kd,aE,bV,iD,bD];refine⟨fU,⟨ae,aj⟩,PY,⟨ae,aj⟩,?_⟩;refine bO im ?_;simp only[zI,simprocAttr,-kd,aE,bV,iD,bD];refine eT [3,4] cU ?_ eX eX ?_
  ·exact ye (cV (ds:=set.map aU) rfl (od aj) aj (.inr rfl)) (cV (ds:=kids.map Re.cells) rfl (od aj) aj (.inr rfl)) rfl
  simp only[zI,simprocAttr,-kd,aE,bV,iD,bD,bA,bP,Re.ah R,aiZ,ai2]
end Go.Proofs.Ytfmdmlfhigocaaa
namespace Go.Proofs.Ytfmdmlfhigocaaa
open Go.VL Go.Proofs.Try
def pF (op mode:Int) (b:Bool):Int :=
 if op=6 then 1 else if op=10 then 2 else if op=7\/op=8 then 4 else if op=9 then 8 else if op=11 then 16 else if op=5 then 64
 else if op=4 then (if b=true then iw .or .i64 (if mode=2 then 8 else 0) 32 else (if mode=2 then 8 else 0))
 else 0
def jF:List Re->Bool
 |[]=>false
 |k::_=>k.sB
mutual
def Re.kT:Re->Int
 |.mk op _ kids _ _ mode _ _=>Re.m6 kids (pF op mode (jF kids))
def Re.m6:List Re->Int->Int
 |[],a=>a
 |k::l,a=>Re.m6 l (iw .or .i64 a k.kT)
end
theorem Re.KQ (re:Re):re.kT=Re.m6 re.kids (pF re.op re.mode (jF re.kids)):=by
 cases re;simp [Re.kT,Re.op,Re.mode,Re.kids]
theorem Re.qC:∀(l:List Re) (k:Re) (a:Int),Re.m6 (l++[k]) a=iw .or .i64 (Re.m6 l a) k.kT
 |[],k,a=>by simp [Re.m6]
 |x::l,k,a=>by simp only[aiX,Re.m6,Re.qC l k]
theorem DB (re:Re) (hs:re.size<=1000000000):aM prog 72 [kj re] (i64 re.kT):=by
 revert hs;refine Re.ind (Q:=λre=>re.size<=1000000000->aM prog 72 [kj re] (i64 re.kT)) (λre ih hs=>?_) re;have hlen:=Re.mP re.kids;have fY:=Re.size_eq re;rw[Re.KQ];have ov:re.op=6\/re.op=10\/re.op=7\/re.op=8\/re.op=9\/re.op=11\/re.op=5\/re.op=4\/(¬re.op=6/\¬re.op=10/\¬re.op=7/\¬re.op=8/\¬re.op=9/\¬re.op=11/\¬re.op=5/\¬re.op=4):=ae;rcases ov with p|p|p|p|p|p|p|p|p
 case inr.inr.inr.inr.inr.inr.inr.inl =>
  have hb:∀u:Int,(u=pF 4 re.mode (jF re.kids))->u=pF re.op re.mode (jF re.kids):=λu h=>by rw[p];exact h
  have h01:(0:Int)<re.kids.length\/re.kids=[]:=by
   cases re.kids with
   |nil=>exact .inr rfl
   |cons k l=>exact .inl aj
  rw[p];rcases h01 with hp|F9
  ·obtain⟨k0,l0,uu⟩:∃k l,re.kids=k::l:=by
    cases h:re.kids with
    |nil=>rw[h]at hp;simp at hp
    |cons k l=>exact⟨k,l,rfl⟩
   have hk0:re.kids[0]?=some k0:=by rw[uu];rfl
   have Dm:k0∈re.kids:=by rw[uu];simp
   have kx:=iL k0 (by have:=Re.bN Dm;omega);have hh:jF re.kids=k0.sB:=by rw[uu];rfl
   rw[hh];by_cases IX:re.mode=2;all_goals
    cases dZ:k0.sB;all_goals
     simp only[pF,IX,jT,if_true,if_false,reduceIte,or_true,true_or,or_false,false_or,reduceCtorEq];refine bk func72 ntmps72 results72 0 2143 ?_;simp only[zJ,simprocAttr,aq re,iD,bD,p,IX,hp,hk0];refine bO kx ?_;simp only[zJ,simprocAttr,bV,dZ,IX];refine ay (λn e s=>∃i:Nat,n=re.kids.length-i/\i<=re.kids.length/\e 1=.rf 0 0 0 0/\e 3=i64 (Re.m6 (re.kids.take i) _)/\e 4=i64 i/\s=[⟨0,true,8,[re.cells.map .d]⟩])
      ⟨_,_,_,bJ.refl,0,rfl,ae,rfl,rfl,rfl,by first|simp [Re.ah re,iD,bD,p,IX]|simp [Re.ah re,iD,bD]⟩ ?_
     rintro n e s ⟨i,rfl,hi,h1,h3,h4,rfl⟩;rcases ajr i re.kids.length with aB|iA
     ·obtain⟨k,hk⟩:∃k,re.kids[i]?=some k:=bZ aB;have hm:=ai4 hk;have JM:=Re.bN hm;simp only[zJ,simprocAttr,Re.ah re,iD,bD,h1,h3,h4,aB,hk];refine bO (ih k hm ae) ?_;simp only[zJ,simprocAttr,Re.ah re,iD,bD,h1,h3,h4];refine⟨re.kids.length-(i+1),_,_,ae,bJ.refl,i+1,rfl,aB,?_,?_,?_,rfl⟩ <;> (try simp only[zU,gV,cy,cJ,dV,reduceIte])
      ·exact h1
      ·rw[bj hk,Re.qC]
      ·rw[bF _ ae];rfl
     ·have dY:i=re.kids.length:=by omega
      subst dY;rw[ajt]at h3;simp only[zJ,simprocAttr,Re.ah re,iD,bD,h1,h3,h4,aj7];all_goals exact ed
  ·rw[show jF re.kids=false by rw[F9];rfl];have ie:¬(0:Int)<re.kids.length:=by rw[F9];simp
   by_cases IX:re.mode=2;all_goals
    simp only[pF,IX,jT,if_true,if_false,reduceIte,or_true,true_or,or_false,false_or,reduceCtorEq];refine bk func72 ntmps72 results72 0 2143 ?_;simp only[zJ,simprocAttr,aq re,iD,bD,p,IX,ie];refine ay (λn e s=>∃i:Nat,n=re.kids.length-i/\i<=re.kids.length/\e 1=.rf 0 0 0 0/\e 3=i64 (Re.m6 (re.kids.take i) _)/\e 4=i64 i/\s=[⟨0,true,8,[re.cells.map .d]⟩])
     ⟨_,_,_,bJ.refl,0,rfl,ae,rfl,rfl,rfl,by first|simp [Re.ah re,iD,bD,p,IX]|simp [Re.ah re,iD,bD]⟩ ?_
    rintro n e s ⟨i,rfl,hi,h1,h3,h4,rfl⟩;rcases ajr i re.kids.length with aB|iA
    ·obtain⟨k,hk⟩:∃k,re.kids[i]?=some k:=bZ aB;have hm:=ai4 hk;have JM:=Re.bN hm;simp only[zJ,simprocAttr,Re.ah re,iD,bD,h1,h3,h4,aB,hk];refine bO (ih k hm ae) ?_;simp only[zJ,simprocAttr,Re.ah re,iD,bD,h1,h3,h4];refine⟨re.kids.length-(i+1),_,_,ae,bJ.refl,i+1,rfl,aB,?_,?_,?_,rfl⟩ <;> (try simp only[zU,gV,cy,cJ,dV,reduceIte])
     ·exact h1
     ·rw[bj hk,Re.qC]
     ·rw[bF _ ae];rfl
    ·have dY:i=re.kids.length:=by omega
     subst dY;rw[ajt]at h3;simp only[zJ,simprocAttr,Re.ah re,iD,bD,h1,h3,h4,aj7];all_goals exact ed
 all_goals
  first
   |(obtain⟨p1,p2,p3,p4,p5,p6,p7,p8⟩:=p
     have hu:pF re.op re.mode (jF re.kids)=0:=by simp [pF,p1,p2,p3,p4,p5,p6,p7,p8]
     rw[hu];refine bk func72 ntmps72 results72 0 2143 ?_;simp only[zJ,simprocAttr,aq re,iD,bD,p1,p2,p3,p4,p5,p6,p7,p8])
   |(rw[p]
     simp only[pF,jT,if_true,if_false,reduceIte,or_true,true_or,or_false,false_or,reduceCtorEq];refine bk func72 ntmps72 results72 0 2143 ?_;simp only[zJ,simprocAttr,aq re,iD,bD,p])
 all_goals
  refine ay (λn e s=>∃i:Nat,n=re.kids.length-i/\i<=re.kids.length/\e 1=.rf 0 0 0 0/\e 3=i64 (Re.m6 (re.kids.take i) _)/\e 4=i64 i/\s=[⟨0,true,8,[re.cells.map .d]⟩])
   ⟨_,_,_,bJ.refl,0,rfl,ae,rfl,rfl,rfl,by first|simp [Re.ah re,iD,bD,p]|simp [Re.ah re,iD,bD]⟩ ?_
  rintro n e s ⟨i,rfl,hi,h1,h3,h4,rfl⟩;rcases ajr i re.kids.length with aB|iA
  ·obtain⟨k,hk⟩:∃k,re.kids[i]?=some k:=bZ aB;have hm:=ai4 hk;have JM:=Re.bN hm;simp only[zJ,simprocAttr,Re.ah re,iD,bD,h1,h3,h4,aB,hk];refine bO (ih k hm ae) ?_;simp only[zJ,simprocAttr,Re.ah re,iD,bD,h1,h3,h4];refine⟨re.kids.length-(i+1),_,_,ae,bJ.refl,i+1,rfl,aB,?_,?_,?_,rfl⟩ <;> (try simp only[zU,gV,cy,cJ,dV,reduceIte])
   ·exact h1
   ·rw[bj hk,Re.qC]
   ·rw[bF _ ae];rfl
  ·have dY:i=re.kids.length:=by omega
   subst dY;rw[ajt]at h3;simp only[zJ,simprocAttr,Re.ah re,iD,bD,h1,h3,h4,aj7];all_goals exact ed
def I8 (re:Re):Bool:=decide (0<=re.op/\re.op<=11/\(re.op=4->re.kids.length=1/\0<=re.mn/\re.mn<=32/\(re.mx=-1\/(1<=re.mx/\re.mx<=32/\re.mn<=re.mx))) /\
 (re.op=3\/re.op=10\/re.op=5\/re.op=9->re.kids≠[])/\(re.op=5\/re.op=9->re.kids.length=1))
theorem Ri {re:Re}{ai top:Int} (h:bS re ai top=true):I8 re=true:=by
 obtain⟨⟨h1,h2,h3,h4⟩,_,h5,_,_⟩:=fA.1 h;refine bi ⟨h1,h2,λo=>?_,λo=>?_,λo=>?_⟩
 ·rw[o]at h3 h4 h5;simp only[cw,jT,or_self,if_false,or_true,true_or,or_false,false_or,if_true,reduceIte]at h3 h4 h5;omega
 ·intro hn;rw[hn]at h3;rcases o with o|o|o|o <;> rw[o]at h3 <;> simp [cw]at h3
 ·rcases o with o|o;all_goals
   rw[o]at h3 h4;simp only[cw,jT,or_self,if_false,or_true,true_or,or_false,false_or,if_true,reduceIte]at h3 h4;omega
theorem Hd {re:Re}{ai top:Int} (h:re.whole ai top=true):re.every I8=true:=dN (λ_=>Ri) re h
theorem Zp (re:Re) (h:re.every I8=true):LR re.iQ re.lens:=by
 revert h;refine Re.ind (Q:=λre=>re.every I8=true->LR re.iQ re.lens) (λre ih h=>?_) re;obtain⟨h1,h2⟩:=(Re.av re).1 h;obtain⟨o0,oh,h4,dP,_⟩:=of_decide_eq_true h1;have hk:∀k∈re.kids,LR k.iQ k.lens:=λk hk=>ih k hk (h2 k hk);have hp:∀x∈re.kids.map (λk=>(k.iQ,k.lens)),LR x.1 x.2:=λx hx=>by obtain⟨k,tz,rfl⟩:=List.mem_map.1 hx;exact hk k tz
 rw[Re.rW,Re.Wc];have m1:(re.kids.map (λk=>(k.iQ,k.lens))).map (·.1)=re.kids.map Re.iQ:=aj;have m2:(re.kids.map (λk=>(k.iQ,k.lens))).map (·.2)=re.kids.map Re.lens:=aj;have alt:re.kids≠[]->LR ((re.kids.map Re.iQ).any id) (Ru (re.kids.map Re.lens)):=λhn=>by
  obtain⟨k,l,uu⟩:=List.exists_cons_of_ne_nil hn;have dt:=hk k (by rw[uu];simp);have:=Hx (l.map λk=>(k.iQ,k.lens)) k.iQ k.lens dt (λx hx=>by
   obtain⟨y,hy,rfl⟩:=List.mem_map.1 hx;exact hk y (by rw[uu];simp [hy]))
  rw[uu];simp only[aiZ,Ru,Rm dt,List.any_cons,id_eq];simpa [ajL,Function.comp_def]using this
 have An:re.op=0\/re.op=1\/re.op=2\/re.op=3\/re.op=4\/re.op=5\/re.op=6\/re.op=7\/re.op=8\/re.op=9\/re.op=10\/re.op=11:=ae;have zz:LR true (0,0):=⟨aJ,aJ,aJ,aJ,.inr aJ,aJ⟩
 rcases An with o|o|o|o|o|o|o|o|o|o|o|o
 ·rw[o];exact zz
 ·have one:LR false (1,1):=⟨aJ,aJ,aJ,aJ,.inr aJ,aJ⟩
  rw[o];exact one
 ·have:=GJ _ true (0,0) zz hp;rw[m1,m2,ake]at this;rw[o];exact this
 ·have:=alt (dP (.inl o));rw[o];exact this
 ·obtain⟨q1,q2,q3,q4⟩:=h4 o;have:=alt (by intro he;rw[he]at q1;cases q1);rw[o];simp only[pQ,No];generalize Ru (re.kids.map Re.lens)=p at *;generalize (re.kids.map Re.iQ).any id=na at *;obtain⟨a0,a1,b0,b1,ab,nl⟩:=this;have e1:=WA a0 a1 q2 ae;have e2:0<=p.1*re.mn:=akj a0 q2;simp only[reduceCtorEq,jT,if_false,false_or,or_false,or_self,if_true,true_or,or_true];have key:(lq p.2 re.mx=-1\/(0<=lq p.2 re.mx/\lq p.1 re.mn<=lq p.2 re.mx))/\lq p.2 re.mx<=1000000:=by
   by_cases hm:re.mx=-1
   ·rw[hm];by_cases hb:p.2=0
    ·have ha:p.1=0:=by omega
     rw[hb,ha,Mg,Mg];omega
    ·rw[XS hb];omega
   ·have q5:1<=re.mx/\re.mx<=32/\re.mn<=re.mx:=by omega
    by_cases hb:p.2=-1
    ·rw[hb,XV ae];omega
    ·rw[WA ae b1 ae ae,e1];have:p.1*re.mn<=p.2*re.mx:=Int.mul_le_mul ae q5.2.2 q2 ae;have:=akj (show 0<=p.2 by omega) (show 0<=re.mx by omega);omega
  refine⟨?_,?_,?_,key.2,?_,?_⟩ <;> simp only
  ·rw[e1];omega
  ·rw[e1];omega
  ·omega
  ·omega
  ·rw[e1];split
   ·rename_i hm;rw[hm,Int.mul_zero];exact⟨λ_=>ae,λ_=>rfl⟩
   ·rename_i hm;rw[nl];constructor
    ·intro hz;rw[hz,Int.zero_mul];omega
    ·intro hz;by_cases Xn:p.1=0
     ·exact Xn
     ·have:0<p.1*re.mn:=Int.mul_pos ae ae;omega
 ·have:=alt (dP (.inr (.inr (.inl o))));rw[o];exact this
 ·have far:LR true (0,-1):=⟨aJ,aJ,aJ,aJ,.inl aJ,aJ⟩
  rw[o];exact far
 ·rw[o];exact zz
 ·rw[o];exact zz
 ·have:=alt (dP (.inr (.inr (.inr o))));rw[o];exact this
 ·have:=alt (dP (.inr (.inl o)));rw[o];exact this
 ·rw[o];exact zz
theorem Il {l:List Re} (h:l.length=1):∃k,l=[k]:=by
 match l,h with
 |[k],_=>exact⟨k,rfl⟩
theorem TB (re:Re) (h:re.every I8=true):re.iQ=re.sB:=by
 revert h;refine Re.ind (Q:=λre=>re.every I8=true->re.iQ=re.sB) (λre ih h=>?_) re;obtain⟨h1,h2⟩:=(Re.av re).1 h;obtain⟨o0,oh,h4,h5,h6⟩:=of_decide_eq_true h1;have hm:re.kids.map Re.iQ=re.kids.map Re.sB:=ajK (λk hk=>ih k hk (h2 k hk));rw[Re.rW,Re.jv,hm,Re.sG,Re.sw];have An:re.op=0\/re.op=1\/re.op=2\/re.op=3\/re.op=4\/re.op=5\/re.op=6\/re.op=7\/re.op=8\/re.op=9\/re.op=10\/re.op=11:=ae;rcases An with o|o|o|o|o|o|o|o|o|o|o|o
 case inr.inr.inr.inr.inl =>
  obtain⟨q1,q2,_⟩:=h4 o;obtain⟨k,hk⟩:=Il q1;rw[o,hk];by_cases hz:re.mn=0
  ·simp [pQ,hz]
  ·have:¬re.mn<=0:=by omega
   simp [pQ,hz,this,Re.qa]
 case inr.inr.inr.inr.inr.inl =>
  obtain⟨k,hk⟩:=Il (h6 (.inl o));rw[o,hk];simp [pQ,Re.qa]
 case inr.inr.inr.inr.inr.inr.inr.inr.inr.inl =>
  obtain⟨k,hk⟩:=Il (h6 (.inr o));rw[o,hk];simp [pQ,Re.qa]
 all_goals (rw[o];simp [pQ])
 all_goals (try (congr 1))
theorem YS {n m:Nat} (hn:n<128) (hm:m<128):iw .or .i64 (n:Int) (m:Int)=((n ||| m:Nat):Int)/\n ||| m<128:=by
 have aB:n ||| m<2 ^ 7:=Nat.or_lt_two_pow hn hm;refine⟨?_,aB⟩;have e:∀k:Nat,k<128->(BitVec.ofInt IntKind.i64.bits (k:Int)).toNat=k:=by intro k hk;show (BitVec.ofInt 64 (k:Int)).toNat=k;rw[BitVec.ofInt_natCast,BitVec.toNat_ofNat];omega
 simp only[iw,BitVec.toNat_or,e n hn,e m hm];exact bF _ ae
def oe (p:eJ):List D:=p.re.cells++[iD p.ai,bD p.aF]
theorem yr (p:eJ):aE p=.ag ((oe p).map .d):=by unfold aE oe;rw[akf];rfl
theorem dE (p:eJ):oe p=[iD p.re.op,.sl (p.re.set.map aU),.sl (p.re.kids.map Re.cells),iD p.re.mn,iD p.re.mx,iD p.re.mode,iD p.re.n,bD p.re.neg,iD p.ai,bD p.aF]:=by unfold oe;rw[Re.ah];rfl
theorem Ue (b:Bool):aM prog 66 [bV b] (i64 (hU b)):=by
 refine bk func66 ntmps66 results66 0 5 ?_;cases b
 ·simp only[zI,simprocAttr,bV,hU,ajf]
 ·simp only[zI,simprocAttr,bV,hU]
def Ii (re:Re):Bool:=decide (0<=re.mn/\re.mn<=32/\0<=re.mode/\re.mode<=2/\(re.mx=-1\/(1<=re.mx/\re.mx<=32/\re.mn<=re.mx)))
theorem NH (re:Re):aM prog 93 [gH re] (bV (Ii re)):=by
 refine bk func93 ntmps93 results93 0 5 ?_;simp only[zI,simprocAttr,gH,Re.ah re,iD,bD]
 repeat' (first
 |(with_reducible refine And.intro sW ?_)
 |(with_reducible first|refine lI (λhc=>?_) (λhc=>?_)|refine eu (λhc=>?_) (λhc=>?_)|refine ep (λhc=>?_) (λhc=>?_)|refine dn (λhc=>?_) (λhc=>?_)|refine dm (λhc=>?_) (λhc=>?_)|refine ja (λhc=>?_) (λhc=>?_)|refine eh (λhc=>?_) (λhc=>?_))<;>simp only[zI,simprocAttr,iD,bD,hc])
 any_goals
  refine aA mix [] [] aN ?_;simp only[zI,simprocAttr,iD,bD]
 any_goals
  repeat' (first
 |(with_reducible refine And.intro sW ?_)
 |(with_reducible first|refine lI (λhc=>?_) (λhc=>?_)|refine eu (λhc=>?_) (λhc=>?_)|refine ep (λhc=>?_) (λhc=>?_)|refine dn (λhc=>?_) (λhc=>?_)|refine dm (λhc=>?_) (λhc=>?_)|refine ja (λhc=>?_) (λhc=>?_)|refine eh (λhc=>?_) (λhc=>?_))<;>simp only[zI,simprocAttr,iD,bD,hc])
 all_goals first
  |(refine congrArg bV (Eq.symm (ce λh=>?_));omega)
  |(refine congrArg bV (Eq.symm (bi ?_));omega)
  |(refine congrArg bV (Eq.symm (decide_eq_decide.2 ?_));omega)
  |(refine congrArg bV (Eq.symm (decide_eq_decide.2 ?_));constructor <;> intro h <;> omega)
theorem EN (l:List (Int×Int)) (hl:l.length<=1000000000) (top:Int) (ht:top<=1114111):aM prog 92 [.d (.sl (l.map aU)),i64 top] (bV (iZ l top)):=by
 refine bk func92 ntmps92 results92 0 7283 ?_;by_cases RH:(64:Int)<l.length
 ·simp only[zI,simprocAttr,RH];have:¬l.length<=64:=ae;simp [iZ,bV,this]
 have X6:l.length<=64:=ae;have hR:iZ l top=sh top (-2) l:=by simp [iZ,X6]
 rw[hR];simp only[zI,simprocAttr,RH];refine ay (λn e s=>∃i:Nat,n=l.length-i/\i<=l.length/\e 0=.d (.sl (l.map aU))/\e 1=i64 top/\e 10=.d (.sl (l.map aU))/\e 11=i64 l.length/\e 12=i64 i/\s=[]/\sh top (-2) l=sh top (mu l i) (l.drop i)/\(0<i->0<=mu l i/\mu l i<=top))
  ⟨_,_,_,bJ.refl,0,rfl,ae,rfl,rfl,rfl,rfl,rfl,rfl,rfl,λh=>absurd h ae⟩ ?_
 rintro n e s ⟨i,rfl,hi,h0,h1,dX,jK,kz,rfl,pZ,nY⟩;rcases ajr i l.length with aB|iA
 ·obtain⟨k,hk⟩:∃k,l[i]?=some k:=bZ aB;have hd:l.drop i=k::l.drop (i+1):=by rw[List.drop_eq_getElem_cons aB];rw[ajg aB]at hk;simp only[ai5]at hk;rw[hk]
  rw[hd]at pZ;simp only[sh]at pZ;have Ap:mu l (i+1)=k.2:=by simp [mu,hk]
  simp only[zI,simprocAttr,h0,h1,dX,jK,kz,aB,hk,aU,iD];refine aA mix [] [] aN ?_;cases i with
  |zero =>
   have pZ:sh top (-2) l=(decide (0<=k.1/\k.1<=k.2/\k.2<=top/\-2+1<k.1)&&sh top k.2 (l.drop (0+1))):=pZ;simp only[zI,simprocAttr,h0,h1,dX,jK,kz,hk,aU,iD,ajn]
   repeat' (first
 |(with_reducible refine And.intro sW ?_)
 |(with_reducible first|refine lI (λhc=>?_) (λhc=>?_)|refine eu (λhc=>?_) (λhc=>?_)|refine ep (λhc=>?_) (λhc=>?_)|refine dn (λhc=>?_) (λhc=>?_)|refine dm (λhc=>?_) (λhc=>?_)|refine ja (λhc=>?_) (λhc=>?_)|refine eh (λhc=>?_) (λhc=>?_))<;>simp only[zI,simprocAttr,h0,h1,dX,jK,kz,hk,aU,iD,ajn,hc])
   any_goals (refine congrArg bV (Eq.symm ?_);rw[pZ,show decide (0<=k.1/\k.1<=k.2/\k.2<=top/\-2+1<k.1)=false from ce ae];rfl)
   refine⟨l.length-1,_,_,ae,bJ.cut 0 ae rfl rfl [0,1,10,11,12] ?_,1,rfl,aB,?_,?_,?_,?_,?_,rfl,?_,?_⟩ <;> (try simp only[zU,gV,cy,cJ,dV,reduceIte])
   ·simp [bX,aY,ak,h0,h1,dX,jK,i64]
   ·exact h0
   ·exact h1
   ·exact dX
   ·exact jK
   ·rw[bF _ ae];rfl
   ·rw[pZ,Ap,show decide (0<=k.1/\k.1<=k.2/\k.2<=top/\-2+1<k.1)=true from bi ae];rfl
   ·intro _;rw[Ap];omega
  |succ j =>
   obtain⟨kp,FQ⟩:∃k,l[j]?=some k:=⟨_,ajg (by omega:j<l.length)⟩
   have UQ:mu l (j+1)=kp.2:=by simp [mu,FQ]
   have nY:=nY ae;rw[UQ]at nY pZ;have w1:IntKind.i64.wrap (((j+1:Nat):Int)-1)=(j:Int):=by rw[bF _ ae];omega
   have w2:IntKind.i64.wrap (kp.2+2)=kp.2+2:=bF _ ae;have p0:(0:Int)<((j+1:Nat):Int):=ae;have q2:(j:Int)<l.length:=ae;simp only[zI,simprocAttr,h0,h1,dX,jK,kz,hk,aU,iD,FQ,w1,w2,p0,q2]
   repeat' (first
 |(with_reducible refine And.intro sW ?_)
 |(with_reducible first|refine lI (λhc=>?_) (λhc=>?_)|refine eu (λhc=>?_) (λhc=>?_)|refine ep (λhc=>?_) (λhc=>?_)|refine dn (λhc=>?_) (λhc=>?_)|refine dm (λhc=>?_) (λhc=>?_)|refine ja (λhc=>?_) (λhc=>?_)|refine eh (λhc=>?_) (λhc=>?_))<;>simp only[zI,simprocAttr,h0,h1,dX,jK,kz,hk,aU,iD,FQ,w1,w2,p0,q2,hc])
   any_goals (refine congrArg bV (Eq.symm ?_);rw[pZ,show decide (0<=k.1/\k.1<=k.2/\k.2<=top/\kp.2+1<k.1)=false from ce ae];rfl)
   refine⟨l.length-(j+1+1),_,_,ae,bJ.cut 0 ae rfl rfl [0,1,10,11,12] ?_,j+1+1,rfl,aB,?_,?_,?_,?_,?_,rfl,?_,?_⟩ <;> (try simp only[zU,gV,cy,cJ,dV,reduceIte])
   ·simp [bX,aY,ak,h0,h1,dX,jK,i64]
   ·exact h0
   ·exact h1
   ·exact dX
   ·exact jK
   ·rw[bF _ ae];rfl
   ·rw[pZ,Ap,show decide (0<=k.1/\k.1<=k.2/\k.2<=top/\kp.2+1<k.1)=true from bi ae];rfl
   ·intro _;rw[Ap];omega
 ·have dY:i=l.length:=by omega
  subst dY;simp only[zI,simprocAttr,h0,h1,dX,jK,kz,aj7];rw[pZ];simp [sh,bV]
end Go.Proofs.Ytfmdmlfhigocaaa
