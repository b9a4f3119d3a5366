/- A part of the proof (F11). -/
import Derived.Test.YtfmdmlfhigocaaaOF23
set_option linter.unusedSimpArgs false
set_option linter.unusedVariables false
set_option maxRecDepth 100000
set_option maxHeartbeats 80000000
set_option linter.unusedSimpArgs false
set_option linter.unusedVariables false
namespace Go.Proofs.Ytfmdmlfhigocaaa
open Go.VL Go.Proofs.Try
theorem Ix:dh 0:=by
 intro m b hb hm hs
 have hc:cD 0=3:=rfl
 have w1:IntKind.i64.wrap (m.left-1)=m.left-1:=br _ (by have:=hm.l0;have:=hm.l1;omega)
 have cG:0<=m.pos/\m.pos<=1000000000:=⟨hm.p0,by have:=hm.p1;omega⟩
 have hk:=bO m.l m.pos 20 (by omega)
 refine an func65 rfl ntmps65 results65 rfl 1 499 (by simp) (by simp) ?_
 simp only[zW,simprocAttr,i64,bX,bE,w1]
 refine aC (bJ m.less hm.l cG 20 (by omega)) rfl rfl rfl rfl rfl rfl ?_
 simp only[zW,simprocAttr,i64,bX,bE,w1,Mk.next,Mk.less]
 refine ar mix [] [] (by rfl) ?_
 by_cases h0:pick m.l m.pos 20=0
 ·simp only[zW,simprocAttr,i64,bX,bE,w1,Mk.next,h0,Int.natCast_zero]
  rw[show Mk.tree 0 m=(Re.node 0 [],(m.less.next 20).2) by simp [Mk.tree,Mk.next,Mk.less,h0]]
  all_goals first|exact⟨rfl,rfl⟩|exact⟨rfl,trivial⟩|rfl|trivial|(rw[aj];rfl)
 ·simp only[zW,simprocAttr,i64,bX,bE,w1,Mk.next,h0,Int.natCast_zero]
  refine aC (iq (m.less.next 20).2 hm.l (by have:=hm.p1;simp only[Mk.next,Mk.less];omega)) rfl rfl rfl rfl rfl (bj _ _) ?_
  simp only[zW,simprocAttr,i64,bX,bE,w1,Mk.next,h0,Int.natCast_zero]
  rw[show Mk.tree 0 m=(m.less.next 20).2.set by simp [Mk.tree,Mk.next,Mk.less,h0]]
  all_goals first|exact⟨rfl,rfl⟩|exact⟨rfl,trivial⟩|rfl|trivial|(rw[aj];rfl)
theorem cx {d:Nat}{m:Mk} (h3:¬m.left-1<3) (hp:¬(m.l.length:Int)<m.pos+1):Mk.tree (d+1) m=Mk.node (Mk.tree d) (pick m.l m.pos 20) (m.less.next 20).2:=by
 simp [Mk.tree,Mk.next,Mk.less,h3,hp]
theorem Gw (d:Nat) (hd:d<=1000) (hz:zD d<=1000000000) (ht:dh d) (m:Mk) (b:Int) (hb:0<=b) (hm:m.In b) (hs:b+cD (d+1)<=1000000000) (h3:m.left-1<3) :
  aq prog 65 [bX,i64 (d+1:Nat)] [bE m] fun v s=>v=jW (m.tree (d+1)).1/\s=[bE (m.tree (d+1)).2]:=by
 have hc:=bw d
 have uq:cD (d+1)=2+4*(cD d+1):=rfl
 have w1:IntKind.i64.wrap (m.left-1)=m.left-1:=br _ (by have:=hm.l0;have:=hm.l1;omega)
 have w2:IntKind.i64.wrap ((d+1:Nat)-1:Int)=(d:Int):=by rw[br _ (by omega)];omega
 have ef:¬((d+1:Nat):Int)=0:=by omega
 have cG:0<=m.pos/\m.pos<=1000000000:=⟨hm.p0,by have:=hm.p1;omega⟩
 have hy:(m.less.next 20).2.In (b+2):=by have:=hm.left.next 20;rwa [Int.add_assoc]at this
 have hyp:0<=(m.less.next 20).2.pos/\(m.less.next 20).2.pos<=1000000000:=by have:=hm.p1;simp only[Mk.next,Mk.less];omega
 have c0:=hm.c0
 have c1:=hm.c1
 refine an func65 rfl ntmps65 results65 rfl 1 499 (by simp) (by simp) ?_
 simp only[zW,simprocAttr,i64,bX,bE,w1]
 refine aC (bJ m.less hm.l cG 20 (by omega)) rfl rfl rfl rfl rfl rfl ?_
 simp only[zW,simprocAttr,i64,bX,bE,w1,Mk.next,Mk.less]
 refine ar mix [] [] (by rfl) ?_
 have hT:Mk.tree (d+1) m=if pick m.l m.pos 20=0 then (Re.node 0 [],(m.less.next 20).2) else (m.less.next 20).2.set:=if_pos (.inl h3)
 rw[hT]
 by_cases h0:pick m.l m.pos 20=0
 ·simp only[zW,simprocAttr,i64,bX,bE,w1,Mk.next,ef,h3,h0]
  all_goals first|exact⟨rfl,rfl⟩|exact⟨rfl,trivial⟩|rfl|trivial|(rw[aj];rfl)
 ·simp only[zW,simprocAttr,i64,bX,bE,w1,Mk.next,ef,h3,h0]
  refine aC (iq (m.less.next 20).2 hm.l hyp) rfl rfl rfl rfl rfl (bj _ _) ?_
  simp only[zW,simprocAttr,i64,bX,bE,w1,Mk.next,ef,h3,h0]
  all_goals first|exact⟨rfl,rfl⟩|exact⟨rfl,trivial⟩|rfl|trivial|(rw[aj];rfl)
theorem G4 (d:Nat) (hd:d<=1000) (hz:zD d<=1000000000) (ht:dh d) (m:Mk) (b:Int) (hb:0<=b) (hm:m.In b) (hs:b+cD (d+1)<=1000000000) (h3:¬m.left-1<3) (dD:(m.l.length:Int)<m.pos+1) :
  aq prog 65 [bX,i64 (d+1:Nat)] [bE m] fun v s=>v=jW (m.tree (d+1)).1/\s=[bE (m.tree (d+1)).2]:=by
 have hc:=bw d
 have uq:cD (d+1)=2+4*(cD d+1):=rfl
 have w1:IntKind.i64.wrap (m.left-1)=m.left-1:=br _ (by have:=hm.l0;have:=hm.l1;omega)
 have w2:IntKind.i64.wrap ((d+1:Nat)-1:Int)=(d:Int):=by rw[br _ (by omega)];omega
 have ef:¬((d+1:Nat):Int)=0:=by omega
 have cG:0<=m.pos/\m.pos<=1000000000:=⟨hm.p0,by have:=hm.p1;omega⟩
 have hy:(m.less.next 20).2.In (b+2):=by have:=hm.left.next 20;rwa [Int.add_assoc]at this
 have hyp:0<=(m.less.next 20).2.pos/\(m.less.next 20).2.pos<=1000000000:=by have:=hm.p1;simp only[Mk.next,Mk.less];omega
 have c0:=hm.c0
 have c1:=hm.c1
 refine an func65 rfl ntmps65 results65 rfl 1 499 (by simp) (by simp) ?_
 simp only[zW,simprocAttr,i64,bX,bE,w1]
 refine aC (bJ m.less hm.l cG 20 (by omega)) rfl rfl rfl rfl rfl rfl ?_
 simp only[zW,simprocAttr,i64,bX,bE,w1,Mk.next,Mk.less]
 refine ar mix [] [] (by rfl) ?_
 have hT:Mk.tree (d+1) m=if pick m.l m.pos 20=0 then (Re.node 0 [],(m.less.next 20).2) else (m.less.next 20).2.set:=if_pos (.inr dD)
 rw[hT]
 by_cases h0:pick m.l m.pos 20=0
 ·simp only[zW,simprocAttr,i64,bX,bE,w1,Mk.next,ef,h3,dD,h0]
  all_goals first|exact⟨rfl,rfl⟩|exact⟨rfl,trivial⟩|rfl|trivial|(rw[aj];rfl)
 ·simp only[zW,simprocAttr,i64,bX,bE,w1,Mk.next,ef,h3,dD,h0]
  refine aC (iq (m.less.next 20).2 hm.l hyp) rfl rfl rfl rfl rfl (bj _ _) ?_
  simp only[zW,simprocAttr,i64,bX,bE,w1,Mk.next,ef,h3,dD,h0]
  all_goals first|exact⟨rfl,rfl⟩|exact⟨rfl,trivial⟩|rfl|trivial|(rw[aj];rfl)
theorem KB (d:Nat) (hd:d<=1000) (hz:zD d<=1000000000) (ht:dh d) (m:Mk) (b:Int) (hb:0<=b) (hm:m.In b) (hs:b+cD (d+1)<=1000000000) (h3:¬m.left-1<3) (dD:¬(m.l.length:Int)<m.pos+1) (h5:pick m.l m.pos 20<5) :
  aq prog 65 [bX,i64 (d+1:Nat)] [bE m] fun v s=>v=jW (m.tree (d+1)).1/\s=[bE (m.tree (d+1)).2]:=by
 have hc:=bw d
 have uq:cD (d+1)=2+4*(cD d+1):=rfl
 have w1:IntKind.i64.wrap (m.left-1)=m.left-1:=br _ (by have:=hm.l0;have:=hm.l1;omega)
 have w2:IntKind.i64.wrap ((d+1:Nat)-1:Int)=(d:Int):=by rw[br _ (by omega)];omega
 have ef:¬((d+1:Nat):Int)=0:=by omega
 have cG:0<=m.pos/\m.pos<=1000000000:=⟨hm.p0,by have:=hm.p1;omega⟩
 have hy:(m.less.next 20).2.In (b+2):=by have:=hm.left.next 20;rwa [Int.add_assoc]at this
 have hyp:0<=(m.less.next 20).2.pos/\(m.less.next 20).2.pos<=1000000000:=by have:=hm.p1;simp only[Mk.next,Mk.less];omega
 have c0:=hm.c0
 have c1:=hm.c1
 refine an func65 rfl ntmps65 results65 rfl 1 499 (by simp) (by simp) ?_
 simp only[zW,simprocAttr,i64,bX,bE,w1]
 refine aC (bJ m.less hm.l cG 20 (by omega)) rfl rfl rfl rfl rfl rfl ?_
 simp only[zW,simprocAttr,i64,bX,bE,w1,Mk.next,Mk.less]
 refine ar mix [] [] (by rfl) ?_
 rw[cx h3 dD]
 have hn:Mk.node (Mk.tree d) (pick m.l m.pos 20) (m.less.next 20).2=(Re.node 2 (aD (Mk.tree d) 4 0 (m.less.next 20).2).1,(aD (Mk.tree d) 4 0 (m.less.next 20).2).2):=by simp [Mk.node,Mk.has,Mk.next,Mk.less,h5]
 rw[hn]
 simp only[zW,simprocAttr,i64,bX,bE,w1,w2,Mk.next,Mk.less,ef,h3,dD,h5]
 refine aC (Im d hd ht (m.less.next 20).2 (b+2) (by omega) hy (by omega)) rfl rfl rfl rfl rfl (by first|rfl|exact bj _ _) ?_
 simp only[zW,simprocAttr,i64,bX,bE,w1,w2,Mk.next,Mk.less,ef,h3,dD,h5]
 all_goals first|exact⟨rfl,rfl⟩|exact⟨rfl,trivial⟩|rfl|trivial|(rw[aj];rfl)
theorem Mg (d:Nat) (hd:d<=1000) (hz:zD d<=1000000000) (ht:dh d) (m:Mk) (b:Int) (hb:0<=b) (hm:m.In b) (hs:b+cD (d+1)<=1000000000) (h3:¬m.left-1<3) (dD:¬(m.l.length:Int)<m.pos+1) (h5:¬pick m.l m.pos 20<5) (h8:pick m.l m.pos 20<8) :
  aq prog 65 [bX,i64 (d+1:Nat)] [bE m] fun v s=>v=jW (m.tree (d+1)).1/\s=[bE (m.tree (d+1)).2]:=by
 have hc:=bw d
 have uq:cD (d+1)=2+4*(cD d+1):=rfl
 have w1:IntKind.i64.wrap (m.left-1)=m.left-1:=br _ (by have:=hm.l0;have:=hm.l1;omega)
 have w2:IntKind.i64.wrap ((d+1:Nat)-1:Int)=(d:Int):=by rw[br _ (by omega)];omega
 have ef:¬((d+1:Nat):Int)=0:=by omega
 have cG:0<=m.pos/\m.pos<=1000000000:=⟨hm.p0,by have:=hm.p1;omega⟩
 have hy:(m.less.next 20).2.In (b+2):=by have:=hm.left.next 20;rwa [Int.add_assoc]at this
 have hyp:0<=(m.less.next 20).2.pos/\(m.less.next 20).2.pos<=1000000000:=by have:=hm.p1;simp only[Mk.next,Mk.less];omega
 have c0:=hm.c0
 have c1:=hm.c1
 refine an func65 rfl ntmps65 results65 rfl 1 499 (by simp) (by simp) ?_
 simp only[zW,simprocAttr,i64,bX,bE,w1]
 refine aC (bJ m.less hm.l cG 20 (by omega)) rfl rfl rfl rfl rfl rfl ?_
 simp only[zW,simprocAttr,i64,bX,bE,w1,Mk.next,Mk.less]
 refine ar mix [] [] (by rfl) ?_
 rw[cx h3 dD]
 have hn:Mk.node (Mk.tree d) (pick m.l m.pos 20) (m.less.next 20).2=(Re.node 3 (aD (Mk.tree d) 4 0 (m.less.next 20).2).1,(aD (Mk.tree d) 4 0 (m.less.next 20).2).2):=by simp [Mk.node,Mk.has,Mk.next,Mk.less,h5,h8]
 rw[hn]
 simp only[zW,simprocAttr,i64,bX,bE,w1,w2,Mk.next,Mk.less,ef,h3,dD,h5,h8]
 refine aC (Im d hd ht (m.less.next 20).2 (b+2) (by omega) hy (by omega)) rfl rfl rfl rfl rfl (by first|rfl|exact bj _ _) ?_
 simp only[zW,simprocAttr,i64,bX,bE,w1,w2,Mk.next,Mk.less,ef,h3,dD,h5,h8]
 all_goals first|exact⟨rfl,rfl⟩|exact⟨rfl,trivial⟩|rfl|trivial|(rw[aj];rfl)
theorem Ku (d:Nat) (hd:d<=1000) (hz:zD d<=1000000000) (ht:dh d) (m:Mk) (b:Int) (hb:0<=b) (hm:m.In b) (hs:b+cD (d+1)<=1000000000) (h3:¬m.left-1<3) (dD:¬(m.l.length:Int)<m.pos+1) (h5:¬pick m.l m.pos 20<5) (h8:¬pick m.l m.pos 20<8) (iF:pick m.l m.pos 20<12) :
  aq prog 65 [bX,i64 (d+1:Nat)] [bE m] fun v s=>v=jW (m.tree (d+1)).1/\s=[bE (m.tree (d+1)).2]:=by
 have hc:=bw d
 have uq:cD (d+1)=2+4*(cD d+1):=rfl
 have w1:IntKind.i64.wrap (m.left-1)=m.left-1:=br _ (by have:=hm.l0;have:=hm.l1;omega)
 have w2:IntKind.i64.wrap ((d+1:Nat)-1:Int)=(d:Int):=by rw[br _ (by omega)];omega
 have ef:¬((d+1:Nat):Int)=0:=by omega
 have cG:0<=m.pos/\m.pos<=1000000000:=⟨hm.p0,by have:=hm.p1;omega⟩
 have hy:(m.less.next 20).2.In (b+2):=by have:=hm.left.next 20;rwa [Int.add_assoc]at this
 have hyp:0<=(m.less.next 20).2.pos/\(m.less.next 20).2.pos<=1000000000:=by have:=hm.p1;simp only[Mk.next,Mk.less];omega
 have c0:=hm.c0
 have c1:=hm.c1
 refine an func65 rfl ntmps65 results65 rfl 1 499 (by simp) (by simp) ?_
 simp only[zW,simprocAttr,i64,bX,bE,w1]
 refine aC (bJ m.less hm.l cG 20 (by omega)) rfl rfl rfl rfl rfl rfl ?_
 simp only[zW,simprocAttr,i64,bX,bE,w1,Mk.next,Mk.less]
 refine ar mix [] [] (by rfl) ?_
 rw[cx h3 dD]
 have hn:Mk.node (Mk.tree d) (pick m.l m.pos 20) (m.less.next 20).2=Mk.rep (Mk.tree d) (m.less.next 20).2:=by simp [Mk.node,Mk.has,Mk.next,Mk.less,h5,h8,iF]
 rw[hn]
 simp only[zW,simprocAttr,i64,bX,bE,w1,w2,Mk.next,Mk.less,ef,h3,dD,h5,h8,iF]
 refine aC (QD d hd ht (m.less.next 20).2 (b+2) (by omega) hy (by omega) hz) rfl rfl rfl rfl rfl (by first|rfl|exact bj _ _) ?_
 simp only[zW,simprocAttr,i64,bX,bE,w1,w2,Mk.next,Mk.less,ef,h3,dD,h5,h8,iF]
 all_goals first|exact⟨rfl,rfl⟩|exact⟨rfl,trivial⟩|rfl|trivial|(rw[aj];rfl)
theorem K3 (d:Nat) (hd:d<=1000) (hz:zD d<=1000000000) (ht:dh d) (m:Mk) (b:Int) (hb:0<=b) (hm:m.In b) (hs:b+cD (d+1)<=1000000000) (h3:¬m.left-1<3) (dD:¬(m.l.length:Int)<m.pos+1) (hq:pick m.l m.pos 20=12) (hu:0<eb .and .i64 m.bu 64) :
  aq prog 65 [bX,i64 (d+1:Nat)] [bE m] fun v s=>v=jW (m.tree (d+1)).1/\s=[bE (m.tree (d+1)).2]:=by
 have hc:=bw d
 have uq:cD (d+1)=2+4*(cD d+1):=rfl
 have w1:IntKind.i64.wrap (m.left-1)=m.left-1:=br _ (by have:=hm.l0;have:=hm.l1;omega)
 have w2:IntKind.i64.wrap ((d+1:Nat)-1:Int)=(d:Int):=by rw[br _ (by omega)];omega
 have ef:¬((d+1:Nat):Int)=0:=by omega
 have cG:0<=m.pos/\m.pos<=1000000000:=⟨hm.p0,by have:=hm.p1;omega⟩
 have hy:(m.less.next 20).2.In (b+2):=by have:=hm.left.next 20;rwa [Int.add_assoc]at this
 have hyp:0<=(m.less.next 20).2.pos/\(m.less.next 20).2.pos<=1000000000:=by have:=hm.p1;simp only[Mk.next,Mk.less];omega
 have c0:=hm.c0
 have c1:=hm.c1
 refine an func65 rfl ntmps65 results65 rfl 1 499 (by simp) (by simp) ?_
 simp only[zW,simprocAttr,i64,bX,bE,w1]
 refine aC (bJ m.less hm.l cG 20 (by omega)) rfl rfl rfl rfl rfl rfl ?_
 simp only[zW,simprocAttr,i64,bX,bE,w1,Mk.next,Mk.less]
 refine ar mix [] [] (by rfl) ?_
 rw[cx h3 dD]
 have hn:Mk.node (Mk.tree d) (pick m.l m.pos 20) (m.less.next 20).2=Mk.fp (Mk.tree d) (m.less.next 20).2:=by simp [Mk.node,Mk.has,Mk.next,Mk.less,hq,hu]
 rw[hn]
 simp only[zW,simprocAttr,i64,bX,bE,w1,w2,Mk.next,Mk.less,ef,h3,dD,hq,hu]
 refine aC (yV d hd ht (m.less.next 20).2 (b+2) (by omega) hy (by omega)) rfl rfl rfl rfl rfl (by first|rfl|exact bj _ _) ?_
 simp only[zW,simprocAttr,i64,bX,bE,w1,w2,Mk.next,Mk.less,ef,h3,dD,hq,hu]
 all_goals first|exact⟨rfl,rfl⟩|exact⟨rfl,trivial⟩|rfl|trivial|(rw[aj];rfl)
theorem JM (d:Nat) (hd:d<=1000) (hz:zD d<=1000000000) (ht:dh d) (m:Mk) (b:Int) (hb:0<=b) (hm:m.In b) (hs:b+cD (d+1)<=1000000000) (h3:¬m.left-1<3) (dD:¬(m.l.length:Int)<m.pos+1) (hq:pick m.l m.pos 20=12) (hu:¬0<eb .and .i64 m.bu 64) :
  aq prog 65 [bX,i64 (d+1:Nat)] [bE m] fun v s=>v=jW (m.tree (d+1)).1/\s=[bE (m.tree (d+1)).2]:=by
 have hc:=bw d
 have uq:cD (d+1)=2+4*(cD d+1):=rfl
 have w1:IntKind.i64.wrap (m.left-1)=m.left-1:=br _ (by have:=hm.l0;have:=hm.l1;omega)
 have w2:IntKind.i64.wrap ((d+1:Nat)-1:Int)=(d:Int):=by rw[br _ (by omega)];omega
 have ef:¬((d+1:Nat):Int)=0:=by omega
 have cG:0<=m.pos/\m.pos<=1000000000:=⟨hm.p0,by have:=hm.p1;omega⟩
 have hy:(m.less.next 20).2.In (b+2):=by have:=hm.left.next 20;rwa [Int.add_assoc]at this
 have hyp:0<=(m.less.next 20).2.pos/\(m.less.next 20).2.pos<=1000000000:=by have:=hm.p1;simp only[Mk.next,Mk.less];omega
 have c0:=hm.c0
 have c1:=hm.c1
 refine an func65 rfl ntmps65 results65 rfl 1 499 (by simp) (by simp) ?_
 simp only[zW,simprocAttr,i64,bX,bE,w1]
 refine aC (bJ m.less hm.l cG 20 (by omega)) rfl rfl rfl rfl rfl rfl ?_
 simp only[zW,simprocAttr,i64,bX,bE,w1,Mk.next,Mk.less]
 refine ar mix [] [] (by rfl) ?_
 rw[cx h3 dD]
 have hn:Mk.node (Mk.tree d) (pick m.l m.pos 20) (m.less.next 20).2=(m.less.next 20).2.set:=by simp [Mk.node,Mk.has,Mk.next,Mk.less,hq,hu]
 rw[hn]
 simp only[zW,simprocAttr,i64,bX,bE,w1,w2,Mk.next,Mk.less,ef,h3,dD,hq,hu]
 refine aC (iq (m.less.next 20).2 hm.l hyp) rfl rfl rfl rfl rfl (by first|rfl|exact bj _ _) ?_
 simp only[zW,simprocAttr,i64,bX,bE,w1,w2,Mk.next,Mk.less,ef,h3,dD,hq,hu]
 all_goals first|exact⟨rfl,rfl⟩|exact⟨rfl,trivial⟩|rfl|trivial|(rw[aj];rfl)
theorem LP (d:Nat) (hd:d<=1000) (hz:zD d<=1000000000) (ht:dh d) (m:Mk) (b:Int) (hb:0<=b) (hm:m.In b) (hs:b+cD (d+1)<=1000000000) (h3:¬m.left-1<3) (dD:¬(m.l.length:Int)<m.pos+1) (hq:pick m.l m.pos 20=13) (hu:0<eb .and .i64 m.bu 64) :
  aq prog 65 [bX,i64 (d+1:Nat)] [bE m] fun v s=>v=jW (m.tree (d+1)).1/\s=[bE (m.tree (d+1)).2]:=by
 have hc:=bw d
 have uq:cD (d+1)=2+4*(cD d+1):=rfl
 have w1:IntKind.i64.wrap (m.left-1)=m.left-1:=br _ (by have:=hm.l0;have:=hm.l1;omega)
 have w2:IntKind.i64.wrap ((d+1:Nat)-1:Int)=(d:Int):=by rw[br _ (by omega)];omega
 have ef:¬((d+1:Nat):Int)=0:=by omega
 have cG:0<=m.pos/\m.pos<=1000000000:=⟨hm.p0,by have:=hm.p1;omega⟩
 have hy:(m.less.next 20).2.In (b+2):=by have:=hm.left.next 20;rwa [Int.add_assoc]at this
 have hyp:0<=(m.less.next 20).2.pos/\(m.less.next 20).2.pos<=1000000000:=by have:=hm.p1;simp only[Mk.next,Mk.less];omega
 have c0:=hm.c0
 have c1:=hm.c1
 refine an func65 rfl ntmps65 results65 rfl 1 499 (by simp) (by simp) ?_
 simp only[zW,simprocAttr,i64,bX,bE,w1]
 refine aC (bJ m.less hm.l cG 20 (by omega)) rfl rfl rfl rfl rfl rfl ?_
 simp only[zW,simprocAttr,i64,bX,bE,w1,Mk.next,Mk.less]
 refine ar mix [] [] (by rfl) ?_
 rw[cx h3 dD]
 have hn:Mk.node (Mk.tree d) (pick m.l m.pos 20) (m.less.next 20).2=Mk.fp (Mk.tree d) (m.less.next 20).2:=by simp [Mk.node,Mk.has,Mk.next,Mk.less,hq,hu]
 rw[hn]
 simp only[zW,simprocAttr,i64,bX,bE,w1,w2,Mk.next,Mk.less,ef,h3,dD,hq,hu]
 refine aC (yV d hd ht (m.less.next 20).2 (b+2) (by omega) hy (by omega)) rfl rfl rfl rfl rfl (by first|rfl|exact bj _ _) ?_
 simp only[zW,simprocAttr,i64,bX,bE,w1,w2,Mk.next,Mk.less,ef,h3,dD,hq,hu]
 all_goals first|exact⟨rfl,rfl⟩|exact⟨rfl,trivial⟩|rfl|trivial|(rw[aj];rfl)
theorem JB (d:Nat) (hd:d<=1000) (hz:zD d<=1000000000) (ht:dh d) (m:Mk) (b:Int) (hb:0<=b) (hm:m.In b) (hs:b+cD (d+1)<=1000000000) (h3:¬m.left-1<3) (dD:¬(m.l.length:Int)<m.pos+1) (hq:pick m.l m.pos 20=13) (hu:¬0<eb .and .i64 m.bu 64) :
  aq prog 65 [bX,i64 (d+1:Nat)] [bE m] fun v s=>v=jW (m.tree (d+1)).1/\s=[bE (m.tree (d+1)).2]:=by
 have hc:=bw d
 have uq:cD (d+1)=2+4*(cD d+1):=rfl
 have w1:IntKind.i64.wrap (m.left-1)=m.left-1:=br _ (by have:=hm.l0;have:=hm.l1;omega)
 have w2:IntKind.i64.wrap ((d+1:Nat)-1:Int)=(d:Int):=by rw[br _ (by omega)];omega
 have ef:¬((d+1:Nat):Int)=0:=by omega
 have cG:0<=m.pos/\m.pos<=1000000000:=⟨hm.p0,by have:=hm.p1;omega⟩
 have hy:(m.less.next 20).2.In (b+2):=by have:=hm.left.next 20;rwa [Int.add_assoc]at this
 have hyp:0<=(m.less.next 20).2.pos/\(m.less.next 20).2.pos<=1000000000:=by have:=hm.p1;simp only[Mk.next,Mk.less];omega
 have c0:=hm.c0
 have c1:=hm.c1
 refine an func65 rfl ntmps65 results65 rfl 1 499 (by simp) (by simp) ?_
 simp only[zW,simprocAttr,i64,bX,bE,w1]
 refine aC (bJ m.less hm.l cG 20 (by omega)) rfl rfl rfl rfl rfl rfl ?_
 simp only[zW,simprocAttr,i64,bX,bE,w1,Mk.next,Mk.less]
 refine ar mix [] [] (by rfl) ?_
 rw[cx h3 dD]
 have hn:Mk.node (Mk.tree d) (pick m.l m.pos 20) (m.less.next 20).2=(m.less.next 20).2.set:=by simp [Mk.node,Mk.has,Mk.next,Mk.less,hq,hu]
 rw[hn]
 simp only[zW,simprocAttr,i64,bX,bE,w1,w2,Mk.next,Mk.less,ef,h3,dD,hq,hu]
 refine aC (iq (m.less.next 20).2 hm.l hyp) rfl rfl rfl rfl rfl (by first|rfl|exact bj _ _) ?_
 simp only[zW,simprocAttr,i64,bX,bE,w1,w2,Mk.next,Mk.less,ef,h3,dD,hq,hu]
 all_goals first|exact⟨rfl,rfl⟩|exact⟨rfl,trivial⟩|rfl|trivial|(rw[aj];rfl)
theorem KZ (d:Nat) (hd:d<=1000) (hz:zD d<=1000000000) (ht:dh d) (m:Mk) (b:Int) (hb:0<=b) (hm:m.In b) (hs:b+cD (d+1)<=1000000000) (h3:¬m.left-1<3) (dD:¬(m.l.length:Int)<m.pos+1) (hq:pick m.l m.pos 20=14) (hu:0<eb .and .i64 m.bu 16) :
  aq prog 65 [bX,i64 (d+1:Nat)] [bE m] fun v s=>v=jW (m.tree (d+1)).1/\s=[bE (m.tree (d+1)).2]:=by
 have hc:=bw d
 have uq:cD (d+1)=2+4*(cD d+1):=rfl
 have w1:IntKind.i64.wrap (m.left-1)=m.left-1:=br _ (by have:=hm.l0;have:=hm.l1;omega)
 have w2:IntKind.i64.wrap ((d+1:Nat)-1:Int)=(d:Int):=by rw[br _ (by omega)];omega
 have ef:¬((d+1:Nat):Int)=0:=by omega
 have cG:0<=m.pos/\m.pos<=1000000000:=⟨hm.p0,by have:=hm.p1;omega⟩
 have hy:(m.less.next 20).2.In (b+2):=by have:=hm.left.next 20;rwa [Int.add_assoc]at this
 have hyp:0<=(m.less.next 20).2.pos/\(m.less.next 20).2.pos<=1000000000:=by have:=hm.p1;simp only[Mk.next,Mk.less];omega
 have c0:=hm.c0
 have c1:=hm.c1
 refine an func65 rfl ntmps65 results65 rfl 1 499 (by simp) (by simp) ?_
 simp only[zW,simprocAttr,i64,bX,bE,w1]
 refine aC (bJ m.less hm.l cG 20 (by omega)) rfl rfl rfl rfl rfl rfl ?_
 simp only[zW,simprocAttr,i64,bX,bE,w1,Mk.next,Mk.less]
 refine ar mix [] [] (by rfl) ?_
 rw[cx h3 dD]
 have hn:Mk.node (Mk.tree d) (pick m.l m.pos 20) (m.less.next 20).2=(.mk 11 [] [] 0 0 0 (((m.less.next 20).2).next 6).1 false,(((m.less.next 20).2).next 6).2):=by simp [Mk.node,Mk.has,Mk.next,Mk.less,hq,hu]
 rw[hn]
 simp only[zW,simprocAttr,i64,bX,bE,w1,w2,Mk.next,Mk.less,ef,h3,dD,hq,hu]
 refine aC (bJ (m.less.next 20).2 hm.l hyp 6 (by omega)) rfl rfl rfl rfl rfl (by first|rfl|exact bj _ _) ?_
 simp only[zW,simprocAttr,i64,bX,bE,w1,w2,Mk.next,Mk.less,ef,h3,dD,hq,hu]
 all_goals first|exact⟨rfl,rfl⟩|exact⟨rfl,trivial⟩|rfl|trivial|(rw[aj];rfl)
theorem It (d:Nat) (hd:d<=1000) (hz:zD d<=1000000000) (ht:dh d) (m:Mk) (b:Int) (hb:0<=b) (hm:m.In b) (hs:b+cD (d+1)<=1000000000) (h3:¬m.left-1<3) (dD:¬(m.l.length:Int)<m.pos+1) (hq:pick m.l m.pos 20=14) (hu:¬0<eb .and .i64 m.bu 16) :
  aq prog 65 [bX,i64 (d+1:Nat)] [bE m] fun v s=>v=jW (m.tree (d+1)).1/\s=[bE (m.tree (d+1)).2]:=by
 have hc:=bw d
 have uq:cD (d+1)=2+4*(cD d+1):=rfl
 have w1:IntKind.i64.wrap (m.left-1)=m.left-1:=br _ (by have:=hm.l0;have:=hm.l1;omega)
 have w2:IntKind.i64.wrap ((d+1:Nat)-1:Int)=(d:Int):=by rw[br _ (by omega)];omega
 have ef:¬((d+1:Nat):Int)=0:=by omega
 have cG:0<=m.pos/\m.pos<=1000000000:=⟨hm.p0,by have:=hm.p1;omega⟩
 have hy:(m.less.next 20).2.In (b+2):=by have:=hm.left.next 20;rwa [Int.add_assoc]at this
 have hyp:0<=(m.less.next 20).2.pos/\(m.less.next 20).2.pos<=1000000000:=by have:=hm.p1;simp only[Mk.next,Mk.less];omega
 have c0:=hm.c0
 have c1:=hm.c1
 refine an func65 rfl ntmps65 results65 rfl 1 499 (by simp) (by simp) ?_
 simp only[zW,simprocAttr,i64,bX,bE,w1]
 refine aC (bJ m.less hm.l cG 20 (by omega)) rfl rfl rfl rfl rfl rfl ?_
 simp only[zW,simprocAttr,i64,bX,bE,w1,Mk.next,Mk.less]
 refine ar mix [] [] (by rfl) ?_
 rw[cx h3 dD]
 have hn:Mk.node (Mk.tree d) (pick m.l m.pos 20) (m.less.next 20).2=(m.less.next 20).2.set:=by simp [Mk.node,Mk.has,Mk.next,Mk.less,hq,hu]
 rw[hn]
 simp only[zW,simprocAttr,i64,bX,bE,w1,w2,Mk.next,Mk.less,ef,h3,dD,hq,hu]
 refine aC (iq (m.less.next 20).2 hm.l hyp) rfl rfl rfl rfl rfl (by first|rfl|exact bj _ _) ?_
 simp only[zW,simprocAttr,i64,bX,bE,w1,w2,Mk.next,Mk.less,ef,h3,dD,hq,hu]
 all_goals first|exact⟨rfl,rfl⟩|exact⟨rfl,trivial⟩|rfl|trivial|(rw[aj];rfl)
theorem Ky (d:Nat) (hd:d<=1000) (hz:zD d<=1000000000) (ht:dh d) (m:Mk) (b:Int) (hb:0<=b) (hm:m.In b) (hs:b+cD (d+1)<=1000000000) (h3:¬m.left-1<3) (dD:¬(m.l.length:Int)<m.pos+1) (hq:pick m.l m.pos 20=15) (hu:0<eb .and .i64 m.bu 4) :
  aq prog 65 [bX,i64 (d+1:Nat)] [bE m] fun v s=>v=jW (m.tree (d+1)).1/\s=[bE (m.tree (d+1)).2]:=by
 have hc:=bw d
 have uq:cD (d+1)=2+4*(cD d+1):=rfl
 have w1:IntKind.i64.wrap (m.left-1)=m.left-1:=br _ (by have:=hm.l0;have:=hm.l1;omega)
 have w2:IntKind.i64.wrap ((d+1:Nat)-1:Int)=(d:Int):=by rw[br _ (by omega)];omega
 have ef:¬((d+1:Nat):Int)=0:=by omega
 have cG:0<=m.pos/\m.pos<=1000000000:=⟨hm.p0,by have:=hm.p1;omega⟩
 have hy:(m.less.next 20).2.In (b+2):=by have:=hm.left.next 20;rwa [Int.add_assoc]at this
 have hyp:0<=(m.less.next 20).2.pos/\(m.less.next 20).2.pos<=1000000000:=by have:=hm.p1;simp only[Mk.next,Mk.less];omega
 have c0:=hm.c0
 have c1:=hm.c1
 refine an func65 rfl ntmps65 results65 rfl 1 499 (by simp) (by simp) ?_
 simp only[zW,simprocAttr,i64,bX,bE,w1]
 refine aC (bJ m.less hm.l cG 20 (by omega)) rfl rfl rfl rfl rfl rfl ?_
 simp only[zW,simprocAttr,i64,bX,bE,w1,Mk.next,Mk.less]
 refine ar mix [] [] (by rfl) ?_
 rw[cx h3 dD]
 have BX:=bO m.l (m.pos+1+1) 2 (by omega)
 have w3:IntKind.i64.wrap (7+pick m.l (m.pos+1+1) 2)=7+pick m.l (m.pos+1+1) 2:=br _ (by omega)
 have hn:Mk.node (Mk.tree d) (pick m.l m.pos 20) (m.less.next 20).2=(.mk (7+(((m.less.next 20).2.next 3).2.next 2).1) [] [(Mk.tree d (((m.less.next 20).2.next 3).2.next 2).2).1] 0 0 0 0 (decide (((m.less.next 20).2.next 3).1=0)),(Mk.tree d (((m.less.next 20).2.next 3).2.next 2).2).2):=by simp [Mk.node,Mk.has,Mk.next,Mk.less,hq,hu,w3]
 rw[hn]
 simp only[zW,simprocAttr,i64,bX,bE,w1,w2,Mk.next,Mk.less,ef,h3,dD,hq,hu,w3]
 refine aC (bJ (m.less.next 20).2 hm.l hyp 3 (by omega)) rfl rfl rfl rfl rfl (by first|rfl|exact bj _ _) ?_
 simp only[zW,simprocAttr,i64,bX,bE,w1,w2,Mk.next,Mk.less,ef,h3,dD,hq,hu,w3]
 refine aC (bJ ((m.less.next 20).2.next 3).2 hm.l (by have:=hm.p1;simp only[Mk.next,Mk.less];omega) 2 (by omega)) rfl rfl rfl rfl rfl (by first|rfl|exact bj _ _) ?_
 simp only[zW,simprocAttr,i64,bX,bE,w1,w2,Mk.next,Mk.less,ef,h3,dD,hq,hu,w3]
 refine aC (ht (((m.less.next 20).2.next 3).2.next 2).2 (b+4) (by omega) (((hy.next 3).next 2).mono (by omega)) (by omega)) rfl rfl rfl rfl rfl (by first|rfl|exact bj _ _) ?_
 simp only[zW,simprocAttr,i64,bX,bE,w1,w2,Mk.next,Mk.less,ef,h3,dD,hq,hu,w3]
 all_goals first|exact⟨rfl,rfl⟩|exact⟨rfl,trivial⟩|rfl|trivial|(rw[aj];rfl)
theorem Ja (d:Nat) (hd:d<=1000) (hz:zD d<=1000000000) (ht:dh d) (m:Mk) (b:Int) (hb:0<=b) (hm:m.In b) (hs:b+cD (d+1)<=1000000000) (h3:¬m.left-1<3) (dD:¬(m.l.length:Int)<m.pos+1) (hq:pick m.l m.pos 20=15) (hu:¬0<eb .and .i64 m.bu 4) :
  aq prog 65 [bX,i64 (d+1:Nat)] [bE m] fun v s=>v=jW (m.tree (d+1)).1/\s=[bE (m.tree (d+1)).2]:=by
 have hc:=bw d
 have uq:cD (d+1)=2+4*(cD d+1):=rfl
 have w1:IntKind.i64.wrap (m.left-1)=m.left-1:=br _ (by have:=hm.l0;have:=hm.l1;omega)
 have w2:IntKind.i64.wrap ((d+1:Nat)-1:Int)=(d:Int):=by rw[br _ (by omega)];omega
 have ef:¬((d+1:Nat):Int)=0:=by omega
 have cG:0<=m.pos/\m.pos<=1000000000:=⟨hm.p0,by have:=hm.p1;omega⟩
 have hy:(m.less.next 20).2.In (b+2):=by have:=hm.left.next 20;rwa [Int.add_assoc]at this
 have hyp:0<=(m.less.next 20).2.pos/\(m.less.next 20).2.pos<=1000000000:=by have:=hm.p1;simp only[Mk.next,Mk.less];omega
 have c0:=hm.c0
 have c1:=hm.c1
 refine an func65 rfl ntmps65 results65 rfl 1 499 (by simp) (by simp) ?_
 simp only[zW,simprocAttr,i64,bX,bE,w1]
 refine aC (bJ m.less hm.l cG 20 (by omega)) rfl rfl rfl rfl rfl rfl ?_
 simp only[zW,simprocAttr,i64,bX,bE,w1,Mk.next,Mk.less]
 refine ar mix [] [] (by rfl) ?_
 rw[cx h3 dD]
 have hn:Mk.node (Mk.tree d) (pick m.l m.pos 20) (m.less.next 20).2=(m.less.next 20).2.set:=by simp [Mk.node,Mk.has,Mk.next,Mk.less,hq,hu]
 rw[hn]
 simp only[zW,simprocAttr,i64,bX,bE,w1,w2,Mk.next,Mk.less,ef,h3,dD,hq,hu]
 refine aC (iq (m.less.next 20).2 hm.l hyp) rfl rfl rfl rfl rfl (by first|rfl|exact bj _ _) ?_
 simp only[zW,simprocAttr,i64,bX,bE,w1,w2,Mk.next,Mk.less,ef,h3,dD,hq,hu]
 all_goals first|exact⟨rfl,rfl⟩|exact⟨rfl,trivial⟩|rfl|trivial|(rw[aj];rfl)
theorem L5 (d:Nat) (hd:d<=1000) (hz:zD d<=1000000000) (ht:dh d) (m:Mk) (b:Int) (hb:0<=b) (hm:m.In b) (hs:b+cD (d+1)<=1000000000) (h3:¬m.left-1<3) (dD:¬(m.l.length:Int)<m.pos+1) (hq:pick m.l m.pos 20=16) (hu:0<eb .and .i64 m.bu 8) :
  aq prog 65 [bX,i64 (d+1:Nat)] [bE m] fun v s=>v=jW (m.tree (d+1)).1/\s=[bE (m.tree (d+1)).2]:=by
 have hc:=bw d
 have uq:cD (d+1)=2+4*(cD d+1):=rfl
 have w1:IntKind.i64.wrap (m.left-1)=m.left-1:=br _ (by have:=hm.l0;have:=hm.l1;omega)
 have w2:IntKind.i64.wrap ((d+1:Nat)-1:Int)=(d:Int):=by rw[br _ (by omega)];omega
 have ef:¬((d+1:Nat):Int)=0:=by omega
 have cG:0<=m.pos/\m.pos<=1000000000:=⟨hm.p0,by have:=hm.p1;omega⟩
 have hy:(m.less.next 20).2.In (b+2):=by have:=hm.left.next 20;rwa [Int.add_assoc]at this
 have hyp:0<=(m.less.next 20).2.pos/\(m.less.next 20).2.pos<=1000000000:=by have:=hm.p1;simp only[Mk.next,Mk.less];omega
 have c0:=hm.c0
 have c1:=hm.c1
 refine an func65 rfl ntmps65 results65 rfl 1 499 (by simp) (by simp) ?_
 simp only[zW,simprocAttr,i64,bX,bE,w1]
 refine aC (bJ m.less hm.l cG 20 (by omega)) rfl rfl rfl rfl rfl rfl ?_
 simp only[zW,simprocAttr,i64,bX,bE,w1,Mk.next,Mk.less]
 refine ar mix [] [] (by rfl) ?_
 rw[cx h3 dD]
 have hn:Mk.node (Mk.tree d) (pick m.l m.pos 20) (m.less.next 20).2=(Re.node 9 [(Mk.tree d (m.less.next 20).2).1],(Mk.tree d (m.less.next 20).2).2):=by simp [Mk.node,Mk.has,Mk.next,Mk.less,hq,hu]
 rw[hn]
 simp only[zW,simprocAttr,i64,bX,bE,w1,w2,Mk.next,Mk.less,ef,h3,dD,hq,hu]
 refine aC (ht (m.less.next 20).2 (b+2) (by omega) hy (by omega)) rfl rfl rfl rfl rfl (by first|rfl|exact bj _ _) ?_
 simp only[zW,simprocAttr,i64,bX,bE,w1,w2,Mk.next,Mk.less,ef,h3,dD,hq,hu]
 all_goals first|exact⟨rfl,rfl⟩|exact⟨rfl,trivial⟩|rfl|trivial|(rw[aj];rfl)
theorem Jo (d:Nat) (hd:d<=1000) (hz:zD d<=1000000000) (ht:dh d) (m:Mk) (b:Int) (hb:0<=b) (hm:m.In b) (hs:b+cD (d+1)<=1000000000) (h3:¬m.left-1<3) (dD:¬(m.l.length:Int)<m.pos+1) (hq:pick m.l m.pos 20=16) (hu:¬0<eb .and .i64 m.bu 8) :
  aq prog 65 [bX,i64 (d+1:Nat)] [bE m] fun v s=>v=jW (m.tree (d+1)).1/\s=[bE (m.tree (d+1)).2]:=by
 have hc:=bw d
 have uq:cD (d+1)=2+4*(cD d+1):=rfl
 have w1:IntKind.i64.wrap (m.left-1)=m.left-1:=br _ (by have:=hm.l0;have:=hm.l1;omega)
 have w2:IntKind.i64.wrap ((d+1:Nat)-1:Int)=(d:Int):=by rw[br _ (by omega)];omega
 have ef:¬((d+1:Nat):Int)=0:=by omega
 have cG:0<=m.pos/\m.pos<=1000000000:=⟨hm.p0,by have:=hm.p1;omega⟩
 have hy:(m.less.next 20).2.In (b+2):=by have:=hm.left.next 20;rwa [Int.add_assoc]at this
 have hyp:0<=(m.less.next 20).2.pos/\(m.less.next 20).2.pos<=1000000000:=by have:=hm.p1;simp only[Mk.next,Mk.less];omega
 have c0:=hm.c0
 have c1:=hm.c1
 refine an func65 rfl ntmps65 results65 rfl 1 499 (by simp) (by simp) ?_
 simp only[zW,simprocAttr,i64,bX,bE,w1]
 refine aC (bJ m.less hm.l cG 20 (by omega)) rfl rfl rfl rfl rfl rfl ?_
 simp only[zW,simprocAttr,i64,bX,bE,w1,Mk.next,Mk.less]
 refine ar mix [] [] (by rfl) ?_
 rw[cx h3 dD]
 have hn:Mk.node (Mk.tree d) (pick m.l m.pos 20) (m.less.next 20).2=(m.less.next 20).2.set:=by simp [Mk.node,Mk.has,Mk.next,Mk.less,hq,hu]
 rw[hn]
 simp only[zW,simprocAttr,i64,bX,bE,w1,w2,Mk.next,Mk.less,ef,h3,dD,hq,hu]
 refine aC (iq (m.less.next 20).2 hm.l hyp) rfl rfl rfl rfl rfl (by first|rfl|exact bj _ _) ?_
 simp only[zW,simprocAttr,i64,bX,bE,w1,w2,Mk.next,Mk.less,ef,h3,dD,hq,hu]
 all_goals first|exact⟨rfl,rfl⟩|exact⟨rfl,trivial⟩|rfl|trivial|(rw[aj];rfl)
theorem Kj (d:Nat) (hd:d<=1000) (hz:zD d<=1000000000) (ht:dh d) (m:Mk) (b:Int) (hb:0<=b) (hm:m.In b) (hs:b+cD (d+1)<=1000000000) (h3:¬m.left-1<3) (dD:¬(m.l.length:Int)<m.pos+1) (hq:pick m.l m.pos 20=17) (hu:0<eb .and .i64 m.bu 1) (tq:0<m.ai) :
  aq prog 65 [bX,i64 (d+1:Nat)] [bE m] fun v s=>v=jW (m.tree (d+1)).1/\s=[bE (m.tree (d+1)).2]:=by
 have hc:=bw d
 have uq:cD (d+1)=2+4*(cD d+1):=rfl
 have w1:IntKind.i64.wrap (m.left-1)=m.left-1:=br _ (by have:=hm.l0;have:=hm.l1;omega)
 have w2:IntKind.i64.wrap ((d+1:Nat)-1:Int)=(d:Int):=by rw[br _ (by omega)];omega
 have ef:¬((d+1:Nat):Int)=0:=by omega
 have cG:0<=m.pos/\m.pos<=1000000000:=⟨hm.p0,by have:=hm.p1;omega⟩
 have hy:(m.less.next 20).2.In (b+2):=by have:=hm.left.next 20;rwa [Int.add_assoc]at this
 have hyp:0<=(m.less.next 20).2.pos/\(m.less.next 20).2.pos<=1000000000:=by have:=hm.p1;simp only[Mk.next,Mk.less];omega
 have c0:=hm.c0
 have c1:=hm.c1
 refine an func65 rfl ntmps65 results65 rfl 1 499 (by simp) (by simp) ?_
 simp only[zW,simprocAttr,i64,bX,bE,w1]
 refine aC (bJ m.less hm.l cG 20 (by omega)) rfl rfl rfl rfl rfl rfl ?_
 simp only[zW,simprocAttr,i64,bX,bE,w1,Mk.next,Mk.less]
 refine ar mix [] [] (by rfl) ?_
 rw[cx h3 dD]
 have BX:=bO m.l (m.pos+1) m.ai (by omega)
 have w3:IntKind.i64.wrap (1+pick m.l (m.pos+1) m.ai)=1+pick m.l (m.pos+1) m.ai:=br _ (by omega)
 have hn:Mk.node (Mk.tree d) (pick m.l m.pos 20) (m.less.next 20).2=(.mk 6 [] [] 0 0 0 (1+((m.less.next 20).2.next m.ai).1) false,((m.less.next 20).2.next m.ai).2):=by simp [Mk.node,Mk.has,Mk.next,Mk.less,hq,hu,tq,w3]
 rw[hn]
 simp only[zW,simprocAttr,i64,bX,bE,w1,w2,Mk.next,Mk.less,ef,h3,dD,hq,hu,tq,w3]
 refine aC (bJ (m.less.next 20).2 hm.l hyp m.ai (by omega)) rfl rfl rfl rfl rfl (by first|rfl|exact bj _ _) ?_
 simp only[zW,simprocAttr,i64,bX,bE,w1,w2,Mk.next,Mk.less,ef,h3,dD,hq,hu,tq,w3]
 all_goals first|exact⟨rfl,rfl⟩|exact⟨rfl,trivial⟩|rfl|trivial|(rw[aj];rfl)
theorem IC (d:Nat) (hd:d<=1000) (hz:zD d<=1000000000) (ht:dh d) (m:Mk) (b:Int) (hb:0<=b) (hm:m.In b) (hs:b+cD (d+1)<=1000000000) (h3:¬m.left-1<3) (dD:¬(m.l.length:Int)<m.pos+1) (hq:pick m.l m.pos 20=17) (hu:0<eb .and .i64 m.bu 1) (tq:¬0<m.ai) :
  aq prog 65 [bX,i64 (d+1:Nat)] [bE m] fun v s=>v=jW (m.tree (d+1)).1/\s=[bE (m.tree (d+1)).2]:=by
 have hc:=bw d
 have uq:cD (d+1)=2+4*(cD d+1):=rfl
 have w1:IntKind.i64.wrap (m.left-1)=m.left-1:=br _ (by have:=hm.l0;have:=hm.l1;omega)
 have w2:IntKind.i64.wrap ((d+1:Nat)-1:Int)=(d:Int):=by rw[br _ (by omega)];omega
 have ef:¬((d+1:Nat):Int)=0:=by omega
 have cG:0<=m.pos/\m.pos<=1000000000:=⟨hm.p0,by have:=hm.p1;omega⟩
 have hy:(m.less.next 20).2.In (b+2):=by have:=hm.left.next 20;rwa [Int.add_assoc]at this
 have hyp:0<=(m.less.next 20).2.pos/\(m.less.next 20).2.pos<=1000000000:=by have:=hm.p1;simp only[Mk.next,Mk.less];omega
 have c0:=hm.c0
 have c1:=hm.c1
 refine an func65 rfl ntmps65 results65 rfl 1 499 (by simp) (by simp) ?_
 simp only[zW,simprocAttr,i64,bX,bE,w1]
 refine aC (bJ m.less hm.l cG 20 (by omega)) rfl rfl rfl rfl rfl rfl ?_
 simp only[zW,simprocAttr,i64,bX,bE,w1,Mk.next,Mk.less]
 refine ar mix [] [] (by rfl) ?_
 rw[cx h3 dD]
 have hn:Mk.node (Mk.tree d) (pick m.l m.pos 20) (m.less.next 20).2=(m.less.next 20).2.set:=by simp [Mk.node,Mk.has,Mk.next,Mk.less,hq,hu,tq]
 rw[hn]
 simp only[zW,simprocAttr,i64,bX,bE,w1,w2,Mk.next,Mk.less,ef,h3,dD,hq,hu,tq]
 refine aC (iq (m.less.next 20).2 hm.l hyp) rfl rfl rfl rfl rfl (by first|rfl|exact bj _ _) ?_
 simp only[zW,simprocAttr,i64,bX,bE,w1,w2,Mk.next,Mk.less,ef,h3,dD,hq,hu,tq]
 all_goals first|exact⟨rfl,rfl⟩|exact⟨rfl,trivial⟩|rfl|trivial|(rw[aj];rfl)
theorem Je (d:Nat) (hd:d<=1000) (hz:zD d<=1000000000) (ht:dh d) (m:Mk) (b:Int) (hb:0<=b) (hm:m.In b) (hs:b+cD (d+1)<=1000000000) (h3:¬m.left-1<3) (dD:¬(m.l.length:Int)<m.pos+1) (hq:pick m.l m.pos 20=17) (hu:¬0<eb .and .i64 m.bu 1) :
  aq prog 65 [bX,i64 (d+1:Nat)] [bE m] fun v s=>v=jW (m.tree (d+1)).1/\s=[bE (m.tree (d+1)).2]:=by
 have hc:=bw d
 have uq:cD (d+1)=2+4*(cD d+1):=rfl
 have w1:IntKind.i64.wrap (m.left-1)=m.left-1:=br _ (by have:=hm.l0;have:=hm.l1;omega)
 have w2:IntKind.i64.wrap ((d+1:Nat)-1:Int)=(d:Int):=by rw[br _ (by omega)];omega
 have ef:¬((d+1:Nat):Int)=0:=by omega
 have cG:0<=m.pos/\m.pos<=1000000000:=⟨hm.p0,by have:=hm.p1;omega⟩
 have hy:(m.less.next 20).2.In (b+2):=by have:=hm.left.next 20;rwa [Int.add_assoc]at this
 have hyp:0<=(m.less.next 20).2.pos/\(m.less.next 20).2.pos<=1000000000:=by have:=hm.p1;simp only[Mk.next,Mk.less];omega
 have c0:=hm.c0
 have c1:=hm.c1
 refine an func65 rfl ntmps65 results65 rfl 1 499 (by simp) (by simp) ?_
 simp only[zW,simprocAttr,i64,bX,bE,w1]
 refine aC (bJ m.less hm.l cG 20 (by omega)) rfl rfl rfl rfl rfl rfl ?_
 simp only[zW,simprocAttr,i64,bX,bE,w1,Mk.next,Mk.less]
 refine ar mix [] [] (by rfl) ?_
 rw[cx h3 dD]
 have hn:Mk.node (Mk.tree d) (pick m.l m.pos 20) (m.less.next 20).2=(m.less.next 20).2.set:=by simp [Mk.node,Mk.has,Mk.next,Mk.less,hq,hu]
 rw[hn]
 simp only[zW,simprocAttr,i64,bX,bE,w1,w2,Mk.next,Mk.less,ef,h3,dD,hq,hu]
 refine aC (iq (m.less.next 20).2 hm.l hyp) rfl rfl rfl rfl rfl (by first|rfl|exact bj _ _) ?_
 simp only[zW,simprocAttr,i64,bX,bE,w1,w2,Mk.next,Mk.less,ef,h3,dD,hq,hu]
 all_goals first|exact⟨rfl,rfl⟩|exact⟨rfl,trivial⟩|rfl|trivial|(rw[aj];rfl)
theorem KS (d:Nat) (hd:d<=1000) (hz:zD d<=1000000000) (ht:dh d) (m:Mk) (b:Int) (hb:0<=b) (hm:m.In b) (hs:b+cD (d+1)<=1000000000) (h3:¬m.left-1<3) (dD:¬(m.l.length:Int)<m.pos+1) (hq:pick m.l m.pos 20=18) (hu:0<eb .and .i64 m.bu 2) (tq:0<m.ai) :
  aq prog 65 [bX,i64 (d+1:Nat)] [bE m] fun v s=>v=jW (m.tree (d+1)).1/\s=[bE (m.tree (d+1)).2]:=by
 have hc:=bw d
 have uq:cD (d+1)=2+4*(cD d+1):=rfl
 have w1:IntKind.i64.wrap (m.left-1)=m.left-1:=br _ (by have:=hm.l0;have:=hm.l1;omega)
 have w2:IntKind.i64.wrap ((d+1:Nat)-1:Int)=(d:Int):=by rw[br _ (by omega)];omega
 have ef:¬((d+1:Nat):Int)=0:=by omega
 have cG:0<=m.pos/\m.pos<=1000000000:=⟨hm.p0,by have:=hm.p1;omega⟩
 have hy:(m.less.next 20).2.In (b+2):=by have:=hm.left.next 20;rwa [Int.add_assoc]at this
 have hyp:0<=(m.less.next 20).2.pos/\(m.less.next 20).2.pos<=1000000000:=by have:=hm.p1;simp only[Mk.next,Mk.less];omega
 have c0:=hm.c0
 have c1:=hm.c1
 refine an func65 rfl ntmps65 results65 rfl 1 499 (by simp) (by simp) ?_
 simp only[zW,simprocAttr,i64,bX,bE,w1]
 refine aC (bJ m.less hm.l cG 20 (by omega)) rfl rfl rfl rfl rfl rfl ?_
 simp only[zW,simprocAttr,i64,bX,bE,w1,Mk.next,Mk.less]
 refine ar mix [] [] (by rfl) ?_
 rw[cx h3 dD]
 have BX:=bO m.l (m.pos+1) m.ai (by omega)
 have w3:IntKind.i64.wrap (1+pick m.l (m.pos+1) m.ai)=1+pick m.l (m.pos+1) m.ai:=br _ (by omega)
 obtain⟨g1,g2⟩:=hZ d ((m.less.next 20).2.next m.ai).2 (b+3) (by omega) ((hy.next m.ai).mono (by omega))
 have hn:Mk.node (Mk.tree d) (pick m.l m.pos 20) (m.less.next 20).2=(.mk 10 [] [(Mk.tree d ((m.less.next 20).2.next m.ai).2).1,(Mk.tree d (Mk.tree d ((m.less.next 20).2.next m.ai).2).2).1] 0 0 0 (1+((m.less.next 20).2.next m.ai).1) false,(Mk.tree d (Mk.tree d ((m.less.next 20).2.next m.ai).2).2).2):=by simp [Mk.node,Mk.has,Mk.next,Mk.less,hq,hu,tq,w3]
 rw[hn]
 simp only[zW,simprocAttr,i64,bX,bE,w1,w2,Mk.next,Mk.less,ef,h3,dD,hq,hu,tq,w3]
 refine aC (bJ (m.less.next 20).2 hm.l hyp m.ai (by omega)) rfl rfl rfl rfl rfl (by first|rfl|exact bj _ _) ?_
 simp only[zW,simprocAttr,i64,bX,bE,w1,w2,Mk.next,Mk.less,ef,h3,dD,hq,hu,tq,w3]
 refine aC (ht ((m.less.next 20).2.next m.ai).2 (b+3) (by omega) ((hy.next m.ai).mono (by omega)) (by omega)) rfl rfl rfl rfl rfl (by first|rfl|exact bj _ _) ?_
 simp only[zW,simprocAttr,i64,bX,bE,w1,w2,Mk.next,Mk.less,ef,h3,dD,hq,hu,tq,w3]
 refine ar mix [8] [(1,[2],[]),(5,[0],[0])] (by rfl) ?_
 simp only[zW,simprocAttr,i64,bX,bE,w1,w2,Mk.next,Mk.less,ef,h3,dD,hq,hu,tq,w3]
 refine qx (ht (Mk.tree d ((m.less.next 20).2.next m.ai).2).2 (b+3+cD d) (by omega) g1 (by omega)) rfl rfl rfl rfl rfl (bj _ _) ?_
 simp only[zW,simprocAttr,i64,bX,bE,w1,w2,Mk.next,Mk.less,ef,h3,dD,hq,hu,tq,w3]
 all_goals first|exact⟨rfl,rfl⟩|exact⟨rfl,trivial⟩|rfl|trivial|(rw[aj];rfl)
theorem IW (d:Nat) (hd:d<=1000) (hz:zD d<=1000000000) (ht:dh d) (m:Mk) (b:Int) (hb:0<=b) (hm:m.In b) (hs:b+cD (d+1)<=1000000000) (h3:¬m.left-1<3) (dD:¬(m.l.length:Int)<m.pos+1) (hq:pick m.l m.pos 20=18) (hu:0<eb .and .i64 m.bu 2) (tq:¬0<m.ai) :
  aq prog 65 [bX,i64 (d+1:Nat)] [bE m] fun v s=>v=jW (m.tree (d+1)).1/\s=[bE (m.tree (d+1)).2]:=by
 have hc:=bw d
 have uq:cD (d+1)=2+4*(cD d+1):=rfl
 have w1:IntKind.i64.wrap (m.left-1)=m.left-1:=br _ (by have:=hm.l0;have:=hm.l1;omega)
 have w2:IntKind.i64.wrap ((d+1:Nat)-1:Int)=(d:Int):=by rw[br _ (by omega)];omega
 have ef:¬((d+1:Nat):Int)=0:=by omega
 have cG:0<=m.pos/\m.pos<=1000000000:=⟨hm.p0,by have:=hm.p1;omega⟩
 have hy:(m.less.next 20).2.In (b+2):=by have:=hm.left.next 20;rwa [Int.add_assoc]at this
 have hyp:0<=(m.less.next 20).2.pos/\(m.less.next 20).2.pos<=1000000000:=by have:=hm.p1;simp only[Mk.next,Mk.less];omega
 have c0:=hm.c0
 have c1:=hm.c1
 refine an func65 rfl ntmps65 results65 rfl 1 499 (by simp) (by simp) ?_
 simp only[zW,simprocAttr,i64,bX,bE,w1]
 refine aC (bJ m.less hm.l cG 20 (by omega)) rfl rfl rfl rfl rfl rfl ?_
 simp only[zW,simprocAttr,i64,bX,bE,w1,Mk.next,Mk.less]
 refine ar mix [] [] (by rfl) ?_
 rw[cx h3 dD]
 have hn:Mk.node (Mk.tree d) (pick m.l m.pos 20) (m.less.next 20).2=(m.less.next 20).2.set:=by simp [Mk.node,Mk.has,Mk.next,Mk.less,hq,hu,tq]
 rw[hn]
 simp only[zW,simprocAttr,i64,bX,bE,w1,w2,Mk.next,Mk.less,ef,h3,dD,hq,hu,tq]
 refine aC (iq (m.less.next 20).2 hm.l hyp) rfl rfl rfl rfl rfl (by first|rfl|exact bj _ _) ?_
 simp only[zW,simprocAttr,i64,bX,bE,w1,w2,Mk.next,Mk.less,ef,h3,dD,hq,hu,tq]
 all_goals first|exact⟨rfl,rfl⟩|exact⟨rfl,trivial⟩|rfl|trivial|(rw[aj];rfl)
theorem Jn (d:Nat) (hd:d<=1000) (hz:zD d<=1000000000) (ht:dh d) (m:Mk) (b:Int) (hb:0<=b) (hm:m.In b) (hs:b+cD (d+1)<=1000000000) (h3:¬m.left-1<3) (dD:¬(m.l.length:Int)<m.pos+1) (hq:pick m.l m.pos 20=18) (hu:¬0<eb .and .i64 m.bu 2) :
  aq prog 65 [bX,i64 (d+1:Nat)] [bE m] fun v s=>v=jW (m.tree (d+1)).1/\s=[bE (m.tree (d+1)).2]:=by
 have hc:=bw d
 have uq:cD (d+1)=2+4*(cD d+1):=rfl
 have w1:IntKind.i64.wrap (m.left-1)=m.left-1:=br _ (by have:=hm.l0;have:=hm.l1;omega)
 have w2:IntKind.i64.wrap ((d+1:Nat)-1:Int)=(d:Int):=by rw[br _ (by omega)];omega
 have ef:¬((d+1:Nat):Int)=0:=by omega
 have cG:0<=m.pos/\m.pos<=1000000000:=⟨hm.p0,by have:=hm.p1;omega⟩
 have hy:(m.less.next 20).2.In (b+2):=by have:=hm.left.next 20;rwa [Int.add_assoc]at this
 have hyp:0<=(m.less.next 20).2.pos/\(m.less.next 20).2.pos<=1000000000:=by have:=hm.p1;simp only[Mk.next,Mk.less];omega
 have c0:=hm.c0
 have c1:=hm.c1
 refine an func65 rfl ntmps65 results65 rfl 1 499 (by simp) (by simp) ?_
 simp only[zW,simprocAttr,i64,bX,bE,w1]
 refine aC (bJ m.less hm.l cG 20 (by omega)) rfl rfl rfl rfl rfl rfl ?_
 simp only[zW,simprocAttr,i64,bX,bE,w1,Mk.next,Mk.less]
 refine ar mix [] [] (by rfl) ?_
 rw[cx h3 dD]
 have hn:Mk.node (Mk.tree d) (pick m.l m.pos 20) (m.less.next 20).2=(m.less.next 20).2.set:=by simp [Mk.node,Mk.has,Mk.next,Mk.less,hq,hu]
 rw[hn]
 simp only[zW,simprocAttr,i64,bX,bE,w1,w2,Mk.next,Mk.less,ef,h3,dD,hq,hu]
 refine aC (iq (m.less.next 20).2 hm.l hyp) rfl rfl rfl rfl rfl (by first|rfl|exact bj _ _) ?_
 simp only[zW,simprocAttr,i64,bX,bE,w1,w2,Mk.next,Mk.less,ef,h3,dD,hq,hu]
 all_goals first|exact⟨rfl,rfl⟩|exact⟨rfl,trivial⟩|rfl|trivial|(rw[aj];rfl)
theorem LU (d:Nat) (hd:d<=1000) (hz:zD d<=1000000000) (ht:dh d) (m:Mk) (b:Int) (hb:0<=b) (hm:m.In b) (hs:b+cD (d+1)<=1000000000) (h3:¬m.left-1<3) (dD:¬(m.l.length:Int)<m.pos+1) (hq:pick m.l m.pos 20=19) :
  aq prog 65 [bX,i64 (d+1:Nat)] [bE m] fun v s=>v=jW (m.tree (d+1)).1/\s=[bE (m.tree (d+1)).2]:=by
 have hc:=bw d
 have uq:cD (d+1)=2+4*(cD d+1):=rfl
 have w1:IntKind.i64.wrap (m.left-1)=m.left-1:=br _ (by have:=hm.l0;have:=hm.l1;omega)
 have w2:IntKind.i64.wrap ((d+1:Nat)-1:Int)=(d:Int):=by rw[br _ (by omega)];omega
 have ef:¬((d+1:Nat):Int)=0:=by omega
 have cG:0<=m.pos/\m.pos<=1000000000:=⟨hm.p0,by have:=hm.p1;omega⟩
 have hy:(m.less.next 20).2.In (b+2):=by have:=hm.left.next 20;rwa [Int.add_assoc]at this
 have hyp:0<=(m.less.next 20).2.pos/\(m.less.next 20).2.pos<=1000000000:=by have:=hm.p1;simp only[Mk.next,Mk.less];omega
 have c0:=hm.c0
 have c1:=hm.c1
 refine an func65 rfl ntmps65 results65 rfl 1 499 (by simp) (by simp) ?_
 simp only[zW,simprocAttr,i64,bX,bE,w1]
 refine aC (bJ m.less hm.l cG 20 (by omega)) rfl rfl rfl rfl rfl rfl ?_
 simp only[zW,simprocAttr,i64,bX,bE,w1,Mk.next,Mk.less]
 refine ar mix [] [] (by rfl) ?_
 rw[cx h3 dD]
 have hn:Mk.node (Mk.tree d) (pick m.l m.pos 20) (m.less.next 20).2=(m.less.next 20).2.set:=by simp [Mk.node,Mk.has,Mk.next,Mk.less,hq]
 rw[hn]
 simp only[zW,simprocAttr,i64,bX,bE,w1,w2,Mk.next,Mk.less,ef,h3,dD,hq]
 refine aC (iq (m.less.next 20).2 hm.l hyp) rfl rfl rfl rfl rfl (by first|rfl|exact bj _ _) ?_
 simp only[zW,simprocAttr,i64,bX,bE,w1,w2,Mk.next,Mk.less,ef,h3,dD,hq]
 all_goals first|exact⟨rfl,rfl⟩|exact⟨rfl,trivial⟩|rfl|trivial|(rw[aj];rfl)
theorem IV (d:Nat) (hd:d<=1000) (hz:zD d<=1000000000) (ht:dh d):dh (d+1):=by
 intro m b hb hm hs
 have hk:=bO m.l m.pos 20 (by omega)
 by_cases h3:m.left-1<3
 ·exact Gw d hd hz ht m b hb hm hs h3
 by_cases dD:(m.l.length:Int)<m.pos+1
 ·exact G4 d hd hz ht m b hb hm hs h3 dD
 by_cases h5:pick m.l m.pos 20<5
 ·exact KB d hd hz ht m b hb hm hs h3 dD h5
 by_cases h8:pick m.l m.pos 20<8
 ·exact Mg d hd hz ht m b hb hm hs h3 dD h5 h8
 by_cases iF:pick m.l m.pos 20<12
 ·exact Ku d hd hz ht m b hb hm hs h3 dD h5 h8 iF
 have sq:pick m.l m.pos 20=12\/pick m.l m.pos 20=13\/pick m.l m.pos 20=14\/pick m.l m.pos 20=15\/pick m.l m.pos 20=16\/pick m.l m.pos 20=17\/pick m.l m.pos 20=18\/pick m.l m.pos 20=19:=by omega
 rcases sq with hq|hq|hq|hq|hq|hq|hq|hq
 ·by_cases hu:0<eb .and .i64 m.bu 64
  ·exact K3 d hd hz ht m b hb hm hs h3 dD hq hu
  ·exact JM d hd hz ht m b hb hm hs h3 dD hq hu
 ·by_cases hu:0<eb .and .i64 m.bu 64
  ·exact LP d hd hz ht m b hb hm hs h3 dD hq hu
  ·exact JB d hd hz ht m b hb hm hs h3 dD hq hu
 ·by_cases hu:0<eb .and .i64 m.bu 16
  ·exact KZ d hd hz ht m b hb hm hs h3 dD hq hu
  ·exact It d hd hz ht m b hb hm hs h3 dD hq hu
 ·by_cases hu:0<eb .and .i64 m.bu 4
  ·exact Ky d hd hz ht m b hb hm hs h3 dD hq hu
  ·exact Ja d hd hz ht m b hb hm hs h3 dD hq hu
 ·by_cases hu:0<eb .and .i64 m.bu 8
  ·exact L5 d hd hz ht m b hb hm hs h3 dD hq hu
  ·exact Jo d hd hz ht m b hb hm hs h3 dD hq hu
 ·by_cases hu:0<eb .and .i64 m.bu 1
  ·by_cases tq:0<m.ai
   ·exact Kj d hd hz ht m b hb hm hs h3 dD hq hu tq
   ·exact IC d hd hz ht m b hb hm hs h3 dD hq hu tq
  ·exact Je d hd hz ht m b hb hm hs h3 dD hq hu
 ·by_cases hu:0<eb .and .i64 m.bu 2
  ·by_cases tq:0<m.ai
   ·exact KS d hd hz ht m b hb hm hs h3 dD hq hu tq
   ·exact IW d hd hz ht m b hb hm hs h3 dD hq hu tq
  ·exact Jn d hd hz ht m b hb hm hs h3 dD hq hu
 ·exact LU d hd hz ht m b hb hm hs h3 dD hq
theorem Ik:∀d,d<=1000->zD d<=1000000000->dh d
 |0,_,_=>Ix
 |d+1,hd,hz=>IV d (by omega) (by have:=vz d;simp only[zD]at hz;omega) (Ik d (by omega) (by have:=vz d;simp only[zD]at hz;omega))
end Go.Proofs.Ytfmdmlfhigocaaa
