/- A part of the proof (F11). -/
import Derived.Test.YtfmdmlfhigocaaaON22
set_option linter.unusedSimpArgs false
set_option linter.unusedVariables false
set_option maxRecDepth 100000
set_option maxHeartbeats 80000000
namespace Go.Proofs.Ytfmdmlfhigocaaa
open Go.VL Go.Proofs.Try
theorem M0:dJ 0:=by
 intro m b hb hm hs;have hc:cD 0=3:=rfl;have w1:IntKind.i64.wrap (m.left-1)=m.left-1:=bd _ (by have:=hm.l0;have:=hm.l1;omega);have cY:0<=m.pos/\m.pos<=1000000000:=⟨hm.p0,by have:=hm.p1;omega⟩
 have hk:=cb m.l m.pos 20 (by omega);refine an func65 rfl ntmps65 results65 rfl 1 499 (by simp) (by simp) ?_;simp only[zW,simprocAttr,i64,b9,bR,w1];refine aJ (bT m.less hm.l cY 20 (by omega)) rfl rfl rfl rfl rfl rfl ?_;simp only[zW,simprocAttr,i64,b9,bR,w1,Mk.next,Mk.less];refine ar mix [] [] (by rfl) ?_;by_cases h0:pick m.l m.pos 20=0
 ·simp only[zW,simprocAttr,i64,b9,bR,w1,Mk.next,h0,agk];rw[show Mk.tree 0 m=(Re.node 0 [],(m.less.next 20).2) by simp [Mk.tree,Mk.next,Mk.less,h0]];all_goals first|exact⟨rfl,rfl⟩|exact⟨rfl,trivial⟩|rfl|trivial|(rw[ai];rfl)
 ·simp only[zW,simprocAttr,i64,b9,bR,w1,Mk.next,h0,agk];refine aJ (jK (m.less.next 20).2 hm.l (by have:=hm.p1;simp only[Mk.next,Mk.less];omega)) rfl rfl rfl rfl rfl (bm _ _) ?_;simp only[zW,simprocAttr,i64,b9,bR,w1,Mk.next,h0,agk];rw[show Mk.tree 0 m=(m.less.next 20).2.set by simp [Mk.tree,Mk.next,Mk.less,h0]];all_goals first|exact⟨rfl,rfl⟩|exact⟨rfl,trivial⟩|rfl|trivial|(rw[ai];rfl)
theorem cL {d:Nat}{m:Mk} (h3:¬m.left-1<3) (hp:¬(m.l.length:Int)<m.pos+1):Mk.tree (d+1) m=Mk.node (Mk.tree d) (pick m.l m.pos 20) (m.less.next 20).2:=by simp [Mk.tree,Mk.next,Mk.less,h3,hp]
theorem KO (d:Nat) (hd:d<=1000) (hz:zD d<=1000000000) (ht:dJ d) (m:Mk) (b:Int) (hb:0<=b) (hm:m.In b) (hs:b+cD (d+1)<=1000000000) (h3:m.left-1<3) :
  aq prog 65 [b9,i64 (d+1:Nat)] [bR m] λv s=>v=fv (m.tree (d+1)).1/\s=[bR (m.tree (d+1)).2]:=by
 have hc:=bN d;have xI:cD (d+1)=2+4*(cD d+1):=rfl;have w1:IntKind.i64.wrap (m.left-1)=m.left-1:=bd _ (by have:=hm.l0;have:=hm.l1;omega);have w2:IntKind.i64.wrap ((d+1:Nat)-1:Int)=(d:Int):=by rw[bd _ (by omega)];omega
 have eY:¬((d+1:Nat):Int)=0:=by omega
 have cY:0<=m.pos/\m.pos<=1000000000:=⟨hm.p0,by have:=hm.p1;omega⟩
 have hy:(m.less.next 20).2.In (b+2):=by have:=hm.left.next 20;rwa [agQ]at this
 have hyp:0<=(m.less.next 20).2.pos/\(m.less.next 20).2.pos<=1000000000:=by have:=hm.p1;simp only[Mk.next,Mk.less];omega
 have c0:=hm.c0;have c1:=hm.c1;refine an func65 rfl ntmps65 results65 rfl 1 499 (by simp) (by simp) ?_;simp only[zW,simprocAttr,i64,b9,bR,w1];refine aJ (bT m.less hm.l cY 20 (by omega)) rfl rfl rfl rfl rfl rfl ?_;simp only[zW,simprocAttr,i64,b9,bR,w1,Mk.next,Mk.less];refine ar mix [] [] (by rfl) ?_;have hT:Mk.tree (d+1) m=if pick m.l m.pos 20=0 then (Re.node 0 [],(m.less.next 20).2) else (m.less.next 20).2.set:=be (.inl h3)
 rw[hT];by_cases h0:pick m.l m.pos 20=0
 ·simp only[zW,simprocAttr,i64,b9,bR,w1,Mk.next,eY,h3,h0];all_goals first|exact⟨rfl,rfl⟩|exact⟨rfl,trivial⟩|rfl|trivial|(rw[ai];rfl)
 ·simp only[zW,simprocAttr,i64,b9,bR,w1,Mk.next,eY,h3,h0];refine aJ (jK (m.less.next 20).2 hm.l hyp) rfl rfl rfl rfl rfl (bm _ _) ?_;simp only[zW,simprocAttr,i64,b9,bR,w1,Mk.next,eY,h3,h0];all_goals first|exact⟨rfl,rfl⟩|exact⟨rfl,trivial⟩|rfl|trivial|(rw[ai];rfl)
theorem Ln (d:Nat) (hd:d<=1000) (hz:zD d<=1000000000) (ht:dJ d) (m:Mk) (b:Int) (hb:0<=b) (hm:m.In b) (hs:b+cD (d+1)<=1000000000) (h3:¬m.left-1<3) (ef:(m.l.length:Int)<m.pos+1) :
  aq prog 65 [b9,i64 (d+1:Nat)] [bR m] λv s=>v=fv (m.tree (d+1)).1/\s=[bR (m.tree (d+1)).2]:=by
 have hc:=bN d;have xI:cD (d+1)=2+4*(cD d+1):=rfl;have w1:IntKind.i64.wrap (m.left-1)=m.left-1:=bd _ (by have:=hm.l0;have:=hm.l1;omega);have w2:IntKind.i64.wrap ((d+1:Nat)-1:Int)=(d:Int):=by rw[bd _ (by omega)];omega
 have eY:¬((d+1:Nat):Int)=0:=by omega
 have cY:0<=m.pos/\m.pos<=1000000000:=⟨hm.p0,by have:=hm.p1;omega⟩
 have hy:(m.less.next 20).2.In (b+2):=by have:=hm.left.next 20;rwa [agQ]at this
 have hyp:0<=(m.less.next 20).2.pos/\(m.less.next 20).2.pos<=1000000000:=by have:=hm.p1;simp only[Mk.next,Mk.less];omega
 have c0:=hm.c0;have c1:=hm.c1;refine an func65 rfl ntmps65 results65 rfl 1 499 (by simp) (by simp) ?_;simp only[zW,simprocAttr,i64,b9,bR,w1];refine aJ (bT m.less hm.l cY 20 (by omega)) rfl rfl rfl rfl rfl rfl ?_;simp only[zW,simprocAttr,i64,b9,bR,w1,Mk.next,Mk.less];refine ar mix [] [] (by rfl) ?_;have hT:Mk.tree (d+1) m=if pick m.l m.pos 20=0 then (Re.node 0 [],(m.less.next 20).2) else (m.less.next 20).2.set:=be (.inr ef)
 rw[hT];by_cases h0:pick m.l m.pos 20=0
 ·simp only[zW,simprocAttr,i64,b9,bR,w1,Mk.next,eY,h3,ef,h0];all_goals first|exact⟨rfl,rfl⟩|exact⟨rfl,trivial⟩|rfl|trivial|(rw[ai];rfl)
 ·simp only[zW,simprocAttr,i64,b9,bR,w1,Mk.next,eY,h3,ef,h0];refine aJ (jK (m.less.next 20).2 hm.l hyp) rfl rfl rfl rfl rfl (bm _ _) ?_;simp only[zW,simprocAttr,i64,b9,bR,w1,Mk.next,eY,h3,ef,h0];all_goals first|exact⟨rfl,rfl⟩|exact⟨rfl,trivial⟩|rfl|trivial|(rw[ai];rfl)
theorem Pv (d:Nat) (hd:d<=1000) (hz:zD d<=1000000000) (ht:dJ d) (m:Mk) (b:Int) (hb:0<=b) (hm:m.In b) (hs:b+cD (d+1)<=1000000000) (h3:¬m.left-1<3) (ef:¬(m.l.length:Int)<m.pos+1) (h5:pick m.l m.pos 20<5) :
  aq prog 65 [b9,i64 (d+1:Nat)] [bR m] λv s=>v=fv (m.tree (d+1)).1/\s=[bR (m.tree (d+1)).2]:=by
 have hc:=bN d;have xI:cD (d+1)=2+4*(cD d+1):=rfl;have w1:IntKind.i64.wrap (m.left-1)=m.left-1:=bd _ (by have:=hm.l0;have:=hm.l1;omega);have w2:IntKind.i64.wrap ((d+1:Nat)-1:Int)=(d:Int):=by rw[bd _ (by omega)];omega
 have eY:¬((d+1:Nat):Int)=0:=by omega
 have cY:0<=m.pos/\m.pos<=1000000000:=⟨hm.p0,by have:=hm.p1;omega⟩
 have hy:(m.less.next 20).2.In (b+2):=by have:=hm.left.next 20;rwa [agQ]at this
 have hyp:0<=(m.less.next 20).2.pos/\(m.less.next 20).2.pos<=1000000000:=by have:=hm.p1;simp only[Mk.next,Mk.less];omega
 have c0:=hm.c0;have c1:=hm.c1;refine an func65 rfl ntmps65 results65 rfl 1 499 (by simp) (by simp) ?_;simp only[zW,simprocAttr,i64,b9,bR,w1];refine aJ (bT m.less hm.l cY 20 (by omega)) rfl rfl rfl rfl rfl rfl ?_;simp only[zW,simprocAttr,i64,b9,bR,w1,Mk.next,Mk.less];refine ar mix [] [] (by rfl) ?_;rw[cL h3 ef];have hn:Mk.node (Mk.tree d) (pick m.l m.pos 20) (m.less.next 20).2=(Re.node 2 (bt (Mk.tree d) 4 0 (m.less.next 20).2).1,(bt (Mk.tree d) 4 0 (m.less.next 20).2).2):=by simp [Mk.node,Mk.has,Mk.next,Mk.less,h5]
 rw[hn];simp only[zW,simprocAttr,i64,b9,bR,w1,w2,Mk.next,Mk.less,eY,h3,ef,h5];refine aJ (MO d hd ht (m.less.next 20).2 (b+2) (by omega) hy (by omega)) rfl rfl rfl rfl rfl (by first|rfl|exact bm _ _) ?_;simp only[zW,simprocAttr,i64,b9,bR,w1,w2,Mk.next,Mk.less,eY,h3,ef,h5];all_goals first|exact⟨rfl,rfl⟩|exact⟨rfl,trivial⟩|rfl|trivial|(rw[ai];rfl)
theorem Rr (d:Nat) (hd:d<=1000) (hz:zD d<=1000000000) (ht:dJ d) (m:Mk) (b:Int) (hb:0<=b) (hm:m.In b) (hs:b+cD (d+1)<=1000000000) (h3:¬m.left-1<3) (ef:¬(m.l.length:Int)<m.pos+1) (h5:¬pick m.l m.pos 20<5) (h8:pick m.l m.pos 20<8) :
  aq prog 65 [b9,i64 (d+1:Nat)] [bR m] λv s=>v=fv (m.tree (d+1)).1/\s=[bR (m.tree (d+1)).2]:=by
 have hc:=bN d;have xI:cD (d+1)=2+4*(cD d+1):=rfl;have w1:IntKind.i64.wrap (m.left-1)=m.left-1:=bd _ (by have:=hm.l0;have:=hm.l1;omega);have w2:IntKind.i64.wrap ((d+1:Nat)-1:Int)=(d:Int):=by rw[bd _ (by omega)];omega
 have eY:¬((d+1:Nat):Int)=0:=by omega
 have cY:0<=m.pos/\m.pos<=1000000000:=⟨hm.p0,by have:=hm.p1;omega⟩
 have hy:(m.less.next 20).2.In (b+2):=by have:=hm.left.next 20;rwa [agQ]at this
 have hyp:0<=(m.less.next 20).2.pos/\(m.less.next 20).2.pos<=1000000000:=by have:=hm.p1;simp only[Mk.next,Mk.less];omega
 have c0:=hm.c0;have c1:=hm.c1;refine an func65 rfl ntmps65 results65 rfl 1 499 (by simp) (by simp) ?_;simp only[zW,simprocAttr,i64,b9,bR,w1];refine aJ (bT m.less hm.l cY 20 (by omega)) rfl rfl rfl rfl rfl rfl ?_;simp only[zW,simprocAttr,i64,b9,bR,w1,Mk.next,Mk.less];refine ar mix [] [] (by rfl) ?_;rw[cL h3 ef];have hn:Mk.node (Mk.tree d) (pick m.l m.pos 20) (m.less.next 20).2=(Re.node 3 (bt (Mk.tree d) 4 0 (m.less.next 20).2).1,(bt (Mk.tree d) 4 0 (m.less.next 20).2).2):=by simp [Mk.node,Mk.has,Mk.next,Mk.less,h5,h8]
 rw[hn];simp only[zW,simprocAttr,i64,b9,bR,w1,w2,Mk.next,Mk.less,eY,h3,ef,h5,h8];refine aJ (MO d hd ht (m.less.next 20).2 (b+2) (by omega) hy (by omega)) rfl rfl rfl rfl rfl (by first|rfl|exact bm _ _) ?_;simp only[zW,simprocAttr,i64,b9,bR,w1,w2,Mk.next,Mk.less,eY,h3,ef,h5,h8];all_goals first|exact⟨rfl,rfl⟩|exact⟨rfl,trivial⟩|rfl|trivial|(rw[ai];rfl)
theorem Po (d:Nat) (hd:d<=1000) (hz:zD d<=1000000000) (ht:dJ d) (m:Mk) (b:Int) (hb:0<=b) (hm:m.In b) (hs:b+cD (d+1)<=1000000000) (h3:¬m.left-1<3) (ef:¬(m.l.length:Int)<m.pos+1) (h5:¬pick m.l m.pos 20<5) (h8:¬pick m.l m.pos 20<8) (jn:pick m.l m.pos 20<12) :
  aq prog 65 [b9,i64 (d+1:Nat)] [bR m] λv s=>v=fv (m.tree (d+1)).1/\s=[bR (m.tree (d+1)).2]:=by
 have hc:=bN d;have xI:cD (d+1)=2+4*(cD d+1):=rfl;have w1:IntKind.i64.wrap (m.left-1)=m.left-1:=bd _ (by have:=hm.l0;have:=hm.l1;omega);have w2:IntKind.i64.wrap ((d+1:Nat)-1:Int)=(d:Int):=by rw[bd _ (by omega)];omega
 have eY:¬((d+1:Nat):Int)=0:=by omega
 have cY:0<=m.pos/\m.pos<=1000000000:=⟨hm.p0,by have:=hm.p1;omega⟩
 have hy:(m.less.next 20).2.In (b+2):=by have:=hm.left.next 20;rwa [agQ]at this
 have hyp:0<=(m.less.next 20).2.pos/\(m.less.next 20).2.pos<=1000000000:=by have:=hm.p1;simp only[Mk.next,Mk.less];omega
 have c0:=hm.c0;have c1:=hm.c1;refine an func65 rfl ntmps65 results65 rfl 1 499 (by simp) (by simp) ?_;simp only[zW,simprocAttr,i64,b9,bR,w1];refine aJ (bT m.less hm.l cY 20 (by omega)) rfl rfl rfl rfl rfl rfl ?_;simp only[zW,simprocAttr,i64,b9,bR,w1,Mk.next,Mk.less];refine ar mix [] [] (by rfl) ?_;rw[cL h3 ef];have hn:Mk.node (Mk.tree d) (pick m.l m.pos 20) (m.less.next 20).2=Mk.rep (Mk.tree d) (m.less.next 20).2:=by simp [Mk.node,Mk.has,Mk.next,Mk.less,h5,h8,jn]
 rw[hn];simp only[zW,simprocAttr,i64,b9,bR,w1,w2,Mk.next,Mk.less,eY,h3,ef,h5,h8,jn];refine aJ (V4 d hd ht (m.less.next 20).2 (b+2) (by omega) hy (by omega) hz) rfl rfl rfl rfl rfl (by first|rfl|exact bm _ _) ?_;simp only[zW,simprocAttr,i64,b9,bR,w1,w2,Mk.next,Mk.less,eY,h3,ef,h5,h8,jn];all_goals first|exact⟨rfl,rfl⟩|exact⟨rfl,trivial⟩|rfl|trivial|(rw[ai];rfl)
theorem P4 (d:Nat) (hd:d<=1000) (hz:zD d<=1000000000) (ht:dJ d) (m:Mk) (b:Int) (hb:0<=b) (hm:m.In b) (hs:b+cD (d+1)<=1000000000) (h3:¬m.left-1<3) (ef:¬(m.l.length:Int)<m.pos+1) (hq:pick m.l m.pos 20=12) (hu:0<ew .and .i64 m.cu 64) :
  aq prog 65 [b9,i64 (d+1:Nat)] [bR m] λv s=>v=fv (m.tree (d+1)).1/\s=[bR (m.tree (d+1)).2]:=by
 have hc:=bN d;have xI:cD (d+1)=2+4*(cD d+1):=rfl;have w1:IntKind.i64.wrap (m.left-1)=m.left-1:=bd _ (by have:=hm.l0;have:=hm.l1;omega);have w2:IntKind.i64.wrap ((d+1:Nat)-1:Int)=(d:Int):=by rw[bd _ (by omega)];omega
 have eY:¬((d+1:Nat):Int)=0:=by omega
 have cY:0<=m.pos/\m.pos<=1000000000:=⟨hm.p0,by have:=hm.p1;omega⟩
 have hy:(m.less.next 20).2.In (b+2):=by have:=hm.left.next 20;rwa [agQ]at this
 have hyp:0<=(m.less.next 20).2.pos/\(m.less.next 20).2.pos<=1000000000:=by have:=hm.p1;simp only[Mk.next,Mk.less];omega
 have c0:=hm.c0;have c1:=hm.c1;refine an func65 rfl ntmps65 results65 rfl 1 499 (by simp) (by simp) ?_;simp only[zW,simprocAttr,i64,b9,bR,w1];refine aJ (bT m.less hm.l cY 20 (by omega)) rfl rfl rfl rfl rfl rfl ?_;simp only[zW,simprocAttr,i64,b9,bR,w1,Mk.next,Mk.less];refine ar mix [] [] (by rfl) ?_;rw[cL h3 ef];have hn:Mk.node (Mk.tree d) (pick m.l m.pos 20) (m.less.next 20).2=Mk.iJ (Mk.tree d) (m.less.next 20).2:=by simp [Mk.node,Mk.has,Mk.next,Mk.less,hq,hu]
 rw[hn];simp only[zW,simprocAttr,i64,b9,bR,w1,w2,Mk.next,Mk.less,eY,h3,ef,hq,hu];refine aJ (Cr d hd ht (m.less.next 20).2 (b+2) (by omega) hy (by omega)) rfl rfl rfl rfl rfl (by first|rfl|exact bm _ _) ?_;simp only[zW,simprocAttr,i64,b9,bR,w1,w2,Mk.next,Mk.less,eY,h3,ef,hq,hu];all_goals first|exact⟨rfl,rfl⟩|exact⟨rfl,trivial⟩|rfl|trivial|(rw[ai];rfl)
theorem Oq (d:Nat) (hd:d<=1000) (hz:zD d<=1000000000) (ht:dJ d) (m:Mk) (b:Int) (hb:0<=b) (hm:m.In b) (hs:b+cD (d+1)<=1000000000) (h3:¬m.left-1<3) (ef:¬(m.l.length:Int)<m.pos+1) (hq:pick m.l m.pos 20=12) (hu:¬0<ew .and .i64 m.cu 64) :
  aq prog 65 [b9,i64 (d+1:Nat)] [bR m] λv s=>v=fv (m.tree (d+1)).1/\s=[bR (m.tree (d+1)).2]:=by
 have hc:=bN d;have xI:cD (d+1)=2+4*(cD d+1):=rfl;have w1:IntKind.i64.wrap (m.left-1)=m.left-1:=bd _ (by have:=hm.l0;have:=hm.l1;omega);have w2:IntKind.i64.wrap ((d+1:Nat)-1:Int)=(d:Int):=by rw[bd _ (by omega)];omega
 have eY:¬((d+1:Nat):Int)=0:=by omega
 have cY:0<=m.pos/\m.pos<=1000000000:=⟨hm.p0,by have:=hm.p1;omega⟩
 have hy:(m.less.next 20).2.In (b+2):=by have:=hm.left.next 20;rwa [agQ]at this
 have hyp:0<=(m.less.next 20).2.pos/\(m.less.next 20).2.pos<=1000000000:=by have:=hm.p1;simp only[Mk.next,Mk.less];omega
 have c0:=hm.c0;have c1:=hm.c1;refine an func65 rfl ntmps65 results65 rfl 1 499 (by simp) (by simp) ?_;simp only[zW,simprocAttr,i64,b9,bR,w1];refine aJ (bT m.less hm.l cY 20 (by omega)) rfl rfl rfl rfl rfl rfl ?_;simp only[zW,simprocAttr,i64,b9,bR,w1,Mk.next,Mk.less];refine ar mix [] [] (by rfl) ?_;rw[cL h3 ef];have hn:Mk.node (Mk.tree d) (pick m.l m.pos 20) (m.less.next 20).2=(m.less.next 20).2.set:=by simp [Mk.node,Mk.has,Mk.next,Mk.less,hq,hu]
 rw[hn];simp only[zW,simprocAttr,i64,b9,bR,w1,w2,Mk.next,Mk.less,eY,h3,ef,hq,hu];refine aJ (jK (m.less.next 20).2 hm.l hyp) rfl rfl rfl rfl rfl (by first|rfl|exact bm _ _) ?_;simp only[zW,simprocAttr,i64,b9,bR,w1,w2,Mk.next,Mk.less,eY,h3,ef,hq,hu];all_goals first|exact⟨rfl,rfl⟩|exact⟨rfl,trivial⟩|rfl|trivial|(rw[ai];rfl)
theorem Q0 (d:Nat) (hd:d<=1000) (hz:zD d<=1000000000) (ht:dJ d) (m:Mk) (b:Int) (hb:0<=b) (hm:m.In b) (hs:b+cD (d+1)<=1000000000) (h3:¬m.left-1<3) (ef:¬(m.l.length:Int)<m.pos+1) (hq:pick m.l m.pos 20=13) (hu:0<ew .and .i64 m.cu 64) :
  aq prog 65 [b9,i64 (d+1:Nat)] [bR m] λv s=>v=fv (m.tree (d+1)).1/\s=[bR (m.tree (d+1)).2]:=by
 have hc:=bN d;have xI:cD (d+1)=2+4*(cD d+1):=rfl;have w1:IntKind.i64.wrap (m.left-1)=m.left-1:=bd _ (by have:=hm.l0;have:=hm.l1;omega);have w2:IntKind.i64.wrap ((d+1:Nat)-1:Int)=(d:Int):=by rw[bd _ (by omega)];omega
 have eY:¬((d+1:Nat):Int)=0:=by omega
 have cY:0<=m.pos/\m.pos<=1000000000:=⟨hm.p0,by have:=hm.p1;omega⟩
 have hy:(m.less.next 20).2.In (b+2):=by have:=hm.left.next 20;rwa [agQ]at this
 have hyp:0<=(m.less.next 20).2.pos/\(m.less.next 20).2.pos<=1000000000:=by have:=hm.p1;simp only[Mk.next,Mk.less];omega
 have c0:=hm.c0;have c1:=hm.c1;refine an func65 rfl ntmps65 results65 rfl 1 499 (by simp) (by simp) ?_;simp only[zW,simprocAttr,i64,b9,bR,w1];refine aJ (bT m.less hm.l cY 20 (by omega)) rfl rfl rfl rfl rfl rfl ?_;simp only[zW,simprocAttr,i64,b9,bR,w1,Mk.next,Mk.less];refine ar mix [] [] (by rfl) ?_;rw[cL h3 ef];have hn:Mk.node (Mk.tree d) (pick m.l m.pos 20) (m.less.next 20).2=Mk.iJ (Mk.tree d) (m.less.next 20).2:=by simp [Mk.node,Mk.has,Mk.next,Mk.less,hq,hu]
 rw[hn];simp only[zW,simprocAttr,i64,b9,bR,w1,w2,Mk.next,Mk.less,eY,h3,ef,hq,hu];refine aJ (Cr d hd ht (m.less.next 20).2 (b+2) (by omega) hy (by omega)) rfl rfl rfl rfl rfl (by first|rfl|exact bm _ _) ?_;simp only[zW,simprocAttr,i64,b9,bR,w1,w2,Mk.next,Mk.less,eY,h3,ef,hq,hu];all_goals first|exact⟨rfl,rfl⟩|exact⟨rfl,trivial⟩|rfl|trivial|(rw[ai];rfl)
theorem Of (d:Nat) (hd:d<=1000) (hz:zD d<=1000000000) (ht:dJ d) (m:Mk) (b:Int) (hb:0<=b) (hm:m.In b) (hs:b+cD (d+1)<=1000000000) (h3:¬m.left-1<3) (ef:¬(m.l.length:Int)<m.pos+1) (hq:pick m.l m.pos 20=13) (hu:¬0<ew .and .i64 m.cu 64) :
  aq prog 65 [b9,i64 (d+1:Nat)] [bR m] λv s=>v=fv (m.tree (d+1)).1/\s=[bR (m.tree (d+1)).2]:=by
 have hc:=bN d;have xI:cD (d+1)=2+4*(cD d+1):=rfl;have w1:IntKind.i64.wrap (m.left-1)=m.left-1:=bd _ (by have:=hm.l0;have:=hm.l1;omega);have w2:IntKind.i64.wrap ((d+1:Nat)-1:Int)=(d:Int):=by rw[bd _ (by omega)];omega
 have eY:¬((d+1:Nat):Int)=0:=by omega
 have cY:0<=m.pos/\m.pos<=1000000000:=⟨hm.p0,by have:=hm.p1;omega⟩
 have hy:(m.less.next 20).2.In (b+2):=by have:=hm.left.next 20;rwa [agQ]at this
 have hyp:0<=(m.less.next 20).2.pos/\(m.less.next 20).2.pos<=1000000000:=by have:=hm.p1;simp only[Mk.next,Mk.less];omega
 have c0:=hm.c0;have c1:=hm.c1;refine an func65 rfl ntmps65 results65 rfl 1 499 (by simp) (by simp) ?_;simp only[zW,simprocAttr,i64,b9,bR,w1];refine aJ (bT m.less hm.l cY 20 (by omega)) rfl rfl rfl rfl rfl rfl ?_;simp only[zW,simprocAttr,i64,b9,bR,w1,Mk.next,Mk.less];refine ar mix [] [] (by rfl) ?_;rw[cL h3 ef];have hn:Mk.node (Mk.tree d) (pick m.l m.pos 20) (m.less.next 20).2=(m.less.next 20).2.set:=by simp [Mk.node,Mk.has,Mk.next,Mk.less,hq,hu]
 rw[hn];simp only[zW,simprocAttr,i64,b9,bR,w1,w2,Mk.next,Mk.less,eY,h3,ef,hq,hu];refine aJ (jK (m.less.next 20).2 hm.l hyp) rfl rfl rfl rfl rfl (by first|rfl|exact bm _ _) ?_;simp only[zW,simprocAttr,i64,b9,bR,w1,w2,Mk.next,Mk.less,eY,h3,ef,hq,hu];all_goals first|exact⟨rfl,rfl⟩|exact⟨rfl,trivial⟩|rfl|trivial|(rw[ai];rfl)
theorem PX (d:Nat) (hd:d<=1000) (hz:zD d<=1000000000) (ht:dJ d) (m:Mk) (b:Int) (hb:0<=b) (hm:m.In b) (hs:b+cD (d+1)<=1000000000) (h3:¬m.left-1<3) (ef:¬(m.l.length:Int)<m.pos+1) (hq:pick m.l m.pos 20=14) (hu:0<ew .and .i64 m.cu 16) :
  aq prog 65 [b9,i64 (d+1:Nat)] [bR m] λv s=>v=fv (m.tree (d+1)).1/\s=[bR (m.tree (d+1)).2]:=by
 have hc:=bN d;have xI:cD (d+1)=2+4*(cD d+1):=rfl;have w1:IntKind.i64.wrap (m.left-1)=m.left-1:=bd _ (by have:=hm.l0;have:=hm.l1;omega);have w2:IntKind.i64.wrap ((d+1:Nat)-1:Int)=(d:Int):=by rw[bd _ (by omega)];omega
 have eY:¬((d+1:Nat):Int)=0:=by omega
 have cY:0<=m.pos/\m.pos<=1000000000:=⟨hm.p0,by have:=hm.p1;omega⟩
 have hy:(m.less.next 20).2.In (b+2):=by have:=hm.left.next 20;rwa [agQ]at this
 have hyp:0<=(m.less.next 20).2.pos/\(m.less.next 20).2.pos<=1000000000:=by have:=hm.p1;simp only[Mk.next,Mk.less];omega
 have c0:=hm.c0;have c1:=hm.c1;refine an func65 rfl ntmps65 results65 rfl 1 499 (by simp) (by simp) ?_;simp only[zW,simprocAttr,i64,b9,bR,w1];refine aJ (bT m.less hm.l cY 20 (by omega)) rfl rfl rfl rfl rfl rfl ?_;simp only[zW,simprocAttr,i64,b9,bR,w1,Mk.next,Mk.less];refine ar mix [] [] (by rfl) ?_;rw[cL h3 ef];have hn:Mk.node (Mk.tree d) (pick m.l m.pos 20) (m.less.next 20).2=(.mk 11 [] [] 0 0 0 (((m.less.next 20).2).next 6).1 false,(((m.less.next 20).2).next 6).2):=by simp [Mk.node,Mk.has,Mk.next,Mk.less,hq,hu]
 rw[hn];simp only[zW,simprocAttr,i64,b9,bR,w1,w2,Mk.next,Mk.less,eY,h3,ef,hq,hu];refine aJ (bT (m.less.next 20).2 hm.l hyp 6 (by omega)) rfl rfl rfl rfl rfl (by first|rfl|exact bm _ _) ?_;simp only[zW,simprocAttr,i64,b9,bR,w1,w2,Mk.next,Mk.less,eY,h3,ef,hq,hu];all_goals first|exact⟨rfl,rfl⟩|exact⟨rfl,trivial⟩|rfl|trivial|(rw[ai];rfl)
theorem MU (d:Nat) (hd:d<=1000) (hz:zD d<=1000000000) (ht:dJ d) (m:Mk) (b:Int) (hb:0<=b) (hm:m.In b) (hs:b+cD (d+1)<=1000000000) (h3:¬m.left-1<3) (ef:¬(m.l.length:Int)<m.pos+1) (hq:pick m.l m.pos 20=14) (hu:¬0<ew .and .i64 m.cu 16) :
  aq prog 65 [b9,i64 (d+1:Nat)] [bR m] λv s=>v=fv (m.tree (d+1)).1/\s=[bR (m.tree (d+1)).2]:=by
 have hc:=bN d;have xI:cD (d+1)=2+4*(cD d+1):=rfl;have w1:IntKind.i64.wrap (m.left-1)=m.left-1:=bd _ (by have:=hm.l0;have:=hm.l1;omega);have w2:IntKind.i64.wrap ((d+1:Nat)-1:Int)=(d:Int):=by rw[bd _ (by omega)];omega
 have eY:¬((d+1:Nat):Int)=0:=by omega
 have cY:0<=m.pos/\m.pos<=1000000000:=⟨hm.p0,by have:=hm.p1;omega⟩
 have hy:(m.less.next 20).2.In (b+2):=by have:=hm.left.next 20;rwa [agQ]at this
 have hyp:0<=(m.less.next 20).2.pos/\(m.less.next 20).2.pos<=1000000000:=by have:=hm.p1;simp only[Mk.next,Mk.less];omega
 have c0:=hm.c0;have c1:=hm.c1;refine an func65 rfl ntmps65 results65 rfl 1 499 (by simp) (by simp) ?_;simp only[zW,simprocAttr,i64,b9,bR,w1];refine aJ (bT m.less hm.l cY 20 (by omega)) rfl rfl rfl rfl rfl rfl ?_;simp only[zW,simprocAttr,i64,b9,bR,w1,Mk.next,Mk.less];refine ar mix [] [] (by rfl) ?_;rw[cL h3 ef];have hn:Mk.node (Mk.tree d) (pick m.l m.pos 20) (m.less.next 20).2=(m.less.next 20).2.set:=by simp [Mk.node,Mk.has,Mk.next,Mk.less,hq,hu]
 rw[hn];simp only[zW,simprocAttr,i64,b9,bR,w1,w2,Mk.next,Mk.less,eY,h3,ef,hq,hu];refine aJ (jK (m.less.next 20).2 hm.l hyp) rfl rfl rfl rfl rfl (by first|rfl|exact bm _ _) ?_;simp only[zW,simprocAttr,i64,b9,bR,w1,w2,Mk.next,Mk.less,eY,h3,ef,hq,hu];all_goals first|exact⟨rfl,rfl⟩|exact⟨rfl,trivial⟩|rfl|trivial|(rw[ai];rfl)
theorem Pt (d:Nat) (hd:d<=1000) (hz:zD d<=1000000000) (ht:dJ d) (m:Mk) (b:Int) (hb:0<=b) (hm:m.In b) (hs:b+cD (d+1)<=1000000000) (h3:¬m.left-1<3) (ef:¬(m.l.length:Int)<m.pos+1) (hq:pick m.l m.pos 20=15) (hu:0<ew .and .i64 m.cu 4) :
  aq prog 65 [b9,i64 (d+1:Nat)] [bR m] λv s=>v=fv (m.tree (d+1)).1/\s=[bR (m.tree (d+1)).2]:=by
 have hc:=bN d;have xI:cD (d+1)=2+4*(cD d+1):=rfl;have w1:IntKind.i64.wrap (m.left-1)=m.left-1:=bd _ (by have:=hm.l0;have:=hm.l1;omega);have w2:IntKind.i64.wrap ((d+1:Nat)-1:Int)=(d:Int):=by rw[bd _ (by omega)];omega
 have eY:¬((d+1:Nat):Int)=0:=by omega
 have cY:0<=m.pos/\m.pos<=1000000000:=⟨hm.p0,by have:=hm.p1;omega⟩
 have hy:(m.less.next 20).2.In (b+2):=by have:=hm.left.next 20;rwa [agQ]at this
 have hyp:0<=(m.less.next 20).2.pos/\(m.less.next 20).2.pos<=1000000000:=by have:=hm.p1;simp only[Mk.next,Mk.less];omega
 have c0:=hm.c0;have c1:=hm.c1;refine an func65 rfl ntmps65 results65 rfl 1 499 (by simp) (by simp) ?_;simp only[zW,simprocAttr,i64,b9,bR,w1];refine aJ (bT m.less hm.l cY 20 (by omega)) rfl rfl rfl rfl rfl rfl ?_;simp only[zW,simprocAttr,i64,b9,bR,w1,Mk.next,Mk.less];refine ar mix [] [] (by rfl) ?_;rw[cL h3 ef];have As:=cb m.l (m.pos+1+1) 2 (by omega);have w3:IntKind.i64.wrap (7+pick m.l (m.pos+1+1) 2)=7+pick m.l (m.pos+1+1) 2:=bd _ (by omega);have hn:Mk.node (Mk.tree d) (pick m.l m.pos 20) (m.less.next 20).2=(.mk (7+(((m.less.next 20).2.next 3).2.next 2).1) [] [(Mk.tree d (((m.less.next 20).2.next 3).2.next 2).2).1] 0 0 0 0 (decide (((m.less.next 20).2.next 3).1=0)),(Mk.tree d (((m.less.next 20).2.next 3).2.next 2).2).2):=by simp [Mk.node,Mk.has,Mk.next,Mk.less,hq,hu,w3]
 rw[hn];simp only[zW,simprocAttr,i64,b9,bR,w1,w2,Mk.next,Mk.less,eY,h3,ef,hq,hu,w3];refine aJ (bT (m.less.next 20).2 hm.l hyp 3 (by omega)) rfl rfl rfl rfl rfl (by first|rfl|exact bm _ _) ?_;simp only[zW,simprocAttr,i64,b9,bR,w1,w2,Mk.next,Mk.less,eY,h3,ef,hq,hu,w3];refine aJ (bT ((m.less.next 20).2.next 3).2 hm.l (by have:=hm.p1;simp only[Mk.next,Mk.less];omega) 2 (by omega)) rfl rfl rfl rfl rfl (by first|rfl|exact bm _ _) ?_;simp only[zW,simprocAttr,i64,b9,bR,w1,w2,Mk.next,Mk.less,eY,h3,ef,hq,hu,w3];refine aJ (ht (((m.less.next 20).2.next 3).2.next 2).2 (b+4) (by omega) (((hy.next 3).next 2).mono (by omega)) (by omega)) rfl rfl rfl rfl rfl (by first|rfl|exact bm _ _) ?_;simp only[zW,simprocAttr,i64,b9,bR,w1,w2,Mk.next,Mk.less,eY,h3,ef,hq,hu,w3];all_goals first|exact⟨rfl,rfl⟩|exact⟨rfl,trivial⟩|rfl|trivial|(rw[ai];rfl)
theorem NM (d:Nat) (hd:d<=1000) (hz:zD d<=1000000000) (ht:dJ d) (m:Mk) (b:Int) (hb:0<=b) (hm:m.In b) (hs:b+cD (d+1)<=1000000000) (h3:¬m.left-1<3) (ef:¬(m.l.length:Int)<m.pos+1) (hq:pick m.l m.pos 20=15) (hu:¬0<ew .and .i64 m.cu 4) :
  aq prog 65 [b9,i64 (d+1:Nat)] [bR m] λv s=>v=fv (m.tree (d+1)).1/\s=[bR (m.tree (d+1)).2]:=by
 have hc:=bN d;have xI:cD (d+1)=2+4*(cD d+1):=rfl;have w1:IntKind.i64.wrap (m.left-1)=m.left-1:=bd _ (by have:=hm.l0;have:=hm.l1;omega);have w2:IntKind.i64.wrap ((d+1:Nat)-1:Int)=(d:Int):=by rw[bd _ (by omega)];omega
 have eY:¬((d+1:Nat):Int)=0:=by omega
 have cY:0<=m.pos/\m.pos<=1000000000:=⟨hm.p0,by have:=hm.p1;omega⟩
 have hy:(m.less.next 20).2.In (b+2):=by have:=hm.left.next 20;rwa [agQ]at this
 have hyp:0<=(m.less.next 20).2.pos/\(m.less.next 20).2.pos<=1000000000:=by have:=hm.p1;simp only[Mk.next,Mk.less];omega
 have c0:=hm.c0;have c1:=hm.c1;refine an func65 rfl ntmps65 results65 rfl 1 499 (by simp) (by simp) ?_;simp only[zW,simprocAttr,i64,b9,bR,w1];refine aJ (bT m.less hm.l cY 20 (by omega)) rfl rfl rfl rfl rfl rfl ?_;simp only[zW,simprocAttr,i64,b9,bR,w1,Mk.next,Mk.less];refine ar mix [] [] (by rfl) ?_;rw[cL h3 ef];have hn:Mk.node (Mk.tree d) (pick m.l m.pos 20) (m.less.next 20).2=(m.less.next 20).2.set:=by simp [Mk.node,Mk.has,Mk.next,Mk.less,hq,hu]
 rw[hn];simp only[zW,simprocAttr,i64,b9,bR,w1,w2,Mk.next,Mk.less,eY,h3,ef,hq,hu];refine aJ (jK (m.less.next 20).2 hm.l hyp) rfl rfl rfl rfl rfl (by first|rfl|exact bm _ _) ?_;simp only[zW,simprocAttr,i64,b9,bR,w1,w2,Mk.next,Mk.less,eY,h3,ef,hq,hu];all_goals first|exact⟨rfl,rfl⟩|exact⟨rfl,trivial⟩|rfl|trivial|(rw[ai];rfl)
theorem Rb (d:Nat) (hd:d<=1000) (hz:zD d<=1000000000) (ht:dJ d) (m:Mk) (b:Int) (hb:0<=b) (hm:m.In b) (hs:b+cD (d+1)<=1000000000) (h3:¬m.left-1<3) (ef:¬(m.l.length:Int)<m.pos+1) (hq:pick m.l m.pos 20=16) (hu:0<ew .and .i64 m.cu 8) :
  aq prog 65 [b9,i64 (d+1:Nat)] [bR m] λv s=>v=fv (m.tree (d+1)).1/\s=[bR (m.tree (d+1)).2]:=by
 have hc:=bN d;have xI:cD (d+1)=2+4*(cD d+1):=rfl;have w1:IntKind.i64.wrap (m.left-1)=m.left-1:=bd _ (by have:=hm.l0;have:=hm.l1;omega);have w2:IntKind.i64.wrap ((d+1:Nat)-1:Int)=(d:Int):=by rw[bd _ (by omega)];omega
 have eY:¬((d+1:Nat):Int)=0:=by omega
 have cY:0<=m.pos/\m.pos<=1000000000:=⟨hm.p0,by have:=hm.p1;omega⟩
 have hy:(m.less.next 20).2.In (b+2):=by have:=hm.left.next 20;rwa [agQ]at this
 have hyp:0<=(m.less.next 20).2.pos/\(m.less.next 20).2.pos<=1000000000:=by have:=hm.p1;simp only[Mk.next,Mk.less];omega
 have c0:=hm.c0;have c1:=hm.c1;refine an func65 rfl ntmps65 results65 rfl 1 499 (by simp) (by simp) ?_;simp only[zW,simprocAttr,i64,b9,bR,w1];refine aJ (bT m.less hm.l cY 20 (by omega)) rfl rfl rfl rfl rfl rfl ?_;simp only[zW,simprocAttr,i64,b9,bR,w1,Mk.next,Mk.less];refine ar mix [] [] (by rfl) ?_;rw[cL h3 ef];have hn:Mk.node (Mk.tree d) (pick m.l m.pos 20) (m.less.next 20).2=(Re.node 9 [(Mk.tree d (m.less.next 20).2).1],(Mk.tree d (m.less.next 20).2).2):=by simp [Mk.node,Mk.has,Mk.next,Mk.less,hq,hu]
 rw[hn];simp only[zW,simprocAttr,i64,b9,bR,w1,w2,Mk.next,Mk.less,eY,h3,ef,hq,hu];refine aJ (ht (m.less.next 20).2 (b+2) (by omega) hy (by omega)) rfl rfl rfl rfl rfl (by first|rfl|exact bm _ _) ?_;simp only[zW,simprocAttr,i64,b9,bR,w1,w2,Mk.next,Mk.less,eY,h3,ef,hq,hu];all_goals first|exact⟨rfl,rfl⟩|exact⟨rfl,trivial⟩|rfl|trivial|(rw[ai];rfl)
theorem N3 (d:Nat) (hd:d<=1000) (hz:zD d<=1000000000) (ht:dJ d) (m:Mk) (b:Int) (hb:0<=b) (hm:m.In b) (hs:b+cD (d+1)<=1000000000) (h3:¬m.left-1<3) (ef:¬(m.l.length:Int)<m.pos+1) (hq:pick m.l m.pos 20=16) (hu:¬0<ew .and .i64 m.cu 8) :
  aq prog 65 [b9,i64 (d+1:Nat)] [bR m] λv s=>v=fv (m.tree (d+1)).1/\s=[bR (m.tree (d+1)).2]:=by
 have hc:=bN d;have xI:cD (d+1)=2+4*(cD d+1):=rfl;have w1:IntKind.i64.wrap (m.left-1)=m.left-1:=bd _ (by have:=hm.l0;have:=hm.l1;omega);have w2:IntKind.i64.wrap ((d+1:Nat)-1:Int)=(d:Int):=by rw[bd _ (by omega)];omega
 have eY:¬((d+1:Nat):Int)=0:=by omega
 have cY:0<=m.pos/\m.pos<=1000000000:=⟨hm.p0,by have:=hm.p1;omega⟩
 have hy:(m.less.next 20).2.In (b+2):=by have:=hm.left.next 20;rwa [agQ]at this
 have hyp:0<=(m.less.next 20).2.pos/\(m.less.next 20).2.pos<=1000000000:=by have:=hm.p1;simp only[Mk.next,Mk.less];omega
 have c0:=hm.c0;have c1:=hm.c1;refine an func65 rfl ntmps65 results65 rfl 1 499 (by simp) (by simp) ?_;simp only[zW,simprocAttr,i64,b9,bR,w1];refine aJ (bT m.less hm.l cY 20 (by omega)) rfl rfl rfl rfl rfl rfl ?_;simp only[zW,simprocAttr,i64,b9,bR,w1,Mk.next,Mk.less];refine ar mix [] [] (by rfl) ?_;rw[cL h3 ef];have hn:Mk.node (Mk.tree d) (pick m.l m.pos 20) (m.less.next 20).2=(m.less.next 20).2.set:=by simp [Mk.node,Mk.has,Mk.next,Mk.less,hq,hu]
 rw[hn];simp only[zW,simprocAttr,i64,b9,bR,w1,w2,Mk.next,Mk.less,eY,h3,ef,hq,hu];refine aJ (jK (m.less.next 20).2 hm.l hyp) rfl rfl rfl rfl rfl (by first|rfl|exact bm _ _) ?_;simp only[zW,simprocAttr,i64,b9,bR,w1,w2,Mk.next,Mk.less,eY,h3,ef,hq,hu];all_goals first|exact⟨rfl,rfl⟩|exact⟨rfl,trivial⟩|rfl|trivial|(rw[ai];rfl)
theorem Pc (d:Nat) (hd:d<=1000) (hz:zD d<=1000000000) (ht:dJ d) (m:Mk) (b:Int) (hb:0<=b) (hm:m.In b) (hs:b+cD (d+1)<=1000000000) (h3:¬m.left-1<3) (ef:¬(m.l.length:Int)<m.pos+1) (hq:pick m.l m.pos 20=17) (hu:0<ew .and .i64 m.cu 1) (wH:0<m.ak) :
  aq prog 65 [b9,i64 (d+1:Nat)] [bR m] λv s=>v=fv (m.tree (d+1)).1/\s=[bR (m.tree (d+1)).2]:=by
 have hc:=bN d;have xI:cD (d+1)=2+4*(cD d+1):=rfl;have w1:IntKind.i64.wrap (m.left-1)=m.left-1:=bd _ (by have:=hm.l0;have:=hm.l1;omega);have w2:IntKind.i64.wrap ((d+1:Nat)-1:Int)=(d:Int):=by rw[bd _ (by omega)];omega
 have eY:¬((d+1:Nat):Int)=0:=by omega
 have cY:0<=m.pos/\m.pos<=1000000000:=⟨hm.p0,by have:=hm.p1;omega⟩
 have hy:(m.less.next 20).2.In (b+2):=by have:=hm.left.next 20;rwa [agQ]at this
 have hyp:0<=(m.less.next 20).2.pos/\(m.less.next 20).2.pos<=1000000000:=by have:=hm.p1;simp only[Mk.next,Mk.less];omega
 have c0:=hm.c0;have c1:=hm.c1;refine an func65 rfl ntmps65 results65 rfl 1 499 (by simp) (by simp) ?_;simp only[zW,simprocAttr,i64,b9,bR,w1];refine aJ (bT m.less hm.l cY 20 (by omega)) rfl rfl rfl rfl rfl rfl ?_;simp only[zW,simprocAttr,i64,b9,bR,w1,Mk.next,Mk.less];refine ar mix [] [] (by rfl) ?_;rw[cL h3 ef];have As:=cb m.l (m.pos+1) m.ak (by omega);have w3:IntKind.i64.wrap (1+pick m.l (m.pos+1) m.ak)=1+pick m.l (m.pos+1) m.ak:=bd _ (by omega);have hn:Mk.node (Mk.tree d) (pick m.l m.pos 20) (m.less.next 20).2=(.mk 6 [] [] 0 0 0 (1+((m.less.next 20).2.next m.ak).1) false,((m.less.next 20).2.next m.ak).2):=by simp [Mk.node,Mk.has,Mk.next,Mk.less,hq,hu,wH,w3]
 rw[hn];simp only[zW,simprocAttr,i64,b9,bR,w1,w2,Mk.next,Mk.less,eY,h3,ef,hq,hu,wH,w3];refine aJ (bT (m.less.next 20).2 hm.l hyp m.ak (by omega)) rfl rfl rfl rfl rfl (by first|rfl|exact bm _ _) ?_;simp only[zW,simprocAttr,i64,b9,bR,w1,w2,Mk.next,Mk.less,eY,h3,ef,hq,hu,wH,w3];all_goals first|exact⟨rfl,rfl⟩|exact⟨rfl,trivial⟩|rfl|trivial|(rw[ai];rfl)
theorem M9 (d:Nat) (hd:d<=1000) (hz:zD d<=1000000000) (ht:dJ d) (m:Mk) (b:Int) (hb:0<=b) (hm:m.In b) (hs:b+cD (d+1)<=1000000000) (h3:¬m.left-1<3) (ef:¬(m.l.length:Int)<m.pos+1) (hq:pick m.l m.pos 20=17) (hu:0<ew .and .i64 m.cu 1) (wH:¬0<m.ak) :
  aq prog 65 [b9,i64 (d+1:Nat)] [bR m] λv s=>v=fv (m.tree (d+1)).1/\s=[bR (m.tree (d+1)).2]:=by
 have hc:=bN d;have xI:cD (d+1)=2+4*(cD d+1):=rfl;have w1:IntKind.i64.wrap (m.left-1)=m.left-1:=bd _ (by have:=hm.l0;have:=hm.l1;omega);have w2:IntKind.i64.wrap ((d+1:Nat)-1:Int)=(d:Int):=by rw[bd _ (by omega)];omega
 have eY:¬((d+1:Nat):Int)=0:=by omega
 have cY:0<=m.pos/\m.pos<=1000000000:=⟨hm.p0,by have:=hm.p1;omega⟩
 have hy:(m.less.next 20).2.In (b+2):=by have:=hm.left.next 20;rwa [agQ]at this
 have hyp:0<=(m.less.next 20).2.pos/\(m.less.next 20).2.pos<=1000000000:=by have:=hm.p1;simp only[Mk.next,Mk.less];omega
 have c0:=hm.c0;have c1:=hm.c1;refine an func65 rfl ntmps65 results65 rfl 1 499 (by simp) (by simp) ?_;simp only[zW,simprocAttr,i64,b9,bR,w1];refine aJ (bT m.less hm.l cY 20 (by omega)) rfl rfl rfl rfl rfl rfl ?_;simp only[zW,simprocAttr,i64,b9,bR,w1,Mk.next,Mk.less];refine ar mix [] [] (by rfl) ?_;rw[cL h3 ef];have hn:Mk.node (Mk.tree d) (pick m.l m.pos 20) (m.less.next 20).2=(m.less.next 20).2.set:=by simp [Mk.node,Mk.has,Mk.next,Mk.less,hq,hu,wH]
 rw[hn];simp only[zW,simprocAttr,i64,b9,bR,w1,w2,Mk.next,Mk.less,eY,h3,ef,hq,hu,wH];refine aJ (jK (m.less.next 20).2 hm.l hyp) rfl rfl rfl rfl rfl (by first|rfl|exact bm _ _) ?_;simp only[zW,simprocAttr,i64,b9,bR,w1,w2,Mk.next,Mk.less,eY,h3,ef,hq,hu,wH];all_goals first|exact⟨rfl,rfl⟩|exact⟨rfl,trivial⟩|rfl|trivial|(rw[ai];rfl)
theorem NR (d:Nat) (hd:d<=1000) (hz:zD d<=1000000000) (ht:dJ d) (m:Mk) (b:Int) (hb:0<=b) (hm:m.In b) (hs:b+cD (d+1)<=1000000000) (h3:¬m.left-1<3) (ef:¬(m.l.length:Int)<m.pos+1) (hq:pick m.l m.pos 20=17) (hu:¬0<ew .and .i64 m.cu 1) :
  aq prog 65 [b9,i64 (d+1:Nat)] [bR m] λv s=>v=fv (m.tree (d+1)).1/\s=[bR (m.tree (d+1)).2]:=by
 have hc:=bN d;have xI:cD (d+1)=2+4*(cD d+1):=rfl;have w1:IntKind.i64.wrap (m.left-1)=m.left-1:=bd _ (by have:=hm.l0;have:=hm.l1;omega);have w2:IntKind.i64.wrap ((d+1:Nat)-1:Int)=(d:Int):=by rw[bd _ (by omega)];omega
 have eY:¬((d+1:Nat):Int)=0:=by omega
 have cY:0<=m.pos/\m.pos<=1000000000:=⟨hm.p0,by have:=hm.p1;omega⟩
 have hy:(m.less.next 20).2.In (b+2):=by have:=hm.left.next 20;rwa [agQ]at this
 have hyp:0<=(m.less.next 20).2.pos/\(m.less.next 20).2.pos<=1000000000:=by have:=hm.p1;simp only[Mk.next,Mk.less];omega
 have c0:=hm.c0;have c1:=hm.c1;refine an func65 rfl ntmps65 results65 rfl 1 499 (by simp) (by simp) ?_;simp only[zW,simprocAttr,i64,b9,bR,w1];refine aJ (bT m.less hm.l cY 20 (by omega)) rfl rfl rfl rfl rfl rfl ?_;simp only[zW,simprocAttr,i64,b9,bR,w1,Mk.next,Mk.less];refine ar mix [] [] (by rfl) ?_;rw[cL h3 ef];have hn:Mk.node (Mk.tree d) (pick m.l m.pos 20) (m.less.next 20).2=(m.less.next 20).2.set:=by simp [Mk.node,Mk.has,Mk.next,Mk.less,hq,hu]
 rw[hn];simp only[zW,simprocAttr,i64,b9,bR,w1,w2,Mk.next,Mk.less,eY,h3,ef,hq,hu];refine aJ (jK (m.less.next 20).2 hm.l hyp) rfl rfl rfl rfl rfl (by first|rfl|exact bm _ _) ?_;simp only[zW,simprocAttr,i64,b9,bR,w1,w2,Mk.next,Mk.less,eY,h3,ef,hq,hu];all_goals first|exact⟨rfl,rfl⟩|exact⟨rfl,trivial⟩|rfl|trivial|(rw[ai];rfl)
theorem PO (d:Nat) (hd:d<=1000) (hz:zD d<=1000000000) (ht:dJ d) (m:Mk) (b:Int) (hb:0<=b) (hm:m.In b) (hs:b+cD (d+1)<=1000000000) (h3:¬m.left-1<3) (ef:¬(m.l.length:Int)<m.pos+1) (hq:pick m.l m.pos 20=18) (hu:0<ew .and .i64 m.cu 2) (wH:0<m.ak) :
  aq prog 65 [b9,i64 (d+1:Nat)] [bR m] λv s=>v=fv (m.tree (d+1)).1/\s=[bR (m.tree (d+1)).2]:=by
 have hc:=bN d;have xI:cD (d+1)=2+4*(cD d+1):=rfl;have w1:IntKind.i64.wrap (m.left-1)=m.left-1:=bd _ (by have:=hm.l0;have:=hm.l1;omega);have w2:IntKind.i64.wrap ((d+1:Nat)-1:Int)=(d:Int):=by rw[bd _ (by omega)];omega
 have eY:¬((d+1:Nat):Int)=0:=by omega
 have cY:0<=m.pos/\m.pos<=1000000000:=⟨hm.p0,by have:=hm.p1;omega⟩
 have hy:(m.less.next 20).2.In (b+2):=by have:=hm.left.next 20;rwa [agQ]at this
 have hyp:0<=(m.less.next 20).2.pos/\(m.less.next 20).2.pos<=1000000000:=by have:=hm.p1;simp only[Mk.next,Mk.less];omega
 have c0:=hm.c0;have c1:=hm.c1;refine an func65 rfl ntmps65 results65 rfl 1 499 (by simp) (by simp) ?_;simp only[zW,simprocAttr,i64,b9,bR,w1];refine aJ (bT m.less hm.l cY 20 (by omega)) rfl rfl rfl rfl rfl rfl ?_;simp only[zW,simprocAttr,i64,b9,bR,w1,Mk.next,Mk.less];refine ar mix [] [] (by rfl) ?_;rw[cL h3 ef];have As:=cb m.l (m.pos+1) m.ak (by omega);have w3:IntKind.i64.wrap (1+pick m.l (m.pos+1) m.ak)=1+pick m.l (m.pos+1) m.ak:=bd _ (by omega);obtain⟨g1,g2⟩:=jw d ((m.less.next 20).2.next m.ak).2 (b+3) (by omega) ((hy.next m.ak).mono (by omega));have hn:Mk.node (Mk.tree d) (pick m.l m.pos 20) (m.less.next 20).2=(.mk 10 [] [(Mk.tree d ((m.less.next 20).2.next m.ak).2).1,(Mk.tree d (Mk.tree d ((m.less.next 20).2.next m.ak).2).2).1] 0 0 0 (1+((m.less.next 20).2.next m.ak).1) false,(Mk.tree d (Mk.tree d ((m.less.next 20).2.next m.ak).2).2).2):=by simp [Mk.node,Mk.has,Mk.next,Mk.less,hq,hu,wH,w3]
 rw[hn];simp only[zW,simprocAttr,i64,b9,bR,w1,w2,Mk.next,Mk.less,eY,h3,ef,hq,hu,wH,w3];refine aJ (bT (m.less.next 20).2 hm.l hyp m.ak (by omega)) rfl rfl rfl rfl rfl (by first|rfl|exact bm _ _) ?_;simp only[zW,simprocAttr,i64,b9,bR,w1,w2,Mk.next,Mk.less,eY,h3,ef,hq,hu,wH,w3];refine aJ (ht ((m.less.next 20).2.next m.ak).2 (b+3) (by omega) ((hy.next m.ak).mono (by omega)) (by omega)) rfl rfl rfl rfl rfl (by first|rfl|exact bm _ _) ?_;simp only[zW,simprocAttr,i64,b9,bR,w1,w2,Mk.next,Mk.less,eY,h3,ef,hq,hu,wH,w3];refine ar mix [8] [(1,[2],[]),(5,[0],[0])] (by rfl) ?_;simp only[zW,simprocAttr,i64,b9,bR,w1,w2,Mk.next,Mk.less,eY,h3,ef,hq,hu,wH,w3];refine tz (ht (Mk.tree d ((m.less.next 20).2.next m.ak).2).2 (b+3+cD d) (by omega) g1 (by omega)) rfl rfl rfl rfl rfl (bm _ _) ?_;simp only[zW,simprocAttr,i64,b9,bR,w1,w2,Mk.next,Mk.less,eY,h3,ef,hq,hu,wH,w3];all_goals first|exact⟨rfl,rfl⟩|exact⟨rfl,trivial⟩|rfl|trivial|(rw[ai];rfl)
theorem Nu (d:Nat) (hd:d<=1000) (hz:zD d<=1000000000) (ht:dJ d) (m:Mk) (b:Int) (hb:0<=b) (hm:m.In b) (hs:b+cD (d+1)<=1000000000) (h3:¬m.left-1<3) (ef:¬(m.l.length:Int)<m.pos+1) (hq:pick m.l m.pos 20=18) (hu:0<ew .and .i64 m.cu 2) (wH:¬0<m.ak) :
  aq prog 65 [b9,i64 (d+1:Nat)] [bR m] λv s=>v=fv (m.tree (d+1)).1/\s=[bR (m.tree (d+1)).2]:=by
 have hc:=bN d;have xI:cD (d+1)=2+4*(cD d+1):=rfl;have w1:IntKind.i64.wrap (m.left-1)=m.left-1:=bd _ (by have:=hm.l0;have:=hm.l1;omega);have w2:IntKind.i64.wrap ((d+1:Nat)-1:Int)=(d:Int):=by rw[bd _ (by omega)];omega
 have eY:¬((d+1:Nat):Int)=0:=by omega
 have cY:0<=m.pos/\m.pos<=1000000000:=⟨hm.p0,by have:=hm.p1;omega⟩
 have hy:(m.less.next 20).2.In (b+2):=by have:=hm.left.next 20;rwa [agQ]at this
 have hyp:0<=(m.less.next 20).2.pos/\(m.less.next 20).2.pos<=1000000000:=by have:=hm.p1;simp only[Mk.next,Mk.less];omega
 have c0:=hm.c0;have c1:=hm.c1;refine an func65 rfl ntmps65 results65 rfl 1 499 (by simp) (by simp) ?_;simp only[zW,simprocAttr,i64,b9,bR,w1];refine aJ (bT m.less hm.l cY 20 (by omega)) rfl rfl rfl rfl rfl rfl ?_;simp only[zW,simprocAttr,i64,b9,bR,w1,Mk.next,Mk.less];refine ar mix [] [] (by rfl) ?_;rw[cL h3 ef];have hn:Mk.node (Mk.tree d) (pick m.l m.pos 20) (m.less.next 20).2=(m.less.next 20).2.set:=by simp [Mk.node,Mk.has,Mk.next,Mk.less,hq,hu,wH]
 rw[hn];simp only[zW,simprocAttr,i64,b9,bR,w1,w2,Mk.next,Mk.less,eY,h3,ef,hq,hu,wH];refine aJ (jK (m.less.next 20).2 hm.l hyp) rfl rfl rfl rfl rfl (by first|rfl|exact bm _ _) ?_;simp only[zW,simprocAttr,i64,b9,bR,w1,w2,Mk.next,Mk.less,eY,h3,ef,hq,hu,wH];all_goals first|exact⟨rfl,rfl⟩|exact⟨rfl,trivial⟩|rfl|trivial|(rw[ai];rfl)
theorem N0 (d:Nat) (hd:d<=1000) (hz:zD d<=1000000000) (ht:dJ d) (m:Mk) (b:Int) (hb:0<=b) (hm:m.In b) (hs:b+cD (d+1)<=1000000000) (h3:¬m.left-1<3) (ef:¬(m.l.length:Int)<m.pos+1) (hq:pick m.l m.pos 20=18) (hu:¬0<ew .and .i64 m.cu 2) :
  aq prog 65 [b9,i64 (d+1:Nat)] [bR m] λv s=>v=fv (m.tree (d+1)).1/\s=[bR (m.tree (d+1)).2]:=by
 have hc:=bN d;have xI:cD (d+1)=2+4*(cD d+1):=rfl;have w1:IntKind.i64.wrap (m.left-1)=m.left-1:=bd _ (by have:=hm.l0;have:=hm.l1;omega);have w2:IntKind.i64.wrap ((d+1:Nat)-1:Int)=(d:Int):=by rw[bd _ (by omega)];omega
 have eY:¬((d+1:Nat):Int)=0:=by omega
 have cY:0<=m.pos/\m.pos<=1000000000:=⟨hm.p0,by have:=hm.p1;omega⟩
 have hy:(m.less.next 20).2.In (b+2):=by have:=hm.left.next 20;rwa [agQ]at this
 have hyp:0<=(m.less.next 20).2.pos/\(m.less.next 20).2.pos<=1000000000:=by have:=hm.p1;simp only[Mk.next,Mk.less];omega
 have c0:=hm.c0;have c1:=hm.c1;refine an func65 rfl ntmps65 results65 rfl 1 499 (by simp) (by simp) ?_;simp only[zW,simprocAttr,i64,b9,bR,w1];refine aJ (bT m.less hm.l cY 20 (by omega)) rfl rfl rfl rfl rfl rfl ?_;simp only[zW,simprocAttr,i64,b9,bR,w1,Mk.next,Mk.less];refine ar mix [] [] (by rfl) ?_;rw[cL h3 ef];have hn:Mk.node (Mk.tree d) (pick m.l m.pos 20) (m.less.next 20).2=(m.less.next 20).2.set:=by simp [Mk.node,Mk.has,Mk.next,Mk.less,hq,hu]
 rw[hn];simp only[zW,simprocAttr,i64,b9,bR,w1,w2,Mk.next,Mk.less,eY,h3,ef,hq,hu];refine aJ (jK (m.less.next 20).2 hm.l hyp) rfl rfl rfl rfl rfl (by first|rfl|exact bm _ _) ?_;simp only[zW,simprocAttr,i64,b9,bR,w1,w2,Mk.next,Mk.less,eY,h3,ef,hq,hu];all_goals first|exact⟨rfl,rfl⟩|exact⟨rfl,trivial⟩|rfl|trivial|(rw[ai];rfl)
theorem Q2 (d:Nat) (hd:d<=1000) (hz:zD d<=1000000000) (ht:dJ d) (m:Mk) (b:Int) (hb:0<=b) (hm:m.In b) (hs:b+cD (d+1)<=1000000000) (h3:¬m.left-1<3) (ef:¬(m.l.length:Int)<m.pos+1) (hq:pick m.l m.pos 20=19) :
  aq prog 65 [b9,i64 (d+1:Nat)] [bR m] λv s=>v=fv (m.tree (d+1)).1/\s=[bR (m.tree (d+1)).2]:=by
 have hc:=bN d;have xI:cD (d+1)=2+4*(cD d+1):=rfl;have w1:IntKind.i64.wrap (m.left-1)=m.left-1:=bd _ (by have:=hm.l0;have:=hm.l1;omega);have w2:IntKind.i64.wrap ((d+1:Nat)-1:Int)=(d:Int):=by rw[bd _ (by omega)];omega
 have eY:¬((d+1:Nat):Int)=0:=by omega
 have cY:0<=m.pos/\m.pos<=1000000000:=⟨hm.p0,by have:=hm.p1;omega⟩
 have hy:(m.less.next 20).2.In (b+2):=by have:=hm.left.next 20;rwa [agQ]at this
 have hyp:0<=(m.less.next 20).2.pos/\(m.less.next 20).2.pos<=1000000000:=by have:=hm.p1;simp only[Mk.next,Mk.less];omega
 have c0:=hm.c0;have c1:=hm.c1;refine an func65 rfl ntmps65 results65 rfl 1 499 (by simp) (by simp) ?_;simp only[zW,simprocAttr,i64,b9,bR,w1];refine aJ (bT m.less hm.l cY 20 (by omega)) rfl rfl rfl rfl rfl rfl ?_;simp only[zW,simprocAttr,i64,b9,bR,w1,Mk.next,Mk.less];refine ar mix [] [] (by rfl) ?_;rw[cL h3 ef];have hn:Mk.node (Mk.tree d) (pick m.l m.pos 20) (m.less.next 20).2=(m.less.next 20).2.set:=by simp [Mk.node,Mk.has,Mk.next,Mk.less,hq]
 rw[hn];simp only[zW,simprocAttr,i64,b9,bR,w1,w2,Mk.next,Mk.less,eY,h3,ef,hq];refine aJ (jK (m.less.next 20).2 hm.l hyp) rfl rfl rfl rfl rfl (by first|rfl|exact bm _ _) ?_;simp only[zW,simprocAttr,i64,b9,bR,w1,w2,Mk.next,Mk.less,eY,h3,ef,hq];all_goals first|exact⟨rfl,rfl⟩|exact⟨rfl,trivial⟩|rfl|trivial|(rw[ai];rfl)
theorem Nt (d:Nat) (hd:d<=1000) (hz:zD d<=1000000000) (ht:dJ d):dJ (d+1):=by
 intro m b hb hm hs;have hk:=cb m.l m.pos 20 (by omega);by_cases h3:m.left-1<3
 ·exact KO d hd hz ht m b hb hm hs h3
 by_cases ef:(m.l.length:Int)<m.pos+1
 ·exact Ln d hd hz ht m b hb hm hs h3 ef
 by_cases h5:pick m.l m.pos 20<5
 ·exact Pv d hd hz ht m b hb hm hs h3 ef h5
 by_cases h8:pick m.l m.pos 20<8
 ·exact Rr d hd hz ht m b hb hm hs h3 ef h5 h8
 by_cases jn:pick m.l m.pos 20<12
 ·exact Po d hd hz ht m b hb hm hs h3 ef h5 h8 jn
 have rM:pick m.l m.pos 20=12\/pick m.l m.pos 20=13\/pick m.l m.pos 20=14\/pick m.l m.pos 20=15\/pick m.l m.pos 20=16\/pick m.l m.pos 20=17\/pick m.l m.pos 20=18\/pick m.l m.pos 20=19:=by omega
 rcases rM with hq|hq|hq|hq|hq|hq|hq|hq
 ·by_cases hu:0<ew .and .i64 m.cu 64
  ·exact P4 d hd hz ht m b hb hm hs h3 ef hq hu
  ·exact Oq d hd hz ht m b hb hm hs h3 ef hq hu
 ·by_cases hu:0<ew .and .i64 m.cu 64
  ·exact Q0 d hd hz ht m b hb hm hs h3 ef hq hu
  ·exact Of d hd hz ht m b hb hm hs h3 ef hq hu
 ·by_cases hu:0<ew .and .i64 m.cu 16
  ·exact PX d hd hz ht m b hb hm hs h3 ef hq hu
  ·exact MU d hd hz ht m b hb hm hs h3 ef hq hu
 ·by_cases hu:0<ew .and .i64 m.cu 4
  ·exact Pt d hd hz ht m b hb hm hs h3 ef hq hu
  ·exact NM d hd hz ht m b hb hm hs h3 ef hq hu
 ·by_cases hu:0<ew .and .i64 m.cu 8
  ·exact Rb d hd hz ht m b hb hm hs h3 ef hq hu
  ·exact N3 d hd hz ht m b hb hm hs h3 ef hq hu
 ·by_cases hu:0<ew .and .i64 m.cu 1
  ·by_cases wH:0<m.ak
   ·exact Pc d hd hz ht m b hb hm hs h3 ef hq hu wH
   ·exact M9 d hd hz ht m b hb hm hs h3 ef hq hu wH
  ·exact NR d hd hz ht m b hb hm hs h3 ef hq hu
 ·by_cases hu:0<ew .and .i64 m.cu 2
  ·by_cases wH:0<m.ak
   ·exact PO d hd hz ht m b hb hm hs h3 ef hq hu wH
   ·exact Nu d hd hz ht m b hb hm hs h3 ef hq hu wH
  ·exact N0 d hd hz ht m b hb hm hs h3 ef hq hu
 ·exact Q2 d hd hz ht m b hb hm hs h3 ef hq
theorem MN:∀d,d<=1000->zD d<=1000000000->dJ d
 |0,_,_=>M0
 |d+1,hd,hz=>Nt d (by omega) (by have:=yR d;simp only[zD]at hz;omega) (MN d (by omega) (by have:=yR d;simp only[zD]at hz;omega))
end Go.Proofs.Ytfmdmlfhigocaaa
