/- A part of the proof (F11 F12). -/
import Derived.Test.YtllagoeijcjpiaaBD4
set_option linter.unusedSimpArgs false
set_option linter.unusedVariables false
set_option maxRecDepth 100000
set_option maxHeartbeats 80000000
set_option linter.unusedSimpArgs false
set_option linter.unusedVariables false
namespace Go.Proofs.Ytllagoeijcjpiaa
open Go.VL Go.Proofs.Try
theorem G1:dU 0:=by
 intro m b hb hm hs
 have hc:cD 0=3:=rfl
 have w1:IntKind.i64.wrap (m.left-1)=m.left-1:=bR _ (by have:=hm.l0;have:=hm.l1;omega)
 have dv:0≤m.pos∧m.pos≤1000000000:=⟨hm.p0,by have:=hm.p1;omega⟩
 have hk:=cK m.l m.pos 20 (by omega)
 refine av func34 rfl ntmps34 results34 rfl 1 499 (by simp) (by simp) ?_
 simp only[zW,simprocAttr,i64,cy,bZ,w1]
 refine au (cb m.less hm.l dv 20 (by omega)) rfl rfl rfl rfl rfl rfl ?_
 simp only[zW,simprocAttr,i64,cy,bZ,w1,Mk.next,Mk.less]
 refine an mix [] [] (by rfl) ?_
 by_cases h0:pick m.l m.pos 20=0
 ·simp only[zW,simprocAttr,i64,cy,bZ,w1,Mk.next,h0,VG]
  rw[show Mk.tree 0 m=(Re.node 0 [],(m.less.next 20).2) by simp [Mk.tree,Mk.next,Mk.less,h0]]
  all_goals first|exact⟨rfl,rfl⟩|exact⟨rfl,trivial⟩|rfl|trivial|(rw[aw];rfl)
 ·simp only[zW,simprocAttr,i64,cy,bZ,w1,Mk.next,h0,VG]
  refine au (iz (m.less.next 20).2 hm.l (by have:=hm.p1;simp only[Mk.next,Mk.less];omega)) rfl rfl rfl rfl rfl (bE _ _) ?_
  simp only[zW,simprocAttr,i64,cy,bZ,w1,Mk.next,h0,VG]
  rw[show Mk.tree 0 m=(m.less.next 20).2.set by simp [Mk.tree,Mk.next,Mk.less,h0]]
  all_goals first|exact⟨rfl,rfl⟩|exact⟨rfl,trivial⟩|rfl|trivial|(rw[aw];rfl)
theorem c8 {d:Nat}{m:Mk} (h3:¬m.left-1<3) (hp:¬(m.l.length:Int)<m.pos+1):Mk.tree (d+1) m=Mk.node (Mk.tree d) (pick m.l m.pos 20) (m.less.next 20).2:=by
 simp [Mk.tree,Mk.next,Mk.less,h3,hp]
theorem EU (d:Nat) (hd:d≤1000) (hz:zD d≤1000000000) (ht:dU d) (m:Mk) (b:Int) (hb:0≤b) (hm:m.In b) (hs:b+cD (d+1)≤1000000000) (h3:m.left-1<3) :
  az prog 34 [cy,i64 (d+1:Nat)] [bZ m] fun v s=>v=lq (m.tree (d+1)).1∧s=[bZ (m.tree (d+1)).2]:=by
 have hc:=bT d
 have yP:cD (d+1)=2+4*(cD d+1):=rfl
 have w1:IntKind.i64.wrap (m.left-1)=m.left-1:=bR _ (by have:=hm.l0;have:=hm.l1;omega)
 have w2:IntKind.i64.wrap ((d+1:Nat)-1:Int)=(d:Int):=by rw[bR _ (by omega)];omega
 have eL:¬((d+1:Nat):Int)=0:=by omega
 have dv:0≤m.pos∧m.pos≤1000000000:=⟨hm.p0,by have:=hm.p1;omega⟩
 have hy:(m.less.next 20).2.In (b+2):=by have:=hm.left.next 20;rwa [Wh]at this
 have hyp:0≤(m.less.next 20).2.pos∧(m.less.next 20).2.pos≤1000000000:=by have:=hm.p1;simp only[Mk.next,Mk.less];omega
 have c0:=hm.c0
 have c1:=hm.c1
 refine av func34 rfl ntmps34 results34 rfl 1 499 (by simp) (by simp) ?_
 simp only[zW,simprocAttr,i64,cy,bZ,w1]
 refine au (cb m.less hm.l dv 20 (by omega)) rfl rfl rfl rfl rfl rfl ?_
 simp only[zW,simprocAttr,i64,cy,bZ,w1,Mk.next,Mk.less]
 refine an mix [] [] (by rfl) ?_
 have hT:Mk.tree (d+1) m=if pick m.l m.pos 20=0 then (Re.node 0 [],(m.less.next 20).2) else (m.less.next 20).2.set:=if_pos (.inl h3)
 rw[hT]
 by_cases h0:pick m.l m.pos 20=0
 ·simp only[zW,simprocAttr,i64,cy,bZ,w1,Mk.next,eL,h3,h0]
  all_goals first|exact⟨rfl,rfl⟩|exact⟨rfl,trivial⟩|rfl|trivial|(rw[aw];rfl)
 ·simp only[zW,simprocAttr,i64,cy,bZ,w1,Mk.next,eL,h3,h0]
  refine au (iz (m.less.next 20).2 hm.l hyp) rfl rfl rfl rfl rfl (bE _ _) ?_
  simp only[zW,simprocAttr,i64,cy,bZ,w1,Mk.next,eL,h3,h0]
  all_goals first|exact⟨rfl,rfl⟩|exact⟨rfl,trivial⟩|rfl|trivial|(rw[aw];rfl)
theorem FB (d:Nat) (hd:d≤1000) (hz:zD d≤1000000000) (ht:dU d) (m:Mk) (b:Int) (hb:0≤b) (hm:m.In b) (hs:b+cD (d+1)≤1000000000) (h3:¬m.left-1<3) (ey:(m.l.length:Int)<m.pos+1) :
  az prog 34 [cy,i64 (d+1:Nat)] [bZ m] fun v s=>v=lq (m.tree (d+1)).1∧s=[bZ (m.tree (d+1)).2]:=by
 have hc:=bT d
 have yP:cD (d+1)=2+4*(cD d+1):=rfl
 have w1:IntKind.i64.wrap (m.left-1)=m.left-1:=bR _ (by have:=hm.l0;have:=hm.l1;omega)
 have w2:IntKind.i64.wrap ((d+1:Nat)-1:Int)=(d:Int):=by rw[bR _ (by omega)];omega
 have eL:¬((d+1:Nat):Int)=0:=by omega
 have dv:0≤m.pos∧m.pos≤1000000000:=⟨hm.p0,by have:=hm.p1;omega⟩
 have hy:(m.less.next 20).2.In (b+2):=by have:=hm.left.next 20;rwa [Wh]at this
 have hyp:0≤(m.less.next 20).2.pos∧(m.less.next 20).2.pos≤1000000000:=by have:=hm.p1;simp only[Mk.next,Mk.less];omega
 have c0:=hm.c0
 have c1:=hm.c1
 refine av func34 rfl ntmps34 results34 rfl 1 499 (by simp) (by simp) ?_
 simp only[zW,simprocAttr,i64,cy,bZ,w1]
 refine au (cb m.less hm.l dv 20 (by omega)) rfl rfl rfl rfl rfl rfl ?_
 simp only[zW,simprocAttr,i64,cy,bZ,w1,Mk.next,Mk.less]
 refine an mix [] [] (by rfl) ?_
 have hT:Mk.tree (d+1) m=if pick m.l m.pos 20=0 then (Re.node 0 [],(m.less.next 20).2) else (m.less.next 20).2.set:=if_pos (.inr ey)
 rw[hT]
 by_cases h0:pick m.l m.pos 20=0
 ·simp only[zW,simprocAttr,i64,cy,bZ,w1,Mk.next,eL,h3,ey,h0]
  all_goals first|exact⟨rfl,rfl⟩|exact⟨rfl,trivial⟩|rfl|trivial|(rw[aw];rfl)
 ·simp only[zW,simprocAttr,i64,cy,bZ,w1,Mk.next,eL,h3,ey,h0]
  refine au (iz (m.less.next 20).2 hm.l hyp) rfl rfl rfl rfl rfl (bE _ _) ?_
  simp only[zW,simprocAttr,i64,cy,bZ,w1,Mk.next,eL,h3,ey,h0]
  all_goals first|exact⟨rfl,rfl⟩|exact⟨rfl,trivial⟩|rfl|trivial|(rw[aw];rfl)
theorem I6 (d:Nat) (hd:d≤1000) (hz:zD d≤1000000000) (ht:dU d) (m:Mk) (b:Int) (hb:0≤b) (hm:m.In b) (hs:b+cD (d+1)≤1000000000) (h3:¬m.left-1<3) (ey:¬(m.l.length:Int)<m.pos+1) (h5:pick m.l m.pos 20<5) :
  az prog 34 [cy,i64 (d+1:Nat)] [bZ m] fun v s=>v=lq (m.tree (d+1)).1∧s=[bZ (m.tree (d+1)).2]:=by
 have hc:=bT d
 have yP:cD (d+1)=2+4*(cD d+1):=rfl
 have w1:IntKind.i64.wrap (m.left-1)=m.left-1:=bR _ (by have:=hm.l0;have:=hm.l1;omega)
 have w2:IntKind.i64.wrap ((d+1:Nat)-1:Int)=(d:Int):=by rw[bR _ (by omega)];omega
 have eL:¬((d+1:Nat):Int)=0:=by omega
 have dv:0≤m.pos∧m.pos≤1000000000:=⟨hm.p0,by have:=hm.p1;omega⟩
 have hy:(m.less.next 20).2.In (b+2):=by have:=hm.left.next 20;rwa [Wh]at this
 have hyp:0≤(m.less.next 20).2.pos∧(m.less.next 20).2.pos≤1000000000:=by have:=hm.p1;simp only[Mk.next,Mk.less];omega
 have c0:=hm.c0
 have c1:=hm.c1
 refine av func34 rfl ntmps34 results34 rfl 1 499 (by simp) (by simp) ?_
 simp only[zW,simprocAttr,i64,cy,bZ,w1]
 refine au (cb m.less hm.l dv 20 (by omega)) rfl rfl rfl rfl rfl rfl ?_
 simp only[zW,simprocAttr,i64,cy,bZ,w1,Mk.next,Mk.less]
 refine an mix [] [] (by rfl) ?_
 rw[c8 h3 ey]
 have hn:Mk.node (Mk.tree d) (pick m.l m.pos 20) (m.less.next 20).2=(Re.node 2 (bF (Mk.tree d) 4 0 (m.less.next 20).2).1,(bF (Mk.tree d) 4 0 (m.less.next 20).2).2):=by simp [Mk.node,Mk.has,Mk.next,Mk.less,h5]
 rw[hn]
 simp only[zW,simprocAttr,i64,cy,bZ,w1,w2,Mk.next,Mk.less,eL,h3,ey,h5]
 refine au (GH d hd ht (m.less.next 20).2 (b+2) (by omega) hy (by omega)) rfl rfl rfl rfl rfl (by first|rfl|exact bE _ _) ?_
 simp only[zW,simprocAttr,i64,cy,bZ,w1,w2,Mk.next,Mk.less,eL,h3,ey,h5]
 all_goals first|exact⟨rfl,rfl⟩|exact⟨rfl,trivial⟩|rfl|trivial|(rw[aw];rfl)
theorem KU (d:Nat) (hd:d≤1000) (hz:zD d≤1000000000) (ht:dU d) (m:Mk) (b:Int) (hb:0≤b) (hm:m.In b) (hs:b+cD (d+1)≤1000000000) (h3:¬m.left-1<3) (ey:¬(m.l.length:Int)<m.pos+1) (h5:¬pick m.l m.pos 20<5) (h8:pick m.l m.pos 20<8) :
  az prog 34 [cy,i64 (d+1:Nat)] [bZ m] fun v s=>v=lq (m.tree (d+1)).1∧s=[bZ (m.tree (d+1)).2]:=by
 have hc:=bT d
 have yP:cD (d+1)=2+4*(cD d+1):=rfl
 have w1:IntKind.i64.wrap (m.left-1)=m.left-1:=bR _ (by have:=hm.l0;have:=hm.l1;omega)
 have w2:IntKind.i64.wrap ((d+1:Nat)-1:Int)=(d:Int):=by rw[bR _ (by omega)];omega
 have eL:¬((d+1:Nat):Int)=0:=by omega
 have dv:0≤m.pos∧m.pos≤1000000000:=⟨hm.p0,by have:=hm.p1;omega⟩
 have hy:(m.less.next 20).2.In (b+2):=by have:=hm.left.next 20;rwa [Wh]at this
 have hyp:0≤(m.less.next 20).2.pos∧(m.less.next 20).2.pos≤1000000000:=by have:=hm.p1;simp only[Mk.next,Mk.less];omega
 have c0:=hm.c0
 have c1:=hm.c1
 refine av func34 rfl ntmps34 results34 rfl 1 499 (by simp) (by simp) ?_
 simp only[zW,simprocAttr,i64,cy,bZ,w1]
 refine au (cb m.less hm.l dv 20 (by omega)) rfl rfl rfl rfl rfl rfl ?_
 simp only[zW,simprocAttr,i64,cy,bZ,w1,Mk.next,Mk.less]
 refine an mix [] [] (by rfl) ?_
 rw[c8 h3 ey]
 have hn:Mk.node (Mk.tree d) (pick m.l m.pos 20) (m.less.next 20).2=(Re.node 3 (bF (Mk.tree d) 4 0 (m.less.next 20).2).1,(bF (Mk.tree d) 4 0 (m.less.next 20).2).2):=by simp [Mk.node,Mk.has,Mk.next,Mk.less,h5,h8]
 rw[hn]
 simp only[zW,simprocAttr,i64,cy,bZ,w1,w2,Mk.next,Mk.less,eL,h3,ey,h5,h8]
 refine au (GH d hd ht (m.less.next 20).2 (b+2) (by omega) hy (by omega)) rfl rfl rfl rfl rfl (by first|rfl|exact bE _ _) ?_
 simp only[zW,simprocAttr,i64,cy,bZ,w1,w2,Mk.next,Mk.less,eL,h3,ey,h5,h8]
 all_goals first|exact⟨rfl,rfl⟩|exact⟨rfl,trivial⟩|rfl|trivial|(rw[aw];rfl)
theorem I0 (d:Nat) (hd:d≤1000) (hz:zD d≤1000000000) (ht:dU d) (m:Mk) (b:Int) (hb:0≤b) (hm:m.In b) (hs:b+cD (d+1)≤1000000000) (h3:¬m.left-1<3) (ey:¬(m.l.length:Int)<m.pos+1) (h5:¬pick m.l m.pos 20<5) (h8:¬pick m.l m.pos 20<8) (bW:pick m.l m.pos 20<12) :
  az prog 34 [cy,i64 (d+1:Nat)] [bZ m] fun v s=>v=lq (m.tree (d+1)).1∧s=[bZ (m.tree (d+1)).2]:=by
 have hc:=bT d
 have yP:cD (d+1)=2+4*(cD d+1):=rfl
 have w1:IntKind.i64.wrap (m.left-1)=m.left-1:=bR _ (by have:=hm.l0;have:=hm.l1;omega)
 have w2:IntKind.i64.wrap ((d+1:Nat)-1:Int)=(d:Int):=by rw[bR _ (by omega)];omega
 have eL:¬((d+1:Nat):Int)=0:=by omega
 have dv:0≤m.pos∧m.pos≤1000000000:=⟨hm.p0,by have:=hm.p1;omega⟩
 have hy:(m.less.next 20).2.In (b+2):=by have:=hm.left.next 20;rwa [Wh]at this
 have hyp:0≤(m.less.next 20).2.pos∧(m.less.next 20).2.pos≤1000000000:=by have:=hm.p1;simp only[Mk.next,Mk.less];omega
 have c0:=hm.c0
 have c1:=hm.c1
 refine av func34 rfl ntmps34 results34 rfl 1 499 (by simp) (by simp) ?_
 simp only[zW,simprocAttr,i64,cy,bZ,w1]
 refine au (cb m.less hm.l dv 20 (by omega)) rfl rfl rfl rfl rfl rfl ?_
 simp only[zW,simprocAttr,i64,cy,bZ,w1,Mk.next,Mk.less]
 refine an mix [] [] (by rfl) ?_
 rw[c8 h3 ey]
 have hn:Mk.node (Mk.tree d) (pick m.l m.pos 20) (m.less.next 20).2=Mk.rep (Mk.tree d) (m.less.next 20).2:=by simp [Mk.node,Mk.has,Mk.next,Mk.less,h5,h8,bW]
 rw[hn]
 simp only[zW,simprocAttr,i64,cy,bZ,w1,w2,Mk.next,Mk.less,eL,h3,ey,h5,h8,bW]
 refine au (Oy d hd ht (m.less.next 20).2 (b+2) (by omega) hy (by omega) hz) rfl rfl rfl rfl rfl (by first|rfl|exact bE _ _) ?_
 simp only[zW,simprocAttr,i64,cy,bZ,w1,w2,Mk.next,Mk.less,eL,h3,ey,h5,h8,bW]
 all_goals first|exact⟨rfl,rfl⟩|exact⟨rfl,trivial⟩|rfl|trivial|(rw[aw];rfl)
theorem JC (d:Nat) (hd:d≤1000) (hz:zD d≤1000000000) (ht:dU d) (m:Mk) (b:Int) (hb:0≤b) (hm:m.In b) (hs:b+cD (d+1)≤1000000000) (h3:¬m.left-1<3) (ey:¬(m.l.length:Int)<m.pos+1) (hq:pick m.l m.pos 20=12) (hu:0<gE .and .i64 m.cU 64) :
  az prog 34 [cy,i64 (d+1:Nat)] [bZ m] fun v s=>v=lq (m.tree (d+1)).1∧s=[bZ (m.tree (d+1)).2]:=by
 have hc:=bT d
 have yP:cD (d+1)=2+4*(cD d+1):=rfl
 have w1:IntKind.i64.wrap (m.left-1)=m.left-1:=bR _ (by have:=hm.l0;have:=hm.l1;omega)
 have w2:IntKind.i64.wrap ((d+1:Nat)-1:Int)=(d:Int):=by rw[bR _ (by omega)];omega
 have eL:¬((d+1:Nat):Int)=0:=by omega
 have dv:0≤m.pos∧m.pos≤1000000000:=⟨hm.p0,by have:=hm.p1;omega⟩
 have hy:(m.less.next 20).2.In (b+2):=by have:=hm.left.next 20;rwa [Wh]at this
 have hyp:0≤(m.less.next 20).2.pos∧(m.less.next 20).2.pos≤1000000000:=by have:=hm.p1;simp only[Mk.next,Mk.less];omega
 have c0:=hm.c0
 have c1:=hm.c1
 refine av func34 rfl ntmps34 results34 rfl 1 499 (by simp) (by simp) ?_
 simp only[zW,simprocAttr,i64,cy,bZ,w1]
 refine au (cb m.less hm.l dv 20 (by omega)) rfl rfl rfl rfl rfl rfl ?_
 simp only[zW,simprocAttr,i64,cy,bZ,w1,Mk.next,Mk.less]
 refine an mix [] [] (by rfl) ?_
 rw[c8 h3 ey]
 have hn:Mk.node (Mk.tree d) (pick m.l m.pos 20) (m.less.next 20).2=Mk.gN (Mk.tree d) (m.less.next 20).2:=by simp [Mk.node,Mk.has,Mk.next,Mk.less,hq,hu]
 rw[hn]
 simp only[zW,simprocAttr,i64,cy,bZ,w1,w2,Mk.next,Mk.less,eL,h3,ey,hq,hu]
 refine au (xM d hd ht (m.less.next 20).2 (b+2) (by omega) hy (by omega)) rfl rfl rfl rfl rfl (by first|rfl|exact bE _ _) ?_
 simp only[zW,simprocAttr,i64,cy,bZ,w1,w2,Mk.next,Mk.less,eL,h3,ey,hq,hu]
 all_goals first|exact⟨rfl,rfl⟩|exact⟨rfl,trivial⟩|rfl|trivial|(rw[aw];rfl)
theorem Ip (d:Nat) (hd:d≤1000) (hz:zD d≤1000000000) (ht:dU d) (m:Mk) (b:Int) (hb:0≤b) (hm:m.In b) (hs:b+cD (d+1)≤1000000000) (h3:¬m.left-1<3) (ey:¬(m.l.length:Int)<m.pos+1) (hq:pick m.l m.pos 20=12) (hu:¬0<gE .and .i64 m.cU 64) :
  az prog 34 [cy,i64 (d+1:Nat)] [bZ m] fun v s=>v=lq (m.tree (d+1)).1∧s=[bZ (m.tree (d+1)).2]:=by
 have hc:=bT d
 have yP:cD (d+1)=2+4*(cD d+1):=rfl
 have w1:IntKind.i64.wrap (m.left-1)=m.left-1:=bR _ (by have:=hm.l0;have:=hm.l1;omega)
 have w2:IntKind.i64.wrap ((d+1:Nat)-1:Int)=(d:Int):=by rw[bR _ (by omega)];omega
 have eL:¬((d+1:Nat):Int)=0:=by omega
 have dv:0≤m.pos∧m.pos≤1000000000:=⟨hm.p0,by have:=hm.p1;omega⟩
 have hy:(m.less.next 20).2.In (b+2):=by have:=hm.left.next 20;rwa [Wh]at this
 have hyp:0≤(m.less.next 20).2.pos∧(m.less.next 20).2.pos≤1000000000:=by have:=hm.p1;simp only[Mk.next,Mk.less];omega
 have c0:=hm.c0
 have c1:=hm.c1
 refine av func34 rfl ntmps34 results34 rfl 1 499 (by simp) (by simp) ?_
 simp only[zW,simprocAttr,i64,cy,bZ,w1]
 refine au (cb m.less hm.l dv 20 (by omega)) rfl rfl rfl rfl rfl rfl ?_
 simp only[zW,simprocAttr,i64,cy,bZ,w1,Mk.next,Mk.less]
 refine an mix [] [] (by rfl) ?_
 rw[c8 h3 ey]
 have hn:Mk.node (Mk.tree d) (pick m.l m.pos 20) (m.less.next 20).2=(m.less.next 20).2.set:=by simp [Mk.node,Mk.has,Mk.next,Mk.less,hq,hu]
 rw[hn]
 simp only[zW,simprocAttr,i64,cy,bZ,w1,w2,Mk.next,Mk.less,eL,h3,ey,hq,hu]
 refine au (iz (m.less.next 20).2 hm.l hyp) rfl rfl rfl rfl rfl (by first|rfl|exact bE _ _) ?_
 simp only[zW,simprocAttr,i64,cy,bZ,w1,w2,Mk.next,Mk.less,eL,h3,ey,hq,hu]
 all_goals first|exact⟨rfl,rfl⟩|exact⟨rfl,trivial⟩|rfl|trivial|(rw[aw];rfl)
theorem Kx (d:Nat) (hd:d≤1000) (hz:zD d≤1000000000) (ht:dU d) (m:Mk) (b:Int) (hb:0≤b) (hm:m.In b) (hs:b+cD (d+1)≤1000000000) (h3:¬m.left-1<3) (ey:¬(m.l.length:Int)<m.pos+1) (hq:pick m.l m.pos 20=13) (hu:0<gE .and .i64 m.cU 64) :
  az prog 34 [cy,i64 (d+1:Nat)] [bZ m] fun v s=>v=lq (m.tree (d+1)).1∧s=[bZ (m.tree (d+1)).2]:=by
 have hc:=bT d
 have yP:cD (d+1)=2+4*(cD d+1):=rfl
 have w1:IntKind.i64.wrap (m.left-1)=m.left-1:=bR _ (by have:=hm.l0;have:=hm.l1;omega)
 have w2:IntKind.i64.wrap ((d+1:Nat)-1:Int)=(d:Int):=by rw[bR _ (by omega)];omega
 have eL:¬((d+1:Nat):Int)=0:=by omega
 have dv:0≤m.pos∧m.pos≤1000000000:=⟨hm.p0,by have:=hm.p1;omega⟩
 have hy:(m.less.next 20).2.In (b+2):=by have:=hm.left.next 20;rwa [Wh]at this
 have hyp:0≤(m.less.next 20).2.pos∧(m.less.next 20).2.pos≤1000000000:=by have:=hm.p1;simp only[Mk.next,Mk.less];omega
 have c0:=hm.c0
 have c1:=hm.c1
 refine av func34 rfl ntmps34 results34 rfl 1 499 (by simp) (by simp) ?_
 simp only[zW,simprocAttr,i64,cy,bZ,w1]
 refine au (cb m.less hm.l dv 20 (by omega)) rfl rfl rfl rfl rfl rfl ?_
 simp only[zW,simprocAttr,i64,cy,bZ,w1,Mk.next,Mk.less]
 refine an mix [] [] (by rfl) ?_
 rw[c8 h3 ey]
 have hn:Mk.node (Mk.tree d) (pick m.l m.pos 20) (m.less.next 20).2=Mk.gN (Mk.tree d) (m.less.next 20).2:=by simp [Mk.node,Mk.has,Mk.next,Mk.less,hq,hu]
 rw[hn]
 simp only[zW,simprocAttr,i64,cy,bZ,w1,w2,Mk.next,Mk.less,eL,h3,ey,hq,hu]
 refine au (xM d hd ht (m.less.next 20).2 (b+2) (by omega) hy (by omega)) rfl rfl rfl rfl rfl (by first|rfl|exact bE _ _) ?_
 simp only[zW,simprocAttr,i64,cy,bZ,w1,w2,Mk.next,Mk.less,eL,h3,ey,hq,hu]
 all_goals first|exact⟨rfl,rfl⟩|exact⟨rfl,trivial⟩|rfl|trivial|(rw[aw];rfl)
theorem Ib (d:Nat) (hd:d≤1000) (hz:zD d≤1000000000) (ht:dU d) (m:Mk) (b:Int) (hb:0≤b) (hm:m.In b) (hs:b+cD (d+1)≤1000000000) (h3:¬m.left-1<3) (ey:¬(m.l.length:Int)<m.pos+1) (hq:pick m.l m.pos 20=13) (hu:¬0<gE .and .i64 m.cU 64) :
  az prog 34 [cy,i64 (d+1:Nat)] [bZ m] fun v s=>v=lq (m.tree (d+1)).1∧s=[bZ (m.tree (d+1)).2]:=by
 have hc:=bT d
 have yP:cD (d+1)=2+4*(cD d+1):=rfl
 have w1:IntKind.i64.wrap (m.left-1)=m.left-1:=bR _ (by have:=hm.l0;have:=hm.l1;omega)
 have w2:IntKind.i64.wrap ((d+1:Nat)-1:Int)=(d:Int):=by rw[bR _ (by omega)];omega
 have eL:¬((d+1:Nat):Int)=0:=by omega
 have dv:0≤m.pos∧m.pos≤1000000000:=⟨hm.p0,by have:=hm.p1;omega⟩
 have hy:(m.less.next 20).2.In (b+2):=by have:=hm.left.next 20;rwa [Wh]at this
 have hyp:0≤(m.less.next 20).2.pos∧(m.less.next 20).2.pos≤1000000000:=by have:=hm.p1;simp only[Mk.next,Mk.less];omega
 have c0:=hm.c0
 have c1:=hm.c1
 refine av func34 rfl ntmps34 results34 rfl 1 499 (by simp) (by simp) ?_
 simp only[zW,simprocAttr,i64,cy,bZ,w1]
 refine au (cb m.less hm.l dv 20 (by omega)) rfl rfl rfl rfl rfl rfl ?_
 simp only[zW,simprocAttr,i64,cy,bZ,w1,Mk.next,Mk.less]
 refine an mix [] [] (by rfl) ?_
 rw[c8 h3 ey]
 have hn:Mk.node (Mk.tree d) (pick m.l m.pos 20) (m.less.next 20).2=(m.less.next 20).2.set:=by simp [Mk.node,Mk.has,Mk.next,Mk.less,hq,hu]
 rw[hn]
 simp only[zW,simprocAttr,i64,cy,bZ,w1,w2,Mk.next,Mk.less,eL,h3,ey,hq,hu]
 refine au (iz (m.less.next 20).2 hm.l hyp) rfl rfl rfl rfl rfl (by first|rfl|exact bE _ _) ?_
 simp only[zW,simprocAttr,i64,cy,bZ,w1,w2,Mk.next,Mk.less,eL,h3,ey,hq,hu]
 all_goals first|exact⟨rfl,rfl⟩|exact⟨rfl,trivial⟩|rfl|trivial|(rw[aw];rfl)
theorem Jv (d:Nat) (hd:d≤1000) (hz:zD d≤1000000000) (ht:dU d) (m:Mk) (b:Int) (hb:0≤b) (hm:m.In b) (hs:b+cD (d+1)≤1000000000) (h3:¬m.left-1<3) (ey:¬(m.l.length:Int)<m.pos+1) (hq:pick m.l m.pos 20=14) (hu:0<gE .and .i64 m.cU 16) :
  az prog 34 [cy,i64 (d+1:Nat)] [bZ m] fun v s=>v=lq (m.tree (d+1)).1∧s=[bZ (m.tree (d+1)).2]:=by
 have hc:=bT d
 have yP:cD (d+1)=2+4*(cD d+1):=rfl
 have w1:IntKind.i64.wrap (m.left-1)=m.left-1:=bR _ (by have:=hm.l0;have:=hm.l1;omega)
 have w2:IntKind.i64.wrap ((d+1:Nat)-1:Int)=(d:Int):=by rw[bR _ (by omega)];omega
 have eL:¬((d+1:Nat):Int)=0:=by omega
 have dv:0≤m.pos∧m.pos≤1000000000:=⟨hm.p0,by have:=hm.p1;omega⟩
 have hy:(m.less.next 20).2.In (b+2):=by have:=hm.left.next 20;rwa [Wh]at this
 have hyp:0≤(m.less.next 20).2.pos∧(m.less.next 20).2.pos≤1000000000:=by have:=hm.p1;simp only[Mk.next,Mk.less];omega
 have c0:=hm.c0
 have c1:=hm.c1
 refine av func34 rfl ntmps34 results34 rfl 1 499 (by simp) (by simp) ?_
 simp only[zW,simprocAttr,i64,cy,bZ,w1]
 refine au (cb m.less hm.l dv 20 (by omega)) rfl rfl rfl rfl rfl rfl ?_
 simp only[zW,simprocAttr,i64,cy,bZ,w1,Mk.next,Mk.less]
 refine an mix [] [] (by rfl) ?_
 rw[c8 h3 ey]
 have hn:Mk.node (Mk.tree d) (pick m.l m.pos 20) (m.less.next 20).2=(.mk 11 [] [] 0 0 0 (((m.less.next 20).2).next 6).1 false,(((m.less.next 20).2).next 6).2):=by simp [Mk.node,Mk.has,Mk.next,Mk.less,hq,hu]
 rw[hn]
 simp only[zW,simprocAttr,i64,cy,bZ,w1,w2,Mk.next,Mk.less,eL,h3,ey,hq,hu]
 refine au (cb (m.less.next 20).2 hm.l hyp 6 (by omega)) rfl rfl rfl rfl rfl (by first|rfl|exact bE _ _) ?_
 simp only[zW,simprocAttr,i64,cy,bZ,w1,w2,Mk.next,Mk.less,eL,h3,ey,hq,hu]
 all_goals first|exact⟨rfl,rfl⟩|exact⟨rfl,trivial⟩|rfl|trivial|(rw[aw];rfl)
theorem GU (d:Nat) (hd:d≤1000) (hz:zD d≤1000000000) (ht:dU d) (m:Mk) (b:Int) (hb:0≤b) (hm:m.In b) (hs:b+cD (d+1)≤1000000000) (h3:¬m.left-1<3) (ey:¬(m.l.length:Int)<m.pos+1) (hq:pick m.l m.pos 20=14) (hu:¬0<gE .and .i64 m.cU 16) :
  az prog 34 [cy,i64 (d+1:Nat)] [bZ m] fun v s=>v=lq (m.tree (d+1)).1∧s=[bZ (m.tree (d+1)).2]:=by
 have hc:=bT d
 have yP:cD (d+1)=2+4*(cD d+1):=rfl
 have w1:IntKind.i64.wrap (m.left-1)=m.left-1:=bR _ (by have:=hm.l0;have:=hm.l1;omega)
 have w2:IntKind.i64.wrap ((d+1:Nat)-1:Int)=(d:Int):=by rw[bR _ (by omega)];omega
 have eL:¬((d+1:Nat):Int)=0:=by omega
 have dv:0≤m.pos∧m.pos≤1000000000:=⟨hm.p0,by have:=hm.p1;omega⟩
 have hy:(m.less.next 20).2.In (b+2):=by have:=hm.left.next 20;rwa [Wh]at this
 have hyp:0≤(m.less.next 20).2.pos∧(m.less.next 20).2.pos≤1000000000:=by have:=hm.p1;simp only[Mk.next,Mk.less];omega
 have c0:=hm.c0
 have c1:=hm.c1
 refine av func34 rfl ntmps34 results34 rfl 1 499 (by simp) (by simp) ?_
 simp only[zW,simprocAttr,i64,cy,bZ,w1]
 refine au (cb m.less hm.l dv 20 (by omega)) rfl rfl rfl rfl rfl rfl ?_
 simp only[zW,simprocAttr,i64,cy,bZ,w1,Mk.next,Mk.less]
 refine an mix [] [] (by rfl) ?_
 rw[c8 h3 ey]
 have hn:Mk.node (Mk.tree d) (pick m.l m.pos 20) (m.less.next 20).2=(m.less.next 20).2.set:=by simp [Mk.node,Mk.has,Mk.next,Mk.less,hq,hu]
 rw[hn]
 simp only[zW,simprocAttr,i64,cy,bZ,w1,w2,Mk.next,Mk.less,eL,h3,ey,hq,hu]
 refine au (iz (m.less.next 20).2 hm.l hyp) rfl rfl rfl rfl rfl (by first|rfl|exact bE _ _) ?_
 simp only[zW,simprocAttr,i64,cy,bZ,w1,w2,Mk.next,Mk.less,eL,h3,ey,hq,hu]
 all_goals first|exact⟨rfl,rfl⟩|exact⟨rfl,trivial⟩|rfl|trivial|(rw[aw];rfl)
theorem I4 (d:Nat) (hd:d≤1000) (hz:zD d≤1000000000) (ht:dU d) (m:Mk) (b:Int) (hb:0≤b) (hm:m.In b) (hs:b+cD (d+1)≤1000000000) (h3:¬m.left-1<3) (ey:¬(m.l.length:Int)<m.pos+1) (hq:pick m.l m.pos 20=15) (hu:0<gE .and .i64 m.cU 4) :
  az prog 34 [cy,i64 (d+1:Nat)] [bZ m] fun v s=>v=lq (m.tree (d+1)).1∧s=[bZ (m.tree (d+1)).2]:=by
 have hc:=bT d
 have yP:cD (d+1)=2+4*(cD d+1):=rfl
 have w1:IntKind.i64.wrap (m.left-1)=m.left-1:=bR _ (by have:=hm.l0;have:=hm.l1;omega)
 have w2:IntKind.i64.wrap ((d+1:Nat)-1:Int)=(d:Int):=by rw[bR _ (by omega)];omega
 have eL:¬((d+1:Nat):Int)=0:=by omega
 have dv:0≤m.pos∧m.pos≤1000000000:=⟨hm.p0,by have:=hm.p1;omega⟩
 have hy:(m.less.next 20).2.In (b+2):=by have:=hm.left.next 20;rwa [Wh]at this
 have hyp:0≤(m.less.next 20).2.pos∧(m.less.next 20).2.pos≤1000000000:=by have:=hm.p1;simp only[Mk.next,Mk.less];omega
 have c0:=hm.c0
 have c1:=hm.c1
 refine av func34 rfl ntmps34 results34 rfl 1 499 (by simp) (by simp) ?_
 simp only[zW,simprocAttr,i64,cy,bZ,w1]
 refine au (cb m.less hm.l dv 20 (by omega)) rfl rfl rfl rfl rfl rfl ?_
 simp only[zW,simprocAttr,i64,cy,bZ,w1,Mk.next,Mk.less]
 refine an mix [] [] (by rfl) ?_
 rw[c8 h3 ey]
 have EX:=cK m.l (m.pos+1+1) 2 (by omega)
 have w3:IntKind.i64.wrap (7+pick m.l (m.pos+1+1) 2)=7+pick m.l (m.pos+1+1) 2:=bR _ (by omega)
 have hn:Mk.node (Mk.tree d) (pick m.l m.pos 20) (m.less.next 20).2=(.mk (7+(((m.less.next 20).2.next 3).2.next 2).1) [] [(Mk.tree d (((m.less.next 20).2.next 3).2.next 2).2).1] 0 0 0 0 (decide (((m.less.next 20).2.next 3).1=0)),(Mk.tree d (((m.less.next 20).2.next 3).2.next 2).2).2):=by simp [Mk.node,Mk.has,Mk.next,Mk.less,hq,hu,w3]
 rw[hn]
 simp only[zW,simprocAttr,i64,cy,bZ,w1,w2,Mk.next,Mk.less,eL,h3,ey,hq,hu,w3]
 refine au (cb (m.less.next 20).2 hm.l hyp 3 (by omega)) rfl rfl rfl rfl rfl (by first|rfl|exact bE _ _) ?_
 simp only[zW,simprocAttr,i64,cy,bZ,w1,w2,Mk.next,Mk.less,eL,h3,ey,hq,hu,w3]
 refine au (cb ((m.less.next 20).2.next 3).2 hm.l (by have:=hm.p1;simp only[Mk.next,Mk.less];omega) 2 (by omega)) rfl rfl rfl rfl rfl (by first|rfl|exact bE _ _) ?_
 simp only[zW,simprocAttr,i64,cy,bZ,w1,w2,Mk.next,Mk.less,eL,h3,ey,hq,hu,w3]
 refine au (ht (((m.less.next 20).2.next 3).2.next 2).2 (b+4) (by omega) (((hy.next 3).next 2).mono (by omega)) (by omega)) rfl rfl rfl rfl rfl (by first|rfl|exact bE _ _) ?_
 simp only[zW,simprocAttr,i64,cy,bZ,w1,w2,Mk.next,Mk.less,eL,h3,ey,hq,hu,w3]
 all_goals first|exact⟨rfl,rfl⟩|exact⟨rfl,trivial⟩|rfl|trivial|(rw[aw];rfl)
theorem HI (d:Nat) (hd:d≤1000) (hz:zD d≤1000000000) (ht:dU d) (m:Mk) (b:Int) (hb:0≤b) (hm:m.In b) (hs:b+cD (d+1)≤1000000000) (h3:¬m.left-1<3) (ey:¬(m.l.length:Int)<m.pos+1) (hq:pick m.l m.pos 20=15) (hu:¬0<gE .and .i64 m.cU 4) :
  az prog 34 [cy,i64 (d+1:Nat)] [bZ m] fun v s=>v=lq (m.tree (d+1)).1∧s=[bZ (m.tree (d+1)).2]:=by
 have hc:=bT d
 have yP:cD (d+1)=2+4*(cD d+1):=rfl
 have w1:IntKind.i64.wrap (m.left-1)=m.left-1:=bR _ (by have:=hm.l0;have:=hm.l1;omega)
 have w2:IntKind.i64.wrap ((d+1:Nat)-1:Int)=(d:Int):=by rw[bR _ (by omega)];omega
 have eL:¬((d+1:Nat):Int)=0:=by omega
 have dv:0≤m.pos∧m.pos≤1000000000:=⟨hm.p0,by have:=hm.p1;omega⟩
 have hy:(m.less.next 20).2.In (b+2):=by have:=hm.left.next 20;rwa [Wh]at this
 have hyp:0≤(m.less.next 20).2.pos∧(m.less.next 20).2.pos≤1000000000:=by have:=hm.p1;simp only[Mk.next,Mk.less];omega
 have c0:=hm.c0
 have c1:=hm.c1
 refine av func34 rfl ntmps34 results34 rfl 1 499 (by simp) (by simp) ?_
 simp only[zW,simprocAttr,i64,cy,bZ,w1]
 refine au (cb m.less hm.l dv 20 (by omega)) rfl rfl rfl rfl rfl rfl ?_
 simp only[zW,simprocAttr,i64,cy,bZ,w1,Mk.next,Mk.less]
 refine an mix [] [] (by rfl) ?_
 rw[c8 h3 ey]
 have hn:Mk.node (Mk.tree d) (pick m.l m.pos 20) (m.less.next 20).2=(m.less.next 20).2.set:=by simp [Mk.node,Mk.has,Mk.next,Mk.less,hq,hu]
 rw[hn]
 simp only[zW,simprocAttr,i64,cy,bZ,w1,w2,Mk.next,Mk.less,eL,h3,ey,hq,hu]
 refine au (iz (m.less.next 20).2 hm.l hyp) rfl rfl rfl rfl rfl (by first|rfl|exact bE _ _) ?_
 simp only[zW,simprocAttr,i64,cy,bZ,w1,w2,Mk.next,Mk.less,eL,h3,ey,hq,hu]
 all_goals first|exact⟨rfl,rfl⟩|exact⟨rfl,trivial⟩|rfl|trivial|(rw[aw];rfl)
theorem KJ (d:Nat) (hd:d≤1000) (hz:zD d≤1000000000) (ht:dU d) (m:Mk) (b:Int) (hb:0≤b) (hm:m.In b) (hs:b+cD (d+1)≤1000000000) (h3:¬m.left-1<3) (ey:¬(m.l.length:Int)<m.pos+1) (hq:pick m.l m.pos 20=16) (hu:0<gE .and .i64 m.cU 8) :
  az prog 34 [cy,i64 (d+1:Nat)] [bZ m] fun v s=>v=lq (m.tree (d+1)).1∧s=[bZ (m.tree (d+1)).2]:=by
 have hc:=bT d
 have yP:cD (d+1)=2+4*(cD d+1):=rfl
 have w1:IntKind.i64.wrap (m.left-1)=m.left-1:=bR _ (by have:=hm.l0;have:=hm.l1;omega)
 have w2:IntKind.i64.wrap ((d+1:Nat)-1:Int)=(d:Int):=by rw[bR _ (by omega)];omega
 have eL:¬((d+1:Nat):Int)=0:=by omega
 have dv:0≤m.pos∧m.pos≤1000000000:=⟨hm.p0,by have:=hm.p1;omega⟩
 have hy:(m.less.next 20).2.In (b+2):=by have:=hm.left.next 20;rwa [Wh]at this
 have hyp:0≤(m.less.next 20).2.pos∧(m.less.next 20).2.pos≤1000000000:=by have:=hm.p1;simp only[Mk.next,Mk.less];omega
 have c0:=hm.c0
 have c1:=hm.c1
 refine av func34 rfl ntmps34 results34 rfl 1 499 (by simp) (by simp) ?_
 simp only[zW,simprocAttr,i64,cy,bZ,w1]
 refine au (cb m.less hm.l dv 20 (by omega)) rfl rfl rfl rfl rfl rfl ?_
 simp only[zW,simprocAttr,i64,cy,bZ,w1,Mk.next,Mk.less]
 refine an mix [] [] (by rfl) ?_
 rw[c8 h3 ey]
 have hn:Mk.node (Mk.tree d) (pick m.l m.pos 20) (m.less.next 20).2=(Re.node 9 [(Mk.tree d (m.less.next 20).2).1],(Mk.tree d (m.less.next 20).2).2):=by simp [Mk.node,Mk.has,Mk.next,Mk.less,hq,hu]
 rw[hn]
 simp only[zW,simprocAttr,i64,cy,bZ,w1,w2,Mk.next,Mk.less,eL,h3,ey,hq,hu]
 refine au (ht (m.less.next 20).2 (b+2) (by omega) hy (by omega)) rfl rfl rfl rfl rfl (by first|rfl|exact bE _ _) ?_
 simp only[zW,simprocAttr,i64,cy,bZ,w1,w2,Mk.next,Mk.less,eL,h3,ey,hq,hu]
 all_goals first|exact⟨rfl,rfl⟩|exact⟨rfl,trivial⟩|rfl|trivial|(rw[aw];rfl)
theorem HW (d:Nat) (hd:d≤1000) (hz:zD d≤1000000000) (ht:dU d) (m:Mk) (b:Int) (hb:0≤b) (hm:m.In b) (hs:b+cD (d+1)≤1000000000) (h3:¬m.left-1<3) (ey:¬(m.l.length:Int)<m.pos+1) (hq:pick m.l m.pos 20=16) (hu:¬0<gE .and .i64 m.cU 8) :
  az prog 34 [cy,i64 (d+1:Nat)] [bZ m] fun v s=>v=lq (m.tree (d+1)).1∧s=[bZ (m.tree (d+1)).2]:=by
 have hc:=bT d
 have yP:cD (d+1)=2+4*(cD d+1):=rfl
 have w1:IntKind.i64.wrap (m.left-1)=m.left-1:=bR _ (by have:=hm.l0;have:=hm.l1;omega)
 have w2:IntKind.i64.wrap ((d+1:Nat)-1:Int)=(d:Int):=by rw[bR _ (by omega)];omega
 have eL:¬((d+1:Nat):Int)=0:=by omega
 have dv:0≤m.pos∧m.pos≤1000000000:=⟨hm.p0,by have:=hm.p1;omega⟩
 have hy:(m.less.next 20).2.In (b+2):=by have:=hm.left.next 20;rwa [Wh]at this
 have hyp:0≤(m.less.next 20).2.pos∧(m.less.next 20).2.pos≤1000000000:=by have:=hm.p1;simp only[Mk.next,Mk.less];omega
 have c0:=hm.c0
 have c1:=hm.c1
 refine av func34 rfl ntmps34 results34 rfl 1 499 (by simp) (by simp) ?_
 simp only[zW,simprocAttr,i64,cy,bZ,w1]
 refine au (cb m.less hm.l dv 20 (by omega)) rfl rfl rfl rfl rfl rfl ?_
 simp only[zW,simprocAttr,i64,cy,bZ,w1,Mk.next,Mk.less]
 refine an mix [] [] (by rfl) ?_
 rw[c8 h3 ey]
 have hn:Mk.node (Mk.tree d) (pick m.l m.pos 20) (m.less.next 20).2=(m.less.next 20).2.set:=by simp [Mk.node,Mk.has,Mk.next,Mk.less,hq,hu]
 rw[hn]
 simp only[zW,simprocAttr,i64,cy,bZ,w1,w2,Mk.next,Mk.less,eL,h3,ey,hq,hu]
 refine au (iz (m.less.next 20).2 hm.l hyp) rfl rfl rfl rfl rfl (by first|rfl|exact bE _ _) ?_
 simp only[zW,simprocAttr,i64,cy,bZ,w1,w2,Mk.next,Mk.less,eL,h3,ey,hq,hu]
 all_goals first|exact⟨rfl,rfl⟩|exact⟨rfl,trivial⟩|rfl|trivial|(rw[aw];rfl)
theorem IS (d:Nat) (hd:d≤1000) (hz:zD d≤1000000000) (ht:dU d) (m:Mk) (b:Int) (hb:0≤b) (hm:m.In b) (hs:b+cD (d+1)≤1000000000) (h3:¬m.left-1<3) (ey:¬(m.l.length:Int)<m.pos+1) (hq:pick m.l m.pos 20=17) (hu:0<gE .and .i64 m.cU 1) (sa:0<m.ai) :
  az prog 34 [cy,i64 (d+1:Nat)] [bZ m] fun v s=>v=lq (m.tree (d+1)).1∧s=[bZ (m.tree (d+1)).2]:=by
 have hc:=bT d
 have yP:cD (d+1)=2+4*(cD d+1):=rfl
 have w1:IntKind.i64.wrap (m.left-1)=m.left-1:=bR _ (by have:=hm.l0;have:=hm.l1;omega)
 have w2:IntKind.i64.wrap ((d+1:Nat)-1:Int)=(d:Int):=by rw[bR _ (by omega)];omega
 have eL:¬((d+1:Nat):Int)=0:=by omega
 have dv:0≤m.pos∧m.pos≤1000000000:=⟨hm.p0,by have:=hm.p1;omega⟩
 have hy:(m.less.next 20).2.In (b+2):=by have:=hm.left.next 20;rwa [Wh]at this
 have hyp:0≤(m.less.next 20).2.pos∧(m.less.next 20).2.pos≤1000000000:=by have:=hm.p1;simp only[Mk.next,Mk.less];omega
 have c0:=hm.c0
 have c1:=hm.c1
 refine av func34 rfl ntmps34 results34 rfl 1 499 (by simp) (by simp) ?_
 simp only[zW,simprocAttr,i64,cy,bZ,w1]
 refine au (cb m.less hm.l dv 20 (by omega)) rfl rfl rfl rfl rfl rfl ?_
 simp only[zW,simprocAttr,i64,cy,bZ,w1,Mk.next,Mk.less]
 refine an mix [] [] (by rfl) ?_
 rw[c8 h3 ey]
 have EX:=cK m.l (m.pos+1) m.ai (by omega)
 have w3:IntKind.i64.wrap (1+pick m.l (m.pos+1) m.ai)=1+pick m.l (m.pos+1) m.ai:=bR _ (by omega)
 have hn:Mk.node (Mk.tree d) (pick m.l m.pos 20) (m.less.next 20).2=(.mk 6 [] [] 0 0 0 (1+((m.less.next 20).2.next m.ai).1) false,((m.less.next 20).2.next m.ai).2):=by simp [Mk.node,Mk.has,Mk.next,Mk.less,hq,hu,sa,w3]
 rw[hn]
 simp only[zW,simprocAttr,i64,cy,bZ,w1,w2,Mk.next,Mk.less,eL,h3,ey,hq,hu,sa,w3]
 refine au (cb (m.less.next 20).2 hm.l hyp m.ai (by omega)) rfl rfl rfl rfl rfl (by first|rfl|exact bE _ _) ?_
 simp only[zW,simprocAttr,i64,cy,bZ,w1,w2,Mk.next,Mk.less,eL,h3,ey,hq,hu,sa,w3]
 all_goals first|exact⟨rfl,rfl⟩|exact⟨rfl,trivial⟩|rfl|trivial|(rw[aw];rfl)
theorem G7 (d:Nat) (hd:d≤1000) (hz:zD d≤1000000000) (ht:dU d) (m:Mk) (b:Int) (hb:0≤b) (hm:m.In b) (hs:b+cD (d+1)≤1000000000) (h3:¬m.left-1<3) (ey:¬(m.l.length:Int)<m.pos+1) (hq:pick m.l m.pos 20=17) (hu:0<gE .and .i64 m.cU 1) (sa:¬0<m.ai) :
  az prog 34 [cy,i64 (d+1:Nat)] [bZ m] fun v s=>v=lq (m.tree (d+1)).1∧s=[bZ (m.tree (d+1)).2]:=by
 have hc:=bT d
 have yP:cD (d+1)=2+4*(cD d+1):=rfl
 have w1:IntKind.i64.wrap (m.left-1)=m.left-1:=bR _ (by have:=hm.l0;have:=hm.l1;omega)
 have w2:IntKind.i64.wrap ((d+1:Nat)-1:Int)=(d:Int):=by rw[bR _ (by omega)];omega
 have eL:¬((d+1:Nat):Int)=0:=by omega
 have dv:0≤m.pos∧m.pos≤1000000000:=⟨hm.p0,by have:=hm.p1;omega⟩
 have hy:(m.less.next 20).2.In (b+2):=by have:=hm.left.next 20;rwa [Wh]at this
 have hyp:0≤(m.less.next 20).2.pos∧(m.less.next 20).2.pos≤1000000000:=by have:=hm.p1;simp only[Mk.next,Mk.less];omega
 have c0:=hm.c0
 have c1:=hm.c1
 refine av func34 rfl ntmps34 results34 rfl 1 499 (by simp) (by simp) ?_
 simp only[zW,simprocAttr,i64,cy,bZ,w1]
 refine au (cb m.less hm.l dv 20 (by omega)) rfl rfl rfl rfl rfl rfl ?_
 simp only[zW,simprocAttr,i64,cy,bZ,w1,Mk.next,Mk.less]
 refine an mix [] [] (by rfl) ?_
 rw[c8 h3 ey]
 have hn:Mk.node (Mk.tree d) (pick m.l m.pos 20) (m.less.next 20).2=(m.less.next 20).2.set:=by simp [Mk.node,Mk.has,Mk.next,Mk.less,hq,hu,sa]
 rw[hn]
 simp only[zW,simprocAttr,i64,cy,bZ,w1,w2,Mk.next,Mk.less,eL,h3,ey,hq,hu,sa]
 refine au (iz (m.less.next 20).2 hm.l hyp) rfl rfl rfl rfl rfl (by first|rfl|exact bE _ _) ?_
 simp only[zW,simprocAttr,i64,cy,bZ,w1,w2,Mk.next,Mk.less,eL,h3,ey,hq,hu,sa]
 all_goals first|exact⟨rfl,rfl⟩|exact⟨rfl,trivial⟩|rfl|trivial|(rw[aw];rfl)
theorem HO (d:Nat) (hd:d≤1000) (hz:zD d≤1000000000) (ht:dU d) (m:Mk) (b:Int) (hb:0≤b) (hm:m.In b) (hs:b+cD (d+1)≤1000000000) (h3:¬m.left-1<3) (ey:¬(m.l.length:Int)<m.pos+1) (hq:pick m.l m.pos 20=17) (hu:¬0<gE .and .i64 m.cU 1) :
  az prog 34 [cy,i64 (d+1:Nat)] [bZ m] fun v s=>v=lq (m.tree (d+1)).1∧s=[bZ (m.tree (d+1)).2]:=by
 have hc:=bT d
 have yP:cD (d+1)=2+4*(cD d+1):=rfl
 have w1:IntKind.i64.wrap (m.left-1)=m.left-1:=bR _ (by have:=hm.l0;have:=hm.l1;omega)
 have w2:IntKind.i64.wrap ((d+1:Nat)-1:Int)=(d:Int):=by rw[bR _ (by omega)];omega
 have eL:¬((d+1:Nat):Int)=0:=by omega
 have dv:0≤m.pos∧m.pos≤1000000000:=⟨hm.p0,by have:=hm.p1;omega⟩
 have hy:(m.less.next 20).2.In (b+2):=by have:=hm.left.next 20;rwa [Wh]at this
 have hyp:0≤(m.less.next 20).2.pos∧(m.less.next 20).2.pos≤1000000000:=by have:=hm.p1;simp only[Mk.next,Mk.less];omega
 have c0:=hm.c0
 have c1:=hm.c1
 refine av func34 rfl ntmps34 results34 rfl 1 499 (by simp) (by simp) ?_
 simp only[zW,simprocAttr,i64,cy,bZ,w1]
 refine au (cb m.less hm.l dv 20 (by omega)) rfl rfl rfl rfl rfl rfl ?_
 simp only[zW,simprocAttr,i64,cy,bZ,w1,Mk.next,Mk.less]
 refine an mix [] [] (by rfl) ?_
 rw[c8 h3 ey]
 have hn:Mk.node (Mk.tree d) (pick m.l m.pos 20) (m.less.next 20).2=(m.less.next 20).2.set:=by simp [Mk.node,Mk.has,Mk.next,Mk.less,hq,hu]
 rw[hn]
 simp only[zW,simprocAttr,i64,cy,bZ,w1,w2,Mk.next,Mk.less,eL,h3,ey,hq,hu]
 refine au (iz (m.less.next 20).2 hm.l hyp) rfl rfl rfl rfl rfl (by first|rfl|exact bE _ _) ?_
 simp only[zW,simprocAttr,i64,cy,bZ,w1,w2,Mk.next,Mk.less,eL,h3,ey,hq,hu]
 all_goals first|exact⟨rfl,rfl⟩|exact⟨rfl,trivial⟩|rfl|trivial|(rw[aw];rfl)
theorem Jp (d:Nat) (hd:d≤1000) (hz:zD d≤1000000000) (ht:dU d) (m:Mk) (b:Int) (hb:0≤b) (hm:m.In b) (hs:b+cD (d+1)≤1000000000) (h3:¬m.left-1<3) (ey:¬(m.l.length:Int)<m.pos+1) (hq:pick m.l m.pos 20=18) (hu:0<gE .and .i64 m.cU 2) (sa:0<m.ai) :
  az prog 34 [cy,i64 (d+1:Nat)] [bZ m] fun v s=>v=lq (m.tree (d+1)).1∧s=[bZ (m.tree (d+1)).2]:=by
 have hc:=bT d
 have yP:cD (d+1)=2+4*(cD d+1):=rfl
 have w1:IntKind.i64.wrap (m.left-1)=m.left-1:=bR _ (by have:=hm.l0;have:=hm.l1;omega)
 have w2:IntKind.i64.wrap ((d+1:Nat)-1:Int)=(d:Int):=by rw[bR _ (by omega)];omega
 have eL:¬((d+1:Nat):Int)=0:=by omega
 have dv:0≤m.pos∧m.pos≤1000000000:=⟨hm.p0,by have:=hm.p1;omega⟩
 have hy:(m.less.next 20).2.In (b+2):=by have:=hm.left.next 20;rwa [Wh]at this
 have hyp:0≤(m.less.next 20).2.pos∧(m.less.next 20).2.pos≤1000000000:=by have:=hm.p1;simp only[Mk.next,Mk.less];omega
 have c0:=hm.c0
 have c1:=hm.c1
 refine av func34 rfl ntmps34 results34 rfl 1 499 (by simp) (by simp) ?_
 simp only[zW,simprocAttr,i64,cy,bZ,w1]
 refine au (cb m.less hm.l dv 20 (by omega)) rfl rfl rfl rfl rfl rfl ?_
 simp only[zW,simprocAttr,i64,cy,bZ,w1,Mk.next,Mk.less]
 refine an mix [] [] (by rfl) ?_
 rw[c8 h3 ey]
 have EX:=cK m.l (m.pos+1) m.ai (by omega)
 have w3:IntKind.i64.wrap (1+pick m.l (m.pos+1) m.ai)=1+pick m.l (m.pos+1) m.ai:=bR _ (by omega)
 obtain⟨g1,g2⟩:=iq d ((m.less.next 20).2.next m.ai).2 (b+3) (by omega) ((hy.next m.ai).mono (by omega))
 have hn:Mk.node (Mk.tree d) (pick m.l m.pos 20) (m.less.next 20).2=(.mk 10 [] [(Mk.tree d ((m.less.next 20).2.next m.ai).2).1,(Mk.tree d (Mk.tree d ((m.less.next 20).2.next m.ai).2).2).1] 0 0 0 (1+((m.less.next 20).2.next m.ai).1) false,(Mk.tree d (Mk.tree d ((m.less.next 20).2.next m.ai).2).2).2):=by simp [Mk.node,Mk.has,Mk.next,Mk.less,hq,hu,sa,w3]
 rw[hn]
 simp only[zW,simprocAttr,i64,cy,bZ,w1,w2,Mk.next,Mk.less,eL,h3,ey,hq,hu,sa,w3]
 refine au (cb (m.less.next 20).2 hm.l hyp m.ai (by omega)) rfl rfl rfl rfl rfl (by first|rfl|exact bE _ _) ?_
 simp only[zW,simprocAttr,i64,cy,bZ,w1,w2,Mk.next,Mk.less,eL,h3,ey,hq,hu,sa,w3]
 refine au (ht ((m.less.next 20).2.next m.ai).2 (b+3) (by omega) ((hy.next m.ai).mono (by omega)) (by omega)) rfl rfl rfl rfl rfl (by first|rfl|exact bE _ _) ?_
 simp only[zW,simprocAttr,i64,cy,bZ,w1,w2,Mk.next,Mk.less,eL,h3,ey,hq,hu,sa,w3]
 refine an mix [8] [(1,[2],[]),(5,[0],[0])] (by rfl) ?_
 simp only[zW,simprocAttr,i64,cy,bZ,w1,w2,Mk.next,Mk.less,eL,h3,ey,hq,hu,sa,w3]
 refine y8 (ht (Mk.tree d ((m.less.next 20).2.next m.ai).2).2 (b+3+cD d) (by omega) g1 (by omega)) rfl rfl rfl rfl rfl (bE _ _) ?_
 simp only[zW,simprocAttr,i64,cy,bZ,w1,w2,Mk.next,Mk.less,eL,h3,ey,hq,hu,sa,w3]
 all_goals first|exact⟨rfl,rfl⟩|exact⟨rfl,trivial⟩|rfl|trivial|(rw[aw];rfl)
theorem Hl (d:Nat) (hd:d≤1000) (hz:zD d≤1000000000) (ht:dU d) (m:Mk) (b:Int) (hb:0≤b) (hm:m.In b) (hs:b+cD (d+1)≤1000000000) (h3:¬m.left-1<3) (ey:¬(m.l.length:Int)<m.pos+1) (hq:pick m.l m.pos 20=18) (hu:0<gE .and .i64 m.cU 2) (sa:¬0<m.ai) :
  az prog 34 [cy,i64 (d+1:Nat)] [bZ m] fun v s=>v=lq (m.tree (d+1)).1∧s=[bZ (m.tree (d+1)).2]:=by
 have hc:=bT d
 have yP:cD (d+1)=2+4*(cD d+1):=rfl
 have w1:IntKind.i64.wrap (m.left-1)=m.left-1:=bR _ (by have:=hm.l0;have:=hm.l1;omega)
 have w2:IntKind.i64.wrap ((d+1:Nat)-1:Int)=(d:Int):=by rw[bR _ (by omega)];omega
 have eL:¬((d+1:Nat):Int)=0:=by omega
 have dv:0≤m.pos∧m.pos≤1000000000:=⟨hm.p0,by have:=hm.p1;omega⟩
 have hy:(m.less.next 20).2.In (b+2):=by have:=hm.left.next 20;rwa [Wh]at this
 have hyp:0≤(m.less.next 20).2.pos∧(m.less.next 20).2.pos≤1000000000:=by have:=hm.p1;simp only[Mk.next,Mk.less];omega
 have c0:=hm.c0
 have c1:=hm.c1
 refine av func34 rfl ntmps34 results34 rfl 1 499 (by simp) (by simp) ?_
 simp only[zW,simprocAttr,i64,cy,bZ,w1]
 refine au (cb m.less hm.l dv 20 (by omega)) rfl rfl rfl rfl rfl rfl ?_
 simp only[zW,simprocAttr,i64,cy,bZ,w1,Mk.next,Mk.less]
 refine an mix [] [] (by rfl) ?_
 rw[c8 h3 ey]
 have hn:Mk.node (Mk.tree d) (pick m.l m.pos 20) (m.less.next 20).2=(m.less.next 20).2.set:=by simp [Mk.node,Mk.has,Mk.next,Mk.less,hq,hu,sa]
 rw[hn]
 simp only[zW,simprocAttr,i64,cy,bZ,w1,w2,Mk.next,Mk.less,eL,h3,ey,hq,hu,sa]
 refine au (iz (m.less.next 20).2 hm.l hyp) rfl rfl rfl rfl rfl (by first|rfl|exact bE _ _) ?_
 simp only[zW,simprocAttr,i64,cy,bZ,w1,w2,Mk.next,Mk.less,eL,h3,ey,hq,hu,sa]
 all_goals first|exact⟨rfl,rfl⟩|exact⟨rfl,trivial⟩|rfl|trivial|(rw[aw];rfl)
theorem HV (d:Nat) (hd:d≤1000) (hz:zD d≤1000000000) (ht:dU d) (m:Mk) (b:Int) (hb:0≤b) (hm:m.In b) (hs:b+cD (d+1)≤1000000000) (h3:¬m.left-1<3) (ey:¬(m.l.length:Int)<m.pos+1) (hq:pick m.l m.pos 20=18) (hu:¬0<gE .and .i64 m.cU 2) :
  az prog 34 [cy,i64 (d+1:Nat)] [bZ m] fun v s=>v=lq (m.tree (d+1)).1∧s=[bZ (m.tree (d+1)).2]:=by
 have hc:=bT d
 have yP:cD (d+1)=2+4*(cD d+1):=rfl
 have w1:IntKind.i64.wrap (m.left-1)=m.left-1:=bR _ (by have:=hm.l0;have:=hm.l1;omega)
 have w2:IntKind.i64.wrap ((d+1:Nat)-1:Int)=(d:Int):=by rw[bR _ (by omega)];omega
 have eL:¬((d+1:Nat):Int)=0:=by omega
 have dv:0≤m.pos∧m.pos≤1000000000:=⟨hm.p0,by have:=hm.p1;omega⟩
 have hy:(m.less.next 20).2.In (b+2):=by have:=hm.left.next 20;rwa [Wh]at this
 have hyp:0≤(m.less.next 20).2.pos∧(m.less.next 20).2.pos≤1000000000:=by have:=hm.p1;simp only[Mk.next,Mk.less];omega
 have c0:=hm.c0
 have c1:=hm.c1
 refine av func34 rfl ntmps34 results34 rfl 1 499 (by simp) (by simp) ?_
 simp only[zW,simprocAttr,i64,cy,bZ,w1]
 refine au (cb m.less hm.l dv 20 (by omega)) rfl rfl rfl rfl rfl rfl ?_
 simp only[zW,simprocAttr,i64,cy,bZ,w1,Mk.next,Mk.less]
 refine an mix [] [] (by rfl) ?_
 rw[c8 h3 ey]
 have hn:Mk.node (Mk.tree d) (pick m.l m.pos 20) (m.less.next 20).2=(m.less.next 20).2.set:=by simp [Mk.node,Mk.has,Mk.next,Mk.less,hq,hu]
 rw[hn]
 simp only[zW,simprocAttr,i64,cy,bZ,w1,w2,Mk.next,Mk.less,eL,h3,ey,hq,hu]
 refine au (iz (m.less.next 20).2 hm.l hyp) rfl rfl rfl rfl rfl (by first|rfl|exact bE _ _) ?_
 simp only[zW,simprocAttr,i64,cy,bZ,w1,w2,Mk.next,Mk.less,eL,h3,ey,hq,hu]
 all_goals first|exact⟨rfl,rfl⟩|exact⟨rfl,trivial⟩|rfl|trivial|(rw[aw];rfl)
theorem Kz (d:Nat) (hd:d≤1000) (hz:zD d≤1000000000) (ht:dU d) (m:Mk) (b:Int) (hb:0≤b) (hm:m.In b) (hs:b+cD (d+1)≤1000000000) (h3:¬m.left-1<3) (ey:¬(m.l.length:Int)<m.pos+1) (hq:pick m.l m.pos 20=19) :
  az prog 34 [cy,i64 (d+1:Nat)] [bZ m] fun v s=>v=lq (m.tree (d+1)).1∧s=[bZ (m.tree (d+1)).2]:=by
 have hc:=bT d
 have yP:cD (d+1)=2+4*(cD d+1):=rfl
 have w1:IntKind.i64.wrap (m.left-1)=m.left-1:=bR _ (by have:=hm.l0;have:=hm.l1;omega)
 have w2:IntKind.i64.wrap ((d+1:Nat)-1:Int)=(d:Int):=by rw[bR _ (by omega)];omega
 have eL:¬((d+1:Nat):Int)=0:=by omega
 have dv:0≤m.pos∧m.pos≤1000000000:=⟨hm.p0,by have:=hm.p1;omega⟩
 have hy:(m.less.next 20).2.In (b+2):=by have:=hm.left.next 20;rwa [Wh]at this
 have hyp:0≤(m.less.next 20).2.pos∧(m.less.next 20).2.pos≤1000000000:=by have:=hm.p1;simp only[Mk.next,Mk.less];omega
 have c0:=hm.c0
 have c1:=hm.c1
 refine av func34 rfl ntmps34 results34 rfl 1 499 (by simp) (by simp) ?_
 simp only[zW,simprocAttr,i64,cy,bZ,w1]
 refine au (cb m.less hm.l dv 20 (by omega)) rfl rfl rfl rfl rfl rfl ?_
 simp only[zW,simprocAttr,i64,cy,bZ,w1,Mk.next,Mk.less]
 refine an mix [] [] (by rfl) ?_
 rw[c8 h3 ey]
 have hn:Mk.node (Mk.tree d) (pick m.l m.pos 20) (m.less.next 20).2=(m.less.next 20).2.set:=by simp [Mk.node,Mk.has,Mk.next,Mk.less,hq]
 rw[hn]
 simp only[zW,simprocAttr,i64,cy,bZ,w1,w2,Mk.next,Mk.less,eL,h3,ey,hq]
 refine au (iz (m.less.next 20).2 hm.l hyp) rfl rfl rfl rfl rfl (by first|rfl|exact bE _ _) ?_
 simp only[zW,simprocAttr,i64,cy,bZ,w1,w2,Mk.next,Mk.less,eL,h3,ey,hq]
 all_goals first|exact⟨rfl,rfl⟩|exact⟨rfl,trivial⟩|rfl|trivial|(rw[aw];rfl)
theorem Hj (d:Nat) (hd:d≤1000) (hz:zD d≤1000000000) (ht:dU d):dU (d+1):=by
 intro m b hb hm hs
 have hk:=cK m.l m.pos 20 (by omega)
 by_cases h3:m.left-1<3
 ·exact EU d hd hz ht m b hb hm hs h3
 by_cases ey:(m.l.length:Int)<m.pos+1
 ·exact FB d hd hz ht m b hb hm hs h3 ey
 by_cases h5:pick m.l m.pos 20<5
 ·exact I6 d hd hz ht m b hb hm hs h3 ey h5
 by_cases h8:pick m.l m.pos 20<8
 ·exact KU d hd hz ht m b hb hm hs h3 ey h5 h8
 by_cases bW:pick m.l m.pos 20<12
 ·exact I0 d hd hz ht m b hb hm hs h3 ey h5 h8 bW
 have dG:pick m.l m.pos 20=12∨pick m.l m.pos 20=13∨pick m.l m.pos 20=14∨pick m.l m.pos 20=15∨pick m.l m.pos 20=16∨pick m.l m.pos 20=17∨pick m.l m.pos 20=18∨pick m.l m.pos 20=19:=by omega
 rcases dG with hq|hq|hq|hq|hq|hq|hq|hq
 ·by_cases hu:0<gE .and .i64 m.cU 64
  ·exact JC d hd hz ht m b hb hm hs h3 ey hq hu
  ·exact Ip d hd hz ht m b hb hm hs h3 ey hq hu
 ·by_cases hu:0<gE .and .i64 m.cU 64
  ·exact Kx d hd hz ht m b hb hm hs h3 ey hq hu
  ·exact Ib d hd hz ht m b hb hm hs h3 ey hq hu
 ·by_cases hu:0<gE .and .i64 m.cU 16
  ·exact Jv d hd hz ht m b hb hm hs h3 ey hq hu
  ·exact GU d hd hz ht m b hb hm hs h3 ey hq hu
 ·by_cases hu:0<gE .and .i64 m.cU 4
  ·exact I4 d hd hz ht m b hb hm hs h3 ey hq hu
  ·exact HI d hd hz ht m b hb hm hs h3 ey hq hu
 ·by_cases hu:0<gE .and .i64 m.cU 8
  ·exact KJ d hd hz ht m b hb hm hs h3 ey hq hu
  ·exact HW d hd hz ht m b hb hm hs h3 ey hq hu
 ·by_cases hu:0<gE .and .i64 m.cU 1
  ·by_cases sa:0<m.ai
   ·exact IS d hd hz ht m b hb hm hs h3 ey hq hu sa
   ·exact G7 d hd hz ht m b hb hm hs h3 ey hq hu sa
  ·exact HO d hd hz ht m b hb hm hs h3 ey hq hu
 ·by_cases hu:0<gE .and .i64 m.cU 2
  ·by_cases sa:0<m.ai
   ·exact Jp d hd hz ht m b hb hm hs h3 ey hq hu sa
   ·exact Hl d hd hz ht m b hb hm hs h3 ey hq hu sa
  ·exact HV d hd hz ht m b hb hm hs h3 ey hq hu
 ·exact Kz d hd hz ht m b hb hm hs h3 ey hq
theorem GF:∀d,d≤1000→zD d≤1000000000→dU d
 |0,_,_=>G1
 |d+1,hd,hz=>Hj d (by omega) (by have:=tW d;simp only[zD]at hz;omega) (GF d (by omega) (by have:=tW d;simp only[zD]at hz;omega))
structure ic where
 re:Re
 ai:Int
 bG:Bool
def eb (p:ic):V:=.ag (p.re.cells.map .d++[i64 p.ai,bV p.bG])
def mM (l:List Int) (cU ah:Int):ic :=
 let x:=Mk.tree 5 ⟨l,0,cU,ah,0⟩
 ⟨x.1,x.2.ai,false⟩
theorem IF (ρ:List Nat) (m:Mk):ct ρ (bZ m)=bZ m:=rfl
theorem wG (re:Re) (l:List V):(re.cells.map V.d++l).take 8=re.cells.map V.d:=List.take_left' (by simp [Re.gF])
theorem xV (re:Re) (l:List V) (n:Nat):(re.cells.map V.d++l).drop (n+8)=l.drop n:=by
 rw[Nat.add_comm,← List.drop_drop,List.drop_left' (by simp [Re.gF])]
theorem ES (l:List Int) (cU ah:Int) (hl:∀x∈l,iV x) (h0:0≤ah) (h1:ah≤1000000):bI prog 7 [.d (ay l),i64 cU,i64 ah] (eb (mM l cU ah)):=by
 refine av func7 rfl ntmps7 results7 rfl 0 455 (by simp) (by simp) ?_
 simp only[zW,simprocAttr,i64]
 refine tl 1 (GF 5 (by omega) (by decide) ⟨l,0,cU,ah,0⟩ 0 (by omega) ⟨hl,by simp,by simp,by simpa using h0,h1,by simp,by simp⟩ (by decide)) rfl rfl rfl rfl (bE _ _) ?_
 rw[IF]
 have hR:mM l cU ah=⟨(Mk.tree 5 ⟨l,0,cU,ah,0⟩).1,(Mk.tree 5 ⟨l,0,cU,ah,0⟩).2.ai,false⟩:=rfl
 rw[hR]
 generalize Mk.tree 5 ⟨l,0,cU,ah,0⟩=R
 simp only[zW,simprocAttr,i64]
 refine an mix [6] [] (by rfl) ?_
 simp only[zW,simprocAttr,i64,bZ,wG,xV,VN]
 simp only[zW,simprocAttr,Re.ae,eb,bV,i64]
end Go.Proofs.Ytllagoeijcjpiaa
