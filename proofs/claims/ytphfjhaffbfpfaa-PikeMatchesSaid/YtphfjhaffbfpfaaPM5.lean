/- A part of the proof (F11 F12). -/
import Derived.Test.YtphfjhaffbfpfaaPM4
set_option linter.all false
set_option maxRecDepth 100000
set_option maxHeartbeats 80000000
namespace Go.Proofs.Ytphfjhaffbfpfaa
open Go.VL Go.Proofs.Try
theorem Mt:dV 0:=by
 intro m b hb hm hs;have hc:cD 0=3:=rfl;have w1:IntKind.i64.wrap (m.left-1)=m.left-1:=bM _ (by have:=hm.l0;have:=hm.l1;omega);have dx:0<=m.pos/\m.pos<=1000000000:=⟨hm.p0,by have:=hm.p1;omega⟩
 have hk:=ct m.l m.pos 20 (by omega);refine ar func49 rfl ntmps49 results49 rfl 1 499 (by simp) (by simp) ?_;simp only[zW,simprocAttr,i64,cG,cb,w1];refine aP (cj m.less hm.l dx 20 (by omega)) rfl rfl rfl rfl rfl rfl ?_;simp only[zW,simprocAttr,i64,cG,cb,w1,Mk.next,Mk.less];refine ao mix [] [] (by rfl) ?_;by_cases h0:pick m.l m.pos 20=0
 ·simp only[zW,simprocAttr,i64,cG,cb,w1,Mk.next,h0,adK];rw[show Mk.tree 0 m=(Re.node 0 [],(m.less.next 20).2) by simp [Mk.tree,Mk.next,Mk.less,h0]];all_goals first|exact⟨rfl,rfl⟩|exact⟨rfl,trivial⟩|rfl|trivial|(rw[aq];rfl)
 ·simp only[zW,simprocAttr,i64,cG,cb,w1,Mk.next,h0,adK];refine aP (iU (m.less.next 20).2 hm.l (by have:=hm.p1;simp only[Mk.next,Mk.less];omega)) rfl rfl rfl rfl rfl (bG _ _) ?_;simp only[zW,simprocAttr,i64,cG,cb,w1,Mk.next,h0,adK];rw[show Mk.tree 0 m=(m.less.next 20).2.set by simp [Mk.tree,Mk.next,Mk.less,h0]];all_goals first|exact⟨rfl,rfl⟩|exact⟨rfl,trivial⟩|rfl|trivial|(rw[aq];rfl)
theorem df {d:Nat}{m:Mk} (h3:¬m.left-1<3) (hp:¬(m.l.length:Int)<m.pos+1):Mk.tree (d+1) m=Mk.node (Mk.tree d) (pick m.l m.pos 20) (m.less.next 20).2:=by simp [Mk.tree,Mk.next,Mk.less,h3,hp]
theorem IC (d:Nat) (hd:d<=1000) (hz:zD d<=1000000000) (ht:dV d) (m:Mk) (b:Int) (hb:0<=b) (hm:m.In b) (hs:b+cD (d+1)<=1000000000) (h3:m.left-1<3) :
  au prog 49 [cG,i64 (d+1:Nat)] [cb m] λv s=>v=lQ (m.tree (d+1)).1/\s=[cb (m.tree (d+1)).2]:=by
 have hc:=bX d;have Bn:cD (d+1)=2+4*(cD d+1):=rfl;have w1:IntKind.i64.wrap (m.left-1)=m.left-1:=bM _ (by have:=hm.l0;have:=hm.l1;omega);have w2:IntKind.i64.wrap ((d+1:Nat)-1:Int)=(d:Int):=by rw[bM _ (by omega)];omega
 have eR:¬((d+1:Nat):Int)=0:=by omega
 have dx:0<=m.pos/\m.pos<=1000000000:=⟨hm.p0,by have:=hm.p1;omega⟩
 have hy:(m.less.next 20).2.In (b+2):=by have:=hm.left.next 20;rwa [Int.add_assoc]at this
 have hyp:0<=(m.less.next 20).2.pos/\(m.less.next 20).2.pos<=1000000000:=by have:=hm.p1;simp only[Mk.next,Mk.less];omega
 have c0:=hm.c0;have c1:=hm.c1;refine ar func49 rfl ntmps49 results49 rfl 1 499 (by simp) (by simp) ?_;simp only[zW,simprocAttr,i64,cG,cb,w1];refine aP (cj m.less hm.l dx 20 (by omega)) rfl rfl rfl rfl rfl rfl ?_;simp only[zW,simprocAttr,i64,cG,cb,w1,Mk.next,Mk.less];refine ao mix [] [] (by rfl) ?_;have hT:Mk.tree (d+1) m=if pick m.l m.pos 20=0 then (Re.node 0 [],(m.less.next 20).2) else (m.less.next 20).2.set:=ap (.inl h3)
 rw[hT];by_cases h0:pick m.l m.pos 20=0
 ·simp only[zW,simprocAttr,i64,cG,cb,w1,Mk.next,eR,h3,h0];all_goals first|exact⟨rfl,rfl⟩|exact⟨rfl,trivial⟩|rfl|trivial|(rw[aq];rfl)
 ·simp only[zW,simprocAttr,i64,cG,cb,w1,Mk.next,eR,h3,h0];refine aP (iU (m.less.next 20).2 hm.l hyp) rfl rfl rfl rfl rfl (bG _ _) ?_;simp only[zW,simprocAttr,i64,cG,cb,w1,Mk.next,eR,h3,h0];all_goals first|exact⟨rfl,rfl⟩|exact⟨rfl,trivial⟩|rfl|trivial|(rw[aq];rfl)
theorem HV (d:Nat) (hd:d<=1000) (hz:zD d<=1000000000) (ht:dV d) (m:Mk) (b:Int) (hb:0<=b) (hm:m.In b) (hs:b+cD (d+1)<=1000000000) (h3:¬m.left-1<3) (ez:(m.l.length:Int)<m.pos+1) :
  au prog 49 [cG,i64 (d+1:Nat)] [cb m] λv s=>v=lQ (m.tree (d+1)).1/\s=[cb (m.tree (d+1)).2]:=by
 have hc:=bX d;have Bn:cD (d+1)=2+4*(cD d+1):=rfl;have w1:IntKind.i64.wrap (m.left-1)=m.left-1:=bM _ (by have:=hm.l0;have:=hm.l1;omega);have w2:IntKind.i64.wrap ((d+1:Nat)-1:Int)=(d:Int):=by rw[bM _ (by omega)];omega
 have eR:¬((d+1:Nat):Int)=0:=by omega
 have dx:0<=m.pos/\m.pos<=1000000000:=⟨hm.p0,by have:=hm.p1;omega⟩
 have hy:(m.less.next 20).2.In (b+2):=by have:=hm.left.next 20;rwa [Int.add_assoc]at this
 have hyp:0<=(m.less.next 20).2.pos/\(m.less.next 20).2.pos<=1000000000:=by have:=hm.p1;simp only[Mk.next,Mk.less];omega
 have c0:=hm.c0;have c1:=hm.c1;refine ar func49 rfl ntmps49 results49 rfl 1 499 (by simp) (by simp) ?_;simp only[zW,simprocAttr,i64,cG,cb,w1];refine aP (cj m.less hm.l dx 20 (by omega)) rfl rfl rfl rfl rfl rfl ?_;simp only[zW,simprocAttr,i64,cG,cb,w1,Mk.next,Mk.less];refine ao mix [] [] (by rfl) ?_;have hT:Mk.tree (d+1) m=if pick m.l m.pos 20=0 then (Re.node 0 [],(m.less.next 20).2) else (m.less.next 20).2.set:=ap (.inr ez)
 rw[hT];by_cases h0:pick m.l m.pos 20=0
 ·simp only[zW,simprocAttr,i64,cG,cb,w1,Mk.next,eR,h3,ez,h0];all_goals first|exact⟨rfl,rfl⟩|exact⟨rfl,trivial⟩|rfl|trivial|(rw[aq];rfl)
 ·simp only[zW,simprocAttr,i64,cG,cb,w1,Mk.next,eR,h3,ez,h0];refine aP (iU (m.less.next 20).2 hm.l hyp) rfl rfl rfl rfl rfl (bG _ _) ?_;simp only[zW,simprocAttr,i64,cG,cb,w1,Mk.next,eR,h3,ez,h0];all_goals first|exact⟨rfl,rfl⟩|exact⟨rfl,trivial⟩|rfl|trivial|(rw[aq];rfl)
theorem NW (d:Nat) (hd:d<=1000) (hz:zD d<=1000000000) (ht:dV d) (m:Mk) (b:Int) (hb:0<=b) (hm:m.In b) (hs:b+cD (d+1)<=1000000000) (h3:¬m.left-1<3) (ez:¬(m.l.length:Int)<m.pos+1) (h5:pick m.l m.pos 20<5) :
  au prog 49 [cG,i64 (d+1:Nat)] [cb m] λv s=>v=lQ (m.tree (d+1)).1/\s=[cb (m.tree (d+1)).2]:=by
 have hc:=bX d;have Bn:cD (d+1)=2+4*(cD d+1):=rfl;have w1:IntKind.i64.wrap (m.left-1)=m.left-1:=bM _ (by have:=hm.l0;have:=hm.l1;omega);have w2:IntKind.i64.wrap ((d+1:Nat)-1:Int)=(d:Int):=by rw[bM _ (by omega)];omega
 have eR:¬((d+1:Nat):Int)=0:=by omega
 have dx:0<=m.pos/\m.pos<=1000000000:=⟨hm.p0,by have:=hm.p1;omega⟩
 have hy:(m.less.next 20).2.In (b+2):=by have:=hm.left.next 20;rwa [Int.add_assoc]at this
 have hyp:0<=(m.less.next 20).2.pos/\(m.less.next 20).2.pos<=1000000000:=by have:=hm.p1;simp only[Mk.next,Mk.less];omega
 have c0:=hm.c0;have c1:=hm.c1;refine ar func49 rfl ntmps49 results49 rfl 1 499 (by simp) (by simp) ?_;simp only[zW,simprocAttr,i64,cG,cb,w1];refine aP (cj m.less hm.l dx 20 (by omega)) rfl rfl rfl rfl rfl rfl ?_;simp only[zW,simprocAttr,i64,cG,cb,w1,Mk.next,Mk.less];refine ao mix [] [] (by rfl) ?_;rw[df h3 ez];have hn:Mk.node (Mk.tree d) (pick m.l m.pos 20) (m.less.next 20).2=(Re.node 2 (aT (Mk.tree d) 4 0 (m.less.next 20).2).1,(aT (Mk.tree d) 4 0 (m.less.next 20).2).2):=by simp [Mk.node,Mk.has,Mk.next,Mk.less,h5]
 rw[hn];simp only[zW,simprocAttr,i64,cG,cb,w1,w2,Mk.next,Mk.less,eR,h3,ez,h5];refine aP (KL d hd ht (m.less.next 20).2 (b+2) (by omega) hy (by omega)) rfl rfl rfl rfl rfl (by first|rfl|exact bG _ _) ?_;simp only[zW,simprocAttr,i64,cG,cb,w1,w2,Mk.next,Mk.less,eR,h3,ez,h5];all_goals first|exact⟨rfl,rfl⟩|exact⟨rfl,trivial⟩|rfl|trivial|(rw[aq];rfl)
theorem Pn (d:Nat) (hd:d<=1000) (hz:zD d<=1000000000) (ht:dV d) (m:Mk) (b:Int) (hb:0<=b) (hm:m.In b) (hs:b+cD (d+1)<=1000000000) (h3:¬m.left-1<3) (ez:¬(m.l.length:Int)<m.pos+1) (h5:¬pick m.l m.pos 20<5) (h8:pick m.l m.pos 20<8) :
  au prog 49 [cG,i64 (d+1:Nat)] [cb m] λv s=>v=lQ (m.tree (d+1)).1/\s=[cb (m.tree (d+1)).2]:=by
 have hc:=bX d;have Bn:cD (d+1)=2+4*(cD d+1):=rfl;have w1:IntKind.i64.wrap (m.left-1)=m.left-1:=bM _ (by have:=hm.l0;have:=hm.l1;omega);have w2:IntKind.i64.wrap ((d+1:Nat)-1:Int)=(d:Int):=by rw[bM _ (by omega)];omega
 have eR:¬((d+1:Nat):Int)=0:=by omega
 have dx:0<=m.pos/\m.pos<=1000000000:=⟨hm.p0,by have:=hm.p1;omega⟩
 have hy:(m.less.next 20).2.In (b+2):=by have:=hm.left.next 20;rwa [Int.add_assoc]at this
 have hyp:0<=(m.less.next 20).2.pos/\(m.less.next 20).2.pos<=1000000000:=by have:=hm.p1;simp only[Mk.next,Mk.less];omega
 have c0:=hm.c0;have c1:=hm.c1;refine ar func49 rfl ntmps49 results49 rfl 1 499 (by simp) (by simp) ?_;simp only[zW,simprocAttr,i64,cG,cb,w1];refine aP (cj m.less hm.l dx 20 (by omega)) rfl rfl rfl rfl rfl rfl ?_;simp only[zW,simprocAttr,i64,cG,cb,w1,Mk.next,Mk.less];refine ao mix [] [] (by rfl) ?_;rw[df h3 ez];have hn:Mk.node (Mk.tree d) (pick m.l m.pos 20) (m.less.next 20).2=(Re.node 3 (aT (Mk.tree d) 4 0 (m.less.next 20).2).1,(aT (Mk.tree d) 4 0 (m.less.next 20).2).2):=by simp [Mk.node,Mk.has,Mk.next,Mk.less,h5,h8]
 rw[hn];simp only[zW,simprocAttr,i64,cG,cb,w1,w2,Mk.next,Mk.less,eR,h3,ez,h5,h8];refine aP (KL d hd ht (m.less.next 20).2 (b+2) (by omega) hy (by omega)) rfl rfl rfl rfl rfl (by first|rfl|exact bG _ _) ?_;simp only[zW,simprocAttr,i64,cG,cb,w1,w2,Mk.next,Mk.less,eR,h3,ez,h5,h8];all_goals first|exact⟨rfl,rfl⟩|exact⟨rfl,trivial⟩|rfl|trivial|(rw[aq];rfl)
theorem Nj (d:Nat) (hd:d<=1000) (hz:zD d<=1000000000) (ht:dV d) (m:Mk) (b:Int) (hb:0<=b) (hm:m.In b) (hs:b+cD (d+1)<=1000000000) (h3:¬m.left-1<3) (ez:¬(m.l.length:Int)<m.pos+1) (h5:¬pick m.l m.pos 20<5) (h8:¬pick m.l m.pos 20<8) (dZ:pick m.l m.pos 20<12) :
  au prog 49 [cG,i64 (d+1:Nat)] [cb m] λv s=>v=lQ (m.tree (d+1)).1/\s=[cb (m.tree (d+1)).2]:=by
 have hc:=bX d;have Bn:cD (d+1)=2+4*(cD d+1):=rfl;have w1:IntKind.i64.wrap (m.left-1)=m.left-1:=bM _ (by have:=hm.l0;have:=hm.l1;omega);have w2:IntKind.i64.wrap ((d+1:Nat)-1:Int)=(d:Int):=by rw[bM _ (by omega)];omega
 have eR:¬((d+1:Nat):Int)=0:=by omega
 have dx:0<=m.pos/\m.pos<=1000000000:=⟨hm.p0,by have:=hm.p1;omega⟩
 have hy:(m.less.next 20).2.In (b+2):=by have:=hm.left.next 20;rwa [Int.add_assoc]at this
 have hyp:0<=(m.less.next 20).2.pos/\(m.less.next 20).2.pos<=1000000000:=by have:=hm.p1;simp only[Mk.next,Mk.less];omega
 have c0:=hm.c0;have c1:=hm.c1;refine ar func49 rfl ntmps49 results49 rfl 1 499 (by simp) (by simp) ?_;simp only[zW,simprocAttr,i64,cG,cb,w1];refine aP (cj m.less hm.l dx 20 (by omega)) rfl rfl rfl rfl rfl rfl ?_;simp only[zW,simprocAttr,i64,cG,cb,w1,Mk.next,Mk.less];refine ao mix [] [] (by rfl) ?_;rw[df h3 ez];have hn:Mk.node (Mk.tree d) (pick m.l m.pos 20) (m.less.next 20).2=Mk.rep (Mk.tree d) (m.less.next 20).2:=by simp [Mk.node,Mk.has,Mk.next,Mk.less,h5,h8,dZ]
 rw[hn];simp only[zW,simprocAttr,i64,cG,cb,w1,w2,Mk.next,Mk.less,eR,h3,ez,h5,h8,dZ];refine aP (UC d hd ht (m.less.next 20).2 (b+2) (by omega) hy (by omega) hz) rfl rfl rfl rfl rfl (by first|rfl|exact bG _ _) ?_;simp only[zW,simprocAttr,i64,cG,cb,w1,w2,Mk.next,Mk.less,eR,h3,ez,h5,h8,dZ];all_goals first|exact⟨rfl,rfl⟩|exact⟨rfl,trivial⟩|rfl|trivial|(rw[aq];rfl)
theorem OS (d:Nat) (hd:d<=1000) (hz:zD d<=1000000000) (ht:dV d) (m:Mk) (b:Int) (hb:0<=b) (hm:m.In b) (hs:b+cD (d+1)<=1000000000) (h3:¬m.left-1<3) (ez:¬(m.l.length:Int)<m.pos+1) (hq:pick m.l m.pos 20=12) (hu:0<fk .and .i64 m.cu 64) :
  au prog 49 [cG,i64 (d+1:Nat)] [cb m] λv s=>v=lQ (m.tree (d+1)).1/\s=[cb (m.tree (d+1)).2]:=by
 have hc:=bX d;have Bn:cD (d+1)=2+4*(cD d+1):=rfl;have w1:IntKind.i64.wrap (m.left-1)=m.left-1:=bM _ (by have:=hm.l0;have:=hm.l1;omega);have w2:IntKind.i64.wrap ((d+1:Nat)-1:Int)=(d:Int):=by rw[bM _ (by omega)];omega
 have eR:¬((d+1:Nat):Int)=0:=by omega
 have dx:0<=m.pos/\m.pos<=1000000000:=⟨hm.p0,by have:=hm.p1;omega⟩
 have hy:(m.less.next 20).2.In (b+2):=by have:=hm.left.next 20;rwa [Int.add_assoc]at this
 have hyp:0<=(m.less.next 20).2.pos/\(m.less.next 20).2.pos<=1000000000:=by have:=hm.p1;simp only[Mk.next,Mk.less];omega
 have c0:=hm.c0;have c1:=hm.c1;refine ar func49 rfl ntmps49 results49 rfl 1 499 (by simp) (by simp) ?_;simp only[zW,simprocAttr,i64,cG,cb,w1];refine aP (cj m.less hm.l dx 20 (by omega)) rfl rfl rfl rfl rfl rfl ?_;simp only[zW,simprocAttr,i64,cG,cb,w1,Mk.next,Mk.less];refine ao mix [] [] (by rfl) ?_;rw[df h3 ez];have hn:Mk.node (Mk.tree d) (pick m.l m.pos 20) (m.less.next 20).2=Mk.gL (Mk.tree d) (m.less.next 20).2:=by simp [Mk.node,Mk.has,Mk.next,Mk.less,hq,hu]
 rw[hn];simp only[zW,simprocAttr,i64,cG,cb,w1,w2,Mk.next,Mk.less,eR,h3,ez,hq,hu];refine aP (zP d hd ht (m.less.next 20).2 (b+2) (by omega) hy (by omega)) rfl rfl rfl rfl rfl (by first|rfl|exact bG _ _) ?_;simp only[zW,simprocAttr,i64,cG,cb,w1,w2,Mk.next,Mk.less,eR,h3,ez,hq,hu];all_goals first|exact⟨rfl,rfl⟩|exact⟨rfl,trivial⟩|rfl|trivial|(rw[aq];rfl)
theorem Me (d:Nat) (hd:d<=1000) (hz:zD d<=1000000000) (ht:dV d) (m:Mk) (b:Int) (hb:0<=b) (hm:m.In b) (hs:b+cD (d+1)<=1000000000) (h3:¬m.left-1<3) (ez:¬(m.l.length:Int)<m.pos+1) (hq:pick m.l m.pos 20=12) (hu:¬0<fk .and .i64 m.cu 64) :
  au prog 49 [cG,i64 (d+1:Nat)] [cb m] λv s=>v=lQ (m.tree (d+1)).1/\s=[cb (m.tree (d+1)).2]:=by
 have hc:=bX d;have Bn:cD (d+1)=2+4*(cD d+1):=rfl;have w1:IntKind.i64.wrap (m.left-1)=m.left-1:=bM _ (by have:=hm.l0;have:=hm.l1;omega);have w2:IntKind.i64.wrap ((d+1:Nat)-1:Int)=(d:Int):=by rw[bM _ (by omega)];omega
 have eR:¬((d+1:Nat):Int)=0:=by omega
 have dx:0<=m.pos/\m.pos<=1000000000:=⟨hm.p0,by have:=hm.p1;omega⟩
 have hy:(m.less.next 20).2.In (b+2):=by have:=hm.left.next 20;rwa [Int.add_assoc]at this
 have hyp:0<=(m.less.next 20).2.pos/\(m.less.next 20).2.pos<=1000000000:=by have:=hm.p1;simp only[Mk.next,Mk.less];omega
 have c0:=hm.c0;have c1:=hm.c1;refine ar func49 rfl ntmps49 results49 rfl 1 499 (by simp) (by simp) ?_;simp only[zW,simprocAttr,i64,cG,cb,w1];refine aP (cj m.less hm.l dx 20 (by omega)) rfl rfl rfl rfl rfl rfl ?_;simp only[zW,simprocAttr,i64,cG,cb,w1,Mk.next,Mk.less];refine ao mix [] [] (by rfl) ?_;rw[df h3 ez];have hn:Mk.node (Mk.tree d) (pick m.l m.pos 20) (m.less.next 20).2=(m.less.next 20).2.set:=by simp [Mk.node,Mk.has,Mk.next,Mk.less,hq,hu]
 rw[hn];simp only[zW,simprocAttr,i64,cG,cb,w1,w2,Mk.next,Mk.less,eR,h3,ez,hq,hu];refine aP (iU (m.less.next 20).2 hm.l hyp) rfl rfl rfl rfl rfl (by first|rfl|exact bG _ _) ?_;simp only[zW,simprocAttr,i64,cG,cb,w1,w2,Mk.next,Mk.less,eR,h3,ez,hq,hu];all_goals first|exact⟨rfl,rfl⟩|exact⟨rfl,trivial⟩|rfl|trivial|(rw[aq];rfl)
theorem Ou (d:Nat) (hd:d<=1000) (hz:zD d<=1000000000) (ht:dV d) (m:Mk) (b:Int) (hb:0<=b) (hm:m.In b) (hs:b+cD (d+1)<=1000000000) (h3:¬m.left-1<3) (ez:¬(m.l.length:Int)<m.pos+1) (hq:pick m.l m.pos 20=13) (hu:0<fk .and .i64 m.cu 64) :
  au prog 49 [cG,i64 (d+1:Nat)] [cb m] λv s=>v=lQ (m.tree (d+1)).1/\s=[cb (m.tree (d+1)).2]:=by
 have hc:=bX d;have Bn:cD (d+1)=2+4*(cD d+1):=rfl;have w1:IntKind.i64.wrap (m.left-1)=m.left-1:=bM _ (by have:=hm.l0;have:=hm.l1;omega);have w2:IntKind.i64.wrap ((d+1:Nat)-1:Int)=(d:Int):=by rw[bM _ (by omega)];omega
 have eR:¬((d+1:Nat):Int)=0:=by omega
 have dx:0<=m.pos/\m.pos<=1000000000:=⟨hm.p0,by have:=hm.p1;omega⟩
 have hy:(m.less.next 20).2.In (b+2):=by have:=hm.left.next 20;rwa [Int.add_assoc]at this
 have hyp:0<=(m.less.next 20).2.pos/\(m.less.next 20).2.pos<=1000000000:=by have:=hm.p1;simp only[Mk.next,Mk.less];omega
 have c0:=hm.c0;have c1:=hm.c1;refine ar func49 rfl ntmps49 results49 rfl 1 499 (by simp) (by simp) ?_;simp only[zW,simprocAttr,i64,cG,cb,w1];refine aP (cj m.less hm.l dx 20 (by omega)) rfl rfl rfl rfl rfl rfl ?_;simp only[zW,simprocAttr,i64,cG,cb,w1,Mk.next,Mk.less];refine ao mix [] [] (by rfl) ?_;rw[df h3 ez];have hn:Mk.node (Mk.tree d) (pick m.l m.pos 20) (m.less.next 20).2=Mk.gL (Mk.tree d) (m.less.next 20).2:=by simp [Mk.node,Mk.has,Mk.next,Mk.less,hq,hu]
 rw[hn];simp only[zW,simprocAttr,i64,cG,cb,w1,w2,Mk.next,Mk.less,eR,h3,ez,hq,hu];refine aP (zP d hd ht (m.less.next 20).2 (b+2) (by omega) hy (by omega)) rfl rfl rfl rfl rfl (by first|rfl|exact bG _ _) ?_;simp only[zW,simprocAttr,i64,cG,cb,w1,w2,Mk.next,Mk.less,eR,h3,ez,hq,hu];all_goals first|exact⟨rfl,rfl⟩|exact⟨rfl,trivial⟩|rfl|trivial|(rw[aq];rfl)
theorem LY (d:Nat) (hd:d<=1000) (hz:zD d<=1000000000) (ht:dV d) (m:Mk) (b:Int) (hb:0<=b) (hm:m.In b) (hs:b+cD (d+1)<=1000000000) (h3:¬m.left-1<3) (ez:¬(m.l.length:Int)<m.pos+1) (hq:pick m.l m.pos 20=13) (hu:¬0<fk .and .i64 m.cu 64) :
  au prog 49 [cG,i64 (d+1:Nat)] [cb m] λv s=>v=lQ (m.tree (d+1)).1/\s=[cb (m.tree (d+1)).2]:=by
 have hc:=bX d;have Bn:cD (d+1)=2+4*(cD d+1):=rfl;have w1:IntKind.i64.wrap (m.left-1)=m.left-1:=bM _ (by have:=hm.l0;have:=hm.l1;omega);have w2:IntKind.i64.wrap ((d+1:Nat)-1:Int)=(d:Int):=by rw[bM _ (by omega)];omega
 have eR:¬((d+1:Nat):Int)=0:=by omega
 have dx:0<=m.pos/\m.pos<=1000000000:=⟨hm.p0,by have:=hm.p1;omega⟩
 have hy:(m.less.next 20).2.In (b+2):=by have:=hm.left.next 20;rwa [Int.add_assoc]at this
 have hyp:0<=(m.less.next 20).2.pos/\(m.less.next 20).2.pos<=1000000000:=by have:=hm.p1;simp only[Mk.next,Mk.less];omega
 have c0:=hm.c0;have c1:=hm.c1;refine ar func49 rfl ntmps49 results49 rfl 1 499 (by simp) (by simp) ?_;simp only[zW,simprocAttr,i64,cG,cb,w1];refine aP (cj m.less hm.l dx 20 (by omega)) rfl rfl rfl rfl rfl rfl ?_;simp only[zW,simprocAttr,i64,cG,cb,w1,Mk.next,Mk.less];refine ao mix [] [] (by rfl) ?_;rw[df h3 ez];have hn:Mk.node (Mk.tree d) (pick m.l m.pos 20) (m.less.next 20).2=(m.less.next 20).2.set:=by simp [Mk.node,Mk.has,Mk.next,Mk.less,hq,hu]
 rw[hn];simp only[zW,simprocAttr,i64,cG,cb,w1,w2,Mk.next,Mk.less,eR,h3,ez,hq,hu];refine aP (iU (m.less.next 20).2 hm.l hyp) rfl rfl rfl rfl rfl (by first|rfl|exact bG _ _) ?_;simp only[zW,simprocAttr,i64,cG,cb,w1,w2,Mk.next,Mk.less,eR,h3,ez,hq,hu];all_goals first|exact⟨rfl,rfl⟩|exact⟨rfl,trivial⟩|rfl|trivial|(rw[aq];rfl)
theorem PD (d:Nat) (hd:d<=1000) (hz:zD d<=1000000000) (ht:dV d) (m:Mk) (b:Int) (hb:0<=b) (hm:m.In b) (hs:b+cD (d+1)<=1000000000) (h3:¬m.left-1<3) (ez:¬(m.l.length:Int)<m.pos+1) (hq:pick m.l m.pos 20=14) (hu:0<fk .and .i64 m.cu 16) :
  au prog 49 [cG,i64 (d+1:Nat)] [cb m] λv s=>v=lQ (m.tree (d+1)).1/\s=[cb (m.tree (d+1)).2]:=by
 have hc:=bX d;have Bn:cD (d+1)=2+4*(cD d+1):=rfl;have w1:IntKind.i64.wrap (m.left-1)=m.left-1:=bM _ (by have:=hm.l0;have:=hm.l1;omega);have w2:IntKind.i64.wrap ((d+1:Nat)-1:Int)=(d:Int):=by rw[bM _ (by omega)];omega
 have eR:¬((d+1:Nat):Int)=0:=by omega
 have dx:0<=m.pos/\m.pos<=1000000000:=⟨hm.p0,by have:=hm.p1;omega⟩
 have hy:(m.less.next 20).2.In (b+2):=by have:=hm.left.next 20;rwa [Int.add_assoc]at this
 have hyp:0<=(m.less.next 20).2.pos/\(m.less.next 20).2.pos<=1000000000:=by have:=hm.p1;simp only[Mk.next,Mk.less];omega
 have c0:=hm.c0;have c1:=hm.c1;refine ar func49 rfl ntmps49 results49 rfl 1 499 (by simp) (by simp) ?_;simp only[zW,simprocAttr,i64,cG,cb,w1];refine aP (cj m.less hm.l dx 20 (by omega)) rfl rfl rfl rfl rfl rfl ?_;simp only[zW,simprocAttr,i64,cG,cb,w1,Mk.next,Mk.less];refine ao mix [] [] (by rfl) ?_;rw[df h3 ez];have hn:Mk.node (Mk.tree d) (pick m.l m.pos 20) (m.less.next 20).2=(.mk 11 [] [] 0 0 0 (((m.less.next 20).2).next 6).1 false,(((m.less.next 20).2).next 6).2):=by simp [Mk.node,Mk.has,Mk.next,Mk.less,hq,hu]
 rw[hn];simp only[zW,simprocAttr,i64,cG,cb,w1,w2,Mk.next,Mk.less,eR,h3,ez,hq,hu];refine aP (cj (m.less.next 20).2 hm.l hyp 6 (by omega)) rfl rfl rfl rfl rfl (by first|rfl|exact bG _ _) ?_;simp only[zW,simprocAttr,i64,cG,cb,w1,w2,Mk.next,Mk.less,eR,h3,ez,hq,hu];all_goals first|exact⟨rfl,rfl⟩|exact⟨rfl,trivial⟩|rfl|trivial|(rw[aq];rfl)
theorem MD (d:Nat) (hd:d<=1000) (hz:zD d<=1000000000) (ht:dV d) (m:Mk) (b:Int) (hb:0<=b) (hm:m.In b) (hs:b+cD (d+1)<=1000000000) (h3:¬m.left-1<3) (ez:¬(m.l.length:Int)<m.pos+1) (hq:pick m.l m.pos 20=14) (hu:¬0<fk .and .i64 m.cu 16) :
  au prog 49 [cG,i64 (d+1:Nat)] [cb m] λv s=>v=lQ (m.tree (d+1)).1/\s=[cb (m.tree (d+1)).2]:=by
 have hc:=bX d;have Bn:cD (d+1)=2+4*(cD d+1):=rfl;have w1:IntKind.i64.wrap (m.left-1)=m.left-1:=bM _ (by have:=hm.l0;have:=hm.l1;omega);have w2:IntKind.i64.wrap ((d+1:Nat)-1:Int)=(d:Int):=by rw[bM _ (by omega)];omega
 have eR:¬((d+1:Nat):Int)=0:=by omega
 have dx:0<=m.pos/\m.pos<=1000000000:=⟨hm.p0,by have:=hm.p1;omega⟩
 have hy:(m.less.next 20).2.In (b+2):=by have:=hm.left.next 20;rwa [Int.add_assoc]at this
 have hyp:0<=(m.less.next 20).2.pos/\(m.less.next 20).2.pos<=1000000000:=by have:=hm.p1;simp only[Mk.next,Mk.less];omega
 have c0:=hm.c0;have c1:=hm.c1;refine ar func49 rfl ntmps49 results49 rfl 1 499 (by simp) (by simp) ?_;simp only[zW,simprocAttr,i64,cG,cb,w1];refine aP (cj m.less hm.l dx 20 (by omega)) rfl rfl rfl rfl rfl rfl ?_;simp only[zW,simprocAttr,i64,cG,cb,w1,Mk.next,Mk.less];refine ao mix [] [] (by rfl) ?_;rw[df h3 ez];have hn:Mk.node (Mk.tree d) (pick m.l m.pos 20) (m.less.next 20).2=(m.less.next 20).2.set:=by simp [Mk.node,Mk.has,Mk.next,Mk.less,hq,hu]
 rw[hn];simp only[zW,simprocAttr,i64,cG,cb,w1,w2,Mk.next,Mk.less,eR,h3,ez,hq,hu];refine aP (iU (m.less.next 20).2 hm.l hyp) rfl rfl rfl rfl rfl (by first|rfl|exact bG _ _) ?_;simp only[zW,simprocAttr,i64,cG,cb,w1,w2,Mk.next,Mk.less,eR,h3,ez,hq,hu];all_goals first|exact⟨rfl,rfl⟩|exact⟨rfl,trivial⟩|rfl|trivial|(rw[aq];rfl)
theorem M9 (d:Nat) (hd:d<=1000) (hz:zD d<=1000000000) (ht:dV d) (m:Mk) (b:Int) (hb:0<=b) (hm:m.In b) (hs:b+cD (d+1)<=1000000000) (h3:¬m.left-1<3) (ez:¬(m.l.length:Int)<m.pos+1) (hq:pick m.l m.pos 20=15) (hu:0<fk .and .i64 m.cu 4) :
  au prog 49 [cG,i64 (d+1:Nat)] [cb m] λv s=>v=lQ (m.tree (d+1)).1/\s=[cb (m.tree (d+1)).2]:=by
 have hc:=bX d;have Bn:cD (d+1)=2+4*(cD d+1):=rfl;have w1:IntKind.i64.wrap (m.left-1)=m.left-1:=bM _ (by have:=hm.l0;have:=hm.l1;omega);have w2:IntKind.i64.wrap ((d+1:Nat)-1:Int)=(d:Int):=by rw[bM _ (by omega)];omega
 have eR:¬((d+1:Nat):Int)=0:=by omega
 have dx:0<=m.pos/\m.pos<=1000000000:=⟨hm.p0,by have:=hm.p1;omega⟩
 have hy:(m.less.next 20).2.In (b+2):=by have:=hm.left.next 20;rwa [Int.add_assoc]at this
 have hyp:0<=(m.less.next 20).2.pos/\(m.less.next 20).2.pos<=1000000000:=by have:=hm.p1;simp only[Mk.next,Mk.less];omega
 have c0:=hm.c0;have c1:=hm.c1;refine ar func49 rfl ntmps49 results49 rfl 1 499 (by simp) (by simp) ?_;simp only[zW,simprocAttr,i64,cG,cb,w1];refine aP (cj m.less hm.l dx 20 (by omega)) rfl rfl rfl rfl rfl rfl ?_;simp only[zW,simprocAttr,i64,cG,cb,w1,Mk.next,Mk.less];refine ao mix [] [] (by rfl) ?_;rw[df h3 ez];have P9:=ct m.l (m.pos+1+1) 2 (by omega);have w3:IntKind.i64.wrap (7+pick m.l (m.pos+1+1) 2)=7+pick m.l (m.pos+1+1) 2:=bM _ (by omega);have hn:Mk.node (Mk.tree d) (pick m.l m.pos 20) (m.less.next 20).2=(.mk (7+(((m.less.next 20).2.next 3).2.next 2).1) [] [(Mk.tree d (((m.less.next 20).2.next 3).2.next 2).2).1] 0 0 0 0 (decide (((m.less.next 20).2.next 3).1=0)),(Mk.tree d (((m.less.next 20).2.next 3).2.next 2).2).2):=by simp [Mk.node,Mk.has,Mk.next,Mk.less,hq,hu,w3]
 rw[hn];simp only[zW,simprocAttr,i64,cG,cb,w1,w2,Mk.next,Mk.less,eR,h3,ez,hq,hu,w3];refine aP (cj (m.less.next 20).2 hm.l hyp 3 (by omega)) rfl rfl rfl rfl rfl (by first|rfl|exact bG _ _) ?_;simp only[zW,simprocAttr,i64,cG,cb,w1,w2,Mk.next,Mk.less,eR,h3,ez,hq,hu,w3];refine aP (cj ((m.less.next 20).2.next 3).2 hm.l (by have:=hm.p1;simp only[Mk.next,Mk.less];omega) 2 (by omega)) rfl rfl rfl rfl rfl (by first|rfl|exact bG _ _) ?_;simp only[zW,simprocAttr,i64,cG,cb,w1,w2,Mk.next,Mk.less,eR,h3,ez,hq,hu,w3];refine aP (ht (((m.less.next 20).2.next 3).2.next 2).2 (b+4) (by omega) (((hy.next 3).next 2).mono (by omega)) (by omega)) rfl rfl rfl rfl rfl (by first|rfl|exact bG _ _) ?_;simp only[zW,simprocAttr,i64,cG,cb,w1,w2,Mk.next,Mk.less,eR,h3,ez,hq,hu,w3];all_goals first|exact⟨rfl,rfl⟩|exact⟨rfl,trivial⟩|rfl|trivial|(rw[aq];rfl)
theorem My (d:Nat) (hd:d<=1000) (hz:zD d<=1000000000) (ht:dV d) (m:Mk) (b:Int) (hb:0<=b) (hm:m.In b) (hs:b+cD (d+1)<=1000000000) (h3:¬m.left-1<3) (ez:¬(m.l.length:Int)<m.pos+1) (hq:pick m.l m.pos 20=15) (hu:¬0<fk .and .i64 m.cu 4) :
  au prog 49 [cG,i64 (d+1:Nat)] [cb m] λv s=>v=lQ (m.tree (d+1)).1/\s=[cb (m.tree (d+1)).2]:=by
 have hc:=bX d;have Bn:cD (d+1)=2+4*(cD d+1):=rfl;have w1:IntKind.i64.wrap (m.left-1)=m.left-1:=bM _ (by have:=hm.l0;have:=hm.l1;omega);have w2:IntKind.i64.wrap ((d+1:Nat)-1:Int)=(d:Int):=by rw[bM _ (by omega)];omega
 have eR:¬((d+1:Nat):Int)=0:=by omega
 have dx:0<=m.pos/\m.pos<=1000000000:=⟨hm.p0,by have:=hm.p1;omega⟩
 have hy:(m.less.next 20).2.In (b+2):=by have:=hm.left.next 20;rwa [Int.add_assoc]at this
 have hyp:0<=(m.less.next 20).2.pos/\(m.less.next 20).2.pos<=1000000000:=by have:=hm.p1;simp only[Mk.next,Mk.less];omega
 have c0:=hm.c0;have c1:=hm.c1;refine ar func49 rfl ntmps49 results49 rfl 1 499 (by simp) (by simp) ?_;simp only[zW,simprocAttr,i64,cG,cb,w1];refine aP (cj m.less hm.l dx 20 (by omega)) rfl rfl rfl rfl rfl rfl ?_;simp only[zW,simprocAttr,i64,cG,cb,w1,Mk.next,Mk.less];refine ao mix [] [] (by rfl) ?_;rw[df h3 ez];have hn:Mk.node (Mk.tree d) (pick m.l m.pos 20) (m.less.next 20).2=(m.less.next 20).2.set:=by simp [Mk.node,Mk.has,Mk.next,Mk.less,hq,hu]
 rw[hn];simp only[zW,simprocAttr,i64,cG,cb,w1,w2,Mk.next,Mk.less,eR,h3,ez,hq,hu];refine aP (iU (m.less.next 20).2 hm.l hyp) rfl rfl rfl rfl rfl (by first|rfl|exact bG _ _) ?_;simp only[zW,simprocAttr,i64,cG,cb,w1,w2,Mk.next,Mk.less,eR,h3,ez,hq,hu];all_goals first|exact⟨rfl,rfl⟩|exact⟨rfl,trivial⟩|rfl|trivial|(rw[aq];rfl)
theorem O6 (d:Nat) (hd:d<=1000) (hz:zD d<=1000000000) (ht:dV d) (m:Mk) (b:Int) (hb:0<=b) (hm:m.In b) (hs:b+cD (d+1)<=1000000000) (h3:¬m.left-1<3) (ez:¬(m.l.length:Int)<m.pos+1) (hq:pick m.l m.pos 20=16) (hu:0<fk .and .i64 m.cu 8) :
  au prog 49 [cG,i64 (d+1:Nat)] [cb m] λv s=>v=lQ (m.tree (d+1)).1/\s=[cb (m.tree (d+1)).2]:=by
 have hc:=bX d;have Bn:cD (d+1)=2+4*(cD d+1):=rfl;have w1:IntKind.i64.wrap (m.left-1)=m.left-1:=bM _ (by have:=hm.l0;have:=hm.l1;omega);have w2:IntKind.i64.wrap ((d+1:Nat)-1:Int)=(d:Int):=by rw[bM _ (by omega)];omega
 have eR:¬((d+1:Nat):Int)=0:=by omega
 have dx:0<=m.pos/\m.pos<=1000000000:=⟨hm.p0,by have:=hm.p1;omega⟩
 have hy:(m.less.next 20).2.In (b+2):=by have:=hm.left.next 20;rwa [Int.add_assoc]at this
 have hyp:0<=(m.less.next 20).2.pos/\(m.less.next 20).2.pos<=1000000000:=by have:=hm.p1;simp only[Mk.next,Mk.less];omega
 have c0:=hm.c0;have c1:=hm.c1;refine ar func49 rfl ntmps49 results49 rfl 1 499 (by simp) (by simp) ?_;simp only[zW,simprocAttr,i64,cG,cb,w1];refine aP (cj m.less hm.l dx 20 (by omega)) rfl rfl rfl rfl rfl rfl ?_;simp only[zW,simprocAttr,i64,cG,cb,w1,Mk.next,Mk.less];refine ao mix [] [] (by rfl) ?_;rw[df h3 ez];have hn:Mk.node (Mk.tree d) (pick m.l m.pos 20) (m.less.next 20).2=(Re.node 9 [(Mk.tree d (m.less.next 20).2).1],(Mk.tree d (m.less.next 20).2).2):=by simp [Mk.node,Mk.has,Mk.next,Mk.less,hq,hu]
 rw[hn];simp only[zW,simprocAttr,i64,cG,cb,w1,w2,Mk.next,Mk.less,eR,h3,ez,hq,hu];refine aP (ht (m.less.next 20).2 (b+2) (by omega) hy (by omega)) rfl rfl rfl rfl rfl (by first|rfl|exact bG _ _) ?_;simp only[zW,simprocAttr,i64,cG,cb,w1,w2,Mk.next,Mk.less,eR,h3,ez,hq,hu];all_goals first|exact⟨rfl,rfl⟩|exact⟨rfl,trivial⟩|rfl|trivial|(rw[aq];rfl)
theorem LZ (d:Nat) (hd:d<=1000) (hz:zD d<=1000000000) (ht:dV d) (m:Mk) (b:Int) (hb:0<=b) (hm:m.In b) (hs:b+cD (d+1)<=1000000000) (h3:¬m.left-1<3) (ez:¬(m.l.length:Int)<m.pos+1) (hq:pick m.l m.pos 20=16) (hu:¬0<fk .and .i64 m.cu 8) :
  au prog 49 [cG,i64 (d+1:Nat)] [cb m] λv s=>v=lQ (m.tree (d+1)).1/\s=[cb (m.tree (d+1)).2]:=by
 have hc:=bX d;have Bn:cD (d+1)=2+4*(cD d+1):=rfl;have w1:IntKind.i64.wrap (m.left-1)=m.left-1:=bM _ (by have:=hm.l0;have:=hm.l1;omega);have w2:IntKind.i64.wrap ((d+1:Nat)-1:Int)=(d:Int):=by rw[bM _ (by omega)];omega
 have eR:¬((d+1:Nat):Int)=0:=by omega
 have dx:0<=m.pos/\m.pos<=1000000000:=⟨hm.p0,by have:=hm.p1;omega⟩
 have hy:(m.less.next 20).2.In (b+2):=by have:=hm.left.next 20;rwa [Int.add_assoc]at this
 have hyp:0<=(m.less.next 20).2.pos/\(m.less.next 20).2.pos<=1000000000:=by have:=hm.p1;simp only[Mk.next,Mk.less];omega
 have c0:=hm.c0;have c1:=hm.c1;refine ar func49 rfl ntmps49 results49 rfl 1 499 (by simp) (by simp) ?_;simp only[zW,simprocAttr,i64,cG,cb,w1];refine aP (cj m.less hm.l dx 20 (by omega)) rfl rfl rfl rfl rfl rfl ?_;simp only[zW,simprocAttr,i64,cG,cb,w1,Mk.next,Mk.less];refine ao mix [] [] (by rfl) ?_;rw[df h3 ez];have hn:Mk.node (Mk.tree d) (pick m.l m.pos 20) (m.less.next 20).2=(m.less.next 20).2.set:=by simp [Mk.node,Mk.has,Mk.next,Mk.less,hq,hu]
 rw[hn];simp only[zW,simprocAttr,i64,cG,cb,w1,w2,Mk.next,Mk.less,eR,h3,ez,hq,hu];refine aP (iU (m.less.next 20).2 hm.l hyp) rfl rfl rfl rfl rfl (by first|rfl|exact bG _ _) ?_;simp only[zW,simprocAttr,i64,cG,cb,w1,w2,Mk.next,Mk.less,eR,h3,ez,hq,hu];all_goals first|exact⟨rfl,rfl⟩|exact⟨rfl,trivial⟩|rfl|trivial|(rw[aq];rfl)
theorem M1 (d:Nat) (hd:d<=1000) (hz:zD d<=1000000000) (ht:dV d) (m:Mk) (b:Int) (hb:0<=b) (hm:m.In b) (hs:b+cD (d+1)<=1000000000) (h3:¬m.left-1<3) (ez:¬(m.l.length:Int)<m.pos+1) (hq:pick m.l m.pos 20=17) (hu:0<fk .and .i64 m.cu 1) (uA:0<m.ah) :
  au prog 49 [cG,i64 (d+1:Nat)] [cb m] λv s=>v=lQ (m.tree (d+1)).1/\s=[cb (m.tree (d+1)).2]:=by
 have hc:=bX d;have Bn:cD (d+1)=2+4*(cD d+1):=rfl;have w1:IntKind.i64.wrap (m.left-1)=m.left-1:=bM _ (by have:=hm.l0;have:=hm.l1;omega);have w2:IntKind.i64.wrap ((d+1:Nat)-1:Int)=(d:Int):=by rw[bM _ (by omega)];omega
 have eR:¬((d+1:Nat):Int)=0:=by omega
 have dx:0<=m.pos/\m.pos<=1000000000:=⟨hm.p0,by have:=hm.p1;omega⟩
 have hy:(m.less.next 20).2.In (b+2):=by have:=hm.left.next 20;rwa [Int.add_assoc]at this
 have hyp:0<=(m.less.next 20).2.pos/\(m.less.next 20).2.pos<=1000000000:=by have:=hm.p1;simp only[Mk.next,Mk.less];omega
 have c0:=hm.c0;have c1:=hm.c1;refine ar func49 rfl ntmps49 results49 rfl 1 499 (by simp) (by simp) ?_;simp only[zW,simprocAttr,i64,cG,cb,w1];refine aP (cj m.less hm.l dx 20 (by omega)) rfl rfl rfl rfl rfl rfl ?_;simp only[zW,simprocAttr,i64,cG,cb,w1,Mk.next,Mk.less];refine ao mix [] [] (by rfl) ?_;rw[df h3 ez];have P9:=ct m.l (m.pos+1) m.ah (by omega);have w3:IntKind.i64.wrap (1+pick m.l (m.pos+1) m.ah)=1+pick m.l (m.pos+1) m.ah:=bM _ (by omega);have hn:Mk.node (Mk.tree d) (pick m.l m.pos 20) (m.less.next 20).2=(.mk 6 [] [] 0 0 0 (1+((m.less.next 20).2.next m.ah).1) false,((m.less.next 20).2.next m.ah).2):=by simp [Mk.node,Mk.has,Mk.next,Mk.less,hq,hu,uA,w3]
 rw[hn];simp only[zW,simprocAttr,i64,cG,cb,w1,w2,Mk.next,Mk.less,eR,h3,ez,hq,hu,uA,w3];refine aP (cj (m.less.next 20).2 hm.l hyp m.ah (by omega)) rfl rfl rfl rfl rfl (by first|rfl|exact bG _ _) ?_;simp only[zW,simprocAttr,i64,cG,cb,w1,w2,Mk.next,Mk.less,eR,h3,ez,hq,hu,uA,w3];all_goals first|exact⟨rfl,rfl⟩|exact⟨rfl,trivial⟩|rfl|trivial|(rw[aq];rfl)
theorem Lq (d:Nat) (hd:d<=1000) (hz:zD d<=1000000000) (ht:dV d) (m:Mk) (b:Int) (hb:0<=b) (hm:m.In b) (hs:b+cD (d+1)<=1000000000) (h3:¬m.left-1<3) (ez:¬(m.l.length:Int)<m.pos+1) (hq:pick m.l m.pos 20=17) (hu:0<fk .and .i64 m.cu 1) (uA:¬0<m.ah) :
  au prog 49 [cG,i64 (d+1:Nat)] [cb m] λv s=>v=lQ (m.tree (d+1)).1/\s=[cb (m.tree (d+1)).2]:=by
 have hc:=bX d;have Bn:cD (d+1)=2+4*(cD d+1):=rfl;have w1:IntKind.i64.wrap (m.left-1)=m.left-1:=bM _ (by have:=hm.l0;have:=hm.l1;omega);have w2:IntKind.i64.wrap ((d+1:Nat)-1:Int)=(d:Int):=by rw[bM _ (by omega)];omega
 have eR:¬((d+1:Nat):Int)=0:=by omega
 have dx:0<=m.pos/\m.pos<=1000000000:=⟨hm.p0,by have:=hm.p1;omega⟩
 have hy:(m.less.next 20).2.In (b+2):=by have:=hm.left.next 20;rwa [Int.add_assoc]at this
 have hyp:0<=(m.less.next 20).2.pos/\(m.less.next 20).2.pos<=1000000000:=by have:=hm.p1;simp only[Mk.next,Mk.less];omega
 have c0:=hm.c0;have c1:=hm.c1;refine ar func49 rfl ntmps49 results49 rfl 1 499 (by simp) (by simp) ?_;simp only[zW,simprocAttr,i64,cG,cb,w1];refine aP (cj m.less hm.l dx 20 (by omega)) rfl rfl rfl rfl rfl rfl ?_;simp only[zW,simprocAttr,i64,cG,cb,w1,Mk.next,Mk.less];refine ao mix [] [] (by rfl) ?_;rw[df h3 ez];have hn:Mk.node (Mk.tree d) (pick m.l m.pos 20) (m.less.next 20).2=(m.less.next 20).2.set:=by simp [Mk.node,Mk.has,Mk.next,Mk.less,hq,hu,uA]
 rw[hn];simp only[zW,simprocAttr,i64,cG,cb,w1,w2,Mk.next,Mk.less,eR,h3,ez,hq,hu,uA];refine aP (iU (m.less.next 20).2 hm.l hyp) rfl rfl rfl rfl rfl (by first|rfl|exact bG _ _) ?_;simp only[zW,simprocAttr,i64,cG,cb,w1,w2,Mk.next,Mk.less,eR,h3,ez,hq,hu,uA];all_goals first|exact⟨rfl,rfl⟩|exact⟨rfl,trivial⟩|rfl|trivial|(rw[aq];rfl)
theorem K4 (d:Nat) (hd:d<=1000) (hz:zD d<=1000000000) (ht:dV d) (m:Mk) (b:Int) (hb:0<=b) (hm:m.In b) (hs:b+cD (d+1)<=1000000000) (h3:¬m.left-1<3) (ez:¬(m.l.length:Int)<m.pos+1) (hq:pick m.l m.pos 20=17) (hu:¬0<fk .and .i64 m.cu 1) :
  au prog 49 [cG,i64 (d+1:Nat)] [cb m] λv s=>v=lQ (m.tree (d+1)).1/\s=[cb (m.tree (d+1)).2]:=by
 have hc:=bX d;have Bn:cD (d+1)=2+4*(cD d+1):=rfl;have w1:IntKind.i64.wrap (m.left-1)=m.left-1:=bM _ (by have:=hm.l0;have:=hm.l1;omega);have w2:IntKind.i64.wrap ((d+1:Nat)-1:Int)=(d:Int):=by rw[bM _ (by omega)];omega
 have eR:¬((d+1:Nat):Int)=0:=by omega
 have dx:0<=m.pos/\m.pos<=1000000000:=⟨hm.p0,by have:=hm.p1;omega⟩
 have hy:(m.less.next 20).2.In (b+2):=by have:=hm.left.next 20;rwa [Int.add_assoc]at this
 have hyp:0<=(m.less.next 20).2.pos/\(m.less.next 20).2.pos<=1000000000:=by have:=hm.p1;simp only[Mk.next,Mk.less];omega
 have c0:=hm.c0;have c1:=hm.c1;refine ar func49 rfl ntmps49 results49 rfl 1 499 (by simp) (by simp) ?_;simp only[zW,simprocAttr,i64,cG,cb,w1];refine aP (cj m.less hm.l dx 20 (by omega)) rfl rfl rfl rfl rfl rfl ?_;simp only[zW,simprocAttr,i64,cG,cb,w1,Mk.next,Mk.less];refine ao mix [] [] (by rfl) ?_;rw[df h3 ez];have hn:Mk.node (Mk.tree d) (pick m.l m.pos 20) (m.less.next 20).2=(m.less.next 20).2.set:=by simp [Mk.node,Mk.has,Mk.next,Mk.less,hq,hu]
 rw[hn];simp only[zW,simprocAttr,i64,cG,cb,w1,w2,Mk.next,Mk.less,eR,h3,ez,hq,hu];refine aP (iU (m.less.next 20).2 hm.l hyp) rfl rfl rfl rfl rfl (by first|rfl|exact bG _ _) ?_;simp only[zW,simprocAttr,i64,cG,cb,w1,w2,Mk.next,Mk.less,eR,h3,ez,hq,hu];all_goals first|exact⟨rfl,rfl⟩|exact⟨rfl,trivial⟩|rfl|trivial|(rw[aq];rfl)
theorem Nf (d:Nat) (hd:d<=1000) (hz:zD d<=1000000000) (ht:dV d) (m:Mk) (b:Int) (hb:0<=b) (hm:m.In b) (hs:b+cD (d+1)<=1000000000) (h3:¬m.left-1<3) (ez:¬(m.l.length:Int)<m.pos+1) (hq:pick m.l m.pos 20=18) (hu:0<fk .and .i64 m.cu 2) (uA:0<m.ah) :
  au prog 49 [cG,i64 (d+1:Nat)] [cb m] λv s=>v=lQ (m.tree (d+1)).1/\s=[cb (m.tree (d+1)).2]:=by
 have hc:=bX d;have Bn:cD (d+1)=2+4*(cD d+1):=rfl;have w1:IntKind.i64.wrap (m.left-1)=m.left-1:=bM _ (by have:=hm.l0;have:=hm.l1;omega);have w2:IntKind.i64.wrap ((d+1:Nat)-1:Int)=(d:Int):=by rw[bM _ (by omega)];omega
 have eR:¬((d+1:Nat):Int)=0:=by omega
 have dx:0<=m.pos/\m.pos<=1000000000:=⟨hm.p0,by have:=hm.p1;omega⟩
 have hy:(m.less.next 20).2.In (b+2):=by have:=hm.left.next 20;rwa [Int.add_assoc]at this
 have hyp:0<=(m.less.next 20).2.pos/\(m.less.next 20).2.pos<=1000000000:=by have:=hm.p1;simp only[Mk.next,Mk.less];omega
 have c0:=hm.c0;have c1:=hm.c1;refine ar func49 rfl ntmps49 results49 rfl 1 499 (by simp) (by simp) ?_;simp only[zW,simprocAttr,i64,cG,cb,w1];refine aP (cj m.less hm.l dx 20 (by omega)) rfl rfl rfl rfl rfl rfl ?_;simp only[zW,simprocAttr,i64,cG,cb,w1,Mk.next,Mk.less];refine ao mix [] [] (by rfl) ?_;rw[df h3 ez];have P9:=ct m.l (m.pos+1) m.ah (by omega);have w3:IntKind.i64.wrap (1+pick m.l (m.pos+1) m.ah)=1+pick m.l (m.pos+1) m.ah:=bM _ (by omega);obtain⟨g1,g2⟩:=iJ d ((m.less.next 20).2.next m.ah).2 (b+3) (by omega) ((hy.next m.ah).mono (by omega));have hn:Mk.node (Mk.tree d) (pick m.l m.pos 20) (m.less.next 20).2=(.mk 10 [] [(Mk.tree d ((m.less.next 20).2.next m.ah).2).1,(Mk.tree d (Mk.tree d ((m.less.next 20).2.next m.ah).2).2).1] 0 0 0 (1+((m.less.next 20).2.next m.ah).1) false,(Mk.tree d (Mk.tree d ((m.less.next 20).2.next m.ah).2).2).2):=by simp [Mk.node,Mk.has,Mk.next,Mk.less,hq,hu,uA,w3]
 rw[hn];simp only[zW,simprocAttr,i64,cG,cb,w1,w2,Mk.next,Mk.less,eR,h3,ez,hq,hu,uA,w3];refine aP (cj (m.less.next 20).2 hm.l hyp m.ah (by omega)) rfl rfl rfl rfl rfl (by first|rfl|exact bG _ _) ?_;simp only[zW,simprocAttr,i64,cG,cb,w1,w2,Mk.next,Mk.less,eR,h3,ez,hq,hu,uA,w3];refine aP (ht ((m.less.next 20).2.next m.ah).2 (b+3) (by omega) ((hy.next m.ah).mono (by omega)) (by omega)) rfl rfl rfl rfl rfl (by first|rfl|exact bG _ _) ?_;simp only[zW,simprocAttr,i64,cG,cb,w1,w2,Mk.next,Mk.less,eR,h3,ez,hq,hu,uA,w3];refine ao mix [8] [(1,[2],[]),(5,[0],[0])] (by rfl) ?_;simp only[zW,simprocAttr,i64,cG,cb,w1,w2,Mk.next,Mk.less,eR,h3,ez,hq,hu,uA,w3];refine su (ht (Mk.tree d ((m.less.next 20).2.next m.ah).2).2 (b+3+cD d) (by omega) g1 (by omega)) rfl rfl rfl rfl rfl (bG _ _) ?_;simp only[zW,simprocAttr,i64,cG,cb,w1,w2,Mk.next,Mk.less,eR,h3,ez,hq,hu,uA,w3];all_goals first|exact⟨rfl,rfl⟩|exact⟨rfl,trivial⟩|rfl|trivial|(rw[aq];rfl)
theorem Lx (d:Nat) (hd:d<=1000) (hz:zD d<=1000000000) (ht:dV d) (m:Mk) (b:Int) (hb:0<=b) (hm:m.In b) (hs:b+cD (d+1)<=1000000000) (h3:¬m.left-1<3) (ez:¬(m.l.length:Int)<m.pos+1) (hq:pick m.l m.pos 20=18) (hu:0<fk .and .i64 m.cu 2) (uA:¬0<m.ah) :
  au prog 49 [cG,i64 (d+1:Nat)] [cb m] λv s=>v=lQ (m.tree (d+1)).1/\s=[cb (m.tree (d+1)).2]:=by
 have hc:=bX d;have Bn:cD (d+1)=2+4*(cD d+1):=rfl;have w1:IntKind.i64.wrap (m.left-1)=m.left-1:=bM _ (by have:=hm.l0;have:=hm.l1;omega);have w2:IntKind.i64.wrap ((d+1:Nat)-1:Int)=(d:Int):=by rw[bM _ (by omega)];omega
 have eR:¬((d+1:Nat):Int)=0:=by omega
 have dx:0<=m.pos/\m.pos<=1000000000:=⟨hm.p0,by have:=hm.p1;omega⟩
 have hy:(m.less.next 20).2.In (b+2):=by have:=hm.left.next 20;rwa [Int.add_assoc]at this
 have hyp:0<=(m.less.next 20).2.pos/\(m.less.next 20).2.pos<=1000000000:=by have:=hm.p1;simp only[Mk.next,Mk.less];omega
 have c0:=hm.c0;have c1:=hm.c1;refine ar func49 rfl ntmps49 results49 rfl 1 499 (by simp) (by simp) ?_;simp only[zW,simprocAttr,i64,cG,cb,w1];refine aP (cj m.less hm.l dx 20 (by omega)) rfl rfl rfl rfl rfl rfl ?_;simp only[zW,simprocAttr,i64,cG,cb,w1,Mk.next,Mk.less];refine ao mix [] [] (by rfl) ?_;rw[df h3 ez];have hn:Mk.node (Mk.tree d) (pick m.l m.pos 20) (m.less.next 20).2=(m.less.next 20).2.set:=by simp [Mk.node,Mk.has,Mk.next,Mk.less,hq,hu,uA]
 rw[hn];simp only[zW,simprocAttr,i64,cG,cb,w1,w2,Mk.next,Mk.less,eR,h3,ez,hq,hu,uA];refine aP (iU (m.less.next 20).2 hm.l hyp) rfl rfl rfl rfl rfl (by first|rfl|exact bG _ _) ?_;simp only[zW,simprocAttr,i64,cG,cb,w1,w2,Mk.next,Mk.less,eR,h3,ez,hq,hu,uA];all_goals first|exact⟨rfl,rfl⟩|exact⟨rfl,trivial⟩|rfl|trivial|(rw[aq];rfl)
theorem Mv (d:Nat) (hd:d<=1000) (hz:zD d<=1000000000) (ht:dV d) (m:Mk) (b:Int) (hb:0<=b) (hm:m.In b) (hs:b+cD (d+1)<=1000000000) (h3:¬m.left-1<3) (ez:¬(m.l.length:Int)<m.pos+1) (hq:pick m.l m.pos 20=18) (hu:¬0<fk .and .i64 m.cu 2) :
  au prog 49 [cG,i64 (d+1:Nat)] [cb m] λv s=>v=lQ (m.tree (d+1)).1/\s=[cb (m.tree (d+1)).2]:=by
 have hc:=bX d;have Bn:cD (d+1)=2+4*(cD d+1):=rfl;have w1:IntKind.i64.wrap (m.left-1)=m.left-1:=bM _ (by have:=hm.l0;have:=hm.l1;omega);have w2:IntKind.i64.wrap ((d+1:Nat)-1:Int)=(d:Int):=by rw[bM _ (by omega)];omega
 have eR:¬((d+1:Nat):Int)=0:=by omega
 have dx:0<=m.pos/\m.pos<=1000000000:=⟨hm.p0,by have:=hm.p1;omega⟩
 have hy:(m.less.next 20).2.In (b+2):=by have:=hm.left.next 20;rwa [Int.add_assoc]at this
 have hyp:0<=(m.less.next 20).2.pos/\(m.less.next 20).2.pos<=1000000000:=by have:=hm.p1;simp only[Mk.next,Mk.less];omega
 have c0:=hm.c0;have c1:=hm.c1;refine ar func49 rfl ntmps49 results49 rfl 1 499 (by simp) (by simp) ?_;simp only[zW,simprocAttr,i64,cG,cb,w1];refine aP (cj m.less hm.l dx 20 (by omega)) rfl rfl rfl rfl rfl rfl ?_;simp only[zW,simprocAttr,i64,cG,cb,w1,Mk.next,Mk.less];refine ao mix [] [] (by rfl) ?_;rw[df h3 ez];have hn:Mk.node (Mk.tree d) (pick m.l m.pos 20) (m.less.next 20).2=(m.less.next 20).2.set:=by simp [Mk.node,Mk.has,Mk.next,Mk.less,hq,hu]
 rw[hn];simp only[zW,simprocAttr,i64,cG,cb,w1,w2,Mk.next,Mk.less,eR,h3,ez,hq,hu];refine aP (iU (m.less.next 20).2 hm.l hyp) rfl rfl rfl rfl rfl (by first|rfl|exact bG _ _) ?_;simp only[zW,simprocAttr,i64,cG,cb,w1,w2,Mk.next,Mk.less,eR,h3,ez,hq,hu];all_goals first|exact⟨rfl,rfl⟩|exact⟨rfl,trivial⟩|rfl|trivial|(rw[aq];rfl)
theorem Pv (d:Nat) (hd:d<=1000) (hz:zD d<=1000000000) (ht:dV d) (m:Mk) (b:Int) (hb:0<=b) (hm:m.In b) (hs:b+cD (d+1)<=1000000000) (h3:¬m.left-1<3) (ez:¬(m.l.length:Int)<m.pos+1) (hq:pick m.l m.pos 20=19) :
  au prog 49 [cG,i64 (d+1:Nat)] [cb m] λv s=>v=lQ (m.tree (d+1)).1/\s=[cb (m.tree (d+1)).2]:=by
 have hc:=bX d;have Bn:cD (d+1)=2+4*(cD d+1):=rfl;have w1:IntKind.i64.wrap (m.left-1)=m.left-1:=bM _ (by have:=hm.l0;have:=hm.l1;omega);have w2:IntKind.i64.wrap ((d+1:Nat)-1:Int)=(d:Int):=by rw[bM _ (by omega)];omega
 have eR:¬((d+1:Nat):Int)=0:=by omega
 have dx:0<=m.pos/\m.pos<=1000000000:=⟨hm.p0,by have:=hm.p1;omega⟩
 have hy:(m.less.next 20).2.In (b+2):=by have:=hm.left.next 20;rwa [Int.add_assoc]at this
 have hyp:0<=(m.less.next 20).2.pos/\(m.less.next 20).2.pos<=1000000000:=by have:=hm.p1;simp only[Mk.next,Mk.less];omega
 have c0:=hm.c0;have c1:=hm.c1;refine ar func49 rfl ntmps49 results49 rfl 1 499 (by simp) (by simp) ?_;simp only[zW,simprocAttr,i64,cG,cb,w1];refine aP (cj m.less hm.l dx 20 (by omega)) rfl rfl rfl rfl rfl rfl ?_;simp only[zW,simprocAttr,i64,cG,cb,w1,Mk.next,Mk.less];refine ao mix [] [] (by rfl) ?_;rw[df h3 ez];have hn:Mk.node (Mk.tree d) (pick m.l m.pos 20) (m.less.next 20).2=(m.less.next 20).2.set:=by simp [Mk.node,Mk.has,Mk.next,Mk.less,hq]
 rw[hn];simp only[zW,simprocAttr,i64,cG,cb,w1,w2,Mk.next,Mk.less,eR,h3,ez,hq];refine aP (iU (m.less.next 20).2 hm.l hyp) rfl rfl rfl rfl rfl (by first|rfl|exact bG _ _) ?_;simp only[zW,simprocAttr,i64,cG,cb,w1,w2,Mk.next,Mk.less,eR,h3,ez,hq];all_goals first|exact⟨rfl,rfl⟩|exact⟨rfl,trivial⟩|rfl|trivial|(rw[aq];rfl)
theorem MI (d:Nat) (hd:d<=1000) (hz:zD d<=1000000000) (ht:dV d):dV (d+1):=by
 intro m b hb hm hs;have hk:=ct m.l m.pos 20 (by omega);by_cases h3:m.left-1<3
 ·exact IC d hd hz ht m b hb hm hs h3
 by_cases ez:(m.l.length:Int)<m.pos+1
 ·exact HV d hd hz ht m b hb hm hs h3 ez
 by_cases h5:pick m.l m.pos 20<5
 ·exact NW d hd hz ht m b hb hm hs h3 ez h5
 by_cases h8:pick m.l m.pos 20<8
 ·exact Pn d hd hz ht m b hb hm hs h3 ez h5 h8
 by_cases dZ:pick m.l m.pos 20<12
 ·exact Nj d hd hz ht m b hb hm hs h3 ez h5 h8 dZ
 have tC:pick m.l m.pos 20=12\/pick m.l m.pos 20=13\/pick m.l m.pos 20=14\/pick m.l m.pos 20=15\/pick m.l m.pos 20=16\/pick m.l m.pos 20=17\/pick m.l m.pos 20=18\/pick m.l m.pos 20=19:=by omega
 rcases tC with hq|hq|hq|hq|hq|hq|hq|hq
 ·by_cases hu:0<fk .and .i64 m.cu 64
  ·exact OS d hd hz ht m b hb hm hs h3 ez hq hu
  ·exact Me d hd hz ht m b hb hm hs h3 ez hq hu
 ·by_cases hu:0<fk .and .i64 m.cu 64
  ·exact Ou d hd hz ht m b hb hm hs h3 ez hq hu
  ·exact LY d hd hz ht m b hb hm hs h3 ez hq hu
 ·by_cases hu:0<fk .and .i64 m.cu 16
  ·exact PD d hd hz ht m b hb hm hs h3 ez hq hu
  ·exact MD d hd hz ht m b hb hm hs h3 ez hq hu
 ·by_cases hu:0<fk .and .i64 m.cu 4
  ·exact M9 d hd hz ht m b hb hm hs h3 ez hq hu
  ·exact My d hd hz ht m b hb hm hs h3 ez hq hu
 ·by_cases hu:0<fk .and .i64 m.cu 8
  ·exact O6 d hd hz ht m b hb hm hs h3 ez hq hu
  ·exact LZ d hd hz ht m b hb hm hs h3 ez hq hu
 ·by_cases hu:0<fk .and .i64 m.cu 1
  ·by_cases uA:0<m.ah
   ·exact M1 d hd hz ht m b hb hm hs h3 ez hq hu uA
   ·exact Lq d hd hz ht m b hb hm hs h3 ez hq hu uA
  ·exact K4 d hd hz ht m b hb hm hs h3 ez hq hu
 ·by_cases hu:0<fk .and .i64 m.cu 2
  ·by_cases uA:0<m.ah
   ·exact Nf d hd hz ht m b hb hm hs h3 ez hq hu uA
   ·exact Lx d hd hz ht m b hb hm hs h3 ez hq hu uA
  ·exact Mv d hd hz ht m b hb hm hs h3 ez hq hu
 ·exact Pv d hd hz ht m b hb hm hs h3 ez hq
theorem K3:∀d,d<=1000->zD d<=1000000000->dV d
 |0,_,_=>Mt
 |d+1,hd,hz=>MI d (by omega) (by have:=wm d;simp only[zD]at hz;omega) (K3 d (by omega) (by have:=wm d;simp only[zD]at hz;omega))
structure iF where
 re:Re
 ah:Int
 aK:Bool
def dF (p:iF):V:=.ag (p.re.cells.map .d++[i64 p.ah,bV p.aK])
def kA (l:List Int) (cu ai:Int):iF :=
 let x:=Mk.tree 5 ⟨l,0,cu,ai,0⟩
 ⟨x.1,x.2.ah,false⟩
theorem PF (ρ:List Nat) (m:Mk):bp ρ (cb m)=cb m:=rfl
theorem AR (re:Re) (l:List V):(re.cells.map V.d++l).take 8=re.cells.map V.d:=List.take_left' (by simp [Re.gU])
theorem zF (re:Re) (l:List V) (n:Nat):(re.cells.map V.d++l).drop (n+8)=l.drop n:=by rw[Nat.add_comm,<- List.drop_drop,List.drop_left' (by simp [Re.gU])]
theorem It (l:List Int) (cu ai:Int) (hl:∀x∈l,kg x) (h0:0<=ai) (h1:ai<=1000000):ba prog 27 [.d (av l),i64 cu,i64 ai] (dF (kA l cu ai)):=by refine ar func27 rfl ntmps27 results27 rfl 0 455 (by simp) (by simp) ?_;simp only[zW,simprocAttr,i64];refine vm 1 (K3 5 (by omega) (by decide) ⟨l,0,cu,ai,0⟩ 0 (by omega) ⟨hl,by simp,by simp,by simpa using h0,h1,by simp,by simp⟩ (by decide)) rfl rfl rfl rfl (bG _ _) ?_;rw[PF];have hR:kA l cu ai=⟨(Mk.tree 5 ⟨l,0,cu,ai,0⟩).1,(Mk.tree 5 ⟨l,0,cu,ai,0⟩).2.ah,false⟩:=rfl;rw[hR];generalize Mk.tree 5 ⟨l,0,cu,ai,0⟩=R;simp only[zW,simprocAttr,i64];refine ao mix [6] [] (by rfl) ?_;simp only[zW,simprocAttr,i64,cb,AR,zF,adx];simp only[zW,simprocAttr,Re.ae,dF,bV,i64]
end Go.Proofs.Ytphfjhaffbfpfaa
