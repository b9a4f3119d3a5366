/- A part of the proof (G4 G5 G6 G7). -/
import Derived.Test.YtmihcpdhcillaaaGreatBG2
import Derived.Test.YtmihcpdhcillaaaGreatBG3
import Derived.Test.YtmihcpdhcillaaaGreatBG6
set_option linter.unusedSimpArgs false
set_option linter.unusedVariables false
set_option maxRecDepth 100000
set_option maxHeartbeats 80000000
namespace Go.Proofs.YtmihcpdhcillaaaGreat
open Go.VL Go.Proofs.Tryz
theorem Gz (x:Int):br prog 101 [i64 x] (bV (oR x)):=by
 refine aw func101 rfl ntmps101 results101 rfl 0 5 (by simp) (by simp) ?_
 simp only[zX,simprocAttr,i64]
 repeat' (first
 |(with_reducible refine And.intro (by first|omega|exact⟨by omega,by omega⟩|(simp;done)) ?_)
 |(with_reducible refine je (fun hc=>?_) (fun hc=>?_) <;> simp only[zX,simprocAttr,i64,ge_iff_le,hc])
 |(with_reducible refine dR (fun hc=>?_) (fun hc=>?_) <;> simp only[zX,simprocAttr,i64,ge_iff_le,hc])
 |(with_reducible refine dQ (fun hc=>?_) (fun hc=>?_) <;> simp only[zX,simprocAttr,i64,ge_iff_le,hc])
 |(with_reducible refine de (fun hc=>?_) (fun hc=>?_) <;> simp only[zX,simprocAttr,i64,ge_iff_le,hc])
 |(with_reducible refine dh (fun hc=>?_) (fun hc=>?_) <;> simp only[zX,simprocAttr,i64,ge_iff_le,hc])
 |(with_reducible refine gi (fun hc=>?_) (fun hc=>?_) <;> simp only[zX,simprocAttr,i64,ge_iff_le,hc])
 |(with_reducible refine dP (fun hc=>?_) (fun hc=>?_) <;> simp only[zX,simprocAttr,i64,ge_iff_le,hc]))
 all_goals (simp only[oR,bV];simp [*];try omega)
theorem Qt (l:List (Int×Int)) (x:Int) (hl:l.length≤1000000000):br prog 81 [.d (.sl (l.map aT)),i64 x] (bV (nn l x)):=by
 refine aw func81 rfl ntmps81 results81 rfl 0 51 (by simp) (by simp) ?_
 simp only[zX,simprocAttr,i64]
 refine aX (fun n e s=>∃i:Nat,n=l.length-i∧i≤l.length∧e 0=.d (.sl (l.map aT))∧e 1=i64 x∧e 5=i64 i∧s=[]∧nn (l.take i) x=false)
  ⟨_,_,_,dw.refl,0,rfl,by omega,rfl,rfl,rfl,rfl,rfl⟩ ?_
 rintro n e s ⟨i,rfl,hi,h0,h1,h5,rfl,jk⟩
 rcases Xw i l.length with aS|lW
 ·obtain⟨y,hy⟩:∃y,l[i]?=some y:=⟨_,WZ aS⟩
  have hm:=W6 hy
  have hyes:decide (y.1≤x)=true→decide (x≤y.2)=true→nn l x=true:=fun h1 h2=>by
   unfold nn;rw[List.any_eq_true];exact⟨y,hm,by rw[h1,h2];rfl⟩
  have Qj:¬(y.1≤x∧x≤y.2)→nn (l.take (i+1)) x=false:=fun h=>by
   rw[dZ hy]
   unfold nn at jk ⊢
   rw[List.any_append,jk]
   have:(decide (y.1≤x)&&decide (x≤y.2))=false:=by
    rw[Xz];intro hc
    simp only[W7,decide_eq_true_eq]at hc
    exact h hc
   simp [this]
  by_cases c1:y.1≤x
  ·by_cases c2:x≤y.2
   ·rw[hyes (decide_eq_true c1) (decide_eq_true c2)]
    simp only[zX,simprocAttr,i64,h0,h1,h5,aS,hy,aT,iD,c1,c2]
    all_goals first|exact⟨rfl,rfl⟩|exact⟨rfl,trivial⟩|rfl|trivial|(rw[ay];rfl)
   ·simp only[zX,simprocAttr,i64,h0,h1,h5,aS,hy,aT,iD,c1,c2]
    refine⟨l.length-(i+1),_,_,by omega,dw.refl,i+1,rfl,aS,?_,?_,?_,rfl,Qj (fun h=>c2 h.2)⟩ <;> (try simp only[zU,Nat.reduceBEq,Nat.reduceShiftRight,Nat.reduceMod,Nat.reduceEqDiff,reduceIte])
    ·exact h0
    ·exact h1
    ·rw[bU _ (by omega)];rfl
  ·simp only[zX,simprocAttr,i64,h0,h1,h5,aS,hy,aT,iD,c1]
   refine⟨l.length-(i+1),_,_,by omega,dw.refl,i+1,rfl,aS,?_,?_,?_,rfl,Qj (fun h=>c1 h.1)⟩ <;> (try simp only[zU,Nat.reduceBEq,Nat.reduceShiftRight,Nat.reduceMod,Nat.reduceEqDiff,reduceIte])
   ·exact h0
   ·exact h1
   ·rw[bU _ (by omega)];rfl
 ·have iQ:i=l.length:=by omega
  subst iQ
  rw[XA]at jk
  rw[jk]
  simp only[zX,simprocAttr,i64,h0,h1,h5,XP]
  all_goals first|exact⟨rfl,rfl⟩|exact⟨rfl,trivial⟩|rfl|trivial|(rw[ay];rfl)
theorem iA {t:List Int}{i:Int} (h0:0≤i) (h1:i<t.length):t[i.toNat]?=some (fX t i):=by
 unfold fX
 rw[WZ (by omega)]
 simp [List.getD,WZ (show i.toNat<t.length by omega)]
theorem K2 (n:Int) (t:List Int) (i:Int) (ht:t.length≤1000000) (h0:0≤i) (h1:i≤t.length):br prog 84 [i64 n,.d (aB t),i64 i] (bV (bO n t i)):=by
 have w1:IntKind.i64.wrap (i-1)=i-1:=bU _ (by omega)
 have hw:=Gz (fX t (i-1))
 have OE:=Gz (fX t i)
 simp only[i64,bV]at hw OE
 have rE:(n=0)∨(¬n=0∧n=1)∨(¬n=0∧¬n=1∧n=2)∨(¬n=0∧¬n=1∧¬n=2∧n=3)∨(¬n=0∧¬n=1∧¬n=2∧¬n=3∧n=4)∨(¬n=0∧¬n=1∧¬n=2∧¬n=3∧¬n=4):=by omega
 have Qq:0<i→t[(i-1).toNat]?=some (fX t (i-1)):=fun h=>iA (by omega) (by omega)
 have PJ:i<t.length→t[i.toNat]?=some (fX t i):=fun h=>iA h0 h
 by_cases c1:0<i
 ·by_cases c2:i<(t.length:Int)
  ·have hl:mH t i=oR (fX t (i-1)):=by simp [mH,c1]
   have hr:ji t i=oR (fX t i):=by simp [ji,c2]
   have b1:0≤i-1:=by omega
   have b2:i-1<(t.length:Int):=by omega
   have g1:=Qq c1
   have n0:¬i=0:=by omega
   have eM:decide (i=0)=false:=decide_eq_false n0
   have g2:=PJ c2
   have n1:¬i=(t.length:Int):=by omega
   have rI:decide (i=(t.length:Int))=false:=decide_eq_false n1
   refine aw func84 rfl ntmps84 results84 rfl 0 1073742279 (by simp) (by simp) ?_
   simp only[zX,simprocAttr,i64,iD,aB,c1,c2,w1,gt_iff_lt,h0,g1,b1,b2,g2]
   refine aD hw rfl rfl ?_
   simp only[zX,simprocAttr,i64,iD,aB,c1,c2,w1,gt_iff_lt,h0,g1,b1,b2,g2]
   refine aD OE rfl rfl ?_
   rcases rE with a|⟨a,b⟩|⟨a,b,c⟩|⟨a,b,c,d⟩|⟨a,b,c,d,f⟩|⟨a,b,c,d,f⟩
   ·simp only[zX,simprocAttr,i64,iD,aB,c1,c2,w1,gt_iff_lt,h0,g1,b1,b2,g2,n0,n1,a]
    all_goals (simp only[bO,a,hl,hr,eM,rI,bV,Int.reduceEq,if_true,if_false,reduceIte,Xq,Xj];try rfl)
   ·simp only[zX,simprocAttr,i64,iD,aB,c1,c2,w1,gt_iff_lt,h0,g1,b1,b2,g2,n0,n1,a,b]
    all_goals (simp only[bO,a,b,hl,hr,eM,rI,bV,Int.reduceEq,if_true,if_false,reduceIte,Xq,Xj];try rfl)
   ·simp only[zX,simprocAttr,i64,iD,aB,c1,c2,w1,gt_iff_lt,h0,g1,b1,b2,g2,n0,n1,a,b,c]
    all_goals (simp only[bO,a,b,c,hl,hr,eM,rI,bV,Int.reduceEq,if_true,if_false,reduceIte,Xq,Xj];try rfl)
   ·simp only[zX,simprocAttr,i64,iD,aB,c1,c2,w1,gt_iff_lt,h0,g1,b1,b2,g2,n0,n1,a,b,c,d]
    all_goals (simp only[bO,a,b,c,d,hl,hr,eM,rI,bV,Int.reduceEq,if_true,if_false,reduceIte,Xq,Xj];try rfl)
   ·simp only[zX,simprocAttr,i64,iD,aB,c1,c2,w1,gt_iff_lt,h0,g1,b1,b2,g2,n0,n1,a,b,c,d,f]
    all_goals (simp only[bO,a,b,c,d,f,hl,hr,eM,rI,bV,Int.reduceEq,if_true,if_false,reduceIte,Xq,Xj];try rfl)
   ·simp only[zX,simprocAttr,i64,iD,aB,c1,c2,w1,gt_iff_lt,h0,g1,b1,b2,g2,n0,n1,a,b,c,d,f]
    all_goals (simp only[bO,a,b,c,d,f,hl,hr,eM,rI,bV,Int.reduceEq,if_true,if_false,reduceIte,Xq,Xj];try rfl)
  ·have hl:mH t i=oR (fX t (i-1)):=by simp [mH,c1]
   have hr:ji t i=false:=by simp [ji,c2]
   have b1:0≤i-1:=by omega
   have b2:i-1<(t.length:Int):=by omega
   have g1:=Qq c1
   have n0:¬i=0:=by omega
   have eM:decide (i=0)=false:=decide_eq_false n0
   have n1:i=(t.length:Int):=by omega
   have rI:decide (i=(t.length:Int))=true:=decide_eq_true n1
   refine aw func84 rfl ntmps84 results84 rfl 0 1073742279 (by simp) (by simp) ?_
   simp only[zX,simprocAttr,i64,iD,aB,c1,c2,w1,gt_iff_lt,h0,g1,b1,b2]
   refine aD hw rfl rfl ?_
   simp only[zX,simprocAttr,i64,iD,aB,c1,c2,w1,gt_iff_lt,h0,g1,b1,b2]
   have e1:(i=(t.length:Int))=True:=eq_true n1
   rcases rE with a|⟨a,b⟩|⟨a,b,c⟩|⟨a,b,c,d⟩|⟨a,b,c,d,f⟩|⟨a,b,c,d,f⟩
   ·simp only[zX,simprocAttr,i64,iD,aB,c1,c2,w1,gt_iff_lt,h0,g1,b1,b2,n0,e1,a]
    all_goals (simp only[bO,a,hl,hr,eM,rI,bV,Int.reduceEq,if_true,if_false,reduceIte,Xq,Xj];try rfl)
   ·simp only[zX,simprocAttr,i64,iD,aB,c1,c2,w1,gt_iff_lt,h0,g1,b1,b2,n0,e1,a,b]
    all_goals (simp only[bO,a,b,hl,hr,eM,rI,bV,Int.reduceEq,if_true,if_false,reduceIte,Xq,Xj];try rfl)
   ·simp only[zX,simprocAttr,i64,iD,aB,c1,c2,w1,gt_iff_lt,h0,g1,b1,b2,n0,e1,a,b,c]
    all_goals (simp only[bO,a,b,c,hl,hr,eM,rI,bV,Int.reduceEq,if_true,if_false,reduceIte,Xq,Xj];try rfl)
   ·simp only[zX,simprocAttr,i64,iD,aB,c1,c2,w1,gt_iff_lt,h0,g1,b1,b2,n0,e1,a,b,c,d]
    all_goals (simp only[bO,a,b,c,d,hl,hr,eM,rI,bV,Int.reduceEq,if_true,if_false,reduceIte,Xq,Xj];try rfl)
   ·simp only[zX,simprocAttr,i64,iD,aB,c1,c2,w1,gt_iff_lt,h0,g1,b1,b2,n0,e1,a,b,c,d,f]
    all_goals (simp only[bO,a,b,c,d,f,hl,hr,eM,rI,bV,Int.reduceEq,if_true,if_false,reduceIte,Xq,Xj];try rfl)
   ·simp only[zX,simprocAttr,i64,iD,aB,c1,c2,w1,gt_iff_lt,h0,g1,b1,b2,n0,e1,a,b,c,d,f]
    all_goals (simp only[bO,a,b,c,d,f,hl,hr,eM,rI,bV,Int.reduceEq,if_true,if_false,reduceIte,Xq,Xj];try rfl)
 ·by_cases c2:i<(t.length:Int)
  ·have hl:mH t i=false:=by simp [mH,c1]
   have hr:ji t i=oR (fX t i):=by simp [ji,c2]
   have n0:i=0:=by omega
   have eM:decide (i=0)=true:=decide_eq_true n0
   have g2:=PJ c2
   have n1:¬i=(t.length:Int):=by omega
   have rI:decide (i=(t.length:Int))=false:=decide_eq_false n1
   refine aw func84 rfl ntmps84 results84 rfl 0 1073742279 (by simp) (by simp) ?_
   simp only[zX,simprocAttr,i64,iD,aB,c1,c2,w1,gt_iff_lt,h0,g2]
   refine aD OE rfl rfl ?_
   have e0:(i=0)=True:=eq_true n0
   rcases rE with a|⟨a,b⟩|⟨a,b,c⟩|⟨a,b,c,d⟩|⟨a,b,c,d,f⟩|⟨a,b,c,d,f⟩
   ·simp only[zX,simprocAttr,i64,iD,aB,c1,c2,w1,gt_iff_lt,h0,g2,n1,e0,a]
    all_goals (simp only[bO,a,hl,hr,eM,rI,bV,Int.reduceEq,if_true,if_false,reduceIte,Xq,Xj];try rfl)
   ·simp only[zX,simprocAttr,i64,iD,aB,c1,c2,w1,gt_iff_lt,h0,g2,n1,e0,a,b]
    all_goals (simp only[bO,a,b,hl,hr,eM,rI,bV,Int.reduceEq,if_true,if_false,reduceIte,Xq,Xj];try rfl)
   ·simp only[zX,simprocAttr,i64,iD,aB,c1,c2,w1,gt_iff_lt,h0,g2,n1,e0,a,b,c]
    all_goals (simp only[bO,a,b,c,hl,hr,eM,rI,bV,Int.reduceEq,if_true,if_false,reduceIte,Xq,Xj];try rfl)
   ·simp only[zX,simprocAttr,i64,iD,aB,c1,c2,w1,gt_iff_lt,h0,g2,n1,e0,a,b,c,d]
    all_goals (simp only[bO,a,b,c,d,hl,hr,eM,rI,bV,Int.reduceEq,if_true,if_false,reduceIte,Xq,Xj];try rfl)
   ·simp only[zX,simprocAttr,i64,iD,aB,c1,c2,w1,gt_iff_lt,h0,g2,n1,e0,a,b,c,d,f]
    all_goals (simp only[bO,a,b,c,d,f,hl,hr,eM,rI,bV,Int.reduceEq,if_true,if_false,reduceIte,Xq,Xj];try rfl)
   ·simp only[zX,simprocAttr,i64,iD,aB,c1,c2,w1,gt_iff_lt,h0,g2,n1,e0,a,b,c,d,f]
    all_goals (simp only[bO,a,b,c,d,f,hl,hr,eM,rI,bV,Int.reduceEq,if_true,if_false,reduceIte,Xq,Xj];try rfl)
  ·have hl:mH t i=false:=by simp [mH,c1]
   have hr:ji t i=false:=by simp [ji,c2]
   have n0:i=0:=by omega
   have eM:decide (i=0)=true:=decide_eq_true n0
   have n1:i=(t.length:Int):=by omega
   have rI:decide (i=(t.length:Int))=true:=decide_eq_true n1
   refine aw func84 rfl ntmps84 results84 rfl 0 1073742279 (by simp) (by simp) ?_
   simp only[zX,simprocAttr,i64,iD,aB,c1,c2,w1,gt_iff_lt,h0]
   have e0:(i=0)=True:=eq_true n0
   have e1:(i=(t.length:Int))=True:=eq_true n1
   rcases rE with a|⟨a,b⟩|⟨a,b,c⟩|⟨a,b,c,d⟩|⟨a,b,c,d,f⟩|⟨a,b,c,d,f⟩
   ·simp only[zX,simprocAttr,i64,iD,aB,c1,c2,w1,gt_iff_lt,h0,e0,e1,a]
    all_goals (simp only[bO,a,hl,hr,eM,rI,bV,Int.reduceEq,if_true,if_false,reduceIte,Xq,Xj];try rfl)
   ·simp only[zX,simprocAttr,i64,iD,aB,c1,c2,w1,gt_iff_lt,h0,e0,e1,a,b]
    all_goals (simp only[bO,a,b,hl,hr,eM,rI,bV,Int.reduceEq,if_true,if_false,reduceIte,Xq,Xj];try rfl)
   ·simp only[zX,simprocAttr,i64,iD,aB,c1,c2,w1,gt_iff_lt,h0,e0,e1,a,b,c]
    all_goals (simp only[bO,a,b,c,hl,hr,eM,rI,bV,Int.reduceEq,if_true,if_false,reduceIte,Xq,Xj];try rfl)
   ·simp only[zX,simprocAttr,i64,iD,aB,c1,c2,w1,gt_iff_lt,h0,e0,e1,a,b,c,d]
    all_goals (simp only[bO,a,b,c,d,hl,hr,eM,rI,bV,Int.reduceEq,if_true,if_false,reduceIte,Xq,Xj];try rfl)
   ·simp only[zX,simprocAttr,i64,iD,aB,c1,c2,w1,gt_iff_lt,h0,e0,e1,a,b,c,d,f]
    all_goals (simp only[bO,a,b,c,d,f,hl,hr,eM,rI,bV,Int.reduceEq,if_true,if_false,reduceIte,Xq,Xj];try rfl)
   ·simp only[zX,simprocAttr,i64,iD,aB,c1,c2,w1,gt_iff_lt,h0,e0,e1,a,b,c,d,f]
    all_goals (simp only[bO,a,b,c,d,f,hl,hr,eM,rI,bV,Int.reduceEq,if_true,if_false,reduceIte,Xq,Xj];try rfl)
theorem GY (c:ar) (n:Int) (hc:c.length≤1000000000):br prog 82 [.d (bH c),i64 n] (.ag [i64 (bm c n).1,i64 (bm c n).2]):=by
 by_cases c1:n<1
 ·have hs:bm c n=(-1,-1):=by simp [bm,c1]
  rw[hs]
  refine aw func82 rfl ntmps82 results82 rfl 0 19 (by simp) (by simp) ?_
  simp only[zX,simprocAttr,i64,iD,bH,aT,c1]
 ·by_cases c2:(c.length:Int)<n
  ·have hs:bm c n=(-1,-1):=by simp [bm,c2]
   rw[hs]
   refine aw func82 rfl ntmps82 results82 rfl 0 19 (by simp) (by simp) ?_
   simp only[zX,simprocAttr,i64,iD,bH,aT,c1,c2,gt_iff_lt]
  ·have hs:bm c n=c.getD (n-1).toNat (-1,-1):=by rw[bm,if_neg (by omega)]
   have w1:IntKind.i64.wrap (n-1)=n-1:=bU _ (by omega)
   have aS:(n-1).toNat<c.length:=by omega
   have hg:c[(n-1).toNat]?=some c[(n-1).toNat]:=WZ aS
   have b1:0≤n-1:=by omega
   have b2:n-1<(c.length:Int):=by omega
   rw[hs,List.getD,hg,Option.getD_some]
   refine aw func82 rfl ntmps82 results82 rfl 0 19 (by simp) (by simp) ?_
   simp only[zX,simprocAttr,i64,iD,bH,aT,c1,c2,gt_iff_lt,w1,hg,b1,b2]
theorem Mb (c:ar) (n cT to:Int) (hc:c.length≤1000000000):br prog 51 [.d (bH c),i64 n,i64 cT,i64 to] (.d (bH (ku c n cT to))):=by
 have Ot:∀e∈(c.map aT).map (fun x=>x.map V.d),e.length=2:=fun e he=>by
  obtain⟨x,hx,rfl⟩:=List.mem_map.1 he
  obtain⟨p,_,rfl⟩:=List.mem_map.1 hx
  rfl
 refine aw func51 rfl ntmps51 results51 rfl 0 783 (by simp) (by simp) ?_
 simp only[zX,simprocAttr,i64,bH]
 refine⟨Ot,⟨by omega,by simp⟩,?_⟩
 by_cases c1:1≤n
 ·by_cases c2:n≤(c.length:Int)
  ·have w1:IntKind.i64.wrap (n-1)=n-1:=bU _ (by omega)
   have aS:(n-1).toNat<c.length:=by omega
   have b1:0≤n-1:=by omega
   have b2:n-1<(c.length:Int):=by omega
   have hw:ku c n cT to=c.set (n-1).toNat (cT,to):=by rw[ku,if_pos ⟨c1,c2⟩]
   have cC:((c.map aT).map (fun x=>x.map V.d)).set (n-1).toNat [i64 cT,i64 to]=((c.set (n-1).toNat (cT,to)).map aT).map (fun x=>x.map V.d):=by
    rw[List.map_set,List.map_set];rfl
   have VU:c[(n-1).toNat]?=some c[(n-1).toNat]:=WZ aS
   rw[hw]
   simp only[zX,simprocAttr,i64,Xi,c1,c2,w1,aS,b1,b2,VU,aT]
   simp only[i64]at cC
   rw[cC,nz 7 0 _ _ _ (by simp),if_pos (by simp)]
   rfl
  ·have hw:ku c n cT to=c:=by rw[ku,if_neg (by omega)]
   rw[hw]
   simp only[zX,simprocAttr,i64,Xi,c1,c2]
   rw[nz 7 0 _ _ _ (by simp),if_pos (by simp)]
   rfl
 ·have hw:ku c n cT to=c:=by rw[ku,if_neg (by omega)]
  rw[hw]
  simp only[zX,simprocAttr,i64,Xi,c1]
  rw[nz 7 0 _ _ _ (by simp),if_pos (by simp)]
  rfl
theorem Ma (n:Int) (hn:n≤1000000):br prog 32 [i64 n] (.d (bH (List.replicate n.toNat (-1,-1)))):=by
 refine aw func32 rfl ntmps32 results32 rfl 0 29 (by simp) (by simp) ?_
 simp only[BU,zj,zl,simprocAttr,nL,i64]
 refine aX (fun m e s=>∃i:Nat,m=n.toNat-i∧i≤n.toNat∧e 0=i64 n∧e 4=i64 i∧Acc [] 2 (e 3) s ((List.replicate i (-1,-1)).map aT))
  ⟨_,_,_,dw.refl,0,rfl,by omega,rfl,rfl,.inl ⟨rfl,rfl⟩⟩ ?_
 rintro m e s ⟨i,rfl,hi,h0,h4,ky⟩
 rcases Xw i n.toNat with aS|lW
 ·have cG:(i:Int)<n:=by omega
  simp only[BU,zj,zl,simprocAttr,nL,i64,h0,h4,cG]
  refine ky.append ON rfl (by decide) (by decide) (by intro y hy;obtain⟨z,_,rfl⟩:=List.mem_map.1 hy;rfl) (by simp) (by simp) (by simp only[W1,XD,W3,Xa];omega) (fun v' s' DP=>?_)
  simp only[BU,zj,zl,simprocAttr,nL,i64,h0,h4]
  refine⟨n.toNat-(i+1),_,_,by omega,dw.refl,i+1,rfl,aS,?_,?_,?_⟩ <;> (try simp only[zU,Nat.reduceBEq,Nat.reduceShiftRight,Nat.reduceMod,Nat.reduceEqDiff,reduceIte])
  ·exact h0
  ·rw[bU _ (by omega)];rfl
  ·rw[List.replicate_succ',XC];exact DP
 ·have iQ:i=n.toNat:=by omega
  subst iQ
  have cG:¬(n.toNat:Int)<n:=by omega
  simp only[BU,zj,zl,simprocAttr,nL,i64,h0,h4,cG]
  rw[ky.Rx (by simp)]
  rfl
theorem nD {α:Type} (l:List α) (f:α→D) (n:Nat):((l.map fun x=>[V.d (f x)]).all fun e=>e.all (ao n))=true:=by
 rw[Xn]
 intro e he
 obtain⟨x,_,rfl⟩:=List.mem_map.1 he
 rfl
def dE (g0:Nat) (t:List Int) (ah F:Int) (st:aQ):VL.Obj :=
 ⟨g0,true,7,[[.d (aB t),i64 ah,i64 F,i64 st.steps,bV st.empty,.so 1 st.ends.length 0 st.ends.length,.so 2 st.ends.length 0 st.ak.length]]⟩
def b6 (g0:Nat) (t:List Int) (ah F:Int) (st:aQ):List VL.Obj :=
 [dE g0 t ah F st,⟨st.ends.length,true,1,st.ends.map fun x=>[V.d (iD x)]⟩,⟨st.ends.length,true,1,st.ak.map fun c=>[V.d (bH c)]⟩]
theorem LZ (g0:Nat) (t:List Int) (ah F:Int) (st:aQ) (h0:0≤st.steps) (h1:st.steps≤10000000000000) :
  av prog 80 [.rf 0 g0 0 0] (b6 g0 t ah F st) fun v s=>v=bV (!(st.step F).empty)∧s=b6 g0 t ah F (st.step F):=by
 have w1:IntKind.i64.wrap (st.steps+1)=st.steps+1:=bU _ (by omega)
 unfold b6 dE aQ.step
 by_cases c:F<st.steps+1
 ·refine aw func80 rfl ntmps80 results80 rfl 3 5 (by simp) (by simp) ?_
  simp only[zX,simprocAttr,i64,bV,w1]
  refine aq mix [] [] (by rfl) ?_
  simp only[zX,simprocAttr,i64,bV,w1,gt_iff_lt,c,Bool.or_true]
  simp only[nD,Bool.and_self]
 ·refine aw func80 rfl ntmps80 results80 rfl 3 5 (by simp) (by simp) ?_
  simp only[zX,simprocAttr,i64,bV,w1]
  refine aq mix [] [] (by rfl) ?_
  simp only[zX,simprocAttr,i64,bV,w1,gt_iff_lt,c,decide_eq_false c,X7]
  simp only[nD,Bool.and_self]
def eW:Task→FuncId
 |.run _ _ _=>31
 |.rep _ _ _=>50
 |.node _ _ _=>52
def eB (g0:Nat):Task→List V
 |.run g i c=>[.rf 0 g0 0 0,.d g.d,i64 i,.d (bH c)]
 |.rep g i c=>[.rf 0 g0 0 0,.d g.d,i64 i,.d (bH c)]
 |.node g i c=>[.rf 0 g0 0 0,.d g.d,i64 i,.d (bH c)]
def iM (t:List Int) (F:Int) (n:Nat):Prop:=∀g0 ah task st b st',dA t F n ah task st=some (b,st')→av prog (eW task) (eB g0 task) (b6 g0 t ah F st) fun v s=>v=bV b∧s=b6 g0 t ah F st'
theorem sa {α:Type} (ρ:List Nat) (g:Nat) (lv:Bool) (z:Nat) (l:List α) (f:α→D):bX ρ ⟨g,lv,z,l.map fun x=>[V.d (f x)]⟩=⟨g,lv,z,l.map fun x=>[V.d (f x)]⟩:=by
 simp only[bX,XS]
 congr 1
theorem Gr (g0:Nat) (t:List Int) (ah F:Int) (st:aQ):bX [0,1,2] (dE g0 t ah F st)=dE g0 t ah F st:=rfl
theorem aU (l1:List Int) (l2:List ar):(((l1.map fun x=>[V.d (D.sc (Value.int IntKind.i64 x))]).all fun e=>e.all (ao 3))&&((l2.map fun c=>[V.d (bH c)]).all fun e=>e.all (ao 3)))=true:=by
 rw[W7]
 exact⟨nD l1 iD 3,nD l2 bH 3⟩
theorem Goal.bt (kind:Int) (re:Re) (k cT:Int) (next:Goal):(Goal.mk kind re k cT next).d=.el [iD kind,iD re.op,.sl (re.set.map aT),.sl (re.kids.map Re.cells),iD re.mn,iD re.mx,iD re.mode,iD re.n,bD re.neg,iD k,iD cT,next.d]:=by
 rw[Goal.d,Re.ae];rfl
theorem sK {f:FuncId}{g0:Nat}{cargs:List V}{t:List Int}{ah F:Int}{st st':aQ}{b:V}{ext:List VL.Obj}{K:V→List VL.Obj→Prop}
  (h:av prog f cargs (b6 g0 t ah F st) fun v s=>v=b∧s=b6 g0 t ah F st') (ha:cargs.map (bF [0,1,2])=cargs) (td:ao.go 3 cargs=true) (hb:bF [0,1,2] b=b) (hk:K b (b6 g0 t ah F st'++ext)) :
  av prog f cargs (b6 g0 t ah F st++ext) K:=by
 refine jt [0,1,2] h (by decide) rfl ?_ ha.symm td ?_ hb ?_
 ·unfold b6
  simp only[WU,WV,WR,WS,W9,Xy,Gr,sa]
 ·unfold b6 dE
  simp only[List.all_cons,List.all_nil,cU,nD]
  simp [ao,ao.go,i64,bV]
 ·have:aZ (b6 g0 t ah F st++ext) [0,1,2] ((b6 g0 t ah F st').map (bX [0,1,2]))=b6 g0 t ah F st'++ext:=by
   unfold b6
   simp only[WU,WV,WR,WS,Gr,sa,aZ,Xh,Xl]
  rw[this];exact hk
theorem DV (g0:Nat) (task:Task):(eB g0 task).map (bF [0,1,2])=eB g0 task:=by cases task <;> rfl
theorem z7 (g0:Nat) (task:Task):ao.go 3 (eB g0 task)=true:=by cases task <;> rfl
theorem fl {t:List Int}{ah F:Int}{g0:Nat}{task:Task}{st st':aQ}{b:Bool} (h:av prog (eW task) (eB g0 task) (b6 g0 t ah F st) fun v s=>v=bV b∧s=b6 g0 t ah F st') (ext:List VL.Obj) :
  av prog (eW task) (eB g0 task) (b6 g0 t ah F st++ext) fun v s=>v=bV b∧s=b6 g0 t ah F st'++ext:=sK h (DV g0 _) (z7 g0 _) rfl ⟨rfl,rfl⟩
def ja:Option (Int×ar)→V
 |none=>.tu [i64 0,.d (.sl []),bV false]
 |some (e,d)=>.tu [i64 e,.d (bH d),bV true]
theorem B5 {t:List Int}{F:Int}{n:Nat} (ih:iM t F n) {g0:Nat}{ah:Int}{g:Goal}{i:Int}{c:ar}{st st':aQ}{r:Option (Int×ar)} (hr:bJ (dA t F n) g i c st=some (r,st')) :
  av prog 79 [.rf 0 g0 0 0,.d g.d,i64 i,.d (bH c)] (b6 g0 t ah F st) fun v s=>v=ja r∧s=b6 g0 t ah F st':=by
 unfold bJ at hr
 cases hx:dA t F n 1 (.run g i c) ⟨st.steps,false,[],[]⟩ with
 |none=>rw[hx]at hr;cases hr
 |some bx =>
  obtain⟨b,x⟩:=bx
  rw[hx]at hr
  simp only at hr
  have c8:=ih 1 _ _ _ _ _ hx
  unfold b6 dE eW eB at c8
  unfold b6 dE
  simp only[i64,bV]at c8
  refine aw func79 rfl ntmps79 results79 rfl 3 3855 (by simp) (by simp) ?_
  simp only[zX,simprocAttr,i64,bV]
  refine aH bM.aP ?_
  refine aq mix [] [(13,[3],[3])] (by rfl) ?_
  simp only[zX,simprocAttr,i64,bV,hole]
  refine kP (pre:=[.d (aB t),.d (.sc (.int .i64 1)),.d (.sc (.int .i64 F)),.d (.sc (.int .i64 st.steps)),.d (.sc (.bool false))]) (post:=[.fu []]) 3 1 rfl rfl rfl ?_
  simp only[Xl,Xh,WR,WS,W3,Xa,Nat.reduceAdd]
  refine kP (pre:=[.d (aB t),.d (.sc (.int .i64 1)),.d (.sc (.int .i64 F)),.d (.sc (.int .i64 st.steps)),.d (.sc (.bool false)),.so 4 0 0 0]) (post:=[]) 3 1 rfl rfl rfl ?_
  simp only[Xl,Xh,WR,WS,W3,Xa,Nat.reduceAdd]
  refine jt [3,4,5] c8 (by decide) rfl rfl rfl rfl ?_ rfl ?_
  ·rfl
  simp only[WU,WV,sa,aZ,Xh,Xl,bX,bF,bF.go,List.getD_cons_zero,List.getD_cons_succ]
  obtain⟨xs,xe,fD,lL⟩:=x
  simp only at hr
  cases xe with
  |true =>
   simp only[if_true,WX,Xs]at hr
   obtain⟨rfl,rfl⟩:=hr
   simp only[zX,simprocAttr,i64,bV]
   exact⟨by simp only[nD,Bool.and_self],rfl⟩
  |false =>
   simp only[W2,if_false]at hr
   cases fD with
   |nil =>
    simp only[WX,Xs]at hr
    obtain⟨rfl,rfl⟩:=hr
    simp only[zX,simprocAttr,i64,bV,Xa,W8]
    exact⟨by simp only[nD,Bool.and_self],rfl⟩
   |cons e es =>
    cases lL with
    |nil=>cases hr
    |cons d ds =>
     simp only[WX,Xs]at hr
     obtain⟨rfl,rfl⟩:=hr
     have gr:¬((es.length:Int)+1=0):=by omega
     simp only[zX,simprocAttr,i64,bV,W3,XY,Int.natCast_one,gr]
     refine aq mix [] [] (by rfl) ?_
     simp only[bF.go,bF]
     simp only[zX,simprocAttr,i64,bV,iD,W3]
     refine⟨by omega,by omega,?_,rfl⟩
     rw[W7]
     exact⟨nD st.ends iD 3,nD st.ak bH 3⟩
theorem HA (r:Option (Int×ar)):bF [0,1,2] (ja r)=ja r:=by cases r <;> rfl
theorem uO {t:List Int}{F:Int}{n:Nat} (ih:iM t F n) {g0:Nat}{ah:Int}{g:Goal}{i:Int}{c:ar}{st st':aQ}{r:Option (Int×ar)} (hr:bJ (dA t F n) g i c st=some (r,st')) (ext:List VL.Obj) :
  av prog 79 [.rf 0 g0 0 0,.d g.d,i64 i,.d (bH c)] (b6 g0 t ah F st++ext) fun v s=>v=ja r∧s=b6 g0 t ah F st'++ext :=
 sK (B5 ih hr) rfl rfl (HA r) ⟨rfl,rfl⟩
theorem CS (g0:Nat) (t:List Int) (ah F:Int) (st:aQ) (h0:0≤st.steps) (h1:st.steps≤10000000000000) (ext:List VL.Obj) :
  av prog 80 [.rf 0 g0 0 0] (b6 g0 t ah F st++ext) fun v s=>v=bV (!(st.step F).empty)∧s=b6 g0 t ah F (st.step F)++ext :=
 sK (LZ g0 t ah F st h0 h1) rfl rfl rfl ⟨rfl,rfl⟩
theorem Md {t:List Int}{F:Int}{g0:Nat}{ah:Int}{i:Int}{c:ar}{st:aQ} (he:st.ends.length<2000000000000) (hs:st.ak.length=st.ends.length) :
  av prog 31 [.rf 0 g0 0 0,.d Goal.nil.d,i64 i,.d (bH c)] (b6 g0 t ah F st) fun v s=>v=bV (decide (0≤ah)&&decide (ah≤(st.ends.length:Int)+1))∧s=b6 g0 t ah F { st with ends:=st.ends++[i],ak:=st.ak++[c] }:=by
 obtain⟨steps,empty,ends,ak⟩:=st
 simp only at he hs
 have hd:Goal.nil.d=.sc (.pointer none):=rfl
 have Ww:(bH c)=.sl (c.map aT):=rfl
 have t1:(ends.map fun x=>[V.d (iD x)]).take ends.length=ends.map fun x=>[V.d (iD x)]:=Xv (by simp)
 have t2:(ak.map fun c=>[V.d (bH c)]).take ends.length=ak.map fun c=>[V.d (bH c)]:=Xv (by simp [hs])
 unfold b6 dE
 simp only[hs]
 refine aw func31 rfl ntmps31 results31 rfl 3 2251799813685519 (by simp) (by simp) ?_
 simp only[zX,simprocAttr,i64,bV,hd,iD]
 refine⟨⟨_,rfl⟩,by simp,⟨by omega,by omega⟩,by simp,⟨by omega,by omega⟩,?_⟩
 simp only[iD]at t1
 rw[t1,t2]
 have l1:(ends++[i]).length=ends.length+1:=by simp
 have l2:(ak++[c]).length=ends.length+1:=by simp [hs]
 have m1:(ends++[i]).map (fun x=>[V.d (D.sc (Value.int .i64 x))])=ends.map (fun x=>[V.d (D.sc (Value.int .i64 x))])++[[V.d (D.sc (Value.int .i64 i))]]:=by simp
 have m2:(ak++[c]).map (fun c=>[V.d (bH c)])=ak.map (fun c=>[V.d (bH c)])++[[V.d (bH c)]]:=by simp
 rw[l1,l2,m1,m2]
 have fM:(((ends.map (fun x=>[V.d (D.sc (Value.int .i64 x))])++[[V.d (D.sc (Value.int .i64 i))]]).all fun e=>e.all (ao 3))&&((ak.map (fun c=>[V.d (bH c)])++[[V.d (bH c)]]).all fun e=>e.all (ao 3)))=true:=by
  rw[← m1,← m2];exact aU _ _
 generalize ends.map (fun x=>[V.d (D.sc (Value.int .i64 x))])++[[V.d (D.sc (Value.int .i64 i))]]=E1 at *
 generalize ak.map (fun c=>[V.d (bH c)])++[[V.d (bH c)]]=C1 at *
 refine aq mix [] [] (by rfl) ?_
 by_cases q:0≤ah
 ·simp only[zX,simprocAttr,i64,bV,iD,ge_iff_le,q,decide_true,X0,XY,Int.natCast_one]
  exact fM
 ·simp only[zX,simprocAttr,i64,bV,iD,ge_iff_le,q,decide_false,Bool.false_and]
  exact fM
theorem run_mk {t:List Int}{F:Int}{n:Nat} (ih:iM t F n) {g0:Nat}{ah:Int}{kind:Int}{re:Re}{k cT:Int}{next:Goal}{i:Int}{c:ar}{st st':aQ}{b:Bool}
  (hr:bI t F (dA t F n) ah (.run (.mk kind re k cT next) i c) st=some (b,st')) :
  av prog 31 [.rf 0 g0 0 0,.d (Goal.mk kind re k cT next).d,i64 i,.d (bH c)] (b6 g0 t ah F st) fun v s=>v=bV b∧s=b6 g0 t ah F st':=by
 simp only[bI]at hr
 by_cases hi:i<0∨(t.length:Int)<i
 ·rw[if_pos hi]at hr;cases hr
 rw[if_neg hi]at hr
 by_cases k1:kind=1
 ·rw[if_pos k1]at hr
  have hc:=ih g0 _ _ _ _ _ hr
  unfold eW eB b6 dE at hc;simp only[Goal.bt,i64,iD,bD,bV]at hc
  simp only[k1]at hc
  unfold b6 dE
  refine aw func31 rfl ntmps31 results31 rfl 3 2251799813685519 (by simp) (by simp) ?_
  simp only[zX,simprocAttr,i64,bV,Goal.bt,iD,bD,k1]
  refine⟨⟨_,rfl⟩,?_⟩
  (refine aj hc (fun v s' hv=>?_);obtain⟨rfl,rfl⟩:=hv)
  simp only[zX,simprocAttr,i64,bV,iD]
  exact aU _ _
 rw[if_neg k1]at hr
 by_cases k2:kind=2
 ·rw[if_pos k2]at hr
  by_cases c1:re.mn≤k∧i=cT
  ·rw[if_pos c1]at hr
   simp only[WX,Xs]at hr
   obtain⟨rfl,rfl⟩:=hr
   unfold b6 dE
   refine aw func31 rfl ntmps31 results31 rfl 3 2251799813685519 (by simp) (by simp) ?_
   simp only[zX,simprocAttr,i64,bV,Goal.bt,iD,bD,k2]
   refine⟨⟨_,rfl⟩,?_⟩
   refine aq mix [] [] (by rfl) ?_
   simp only[zX,simprocAttr,i64,bV,iD,ge_iff_le,c1.1,c1.2]
   exact aU _ _
  rw[if_neg c1]at hr
  by_cases c2:k<0∨10000000000000<k
  ·rw[if_pos c2]at hr;cases hr
  rw[if_neg c2]at hr
  have IL:=ih g0 _ _ _ _ _ hr
  have hc:∀X,av prog _ _ (b6 g0 t ah F st++[X]) (fun v s=>v=bV b∧s=b6 g0 t ah F st'++[X]):=fun X=>sK IL (DV g0 _) (z7 g0 _) rfl ⟨rfl,rfl⟩
  unfold eW eB b6 dE at hc;simp only[Goal.bt,i64,iD,bD,bV]at hc
  simp only[WR,WS]at hc
  have w1:IntKind.i64.wrap (k+1)=k+1:=bU _ (by omega)
  unfold b6 dE
  refine aw func31 rfl ntmps31 results31 rfl 3 2251799813685519 (by simp) (by simp) ?_
  simp only[zX,simprocAttr,i64,bV,Goal.bt,iD,bD,k2]
  refine⟨⟨_,rfl⟩,?_⟩
  refine aq mix [] [] (by rfl) ?_
  by_cases q1:re.mn≤k
  case' pos =>
   have q2:¬i=cT:=fun h=>c1 ⟨q1,h⟩
   simp only[zX,simprocAttr,i64,bV,iD,ge_iff_le,q1,q2]
  case' neg =>
   simp only[zX,simprocAttr,i64,bV,iD,ge_iff_le,q1]
  all_goals
   refine aH bM.aP ?_
   refine aq mix [18] [(15,[3],[3])] (by rfl) ?_
   simp only[zX,simprocAttr,i64,bV,iD,bD,hole,w1]
   refine bu (aO [3] ?_ (hc _)) ?_
   ·simp [aM,bf,aR.go,aR,bN]
   ·simp only[zX,simprocAttr,i64,bV,iD]
    exact aU _ _
 rw[if_neg k2]at hr
 by_cases k3:kind=3
 ·rw[if_pos k3]at hr
  by_cases c1:1000000000<c.length
  ·rw[if_pos c1]at hr;cases hr
  rw[if_neg c1]at hr
  have hc:=ih g0 _ _ _ _ _ hr
  unfold eW eB b6 dE at hc;simp only[Goal.bt,i64,iD,bD,bV]at hc
  have hw:=Mb c re.n cT i (by omega)
  simp only[i64]at hw
  unfold b6 dE
  refine aw func31 rfl ntmps31 results31 rfl 3 2251799813685519 (by simp) (by simp) ?_
  simp only[zX,simprocAttr,i64,bV,Goal.bt,iD,bD,k3]
  refine⟨⟨_,rfl⟩,?_⟩
  refine aq mix [18] [] (by rfl) ?_
  simp only[zX,simprocAttr,i64,bV,iD,bD]
  refine cP hw rfl rfl ?_
  simp only[zX,simprocAttr,i64,bV,iD,bD]
  refine bu hc ?_
  simp only[zX,simprocAttr,i64,bV,iD]
  exact aU _ _
 rw[if_neg k3]at hr
 by_cases k4:kind=4
 ·rw[if_pos k4]at hr
  by_cases c1:i=cT
  ·rw[if_pos c1]at hr
   have hc:=ih g0 _ _ _ _ _ hr
   unfold eW eB b6 dE at hc;simp only[Goal.bt,i64,iD,bD,bV]at hc
   unfold b6 dE
   refine aw func31 rfl ntmps31 results31 rfl 3 2251799813685519 (by simp) (by simp) ?_
   simp only[zX,simprocAttr,i64,bV,Goal.bt,iD,bD,k4]
   refine⟨⟨_,rfl⟩,?_⟩
   simp only[zX,simprocAttr,i64,bV,iD,bD,c1]
   simp only[c1]at hc
   (refine aj hc (fun v s' hv=>?_);obtain⟨rfl,rfl⟩:=hv)
   simp only[zX,simprocAttr,i64,bV,iD]
   exact aU _ _
  ·rw[if_neg c1]at hr
   simp only[WX,Xs]at hr
   obtain⟨rfl,rfl⟩:=hr
   unfold b6 dE
   refine aw func31 rfl ntmps31 results31 rfl 3 2251799813685519 (by simp) (by simp) ?_
   simp only[zX,simprocAttr,i64,bV,Goal.bt,iD,bD,k4,c1]
   exact⟨⟨_,rfl⟩,aU _ _⟩
 rw[if_neg k4]at hr
 have hc:=ih g0 _ _ _ _ _ hr
 unfold eW eB b6 dE at hc;simp only[Goal.bt,i64,iD,bD,bV]at hc
 unfold b6 dE
 refine aw func31 rfl ntmps31 results31 rfl 3 2251799813685519 (by simp) (by simp) ?_
 simp only[zX,simprocAttr,i64,bV,Goal.bt,iD,bD,k1,k2,k3,k4]
 refine⟨⟨_,rfl⟩,?_⟩
 (refine aj hc (fun v s' hv=>?_);obtain⟨rfl,rfl⟩:=hv)
 simp only[zX,simprocAttr,i64,bV,iD]
 exact aU _ _
end Go.Proofs.YtmihcpdhcillaaaGreat
