/- A part of the proof (G4 G5 G6 G7). -/
import Derived.Test.YtphfjhaffbfpfaaPM2
import Derived.Test.YtphfjhaffbfpfaaPM3
import Derived.Test.YtphfjhaffbfpfaaPM7
set_option linter.all false
set_option maxRecDepth 100000
set_option maxHeartbeats 80000000
namespace Go.Proofs.Ytphfjhaffbfpfaa
open Go.VL Go.Proofs.Try
variable{t:List Int}{i:Int}{st:bd}{g0:Nat}{F:Int}{ai:Int}{st':bd}{b:Bool}{c:aC}{r:Option (Int×aC)}{g:Goal}{n:Nat}
theorem KS (x:Int):ba prog 98 [i64 x] (bV (qn x)):=by
 refine ar func98 rfl ntmps98 results98 rfl 0 5 (by simp) (by simp) ?_;simp only[zX,simprocAttr,i64]
 repeat' (first
 |(with_reducible refine And.intro (by first|omega|exact⟨by omega,by omega⟩|(simp;done)) ?_)
 |(with_reducible first|refine jh (λhc=>?_) (λhc=>?_)|refine dG (λhc=>?_) (λhc=>?_)|refine dN (λhc=>?_) (λhc=>?_)|refine dd (λhc=>?_) (λhc=>?_)|refine de (λhc=>?_) (λhc=>?_)|refine gv (λhc=>?_) (λhc=>?_)|refine dM (λhc=>?_) (λhc=>?_))<;>simp only[zX,simprocAttr,i64,ge_iff_le,hc])
 all_goals (simp only[qn,bV];simp [*];try omega)
theorem WX (l:List (Int×Int)) (x:Int) (hl:l.length<=1000000000):ba prog 90 [.d (.sl (l.map aN)),i64 x] (bV (tv l x)):=by
 refine ar func90 rfl ntmps90 results90 rfl 0 51 (by simp) (by simp) ?_;simp only[zX,simprocAttr,i64];refine aJ (λn e s=>∃i:Nat,n=l.length-i/\i<=l.length/\e 0=.d (.sl (l.map aN))/\e 1=i64 x/\e 5=i64 i/\s=[]/\tv (l.take i) x=false)
  ⟨_,_,_,cU.refl,0,rfl,by omega,rfl,rfl,rfl,rfl,rfl⟩ ?_
 rintro n e s ⟨i,rfl,hi,h0,h1,h5,rfl,ov⟩;rcases adV i l.length with aH|iP
 ·obtain⟨y,hy⟩:∃y,l[i]?=some y:=⟨_,adn aH⟩
  have hm:=adw hy;have X9:decide (y.1<=x)=true->decide (x<=y.2)=true->tv l x=true:=λh1 h2=>by unfold tv;rw[List.any_eq_true];exact⟨y,hm,by rw[h1,h2];rfl⟩
  have WI:¬(y.1<=x/\x<=y.2)->tv (l.take (i+1)) x=false:=λh=>by
   rw[cy hy];unfold tv at ov ⊢;rw[List.any_append,ov];have:(decide (y.1<=x)&&decide (x<=y.2))=false:=by rw[aee];intro hc;simp only[adD,adC]at hc;exact h hc
   simp [this]
  by_cases c1:y.1<=x
  ·by_cases c2:x<=y.2
   ·rw[X9 (adu c1) (adu c2)];simp only[zX,simprocAttr,i64,h0,h1,h5,aH,hy,aN,iD,c1,c2];all_goals first|exact⟨rfl,rfl⟩|exact⟨rfl,trivial⟩|rfl|trivial|(rw[aq];rfl)
   ·simp only[zX,simprocAttr,i64,h0,h1,h5,aH,hy,aN,iD,c1,c2];refine⟨l.length-(i+1),_,_,by omega,cU.refl,i+1,rfl,aH,?_,?_,?_,rfl,WI (λh=>c2 h.2)⟩ <;> (try simp only[zU,Nat.reduceBEq,Nat.reduceShiftRight,Nat.reduceMod,Nat.reduceEqDiff,reduceIte])
    ·exact h0
    ·exact h1
    ·rw[bM _ (by omega)];rfl
  ·simp only[zX,simprocAttr,i64,h0,h1,h5,aH,hy,aN,iD,c1];refine⟨l.length-(i+1),_,_,by omega,cU.refl,i+1,rfl,aH,?_,?_,?_,rfl,WI (λh=>c1 h.1)⟩ <;> (try simp only[zU,Nat.reduceBEq,Nat.reduceShiftRight,Nat.reduceMod,Nat.reduceEqDiff,reduceIte])
   ·exact h0
   ·exact h1
   ·rw[bM _ (by omega)];rfl
 ·have fy:i=l.length:=by omega
  subst fy;rw[adZ]at ov;rw[ov];simp only[zX,simprocAttr,i64,h0,h1,h5,Nat.lt_irrefl];all_goals first|exact⟨rfl,rfl⟩|exact⟨rfl,trivial⟩|rfl|trivial|(rw[aq];rfl)
theorem ju (h0:0<=i) (h1:i<t.length):t[i.toNat]?=some (gQ t i):=by unfold gQ;rw[adn (by omega)];simp [List.getD,adn (show i.toNat<t.length by omega)]
theorem OY (n:Int) (t:List Int) (i:Int) (ht:t.length<=1000000) (h0:0<=i) (h1:i<=t.length):ba prog 93 [i64 n,.d (av t),i64 i] (bV (bN n t i)):=by
 have w1:IntKind.i64.wrap (i-1)=i-1:=bM _ (by omega);have hw:=KS (gQ t (i-1));have Rf:=KS (gQ t i);simp only[i64,bV]at hw Rf;have tC:(n=0)\/(¬n=0/\n=1)\/(¬n=0/\¬n=1/\n=2)\/(¬n=0/\¬n=1/\¬n=2/\n=3)\/(¬n=0/\¬n=1/\¬n=2/\¬n=3/\n=4)\/(¬n=0/\¬n=1/\¬n=2/\¬n=3/\¬n=4):=by omega
 have Xa:0<i->t[(i-1).toNat]?=some (gQ t (i-1)):=λh=>ju (by omega) (by omega);have Mb:i<t.length->t[i.toNat]?=some (gQ t i):=λh=>ju h0 h;by_cases c1:0<i
 ·by_cases c2:i<(t.length:Int)
  ·have hl:ny t i=qn (gQ t (i-1)):=by simp [ny,c1]
   have hr:jX t i=qn (gQ t i):=by simp [jX,c2]
   have b1:0<=i-1:=by omega
   have b2:i-1<(t.length:Int):=by omega
   have g1:=Xa c1;have n0:¬i=0:=by omega
   have eR:decide (i=0)=false:=adl n0;have g2:=Mb c2;have n1:¬i=(t.length:Int):=by omega
   have uf:decide (i=(t.length:Int))=false:=adl n1;refine ar func93 rfl ntmps93 results93 rfl 0 1073742279 (by simp) (by simp) ?_;simp only[zX,simprocAttr,i64,iD,av,c1,c2,w1,gt_iff_lt,h0,g1,b1,b2,g2];refine az hw rfl rfl ?_;simp only[zX,simprocAttr,i64,iD,av,c1,c2,w1,gt_iff_lt,h0,g1,b1,b2,g2];refine az Rf rfl rfl ?_;rcases tC with a|⟨a,b⟩|⟨a,b,c⟩|⟨a,b,c,d⟩|⟨a,b,c,d,f⟩|⟨a,b,c,d,f⟩
   ·simp only[zX,simprocAttr,i64,iD,av,c1,c2,w1,gt_iff_lt,h0,g1,b1,b2,g2,n0,n1,a];all_goals (simp only[bN,a,hl,hr,eR,uf,bV,Int.reduceEq,if_true,if_false,reduceIte,ad4,adY];try rfl)
   ·simp only[zX,simprocAttr,i64,iD,av,c1,c2,w1,gt_iff_lt,h0,g1,b1,b2,g2,n0,n1,a,b];all_goals (simp only[bN,a,b,hl,hr,eR,uf,bV,Int.reduceEq,if_true,if_false,reduceIte,ad4,adY];try rfl)
   ·simp only[zX,simprocAttr,i64,iD,av,c1,c2,w1,gt_iff_lt,h0,g1,b1,b2,g2,n0,n1,a,b,c];all_goals (simp only[bN,a,b,c,hl,hr,eR,uf,bV,Int.reduceEq,if_true,if_false,reduceIte,ad4,adY];try rfl)
   ·simp only[zX,simprocAttr,i64,iD,av,c1,c2,w1,gt_iff_lt,h0,g1,b1,b2,g2,n0,n1,a,b,c,d];all_goals (simp only[bN,a,b,c,d,hl,hr,eR,uf,bV,Int.reduceEq,if_true,if_false,reduceIte,ad4,adY];try rfl)
   ·simp only[zX,simprocAttr,i64,iD,av,c1,c2,w1,gt_iff_lt,h0,g1,b1,b2,g2,n0,n1,a,b,c,d,f];all_goals (simp only[bN,a,b,c,d,f,hl,hr,eR,uf,bV,Int.reduceEq,if_true,if_false,reduceIte,ad4,adY];try rfl)
   ·simp only[zX,simprocAttr,i64,iD,av,c1,c2,w1,gt_iff_lt,h0,g1,b1,b2,g2,n0,n1,a,b,c,d,f];all_goals (simp only[bN,a,b,c,d,f,hl,hr,eR,uf,bV,Int.reduceEq,if_true,if_false,reduceIte,ad4,adY];try rfl)
  ·have hl:ny t i=qn (gQ t (i-1)):=by simp [ny,c1]
   have hr:jX t i=false:=by simp [jX,c2]
   have b1:0<=i-1:=by omega
   have b2:i-1<(t.length:Int):=by omega
   have g1:=Xa c1;have n0:¬i=0:=by omega
   have eR:decide (i=0)=false:=adl n0;have n1:i=(t.length:Int):=by omega
   have uf:decide (i=(t.length:Int))=true:=adu n1;refine ar func93 rfl ntmps93 results93 rfl 0 1073742279 (by simp) (by simp) ?_;simp only[zX,simprocAttr,i64,iD,av,c1,c2,w1,gt_iff_lt,h0,g1,b1,b2];refine az hw rfl rfl ?_;simp only[zX,simprocAttr,i64,iD,av,c1,c2,w1,gt_iff_lt,h0,g1,b1,b2];have e1:(i=(t.length:Int))=True:=eq_true n1;rcases tC with a|⟨a,b⟩|⟨a,b,c⟩|⟨a,b,c,d⟩|⟨a,b,c,d,f⟩|⟨a,b,c,d,f⟩
   ·simp only[zX,simprocAttr,i64,iD,av,c1,c2,w1,gt_iff_lt,h0,g1,b1,b2,n0,e1,a];all_goals (simp only[bN,a,hl,hr,eR,uf,bV,Int.reduceEq,if_true,if_false,reduceIte,ad4,adY];try rfl)
   ·simp only[zX,simprocAttr,i64,iD,av,c1,c2,w1,gt_iff_lt,h0,g1,b1,b2,n0,e1,a,b];all_goals (simp only[bN,a,b,hl,hr,eR,uf,bV,Int.reduceEq,if_true,if_false,reduceIte,ad4,adY];try rfl)
   ·simp only[zX,simprocAttr,i64,iD,av,c1,c2,w1,gt_iff_lt,h0,g1,b1,b2,n0,e1,a,b,c];all_goals (simp only[bN,a,b,c,hl,hr,eR,uf,bV,Int.reduceEq,if_true,if_false,reduceIte,ad4,adY];try rfl)
   ·simp only[zX,simprocAttr,i64,iD,av,c1,c2,w1,gt_iff_lt,h0,g1,b1,b2,n0,e1,a,b,c,d];all_goals (simp only[bN,a,b,c,d,hl,hr,eR,uf,bV,Int.reduceEq,if_true,if_false,reduceIte,ad4,adY];try rfl)
   ·simp only[zX,simprocAttr,i64,iD,av,c1,c2,w1,gt_iff_lt,h0,g1,b1,b2,n0,e1,a,b,c,d,f];all_goals (simp only[bN,a,b,c,d,f,hl,hr,eR,uf,bV,Int.reduceEq,if_true,if_false,reduceIte,ad4,adY];try rfl)
   ·simp only[zX,simprocAttr,i64,iD,av,c1,c2,w1,gt_iff_lt,h0,g1,b1,b2,n0,e1,a,b,c,d,f];all_goals (simp only[bN,a,b,c,d,f,hl,hr,eR,uf,bV,Int.reduceEq,if_true,if_false,reduceIte,ad4,adY];try rfl)
 ·by_cases c2:i<(t.length:Int)
  ·have hl:ny t i=false:=by simp [ny,c1]
   have hr:jX t i=qn (gQ t i):=by simp [jX,c2]
   have n0:i=0:=by omega
   have eR:decide (i=0)=true:=adu n0;have g2:=Mb c2;have n1:¬i=(t.length:Int):=by omega
   have uf:decide (i=(t.length:Int))=false:=adl n1;refine ar func93 rfl ntmps93 results93 rfl 0 1073742279 (by simp) (by simp) ?_;simp only[zX,simprocAttr,i64,iD,av,c1,c2,w1,gt_iff_lt,h0,g2];refine az Rf rfl rfl ?_;have e0:(i=0)=True:=eq_true n0;rcases tC with a|⟨a,b⟩|⟨a,b,c⟩|⟨a,b,c,d⟩|⟨a,b,c,d,f⟩|⟨a,b,c,d,f⟩
   ·simp only[zX,simprocAttr,i64,iD,av,c1,c2,w1,gt_iff_lt,h0,g2,n1,e0,a];all_goals (simp only[bN,a,hl,hr,eR,uf,bV,Int.reduceEq,if_true,if_false,reduceIte,ad4,adY];try rfl)
   ·simp only[zX,simprocAttr,i64,iD,av,c1,c2,w1,gt_iff_lt,h0,g2,n1,e0,a,b];all_goals (simp only[bN,a,b,hl,hr,eR,uf,bV,Int.reduceEq,if_true,if_false,reduceIte,ad4,adY];try rfl)
   ·simp only[zX,simprocAttr,i64,iD,av,c1,c2,w1,gt_iff_lt,h0,g2,n1,e0,a,b,c];all_goals (simp only[bN,a,b,c,hl,hr,eR,uf,bV,Int.reduceEq,if_true,if_false,reduceIte,ad4,adY];try rfl)
   ·simp only[zX,simprocAttr,i64,iD,av,c1,c2,w1,gt_iff_lt,h0,g2,n1,e0,a,b,c,d];all_goals (simp only[bN,a,b,c,d,hl,hr,eR,uf,bV,Int.reduceEq,if_true,if_false,reduceIte,ad4,adY];try rfl)
   ·simp only[zX,simprocAttr,i64,iD,av,c1,c2,w1,gt_iff_lt,h0,g2,n1,e0,a,b,c,d,f];all_goals (simp only[bN,a,b,c,d,f,hl,hr,eR,uf,bV,Int.reduceEq,if_true,if_false,reduceIte,ad4,adY];try rfl)
   ·simp only[zX,simprocAttr,i64,iD,av,c1,c2,w1,gt_iff_lt,h0,g2,n1,e0,a,b,c,d,f];all_goals (simp only[bN,a,b,c,d,f,hl,hr,eR,uf,bV,Int.reduceEq,if_true,if_false,reduceIte,ad4,adY];try rfl)
  ·have hl:ny t i=false:=by simp [ny,c1]
   have hr:jX t i=false:=by simp [jX,c2]
   have n0:i=0:=by omega
   have eR:decide (i=0)=true:=adu n0;have n1:i=(t.length:Int):=by omega
   have uf:decide (i=(t.length:Int))=true:=adu n1;refine ar func93 rfl ntmps93 results93 rfl 0 1073742279 (by simp) (by simp) ?_;simp only[zX,simprocAttr,i64,iD,av,c1,c2,w1,gt_iff_lt,h0];have e0:(i=0)=True:=eq_true n0;have e1:(i=(t.length:Int))=True:=eq_true n1;rcases tC with a|⟨a,b⟩|⟨a,b,c⟩|⟨a,b,c,d⟩|⟨a,b,c,d,f⟩|⟨a,b,c,d,f⟩
   ·simp only[zX,simprocAttr,i64,iD,av,c1,c2,w1,gt_iff_lt,h0,e0,e1,a];all_goals (simp only[bN,a,hl,hr,eR,uf,bV,Int.reduceEq,if_true,if_false,reduceIte,ad4,adY];try rfl)
   ·simp only[zX,simprocAttr,i64,iD,av,c1,c2,w1,gt_iff_lt,h0,e0,e1,a,b];all_goals (simp only[bN,a,b,hl,hr,eR,uf,bV,Int.reduceEq,if_true,if_false,reduceIte,ad4,adY];try rfl)
   ·simp only[zX,simprocAttr,i64,iD,av,c1,c2,w1,gt_iff_lt,h0,e0,e1,a,b,c];all_goals (simp only[bN,a,b,c,hl,hr,eR,uf,bV,Int.reduceEq,if_true,if_false,reduceIte,ad4,adY];try rfl)
   ·simp only[zX,simprocAttr,i64,iD,av,c1,c2,w1,gt_iff_lt,h0,e0,e1,a,b,c,d];all_goals (simp only[bN,a,b,c,d,hl,hr,eR,uf,bV,Int.reduceEq,if_true,if_false,reduceIte,ad4,adY];try rfl)
   ·simp only[zX,simprocAttr,i64,iD,av,c1,c2,w1,gt_iff_lt,h0,e0,e1,a,b,c,d,f];all_goals (simp only[bN,a,b,c,d,f,hl,hr,eR,uf,bV,Int.reduceEq,if_true,if_false,reduceIte,ad4,adY];try rfl)
   ·simp only[zX,simprocAttr,i64,iD,av,c1,c2,w1,gt_iff_lt,h0,e0,e1,a,b,c,d,f];all_goals (simp only[bN,a,b,c,d,f,hl,hr,eR,uf,bV,Int.reduceEq,if_true,if_false,reduceIte,ad4,adY];try rfl)
theorem KU (c:aC) (n:Int) (hc:c.length<=1000000000):ba prog 91 [.d (bQ c),i64 n] (.ag [i64 (bH c n).1,i64 (bH c n).2]):=by
 by_cases c1:n<1
 ·have hs:bH c n=(-1,-1):=by simp [bH,c1]
  rw[hs];refine ar func91 rfl ntmps91 results91 rfl 0 19 (by simp) (by simp) ?_;simp only[zX,simprocAttr,i64,iD,bQ,aN,c1]
 ·by_cases c2:(c.length:Int)<n
  ·have hs:bH c n=(-1,-1):=by simp [bH,c2]
   rw[hs];refine ar func91 rfl ntmps91 results91 rfl 0 19 (by simp) (by simp) ?_;simp only[zX,simprocAttr,i64,iD,bQ,aN,c1,c2,gt_iff_lt]
  ·have hs:bH c n=c.getD (n-1).toNat (-1,-1):=by rw[bH,am (by omega)]
   have w1:IntKind.i64.wrap (n-1)=n-1:=bM _ (by omega);have aH:(n-1).toNat<c.length:=by omega
   have hg:c[(n-1).toNat]?=some c[(n-1).toNat]:=adn aH;have b1:0<=n-1:=by omega
   have b2:n-1<(c.length:Int):=by omega
   rw[hs,List.getD,hg,Option.getD_some];refine ar func91 rfl ntmps91 results91 rfl 0 19 (by simp) (by simp) ?_;simp only[zX,simprocAttr,i64,iD,bQ,aN,c1,c2,gt_iff_lt,w1,hg,b1,b2]
theorem Rk (c:aC) (n cq to:Int) (hc:c.length<=1000000000):ba prog 74 [.d (bQ c),i64 n,i64 cq,i64 to] (.d (bQ (kD c n cq to))):=by
 have G5:∀e∈(c.map aN).map (λx=>x.map V.d),e.length=2:=λe he=>by obtain⟨x,hx,rfl⟩:=List.mem_map.1 he;obtain⟨p,_,rfl⟩:=List.mem_map.1 hx;rfl
 refine ar func74 rfl ntmps74 results74 rfl 0 783 (by simp) (by simp) ?_;simp only[zX,simprocAttr,i64,bQ];refine⟨G5,⟨by omega,by simp⟩,?_⟩;by_cases c1:1<=n
 ·by_cases c2:n<=(c.length:Int)
  ·have w1:IntKind.i64.wrap (n-1)=n-1:=bM _ (by omega);have aH:(n-1).toNat<c.length:=by omega
   have b1:0<=n-1:=by omega
   have b2:n-1<(c.length:Int):=by omega
   have hw:kD c n cq to=c.set (n-1).toNat (cq,to):=by rw[kD,ap ⟨c1,c2⟩]
   have cC:((c.map aN).map (λx=>x.map V.d)).set (n-1).toNat [i64 cq,i64 to]=((c.set (n-1).toNat (cq,to)).map aN).map (λx=>x.map V.d):=by rw[List.map_set,List.map_set];rfl
   have Xx:c[(n-1).toNat]?=some c[(n-1).toNat]:=adn aH;rw[hw];simp only[zX,simprocAttr,i64,adI,c1,c2,w1,aH,b1,b2,Xx,aN];simp only[i64]at cC;rw[cC,lB 7 0 _ _ _ (by simp),ap (by simp)];rfl
  ·have hw:kD c n cq to=c:=by rw[kD,am (by omega)]
   rw[hw];simp only[zX,simprocAttr,i64,adI,c1,c2];rw[lB 7 0 _ _ _ (by simp),ap (by simp)];rfl
 ·have hw:kD c n cq to=c:=by rw[kD,am (by omega)]
  rw[hw];simp only[zX,simprocAttr,i64,adI,c1];rw[lB 7 0 _ _ _ (by simp),ap (by simp)];rfl
theorem Qm (n:Int) (hn:n<=1000000):ba prog 53 [i64 n] (.d (bQ (List.replicate n.toNat (-1,-1)))):=by
 refine ar func53 rfl ntmps53 results53 rfl 0 29 (by simp) (by simp) ?_;simp only[Ee,A1,Bm,simprocAttr,oY,i64];refine aJ (λm e s=>∃i:Nat,m=n.toNat-i/\i<=n.toNat/\e 0=i64 n/\e 4=i64 i/\Acc [] 2 (e 3) s ((List.replicate i (-1,-1)).map aN))
  ⟨_,_,_,cU.refl,0,rfl,by omega,rfl,rfl,.inl ⟨rfl,rfl⟩⟩ ?_
 rintro m e s ⟨i,rfl,hi,h0,h4,lr⟩;rcases adV i n.toNat with aH|iP
 ·have bo:(i:Int)<n:=by omega
  simp only[Ee,A1,Bm,simprocAttr,oY,i64,h0,h4,bo];refine lr.append UQ rfl (by decide) (by decide) (by intro y hy;obtain⟨z,_,rfl⟩:=List.mem_map.1 hy;rfl) (by simp) (by simp) (by simp only[ado,List.length_replicate,adA,adF];omega) (λv' s' Fp=>?_);simp only[Ee,A1,Bm,simprocAttr,oY,i64,h0,h4];refine⟨n.toNat-(i+1),_,_,by omega,cU.refl,i+1,rfl,aH,?_,?_,?_⟩ <;> (try simp only[zU,Nat.reduceBEq,Nat.reduceShiftRight,Nat.reduceMod,Nat.reduceEqDiff,reduceIte])
  ·exact h0
  ·rw[bM _ (by omega)];rfl
  ·rw[List.replicate_succ',List.map_append];exact Fp
 ·have fy:i=n.toNat:=by omega
  subst fy;have bo:¬(n.toNat:Int)<n:=by omega
  simp only[Ee,A1,Bm,simprocAttr,oY,i64,h0,h4,bo];rw[lr.XG (by simp)];rfl
theorem oy {α:Type} (l:List α) (f:α->D) (n:Nat):((l.map λx=>[V.d (f x)]).all λe=>e.all (ak n))=true:=by rw[adE];intro e he;obtain⟨x,_,rfl⟩:=List.mem_map.1 he;rfl
def dE (g0:Nat) (t:List Int) (ai F:Int) (st:bd):VL.Obj :=
 ⟨g0,true,7,[[.d (av t),i64 ai,i64 F,i64 st.steps,bV st.empty,.so 1 st.ends.length 0 st.ends.length,.so 2 st.ends.length 0 st.ah.length]]⟩
def cc (g0:Nat) (t:List Int) (ai F:Int) (st:bd):List VL.Obj :=
 [dE g0 t ai F st,⟨st.ends.length,true,1,st.ends.map λx=>[V.d (iD x)]⟩,⟨st.ends.length,true,1,st.ah.map λc=>[V.d (bQ c)]⟩]
theorem RH (g0:Nat) (t:List Int) (ai F:Int) (st:bd) (h0:0<=st.steps) (h1:st.steps<=10000000000000) :
  au prog 89 [.rf 0 g0 0 0] (cc g0 t ai F st) λv s=>v=bV (!(st.step F).empty)/\s=cc g0 t ai F (st.step F):=by
 have w1:IntKind.i64.wrap (st.steps+1)=st.steps+1:=bM _ (by omega);unfold cc dE bd.step;by_cases c:F<st.steps+1
 ·refine ar func89 rfl ntmps89 results89 rfl 3 5 (by simp) (by simp) ?_;simp only[zX,simprocAttr,i64,bV,w1];refine ao mix [] [] (by rfl) ?_;simp only[zX,simprocAttr,i64,bV,w1,gt_iff_lt,c,Bool.or_true];simp only[oy,Bool.and_self]
 ·refine ar func89 rfl ntmps89 results89 rfl 3 5 (by simp) (by simp) ?_;simp only[zX,simprocAttr,i64,bV,w1];refine ao mix [] [] (by rfl) ?_;simp only[zX,simprocAttr,i64,bV,w1,gt_iff_lt,c,adl c,aea];simp only[oy,Bool.and_self]
def fg:Task->FuncId
 |.run _ _ _=>52
 |.rep _ _ _=>73
 |.node _ _ _=>75
def eH (g0:Nat):Task->List V
 |.run g i c=>[.rf 0 g0 0 0,.d g.d,i64 i,.d (bQ c)]
 |.rep g i c=>[.rf 0 g0 0 0,.d g.d,i64 i,.d (bQ c)]
 |.node g i c=>[.rf 0 g0 0 0,.d g.d,i64 i,.d (bQ c)]
def jE (t:List Int) (F:Int) (n:Nat):Prop:=∀g0 ai task st b st',dO t F n ai task st=some (b,st')->au prog (fg task) (eH g0 task) (cc g0 t ai F st) λv s=>v=bV b/\s=cc g0 t ai F st'
theorem uv {α:Type} (ρ:List Nat) (g:Nat) (lv:Bool) (z:Nat) (l:List α) (f:α->D):bp ρ ⟨g,lv,z,l.map λx=>[V.d (f x)]⟩=⟨g,lv,z,l.map λx=>[V.d (f x)]⟩:=by simp only[bp,List.map_map];congr 1
theorem J3 (g0:Nat) (t:List Int) (ai F:Int) (st:bd):bp [0,1,2] (dE g0 t ai F st)=dE g0 t ai F st:=rfl
theorem aV (l1:List Int) (l2:List aC):(((l1.map λx=>[V.d (D.sc (Value.int IntKind.i64 x))]).all λe=>e.all (ak 3))&&((l2.map λc=>[V.d (bQ c)]).all λe=>e.all (ak 3)))=true:=by rw[adD];exact⟨oy l1 iD 3,oy l2 bQ 3⟩
theorem Goal.bu (kind:Int) (re:Re) (k cq:Int) (next:Goal):(Goal.mk kind re k cq next).d=.el [iD kind,iD re.op,.sl (re.set.map aN),.sl (re.kids.map Re.cells),iD re.mn,iD re.mx,iD re.mode,iD re.n,bD re.neg,iD k,iD cq,next.d]:=by rw[Goal.d,Re.ae];rfl
theorem vo {f:FuncId}{cargs:List V}{b:V}{ext:List VL.Obj}{K:V->List VL.Obj->Prop}
  (h:au prog f cargs (cc g0 t ai F st) λv s=>v=b/\s=cc g0 t ai F st') (ha:cargs.map (aX [0,1,2])=cargs) (x8:ak.go 3 cargs=true) (hb:aX [0,1,2] b=b) (hk:K b (cc g0 t ai F st'++ext)) :
  au prog f cargs (cc g0 t ai F st++ext) K:=by
 refine gx [0,1,2] h (by decide) rfl ?_ ha.symm x8 ?_ hb ?_
 ·unfold cc;simp only[adG,adP,adr,adt,adU,List.getElem?_cons_succ,J3,uv]
 ·unfold cc dE;simp only[List.all_cons,List.all_nil,bJ,oy];simp [ak,ak.go,i64,bV]
 ·have:aZ (cc g0 t ai F st++ext) [0,1,2] ((cc g0 t ai F st').map (bp [0,1,2]))=cc g0 t ai F st'++ext:=by unfold cc;simp only[adG,adP,adr,adt,J3,uv,aZ,ad0,ad6]
  rw[this];exact hk
theorem Fa (g0:Nat) (task:Task):(eH g0 task).map (aX [0,1,2])=eH g0 task:=by cases task <;> rfl
theorem Cd (g0:Nat) (task:Task):ak.go 3 (eH g0 task)=true:=by cases task <;> rfl
theorem fA{task:Task} (h:au prog (fg task) (eH g0 task) (cc g0 t ai F st) λv s=>v=bV b/\s=cc g0 t ai F st') (ext:List VL.Obj) :
  au prog (fg task) (eH g0 task) (cc g0 t ai F st++ext) λv s=>v=bV b/\s=cc g0 t ai F st'++ext:=vo h (Fa g0 _) (Cd g0 _) rfl ⟨rfl,rfl⟩
def jS:Option (Int×aC)->V
 |none=>.tu [i64 0,.d (.sl []),bV false]
 |some (e,d)=>.tu [i64 e,.d (bQ d),bV true]
theorem HB (ih:jE t F n) (hr:bS (dO t F n) g i c st=some (r,st')) :
  au prog 88 [.rf 0 g0 0 0,.d g.d,i64 i,.d (bQ c)] (cc g0 t ai F st) λv s=>v=jS r/\s=cc g0 t ai F st':=by
 unfold bS at hr;cases hx:dO t F n 1 (.run g i c) ⟨st.steps,false,[],[]⟩ with
 |none=>rw[hx]at hr;cases hr
 |some bx =>
  obtain⟨b,x⟩:=bx;rw[hx]at hr;simp only at hr;have dJ:=ih 1 _ _ _ _ _ hx;unfold cc dE fg eH at dJ;unfold cc dE;simp only[i64,bV]at dJ;refine ar func88 rfl ntmps88 results88 rfl 3 3855 (by simp) (by simp) ?_;simp only[zX,simprocAttr,i64,bV];refine aS ca.bh ?_;refine ao mix [] [(13,[3],[3])] (by rfl) ?_;simp only[zX,simprocAttr,i64,bV,hole];refine iL (pre:=[.d (av t),.d (.sc (.int .i64 1)),.d (.sc (.int .i64 F)),.d (.sc (.int .i64 st.steps)),.d (.sc (.bool false))]) (post:=[.fu []]) 3 1 rfl rfl rfl ?_;simp only[ad6,ad0,adr,adt,adA,adF,Nat.reduceAdd];refine iL (pre:=[.d (av t),.d (.sc (.int .i64 1)),.d (.sc (.int .i64 F)),.d (.sc (.int .i64 st.steps)),.d (.sc (.bool false)),.so 4 0 0 0]) (post:=[]) 3 1 rfl rfl rfl ?_;simp only[ad6,ad0,adr,adt,adA,adF,Nat.reduceAdd];refine gx [3,4,5] dJ (by decide) rfl rfl rfl rfl ?_ rfl ?_
  ·rfl
  simp only[adG,adP,uv,aZ,ad0,ad6,bp,aX,aX.go,List.getD_cons_zero,List.getD_cons_succ];obtain⟨xs,xe,gF,oU⟩:=x;simp only at hr;cases xe with
  |true =>
   simp only[if_true,adp,ad3]at hr;obtain⟨rfl,rfl⟩:=hr;simp only[zX,simprocAttr,i64,bV];exact⟨by simp only[oy,Bool.and_self],rfl⟩
  |false =>
   simp only[adq,if_false]at hr;cases gF with
   |nil =>
    simp only[adp,ad3]at hr;obtain⟨rfl,rfl⟩:=hr;simp only[zX,simprocAttr,i64,bV,adF,adK];exact⟨by simp only[oy,Bool.and_self],rfl⟩
   |cons e es =>
    cases oU with
    |nil=>cases hr
    |cons d ds =>
     simp only[adp,ad3]at hr;obtain⟨rfl,rfl⟩:=hr;have fG:¬((es.length:Int)+1=0):=by omega
     simp only[zX,simprocAttr,i64,bV,adA,aef,Int.natCast_one,fG];refine ao mix [] [] (by rfl) ?_;simp only[aX.go,aX];simp only[zX,simprocAttr,i64,bV,iD,adA];refine⟨by omega,by omega,?_,rfl⟩;rw[adD];exact⟨oy st.ends iD 3,oy st.ah bQ 3⟩
theorem Lh (r:Option (Int×aC)):aX [0,1,2] (jS r)=jS r:=by cases r <;> rfl
theorem wW (ih:jE t F n) (hr:bS (dO t F n) g i c st=some (r,st')) (ext:List VL.Obj) :
  au prog 88 [.rf 0 g0 0 0,.d g.d,i64 i,.d (bQ c)] (cc g0 t ai F st++ext) λv s=>v=jS r/\s=cc g0 t ai F st'++ext :=
 vo (HB ih hr) rfl rfl (Lh r) ⟨rfl,rfl⟩
theorem F6 (g0:Nat) (t:List Int) (ai F:Int) (st:bd) (h0:0<=st.steps) (h1:st.steps<=10000000000000) (ext:List VL.Obj) :
  au prog 89 [.rf 0 g0 0 0] (cc g0 t ai F st++ext) λv s=>v=bV (!(st.step F).empty)/\s=cc g0 t ai F (st.step F)++ext :=
 vo (RH g0 t ai F st h0 h1) rfl rfl rfl ⟨rfl,rfl⟩
theorem QR{st:bd} (he:st.ends.length<2000000000000) (hs:st.ah.length=st.ends.length) :
  au prog 52 [.rf 0 g0 0 0,.d Goal.nil.d,i64 i,.d (bQ c)] (cc g0 t ai F st) λv s=>v=bV (decide (0<=ai)&&decide (ai<=(st.ends.length:Int)+1))/\s=cc g0 t ai F { st with ends:=st.ends++[i],ah:=st.ah++[c] }:=by
 obtain⟨steps,empty,ends,ah⟩:=st;simp only at he hs;have hd:Goal.nil.d=.sc (.pointer none):=rfl;have hca:(bQ c)=.sl (c.map aN):=rfl;have t1:(ends.map λx=>[V.d (iD x)]).take ends.length=ends.map λx=>[V.d (iD x)]:=adT (by simp);have t2:(ah.map λc=>[V.d (bQ c)]).take ends.length=ah.map λc=>[V.d (bQ c)]:=adT (by simp [hs]);unfold cc dE;simp only[hs];refine ar func52 rfl ntmps52 results52 rfl 3 2251799813685519 (by simp) (by simp) ?_;simp only[zX,simprocAttr,i64,bV,hd,iD];refine⟨⟨_,rfl⟩,by simp,⟨by omega,by omega⟩,by simp,⟨by omega,by omega⟩,?_⟩;simp only[iD]at t1;rw[t1,t2];have l1:(ends++[i]).length=ends.length+1:=by simp
 have l2:(ah++[c]).length=ends.length+1:=by simp [hs]
 have m1:(ends++[i]).map (λx=>[V.d (D.sc (Value.int .i64 x))])=ends.map (λx=>[V.d (D.sc (Value.int .i64 x))])++[[V.d (D.sc (Value.int .i64 i))]]:=by simp
 have m2:(ah++[c]).map (λc=>[V.d (bQ c)])=ah.map (λc=>[V.d (bQ c)])++[[V.d (bQ c)]]:=by simp
 rw[l1,l2,m1,m2];have dg:(((ends.map (λx=>[V.d (D.sc (Value.int .i64 x))])++[[V.d (D.sc (Value.int .i64 i))]]).all λe=>e.all (ak 3))&&((ah.map (λc=>[V.d (bQ c)])++[[V.d (bQ c)]]).all λe=>e.all (ak 3)))=true:=by rw[<- m1,<- m2];exact aV _ _
 generalize ends.map (λx=>[V.d (D.sc (Value.int .i64 x))])++[[V.d (D.sc (Value.int .i64 i))]]=E1 at *;generalize ah.map (λc=>[V.d (bQ c)])++[[V.d (bQ c)]]=C1 at *;refine ao mix [] [] (by rfl) ?_;by_cases q:0<=ai
 ·simp only[zX,simprocAttr,i64,bV,iD,ge_iff_le,q,decide_true,Bool.true_and,aef,Int.natCast_one];exact dg
 ·simp only[zX,simprocAttr,i64,bV,iD,ge_iff_le,q,decide_false,Bool.false_and];exact dg
theorem run_mk (ih:jE t F n){kind:Int}{re:Re}{k cq:Int}{next:Goal}
  (hr:bL t F (dO t F n) ai (.run (.mk kind re k cq next) i c) st=some (b,st')) :
  au prog 52 [.rf 0 g0 0 0,.d (Goal.mk kind re k cq next).d,i64 i,.d (bQ c)] (cc g0 t ai F st) λv s=>v=bV b/\s=cc g0 t ai F st':=by
 simp only[bL]at hr;by_cases hi:i<0\/(t.length:Int)<i
 ·rw[ap hi]at hr;cases hr
 rw[am hi]at hr;by_cases k1:kind=1
 ·rw[ap k1]at hr;have hc:=ih g0 _ _ _ _ _ hr;unfold fg eH cc dE at hc;simp only[Goal.bu,i64,iD,bD,bV]at hc;simp only[k1]at hc;unfold cc dE;refine ar func52 rfl ntmps52 results52 rfl 3 2251799813685519 (by simp) (by simp) ?_;simp only[zX,simprocAttr,i64,bV,Goal.bu,iD,bD,k1];refine⟨⟨_,rfl⟩,?_⟩
  (refine aj hc (λv s' hv=>?_);obtain⟨rfl,rfl⟩:=hv)
  simp only[zX,simprocAttr,i64,bV,iD];exact aV _ _
 rw[am k1]at hr;by_cases k2:kind=2
 ·rw[ap k2]at hr;by_cases c1:re.mn<=k/\i=cq
  ·rw[ap c1]at hr;simp only[adp,ad3]at hr;obtain⟨rfl,rfl⟩:=hr;unfold cc dE;refine ar func52 rfl ntmps52 results52 rfl 3 2251799813685519 (by simp) (by simp) ?_;simp only[zX,simprocAttr,i64,bV,Goal.bu,iD,bD,k2];refine⟨⟨_,rfl⟩,?_⟩;refine ao mix [] [] (by rfl) ?_;simp only[zX,simprocAttr,i64,bV,iD,ge_iff_le,c1.1,c1.2];exact aV _ _
  rw[am c1]at hr;by_cases c2:k<0\/10000000000000<k
  ·rw[ap c2]at hr;cases hr
  rw[am c2]at hr;have KG:=ih g0 _ _ _ _ _ hr;have hc:∀X,au prog _ _ (cc g0 t ai F st++[X]) (λv s=>v=bV b/\s=cc g0 t ai F st'++[X]):=λX=>vo KG (Fa g0 _) (Cd g0 _) rfl ⟨rfl,rfl⟩;unfold fg eH cc dE at hc;simp only[Goal.bu,i64,iD,bD,bV]at hc;simp only[adr,adt]at hc;have w1:IntKind.i64.wrap (k+1)=k+1:=bM _ (by omega);unfold cc dE;refine ar func52 rfl ntmps52 results52 rfl 3 2251799813685519 (by simp) (by simp) ?_;simp only[zX,simprocAttr,i64,bV,Goal.bu,iD,bD,k2];refine⟨⟨_,rfl⟩,?_⟩;refine ao mix [] [] (by rfl) ?_;by_cases q1:re.mn<=k
  case' pos =>
   have q2:¬i=cq:=λh=>c1 ⟨q1,h⟩;simp only[zX,simprocAttr,i64,bV,iD,ge_iff_le,q1,q2]
  case' neg =>
   simp only[zX,simprocAttr,i64,bV,iD,ge_iff_le,q1]
  all_goals
   refine aS ca.bh ?_;refine ao mix [18] [(15,[3],[3])] (by rfl) ?_;simp only[zX,simprocAttr,i64,bV,iD,bD,hole,w1];refine bj (aY [3] ?_ (hc _)) ?_
   ·simp [bg,bT,bf.go,bf,cE]
   ·simp only[zX,simprocAttr,i64,bV,iD];exact aV _ _
 rw[am k2]at hr;by_cases k3:kind=3
 ·rw[ap k3]at hr;by_cases c1:1000000000<c.length
  ·rw[ap c1]at hr;cases hr
  rw[am c1]at hr;have hc:=ih g0 _ _ _ _ _ hr;unfold fg eH cc dE at hc;simp only[Goal.bu,i64,iD,bD,bV]at hc;have hw:=Rk c re.n cq i (by omega);simp only[i64]at hw;unfold cc dE;refine ar func52 rfl ntmps52 results52 rfl 3 2251799813685519 (by simp) (by simp) ?_;simp only[zX,simprocAttr,i64,bV,Goal.bu,iD,bD,k3];refine⟨⟨_,rfl⟩,?_⟩;refine ao mix [18] [] (by rfl) ?_;simp only[zX,simprocAttr,i64,bV,iD,bD];refine bY hw rfl rfl ?_;simp only[zX,simprocAttr,i64,bV,iD,bD];refine bj hc ?_;simp only[zX,simprocAttr,i64,bV,iD];exact aV _ _
 rw[am k3]at hr;by_cases k4:kind=4
 ·rw[ap k4]at hr;by_cases c1:i=cq
  ·rw[ap c1]at hr;have hc:=ih g0 _ _ _ _ _ hr;unfold fg eH cc dE at hc;simp only[Goal.bu,i64,iD,bD,bV]at hc;unfold cc dE;refine ar func52 rfl ntmps52 results52 rfl 3 2251799813685519 (by simp) (by simp) ?_;simp only[zX,simprocAttr,i64,bV,Goal.bu,iD,bD,k4];refine⟨⟨_,rfl⟩,?_⟩;simp only[zX,simprocAttr,i64,bV,iD,bD,c1];simp only[c1]at hc
   (refine aj hc (λv s' hv=>?_);obtain⟨rfl,rfl⟩:=hv)
   simp only[zX,simprocAttr,i64,bV,iD];exact aV _ _
  ·rw[am c1]at hr;simp only[adp,ad3]at hr;obtain⟨rfl,rfl⟩:=hr;unfold cc dE;refine ar func52 rfl ntmps52 results52 rfl 3 2251799813685519 (by simp) (by simp) ?_;simp only[zX,simprocAttr,i64,bV,Goal.bu,iD,bD,k4,c1];exact⟨⟨_,rfl⟩,aV _ _⟩
 rw[am k4]at hr;have hc:=ih g0 _ _ _ _ _ hr;unfold fg eH cc dE at hc;simp only[Goal.bu,i64,iD,bD,bV]at hc;unfold cc dE;refine ar func52 rfl ntmps52 results52 rfl 3 2251799813685519 (by simp) (by simp) ?_;simp only[zX,simprocAttr,i64,bV,Goal.bu,iD,bD,k1,k2,k3,k4];refine⟨⟨_,rfl⟩,?_⟩
 (refine aj hc (λv s' hv=>?_);obtain⟨rfl,rfl⟩:=hv)
 simp only[zX,simprocAttr,i64,bV,iD];exact aV _ _
end Go.Proofs.Ytphfjhaffbfpfaa
