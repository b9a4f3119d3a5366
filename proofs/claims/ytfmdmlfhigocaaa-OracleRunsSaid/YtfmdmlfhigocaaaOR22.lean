/- A part of the proof (F8 F9 F10 F11). -/
import Derived.Test.YtfmdmlfhigocaaaOR21
set_option linter.unusedSimpArgs false
set_option linter.unusedVariables false
open Nat renaming reduceShiftRight → cy, reduceMod → cJ, reduceEqDiff → dV, reduceBEq → gV
set_option maxRecDepth 100000
set_option maxHeartbeats 80000000
namespace Go.Proofs.Ytfmdmlfhigocaaa
open Go.VL Go.Proofs.Try
variable{m:Mk}{t:Mk->Re×Mk}
def yg (d:Nat):Prop:=∀(m:Mk) (b:Int),0<=b->m.In b->b+cD d<=1000000000 ->
 az prog 65 [lM,i64 d] [lN m] λv s=>v=kj (m.tree d).1/\s=[lN (m.tree d).2]
theorem BM{f:Nat}{i:Int} (h:i<2+(m.next 2).1):bE t (f+1) i m=((t (m.next 2).2).1::(bE t f (i+1) (t (m.next 2).2).2).1,(bE t f (i+1) (t (m.next 2).2).2).2):=by rw[bE,be h]
theorem Ga{f:Nat}{i:Int} (h:¬i<2+(m.next 2).1):bE t (f+1) i m=([],(m.next 2).2):=by rw[bE,ap h]
def aaf (l:List Re):D:=.sl (l.map Re.cells)
theorem P6 (d:Nat) (hd:d<=1000) (ht:yg d) (m:Mk) (b:Int) (hb:0<=b) (hm:m.In b) (hs:b+4*(cD d+1)<=1000000000) :
  az prog 89 [lM,i64 (d+1:Nat)] [lN m] λv s=>v=.d (aaf (bE (Mk.tree d) 4 0 m).1)/\s=[lN (bE (Mk.tree d) 4 0 m).2]:=by
 have hc:=lK d;have w1:IntKind.i64.wrap ((d+1:Nat)-1:Int)=(d:Int):=by rw[bF _ ae];omega
 refine bk func89 ntmps89 results89 1 115 ?_;simp only[zJ,simprocAttr,lM];refine ay (λn e s=>∃(i:Nat) (m':Mk) (l:List Re),n=4-i/\i<=3/\m'.In (b+i*(cD d+1))/\l.length=i/\e 0=.rf 0 0 0 0/\e 1=i64 (d+1:Nat)/\e 6=i64 i /\
   bE (Mk.tree d) 4 0 m=(l++(bE (Mk.tree d) (4-i) i m').1,(bE (Mk.tree d) (4-i) i m').2) /\
   ((i=0/\e 5=.fu []/\s=[lN m'])\/∃g,e 5=.so 1 g 0 i/\s=[lN m',⟨g,true,8,(l.map Re.cells).map λc=>c.map V.d⟩])) ⟨_,_,_,bJ.refl,0,m,[],rfl,ae,by simpa using hm,rfl,rfl,rfl,rfl,aj,.inl ⟨rfl,rfl,rfl⟩⟩ ?_
 rintro n e s ⟨i,m',l,rfl,hi,mD,hl,h0,h1,h6,hk,iz⟩;have hp:=cB m'.l m'.pos 2 ae;have w2:IntKind.i64.wrap (2+pick m'.l m'.pos 2)=2+pick m'.l m'.pos 2:=bF _ ae;have UK:(i:Int)*(cD d+1)+(cD d+1)<=4*(cD d+1):=by have:=ajG (show (i:Int)+1<=4 by omega) (show (0:Int)<=cD d+1 by omega);rw[Int.add_mul,Int.one_mul]at this;exact this
 have afZ:0<=(i:Int)*(cD d+1):=akj ae ae;have lQ:0<=m'.pos/\m'.pos<=1000000000:=⟨mD.p0,by have:=mD.p1;omega⟩
 have hf:4-i=(3-i)+1:=ae;rw[hf]at hk;rcases iz with ⟨rfl,h5,rfl⟩|⟨g,h5,rfl⟩
 ·simp only[zJ,simprocAttr,h0,h1,h6,lM];refine bC (gZ m' mD.l lQ 2 ae) rfl rfl rfl rfl rfl rfl ?_;have aB:(0:Int)<2+pick m'.l m'.pos 2:=ae;simp only[zJ,simprocAttr,h0,h1,h6,lM,Mk.next,w1,w2,aB,ajn];refine bC (ht (m'.next 2).2 (b+1) ae (by simpa using mD.next 2) ae) rfl rfl rfl rfl rfl (ca _ _) ?_;simp only[zJ,simprocAttr,h0,h1,h5,h6,lM,Mk.next,w1,w2,aB,ajn];obtain⟨g1,g2⟩:=ky d (m'.next 2).2 (b+1) ae (by simpa using mD.next 2);refine⟨λx hx=>by rw[List.mem_singleton.1 hx];simp [Re.fW],aj,3,_,_,ae,bJ.refl,1,((Mk.tree d) (m'.next 2).2).2,[((Mk.tree d) (m'.next 2).2).1],rfl,ae,g1.mono cG,rfl,?_,?_,?_,?_,.inr ⟨0,?_,?_⟩⟩
  ·simp only[zU,gV,cy,cJ,dV,reduceIte];exact h0
  ·simp only[zU,gV,cy,cJ,dV,reduceIte];exact h1
  ·simp only[zU,gV,cy,cJ,dV,reduceIte];rw[bF _ ae];rfl
  ·rw[hk,BM (by simpa [Mk.next]using aB)];have:l=[]:=ajB hl;subst this;rfl
  ·simp only[zU,gV,cy,cJ,dV,reduceIte]
  ·rfl
 ·by_cases aB:(i:Int)<2+pick m'.l m'.pos 2
  ·rw[BM (f:=3-i) (i:=i) (m:=m') (by simpa [Mk.next]using aB)]at hk;obtain⟨g1,g2⟩:=ky d (m'.next 2).2 (b+i*(cD d+1)+1) ae (mD.next 2);simp only[zJ,simprocAttr,h0,h1,h6,lM];refine bC (gZ m' mD.l lQ 2 ae) rfl rfl rfl rfl rfl rfl ?_;simp only[zJ,simprocAttr,h0,h1,h6,lM,Mk.next,w1,w2,aB];refine bC (ht (m'.next 2).2 (b+i*(cD d+1)+1) ae (mD.next 2) ae) rfl rfl rfl rfl rfl (ca _ _) ?_;simp only[zJ,simprocAttr,h0,h1,h5,h6,lM,Mk.next,w1,w2,aB];refine⟨λx hx=>by rw[List.mem_singleton.1 hx];simp [Re.fW],⟨ae,ae⟩,4-(i+1),_,_,ae,bJ.refl,i+1,((Mk.tree d) (m'.next 2).2).2,l++[((Mk.tree d) (m'.next 2).2).1],rfl,?_,g1.mono ?_,by simp [hl],?_,?_,?_,?_,.inr ⟨g+1,?_,?_⟩⟩
   ·omega
   ·rw[aj9,Int.add_mul];simp;omega
   ·simp only[zU,gV,cy,cJ,dV,reduceIte];exact h0
   ·simp only[zU,gV,cy,cJ,dV,reduceIte];exact h1
   ·simp only[zU,gV,cy,cJ,dV,reduceIte];rw[bF _ ae];rfl
   ·rw[hk,show 4-(i+1)=3-i by omega];simp
   ·simp only[zU,gV,cy,cJ,dV,reduceIte]
   ·simp [hl,<- List.map_take,ajb (Nat.le_of_eq hl)];exact⟨rfl,rfl⟩
  ·rw[Ga (f:=3-i) (i:=i) (m:=m') (by simpa [Mk.next]using aB)]at hk;simp only[zJ,simprocAttr,h0,h1,h6,lM];refine bC (gZ m' mD.l lQ 2 ae) rfl rfl rfl rfl rfl rfl ?_;have hle:0+i<=l.length:=ae;have IV:((l.map Re.cells).map λc=>c.map V.d).take i=(l.map Re.cells).map λc=>c.map V.d:=ajb (by simp [hl]);simp only[zJ,simprocAttr,h0,h1,h5,h6,lM,Mk.next,w1,w2,aB,hle,IV];rw[hk];exact⟨rfl,by simp [aaf],rfl⟩
theorem EW (d:Nat) (hd:d<=1000) (ht:yg d) (m:Mk) (b:Int) (hb:0<=b) (hm:m.In b) (hs:b+(cD d+2)<=1000000000) :
  az prog 91 [lM,i64 (d+1:Nat)] [lN m] λv s=>v=kj (m.jE (Mk.tree d)).1/\s=[lN (m.jE (Mk.tree d)).2]:=by
 have hc:=lK d;have c0:=hm.c0;have c1:=hm.c1;have w1:IntKind.i64.wrap ((d+1:Nat)-1:Int)=(d:Int):=by rw[bF _ ae];omega
 have w2:IntKind.i64.wrap (m.ai+1)=m.ai+1:=bF _ ae;have lQ:0<=m.pos/\m.pos<=1000000000:=⟨hm.p0,by have:=hm.p1;omega⟩
 obtain⟨g1,g2,g3,g4⟩:=Bc hm;refine bk func91 ntmps91 results91 1 51 ?_;have Py:∀m':Mk,m'.In (b+2)->m'.ai=m.ai->∀n:Int,1<=n->n<=4->(m'.mb (max m'.ai n)).In (b+2):=λm' h he n h1 h2=>⟨h.l,h.p0,h.p1,h.l0,h.l1,by show 0<=max _ _;omega,by show max _ _<=4;omega⟩
 by_cases h4:4<m.ai+1
 ·have hp:=cB m.l m.pos (max 1 m.ai) ae;have w3:IntKind.i64.wrap (1+pick m.l m.pos (max 1 m.ai))=1+pick m.l m.pos (max 1 m.ai):=bF _ ae;simp only[zJ,simprocAttr,lM,lN,w1,w2,h4];refine bC (gZ m hm.l lQ (max 1 m.ai) ae) rfl rfl rfl rfl rfl rfl ?_;simp only[zJ,simprocAttr,lM,lN,w1,w2,h4,Mk.next,w3];refine bC (ht ((m.next (max 1 m.ai)).2.mb (max m.ai (1+pick m.l m.pos (max 1 m.ai)))) (b+2) ae (Py _ ((hm.next _).mono ae) rfl _ ae ae) ae) rfl rfl rfl rfl rfl (ca _ _) ?_;simp only[zJ,simprocAttr,lM,lN,w1,w2,h4,Mk.next,w3];have Yu:fk m=(1+pick m.l m.pos (max 1 m.ai),(m.next (max 1 m.ai)).2):=by simp [fk,h4,Mk.next]
  simp only[Mk.jE,Yu];first|exact⟨rfl,rfl⟩|exact⟨rfl,trivial⟩
 by_cases h0:0<m.ai
 ·simp only[zJ,simprocAttr,lM,lN,w1,w2,h4,h0];refine bC (gZ m hm.l lQ 9 ae) rfl rfl rfl rfl rfl rfl ?_;by_cases h9:pick m.l m.pos 9=0
  ·have hp:=cB m.l (m.pos+1) (max 1 m.ai) ae;have w3:IntKind.i64.wrap (1+pick m.l (m.pos+1) (max 1 m.ai))=1+pick m.l (m.pos+1) (max 1 m.ai):=bF _ ae;simp only[zJ,simprocAttr,lM,lN,w1,w2,h4,Mk.next,h9];refine bC (gZ (m.next 9).2 hm.l (by have:=hm.p1;simp only[Mk.next];omega) (max 1 m.ai) ae) rfl rfl rfl rfl rfl rfl ?_;simp only[zJ,simprocAttr,lM,lN,w1,w2,h4,Mk.next,w3];refine bC (ht (((m.next 9).2.next (max 1 m.ai)).2.mb (max m.ai (1+pick m.l (m.pos+1) (max 1 m.ai)))) (b+2) ae (Py _ (((hm.next 9).next _).mono ae) rfl _ ae ae) ae) rfl rfl rfl rfl rfl (ca _ _) ?_;simp only[zJ,simprocAttr,lM,lN,w1,w2,h4,Mk.next,w3];have Yu:fk m=(1+pick m.l (m.pos+1) (max 1 m.ai),((m.next 9).2.next (max 1 m.ai)).2):=by simp [fk,h4,h0,h9,Mk.next]
   simp only[Mk.jE,Yu];first|exact⟨rfl,rfl⟩|exact⟨rfl,trivial⟩
  ·simp only[zJ,simprocAttr,lM,lN,w1,w2,h4,Mk.next,h9];refine bC (ht ((m.next 9).2.mb (max m.ai (m.ai+1))) (b+2) ae (Py _ ((hm.next 9).mono ae) rfl _ ae ae) ae) rfl rfl rfl rfl rfl (ca _ _) ?_;simp only[zJ,simprocAttr,lM,lN,w1,w2,h4,Mk.next];have Yu:fk m=(m.ai+1,(m.next 9).2):=by simp [fk,h4,h0,h9,Mk.next]
   simp only[Mk.jE,Yu];first|exact⟨rfl,rfl⟩|exact⟨rfl,trivial⟩
 ·simp only[zJ,simprocAttr,lM,lN,w1,w2,h4,h0];refine bC (ht (m.mb (max m.ai (m.ai+1))) (b+2) ae (Py _ (hm.mono ae) rfl _ ae ae) ae) rfl rfl rfl rfl rfl (ca _ _) ?_;simp only[zJ,simprocAttr,lM,lN,w1,w2,h4];have Yu:fk m=(m.ai+1,m):=by simp [fk,h4,h0]
  simp only[Mk.jE,Yu];first|exact⟨rfl,rfl⟩|exact⟨rfl,trivial⟩
theorem Zc (d:Nat) (hd:d<=1000) (ht:yg d) (m:Mk) (b:Int) (hb:0<=b) (hm:m.In b) (hs:b+(cD d+4)<=1000000000) (hz:zD d<=1000000000) :
  az prog 90 [lM,i64 (d+1:Nat)] [lN m] λv s=>v=kj (m.rep (Mk.tree d)).1/\s=[lN (m.rep (Mk.tree d)).2]:=by
 have hc:=lK d;have w1:IntKind.i64.wrap ((d+1:Nat)-1:Int)=(d:Int):=by rw[bF _ ae];omega
 have lQ:0<=m.pos/\m.pos<=1000000000:=⟨hm.p0,by have:=hm.p1;omega⟩
 have hk:=cB m.l m.pos 12 ae;have dZ:(pick m.l m.pos 12).toNat<12:=ae;have Sc:([[D.sc (Value.int IntKind.i64 0)],[D.sc (Value.int IntKind.i64 0)],[D.sc (Value.int IntKind.i64 0)],[D.sc (Value.int IntKind.i64 0)],[D.sc (Value.int IntKind.i64 1)],[D.sc (Value.int IntKind.i64 1)],[D.sc (Value.int IntKind.i64 1)],[D.sc (Value.int IntKind.i64 0)],[D.sc (Value.int IntKind.i64 2)],[D.sc (Value.int IntKind.i64 0)],[D.sc (Value.int IntKind.i64 1)],[D.sc (Value.int IntKind.i64 2)]]:List (List D))[(pick m.l m.pos 12).toNat]?=some [D.sc (Value.int IntKind.i64 ((nA[(pick m.l m.pos 12).toNat]?).getD 0))]:=by rw[show ([[D.sc (Value.int IntKind.i64 0)],[D.sc (Value.int IntKind.i64 0)],[D.sc (Value.int IntKind.i64 0)],[D.sc (Value.int IntKind.i64 0)],[D.sc (Value.int IntKind.i64 1)],[D.sc (Value.int IntKind.i64 1)],[D.sc (Value.int IntKind.i64 1)],[D.sc (Value.int IntKind.i64 0)],[D.sc (Value.int IntKind.i64 2)],[D.sc (Value.int IntKind.i64 0)],[D.sc (Value.int IntKind.i64 1)],[D.sc (Value.int IntKind.i64 2)]]:List (List D))=nA.map (λx=>[D.sc (Value.int IntKind.i64 x)]) from rfl,aiY,ajg (show (pick m.l m.pos 12).toNat<nA.length from dZ)];rfl
 have TP:([[D.sc (Value.int IntKind.i64 (-1))],[D.sc (Value.int IntKind.i64 (-1))],[D.sc (Value.int IntKind.i64 (-1))],[D.sc (Value.int IntKind.i64 1)],[D.sc (Value.int IntKind.i64 (-1))],[D.sc (Value.int IntKind.i64 (-1))],[D.sc (Value.int IntKind.i64 2)],[D.sc (Value.int IntKind.i64 2)],[D.sc (Value.int IntKind.i64 2)],[D.sc (Value.int IntKind.i64 3)],[D.sc (Value.int IntKind.i64 1)],[D.sc (Value.int IntKind.i64 (-1))]]:List (List D))[(pick m.l m.pos 12).toNat]?=some [D.sc (Value.int IntKind.i64 ((kZ[(pick m.l m.pos 12).toNat]?).getD 0))]:=by rw[show ([[D.sc (Value.int IntKind.i64 (-1))],[D.sc (Value.int IntKind.i64 (-1))],[D.sc (Value.int IntKind.i64 (-1))],[D.sc (Value.int IntKind.i64 1)],[D.sc (Value.int IntKind.i64 (-1))],[D.sc (Value.int IntKind.i64 (-1))],[D.sc (Value.int IntKind.i64 2)],[D.sc (Value.int IntKind.i64 2)],[D.sc (Value.int IntKind.i64 2)],[D.sc (Value.int IntKind.i64 3)],[D.sc (Value.int IntKind.i64 1)],[D.sc (Value.int IntKind.i64 (-1))]]:List (List D))=kZ.map (λx=>[D.sc (Value.int IntKind.i64 x)]) from rfl,aiY,ajg (show (pick m.l m.pos 12).toNat<kZ.length from dZ)];rfl
 refine bk func90 ntmps90 results90 1 243 ?_;simp only[zJ,simprocAttr,lM,lN,w1];refine bC (gZ m hm.l lQ 12 ae) rfl rfl rfl rfl rfl rfl ?_;simp only[zJ,simprocAttr,lM,lN,w1,Mk.next];refine aX ct.bt ?_;refine aA mix [12] [(9,[0],[0]),(11,[2],[2])] aN ?_;simp only[zJ,simprocAttr,lM,lN,w1,Mk.next,Sc,TP];refine⟨hk.1,ae,hk.1,ae,?_⟩;refine vy (gZ (m.next 12).2 hm.l (by have:=hm.p1;simp only[Mk.next];omega) 2 ae) rfl rfl rfl rfl rfl rfl ?_;by_cases h8:0<iw .and .i64 m.dC 8
 ·simp only[zJ,simprocAttr,lM,lN,w1,Mk.next,Sc,TP,h8];refine bC (gZ ((m.next 12).2.next 2).2 hm.l (by have:=hm.p1;simp only[Mk.next];omega) 4 ae) rfl rfl rfl rfl rfl rfl ?_;by_cases h4:pick m.l (m.pos+1+1) 4=0
  ·simp only[zJ,simprocAttr,lM,lN,w1,Mk.next,h4];obtain⟨g1,g2⟩:=ky d (((m.next 12).2.next 2).2.next 4).2 (b+3) ae ((((hm.next 12).next 2).next 4).mono ae);refine bC (ht (((m.next 12).2.next 2).2.next 4).2 (b+3) ae ((((hm.next 12).next 2).next 4).mono ae) ae) rfl rfl rfl rfl rfl (ca _ _) ?_;have Yq:jB (m.next 12).2=(2,(((m.next 12).2.next 2).2.next 4).2):=by simp [jB,Mk.has,h8,Mk.next,h4]
   have hrep:m.rep (Mk.tree d)=(.mk 4 [] [(mA (Mk.tree d) (((m.next 12).2.next 2).2.next 4).2).1] ((nA[(pick m.l m.pos 12).toNat]?).getD 0) ((kZ[(pick m.l m.pos 12).toNat]?).getD 0) 2 0 false,(mA (Mk.tree d) (((m.next 12).2.next 2).2.next 4).2).2):=by simp only[Mk.rep,Yq];rfl
   have Ym:mA (Mk.tree d) (((m.next 12).2.next 2).2.next 4).2=if iw .and .i64 (Mk.tree d (((m.next 12).2.next 2).2.next 4).2).2.dC 32=0/\(Mk.tree d (((m.next 12).2.next 2).2.next 4).2).1.sB=true then (Mk.tree d (((m.next 12).2.next 2).2.next 4).2).2.set else Mk.tree d (((m.next 12).2.next 2).2.next 4).2:=rfl
   rw[hrep,Ym];generalize Mk.tree d (((m.next 12).2.next 2).2.next 4).2=R at *;by_cases Fe:iw .and .i64 R.2.dC 32=0
   ·simp only[zJ,simprocAttr,lM,lN,w1,Mk.next,Fe];refine bO (iL R.1 ae) ?_;cases hn:R.1.sB with
    |true =>
     simp only[zJ,simprocAttr,bV,lM,lN,w1,Mk.next,Fe,hn];refine bC (yz R.2 g1.l ⟨g1.p0,by have:=g1.p1;omega⟩) rfl rfl rfl rfl rfl (ca _ _) ?_;simp only[zJ,simprocAttr,bV,lM,lN,w1,Mk.next,Fe,hn];all_goals exact ed
    |false =>
     simp only[zJ,simprocAttr,bV,lM,lN,w1,Mk.next,Fe,hn];all_goals exact ed
   ·simp only[zJ,simprocAttr,lM,lN,w1,Mk.next,Fe];all_goals exact ed
  ·simp only[zJ,simprocAttr,lM,lN,w1,Mk.next,h4];obtain⟨g1,g2⟩:=ky d (((m.next 12).2.next 2).2.next 4).2 (b+3) ae ((((hm.next 12).next 2).next 4).mono ae);refine bC (ht (((m.next 12).2.next 2).2.next 4).2 (b+3) ae ((((hm.next 12).next 2).next 4).mono ae) ae) rfl rfl rfl rfl rfl (ca _ _) ?_;have Yq:jB (m.next 12).2=((pick m.l (m.pos+1) 2),(((m.next 12).2.next 2).2.next 4).2):=by simp [jB,Mk.has,h8,Mk.next,h4]
   have hrep:m.rep (Mk.tree d)=(.mk 4 [] [(mA (Mk.tree d) (((m.next 12).2.next 2).2.next 4).2).1] ((nA[(pick m.l m.pos 12).toNat]?).getD 0) ((kZ[(pick m.l m.pos 12).toNat]?).getD 0) (pick m.l (m.pos+1) 2) 0 false,(mA (Mk.tree d) (((m.next 12).2.next 2).2.next 4).2).2):=by simp only[Mk.rep,Yq];rfl
   have Ym:mA (Mk.tree d) (((m.next 12).2.next 2).2.next 4).2=if iw .and .i64 (Mk.tree d (((m.next 12).2.next 2).2.next 4).2).2.dC 32=0/\(Mk.tree d (((m.next 12).2.next 2).2.next 4).2).1.sB=true then (Mk.tree d (((m.next 12).2.next 2).2.next 4).2).2.set else Mk.tree d (((m.next 12).2.next 2).2.next 4).2:=rfl
   rw[hrep,Ym];generalize Mk.tree d (((m.next 12).2.next 2).2.next 4).2=R at *;by_cases Fe:iw .and .i64 R.2.dC 32=0
   ·simp only[zJ,simprocAttr,lM,lN,w1,Mk.next,Fe];refine bO (iL R.1 ae) ?_;cases hn:R.1.sB with
    |true =>
     simp only[zJ,simprocAttr,bV,lM,lN,w1,Mk.next,Fe,hn];refine bC (yz R.2 g1.l ⟨g1.p0,by have:=g1.p1;omega⟩) rfl rfl rfl rfl rfl (ca _ _) ?_;simp only[zJ,simprocAttr,bV,lM,lN,w1,Mk.next,Fe,hn];all_goals exact ed
    |false =>
     simp only[zJ,simprocAttr,bV,lM,lN,w1,Mk.next,Fe,hn];all_goals exact ed
   ·simp only[zJ,simprocAttr,lM,lN,w1,Mk.next,Fe];all_goals exact ed
 ·simp only[zJ,simprocAttr,lM,lN,w1,Mk.next,Sc,TP,h8];obtain⟨g1,g2⟩:=ky d ((m.next 12).2.next 2).2 (b+3) ae (((hm.next 12).next 2).mono ae);refine bC (ht ((m.next 12).2.next 2).2 (b+3) ae (((hm.next 12).next 2).mono ae) ae) rfl rfl rfl rfl rfl (ca _ _) ?_;have Yq:jB (m.next 12).2=((pick m.l (m.pos+1) 2),((m.next 12).2.next 2).2):=by simp [jB,Mk.has,h8,Mk.next]
  have hrep:m.rep (Mk.tree d)=(.mk 4 [] [(mA (Mk.tree d) ((m.next 12).2.next 2).2).1] ((nA[(pick m.l m.pos 12).toNat]?).getD 0) ((kZ[(pick m.l m.pos 12).toNat]?).getD 0) (pick m.l (m.pos+1) 2) 0 false,(mA (Mk.tree d) ((m.next 12).2.next 2).2).2):=by simp only[Mk.rep,Yq];rfl
  have Ym:mA (Mk.tree d) ((m.next 12).2.next 2).2=if iw .and .i64 (Mk.tree d ((m.next 12).2.next 2).2).2.dC 32=0/\(Mk.tree d ((m.next 12).2.next 2).2).1.sB=true then (Mk.tree d ((m.next 12).2.next 2).2).2.set else Mk.tree d ((m.next 12).2.next 2).2:=rfl
  rw[hrep,Ym];generalize Mk.tree d ((m.next 12).2.next 2).2=R at *;by_cases Fe:iw .and .i64 R.2.dC 32=0
  ·simp only[zJ,simprocAttr,lM,lN,w1,Mk.next,Fe];refine bO (iL R.1 ae) ?_;cases hn:R.1.sB with
   |true =>
    simp only[zJ,simprocAttr,bV,lM,lN,w1,Mk.next,Fe,hn];refine bC (yz R.2 g1.l ⟨g1.p0,by have:=g1.p1;omega⟩) rfl rfl rfl rfl rfl (ca _ _) ?_;simp only[zJ,simprocAttr,bV,lM,lN,w1,Mk.next,Fe,hn];all_goals exact ed
   |false =>
    simp only[zJ,simprocAttr,bV,lM,lN,w1,Mk.next,Fe,hn];all_goals exact ed
  ·simp only[zJ,simprocAttr,lM,lN,w1,Mk.next,Fe];all_goals exact ed
theorem Qh:yg 0:=by
 intro m b hb hm hs;have hc:cD 0=3:=rfl;have w1:IntKind.i64.wrap (m.left-1)=m.left-1:=bF _ (by have:=hm.l0;have:=hm.l1;omega);have lQ:0<=m.pos/\m.pos<=1000000000:=⟨hm.p0,by have:=hm.p1;omega⟩
 have hk:=cB m.l m.pos 20 ae;refine bk func65 ntmps65 results65 1 499 ?_;simp only[zJ,simprocAttr,lM,lN,w1];refine bC (gZ m.less hm.l lQ 20 ae) rfl rfl rfl rfl rfl rfl ?_;simp only[zJ,simprocAttr,lM,lN,w1,Mk.next,Mk.less];refine aA mix [] [] aN ?_;by_cases h0:pick m.l m.pos 20=0
 ·simp only[zJ,simprocAttr,lM,lN,w1,Mk.next,h0,ajn];rw[show Mk.tree 0 m=(Re.node 0 [],(m.less.next 20).2) by simp [Mk.tree,Mk.next,Mk.less,h0]];all_goals exact ed
 ·simp only[zJ,simprocAttr,lM,lN,w1,Mk.next,h0,ajn];refine bC (yz (m.less.next 20).2 hm.l (by have:=hm.p1;simp only[Mk.next,Mk.less];omega)) rfl rfl rfl rfl rfl (ca _ _) ?_;simp only[zJ,simprocAttr,lM,lN,w1,Mk.next,h0,ajn];rw[show Mk.tree 0 m=(m.less.next 20).2.set by simp [Mk.tree,Mk.next,Mk.less,h0]];all_goals exact ed
theorem Qi {d:Nat} (h3:¬m.left-1<3) (hp:¬(m.l.length:Int)<m.pos+1):Mk.tree (d+1) m=Mk.node (Mk.tree d) (pick m.l m.pos 20) (m.less.next 20).2:=by simp [Mk.tree,Mk.next,Mk.less,h3,hp]
theorem QL (d:Nat) (hd:d<=1000) (hz:zD d<=1000000000) (ht:yg d):yg (d+1):=by
 intro m b hb hm hs;have hk:=cB m.l m.pos 20 ae;have hc:=lK d;have W0:cD (d+1)=2+4*(cD d+1):=rfl;have w1:IntKind.i64.wrap (m.left-1)=m.left-1:=bF _ (by have:=hm.l0;have:=hm.l1;omega);have w2:IntKind.i64.wrap ((d+1:Nat)-1:Int)=(d:Int):=by rw[bF _ ae];omega
 have xf:¬((d+1:Nat):Int)=0:=ae;have lQ:0<=m.pos/\m.pos<=1000000000:=⟨hm.p0,by have:=hm.p1;omega⟩
 have hy:(m.less.next 20).2.In (b+2):=by have:=hm.left.next 20;rwa [Int.add_assoc]at this
 have hyp:0<=(m.less.next 20).2.pos/\(m.less.next 20).2.pos<=1000000000:=by have:=hm.p1;simp only[Mk.next,Mk.less];omega
 have c0:=hm.c0;have c1:=hm.c1;refine bk func65 ntmps65 results65 1 499 ?_;simp only[zJ,simprocAttr,lM,lN,w1];refine bC (gZ m.less hm.l lQ 20 ae) rfl rfl rfl rfl rfl rfl ?_;simp only[zJ,simprocAttr,lM,lN,w1,Mk.next,Mk.less];refine aA mix [] [] aN ?_;have F:=And.intro w1<|And.intro w2<|And.intro xf<|And.intro @lM.eq_1<|And.intro @lN.eq_1<|And.intro @Mk.next.eq_1 @Mk.less.eq_1;by_cases hl:m.left-1<3\/(m.l.length:Int)<m.pos+1
 ·have hT:Mk.tree (d+1) m=if pick m.l m.pos 20=0 then (Re.node 0 [],(m.less.next 20).2) else (m.less.next 20).2.set:=be hl
  rw[hT];by_cases h3:m.left-1<3
  ·by_cases h0:pick m.l m.pos 20=0
   ·simp only[zJ,simprocAttr,F,h3,h0];all_goals exact ed
   ·simp only[zJ,simprocAttr,F,h3,h0];refine bC (yz (m.less.next 20).2 hm.l hyp) rfl rfl rfl rfl rfl (ca _ _) ?_;simp only[zJ,simprocAttr,F,h3,h0];all_goals exact ed
  ·have Zv:=hl.resolve_left h3;by_cases h0:pick m.l m.pos 20=0
   ·simp only[zJ,simprocAttr,F,h3,Zv,h0];all_goals exact ed
   ·simp only[zJ,simprocAttr,F,h3,Zv,h0];refine bC (yz (m.less.next 20).2 hm.l hyp) rfl rfl rfl rfl rfl (ca _ _) ?_;simp only[zJ,simprocAttr,F,h3,Zv,h0];all_goals exact ed
 obtain⟨h3,Zv⟩:=not_or.1 hl
 replace F:=And.intro h3<|And.intro Zv F
 have E:=And.intro @Mk.node.eq_1<|And.intro @Mk.has.eq_1<|And.intro @Mk.next.eq_1 @Mk.less.eq_1;rw[Qi h3 Zv];by_cases h5:pick m.l m.pos 20<5
 ·rw[show Mk.node (Mk.tree d) (pick m.l m.pos 20) (m.less.next 20).2=(Re.node 2 (bE (Mk.tree d) 4 0 (m.less.next 20).2).1,(bE (Mk.tree d) 4 0 (m.less.next 20).2).2) by simp [E,h5]];simp only[zJ,simprocAttr,F,h5];refine bC (P6 d hd ht (m.less.next 20).2 (b+2) ae hy ae) rfl rfl rfl rfl rfl (by first|rfl|exact ca _ _) ?_;simp only[zJ,simprocAttr,F,h5];all_goals exact ed
 by_cases h8:pick m.l m.pos 20<8
 ·rw[show Mk.node (Mk.tree d) (pick m.l m.pos 20) (m.less.next 20).2=(Re.node 3 (bE (Mk.tree d) 4 0 (m.less.next 20).2).1,(bE (Mk.tree d) 4 0 (m.less.next 20).2).2) by simp [E,h5,h8]];simp only[zJ,simprocAttr,F,h5,h8];refine bC (P6 d hd ht (m.less.next 20).2 (b+2) ae hy ae) rfl rfl rfl rfl rfl (by first|rfl|exact ca _ _) ?_;simp only[zJ,simprocAttr,F,h5,h8];all_goals exact ed
 by_cases kz:pick m.l m.pos 20<12
 ·rw[show Mk.node (Mk.tree d) (pick m.l m.pos 20) (m.less.next 20).2=Mk.rep (Mk.tree d) (m.less.next 20).2 by simp [E,h5,h8,kz]];simp only[zJ,simprocAttr,F,h5,h8,kz];refine bC (Zc d hd ht (m.less.next 20).2 (b+2) ae hy ae hz) rfl rfl rfl rfl rfl (by first|rfl|exact ca _ _) ?_;simp only[zJ,simprocAttr,F,h5,h8,kz];all_goals exact ed
 have ov:pick m.l m.pos 20=12\/pick m.l m.pos 20=13\/pick m.l m.pos 20=14\/pick m.l m.pos 20=15\/pick m.l m.pos 20=16\/pick m.l m.pos 20=17\/pick m.l m.pos 20=18\/pick m.l m.pos 20=19:=ae;have Ap:=cB m.l (m.pos+1+1) 2 ae;have w3:IntKind.i64.wrap (7+pick m.l (m.pos+1+1) 2)=7+pick m.l (m.pos+1+1) 2:=bF _ ae
 replace F:=And.intro w3 F
 rcases ov with hq|hq|hq|hq|hq|hq|hq|hq;by_cases hu:0<iw .and .i64 m.dC 64
 ·rw[show Mk.node (Mk.tree d) (pick m.l m.pos 20) (m.less.next 20).2=Mk.jE (Mk.tree d) (m.less.next 20).2 by simp [E,hq,hu]];simp only[zJ,simprocAttr,F,hq,hu];refine bC (EW d hd ht (m.less.next 20).2 (b+2) ae hy ae) rfl rfl rfl rfl rfl (by first|rfl|exact ca _ _) ?_;simp only[zJ,simprocAttr,F,hq,hu];all_goals exact ed
 have Bj:=hq
 rotate_left
 by_cases hu:0<iw .and .i64 m.dC 64
 ·rw[show Mk.node (Mk.tree d) (pick m.l m.pos 20) (m.less.next 20).2=Mk.jE (Mk.tree d) (m.less.next 20).2 by simp [E,hq,hu]];simp only[zJ,simprocAttr,F,hq,hu];refine bC (EW d hd ht (m.less.next 20).2 (b+2) ae hy ae) rfl rfl rfl rfl rfl (by first|rfl|exact ca _ _) ?_;simp only[zJ,simprocAttr,F,hq,hu];all_goals exact ed
 have Bj:=hq
 rotate_left
 by_cases hu:0<iw .and .i64 m.dC 16
 ·rw[show Mk.node (Mk.tree d) (pick m.l m.pos 20) (m.less.next 20).2=(.mk 11 [] [] 0 0 0 (((m.less.next 20).2).next 6).1 false,(((m.less.next 20).2).next 6).2) by simp [E,hq,hu]];simp only[zJ,simprocAttr,F,hq,hu];refine bC (gZ (m.less.next 20).2 hm.l hyp 6 ae) rfl rfl rfl rfl rfl (by first|rfl|exact ca _ _) ?_;simp only[zJ,simprocAttr,F,hq,hu];all_goals exact ed
 have Bj:=hq
 rotate_left
 by_cases hu:0<iw .and .i64 m.dC 4
 ·rw[show Mk.node (Mk.tree d) (pick m.l m.pos 20) (m.less.next 20).2=(.mk (7+(((m.less.next 20).2.next 3).2.next 2).1) [] [(Mk.tree d (((m.less.next 20).2.next 3).2.next 2).2).1] 0 0 0 0 (decide (((m.less.next 20).2.next 3).1=0)),(Mk.tree d (((m.less.next 20).2.next 3).2.next 2).2).2) by simp [E,hq,hu]];simp only[zJ,simprocAttr,F,hq,hu];refine bC (gZ (m.less.next 20).2 hm.l hyp 3 ae) rfl rfl rfl rfl rfl (by first|rfl|exact ca _ _) ?_;simp only[zJ,simprocAttr,F,hq,hu];refine bC (gZ ((m.less.next 20).2.next 3).2 hm.l (by have:=hm.p1;simp only[Mk.next,Mk.less];omega) 2 ae) rfl rfl rfl rfl rfl (by first|rfl|exact ca _ _) ?_;simp only[zJ,simprocAttr,F,hq,hu];refine bC (ht (((m.less.next 20).2.next 3).2.next 2).2 (b+4) ae (((hy.next 3).next 2).mono ae) ae) rfl rfl rfl rfl rfl (by first|rfl|exact ca _ _) ?_;simp only[zJ,simprocAttr,F,hq,hu];all_goals exact ed
 have Bj:=hq
 rotate_left
 by_cases hu:0<iw .and .i64 m.dC 8
 ·rw[show Mk.node (Mk.tree d) (pick m.l m.pos 20) (m.less.next 20).2=(Re.node 9 [(Mk.tree d (m.less.next 20).2).1],(Mk.tree d (m.less.next 20).2).2) by simp [E,hq,hu]];simp only[zJ,simprocAttr,F,hq,hu];refine bC (ht (m.less.next 20).2 (b+2) ae hy ae) rfl rfl rfl rfl rfl (by first|rfl|exact ca _ _) ?_;simp only[zJ,simprocAttr,F,hq,hu];all_goals exact ed
 have Bj:=hq
 rotate_left
 by_cases hu:0<iw .and .i64 m.dC 1;by_cases Bj:0<m.ai
 ·have CV:=cB m.l (m.pos+1) m.ai ae;have w3:IntKind.i64.wrap (1+pick m.l (m.pos+1) m.ai)=1+pick m.l (m.pos+1) m.ai:=bF _ ae;rw[show Mk.node (Mk.tree d) (pick m.l m.pos 20) (m.less.next 20).2=(.mk 6 [] [] 0 0 0 (1+((m.less.next 20).2.next m.ai).1) false,((m.less.next 20).2.next m.ai).2) by simp [E,hq,hu,Bj,w3]];simp only[zJ,simprocAttr,F,hq,hu,Bj,w3];refine bC (gZ (m.less.next 20).2 hm.l hyp m.ai ae) rfl rfl rfl rfl rfl (by first|rfl|exact ca _ _) ?_;simp only[zJ,simprocAttr,F,hq,hu,Bj,w3];all_goals exact ed
 rotate_left
 have Bj:=hq
 rotate_left
 by_cases hu:0<iw .and .i64 m.dC 2;by_cases Bj:0<m.ai
 ·have CV:=cB m.l (m.pos+1) m.ai ae;have w3:IntKind.i64.wrap (1+pick m.l (m.pos+1) m.ai)=1+pick m.l (m.pos+1) m.ai:=bF _ ae;obtain⟨g1,g2⟩:=ky d ((m.less.next 20).2.next m.ai).2 (b+3) ae ((hy.next m.ai).mono ae);rw[show Mk.node (Mk.tree d) (pick m.l m.pos 20) (m.less.next 20).2=(.mk 10 [] [(Mk.tree d ((m.less.next 20).2.next m.ai).2).1,(Mk.tree d (Mk.tree d ((m.less.next 20).2.next m.ai).2).2).1] 0 0 0 (1+((m.less.next 20).2.next m.ai).1) false,(Mk.tree d (Mk.tree d ((m.less.next 20).2.next m.ai).2).2).2) by simp [E,hq,hu,Bj,w3]];simp only[zJ,simprocAttr,F,hq,hu,Bj,w3];refine bC (gZ (m.less.next 20).2 hm.l hyp m.ai ae) rfl rfl rfl rfl rfl (by first|rfl|exact ca _ _) ?_;simp only[zJ,simprocAttr,F,hq,hu,Bj,w3];refine bC (ht ((m.less.next 20).2.next m.ai).2 (b+3) ae ((hy.next m.ai).mono ae) ae) rfl rfl rfl rfl rfl (by first|rfl|exact ca _ _) ?_;simp only[zJ,simprocAttr,F,hq,hu,Bj,w3];refine aA mix [8] [(1,[2],[]),(5,[0],[0])] aN ?_;simp only[zJ,simprocAttr,F,hq,hu,Bj,w3];refine vy (ht (Mk.tree d ((m.less.next 20).2.next m.ai).2).2 (b+3+cD d) ae g1 ae) rfl rfl rfl rfl rfl (ca _ _) ?_;simp only[zJ,simprocAttr,F,hq,hu,Bj,w3];all_goals exact ed
 rotate_left
 have Bj:=hq
 rotate_left
 have hu:=hq;have Bj:=hq;all_goals
  rw[show Mk.node (Mk.tree d) (pick m.l m.pos 20) (m.less.next 20).2=(m.less.next 20).2.set by simp [E,hq,hu,Bj]];simp only[zJ,simprocAttr,F,hq,hu,Bj];refine bC (yz (m.less.next 20).2 hm.l hyp) rfl rfl rfl rfl rfl (ca _ _) ?_;simp only[zJ,simprocAttr,F,hq,hu,Bj];all_goals exact ed
theorem P3:∀d,d<=1000->zD d<=1000000000->yg d
 |0,_,_=>Qh
 |d+1,hd,hz=>QL d ae (by have:=AO d;simp only[zD]at hz;omega) (P3 d ae (by have:=AO d;simp only[zD]at hz;omega))
end Go.Proofs.Ytfmdmlfhigocaaa
