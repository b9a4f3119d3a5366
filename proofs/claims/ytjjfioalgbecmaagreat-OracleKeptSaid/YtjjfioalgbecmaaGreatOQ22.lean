/- A part of the proof (F8 F9 F10 F11). -/
import Derived.Test.YtjjfioalgbecmaaGreatOQ21
set_option linter.unusedSimpArgs false
set_option linter.unusedVariables false
open Nat renaming reduceShiftRight → jN, reduceMod → oN, reduceEqDiff → oV, reduceBEq → pZ
set_option maxRecDepth 100000
set_option maxHeartbeats 80000000
namespace Go.Proofs.YtjjfioalgbecmaaGreat
open Go.VL Go.Proofs.Tryz
variable{m:Mk}{t:Mk->Re×Mk}
def w6 (d:Nat):Prop:=∀(m:Mk) (b:Int),0<=b->m.In b->b+cD d<=1000000000 ->
 ar prog 88 [kQ,i64 d] [kR m] λv s=>v=sN (m.tree d).1/\s=[kR (m.tree d).2]
theorem AL{f:Nat}{i:Int} (h:i<2+(m.next 2).1):aL t (f+1) i m=((t (m.next 2).2).1::(aL t f (i+1) (t (m.next 2).2).2).1,(aL t f (i+1) (t (m.next 2).2).2).2):=by rw[aL,be h]
theorem Ft{f:Nat}{i:Int} (h:¬i<2+(m.next 2).1):aL t (f+1) i m=([],(m.next 2).2):=by rw[aL,ap h]
def aas (l:List Re):D:=.sl (l.map Re.cells)
theorem Pp (d:Nat) (hd:d<=1000) (ht:w6 d) (m:Mk) (b:Int) (hb:0<=b) (hm:m.In b) (hs:b+4*(cD d+1)<=1000000000) :
  ar prog 111 [kQ,i64 (d+1:Nat)] [kR m] λv s=>v=.d (aas (aL (Mk.tree d) 4 0 m).1)/\s=[kR (aL (Mk.tree d) 4 0 m).2]:=by
 have hc:=kP d;have w1:IntKind.i64.wrap ((d+1:Nat)-1:Int)=(d:Int):=by rw[bG _ ae];omega
 refine bo func111 ntmps111 results111 1 115 ?_;simp only[zJ,simprocAttr,kQ];refine aw (λn e s=>∃(i:Nat) (m':Mk) (l:List Re),n=4-i/\i<=3/\m'.In (b+i*(cD d+1))/\l.length=i/\e 0=.rf 0 0 0 0/\e 1=i64 (d+1:Nat)/\e 6=i64 i /\
   aL (Mk.tree d) 4 0 m=(l++(aL (Mk.tree d) (4-i) i m').1,(aL (Mk.tree d) (4-i) i m').2) /\
   ((i=0/\e 5=.fu []/\s=[kR m'])\/∃g,e 5=.so 1 g 0 i/\s=[kR m',⟨g,true,8,(l.map Re.cells).map λc=>c.map V.d⟩])) ⟨_,_,_,bA.refl,0,m,[],rfl,ae,by simpa using hm,rfl,rfl,rfl,rfl,ak,.inl ⟨rfl,rfl,rfl⟩⟩ ?_
 rintro n e s ⟨i,m',l,rfl,hi,vT,hl,h0,h1,h6,hk,oI⟩;have hp:=cb m'.l m'.pos 2 ae;have w2:IntKind.i64.wrap (2+pick m'.l m'.pos 2)=2+pick m'.l m'.pos 2:=bG _ ae;have US:(i:Int)*(cD d+1)+(cD d+1)<=4*(cD d+1):=by have:=akp (show (i:Int)+1<=4 by omega) (show (0:Int)<=cD d+1 by omega);rw[Int.add_mul,Int.one_mul]at this;exact this
 have ahc:0<=(i:Int)*(cD d+1):=ak4 ae ae;have lX:0<=m'.pos/\m'.pos<=1000000000:=⟨vT.p0,by have:=vT.p1;omega⟩
 have hf:4-i=(3-i)+1:=ae;rw[hf]at hk;rcases oI with ⟨rfl,h5,rfl⟩|⟨g,h5,rfl⟩
 ·simp only[zJ,simprocAttr,h0,h1,h6,kQ];refine qO (fZ m' vT.l lX 2 ae) ?_;have az:(0:Int)<2+pick m'.l m'.pos 2:=ae;simp only[zJ,simprocAttr,h0,h1,h6,kQ,Mk.next,w1,w2,az,aka];refine qO (ht (m'.next 2).2 (b+1) ae (by simpa using vT.next 2) ae) ?_;simp only[zJ,simprocAttr,h0,h1,h5,h6,kQ,Mk.next,w1,w2,az,aka];obtain⟨g1,g2⟩:=jL d (m'.next 2).2 (b+1) ae (by simpa using vT.next 2);refine⟨λx hx=>by rw[List.mem_singleton.1 hx];simp [Re.kM],ak,3,_,_,ae,bA.refl,1,((Mk.tree d) (m'.next 2).2).2,[((Mk.tree d) (m'.next 2).2).1],rfl,ae,g1.mono cC,rfl,?_,?_,?_,?_,.inr ⟨0,?_,?_⟩⟩
  ·simp only[zU,pZ,jN,oN,oV,reduceIte];exact h0
  ·simp only[zU,pZ,jN,oN,oV,reduceIte];exact h1
  ·simp only[zU,pZ,jN,oN,oV,reduceIte];rw[bG _ ae];rfl
  ·rw[hk,AL (by simpa [Mk.next]using az)];have:l=[]:=akj hl;subst this;rfl
  ·simp only[zU,pZ,jN,oN,oV,reduceIte]
  ·rfl
 ·by_cases az:(i:Int)<2+pick m'.l m'.pos 2
  ·rw[AL (f:=3-i) (i:=i) (m:=m') (by simpa [Mk.next]using az)]at hk;obtain⟨g1,g2⟩:=jL d (m'.next 2).2 (b+i*(cD d+1)+1) ae (vT.next 2);simp only[zJ,simprocAttr,h0,h1,h6,kQ];refine qO (fZ m' vT.l lX 2 ae) ?_;simp only[zJ,simprocAttr,h0,h1,h6,kQ,Mk.next,w1,w2,az];refine qO (ht (m'.next 2).2 (b+i*(cD d+1)+1) ae (vT.next 2) ae) ?_;simp only[zJ,simprocAttr,h0,h1,h5,h6,kQ,Mk.next,w1,w2,az];refine⟨λx hx=>by rw[List.mem_singleton.1 hx];simp [Re.kM],⟨ae,ae⟩,4-(i+1),_,_,ae,bA.refl,i+1,((Mk.tree d) (m'.next 2).2).2,l++[((Mk.tree d) (m'.next 2).2).1],rfl,?_,g1.mono ?_,by simp [hl],?_,?_,?_,?_,.inr ⟨g+1,?_,?_⟩⟩
   ·omega
   ·rw[akC,Int.add_mul];simp;omega
   ·simp only[zU,pZ,jN,oN,oV,reduceIte];exact h0
   ·simp only[zU,pZ,jN,oN,oV,reduceIte];exact h1
   ·simp only[zU,pZ,jN,oN,oV,reduceIte];rw[bG _ ae];rfl
   ·rw[hk,show 4-(i+1)=3-i by omega];simp
   ·simp only[zU,pZ,jN,oN,oV,reduceIte]
   ·simp [hl,<- List.map_take,akb (Nat.le_of_eq hl)];exact⟨rfl,rfl⟩
  ·rw[Ft (f:=3-i) (i:=i) (m:=m') (by simpa [Mk.next]using az)]at hk;simp only[zJ,simprocAttr,h0,h1,h6,kQ];refine qO (fZ m' vT.l lX 2 ae) ?_;have hle:0+i<=l.length:=ae;have Ib:((l.map Re.cells).map λc=>c.map V.d).take i=(l.map Re.cells).map λc=>c.map V.d:=akb (by simp [hl]);simp only[zJ,simprocAttr,h0,h1,h5,h6,kQ,Mk.next,w1,w2,az,hle,Ib];rw[hk];exact⟨rfl,by simp [aas],rfl⟩
theorem DA (d:Nat) (hd:d<=1000) (ht:w6 d) (m:Mk) (b:Int) (hb:0<=b) (hm:m.In b) (hs:b+(cD d+2)<=1000000000) :
  ar prog 113 [kQ,i64 (d+1:Nat)] [kR m] λv s=>v=sN (m.iI (Mk.tree d)).1/\s=[kR (m.iI (Mk.tree d)).2]:=by
 have hc:=kP d;have c0:=hm.c0;have c1:=hm.c1;have w1:IntKind.i64.wrap ((d+1:Nat)-1:Int)=(d:Int):=by rw[bG _ ae];omega
 have w2:IntKind.i64.wrap (m.ai+1)=m.ai+1:=bG _ ae;have lX:0<=m.pos/\m.pos<=1000000000:=⟨hm.p0,by have:=hm.p1;omega⟩
 obtain⟨g1,g2,g3,g4⟩:=Ad hm;refine bo func113 ntmps113 results113 1 51 ?_;have OS:∀m':Mk,m'.In (b+2)->m'.ai=m.ai->∀n:Int,1<=n->n<=4->(m'.lz (max m'.ai n)).In (b+2):=λm' h he n h1 h2=>⟨h.l,h.p0,h.p1,h.l0,h.l1,by show 0<=max _ _;omega,by show max _ _<=4;omega⟩
 by_cases h4:4<m.ai+1
 ·have hp:=cb m.l m.pos (max 1 m.ai) ae;have w3:IntKind.i64.wrap (1+pick m.l m.pos (max 1 m.ai))=1+pick m.l m.pos (max 1 m.ai):=bG _ ae;simp only[zJ,simprocAttr,kQ,kR,w1,w2,h4];refine qO (fZ m hm.l lX (max 1 m.ai) ae) ?_;simp only[zJ,simprocAttr,kQ,kR,w1,w2,h4,Mk.next,w3];refine qO (ht ((m.next (max 1 m.ai)).2.lz (max m.ai (1+pick m.l m.pos (max 1 m.ai)))) (b+2) ae (OS _ ((hm.next _).mono ae) rfl _ ae ae) ae) ?_;simp only[zJ,simprocAttr,kQ,kR,w1,w2,h4,Mk.next,w3];have YL:eh m=(1+pick m.l m.pos (max 1 m.ai),(m.next (max 1 m.ai)).2):=by simp [eh,h4,Mk.next]
  simp only[Mk.iI,YL];first|exact⟨rfl,rfl⟩|exact⟨rfl,trivial⟩
 by_cases h0:0<m.ai
 ·simp only[zJ,simprocAttr,kQ,kR,w1,w2,h4,h0];refine qO (fZ m hm.l lX 9 ae) ?_;by_cases h9:pick m.l m.pos 9=0
  ·have hp:=cb m.l (m.pos+1) (max 1 m.ai) ae;have w3:IntKind.i64.wrap (1+pick m.l (m.pos+1) (max 1 m.ai))=1+pick m.l (m.pos+1) (max 1 m.ai):=bG _ ae;simp only[zJ,simprocAttr,kQ,kR,w1,w2,h4,Mk.next,h9];refine qO (fZ (m.next 9).2 hm.l (by have:=hm.p1;simp only[Mk.next];omega) (max 1 m.ai) ae) ?_;simp only[zJ,simprocAttr,kQ,kR,w1,w2,h4,Mk.next,w3];refine qO (ht (((m.next 9).2.next (max 1 m.ai)).2.lz (max m.ai (1+pick m.l (m.pos+1) (max 1 m.ai)))) (b+2) ae (OS _ (((hm.next 9).next _).mono ae) rfl _ ae ae) ae) ?_;simp only[zJ,simprocAttr,kQ,kR,w1,w2,h4,Mk.next,w3];have YL:eh m=(1+pick m.l (m.pos+1) (max 1 m.ai),((m.next 9).2.next (max 1 m.ai)).2):=by simp [eh,h4,h0,h9,Mk.next]
   simp only[Mk.iI,YL];first|exact⟨rfl,rfl⟩|exact⟨rfl,trivial⟩
  ·simp only[zJ,simprocAttr,kQ,kR,w1,w2,h4,Mk.next,h9];refine qO (ht ((m.next 9).2.lz (max m.ai (m.ai+1))) (b+2) ae (OS _ ((hm.next 9).mono ae) rfl _ ae ae) ae) ?_;simp only[zJ,simprocAttr,kQ,kR,w1,w2,h4,Mk.next];have YL:eh m=(m.ai+1,(m.next 9).2):=by simp [eh,h4,h0,h9,Mk.next]
   simp only[Mk.iI,YL];first|exact⟨rfl,rfl⟩|exact⟨rfl,trivial⟩
 ·simp only[zJ,simprocAttr,kQ,kR,w1,w2,h4,h0];refine qO (ht (m.lz (max m.ai (m.ai+1))) (b+2) ae (OS _ (hm.mono ae) rfl _ ae ae) ae) ?_;simp only[zJ,simprocAttr,kQ,kR,w1,w2,h4];have YL:eh m=(m.ai+1,m):=by simp [eh,h4,h0]
  simp only[Mk.iI,YL];first|exact⟨rfl,rfl⟩|exact⟨rfl,trivial⟩
theorem Zr (d:Nat) (hd:d<=1000) (ht:w6 d) (m:Mk) (b:Int) (hb:0<=b) (hm:m.In b) (hs:b+(cD d+4)<=1000000000) (hz:zD d<=1000000000) :
  ar prog 112 [kQ,i64 (d+1:Nat)] [kR m] λv s=>v=sN (m.rep (Mk.tree d)).1/\s=[kR (m.rep (Mk.tree d)).2]:=by
 have hc:=kP d;have w1:IntKind.i64.wrap ((d+1:Nat)-1:Int)=(d:Int):=by rw[bG _ ae];omega
 have lX:0<=m.pos/\m.pos<=1000000000:=⟨hm.p0,by have:=hm.p1;omega⟩
 have hk:=cb m.l m.pos 12 ae;have fm:(pick m.l m.pos 12).toNat<12:=ae;have RI:([[D.sc (Value.int IntKind.i64 0)],[D.sc (Value.int IntKind.i64 0)],[D.sc (Value.int IntKind.i64 0)],[D.sc (Value.int IntKind.i64 0)],[D.sc (Value.int IntKind.i64 1)],[D.sc (Value.int IntKind.i64 1)],[D.sc (Value.int IntKind.i64 1)],[D.sc (Value.int IntKind.i64 0)],[D.sc (Value.int IntKind.i64 2)],[D.sc (Value.int IntKind.i64 0)],[D.sc (Value.int IntKind.i64 1)],[D.sc (Value.int IntKind.i64 2)]]:List (List D))[(pick m.l m.pos 12).toNat]?=some [D.sc (Value.int IntKind.i64 ((jM[(pick m.l m.pos 12).toNat]?).getD 0))]:=by rw[show ([[D.sc (Value.int IntKind.i64 0)],[D.sc (Value.int IntKind.i64 0)],[D.sc (Value.int IntKind.i64 0)],[D.sc (Value.int IntKind.i64 0)],[D.sc (Value.int IntKind.i64 1)],[D.sc (Value.int IntKind.i64 1)],[D.sc (Value.int IntKind.i64 1)],[D.sc (Value.int IntKind.i64 0)],[D.sc (Value.int IntKind.i64 2)],[D.sc (Value.int IntKind.i64 0)],[D.sc (Value.int IntKind.i64 1)],[D.sc (Value.int IntKind.i64 2)]]:List (List D))=jM.map (λx=>[D.sc (Value.int IntKind.i64 x)]) from rfl,List.getElem?_map,List.getElem?_eq_getElem (show (pick m.l m.pos 12).toNat<jM.length from fm)];rfl
 have TJ:([[D.sc (Value.int IntKind.i64 (-1))],[D.sc (Value.int IntKind.i64 (-1))],[D.sc (Value.int IntKind.i64 (-1))],[D.sc (Value.int IntKind.i64 1)],[D.sc (Value.int IntKind.i64 (-1))],[D.sc (Value.int IntKind.i64 (-1))],[D.sc (Value.int IntKind.i64 2)],[D.sc (Value.int IntKind.i64 2)],[D.sc (Value.int IntKind.i64 2)],[D.sc (Value.int IntKind.i64 3)],[D.sc (Value.int IntKind.i64 1)],[D.sc (Value.int IntKind.i64 (-1))]]:List (List D))[(pick m.l m.pos 12).toNat]?=some [D.sc (Value.int IntKind.i64 ((gR[(pick m.l m.pos 12).toNat]?).getD 0))]:=by rw[show ([[D.sc (Value.int IntKind.i64 (-1))],[D.sc (Value.int IntKind.i64 (-1))],[D.sc (Value.int IntKind.i64 (-1))],[D.sc (Value.int IntKind.i64 1)],[D.sc (Value.int IntKind.i64 (-1))],[D.sc (Value.int IntKind.i64 (-1))],[D.sc (Value.int IntKind.i64 2)],[D.sc (Value.int IntKind.i64 2)],[D.sc (Value.int IntKind.i64 2)],[D.sc (Value.int IntKind.i64 3)],[D.sc (Value.int IntKind.i64 1)],[D.sc (Value.int IntKind.i64 (-1))]]:List (List D))=gR.map (λx=>[D.sc (Value.int IntKind.i64 x)]) from rfl,List.getElem?_map,List.getElem?_eq_getElem (show (pick m.l m.pos 12).toNat<gR.length from fm)];rfl
 refine bo func112 ntmps112 results112 1 243 ?_;simp only[zJ,simprocAttr,kQ,kR,w1];refine qO (fZ m hm.l lX 12 ae) ?_;simp only[zJ,simprocAttr,kQ,kR,w1,Mk.next];refine aX bW.bn ?_;refine cu mix [12] [(9,[0],[0]),(11,[2],[2])] ?_;simp only[zJ,simprocAttr,kQ,kR,w1,Mk.next,RI,TJ];refine⟨hk.1,ae,hk.1,ae,?_⟩;refine ofA (fZ (m.next 12).2 hm.l (by have:=hm.p1;simp only[Mk.next];omega) 2 ae) ?_;by_cases h8:0<kg .and .i64 m.cL 8
 ·simp only[zJ,simprocAttr,kQ,kR,w1,Mk.next,RI,TJ,h8];refine qO (fZ ((m.next 12).2.next 2).2 hm.l (by have:=hm.p1;simp only[Mk.next];omega) 4 ae) ?_;by_cases h4:pick m.l (m.pos+1+1) 4=0
  ·simp only[zJ,simprocAttr,kQ,kR,w1,Mk.next,h4];obtain⟨g1,g2⟩:=jL d (((m.next 12).2.next 2).2.next 4).2 (b+3) ae ((((hm.next 12).next 2).next 4).mono ae);refine qO (ht (((m.next 12).2.next 2).2.next 4).2 (b+3) ae ((((hm.next 12).next 2).next 4).mono ae) ae) ?_;have YJ:eK (m.next 12).2=(2,(((m.next 12).2.next 2).2.next 4).2):=by simp [eK,Mk.has,h8,Mk.next,h4]
   have hrep:m.rep (Mk.tree d)=(.mk 4 [] [(jx (Mk.tree d) (((m.next 12).2.next 2).2.next 4).2).1] ((jM[(pick m.l m.pos 12).toNat]?).getD 0) ((gR[(pick m.l m.pos 12).toNat]?).getD 0) 2 0 false,(jx (Mk.tree d) (((m.next 12).2.next 2).2.next 4).2).2):=by simp only[Mk.rep,YJ];rfl
   have YG:jx (Mk.tree d) (((m.next 12).2.next 2).2.next 4).2=if kg .and .i64 (Mk.tree d (((m.next 12).2.next 2).2.next 4).2).2.cL 32=0/\(Mk.tree d (((m.next 12).2.next 2).2.next 4).2).1.sK=true then (Mk.tree d (((m.next 12).2.next 2).2.next 4).2).2.set else Mk.tree d (((m.next 12).2.next 2).2.next 4).2:=rfl
   rw[hrep,YG];generalize Mk.tree d (((m.next 12).2.next 2).2.next 4).2=R at *;by_cases Ba:kg .and .i64 R.2.cL 32=0
   ·simp only[zJ,simprocAttr,kQ,kR,w1,Mk.next,Ba];refine dY (jn R.1 ae) ?_;cases hn:R.1.sK with
    |true =>
     simp only[zJ,simprocAttr,bV,kQ,kR,w1,Mk.next,Ba,hn];refine qO (xp R.2 g1.l ⟨g1.p0,by have:=g1.p1;omega⟩) ?_;simp only[zJ,simprocAttr,bV,kQ,kR,w1,Mk.next,Ba,hn];all_goals exact dW
    |false =>
     simp only[zJ,simprocAttr,bV,kQ,kR,w1,Mk.next,Ba,hn];all_goals exact dW
   ·simp only[zJ,simprocAttr,kQ,kR,w1,Mk.next,Ba];all_goals exact dW
  ·simp only[zJ,simprocAttr,kQ,kR,w1,Mk.next,h4];obtain⟨g1,g2⟩:=jL d (((m.next 12).2.next 2).2.next 4).2 (b+3) ae ((((hm.next 12).next 2).next 4).mono ae);refine qO (ht (((m.next 12).2.next 2).2.next 4).2 (b+3) ae ((((hm.next 12).next 2).next 4).mono ae) ae) ?_;have YJ:eK (m.next 12).2=((pick m.l (m.pos+1) 2),(((m.next 12).2.next 2).2.next 4).2):=by simp [eK,Mk.has,h8,Mk.next,h4]
   have hrep:m.rep (Mk.tree d)=(.mk 4 [] [(jx (Mk.tree d) (((m.next 12).2.next 2).2.next 4).2).1] ((jM[(pick m.l m.pos 12).toNat]?).getD 0) ((gR[(pick m.l m.pos 12).toNat]?).getD 0) (pick m.l (m.pos+1) 2) 0 false,(jx (Mk.tree d) (((m.next 12).2.next 2).2.next 4).2).2):=by simp only[Mk.rep,YJ];rfl
   have YG:jx (Mk.tree d) (((m.next 12).2.next 2).2.next 4).2=if kg .and .i64 (Mk.tree d (((m.next 12).2.next 2).2.next 4).2).2.cL 32=0/\(Mk.tree d (((m.next 12).2.next 2).2.next 4).2).1.sK=true then (Mk.tree d (((m.next 12).2.next 2).2.next 4).2).2.set else Mk.tree d (((m.next 12).2.next 2).2.next 4).2:=rfl
   rw[hrep,YG];generalize Mk.tree d (((m.next 12).2.next 2).2.next 4).2=R at *;by_cases Ba:kg .and .i64 R.2.cL 32=0
   ·simp only[zJ,simprocAttr,kQ,kR,w1,Mk.next,Ba];refine dY (jn R.1 ae) ?_;cases hn:R.1.sK with
    |true =>
     simp only[zJ,simprocAttr,bV,kQ,kR,w1,Mk.next,Ba,hn];refine qO (xp R.2 g1.l ⟨g1.p0,by have:=g1.p1;omega⟩) ?_;simp only[zJ,simprocAttr,bV,kQ,kR,w1,Mk.next,Ba,hn];all_goals exact dW
    |false =>
     simp only[zJ,simprocAttr,bV,kQ,kR,w1,Mk.next,Ba,hn];all_goals exact dW
   ·simp only[zJ,simprocAttr,kQ,kR,w1,Mk.next,Ba];all_goals exact dW
 ·simp only[zJ,simprocAttr,kQ,kR,w1,Mk.next,RI,TJ,h8];obtain⟨g1,g2⟩:=jL d ((m.next 12).2.next 2).2 (b+3) ae (((hm.next 12).next 2).mono ae);refine qO (ht ((m.next 12).2.next 2).2 (b+3) ae (((hm.next 12).next 2).mono ae) ae) ?_;have YJ:eK (m.next 12).2=((pick m.l (m.pos+1) 2),((m.next 12).2.next 2).2):=by simp [eK,Mk.has,h8,Mk.next]
  have hrep:m.rep (Mk.tree d)=(.mk 4 [] [(jx (Mk.tree d) ((m.next 12).2.next 2).2).1] ((jM[(pick m.l m.pos 12).toNat]?).getD 0) ((gR[(pick m.l m.pos 12).toNat]?).getD 0) (pick m.l (m.pos+1) 2) 0 false,(jx (Mk.tree d) ((m.next 12).2.next 2).2).2):=by simp only[Mk.rep,YJ];rfl
  have YG:jx (Mk.tree d) ((m.next 12).2.next 2).2=if kg .and .i64 (Mk.tree d ((m.next 12).2.next 2).2).2.cL 32=0/\(Mk.tree d ((m.next 12).2.next 2).2).1.sK=true then (Mk.tree d ((m.next 12).2.next 2).2).2.set else Mk.tree d ((m.next 12).2.next 2).2:=rfl
  rw[hrep,YG];generalize Mk.tree d ((m.next 12).2.next 2).2=R at *;by_cases Ba:kg .and .i64 R.2.cL 32=0
  ·simp only[zJ,simprocAttr,kQ,kR,w1,Mk.next,Ba];refine dY (jn R.1 ae) ?_;cases hn:R.1.sK with
   |true =>
    simp only[zJ,simprocAttr,bV,kQ,kR,w1,Mk.next,Ba,hn];refine qO (xp R.2 g1.l ⟨g1.p0,by have:=g1.p1;omega⟩) ?_;simp only[zJ,simprocAttr,bV,kQ,kR,w1,Mk.next,Ba,hn];all_goals exact dW
   |false =>
    simp only[zJ,simprocAttr,bV,kQ,kR,w1,Mk.next,Ba,hn];all_goals exact dW
  ·simp only[zJ,simprocAttr,kQ,kR,w1,Mk.next,Ba];all_goals exact dW
theorem PB:w6 0:=by
 intro m b hb hm hs;have hc:cD 0=3:=rfl;have w1:IntKind.i64.wrap (m.left-1)=m.left-1:=bG _ (by have:=hm.l0;have:=hm.l1;omega);have lX:0<=m.pos/\m.pos<=1000000000:=⟨hm.p0,by have:=hm.p1;omega⟩
 have hk:=cb m.l m.pos 20 ae;refine bo func88 ntmps88 results88 1 499 ?_;simp only[zJ,simprocAttr,kQ,kR,w1];refine qO (fZ m.less hm.l lX 20 ae) ?_;simp only[zJ,simprocAttr,kQ,kR,w1,Mk.next,Mk.less];refine cu mix [] [] ?_;by_cases h0:pick m.l m.pos 20=0
 ·simp only[zJ,simprocAttr,kQ,kR,w1,Mk.next,h0,aka];rw[show Mk.tree 0 m=(Re.node 0 [],(m.less.next 20).2) by simp [Mk.tree,Mk.next,Mk.less,h0]];all_goals exact dW
 ·simp only[zJ,simprocAttr,kQ,kR,w1,Mk.next,h0,aka];refine qO (xp (m.less.next 20).2 hm.l (by have:=hm.p1;simp only[Mk.next,Mk.less];omega)) ?_;simp only[zJ,simprocAttr,kQ,kR,w1,Mk.next,h0,aka];rw[show Mk.tree 0 m=(m.less.next 20).2.set by simp [Mk.tree,Mk.next,Mk.less,h0]];all_goals exact dW
theorem PC {d:Nat} (h3:¬m.left-1<3) (hp:¬(m.l.length:Int)<m.pos+1):Mk.tree (d+1) m=Mk.node (Mk.tree d) (pick m.l m.pos 20) (m.less.next 20).2:=by simp [Mk.tree,Mk.next,Mk.less,h3,hp]
theorem P3 (d:Nat) (hd:d<=1000) (hz:zD d<=1000000000) (ht:w6 d):w6 (d+1):=by
 intro m b hb hm hs;have hk:=cb m.l m.pos 20 ae;have hc:=kP d;have Xw:cD (d+1)=2+4*(cD d+1):=rfl;have w1:IntKind.i64.wrap (m.left-1)=m.left-1:=bG _ (by have:=hm.l0;have:=hm.l1;omega);have w2:IntKind.i64.wrap ((d+1:Nat)-1:Int)=(d:Int):=by rw[bG _ ae];omega
 have xt:¬((d+1:Nat):Int)=0:=ae;have lX:0<=m.pos/\m.pos<=1000000000:=⟨hm.p0,by have:=hm.p1;omega⟩
 have hy:(m.less.next 20).2.In (b+2):=by have:=hm.left.next 20;rwa [Int.add_assoc]at this
 have hyp:0<=(m.less.next 20).2.pos/\(m.less.next 20).2.pos<=1000000000:=by have:=hm.p1;simp only[Mk.next,Mk.less];omega
 have c0:=hm.c0;have c1:=hm.c1;refine bo func88 ntmps88 results88 1 499 ?_;simp only[zJ,simprocAttr,kQ,kR,w1];refine qO (fZ m.less hm.l lX 20 ae) ?_;simp only[zJ,simprocAttr,kQ,kR,w1,Mk.next,Mk.less];refine cu mix [] [] ?_;have F:=And.intro w1<|And.intro w2<|And.intro xt<|And.intro @kQ.eq_1<|And.intro @kR.eq_1<|And.intro @Mk.next.eq_1 @Mk.less.eq_1;by_cases hl:m.left-1<3\/(m.l.length:Int)<m.pos+1
 ·have hT:Mk.tree (d+1) m=if pick m.l m.pos 20=0 then (Re.node 0 [],(m.less.next 20).2) else (m.less.next 20).2.set:=be hl
  rw[hT];by_cases h3:m.left-1<3
  ·by_cases h0:pick m.l m.pos 20=0
   ·simp only[zJ,simprocAttr,F,h3,h0];all_goals exact dW
   ·simp only[zJ,simprocAttr,F,h3,h0];refine qO (xp (m.less.next 20).2 hm.l hyp) ?_;simp only[zJ,simprocAttr,F,h3,h0];all_goals exact dW
  ·have ZO:=hl.resolve_left h3;by_cases h0:pick m.l m.pos 20=0
   ·simp only[zJ,simprocAttr,F,h3,ZO,h0];all_goals exact dW
   ·simp only[zJ,simprocAttr,F,h3,ZO,h0];refine qO (xp (m.less.next 20).2 hm.l hyp) ?_;simp only[zJ,simprocAttr,F,h3,ZO,h0];all_goals exact dW
 obtain⟨h3,ZO⟩:=not_or.1 hl
 replace F:=And.intro h3<|And.intro ZO F
 have E:=And.intro @Mk.node.eq_1<|And.intro @Mk.has.eq_1<|And.intro @Mk.next.eq_1 @Mk.less.eq_1;rw[PC h3 ZO];by_cases h5:pick m.l m.pos 20<5
 ·rw[show Mk.node (Mk.tree d) (pick m.l m.pos 20) (m.less.next 20).2=(Re.node 2 (aL (Mk.tree d) 4 0 (m.less.next 20).2).1,(aL (Mk.tree d) 4 0 (m.less.next 20).2).2) by simp [E,h5]];simp only[zJ,simprocAttr,F,h5];refine qO (Pp d hd ht (m.less.next 20).2 (b+2) ae hy ae) ?_;simp only[zJ,simprocAttr,F,h5];all_goals exact dW
 by_cases h8:pick m.l m.pos 20<8
 ·rw[show Mk.node (Mk.tree d) (pick m.l m.pos 20) (m.less.next 20).2=(Re.node 3 (aL (Mk.tree d) 4 0 (m.less.next 20).2).1,(aL (Mk.tree d) 4 0 (m.less.next 20).2).2) by simp [E,h5,h8]];simp only[zJ,simprocAttr,F,h5,h8];refine qO (Pp d hd ht (m.less.next 20).2 (b+2) ae hy ae) ?_;simp only[zJ,simprocAttr,F,h5,h8];all_goals exact dW
 by_cases dV:pick m.l m.pos 20<12
 ·rw[show Mk.node (Mk.tree d) (pick m.l m.pos 20) (m.less.next 20).2=Mk.rep (Mk.tree d) (m.less.next 20).2 by simp [E,h5,h8,dV]];simp only[zJ,simprocAttr,F,h5,h8,dV];refine qO (Zr d hd ht (m.less.next 20).2 (b+2) ae hy ae hz) ?_;simp only[zJ,simprocAttr,F,h5,h8,dV];all_goals exact dW
 have wg:pick m.l m.pos 20=12\/pick m.l m.pos 20=13\/pick m.l m.pos 20=14\/pick m.l m.pos 20=15\/pick m.l m.pos 20=16\/pick m.l m.pos 20=17\/pick m.l m.pos 20=18\/pick m.l m.pos 20=19:=ae;have oM:=cb m.l (m.pos+1+1) 2 ae;have w3:IntKind.i64.wrap (7+pick m.l (m.pos+1+1) 2)=7+pick m.l (m.pos+1+1) 2:=bG _ ae
 replace F:=And.intro w3 F
 rcases wg with hq|hq|hq|hq|hq|hq|hq|hq;by_cases hu:0<kg .and .i64 m.cL 64
 ·rw[show Mk.node (Mk.tree d) (pick m.l m.pos 20) (m.less.next 20).2=Mk.iI (Mk.tree d) (m.less.next 20).2 by simp [E,hq,hu]];simp only[zJ,simprocAttr,F,hq,hu];refine qO (DA d hd ht (m.less.next 20).2 (b+2) ae hy ae) ?_;simp only[zJ,simprocAttr,F,hq,hu];all_goals exact dW
 have yT:=hq
 rotate_left
 by_cases hu:0<kg .and .i64 m.cL 64
 ·rw[show Mk.node (Mk.tree d) (pick m.l m.pos 20) (m.less.next 20).2=Mk.iI (Mk.tree d) (m.less.next 20).2 by simp [E,hq,hu]];simp only[zJ,simprocAttr,F,hq,hu];refine qO (DA d hd ht (m.less.next 20).2 (b+2) ae hy ae) ?_;simp only[zJ,simprocAttr,F,hq,hu];all_goals exact dW
 have yT:=hq
 rotate_left
 by_cases hu:0<kg .and .i64 m.cL 16
 ·rw[show Mk.node (Mk.tree d) (pick m.l m.pos 20) (m.less.next 20).2=(.mk 11 [] [] 0 0 0 (((m.less.next 20).2).next 6).1 false,(((m.less.next 20).2).next 6).2) by simp [E,hq,hu]];simp only[zJ,simprocAttr,F,hq,hu];refine qO (fZ (m.less.next 20).2 hm.l hyp 6 ae) ?_;simp only[zJ,simprocAttr,F,hq,hu];all_goals exact dW
 have yT:=hq
 rotate_left
 by_cases hu:0<kg .and .i64 m.cL 4
 ·rw[show Mk.node (Mk.tree d) (pick m.l m.pos 20) (m.less.next 20).2=(.mk (7+(((m.less.next 20).2.next 3).2.next 2).1) [] [(Mk.tree d (((m.less.next 20).2.next 3).2.next 2).2).1] 0 0 0 0 (decide (((m.less.next 20).2.next 3).1=0)),(Mk.tree d (((m.less.next 20).2.next 3).2.next 2).2).2) by simp [E,hq,hu]];simp only[zJ,simprocAttr,F,hq,hu];refine qO (fZ (m.less.next 20).2 hm.l hyp 3 ae) ?_;simp only[zJ,simprocAttr,F,hq,hu];refine qO (fZ ((m.less.next 20).2.next 3).2 hm.l (by have:=hm.p1;simp only[Mk.next,Mk.less];omega) 2 ae) ?_;simp only[zJ,simprocAttr,F,hq,hu];refine qO (ht (((m.less.next 20).2.next 3).2.next 2).2 (b+4) ae (((hy.next 3).next 2).mono ae) ae) ?_;simp only[zJ,simprocAttr,F,hq,hu];all_goals exact dW
 have yT:=hq
 rotate_left
 by_cases hu:0<kg .and .i64 m.cL 8
 ·rw[show Mk.node (Mk.tree d) (pick m.l m.pos 20) (m.less.next 20).2=(Re.node 9 [(Mk.tree d (m.less.next 20).2).1],(Mk.tree d (m.less.next 20).2).2) by simp [E,hq,hu]];simp only[zJ,simprocAttr,F,hq,hu];refine qO (ht (m.less.next 20).2 (b+2) ae hy ae) ?_;simp only[zJ,simprocAttr,F,hq,hu];all_goals exact dW
 have yT:=hq
 rotate_left
 by_cases hu:0<kg .and .i64 m.cL 1;by_cases yT:0<m.ai
 ·have Fh:=cb m.l (m.pos+1) m.ai ae;have w3:IntKind.i64.wrap (1+pick m.l (m.pos+1) m.ai)=1+pick m.l (m.pos+1) m.ai:=bG _ ae;rw[show Mk.node (Mk.tree d) (pick m.l m.pos 20) (m.less.next 20).2=(.mk 6 [] [] 0 0 0 (1+((m.less.next 20).2.next m.ai).1) false,((m.less.next 20).2.next m.ai).2) by simp [E,hq,hu,yT,w3]];simp only[zJ,simprocAttr,F,hq,hu,yT,w3];refine qO (fZ (m.less.next 20).2 hm.l hyp m.ai ae) ?_;simp only[zJ,simprocAttr,F,hq,hu,yT,w3];all_goals exact dW
 rotate_left
 have yT:=hq
 rotate_left
 by_cases hu:0<kg .and .i64 m.cL 2;by_cases yT:0<m.ai
 ·have Fh:=cb m.l (m.pos+1) m.ai ae;have w3:IntKind.i64.wrap (1+pick m.l (m.pos+1) m.ai)=1+pick m.l (m.pos+1) m.ai:=bG _ ae;obtain⟨g1,g2⟩:=jL d ((m.less.next 20).2.next m.ai).2 (b+3) ae ((hy.next m.ai).mono ae);rw[show Mk.node (Mk.tree d) (pick m.l m.pos 20) (m.less.next 20).2=(.mk 10 [] [(Mk.tree d ((m.less.next 20).2.next m.ai).2).1,(Mk.tree d (Mk.tree d ((m.less.next 20).2.next m.ai).2).2).1] 0 0 0 (1+((m.less.next 20).2.next m.ai).1) false,(Mk.tree d (Mk.tree d ((m.less.next 20).2.next m.ai).2).2).2) by simp [E,hq,hu,yT,w3]];simp only[zJ,simprocAttr,F,hq,hu,yT,w3];refine qO (fZ (m.less.next 20).2 hm.l hyp m.ai ae) ?_;simp only[zJ,simprocAttr,F,hq,hu,yT,w3];refine qO (ht ((m.less.next 20).2.next m.ai).2 (b+3) ae ((hy.next m.ai).mono ae) ae) ?_;simp only[zJ,simprocAttr,F,hq,hu,yT,w3];refine cu mix [8] [(1,[2],[]),(5,[0],[0])] ?_;simp only[zJ,simprocAttr,F,hq,hu,yT,w3];refine ofA (ht (Mk.tree d ((m.less.next 20).2.next m.ai).2).2 (b+3+cD d) ae g1 ae) ?_;simp only[zJ,simprocAttr,F,hq,hu,yT,w3];all_goals exact dW
 rotate_left
 have yT:=hq
 rotate_left
 have hu:=hq;have yT:=hq;all_goals
  rw[show Mk.node (Mk.tree d) (pick m.l m.pos 20) (m.less.next 20).2=(m.less.next 20).2.set by simp [E,hq,hu,yT]];simp only[zJ,simprocAttr,F,hq,hu,yT];refine qO (xp (m.less.next 20).2 hm.l hyp) ?_;simp only[zJ,simprocAttr,F,hq,hu,yT];all_goals exact dW
theorem Pl:∀d,d<=1000->zD d<=1000000000->w6 d
 |0,_,_=>PB
 |d+1,hd,hz=>P3 d ae (by have:=zw d;simp only[zD]at hz;omega) (Pl d ae (by have:=zw d;simp only[zD]at hz;omega))
end Go.Proofs.YtjjfioalgbecmaaGreat
