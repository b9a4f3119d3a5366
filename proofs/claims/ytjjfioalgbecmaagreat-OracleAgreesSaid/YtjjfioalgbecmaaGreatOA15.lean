/- A part of the proof. -/
import Derived.Test.YtjjfioalgbecmaaGreatOA14
set_option linter.unusedSimpArgs false
set_option linter.unusedVariables false
open Nat renaming reduceShiftRight → qa, reduceMod → qe, reduceEqDiff → Fp, reduceBEq → Ft
open Int renaming reduceEq → FD
set_option maxRecDepth 100000
set_option maxHeartbeats 80000000
namespace Go.Proofs.YtjjfioalgbecmaaGreat
open Go.VL Go.Proofs.Tryz
variable{m:Mk}{t:Mk->Re×Mk}
def yq (d:Nat):Prop:=∀(m:Mk) (b:Int),0<=b->m.In b->b+cD d<=1000000000 ->
 av prog 88 [lA,i64 d] [lB m] λv s=>v=lI (m.tree d).1/\s=[lB (m.tree d).2]
theorem BU{f:Nat}{i:Int} (h:i<2+(m.next 2).1):bN t (f+1) i m=((t (m.next 2).2).1::(bN t f (i+1) (t (m.next 2).2).2).1,(bN t f (i+1) (t (m.next 2).2).2).2):=by rw[bN,be h]
theorem GB{f:Nat}{i:Int} (h:¬i<2+(m.next 2).1):bN t (f+1) i m=([],(m.next 2).2):=by rw[bN,ap h]
def acg (l:List Re):D:=.sl (l.map Re.cells)
theorem Qp (d:Nat) (hd:d<=1000) (ht:yq d) (m:Mk) (b:Int) (hb:0<=b) (hm:m.In b) (hs:b+4*(cD d+1)<=1000000000) :
  av prog 111 [lA,i64 (d+1:Nat)] [lB m] λv s=>v=.d (acg (bN (Mk.tree d) 4 0 m).1)/\s=[lB (bN (Mk.tree d) 4 0 m).2]:=by
 have hc:=ly d;have w1:IntKind.i64.wrap ((d+1:Nat)-1:Int)=(d:Int):=by rw[bK _ ae];omega
 refine br func111 ntmps111 results111 1 115 ?_;simp only[zJ,simprocAttr,lA];refine ay (λn e s=>∃(i:Nat) (m':Mk) (l:List Re),n=4-i/\i<=3/\m'.In (b+i*(cD d+1))/\l.length=i/\e 0=.rf 0 0 0 0/\e 1=i64 (d+1:Nat)/\e 6=i64 i /\
   bN (Mk.tree d) 4 0 m=(l++(bN (Mk.tree d) (4-i) i m').1,(bN (Mk.tree d) (4-i) i m').2) /\
   ((i=0/\e 5=.fu []/\s=[lB m'])\/∃g,e 5=.so 1 g 0 i/\s=[lB m',⟨g,true,8,(l.map Re.cells).map λc=>c.map V.d⟩])) ⟨_,_,_,bO.refl,0,m,[],rfl,ae,by simpa using hm,rfl,rfl,rfl,rfl,aq,.inl ⟨rfl,rfl,rfl⟩⟩ ?_
 rintro n e s ⟨i,m',l,rfl,hi,lE,hl,h0,h1,h6,hk,kf⟩;have hp:=cH m'.l m'.pos 2 ae;have w2:IntKind.i64.wrap (2+pick m'.l m'.pos 2)=2+pick m'.l m'.pos 2:=bK _ ae;have VY:(i:Int)*(cD d+1)+(cD d+1)<=4*(cD d+1):=by have:=alI (show (i:Int)+1<=4 by omega) (show (0:Int)<=cD d+1 by omega);rw[Int.add_mul,Int.one_mul]at this;exact this
 have air:0<=(i:Int)*(cD d+1):=amn ae ae;have mb:0<=m'.pos/\m'.pos<=1000000000:=⟨lE.p0,by have:=lE.p1;omega⟩
 have hf:4-i=(3-i)+1:=ae;rw[hf]at hk;rcases kf with ⟨rfl,h5,rfl⟩|⟨g,h5,rfl⟩
 ·simp only[zJ,simprocAttr,h0,h1,h6,lA];refine rZ (gT m' lE.l mb 2 ae) ?_;have aE:(0:Int)<2+pick m'.l m'.pos 2:=ae;simp only[zJ,simprocAttr,h0,h1,h6,lA,Mk.next,w1,w2,aE,alv];refine rZ (ht (m'.next 2).2 (b+1) ae (by simpa using lE.next 2) ae) ?_;simp only[zJ,simprocAttr,h0,h1,h5,h6,lA,Mk.next,w1,w2,aE,alv];obtain⟨g1,g2⟩:=kd d (m'.next 2).2 (b+1) ae (by simpa using lE.next 2);refine⟨λx hx=>by rw[List.mem_singleton.1 hx];simp [Re.iJ],aq,3,_,_,ae,bO.refl,1,((Mk.tree d) (m'.next 2).2).2,[((Mk.tree d) (m'.next 2).2).1],rfl,ae,g1.mono cV,rfl,?_,?_,?_,?_,.inr ⟨0,?_,?_⟩⟩
  ·simp only[zU,Ft,qa,qe,Fp,reduceIte];exact h0
  ·simp only[zU,Ft,qa,qe,Fp,reduceIte];exact h1
  ·simp only[zU,Ft,qa,qe,Fp,reduceIte];rw[bK _ ae];rfl
  ·rw[hk,BU (by simpa [Mk.next]using aE)];have:l=[]:=alz hl;subst this;rfl
  ·simp only[zU,Ft,qa,qe,Fp,reduceIte]
  ·rfl
 ·by_cases aE:(i:Int)<2+pick m'.l m'.pos 2
  ·rw[BU (f:=3-i) (i:=i) (m:=m') (by simpa [Mk.next]using aE)]at hk;obtain⟨g1,g2⟩:=kd d (m'.next 2).2 (b+i*(cD d+1)+1) ae (lE.next 2);simp only[zJ,simprocAttr,h0,h1,h6,lA];refine rZ (gT m' lE.l mb 2 ae) ?_;simp only[zJ,simprocAttr,h0,h1,h6,lA,Mk.next,w1,w2,aE];refine rZ (ht (m'.next 2).2 (b+i*(cD d+1)+1) ae (lE.next 2) ae) ?_;simp only[zJ,simprocAttr,h0,h1,h5,h6,lA,Mk.next,w1,w2,aE];refine⟨λx hx=>by rw[List.mem_singleton.1 hx];simp [Re.iJ],⟨ae,ae⟩,4-(i+1),_,_,ae,bO.refl,i+1,((Mk.tree d) (m'.next 2).2).2,l++[((Mk.tree d) (m'.next 2).2).1],rfl,?_,g1.mono ?_,by simp [hl],?_,?_,?_,?_,.inr ⟨g+1,?_,?_⟩⟩
   ·omega
   ·rw[amf,Int.add_mul];simp;omega
   ·simp only[zU,Ft,qa,qe,Fp,reduceIte];exact h0
   ·simp only[zU,Ft,qa,qe,Fp,reduceIte];exact h1
   ·simp only[zU,Ft,qa,qe,Fp,reduceIte];rw[bK _ ae];rfl
   ·rw[hk,show 4-(i+1)=3-i by omega];simp
   ·simp only[zU,Ft,qa,qe,Fp,reduceIte]
   ·simp [hl,<- List.map_take,aln (Nat.le_of_eq hl)];exact⟨rfl,rfl⟩
  ·rw[GB (f:=3-i) (i:=i) (m:=m') (by simpa [Mk.next]using aE)]at hk;simp only[zJ,simprocAttr,h0,h1,h6,lA];refine rZ (gT m' lE.l mb 2 ae) ?_;have hle:0+i<=l.length:=ae;have yO:((l.map Re.cells).map λc=>c.map V.d).take i=(l.map Re.cells).map λc=>c.map V.d:=aln (by simp [hl]);simp only[zJ,simprocAttr,h0,h1,h5,h6,lA,Mk.next,w1,w2,aE,hle,yO];rw[hk];exact⟨rfl,by simp [acg],rfl⟩
theorem EO (d:Nat) (hd:d<=1000) (ht:yq d) (m:Mk) (b:Int) (hb:0<=b) (hm:m.In b) (hs:b+(cD d+2)<=1000000000) :
  av prog 113 [lA,i64 (d+1:Nat)] [lB m] λv s=>v=lI (m.jB (Mk.tree d)).1/\s=[lB (m.jB (Mk.tree d)).2]:=by
 have hc:=ly d;have c0:=hm.c0;have c1:=hm.c1;have w1:IntKind.i64.wrap ((d+1:Nat)-1:Int)=(d:Int):=by rw[bK _ ae];omega
 have w2:IntKind.i64.wrap (m.aj+1)=m.aj+1:=bK _ ae;have mb:0<=m.pos/\m.pos<=1000000000:=⟨hm.p0,by have:=hm.p1;omega⟩
 obtain⟨g1,g2,g3,g4⟩:=Bg hm;refine br func113 ntmps113 results113 1 51 ?_;have PV:∀m':Mk,m'.In (b+2)->m'.aj=m.aj->∀n:Int,1<=n->n<=4->(m'.lY (max m'.aj n)).In (b+2):=λm' h he n h1 h2=>⟨h.l,h.p0,h.p1,h.l0,h.l1,by show 0<=max _ _;omega,by show max _ _<=4;omega⟩
 by_cases h4:4<m.aj+1
 ·have hp:=cH m.l m.pos (max 1 m.aj) ae;have w3:IntKind.i64.wrap (1+pick m.l m.pos (max 1 m.aj))=1+pick m.l m.pos (max 1 m.aj):=bK _ ae;simp only[zJ,simprocAttr,lA,lB,w1,w2,h4];refine rZ (gT m hm.l mb (max 1 m.aj) ae) ?_;simp only[zJ,simprocAttr,lA,lB,w1,w2,h4,Mk.next,w3];refine rZ (ht ((m.next (max 1 m.aj)).2.lY (max m.aj (1+pick m.l m.pos (max 1 m.aj)))) (b+2) ae (PV _ ((hm.next _).mono ae) rfl _ ae ae) ae) ?_;simp only[zJ,simprocAttr,lA,lB,w1,w2,h4,Mk.next,w3];have hcn:fo m=(1+pick m.l m.pos (max 1 m.aj),(m.next (max 1 m.aj)).2):=by simp [fo,h4,Mk.next]
  exact Zbz
 by_cases h0:0<m.aj
 ·simp only[zJ,simprocAttr,lA,lB,w1,w2,h4,h0];refine rZ (gT m hm.l mb 9 ae) ?_;by_cases h9:pick m.l m.pos 9=0
  ·have hp:=cH m.l (m.pos+1) (max 1 m.aj) ae;have w3:IntKind.i64.wrap (1+pick m.l (m.pos+1) (max 1 m.aj))=1+pick m.l (m.pos+1) (max 1 m.aj):=bK _ ae;simp only[zJ,simprocAttr,lA,lB,w1,w2,h4,Mk.next,h9];refine rZ (gT (m.next 9).2 hm.l (by have:=hm.p1;simp only[Mk.next];omega) (max 1 m.aj) ae) ?_;simp only[zJ,simprocAttr,lA,lB,w1,w2,h4,Mk.next,w3];refine rZ (ht (((m.next 9).2.next (max 1 m.aj)).2.lY (max m.aj (1+pick m.l (m.pos+1) (max 1 m.aj)))) (b+2) ae (PV _ (((hm.next 9).next _).mono ae) rfl _ ae ae) ae) ?_;simp only[zJ,simprocAttr,lA,lB,w1,w2,h4,Mk.next,w3];have hcn:fo m=(1+pick m.l (m.pos+1) (max 1 m.aj),((m.next 9).2.next (max 1 m.aj)).2):=by simp [fo,h4,h0,h9,Mk.next]
   exact Zbz
  ·simp only[zJ,simprocAttr,lA,lB,w1,w2,h4,Mk.next,h9];refine rZ (ht ((m.next 9).2.lY (max m.aj (m.aj+1))) (b+2) ae (PV _ ((hm.next 9).mono ae) rfl _ ae ae) ae) ?_;simp only[zJ,simprocAttr,lA,lB,w1,w2,h4,Mk.next];have hcn:fo m=(m.aj+1,(m.next 9).2):=by simp [fo,h4,h0,h9,Mk.next]
   exact Zbz
 ·simp only[zJ,simprocAttr,lA,lB,w1,w2,h4,h0];refine rZ (ht (m.lY (max m.aj (m.aj+1))) (b+2) ae (PV _ (hm.mono ae) rfl _ ae ae) ae) ?_;simp only[zJ,simprocAttr,lA,lB,w1,w2,h4];have hcn:fo m=(m.aj+1,m):=by simp [fo,h4,h0]
  exact Zbz
theorem aa9 (d:Nat) (hd:d<=1000) (ht:yq d) (m:Mk) (b:Int) (hb:0<=b) (hm:m.In b) (hs:b+(cD d+4)<=1000000000) (hz:zD d<=1000000000) :
  av prog 112 [lA,i64 (d+1:Nat)] [lB m] λv s=>v=lI (m.rep (Mk.tree d)).1/\s=[lB (m.rep (Mk.tree d)).2]:=by
 have hc:=ly d;have w1:IntKind.i64.wrap ((d+1:Nat)-1:Int)=(d:Int):=by rw[bK _ ae];omega
 have mb:0<=m.pos/\m.pos<=1000000000:=⟨hm.p0,by have:=hm.p1;omega⟩
 have hk:=cH m.l m.pos 12 ae;have ej:(pick m.l m.pos 12).toNat<12:=ae;have SR:([[D.sc (Value.int IntKind.i64 0)],[D.sc (Value.int IntKind.i64 0)],[D.sc (Value.int IntKind.i64 0)],[D.sc (Value.int IntKind.i64 0)],[D.sc (Value.int IntKind.i64 1)],[D.sc (Value.int IntKind.i64 1)],[D.sc (Value.int IntKind.i64 1)],[D.sc (Value.int IntKind.i64 0)],[D.sc (Value.int IntKind.i64 2)],[D.sc (Value.int IntKind.i64 0)],[D.sc (Value.int IntKind.i64 1)],[D.sc (Value.int IntKind.i64 2)]]:List (List D))[(pick m.l m.pos 12).toNat]?=some [D.sc (Value.int IntKind.i64 ((nM[(pick m.l m.pos 12).toNat]?).getD 0))]:=by rw[show ([[D.sc (Value.int IntKind.i64 0)],[D.sc (Value.int IntKind.i64 0)],[D.sc (Value.int IntKind.i64 0)],[D.sc (Value.int IntKind.i64 0)],[D.sc (Value.int IntKind.i64 1)],[D.sc (Value.int IntKind.i64 1)],[D.sc (Value.int IntKind.i64 1)],[D.sc (Value.int IntKind.i64 0)],[D.sc (Value.int IntKind.i64 2)],[D.sc (Value.int IntKind.i64 0)],[D.sc (Value.int IntKind.i64 1)],[D.sc (Value.int IntKind.i64 2)]]:List (List D))=nM.map (λx=>[D.sc (Value.int IntKind.i64 x)]) from rfl,List.getElem?_map,List.getElem?_eq_getElem (show (pick m.l m.pos 12).toNat<nM.length from ej)];rfl
 have UZ:([[D.sc (Value.int IntKind.i64 (-1))],[D.sc (Value.int IntKind.i64 (-1))],[D.sc (Value.int IntKind.i64 (-1))],[D.sc (Value.int IntKind.i64 1)],[D.sc (Value.int IntKind.i64 (-1))],[D.sc (Value.int IntKind.i64 (-1))],[D.sc (Value.int IntKind.i64 2)],[D.sc (Value.int IntKind.i64 2)],[D.sc (Value.int IntKind.i64 2)],[D.sc (Value.int IntKind.i64 3)],[D.sc (Value.int IntKind.i64 1)],[D.sc (Value.int IntKind.i64 (-1))]]:List (List D))[(pick m.l m.pos 12).toNat]?=some [D.sc (Value.int IntKind.i64 ((kM[(pick m.l m.pos 12).toNat]?).getD 0))]:=by rw[show ([[D.sc (Value.int IntKind.i64 (-1))],[D.sc (Value.int IntKind.i64 (-1))],[D.sc (Value.int IntKind.i64 (-1))],[D.sc (Value.int IntKind.i64 1)],[D.sc (Value.int IntKind.i64 (-1))],[D.sc (Value.int IntKind.i64 (-1))],[D.sc (Value.int IntKind.i64 2)],[D.sc (Value.int IntKind.i64 2)],[D.sc (Value.int IntKind.i64 2)],[D.sc (Value.int IntKind.i64 3)],[D.sc (Value.int IntKind.i64 1)],[D.sc (Value.int IntKind.i64 (-1))]]:List (List D))=kM.map (λx=>[D.sc (Value.int IntKind.i64 x)]) from rfl,List.getElem?_map,List.getElem?_eq_getElem (show (pick m.l m.pos 12).toNat<kM.length from ej)];rfl
 refine br func112 ntmps112 results112 1 243 ?_;simp only[zJ,simprocAttr,lA,lB,w1];refine rZ (gT m hm.l mb 12 ae) ?_;simp only[zJ,simprocAttr,lA,lB,w1,Mk.next];refine aW cr.bu ?_;refine cP mix [12] [(9,[0],[0]),(11,[2],[2])] ?_;simp only[zJ,simprocAttr,lA,lB,w1,Mk.next,SR,UZ];refine⟨hk.1,ae,hk.1,ae,?_⟩;refine ofA (gT (m.next 12).2 hm.l (by have:=hm.p1;simp only[Mk.next];omega) 2 ae) ?_;by_cases h8:0<jf .and .i64 m.dH 8
 ·simp only[zJ,simprocAttr,lA,lB,w1,Mk.next,SR,UZ,h8];refine rZ (gT ((m.next 12).2.next 2).2 hm.l (by have:=hm.p1;simp only[Mk.next];omega) 4 ae) ?_;by_cases h4:pick m.l (m.pos+1+1) 4=0
  ·simp only[zJ,simprocAttr,lA,lB,w1,Mk.next,h4];obtain⟨g1,g2⟩:=kd d (((m.next 12).2.next 2).2.next 4).2 (b+3) ae ((((hm.next 12).next 2).next 4).mono ae);refine rZ (ht (((m.next 12).2.next 2).2.next 4).2 (b+3) ae ((((hm.next 12).next 2).next 4).mono ae) ae) ?_;have hrm:jx (m.next 12).2=(2,(((m.next 12).2.next 2).2.next 4).2):=by simp [jx,Mk.has,h8,Mk.next,h4]
   have hrep:m.rep (Mk.tree d)=(.mk 4 [] [(mC (Mk.tree d) (((m.next 12).2.next 2).2.next 4).2).1] ((nM[(pick m.l m.pos 12).toNat]?).getD 0) ((kM[(pick m.l m.pos 12).toNat]?).getD 0) 2 0 false,(mC (Mk.tree d) (((m.next 12).2.next 2).2.next 4).2).2):=by simp only[Mk.rep,hrm];rfl
   exact ZdQ
  ·simp only[zJ,simprocAttr,lA,lB,w1,Mk.next,h4];obtain⟨g1,g2⟩:=kd d (((m.next 12).2.next 2).2.next 4).2 (b+3) ae ((((hm.next 12).next 2).next 4).mono ae);refine rZ (ht (((m.next 12).2.next 2).2.next 4).2 (b+3) ae ((((hm.next 12).next 2).next 4).mono ae) ae) ?_;have hrm:jx (m.next 12).2=((pick m.l (m.pos+1) 2),(((m.next 12).2.next 2).2.next 4).2):=by simp [jx,Mk.has,h8,Mk.next,h4]
   have hrep:m.rep (Mk.tree d)=(.mk 4 [] [(mC (Mk.tree d) (((m.next 12).2.next 2).2.next 4).2).1] ((nM[(pick m.l m.pos 12).toNat]?).getD 0) ((kM[(pick m.l m.pos 12).toNat]?).getD 0) (pick m.l (m.pos+1) 2) 0 false,(mC (Mk.tree d) (((m.next 12).2.next 2).2.next 4).2).2):=by simp only[Mk.rep,hrm];rfl
   exact ZdQ
 ·simp only[zJ,simprocAttr,lA,lB,w1,Mk.next,SR,UZ,h8];obtain⟨g1,g2⟩:=kd d ((m.next 12).2.next 2).2 (b+3) ae (((hm.next 12).next 2).mono ae);refine rZ (ht ((m.next 12).2.next 2).2 (b+3) ae (((hm.next 12).next 2).mono ae) ae) ?_;have hrm:jx (m.next 12).2=((pick m.l (m.pos+1) 2),((m.next 12).2.next 2).2):=by simp [jx,Mk.has,h8,Mk.next]
  have hrep:m.rep (Mk.tree d)=(.mk 4 [] [(mC (Mk.tree d) ((m.next 12).2.next 2).2).1] ((nM[(pick m.l m.pos 12).toNat]?).getD 0) ((kM[(pick m.l m.pos 12).toNat]?).getD 0) (pick m.l (m.pos+1) 2) 0 false,(mC (Mk.tree d) ((m.next 12).2.next 2).2).2):=by simp only[Mk.rep,hrm];rfl
  have Z8:mC (Mk.tree d) ((m.next 12).2.next 2).2=if jf .and .i64 (Mk.tree d ((m.next 12).2.next 2).2).2.dH 32=0/\(Mk.tree d ((m.next 12).2.next 2).2).1.sQ=true then (Mk.tree d ((m.next 12).2.next 2).2).2.set else Mk.tree d ((m.next 12).2.next 2).2:=rfl
  rw[hrep,Z8];generalize Mk.tree d ((m.next 12).2.next 2).2=R at *;exact Zao
theorem QI:yq 0:=by
 intro m b hb hm hs;have hc:cD 0=3:=rfl;have w1:IntKind.i64.wrap (m.left-1)=m.left-1:=bK _ (by have:=hm.l0;have:=hm.l1;omega);have mb:0<=m.pos/\m.pos<=1000000000:=⟨hm.p0,by have:=hm.p1;omega⟩
 have hk:=cH m.l m.pos 20 ae;refine br func88 ntmps88 results88 1 499 ?_;simp only[zJ,simprocAttr,lA,lB,w1];refine rZ (gT m.less hm.l mb 20 ae) ?_;simp only[zJ,simprocAttr,lA,lB,w1,Mk.next,Mk.less];refine cP mix [] [] ?_;by_cases h0:pick m.l m.pos 20=0
 ·simp only[zJ,simprocAttr,lA,lB,w1,Mk.next,h0,alv];rw[show Mk.tree 0 m=(Re.node 0 [],(m.less.next 20).2) by simp [Mk.tree,Mk.next,Mk.less,h0]];all_goals exact dX
 ·simp only[zJ,simprocAttr,lA,lB,w1,Mk.next,h0,alv];refine rZ (yI (m.less.next 20).2 hm.l (by have:=hm.p1;simp only[Mk.next,Mk.less];omega)) ?_;simp only[zJ,simprocAttr,lA,lB,w1,Mk.next,h0,alv];rw[show Mk.tree 0 m=(m.less.next 20).2.set by simp [Mk.tree,Mk.next,Mk.less,h0]];all_goals exact dX
theorem QJ {d:Nat} (h3:¬m.left-1<3) (hp:¬(m.l.length:Int)<m.pos+1):Mk.tree (d+1) m=Mk.node (Mk.tree d) (pick m.l m.pos 20) (m.less.next 20).2:=by simp [Mk.tree,Mk.next,Mk.less,h3,hp]
theorem Q9 (d:Nat) (hd:d<=1000) (hz:zD d<=1000000000) (ht:yq d):yq (d+1):=by
 intro m b hb hm hs;have hk:=cH m.l m.pos 20 ae;have hc:=ly d;have Yx:cD (d+1)=2+4*(cD d+1):=rfl;have w1:IntKind.i64.wrap (m.left-1)=m.left-1:=bK _ (by have:=hm.l0;have:=hm.l1;omega);have w2:IntKind.i64.wrap ((d+1:Nat)-1:Int)=(d:Int):=by rw[bK _ ae];omega
 have uZ:¬((d+1:Nat):Int)=0:=ae;have mb:0<=m.pos/\m.pos<=1000000000:=⟨hm.p0,by have:=hm.p1;omega⟩
 have hy:(m.less.next 20).2.In (b+2):=by have:=hm.left.next 20;rwa [Int.add_assoc]at this
 have hyp:0<=(m.less.next 20).2.pos/\(m.less.next 20).2.pos<=1000000000:=by have:=hm.p1;simp only[Mk.next,Mk.less];omega
 have c0:=hm.c0;have c1:=hm.c1;refine br func88 ntmps88 results88 1 499 ?_;simp only[zJ,simprocAttr,lA,lB,w1];refine rZ (gT m.less hm.l mb 20 ae) ?_;simp only[zJ,simprocAttr,lA,lB,w1,Mk.next,Mk.less];refine cP mix [] [] ?_;have F:=And.intro w1<|And.intro w2<|And.intro uZ<|And.intro @lA.eq_1<|And.intro @lB.eq_1<|And.intro @Mk.next.eq_1 @Mk.less.eq_1;by_cases hl:m.left-1<3\/(m.l.length:Int)<m.pos+1
 ·have hT:Mk.tree (d+1) m=if pick m.l m.pos 20=0 then (Re.node 0 [],(m.less.next 20).2) else (m.less.next 20).2.set:=be hl
  rw[hT];by_cases h3:m.left-1<3
  ·by_cases h0:pick m.l m.pos 20=0
   ·simp only[zJ,simprocAttr,F,h3,h0];all_goals exact dX
   ·simp only[zJ,simprocAttr,F,h3,h0];refine rZ (yI (m.less.next 20).2 hm.l hyp) ?_;simp only[zJ,simprocAttr,F,h3,h0];all_goals exact dX
  ·have hlp:=hl.resolve_left h3;by_cases h0:pick m.l m.pos 20=0
   ·exact ZdJ
   ·simp only[zJ,simprocAttr,F,h3,hlp,h0];refine rZ (yI (m.less.next 20).2 hm.l hyp) ?_;exact ZdJ
 obtain⟨h3,hlp⟩:=not_or.1 hl
 replace F:=And.intro h3<|And.intro hlp F
 have E:=And.intro @Mk.node.eq_1<|And.intro @Mk.has.eq_1<|And.intro @Mk.next.eq_1 @Mk.less.eq_1;rw[QJ h3 hlp];by_cases h5:pick m.l m.pos 20<5
 ·rw[show Mk.node (Mk.tree d) (pick m.l m.pos 20) (m.less.next 20).2=(Re.node 2 (bN (Mk.tree d) 4 0 (m.less.next 20).2).1,(bN (Mk.tree d) 4 0 (m.less.next 20).2).2) by simp [E,h5]];simp only[zJ,simprocAttr,F,h5];refine rZ (Qp d hd ht (m.less.next 20).2 (b+2) ae hy ae) ?_;simp only[zJ,simprocAttr,F,h5];all_goals exact dX
 by_cases h8:pick m.l m.pos 20<8
 ·rw[show Mk.node (Mk.tree d) (pick m.l m.pos 20) (m.less.next 20).2=(Re.node 3 (bN (Mk.tree d) 4 0 (m.less.next 20).2).1,(bN (Mk.tree d) 4 0 (m.less.next 20).2).2) by simp [E,h5,h8]];simp only[zJ,simprocAttr,F,h5,h8];refine rZ (Qp d hd ht (m.less.next 20).2 (b+2) ae hy ae) ?_;simp only[zJ,simprocAttr,F,h5,h8];all_goals exact dX
 by_cases jk:pick m.l m.pos 20<12
 ·rw[show Mk.node (Mk.tree d) (pick m.l m.pos 20) (m.less.next 20).2=Mk.rep (Mk.tree d) (m.less.next 20).2 by simp [E,h5,h8,jk]];simp only[zJ,simprocAttr,F,h5,h8,jk];refine rZ (aa9 d hd ht (m.less.next 20).2 (b+2) ae hy ae hz) ?_;simp only[zJ,simprocAttr,F,h5,h8,jk];all_goals exact dX
 have mV:pick m.l m.pos 20=12\/pick m.l m.pos 20=13\/pick m.l m.pos 20=14\/pick m.l m.pos 20=15\/pick m.l m.pos 20=16\/pick m.l m.pos 20=17\/pick m.l m.pos 20=18\/pick m.l m.pos 20=19:=ae;have zK:=cH m.l (m.pos+1+1) 2 ae;have w3:IntKind.i64.wrap (7+pick m.l (m.pos+1+1) 2)=7+pick m.l (m.pos+1+1) 2:=bK _ ae
 replace F:=And.intro w3 F
 rcases mV with hq|hq|hq|hq|hq|hq|hq|hq;by_cases hu:0<jf .and .i64 m.dH 64
 ·exact Zbi
 have Bp:=hq
 rotate_left
 by_cases hu:0<jf .and .i64 m.dH 64
 ·exact Zbi
 have Bp:=hq
 rotate_left
 by_cases hu:0<jf .and .i64 m.dH 16
 ·rw[show Mk.node (Mk.tree d) (pick m.l m.pos 20) (m.less.next 20).2=(.mk 11 [] [] 0 0 0 (((m.less.next 20).2).next 6).1 false,(((m.less.next 20).2).next 6).2) by simp [E,hq,hu]];simp only[zJ,simprocAttr,F,hq,hu];refine rZ (gT (m.less.next 20).2 hm.l hyp 6 ae) ?_;exact ZbD
 have Bp:=hq
 rotate_left
 by_cases hu:0<jf .and .i64 m.dH 4
 ·rw[show Mk.node (Mk.tree d) (pick m.l m.pos 20) (m.less.next 20).2=(.mk (7+(((m.less.next 20).2.next 3).2.next 2).1) [] [(Mk.tree d (((m.less.next 20).2.next 3).2.next 2).2).1] 0 0 0 0 (decide (((m.less.next 20).2.next 3).1=0)),(Mk.tree d (((m.less.next 20).2.next 3).2.next 2).2).2) by simp [E,hq,hu]];simp only[zJ,simprocAttr,F,hq,hu];refine rZ (gT (m.less.next 20).2 hm.l hyp 3 ae) ?_;simp only[zJ,simprocAttr,F,hq,hu];refine rZ (gT ((m.less.next 20).2.next 3).2 hm.l (by have:=hm.p1;simp only[Mk.next,Mk.less];omega) 2 ae) ?_;simp only[zJ,simprocAttr,F,hq,hu];refine rZ (ht (((m.less.next 20).2.next 3).2.next 2).2 (b+4) ae (((hy.next 3).next 2).mono ae) ae) ?_;exact ZbD
 have Bp:=hq
 rotate_left
 by_cases hu:0<jf .and .i64 m.dH 8
 ·rw[show Mk.node (Mk.tree d) (pick m.l m.pos 20) (m.less.next 20).2=(Re.node 9 [(Mk.tree d (m.less.next 20).2).1],(Mk.tree d (m.less.next 20).2).2) by simp [E,hq,hu]];simp only[zJ,simprocAttr,F,hq,hu];refine rZ (ht (m.less.next 20).2 (b+2) ae hy ae) ?_;exact ZbD
 have Bp:=hq
 rotate_left
 by_cases hu:0<jf .and .i64 m.dH 1;by_cases Bp:0<m.aj
 ·have B0:=cH m.l (m.pos+1) m.aj ae;have w3:IntKind.i64.wrap (1+pick m.l (m.pos+1) m.aj)=1+pick m.l (m.pos+1) m.aj:=bK _ ae;rw[show Mk.node (Mk.tree d) (pick m.l m.pos 20) (m.less.next 20).2=(.mk 6 [] [] 0 0 0 (1+((m.less.next 20).2.next m.aj).1) false,((m.less.next 20).2.next m.aj).2) by simp [E,hq,hu,Bp,w3]];simp only[zJ,simprocAttr,F,hq,hu,Bp,w3];refine rZ (gT (m.less.next 20).2 hm.l hyp m.aj ae) ?_;exact ZdC
 rotate_left
 have Bp:=hq
 rotate_left
 by_cases hu:0<jf .and .i64 m.dH 2;by_cases Bp:0<m.aj
 ·have B0:=cH m.l (m.pos+1) m.aj ae;have w3:IntKind.i64.wrap (1+pick m.l (m.pos+1) m.aj)=1+pick m.l (m.pos+1) m.aj:=bK _ ae;obtain⟨g1,g2⟩:=kd d ((m.less.next 20).2.next m.aj).2 (b+3) ae ((hy.next m.aj).mono ae);rw[show Mk.node (Mk.tree d) (pick m.l m.pos 20) (m.less.next 20).2=(.mk 10 [] [(Mk.tree d ((m.less.next 20).2.next m.aj).2).1,(Mk.tree d (Mk.tree d ((m.less.next 20).2.next m.aj).2).2).1] 0 0 0 (1+((m.less.next 20).2.next m.aj).1) false,(Mk.tree d (Mk.tree d ((m.less.next 20).2.next m.aj).2).2).2) by simp [E,hq,hu,Bp,w3]];simp only[zJ,simprocAttr,F,hq,hu,Bp,w3];refine rZ (gT (m.less.next 20).2 hm.l hyp m.aj ae) ?_;simp only[zJ,simprocAttr,F,hq,hu,Bp,w3];refine rZ (ht ((m.less.next 20).2.next m.aj).2 (b+3) ae ((hy.next m.aj).mono ae) ae) ?_;simp only[zJ,simprocAttr,F,hq,hu,Bp,w3];refine cP mix [8] [(1,[2],[]),(5,[0],[0])] ?_;simp only[zJ,simprocAttr,F,hq,hu,Bp,w3];refine ofA (ht (Mk.tree d ((m.less.next 20).2.next m.aj).2).2 (b+3+cD d) ae g1 ae) ?_;exact ZdC
 rotate_left
 have Bp:=hq
 rotate_left
 have hu:=hq;have Bp:=hq;all_goals
  rw[show Mk.node (Mk.tree d) (pick m.l m.pos 20) (m.less.next 20).2=(m.less.next 20).2.set by simp [E,hq,hu,Bp]];simp only[zJ,simprocAttr,F,hq,hu,Bp];refine rZ (yI (m.less.next 20).2 hm.l hyp) ?_;simp only[zJ,simprocAttr,F,hq,hu,Bp];all_goals exact dX
theorem Qk:∀d,d<=1000->zD d<=1000000000->yq d
 |0,_,_=>QI
 |d+1,hd,hz=>Q9 d ae (by have:=AN d;simp only[zD]at hz;omega) (Qk d ae (by have:=AN d;simp only[zD]at hz;omega))
structure fU where
 re:Re
 aj:Int
 aM:Bool
def bk (p:fU):V:=.ag (p.re.cells.map .d++[i64 p.aj,bV p.aM])
def mW (l:List Int) (dH ai:Int):fU :=
 let x:=Mk.tree 5 ⟨l,0,dH,ai,0⟩
 ⟨x.1,x.2.aj,false⟩
theorem SL (ρ:List Nat) (m:Mk):ba ρ (lB m)=lB m:=rfl
theorem Dn (re:Re) (l:List V):(re.cells.map V.d++l).take 8=re.cells.map V.d:=List.take_left' (by simp [Re.iJ])
theorem EY (re:Re) (l:List V) (n:Nat):(re.cells.map V.d++l).drop (n+8)=l.drop n:=by rw[Nat.add_comm,<- List.drop_drop,List.drop_left' (by simp [Re.iJ])]
theorem NV (l:List Int) (dH ai:Int) (hl:∀x∈l,jD x) (h0:0<=ai) (h1:ai<=1000000):aS prog 46 [.d (ar l),i64 dH,i64 ai] (bk (mW l dH ai)):=by refine br func46 ntmps46 results46 0 455 ?_;simp only[zW,simprocAttr,i64];refine Da 1 (Qk 5 ae aF ⟨l,0,dH,ai,0⟩ 0 ae ⟨hl,aq,aq,by simpa using h0,h1,aq,aq⟩ aF) rfl rfl rfl rfl (zE _ _) ?_;rw[SL];have hR:mW l dH ai=⟨(Mk.tree 5 ⟨l,0,dH,ai,0⟩).1,(Mk.tree 5 ⟨l,0,dH,ai,0⟩).2.aj,false⟩:=rfl;rw[hR];generalize Mk.tree 5 ⟨l,0,dH,ai,0⟩=R;simp only[zW,simprocAttr,i64];refine cP mix [6] [] ?_;simp only[zJ,simprocAttr,lB,Dn,EY,ald];simp only[zW,simprocAttr,Re.ah,bk,bV,i64]
end Go.Proofs.YtjjfioalgbecmaaGreat
namespace Go.Proofs.YtjjfioalgbecmaaGreat
open Go.VL Go.Proofs.Tryz
def pf (c:Int):VL.Obj:=⟨0,true,1,[[i64 c]]⟩
mutual
def Re.depth:Re->Int
 |.mk _ _ kids _ _ _ _ _=>Re.EG kids 0+1
def Re.EG:List Re->Int->Int
 |[],a=>a
 |k::l,a=>Re.EG l (max a k.depth)
end
def rV (l:List Int):Int:=l.foldl max 0
theorem Re.HH:∀(l:List Re) (a:Int),Re.EG l a=(l.map Re.depth).foldl max a
 |[],a=>by simp [Re.EG]
 |k::l,a=>by simp [Re.EG,Re.HH l]
theorem Re.lZ (re:Re):re.depth=rV (re.kids.map Re.depth)+1:=by
 cases re;simp [Re.depth,Re.HH,Re.kids,rV]
theorem Rr (l:List Int) (k:Int):rV (l++[k])=max (rV l) k:=by simp [rV,List.foldl_append]
theorem oL {b:Int}:∀(l:List Int) (a:Int),a<=b->(∀x∈l,x<=b)->l.foldl max a<=b
 |[],a,h,_=>h
 |x::l,a,h,hl=>oL l (max a x) (by have:=hl x aq;omega) (λy hy=>hl y (by simp [hy]))
theorem oP:∀(l:List Int) (a:Int),a<=l.foldl max a
 |[],a=>alj _
 |x::l,a=>Int.le_trans ae (oP l (max a x))
theorem Re.KE (re:Re):0<=re.depth/\re.depth<=re.size:=by
 refine Re.ind (Q:=λre=>0<=re.depth/\re.depth<=re.size) (λre ih=>?_) re;rw[Re.lZ,Re.size_eq];have h1:=oP (re.kids.map Re.depth) 0;have h2:rV (re.kids.map Re.depth)<=(Re.da re.kids:Nat):=oL _ _ ae (λx hx=>by
  obtain⟨k,hk,rfl⟩:=List.mem_map.1 hx;have:=Re.Az hk;have:=(ih k hk).2;omega)
 unfold rV at *;omega
theorem Ke (re:Re) (hs:re.size<=1000000000):aS prog 93 [lI re] (i64 re.depth):=by
 revert hs;refine Re.ind (Q:=λre=>re.size<=1000000000->aS prog 93 [lI re] (i64 re.depth)) (λre ih hs=>?_) re;have hlen:=Re.mX re.kids;have gr:=Re.size_eq re;have hd:=Re.KE re;rw[Re.lZ]at hd ⊢;refine br func93 ntmps93 results93 0 31 ?_;simp only[zJ,simprocAttr,au re,iD,bD];refine ay (λn e s=>∃i:Nat,n=re.kids.length-i/\i<=re.kids.length/\e 1=.rf 0 0 0 0/\e 3=i64 (rV ((re.kids.take i).map Re.depth))/\e 4=i64 i/\s=[⟨0,true,8,[re.cells.map .d]⟩])
  ⟨_,_,_,bO.refl,0,rfl,ae,rfl,rfl,rfl,by rw[Re.ah re];rfl⟩ ?_
 rintro n e s ⟨i,rfl,hi,h1,h3,h4,rfl⟩;rcases alw i re.kids.length with aE|gE
 ·obtain⟨k,hk⟩:∃k,re.kids[i]?=some k:=cb aE;have hm:=List.mem_of_getElem? hk;have IF:=Re.bZ hm;simp only[zJ,simprocAttr,Re.ah re,iD,bD,h1,h3,h4,aE,hk];refine dk (ih k hm ae) ?_;simp only[zJ,simprocAttr,Re.ah re,iD,bD,h1,h3,h4];refine⟨re.kids.length-(i+1),_,_,ae,bO.refl,i+1,rfl,aE,?_,?_,?_,rfl⟩ <;> (try simp only[zU,Ft,qa,qe,Fp,reduceIte])
  ·exact h1
  ·rw[bn hk,amp,ak8,ak9,Rr]
  ·rw[bK _ ae];rfl
 ·have eg:i=re.kids.length:=by omega
  subst eg;rw[alr]at h3;have w1:IntKind.i64.wrap (rV (re.kids.map Re.depth)+1)=rV (re.kids.map Re.depth)+1:=bK _ ae;simp only[zJ,simprocAttr,Re.ah re,iD,bD,h1,h3,h4,al5,w1];all_goals exact dX
def cE (op:Int):Int×Int :=
 if op=2\/op=3 then (2,-1) else if op=4\/op=5\/op=7\/op=8\/op=9 then (1,1) else if op=10 then (2,2) else (0,0)
theorem N8 (op:Int):aS prog 133 [i64 op] (.tu [i64 (cE op).1,i64 (cE op).2]):=by
 have mV:op=2\/op=3\/op=4\/op=5\/op=7\/op=8\/op=9\/op=10\/(¬op=2/\¬op=3/\¬op=4/\¬op=5/\¬op=7/\¬op=8/\¬op=9/\¬op=10):=ae;rcases mV with p|p|p|p|p|p|p|p|⟨p1,p2,p3,p4,p5,p6,p7,p8⟩
 all_goals
  first
   |(rw[p]
     refine br func133 ntmps133 results133 0 317 ?_;simp only[zW,simprocAttr,i64];all_goals exact dX)
   |(rw[show cE op=(0,0) by simp [cE,p1,p2,p3,p4,p5,p6,p7,p8]]
     refine br func133 ntmps133 results133 0 317 ?_;simp only[zJ,simprocAttr,p1,p2,p3,p4,p5,p6,p7,p8];all_goals exact dX)
def sy (top:Int):Int->List (Int×Int)->Bool
 |_,[]=>true
 |p,s::l=>decide (0<=s.1/\s.1<=s.2/\s.2<=top/\p+1<s.1)&&sy top s.2 l
def iV (l:List (Int×Int)) (top:Int):Bool:=decide (l.length<=64)&&sy top (-2) l
def mq (l:List (Int×Int)):Nat->Int
 |0=>-2
 |i+1=>(l[i]?.map (·.2)).getD 0
theorem LG (l:List (Int×Int)) (hl:l.length<=1000000000) (top:Int) (ht:top<=1114111):aS prog 134 [.d (.sl (l.map aU)),i64 top] (bV (iV l top)):=by
 refine br func134 ntmps134 results134 0 51 ?_;by_cases Sm:(64:Int)<l.length
 ·exact Zdj
 have ZQ:l.length<=64:=ae;have hR:iV l top=sy top (-2) l:=by simp [iV,ZQ]
 rw[hR];simp only[zI,simprocAttr,Sm];refine ay (λn e s=>∃i:Nat,n=l.length-i/\i<=l.length/\e 0=.d (.sl (l.map aU))/\e 1=i64 top/\e 5=i64 i/\s=[]/\sy top (-2) l=sy top (mq l i) (l.drop i)/\(0<i->0<=mq l i/\mq l i<=top))
  ⟨_,_,_,bO.refl,0,rfl,ae,rfl,rfl,rfl,rfl,rfl,λh=>absurd h ae⟩ ?_
 rintro n e s ⟨i,rfl,hi,h0,h1,h5,rfl,lQ,n8⟩;rcases alw i l.length with aE|gE
 ·obtain⟨k,hk⟩:∃k,l[i]?=some k:=cb aE;have hd:l.drop i=k::l.drop (i+1):=by rw[List.drop_eq_getElem_cons aE];rw[List.getElem?_eq_getElem aE]at hk;simp only[alb]at hk;rw[hk]
  rw[hd]at lQ;simp only[sy]at lQ;have zK:mq l (i+1)=k.2:=by simp [mq,hk]
  simp only[zI,simprocAttr,h0,h1,h5,aE];refine cP mix [] [] ?_;cases i with
  |zero =>
   have lQ:sy top (-2) l=(decide (0<=k.1/\k.1<=k.2/\k.2<=top/\-2+1<k.1)&&sy top k.2 (l.drop (0+1))):=lQ;simp only[zI,simprocAttr,h0,h1,h5,hk,aU,iD,alv]
   repeat' (first
 |(with_reducible refine And.intro tx ?_)
 |(with_reducible first|refine lq (λhc=>?_) (λhc=>?_)|refine eB (λhc=>?_) (λhc=>?_)|refine eA (λhc=>?_) (λhc=>?_)|refine dy (λhc=>?_) (λhc=>?_)|refine dx (λhc=>?_) (λhc=>?_)|refine iW (λhc=>?_) (λhc=>?_)|refine eu (λhc=>?_) (λhc=>?_))<;>simp only[zI,simprocAttr,h0,h1,h5,hk,aU,iD,alv,hc])
   any_goals (refine congrArg bV (Eq.symm ?_);rw[lQ,show decide (0<=k.1/\k.1<=k.2/\k.2<=top/\-2+1<k.1)=false from ce ae];rfl)
   refine⟨l.length-1,_,_,ae,bO.refl,1,rfl,aE,?_,?_,?_,rfl,?_,?_⟩ <;> (try simp only[zU,Ft,qa,qe,Fp,reduceIte])
   ·exact h0
   ·exact h1
   ·rw[bK _ ae];rfl
   ·rw[lQ,zK,show decide (0<=k.1/\k.1<=k.2/\k.2<=top/\-2+1<k.1)=true from bi ae];rfl
   ·intro _;rw[zK];omega
  |succ j =>
   obtain⟨kp,Ea⟩:∃k,l[j]?=some k:=⟨_,List.getElem?_eq_getElem (by omega:j<l.length)⟩
   have hpe:mq l (j+1)=kp.2:=by simp [mq,Ea]
   have n8:=n8 ae;rw[hpe]at n8 lQ;have w1:IntKind.i64.wrap (((j+1:Nat):Int)-1)=(j:Int):=by rw[bK _ ae];omega
   have w2:IntKind.i64.wrap (kp.2+1)=kp.2+1:=bK _ ae;have p0:(0:Int)<((j+1:Nat):Int):=ae;have q0:(0:Int)<=((j+1:Nat):Int):=ae;have q1:((j+1:Nat):Int)<l.length:=ae;have q2:(j:Int)<l.length:=ae;simp only[zI,simprocAttr,h0,h1,h5,hk,aU,iD,Ea,w1,w2,p0,q0,q1,q2]
   repeat' (first
 |(with_reducible refine And.intro tx ?_)
 |(with_reducible first|refine lq (λhc=>?_) (λhc=>?_)|refine eB (λhc=>?_) (λhc=>?_)|refine eA (λhc=>?_) (λhc=>?_)|refine dy (λhc=>?_) (λhc=>?_)|refine dx (λhc=>?_) (λhc=>?_)|refine iW (λhc=>?_) (λhc=>?_)|refine eu (λhc=>?_) (λhc=>?_))<;>simp only[zI,simprocAttr,h0,h1,h5,hk,aU,iD,Ea,w1,w2,p0,q0,q1,q2,hc])
   any_goals (refine congrArg bV (Eq.symm ?_);rw[lQ,show decide (0<=k.1/\k.1<=k.2/\k.2<=top/\kp.2+1<k.1)=false from ce ae];rfl)
   refine⟨l.length-(j+1+1),_,_,ae,bO.refl,j+1+1,rfl,aE,?_,?_,?_,rfl,?_,?_⟩ <;> (try simp only[zU,Ft,qa,qe,Fp,reduceIte])
   ·exact h0
   ·exact h1
   ·rw[bK _ ae];rfl
   ·rw[lQ,zK,show decide (0<=k.1/\k.1<=k.2/\k.2<=top/\kp.2+1<k.1)=true from bi ae];rfl
   ·intro _;rw[zK];omega
 ·have eg:i=l.length:=by omega
  subst eg;simp only[zI,simprocAttr,h0,h1,h5,al5];rw[lQ];simp [sy,bV]
def bX (re:Re) (aj top:Int):Bool :=
 decide (0<=re.op/\re.op<=11/\(cE re.op).1<=re.kids.length/\((cE re.op).2<0\/(re.kids.length:Int)<=(cE re.op).2)) &&
 ((if re.op=1 then iV re.set top else decide (re.set.length=0)) &&
 ((if re.op=4 then decide (0<=re.mn/\re.mn<=32/\-1<=re.mx/\re.mx≠0/\re.mx<=32/\(0<re.mx->re.mn<=re.mx)/\0<=re.mode/\re.mode<=2) else decide (re.mn=0/\re.mx=0/\re.mode=0)) &&
 ((if re.op=5\/re.op=6\/re.op=10 then decide (1<=re.n/\re.n<=aj) else if re.op=11 then decide (0<=re.n/\re.n<=5) else decide (re.n=0)) &&
 (!re.neg||decide (re.op=7\/re.op=8)))))
theorem IQ (re:Re) (hf:re.df=true) (aj top:Int) (ht:top<=1114111):aS prog 117 [lI re,i64 aj,i64 top] (bV (bX re aj top)):=by
 obtain⟨rm,hlen,JR⟩:=Re.gK hf;have lQ:=LG re.set rm top ht;have Zc:=N8 re.op;by_cases ho:re.op<0\/11<re.op
 ·rw[show bX re aj top=false by simp only[bX];rw[ce ae];rfl];have TF:re.op<0\/(¬re.op<0/\11<re.op):=ae;refine br func117 ntmps117 results117 0 361550014853497117429835520396253725135 ?_;simp only[zI,simprocAttr,au re,iD,bD];refine dk Zc ?_;rcases TF with h1|⟨h1,h2⟩
  ·simp only[zI,simprocAttr,au re,iD,bD,h1];rfl
  ·simp only[zI,simprocAttr,au re,iD,bD,h1,h2];rfl
 ·have hc:re.op=0\/re.op=1\/re.op=2\/re.op=3\/re.op=4\/re.op=5\/re.op=6\/re.op=7\/re.op=8\/re.op=9\/re.op=10\/re.op=11:=by omega
  clear ho;rcases hc with p|p|p|p|p|p|p|p|p|p|p|p
  case inr.inl =>
   rw[p]at Zc;simp only[cE,FD,or_self,if_false,or_true,true_or,or_false,false_or,if_true,reduceIte]at Zc;generalize hv:iV re.set top=sv at lQ;cases sv;all_goals
    refine br func117 ntmps117 results117 0 361550014853497117429835520396253725135 ?_;simp only[zI,simprocAttr,au re,iD,bD,p];refine dk Zc ?_;simp only[zI,simprocAttr,au re,iD,bD,p]
    repeat' (first
 |(with_reducible refine And.intro tx ?_)
 |(with_reducible first|refine lq (λhc=>?_) (λhc=>?_)|refine eB (λhc=>?_) (λhc=>?_)|refine eA (λhc=>?_) (λhc=>?_)|refine dy (λhc=>?_) (λhc=>?_)|refine dx (λhc=>?_) (λhc=>?_)|refine iW (λhc=>?_) (λhc=>?_)|refine eu (λhc=>?_) (λhc=>?_))<;>simp only[zI,simprocAttr,au re,iD,bD,p,hc])
   any_goals
    refine dk lQ ?_;simp only[zI,simprocAttr,au re,iD,bD,p,bV]
   any_goals
    repeat' (first
 |(with_reducible refine And.intro tx ?_)
 |(with_reducible first|refine lq (λhc=>?_) (λhc=>?_)|refine eB (λhc=>?_) (λhc=>?_)|refine eA (λhc=>?_) (λhc=>?_)|refine dy (λhc=>?_) (λhc=>?_)|refine dx (λhc=>?_) (λhc=>?_)|refine iW (λhc=>?_) (λhc=>?_)|refine eu (λhc=>?_) (λhc=>?_))<;>simp only[zI,simprocAttr,au re,iD,bD,p,bV,hc])
   all_goals
    rcases amq re.neg with dQ|dQ;all_goals
     try (exfalso;rw[dQ]at hc;exact absurd hc aF;done)
     try first
      |(first|refine congrArg bV (Eq.symm (Bool.eq_false_iff.2 λh=>?_))|refine Eq.symm (Bool.eq_false_iff.2 λh=>?_)
        simp only[bX,cE,p,dQ,hv,FD,or_self,if_false,or_true,true_or,or_false,false_or,if_true,reduceIte,alo,decide_eq_true_eq,alh,ali,alE,alB,reduceCtorEq,alk,false_and,and_false,true_and,and_true]at h;try omega
        done)
      |(first|refine congrArg bV (Eq.symm ?_)|refine Eq.symm ?_
        simp only[bX,cE,p,dQ,hv,FD,or_self,if_false,or_true,true_or,or_false,false_or,if_true,reduceIte,alo,decide_eq_true_eq,alh,ali,alE,alB,reduceCtorEq,alk,false_and,and_false,true_and,and_true];try omega
        done)
  all_goals
   rw[p]at Zc;simp only[cE,FD,or_self,if_false,or_true,true_or,or_false,false_or,if_true,reduceIte]at Zc;refine br func117 ntmps117 results117 0 361550014853497117429835520396253725135 ?_;simp only[zI,simprocAttr,au re,iD,bD,p];refine dk Zc ?_;simp only[zI,simprocAttr,au re,iD,bD,p]
   repeat' (first
 |(with_reducible refine And.intro tx ?_)
 |(with_reducible first|refine lq (λhc=>?_) (λhc=>?_)|refine eB (λhc=>?_) (λhc=>?_)|refine eA (λhc=>?_) (λhc=>?_)|refine dy (λhc=>?_) (λhc=>?_)|refine dx (λhc=>?_) (λhc=>?_)|refine iW (λhc=>?_) (λhc=>?_)|refine eu (λhc=>?_) (λhc=>?_))<;>simp only[zI,simprocAttr,au re,iD,bD,p,hc])
  all_goals
   rcases amq re.neg with dQ|dQ;all_goals
    try (exfalso;rw[dQ]at hc;exact absurd hc aF;done)
    try first
     |(refine congrArg bV (Eq.symm (Bool.eq_false_iff.2 λh=>?_))
       simp only[bX,cE,p,dQ,FD,or_self,if_false,or_true,true_or,or_false,false_or,if_true,reduceIte,alo,decide_eq_true_eq,alh,ali,alE,alB,reduceCtorEq,alk,false_and,and_false,true_and,and_true]at h;try omega
       done)
     |(refine congrArg bV (Eq.symm ?_)
       simp only[bX,cE,p,dQ,FD,or_self,if_false,or_true,true_or,or_false,false_or,if_true,reduceIte,alo,decide_eq_true_eq,alh,ali,alE,alB,reduceCtorEq,alk,false_and,and_false,true_and,and_true];try omega
       done)
def Re.whole (re:Re) (aj top:Int):Bool:=re.every λr=>bX r aj top
theorem KJ (aj top:Int) (ht:top<=1114111) (re:Re) (hf:re.df=true):aS prog 94 [lI re,i64 aj,i64 top] (bV (re.whole aj top)):=by
 revert hf;refine Re.ind (Q:=λre=>re.df=true->aS prog 94 [lI re,i64 aj,i64 top] (bV (re.whole aj top))) (λre ih hf=>?_) re;obtain⟨rm,hlen,JR⟩:=Re.gK hf;have O4:=IQ re hf aj top ht;rw[au]at O4;simp only[i64,iD,bD]at O4;refine br func94 ntmps94 results94 0 207 ?_;simp only[zI,simprocAttr,au re,iD,bD];refine dk O4 ?_;cases iL:bX re aj top with
 |false =>
  simp only[zI,simprocAttr,bV];rw[show re.whole aj top=false by
   rw[alP];intro h;unfold Re.whole at h;rw[Re.az,iL]at h;exact absurd h.1 aF]
 |true =>
  simp only[zI,simprocAttr,bV];refine ay (λn e s=>∃i:Nat,n=re.kids.length-i/\i<=re.kids.length/\e 1=i64 aj/\e 2=i64 top/\e 3=.rf 0 0 0 0/\e 7=i64 i/\(∀x∈re.kids.take i,x.whole aj top=true)/\s=[⟨0,true,8,[re.cells.map .d]⟩])
   ⟨_,_,_,bO.refl,0,rfl,ae,rfl,rfl,rfl,rfl,aq,by simp [Re.ah re,iD,bD]⟩ ?_
  rintro n e s ⟨i,rfl,hi,h1,h2,h3,h7,hn,rfl⟩;rcases alw i re.kids.length with aE|gE
  ·obtain⟨k,hk⟩:∃k,re.kids[i]?=some k:=cb aE;have hm:=List.mem_of_getElem? hk;simp only[zI,simprocAttr,Re.ah re,iD,bD,h1,h2,h3,h7,aE,hk];refine dk (ih k hm (JR k hm)) ?_;cases ej:k.whole aj top with
   |false =>
    simp only[zI,simprocAttr,bV];rw[show re.whole aj top=false by
     rw[alP];intro h;unfold Re.whole at h;rw[Re.az]at h;have:=h.2 k hm;unfold Re.whole at ej;rw[ej]at this;cases this]
   |true =>
    simp only[zI,simprocAttr,bV,Re.ah re,iD,bD,h1,h2,h3,h7];refine⟨re.kids.length-(i+1),_,_,ae,bO.refl,i+1,rfl,aE,?_,?_,?_,?_,?_,rfl⟩ <;> (try simp only[zU,Ft,qa,qe,Fp,reduceIte])
    ·exact h1
    ·exact h2
    ·exact h3
    ·rw[bK _ ae];rfl
    ·intro x hx;rcases cK hk hx with h|rfl
     ·exact hn x h
     ·exact ej
  ·have eg:i=re.kids.length:=by omega
   subst eg;simp only[zI,simprocAttr,Re.ah re,iD,bD,h1,h2,h3,h7,al5];rw[show re.whole aj top=true from (Re.az re).2 ⟨iL,λk hk=>hn k (by rw[alr];exact hk)⟩]
def e8 (aM:Bool):Int:=if aM=true then 1114111 else 255
def cI (p:fU):Int :=
 if 256<p.re.size\/24<p.re.depth then 4 else if p.aj<0\/9<p.aj\/p.re.whole p.aj (e8 p.aM)=false then 1 else 0
theorem qk (p:fU) (hf:p.re.df=true) (hs:p.re.size<=1000000000):aS prog 49 [bk p] (i64 (cI p)):=by
 have h1:=Ov p.re hs;have h2:=Ke p.re hs;have h3:=KJ p.aj (e8 p.aM) (by unfold e8;split <;> omega) p.re hf;unfold cI;rw[au]at h1 h2 h3;cases p with
 |mk re aj aM =>
 simp only[i64,iD,bD]at h1 h2 h3;simp only at *;refine br func49 ntmps49 results49 0 15 ?_;simp only[zI,simprocAttr,bk,Re.ah re,bV,iD,bD];refine dk h1 ?_;simp only[zI,simprocAttr,bk,bV,iD,bD];by_cases c1:(256:Int)<re.size
 ·simp only[zX,simprocAttr,c1];rw[rY]
 simp only[zI,simprocAttr,bk,bV,iD,bD,c1];refine dk h2 ?_;simp only[zI,simprocAttr,bk,bV,iD,bD];by_cases c2:(24:Int)<re.depth
 ·simp only[zX,simprocAttr,c2]
 rw[bm];simp only[zI,simprocAttr,bk,bV,iD,bD,c2];cases aM;all_goals
  simp only[e8,if_true,if_false,reduceIte,reduceCtorEq,alk]at h3 ⊢;simp only[zI,simprocAttr,bk,bV,iD,bD];by_cases c3:aj<0
  ·simp only[zI,simprocAttr,bk,bV,iD,bD,c3]
  by_cases c4:9<aj
  ·simp only[zI,simprocAttr,bk,bV,iD,bD,c3,c4,if_true,or_true,true_or]
  simp only[zI,simprocAttr,bk,bV,iD,bD,c3,c4];refine dk h3 ?_;first
   |(cases hw:re.whole aj 1114111 <;> (simp only[zI,simprocAttr,bV]);done)
   |(cases hw:re.whole aj 255 <;> (simp only[zI,simprocAttr,bV]);done)
end Go.Proofs.YtjjfioalgbecmaaGreat
namespace Go.Proofs.YtjjfioalgbecmaaGreat
open Go.VL Go.Proofs.Tryz
def aL (x:Re):VL.Obj:=⟨0,true,8,[x.cells.map .d]⟩
end Go.Proofs.YtjjfioalgbecmaaGreat
namespace Go.Proofs.YtjjfioalgbecmaaGreat
open Go.VL Go.Proofs.Tryz
variable{b:Int}{k:Int×Int}{na:Bool}{a:Int×Int}{nk:Bool}
structure LR (sQ:Bool) (p:Int×Int):Prop where
 a0:0<=p.1
 a1:p.1<=1000000
 b0:-1<=p.2
 b1:p.2<=1000000
 ab:p.2=-1\/p.1<=p.2
 nl:sQ=true ↔ p.1=0
theorem J5 {a:Int} (h1:-1<=a/\a<=1000000) (h2:-1<=b/\b<=1000000):yV a b=if a<0\/b<0 then -1 else min (a+b) 1000000:=by unfold yV;rw[bK _ ae]
theorem Tf (ha:LR na a) (hk:LR nk k):LR (na&&nk) (yV a.1 k.1,yV a.2 k.2):=by
 obtain⟨a0,a1,b0,b1,ab,nl⟩:=ha;obtain⟨c0,c1,d0,d1,cd,nl'⟩:=hk;have e1:yV a.1 k.1=min (a.1+k.1) 1000000:=by rw[J5 ⟨ae,a1⟩ ⟨ae,c1⟩,bm]
 have e2:=J5 ⟨b0,b1⟩ ⟨d0,d1⟩;refine⟨?_,?_,?_,?_,?_,?_⟩ <;> simp only[e1,e2]
 ·omega
 ·omega
 ·split <;> omega
 ·split <;> omega
 ·split <;> omega
 ·rw[alo,nl,nl'];omega
theorem Hd:∀(l:List (Bool×(Int×Int))) (na:Bool) (a:Int×Int),LR na a->(∀x∈l,LR x.1 x.2) ->
  LR (na&&(l.map (·.1)).all id) ((l.map (·.2)).foldl (λa k=>(yV a.1 k.1,yV a.2 k.2)) a)
 |[],na,a,h,_=>by simpa using h
 |x::l,na,a,h,hl=>by have:=Hd l (na&&x.1) _ (Tf h (hl x aq)) (λy hy=>hl y (by simp [hy]));simpa [Bool.and_assoc]using this
theorem SU (ha:LR na a) (hk:LR nk k):LR (na||nk) (Gi a k):=by
 obtain⟨a0,a1,b0,b1,ab,nl⟩:=ha;obtain⟨c0,c1,d0,d1,cd,nl'⟩:=hk;refine⟨?_,?_,?_,?_,?_,?_⟩ <;> simp only[Gi,D5]
 ·omega
 ·omega
 ·split <;> omega
 ·split <;> omega
 ·split <;> omega
 ·rw[Bool.or_eq_true,nl,nl'];omega
theorem H3:∀(l:List (Bool×(Int×Int))) (na:Bool) (a:Int×Int),LR na a->(∀x∈l,LR x.1 x.2) ->
  LR (na||(l.map (·.1)).any id) ((l.map (·.2)).foldl Gi a)
 |[],na,a,h,_=>by simpa using h
 |x::l,na,a,h,hl=>by have:=H3 l (na||x.1) _ (SU h (hl x aq)) (λy hy=>hl y (by simp [hy]));simpa [Bool.or_assoc]using this
theorem RV {n:Bool} (h:LR n k):Gi k k=k:=by
 obtain⟨a0,a1,b0,b1,ab,nl⟩:=h;refine Prod.ext ?_ ?_ <;> simp only[Gi,D5]
 ·omega
 ·split <;> omega
theorem X4 {n:Int} (h0:0<=b) (h1:b<=1000000) (n0:0<=n) (n1:n<=1000000):kU b n=min (b*n) 1000000:=by
 have hle:b*n<=1000000*1000000:=Int.mul_le_mul h1 n1 n0 ae;have gE:0<=b*n:=amn h0 n0;unfold kU;split
 ·rename_i h;rcases h with h|h <;> subst h <;> simp <;> omega
 ·rw[bm,bK _ ae]
theorem ZD {n:Int} (n0:0<n):kU (-1) n=-1:=by unfold kU;rw[bm,rY]
theorem Zz (h:¬b=0):kU b (-1)=-1:=by unfold kU;rw[bm,rY]
theorem MF (n:Int):kU 0 n=0:=by simp [kU]
end Go.Proofs.YtjjfioalgbecmaaGreat
namespace Go.Proofs.YtjjfioalgbecmaaGreat
open Go.VL Go.Proofs.Tryz
variable{c:Nat}{aj:Int}{re:Re}{top:Int}{Ks:Int}{op:Int}{n:Int}{set:List (Int×Int)}{mn:Int}{kids:List Re}{neg:Bool}{mode:Int}{mx:Int}{b:Int}{x:Re×Mk}{m:Mk}{t:Mk->Re×Mk}{d:Nat}{z:Int}
def aag:Re:=.mk 0 [] [] 0 0 0 0 false
instance (n:Int):Decidable (jD n):=by unfold jD;infer_instance
def np (c:Nat) (r:Re):Bool:=decide (r.set.length<=c/\r.kids.length<=c/\jD r.op/\jD r.mn/\jD r.mx/\jD r.mode/\jD r.n)&&r.set.all λs=>decide (jD s.1/\jD s.2)
structure fU.small (p:fU) (c:Nat):Prop where
 ev:p.re.every (np c)=true
 sz:p.re.size<=c
 aj:jD p.aj
theorem Fg{r:Re}:np c r=true ↔ (r.set.length<=c/\r.kids.length<=c/\jD r.op/\jD r.mn/\jD r.mx/\jD r.mode/\jD r.n)/\∀s∈r.set,jD s.1/\jD s.2:=by unfold np;rw[alo,decide_eq_true_eq,als];exact and_congr Iff.rfl ⟨λh s hs=>of_decide_eq_true (h s hs),λh s hs=>bi (h s hs)⟩
theorem iN {p q:Re->Bool} (h:∀re,p re=true->q re=true) (re:Re) (hp:re.every p=true):re.every q=true:=by revert hp;refine Re.ind (Q:=λre=>re.every p=true->re.every q=true) (λre ih hp=>?_) re;obtain⟨h1,h2⟩:=(Re.az re).1 hp;exact(Re.az re).2 ⟨h re h1,λk hk=>ih k hk (h2 k hk)⟩
theorem Fj (hc:c<=1000000000) (re:Re) (h:re.every (np c)=true):re.df=true:=by revert h;refine Re.ind (Q:=λre=>re.every (np c)=true->re.df=true) (λre ih h=>?_) re;obtain⟨h1,h2⟩:=(Re.az re).1 h;obtain⟨⟨a1,a2,_⟩,_⟩:=Fg.1 h1;exact(Re.ph re).2 ⟨ae,ae,λk hk=>ih k hk (h2 k hk)⟩
theorem eZ:bX re aj top=true ↔
  (0<=re.op/\re.op<=11/\(cE re.op).1<=re.kids.length/\((cE re.op).2<0\/(re.kids.length:Int)<=(cE re.op).2)) /\
  (if re.op=1 then iV re.set top=true else re.set.length=0) /\
  (if re.op=4 then (0<=re.mn/\re.mn<=32/\-1<=re.mx/\re.mx≠0/\re.mx<=32/\(0<re.mx->re.mn<=re.mx)/\0<=re.mode/\re.mode<=2) else (re.mn=0/\re.mx=0/\re.mode=0)) /\
  (if re.op=5\/re.op=6\/re.op=10 then (1<=re.n/\re.n<=aj) else if re.op=11 then (0<=re.n/\re.n<=5) else re.n=0) /\
  (re.neg=true->re.op=7\/re.op=8):=by
 unfold bX;simp only[alo,decide_eq_true_eq];refine and_congr Iff.rfl (and_congr ?_ (and_congr ?_ (and_congr ?_ ?_)))
 ·split <;> simp
 ·split <;> simp only[decide_eq_true_eq]
 ·split
  ·simp only[decide_eq_true_eq]
  ·split <;> simp only[decide_eq_true_eq]
 ·cases re.neg <;> simp
theorem Lg (h:aj<=Ks) (hn:bX re aj top=true):bX re Ks top=true:=by
 rw[eZ]at *;obtain⟨a,b,c,d,e⟩:=hn;refine⟨a,b,c,?_,e⟩;split
 ·rename_i hh;rw[be hh]at d;omega
 ·rename_i hh;rw[ap hh]at d;exact d
theorem Du (h:aj<=Ks) (hn:re.whole aj top=true):re.whole Ks top=true :=
 iN (λr hr=>Lg h hr) re hn
theorem pz (h:bX (.mk op set kids mn mx mode n neg) aj top=true) (hk:∀k∈kids,k.whole aj top=true):(Re.mk op set kids mn mx mode n neg).whole aj top=true :=
 (Re.az _).2 ⟨h,hk⟩
theorem Re.zF (hb:0<=b) (hk:∀k∈kids,k.depth<=b):(Re.mk op set kids mn mx mode n neg).depth<=b+1:=by rw[Re.lZ];have:=oL (b:=b) (kids.map Re.depth) 0 hb (λx hx=>by obtain⟨k,vD,rfl⟩:=List.mem_map.1 hx;exact hk k vD);show rV (kids.map Re.depth)+1<=_;unfold rV;omega
structure TOK (d:Nat) (m:Mk) (x:Re×Mk):Prop where
 aj:m.aj<=x.2.aj
 ok:x.1.whole x.2.aj 255=true
 dep:x.1.depth<=d+1
 size:(x.1.size:Int)<=m.left-x.2.left
 low:m.left<=3->m.left-1<=x.2.left
 high:4<=m.left->2-4*(d:Int)<=x.2.left
structure TT (d:Nat) (t:Mk->Re×Mk) (c z:Int):Prop where
 gF:Good t c z
 c0:0<=c
 z1:1<=z
 tok:∀m b,0<=b->Mk.In m b->TOK d m (t m)
theorem TOK.one {d:Nat} (h:TOK d m x) {B:Int} (h1:B<=2-4*(d:Int)) (h2:B<=m.left):B-1<=x.2.left:=by have:=h.low;have:=h.high;omega
structure FOK (d f:Nat) (m:Mk) (x:List Re×Mk):Prop where
 aj:m.aj<=x.2.aj
 ok:∀k∈x.1,k.whole x.2.aj 255=true
 dep:∀k∈x.1,k.depth<=d+1
 size:(Re.da x.1:Int)<=m.left-x.2.left
 bnd:∀B:Int,B<=2-4*(d:Int)->B<=m.left->B-f<=x.2.left
theorem B5 {d:Nat}{t:Mk->Re×Mk}{c z:Int} (ht:TT d t c z):∀(f:Nat) (i:Int) (m:Mk) (b:Int),0<=b->m.In b->FOK d f m (bN t f i m)
 |0,i,m,b,hb,h=>⟨alj _,by simp [bN],by simp [bN],by simp [bN,Re.da],λB _ h2=>by simpa [bN]using h2⟩
 |f+1,i,m,b,hb,h=>by
  simp only[bN];split
  ·have h1:=h.next 2;have h2:=ht.tok _ (b+1) ae h1;obtain⟨h3,_⟩:=ht.gF _ (b+1) ae h1;have h4:=B5 ht f (i+1) _ (b+1+c) (by have:=ht.c0;omega) h3;refine⟨Int.le_trans h2.aj h4.aj,?_,?_,?_,?_⟩
   ·intro k hk;rcases List.mem_cons.1 hk with rfl|hk
    ·exact Du h4.aj h2.ok
    ·exact h4.ok k hk
   ·intro k hk;rcases List.mem_cons.1 hk with rfl|hk
    ·exact h2.dep
    ·exact h4.dep k hk
   ·have a:=h2.size;have a':=h4.size;simp only[Re.da,amf];have e:(m.next 2).2.left=m.left:=rfl;omega
   ·intro B Yk hB2;have:=h4.bnd (B-1) ae (h2.one Yk hB2);simp only[amf];omega
  ·exact⟨alj _,aq,aq,by simp [Re.da,Mk.next],λB _ h2=>by simp only[Mk.next];omega⟩
theorem Iw (m:Mk):2<=(bN t 4 0 m).1.length:=by have hp:=cH m.l m.pos 2 ae;rw[bN,be (by simp only[Mk.next];omega)];simp only[alg];generalize (t (m.next 2).2).2=m';have hp':=cH m'.l m'.pos 2 ae;rw[bN,be (by simp only[Mk.next];omega)];simp
structure NOK (d:Nat) (m:Mk) (x:Re×Mk):Prop where
 aj:m.aj<=x.2.aj
 ok:x.1.whole x.2.aj 255=true
 dep:x.1.depth<=d+2
 size:(x.1.size:Int)<=1+(m.left-x.2.left)
 bnd:∀B:Int,B<=2-4*(d:Int)->B<=m.left->B-4<=x.2.left
theorem wB (m:Mk) (aj:Int):m.set.1.whole aj 255=true:=by
 have hs:∀i:Nat,iV ((rH[i]?).getD []) 255=true:=by
  intro i;by_cases hi:i<8
  ·have:∀i,i<8->iV ((rH[i]?).getD []) 255=true:=by decide
   exact this i hi
  ·rw[List.getElem?_eq_none (by simp [rH];omega)];rfl
 refine pz (eZ.2 ?_) (λk hk=>by cases hk);refine⟨⟨by simp [Re.op],by simp [Re.op],by simp [Re.op,cE],by simp [Re.op,cE,Re.kids]⟩,?_,?_,?_,?_⟩
 ·show (if (1:Int)=1 then iV ((rH[(pick m.l m.pos 15 / 2).toNat]?).getD []) 255=true else _);rw[be rfl];exact hs _
 ·rw[ap (by simp [Re.op])];exact⟨rfl,rfl,rfl⟩
 ·rw[ap (by simp [Re.op]),ap (by simp [Re.op])];rfl
 ·intro h;simp [Re.neg]at h
theorem Db (m:Mk):m.set.1.depth=1:=rfl
theorem Al (m:Mk):m.set.1.size=1:=rfl
theorem Xz (d:Nat) (m:Mk):NOK d m m.set :=
 ⟨alj _,wB m _,by rw[Db];omega,by rw[Al];simp [Mk.set,Mk.next],λB _ h=>by simp only[Mk.set,Mk.next];omega⟩
theorem CR{m':Mk} (h:TOK d m' x) (hc:m.aj<=m'.aj) (hl:m'.left=m.left)
  (hn:bX (.mk op [] [x.1] mn mx mode n neg) x.2.aj 255=true):NOK d m (.mk op [] [x.1] mn mx mode n neg,x.2):=by
 refine⟨Int.le_trans hc h.aj,pz hn (λk hk=>by rw[List.mem_singleton.1 hk];exact h.ok),?_,?_,?_⟩
 ·exact Re.zF (b:=d+1) ae (λk hk=>by rw[List.mem_singleton.1 hk];exact h.dep)
 ·show ((Re.mk op [] [x.1] mn mx mode n neg).size:Int)<=1+(m.left-x.2.left)
  rw[uI];have:=h.size;omega
 ·intro B h1 h2;have:=h.one h1 ae;show B-4<=x.2.left;omega
theorem KO{m':Mk} (hc:m.aj=m'.aj) (hl:m'.left=m.left)
  (hn:bX (.mk op [] [] mn mx mode n neg) m'.aj 255=true):NOK d m (.mk op [] [] mn mx mode n neg,m'):=by
 refine⟨by rw[hc];exact alj _,pz hn (λk hk=>by cases hk),?_,?_,?_⟩
 ·have:=Re.zF (op:=op) (set:=[]) (mn:=mn) (mx:=mx) (mode:=mode) (n:=n) (neg:=neg) (b:=0) (kids:=[]) ae (λk hk=>by cases hk);show (Re.mk op [] [] mn mx mode n neg).depth<=_;omega
 ·show ((Re.mk op [] [] mn mx mode n neg).size:Int)<=1+(m.left-m'.left);rw[hl];simp [Re.size,Re.da]
 ·intro B h1 h2;show B-4<=m'.left;omega
theorem gX (h0:0<=op/\op<=11) (h1:op≠1) (h4:op≠4) (hk:(cE op).1<=kids.length/\((cE op).2<0\/(kids.length:Int)<=(cE op).2))
  (hn:if op=5\/op=6\/op=10 then (1<=n/\n<=aj) else if op=11 then (0<=n/\n<=5) else n=0) (dQ:neg=true->op=7\/op=8):bX (.mk op [] kids 0 0 0 n neg) aj 255=true:=by
 refine eZ.2 ⟨⟨h0.1,h0.2,hk.1,hk.2⟩,?_,?_,hn,dQ⟩
 ·rw[ap (by exact h1)];rfl
 ·rw[ap (by exact h4)];exact⟨rfl,rfl,rfl⟩
theorem NG (h:TOK d m (t m)):TOK d m (mC t m):=by
 unfold mC;simp only;split
 ·have h1:=h.size;have h2:=(t m).1.size_pos;exact⟨h.aj,wB _ _,by rw[Db];omega,by rw[Al];show ((1:Nat):Int)<=m.left-(t m).2.left;omega,h.low,h.high⟩
 ·exact h
theorem Jt (m:Mk):(jx m).2.aj=m.aj/\(jx m).2.left=m.left/\0<=(jx m).1/\(jx m).1<=2:=by
 have hp:=cH m.l m.pos 2 ae;unfold jx;simp only;split
 ·refine⟨rfl,rfl,?_,?_⟩ <;> (split <;> simp only[Mk.next] <;> omega)
 ·refine⟨rfl,rfl,?_,?_⟩ <;> simp only[Mk.next] <;> omega
theorem Wl{c:Int} (ht:TT d t c z) (hb:0<=b) (h:m.In b):NOK d m (m.rep t):=by
 have hk:=cH m.l m.pos 12 ae;have hi:=Fk (h.next 12);obtain⟨r1,r2,r3,r4⟩:=Jt (m.next 12).2;have h2:=NG (ht.tok _ (b+1+2) ae hi);simp only[Mk.rep];refine CR h2 (by rw[r1];exact alj _) (by rw[r2];rfl) (eZ.2 ⟨⟨by simp [Re.op],by simp [Re.op],by simp [Re.op,cE,Re.kids],by simp [Re.op,cE,Re.kids]⟩,?_,?_,?_,?_⟩)
 ·rw[ap (by simp [Re.op])];rfl
 ·rw[be (by simp [Re.op])];have key:∀i:Nat,i<12->0<=(nM[i]?).getD 0/\(nM[i]?).getD 0<=32/\-1<=(kM[i]?).getD 0/\(kM[i]?).getD 0≠0/\(kM[i]?).getD 0<=32/\(0<(kM[i]?).getD 0->(nM[i]?).getD 0<=(kM[i]?).getD 0):=aF;obtain⟨k1,k2,k3,k4,k5,k6⟩:=key (pick m.l m.pos 12).toNat ae;exact⟨k1,k2,k3,k4,k5,k6,r3,r4⟩
 ·rw[ap (by simp [Re.op]),ap (by simp [Re.op])];rfl
 ·intro h;simp [Re.neg]at h
theorem KI (m:Mk):(fo m).2.left=m.left:=by
 unfold fo;simp only;split
 ·rfl
 ·split
  ·split <;> rfl
  ·rfl
theorem BJ{c:Int} (ht:TT d t c z) (hb:0<=b) (h:m.In b):NOK d m (m.jB t):=by
 obtain⟨h1,h2,h3,h4⟩:=Bg h;have hl:=KI m;simp only[Mk.jB];have kK:((fo m).2.lY (max (fo m).2.aj (fo m).1)).In (b+2):=⟨h1.l,h1.p0,h1.p1,h1.l0,h1.l1,by show 0<=max _ _;omega,by have:=h.c1;show max _ _<=4;omega⟩
 have hx:=ht.tok _ (b+2) ae kK;have xY:(fo m).1<=(t ((fo m).2.lY (max (fo m).2.aj (fo m).1))).2.aj:=Int.le_trans (by show _<=max _ _;omega) hx.aj;refine CR hx (by show m.aj<=max _ _;omega) hl (gX ae ae ae (by simp [cE]) ?_ aq);rw[be (.inl rfl)];exact⟨h3,xY⟩
theorem EL{x:List Re×Mk} (h:FOK d 4 m x) (ho:op=2\/op=3) (hl:2<=x.1.length):NOK d m (Re.node op x.1,x.2):=by
 refine⟨h.aj,pz (gX ae ae ae ?_ ?_ aq) h.ok,Re.zF (b:=d+1) ae h.dep,?_,?_⟩
 ·unfold cE;rw[be ho];exact⟨by show (2:Int)<=_;omega,.inl (by show (-1:Int)<0;omega)⟩
 ·rw[bm,bm]
 ·show ((Re.node op x.1).size:Int)<=_;have:=h.size;simp only[Re.node,Re.size,amf];show ((1:Nat):Int)+(Re.da x.1:Int)<=1+(m.left-x.2.left)
  omega
 ·intro B h1 h2;exact h.bnd B h1 h2
theorem Ti{c:Int} (ht:TT d t c z) (k:Int) (hb:0<=b) (h:m.In b):NOK d m (Mk.node t k m):=by
 have hf:=B5 ht 4 0 m b hb h;have hl:=Iw (t:=t) m;have Mm:=ht.c0;unfold Mk.node;split
 ·exact EL hf (.inl rfl) hl
 split
 ·exact EL hf (.inr rfl) hl
 split
 ·exact Wl ht hb h
 split
 ·exact BJ ht hb h
 split
 ·exact BJ ht hb h
 split
 ·have hp:=cH m.l m.pos 6 ae;refine KO rfl rfl (gX ae ae ae (by simp [cE]) ?_ aq);rw[bm,be rfl];simp only[Mk.next];omega
 split
 ·have hp:=cH (m.next 3).2.l (m.next 3).2.pos 2 ae;have hx:=ht.tok _ (b+2) ae (((h.next 3).next 2).mono ae);have B0:((m.next 3).2.next 2).1=0\/((m.next 3).2.next 2).1=1:=by simp only[Mk.next]at hp ⊢;omega
  refine CR hx (alj _) rfl (gX ?_ ?_ ?_ ?_ ?_ ?_)
  ·omega
  ·omega
  ·omega
  ·rcases B0 with e|e <;> rw[e] <;> simp [cE]
  ·rcases B0 with e|e <;> rw[e] <;> simp
  ·intro _;omega
 split
 ·exact CR (ht.tok m b hb h) (alj _) rfl (gX ae ae ae (by simp [cE]) aq aq)
 split
 ·rename_i Dw;have Bp:0<m.aj:=Dw.2.2;have hp:=cH m.l m.pos m.aj ae;refine KO rfl rfl (gX ae ae ae (by simp [cE]) ?_ aq);rw[be (.inr (.inl rfl))];simp only[Mk.next];omega
 split
 ·rename_i Dw;have Bp:0<m.aj:=Dw.2.2;have hp:=cH m.l m.pos m.aj ae;have h1:=h.next m.aj;have hy:=ht.tok _ (b+1) ae h1;obtain⟨h2,_⟩:=ht.gF _ (b+1) ae h1;have hz:=ht.tok _ (b+1+c) ae h2;have e1:(m.next m.aj).2.aj=m.aj:=rfl;have e2:(m.next m.aj).2.left=m.left:=rfl;simp only;refine⟨Int.le_trans hy.aj hz.aj,pz (gX ae ae ae (by simp [cE]) ?_ aq) ?_,Re.zF (b:=d+1) ae ?_,?_,?_⟩
  ·rw[be (.inr (.inr rfl))];have:=Int.le_trans hy.aj hz.aj;simp only[Mk.next]at this hp ⊢;omega
  ·intro x hx;rcases List.mem_cons.1 hx with rfl|hx
   ·exact Du hz.aj hy.ok
   ·rw[List.mem_singleton.1 hx];exact hz.ok
  ·intro x hx;rcases List.mem_cons.1 hx with rfl|hx
   ·exact hy.dep
   ·rw[List.mem_singleton.1 hx];exact hz.dep
  ·have a1:=hy.size;have a2:=hz.size;simp only[Re.size,Re.da,amf];omega
  ·intro B Yk hB2;have b1:=hy.one Yk ae;have b2:=hz.one (B:=B-1) ae b1;show B-4<=(t (t (m.next m.aj).2).2).2.left;omega
 ·exact Xz d m
theorem v9:∀d,TT d (Mk.tree d) (cD d) (zD d)
 |0=>by
  refine⟨kd 0,by have:=ly 0;omega,AN 0,λm b hb h=>?_⟩;simp only[Mk.tree];have el:(m.less.next 20).2.left=m.left-1:=rfl;have ec:(m.less.next 20).2.aj=m.aj:=rfl;exact ZaJ
 |d+1=>by
  refine⟨kd (d+1),by have:=ly (d+1);omega,AN (d+1),λm b hb h=>?_⟩;simp only[Mk.tree];have el:(m.less.next 20).2.left=m.left-1:=rfl;have ec:(m.less.next 20).2.aj=m.aj:=rfl;split
  ·exact ZaJ
  ·rename_i Dw;have Xs:¬(m.less.next 20).2.left<3:=λhh=>Dw (.inl hh);have hn:=Ti (v9 d) (m.less.next 20).1 (b:=b+1+1) ae (h.left.next 20);refine⟨Int.le_trans (by rw[ec];exact alj _) hn.aj,hn.ok,?_,?_,λhh=>ae,λ_=>?_⟩
   ·have:=hn.dep;simp only[amf];omega
   ·have:=hn.size;omega
   ·have:=hn.bnd (2-4*(d:Int)) (alj _) ae;simp only[amf];omega
theorem Bq (l:List Int) (dH ai:Int) (hl:∀x∈l,jD x) (h0:0<=ai) (h1:ai<=100):cI (mW l dH ai)=0/\(mW l dH ai).re.size<=256:=by
 have kK:(⟨l,0,dH,ai,0⟩:Mk).In 0:=⟨hl,aq,aq,by simpa using h0,by show ai<=_;omega,aq,aq⟩
 have h:=(v9 5).tok ⟨l,0,dH,ai,0⟩ 0 ae kK;obtain⟨g,_⟩:=(v9 5).gF ⟨l,0,dH,ai,0⟩ 0 ae kK;have gr:=h.size;have aa7:=h.low;have ade:=h.high;have ac7:=h.dep;have jw:=h.ok;have hs:(mW l dH ai).re.size<=256:=by show (Mk.tree 5 ⟨l,0,dH,ai,0⟩).1.size<=256;simp only at gr aa7 ade;omega
 refine⟨?_,hs⟩;unfold cI;rw[ap,ap]
 ·rintro (h'|h'|h')
  ·have:=g.c0;have YP:(Mk.tree 5 ⟨l,0,dH,ai,0⟩).2.aj<0:=h';omega
  ·have:=g.c1;have YP:9<(Mk.tree 5 ⟨l,0,dH,ai,0⟩).2.aj:=h';omega
  ·have YP:(Mk.tree 5 ⟨l,0,dH,ai,0⟩).1.whole (Mk.tree 5 ⟨l,0,dH,ai,0⟩).2.aj 255=false:=h';rw[jw]at YP;cases YP
 ·rintro (h'|h')
  ·omega
  ·have YP:24<(Mk.tree 5 ⟨l,0,dH,ai,0⟩).1.depth:=h';omega
theorem YJ {top:Int}:∀(l:List (Int×Int)) (p:Int),sy top p l=true->∀s∈l,0<=s.1/\s.1<=top/\0<=s.2/\s.2<=top
 |[],p,h,s,hs=>by cases hs
 |x::l,p,h,s,hs=>by
  simp only[sy,alo,decide_eq_true_eq]at h;rcases List.mem_cons.1 hs with rfl|hs
  ·omega
  ·exact YJ l x.2 h.2 s hs
theorem M1 (hc:64<=c) (ht:top<=1114111) (Bp:aj<=1000000) (h:bX re aj top=true) (hk:re.kids.length<=c):np c re=true:=by
 obtain⟨h1,h2,h3,h4,h5⟩:=eZ.1 h;have fB:re.set.length<=64/\∀s∈re.set,jD s.1/\jD s.2:=by
  split at h2
  ·simp only[iV,alo,decide_eq_true_eq]at h2;refine⟨h2.1,λs hs=>?_⟩;have:=YJ _ _ h2.2 s hs;unfold jD;omega
  ·have hn:re.set=[]:=alz h2;rw[hn];exact⟨aq,λs hs=>by cases hs⟩
 refine Fg.2 ⟨⟨ae,hk,?_,?_,?_,?_,?_⟩,fB.2⟩
 ·unfold jD;omega
 ·unfold jD;split at h3 <;> omega
 ·unfold jD;split at h3 <;> omega
 ·unfold jD;split at h3 <;> omega
 ·unfold jD;split at h4
  ·omega
  ·split at h4 <;> omega
theorem HU (l:List Int) (dH ai:Int) (hl:∀x∈l,jD x) (h0:0<=ai) (h1:ai<=100):(mW l dH ai).small 256:=by
 have kK:(⟨l,0,dH,ai,0⟩:Mk).In 0:=⟨hl,aq,aq,by simpa using h0,by show ai<=_;omega,aq,aq⟩
 have h:=(v9 5).tok ⟨l,0,dH,ai,0⟩ 0 ae kK;obtain⟨g,_⟩:=(v9 5).gF ⟨l,0,dH,ai,0⟩ 0 ae kK;obtain⟨_,hs⟩:=Bq l dH ai hl h0 h1;have Mm:=g.c0;have CA:=g.c1;refine⟨?_,hs,by show jD (Mk.tree 5 ⟨l,0,dH,ai,0⟩).2.aj;unfold jD;omega⟩;have jw:(mW l dH ai).re.whole (Mk.tree 5 ⟨l,0,dH,ai,0⟩).2.aj 255=true:=h.ok;revert jw hs;generalize (mW l dH ai).re=re;intro hs jw;refine Re.ind (Q:=λre=>re.size<=256->re.whole (Mk.tree 5 ⟨l,0,dH,ai,0⟩).2.aj 255=true->re.every (np 256)=true) (λre ih hs jw=>?_) re hs jw;obtain⟨a1,a2⟩:=(Re.az re).1 jw;have:=Re.mX re.kids;have:=Re.size_eq re;exact(Re.az re).2 ⟨M1 ae ae ae a1 ae,λk hk=>ih k hk (by have:=Re.bZ hk;omega) (a2 k hk)⟩
def eM (aM:Bool) (x:Int):Bool:=decide (0<=x)&&decide (x<=e8 aM)
def e9 (p:fU) (t:List Int) (fuel:Int):Int :=
 if cI p≠0 then cI p else if 65536<t.length then 4 else if t.all (eM p.aM)=false then 1 else if fuel<0\/1099511627776<fuel then 1 else 0
theorem nI {α:Type}{P:α->Bool}{l:List α}{i:Nat}{x:α} (hx:l[i]?=some x) (h:(l.take i).all P=true) (hp:P x=true):(l.take (i+1)).all P=true:=by rw[List.take_add_one,hx,amm,h];simp [hp]
theorem all_false {α:Type}{P:α->Bool}{l:List α}{i:Nat}{x:α} (hx:l[i]?=some x) (hp:P x=false):l.all P=false:=by rw[alP];intro h;rw[als]at h;rw[h x (List.mem_of_getElem? hx)]at hp;cases hp
theorem A9 (p:fU) (t:List Int) (fuel:Int) (hf:p.re.df=true) (hs:p.re.size<=1000000000) (ht:t.length<=1000000000) :
  aS prog 89 [bk p,.d (ar t),i64 fuel] (i64 (e9 p t fuel)):=by
 have h1:=qk p hf hs;unfold e9;cases p with
 |mk re aj aM =>
 simp only[bk,Re.ah re,ak8,ak9,ak5,ak6,i64,iD,bD,bV]at h1;simp only at *;generalize hv:cI ⟨re,aj,aM⟩=v at *;refine br func89 ntmps89 results89 0 975 ?_;simp only[zI,simprocAttr,bk,Re.ah re,bV,iD,bD];refine dk h1 ?_;simp only[zI,simprocAttr,bk,bV,iD,bD];by_cases c0:v=0
 case neg =>
  rw[be c0];simp only[zI,simprocAttr,bk,bV,iD,bD,c0]
 subst c0;rw[bm];by_cases c1:65536<t.length
 ·rw[be c1];have U0:(65536:Int)<t.length:=ae;simp only[zI,simprocAttr,bk,bV,iD,bD,gt_iff_lt,U0]
 rw[ap c1];have U0:¬(65536:Int)<t.length:=ae;cases aM
 ·simp only[zI,simprocAttr,bk,bV,iD,bD,gt_iff_lt,U0];refine ay (λn e s=>∃i:Nat,n=t.length-i/\i<=t.length/\e 1=.d (ar t)/\e 2=i64 fuel/\e 8=i64 (e8 false)/\e 9=i64 i/\(t.take i).all (eM false)=true)
   ⟨_,_,_,bO.refl,0,rfl,ae,rfl,rfl,rfl,rfl,aq⟩ ?_
  rintro n e s ⟨i,rfl,hi,h1,h2,h8,h9,bR⟩;rcases alw i t.length with aE|gE
  ·obtain⟨x,hx⟩:∃x,t[i]?=some x:=cb aE;have aH:(i:Int)<t.length:=ae;simp only[zI,simprocAttr,h1,h2,h8,h9,aH,ar,hx,iD];by_cases d1:x<0
   ·exact Zdf
   ·by_cases d2:e8 false<x
    ·simp only[zX,simprocAttr,d1,d2,gt_iff_lt,i64,h1,h2,h8,h9,aH,aE,ar,hx,iD];rw[be (all_false hx (by rw[eM,ce (by omega:¬x<=e8 false),Bool.and_false]))]
    ·exact ZaU
  ·exact ZaS
 ·simp only[zI,simprocAttr,bk,bV,iD,bD,gt_iff_lt,U0];refine ay (λn e s=>∃i:Nat,n=t.length-i/\i<=t.length/\e 1=.d (ar t)/\e 2=i64 fuel/\e 8=i64 (e8 true)/\e 9=i64 i/\(t.take i).all (eM true)=true)
   ⟨_,_,_,bO.refl,0,rfl,ae,rfl,rfl,rfl,rfl,aq⟩ ?_
  rintro n e s ⟨i,rfl,hi,h1,h2,h8,h9,bR⟩;rcases alw i t.length with aE|gE
  ·obtain⟨x,hx⟩:∃x,t[i]?=some x:=cb aE;have aH:(i:Int)<t.length:=ae;simp only[zI,simprocAttr,h1,h2,h8,h9,aH,ar,hx,iD];by_cases d1:x<0
   ·exact Zdf
   ·by_cases d2:e8 true<x
    ·simp only[zX,simprocAttr,d1,d2,gt_iff_lt,i64,h1,h2,h8,h9,aH,aE,ar,hx,iD];rw[be (all_false hx (by rw[eM,ce (by omega:¬x<=e8 true),Bool.and_false]))]
    ·exact ZaU
  ·exact ZaS
end Go.Proofs.YtjjfioalgbecmaaGreat
