/- A part of the proof (F8 F9 F10). -/
import Derived.Test.YtfmdmlfhigocaaaOF22
set_option linter.unusedSimpArgs false
set_option linter.unusedVariables false
set_option maxRecDepth 100000
set_option maxHeartbeats 80000000
set_option linter.unusedSimpArgs false
set_option linter.unusedVariables false
namespace Go.Proofs.Ytfmdmlfhigocaaa
open Go.VL Go.Proofs.Try
def dh (d:Nat):Prop:=∀(m:Mk) (b:Int),0<=b->m.In b->b+cD d<=1000000000 ->
 aq prog 65 [bX,i64 d] [bE m] fun v s=>v=jW (m.tree d).1/\s=[bE (m.tree d).2]
theorem wH {t:Mk->Re×Mk}{f:Nat}{i:Int}{m:Mk} (h:i<2+(m.next 2).1):aD t (f+1) i m=((t (m.next 2).2).1::(aD t f (i+1) (t (m.next 2).2).2).1,(aD t f (i+1) (t (m.next 2).2).2).2):=by
 rw[aD,if_pos h]
theorem z9 {t:Mk->Re×Mk}{f:Nat}{i:Int}{m:Mk} (h:¬i<2+(m.next 2).1):aD t (f+1) i m=([],(m.next 2).2):=by
 rw[aD,if_neg h]
def Ry (l:List Re):D:=.sl (l.map Re.cells)
theorem Im (d:Nat) (hd:d<=1000) (ht:dh d) (m:Mk) (b:Int) (hb:0<=b) (hm:m.In b) (hs:b+4*(cD d+1)<=1000000000) :
  aq prog 89 [bX,i64 (d+1:Nat)] [bE m] fun v s=>v=.d (Ry (aD (Mk.tree d) 4 0 m).1)/\s=[bE (aD (Mk.tree d) 4 0 m).2]:=by
 have hc:=bw d
 have w1:IntKind.i64.wrap ((d+1:Nat)-1:Int)=(d:Int):=by rw[br _ (by omega)];omega
 refine an func89 rfl ntmps89 results89 rfl 1 115 (by simp) (by simp) ?_
 simp only[zW,simprocAttr,i64,bX]
 refine ay (fun n e s=>∃(i:Nat) (m':Mk) (l:List Re),n=4-i/\i<=3/\m'.In (b+i*(cD d+1))/\l.length=i/\e 0=.rf 0 0 0 0/\e 1=i64 (d+1:Nat)/\e 6=i64 i /\
   aD (Mk.tree d) 4 0 m=(l++(aD (Mk.tree d) (4-i) i m').1,(aD (Mk.tree d) (4-i) i m').2) /\
   ((i=0/\e 5=.fu []/\s=[bE m'])\/∃g,e 5=.so 1 g 0 i/\s=[bE m',⟨g,true,8,(l.map Re.cells).map fun c=>c.map V.d⟩])) ⟨_,_,_,bI.refl,0,m,[],rfl,by omega,by simpa using hm,rfl,rfl,rfl,rfl,by simp,.inl ⟨rfl,rfl,rfl⟩⟩ ?_
 rintro n e s ⟨i,m',l,rfl,hi,ud,hl,h0,h1,h6,hk,mj⟩
 have hp:=bO m'.l m'.pos 2 (by omega)
 have w2:IntKind.i64.wrap (2+pick m'.l m'.pos 2)=2+pick m'.l m'.pos 2:=br _ (by omega)
 have MA:(i:Int)*(cD d+1)+(cD d+1)<=4*(cD d+1):=by
  have:=Int.mul_le_mul_of_nonneg_right (show (i:Int)+1<=4 by omega) (show (0:Int)<=cD d+1 by omega)
  rw[Int.add_mul,Int.one_mul]at this;exact this
 have Xr:0<=(i:Int)*(cD d+1):=Int.mul_nonneg (by omega) (by omega)
 have cG:0<=m'.pos/\m'.pos<=1000000000:=⟨ud.p0,by have:=ud.p1;omega⟩
 have hf:4-i=(3-i)+1:=by omega
 rw[hf]at hk
 rcases mj with ⟨rfl,h5,rfl⟩|⟨g,h5,rfl⟩
 ·simp only[zW,simprocAttr,i64,h0,h1,h6,bX]
  refine aC (bJ m' ud.l cG 2 (by omega)) rfl rfl rfl rfl rfl rfl ?_
  have az:(0:Int)<2+pick m'.l m'.pos 2:=by omega
  simp only[zW,simprocAttr,i64,h0,h1,h6,bX,Mk.next,w1,w2,az,Int.natCast_zero]
  refine aC (ht (m'.next 2).2 (b+1) (by omega) (by simpa using ud.next 2) (by omega)) rfl rfl rfl rfl rfl (bj _ _) ?_
  simp only[zW,simprocAttr,i64,h0,h1,h5,h6,bX,Mk.next,w1,w2,az,Int.natCast_zero]
  obtain⟨g1,g2⟩:=hZ d (m'.next 2).2 (b+1) (by omega) (by simpa using ud.next 2)
  refine⟨fun x hx=>by rw[List.mem_singleton.1 hx];simp [Re.jb],by simp,3,_,_,by omega,bI.refl,1,((Mk.tree d) (m'.next 2).2).2,[((Mk.tree d) (m'.next 2).2).1],rfl,by omega,g1.mono (by simp;omega),rfl,?_,?_,?_,?_,.inr ⟨0,?_,?_⟩⟩
  ·simp only[zU,Nat.reduceBEq,Nat.reduceShiftRight,Nat.reduceMod,Nat.reduceEqDiff,reduceIte];exact h0
  ·simp only[zU,Nat.reduceBEq,Nat.reduceShiftRight,Nat.reduceMod,Nat.reduceEqDiff,reduceIte];exact h1
  ·simp only[zU,Nat.reduceBEq,Nat.reduceShiftRight,Nat.reduceMod,Nat.reduceEqDiff,reduceIte];rw[br _ (by omega)];rfl
  ·rw[hk,wH (by simpa [Mk.next]using az)]
   have:l=[]:=List.eq_nil_of_length_eq_zero hl
   subst this
   rfl
  ·simp only[zU,Nat.reduceBEq,Nat.reduceShiftRight,Nat.reduceMod,Nat.reduceEqDiff,reduceIte]
  ·rfl
 ·by_cases az:(i:Int)<2+pick m'.l m'.pos 2
  ·rw[wH (f:=3-i) (i:=i) (m:=m') (by simpa [Mk.next]using az)]at hk
   obtain⟨g1,g2⟩:=hZ d (m'.next 2).2 (b+i*(cD d+1)+1) (by omega) (ud.next 2)
   simp only[zW,simprocAttr,i64,h0,h1,h6,bX]
   refine aC (bJ m' ud.l cG 2 (by omega)) rfl rfl rfl rfl rfl rfl ?_
   simp only[zW,simprocAttr,i64,h0,h1,h6,bX,Mk.next,w1,w2,az]
   refine aC (ht (m'.next 2).2 (b+i*(cD d+1)+1) (by omega) (ud.next 2) (by omega)) rfl rfl rfl rfl rfl (bj _ _) ?_
   simp only[zW,simprocAttr,i64,h0,h1,h5,h6,bX,Mk.next,w1,w2,az]
   refine⟨fun x hx=>by rw[List.mem_singleton.1 hx];simp [Re.jb],⟨by omega,by omega⟩,4-(i+1),_,_,by omega,bI.refl,i+1,((Mk.tree d) (m'.next 2).2).2,l++[((Mk.tree d) (m'.next 2).2).1],rfl,?_,g1.mono ?_,by simp [hl],?_,?_,?_,?_,.inr ⟨g+1,?_,?_⟩⟩
   ·omega
   ·rw[Int.natCast_add,Int.add_mul];simp;omega
   ·simp only[zU,Nat.reduceBEq,Nat.reduceShiftRight,Nat.reduceMod,Nat.reduceEqDiff,reduceIte];exact h0
   ·simp only[zU,Nat.reduceBEq,Nat.reduceShiftRight,Nat.reduceMod,Nat.reduceEqDiff,reduceIte];exact h1
   ·simp only[zU,Nat.reduceBEq,Nat.reduceShiftRight,Nat.reduceMod,Nat.reduceEqDiff,reduceIte];rw[br _ (by omega)];rfl
   ·rw[hk,show 4-(i+1)=3-i by omega];simp
   ·simp only[zU,Nat.reduceBEq,Nat.reduceShiftRight,Nat.reduceMod,Nat.reduceEqDiff,reduceIte]
   ·simp [hl,<- List.map_take,List.take_of_length_le (Nat.le_of_eq hl)];exact⟨rfl,rfl⟩
  ·rw[z9 (f:=3-i) (i:=i) (m:=m') (by simpa [Mk.next]using az)]at hk
   simp only[zW,simprocAttr,i64,h0,h1,h6,bX]
   refine aC (bJ m' ud.l cG 2 (by omega)) rfl rfl rfl rfl rfl rfl ?_
   have hle:0+i<=l.length:=by omega
   have GO:((l.map Re.cells).map fun c=>c.map V.d).take i=(l.map Re.cells).map fun c=>c.map V.d:=List.take_of_length_le (by simp [hl])
   simp only[zW,simprocAttr,i64,h0,h1,h5,h6,bX,Mk.next,w1,w2,az,hle,GO]
   rw[hk]
   exact⟨rfl,by simp [Ry],rfl⟩
theorem yV (d:Nat) (hd:d<=1000) (ht:dh d) (m:Mk) (b:Int) (hb:0<=b) (hm:m.In b) (hs:b+(cD d+2)<=1000000000) :
  aq prog 91 [bX,i64 (d+1:Nat)] [bE m] fun v s=>v=jW (m.fp (Mk.tree d)).1/\s=[bE (m.fp (Mk.tree d)).2]:=by
 have hc:=bw d
 have c0:=hm.c0
 have c1:=hm.c1
 have w1:IntKind.i64.wrap ((d+1:Nat)-1:Int)=(d:Int):=by rw[br _ (by omega)];omega
 have w2:IntKind.i64.wrap (m.ai+1)=m.ai+1:=br _ (by omega)
 have cG:0<=m.pos/\m.pos<=1000000000:=⟨hm.p0,by have:=hm.p1;omega⟩
 obtain⟨g1,g2,g3,g4⟩:=vW hm
 refine an func91 rfl ntmps91 results91 rfl 1 51 (by simp) (by simp) ?_
 have HY:∀m':Mk,m'.In (b+2)->m'.ai=m.ai->∀n:Int,1<=n->n<=4->(m'.iy (max m'.ai n)).In (b+2):=fun m' h he n h1 h2=>⟨h.l,h.p0,h.p1,h.l0,h.l1,by show 0<=max _ _;omega,by show max _ _<=4;omega⟩
 by_cases h4:4<m.ai+1
 ·have hp:=bO m.l m.pos (max 1 m.ai) (by omega)
  have w3:IntKind.i64.wrap (1+pick m.l m.pos (max 1 m.ai))=1+pick m.l m.pos (max 1 m.ai):=br _ (by omega)
  simp only[zW,simprocAttr,i64,bX,bE,w1,w2,h4]
  refine aC (bJ m hm.l cG (max 1 m.ai) (by omega)) rfl rfl rfl rfl rfl rfl ?_
  simp only[zW,simprocAttr,i64,bX,bE,w1,w2,h4,Mk.next,w3]
  refine aC (ht ((m.next (max 1 m.ai)).2.iy (max m.ai (1+pick m.l m.pos (max 1 m.ai)))) (b+2) (by omega) (HY _ ((hm.next _).mono (by omega)) rfl _ (by omega) (by omega)) (by omega)) rfl rfl rfl rfl rfl (bj _ _) ?_
  simp only[zW,simprocAttr,i64,bX,bE,w1,w2,h4,Mk.next,w3]
  have PX:cJ m=(1+pick m.l m.pos (max 1 m.ai),(m.next (max 1 m.ai)).2):=by simp [cJ,h4,Mk.next]
  simp only[Mk.fp,PX]
  first|exact⟨rfl,rfl⟩|exact⟨rfl,trivial⟩
 by_cases h0:0<m.ai
 ·simp only[zW,simprocAttr,i64,bX,bE,w1,w2,h4,h0]
  refine aC (bJ m hm.l cG 9 (by omega)) rfl rfl rfl rfl rfl rfl ?_
  by_cases h9:pick m.l m.pos 9=0
  ·have hp:=bO m.l (m.pos+1) (max 1 m.ai) (by omega)
   have w3:IntKind.i64.wrap (1+pick m.l (m.pos+1) (max 1 m.ai))=1+pick m.l (m.pos+1) (max 1 m.ai):=br _ (by omega)
   simp only[zW,simprocAttr,i64,bX,bE,w1,w2,h4,Mk.next,h9]
   refine aC (bJ (m.next 9).2 hm.l (by have:=hm.p1;simp only[Mk.next];omega) (max 1 m.ai) (by omega)) rfl rfl rfl rfl rfl rfl ?_
   simp only[zW,simprocAttr,i64,bX,bE,w1,w2,h4,Mk.next,w3]
   refine aC (ht (((m.next 9).2.next (max 1 m.ai)).2.iy (max m.ai (1+pick m.l (m.pos+1) (max 1 m.ai)))) (b+2) (by omega) (HY _ (((hm.next 9).next _).mono (by omega)) rfl _ (by omega) (by omega)) (by omega)) rfl rfl rfl rfl rfl (bj _ _) ?_
   simp only[zW,simprocAttr,i64,bX,bE,w1,w2,h4,Mk.next,w3]
   have PX:cJ m=(1+pick m.l (m.pos+1) (max 1 m.ai),((m.next 9).2.next (max 1 m.ai)).2):=by simp [cJ,h4,h0,h9,Mk.next]
   simp only[Mk.fp,PX]
   first|exact⟨rfl,rfl⟩|exact⟨rfl,trivial⟩
  ·simp only[zW,simprocAttr,i64,bX,bE,w1,w2,h4,Mk.next,h9]
   refine aC (ht ((m.next 9).2.iy (max m.ai (m.ai+1))) (b+2) (by omega) (HY _ ((hm.next 9).mono (by omega)) rfl _ (by omega) (by omega)) (by omega)) rfl rfl rfl rfl rfl (bj _ _) ?_
   simp only[zW,simprocAttr,i64,bX,bE,w1,w2,h4,Mk.next]
   have PX:cJ m=(m.ai+1,(m.next 9).2):=by simp [cJ,h4,h0,h9,Mk.next]
   simp only[Mk.fp,PX]
   first|exact⟨rfl,rfl⟩|exact⟨rfl,trivial⟩
 ·simp only[zW,simprocAttr,i64,bX,bE,w1,w2,h4,h0]
  refine aC (ht (m.iy (max m.ai (m.ai+1))) (b+2) (by omega) (HY _ (hm.mono (by omega)) rfl _ (by omega) (by omega)) (by omega)) rfl rfl rfl rfl rfl (bj _ _) ?_
  simp only[zW,simprocAttr,i64,bX,bE,w1,w2,h4]
  have PX:cJ m=(m.ai+1,m):=by simp [cJ,h4,h0]
  simp only[Mk.fp,PX]
  first|exact⟨rfl,rfl⟩|exact⟨rfl,trivial⟩
theorem QD (d:Nat) (hd:d<=1000) (ht:dh d) (m:Mk) (b:Int) (hb:0<=b) (hm:m.In b) (hs:b+(cD d+4)<=1000000000) (hz:zD d<=1000000000) :
  aq prog 90 [bX,i64 (d+1:Nat)] [bE m] fun v s=>v=jW (m.rep (Mk.tree d)).1/\s=[bE (m.rep (Mk.tree d)).2]:=by
 have hc:=bw d
 have w1:IntKind.i64.wrap ((d+1:Nat)-1:Int)=(d:Int):=by rw[br _ (by omega)];omega
 have cG:0<=m.pos/\m.pos<=1000000000:=⟨hm.p0,by have:=hm.p1;omega⟩
 have hk:=bO m.l m.pos 12 (by omega)
 have eN:(pick m.l m.pos 12).toNat<12:=by omega
 have J8:([[D.sc (Value.int IntKind.i64 0)],[D.sc (Value.int IntKind.i64 0)],[D.sc (Value.int IntKind.i64 0)],[D.sc (Value.int IntKind.i64 0)],[D.sc (Value.int IntKind.i64 1)],[D.sc (Value.int IntKind.i64 1)],[D.sc (Value.int IntKind.i64 1)],[D.sc (Value.int IntKind.i64 0)],[D.sc (Value.int IntKind.i64 2)],[D.sc (Value.int IntKind.i64 0)],[D.sc (Value.int IntKind.i64 1)],[D.sc (Value.int IntKind.i64 2)]]:List (List D))[(pick m.l m.pos 12).toNat]?=some [D.sc (Value.int IntKind.i64 ((ia[(pick m.l m.pos 12).toNat]?).getD 0))]:=by
  rw[show ([[D.sc (Value.int IntKind.i64 0)],[D.sc (Value.int IntKind.i64 0)],[D.sc (Value.int IntKind.i64 0)],[D.sc (Value.int IntKind.i64 0)],[D.sc (Value.int IntKind.i64 1)],[D.sc (Value.int IntKind.i64 1)],[D.sc (Value.int IntKind.i64 1)],[D.sc (Value.int IntKind.i64 0)],[D.sc (Value.int IntKind.i64 2)],[D.sc (Value.int IntKind.i64 0)],[D.sc (Value.int IntKind.i64 1)],[D.sc (Value.int IntKind.i64 2)]]:List (List D))=ia.map (fun x=>[D.sc (Value.int IntKind.i64 x)]) from rfl,List.getElem?_map,List.getElem?_eq_getElem (show (pick m.l m.pos 12).toNat<ia.length from eN)];rfl
 have LF:([[D.sc (Value.int IntKind.i64 (-1))],[D.sc (Value.int IntKind.i64 (-1))],[D.sc (Value.int IntKind.i64 (-1))],[D.sc (Value.int IntKind.i64 1)],[D.sc (Value.int IntKind.i64 (-1))],[D.sc (Value.int IntKind.i64 (-1))],[D.sc (Value.int IntKind.i64 2)],[D.sc (Value.int IntKind.i64 2)],[D.sc (Value.int IntKind.i64 2)],[D.sc (Value.int IntKind.i64 3)],[D.sc (Value.int IntKind.i64 1)],[D.sc (Value.int IntKind.i64 (-1))]]:List (List D))[(pick m.l m.pos 12).toNat]?=some [D.sc (Value.int IntKind.i64 ((fq[(pick m.l m.pos 12).toNat]?).getD 0))]:=by
  rw[show ([[D.sc (Value.int IntKind.i64 (-1))],[D.sc (Value.int IntKind.i64 (-1))],[D.sc (Value.int IntKind.i64 (-1))],[D.sc (Value.int IntKind.i64 1)],[D.sc (Value.int IntKind.i64 (-1))],[D.sc (Value.int IntKind.i64 (-1))],[D.sc (Value.int IntKind.i64 2)],[D.sc (Value.int IntKind.i64 2)],[D.sc (Value.int IntKind.i64 2)],[D.sc (Value.int IntKind.i64 3)],[D.sc (Value.int IntKind.i64 1)],[D.sc (Value.int IntKind.i64 (-1))]]:List (List D))=fq.map (fun x=>[D.sc (Value.int IntKind.i64 x)]) from rfl,List.getElem?_map,List.getElem?_eq_getElem (show (pick m.l m.pos 12).toNat<fq.length from eN)];rfl
 refine an func90 rfl ntmps90 results90 rfl 1 243 (by simp) (by simp) ?_
 simp only[zW,simprocAttr,i64,bX,bE,w1]
 refine aC (bJ m hm.l cG 12 (by omega)) rfl rfl rfl rfl rfl rfl ?_
 simp only[zW,simprocAttr,i64,bX,bE,w1,Mk.next]
 refine aT bZ.bk ?_
 refine ar mix [12] [(9,[0],[0]),(11,[2],[2])] (by rfl) ?_
 simp only[zW,simprocAttr,i64,bX,bE,w1,Mk.next,J8,LF]
 refine⟨hk.1,by omega,hk.1,by omega,?_⟩
 refine qx (bJ (m.next 12).2 hm.l (by have:=hm.p1;simp only[Mk.next];omega) 2 (by omega)) rfl rfl rfl rfl rfl rfl ?_
 by_cases h8:0<eb .and .i64 m.bu 8
 ·simp only[zW,simprocAttr,i64,bX,bE,w1,Mk.next,J8,LF,h8]
  refine aC (bJ ((m.next 12).2.next 2).2 hm.l (by have:=hm.p1;simp only[Mk.next];omega) 4 (by omega)) rfl rfl rfl rfl rfl rfl ?_
  by_cases h4:pick m.l (m.pos+1+1) 4=0
  ·simp only[zW,simprocAttr,i64,bX,bE,w1,Mk.next,h4]
   obtain⟨g1,g2⟩:=hZ d (((m.next 12).2.next 2).2.next 4).2 (b+3) (by omega) ((((hm.next 12).next 2).next 4).mono (by omega))
   refine aC (ht (((m.next 12).2.next 2).2.next 4).2 (b+3) (by omega) ((((hm.next 12).next 2).next 4).mono (by omega)) (by omega)) rfl rfl rfl rfl rfl (bj _ _) ?_
   have PS:cU (m.next 12).2=(2,(((m.next 12).2.next 2).2.next 4).2):=by simp [cU,Mk.has,h8,Mk.next,h4]
   have hrep:m.rep (Mk.tree d)=(.mk 4 [] [(fD (Mk.tree d) (((m.next 12).2.next 2).2.next 4).2).1] ((ia[(pick m.l m.pos 12).toNat]?).getD 0) ((fq[(pick m.l m.pos 12).toNat]?).getD 0) 2 0 false,(fD (Mk.tree d) (((m.next 12).2.next 2).2.next 4).2).2):=by simp only[Mk.rep,PS];rfl
   have PM:fD (Mk.tree d) (((m.next 12).2.next 2).2.next 4).2=if eb .and .i64 (Mk.tree d (((m.next 12).2.next 2).2.next 4).2).2.bu 32=0/\(Mk.tree d (((m.next 12).2.next 2).2.next 4).2).1.tT=true then (Mk.tree d (((m.next 12).2.next 2).2.next 4).2).2.set else Mk.tree d (((m.next 12).2.next 2).2.next 4).2:=rfl
   rw[hrep,PM]
   generalize Mk.tree d (((m.next 12).2.next 2).2.next 4).2=R at *
   by_cases ze:eb .and .i64 R.2.bu 32=0
   ·simp only[zW,simprocAttr,i64,bX,bE,w1,Mk.next,ze]
    refine al (l5 R.1 (by omega)) (by simp [ah,ah.go,aj,i64,bV,bm]) (by simp [ah,ah.go,aj,i64,bV,bm]) ?_
    cases hn:R.1.tT with
    |true =>
     simp only[zW,simprocAttr,i64,bV,bX,bE,w1,Mk.next,ze,hn]
     refine aC (iq R.2 g1.l ⟨g1.p0,by have:=g1.p1;omega⟩) rfl rfl rfl rfl rfl (bj _ _) ?_
     simp only[zW,simprocAttr,i64,bV,bX,bE,w1,Mk.next,ze,hn]
     all_goals first|exact⟨rfl,rfl⟩|exact⟨rfl,trivial⟩|rfl|trivial|(rw[aj];rfl)
    |false =>
     simp only[zW,simprocAttr,i64,bV,bX,bE,w1,Mk.next,ze,hn]
     all_goals first|exact⟨rfl,rfl⟩|exact⟨rfl,trivial⟩|rfl|trivial|(rw[aj];rfl)
   ·simp only[zW,simprocAttr,i64,bX,bE,w1,Mk.next,ze]
    all_goals first|exact⟨rfl,rfl⟩|exact⟨rfl,trivial⟩|rfl|trivial|(rw[aj];rfl)
  ·simp only[zW,simprocAttr,i64,bX,bE,w1,Mk.next,h4]
   obtain⟨g1,g2⟩:=hZ d (((m.next 12).2.next 2).2.next 4).2 (b+3) (by omega) ((((hm.next 12).next 2).next 4).mono (by omega))
   refine aC (ht (((m.next 12).2.next 2).2.next 4).2 (b+3) (by omega) ((((hm.next 12).next 2).next 4).mono (by omega)) (by omega)) rfl rfl rfl rfl rfl (bj _ _) ?_
   have PS:cU (m.next 12).2=((pick m.l (m.pos+1) 2),(((m.next 12).2.next 2).2.next 4).2):=by simp [cU,Mk.has,h8,Mk.next,h4]
   have hrep:m.rep (Mk.tree d)=(.mk 4 [] [(fD (Mk.tree d) (((m.next 12).2.next 2).2.next 4).2).1] ((ia[(pick m.l m.pos 12).toNat]?).getD 0) ((fq[(pick m.l m.pos 12).toNat]?).getD 0) (pick m.l (m.pos+1) 2) 0 false,(fD (Mk.tree d) (((m.next 12).2.next 2).2.next 4).2).2):=by simp only[Mk.rep,PS];rfl
   have PM:fD (Mk.tree d) (((m.next 12).2.next 2).2.next 4).2=if eb .and .i64 (Mk.tree d (((m.next 12).2.next 2).2.next 4).2).2.bu 32=0/\(Mk.tree d (((m.next 12).2.next 2).2.next 4).2).1.tT=true then (Mk.tree d (((m.next 12).2.next 2).2.next 4).2).2.set else Mk.tree d (((m.next 12).2.next 2).2.next 4).2:=rfl
   rw[hrep,PM]
   generalize Mk.tree d (((m.next 12).2.next 2).2.next 4).2=R at *
   by_cases ze:eb .and .i64 R.2.bu 32=0
   ·simp only[zW,simprocAttr,i64,bX,bE,w1,Mk.next,ze]
    refine al (l5 R.1 (by omega)) (by simp [ah,ah.go,aj,i64,bV,bm]) (by simp [ah,ah.go,aj,i64,bV,bm]) ?_
    cases hn:R.1.tT with
    |true =>
     simp only[zW,simprocAttr,i64,bV,bX,bE,w1,Mk.next,ze,hn]
     refine aC (iq R.2 g1.l ⟨g1.p0,by have:=g1.p1;omega⟩) rfl rfl rfl rfl rfl (bj _ _) ?_
     simp only[zW,simprocAttr,i64,bV,bX,bE,w1,Mk.next,ze,hn]
     all_goals first|exact⟨rfl,rfl⟩|exact⟨rfl,trivial⟩|rfl|trivial|(rw[aj];rfl)
    |false =>
     simp only[zW,simprocAttr,i64,bV,bX,bE,w1,Mk.next,ze,hn]
     all_goals first|exact⟨rfl,rfl⟩|exact⟨rfl,trivial⟩|rfl|trivial|(rw[aj];rfl)
   ·simp only[zW,simprocAttr,i64,bX,bE,w1,Mk.next,ze]
    all_goals first|exact⟨rfl,rfl⟩|exact⟨rfl,trivial⟩|rfl|trivial|(rw[aj];rfl)
 ·simp only[zW,simprocAttr,i64,bX,bE,w1,Mk.next,J8,LF,h8]
  obtain⟨g1,g2⟩:=hZ d ((m.next 12).2.next 2).2 (b+3) (by omega) (((hm.next 12).next 2).mono (by omega))
  refine aC (ht ((m.next 12).2.next 2).2 (b+3) (by omega) (((hm.next 12).next 2).mono (by omega)) (by omega)) rfl rfl rfl rfl rfl (bj _ _) ?_
  have PS:cU (m.next 12).2=((pick m.l (m.pos+1) 2),((m.next 12).2.next 2).2):=by simp [cU,Mk.has,h8,Mk.next]
  have hrep:m.rep (Mk.tree d)=(.mk 4 [] [(fD (Mk.tree d) ((m.next 12).2.next 2).2).1] ((ia[(pick m.l m.pos 12).toNat]?).getD 0) ((fq[(pick m.l m.pos 12).toNat]?).getD 0) (pick m.l (m.pos+1) 2) 0 false,(fD (Mk.tree d) ((m.next 12).2.next 2).2).2):=by simp only[Mk.rep,PS];rfl
  have PM:fD (Mk.tree d) ((m.next 12).2.next 2).2=if eb .and .i64 (Mk.tree d ((m.next 12).2.next 2).2).2.bu 32=0/\(Mk.tree d ((m.next 12).2.next 2).2).1.tT=true then (Mk.tree d ((m.next 12).2.next 2).2).2.set else Mk.tree d ((m.next 12).2.next 2).2:=rfl
  rw[hrep,PM]
  generalize Mk.tree d ((m.next 12).2.next 2).2=R at *
  by_cases ze:eb .and .i64 R.2.bu 32=0
  ·simp only[zW,simprocAttr,i64,bX,bE,w1,Mk.next,ze]
   refine al (l5 R.1 (by omega)) (by simp [ah,ah.go,aj,i64,bV,bm]) (by simp [ah,ah.go,aj,i64,bV,bm]) ?_
   cases hn:R.1.tT with
   |true =>
    simp only[zW,simprocAttr,i64,bV,bX,bE,w1,Mk.next,ze,hn]
    refine aC (iq R.2 g1.l ⟨g1.p0,by have:=g1.p1;omega⟩) rfl rfl rfl rfl rfl (bj _ _) ?_
    simp only[zW,simprocAttr,i64,bV,bX,bE,w1,Mk.next,ze,hn]
    all_goals first|exact⟨rfl,rfl⟩|exact⟨rfl,trivial⟩|rfl|trivial|(rw[aj];rfl)
   |false =>
    simp only[zW,simprocAttr,i64,bV,bX,bE,w1,Mk.next,ze,hn]
    all_goals first|exact⟨rfl,rfl⟩|exact⟨rfl,trivial⟩|rfl|trivial|(rw[aj];rfl)
  ·simp only[zW,simprocAttr,i64,bX,bE,w1,Mk.next,ze]
   all_goals first|exact⟨rfl,rfl⟩|exact⟨rfl,trivial⟩|rfl|trivial|(rw[aj];rfl)
end Go.Proofs.Ytfmdmlfhigocaaa
