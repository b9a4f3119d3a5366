/- A part of the proof (F8 F9 F10). -/
import Derived.Test.YtfmdmlfhigocaaaON21
set_option linter.unusedSimpArgs false
set_option linter.unusedVariables false
open Nat renaming reduceShiftRight → cQ, reduceMod → dx, reduceEqDiff → eI, reduceBEq → gj
set_option maxRecDepth 100000
set_option maxHeartbeats 80000000
namespace Go.Proofs.Ytfmdmlfhigocaaa
open Go.VL Go.Proofs.Try
variable{t:Mk->Re×Mk}
def dJ (d:Nat):Prop:=∀(m:Mk) (b:Int),0<=b->m.In b->b+cD d<=1000000000 ->
 aq prog 65 [b9,i64 d] [bR m] λv s=>v=fv (m.tree d).1/\s=[bR (m.tree d).2]
theorem zI{f:Nat}{i:Int}{m:Mk} (h:i<2+(m.next 2).1):bt t (f+1) i m=((t (m.next 2).2).1::(bt t f (i+1) (t (m.next 2).2).2).1,(bt t f (i+1) (t (m.next 2).2).2).2):=by rw[bt,be h]
theorem DF{f:Nat}{i:Int}{m:Mk} (h:¬i<2+(m.next 2).1):bt t (f+1) i m=([],(m.next 2).2):=by rw[bt,ap h]
def W2 (l:List Re):D:=.sl (l.map Re.cells)
theorem MO (d:Nat) (hd:d<=1000) (ht:dJ d) (m:Mk) (b:Int) (hb:0<=b) (hm:m.In b) (hs:b+4*(cD d+1)<=1000000000) :
  aq prog 89 [b9,i64 (d+1:Nat)] [bR m] λv s=>v=.d (W2 (bt (Mk.tree d) 4 0 m).1)/\s=[bR (bt (Mk.tree d) 4 0 m).2]:=by
 have hc:=bN d;have w1:IntKind.i64.wrap ((d+1:Nat)-1:Int)=(d:Int):=by rw[bd _ (by omega)];omega
 refine an func89 rfl ntmps89 results89 rfl 1 115 (by simp) (by simp) ?_;simp only[zW,simprocAttr,i64,b9];refine au (λn e s=>∃(i:Nat) (m':Mk) (l:List Re),n=4-i/\i<=3/\m'.In (b+i*(cD d+1))/\l.length=i/\e 0=.rf 0 0 0 0/\e 1=i64 (d+1:Nat)/\e 6=i64 i /\
   bt (Mk.tree d) 4 0 m=(l++(bt (Mk.tree d) (4-i) i m').1,(bt (Mk.tree d) (4-i) i m').2) /\
   ((i=0/\e 5=.fu []/\s=[bR m'])\/∃g,e 5=.so 1 g 0 i/\s=[bR m',⟨g,true,8,(l.map Re.cells).map λc=>c.map V.d⟩])) ⟨_,_,_,br.refl,0,m,[],rfl,by omega,by simpa using hm,rfl,rfl,rfl,rfl,by simp,.inl ⟨rfl,rfl,rfl⟩⟩ ?_
 rintro n e s ⟨i,m',l,rfl,hi,u5,hl,h0,h1,h6,hk,iE⟩;have hp:=cb m'.l m'.pos 2 (by omega);have w2:IntKind.i64.wrap (2+pick m'.l m'.pos 2)=2+pick m'.l m'.pos 2:=bd _ (by omega);have RN:(i:Int)*(cD d+1)+(cD d+1)<=4*(cD d+1):=by have:=agB (show (i:Int)+1<=4 by omega) (show (0:Int)<=cD d+1 by omega);rw[Int.add_mul,Int.one_mul]at this;exact this
 have acW:0<=(i:Int)*(cD d+1):=ahm (by omega) (by omega);have cY:0<=m'.pos/\m'.pos<=1000000000:=⟨u5.p0,by have:=u5.p1;omega⟩
 have hf:4-i=(3-i)+1:=by omega
 rw[hf]at hk;rcases iE with ⟨rfl,h5,rfl⟩|⟨g,h5,rfl⟩
 ·simp only[zW,simprocAttr,i64,h0,h1,h6,b9];refine aJ (bT m' u5.l cY 2 (by omega)) rfl rfl rfl rfl rfl rfl ?_;have az:(0:Int)<2+pick m'.l m'.pos 2:=by omega
  simp only[zW,simprocAttr,i64,h0,h1,h6,b9,Mk.next,w1,w2,az,agk];refine aJ (ht (m'.next 2).2 (b+1) (by omega) (by simpa using u5.next 2) (by omega)) rfl rfl rfl rfl rfl (bm _ _) ?_;simp only[zW,simprocAttr,i64,h0,h1,h5,h6,b9,Mk.next,w1,w2,az,agk];obtain⟨g1,g2⟩:=jw d (m'.next 2).2 (b+1) (by omega) (by simpa using u5.next 2);refine⟨λx hx=>by rw[List.mem_singleton.1 hx];simp [Re.bG],by simp,3,_,_,by omega,br.refl,1,((Mk.tree d) (m'.next 2).2).2,[((Mk.tree d) (m'.next 2).2).1],rfl,by omega,g1.mono (by simp;omega),rfl,?_,?_,?_,?_,.inr ⟨0,?_,?_⟩⟩
  ·simp only[zU,gj,cQ,dx,eI,reduceIte];exact h0
  ·simp only[zU,gj,cQ,dx,eI,reduceIte];exact h1
  ·simp only[zU,gj,cQ,dx,eI,reduceIte];rw[bd _ (by omega)];rfl
  ·rw[hk,zI (by simpa [Mk.next]using az)];have:l=[]:=ago hl;subst this;rfl
  ·simp only[zU,gj,cQ,dx,eI,reduceIte]
  ·rfl
 ·by_cases az:(i:Int)<2+pick m'.l m'.pos 2
  ·rw[zI (f:=3-i) (i:=i) (m:=m') (by simpa [Mk.next]using az)]at hk;obtain⟨g1,g2⟩:=jw d (m'.next 2).2 (b+i*(cD d+1)+1) (by omega) (u5.next 2);simp only[zW,simprocAttr,i64,h0,h1,h6,b9];refine aJ (bT m' u5.l cY 2 (by omega)) rfl rfl rfl rfl rfl rfl ?_;simp only[zW,simprocAttr,i64,h0,h1,h6,b9,Mk.next,w1,w2,az];refine aJ (ht (m'.next 2).2 (b+i*(cD d+1)+1) (by omega) (u5.next 2) (by omega)) rfl rfl rfl rfl rfl (bm _ _) ?_;simp only[zW,simprocAttr,i64,h0,h1,h5,h6,b9,Mk.next,w1,w2,az];refine⟨λx hx=>by rw[List.mem_singleton.1 hx];simp [Re.bG],⟨by omega,by omega⟩,4-(i+1),_,_,by omega,br.refl,i+1,((Mk.tree d) (m'.next 2).2).2,l++[((Mk.tree d) (m'.next 2).2).1],rfl,?_,g1.mono ?_,by simp [hl],?_,?_,?_,?_,.inr ⟨g+1,?_,?_⟩⟩
   ·omega
   ·rw[ag2,Int.add_mul];simp;omega
   ·simp only[zU,gj,cQ,dx,eI,reduceIte];exact h0
   ·simp only[zU,gj,cQ,dx,eI,reduceIte];exact h1
   ·simp only[zU,gj,cQ,dx,eI,reduceIte];rw[bd _ (by omega)];rfl
   ·rw[hk,show 4-(i+1)=3-i by omega];simp
   ·simp only[zU,gj,cQ,dx,eI,reduceIte]
   ·simp [hl,<- List.map_take,af1 (Nat.le_of_eq hl)];exact⟨rfl,rfl⟩
  ·rw[DF (f:=3-i) (i:=i) (m:=m') (by simpa [Mk.next]using az)]at hk;simp only[zW,simprocAttr,i64,h0,h1,h6,b9];refine aJ (bT m' u5.l cY 2 (by omega)) rfl rfl rfl rfl rfl rfl ?_;have hle:0+i<=l.length:=by omega
   have EC:((l.map Re.cells).map λc=>c.map V.d).take i=(l.map Re.cells).map λc=>c.map V.d:=af1 (by simp [hl]);simp only[zW,simprocAttr,i64,h0,h1,h5,h6,b9,Mk.next,w1,w2,az,hle,EC];rw[hk];exact⟨rfl,by simp [W2],rfl⟩
theorem Cr (d:Nat) (hd:d<=1000) (ht:dJ d) (m:Mk) (b:Int) (hb:0<=b) (hm:m.In b) (hs:b+(cD d+2)<=1000000000) :
  aq prog 91 [b9,i64 (d+1:Nat)] [bR m] λv s=>v=fv (m.iJ (Mk.tree d)).1/\s=[bR (m.iJ (Mk.tree d)).2]:=by
 have hc:=bN d;have c0:=hm.c0;have c1:=hm.c1;have w1:IntKind.i64.wrap ((d+1:Nat)-1:Int)=(d:Int):=by rw[bd _ (by omega)];omega
 have w2:IntKind.i64.wrap (m.ak+1)=m.ak+1:=bd _ (by omega);have cY:0<=m.pos/\m.pos<=1000000000:=⟨hm.p0,by have:=hm.p1;omega⟩
 obtain⟨g1,g2,g3,g4⟩:=zc hm;refine an func91 rfl ntmps91 results91 rfl 1 51 (by simp) (by simp) ?_;have Mq:∀m':Mk,m'.In (b+2)->m'.ak=m.ak->∀n:Int,1<=n->n<=4->(m'.kX (max m'.ak n)).In (b+2):=λm' h he n h1 h2=>⟨h.l,h.p0,h.p1,h.l0,h.l1,by show 0<=max _ _;omega,by show max _ _<=4;omega⟩
 by_cases h4:4<m.ak+1
 ·have hp:=cb m.l m.pos (max 1 m.ak) (by omega);have w3:IntKind.i64.wrap (1+pick m.l m.pos (max 1 m.ak))=1+pick m.l m.pos (max 1 m.ak):=bd _ (by omega);simp only[zW,simprocAttr,i64,b9,bR,w1,w2,h4];refine aJ (bT m hm.l cY (max 1 m.ak) (by omega)) rfl rfl rfl rfl rfl rfl ?_;simp only[zW,simprocAttr,i64,b9,bR,w1,w2,h4,Mk.next,w3];refine aJ (ht ((m.next (max 1 m.ak)).2.kX (max m.ak (1+pick m.l m.pos (max 1 m.ak)))) (b+2) (by omega) (Mq _ ((hm.next _).mono (by omega)) rfl _ (by omega) (by omega)) (by omega)) rfl rfl rfl rfl rfl (bm _ _) ?_;simp only[zW,simprocAttr,i64,b9,bR,w1,w2,h4,Mk.next,w3];have Vp:eG m=(1+pick m.l m.pos (max 1 m.ak),(m.next (max 1 m.ak)).2):=by simp [eG,h4,Mk.next]
  simp only[Mk.iJ,Vp];first|exact⟨rfl,rfl⟩|exact⟨rfl,trivial⟩
 by_cases h0:0<m.ak
 ·simp only[zW,simprocAttr,i64,b9,bR,w1,w2,h4,h0];refine aJ (bT m hm.l cY 9 (by omega)) rfl rfl rfl rfl rfl rfl ?_;by_cases h9:pick m.l m.pos 9=0
  ·have hp:=cb m.l (m.pos+1) (max 1 m.ak) (by omega);have w3:IntKind.i64.wrap (1+pick m.l (m.pos+1) (max 1 m.ak))=1+pick m.l (m.pos+1) (max 1 m.ak):=bd _ (by omega);simp only[zW,simprocAttr,i64,b9,bR,w1,w2,h4,Mk.next,h9];refine aJ (bT (m.next 9).2 hm.l (by have:=hm.p1;simp only[Mk.next];omega) (max 1 m.ak) (by omega)) rfl rfl rfl rfl rfl rfl ?_;simp only[zW,simprocAttr,i64,b9,bR,w1,w2,h4,Mk.next,w3];refine aJ (ht (((m.next 9).2.next (max 1 m.ak)).2.kX (max m.ak (1+pick m.l (m.pos+1) (max 1 m.ak)))) (b+2) (by omega) (Mq _ (((hm.next 9).next _).mono (by omega)) rfl _ (by omega) (by omega)) (by omega)) rfl rfl rfl rfl rfl (bm _ _) ?_;simp only[zW,simprocAttr,i64,b9,bR,w1,w2,h4,Mk.next,w3];have Vp:eG m=(1+pick m.l (m.pos+1) (max 1 m.ak),((m.next 9).2.next (max 1 m.ak)).2):=by simp [eG,h4,h0,h9,Mk.next]
   simp only[Mk.iJ,Vp];first|exact⟨rfl,rfl⟩|exact⟨rfl,trivial⟩
  ·simp only[zW,simprocAttr,i64,b9,bR,w1,w2,h4,Mk.next,h9];refine aJ (ht ((m.next 9).2.kX (max m.ak (m.ak+1))) (b+2) (by omega) (Mq _ ((hm.next 9).mono (by omega)) rfl _ (by omega) (by omega)) (by omega)) rfl rfl rfl rfl rfl (bm _ _) ?_;simp only[zW,simprocAttr,i64,b9,bR,w1,w2,h4,Mk.next];have Vp:eG m=(m.ak+1,(m.next 9).2):=by simp [eG,h4,h0,h9,Mk.next]
   simp only[Mk.iJ,Vp];first|exact⟨rfl,rfl⟩|exact⟨rfl,trivial⟩
 ·simp only[zW,simprocAttr,i64,b9,bR,w1,w2,h4,h0];refine aJ (ht (m.kX (max m.ak (m.ak+1))) (b+2) (by omega) (Mq _ (hm.mono (by omega)) rfl _ (by omega) (by omega)) (by omega)) rfl rfl rfl rfl rfl (bm _ _) ?_;simp only[zW,simprocAttr,i64,b9,bR,w1,w2,h4];have Vp:eG m=(m.ak+1,m):=by simp [eG,h4,h0]
  simp only[Mk.iJ,Vp];first|exact⟨rfl,rfl⟩|exact⟨rfl,trivial⟩
theorem V4 (d:Nat) (hd:d<=1000) (ht:dJ d) (m:Mk) (b:Int) (hb:0<=b) (hm:m.In b) (hs:b+(cD d+4)<=1000000000) (hz:zD d<=1000000000) :
  aq prog 90 [b9,i64 (d+1:Nat)] [bR m] λv s=>v=fv (m.rep (Mk.tree d)).1/\s=[bR (m.rep (Mk.tree d)).2]:=by
 have hc:=bN d;have w1:IntKind.i64.wrap ((d+1:Nat)-1:Int)=(d:Int):=by rw[bd _ (by omega)];omega
 have cY:0<=m.pos/\m.pos<=1000000000:=⟨hm.p0,by have:=hm.p1;omega⟩
 have hk:=cb m.l m.pos 12 (by omega);have cU:(pick m.l m.pos 12).toNat<12:=by omega
 have OW:([[D.sc (Value.int IntKind.i64 0)],[D.sc (Value.int IntKind.i64 0)],[D.sc (Value.int IntKind.i64 0)],[D.sc (Value.int IntKind.i64 0)],[D.sc (Value.int IntKind.i64 1)],[D.sc (Value.int IntKind.i64 1)],[D.sc (Value.int IntKind.i64 1)],[D.sc (Value.int IntKind.i64 0)],[D.sc (Value.int IntKind.i64 2)],[D.sc (Value.int IntKind.i64 0)],[D.sc (Value.int IntKind.i64 1)],[D.sc (Value.int IntKind.i64 2)]]:List (List D))[(pick m.l m.pos 12).toNat]?=some [D.sc (Value.int IntKind.i64 ((mo[(pick m.l m.pos 12).toNat]?).getD 0))]:=by rw[show ([[D.sc (Value.int IntKind.i64 0)],[D.sc (Value.int IntKind.i64 0)],[D.sc (Value.int IntKind.i64 0)],[D.sc (Value.int IntKind.i64 0)],[D.sc (Value.int IntKind.i64 1)],[D.sc (Value.int IntKind.i64 1)],[D.sc (Value.int IntKind.i64 1)],[D.sc (Value.int IntKind.i64 0)],[D.sc (Value.int IntKind.i64 2)],[D.sc (Value.int IntKind.i64 0)],[D.sc (Value.int IntKind.i64 1)],[D.sc (Value.int IntKind.i64 2)]]:List (List D))=mo.map (λx=>[D.sc (Value.int IntKind.i64 x)]) from rfl,afO,afP (show (pick m.l m.pos 12).toNat<mo.length from cU)];rfl
 have QN:([[D.sc (Value.int IntKind.i64 (-1))],[D.sc (Value.int IntKind.i64 (-1))],[D.sc (Value.int IntKind.i64 (-1))],[D.sc (Value.int IntKind.i64 1)],[D.sc (Value.int IntKind.i64 (-1))],[D.sc (Value.int IntKind.i64 (-1))],[D.sc (Value.int IntKind.i64 2)],[D.sc (Value.int IntKind.i64 2)],[D.sc (Value.int IntKind.i64 2)],[D.sc (Value.int IntKind.i64 3)],[D.sc (Value.int IntKind.i64 1)],[D.sc (Value.int IntKind.i64 (-1))]]:List (List D))[(pick m.l m.pos 12).toNat]?=some [D.sc (Value.int IntKind.i64 ((jZ[(pick m.l m.pos 12).toNat]?).getD 0))]:=by rw[show ([[D.sc (Value.int IntKind.i64 (-1))],[D.sc (Value.int IntKind.i64 (-1))],[D.sc (Value.int IntKind.i64 (-1))],[D.sc (Value.int IntKind.i64 1)],[D.sc (Value.int IntKind.i64 (-1))],[D.sc (Value.int IntKind.i64 (-1))],[D.sc (Value.int IntKind.i64 2)],[D.sc (Value.int IntKind.i64 2)],[D.sc (Value.int IntKind.i64 2)],[D.sc (Value.int IntKind.i64 3)],[D.sc (Value.int IntKind.i64 1)],[D.sc (Value.int IntKind.i64 (-1))]]:List (List D))=jZ.map (λx=>[D.sc (Value.int IntKind.i64 x)]) from rfl,afO,afP (show (pick m.l m.pos 12).toNat<jZ.length from cU)];rfl
 refine an func90 rfl ntmps90 results90 rfl 1 243 (by simp) (by simp) ?_;simp only[zW,simprocAttr,i64,b9,bR,w1];refine aJ (bT m hm.l cY 12 (by omega)) rfl rfl rfl rfl rfl rfl ?_;simp only[zW,simprocAttr,i64,b9,bR,w1,Mk.next];refine aS bO.bf ?_;refine ar mix [12] [(9,[0],[0]),(11,[2],[2])] (by rfl) ?_;simp only[zW,simprocAttr,i64,b9,bR,w1,Mk.next,OW,QN];refine⟨hk.1,by omega,hk.1,by omega,?_⟩;refine tz (bT (m.next 12).2 hm.l (by have:=hm.p1;simp only[Mk.next];omega) 2 (by omega)) rfl rfl rfl rfl rfl rfl ?_;by_cases h8:0<ew .and .i64 m.cu 8
 ·simp only[zW,simprocAttr,i64,b9,bR,w1,Mk.next,OW,QN,h8];refine aJ (bT ((m.next 12).2.next 2).2 hm.l (by have:=hm.p1;simp only[Mk.next];omega) 4 (by omega)) rfl rfl rfl rfl rfl rfl ?_;by_cases h4:pick m.l (m.pos+1+1) 4=0
  ·simp only[zW,simprocAttr,i64,b9,bR,w1,Mk.next,h4];obtain⟨g1,g2⟩:=jw d (((m.next 12).2.next 2).2.next 4).2 (b+3) (by omega) ((((hm.next 12).next 2).next 4).mono (by omega));refine aJ (ht (((m.next 12).2.next 2).2.next 4).2 (b+3) (by omega) ((((hm.next 12).next 2).next 4).mono (by omega)) (by omega)) rfl rfl rfl rfl rfl (bm _ _) ?_;have Vk:iH (m.next 12).2=(2,(((m.next 12).2.next 2).2.next 4).2):=by simp [iH,Mk.has,h8,Mk.next,h4]
   have hrep:m.rep (Mk.tree d)=(.mk 4 [] [(lC (Mk.tree d) (((m.next 12).2.next 2).2.next 4).2).1] ((mo[(pick m.l m.pos 12).toNat]?).getD 0) ((jZ[(pick m.l m.pos 12).toNat]?).getD 0) 2 0 false,(lC (Mk.tree d) (((m.next 12).2.next 2).2.next 4).2).2):=by simp only[Mk.rep,Vk];rfl
   have Vg:lC (Mk.tree d) (((m.next 12).2.next 2).2.next 4).2=if ew .and .i64 (Mk.tree d (((m.next 12).2.next 2).2.next 4).2).2.cu 32=0/\(Mk.tree d (((m.next 12).2.next 2).2.next 4).2).1.vl=true then (Mk.tree d (((m.next 12).2.next 2).2.next 4).2).2.set else Mk.tree d (((m.next 12).2.next 2).2.next 4).2:=rfl
   rw[hrep,Vg];generalize Mk.tree d (((m.next 12).2.next 2).2.next 4).2=R at *;by_cases CJ:ew .and .i64 R.2.cu 32=0
   ·simp only[zW,simprocAttr,i64,b9,bR,w1,Mk.next,CJ];refine aj (gJ R.1 (by omega)) (by simp [ah,ah.go,ai,i64,bV,aM]) (by simp [ah,ah.go,ai,i64,bV,aM]) ?_;cases hn:R.1.vl with
    |true =>
     simp only[zW,simprocAttr,i64,bV,b9,bR,w1,Mk.next,CJ,hn];refine aJ (jK R.2 g1.l ⟨g1.p0,by have:=g1.p1;omega⟩) rfl rfl rfl rfl rfl (bm _ _) ?_;simp only[zW,simprocAttr,i64,bV,b9,bR,w1,Mk.next,CJ,hn];all_goals first|exact⟨rfl,rfl⟩|exact⟨rfl,trivial⟩|rfl|trivial|(rw[ai];rfl)
    |false =>
     simp only[zW,simprocAttr,i64,bV,b9,bR,w1,Mk.next,CJ,hn];all_goals first|exact⟨rfl,rfl⟩|exact⟨rfl,trivial⟩|rfl|trivial|(rw[ai];rfl)
   ·simp only[zW,simprocAttr,i64,b9,bR,w1,Mk.next,CJ];all_goals first|exact⟨rfl,rfl⟩|exact⟨rfl,trivial⟩|rfl|trivial|(rw[ai];rfl)
  ·simp only[zW,simprocAttr,i64,b9,bR,w1,Mk.next,h4];obtain⟨g1,g2⟩:=jw d (((m.next 12).2.next 2).2.next 4).2 (b+3) (by omega) ((((hm.next 12).next 2).next 4).mono (by omega));refine aJ (ht (((m.next 12).2.next 2).2.next 4).2 (b+3) (by omega) ((((hm.next 12).next 2).next 4).mono (by omega)) (by omega)) rfl rfl rfl rfl rfl (bm _ _) ?_;have Vk:iH (m.next 12).2=((pick m.l (m.pos+1) 2),(((m.next 12).2.next 2).2.next 4).2):=by simp [iH,Mk.has,h8,Mk.next,h4]
   have hrep:m.rep (Mk.tree d)=(.mk 4 [] [(lC (Mk.tree d) (((m.next 12).2.next 2).2.next 4).2).1] ((mo[(pick m.l m.pos 12).toNat]?).getD 0) ((jZ[(pick m.l m.pos 12).toNat]?).getD 0) (pick m.l (m.pos+1) 2) 0 false,(lC (Mk.tree d) (((m.next 12).2.next 2).2.next 4).2).2):=by simp only[Mk.rep,Vk];rfl
   have Vg:lC (Mk.tree d) (((m.next 12).2.next 2).2.next 4).2=if ew .and .i64 (Mk.tree d (((m.next 12).2.next 2).2.next 4).2).2.cu 32=0/\(Mk.tree d (((m.next 12).2.next 2).2.next 4).2).1.vl=true then (Mk.tree d (((m.next 12).2.next 2).2.next 4).2).2.set else Mk.tree d (((m.next 12).2.next 2).2.next 4).2:=rfl
   rw[hrep,Vg];generalize Mk.tree d (((m.next 12).2.next 2).2.next 4).2=R at *;by_cases CJ:ew .and .i64 R.2.cu 32=0
   ·simp only[zW,simprocAttr,i64,b9,bR,w1,Mk.next,CJ];refine aj (gJ R.1 (by omega)) (by simp [ah,ah.go,ai,i64,bV,aM]) (by simp [ah,ah.go,ai,i64,bV,aM]) ?_;cases hn:R.1.vl with
    |true =>
     simp only[zW,simprocAttr,i64,bV,b9,bR,w1,Mk.next,CJ,hn];refine aJ (jK R.2 g1.l ⟨g1.p0,by have:=g1.p1;omega⟩) rfl rfl rfl rfl rfl (bm _ _) ?_;simp only[zW,simprocAttr,i64,bV,b9,bR,w1,Mk.next,CJ,hn];all_goals first|exact⟨rfl,rfl⟩|exact⟨rfl,trivial⟩|rfl|trivial|(rw[ai];rfl)
    |false =>
     simp only[zW,simprocAttr,i64,bV,b9,bR,w1,Mk.next,CJ,hn];all_goals first|exact⟨rfl,rfl⟩|exact⟨rfl,trivial⟩|rfl|trivial|(rw[ai];rfl)
   ·simp only[zW,simprocAttr,i64,b9,bR,w1,Mk.next,CJ];all_goals first|exact⟨rfl,rfl⟩|exact⟨rfl,trivial⟩|rfl|trivial|(rw[ai];rfl)
 ·simp only[zW,simprocAttr,i64,b9,bR,w1,Mk.next,OW,QN,h8];obtain⟨g1,g2⟩:=jw d ((m.next 12).2.next 2).2 (b+3) (by omega) (((hm.next 12).next 2).mono (by omega));refine aJ (ht ((m.next 12).2.next 2).2 (b+3) (by omega) (((hm.next 12).next 2).mono (by omega)) (by omega)) rfl rfl rfl rfl rfl (bm _ _) ?_;have Vk:iH (m.next 12).2=((pick m.l (m.pos+1) 2),((m.next 12).2.next 2).2):=by simp [iH,Mk.has,h8,Mk.next]
  have hrep:m.rep (Mk.tree d)=(.mk 4 [] [(lC (Mk.tree d) ((m.next 12).2.next 2).2).1] ((mo[(pick m.l m.pos 12).toNat]?).getD 0) ((jZ[(pick m.l m.pos 12).toNat]?).getD 0) (pick m.l (m.pos+1) 2) 0 false,(lC (Mk.tree d) ((m.next 12).2.next 2).2).2):=by simp only[Mk.rep,Vk];rfl
  have Vg:lC (Mk.tree d) ((m.next 12).2.next 2).2=if ew .and .i64 (Mk.tree d ((m.next 12).2.next 2).2).2.cu 32=0/\(Mk.tree d ((m.next 12).2.next 2).2).1.vl=true then (Mk.tree d ((m.next 12).2.next 2).2).2.set else Mk.tree d ((m.next 12).2.next 2).2:=rfl
  rw[hrep,Vg];generalize Mk.tree d ((m.next 12).2.next 2).2=R at *;by_cases CJ:ew .and .i64 R.2.cu 32=0
  ·simp only[zW,simprocAttr,i64,b9,bR,w1,Mk.next,CJ];refine aj (gJ R.1 (by omega)) (by simp [ah,ah.go,ai,i64,bV,aM]) (by simp [ah,ah.go,ai,i64,bV,aM]) ?_;cases hn:R.1.vl with
   |true =>
    simp only[zW,simprocAttr,i64,bV,b9,bR,w1,Mk.next,CJ,hn];refine aJ (jK R.2 g1.l ⟨g1.p0,by have:=g1.p1;omega⟩) rfl rfl rfl rfl rfl (bm _ _) ?_;simp only[zW,simprocAttr,i64,bV,b9,bR,w1,Mk.next,CJ,hn];all_goals first|exact⟨rfl,rfl⟩|exact⟨rfl,trivial⟩|rfl|trivial|(rw[ai];rfl)
   |false =>
    simp only[zW,simprocAttr,i64,bV,b9,bR,w1,Mk.next,CJ,hn];all_goals first|exact⟨rfl,rfl⟩|exact⟨rfl,trivial⟩|rfl|trivial|(rw[ai];rfl)
  ·simp only[zW,simprocAttr,i64,b9,bR,w1,Mk.next,CJ];all_goals first|exact⟨rfl,rfl⟩|exact⟨rfl,trivial⟩|rfl|trivial|(rw[ai];rfl)
end Go.Proofs.Ytfmdmlfhigocaaa
