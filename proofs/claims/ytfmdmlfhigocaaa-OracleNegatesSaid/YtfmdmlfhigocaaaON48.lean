/- A part of the proof (F112). -/
import Derived.Test.YtfmdmlfhigocaaaON20
import Derived.Test.YtfmdmlfhigocaaaON47
set_option linter.unusedSimpArgs false
set_option linter.unusedVariables false
open Nat renaming reduceShiftRight → cQ, reduceMod → dx, reduceEqDiff → eI, reduceBEq → gj
set_option maxRecDepth 100000
set_option maxHeartbeats 80000000
namespace Go.Proofs.Ytfmdmlfhigocaaa
open Go.VL Go.Proofs.Try
variable{e:List V}{re:Re}{h:Int}
def fC (re:Re) (p:List Int) (hs:List VL.Obj):Prop :=
 aq prog 42 [fv re] hs λv s=>v=.ag (ft 0 ((re.atR p).1.cells.map V.d) re p)/\s=jF ((re.atR p).1.cells.map V.d) 0 re p
theorem Eo (re:Re) (hf:re.bC=true):fC re [] []:=by have:=gQ re hf;unfold fC;rw[kd,oJ];exact this
def Ow (re:Re) (h:Int) (e:List V):List (List V):=(re.kids.map λx=>x.cells.map V.d).set h.toNat e
theorem xK (re:Re) (h:Int) (e:List V):(Ow re h e).length=re.kids.length:=by simp [Ow]
theorem qk {k:Re}{i:Nat} (hi:i≠h.toNat) (hk:re.kids[i]?=some k):(Ow re h e)[i]?=some (k.cells.map V.d):=by unfold Ow;rw[agp (Ne.symm hi),afO,hk];rfl
theorem r9 {k:Re} (hk:re.kids[h.toNat]?=some k):(Ow re h e)[h.toNat]?=some e:=by unfold Ow;exact agc (by rw[afN];exact(List.getElem?_eq_some_iff.1 hk).1)
theorem gX {k0:Re} (eL:re.kids[h.toNat]?=some k0) {Q:List V->Prop} (he:Q e) (hd:∀k:Re,Q (k.cells.map V.d)):∀x∈Ow re h e,Q x:=by
 intro x hx;rcases agU hx with hx|rfl
 ·obtain⟨k,_,rfl⟩:=List.mem_map.1 hx;exact hd k
 ·exact he
theorem nh {lim g sz i:Nat}{E:List (List V)}{c:List V} (hE:∀e∈E,e.all (ah lim)=true) (hc:c.all (ah lim)=true):aG lim ⟨g,true,sz,(E.take i).take i++[c]⟩=true:=by unfold aG;rw[ahf,agb];refine⟨List.all_eq_true.2 λe he=>hE e (agJ (agJ he)),?_⟩;simp [hc]
theorem E9 (re:Re) (hf:re.bC=true) (p:List Int) (hp:p.length=1) (ho:qm re p):fC re p [cy]:=by
 obtain⟨h,q,rfl⟩:∃h q,p=h::q:=by
  cases p with
  |nil=>simp at hp
  |cons h q=>exact⟨h,q,rfl⟩
 obtain⟨h0,k0,eL,ho⟩:=cd.1 ho;simp only[afZ,Nat.succ.injEq]at hp;obtain⟨ie,hlen,rQ⟩:=Re.cA hf;have wI:=afW eL;have Oz:=(List.getElem?_eq_some_iff.1 eL).1;obtain rfl:q=[]:=ago (by omega);have ih:=Eo k0 (rQ k0 wI);unfold fC at ih ⊢;rw[jd h0 eL,gN eL];have Fv:=fi ((k0.atR []).1.cells.map V.d) [] 0 k0 ho;have AG:=fE (ρ:=[]) (k0.atR []).1.cells [] 0 1 k0 (λj h1 h2=>by
  first
  |(exfalso;omega)
  |(exfalso;simp at h2;done)
  |(have:False:=by omega
    rcases this with h <;> rfl))
 have wL:=fG (ρ:=[]) (b:=0) (b':=1) (k0.atR []).1.cells k0 [] (λcB=>by first|rfl|exact(cB rfl).elim);have J7:=cc 1 0 (k0.atR []).1.cells k0 [] (λ_=>by omega);have hoo:=fD 1 (k0.atR []).1.cells [] 1 k0 (by first|omega|simp);have Aj:=fD 3 (k0.atR []).1.cells [] 1 k0 (by first|omega|simp);have Gx:=cc 1 1 (k0.atR []).1.cells k0 [] (λcB=>by first|omega|exact(cB rfl).elim);have yQ:=cc 3 1 (k0.atR []).1.cells k0 [] (λ_=>by omega);have Ig:=cc 5 1 (k0.atR []).1.cells k0 [] (λ_=>by omega);have Ii:(ft 1 ((k0.atR []).1.cells.map V.d) k0 []).length=8:=by
  rcases hq:[]with _|⟨a,b⟩
  ·simp [ft,Re.bG]
  ·rfl
 rw[afX];generalize hC:(k0.atR []).1.cells.map V.d=C at *;obtain⟨E,hE⟩:∃E,E=Ow re h (ft 1 C k0 []):=⟨_,rfl⟩
 rw[show (re.kids.map λx=>x.cells.map V.d).set h.toNat (ft 1 C k0 [])=E from hE.symm];have K7:E.length=re.kids.length:=by rw[hE];exact xK ..
 have SA:∀(i:Nat) (k:Re),i≠h.toNat->re.kids[i]?=some k->E[i]?=some (k.cells.map V.d):=λi k hi hk=>by rw[hE];exact qk hi hk
 have Tg:E[h.toNat]?=some (ft 1 C k0 []):=by rw[hE];exact r9 eL
 have YM:∀e∈E,e.length=8:=by rw[hE];exact gX (Q:=λe=>e.length=8) eL Ii λk=>by simp [Re.bG]
 have Lz:∀e∈E,e.all (ah 1)=true:=by rw[hE];exact gX (Q:=λe=>e.all (ah 1)=true) eL Gx λk=>dz _ _
 have yB:∀e∈E,e.all (ah 3)=true:=by rw[hE];exact gX (Q:=λe=>e.all (ah 3)=true) eL yQ λk=>dz _ _
 generalize jD:ft 1 C k0 []=C1 at *;generalize MF:ft 0 C k0 []=C0 at *;clear hE;generalize jF C 0 k0 []=O0 at *;generalize Xg:jF C 1 k0 []=O1 at *;obtain rfl:O1=[]:=by rw[<- Xg,oJ]
 refine an func42 rfl ntmps42 results42 rfl 1 57391 (by simp) (by simp) ?_;simp only[zW,simprocAttr,i64,ai re,iD,bD];refine aj (iv re.set ie) (by simp [ah,ah.go,ai,i64,bV,aM]) (by simp [ah,ah.go,ai,i64,bV,aM]) ?_;simp only[zW,simprocAttr,i64,iD,bD];refine au (λn e s=>∃i:Nat,n=re.kids.length-i/\i<=re.kids.length/\e 1=.rf 1 0 0 0/\e 2=.rf 2 0 0 0/\e 13=.d (.sl (re.kids.map Re.cells))/\e 14=i64 re.kids.length/\e 15=i64 i /\
   s=[⟨1+i,true,8,E.take i⟩,eS re (.so 0 (1+i) 0 i),iq])
  ⟨_,_,_,.DD (bO.rY (o:=cy) (pre:=[i64 re.op,.d (.sl (re.set.map aV))]) (post:=[i64 re.mn,i64 re.mx,i64 re.mode,i64 re.n,bV re.neg]) 0 1 8 (by decide) rfl rfl rfl rfl rfl),0,rfl,by omega,rfl,rfl,rfl,rfl,rfl,rfl⟩ ?_
 rintro n e s ⟨i,rfl,hi,h1,h2,fk,cP,fm,rfl⟩;rcases agi i re.kids.length with az|fI
 ·obtain⟨k,hk⟩:∃k,re.kids[i]?=some k:=⟨_,afP az⟩
  have hm:=afW hk;have wC:=rQ k hm;have hti:(E.take i).length=i:=by rw[agN];omega
  have JP:(E.take i).take i=E.take i:=by rw[List.take_take,Nat.min_self]
  have hEi:E[i]?=some (k.cells.map V.d):=by
   by_cases L4:i=h.toNat
   ·subst L4;rw[Tg,<- jD,<- hC];rw[eL]at hk;cases hk;rw[kd];rfl
   ·exact SA i k L4 hk
  simp only[zW,simprocAttr,h1,h2,fk,cP,fm,i64,bV,az,hk,eS,iq];refine ar mix [5,7] [] (by rfl) ?_;simp only[zW,simprocAttr,h1,h2,fk,cP,fm,i64,bV];refine bp (gQ k wC) (by simp [ah,ah.go,ai,i64,bV,aM]) (by simp [ah,ah.go,ai,i64,bV,aM]) ?_;simp only[zW,simprocAttr,h1,h2,fk,cP,fm,i64,bV];refine⟨λx hx=>by rw[List.mem_singleton.1 hx];simp [Re.bG],⟨by omega,by omega⟩,re.kids.length-(i+1),_,_,by omega,br.cut 3 (by omega) rfl ?_ [1,2,13,14,15] ?_,i+1,rfl,by omega,?_,?_,?_,?_,?_,?_⟩ <;> (try simp only[zU,gj,cQ,dx,eI,reduceIte])
  ·simp only[ags,agD,agq,agA,af5,agb];exact⟨nh yB (dz _ _),by simp [aG,ah],by simp [aG,ah]⟩
  ·simp [bz,aH,ah,h1,h2,fk,cP,i64]
  ·exact h1
  ·exact h2
  ·exact fk
  ·exact cP
  ·rw[bd _ (by omega)];rfl
  ·rw[JP,<- aR hEi];rfl
 ·have cV:i=re.kids.length:=by omega
  subst cV;have Tt:E.take re.kids.length=E:=af1 (by omega);rw[Tt];simp only[zW,simprocAttr,h1,h2,fk,cP,fm,i64,bV,agK,eS,iq];refine⟨by first|exact List.all_eq_true.2 Lz|(simp only[agb];exact List.all_eq_true.2 Lz),?_⟩;simp only[and_false,if_false];rw[Nat.add_comm 1];exact⟨rfl,rfl⟩
theorem E7 (re:Re) (hf:re.bC=true) (p:List Int) (hp:p.length=2) (ho:qm re p):fC re p [cy,cy]:=by
 obtain⟨h,q,rfl⟩:∃h q,p=h::q:=by
  cases p with
  |nil=>simp at hp
  |cons h q=>exact⟨h,q,rfl⟩
 obtain⟨h0,k0,eL,ho⟩:=cd.1 ho;simp only[afZ,Nat.succ.injEq]at hp;obtain⟨ie,hlen,rQ⟩:=Re.cA hf;have wI:=afW eL;have Oz:=(List.getElem?_eq_some_iff.1 eL).1;have ih:=E9 k0 (rQ k0 wI) q (by omega) ho;unfold fC at ih ⊢;rw[jd h0 eL,gN eL];have Fv:=fi ((k0.atR q).1.cells.map V.d) q 0 k0 ho;have AG:=fE (ρ:=[1]) (k0.atR q).1.cells q 0 1 k0 (λj h1 h2=>by
  first
  |(exfalso;omega)
  |(exfalso;simp at h2;done)
  |(have:False:=by omega
    rcases this with h <;> rfl))
 have wL:=fG (ρ:=[1]) (b:=0) (b':=1) (k0.atR q).1.cells k0 q (λcB=>by first|rfl|exact(cB rfl).elim);have J7:=cc 2 0 (k0.atR q).1.cells k0 q (λ_=>by omega);have hoo:=fD 2 (k0.atR q).1.cells q 1 k0 (by first|omega|simp);have Aj:=fD 4 (k0.atR q).1.cells q 1 k0 (by first|omega|simp);have Gx:=cc 2 1 (k0.atR q).1.cells k0 q (λcB=>by first|omega|exact(cB rfl).elim);have yQ:=cc 4 1 (k0.atR q).1.cells k0 q (λ_=>by omega);have Ig:=cc 6 1 (k0.atR q).1.cells k0 q (λ_=>by omega);have Ii:(ft 1 ((k0.atR q).1.cells.map V.d) k0 q).length=8:=by
  rcases hq:q with _|⟨a,b⟩
  ·simp [ft,Re.bG]
  ·rfl
 rw[afX];generalize hC:(k0.atR q).1.cells.map V.d=C at *;obtain⟨E,hE⟩:∃E,E=Ow re h (ft 1 C k0 q):=⟨_,rfl⟩
 rw[show (re.kids.map λx=>x.cells.map V.d).set h.toNat (ft 1 C k0 q)=E from hE.symm];have K7:E.length=re.kids.length:=by rw[hE];exact xK ..
 have SA:∀(i:Nat) (k:Re),i≠h.toNat->re.kids[i]?=some k->E[i]?=some (k.cells.map V.d):=λi k hi hk=>by rw[hE];exact qk hi hk
 have Tg:E[h.toNat]?=some (ft 1 C k0 q):=by rw[hE];exact r9 eL
 have YM:∀e∈E,e.length=8:=by rw[hE];exact gX (Q:=λe=>e.length=8) eL Ii λk=>by simp [Re.bG]
 have Lz:∀e∈E,e.all (ah 2)=true:=by rw[hE];exact gX (Q:=λe=>e.all (ah 2)=true) eL Gx λk=>dz _ _
 have yB:∀e∈E,e.all (ah 4)=true:=by rw[hE];exact gX (Q:=λe=>e.all (ah 4)=true) eL yQ λk=>dz _ _
 have rR:(ft 1 C k0 q).mapM GR=none:=by
  rcases hq:q with _|⟨a,b⟩
  ·rw[hq]at hp;simp at hp
  ·rfl
 generalize jD:ft 1 C k0 q=C1 at *;generalize MF:ft 0 C k0 q=C0 at *;clear hE;generalize jF C 0 k0 q=O0 at *;generalize Xg:jF C 1 k0 q=O1 at *;have vu:O1.length=1:=by rw[<- AG,afN];omega
 obtain⟨r1,rfl⟩:∃r1:VL.Obj,O1=[r1]:=by
  match O1,vu with
  |[r1],_=>exact⟨_,rfl⟩
 simp only[agq,agA,af5,agb]at hoo Aj;have sj:=hoo;have vF:=Aj;refine an func42 rfl ntmps42 results42 rfl 2 57391 (by simp) (by simp) ?_;simp only[zW,simprocAttr,i64,ai re,iD,bD];refine aj (iv re.set ie) (by simp [ah,ah.go,ai,i64,bV,aM]) (by simp [ah,ah.go,ai,i64,bV,aM]) ?_;simp only[zW,simprocAttr,i64,iD,bD];refine au (λn e s=>∃i:Nat,n=re.kids.length-i/\i<=re.kids.length/\e 1=.rf 2 0 0 0/\e 2=.rf 3 0 0 0/\e 13=.d (.sl (re.kids.map Re.cells))/\e 14=i64 re.kids.length/\e 15=i64 i /\
   ∃x1:VL.Obj,((i<=h.toNat/\x1=cy)\/(h.toNat<i/\x1=r1))/\s=[⟨1+i,true,8,E.take i⟩,x1,eS re (.so 0 (1+i) 0 i),iq])
  ⟨_,_,_,.DD (bO.rY (o:=cy) (pre:=[i64 re.op,.d (.sl (re.set.map aV))]) (post:=[i64 re.mn,i64 re.mx,i64 re.mode,i64 re.n,bV re.neg]) 0 2 8 (by decide) rfl rfl rfl rfl rfl),0,rfl,by omega,rfl,rfl,rfl,rfl,rfl,_,.inl ⟨ahn _,rfl⟩,rfl⟩ ?_
 rintro n e s ⟨i,rfl,hi,h1,h2,fk,cP,fm,x1,yq,rfl⟩;rcases agi i re.kids.length with az|fI
 ·obtain⟨k,hk⟩:∃k,re.kids[i]?=some k:=⟨_,afP az⟩
  have hm:=afW hk;have wC:=rQ k hm;have hti:(E.take i).length=i:=by rw[agN];omega
  have JP:(E.take i).take i=E.take i:=by rw[List.take_take,Nat.min_self]
  by_cases L4:i=h.toNat
  ·subst L4;rw[eL]at hk;cases hk;obtain⟨-,rfl⟩:h.toNat<=h.toNat/\x1=cy:=by
    rcases yq with h|h
    ·exact h
    ·exact absurd h.1 (agK _)
   simp only[zW,simprocAttr,h1,h2,fk,cP,fm,i64,bV,az,eL,eS,iq,cy];refine aS bO.bf ?_;refine ar mix [5,7] [(3,[1],[1]),(4,[5],[5])] (by rfl) ?_;simp only[zW,simprocAttr,h1,h2,fk,cP,fm,i64,bV];refine fq [1] ih (by decide) (by rw[Fv];simp;omega) rfl (by simp [bm]) (by simp [ah.go,nC]) rfl (show aL [1] (.ag C0)=.ag C1 by simp only[aL,wL]) ?_;rw[AG];simp only[aE,agf,agd];simp only[zW,simprocAttr,h1,h2,fk,cP,fm,i64,bV,MQ.eq_1];simp only[Ii,if_true,agS,rR,ahl,Option.bind_none,afZ,af0,afX,af3,ags,agD,true_and];refine⟨λe he x hx=>by rw[List.mem_singleton.1 he]at hx;exact List.all_eq_true.1 Ig x hx,?_⟩;refine⟨λx hx=>by rw[List.mem_singleton.1 hx];exact Ii,⟨by omega,by omega⟩,re.kids.length-(h.toNat+1),_,_,by omega,br.cut 4 (by omega) rfl ?_ [1,2,13,14,15] ?_,h.toNat+1,rfl,by omega,?_,?_,?_,?_,?_,_,.inr ⟨by omega,rfl⟩,?_⟩ <;> (try simp only[zU,gj,cQ,dx,eI,reduceIte])
   ·simp only[ags,agD,agq,agA,af5,agb];exact⟨nh yB yQ,vF,by simp [aG,ah],by simp [aG,ah]⟩
   ·simp [bz,aH,ah,h1,h2,fk,cP,i64]
   ·exact h1
   ·exact h2
   ·exact fk
   ·exact cP
   ·rw[bd _ (by omega)];rfl
   ·rw[JP,<- aR Tg];rfl
  ·have Vn:(i+1<=h.toNat/\x1=cy)\/(h.toNat<i+1/\x1=r1):=by
    rcases yq with ⟨ha,hb⟩|⟨ha,hb⟩
    ·exact .inl ⟨by omega,hb⟩
    ·exact .inr ⟨by omega,hb⟩
   simp only[zW,simprocAttr,h1,h2,fk,cP,fm,i64,bV,az,hk,eS,iq];refine ar mix [5,7] [] (by rfl) ?_;simp only[zW,simprocAttr,h1,h2,fk,cP,fm,i64,bV];refine bp (gQ k wC) (by simp [ah,ah.go,ai,i64,bV,aM]) (by simp [ah,ah.go,ai,i64,bV,aM]) ?_;simp only[zW,simprocAttr,h1,h2,fk,cP,fm,i64,bV];refine⟨λx hx=>by rw[List.mem_singleton.1 hx];simp [Re.bG],⟨by omega,by omega⟩,re.kids.length-(i+1),_,_,by omega,br.cut 4 (by omega) rfl ?_ [1,2,13,14,15] ?_,i+1,rfl,by omega,?_,?_,?_,?_,?_,x1,Vn,?_⟩ <;> (try simp only[zU,gj,cQ,dx,eI,reduceIte])
   ·simp only[ags,agD,agq,agA,af5,agb];exact⟨nh yB (dz _ _),by rcases yq with ⟨_,rfl⟩|⟨_,rfl⟩ <;> first|rfl|assumption,by simp [aG,ah],by simp [aG,ah]⟩
   ·simp [bz,aH,ah,h1,h2,fk,cP,i64]
   ·exact h1
   ·exact h2
   ·exact fk
   ·exact cP
   ·rw[bd _ (by omega)];rfl
   ·rw[JP,<- aR (SA i k L4 hk)];rfl
 ·have cV:i=re.kids.length:=by omega
  subst cV;have Tt:E.take re.kids.length=E:=af1 (by omega);rw[Tt];obtain⟨-,rfl⟩:h.toNat<re.kids.length/\x1=r1:=by
   rcases yq with h|h
   ·exact absurd Oz (by omega)
   ·exact h
  simp only[zW,simprocAttr,h1,h2,fk,cP,fm,i64,bV,agK,eS,iq];refine⟨by first|exact⟨List.all_eq_true.2 Lz,sj⟩|(simp only[agb];exact⟨List.all_eq_true.2 Lz,sj⟩),?_⟩;simp only[and_false,if_false];rw[Nat.add_comm 1];exact⟨rfl,rfl⟩
theorem Er (re:Re) (hf:re.bC=true) (p:List Int) (hp:p.length=3) (ho:qm re p):fC re p [cy,cy,cy]:=by
 obtain⟨h,q,rfl⟩:∃h q,p=h::q:=by
  cases p with
  |nil=>simp at hp
  |cons h q=>exact⟨h,q,rfl⟩
 obtain⟨h0,k0,eL,ho⟩:=cd.1 ho;simp only[afZ,Nat.succ.injEq]at hp;obtain⟨ie,hlen,rQ⟩:=Re.cA hf;have wI:=afW eL;have Oz:=(List.getElem?_eq_some_iff.1 eL).1;have ih:=E7 k0 (rQ k0 wI) q (by omega) ho;unfold fC at ih ⊢;rw[jd h0 eL,gN eL];have Fv:=fi ((k0.atR q).1.cells.map V.d) q 0 k0 ho;have AG:=fE (ρ:=[1,2]) (k0.atR q).1.cells q 0 1 k0 (λj h1 h2=>by
  first
  |(exfalso;omega)
  |(exfalso;simp at h2;done)
  |(have:j=1:=by omega
    rcases this with rfl <;> rfl))
 have wL:=fG (ρ:=[1,2]) (b:=0) (b':=1) (k0.atR q).1.cells k0 q (λcB=>by first|rfl|exact(cB rfl).elim);have J7:=cc 3 0 (k0.atR q).1.cells k0 q (λ_=>by omega);have hoo:=fD 3 (k0.atR q).1.cells q 1 k0 (by first|omega|simp);have Aj:=fD 5 (k0.atR q).1.cells q 1 k0 (by first|omega|simp);have Gx:=cc 3 1 (k0.atR q).1.cells k0 q (λcB=>by first|omega|exact(cB rfl).elim);have yQ:=cc 5 1 (k0.atR q).1.cells k0 q (λ_=>by omega);have Ig:=cc 7 1 (k0.atR q).1.cells k0 q (λ_=>by omega);have Ii:(ft 1 ((k0.atR q).1.cells.map V.d) k0 q).length=8:=by
  rcases hq:q with _|⟨a,b⟩
  ·simp [ft,Re.bG]
  ·rfl
 rw[afX];generalize hC:(k0.atR q).1.cells.map V.d=C at *;obtain⟨E,hE⟩:∃E,E=Ow re h (ft 1 C k0 q):=⟨_,rfl⟩
 rw[show (re.kids.map λx=>x.cells.map V.d).set h.toNat (ft 1 C k0 q)=E from hE.symm];have K7:E.length=re.kids.length:=by rw[hE];exact xK ..
 have SA:∀(i:Nat) (k:Re),i≠h.toNat->re.kids[i]?=some k->E[i]?=some (k.cells.map V.d):=λi k hi hk=>by rw[hE];exact qk hi hk
 have Tg:E[h.toNat]?=some (ft 1 C k0 q):=by rw[hE];exact r9 eL
 have YM:∀e∈E,e.length=8:=by rw[hE];exact gX (Q:=λe=>e.length=8) eL Ii λk=>by simp [Re.bG]
 have Lz:∀e∈E,e.all (ah 3)=true:=by rw[hE];exact gX (Q:=λe=>e.all (ah 3)=true) eL Gx λk=>dz _ _
 have yB:∀e∈E,e.all (ah 5)=true:=by rw[hE];exact gX (Q:=λe=>e.all (ah 5)=true) eL yQ λk=>dz _ _
 have rR:(ft 1 C k0 q).mapM GR=none:=by
  rcases hq:q with _|⟨a,b⟩
  ·rw[hq]at hp;simp at hp
  ·rfl
 generalize jD:ft 1 C k0 q=C1 at *;generalize MF:ft 0 C k0 q=C0 at *;clear hE;generalize jF C 0 k0 q=O0 at *;generalize Xg:jF C 1 k0 q=O1 at *;have vu:O1.length=2:=by rw[<- AG,afN];omega
 obtain⟨r1,r2,rfl⟩:∃r1 r2:VL.Obj,O1=[r1,r2]:=by
  match O1,vu with
  |[r1,r2],_=>exact⟨_,_,rfl⟩
 simp only[agq,agA,af5,agb]at hoo Aj;obtain⟨sj,zY⟩:=hoo;obtain⟨vF,BY⟩:=Aj;refine an func42 rfl ntmps42 results42 rfl 3 57391 (by simp) (by simp) ?_;simp only[zW,simprocAttr,i64,ai re,iD,bD];refine aj (iv re.set ie) (by simp [ah,ah.go,ai,i64,bV,aM]) (by simp [ah,ah.go,ai,i64,bV,aM]) ?_;simp only[zW,simprocAttr,i64,iD,bD];refine au (λn e s=>∃i:Nat,n=re.kids.length-i/\i<=re.kids.length/\e 1=.rf 3 0 0 0/\e 2=.rf 4 0 0 0/\e 13=.d (.sl (re.kids.map Re.cells))/\e 14=i64 re.kids.length/\e 15=i64 i /\
   ∃x1 x2:VL.Obj,((i<=h.toNat/\x1=cy/\x2=cy)\/(h.toNat<i/\x1=r1/\x2=r2))/\s=[⟨1+i,true,8,E.take i⟩,x1,x2,eS re (.so 0 (1+i) 0 i),iq])
  ⟨_,_,_,.DD (bO.rY (o:=cy) (pre:=[i64 re.op,.d (.sl (re.set.map aV))]) (post:=[i64 re.mn,i64 re.mx,i64 re.mode,i64 re.n,bV re.neg]) 0 3 8 (by decide) rfl rfl rfl rfl rfl),0,rfl,by omega,rfl,rfl,rfl,rfl,rfl,_,_,.inl ⟨ahn _,rfl,rfl⟩,rfl⟩ ?_
 rintro n e s ⟨i,rfl,hi,h1,h2,fk,cP,fm,x1,x2,yq,rfl⟩;rcases agi i re.kids.length with az|fI
 ·obtain⟨k,hk⟩:∃k,re.kids[i]?=some k:=⟨_,afP az⟩
  have hm:=afW hk;have wC:=rQ k hm;have hti:(E.take i).length=i:=by rw[agN];omega
  have JP:(E.take i).take i=E.take i:=by rw[List.take_take,Nat.min_self]
  by_cases L4:i=h.toNat
  ·subst L4;rw[eL]at hk;cases hk;obtain⟨-,rfl,rfl⟩:h.toNat<=h.toNat/\x1=cy/\x2=cy:=by
    rcases yq with h|h
    ·exact h
    ·exact absurd h.1 (agK _)
   simp only[zW,simprocAttr,h1,h2,fk,cP,fm,i64,bV,az,eL,eS,iq,cy];refine aS bO.bf ?_;refine ar mix [5,7] [(3,[1,2],[1,2]),(4,[6],[6])] (by rfl) ?_;simp only[zW,simprocAttr,h1,h2,fk,cP,fm,i64,bV];refine fq [1,2] ih (by decide) (by rw[Fv];simp;omega) rfl (by simp [bm]) (by simp [ah.go,nC]) rfl (show aL [1,2] (.ag C0)=.ag C1 by simp only[aL,wL]) ?_;rw[AG];simp only[aE,agf,agd];simp only[zW,simprocAttr,h1,h2,fk,cP,fm,i64,bV,MQ.eq_1];simp only[Ii,if_true,agS,rR,ahl,Option.bind_none,afZ,af0,afX,af3,ags,agD,true_and];refine⟨λe he x hx=>by rw[List.mem_singleton.1 he]at hx;exact List.all_eq_true.1 Ig x hx,?_⟩;refine⟨λx hx=>by rw[List.mem_singleton.1 hx];exact Ii,⟨by omega,by omega⟩,re.kids.length-(h.toNat+1),_,_,by omega,br.cut 5 (by omega) rfl ?_ [1,2,13,14,15] ?_,h.toNat+1,rfl,by omega,?_,?_,?_,?_,?_,_,_,.inr ⟨by omega,rfl,rfl⟩,?_⟩ <;> (try simp only[zU,gj,cQ,dx,eI,reduceIte])
   ·simp only[ags,agD,agq,agA,af5,agb];exact⟨nh yB yQ,vF,BY,by simp [aG,ah],by simp [aG,ah]⟩
   ·simp [bz,aH,ah,h1,h2,fk,cP,i64]
   ·exact h1
   ·exact h2
   ·exact fk
   ·exact cP
   ·rw[bd _ (by omega)];rfl
   ·rw[JP,<- aR Tg];rfl
  ·have Vn:(i+1<=h.toNat/\x1=cy/\x2=cy)\/(h.toNat<i+1/\x1=r1/\x2=r2):=by
    rcases yq with ⟨ha,hb⟩|⟨ha,hb⟩
    ·exact .inl ⟨by omega,hb⟩
    ·exact .inr ⟨by omega,hb⟩
   simp only[zW,simprocAttr,h1,h2,fk,cP,fm,i64,bV,az,hk,eS,iq];refine ar mix [5,7] [] (by rfl) ?_;simp only[zW,simprocAttr,h1,h2,fk,cP,fm,i64,bV];refine bp (gQ k wC) (by simp [ah,ah.go,ai,i64,bV,aM]) (by simp [ah,ah.go,ai,i64,bV,aM]) ?_;simp only[zW,simprocAttr,h1,h2,fk,cP,fm,i64,bV];refine⟨λx hx=>by rw[List.mem_singleton.1 hx];simp [Re.bG],⟨by omega,by omega⟩,re.kids.length-(i+1),_,_,by omega,br.cut 5 (by omega) rfl ?_ [1,2,13,14,15] ?_,i+1,rfl,by omega,?_,?_,?_,?_,?_,x1,x2,Vn,?_⟩ <;> (try simp only[zU,gj,cQ,dx,eI,reduceIte])
   ·simp only[ags,agD,agq,agA,af5,agb];exact⟨nh yB (dz _ _),by rcases yq with ⟨_,rfl,rfl⟩|⟨_,rfl,rfl⟩ <;> first|rfl|assumption,by rcases yq with ⟨_,rfl,rfl⟩|⟨_,rfl,rfl⟩ <;> first|rfl|assumption,by simp [aG,ah],by simp [aG,ah]⟩
   ·simp [bz,aH,ah,h1,h2,fk,cP,i64]
   ·exact h1
   ·exact h2
   ·exact fk
   ·exact cP
   ·rw[bd _ (by omega)];rfl
   ·rw[JP,<- aR (SA i k L4 hk)];rfl
 ·have cV:i=re.kids.length:=by omega
  subst cV;have Tt:E.take re.kids.length=E:=af1 (by omega);rw[Tt];obtain⟨-,rfl,rfl⟩:h.toNat<re.kids.length/\x1=r1/\x2=r2:=by
   rcases yq with h|h
   ·exact absurd Oz (by omega)
   ·exact h
  simp only[zW,simprocAttr,h1,h2,fk,cP,fm,i64,bV,agK,eS,iq];refine⟨by first|exact⟨List.all_eq_true.2 Lz,sj,zY⟩|(simp only[agb];exact⟨List.all_eq_true.2 Lz,sj,zY⟩),?_⟩;simp only[and_false,if_false];rw[Nat.add_comm 1];exact⟨rfl,rfl⟩
theorem Eh (re:Re) (hf:re.bC=true) (p:List Int) (hp:p.length=4) (ho:qm re p):fC re p [cy,cy,cy,cy]:=by
 obtain⟨h,q,rfl⟩:∃h q,p=h::q:=by
  cases p with
  |nil=>simp at hp
  |cons h q=>exact⟨h,q,rfl⟩
 obtain⟨h0,k0,eL,ho⟩:=cd.1 ho;simp only[afZ,Nat.succ.injEq]at hp;obtain⟨ie,hlen,rQ⟩:=Re.cA hf;have wI:=afW eL;have Oz:=(List.getElem?_eq_some_iff.1 eL).1;have ih:=Er k0 (rQ k0 wI) q (by omega) ho;unfold fC at ih ⊢;rw[jd h0 eL,gN eL];have Fv:=fi ((k0.atR q).1.cells.map V.d) q 0 k0 ho;have AG:=fE (ρ:=[1,2,3]) (k0.atR q).1.cells q 0 1 k0 (λj h1 h2=>by
  first
  |(exfalso;omega)
  |(exfalso;simp at h2;done)
  |(have:j=1\/j=2:=by omega
    rcases this with rfl|rfl <;> rfl))
 have wL:=fG (ρ:=[1,2,3]) (b:=0) (b':=1) (k0.atR q).1.cells k0 q (λcB=>by first|rfl|exact(cB rfl).elim);have J7:=cc 4 0 (k0.atR q).1.cells k0 q (λ_=>by omega);have hoo:=fD 4 (k0.atR q).1.cells q 1 k0 (by first|omega|simp);have Aj:=fD 6 (k0.atR q).1.cells q 1 k0 (by first|omega|simp);have Gx:=cc 4 1 (k0.atR q).1.cells k0 q (λcB=>by first|omega|exact(cB rfl).elim);have yQ:=cc 6 1 (k0.atR q).1.cells k0 q (λ_=>by omega);have Ig:=cc 8 1 (k0.atR q).1.cells k0 q (λ_=>by omega);have Ii:(ft 1 ((k0.atR q).1.cells.map V.d) k0 q).length=8:=by
  rcases hq:q with _|⟨a,b⟩
  ·simp [ft,Re.bG]
  ·rfl
 rw[afX];generalize hC:(k0.atR q).1.cells.map V.d=C at *;obtain⟨E,hE⟩:∃E,E=Ow re h (ft 1 C k0 q):=⟨_,rfl⟩
 rw[show (re.kids.map λx=>x.cells.map V.d).set h.toNat (ft 1 C k0 q)=E from hE.symm];have K7:E.length=re.kids.length:=by rw[hE];exact xK ..
 have SA:∀(i:Nat) (k:Re),i≠h.toNat->re.kids[i]?=some k->E[i]?=some (k.cells.map V.d):=λi k hi hk=>by rw[hE];exact qk hi hk
 have Tg:E[h.toNat]?=some (ft 1 C k0 q):=by rw[hE];exact r9 eL
 have YM:∀e∈E,e.length=8:=by rw[hE];exact gX (Q:=λe=>e.length=8) eL Ii λk=>by simp [Re.bG]
 have Lz:∀e∈E,e.all (ah 4)=true:=by rw[hE];exact gX (Q:=λe=>e.all (ah 4)=true) eL Gx λk=>dz _ _
 have yB:∀e∈E,e.all (ah 6)=true:=by rw[hE];exact gX (Q:=λe=>e.all (ah 6)=true) eL yQ λk=>dz _ _
 have rR:(ft 1 C k0 q).mapM GR=none:=by
  rcases hq:q with _|⟨a,b⟩
  ·rw[hq]at hp;simp at hp
  ·rfl
 generalize jD:ft 1 C k0 q=C1 at *;generalize MF:ft 0 C k0 q=C0 at *;clear hE;generalize jF C 0 k0 q=O0 at *;generalize Xg:jF C 1 k0 q=O1 at *;have vu:O1.length=3:=by rw[<- AG,afN];omega
 obtain⟨r1,r2,r3,rfl⟩:∃r1 r2 r3:VL.Obj,O1=[r1,r2,r3]:=by
  match O1,vu with
  |[r1,r2,r3],_=>exact⟨_,_,_,rfl⟩
 simp only[agq,agA,af5,agb]at hoo Aj;obtain⟨sj,zY,Hb⟩:=hoo;obtain⟨vF,BY,Ll⟩:=Aj;refine an func42 rfl ntmps42 results42 rfl 4 57391 (by simp) (by simp) ?_;simp only[zW,simprocAttr,i64,ai re,iD,bD];refine aj (iv re.set ie) (by simp [ah,ah.go,ai,i64,bV,aM]) (by simp [ah,ah.go,ai,i64,bV,aM]) ?_;simp only[zW,simprocAttr,i64,iD,bD];refine au (λn e s=>∃i:Nat,n=re.kids.length-i/\i<=re.kids.length/\e 1=.rf 4 0 0 0/\e 2=.rf 5 0 0 0/\e 13=.d (.sl (re.kids.map Re.cells))/\e 14=i64 re.kids.length/\e 15=i64 i /\
   ∃x1 x2 x3:VL.Obj,((i<=h.toNat/\x1=cy/\x2=cy/\x3=cy)\/(h.toNat<i/\x1=r1/\x2=r2/\x3=r3))/\s=[⟨1+i,true,8,E.take i⟩,x1,x2,x3,eS re (.so 0 (1+i) 0 i),iq])
  ⟨_,_,_,.DD (bO.rY (o:=cy) (pre:=[i64 re.op,.d (.sl (re.set.map aV))]) (post:=[i64 re.mn,i64 re.mx,i64 re.mode,i64 re.n,bV re.neg]) 0 4 8 (by decide) rfl rfl rfl rfl rfl),0,rfl,by omega,rfl,rfl,rfl,rfl,rfl,_,_,_,.inl ⟨ahn _,rfl,rfl,rfl⟩,rfl⟩ ?_
 rintro n e s ⟨i,rfl,hi,h1,h2,fk,cP,fm,x1,x2,x3,yq,rfl⟩;rcases agi i re.kids.length with az|fI
 ·obtain⟨k,hk⟩:∃k,re.kids[i]?=some k:=⟨_,afP az⟩
  have hm:=afW hk;have wC:=rQ k hm;have hti:(E.take i).length=i:=by rw[agN];omega
  have JP:(E.take i).take i=E.take i:=by rw[List.take_take,Nat.min_self]
  by_cases L4:i=h.toNat
  ·subst L4;rw[eL]at hk;cases hk;obtain⟨-,rfl,rfl,rfl⟩:h.toNat<=h.toNat/\x1=cy/\x2=cy/\x3=cy:=by
    rcases yq with h|h
    ·exact h
    ·exact absurd h.1 (agK _)
   simp only[zW,simprocAttr,h1,h2,fk,cP,fm,i64,bV,az,eL,eS,iq,cy];refine aS bO.bf ?_;refine ar mix [5,7] [(3,[1,2,3],[1,2,3]),(4,[7],[7])] (by rfl) ?_;simp only[zW,simprocAttr,h1,h2,fk,cP,fm,i64,bV];refine fq [1,2,3] ih (by decide) (by rw[Fv];simp;omega) rfl (by simp [bm]) (by simp [ah.go,nC]) rfl (show aL [1,2,3] (.ag C0)=.ag C1 by simp only[aL,wL]) ?_;rw[AG];simp only[aE,agf,agd];simp only[zW,simprocAttr,h1,h2,fk,cP,fm,i64,bV,MQ.eq_1];simp only[Ii,if_true,agS,rR,ahl,Option.bind_none,afZ,af0,afX,af3,ags,agD,true_and];refine⟨λe he x hx=>by rw[List.mem_singleton.1 he]at hx;exact List.all_eq_true.1 Ig x hx,?_⟩;refine⟨λx hx=>by rw[List.mem_singleton.1 hx];exact Ii,⟨by omega,by omega⟩,re.kids.length-(h.toNat+1),_,_,by omega,br.cut 6 (by omega) rfl ?_ [1,2,13,14,15] ?_,h.toNat+1,rfl,by omega,?_,?_,?_,?_,?_,_,_,_,.inr ⟨by omega,rfl,rfl,rfl⟩,?_⟩ <;> (try simp only[zU,gj,cQ,dx,eI,reduceIte])
   ·simp only[ags,agD,agq,agA,af5,agb];exact⟨nh yB yQ,vF,BY,Ll,by simp [aG,ah],by simp [aG,ah]⟩
   ·simp [bz,aH,ah,h1,h2,fk,cP,i64]
   ·exact h1
   ·exact h2
   ·exact fk
   ·exact cP
   ·rw[bd _ (by omega)];rfl
   ·rw[JP,<- aR Tg];rfl
  ·have Vn:(i+1<=h.toNat/\x1=cy/\x2=cy/\x3=cy)\/(h.toNat<i+1/\x1=r1/\x2=r2/\x3=r3):=by
    rcases yq with ⟨ha,hb⟩|⟨ha,hb⟩
    ·exact .inl ⟨by omega,hb⟩
    ·exact .inr ⟨by omega,hb⟩
   simp only[zW,simprocAttr,h1,h2,fk,cP,fm,i64,bV,az,hk,eS,iq];refine ar mix [5,7] [] (by rfl) ?_;simp only[zW,simprocAttr,h1,h2,fk,cP,fm,i64,bV];refine bp (gQ k wC) (by simp [ah,ah.go,ai,i64,bV,aM]) (by simp [ah,ah.go,ai,i64,bV,aM]) ?_;simp only[zW,simprocAttr,h1,h2,fk,cP,fm,i64,bV];refine⟨λx hx=>by rw[List.mem_singleton.1 hx];simp [Re.bG],⟨by omega,by omega⟩,re.kids.length-(i+1),_,_,by omega,br.cut 6 (by omega) rfl ?_ [1,2,13,14,15] ?_,i+1,rfl,by omega,?_,?_,?_,?_,?_,x1,x2,x3,Vn,?_⟩ <;> (try simp only[zU,gj,cQ,dx,eI,reduceIte])
   ·simp only[ags,agD,agq,agA,af5,agb];exact⟨nh yB (dz _ _),by rcases yq with ⟨_,rfl,rfl,rfl⟩|⟨_,rfl,rfl,rfl⟩ <;> first|rfl|assumption,by rcases yq with ⟨_,rfl,rfl,rfl⟩|⟨_,rfl,rfl,rfl⟩ <;> first|rfl|assumption,by rcases yq with ⟨_,rfl,rfl,rfl⟩|⟨_,rfl,rfl,rfl⟩ <;> first|rfl|assumption,by simp [aG,ah],by simp [aG,ah]⟩
   ·simp [bz,aH,ah,h1,h2,fk,cP,i64]
   ·exact h1
   ·exact h2
   ·exact fk
   ·exact cP
   ·rw[bd _ (by omega)];rfl
   ·rw[JP,<- aR (SA i k L4 hk)];rfl
 ·have cV:i=re.kids.length:=by omega
  subst cV;have Tt:E.take re.kids.length=E:=af1 (by omega);rw[Tt];obtain⟨-,rfl,rfl,rfl⟩:h.toNat<re.kids.length/\x1=r1/\x2=r2/\x3=r3:=by
   rcases yq with h|h
   ·exact absurd Oz (by omega)
   ·exact h
  simp only[zW,simprocAttr,h1,h2,fk,cP,fm,i64,bV,agK,eS,iq];refine⟨by first|exact⟨List.all_eq_true.2 Lz,sj,zY,Hb⟩|(simp only[agb];exact⟨List.all_eq_true.2 Lz,sj,zY,Hb⟩),?_⟩;simp only[and_false,if_false];rw[Nat.add_comm 1];exact⟨rfl,rfl⟩
theorem Ns (re:Re) (hf:re.bC=true) (p:List Int) (hp:p.length=5) (ho:qm re p):fC re p [cy,cy,cy,cy,cy]:=by
 obtain⟨h,q,rfl⟩:∃h q,p=h::q:=by
  cases p with
  |nil=>simp at hp
  |cons h q=>exact⟨h,q,rfl⟩
 obtain⟨h0,k0,eL,ho⟩:=cd.1 ho;simp only[afZ,Nat.succ.injEq]at hp;obtain⟨ie,hlen,rQ⟩:=Re.cA hf;have wI:=afW eL;have Oz:=(List.getElem?_eq_some_iff.1 eL).1;have ih:=Eh k0 (rQ k0 wI) q (by omega) ho;unfold fC at ih ⊢;rw[jd h0 eL,gN eL];have Fv:=fi ((k0.atR q).1.cells.map V.d) q 0 k0 ho;have AG:=fE (ρ:=[1,2,3,4]) (k0.atR q).1.cells q 0 1 k0 (λj h1 h2=>by
  first
  |(exfalso;omega)
  |(exfalso;simp at h2;done)
  |(have:j=1\/j=2\/j=3:=by omega
    rcases this with rfl|rfl|rfl <;> rfl))
 have wL:=fG (ρ:=[1,2,3,4]) (b:=0) (b':=1) (k0.atR q).1.cells k0 q (λcB=>by first|rfl|exact(cB rfl).elim);have J7:=cc 5 0 (k0.atR q).1.cells k0 q (λ_=>by omega);have hoo:=fD 5 (k0.atR q).1.cells q 1 k0 (by first|omega|simp);have Aj:=fD 7 (k0.atR q).1.cells q 1 k0 (by first|omega|simp);have Gx:=cc 5 1 (k0.atR q).1.cells k0 q (λcB=>by first|omega|exact(cB rfl).elim);have yQ:=cc 7 1 (k0.atR q).1.cells k0 q (λ_=>by omega);have Ig:=cc 9 1 (k0.atR q).1.cells k0 q (λ_=>by omega);have Ii:(ft 1 ((k0.atR q).1.cells.map V.d) k0 q).length=8:=by
  rcases hq:q with _|⟨a,b⟩
  ·simp [ft,Re.bG]
  ·rfl
 rw[afX];generalize hC:(k0.atR q).1.cells.map V.d=C at *;obtain⟨E,hE⟩:∃E,E=Ow re h (ft 1 C k0 q):=⟨_,rfl⟩
 rw[show (re.kids.map λx=>x.cells.map V.d).set h.toNat (ft 1 C k0 q)=E from hE.symm];have K7:E.length=re.kids.length:=by rw[hE];exact xK ..
 have SA:∀(i:Nat) (k:Re),i≠h.toNat->re.kids[i]?=some k->E[i]?=some (k.cells.map V.d):=λi k hi hk=>by rw[hE];exact qk hi hk
 have Tg:E[h.toNat]?=some (ft 1 C k0 q):=by rw[hE];exact r9 eL
 have YM:∀e∈E,e.length=8:=by rw[hE];exact gX (Q:=λe=>e.length=8) eL Ii λk=>by simp [Re.bG]
 have Lz:∀e∈E,e.all (ah 5)=true:=by rw[hE];exact gX (Q:=λe=>e.all (ah 5)=true) eL Gx λk=>dz _ _
 have yB:∀e∈E,e.all (ah 7)=true:=by rw[hE];exact gX (Q:=λe=>e.all (ah 7)=true) eL yQ λk=>dz _ _
 have rR:(ft 1 C k0 q).mapM GR=none:=by
  rcases hq:q with _|⟨a,b⟩
  ·rw[hq]at hp;simp at hp
  ·rfl
 generalize jD:ft 1 C k0 q=C1 at *;generalize MF:ft 0 C k0 q=C0 at *;clear hE;generalize jF C 0 k0 q=O0 at *;generalize Xg:jF C 1 k0 q=O1 at *;have vu:O1.length=4:=by rw[<- AG,afN];omega
 obtain⟨r1,r2,r3,r4,rfl⟩:∃r1 r2 r3 r4:VL.Obj,O1=[r1,r2,r3,r4]:=by
  match O1,vu with
  |[r1,r2,r3,r4],_=>exact⟨_,_,_,_,rfl⟩
 simp only[agq,agA,af5,agb]at hoo Aj;obtain⟨sj,zY,Hb,TK⟩:=hoo;obtain⟨vF,BY,Ll,U9⟩:=Aj;refine an func42 rfl ntmps42 results42 rfl 5 57391 (by simp) (by simp) ?_;simp only[zW,simprocAttr,i64,ai re,iD,bD];refine aj (iv re.set ie) (by simp [ah,ah.go,ai,i64,bV,aM]) (by simp [ah,ah.go,ai,i64,bV,aM]) ?_;simp only[zW,simprocAttr,i64,iD,bD];refine au (λn e s=>∃i:Nat,n=re.kids.length-i/\i<=re.kids.length/\e 1=.rf 5 0 0 0/\e 2=.rf 6 0 0 0/\e 13=.d (.sl (re.kids.map Re.cells))/\e 14=i64 re.kids.length/\e 15=i64 i /\
   ∃x1 x2 x3 x4:VL.Obj,((i<=h.toNat/\x1=cy/\x2=cy/\x3=cy/\x4=cy)\/(h.toNat<i/\x1=r1/\x2=r2/\x3=r3/\x4=r4))/\s=[⟨1+i,true,8,E.take i⟩,x1,x2,x3,x4,eS re (.so 0 (1+i) 0 i),iq])
  ⟨_,_,_,.DD (bO.rY (o:=cy) (pre:=[i64 re.op,.d (.sl (re.set.map aV))]) (post:=[i64 re.mn,i64 re.mx,i64 re.mode,i64 re.n,bV re.neg]) 0 5 8 (by decide) rfl rfl rfl rfl rfl),0,rfl,by omega,rfl,rfl,rfl,rfl,rfl,_,_,_,_,.inl ⟨ahn _,rfl,rfl,rfl,rfl⟩,rfl⟩ ?_
 rintro n e s ⟨i,rfl,hi,h1,h2,fk,cP,fm,x1,x2,x3,x4,yq,rfl⟩;rcases agi i re.kids.length with az|fI
 ·obtain⟨k,hk⟩:∃k,re.kids[i]?=some k:=⟨_,afP az⟩
  have hm:=afW hk;have wC:=rQ k hm;have hti:(E.take i).length=i:=by rw[agN];omega
  have JP:(E.take i).take i=E.take i:=by rw[List.take_take,Nat.min_self]
  by_cases L4:i=h.toNat
  ·subst L4;rw[eL]at hk;cases hk;obtain⟨-,rfl,rfl,rfl,rfl⟩:h.toNat<=h.toNat/\x1=cy/\x2=cy/\x3=cy/\x4=cy:=by
    rcases yq with h|h
    ·exact h
    ·exact absurd h.1 (agK _)
   simp only[zW,simprocAttr,h1,h2,fk,cP,fm,i64,bV,az,eL,eS,iq,cy];refine aS bO.bf ?_;refine ar mix [5,7] [(3,[1,2,3,4],[1,2,3,4]),(4,[8],[8])] (by rfl) ?_;simp only[zW,simprocAttr,h1,h2,fk,cP,fm,i64,bV];refine fq [1,2,3,4] ih (by decide) (by rw[Fv];simp;omega) rfl (by simp [bm]) (by simp [ah.go,nC]) rfl (show aL [1,2,3,4] (.ag C0)=.ag C1 by simp only[aL,wL]) ?_;rw[AG];simp only[aE,agf,agd];simp only[zW,simprocAttr,h1,h2,fk,cP,fm,i64,bV,MQ.eq_1];simp only[Ii,if_true,agS,rR,ahl,Option.bind_none,afZ,af0,afX,af3,ags,agD,true_and];refine⟨λe he x hx=>by rw[List.mem_singleton.1 he]at hx;exact List.all_eq_true.1 Ig x hx,?_⟩;refine⟨λx hx=>by rw[List.mem_singleton.1 hx];exact Ii,⟨by omega,by omega⟩,re.kids.length-(h.toNat+1),_,_,by omega,br.cut 7 (by omega) rfl ?_ [1,2,13,14,15] ?_,h.toNat+1,rfl,by omega,?_,?_,?_,?_,?_,_,_,_,_,.inr ⟨by omega,rfl,rfl,rfl,rfl⟩,?_⟩ <;> (try simp only[zU,gj,cQ,dx,eI,reduceIte])
   ·simp only[ags,agD,agq,agA,af5,agb];exact⟨nh yB yQ,vF,BY,Ll,U9,by simp [aG,ah],by simp [aG,ah]⟩
   ·simp [bz,aH,ah,h1,h2,fk,cP,i64]
   ·exact h1
   ·exact h2
   ·exact fk
   ·exact cP
   ·rw[bd _ (by omega)];rfl
   ·rw[JP,<- aR Tg];rfl
  ·have Vn:(i+1<=h.toNat/\x1=cy/\x2=cy/\x3=cy/\x4=cy)\/(h.toNat<i+1/\x1=r1/\x2=r2/\x3=r3/\x4=r4):=by
    rcases yq with ⟨ha,hb⟩|⟨ha,hb⟩
    ·exact .inl ⟨by omega,hb⟩
    ·exact .inr ⟨by omega,hb⟩
   simp only[zW,simprocAttr,h1,h2,fk,cP,fm,i64,bV,az,hk,eS,iq];refine ar mix [5,7] [] (by rfl) ?_;simp only[zW,simprocAttr,h1,h2,fk,cP,fm,i64,bV];refine bp (gQ k wC) (by simp [ah,ah.go,ai,i64,bV,aM]) (by simp [ah,ah.go,ai,i64,bV,aM]) ?_;simp only[zW,simprocAttr,h1,h2,fk,cP,fm,i64,bV];refine⟨λx hx=>by rw[List.mem_singleton.1 hx];simp [Re.bG],⟨by omega,by omega⟩,re.kids.length-(i+1),_,_,by omega,br.cut 7 (by omega) rfl ?_ [1,2,13,14,15] ?_,i+1,rfl,by omega,?_,?_,?_,?_,?_,x1,x2,x3,x4,Vn,?_⟩ <;> (try simp only[zU,gj,cQ,dx,eI,reduceIte])
   ·simp only[ags,agD,agq,agA,af5,agb];exact⟨nh yB (dz _ _),by rcases yq with ⟨_,rfl,rfl,rfl,rfl⟩|⟨_,rfl,rfl,rfl,rfl⟩ <;> first|rfl|assumption,by rcases yq with ⟨_,rfl,rfl,rfl,rfl⟩|⟨_,rfl,rfl,rfl,rfl⟩ <;> first|rfl|assumption,by rcases yq with ⟨_,rfl,rfl,rfl,rfl⟩|⟨_,rfl,rfl,rfl,rfl⟩ <;> first|rfl|assumption,by rcases yq with ⟨_,rfl,rfl,rfl,rfl⟩|⟨_,rfl,rfl,rfl,rfl⟩ <;> first|rfl|assumption,by simp [aG,ah],by simp [aG,ah]⟩
   ·simp [bz,aH,ah,h1,h2,fk,cP,i64]
   ·exact h1
   ·exact h2
   ·exact fk
   ·exact cP
   ·rw[bd _ (by omega)];rfl
   ·rw[JP,<- aR (SA i k L4 hk)];rfl
 ·have cV:i=re.kids.length:=by omega
  subst cV;have Tt:E.take re.kids.length=E:=af1 (by omega);rw[Tt];obtain⟨-,rfl,rfl,rfl,rfl⟩:h.toNat<re.kids.length/\x1=r1/\x2=r2/\x3=r3/\x4=r4:=by
   rcases yq with h|h
   ·exact absurd Oz (by omega)
   ·exact h
  simp only[zW,simprocAttr,h1,h2,fk,cP,fm,i64,bV,agK,eS,iq];refine⟨by first|exact⟨List.all_eq_true.2 Lz,sj,zY,Hb,TK⟩|(simp only[agb];exact⟨List.all_eq_true.2 Lz,sj,zY,Hb,TK⟩),?_⟩;simp only[and_false,if_false];rw[Nat.add_comm 1];exact⟨rfl,rfl⟩
end Go.Proofs.Ytfmdmlfhigocaaa
