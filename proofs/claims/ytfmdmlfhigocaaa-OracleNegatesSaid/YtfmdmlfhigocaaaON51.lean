/- A part of the proof (O45 K3 K4 K5 K6). -/
import Derived.Test.YtfmdmlfhigocaaaON33
import Derived.Test.YtfmdmlfhigocaaaON46
set_option linter.unusedSimpArgs false
set_option linter.unusedVariables false
open Nat renaming reduceShiftRight → cQ, reduceMod → dx, reduceEqDiff → eI, reduceBEq → gj
set_option maxRecDepth 100000
set_option maxHeartbeats 80000000
namespace Go.Proofs.Ytfmdmlfhigocaaa
open Go.VL Go.Proofs.Try
variable{mn:Int}{mx:Int}{l:List Re}{re:Re}
def noA (re:Re):Bool:=decide (re.op≠11/\re.op≠7/\re.op≠8)
theorem SD (op mn mx k n:Int):GF op mn mx k n<=10000:=by unfold GF;omega
theorem Hl {op k n:Int} (hk:op=3->2<=k) (hn:0<=n) (h0:0<=mn) (h1:op=4->mx=-1\/1<=mx/\mn<=mx):0<=GF op mn mx k n:=by
 unfold GF;by_cases o1:op=1\/op=11
 ·rw[be o1];omega
 rw[ap o1];by_cases o3:op=3
 ·rw[be o3];have:=hk o3;omega
 rw[ap o3];by_cases o5:op=5
 ·rw[be o5];omega
 rw[ap o5];by_cases o4:op=4
 ·rw[be o4];have h1:=h1 o4;by_cases om:mx=-1
  ·rw[be om];have:0<=(mn+1)*n:=ahm (by omega) hn;omega
  ·rw[ap om];have:0<=mx*n:=ahm (by omega) hn;omega
 ·rw[ap o4];omega
def sO (re:Re):Bool:=OU re&&decide (re.op=4->re.mx=-1\/1<=re.mx/\re.mn<=re.mx)
theorem iu (re:Re):re.every sO=true->0<=re.jL/\re.jL<=10000:=by
 induction re using Re.ind with
 |h re ih =>
 intro hs;obtain⟨ez,iO⟩:=(Re.aB re).1 hs;unfold sO at ez;obtain⟨ez,Wf⟩:=Bool.and_eq_true_iff.1 ez;have Wf:=of_decide_eq_true Wf;obtain⟨q1,q2,q3,q4,q5,q6,q7,q8,q9,iF⟩:=eW.1 ez;have hL:∀l:List Re,(∀k∈l,k∈re.kids)->0<=Re.fJ l:=by
  intro l;induction l with
  |nil=>intro _;simp [Re.fJ]
  |cons k l yM =>
   intro hm;have h1:=(ih k (hm k (by simp)) (iO k (hm k (by simp)))).1;have h2:=yM (λx hx=>hm x (by simp [hx]));simp only[Re.fJ];omega
 rw[Re.FN];exact⟨Hl (λh=>by have:=q2 h;omega) (hL _ (λ_ h=>h)) q5 Wf,SD _ _ _ _ _⟩
theorem qH (h:∀k∈l,0<=k.jL/\k.jL<=10000):0<=Re.fJ l/\Re.fJ l<=10000*l.length:=by
 induction l with
 |nil=>simp [Re.fJ]
 |cons k l ih =>
  have h1:=h k (by simp);have h2:=ih (λx hx=>h x (by simp [hx]));simp only[Re.fJ,afZ];omega
theorem Lm (re:Re):re.every sO=true->aO prog 76 [fv re] (i64 re.jL):=by
 induction re using Re.ind with
 |h re ih =>
 intro hs;obtain⟨ez,iO⟩:=(Re.aB re).1 hs;unfold sO at ez;obtain⟨ez,Wf⟩:=Bool.and_eq_true_iff.1 ez;have Wf:=of_decide_eq_true Wf;obtain⟨q1,q2,q3,q4,q5,q6,q7,q8,q9,iF⟩:=eW.1 ez;have Wj:∀k∈re.kids,0<=k.jL/\k.jL<=10000:=λk hk=>iu k (iO k hk);have EC:∀i,i<=re.kids.length->0<=Re.fJ (re.kids.take i)/\Re.fJ (re.kids.take i)<=10000*i:=λi hi=>by have:=qH (l:=re.kids.take i) (λk hk=>Wj k (agJ hk));rw[agN,Nat.min_eq_left hi]at this;exact this
 refine an func76 rfl ntmps76 results76 rfl 0 6291487 (by simp) (by simp) ?_;simp only[zX,simprocAttr,i64,ai re,iD,bD];refine au (λn e s=>∃i:Nat,n=re.kids.length-i/\i<=re.kids.length/\e 1=.rf 0 0 0 0/\e 3=i64 (Re.fJ (re.kids.take i))/\e 4=i64 i/\s=[av re]) ⟨_,_,_,br.refl,0,rfl,by omega,rfl,rfl,rfl,by simp [av,Re.ae re,iD,bD]⟩ ?_;rintro n e s ⟨i,rfl,hi,h1,h3,h4,rfl⟩;rcases agi i re.kids.length with az|fI
 ·obtain⟨k,hk⟩:∃k,re.kids[i]?=some k:=⟨_,afP az⟩
  have hm:=afW hk;have aC:(i:Int)<re.kids.length:=by omega
  have h5:=EC (i+1) (by omega);have h6:=EC i (by omega);have h7:=Wj k hm;rw[aR hk,Re.zl]at h5;simp only[zX,simprocAttr,av,Re.ae re,afR,afU,iD,bD,h1,h3,h4,i64,aC,hk];refine aj (ih k hm (iO k hm)) (by simp [ah,ah.go,ai,i64,bV,aM]) (by simp [ah,ah.go,ai,i64,bV,aM]) ?_;simp only[zX,simprocAttr,av,Re.ae re,iD,bD,h1,h3,h4,i64,aC,hk];refine⟨re.kids.length-(i+1),_,_,by omega,br.refl,i+1,rfl,az,?_,?_,?_,rfl⟩ <;> (try simp only[zU,gj,cQ,dx,eI,reduceIte])
  ·exact h1
  ·rw[bd _ (by omega),aR hk,Re.zl]
  ·rw[bd _ (by omega)];rfl
 ·have cV:i=re.kids.length:=by omega
  subst cV;have aC:¬(re.kids.length:Int)<re.kids.length:=by omega
  have h6:=EC re.kids.length (by omega);rw[agj]at h3 h6;rw[Re.FN];generalize Re.fJ re.kids=z at *;have w2:IntKind.i64.wrap (2*(re.kids.length:Int))=2*(re.kids.length:Int):=bd _ (by omega);have w3:IntKind.i64.wrap (z+2*(re.kids.length:Int))=z+2*(re.kids.length:Int):=bd _ (by omega);have w4:IntKind.i64.wrap (z+2*(re.kids.length:Int)-2)=z+2*(re.kids.length:Int)-2:=bd _ (by omega);have w5:IntKind.i64.wrap (z+2)=z+2:=bd _ (by omega);have RC:0<=(re.mn+1)*z/\(re.mn+1)*z<=33*z:=⟨ahm (by omega) (by omega),agB (by omega) (by omega)⟩
  have V6:-1*z<=re.mx*z/\re.mx*z<=32*z:=⟨agB (by omega) (by omega),agB (by omega) (by omega)⟩
  have w6:IntKind.i64.wrap (re.mn+1)=re.mn+1:=bd _ (by omega);have w7:IntKind.i64.wrap ((re.mn+1)*z)=(re.mn+1)*z:=bd _ (by omega);have w8:IntKind.i64.wrap ((re.mn+1)*z+2)=(re.mn+1)*z+2:=bd _ (by omega);have w9:IntKind.i64.wrap (re.mx*z)=re.mx*z:=bd _ (by omega);have w10:IntKind.i64.wrap (re.mx*z+re.mx)=re.mx*z+re.mx:=bd _ (by omega);have w11:IntKind.i64.wrap (re.mx*z+re.mx-re.mn)=re.mx*z+re.mx-re.mn:=bd _ (by omega);unfold GF;simp only[zX,simprocAttr,av,Re.ae re,afR,afU,iD,bD,h1,h3,h4,i64,aC];by_cases o1:re.op=1
  ·simp only[zX,simprocAttr,av,Re.ae re,afR,afU,iD,bD,h1,h3,h4,i64,o1,true_or,if_true]
  by_cases rO:re.op=11
  ·simp only[zX,simprocAttr,av,Re.ae re,afR,afU,iD,bD,h1,h3,h4,i64,o1,rO,or_true,if_true]
  by_cases o3:re.op=3
  ·simp only[zX,simprocAttr,av,Re.ae re,afR,afU,iD,bD,h1,h3,h4,i64,o1,rO,o3,or_self,if_false,if_true,w2,w3,w4]
  by_cases o5:re.op=5
  ·simp only[zX,simprocAttr,av,Re.ae re,afR,afU,iD,bD,h1,h3,h4,i64,o1,rO,o3,o5,or_self,if_false,if_true,w5]
  by_cases o4:re.op=4
  ·by_cases om:re.mx=-1
   ·simp only[zX,simprocAttr,av,Re.ae re,afR,afU,iD,bD,h1,h3,h4,i64,o1,rO,o3,o5,o4,om,or_self,if_false,if_true,w6,w7,w8]
   ·simp only[zX,simprocAttr,av,Re.ae re,afR,afU,iD,bD,h1,h3,h4,i64,o1,rO,o3,o5,o4,om,or_self,if_false,if_true,w9,w10,w11]
  ·simp only[zX,simprocAttr,av,Re.ae re,afR,afU,iD,bD,h1,h3,h4,i64,o1,rO,o3,o5,o4,or_self,if_false,if_true]
def rP (re:Re):Bool:=sO re&&decide ((re.op=0\/re.op=1\/re.op=2\/re.op=3\/re.op=4\/re.op=5\/re.op=11)/\(re.op=4\/re.op=5->re.kids.length=1)/\(re.op=0->re.kids=[]))
theorem gG:rP re=true ↔ sO re=true/\(re.op=0\/re.op=1\/re.op=2\/re.op=3\/re.op=4\/re.op=5\/re.op=11)/\(re.op=4\/re.op=5->re.kids.length=1)/\(re.op=0->re.kids=[]):=by unfold rP;rw[agb,decide_eq_true_eq]
theorem fZ:sO re=true ↔ OU re=true/\(re.op=4->re.mx=-1\/1<=re.mx/\re.mn<=re.mx):=by unfold sO;rw[agb,decide_eq_true_eq]
theorem mu (h:re.every rP=true):re.every sO=true:=iR (λ_ h=>(gG.1 h).1) re h
theorem Hj (h:re.every sO=true):re.every OU=true:=iR (λ_ h=>(fZ.1 h).1) re h
theorem B8 (h:∀k∈l,0<=k.jL) {k:Re} (hk:k∈l):k.jL<=Re.fJ l:=by
 induction l with
 |nil=>cases hk
 |cons x l ih =>
  have h1:=h x (by simp);have h2:0<=Re.fJ l:=by
   have:∀l':List Re,(∀k∈l',0<=k.jL)->0<=Re.fJ l':=by
    intro l';induction l' with
    |nil=>intro _;simp [Re.fJ]
    |cons y l' ih'=>intro h';have:=h' y (by simp);have:=ih' (λz hz=>h' z (by simp [hz]));simp only[Re.fJ];omega
   exact this l (λy hy=>h y (by simp [hy]))
  simp only[Re.fJ];rcases List.mem_cons.1 hk with rfl|hk
  ·omega
  ·have:=ih (λy hy=>h y (by simp [hy])) hk;omega
theorem vR {c:Int->List jM}{n:Int} (h:∀f,((c f).length:Int)=n):∀(k:Nat) (f:Int),((fN c k f).length:Int)=k*n
 |0,f=>by simp [fN]
 |k+1,f=>by
  rw[fN,af7];have h1:=vR h k f;have h2:=h (f+(fN c k f).length)
  push_cast
  rw[Int.add_mul];omega
theorem sE {c:Int->List jM}{n:Int} (h:∀f,((c f).length:Int)=n) (mode fin:Int):∀(k:Nat) (f:Int),((fH c mode fin k f).length:Int)=k*(n+1)
 |0,f=>by simp [fH]
 |k+1,f=>by
  rw[fH,af7,afZ];have h1:=sE h mode fin k f;have h2:=h (f+(fH c mode fin k f).length+1)
  push_cast
  rw[Int.add_mul];omega
theorem Gq (h:re.jL<=9000):re.jL=(if re.op=1\/re.op=11 then 1 else if re.op=3 then Re.fJ re.kids+2*(re.kids.length:Int)-2 else if re.op=5 then Re.fJ re.kids+2 else if re.op=4 then (if re.mx=-1 then (re.mn+1)*Re.fJ re.kids+2 else re.mx*Re.fJ re.kids+re.mx-re.mn) else Re.fJ re.kids):=by rw[Re.FN]at h ⊢;unfold GF at h ⊢;omega
theorem ye (hs:re.every rP=true) (h:re.jL<=9000) (ho:re.op≠1/\re.op≠11):Re.fJ re.kids<=9000/\∀k∈re.kids,k.jL<=9000:=by
 obtain⟨ez,iO⟩:=(Re.aB re).1 hs;obtain⟨hc,J5,S5,h0⟩:=gG.1 ez;obtain⟨hb,Sv⟩:=fZ.1 hc;obtain⟨q1,q2,q3,q4,q5,q6,q7,q8,q9,iF⟩:=eW.1 hb;have Wj:∀k∈re.kids,0<=k.jL:=λk hk=>(iu k (mu (iO k hk))).1;have hz:=(qH (l:=re.kids) (λk hk=>iu k (mu (iO k hk)))).1;have hu:=Gq h;have hle:Re.fJ re.kids<=9000:=by
  generalize Re.fJ re.kids=z at *;rw[ap (by omega)]at hu;split at hu
  ·rename_i o3;have:=q2 o3;omega
  ·split at hu
   ·omega
   ·split at hu
    ·split at hu
     ·have:1*z<=(re.mn+1)*z:=agB (by omega) (by omega);omega
     ·rename_i o4 om;have hm:=(Sv o4).resolve_left om;have:1*z<=re.mx*z:=agB (by omega) (by omega);omega
    ·omega
 exact⟨hle,λk hk=>aho (B8 Wj hk) hle⟩
theorem Ab (h:∀k∈l,∀f,((k.code f).length:Int)=k.jL):∀f,((Re.dI l f).length:Int)=Re.fJ l:=by
 induction l with
 |nil=>intro f;simp [Re.dI,Re.fJ]
 |cons k l ih =>
  intro f;have h1:=h k (by simp) f;have h2:=ih (λx hx=>h x (by simp [hx])) (f+(k.code f).length);simp only[Re.dI,Re.fJ,af7];omega
theorem Iu (h:∀k∈l,∀f,((k.code f).length:Int)=k.jL):l≠[]->∀f,((Re.er l f).length:Int)=Re.fJ l+2*l.length-2:=by
 induction l with
 |nil=>intro hn;exact absurd rfl hn
 |cons k l ih =>
  intro _ f;cases l with
  |nil =>
   simp only[Re.er,Re.fJ,afZ,af0];have:=h k (by simp) f;omega
  |cons k2 l2 =>
   have h1:=h k (by simp) (f+1);have h2:=ih (λx hx=>h x (by simp only[agV]at hx ⊢;exact .inr hx)) (by simp) (f+(k.code (f+1)).length+2);rw[Re.er];generalize Re.er (k2::l2) (f+(k.code (f+1)).length+2)=z at *;simp only[Re.fJ,afZ,af7]at h2 ⊢
   push_cast at h2 ⊢
   omega
theorem Rc {c:Int->List jM}{n:Int} (h:∀f,((c f).length:Int)=n) (mode sz f:Int) (h0:0<=mn) (h1:mx=-1\/1<=mx/\mn<=mx) :
  ((Om c mn mx mode sz f).length:Int)=if mx=-1 then (mn+1)*n+2 else mx*n+mx-mn:=by
 have hp:=vR h mn.toNat f;have e0:((mn.toNat:Nat):Int)=mn:=by omega
 rw[e0]at hp;unfold Om;by_cases hm:mx=-1
 ·rw[be hm,be hm];have h2:=h (f+(fN c mn.toNat f).length+1);simp only[af7,afZ,af0]
  push_cast
  rw[Int.add_mul];omega
 ·rw[ap hm,ap hm];have h3:=sE h mode (f+sz) (mx-mn).toNat (f+(fN c mn.toNat f).length);have e1:(((mx-mn).toNat:Nat):Int)=mx-mn:=by omega
  rw[e1]at h3;simp only[af7]
  push_cast
  generalize fH c mode (f+sz) (mx-mn).toNat (f+(fN c mn.toNat f).length)=z at *;rw[hp,h3,Int.mul_add,Int.sub_mul];omega
theorem Ec {k:Re} (hl:l=[k]):(λi=>Re.BU l i)=k.code:=by subst hl;funext i;simp [Re.BU]
theorem n8 (re:Re):re.every rP=true->re.jL<=9000->∀f,((re.code f).length:Int)=re.jL:=by
 induction re using Re.ind with
 |h re ih =>
 intro hs hz f;obtain⟨ez,iO⟩:=(Re.aB re).1 hs;obtain⟨hc,J5,S5,h0⟩:=gG.1 ez;obtain⟨hb,Sv⟩:=fZ.1 hc;obtain⟨q1,q2,q3,q4,q5,q6,q7,q8,q9,iF⟩:=eW.1 hb;have hu:=Gq hz;refine Eq.trans ?_ hu.symm;rw[Re.ng];by_cases o1:re.op=1
 ·rw[be o1,be (.inl o1)];rfl
 by_cases rO:re.op=11
 ·rw[ap o1,be rO,be (.inr rO)];rfl
 have hk:=ye hs hz ⟨o1,rO⟩;have wF:∀k∈re.kids,∀f,((k.code f).length:Int)=k.jL:=λk hm f=>ih k hm (iO k hm) (hk.2 k hm) f;have TY:re.op=2->¬re.op=3:=by omega
 have o5':re.op=2->¬re.op=5:=by omega
 have o4':re.op=2->¬re.op=4:=by omega
 have o00:¬re.op=2->¬re.op=3->¬re.op=5->¬re.op=4->re.op=0:=by omega
 clear hu;rw[ap o1,ap rO,ap (show ¬(re.op=1\/re.op=11) from λh=>h.elim o1 rO)];by_cases o2:re.op=2
 ·rw[be o2,ap (TY o2),ap (o5' o2),ap (o4' o2)];exact Ab wF f
 rw[ap o2];by_cases o3:re.op=3
 ·rw[be o3,be o3];exact Iu wF (by have:=q2 o3;intro h;rw[h]at this;simp at this) f
 rw[ap o3,ap o3];by_cases o5:re.op=5
 ·rw[be o5,be o5];obtain⟨k,di⟩:=List.length_eq_one_iff.1 (S5 (.inr o5));have:=wF k (by rw[di];simp) (f+1);rw[di];simp only[Re.BU,Re.fJ,afZ,af7,af0]
  push_cast;omega
 rw[ap o5,ap o5];by_cases o4:re.op=4
 ·rw[be o4,be o4];obtain⟨k,di⟩:=List.length_eq_one_iff.1 (S5 (.inl o4));rw[Ec di,Rc (n:=Re.fJ re.kids) (λf=>by rw[di];have:=wF k (by rw[di];simp) f;simp only[Re.fJ];omega) _ _ _ q5 (Sv o4)]
 ·rw[ap o4,ap o4,h0 (o00 o2 o3 o5 o4)];rfl
def qp (l:List Re):Re:=.mk 3 [] l 0 0 0 0 false
def ir (g:Nat) (l:List jM):VL.Obj:=⟨g,true,5,(l.map jM.cells).map λc=>c.map V.d⟩
theorem lz (l:List jM):∀e∈(l.map jM.cells).map (λc=>c.map V.d),e.length=5:=by intro e he;obtain⟨c,hc,rfl⟩:=List.mem_map.1 he;obtain⟨i,_,rfl⟩:=List.mem_map.1 hc;rfl
theorem QD (l:List jM):∀e∈l.map jM.cells,e.length=5:=by intro e he;obtain⟨i,_,rfl⟩:=List.mem_map.1 he;rfl
theorem nQ (l:List jM) (n:Nat) (h:l.length<=n):List.take n ((l.map jM.cells).map λc=>c.map V.d)=(l.map jM.cells).map λc=>c.map V.d:=af1 (by simpa using h)
theorem Ml (n g:Nat) (l:List jM):aG n (ir g l)=true:=by unfold aG ir;rw[af8];intro e he;obtain⟨c,hc,rfl⟩:=List.mem_map.1 he;rw[af8];intro x hx;obtain⟨d,_,rfl⟩:=List.mem_map.1 hx;rfl
theorem ME (n:Nat) (re:Re):aG n (av re)=true:=by simp [aG,av,Re.ae re,ah]
def sJ (re:Re):Prop:=∀f:Int,0<=f->f<=1000000000000000000-100000000*re.size->aO prog 77 [fv re,i64 f] (.d (.sl ((re.code f).map jM.cells)))
theorem Te (re k:Re) (hs:re.every rP=true) (hz:re.jL<=8500) (o4:re.op=4) (hk:re.kids=[k]) (hc:sJ k) (f:Int) (h0:0<=f) (h1:f<=1000000000000000000-100000000*re.size):kG prog 97 [fv re,i64 f] 5 ((re.code f).map jM.cells):=by
 obtain⟨ez,iO⟩:=(Re.aB re).1 hs;obtain⟨zF,J5,S5,eL⟩:=gG.1 ez;obtain⟨hb,Sv⟩:=fZ.1 zF;obtain⟨q1,q2,q3,q4,q5,q6,q7,q8,q9,iF⟩:=eW.1 hb;have hlen:=n8 re hs (by omega) f;have Rf:=(ye hs (by omega) ⟨by omega,by omega⟩).2 k (by rw[hk];simp);have wF:=n8 k (iO k (by rw[hk];simp)) Rf;have Wj:=iu k (mu (iO k (by rw[hk];simp)));have fF:=Lm re (mu hs);have uY:re.kids[0]?=some k:=by rw[hk];rfl
 have cU:(0:Int)<(re.kids.length:Int):=by rw[hk];simp
 have wC:k.size+1<=re.size:=Re.bL (by rw[hk];simp);have Ja:re.code f=Om k.code re.mn re.mx re.mode re.jL f:=by rw[Re.ng,ap (by omega),ap (by omega),ap (by omega),ap (by omega),ap (by omega),be o4,Ec hk]
 rw[Ja];have yr:∀i:Nat,((fN k.code i f).length:Int)=i*k.jL:=λi=>vR wF i f;have L2:∀i:Nat,(i:Int)<=re.mn->((fN k.code i f).length:Int)<=300000:=λi hi=>by rw[yr];have h2:(i:Int)*k.jL<=32*9000:=Int.mul_le_mul (by omega) Rf Wj.1 (by omega);omega
 unfold Om kG;refine pJ func97 rfl ntmps97 results97 rfl 0 32759 (by simp) (by simp) ?_;simp only[zX,simprocAttr,i64,ai re,iD,bD,o4];refine au (λn e s=>∃(i g:Nat),n=re.mn.toNat-i/\(i:Int)<=re.mn/\e 1=i64 f/\e 2=.rf 0 0 0 0/\e 5=.so 1 g 0 (fN k.code i f).length/\e 6=i64 i/\s=[av re,ir g (fN k.code i f)])
  ⟨_,_,_,.DD (eE 5 5 rfl),0,0,rfl,q5,rfl,rfl,rfl,rfl,by simp [av,Re.ae re,iD,bD,o4,ir,fN]⟩ ?_
 rintro n e s ⟨i,g,rfl,hi,zS,h2,h5,h6,rfl⟩;by_cases az:(i:Int)<re.mn
 ·have dR:=hc (f+(fN k.code i f).length) (by omega) (by have:=L2 i hi;omega);have ju:=L2 i hi;have Xs:=L2 (i+1) (by omega);have w1:IntKind.i64.wrap (f+((fN k.code i f).length:Int))=f+((fN k.code i f).length:Int):=bd _ (by omega);have U8:=wF (f+(fN k.code i f).length);simp only[i64]at dR;simp only[zX,simprocAttr,i64,av,Re.ae re,afR,afU,iD,bD,zS,h2,h5,h6,az,ir,uY,cU,w1];refine aj dR (by simp [ah,ah.go,ai]) (by simp [ah,ah.go,ai,i64,bV,aM]) ?_;simp only[zX,simprocAttr,i64,av,Re.ae re,afR,afU,iD,bD,zS,h2,h5,h6,az,ir];refine⟨lz _,⟨by simp,by omega⟩,re.mn.toNat-(i+1),_,_,by omega,br.refl,i+1,g+1,rfl,by omega,?_,?_,?_,?_,?_⟩ <;> (try simp only[zU,gj,cQ,dx,eI,reduceIte])
  ·exact zS
  ·exact h2
  ·simp only[fN,af7,afN]
  ·rw[bd _ (by omega)];rfl
  ·rw[nQ _ _ (af3 _)];simp [av,ir,Re.ae re,iD,bD,fN]
 ·have cV:i=re.mn.toNat:=by omega
  subst cV;have ju:=L2 re.mn.toNat hi;generalize fN k.code re.mn.toNat f=pre at *;by_cases hm:re.mx=-1
  ·rw[be hm];have dR:=hc (f+pre.length+1) (by omega) (by omega);have U8:=wF (f+pre.length+1);have w1:IntKind.i64.wrap (f+(pre.length:Int))=f+pre.length:=bd _ (by omega);have w2:IntKind.i64.wrap (f+(pre.length:Int)+1)=f+pre.length+1:=bd _ (by omega);generalize k.code (f+pre.length+1)=kid at *;have w3:IntKind.i64.wrap (f+(pre.length:Int)+(kid.length:Int))=f+pre.length+kid.length:=bd _ (by omega);have w4:IntKind.i64.wrap (f+(pre.length:Int)+(kid.length:Int)+2)=f+pre.length+kid.length+2:=bd _ (by omega);simp only[i64]at dR;by_cases Gi:re.mode=1
   ·simp only[zX,simprocAttr,i64,av,Re.ae re,afR,afU,iD,bD,zS,h2,h5,h6,az,ir,uY,cU,w1,w2,hm];refine aj dR (by simp [ah,ah.go,ai]) (by simp [ah,ah.go,ai,i64,bV,aM]) ?_;simp only[zX,simprocAttr,i64,av,Re.ae re,afR,afU,iD,bD,zS,h2,h5,h6,az,ir,w1,w2,w3,w4,hm,Gi];refine⟨λe he=>by rw[List.mem_singleton.1 he];rfl,⟨by simp,by omega⟩,lz _,⟨by simp,by omega⟩,λe he=>by rw[List.mem_singleton.1 he];rfl,⟨by simp,by omega⟩,?_⟩;simp only[zX,simprocAttr,sg];refine mJ (id:=1) (by rfl) ?_ ?_
    ·rw[nQ _ _ (af3 _),af1 (by simp),af1 (by simp)];simp [xC,IN,jM.cells,Gi,iD]
    ·simp;omega
   ·simp only[zX,simprocAttr,i64,av,Re.ae re,afR,afU,iD,bD,zS,h2,h5,h6,az,ir,uY,cU,w1,w2,hm];refine aj dR (by simp [ah,ah.go,ai]) (by simp [ah,ah.go,ai,i64,bV,aM]) ?_;simp only[zX,simprocAttr,i64,av,Re.ae re,afR,afU,iD,bD,zS,h2,h5,h6,az,ir,w1,w2,w3,w4,hm,Gi];refine⟨λe he=>by rw[List.mem_singleton.1 he];rfl,⟨by simp,by omega⟩,lz _,⟨by simp,by omega⟩,λe he=>by rw[List.mem_singleton.1 he];rfl,⟨by simp,by omega⟩,?_⟩;simp only[zX,simprocAttr,sg];refine mJ (id:=1) (by rfl) ?_ ?_
    ·rw[nQ _ _ (af3 _),af1 (by simp),af1 (by simp)];simp [xC,IN,jM.cells,Gi,iD]
    ·simp;omega
  ·rw[ap hm];have ac3:=(Sv o4).resolve_left hm;have w1:IntKind.i64.wrap (f+re.jL)=f+re.jL:=bd _ (by omega);have BT:∀j:Nat,((fH k.code re.mode (f+re.jL) j (f+pre.length)).length:Int)=j*(k.jL+1):=λj=>sE wF _ _ j _;have ZY:∀j:Nat,(j:Int)<=32->((fH k.code re.mode (f+re.jL) j (f+pre.length)).length:Int)<=300000:=λj hj=>by rw[BT];have h2:(j:Int)*(k.jL+1)<=32*9001:=Int.mul_le_mul hj (by omega) (by omega) (by omega);omega
   simp only[zX,simprocAttr,i64,av,Re.ae re,afR,afU,iD,bD,zS,h2,h5,h6,az,ir,uY,cU,hm];simp only[ai re,i64,iD,bD]at fF;refine aj fF (by simp [ah,ah.go,ai,i64,bV,aM]) (by simp [ah,ah.go,ai,i64,bV,aM]) ?_;simp only[zX,simprocAttr,i64,av,Re.ae re,afR,afU,iD,bD,zS,h2,h5,h6,az,ir,w1];refine au (λn e s=>∃(j g:Nat),n=(re.mx-re.mn).toNat-j/\(j:Int)<=re.mx-re.mn/\e 1=i64 f/\e 2=.rf 0 0 0 0/\e 5=.so 1 g 0 (pre++fH k.code re.mode (f+re.jL) j (f+pre.length)).length/\e 11=i64 (f+re.jL)/\e 12=i64 (re.mn+j) /\
     s=[av re,ir g (pre++fH k.code re.mode (f+re.jL) j (f+pre.length))])
    ⟨_,_,_,br.refl,0,g,rfl,by omega,?_,?_,?_,rfl,?_,by simp [av,Re.ae re,iD,bD,ir,fH]⟩ ?_ <;> (try simp only[zU,gj,cQ,dx,eI,reduceIte])
   ·exact zS
   ·exact h2
   ·rw[h5];simp [fH]
   ·simp [i64]
   clear h5 h6 zS h2 az;rintro n e s ⟨j,g,rfl,hj,zS,h2,h5,jH,jn,rfl⟩;by_cases az:re.mn+(j:Int)<re.mx
   ·have hb3:=ZY j (by omega);generalize WZ:fH k.code re.mode (f+re.jL) j (f+pre.length)=post at *;have LJ:(f+(pre.length:Int))+(post.length:Int)+1=f+((pre++post).length:Int)+1:=by simp;omega
    have Bh:pre++fH k.code re.mode (f+re.jL) (j+1) (f+pre.length)=(pre++post)++xC re.mode (f+((pre++post).length:Int)+1) (f+re.jL)::k.code (f+((pre++post).length:Int)+1):=by rw[fH,WZ,LJ,agu]
    have MW:((pre++post).length:Int)=pre.length+post.length:=by simp
    have dR:=hc (f+(pre++post).length+1) (by omega) (by omega);have U8:=wF (f+(pre++post).length+1);have w2:IntKind.i64.wrap (f+((pre++post).length:Int))=f+(pre++post).length:=bd _ (by omega);have w3:IntKind.i64.wrap (f+((pre++post).length:Int)+1)=f+(pre++post).length+1:=bd _ (by omega);generalize k.code (f+(pre++post).length+1)=kid at *;generalize pre++post=out at *;simp only[i64]at dR;by_cases WY:re.mode=1
    ·have Gi:=eq_true WY;simp only[zX,simprocAttr,i64,av,Re.ae re,afR,afU,iD,bD,zS,h2,h5,jH,jn,az,ir,uY,cU,w2,w3,Gi];refine⟨λe he=>by rw[List.mem_singleton.1 he];rfl,⟨by simp,by omega⟩,?_⟩;refine aj dR (by simp [ah,ah.go,ai]) (by simp [ah,ah.go,ai,i64,bV,aM]) ?_;simp only[zX,simprocAttr,i64,av,Re.ae re,afR,afU,iD,bD,zS,h2,h5,jH,jn,az,ir];refine⟨lz _,⟨by simp,by omega⟩,(re.mx-re.mn).toNat-(j+1),_,_,by omega,br.cut (s':=[av re,ir (g+1+1) (out++xC re.mode (f+(out.length:Int)+1) (f+re.jL)::kid)]) 2 (by omega) ?_ (by simp [ME,Ml]) [1,2,5,11,12] ?_,j+1,g+1+1,rfl,by omega,?_,?_,?_,?_,?_,?_⟩ <;> (try simp only[zU,gj,cQ,dx,eI,reduceIte])
     ·simp only[ags,agD];rw[nQ _ _ (af3 _),af1 (by simp)];simp [xC,jM.cells,Gi,iD,ir,av,Re.ae re,bD]
     ·simp [bz,aH,ah,zS,h2,jH,i64]
     ·exact zS
     ·exact h2
     ·rw[Bh];simp;omega
     ·exact jH
     ·rw[bd _ (by omega)];simp only[ag2,Int.natCast_one,agQ]
     ·rw[Bh];simp [ir,av,Re.ae re,iD,bD]
    ·have Gi:=WY;simp only[zX,simprocAttr,i64,av,Re.ae re,afR,afU,iD,bD,zS,h2,h5,jH,jn,az,ir,uY,cU,w2,w3,Gi];refine⟨λe he=>by rw[List.mem_singleton.1 he];rfl,⟨by simp,by omega⟩,?_⟩;refine aj dR (by simp [ah,ah.go,ai]) (by simp [ah,ah.go,ai,i64,bV,aM]) ?_;simp only[zX,simprocAttr,i64,av,Re.ae re,afR,afU,iD,bD,zS,h2,h5,jH,jn,az,ir];refine⟨lz _,⟨by simp,by omega⟩,(re.mx-re.mn).toNat-(j+1),_,_,by omega,br.cut (s':=[av re,ir (g+1+1) (out++xC re.mode (f+(out.length:Int)+1) (f+re.jL)::kid)]) 2 (by omega) ?_ (by simp [ME,Ml]) [1,2,5,11,12] ?_,j+1,g+1+1,rfl,by omega,?_,?_,?_,?_,?_,?_⟩ <;> (try simp only[zU,gj,cQ,dx,eI,reduceIte])
     ·simp only[ags,agD];rw[nQ _ _ (af3 _),af1 (by simp)];simp [xC,jM.cells,Gi,iD,ir,av,Re.ae re,bD]
     ·simp [bz,aH,ah,zS,h2,jH,i64]
     ·exact zS
     ·exact h2
     ·rw[Bh];simp;omega
     ·exact jH
     ·rw[bd _ (by omega)];simp only[ag2,Int.natCast_one,agQ]
     ·rw[Bh];simp [ir,av,Re.ae re,iD,bD]
   ·have KR:j=(re.mx-re.mn).toNat:=by omega
    subst KR;simp only[zX,simprocAttr,i64,av,Re.ae re,afR,afU,iD,bD,zS,h2,h5,jH,jn,az,ir,sg];exact mJ (id:=1) (by rfl) (by rfl) (by simp)
end Go.Proofs.Ytfmdmlfhigocaaa
