/- A part of the proof (K70 K71 K72 K73). -/
import Derived.Test.YtphfjhaffbfpfaaPM2
import Derived.Test.YtphfjhaffbfpfaaPM3
import Derived.Test.YtphfjhaffbfpfaaPM26
import Derived.Test.YtphfjhaffbfpfaaPM19
import Derived.Test.YtphfjhaffbfpfaaPM30
set_option linter.all false
set_option maxRecDepth 100000
set_option maxHeartbeats 80000000
namespace Go.Proofs.Ytphfjhaffbfpfaa
open Go.VL Go.Proofs.Try
variable{tl:List VL.Obj}
def x3 (x:Int):List Int->Int->Int
 |[],_=>-1
 |y::l,i=>if x=y then i else x3 x l (i+1)
theorem KQ (x:Int):∀(l:List Int) (i:Int),0<=i->(decide (0<=x3 x l i)=decide (x∈l))/\-1<=x3 x l i/\x3 x l i<=i+l.length
 |[],i,h=>by simp [x3];omega
 |y::l,i,h=>by
  obtain⟨h1,h2,h3⟩:=KQ x l (i+1) (by omega);rw[x3];by_cases c:x=y
  ·rw[ap c,adu h,adu (by rw[c];simp)];refine⟨rfl,by omega,?_⟩;simp only[adA,aef];omega
  ·rw[am c,h1];refine⟨by simp [c],h2,?_⟩;simp only[adA,aef];omega
theorem M3 (l:List Int) (x:Int) (hl:l.length<=1000000000):ba prog 57 [.d (av l),i64 x] (i64 (x3 x l 0)):=by
 obtain⟨R,hR⟩:∃R,R=x3 x l 0:=⟨_,rfl⟩
 rw[<- hR];refine ar func57 rfl ntmps57 results57 rfl 0 435 (by simp) (by simp) ?_;simp only[zX,simprocAttr,i64,iD,av,ado];refine aJ (λn e s=>∃i:Nat,n=l.length-i/\i<=l.length/\e 0=.d (av l)/\e 1=i64 x/\e 7=i64 l.length/\e 8=i64 i/\R=x3 x (l.drop i) i/\s=[])
  ⟨_,_,_,cU.refl,0,rfl,by omega,rfl,rfl,rfl,rfl,hR,rfl⟩ ?_
 clear hR;rintro n e s ⟨i,rfl,hi,h0,h1,h7,h8,hR,rfl⟩;rcases adV i l.length with aH|iP
 ·have bo:(i:Int)<(l.length:Int):=by omega
  have hi0:(0:Int)<=(i:Int):=by omega
  have hx:l[i]?=some l[i]:=adn aH;rw[List.drop_eq_getElem_cons aH,x3]at hR;generalize l[i]=y at *;by_cases c:x=y
  ·rw[ap c]at hR;subst hR;simp only[zX,simprocAttr,i64,iD,av,h0,h1,h7,h8,bo,hi0,adR,aH,hx,ado,c]
  ·rw[am c]at hR;simp only[zX,simprocAttr,i64,iD,av,h0,h1,h7,h8,bo,hi0,adR,aH,hx,ado,c];refine⟨l.length-(i+1),_,_,by omega,cU.refl,i+1,rfl,aH,?_,?_,?_,?_,?_,rfl⟩ <;> (try simp only[zU,Nat.reduceBEq,Nat.reduceShiftRight,Nat.reduceMod,Nat.reduceEqDiff,reduceIte])
   ·exact h0
   ·exact h1
   ·exact h7
   ·rw[bM _ (by omega)];rfl
   ·rw[hR];congr 1
 ·have fy:i=l.length:=by omega
  subst fy;rw[List.drop_length,x3]at hR;subst hR;simp only[zX,simprocAttr,i64,iD,av,h0,h1,h7,h8,Int.lt_irrefl,ado]
theorem C6 (l:List Int) (x:Int) (hl:l.length<=1000000000):ba prog 36 [.d (av l),i64 x] (bV (decide (x∈l))):=by have h:=M3 l x hl;obtain⟨h1,_,_⟩:=KQ x l 0 (ady _);rw[<- h1];generalize x3 x l 0=R at *;simp only[i64,av]at h;refine ar func36 rfl ntmps36 results36 rfl 0 19 (by simp) (by simp) ?_;simp only[zX,simprocAttr,i64,iD,bV,av];refine az h rfl rfl ?_;simp only[zX,simprocAttr,i64,iD,bV,av,ge_iff_le]
def dQ (g:Nat) (E:List Int):VL.Obj:=⟨g,true,1,E.map λx=>[i64 x]⟩
theorem sR (n g:Nat) (E:List Int):bJ n (dQ g E)=true:=by unfold bJ dQ;rw[adE];intro e he;obtain⟨x,_,rfl⟩:=List.mem_map.1 he;rfl
theorem FX (ρ:List Nat) (g:Nat) (E:List Int):bp ρ (dQ g E)=dQ g E:=by unfold bp dQ;simp only[List.map_map];congr 1
theorem Qr {L E:List Int} (h:L <+: E):E.take L.length=L:=by obtain⟨r,rfl⟩:=h;simp
def ta (L:List Int) (re:Re):List Int:=if re.op=5 then L++[re.n] else L
theorem Pm (re:Re) (L:List Int) (hv:re.every zj=true):re.comp L=if re.op=4/\(re.mode=2\/(re.kids.headD re).gu=true) then false
  else if re.op=5/\re.n∈L then false
  else if 5<re.op/\re.op≠11 then false
  else re.kids.all λk=>k.comp (ta L re):=by
 rw[Re.js];obtain⟨h1,h2⟩:=(Re.aQ re).1 hv;cases hk:re.kids with
 |nil =>
  by_cases h4:re.op=4
  ·exfalso;unfold zj at h1;simp [h4,hk]at h1
  ·have e1:¬(re.op=4/\(re.mode=2\/Re.lC ([]:List Re)=true)):=λh=>h4 h.1;have e2:¬(re.op=4/\(re.mode=2\/(([]:List Re).headD re).gu=true)):=λh=>h4 h.1;rw[am e1,am e2];rfl
 |cons k l =>
  have e:Re.lC (k::l)=k.gu:=by rw[N7 k (h2 k (by rw[hk];simp))];simp [Re.lC]
  rw[e];rfl
def Wb (re:Re) (L:List Int) (g:Nat) (e:VL.Env) (s:List VL.Obj):Prop :=
 e 0=.d (.el re.cells)/\re.comp L=(re.kids.all λk=>k.comp (ta L re))/\((∃E,e 1=.so 0 g 0 (ta L re).length/\s=[dQ g E]/\ta L re <+: E) \/
  (∃E0 E1,e 1=.so 1 0 0 (ta L re).length/\s=[dQ g E0,dQ 0 E1]/\L <+: E0/\ta L re <+: E1))
theorem Bg (re:Re):re.every zj=true->re.eN=true->∀(L E:List Int) (g:Nat),L <+: E->L.length+re.size<=1000000 ->
  au prog 14 [.d (.el re.cells),.so 0 g 0 L.length] [dQ g E] λv s=>v=bV (re.comp L)/\∃E',s=[dQ g E']/\L <+: E':=by
 refine Re.ind (Q:=λre=>re.every zj=true->re.eN=true->∀(L E:List Int) (g:Nat),L <+: E->L.length+re.size<=1000000 ->
  au prog 14 [.d (.el re.cells),.so 0 g 0 L.length] [dQ g E] λv s=>v=bV (re.comp L)/\∃E',s=[dQ g E']/\L <+: E') (λre ih hv hf L E g Qa gf=>?_) re
 obtain⟨nV,hlen,A4⟩:=Re.fC hf;obtain⟨U0,Jh⟩:=(Re.aQ re).1 hv;have gz:=Pm re L hv;have hLE:L.length<=E.length:=Qa.length_le;have tG:=Qr Qa;refine S1 func14 rfl ntmps14 results14 rfl 1 6755399441057331 [14] (by simp) (by simp) ?_;rw[wT];simp only[zX,simprocAttr,-Int.reduceNatCast',pY,ad7,ad8,aea,adq,if_false,if_true,i64,bV];refine MC (Wb re L g) ?_ ?_
 ·intro B hB;have AL:((dQ g E).aI.all λe=>e.all (ak 1))=true:=sR 1 g E;have kS:∀(op:Int),re.op=op->op≠5->ta L re=L:=λop h h5=>am (by omega);have Lo:re.comp L=false->(((dQ g E).aI.all λe=>e.all (ak 1))=true/\V.d (D.sc (.bool false))=bV (re.comp L)/\∃E',[dQ g E]=[dQ g E']/\L <+: E'):=λh=>⟨AL,by rw[h];rfl,E,rfl,Qa⟩
  by_cases o4:re.op=4
  ·obtain⟨k,hk⟩:∃k,re.kids=[k]:=by have h4:=(of_decide_eq_true U0).2.2.1 o4;exact List.length_eq_one_iff.1 h4.1
   by_cases m2:re.mode=2
   ·rw[ap ⟨o4,.inl m2⟩]at gz;rw[gz];simp only[zX,simprocAttr,-Int.reduceNatCast',A7,ad7,ad8,aea,adq,if_false,if_true,i64,bV,iD,bD,Re.ae re,o4,m2];exact⟨AL,E,rfl,Qa⟩
   ·have RP:=Ft k (A4 k (by rw[hk];simp));simp only[aq,i64,bV,iD,bD]at RP;cases hn:k.gu with
    |true =>
     rw[ap ⟨o4,.inr (by rw[hk];exact hn)⟩]at gz;rw[gz];simp only[zX,simprocAttr,-Int.reduceNatCast',A7,ad7,ad8,aea,adq,if_false,if_true,i64,bV,iD,bD,Re.ae re,o4,m2,hk,Re.ae k,adG,adP];refine⟨by decide,az RP rfl rfl ?_⟩;simp only[zX,simprocAttr,-Int.reduceNatCast',A7,ad7,ad8,aea,adq,if_false,if_true,i64,bV,iD,bD,hn];exact⟨AL,E,rfl,Qa⟩
    |false =>
     have hJ:ta L re=L:=kS 4 o4 (by decide);simp only[zX,simprocAttr,-Int.reduceNatCast',A7,ad7,ad8,aea,adq,if_false,if_true,i64,bV,iD,bD,Re.ae re,o4,m2,hk,Re.ae k,adG,adP];refine⟨by decide,az RP rfl rfl ?_⟩;simp only[zX,simprocAttr,-Int.reduceNatCast',A7,ad7,ad8,aea,adq,if_false,if_true,i64,bV,iD,bD,hn];refine hB _ _ ⟨?_,?_,.inl ⟨E,?_,rfl,?_⟩⟩
     ·rw[Re.ae re,o4,hk,adG,adP,Re.ae k];rfl
     ·rw[gz,am (by rintro ⟨_,h|h⟩;exact m2 h;rw[hk]at h;rw[show ([k]:List Re).headD re=k from rfl,hn]at h;cases h),am (λh=>by omega),am (by omega)]
     ·first|rfl|(rw[hJ];rfl)
     ·rw[hJ];exact Qa
  ·by_cases o5:re.op=5
   ·have hJ:ta L re=L++[re.n]:=ap o5;have Zv:=C6 L re.n (by omega);have RD:bf.go (bg [dQ g E] [0]).length (bg [dQ g E] [0]) [.so 0 g 0 L.length,i64 re.n]=some [.d (av L),i64 re.n]:=by have h1:bf 1 [⟨g,false,1,E.map λx=>[i64 x]⟩] (.so 0 g 0 L.length)=some (.d (av L)):=ru (live:=false) rfl (by rw[List.drop_zero,<- List.map_take,tG,List.map_map];rfl) (by rw[ado];omega) (.inr rfl);show bf.go 1 [⟨g,false,1,E.map λx=>[i64 x]⟩] [.so 0 g 0 L.length,i64 re.n]=_;simp only[bf.go,h1];rfl
    simp only[bV]at Zv;by_cases hc:re.n∈L
    ·rw[am (λh=>o4 h.1),ap ⟨o5,hc⟩]at gz;rw[gz];simp only[zX,simprocAttr,-Int.reduceNatCast',A7,ad7,ad8,aea,adq,if_false,if_true,i64,bV,iD,bD,Re.ae re,o5];refine eP [0] Zv RD rfl ?_;simp only[zX,simprocAttr,-Int.reduceNatCast',A7,ad7,ad8,aea,adq,if_false,if_true,i64,bV,iD,bD,adu hc];exact⟨AL,E,rfl,Qa⟩
    ·simp only[zX,simprocAttr,-Int.reduceNatCast',A7,ad7,ad8,aea,adq,if_false,if_true,i64,bV,iD,bD,Re.ae re,o5];refine eP [0] Zv RD rfl ?_;simp only[zX,simprocAttr,-Int.reduceNatCast',A7,ad7,ad8,aea,adq,if_false,if_true,i64,bV,iD,bD,adl hc,oZ];have cZ:re.comp L=(re.kids.all λk=>k.comp (ta L re)):=by rw[gz,am (λh=>o4 h.1),am (λh=>hc h.2),am (by omega)]
     refine⟨λe he=>by rw[List.mem_singleton.1 he];rfl,rfl,⟨rfl,rfl,?_,by omega⟩,?_,?_⟩
     ·show 0+L.length<=(E.map λx=>[i64 x]).length;rw[ado];omega
     ·refine hB _ _ ⟨?_,cZ,.inl ⟨E.take L.length++[re.n]++E.drop (L.length+1),?_,?_,?_⟩⟩
      ·rw[Re.ae re,o5];rfl
      ·rw[hJ,adx];rfl
      ·simp [dQ,i64]
      ·rw[hJ,tG];exact⟨_,rfl⟩
     ·refine hB _ _ ⟨?_,cZ,.inr ⟨E,L++[re.n],?_,?_,Qa,by rw[hJ];exact List.prefix_refl _⟩⟩
      ·rw[Re.ae re,o5];rfl
      ·rw[hJ,adx];rfl
      ·have:List.take L.length (dQ g E).aI=L.map λx=>[i64 x]:=by show List.take L.length (E.map λx=>[i64 x])=_;rw[<- List.map_take,tG]
       rw[this];simp [dQ,i64]
   ·by_cases oc:5<re.op/\re.op≠11
    ·rw[am (λh=>o4 h.1),am (λh=>o5 h.1),ap oc]at gz;rw[gz];have n0:¬re.op=0:=by omega
     have n1:¬re.op=1:=by omega
     have n11:¬re.op=11:=by omega
     have n2:¬re.op=2:=by omega
     have n3:¬re.op=3:=by omega
     simp only[zX,simprocAttr,-Int.reduceNatCast',A7,ad7,ad8,aea,adq,if_false,if_true,i64,bV,iD,bD,Re.ae re,n0,n1,n11,n2,n3,o4,o5];exact⟨AL,E,rfl,Qa⟩
    ·have hJ:ta L re=L:=am o5;have h0:=(of_decide_eq_true U0).1;have ho:re.op=0\/re.op=1\/re.op=11\/re.op=2\/re.op=3:=by omega
     rcases ho with ho|ho|ho|ho|ho;all_goals
      simp only[zX,simprocAttr,-Int.reduceNatCast',A7,ad7,ad8,aea,adq,if_false,if_true,i64,bV,iD,bD,Re.ae re,ho];refine hB _ _ ⟨?_,?_,.inl ⟨E,?_,rfl,?_⟩⟩
      ·rw[Re.ae re,ho];rfl
      ·rw[gz,am (λh=>o4 h.1),am (λh=>o5 h.1),am oc]
      ·first|rfl|(rw[hJ];rfl)
      ·rw[hJ];exact Qa
 ·have hAs:(ta L re).length<=L.length+1:=by unfold ta;split <;> simp
  have ZK:L <+: ta L re:=by unfold ta;split;exact List.prefix_append _ _;exact List.prefix_refl _
  have SC:=Re.ot re.kids;unfold Wb;generalize ta L re=A at *;rintro e s ⟨h0,cZ,⟨E,h1,rfl,hA⟩|⟨E0,E,h1,rfl,hL0,hA⟩⟩
  case inl =>
   simp only[zX,simprocAttr,-Int.reduceNatCast',A7,ad7,ad8,aea,adq,if_false,if_true,i64,bV,iD,bD,h0,h1,Re.ae re,ado];refine AJ (λn e s=>∃(i:Nat) (E:List Int),n=re.kids.length-i/\i<=re.kids.length/\e 0=.d (.el re.cells)/\e 1=.so 0 g 0 A.length/\e 51=i64 re.kids.length/\e 52=i64 i/\(∀k∈re.kids.take i,k.comp A=true)/\A <+: E/\s=[dQ g E])
    ⟨_,_,_,cU.refl,0,E,rfl,by omega,h0,h1,rfl,rfl,by simp,hA,rfl⟩ ?_
   clear hA;rintro n e s ⟨i,E,rfl,hi,h0,h1,Ko,Rw,dg,hA,rfl⟩;rcases adV i re.kids.length with aH|iP
   ·obtain⟨k,hk⟩:∃k,re.kids[i]?=some k:=⟨_,adn aH⟩
    have hm:=adw hk;have bo:(i:Int)<(re.kids.length:Int):=by omega
    have hi0:(0:Int)<=(i:Int):=by omega
    simp only[zX,simprocAttr,-Int.reduceNatCast',A7,ad7,ad8,aea,adq,if_false,if_true,i64,bV,iD,bD,h0,h1,Ko,Rw,Re.ae re,bo,hi0,aH,adR,hk,ado];refine aj (ih k hm (Jh k hm) (A4 k hm) A E g hA (by have:=Re.dr hm;omega)) (λv s' hv=>?_);obtain⟨rfl,E',rfl,Xz⟩:=hv;cases jl:k.comp A with
    |false =>
     have hr:re.comp L=false:=by rw[cZ,aee];intro h;rw[adE]at h;have:=h k hm;rw[jl]at this;cases this
     rw[hr];simp only[zX,simprocAttr,-Int.reduceNatCast',A7,ad7,ad8,aea,adq,if_false,if_true,i64,bV,iD,bD,h0,h1,Ko,Rw];exact⟨sR 1 g E',E',rfl,ZK.trans Xz⟩
    |true =>
     simp only[zX,simprocAttr,-Int.reduceNatCast',A7,ad7,ad8,aea,adq,if_false,if_true,i64,bV,iD,bD,h0,h1,Ko,Rw,ads];refine⟨re.kids.length-(i+1),_,_,by omega,cU.refl,i+1,E',rfl,aH,?_,?_,?_,?_,?_,Xz,rfl⟩ <;> (try simp only[zU,Nat.reduceBEq,Nat.reduceShiftRight,Nat.reduceMod,Nat.reduceEqDiff,reduceIte])
     ·rw[h0,Re.ae re];rfl
     ·exact h1
     ·exact Ko
     ·rw[bM _ (by omega)];rfl
     ·intro x hx;rcases eF hk hx with h|rfl
      ·exact dg x h
      ·exact jl
   ·have fy:i=re.kids.length:=by omega
    subst fy;have hr:re.comp L=true:=by rw[cZ,adE];exact λk hk=>dg k (by rw[adZ];exact hk)
    rw[hr];simp only[zX,simprocAttr,-Int.reduceNatCast',A7,ad7,ad8,aea,adq,if_false,if_true,i64,bV,iD,bD,h0,h1,Ko,Rw,Int.lt_irrefl];exact⟨sR 1 g E,E,rfl,ZK.trans hA⟩
  case inr =>
   simp only[zX,simprocAttr,-Int.reduceNatCast',A7,ad7,ad8,aea,adq,if_false,if_true,i64,bV,iD,bD,h0,h1,Re.ae re,ado];refine AJ (λn e s=>∃(i:Nat) (E:List Int),n=re.kids.length-i/\i<=re.kids.length/\e 0=.d (.el re.cells)/\e 1=.so 1 0 0 A.length/\e 51=i64 re.kids.length/\e 52=i64 i/\(∀k∈re.kids.take i,k.comp A=true)/\A <+: E/\s=[dQ g E0,dQ 0 E])
    ⟨_,_,_,cU.refl,0,E,rfl,by omega,h0,h1,rfl,rfl,by simp,hA,rfl⟩ ?_
   clear hA;rintro n e s ⟨i,E,rfl,hi,h0,h1,Ko,Rw,dg,hA,rfl⟩;rcases adV i re.kids.length with aH|iP
   ·obtain⟨k,hk⟩:∃k,re.kids[i]?=some k:=⟨_,adn aH⟩
    have hm:=adw hk;have bo:(i:Int)<(re.kids.length:Int):=by omega
    have hi0:(0:Int)<=(i:Int):=by omega
    simp only[zX,simprocAttr,-Int.reduceNatCast',A7,ad7,ad8,aea,adq,if_false,if_true,i64,bV,iD,bD,h0,h1,Ko,Rw,Re.ae re,bo,hi0,aH,adR,hk,ado];refine pT (ih k hm (Jh k hm) (A4 k hm) A E 0 hA (by have:=Re.dr hm;omega)) [1] rfl (by simp) ?_ ?_ rfl (by simp only[List.all_cons,List.all_nil,sR,Bool.and_true,adA,adF]) (λv s' hv=>?_)
    ·intro j o hj
     match j with
     |0 =>
      simp only[adU,adp]at hj;subst hj;show some (dQ 0 E)=some (bp [1] (dQ 0 E));rw[FX]
     |j+1=>simp at hj
    ·rfl
    obtain⟨rfl,E',rfl,Xz⟩:=hv;refine⟨rfl,?_⟩;rw[show aX [1] (bV (k.comp A))=bV (k.comp A) from rfl];simp only[adG,adP,FX,aZ,ad6,ad0];cases jl:k.comp A with
    |false =>
     have hr:re.comp L=false:=by rw[cZ,aee];intro h;rw[adE]at h;have:=h k hm;rw[jl]at this;cases this
     rw[hr];simp only[zX,simprocAttr,-Int.reduceNatCast',A7,ad7,ad8,aea,adq,if_false,if_true,i64,bV,iD,bD,h0,h1,Ko,Rw];exact⟨sR 1 g E0,E0,rfl,hL0⟩
    |true =>
     simp only[zX,simprocAttr,-Int.reduceNatCast',A7,ad7,ad8,aea,adq,if_false,if_true,i64,bV,iD,bD,h0,h1,Ko,Rw,ads];refine⟨re.kids.length-(i+1),_,_,by omega,cU.refl,i+1,E',rfl,aH,?_,?_,?_,?_,?_,Xz,rfl⟩ <;> (try simp only[zU,Nat.reduceBEq,Nat.reduceShiftRight,Nat.reduceMod,Nat.reduceEqDiff,reduceIte])
     ·rw[h0,Re.ae re];rfl
     ·exact h1
     ·exact Ko
     ·rw[bM _ (by omega)];rfl
     ·intro x hx;rcases eF hk hx with h|rfl
      ·exact dg x h
      ·exact jl
   ·have fy:i=re.kids.length:=by omega
    subst fy;have hr:re.comp L=true:=by rw[cZ,adE];exact λk hk=>dg k (by rw[adZ];exact hk)
    rw[hr];simp only[zX,simprocAttr,-Int.reduceNatCast',A7,ad7,ad8,aea,adq,if_false,if_true,i64,bV,iD,bD,h0,h1,Ko,Rw,Int.lt_irrefl];exact⟨sR 1 g E0,E0,rfl,hL0⟩
def EM:bR:=⟨0,0,0,0,[]⟩
def fq (k n:Nat):VL.Obj:=⟨0,true,1,[[.so k n 0 n]]⟩
def ks (C:List bR):VL.Obj:=⟨C.length,true,5,(C.map bR.cells).map λc=>c.map V.d⟩
theorem CR (n:Nat) (C:List bR):bJ n (ks C)=true:=by unfold bJ ks;rw[adE];intro e he;obtain⟨c,hc,rfl⟩:=List.mem_map.1 he;rw[adE];intro x hx;obtain⟨d,_,rfl⟩:=List.mem_map.1 hx;rfl
theorem zt (ρ:List Nat) (C:List bR):bp ρ (ks C)=ks C:=by unfold bp ks;simp only[List.map_map];congr 1
def Ej (x:bR):V:=.ag [i64 x.op,i64 x.x,i64 x.y,i64 x.n,.d (.sl (x.set.map aN))]
theorem Qt (C:List bR) (hC:C.length<=1000000000000) (x:bR):au prog 37 [Ej x,.rf 0 0 0 0] [fq 1 C.length,ks C] λv s=>v=i64 C.length/\s=[fq 1 (C.length+1),ks (C++[x])]:=by
 have hg:(ks C).g=C.length:=rfl;have hz:(ks C).sz=5:=rfl;have he:(ks C).aI=(C.map bR.cells).map λc=>c.map V.d:=rfl;have hl:(ks C).live=true:=rfl;have w1:IntKind.i64.wrap (((C.length:Int)+1)-1)=(C.length:Int):=by rw[bM _ (by omega)];omega
 refine ar func37 rfl ntmps37 results37 rfl 2 15 (by simp) (by simp) ?_;simp only[zX,simprocAttr,i64,bV,iD,bD,Ej,fq,hg,hz,he,hl,ado];have hN:List.take C.length (List.map (λx=>List.map V.d x) (List.map bR.cells C))++[[V.d (D.sc (Value.int IntKind.i64 x.op)),V.d (D.sc (Value.int IntKind.i64 x.x)),V.d (D.sc (Value.int IntKind.i64 x.y)),V.d (D.sc (Value.int IntKind.i64 x.n)),V.d (D.sl (List.map aN x.set))]]=((C++[x]).map bR.cells).map λc=>c.map V.d:=by rw[adT (by simp)];simp [bR.cells,iD]
 rw[hN];refine⟨λe he=>by rw[List.mem_singleton.1 he];rfl,⟨by omega,by omega⟩,?_,by rw[aef];exact w1,?_⟩
 ·have:=CR 2 (C++[x]);exact this
 ·simp [ks]
def bI (C:List bR):List VL.Obj:=[fq 5 C.length,
 ⟨0,true,1,[[.cl (.func 37) [] [.rf 0 0 0 0]]]⟩,
 ⟨0,true,1,[[.cl (.func 41) [] [.rf 1 0 0 0,.rf 2 0 0 0,.rf 4 0 0 0,.rf 3 0 0 0]]]⟩,
 ⟨0,true,1,[[.cl (.func 38) [] [.rf 2 0 0 0,.rf 1 0 0 0,.rf 0 0 0 0]]]⟩,
 ⟨0,true,1,[[.cl (.func 40) [] [.rf 1 0 0 0,.rf 2 0 0 0,.rf 0 0 0 0]]]⟩,ks C]
theorem F5 (C:List bR) (hC:C.length<=1000000000000) (x:bR){K:V->List VL.Obj->Prop} (hk:K (i64 C.length) (bI (C++[x])++tl)):au prog 37 [Ej x,.rf 0 0 0 0] (bI C++tl) K:=by
 have e0:∀n,bp [0,5] (fq 1 n)=fq 5 n:=λn=>by simp [bp,fq,aX,aX.go]
 refine gx [0,5] (Qt C hC x) (by simp) (by rfl) ?_ ?_ (by rfl) ?_ (r':=i64 C.length) rfl ?_
 ·simp only[adG,adP,e0,zt];rfl
 ·simp [Ej,aX,aX.go,i64]
 ·simp only[List.all_cons,List.all_nil,CR,Bool.and_true,adA,adF];simp [bJ,fq,ak]
 ·simp only[adG,adP,e0,zt,aZ,bI,adr,adt,ad0,ad6];simpa [bI]using hk
theorem kR (C:List bR) (hC:C.length<=1000000000000) (op x y n:Int){K:V->List VL.Obj->Prop} (hk:K (i64 C.length) (bI (C++[⟨op,x,y,n,[]⟩])++tl)):au prog 37 [.ag [i64 op,i64 x,i64 y,i64 n,.fu []],.rf 0 0 0 0] (bI C++tl) K :=
 aY [] (cargs:=[Ej ⟨op,x,y,n,[]⟩,.rf 0 0 0 0]) (by simp only[bg,List.foldl_nil,bf.go,bf,Ej,i64];simp [bf,bf.go,cE,bI,fq]) (F5 C hC _ (by simpa [bg]using hk))
theorem BL (C:List bR):(bI C).map (bp [0,1,2,3,4,5])=bI C:=by simp only[bI,adG,adP,zt];simp [bp,fq,aX,aX.go]
theorem ir (C:List bR):(bI C).all (bJ 6)=true:=by simp only[bI,List.all_cons,List.all_nil,CR,Bool.and_true];simp [bJ,fq,ak,ak.go]
def lN (re:Re):List V:=[.d (.el re.cells),.rf 1 0 0 0,.rf 2 0 0 0,.rf 4 0 0 0,.rf 3 0 0 0]
def Ug (re:Re):Prop:=∀C:List bR,C.length+100000000*re.size<=1000000000000 ->
 au prog 41 (lN re) (bI C) λv s=>v=.tu []/\s=bI (C++re.code C.length)
theorem pN {f:FuncId}{args:List V}{C C':List bR} (h:au prog f args (bI C) λv s=>v=.tu []/\s=bI C') (ha:args=args.map (aX [0,1,2,3,4,5])) (x8:ak.go 6 args=true){K:V->List VL.Obj->Prop} (hk:K (.tu []) (bI C'++tl)):au prog f args (bI C++tl) K:=by
 have hr:=BL C';refine gx [0,1,2,3,4,5] h (by decide) rfl ?_ ha x8 (ir C) (r':=.tu []) rfl ?_
 ·have:=BL C;have h2:(bI C).map (λo=>some (bp [0,1,2,3,4,5] o))=((bI C).map (bp [0,1,2,3,4,5])).map some:=by rw[List.map_map];rfl
  rw[h2,this];rfl
 ·rw[hr];exact hk
def Sg (C:List bR):List VL.Obj:=bI C
def qt (re:Re):List V:=[.d (.el re.cells),.rf 2 0 0 0,.rf 1 0 0 0,.rf 0 0 0 0]
def rJ (l:List Re):List V:=[.d (.sl (l.map Re.cells)),.rf 1 0 0 0,.rf 2 0 0 0,.rf 0 0 0 0]
theorem ue (C:List bR):List.take 6 (bI C)=bI C:=rfl
def ZV (re:Re):Prop:=∀C:List bR,C.length+100000000*re.size<=1000000000000 ->
 au prog 38 (qt re) (bI C) λv s=>v=.tu []/\s=bI (C++tg (λi=>Re.oM re.kids i) re.mn re.mx re.mode re.fw C.length)
def AOK (l:List Re):Prop:=∀C:List bR,(∀k∈l,C.length+100000000*k.size+100000000<=1000000000000) ->
 au prog 40 (rJ l) (bI C) λv s=>v=.tu []/\s=bI (C++Re.dA l C.length)
theorem O2 (re:Re) (hs:re.every pZ=true) (hz:re.fw<=8500) (hW:¬gY re->∀k∈re.kids,Ug k) (hR:re.op=4->ZV re) (hA:re.op=3->AOK re.kids):Ug re:=by
 intro C hC;obtain⟨eC,lP⟩:=(Re.aQ re).1 hs;obtain⟨vZ,xV,Ig,hk0⟩:=eY.1 eC;obtain⟨q1,q2,q3,q4,_,_,_,_,_,abE⟩:=eW.1 (eU.1 vZ).1;rcases xV with o|o|o|o|o|o|o
 ·have hc:re.code C.length=[]:=by rw[Re.fe,am (by omega),am (by omega),am (by omega),am (by omega),am (by omega),am (by omega)]
  rw[hc,adS];refine ar func41 rfl ntmps41 results41 rfl 6 206158431327 (adB 6) (by first|decide|(simp [lN,qt,rJ];done)) ?_;simp only[zX,simprocAttr,-Int.reduceNatCast',i64,bV,iD,bD,lN,Re.ae re,o,adS,ue,ir]
 ·have nn:re.fw=1:=by rw[Re.D6,jv,ap (.inl o)];rfl
  have hc:re.code C.length=[⟨1,0,0,0,re.set⟩]:=by rw[Re.fe,ap o]
  rw[hc];have cZ:=tz re.set (by omega);refine ar func41 rfl ntmps41 results41 rfl 6 206158431327 (adB 6) (by first|decide|(simp [lN,qt,rJ];done)) ?_;simp only[zX,simprocAttr,-Int.reduceNatCast',i64,bV,iD,bD,lN,bI,Re.ae re,o];refine ao mix [7] [] (by rfl) ?_;simp only[zX,simprocAttr,-Int.reduceNatCast',i64,bV,iD,bD,bI,fq,o];refine bY cZ rfl rfl ?_;simp only[zX,simprocAttr,-Int.reduceNatCast',i64,bV,iD,bD,bI,fq,o,adr,adt,adS];refine bj (F5 C (by omega) ⟨1,0,0,0,re.set⟩ (tl:=[]) ⟨rfl,rfl⟩) ?_;simp only[zX,simprocAttr,-Int.reduceNatCast',i64,bV,iD,bD,adS,ue,ir];rfl
 ·have hc:re.code C.length=Re.da re.kids C.length:=by rw[Re.fe,am (by omega),am (by omega),ap o]
  have Q6:=rS hs (by omega) ⟨by omega,by omega⟩;have AZ:∀k∈re.kids,∀f,((k.code f).length:Int)=k.fw:=λk hk=>jY k (lP k hk) (Q6.2 k hk);have cZ:∀i,((Re.da (re.kids.take i) C.length).length:Int)<=10000000:=λi=>by rw[xB (λk hk=>AZ k (List.mem_of_mem_take hk)) C.length];have:=(iz (l:=re.kids.take i) (λk hk=>fo k (iB (lP k (List.mem_of_mem_take hk))))).2;rw[ad5]at this;omega
  rw[hc];refine ar func41 rfl ntmps41 results41 rfl 6 206158431327 (adB 6) (by first|decide|(simp [lN,qt,rJ];done)) ?_;simp only[zX,simprocAttr,-Int.reduceNatCast',i64,bV,iD,bD,lN,Re.ae re,o,ado];refine aJ (λn e s=>∃i:Nat,n=re.kids.length-i/\i<=re.kids.length/\e 0=.d (.el re.cells)/\e 2=.rf 2 0 0 0/\e 36=i64 re.kids.length/\e 37=i64 i/\s=Sg (C++Re.da (re.kids.take i) C.length))
   ⟨_,_,_,cU.refl,0,rfl,by omega,by rw[Re.ae re,o];rfl,rfl,rfl,rfl,by simp [Re.da,Sg]⟩ ?_
  rintro n e s ⟨i,rfl,hi,h0,h2,WO,HK,rfl⟩;rcases adV i re.kids.length with aH|iP
  ·obtain⟨k,hk⟩:∃k,re.kids[i]?=some k:=⟨_,adn aH⟩
   have hm:=adw hk;have bo:(i:Int)<(re.kids.length:Int):=by omega
   have hi0:(0:Int)<=(i:Int):=by omega
   have Ef:k.size<re.size:=Re.dr hm;have hb:=cZ i;have hw:=hW (by unfold gY;omega) k hm (C++Re.da (re.kids.take i) C.length) (by rw[adx];omega);have No:C++Re.da (re.kids.take i) C.length++k.code (C++Re.da (re.kids.take i) C.length).length=C++Re.da (re.kids.take (i+1)) C.length:=by rw[cy hk,Re.vx,adX,adx,aef]
   rw[No]at hw;generalize C++Re.da (re.kids.take i) C.length=C1 at *;generalize VU:C++Re.da (re.kids.take (i+1)) C.length=C2 at *;rw[show Sg C1=bI C1 from rfl];simp only[zX,simprocAttr,-Int.reduceNatCast',i64,bV,iD,bD,h0,h2,WO,HK,Re.ae re,bo];refine ao mix [7] [] (by rfl) ?_;simp only[zX,simprocAttr,-Int.reduceNatCast',i64,bV,iD,bD,bI,fq,h0,h2,WO,HK,Re.ae re,bo,hi0,aH,adR,hk,ado,adr,adt,adS];refine bj (pN hw (by rfl) (by rfl) (tl:=[]) ⟨rfl,rfl⟩) ?_;simp only[zX,simprocAttr,-Int.reduceNatCast',i64,bV,iD,bD,h0,h2,WO,HK,adS];refine⟨re.kids.length-(i+1),_,_,by omega,cU.refl,i+1,rfl,aH,?_,?_,?_,?_,by rw[VU];rfl⟩ <;> (try simp only[zU,Nat.reduceBEq,Nat.reduceShiftRight,Nat.reduceMod,Nat.reduceEqDiff,reduceIte])
   ·rw[h0,Re.ae re];rfl
   ·exact h2
   ·exact WO
   ·rw[bM _ (by omega)];rfl
  ·have fy:i=re.kids.length:=by omega
   subst fy;rw[adZ];simp only[zX,simprocAttr,-Int.reduceNatCast',i64,bV,iD,bD,h0,h2,WO,HK,Int.lt_irrefl,ue,ir];exact⟨ir _,rfl⟩
 ·have hc:re.code C.length=Re.dA re.kids C.length:=by rw[Re.fe,am (by omega),am (by omega),am (by omega),ap o]
  have hw:=hA o C (λk hk=>by have:=Re.dr hk;omega);rw[hc];generalize C++Re.dA re.kids C.length=C2 at *;refine ar func41 rfl ntmps41 results41 rfl 6 206158431327 (adB 6) (by first|decide|(simp [lN,qt,rJ];done)) ?_;simp only[zX,simprocAttr,-Int.reduceNatCast',i64,bV,iD,bD,lN,bI,Re.ae re,o];refine ao mix [5] [] (by rfl) ?_;simp only[zX,simprocAttr,-Int.reduceNatCast',i64,bV,iD,bD,bI,fq,o,adr,adt,adS];refine bj (pN hw (by rfl) (by rfl) (tl:=[]) ⟨rfl,rfl⟩) ?_;simp only[zX,simprocAttr,-Int.reduceNatCast',i64,bV,iD,bD,adS,ue,ir];rfl
 ·have hc:re.code C.length=tg (λi=>Re.oM re.kids i) re.mn re.mx re.mode re.fw C.length:=by rw[Re.fe,am (by omega),am (by omega),am (by omega),am (by omega),am (by omega),ap o]
  have hw:=hR o C hC;rw[hc];generalize C++tg (λi=>Re.oM re.kids i) re.mn re.mx re.mode re.fw C.length=C2 at *;refine ar func41 rfl ntmps41 results41 rfl 6 206158431327 (adB 6) (by first|decide|(simp [lN,qt,rJ];done)) ?_;simp only[zX,simprocAttr,-Int.reduceNatCast',i64,bV,iD,bD,lN,bI,fq,Re.ae re,o,adr,adt,adS];unfold qt at hw;rw[Re.ae re,o]at hw;refine pN hw (by rfl) (by rfl) (tl:=[]) ?_;simp only[zX,simprocAttr,-Int.reduceNatCast',i64,bV,iD,bD,adS,ue,ir];rfl
 ·obtain⟨k,hk⟩:∃k,re.kids=[k]:=List.length_eq_one_iff.1 (Ig (.inr o));have hc:re.code C.length=kE (2*re.n-2)::(k.code (C.length+1)++[kE (2*re.n-1)]):=by rw[Re.fe,am (by omega),am (by omega),am (by omega),am (by omega),ap o,hk];rfl
  have hm:k∈re.kids:=by rw[hk];simp
  have Ef:k.size<re.size:=Re.dr hm;have hw:=hW (by unfold gY;omega) k hm (C++[kE (2*re.n-2)]) (by rw[adx];simp only[adA,adF];omega);have oV:((C++[kE (2*re.n-2)]).length:Int)=C.length+1:=by simp
  rw[oV]at hw;have AZ:=jY k (lP k hm) ((rS hs (by omega) ⟨by omega,by omega⟩).2 k hm) (C.length+1);have Qf:=(fo k (iB (lP k hm))).2;have wn1:IntKind.i64.wrap (2*re.n)=2*re.n:=bM _ (by omega);have wn2:IntKind.i64.wrap (2*re.n-2)=2*re.n-2:=bM _ (by omega);have wn3:IntKind.i64.wrap (2*re.n-1)=2*re.n-1:=bM _ (by omega);rw[hc,show C++kE (2*re.n-2)::(k.code (C.length+1)++[kE (2*re.n-1)])=C++[kE (2*re.n-2)]++k.code (C.length+1)++[kE (2*re.n-1)] by simp];have wD:=λK hk=>kR C (by omega) 4 0 0 (2*re.n-2) (tl:=[]) (K:=K) hk;have hCl:(C++[kE (2*re.n-2)]++k.code (C.length+1)).length<=1000000000000:=by simp only[adx,adA,adF];omega
  have P9:=λK hk=>kR (C++[kE (2*re.n-2)]++k.code (C.length+1)) hCl 4 0 0 (2*re.n-1) (tl:=[]) (K:=K) hk;rw[show C++[(⟨4,0,0,2*re.n-2,[]⟩:bR)]=C++[kE (2*re.n-2)] from rfl]at wD;rw[show C++[kE (2*re.n-2)]++k.code (C.length+1)++[(⟨4,0,0,2*re.n-1,[]⟩:bR)]=C++[kE (2*re.n-2)]++k.code (C.length+1)++[kE (2*re.n-1)] from rfl]at P9;generalize C++[kE (2*re.n-2)]++k.code (C.length+1)++[kE (2*re.n-1)]=C3 at *;generalize C++[kE (2*re.n-2)]++k.code (C.length+1)=C2 at *;generalize C++[kE (2*re.n-2)]=C1 at *;refine ar func41 rfl ntmps41 results41 rfl 6 206158431327 (adB 6) (by first|decide|(simp [lN,qt,rJ];done)) ?_;simp only[zX,simprocAttr,-Int.reduceNatCast',i64,bV,iD,bD,lN,bI,Re.ae re,o];refine ao mix [8] [] (by rfl) ?_;simp only[zX,simprocAttr,-Int.reduceNatCast',i64,bV,iD,bD,bI,fq,o,adr,adt,adS,wn1,wn2];refine bj (wD _ ⟨rfl,rfl⟩) ?_;simp only[zX,simprocAttr,-Int.reduceNatCast',i64,bV,iD,bD,adS,bI,fq];refine ao mix [6] [] (by rfl) ?_;simp only[zX,simprocAttr,-Int.reduceNatCast',i64,bV,iD,bD,bI,fq,o,adr,adt,adS,hk,adG,adP];refine⟨by decide,?_⟩;refine bj (pN hw (by rfl) (by rfl) (tl:=[]) ⟨rfl,rfl⟩) ?_;simp only[zX,simprocAttr,-Int.reduceNatCast',i64,bV,iD,bD,adS,bI,fq];refine ao mix [8] [] (by rfl) ?_;simp only[zX,simprocAttr,-Int.reduceNatCast',i64,bV,iD,bD,bI,fq,o,adr,adt,adS,wn1,wn3];refine bj (P9 _ ⟨rfl,rfl⟩) ?_;simp only[zX,simprocAttr,-Int.reduceNatCast',i64,bV,iD,bD,adS,ue,ir];rfl
 ·have nn:re.fw=1:=by rw[Re.D6,jv,ap (.inr o)];rfl
  have hc:re.code C.length=[⟨5,0,0,re.n,[]⟩]:=by rw[Re.fe,am (by omega),ap o]
  rw[hc];refine ar func41 rfl ntmps41 results41 rfl 6 206158431327 (adB 6) (by first|decide|(simp [lN,qt,rJ];done)) ?_;simp only[zX,simprocAttr,-Int.reduceNatCast',i64,bV,iD,bD,lN,bI,Re.ae re,o];refine ao mix [6] [] (by rfl) ?_;simp only[zX,simprocAttr,-Int.reduceNatCast',i64,bV,iD,bD,bI,fq,o,adr,adt,adS];refine bj (kR C (by omega) 5 0 0 re.n (tl:=[]) ⟨rfl,rfl⟩) ?_;simp only[zX,simprocAttr,-Int.reduceNatCast',i64,bV,iD,bD,adS,ue,ir];rfl
end Go.Proofs.Ytphfjhaffbfpfaa
