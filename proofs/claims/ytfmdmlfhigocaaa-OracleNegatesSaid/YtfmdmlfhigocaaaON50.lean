/- A part of the proof (O53 O51). -/
import Derived.Test.YtfmdmlfhigocaaaON24
import Derived.Test.YtfmdmlfhigocaaaON37
import Derived.Test.YtfmdmlfhigocaaaON39
import Derived.Test.YtfmdmlfhigocaaaON43
import Derived.Test.YtfmdmlfhigocaaaON46
import Derived.Test.YtfmdmlfhigocaaaON49
import Derived.Test.YtfmdmlfhigocaaaON42
set_option linter.unusedSimpArgs false
set_option linter.unusedVariables false
open Nat renaming reduceShiftRight → cQ, reduceMod → dx, reduceLT → dB, reduceMul → dC, reduceSub → dD, reduceEqDiff → eI, reduceAdd → eJ, reduceLeDiff → fX, reduceBEq → gj
open Int renaming reduceToNat → gl, reduceNeg → ja, reduceLT → jg, reduceLE → jk, reduceEq → mA
set_option maxRecDepth 100000
set_option maxHeartbeats 80000000
namespace Go.Proofs.Ytfmdmlfhigocaaa
open Go.VL
mutual
def Re.ct:Re->Re
 |.mk op set kids mn mx mode n neg=>.mk op set (Re.Ft kids) mn mx mode n (if op=7\/op=8 then false else neg)
def Re.Ft:List Re->List Re
 |[]=>[]
 |k::l=>k.ct::Re.Ft l
end
theorem BK:∀l:List Re,Re.Ft l=l.map Re.ct
 |[]=>rfl
 |k::l=>by rw[Re.Ft,BK l];rfl
theorem Re.jQ (re:Re):re.ct=.mk re.op re.set (re.kids.map Re.ct) re.mn re.mx re.mode re.n (if re.op=7\/re.op=8 then false else re.neg):=by
 cases re;rw[Re.ct,BK];rfl
theorem qo (re:Re):re.ct.op=re.op:=by rw[Re.jQ];rfl
theorem ib (re:Re):re.ct.kids=re.kids.map Re.ct:=by rw[Re.jQ];rfl
theorem Cm (re:Re):re.ct.mode=re.mode:=by rw[Re.jQ];rfl
theorem Mg (re:Re):re.ct.n=re.n:=by rw[Re.jQ];rfl
theorem Bt (re:Re):re.ct.mn=re.mn:=by rw[Re.jQ];rfl
theorem Io (re:Re):re.ct.mx=re.mx:=by rw[Re.jQ];rfl
theorem M5 (re:Re):re.ct.set=re.set:=by rw[Re.jQ];rfl
theorem Ny (re:Re):re.ct.neg=if re.op=7\/re.op=8 then false else re.neg:=by rw[Re.jQ];rfl
theorem Kh (re:Re):re.ct.size=re.size:=by
 refine Re.ind (Q:=λre=>re.ct.size=re.size) (λre ih=>?_) re;have hL:∀l:List Re,(∀x∈l,x∈re.kids)->Re.bZ (l.map Re.ct)=Re.bZ l:=by
  intro l;induction l with
  |nil=>intro _;rfl
  |cons x l yM=>intro hm;rw[afR,Re.bZ,Re.bZ,ih x (hm x (by simp)),yM λy hy=>hm y (by simp [hy])]
 rw[Re.size_eq,Re.size_eq re,ib,hL re.kids λ_ h=>h]
theorem zG (re:Re):re.ct.looks=re.looks:=by
 refine Re.ind (Q:=λre=>re.ct.looks=re.looks) (λre ih=>?_) re;have hL:∀l:List Re,(∀x∈l,x∈re.kids)->Re.aD (l.map Re.ct)=Re.aD l:=by
  intro l;induction l with
  |nil=>intro _;rfl
  |cons x l yM=>intro hm;rw[afR,Re.aD,Re.aD,ih x (hm x (by simp)),yM λy hy=>hm y (by simp [hy])]
 rw[Re.eA,Re.eA re,ib,qo,hL re.kids λ_ h=>h]
theorem Ok (re:Re):re.ct.gD=re.gD:=by
 refine Re.ind (Q:=λre=>re.ct.gD=re.gD) (λre ih=>?_) re;have hL:∀l:List Re,(∀x∈l,x∈re.kids)->Re.c7 (l.map Re.ct)=Re.c7 l:=by
  intro l;induction l with
  |nil=>intro _;rfl
  |cons x l yM=>intro hm;rw[afR,Re.c7,Re.c7,ih x (hm x (by simp)),yM λy hy=>hm y (by simp [hy])]
 rw[Re.kr,Re.kr re,ib,qo,Bt,Io,hL re.kids λ_ h=>h,afN]
theorem Iy (re:Re):re.ct.depth=re.depth:=by
 refine Re.ind (Q:=λre=>re.ct.depth=re.depth) (λre ih=>?_) re;have:(re.kids.map Re.ct).map Re.depth=re.kids.map Re.depth:=by rw[agy];exact agC λx hx=>ih x hx
 rw[Re.gF,Re.gF re,ib,this]
theorem K6 (re:Re):re.ct.jR=re.jR:=by
 refine Re.ind (Q:=λre=>re.ct.jR=re.jR) (λre ih=>?_) re;have:(re.kids.map Re.ct).map Re.jR=re.kids.map Re.jR:=by rw[agy];exact agC λx hx=>ih x hx
 rw[Re.qw,Re.qw re,ib,qo,Bt,this]
theorem zx {p q:Re->Bool} (h:∀r,p r.ct=q r) (re:Re):re.ct.every p=re.every q:=by refine Re.ind (Q:=λre=>re.ct.every p=re.every q) (λre ih=>?_) re;rw[Bool.eq_iff_iff,Re.aB,Re.aB,h,ib];refine and_congr Iff.rfl ⟨λh k hk=>by rw[<- ih k hk];exact h _ (List.mem_map_of_mem hk),λh k hk=>?_⟩;obtain⟨x,hx,rfl⟩:=List.mem_map.1 hk;rw[ih x hx];exact h x hx
theorem Lj (ak top:Int) (re:Re):bK re.ct ak top=bK re ak top:=by
 unfold bK;rw[qo,ib,M5,Bt,Io,Cm,Mg,Ny,afN];by_cases h:re.op=7\/re.op=8
 ·rw[be h,bi h,Bool.or_true,Bool.or_true]
 ·rw[ap h]
theorem JU (ak top:Int) (re:Re):re.ct.whole ak top=re.whole ak top:=zx (λr=>Lj ak top r) re
theorem Ci (re:Re):∀(A:List Bool) (look:Bool),re.ct.bH A look=re.bH A look:=by
 refine Re.ind (Q:=λre=>∀(A:List Bool) (look:Bool),re.ct.bH A look=re.bH A look) (λre ih A look=>?_) re;have hh:Re.EA (re.kids.map Re.ct)=Re.EA re.kids:=by
  cases re.kids with
  |nil=>rfl
  |cons k l=>exact K6 k
 have hk:∀(A:List Bool) (look:Bool),((re.kids.map Re.ct).all λk=>k.bH A look)=re.kids.all λk=>k.bH A look:=by intro A look;rw[List.all_map];rw[Bool.eq_iff_iff,af8,af8];exact⟨λh x hx=>by rw[<- ih x hx];exact h x hx,λh x hx=>by show x.ct.bH A look=true;rw[ih x hx];exact h x hx⟩
 rw[Re.Be,Re.Be re,qo,ib,Cm,Mg,hh,hk]
theorem wo (re:Re):dm re.ct=dm re:=by unfold dm;rw[Ok]
theorem zq (re:Re):mS re.ct=mS re:=by
 unfold mS;rw[wo,zx (q:=Dp) λr=>?_];unfold Dp Re.lr;rw[qo,ib,List.all_map];congr 1;rw[Bool.eq_iff_iff,af8,af8];refine⟨λh x hx=>?_,λh x hx=>?_⟩
 ·have:=h x hx;simp only[Function.comp_apply,wo]at this;exact this
 ·simp only[Function.comp_apply,wo];exact h x hx
theorem Ks {p q:ic} (h:p.re.ct=q.re.ct) (hc:p.ak=q.ak) (hr:p.aN=q.aN):vO p=vO q:=by
 have hv:∀p:ic,cC p=if 256<p.re.ct.size\/24<p.re.ct.depth then 4 else if p.ak<0\/9<p.ak\/p.re.ct.whole p.ak (gz p.aN)=false then 1 else 0:=λp=>by unfold cC;rw[Kh,Iy,JU]
 have hv2:cC p=cC q:=by rw[hv p,hv q,h,hc,hr]
 unfold vO;rw[hv2,<- Ci p.re,<- Ci q.re,<- zq p.re,<- zq q.re,h]
def Re.flip:Re->Re
 |.mk op set kids mn mx mode n neg=>.mk op set kids mn mx mode n (!neg)
theorem AR (re:Re):re.flip.op=re.op:=by cases re;rfl
theorem uM (re:Re):re.flip.kids=re.kids:=by cases re;rfl
theorem BX (re:Re):re.flip.neg=!re.neg:=by cases re;rfl
theorem Lk (re:Re) (h:re.op=7\/re.op=8):re.flip.ct=re.ct:=by
 cases re with
 |mk op set kids mn mx mode n neg =>
  have h:op=7\/op=8:=h;rw[Re.flip,Re.ct,Re.ct,be h,be h]
theorem EH (re:Re) (h:re.bC=true):re.flip.bC=true:=by cases re;exact h
structure M4 (L L':List (Re×Nat)) (m k:Nat) (r:Re):Prop where
 len:L'.length=L.length
 one:L[m]?=some (r,k)
 two:L'[m]?=some (r.flip,k)
 oth:∀j,j≠m->L'[j]?=L[j]?
 out:∀j x q,j<m->L[j]?=some (x,q)->j+x.looks<=m
theorem M4.app {L L' A B:List (Re×Nat)}{m k:Nat}{r:Re} (h:M4 L L' m k r) (hA:∀j x q,A[j]?=some (x,q)->j+x.looks<=A.length):M4 (A++L++B) (A++L'++B) (A.length+m) k r:=by
 have hm:m<L.length:=(List.getElem?_eq_some_iff.1 h.one).1;have hl:=h.len;refine⟨by simp [hl],?_,?_,λj hj=>?_,λj x q hj hx=>?_⟩
 ·rw[af2 (by simp;omega),af6 (by omega),Nat.add_sub_cancel_left];exact h.one
 ·rw[af2 (by simp;omega),af6 (by omega),Nat.add_sub_cancel_left];exact h.two
 ·by_cases j1:j<A.length
  ·rw[af2 (by simp;omega),af2 j1,af2 (by simp;omega),af2 j1]
  ·by_cases j2:j<A.length+L.length
   ·rw[af2 (by simp;omega),af6 (by omega),af2 (by simp;omega),af6 (by omega)];exact h.oth _ (by omega)
   ·rw[af6 (by simp;omega),af6 (by simp;omega),af7,af7,hl]
 ·by_cases j1:j<A.length
  ·rw[af2 (by simp;omega),af2 j1]at hx;have:=hA j x q hx;omega
  ·rw[af2 (by simp;omega),af6 (by omega)]at hx;have:=h.out (j-A.length) x q (by omega) hx;omega
theorem Nv (re:Re):∀k j x q,(re.bw k)[j]?=some (x,q)->j+x.looks<=(re.bw k).length:=by
 refine Re.ind (Q:=λre=>∀k j x q,(re.bw k)[j]?=some (x,q)->j+x.looks<=(re.bw k).length) (λre ih k j x q h=>?_) re;have hL:∀(l:List Re) (k j:Nat) (x:Re) (q:Nat),(∀y∈l,y∈re.kids)->(Re.cT l k)[j]?=some (x,q)->j+x.looks<=(Re.cT l k).length:=by
  intro l;induction l with
  |nil=>intro k j x q _ h;simp [Re.cT]at h
  |cons y l yM =>
   intro k j x q hm h;rw[Re.cT]at h ⊢;rw[af7];by_cases hj:j<(y.bw k).length
   ·rw[af2 hj]at h;have:=ih y (hm y (by simp)) k j x q h;omega
   ·rw[af6 (by omega)]at h;have:=yM _ _ x q (λz hz=>hm z (by simp [hz])) h;omega
 rw[Re.pW]at h ⊢;by_cases ho:re.op=7\/re.op=8
 ·rw[be ho]at h ⊢;rw[afZ];cases j with
  |zero =>
   simp only[agm,afY,agx]at h;obtain⟨rfl,rfl⟩:=h;have:(Re.cT re.kids (k+1)).length=Re.aD re.kids:=by rw[<- Re.ke re.kids (k+1),Re.pT,afN]
   rw[Re.eA,be ho,this];omega
  |succ j =>
   rw[agF]at h;have:=hL re.kids (k+1) j x q (λ_ h=>h) h;omega
 ·rw[ap ho]at h ⊢;exact hL re.kids k j x q (λ_ h=>h) h
theorem pH:∀(a b:List Re) (k:Nat),Re.cT (a++b) k=Re.cT a k++Re.cT b (k+Re.aD a)
 |[],b,k=>by simp [Re.cT,Re.aD]
 |x::a,b,k=>by rw[afQ,Re.cT,pH a b,Re.cT,Re.aD,agu,agM]
theorem BN:∀(l:List Re) (k j:Nat) (x:Re) (q:Nat),(Re.cT l k)[j]?=some (x,q)->j+x.looks<=(Re.cT l k).length
 |[],k,j,x,q,h=>by simp [Re.cT]at h
 |y::l,k,j,x,q,h=>by
  rw[Re.cT]at h ⊢;rw[af7];by_cases hj:j<(y.bw k).length
  ·rw[af2 hj]at h;have:=Nv y k j x q h;omega
  ·rw[af6 (by omega)]at h;have:=BN l _ _ x q h;omega
theorem Lv (l:List Re) (k:Nat):(Re.cT l k).length=Re.aD l:=by rw[<- Re.ke l k,Re.pT,afN]
theorem EZ:∀(l:List Re) (k:Nat) (p:List Int) (i:Nat) (q:Nat×List Int),q∈Re.fV l k p i->∃(j:Nat) (x:Re),l[j]?=some x/\q∈x.wg (k+Re.aD (l.take j)) (p++[((i+j:Nat):Int)])
 |[],_,_,_,_,h=>by simp [Re.fV]at h
 |x::l,k,p,i,q,h=>by
  rw[Re.fV]at h;rcases List.mem_append.1 h with h|h
  ·exact⟨0,x,rfl,by simpa [Re.aD]using h⟩
  ·obtain⟨j,y,h1,h2⟩:=EZ l _ p _ q h;refine⟨j+1,y,h1,?_⟩;rw[ags,Re.aD,<- agM,show i+(j+1)=i+1+j by omega];exact h2
structure TJ (re:Re) (k num:Nat) (path:List Int):Prop where
 ok:qm re path
 op:(re.atR path).1.op=7\/(re.atR path).1.op=8
 le:k<=num
 ct:(re.dO path (re.atR path).1.flip).1.ct=re.ct
 acP:M4 (re.bw k) ((re.dO path (re.atR path).1.flip).1.bw k) (num-k) num (re.atR path).1
theorem VC (re:Re):∀(k:Nat) (p:List Int) (q:Nat×List Int),q∈re.wg k p->∃path,q.2=p++path/\TJ re k q.1 path:=by
 refine Re.ind (Q:=λre=>∀(k:Nat) (p:List Int) (q:Nat×List Int),q∈re.wg k p->∃path,q.2=p++path/\TJ re k q.1 path) (λre ih k p q h=>?_) re;rw[Re.Gw]at h;by_cases ho:re.op=7\/re.op=8
 ·rw[be ho]at h;rw[List.mem_singleton.1 h];refine⟨[],by simp,AZ re,?_,af3 _,?_,?_⟩
  ·rw[kd];exact ho
  ·rw[kd,oe];exact Lk re ho
  ·rw[kd,oe];simp only[ahi];have e1:re.bw k=(re,k)::Re.cT re.kids (k+1):=by rw[Re.pW,be ho]
   have e2:re.flip.bw k=(re.flip,k)::Re.cT re.kids (k+1):=by rw[Re.pW,AR,be ho,uM]
   rw[e1,e2];refine⟨by simp,rfl,rfl,λj hj=>?_,λj x q hj=>by omega⟩;cases j with
   |zero=>omega
   |succ j=>rfl
 ·rw[ap ho]at h;obtain⟨j,x,hx,hq⟩:=EZ _ _ _ _ _ h;obtain⟨path,hp,⟨h1,h2,h3,h4,h5⟩⟩:=ih x (afW hx) _ _ q hq;have jB:re.kids[((j:Nat):Int).toNat]?=some x:=hx;refine⟨((j:Nat):Int)::path,by rw[hp,afX,agu];rfl,?_⟩;have ha:re.atR (((j:Nat):Int)::path)=x.atR path:=jd (by omega) jB;have hpu:(re.dO (((j:Nat):Int)::path) (x.atR path).1.flip).1=re.iI (re.kids.set j (x.dO path (x.atR path).1.flip).1):=by have:=ig (x.atR path).1.flip (by omega) jB h1;simpa using this
  have u7:re.kids=re.kids.take j++x::re.kids.drop (j+1):=by have hj:=(List.getElem?_eq_some_iff.1 hx).1;rw[<- (List.getElem?_eq_some_iff.1 hx).2,List.getElem_cons_drop,ahk]
  refine⟨cd.2 ⟨by omega,x,jB,h1⟩,by rw[ha];exact h2,by omega,?_,?_⟩
  ·rw[ha,hpu];generalize (x.dO path (x.atR path).1.flip).1=x' at *;rw[Re.jQ,Re.jQ re];have e1:(re.iI (re.kids.set j x')).kids.map Re.ct=re.kids.map Re.ct:=by
    rw[Re.eo,ahg,h4];apply agT;intro i;by_cases hi:j=i
    ·subst hi;rw[agc (by simpa using (List.getElem?_eq_some_iff.1 hx).1),afO,hx];rfl
    ·rw[agp hi]
   rw[e1];cases re;rfl
  ·rw[ha,hpu];have J5:∀l,(re.iI l).op=re.op:=λl=>by cases re;rfl
   generalize hx2:(x.dO path (x.atR path).1.flip).1=x' at *;rw[Re.pW,ap ho,Re.pW (re.iI _),J5,ap ho,Re.eo];have fx:re.kids.set j x'=re.kids.take j++x'::re.kids.drop (j+1):=by have hj:=(List.getElem?_eq_some_iff.1 hx).1;rw[List.set_eq_take_append_cons_drop,be hj]
   have C7:x'.looks=x.looks:=by rw[<- zG x',h4,zG]
   rw[fx];rw[show Re.cT re.kids k=Re.cT (re.kids.take j++x::re.kids.drop (j+1)) k by rw[<- u7]];rw[pH,pH,Re.cT,Re.cT,C7,<- agu,<- agu];have ht:=h5.app (A:=Re.cT (re.kids.take j) k) (B:=Re.cT (re.kids.drop (j+1)) (k+Re.aD (re.kids.take j)+x.looks)) (λj x q=>BN _ k j x q);rw[Lv]at ht;rw[show q.1-k=Re.aD (re.kids.take j)+(q.1-(k+Re.aD (re.kids.take j))) by omega];exact ht
def ID (re:Re):Bool:=decide (re.op≠6/\re.op≠9/\re.op≠10/\(re.op=4->re.mode≠2/\lA re.kids=false))
theorem Tj {n m:Nat} (hn:n<128) (hm:m<128):ew .and .i64 (n:Int) (m:Int)=((n &&& m:Nat):Int):=by
 have az:n &&& m<=n:=Nat.and_le_left;have e:∀k:Nat,k<128->(BitVec.ofInt IntKind.i64.bits (k:Int)).toNat=k:=by intro k hk;show (BitVec.ofInt 64 (k:Int)).toNat=k;rw[BitVec.ofInt_natCast,BitVec.toNat_ofNat];omega
 simp only[ew,BitVec.toNat_and,e n hn,e m hm];exact bd _ (by omega)
theorem pj (a b m:Nat):(a ||| b) &&& m=0 ↔ a &&& m=0/\b &&& m=0:=by
 rw[Nat.and_or_distrib_right];constructor
 ·intro h;have h1:a &&& m<=a &&& m ||| b &&& m:=Nat.left_le_or;have h2:b &&& m<=a &&& m ||| b &&& m:=Nat.right_le_or;exact⟨by omega,by omega⟩
 ·rintro ⟨h1,h2⟩;rw[h1,h2];rfl
structure PF (re:Re):Prop where
 ex:∃u:Nat,u<128/\re.m9=u/\(u &&& 43=0 ↔ re.every ID=true)/\(u &&& 64=0 ↔ re.every (λr=>decide (r.op≠5))=true)
theorem Jn (re:Re):∃u:Nat,u<128/\nY re.op re.mode (lA re.kids)=u/\(u &&& 43=0 ↔ ID re=true)/\(u &&& 64=0 ↔ re.op≠5):=by
 unfold nY ID;rw[decide_eq_true_eq];by_cases h6:re.op=6
 ·exact⟨1,by omega,by rw[be h6];rfl,by simp [h6],by simp [h6]⟩
 rw[ap h6];by_cases du:re.op=10
 ·exact⟨2,by omega,by rw[be du];rfl,by simp [du],by simp [du]⟩
 rw[ap du];by_cases h7:re.op=7\/re.op=8
 ·exact⟨4,by omega,by rw[be h7];rfl,by constructor <;> intro _ <;> first|rfl|(refine⟨by omega,by omega,by omega,λh=>by omega⟩),by constructor <;> intro _ <;> first|omega|rfl⟩
 rw[ap h7];by_cases h9:re.op=9
 ·exact⟨8,by omega,by rw[be h9];rfl,by simp [h9],by simp [h9]⟩
 rw[ap h9];by_cases jH:re.op=11
 ·exact⟨16,by omega,by rw[be jH];rfl,by simp [jH],by simp [jH]⟩
 rw[ap jH];by_cases h5:re.op=5
 ·exact⟨64,by omega,by rw[be h5];rfl,by simp [h5],by simp [h5]⟩
 rw[ap h5];by_cases h4:re.op=4
 ·rw[be h4];by_cases hm:re.mode=2
  ·cases hb:lA re.kids
   ·exact⟨8,by omega,by simp [hm],by simp [h4,hm],by simp [h4]⟩
   ·exact⟨40,by omega,by simp only[hm,if_true];decide,by simp [h4,hm],by simp [h4]⟩
  ·cases hb:lA re.kids
   ·exact⟨0,by omega,by simp [hm],by simp [h4,hm],by simp [h4]⟩
   ·exact⟨32,by omega,by simp only[hm,if_false,if_true];decide,by simp [h4,hm],by simp [h4]⟩
 ·exact⟨0,by omega,by rw[ap h4];rfl,by simp [h4,h6,h9,du],by simp [h5]⟩
theorem zV:∀l:List Re,(∀k∈l,PF k)->∃v:Nat,v<128/\(∀n:Nat,n<128->Re.lY l n=((n ||| v:Nat):Int))/\(v &&& 43=0 ↔ ∀k∈l,k.every ID=true)/\(v &&& 64=0 ↔ ∀k∈l,k.every (λr=>decide (r.op≠5))=true)
 |[],_=>⟨0,by omega,λn _=>by simp [Re.lY],by simp,by simp⟩
 |k::l,h=>by
  obtain⟨u,h1,h2,h3,h4⟩:=(h k (by simp)).ex;obtain⟨v,k1,k2,k3,k4⟩:=zV l (λx hx=>h x (by simp [hx]));refine⟨u ||| v,Nat.or_lt_two_pow (n:=7) h1 k1,λn hn=>?_,?_,?_⟩
  ·obtain⟨o1,o2⟩:=VJ hn h1;simp only[Re.lY,h2,o1,k2 _ o2,Nat.or_assoc]
  ·rw[pj,h3,k3];simp
  ·rw[pj,h4,k4];simp
theorem MX (re:Re):PF re:=by
 refine Re.ind (Q:=PF) (λre ih=>?_) re;obtain⟨v,v1,v2,v3,v4⟩:=zV re.kids ih;obtain⟨u,u1,u2,u3,u4⟩:=Jn re;refine⟨u ||| v,Nat.or_lt_two_pow (n:=7) u1 v1,by rw[Re.Ie,u2];exact v2 u u1,?_,?_⟩
 ·rw[pj,u3,v3,Re.aB]
 ·rw[pj,u4,v4,Re.aB,decide_eq_true_eq]
theorem SJ (re:Re):ew .and .i64 re.m9 43=0 ↔ re.every ID=true:=by obtain⟨u,u1,u2,u3,_⟩:=(MX re).ex;rw[u2,show (43:Int)=((43:Nat):Int) from rfl,Tj u1 (by omega),<- u3];omega
theorem Od (re:Re):∀r∈re.jA,(r.op=7\/r.op=8)/\r.size<=re.size/\∀p:Re->Bool,re.every p=true->r.every p=true:=by
 refine Re.ind (Q:=λre=>∀r∈re.jA,(r.op=7\/r.op=8)/\r.size<=re.size/\∀p:Re->Bool,re.every p=true->r.every p=true) (λre ih r hr=>?_) re;have hL:∀l:List Re,(∀x∈l,x∈re.kids)->r∈Re.ck l->(r.op=7\/r.op=8)/\r.size<=re.size/\∀p:Re->Bool,re.every p=true->r.every p=true:=by
  intro l;induction l with
  |nil=>intro _ h;simp [Re.ck]at h
  |cons x l yM =>
   intro hm h;rw[Re.ck]at h;rcases List.mem_append.1 h with h|h
   ·obtain⟨h1,h2,h3⟩:=ih x (hm x (by simp)) r h;have:=Re.bL (hm x (by simp));exact⟨h1,by omega,λp hp=>h3 p (((Re.aB re).1 hp).2 x (hm x (by simp)))⟩
   ·exact yM (λy hy=>hm y (by simp [hy])) h
 rw[Re.CL]at hr;rcases List.mem_append.1 hr with h|h
 ·by_cases ho:re.op=7\/re.op=8
  ·rw[be ho]at h;rw[List.mem_singleton.1 h];exact⟨ho,af3 _,λp hp=>hp⟩
  ·rw[ap ho]at h;simp at h
 ·exact hL re.kids (λ_ h=>h) h
theorem Vd {re:Re}{ak top:Int} (h:bK re ak top=true) (hu:ID re=true) (ho:mv re=true):Kq re=true:=by
 obtain⟨h1,_⟩:=fz.1 h;have hu:=of_decide_eq_true hu;refine BM.2 ⟨ho,λo=>?_⟩;have o0:re.op=0:=by omega
 have h2:(cr re.op).2=0:=by rw[o0];rfl
 exact List.length_eq_zero_iff.1 (by omega)
theorem MT {ak top:Int} (hc:ak<=9) (re:Re) (h:re.whole ak top=true) (hs:re.size<=256) (hu:re.every ID=true):re.every Kq=true:=by revert h hs hu;refine Re.ind (Q:=λre=>re.whole ak top=true->re.size<=256->re.every ID=true->re.every Kq=true) (λre ih h hs hu=>?_) re;obtain⟨a1,a2⟩:=(Re.aB re).1 h;obtain⟨u1,u2⟩:=(Re.aB re).1 hu;have h1:=nF hc re h hs;exact(Re.aB re).2 ⟨Vd a1 u1 ((Re.aB re).1 h1).1,λk hk=>ih k hk (a2 k hk) (by have:=Re.bL hk;omega) (u2 k hk)⟩
def Uj (r:Re):Re:=r.kids.headD pK
def nR (p:ic):Int:=if cC p≠0 then cC p else if ew .and .i64 p.re.m9 43≠0\/p.re.nest []=true then 10
 else if (p.re.jA.any λr=>decide (ew .and .i64 r.m9 64≠0))=true then 10
 else if (decide (8191<dm p.re)||p.re.jA.any λr=>decide (8191<dm (Uj r)))=true then 4 else 0
theorem Ei (p:ic) (hf:p.re.bC=true) (hs:p.re.size<=1000000) (hn:p.re.every (λr=>decide (jC r.n))=true):aO Try.prog 38 [aZ p] (i64 (nR p)):=by
 have h1:=oH p hf (by omega);have h2:=Bf p.re (by omega);have h3:=Sp p.re [] hn hs (by simp;omega);have h4:=Fl p.re hs;have h5:cC p=0->ew .and .i64 p.re.m9 43=0->p.re.every Kq=true/\aO Try.prog 74 [fv p.re] (i64 (dm p.re)):=λhv hu=>by obtain⟨v1,v2,v3,v4,v5⟩:=db hv;have:=MT v4 p.re v5 v1 ((SJ p.re).1 hu);exact⟨this,Bj p.re this⟩
 have hlm:=Od p.re;have GM:=uA p.re;have Lw:=l6 p.re;unfold nR;generalize cC p=vr at *;cases p with
 |mk re ak aN =>
 simp only at *;generalize re.m9=U at *;generalize re.nest []=nb at *;generalize dm re=lx at *;generalize re.jA=L at *;simp only[aZ,Re.ae re,afR,afU,afQ,afS,ai re,i64,iD,bD,bV,al]at h1 h2 h3 h4 h5;by_cases hv:vr=0
 ·subst hv;rw[ap (by simp)];by_cases iT:ew .and .i64 U 43=0
  ·obtain⟨Fv,h6⟩:=h5 rfl iT;cases nb with
   |true =>
    rw[be (.inr rfl)];refine an Try.func38 rfl Try.ntmps38 Try.results38 rfl 0 511 (by simp) (by simp) ?_;simp only[zX,cQ,dx,dB,dC,dD,gl,ja,jg,jk,mA,eI,eJ,fX,reduceIte,reduceCtorEq,gj,i64,aZ,Re.ae,bV,iD,bD];refine aj h1 rfl rfl ?_;simp only[zX,cQ,dx,dB,dC,dD,gl,ja,jg,jk,mA,eI,eJ,fX,reduceIte,reduceCtorEq,gj,i64,aZ,Re.ae,bV,iD,bD,ne_eq,not_true_eq_false];refine aj h2 (by simp [ah,ah.go]) rfl ?_;simp only[zX,cQ,dx,dB,dC,dD,gl,ja,jg,jk,mA,eI,eJ,fX,reduceIte,reduceCtorEq,gj,i64,aZ,Re.ae,bV,iD,bD,ne_eq,not_true_eq_false];refine fp _ (by simp [ba.go,ba,cj]) (aj h3 (by simp [ah,ah.go]) rfl ?_);simp only[zX,cQ,dx,dB,dC,dD,gl,ja,jg,jk,mA,eI,eJ,fX,reduceIte,reduceCtorEq,gj,i64,aZ,Re.ae,bV,iD,bD,ne_eq,not_true_eq_false,iT];all_goals rfl
   |false =>
    rw[ap (by simp [iT])];refine an Try.func38 rfl Try.ntmps38 Try.results38 rfl 0 511 (by simp) (by simp) ?_;simp only[zX,cQ,dx,dB,dC,dD,gl,ja,jg,jk,mA,eI,eJ,fX,reduceIte,reduceCtorEq,gj,i64,aZ,Re.ae,bV,iD,bD];refine aj h1 rfl rfl ?_;simp only[zX,cQ,dx,dB,dC,dD,gl,ja,jg,jk,mA,eI,eJ,fX,reduceIte,reduceCtorEq,gj,i64,aZ,Re.ae,bV,iD,bD,ne_eq,not_true_eq_false];refine aj h2 (by simp [ah,ah.go]) rfl ?_;simp only[zX,cQ,dx,dB,dC,dD,gl,ja,jg,jk,mA,eI,eJ,fX,reduceIte,reduceCtorEq,gj,i64,aZ,Re.ae,bV,iD,bD,ne_eq,not_true_eq_false];refine fp _ (by simp [ba.go,ba,cj]) (aj h3 (by simp [ah,ah.go]) rfl ?_);simp only[zX,cQ,dx,dB,dC,dD,gl,ja,jg,jk,mA,eI,eJ,fX,reduceIte,reduceCtorEq,gj,i64,aZ,Re.ae,bV,iD,bD,ne_eq,not_true_eq_false,iT];refine aj h4 (by simp [ah,ah.go]) rfl ?_;simp only[zX,cQ,dx,dB,dC,dD,gl,ja,jg,jk,mA,eI,eJ,fX,reduceIte,reduceCtorEq,gj,i64,aZ,Re.ae,bV,iD,bD,ne_eq,not_true_eq_false,iT];refine aj h6 (by simp [ah,ah.go]) rfl ?_;simp only[zX,cQ,dx,dB,dC,dD,gl,ja,jg,jk,mA,eI,eJ,fX,reduceIte,reduceCtorEq,gj,i64,aZ,Re.ae,bV,iD,bD,ne_eq,not_true_eq_false,iT,gt_iff_lt];refine au (λn e s=>∃i:Nat,n=L.length-i/\i<=L.length/\e 6=.d (.sl (L.map Re.cells))/\e 7=bV (decide (8191<lx)||(L.take i).any λr=>decide (8191<dm (Uj r)))/\e 8=i64 i/\((L.take i).any λr=>decide (ew .and .i64 r.m9 64≠0))=false/\s=[]) ⟨_,_,_,br.cut (s':=[]) 0 (by omega) rfl rfl [6,7,8] (by simp [bz,aH,ah]),0,rfl,by omega,rfl,by simp;rfl,rfl,by simp,rfl⟩ ?_;rintro n e s ⟨i,rfl,hi,q6,q7,q8,mT,rfl⟩;rcases agi i L.length with az|fI
    ·obtain⟨r,hr⟩:∃r,L[i]?=some r:=⟨_,afP az⟩
     have hm:=afW hr;obtain⟨ro,rs,re'⟩:=hlm r hm;have aC:(i:Int)<(L.length:Int):=by omega
     have uF:=Bf r (by omega);have XT:=re' _ Fv;obtain⟨ro1,ro2⟩:=(Re.aB r).1 XT;obtain⟨x,hx⟩:∃x,r.kids=[x]:=List.length_eq_one_iff.1 ((jS.1 (BM.1 ro1).1).1 (by omega));have UQ:=Bj x (ro2 x (by rw[hx];simp));have hhd:Uj r=x:=by unfold Uj;rw[hx];rfl
     have uY:r.kids[0]?=some x:=by rw[hx];rfl
     have cU:(0:Int)<(r.kids.length:Int):=by rw[hx];simp
     have T4:IntKind.i64.wrap ((i:Int)+1)=((i+1:Nat):Int):=by rw[bd _ (by omega)];rfl
     simp only[i64]at uF UQ;by_cases Ox:ew .and .i64 r.m9 64=0
     ·have X5:((L.take (i+1)).any λr=>decide (ew .and .i64 r.m9 64≠0))=false:=by rw[aR hr,List.any_append,mT];simp [Ox]
      have hlg:(decide (8191<lx)||(L.take (i+1)).any λr=>decide (8191<dm (Uj r)))=((decide (8191<lx)||(L.take i).any λr=>decide (8191<dm (Uj r)))||decide (8191<dm x)):=by simp only[aR hr,List.any_append,Bool.or_assoc,List.any_cons,List.any_nil,ag7,hhd]
      generalize hlo:(decide (8191<lx)||(L.take i).any λr=>decide (8191<dm (Uj r)))=lo at *;simp only[bV,bD]at q7;cases lo with
      |true =>
       simp only[zX,cQ,dx,dB,dC,dD,gl,ja,jg,jk,mA,eI,eJ,fX,reduceIte,reduceCtorEq,gj,i64,iD,bD,bV,q6,q7,q8,aC,hr,afN];refine aj uF (by simp [ah,ah.go,ai,i64,bV,aM]) rfl ?_;simp only[zX,cQ,dx,dB,dC,dD,gl,ja,jg,jk,mA,eI,eJ,fX,reduceIte,reduceCtorEq,gj,i64,iD,bD,bV,q6,q7,q8,aC,hr,afN,Ox,ne_eq,not_true_eq_false,T4];refine⟨L.length-(i+1),_,_,by omega,br.refl,i+1,rfl,by omega,?_,?_,?_,X5,rfl⟩ <;> (try simp only[zU,gj,cQ,dx,eI,reduceIte])
       ·exact q6
       ·rw[hlg];rfl
      |false =>
       simp only[zX,cQ,dx,dB,dC,dD,gl,ja,jg,jk,mA,eI,eJ,fX,reduceIte,reduceCtorEq,gj,i64,iD,bD,bV,q6,q7,q8,aC,hr,afN];refine aj uF (by simp [ah,ah.go,ai,i64,bV,aM]) rfl ?_;simp only[zX,cQ,dx,dB,dC,dD,gl,ja,jg,jk,mA,eI,eJ,fX,reduceIte,reduceCtorEq,gj,i64,iD,bD,bV,q6,q7,q8,aC,hr,afN,Ox,ne_eq,not_true_eq_false,T4,Re.ae r,cU,uY];refine aj UQ (by simp [ah,ah.go,ai,i64,bV,aM]) rfl ?_;simp only[zX,cQ,dx,dB,dC,dD,gl,ja,jg,jk,mA,eI,eJ,fX,reduceIte,reduceCtorEq,gj,i64,iD,bD,bV,q6,q7,q8,aC,hr,afN,Ox,ne_eq,not_true_eq_false,T4,gt_iff_lt];refine⟨L.length-(i+1),_,_,by omega,br.refl,i+1,rfl,by omega,?_,?_,?_,X5,rfl⟩ <;> (try simp only[zU,gj,cQ,dx,eI,reduceIte])
       ·exact q6
       ·rw[hlg,agr]
     ·have V8:(L.any λr=>decide (ew .and .i64 r.m9 64≠0))=true:=by rw[List.any_eq_true];exact⟨r,hm,by simp [Ox]⟩
      rw[be V8];simp only[zX,cQ,dx,dB,dC,dD,gl,ja,jg,jk,mA,eI,eJ,fX,reduceIte,reduceCtorEq,gj,i64,iD,bD,bV,q6,q7,q8,aC,hr,afN];refine aj uF (by simp [ah,ah.go,ai,i64,bV,aM]) rfl ?_;simp only[zX,cQ,dx,dB,dC,dD,gl,ja,jg,jk,mA,eI,eJ,fX,reduceIte,reduceCtorEq,gj,i64,iD,bD,bV,q6,q7,q8,aC,hr,afN,Ox,ne_eq,not_false_eq_true];all_goals rfl
    ·have cV:i=L.length:=by omega
     subst cV;have aC:¬(L.length:Int)<L.length:=by omega
     rw[agj]at q7 mT;rw[ap (by rw[mT];simp)];generalize (decide (8191<lx)||L.any λr=>decide (8191<dm (Uj r)))=lo at *;simp only[bV,bD]at q7;cases lo with
     |true =>
      simp only[zX,cQ,dx,dB,dC,dD,gl,ja,jg,jk,mA,eI,eJ,fX,reduceIte,reduceCtorEq,gj,i64,iD,bD,bV,q6,q7,q8,aC,afN];all_goals rfl
     |false =>
      simp only[zX,cQ,dx,dB,dC,dD,gl,ja,jg,jk,mA,eI,eJ,fX,reduceIte,reduceCtorEq,gj,i64,iD,bD,bV,q6,q7,q8,aC,afN];all_goals rfl
  ·rw[be (.inl iT)];refine an Try.func38 rfl Try.ntmps38 Try.results38 rfl 0 511 (by simp) (by simp) ?_;simp only[zX,cQ,dx,dB,dC,dD,gl,ja,jg,jk,mA,eI,eJ,fX,reduceIte,reduceCtorEq,gj,i64,aZ,Re.ae,bV,iD,bD];refine aj h1 rfl rfl ?_;simp only[zX,cQ,dx,dB,dC,dD,gl,ja,jg,jk,mA,eI,eJ,fX,reduceIte,reduceCtorEq,gj,i64,aZ,Re.ae,bV,iD,bD,ne_eq,not_true_eq_false];refine aj h2 (by simp [ah,ah.go]) rfl ?_;simp only[zX,cQ,dx,dB,dC,dD,gl,ja,jg,jk,mA,eI,eJ,fX,reduceIte,reduceCtorEq,gj,i64,aZ,Re.ae,bV,iD,bD,ne_eq,not_true_eq_false];refine fp _ (by simp [ba.go,ba,cj]) (aj h3 (by simp [ah,ah.go]) rfl ?_);simp only[zX,cQ,dx,dB,dC,dD,gl,ja,jg,jk,mA,eI,eJ,fX,reduceIte,reduceCtorEq,gj,i64,aZ,Re.ae,bV,iD,bD,ne_eq,not_true_eq_false,iT,not_false_eq_true];all_goals rfl
 ·rw[be hv];refine an Try.func38 rfl Try.ntmps38 Try.results38 rfl 0 511 (by simp) (by simp) ?_;simp only[zX,cQ,dx,dB,dC,dD,gl,ja,jg,jk,mA,eI,eJ,fX,reduceIte,reduceCtorEq,gj,i64,aZ,Re.ae,bV,iD,bD];refine aj h1 rfl rfl ?_;simp only[zX,cQ,dx,dB,dC,dD,gl,ja,jg,jk,mA,eI,eJ,fX,reduceIte,reduceCtorEq,gj,i64,aZ,Re.ae,bV,iD,bD,ne_eq,hv,not_false_eq_true];all_goals rfl
end Go.Proofs.Ytfmdmlfhigocaaa
