/- A part of the proof. -/
import Derived.Test.YtjjfioalgbecmaaGreatOA27
set_option linter.unusedSimpArgs false
set_option linter.unusedVariables false
open Nat renaming reduceShiftRight → qa, reduceMod → qe, reduceEqDiff → Fp, reduceBEq → Ft
set_option maxRecDepth 100000
set_option maxHeartbeats 80000000
namespace Go.Proofs.YtjjfioalgbecmaaGreat
open Go.VL Go.Proofs.Tryz
variable{aj:Int}{re:Re}{top:Int}{nx:Goal}{f:Int}{kind:Int}{l:List aw}{pc:Nat}{C:List aw}
def uQ (re:Re):Bool:=decide (re.op≠6/\re.op≠9/\re.op≠10/\(re.op=4->re.mode≠2/\jE re.kids=false))
theorem XI {n m:Nat} (hn:n<128) (hm:m<128):jf .and .i64 (n:Int) (m:Int)=((n &&& m:Nat):Int):=by
 have aE:n &&& m<=n:=Nat.and_le_left;have e:∀k:Nat,k<128->(BitVec.ofInt IntKind.i64.bits (k:Int)).toNat=k:=by intro k hk;show (BitVec.ofInt 64 (k:Int)).toNat=k;rw[BitVec.ofInt_natCast,BitVec.toNat_ofNat];omega
 simp only[jf,BitVec.toNat_and,e n hn,e m hm];exact bK _ ae
theorem qF (a b m:Nat):(a ||| b) &&& m=0 ↔ a &&& m=0/\b &&& m=0:=by
 rw[Nat.and_or_distrib_right];constructor
 ·intro h;have h1:a &&& m<=a &&& m ||| b &&& m:=Nat.left_le_or;have h2:b &&& m<=a &&& m ||| b &&& m:=Nat.right_le_or;exact⟨ae,ae⟩
 ·rintro ⟨h1,h2⟩;rw[h1,h2];rfl
structure TC (re:Re):Prop where
 ex:∃u:Nat,u<128/\re.ov=u/\(u &&& 43=0 ↔ re.every uQ=true)/\(u &&& 64=0 ↔ re.every (λr=>decide (r.op≠5))=true)
theorem Mw (re:Re):∃u:Nat,u<128/\pD re.op re.mode (jE re.kids)=u/\(u &&& 43=0 ↔ uQ re=true)/\(u &&& 64=0 ↔ re.op≠5):=by
 unfold pD uQ;rw[decide_eq_true_eq];by_cases h6:re.op=6
 ·exact⟨1,ae,by rw[be h6];rfl,by simp [h6],by simp [h6]⟩
 rw[ap h6];by_cases ek:re.op=10
 ·exact⟨2,ae,by rw[be ek];rfl,by simp [ek],by simp [ek]⟩
 rw[ap ek];by_cases h7:re.op=7\/re.op=8
 ·exact⟨4,ae,by rw[be h7];rfl,by constructor <;> intro _ <;> first|rfl|(refine⟨ae,ae,ae,λh=>ae⟩),by constructor <;> intro _ <;> first|omega|rfl⟩
 rw[ap h7];by_cases h9:re.op=9
 ·exact⟨8,ae,by rw[be h9];rfl,by simp [h9],by simp [h9]⟩
 rw[ap h9];by_cases kr:re.op=11
 ·exact⟨16,ae,by rw[be kr];rfl,by simp [kr],by simp [kr]⟩
 rw[ap kr];by_cases h5:re.op=5
 ·exact⟨64,ae,by rw[be h5];rfl,by simp [h5],by simp [h5]⟩
 rw[ap h5];by_cases h4:re.op=4
 ·rw[be h4];by_cases hm:re.mode=2
  ·cases hb:jE re.kids
   ·exact⟨8,ae,by simp [hm],by simp [h4,hm],by simp [h4]⟩
   ·exact⟨40,ae,by simp only[hm,if_true];decide,by simp [h4,hm],by simp [h4]⟩
  ·cases hb:jE re.kids
   ·exact⟨0,ae,by simp [hm],by simp [h4,hm],by simp [h4]⟩
   ·exact⟨32,ae,by simp only[hm,if_false,if_true];decide,by simp [h4,hm],by simp [h4]⟩
 ·exact⟨0,ae,by rw[ap h4];rfl,by simp [h4,h6,h9,ek],by simp [h5]⟩
theorem Ca:∀l:List Re,(∀k∈l,TC k)->∃v:Nat,v<128/\(∀n:Nat,n<128->Re.nm l n=((n ||| v:Nat):Int))/\(v &&& 43=0 ↔ ∀k∈l,k.every uQ=true)/\(v &&& 64=0 ↔ ∀k∈l,k.every (λr=>decide (r.op≠5))=true)
 |[],_=>⟨0,ae,λn _=>by simp [Re.nm],aq,aq⟩
 |k::l,h=>by
  obtain⟨u,h1,h2,h3,h4⟩:=(h k aq).ex;obtain⟨v,k1,k2,k3,k4⟩:=Ca l (λx hx=>h x (by simp [hx]));refine⟨u ||| v,Nat.or_lt_two_pow (n:=7) h1 k1,λn hn=>?_,?_,?_⟩
  ·obtain⟨o1,o2⟩:=aaL hn h1;simp only[Re.nm,h2,o1,k2 _ o2,Nat.or_assoc]
  ·rw[qF,h3,k3];simp
  ·rw[qF,h4,k4];simp
theorem QD (re:Re):TC re:=by
 refine Re.ind (Q:=TC) (λre ih=>?_) re;obtain⟨v,v1,v2,v3,v4⟩:=Ca re.kids ih;obtain⟨u,u1,u2,u3,u4⟩:=Mw re;refine⟨u ||| v,Nat.or_lt_two_pow (n:=7) u1 v1,by rw[Re.Ld,u2];exact v2 u u1,?_,?_⟩
 ·rw[qF,u3,v3,Re.az]
 ·rw[qF,u4,v4,Re.az,decide_eq_true_eq]
theorem WY (re:Re):jf .and .i64 re.ov 43=0 ↔ re.every uQ=true:=by obtain⟨u,u1,u2,u3,_⟩:=(QD re).ex;rw[u2,show (43:Int)=((43:Nat):Int) from rfl,XI u1 ae,<- u3];omega
theorem RZ (re:Re):∀r∈re.kj,(r.op=7\/r.op=8)/\r.size<=re.size/\∀p:Re->Bool,re.every p=true->r.every p=true:=by
 refine Re.ind (Q:=λre=>∀r∈re.kj,(r.op=7\/r.op=8)/\r.size<=re.size/\∀p:Re->Bool,re.every p=true->r.every p=true) (λre ih r hr=>?_) re;have hL:∀l:List Re,(∀x∈l,x∈re.kids)->r∈Re.cR l->(r.op=7\/r.op=8)/\r.size<=re.size/\∀p:Re->Bool,re.every p=true->r.every p=true:=by
  intro l;induction l with
  |nil=>intro _ h;simp [Re.cR]at h
  |cons x l Gb =>
   intro hm h;rw[Re.cR]at h;rcases List.mem_append.1 h with h|h
   ·obtain⟨h1,h2,h3⟩:=ih x (hm x aq) r h;have:=Re.bZ (hm x aq);exact⟨h1,ae,λp hp=>h3 p (((Re.az re).1 hp).2 x (hm x aq))⟩
   ·exact Gb (λy hy=>hm y (by simp [hy])) h
 rw[Re.Fb]at hr;rcases List.mem_append.1 hr with h|h
 ·by_cases ho:re.op=7\/re.op=8
  ·rw[be ho]at h;rw[List.mem_singleton.1 h];exact⟨ho,ale _,λp hp=>hp⟩
  ·rw[ap ho]at h;simp at h
 ·exact hL re.kids (λ_ h=>h) h
theorem Z5 (h:bX re aj top=true) (hu:uQ re=true) (ho:mF re=true):IJ re=true:=by
 obtain⟨h1,_⟩:=eZ.1 h;have hu:=of_decide_eq_true hu;refine zk.2 ⟨ho,λo=>?_⟩;have o0:re.op=0:=ae;have h2:(cE re.op).2=0:=by rw[o0];rfl
 exact List.length_eq_zero_iff.1 ae
theorem G6 (hc:aj<=9) (re:Re) (h:re.whole aj top=true) (hs:re.size<=256) (hu:re.every uQ=true):re.every IJ=true:=by revert h hs hu;refine Re.ind (Q:=λre=>re.whole aj top=true->re.size<=256->re.every uQ=true->re.every IJ=true) (λre ih h hs hu=>?_) re;obtain⟨a1,a2⟩:=(Re.az re).1 h;obtain⟨u1,u2⟩:=(Re.az re).1 hu;have h1:=m8 hc re h hs;exact(Re.az re).2 ⟨Z5 a1 u1 ((Re.az re).1 h1).1,λk hk=>ih k hk (a2 k hk) (by have:=Re.bZ hk;omega) (u2 k hk)⟩
def YT (r:Re):Re:=r.kids.headD aag
def pq (p:fU):Int:=if cI p≠0 then cI p else if jf .and .i64 p.re.ov 43≠0\/p.re.nest []=true then 10
 else if (p.re.kj.any λr=>decide (jf .and .i64 r.ov 64≠0))=true then 10
 else if (decide (8191<ed p.re)||p.re.kj.any λr=>decide (8191<ed (YT r)))=true then 4 else 0
theorem Hq (p:fU) (hf:p.re.df=true) (hs:p.re.size<=1000000) (hn:p.re.every (λr=>decide (jD r.n))=true):aS Tryz.prog 22 [bk p] (i64 (pq p)):=by
 have h1:=qk p hf ae;have h2:=Dy p.re ae;have h3:=WB p.re [] hn hs cV;have h4:=Sg p.re hs;have h5:cI p=0->jf .and .i64 p.re.ov 43=0->p.re.every IJ=true/\aS Tryz.prog 53 [lI p.re] (i64 (ed p.re)):=λhv hu=>by obtain⟨v1,v2,v3,v4,v5⟩:=cW hv;have:=G6 v4 p.re v5 v1 ((WY p.re).1 hu);exact⟨this,DA p.re this⟩
 have hlm:=RZ p.re;have JN:=Bb p.re;have MV:=yJ p.re;unfold pq;generalize cI p=vr at *;cases p with
 |mk re aj aM =>
 simp only at *;generalize re.ov=U at *;generalize re.nest []=nb at *;generalize ed re=lx at *;generalize re.kj=L at *;simp only[bk,Re.ah re,ak8,ak9,ak5,ak6,au re,i64,iD,bD,bV,ar]at h1 h2 h3 h4 h5;by_cases hv:vr=0
 ·subst hv;rw[ap aq];by_cases uf:jf .and .i64 U 43=0
  ·obtain⟨VP,h6⟩:=h5 rfl uf;cases nb with
   |true =>
    rw[be (.inr rfl)];refine br Tryz.func22 Tryz.ntmps22 Tryz.results22 0 511 ?_;simp only[zI,simprocAttr,bk,Re.ah,bV,iD,bD];refine dk h1 ?_;simp only[zI,simprocAttr,bk,Re.ah,bV,iD,bD,ne_eq,not_true_eq_false];refine bB h2 (by simp [ak,ak.go]) rfl ?_;simp only[zI,simprocAttr,bk,Re.ah,bV,iD,bD,ne_eq,not_true_eq_false];refine iC _ (by simp [bq.go,bq,cJ]) (bB h3 (by simp [ak,ak.go]) rfl ?_);simp only[zI,simprocAttr,bk,Re.ah,bV,iD,bD,ne_eq,not_true_eq_false,uf];all_goals rfl
   |false =>
    rw[ap (by simp [uf])];refine br Tryz.func22 Tryz.ntmps22 Tryz.results22 0 511 ?_;simp only[zI,simprocAttr,bk,Re.ah,bV,iD,bD];refine dk h1 ?_;simp only[zI,simprocAttr,bk,Re.ah,bV,iD,bD,ne_eq,not_true_eq_false];refine bB h2 (by simp [ak,ak.go]) rfl ?_;simp only[zI,simprocAttr,bk,Re.ah,bV,iD,bD,ne_eq,not_true_eq_false];refine iC _ (by simp [bq.go,bq,cJ]) (bB h3 (by simp [ak,ak.go]) rfl ?_);simp only[zI,simprocAttr,bk,Re.ah,bV,iD,bD,ne_eq,not_true_eq_false,uf];refine bB h4 (by simp [ak,ak.go]) rfl ?_;simp only[zI,simprocAttr,bk,Re.ah,bV,iD,bD,ne_eq,not_true_eq_false,uf];refine bB h6 (by simp [ak,ak.go]) rfl ?_;simp only[zI,simprocAttr,bk,Re.ah,bV,iD,bD,ne_eq,not_true_eq_false,uf,gt_iff_lt];refine ay (λn e s=>∃i:Nat,n=L.length-i/\i<=L.length/\e 6=.d (.sl (L.map Re.cells))/\e 7=bV (decide (8191<lx)||(L.take i).any λr=>decide (8191<ed (YT r)))/\e 8=i64 i/\((L.take i).any λr=>decide (jf .and .i64 r.ov 64≠0))=false/\s=[]) ⟨_,_,_,bO.cut (s':=[]) 0 ae rfl rfl [6,7,8] (by simp [ca,aZ,ak]),0,rfl,ae,rfl,by simp;rfl,rfl,aq,rfl⟩ ?_;rintro n e s ⟨i,rfl,hi,q6,q7,q8,iL,rfl⟩;rcases alw i L.length with aE|gE
    ·obtain⟨r,hr⟩:∃r,L[i]?=some r:=cb aE;have hm:=List.mem_of_getElem? hr;obtain⟨ro,rs,G8⟩:=hlm r hm;have aH:(i:Int)<(L.length:Int):=ae;have wK:=Dy r ae;have UY:=G8 _ VP;obtain⟨ro1,ro2⟩:=(Re.az r).1 UY;obtain⟨x,hx⟩:∃x,r.kids=[x]:=List.length_eq_one_iff.1 ((je.1 (zk.1 ro1).1).1 ae);have Hh:=DA x (ro2 x (by rw[hx];simp));have hhd:YT r=x:=by unfold YT;rw[hx];rfl
     have xg:r.kids[0]?=some x:=by rw[hx];rfl
     have ej:(0:Int)<(r.kids.length:Int):=by rw[hx];simp
     have YA:IntKind.i64.wrap ((i:Int)+1)=((i+1:Nat):Int):=by rw[bK _ ae];rfl
     simp only[i64]at wK Hh;by_cases Sm:jf .and .i64 r.ov 64=0
     ·have ado:((L.take (i+1)).any λr=>decide (jf .and .i64 r.ov 64≠0))=false:=by rw[bn hr,List.any_append,iL];simp [Sm]
      have hlg:(decide (8191<lx)||(L.take (i+1)).any λr=>decide (8191<ed (YT r)))=((decide (8191<lx)||(L.take i).any λr=>decide (8191<ed (YT r)))||decide (8191<ed x)):=by simp only[bn hr,List.any_append,Bool.or_assoc,List.any_cons,List.any_nil,amo,hhd]
      generalize hlo:(decide (8191<lx)||(L.take i).any λr=>decide (8191<ed (YT r)))=lo at *;simp only[bV,bD]at q7;cases lo with
      |true =>
       simp only[zI,simprocAttr,iD,bD,bV,q6,q7,q8,aH,hr,ak4];refine dk wK ?_;simp only[zI,simprocAttr,iD,bD,bV,q6,q7,q8,aH,hr,ak4,Sm,ne_eq,not_true_eq_false,YA];refine⟨L.length-(i+1),_,_,ae,bO.refl,i+1,rfl,ae,?_,?_,?_,ado,rfl⟩ <;> (try simp only[zU,Ft,qa,qe,Fp,reduceIte])
       ·exact q6
       ·rw[hlg];rfl
      |false =>
       simp only[zI,simprocAttr,iD,bD,bV,q6,q7,q8,aH,hr,ak4];refine dk wK ?_;simp only[zI,simprocAttr,iD,bD,bV,q6,q7,q8,aH,hr,ak4,Sm,ne_eq,not_true_eq_false,YA,Re.ah r,ej,xg];refine dk Hh ?_;simp only[zI,simprocAttr,iD,bD,bV,q6,q7,q8,aH,hr,ak4,Sm,ne_eq,not_true_eq_false,YA,gt_iff_lt];refine⟨L.length-(i+1),_,_,ae,bO.refl,i+1,rfl,ae,?_,?_,?_,ado,rfl⟩ <;> (try simp only[zU,Ft,qa,qe,Fp,reduceIte])
       ·exact q6
       ·rw[hlg,alB]
     ·have abf:(L.any λr=>decide (jf .and .i64 r.ov 64≠0))=true:=by rw[List.any_eq_true];exact⟨r,hm,by simp [Sm]⟩
      rw[be abf];simp only[zI,simprocAttr,iD,bD,bV,q6,q7,q8,aH,hr,ak4];refine dk wK ?_;simp only[zI,simprocAttr,iD,bD,bV,q6,q7,q8,aH,hr,ak4,Sm,ne_eq,not_false_eq_true];all_goals rfl
    ·have eg:i=L.length:=by omega
     subst eg;have aH:¬(L.length:Int)<L.length:=ae;rw[alr]at q7 iL;rw[ap (by rw[iL];simp)];generalize (decide (8191<lx)||L.any λr=>decide (8191<ed (YT r)))=lo at *;simp only[bV,bD]at q7;cases lo with
     |true =>
      exact Zds
     |false =>
      exact Zds
  ·rw[be (.inl uf)];refine br Tryz.func22 Tryz.ntmps22 Tryz.results22 0 511 ?_;simp only[zI,simprocAttr,bk,Re.ah,bV,iD,bD];refine dk h1 ?_;simp only[zI,simprocAttr,bk,Re.ah,bV,iD,bD,ne_eq,not_true_eq_false];refine bB h2 (by simp [ak,ak.go]) rfl ?_;simp only[zI,simprocAttr,bk,Re.ah,bV,iD,bD,ne_eq,not_true_eq_false];refine iC _ (by simp [bq.go,bq,cJ]) (bB h3 (by simp [ak,ak.go]) rfl ?_);simp only[zI,simprocAttr,bk,Re.ah,bV,iD,bD,ne_eq,not_true_eq_false,uf,not_false_eq_true];all_goals rfl
 ·rw[be hv];refine br Tryz.func22 Tryz.ntmps22 Tryz.results22 0 511 ?_;exact ZbU
def PG:Bool->Goal->Int->Prop
 |_,.nil,_=>True
 |s,.mk kind re k f nx,i=>if kind=0 then PG (s&&re.sQ) nx i else if kind=2 then (if s=true then f<i else f<=i)/\PG s nx i else PG s nx i
theorem PG.mono:∀{gl:Goal}{s s':Bool}{i:Int},(s'=true->s=true)->PG s gl i->PG s' gl i
 |.nil,_,_,_,_,_=>trivial
 |.mk kind re k f nx,s,s',i,hs,h=>by
  unfold PG at h ⊢;by_cases h0:kind=0
  ·rw[be h0]at h ⊢;exact PG.mono (λe=>by
    simp only[alo]at e ⊢;exact⟨hs e.1,e.2⟩) h
  rw[ap h0]at h ⊢;by_cases h2:kind=2
  ·rw[be h2]at h ⊢;refine⟨?_,PG.mono hs h.2⟩;have h1:=h.1;cases s' with
   |true=>rw[hs rfl]at h1;exact h1
   |false =>
    rw[ap alJ];split at h1 <;> omega
  rw[ap h2]at h ⊢;exact PG.mono hs h
theorem PG.succ:∀{gl:Goal}{s:Bool}{i:Int},PG false gl i->PG s gl (i+1)
 |.nil,_,_,_=>trivial
 |.mk kind re k f nx,s,i,h=>by
  unfold PG at h ⊢;by_cases h0:kind=0
  ·rw[be h0]at h ⊢;rw[Bool.false_and]at h;exact PG.succ h
  rw[ap h0]at h ⊢;by_cases h2:kind=2
  ·rw[be h2]at h ⊢;have h1:=h.1;rw[ap alJ]at h1;refine⟨by split <;> omega,PG.succ h.2⟩
  rw[ap h2]at h ⊢;exact PG.succ h
theorem PG.push{i:Int}:∀{l:List Re}{s:Bool},PG (s&&Re.ri l) nx i->PG s (gm l nx) i
 |[],s,h=>by simpa [Re.ri,gm]using h
 |k::l,s,h=>by show PG s (.mk 0 k 0 0 (gm l nx)) i;unfold PG;rw[be rfl];refine PG.push ?_;rw[Re.ri,<- Bool.and_assoc]at h;exact h
def fH (c:aC):List Int:=c.flatMap λp=>[p.1,p.2]
theorem Rf (c:aC):(fH c).length=2*c.length:=by
 unfold fH;induction c with
 |nil=>rfl
 |cons p c ih=>rw[List.flatMap_cons,ald,ih,alg];simp only[alg,alf];omega
theorem Io:∀(c:aC) (m:Nat) (x y:Int),fH (c.set m (x,y))=((fH c).set (2*m) x).set (2*m+1) y
 |[],m,x,y=>by simp [fH]
 |p::c,0,x,y=>by simp [fH]
 |p::c,m+1,x,y=>by have ih:=Io c m x y;have e1:fH ((p::c).set (m+1) (x,y))=p.1::p.2::fH (c.set m (x,y)):=rfl;have e2:fH (p::c)=p.1::p.2::fH c:=rfl;rw[e1,ih,e2,show 2*(m+1)=2*m+1+1 by omega,show 2*m+1+1+1=(2*m+1)+1+1 by omega];simp only[alD]
theorem OA {c:aC}{n i:Int} (hn:1<=n):fH (mR c n f i)=((fH c).set (2*n-2).toNat f).set (2*n-1).toNat i:=by
 unfold mR;have e1:(2*n-2).toNat=2*(n-1).toNat:=ae;have e2:(2*n-1).toNat=2*(n-1).toNat+1:=ae;by_cases h:n<=c.length
 ·rw[be ⟨hn,h⟩,Io,e1,e2]
 ·have hl:=Rf c;rw[bm,List.set_eq_of_length_le (l:=fH c) ae,List.set_eq_of_length_le ae]
def opens:Goal->List Int
 |.nil=>[]
 |.mk kind re _ _ nx=>if kind=3 then re.n::opens nx else opens nx
def jz:Goal->aC->List Int
 |.nil,c=>fH c
 |.mk kind re _ f nx,c=>if kind=3 then (jz nx c).set (2*re.n-2).toNat f else jz nx c
theorem dB {k:Int}{c:aC} (h:kind≠3):jz (.mk kind re k f nx) c=jz nx c:=ap h
theorem J2 {k:Int} (h:kind≠3):opens (.mk kind re k f nx)=opens nx:=ap h
theorem Iu:∀{c d:aC},fH c=fH d->c=d
 |[],[],_=>rfl
 |[],p::d,h=>by simp [fH]at h
 |p::c,[],h=>by simp [fH]at h
 |p::c,q::d,h=>by have e1:p.1::p.2::fH c=q.1::q.2::fH d:=h;injection e1 with h1 h2;injection h2 with h2 h3;rw[Iu h3];congr 1;exact Prod.ext h1 h2
def oe (C:List aw) (pc:Nat) (l:List aw):Prop:=∃A B,C=A++(l++B)/\pc=A.length
theorem oe.app{l':List aw} (h:oe C pc (l++l')):oe C pc l/\oe C (pc+l.length) l':=by obtain⟨A,B,h1,h2⟩:=h;exact⟨⟨A,l'++B,by rw[h1,alx],h2⟩,⟨A++l,B,by rw[h1];simp,by rw[ald,h2]⟩⟩
theorem oe.cons{x:aw} (h:oe C pc (x::l)):bH C pc=x/\oe C (pc+1) l:=by obtain⟨A,B,h1,h2⟩:=h;refine⟨?_,⟨A++[x],B,by rw[h1];simp,by rw[ald,h2];rfl⟩⟩;unfold bH;rw[h1,h2,List.getD_eq_getElem?_getD,List.getElem?_append_right (ale _),ame];rfl
inductive Fw (C:List aw):Nat->Nat->Prop
 |refl {pc:Nat}:Fw C pc pc
 |step {pc q:Nat} (h:(bH C pc).op=3) (k:Fw C (bH C pc).x.toNat q):Fw C pc q
theorem Fw.way {t:List Int}{Bs:List (List Bool)}{fin:Nat->Bool}{q a n:Nat}{aR:List Int}{r:Option (Nat×List Int)} (h:Fw C pc q) (w:dt t Bs C fin q a aR n r):∃m,dt t Bs C fin pc a aR m r:=by
 induction h with
 |refl=>exact⟨n,w⟩
 |step h k ih =>
  obtain⟨m,w'⟩:=ih w;exact⟨_,.jmp h w'⟩
def FX (re:Re):Bool:=!re.kX||re.kids.all λk=>k.every λr=>decide (r.op≠5)
def Sk (re:Re):Bool:=IJ re&&(uQ re&&FX re)
theorem Qj:Sk re=true ↔ IJ re=true/\uQ re=true/\FX re=true:=by unfold Sk;rw[alo,alo]
structure FrN (re:Re):Prop where
 one:re.op=4\/re.op=5\/re.op=7\/re.op=8->∃x,re.kids=[x]
 two:re.op=3->2<=re.kids.length
 mn0:0<=re.mn
 mx0:re.op=4->re.mx=-1\/(1<=re.mx/\re.mn<=re.mx)
 cap:re.op=5->1<=re.n
 ops:re.op=0\/re.op=1\/re.op=2\/re.op=3\/re.op=4\/re.op=5\/re.op=7\/re.op=8\/re.op=11
 rep:re.op=4->re.mode≠2/\Re.qb re.kids=false
 nok:re.op=0->re.kids=[]
 Z3:re.op=7\/re.op=8->∀k∈re.kids,k.every (λr=>decide (r.op≠5))=true
 ass:re.op=11->0<=re.n/\re.n<=5
theorem Ll (l:List Re):jE l=Re.qb l:=by
 cases l with
 |nil=>rfl
 |cons x l=>rfl
theorem rG (h:re.every Sk=true):FrN re/\∀k∈re.kids,k.every Sk=true:=by
 obtain⟨h1,h2⟩:=(Re.az re).1 h;obtain⟨a,b,c⟩:=Qj.1 h1;obtain⟨a1,a2⟩:=zk.1 a;obtain⟨q1,q2,q3,q4,q5,q6,q7,q8,q9,jd,nN,Cp,q13,q14,q15⟩:=je.1 a1;obtain⟨b1,b2,b3,b4⟩:=of_decide_eq_true b;refine⟨⟨λo=>List.length_eq_one_iff.1 (q1 o),q2,q4,q8,nN,ae,λo=>?_,λo=>a2 (.inl o),λo=>?_,λo=>⟨q9,Cp o⟩⟩,h2⟩
 ·obtain⟨c1,c2⟩:=b4 o;exact⟨c1,by rw[<- Ll];exact c2⟩
 ·unfold FX at c;have hl:re.kX=true:=bi o;rw[hl]at c;simpa using c
def sI (re:Re) (b k:Nat):Nat:=b+min k re.mn.toNat*Re.cC re.kids+(if re.mx=-1 then 0 else (k-re.mn.toNat)*(Re.cC re.kids+1))
structure jJ (C:List aw) (re:Re) (kk b:Nat) (k:Int) (pc:Nat):Prop where
 hs:oe C b (re.xW kk b)
 hf:re.every Sk=true
 ho:re.op=4
 k0:0<=k
 k1:re.mx=-1\/k<=re.mx
 hp:pc=sI re b k.toNat
theorem KM {C:List aw}{c:Nat->List aw}{z:Nat} (hc:∀f,(c f).length=z) {f:Nat}:∀(m:Nat),oe C f (wU c m f)->∀j:Nat,j<m->oe C (f+j*z) (c (f+j*z))
 |0,_,j,hj=>ae
 |m+1,h,j,hj=>by
  rw[wU]at h;obtain⟨h1,h2⟩:=h.app;by_cases e:j<m
  ·exact KM hc m h1 j e
  ·have:j=m:=by omega
   subst this;rw[u6 hc]at h2;exact h2
theorem Ie {C:List aw}{c:Nat->List aw}{z:Nat} (hc:∀f,(c f).length=z) {f fin:Nat}{mode:Int}:∀(m:Nat),oe C f (rp c mode fin m f)->∀j:Nat,j<m->oe C (f+j*(z+1)) (mo mode (f+j*(z+1)+1) fin::c (f+j*(z+1)+1))
 |0,_,j,hj=>ae
 |m+1,h,j,hj=>by
  rw[rp]at h;obtain⟨h1,h2⟩:=h.app;by_cases e:j<m
  ·exact Ie hc m h1 j e
  ·have:j=m:=by omega
   subst this;rw[A4 hc]at h2;exact h2
section
variable {C:List aw}{re aJ:Re}{kk b pc:Nat}{k:Int}
theorem MM (hk:re.kids=[aJ]) (f:Nat):Re.ue re.kids kk f=aJ.xW kk f:=by rw[hk,Re.ue,Re.ue,amv]
theorem kE (hk:re.kids=[aJ]):Re.cC re.kids=aJ.dp:=by rw[hk,Re.cC,Re.cC,al8]
theorem Jv (hk:re.kids=[aJ]) (ho:re.op=4):re.dp=if re.mx=-1 then re.mn.toNat*aJ.dp+aJ.dp+2 else re.mn.toNat*aJ.dp+(re.mx-re.mn).toNat*(aJ.dp+1):=by rw[Re.ga,nW,bm,bm,bm,bm,be ho,kE hk]
theorem jJ.code (h:jJ C re kk b k pc) (hk:re.kids=[aJ]):oe C b (BD (λf=>aJ.xW kk f) re.mn re.mx re.mode aJ.dp b):=by have hs:=h.hs;have ho:=h.ho;rw[Re.lN,bm,bm,bm,bm,bm,be ho,kE hk]at hs;have e:(λf=>Re.ue re.kids kk f)=λf=>aJ.xW kk f:=funext λf=>MM hk f;rw[e]at hs;exact hs
theorem jJ.less (h:jJ C re kk b k pc) (hk:re.kids=[aJ]) (aE:k<re.mn):oe C pc (aJ.xW kk pc)/\jJ C re kk b (k+1) (pc+aJ.dp):=by
 have hN:=(rG h.hf).1;have hc:=h.code hk;have jX:=h.k0;have hp:=h.hp;have Sp:=hN.mx0 h.ho;unfold BD at hc;simp only at hc;have r9:pc=b+k.toNat*aJ.dp:=by rw[hp,sI,kE hk,Nat.min_eq_left ae,show k.toNat-re.mn.toNat=0 by omega,Nat.zero_mul];split <;> omega
 have h1:=KM (λf=>aJ.ml kk f) re.mn.toNat hc.app.1 k.toNat ae;rw[<- r9]at h1;refine⟨h1,h.hs,h.hf,h.ho,ae,ae,?_⟩;have e1:(k+1).toNat=k.toNat+1:=ae;rw[sI,kE hk,Nat.min_eq_left ae,e1,show k.toNat+1-re.mn.toNat=0 by omega,Nat.zero_mul,Nat.succ_mul,r9];split <;> omega
theorem jJ.loop (h:jJ C re kk b k pc) (hk:re.kids=[aJ]) (aE:¬k<re.mn) (hx:re.mx=-1):bH C pc=mo re.mode (pc+1) (b+re.dp)/\oe C (pc+1) (aJ.xW kk (pc+1))/\bH C (pc+1+aJ.dp)=jZ pc/\jJ C re kk b (k+1) pc:=by
 have hN:=(rG h.hf).1;have hc:=h.code hk;have jX:=h.k0;have Dm:=hN.mn0;have hp:=h.hp;have hz:=Jv hk h.ho;rw[be hx]at hz;have r9:pc=b+re.mn.toNat*aJ.dp:=by rw[hp,sI,kE hk,Nat.min_eq_right ae,be hx,al8]
 unfold BD at hc;simp only at hc;rw[be hx]at hc;have h1:=hc.app.2;rw[u6 (λf=>aJ.ml kk f),<- r9]at h1;obtain⟨h2,h3⟩:=h1.cons;obtain⟨h4,h5⟩:=h3.app;rw[aJ.ml]at h5;refine⟨?_,h4,h5.cons.1,h.hs,h.hf,h.ho,ae,.inl hx,?_⟩
 ·rw[h2,hz,r9,alL,alL,alL,alL]
 ·have e1:(k+1).toNat=k.toNat+1:=by omega
  rw[sI,kE hk,Nat.min_eq_right ae,be hx,al8,r9]
theorem jJ.count (h:jJ C re kk b k pc) (hk:re.kids=[aJ]) (aE:¬k<re.mn) (hx:re.mx≠-1) (hlx:k<re.mx):bH C pc=mo re.mode (pc+1) (b+re.dp)/\oe C (pc+1) (aJ.xW kk (pc+1))/\jJ C re kk b (k+1) (pc+1+aJ.dp):=by
 have hN:=(rG h.hf).1;have hc:=h.code hk;have jX:=h.k0;have Dm:=hN.mn0;have hp:=h.hp;have hz:=Jv hk h.ho;rw[ap hx]at hz;have r9:pc=b+re.mn.toNat*aJ.dp+(k-re.mn).toNat*(aJ.dp+1):=by rw[hp,sI,kE hk,Nat.min_eq_right ae,ap hx,show k.toNat-re.mn.toNat=(k-re.mn).toNat by omega]
 unfold BD at hc;simp only at hc;rw[ap hx]at hc;have h1:=hc.app.2;rw[u6 (λf=>aJ.ml kk f)]at h1;have h2:=Ie (λf=>aJ.ml kk f) (re.mx-re.mn).toNat h1 (k-re.mn).toNat ae;rw[<- r9]at h2;obtain⟨h3,h4⟩:=h2.cons;refine⟨by rw[h3,hz,alL b],h4,h.hs,h.hf,h.ho,ae,.inr ae,?_⟩;have e1:(k+1).toNat-re.mn.toNat=(k-re.mn).toNat+1:=ae;rw[sI,kE hk,Nat.min_eq_right ae,ap hx,e1,Nat.succ_mul,r9];omega
theorem jJ.last (h:jJ C re kk b k pc) (hk:re.kids=[aJ]) (aE:¬k<re.mn) (hx:¬(re.mx=-1\/k<re.mx)):pc=b+re.dp:=by have jX:=h.k0;have sY:=h.k1;have Dm:=(rG h.hf).1.mn0;have hz:=Jv hk h.ho;rw[ap (λe=>hx (.inl e))]at hz;rw[h.hp,sI,kE hk,Nat.min_eq_right ae,ap (λe=>hx (.inl e)),hz,show k.toNat-re.mn.toNat=(re.mx-re.mn).toNat by omega,alL]
end
variable{k:Nat}{Bs:List (List Bool)}{re:Re}{t:List Int}
def I9 (t:List Int) (Bs:List (List Bool)) (re:Re) (k:Nat):Prop:=∀p∈re.cc k,Bs.getD p.2 []=eV t Bs p.1 p.2/\∃x,p.1.kids=[x]/\fz t Bs (x.emit (p.2+1) []++[cq])
def NW (t:List Int) (Bs:List (List Bool)) (l:List Re) (k:Nat):Prop:=∀p∈Re.kv l k,Bs.getD p.2 []=eV t Bs p.1 p.2/\∃x,p.1.kids=[x]/\fz t Bs (x.emit (p.2+1) []++[cq])
theorem I9.kids (h:I9 t Bs re k) (ho:¬(re.op=7\/re.op=8)):NW t Bs re.kids k:=by intro p hp;refine h p ?_;rw[Re.DD,ap ho];exact hp
theorem I9.look{x:Re} (h:I9 t Bs re k) (ho:re.op=7\/re.op=8) (hk:re.kids=[x]):Bs.getD k []=eV t Bs re k/\fz t Bs (x.emit (k+1) []++[cq])/\I9 t Bs x (k+1):=by
 have e:re.cc k=(re,k)::Re.kv re.kids (k+1):=by rw[Re.DD,be ho]
 obtain⟨h1,y,h2,h3⟩:=h (re,k) (by rw[e];simp);simp only at h1 h2 h3;rw[hk]at h2;have:x=y:=by simpa using h2
 subst this;refine⟨h1,h3,λp hp=>h p ?_⟩;rw[e,hk,Re.kv,Re.kv,amv];exact List.mem_cons_of_mem _ hp
theorem NW.cons{x:Re}{l:List Re} (h:NW t Bs (x::l) k):I9 t Bs x k/\NW t Bs l (k+x.looks):=by unfold NW at h;rw[Re.kv]at h;exact⟨λp hp=>h p (List.mem_append_left _ hp),λp hp=>h p (List.mem_append_right _ hp)⟩
theorem I9.one{x:Re} (h:I9 t Bs re k) (ho:¬(re.op=7\/re.op=8)) (hk:re.kids=[x]):I9 t Bs x k:=by have:=h.kids ho;rw[hk]at this;exact this.cons.1
inductive Cq (t:List Int) (Bs:List (List Bool)) (C:List aw) (fin:Nat->Bool):Goal->Nat->Prop
 |nil {pc:Nat} (h:(bH C pc).op=0) (hf:∀a,fin a=true):Cq t Bs C fin .nil pc
 |here {k f:Int}{pc:Nat}{re:Re} (h:(bH C pc).op=0) (hf:∀a:Nat,fin a=decide ((a:Int)=f)):Cq t Bs C fin (.mk 4 re k f .nil) pc
 |tree {kind k f:Int}{pc q kk:Nat}{re:Re}{nx:Goal} (hk:kind=0) (hs:oe C pc (re.xW kk pc)) (hf:re.every Sk=true) (hb:I9 t Bs re kk) (hj:Fw C (pc+re.dp) q) (hn:Cq t Bs C fin nx q):Cq t Bs C fin (.mk kind re k f nx) pc
 |save {kind k f:Int}{pc q:Nat}{re:Re}{nx:Goal} (hk:kind=3) (ho:(bH C pc).op=4) (hx:(bH C pc).n=2*re.n-1) (hj:Fw C (pc+1) q) (hn:Cq t Bs C fin nx q):Cq t Bs C fin (.mk kind re k f nx) pc
 |rep {kind k f:Int}{pc b q kk:Nat}{re:Re}{nx:Goal} (hk:kind=1) (h:jJ C re kk b k pc) (hb:I9 t Bs re kk) (hj:Fw C (b+re.dp) q) (hn:Cq t Bs C fin nx q):Cq t Bs C fin (.mk kind re k f nx) pc
 |more {kind k f:Int}{pc b q kk:Nat}{re:Re}{nx:Goal} (hk:kind=2) (h:jJ C re kk b (k+1) pc) (hb:I9 t Bs re kk) (hj:Fw C (b+re.dp) q) (hn:Cq t Bs C fin nx q):Cq t Bs C fin (.mk kind re k f nx) pc
theorem Cq.push{C:List aw}{fin:Nat->Bool}{nx:Goal}{q:Nat} (hn:Cq t Bs C fin nx q):∀{l:List Re}{pc kk:Nat},oe C pc (Re.ue l kk pc)->(∀k∈l,k.every Sk=true)->NW t Bs l kk->Fw C (pc+Re.cC l) q ->
  ∃q',Fw C pc q'/\Cq t Bs C fin (gm l nx) q'
 |[],pc,kk,hs,hl,hb,hj=>⟨q,by simpa [Re.cC]using hj,hn⟩
 |k::l,pc,kk,hs,hl,hb,hj=>by rw[Re.ue]at hs;obtain⟨h1,h2⟩:=hs.app;rw[Re.ml]at h2;rw[Re.cC,<- alL]at hj;obtain⟨b1,b2⟩:=hb.cons;obtain⟨q',a1,a2⟩:=Cq.push hn (l:=l) h2 (λx hx=>hl x (by simp [hx])) b2 hj;exact⟨pc,.refl,.tree rfl h1 (hl k aq) b1 a1 a2⟩
section
variable {t:List Int}{Bs:List (List Bool)}{C:List aw}
variable{l:List iz}{p:Nat}{o:Nat×List Int}{l':List iz}
inductive lC (t:List Int) (Bs:List (List Bool)) (C:List aw) (p:Nat):List iz->Option (Nat×List Int)->Prop
 |nil:lC t Bs C p [] none
 |Qv {x l n r} (w:dt t Bs C oC x.fL p x.aR n (some r)):lC t Bs C p (x::l) (some r)
 |Gy {x l n r} (w:dt t Bs C oC x.fL p x.aR n none) (h:lC t Bs C p l r):lC t Bs C p (x::l) r
theorem lC.TY (h:lC t Bs C p l (some o)):lC t Bs C p (l++l') (some o):=by
 generalize hr:some o=r at h;induction h with
 |nil=>cases hr
 |Qv w=>exact hr ▸ .Qv (hr ▸ w)
 |Gy w h ih=>exact .Gy w (ih hr)
theorem lC.VD{r:Option (Nat×List Int)} (h:lC t Bs C p l none) (h':lC t Bs C p l' r):lC t Bs C p (l++l') r:=by
 generalize hr:(none:Option (Nat×List Int))=r0 at h;induction h with
 |nil=>exact h'
 |Qv w=>cases hr
 |Gy w h ih=>exact .Gy w (ih hr)
theorem lC.pre (h:lC t Bs C p l (some o)) (hp:l <+: l'):lC t Bs C p l' (some o):=by obtain⟨r,rfl⟩:=hp;exact h.TY
theorem lC.split:∀{l l':List iz}{r:Option (Nat×List Int)},lC t Bs C p (l++l') r->(∃v,r=some v/\lC t Bs C p l (some v))\/(lC t Bs C p l none/\lC t Bs C p l' r)
 |[],_,_,h=>.inr ⟨.nil,h⟩
 |x::l,l',r,h=>by
  cases h with
  |Qv w=>exact .inl ⟨_,rfl,.Qv w⟩
  |Gy w h =>
   rcases lC.split h with ⟨v,e,h1⟩|⟨h1,h2⟩
   ·exact .inl ⟨v,e,.Gy w h1⟩
   ·exact .inr ⟨.Gy w h1,h2⟩
theorem Fc (p:Nat):∀(k n:Nat) (rg:List Int) (st:eQ),st.rd <+: (fq t Bs C p k n rg st).rd
 |0,_,_,st=>List.prefix_refl _
 |k+1,n,rg,st=>by
  have ih:∀(n:Nat) (rg:List Int) (st:eQ),st.rd <+: (fq t Bs C p k n rg st).rd:=λn rg st=>Fc p k n rg st;rw[fq];split
  ·exact List.prefix_refl _
  simp only;split
  ·exact List.prefix_append _ _
  split
  ·exact(ih _ rg ⟨st.ad.set n (p+1),st.cl,st.rd,st.gn⟩).trans (ih _ _ _)
  split
  ·exact ZdK
  split
  ·exact ih _ _ ⟨st.ad.set n (p+1),st.cl,st.rd,st.gn⟩
  split
  ·split
   ·exact ZdK
   ·exact List.prefix_refl _
  ·exact List.prefix_refl _
def nF (C:List aw) (st:eQ):Prop:=∃l,(∀x∈l,(bH C x.fL).op=1)/\((st.cl=false/\st.rd=l)\/(st.cl=true/\∃d,(bH C d.fL).op=0/\st.rd=l++[d]))
theorem xP (p:Nat):∀(k n:Nat) (rg:List Int) (st:eQ),nF C st->nF C (fq t Bs C p k n rg st)
 |0,_,_,_,h=>h
 |k+1,n,rg,st,h=>by
  have ih:∀(n:Nat) (rg:List Int) (st:eQ),nF C st->nF C (fq t Bs C p k n rg st):=λn rg st=>xP p k n rg st;rw[fq];split
  ·exact h
  ·rename_i hc;have cQ:st.cl=false:=by
    cases hb:st.cl with
    |false=>rfl
    |true=>exact absurd (.inl hb) hc
   simp only;have h1:nF C ⟨st.ad.set n (p+1),st.cl,st.rd,st.gn⟩:=h;obtain⟨l,hl,hh⟩:=h;have JV:st.rd=l:=by
    rcases hh with ⟨_,e⟩|⟨e,_⟩
    ·exact e
    ·rw[cQ]at e;cases e
   split
   ·rename_i ho;by_cases o0:(bH C n).op=0
    ·exact⟨l,hl,.inr ⟨bi o0,⟨n,rg⟩,o0,by rw[JV]⟩⟩
    ·have o1:(bH C n).op=1:=ho.resolve_left o0;refine⟨l++[⟨n,rg⟩],λx hx=>?_,.inl ⟨ce o0,by rw[JV]⟩⟩;rcases List.mem_append.1 hx with hx|hx
     ·exact hl x hx
     ·rw[List.mem_singleton.1 hx];exact o1
   exact ZbA
def MkF (p:Nat) (st:eQ) (q:Nat):Prop:=st.ad[q]?=some (p+1)
def xV (t:List Int) (Bs:List (List Bool)) (C:List aw) (p:Nat) (S:Nat->Prop) (st:eQ):Prop:=∀q,q<C.length->MkF p st q->(∃n aR,dt t Bs C oC q p aR n none)\/S q
theorem lP (hg:fz t Bs C) {p c:Nat}:∀(k n:Nat) (rg:List Int) (st:eQ) (S:Nat->Prop) (m:Nat) (r:Option (Nat×List Int)),dt t Bs C oC n p rg m r->n<C.length->rg.length=c->st.ad.length=C.length->fC p st.ad<k->st.cl=false ->
  xV t Bs C p S st->(∀q,S q->∃m' jh r',m<m'/\dt t Bs C oC q p jh m' r')->lC t Bs C p st.rd none->lC t Bs C p (fq t Bs C p k n rg st).rd r/\(r=none->xV t Bs C p S (fq t Bs C p k n rg st)/\(fq t Bs C p k n rg st).cl=false)
 |0,_,_,_,_,_,_,_,_,_,_,hu,_,_,_,_=>ae
 |k+1,n,rg,st,S,m,r,w,hn,II,hd,hu,cQ,hA,hS,ho=>by
  rw[fq];obtain⟨x,hx⟩:∃x,st.ad[n]?=some x:=cb;by_cases hm:x=p+1
  ·rw[be (.inr (.inr (by rw[hx,hm])))];rcases hA n hn (by unfold MkF;rw[hx,hm]) with ⟨m',jh,w'⟩|hs
   ·have hr:r=none:=by cases r with
     |none=>rfl
     |some r=>have:=(w.det w').2.1;cases this
    exact⟨hr ▸ ho,λ_=>⟨hA,cQ⟩⟩
   ·obtain⟨m',jh,r',aE,w'⟩:=hS n hs;have:=(w.det w').1;omega
  rw[ap (by rw[hx,cQ];simp [hm])];have Ze:=rO hx hm;generalize bL:(⟨st.ad.set n (p+1),st.cl,st.rd,st.gn⟩:eQ)=dI;have d1:dI.ad.length=C.length:=by rw[<- bL];simpa using hd
  have d3:fC p dI.ad<k:=by rw[<- bL];show fC p (st.ad.set n (p+1))<k;omega
  have d5:dI.rd=st.rd:=by rw[<- bL]
  have d6:dI.cl=false:=by rw[<- bL];exact cQ
  have Zx:lC t Bs C p dI.rd none:=by rw[d5];exact ho
  have ZM:xV t Bs C p (λq=>S q\/q=n) dI:=by
   intro q hq hk;by_cases e:q=n
   ·exact .inr (.inr e)
   ·rw[<- bL]at hk;have vD:MkF p st q:=by unfold MkF at hk ⊢;rw[<- List.getElem?_set_ne (Ne.symm e)];exact hk
    rcases hA q hq vD with h|h
    ·exact .inl h
    ·exact .inr (.inl h)
  have Ha:∀Gs:eQ,r=none->xV t Bs C p (λq=>S q\/q=n) Gs->xV t Bs C p S Gs:=λGs hr h2 q hq hk=>by
   rcases h2 q hq hk with h|h|h
   ·exact .inl h
   ·exact .inr h
   ·exact .inl (h ▸ ⟨m,rg,hr ▸ w⟩)
  have vh:∀m',m'<m->∀q,(S q\/q=n)->∃m2 jh r',m'<m2/\dt t Bs C oC q p jh m2 r':=λm' lE q hq=>by
   rcases hq with hq|rfl
   ·obtain⟨m2,jh,r',aE,w'⟩:=hS q hq;exact⟨m2,jh,r',ae,w'⟩
   ·exact⟨m,rg,r,lE,w⟩
  have Y5:lC t Bs C p (dI.rd++[⟨n,rg⟩]) r:=by
   refine Zx.VD ?_;cases r with
   |none=>exact .Gy w .nil
   |some r=>exact .Qv w
  have Aq:=hg.ops n hn;simp only;by_cases o0:(bH C n).op=0
  ·rw[be (.inl o0)];obtain⟨_,hr⟩:=w.LL o0;exact⟨Y5,λe=>by rw[hr]at e;cases e⟩
  by_cases o1:(bH C n).op=1
  ·rw[be (.inr o1)];exact⟨Y5,λe=>⟨Ha dI e ZM,ce o0⟩⟩
  rw[bm];by_cases o2:(bH C n).op=2
  ·rw[be o2];obtain⟨x0,x1,y0,y1⟩:=hg.split n hn o2;rcases w.inv2 o2 with ⟨m1,v,rfl,rfl,w1⟩|⟨m1,m2,rfl,w1,w2⟩
   ·have ih:=lP hg k _ rg dI _ _ _ w1 ae II d1 d3 d6 ZM (vh _ ae) Zx;exact⟨ih.1.pre (Fc p k _ _ _),λe=>by cases e⟩
   ·have ih:=lP hg k _ rg dI _ _ _ w1 ae II d1 d3 d6 ZM (vh _ ae) Zx;have Ni:=nQ t Bs C p c k (bH C n).x.toNat rg dI II d1;obtain⟨i1,i2⟩:=ih.2 rfl;have mN:=lP hg k _ rg _ _ _ _ w2 ae II (Ni.1.trans d1) (by have:=Ni.2.1;omega) i2 i1 (vh _ ae) ih.1;exact⟨mN.1,λe=>⟨Ha _ e (mN.2 e).1,(mN.2 e).2⟩⟩
  rw[ap o2];by_cases o3:(bH C n).op=3
  ·rw[be o3];obtain⟨x0,x1⟩:=hg.jump n hn o3;obtain⟨m1,rfl,w1⟩:=w.W8 o3;have ih:=lP hg k _ rg dI _ _ _ w1 ae II d1 d3 d6 ZM (vh _ ae) Zx;exact ZcE
  rw[ap o3];by_cases o4:(bH C n).op=4
  ·rw[be o4];obtain⟨m1,rfl,w1⟩:=w.V7 o4;have ih:=lP hg k _ _ dI _ _ _ w1 (hg.next n hn (.inr (.inl o4))) (by simpa using II) d1 d3 d6 ZM (vh _ ae) Zx;exact ZcE
  rw[ap o4];have o5:(bH C n).op=5:=ae;rw[be o5];rcases w.Q7 o5 with ⟨h1,rfl,_⟩|⟨h1,m1,rfl,w1⟩
  ·rw[ap (by rw[h1];simp)];exact⟨Zx,λe=>⟨Ha _ e ZM,d6⟩⟩
  ·rw[be h1];have ih:=lP hg k _ rg dI _ _ _ w1 (hg.next n hn (.inr (.inr o5))) II d1 d3 d6 ZM (vh _ ae) Zx;exact ZcE
theorem GN (p:Nat):∀(l:List iz) (st:eQ),st.rd <+: (fF t Bs C p l st).rd
 |[],st=>List.prefix_refl _
 |x::l,st=>by
  refine List.IsPrefix.trans ?_ (GN p l (fR t Bs C p st x));unfold fR;split
  ·exact Fc (p+1) _ _ _ _
  ·exact List.prefix_refl _
theorem BP (p:Nat):∀(l:List iz) (st:eQ),nF C st->nF C (fF t Bs C p l st)
 |[],st,h=>h
 |x::l,st,h=>by
  refine BP p l (fR t Bs C p st x) ?_;unfold fR;split
  ·exact xP (p+1) _ _ _ _ h
  ·exact h
theorem Hf (p:Nat) (l:List Nat):fC p l<=l.length:=al4
theorem rM (hg:fz t Bs C) {p c:Nat}:∀(l:List iz) (st:eQ) (r:Option (Nat×List Int)),(∀x∈l,x.fL<C.length/\x.aR.length=c/\(bH C x.fL).op=1)->st.ad.length=C.length->st.cl=false->xV t Bs C (p+1) (λ_=>False) st ->
  lC t Bs C (p+1) st.rd none->lC t Bs C p l r->lC t Bs C (p+1) (fF t Bs C p l st).rd r
 |[],st,r,_,_,_,_,ho,h=>by cases h;exact ho
 |x::l,st,r,jw,hd,cQ,hA,ho,h=>by
  obtain⟨x1,x2,x3⟩:=jw x aq;have Cu:∀y∈l,y.fL<C.length/\y.aR.length=c/\(bH C y.fL).op=1:=λy hy=>jw y (by simp [hy]);show lC t Bs C (p+1) (fF t Bs C p l (fR t Bs C p st x)).rd r;have hu:=Hf (p+1) st.ad;have key:∀n o,dt t Bs C oC x.fL p x.aR n o->(fR t Bs C p st x=st/\o=none)\/(∃n',dt t Bs C oC (x.fL+1) (p+1) x.aR n' o/\fR t Bs C p st x=fq t Bs C (p+1) (C.length+1) (x.fL+1) x.aR st):=by
   intro n o w;rcases w.inv1 x3 with ⟨h1,h2,_⟩|⟨h1,n',_,w'⟩
   ·exact .inl ⟨ap (λhh=>by rw[h1]at hh;cases hh.2),h2⟩
   ·exact .inr ⟨n',w',be ⟨x3,h1⟩⟩
  have hn:=hg.next _ x1 (.inl x3);cases h with
  |Qv w =>
   rcases key _ _ w with ⟨_,e⟩|⟨n',w',e⟩
   ·cases e
   ·rw[e];have:=lP hg (C.length+1) _ _ st (λ_=>False) _ _ w' hn x2 hd ae cQ hA (λq hq=>hq.elim) ho;exact this.1.pre (GN p l _)
  |Gy w h =>
   rcases key _ _ w with ⟨e,_⟩|⟨n',w',e⟩
   ·rw[e];exact rM hg l st r Cu hd cQ hA ho h
   ·rw[e];have a:=lP hg (C.length+1) _ _ st (λ_=>False) _ _ w' hn x2 hd ae cQ hA (λq hq=>hq.elim) ho;have Ni:=nQ t Bs C (p+1) c (C.length+1) (x.fL+1) x.aR st x2 hd;obtain⟨a1,a2⟩:=a.2 rfl;exact rM hg l _ r Cu (Ni.1.trans hd) a2 a1 a.1 h
theorem EB {p:Nat}:∀(k n:Nat) (rg:List Int) (st:eQ),(∀m∈st.ad,m<=p+1)->∀m∈(fq t Bs C p k n rg st).ad,m<=p+1
 |0,_,_,_,h=>h
 |k+1,n,rg,st,h=>by
  have ih:∀(n:Nat) (rg:List Int) (st:eQ),(∀m∈st.ad,m<=p+1)->∀m∈(fq t Bs C p k n rg st).ad,m<=p+1:=λn rg st h=>EB k n rg st h;rw[fq];split
  ·exact h
  have h1:∀m∈st.ad.set n (p+1),m<=p+1:=λm hm=>by
   exact Zdq
  simp only;split
  ·exact h1
  exact ZbA
theorem HL {p:Nat}:∀(l:List iz) (st:eQ),(∀m∈st.ad,m<=p+1+1)->∀m∈(fF t Bs C p l st).ad,m<=p+1+1
 |[],_,h=>h
 |x::l,st,h=>by
  refine HL l (fR t Bs C p st x) ?_;unfold fR;split
  ·exact EB _ _ _ st h
  ·exact h
def Wm (b c:Nat) (v:Nat×List Int):mL:=⟨b,v.1,JU c v.2⟩
theorem tJ (hg:fz t Bs C) {b c:Nat}:∀(k p:Nat) (st:eQ) (gb:Nat) (gI:Option mL) (r:Option (Nat×List Int)),nF C st->(∀x∈st.rd,x.fL<C.length/\x.aR.length=2*c)->st.ad.length=C.length->(∀m∈st.ad,m<=p+1)->(t.length<p->st.rd=[])->t.length+2<=p+k ->
  lC t Bs C p st.rd r->(qW t Bs C b c k p st gb gI).1=match r with|some v=>some (Wm b c v)|none=>gI
 |0,p,st,gb,gI,r,_,_,_,_,he,hk,ho=>by rw[he ae]at ho;cases ho;rfl
 |k+1,p,st,gb,gI,r,hsh,Y5,hd,hold,he,hk,ho=>by
  rw[qW];by_cases JV:st.rd=[]
  ·rw[be JV];rw[JV]at ho;cases ho;rfl
  rw[ap JV];have r9:p<=t.length:=by
   by_cases h:t.length<p
   ·exact absurd (he h) JV
   ·omega
  have hA:∀gb,xV t Bs C (p+1) (λ_=>False) ⟨st.ad,false,[],gb⟩:=λgb q hq hm=>by have:=hold _ (List.mem_of_getElem? hm);omega
  have hlen:∀(l:List iz) (st:eQ),(∀x∈l,x.aR.length=2*c)->st.ad.length=C.length->(∀x∈st.rd,x.fL<C.length/\x.aR.length=2*c)->(fF t Bs C p l st).ad.length=C.length/\∀x∈(fF t Bs C p l st).rd,x.fL<C.length/\x.aR.length=2*c:=by
   intro l;induction l with
   |nil=>intro st _ h h2;exact⟨h,h2⟩
   |cons x l ih =>
    intro st hl h h2;refine ih (fR t Bs C p st x) (λy hy=>hl y (by simp [hy])) ?_ ?_
    ·unfold fR;split
     ·exact(nQ t Bs C (p+1) (2*c) _ _ _ st (hl x aq) h).1.trans h
     ·exact h
    ·unfold fR;split
     ·intro y hy;rcases(nQ t Bs C (p+1) (2*c) _ _ _ st (hl x aq) h).2.2.2 y hy with h'|h'
      ·exact h2 y h'
      ·exact⟨h'.2.1,h'.1⟩
     ·exact h2
  obtain⟨n1,n2⟩:=hlen st.rd ⟨st.ad,false,[],gb⟩ (λx hx=>(Y5 x hx).2) hd (λx hx=>by cases hx);have nsh:nF C (fF t Bs C p st.rd ⟨st.ad,false,[],gb⟩):=BP p _ _ ⟨[],λx hx=>(by cases hx),.inl ⟨rfl,rfl⟩⟩;have Zk:=HL (t:=t) (Bs:=Bs) (C:=C) (p:=p) st.rd ⟨st.ad,false,[],gb⟩ (λm hm=>by have:=hold m hm;omega);have aaI:t.length<p+1->(fF t Bs C p st.rd ⟨st.ad,false,[],gb⟩).rd=[]:=λh=>by
   have VZ:∀(l:List iz),(∀x∈l,x.fL<C.length)->fF t Bs C p l ⟨st.ad,false,[],gb⟩=⟨st.ad,false,[],gb⟩:=by
    intro l;induction l with
    |nil=>intro _;rfl
    |cons x l ih =>
     intro hl;have e:fR t Bs C p ⟨st.ad,false,[],gb⟩ x=⟨st.ad,false,[],gb⟩:=ap (λhh=>by
      have:=C5 hg (hl x aq) hh.1 hh.2;omega)
     show fF t Bs C p l (fR t Bs C p ⟨st.ad,false,[],gb⟩ x)=_;rw[e];exact ih λy hy=>hl y (by simp [hy])
   rw[VZ st.rd λx hx=>(Y5 x hx).1]
  obtain⟨l,hl,mV⟩:=hsh;rcases mV with ⟨cQ,II⟩|⟨cQ,d,uZ,II⟩
  ·have hb:tq b p c st gI=gI:=by unfold tq;rw[ap (by rw[cQ];simp)]
   rw[hb];have AO:=rM hg (p:=p) (c:=2*c) st.rd ⟨st.ad,false,[],gb⟩ r (λx hx=>⟨(Y5 x hx).1,(Y5 x hx).2,hl x (II ▸ hx)⟩) hd rfl (hA gb) .nil ho;exact tJ hg k (p+1) _ _ _ r nsh n2 n1 Zk aaI ae AO
  ·have hb:tq b p c st gI=some ⟨b,p,JU c d.aR⟩:=by unfold tq;rw[be cQ,II,List.getLastD_concat]
   rw[hb];rw[II]at ho;have acX:∀{r},lC t Bs C p [d] r->r=some (p,d.aR):=by
    intro r h;cases h with
    |Qv w=>obtain⟨_,e⟩:=w.LL uZ;rw[e];rfl
    |Gy w h=>obtain⟨_,e⟩:=w.LL uZ;cases e
   have bR:fF t Bs C p st.rd ⟨st.ad,false,[],gb⟩=fF t Bs C p l ⟨st.ad,false,[],gb⟩:=by rw[II,ym];exact ap (λhh=>ae)
   have WN:∀x∈l,x.fL<C.length/\x.aR.length=2*c/\(bH C x.fL).op=1:=λx hx=>by have:=Y5 x (by rw[II];exact List.mem_append_left _ hx);exact⟨this.1,this.2,hl x hx⟩
   rcases ho.split with ⟨v,rfl,h1⟩|⟨h1,h2⟩
   ·have AO:=rM hg (p:=p) (c:=2*c) l ⟨st.ad,false,[],gb⟩ (some v) WN hd rfl (hA gb) .nil h1;rw[<- bR]at AO;exact tJ hg k (p+1) _ _ _ (some v) nsh n2 n1 Zk aaI ae AO
   ·have hr:=acX h2;subst hr;have AO:=rM hg (p:=p) (c:=2*c) l ⟨st.ad,false,[],gb⟩ none WN hd rfl (hA gb) .nil h1;rw[<- bR]at AO;exact tJ hg k (p+1) _ _ _ none nsh n2 n1 Zk aaI ae AO
theorem Kv (hg:fz t Bs C) (h0:0<C.length) {c m:Nat} (hp:p<=t.length) {r:Option (Nat×List Int)} (w:dt t Bs C oC 0 p (gu c) m r):(il t Bs C p c).1=r.map (Wm p c):=by
 have Ml:(gu c).length=2*c:=by simp [gu]
 have hold:∀m∈List.replicate C.length 0,m<=p+1:=λm hm=>by rw[(List.mem_replicate.1 hm).2];omega
 have hu:=Hf p (List.replicate C.length 0);rw[alQ]at hu;have a:=lP hg (p:=p) (c:=2*c) (C.length+1) 0 (gu c) ⟨List.replicate C.length 0,false,[],0⟩ (λ_=>False) m r w h0 Ml aq oE rfl (λq hq hm=>by
  have hm:(List.replicate C.length 0)[q]?=some (p+1):=hm;rw[List.getElem?_replicate,be hq]at hm;cases hm) (λq hq=>hq.elim) .nil
 have hsh:nF C (tp t Bs C p c):=xP p _ _ _ _ ⟨[],λx hx=>(by cases hx),.inl ⟨rfl,rfl⟩⟩;have Ni:=nQ t Bs C p (2*c) (C.length+1) 0 (gu c) ⟨List.replicate C.length 0,false,[],0⟩ Ml aq;have VP:=EB (t:=t) (Bs:=Bs) (C:=C) (p:=p) (C.length+1) 0 (gu c) ⟨List.replicate C.length 0,false,[],0⟩ hold;unfold il;rw[tJ hg (t.length+2-p) p (tp t Bs C p c) 0 none r hsh (λx hx=>?_) (Ni.1.trans aq) VP (λh=>ae) ae a.1]
 ·cases r <;> rfl
 ·rcases Ni.2.2.2 x hx with h|h
  ·cases h
  ·exact⟨h.2.1,h.1⟩
end
variable{re:Re}{kind:Int}{nx:Goal}{f:Int}{k:Int}
structure LQ (S:List Int) (re:Re):Prop where
 fr:re.every Sk=true
 co:∃a,re.nest a=false/\∀x∈S,x∈a
theorem LQ.aJ {S:List Int}{k:Re} (h:LQ S re) (hk:k∈re.kids) (ho:re.op≠5):LQ S k:=by refine⟨(rG h.fr).2 k hk,?_⟩;obtain⟨a,ha,hS⟩:=h.co;rw[Re.z7,ap (λh=>ho h.1),ap ho,List.any_eq_false]at ha;exact⟨a,by simpa using ha k hk,hS⟩
theorem LQ.cap {S:List Int}{re k:Re} (h:LQ S re) (hk:k∈re.kids) (ho:re.op=5):LQ (re.n::S) k/\1<=re.n/\re.n ∉ S:=by
 obtain⟨hN,iw⟩:=rG h.fr;obtain⟨a,ha,hS⟩:=h.co;rw[Re.z7]at ha;by_cases hc:re.op=5/\re.n∈a
 ·rw[be hc]at ha;cases ha
 ·rw[ap hc,be ho,List.any_eq_false]at ha;refine⟨⟨iw k hk,_,by simpa using ha k hk,λx hx=>?_⟩,hN.cap ho,λhx=>hc ⟨ho,hS _ hx⟩⟩;rcases List.mem_cons.1 hx with rfl|hx
  ·simp
  ·simp [hS x hx]
def He:Goal->Prop
 |.nil=>True
 |.mk kind re _ _ nx=>(if kind=3 then 1<=re.n/\re.n ∉ opens nx else if kind=4 then True else LQ (opens nx) re)/\He nx
theorem Bm:He (.mk kind re k f nx)=((if kind=3 then 1<=re.n/\re.n ∉ opens nx else if kind=4 then True else LQ (opens nx) re)/\He nx):=rfl
theorem jt (h:kind≠3) (h4:kind≠4):He (.mk kind re k f nx) ↔ LQ (opens nx) re/\He nx:=by rw[Bm,ap h,ap h4]
theorem P6:He (.mk 3 re k f nx) ↔ (1<=re.n/\re.n ∉ opens nx)/\He nx:=by rw[Bm,be rfl]
theorem ya {n f i:Int} (hn:1<=n):∀{gl:Goal}{c:aC},He gl->n ∉ opens gl->jz gl (mR c n f i)=((jz gl c).set (2*n-2).toNat f).set (2*n-1).toNat i
 |.nil,c,_,_=>OA hn
 |.mk kind re k f1 nx,c,hG,ho=>by
  rw[Bm]at hG;unfold opens at ho;unfold jz;by_cases h3:kind=3
  ·rw[be h3]at hG ho;simp only[alT,not_or]at ho;rw[be h3,be h3,ya hn hG.2 ho.2];have h1:=hG.1.1;have eX:=ho.1;rw[List.set_comm _ _ (show (2*n-1).toNat≠(2*re.n-2).toNat by omega),List.set_comm _ _ (show (2*n-2).toNat≠(2*re.n-2).toNat by omega)]
  ·rw[ap h3]at ho;rw[ap h3,ap h3,ya hn hG.2 ho]
theorem LU:∀{l:List Re}{nx:Goal},(∀k∈l,LQ (opens nx) k)->He nx->He (gm l nx)/\opens (gm l nx)=opens nx/\∀c,jz (gm l nx) c=jz nx c
 |[],nx,_,h=>⟨h,rfl,λ_=>rfl⟩
 |k::l,nx,hk,h=>by obtain⟨h1,h2,h3⟩:=LU (l:=l) (λx hx=>hk x (by simp [hx])) h;have e:gm (k::l) nx=.mk 0 k 0 0 (gm l nx):=rfl;rw[e];refine⟨(jt aF aF).2 ⟨by rw[h2];exact hk k aq,h1⟩,by rw[J2 aF,h2],λc=>by rw[dB aF,h3]⟩
theorem Af {aJ:Re}{i:Int} (hk:re.kids=[aJ]) (ho:re.op=4) (hc:LQ (opens nx) re) (h:He nx):He (.mk 0 aJ 0 0 (.mk 2 re k i nx))/\∀c,jz (.mk 0 aJ 0 0 (.mk 2 re k i nx)) c=jz nx c:=by refine⟨(jt aF aF).2 ⟨?_,(jt aF aF).2 ⟨hc,h⟩⟩,λc=>by rw[dB aF,dB aF]⟩;rw[J2 aF];exact hc.aJ (by rw[hk];simp) ae
def dv (t:List Int) (Bs:List (List Bool)) (C:List aw) (fin:Nat->Bool) (pc i:Nat) (aR:List Int) (st':bE) (b:Bool):Prop :=
 ∃(n:Nat) (r:Option (Nat×List Int)),dt t Bs C fin pc i aR n r/\((b=false/\r=none/\st'.empty=false/\st'.ends=[]/\st'.aj=[])\/(b=true/\∃(e:Nat) (d:aC),r=some (e,fH d)/\st'.ends=[(e:Int)]/\st'.aj=[d]))
section
variable {t:List Int}{Bs:List (List Bool)}{C:List aw}{fin:Nat->Bool}{pc q i:Nat}{aR:List Int}{st' s2:bE}{b:Bool}
variable{a:Nat}{mode:Int}
theorem dv.jm (h:dv t Bs C fin q i aR st' b) (hj:Fw C pc q):dv t Bs C fin pc i aR st' b :=
 let ⟨_,_,w,hw⟩:=h;let ⟨_,w'⟩:=hj.way w;⟨_,_,w',hw⟩
theorem dv.fst (ho:(bH C pc).op=2) (h1:dv t Bs C fin (bH C pc).x.toNat i aR st' true):dv t Bs C fin pc i aR st' true:=by
 obtain⟨n,r,w,hw⟩:=h1;rcases hw with ⟨e,_⟩|⟨_,e,d,rfl,h2⟩
 ·cases e
 ·exact⟨_,_,.NH ho w,.inr ⟨rfl,e,d,rfl,h2⟩⟩
theorem dv.snd (ho:(bH C pc).op=2) (h1:dv t Bs C fin (bH C pc).x.toNat i aR s2 false) (h2:dv t Bs C fin (bH C pc).y.toNat i aR st' b):dv t Bs C fin pc i aR st' b:=by
 obtain⟨n,r,w,hw⟩:=h1;obtain⟨m,r',w',hw'⟩:=h2;rcases hw with ⟨_,rfl,_⟩|⟨e,_⟩
 ·exact⟨_,_,.S0 ho w w',hw'⟩
 ·cases e
theorem dv.fresh (h:dv t Bs C fin pc i aR st' false):st'.empty=false/\st'.ends=[]/\st'.aj=[]:=by
 obtain⟨_,_,_,h|⟨e,_⟩⟩:=h
 ·exact h.2.2
 ·cases e
theorem CS (mode:Int) (a b:Nat):(mo mode a b).op=2:=by unfold mo dh;split <;> rfl
theorem AY{b:Nat} (h:mode=1):(mo mode a b).x.toNat=b/\(mo mode a b).y.toNat=a:=by unfold mo;rw[be h];exact⟨rfl,rfl⟩
theorem uN{b:Nat} (h:mode≠1):(mo mode a b).x.toNat=a/\(mo mode a b).y.toNat=b:=by unfold mo;rw[ap h];exact⟨rfl,rfl⟩
theorem dv.Pt{e:Nat} (hi:bH C pc=mo mode a e) (hm:mode≠1) (h1:dv t Bs C fin a i aR st' true):dv t Bs C fin pc i aR st' true :=
 dv.fst (by rw[hi,CS]) (by rw[hi,(uN hm).1];exact h1)
theorem dv.Qg{e:Nat} (hi:bH C pc=mo mode a e) (hm:mode≠1) (h1:dv t Bs C fin a i aR s2 false) (h2:dv t Bs C fin e i aR st' b):dv t Bs C fin pc i aR st' b :=
 dv.snd (by rw[hi,CS]) (by rw[hi,(uN hm).1];exact h1) (by rw[hi,(uN hm).2];exact h2)
theorem dv.MZ {mode:Int}{a e:Nat} (hi:bH C pc=mo mode a e) (hm:mode=1) (h1:dv t Bs C fin e i aR st' true):dv t Bs C fin pc i aR st' true :=
 dv.fst (by rw[hi,CS]) (by rw[hi,(AY hm).1];exact h1)
theorem dv.KS {mode:Int}{a e:Nat} (hi:bH C pc=mo mode a e) (hm:mode=1) (h1:dv t Bs C fin e i aR s2 false) (h2:dv t Bs C fin a i aR st' b):dv t Bs C fin pc i aR st' b :=
 dv.snd (by rw[hi,CS]) (by rw[hi,(AY hm).1];exact h1) (by rw[hi,(AY hm).2];exact h2)
theorem dv.yM (ho:(bH C pc).op=4) (h:dv t Bs C fin (pc+1) i (aR.set (bH C pc).n.toNat i) st' b):dv t Bs C fin pc i aR st' b :=
 let ⟨_,_,w,hw⟩:=h;⟨_,_,.yM ho w,hw⟩
theorem dv.ask (ho:(bH C pc).op=5) (hc:(bH C pc).pass t Bs i=true) (h:dv t Bs C fin (pc+1) i aR st' b):dv t Bs C fin pc i aR st' b :=
 let ⟨_,_,w,hw⟩:=h;⟨_,_,.ask ho hc w,hw⟩
theorem dv.vu {st:bE} (ho:(bH C pc).op=5) (hc:(bH C pc).pass t Bs i=false) (h1:st.empty=false) (h2:st.ends=[]) (h3:st.aj=[]):dv t Bs C fin pc i aR st false :=
 ⟨_,_,.vu ho hc,.inl ⟨rfl,rfl,h1,h2,h3⟩⟩
theorem dt.bp {n:Nat}{r:Option (Nat×List Int)} (iL:∀n,(bH C n).op≠4) (w:dt t Bs C fin pc a aR n r):∀v,r=some v->v.2=aR:=by
 induction w with
 |done=>intro v hv;cases hv;rfl
 |uE|Uc|vu=>intro v hv;cases hv
 |rd h hc w ih=>exact ih
 |NH h w ih=>exact ih
 |S0 h w w2 ih mN=>exact mN
 |jmp h w ih=>exact ih
 |yM h w ih=>exact absurd h (iL _)
 |ask h hc w ih=>exact ih
end
variable{Bs:List (List Bool)}{t:List Int}
def Iv (x:Re) (k:Nat):List aw:=x.emit (k+1) []++[cq]
theorem WE (x:Re) (k:Nat):Iv x k=x.xW (k+1) 0++[cq]:=by unfold Iv;rw[Eu];rfl
theorem nD (x:Re) (k:Nat):oe (Iv x k) 0 (x.xW (k+1) 0)/\(bH (Iv x k) (0+x.dp)).op=0/\0<(Iv x k).length:=by
 rw[WE];have h:oe (x.xW (k+1) 0++[cq]) 0 (x.xW (k+1) 0++[cq]):=⟨[],[],aq,rfl⟩
 obtain⟨h1,h2⟩:=h.app;rw[Re.ml]at h2;exact⟨h1,by rw[h2.cons.1];rfl,aq⟩
theorem N0 {x:Re} (h:x.every (λr=>decide (r.op≠5))=true) (k n:Nat):(bH (Iv x k) n).op≠4:=by
 have hP:sG (λi=>i.op≠4) (λr=>decide (r.op≠5)):=⟨λi x y h=>h,λx y=>by simp [dh],λx=>by simp [jZ],λre k _ o=>by simp [s9],λre k _ o=>by simp [lG],λre h o=>absurd o (of_decide_eq_true h)⟩
 have ha:=Bu hP x h (k+1) [] (λi hi=>by simp at hi);have bR:kW (λi=>i.op≠4) (Iv x k):=ha.add (by simp [cq]);by_cases hn:n<(Iv x k).length
 ·have hm:bH (Iv x k) n∈Iv x k:=by unfold bH;rw[List.getD_eq_getElem?_getD,List.getElem?_eq_getElem hn];exact List.getElem_mem hn
  exact bR _ hm
 ·have:bH (Iv x k) n=⟨0,0,0,0,none⟩:=by unfold bH;rw[List.getD_eq_getElem?_getD,List.getElem?_eq_none ae];rfl
  rw[this];simp
theorem nV{re x:Re}{k i:Nat}{v:Bool} (hk:re.kids=[x]) (hb:Bs.getD k []=eV t Bs re k) (ho:re.op=7\/re.op=8) (hv:(if re.op=7 then iv t Bs (Iv x k) else rC t Bs (Iv x k))[i]?=some v):(lG re k).pass t Bs i=(v != re.neg):=by
 unfold aw.pass lG;simp only;rw[bm,bm,hb];unfold eV;simp only;have e:Re.dn re.kids (k+1) []++[cq]=Iv x k:=by rw[hk,Re.dn,Re.dn];rfl
 rw[e,List.getD_eq_getElem?_getD,List.getElem?_map,hv];rfl
def afB (t:List Int) (Bs:List (List Bool)) (st':bE) (b:Bool):ETask->Prop
 |.run gl i c=>∀(C:List aw) (fin:Nat->Bool) (pc q:Nat),Fw C pc q->Cq t Bs C fin gl q->PG true gl i->He gl->dv t Bs C fin pc i.toNat (jz gl c) st' b
 |.node re nx i c=>∀(C:List aw) (fin:Nat->Bool) (pc q kk:Nat),0<=i->i<=t.length->oe C pc (re.xW kk pc)->I9 t Bs re kk->Fw C (pc+re.dp) q->Cq t Bs C fin nx q->PG re.sQ nx i->LQ (opens nx) re->He nx->dv t Bs C fin pc i.toNat (jz nx c) st' b
 |.body re nx i c=>∀(C:List aw) (fin:Nat->Bool) (pc q kk:Nat),re.op≠4->0<=i->i<=t.length->oe C pc (re.xW kk pc)->I9 t Bs re kk->Fw C (pc+re.dp) q->Cq t Bs C fin nx q->PG re.sQ nx i->LQ (opens nx) re->He nx->dv t Bs C fin pc i.toNat (jz nx c) st' b
 |.alt l nx i c=>∀(C:List aw) (fin:Nat->Bool) (pc q kk E:Nat),l≠[]->oe C pc (Re.Ct l kk pc E)->E=pc+(Re.cC l+2*(l.length-1))->NW t Bs l kk->Fw C E q->Cq t Bs C fin nx q->PG (Re.pt l) nx i->(∀k∈l,LQ (opens nx) k)->He nx->dv t Bs C fin pc i.toNat (jz nx c) st' b
 |.rep re k nx i c=>∀(C:List aw) (fin:Nat->Bool) (pc b0 q kk:Nat),jJ C re kk b0 k pc->I9 t Bs re kk->Fw C (b0+re.dp) q->Cq t Bs C fin nx q->PG (decide (re.mn<=k)) nx i->LQ (opens nx) re->He nx->dv t Bs C fin pc i.toNat (jz nx c) st' b
 |.behind re aJ nx i c j=>∀(C:List aw) (fin:Nat->Bool) (pc q kk:Nat),bH C pc=lG re kk->re.op=8->re.kids=[aJ]->I9 t Bs re kk->Fw C (pc+1) q->Cq t Bs C fin nx q->PG true nx i->LQ (opens nx) re->He nx->0<=i->i<=t.length->j<=i.toNat+1 ->
   (∀s:Nat,j<=s->s<=i.toNat->∃aR m,dt t Bs (Iv aJ kk) (λa=>decide (a=i.toNat)) 0 s aR m none)->dv t Bs C fin pc i.toNat (jz nx c) st' b
theorem pY{C:List aw}{fin:Nat->Bool}{re aJ:Re}{kk b0 pc1 pc2 q:Nat}{k i:Int}{nx:Goal} (hk:re.kids=[aJ]) (hr:re.every Sk=true) (ho:re.op=4) (hb:I9 t Bs re kk) (hs:oe C pc1 (aJ.xW kk pc1)) (hj1:Fw C (pc1+aJ.dp) pc2) (hR:jJ C re kk b0 (k+1) pc2) (hj:Fw C (b0+re.dp) q) (hn:Cq t Bs C fin nx q) (hp:PG false nx i) :
  Cq t Bs C fin (.mk 0 aJ 0 0 (.mk 2 re k i nx)) pc1/\PG true (.mk 0 aJ 0 0 (.mk 2 re k i nx)) i:=by
 obtain⟨hN,iw⟩:=rG hr;have hkm:aJ∈re.kids:=by rw[hk];simp
 have agD:aJ.sQ=false:=by have:=(hN.rep ho).2;rw[hk]at this;exact this
 refine⟨.tree rfl hs (iw aJ hkm) (hb.one ae hk) hj1 (.more rfl hR hb hj hn),?_⟩;unfold PG;rw[be rfl,al6,agD];unfold PG;rw[ap aF,be rfl,ap alJ];exact⟨alj _,hp⟩
section
variable {t t':List Int}{Bs C6:List (List Bool)}{C:List aw}
theorem KA {p p':Nat}{Lt:List Bool} (h:∀n,(bH C n).pass t Bs p=(bH C n).pass t' C6 p'):∀(k n:Nat) (st:Jc),bF t Bs C p Lt k n st=bF t' C6 C p' Lt k n st
 |0,_,_=>rfl
 |k+1,n,st=>by have ih:=KA (Lt:=Lt) h k;rw[bF,bF];simp only[h,ih]
theorem Cc {p p':Nat}{Lt:List Bool} (h:∀n,(bH C n).pass t Bs p=(bH C n).pass t' C6 p'):∀n,dg t Bs C p Lt n=dg t' C6 C p' Lt n
 |0=>by simp [dg]
 |n+1=>by rw[kD,kD,Cc h n,KA h]
theorem xA {m:Nat} (h:∀i,i<m->∀n,(bH C n).pass t Bs (t.length-i)=(bH C n).pass t' C6 (t'.length-i)):∀i,i<=m->fj t Bs C i=fj t' C6 C i
 |0,_=>rfl
 |i+1,hi=>by rw[fj,fj,xA h i ae,Cc (h i ae)]
structure BR (m:Nat) (a b:sR):Prop where
 ad:a.ad=b.ad
 rd:a.rd=b.rd
 gn:a.gn=b.gn
 ho:∀j,j<m->a.ho[j]?=b.ho[j]?
 la:m<=a.ho.length
 lb:m<=b.ho.length
structure BW (m:Nat) (a b:sR):Prop where
 ad:a.ad=b.ad
 ho:∀j,j<m->a.ho[j]?=b.ho[j]?
 la:m<=a.ho.length
 lb:m<=b.ho.length
end
section
variable {t:List Int}{Bs C6:List (List Bool)}{C:List aw}
theorem RE (h:∀p n,(bH C n).pass t Bs p=(bH C n).pass t C6 p):iv t Bs C=iv t C6 C:=by unfold iv;apply alK;intro p _;rw[xA (m:=t.length-p+1) (λi _ n=>h _ n) _ (ale _)]
theorem Je {p:Nat} (h:∀n,(bH C n).pass t Bs p=(bH C n).pass t C6 p):∀(k n:Nat) (st:sR),gH t Bs C p k n st=gH t C6 C p k n st
 |0,_,_=>rfl
 |k+1,n,st=>by have ih:=Je h k;rw[gH,gH];simp only[h,ih]
theorem Dr {p:Nat} (h:∀n,(bH C n).pass t Bs p=(bH C n).pass t C6 p):∀(l:List Nat) (st:sR),cZ t Bs C p l st=cZ t C6 C p l st
 |[],_=>rfl
 |n::l,st=>by have ih:=Dr h l;unfold cZ at ih ⊢;rw[aml,aml,Je h,ih]
theorem Ir (h:∀p n,(bH C n).pass t Bs p=(bH C n).pass t C6 p):∀p,de t Bs C p=de t C6 C p
 |0=>rfl
 |p+1=>by rw[de,de,Ir h p,Dr (h p),Je (h p)]
theorem WK (h:∀p n,(bH C n).pass t Bs p=(bH C n).pass t C6 p):rC t Bs C=rC t C6 C:=by unfold rC;rw[Ir h]
end
def adi (i:aw):Prop:=i.op=1\/i.op=5\/i.node=none
theorem NX {x:Re} (hs:x.every mF=true) {k:Nat} (t:List Int) {Bs C6:List (List Bool)} (hR:∀j,k<=j->j<k+x.looks->Bs.getD j []=C6.getD j []) (p n:Nat):(bH (x.emit k []++[cq]) n).pass t Bs p=(bH (x.emit k []++[cq]) n).pass t C6 p:=by
 have h1:=PM (λj=>Bs.getD j []=C6.getD j []) x hs k hR [] ⟨aq,aq⟩;have hP:sG adi (λ_=>true):=⟨λi x y h=>h,λx y=>.inr (.inr rfl),λx=>.inr (.inr rfl),λre k _ o=>.inl rfl,λre k _ o=>.inr (.inl rfl),λre _ _=>⟨.inr (.inr rfl),.inr (.inr rfl)⟩⟩
 have h2:kW adi (x.emit k []):=Bu hP x (iN (λ_ _=>rfl) x hs) k [] (λi hi=>by simp at hi);by_cases hn:n<(x.emit k []).length
 ·have hm:bH (x.emit k []++[cq]) n∈x.emit k []:=by unfold bH;rw[List.getD_eq_getElem?_getD,List.getElem?_append_left hn,List.getElem?_eq_getElem hn];exact List.getElem_mem hn
  generalize bH (x.emit k []++[cq]) n=i at *;obtain⟨_,q1,q5⟩:=h1.1 i hm;unfold aw.pass;rcases h2 i hm with o|o|o
  ·obtain⟨re,k',e1,e2,_⟩:=q1 o;rw[e1];simp only[e2,if_true]
  ·obtain⟨re,k',e1,e2,e3,e4⟩:=q5 o;rw[e1];simp only[e2,if_false];by_cases mZ:re.op=11
   ·rw[be mZ,be mZ]
   ·have e:=e4 mZ;rw[ap mZ,ap mZ,e]
  ·rw[o]
 ·have iL:(bH (x.emit k []++[cq]) n).node=none:=by
   unfold bH;rw[List.getD_eq_getElem?_getD,List.getElem?_append_right ae];cases n-(x.emit k []).length with
   |zero=>rfl
   |succ j=>rfl
  unfold aw.pass;rw[iL]
theorem Vq {p:fU}{t:List Int} (h:ep p t=0):∀i,i<(p.re.cc 0).length->∃r,Iy (p.re.cc 0) 0 i r:=by obtain⟨a,_,_⟩:=qm h;obtain⟨b1,_,b3⟩:=rF a;obtain⟨v1,v2,v3,v4,v5⟩:=cW b1;have CI:=m8 v4 p.re v5 v1;unfold sL at b3;rw[alo]at b3;intro i hi;rw[Re.vV]at hi;exact OW p.re CI b3.2 0 i hi
def noA (re:Re):Bool:=decide (re.op≠11/\re.op≠7/\re.op≠8)
theorem SS (l:List Int) (n:Int):∀x∈ki l n,eM false x=true:=by
 intro x hx;unfold ki at hx;obtain⟨i,_,rfl⟩:=List.mem_map.1 hx;rw[List.getD_eq_getElem?_getD];cases h:pX[(pick l i 12).toNat]? with
 |none=>decide
 |some y =>
  have hm:=List.mem_of_getElem? h;have bR:∀y∈pX,eM false y=true:=aF;exact bR y hm
structure ajI (p:fU) (t:List Int):Prop where
 df:p.re.df=true
 len:t.length<=12
 no:p.re.every noA=true
 sym:t.all (eM false)=true
end Go.Proofs.YtjjfioalgbecmaaGreat
namespace Go.Proofs.YtjjfioalgbecmaaGreat
open Go.VL Go.Proofs.Tryz
variable{re:Re}{p:fU}{t:List Int}
theorem QK (l:List Int) (dH ai:Int) (hl:∀x∈l,jD x) (h0:0<=ai) (h1:ai<=100):(mW l dH ai).re.depth<=6:=by
 have kK:(⟨l,0,dH,ai,0⟩:Mk).In 0:=⟨hl,aq,aq,by simpa using h0,by show ai<=_;omega,aq,aq⟩
 have h:=(v9 5).tok ⟨l,0,dH,ai,0⟩ 0 ae kK;have ac7:=h.dep;show (Mk.tree 5 ⟨l,0,dH,ai,0⟩).1.depth<=6;simpa using ac7
def CZ:Nj:=⟨[],0,false⟩
theorem K7 (p:fU) (hv:cI p=0):∃(g:Nj) (e:Int),aS Tryz.prog 23 [bk p] (.tu [OJ g,i64 e]):=by
 obtain⟨v1,v2,v3,v4,v5⟩:=cW hv;have hC:=O7 v4 p.re v5 ae;have hf:p.re.df=true:=by
  exact Zbe
 have h1:=qk p hf ae;have h2:=P4 p.re [] (Kj hC) ae cV;have h3:=OD p.re hC;have X1:=ji p.re hC;have w1:IntKind.i64.wrap (p.re.kx+1)=p.re.kx+1:=bK _ ae;cases xY:p.re.comp []with
 |true =>
  by_cases hz:p.re.kx<=8191
  ·exact⟨_,_,MQ p hv xY hz⟩
  ·refine⟨CZ,4,?_⟩;have c1:8192<p.re.kx+1:=ae;rw[hv]at h1;rw[xY]at h2;unfold OJ;clear xY;cases p with
   |mk re aj aM =>
   simp only at *;simp only[bk,Re.ah re,ak8,ak9,ak5,ak6,au re,i64,iD,bD,bV]at h1 h2 h3;refine br Tryz.func23 Tryz.ntmps23 Tryz.results23 0 31 ?_;simp only[zI,simprocAttr,bk,Re.ah,bV,iD,bD];refine dk h1 ?_;simp only[zI,simprocAttr,bk,Re.ah,bV,iD,bD,ne_eq,not_true_eq_false];refine bC [] eh (dk h2 ?_);simp only[zX,simprocAttr,bI,i64,bk,Re.ah,bV,iD,bD,alh,alk];refine dk h3 ?_;simp only[zI,simprocAttr,bk,Re.ah,bV,iD,bD,w1,c1,gt_iff_lt];all_goals (simp [Nj.cells,CZ,iD,bD])
 |false =>
  refine⟨CZ,10,?_⟩;rw[hv]at h1;rw[xY]at h2;unfold OJ;clear xY;cases p with
  |mk re aj aM =>
  simp only at *;simp only[bk,Re.ah re,ak8,ak9,ak5,ak6,au re,i64,iD,bD,bV]at h1 h2 h3;refine br Tryz.func23 Tryz.ntmps23 Tryz.results23 0 31 ?_;simp only[zI,simprocAttr,bk,Re.ah,bV,iD,bD];refine dk h1 ?_;simp only[zI,simprocAttr,bk,Re.ah,bV,iD,bD,ne_eq,not_true_eq_false];refine bC [] eh (dk h2 ?_);simp only[zX,simprocAttr,bI,i64,bk,Re.ah,bV,iD,bD,ali];all_goals (simp [Nj.cells,CZ,iD,bD])
structure PC (p:fU) (t:List Int):Prop where
 valid:cI p=0
 df:p.re.df=true
 depth:p.re.depth<=7
 aM:p.aM=false
 len:t.length<=12
 sym:t.all (eM false)=true
 nn:p.re.every (λr=>decide (jD r.n))=true
 aj:jD p.aj
 small:p.re.every (np 256)=true
structure vd (p:fU) (t:List Int):Prop where
 valid:cI p=0
 df:p.re.df=true
 depth:p.re.depth<=6
 aM:p.aM=false
 len:t.length<=12
 sym:t.all (eM false)=true
 aj:jD p.aj
 small:p.re.every (np 256)=true
 gF:∀i:Int,0<=i->i<=t.length->iu p t i (-1) 3000=0
theorem NT (l m:List Int) (hl:∀x∈l,jD x) (hm:∀x∈m,jD x) (u ai:Int) (Dm:0<=ai) (IB:ai<=100):∃(p:fU) (t:List Int),aS Tryz.prog 21 [.d (ar l),.d (ar m),i64 u,i64 ai,i64 3000] (.tu [bk p,.d (ar t)])/\vd p t:=by
 obtain⟨hv,gr⟩:=Bq l u ai hl ae ae;have YG:=HU l u ai hl ae ae;have Hk:(mW l u ai).re.df=true:=Fj ae _ YG.ev;have VW:(ki m 12).length<=12:=by simp [ki];omega
 obtain⟨g1,g2,g3⟩:=G3 (p:=mW l u ai) (t:=ki m 12) (F:=3000) hv Hk ae ae ((ki m 12).length+1) (ale _);have hdp:=QK l u ai hl ae ae;obtain⟨v1,v2,v3,v4,v5⟩:=cW hv;have rk:=PD (mW l u ai) (ki m 12) 3000 ((ki m 12).length+1);have VG:=LS (mW l u ai) (ki m 12) 3000 ((ki m 12).length+1);have Ym:(dC (mW l u ai) (ki m 12) 3000 ((ki m 12).length+1)).2.all (eM false)=true:=by rw[als];exact λx hx=>SS m 12 x (VG x hx)
 refine⟨_,_,XT l m hl hm u ai 3000 ae ae,?_⟩;rcases rk with h|h
 ·exact⟨by rw[h];exact hv,g2,by rw[h];exact hdp,by rw[h];rfl,ae,Ym,by rw[h];exact YG.aj,by rw[h];exact YG.ev,g1⟩
 ·refine⟨?_,g2,?_,by rw[h],ae,Ym,?_,?_,g1⟩
  ·rw[h];exact B4 _ v3 v4
  ·rw[h,Re.lZ];show rV []+1<=6;simp [rV]
  ·rw[h];exact YG.aj
  ·rw[h];exact(Re.az _).2 ⟨(by decide:np 256 (.mk 0 [] [] 0 0 0 0 false)=true),λk hk=>by cases hk⟩
theorem GW (l m:List Int) (hl:∀x∈l,jD x) (hm:∀x∈m,jD x) (u:Int):∃(p:fU) (t:List Int),aS Tryz.prog 21 [.d (ar l),.d (ar m),i64 u,i64 24,i64 3000] (.tu [bk p,.d (ar t)])/\vd p t:=NT l m hl hm u 24 ae ae
def jF (re:Re) (a b:Int):Re:=.mk 2 [] [re,.mk (7+a) [] [.mk 1 [(97,98)] [] 0 0 0 0 false] 0 0 0 0 (decide (b=0))] 0 0 0 0 false
theorem ME (l:List Int) (i:Int):0<=pick l i 2/\pick l i 2<=1:=by have:=cH l i 2 ae;omega
theorem wM (re:Re) (a b:Int):(jF re a b).cells=[iD 2,.sl [],.sl [re.cells,[iD (7+a),.sl [],.sl [[iD 1,.sl [[iD 97,iD 98]],.sl [],iD 0,iD 0,iD 0,iD 0,bD false]],iD 0,iD 0,iD 0,iD 0,bD (decide (b=0))]],iD 0,iD 0,iD 0,iD 0,bD false]:=by rw[Re.ah];simp only[jF,Re.op,Re.set,Re.kids,Re.mn,Re.mx,Re.mode,Re.n,Re.neg,ak8,ak9];rw[Re.ah (.mk (7+a) _ _ _ _ _ _ _)];simp only[Re.op,Re.set,Re.kids,Re.mn,Re.mx,Re.mode,Re.n,Re.neg,ak8,ak9];rw[Re.ah (.mk 1 _ _ _ _ _ _ _)];simp only[Re.op,Re.set,Re.kids,Re.mn,Re.mx,Re.mode,Re.n,Re.neg,ak8,ak9,aU]
theorem Lf (h:re.df=true) (a b:Int):(jF re a b).df=true:=by
 refine(Re.ph _).2 ⟨by simp [jF,Re.set],by simp [jF,Re.kids],λk hk=>?_⟩;simp only[jF,Re.kids,alT,amc,or_false]at hk;rcases hk with rfl|rfl
 ·exact h
 ·refine(Re.ph _).2 ⟨by simp [Re.set],by simp [Re.kids],λk hk=>?_⟩;simp only[Re.kids,alT,amc,or_false]at hk;rw[hk];refine(Re.ph _).2 ⟨by simp [Re.set],by simp [Re.kids],λk hk=>?_⟩;simp [Re.kids]at hk
theorem At{p:Re->Bool} (h:re.every p=true) (a b:Int) (h1:p (jF re a b)=true) (h2:p (.mk (7+a) [] [.mk 1 [(97,98)] [] 0 0 0 0 false] 0 0 0 0 (decide (b=0)))=true) (h3:p (.mk 1 [(97,98)] [] 0 0 0 0 false)=true):(jF re a b).every p=true:=by
 refine(Re.az _).2 ⟨h1,λk hk=>?_⟩;simp only[jF,Re.kids,alT,amc,or_false]at hk;rcases hk with rfl|rfl
 ·exact h
 ·refine(Re.az _).2 ⟨h2,λk hk=>?_⟩;simp only[Re.kids,alT,amc,or_false]at hk;rw[hk];exact(Re.az _).2 ⟨h3,λk hk=>by simp [Re.kids]at hk⟩
theorem Uo (re:Re) (a b:Int):(jF re a b).size=re.size+3:=by rw[Re.size_eq];simp only[jF,Re.kids,Re.da];rw[Re.size_eq (.mk (7+a) _ _ _ _ _ _ _)];simp only[Re.kids,Re.da];rw[Re.size_eq (.mk 1 _ _ _ _ _ _ _)];simp only[Re.kids,Re.da];omega
theorem RB (h:re.depth<=6) (a b:Int):(jF re a b).depth<=7:=by
 have hd:(Re.mk (7+a) [] [.mk 1 [(97,98)] [] 0 0 0 0 false] 0 0 0 0 (decide (b=0))).depth=2:=by rw[Re.lZ];show rV [(Re.mk 1 [(97,98)] [] 0 0 0 0 false).depth]+1=2;rw[Re.lZ];rfl
 rw[Re.lZ];show rV [re.depth,(Re.mk (7+a) [] [.mk 1 [(97,98)] [] 0 0 0 0 false] 0 0 0 0 (decide (b=0))).depth]+1<=7;rw[hd];simp only[rV,aml,List.foldl_nil];omega
theorem vd.nn (h:vd p t):p.re.every (λr=>decide (jD r.n))=true :=
 iN (λr h=>by
  unfold np at h;rw[alo,decide_eq_true_eq]at h;exact bi h.1.2.2.2.2.2.2) p.re h.small
theorem vd.r (h:vd p t):PC p t:=⟨h.valid,h.df,by have:=h.depth;omega,h.aM,h.len,h.sym,h.nn,h.aj,h.small⟩
theorem vd.size (h:vd p t):p.re.size<=256:=(cW h.valid).1
theorem vd.add{aj:Int}{aM:Bool} (h:vd ⟨re,aj,aM⟩ t) {a b:Int} (h0:0<=a) (h1:a<=1) (ha:pq ⟨jF re a b,aj,aM⟩=0):PC ⟨jF re a b,aj,aM⟩ t:=by
 have hv:cI ⟨jF re a b,aj,aM⟩=0:=by
  unfold pq at ha;split at ha
  ·rename_i h;exact absurd ha h
  ·rename_i h;exact Decidable.not_not.1 h
 refine⟨hv,Lf h.df a b,RB h.depth a b,h.aM,h.len,h.sym,At h.nn a b ?_ ?_ ?_,h.aj,At h.small a b ?_ ?_ ?_⟩
 ·exact Zcq
 ·exact Zcq
 ·exact Zcq
 ·simp [np,jF,Re.set,Re.kids,Re.op,Re.mn,Re.mx,Re.mode,Re.n,jD]
 ·simp [np,Re.set,Re.kids,Re.op,Re.mn,Re.mx,Re.mode,Re.n,jD];omega
 ·decide
theorem Rk (l m:List Int) (hl:∀x∈l,jD x) (hm:∀x∈m,jD x):∃(p:fU) (t:List Int),aS Tryz.prog 6 [.d (ar l),.d (ar m)] (.tu [bk p,.d (ar t)])/\PC p t:=by
 obtain⟨p0,t0,f0,s0⟩:=GW l m hl hm 84;obtain⟨p,t,f1,s1⟩:=GW l m hl hm 20;have ha0:=Hq p0 s0.df (by have:=s0.size;omega) s0.nn;have key:∀(p:fU) (t:List Int),vd p t->∃(g:Nj) (e a b:Int) (q:fU),q=(if e=0/\9<l.length then (if pq ⟨jF p.re a b,p.aj,p.aM⟩=0 then ⟨jF p.re a b,p.aj,p.aM⟩ else p) else p)/\a=pick l 1 2/\b=pick l 2 3/\PC q t/\aS Tryz.prog 23 [bk p] (.tu [OJ g,i64 e]) /\
   aS Tryz.prog 22 [bk ⟨jF p.re a b,p.aj,p.aM⟩] (i64 (pq ⟨jF p.re a b,p.aj,p.aM⟩)):=by
  intro p t s;obtain⟨g,e,hc⟩:=K7 p s.valid;have B0:=ME l 1;refine⟨g,e,_,_,_,rfl,rfl,rfl,?_,hc,?_⟩
  ·by_cases h1:e=0/\9<l.length
   ·rw[be h1];by_cases h2:pq ⟨jF p.re (pick l 1 2) (pick l 2 3),p.aj,p.aM⟩=0
    ·rw[be h2];exact s.add B0.1 B0.2 h2
    ·rw[ap h2];exact s.r
   ·rw[ap h1];exact s.r
  ·refine Hq _ (Lf s.df _ _) (by have:=s.size;show (jF p.re _ _).size<=_;rw[Uo];omega) (At s.nn _ _ ?_ ?_ ?_)
   ·exact Zcq
   ·exact Zcq
   ·exact Zcq
 have k1:=CW l hl 1 2 ae;have k2:=CW l hl 2 3 ae;have B0:=ME l 1;have w1:IntKind.i64.wrap (7+pick l 1 2)=7+pick l 1 2:=bK _ ae;by_cases Sb:pq p0=0
 ·clear f1 s1;obtain⟨g,e,a,b,q,hq,ea,eb,hs,hc,kf⟩:=key p0 t0 s0;refine⟨q,t0,?_,hs⟩;rw[<- ea]at k1 w1;rw[<- eb]at k2;clear key ea eb B0 hs s0 hl hm;rw[Sb]at ha0;cases p0 with
  |mk re aj aM =>
  simp only at hq kf;generalize pq ⟨jF re a b,aj,aM⟩=ac at *;simp only[bk,wM,Re.ah re,ak8,ak9,ak5,ak6,i64,iD,bD,bV,ar,Qc]at f0 ha0 hc kf k1 k2;refine br Tryz.func6 Tryz.ntmps6 Tryz.results6 0 1779 ?_;simp only[zQ,simprocAttr,ar];refine dk f0 ?_;simp only[zQ,simprocAttr,ar];refine dk ha0 ?_;simp only[zQ,simprocAttr,ar,ne_eq,not_true_eq_false];exact Zar
 ·obtain⟨g,e,a,b,q,hq,ea,eb,hs,hc,kf⟩:=key p t s1;refine⟨q,t,?_,hs⟩;rw[<- ea]at k1 w1;rw[<- eb]at k2;clear key ea eb B0 hs s0 s1 hl hm;cases p0 with
  |mk Q5 X2 Zy =>
  cases p with
  |mk re aj aM =>
  simp only at hq kf;generalize pq ⟨jF re a b,aj,aM⟩=ac at *;generalize pq ⟨Q5,X2,Zy⟩=ac0 at *;simp only[bk,wM,Re.ah re,Re.ah Q5,ak8,ak9,ak5,ak6,i64,iD,bD,bV,ar,Qc]at f0 f1 ha0 hc kf k1 k2;refine br Tryz.func6 Tryz.ntmps6 Tryz.results6 0 1779 ?_;simp only[zQ,simprocAttr,ar];refine dk f0 ?_;simp only[zQ,simprocAttr,ar];refine dk ha0 ?_;simp only[zQ,simprocAttr,ar,ne_eq,Sb,not_false_eq_true];refine dk f1 ?_;simp only[zQ,simprocAttr,ar];exact Zar
end Go.Proofs.YtjjfioalgbecmaaGreat
