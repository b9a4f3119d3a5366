/- A part of the proof (G30 G32). -/
import Derived.Test.YtphfjhaffbfpfaaPM40
import Derived.Test.YtphfjhaffbfpfaaPM38
set_option linter.all false
set_option maxRecDepth 100000
set_option maxHeartbeats 80000000
namespace Go.Proofs.Ytphfjhaffbfpfaa
open Go.VL Go.Proofs.Try
variable{k:Nat}{x:Rs}
def bw (k:Nat):Prop:=∀g b a m base p alive x,bn k true m base p alive=some x->au prog 22 [.pp 0 g 0 0 b a,i64 (base:Nat),p.v b a,bV alive] (m.aB g b a) λv s=>v=aO b a x.2.1 x.2.2/\s=x.1.aB g b a
theorem Mh (m:aA) (b a base:Nat) (h:base<=m.top):fX (m.gj.map (KZ b a)) base (List.replicate (m.top-base) [V.d (D.sc (.int .i64 0)),.fu [],.d (D.sc (.pointer none))])=(m.clear base).gj.map (KZ b a):=by unfold fX aA.clear;simp only[List.map_append,List.map_take,List.map_drop,List.map_replicate,List.length_replicate,KZ,adX];rw[show base+(m.top-base)=m.top by omega]
theorem oH (ih:bw k) (g b a:Nat) (m:aA) (p:aw) (hx:e8 (λm base p=>bn k true m base p true) m p=some x) :
  au prog 95 [.pp 0 g 0 0 b a,p.v b a] (m.aB g b a) λv s=>v=aO b a x.2.1 x.2.2/\s=x.1.aB g b a:=by
 simp only[e8]at hx;cases hs:bn k true m m.top p true with
 |none=>rw[hs]at hx;cases hx
 |some y =>
  obtain⟨m1,p1,found⟩:=y;rw[hs]at hx;simp only at hx;split at hx
  ·cases hx
  rename_i hc;cases hx;have aU:=λext=>bt (ih g b a m m.top p true _ hs) rfl rfl rfl ext;have q1:m.top<=m1.top:=by omega
  have q2:m1.top<=m1.gj.length:=by omega
  have q3:(m.top:Int)<=(m1.top:Int):=by omega
  have q4:(0:Int)<=(m.top:Int):=by omega
  have oo:min m1.top m1.gj.length=m1.top:=by omega
  have cZ:=Mh m1 b a m.top q1;unfold aA.aB aA.ay at aU;simp only[zM,aO]at aU;unfold aA.aB aA.ay;refine ar func95 rfl ntmps95 results95 rfl 3 251 (by simp) (by simp) ?_;simp only[zX,simprocAttr,zM,aO];refine aj (aU _) (λv s' hv=>?_);obtain⟨rfl,rfl⟩:=hv;have SU:((m1.top:Int)-(m.top:Int)).toNat=m1.top-m.top:=by omega
  have hlen:(m1.clear m.top).gj.length=m1.gj.length:=by simp only[aA.clear,adx,ad5,List.length_replicate,List.length_drop];omega
  have q7:m1.top<=(m1.clear m.top).gj.length:=by omega
  have RY:min m1.top (m1.clear m.top).gj.length=m1.top:=by omega
  rcases adV m.top m1.top with q5|q5
  ·have q6:(m.top:Int)<(m1.top:Int):=by omega
   simp only[zX,simprocAttr,zM,aO,q1,q2,q3,q4,q6,q7,oo,RY,SU,cZ,ad5,ado,adR,adI,or_true,kX,ady,adB,Int.sub_zero];exact⟨by omega,an (m1.clear m.top) b a,rfl⟩
  ·have q8:m1.top=m.top:=by omega
   have q6:¬(m.top:Int)<(m1.top:Int):=by omega
   by_cases z:(m.top:Int)=0
   ·have y:=eq_true z;simp only[zX,simprocAttr,zM,aO,q1,q2,q3,q4,q6,q7,y,oo,RY,SU,cZ,ad5,ado,adR,adI,true_or,kX,ady,adB,Int.sub_zero];exact⟨by omega,an (m1.clear m.top) b a,rfl⟩
   ·have y:=eq_false z;have Ve:m1.clear m.top=m1:=by rw[<- q8];obtain⟨⟩:=m1;simp only[aA.clear,Nat.sub_self,List.replicate_zero,adt,List.take_append_drop]
    rw[Ve];simp only[zX,simprocAttr,zM,aO,q1,q2,q3,q4,q6,y,oo,SU,ad5,ado,adR,adI,true_or,or_false,kX,ady,adB,Int.sub_zero];rw[<- q8];exact⟨an m1 b a,rfl⟩
theorem rZ (ih:bw k) (g b a:Nat) (m:aA) (p:aw) (part:aF) (hx:jV (λm base p=>bn k true m base p true) m p part=some x) :
  au prog 80 [.pp 0 g 0 0 b a,p.v b a,.d (part.d b a)] (m.aB g b a) λv s=>v=aO b a x.2.1 x.2.2/\s=x.1.aB g b a:=by
 unfold jV at hx;cases hs:e8 (λm base p=>bn k true m base p true) m { p with todo:=part } with
 |none=>rw[hs]at hx;cases hx
 |some y =>
  obtain⟨m1,r,found⟩:=y;rw[hs]at hx;cases hx;have aU:=λext=>bt (oH ih g b a m _ hs) rfl rfl rfl ext;unfold aA.aB aA.ay at aU;simp only[zM,aO]at aU;unfold aA.aB aA.ay;refine ar func80 rfl ntmps80 results80 rfl 3 983 (by simp) (by simp) ?_;simp only[zX,simprocAttr,zM,aO];refine aj (aU _) (λv s' hv=>?_);obtain⟨rfl,rfl⟩:=hv;simp only[zX,simprocAttr,zM,aO];exact an m1 b a
theorem KR (ih:bw k) (g b a:Nat) (m:aA) (re:Re) (p:aw) (aL:Re) (l:List Re) (hl:re.kids=aL::l) (Cj:0<=p.at_) (wD:p.at_<=1000000) (hx:lj (λm base p=>bn k true m base p true) m re aL p=some x) :
  au prog 84 [.pp 0 g 0 0 b a,.d ((aD.el re).d b a),p.v b a] (m.aB g b a) λv s=>v=aO b a x.2.1 x.2.2/\s=x.1.aB g b a:=by
 have hk:re.kids[0]?=some aL:=by rw[hl];rfl
 have ek:(0:Int)<(re.kids.length:Int):=by rw[hl,adA];omega
 have HN:=gm b a (.el aL) .nil;simp only[aF.d,aD.d,Re.ae,iD,bD]at HN;clear hl;unfold lj at hx;by_cases o8:re.op=8
 ·have d8:decide (re.op=8)=true:=adu o8;rw[ap o8,ap o8]at hx;have Ed:∀q,kG re.op aL q=.mk 0 (.el aL) 0 0 (.mk 5 .nil 0 q .nil):=λq=>ap o8;simp only[Ed]at hx;unfold aA.aB aA.ay;refine ar func84 rfl ntmps84 results84 rfl 3 8167 (by simp) (by simp) ?_;simp only[zX,simprocAttr,zM,aO,aD.d,Re.ae,d8];refine aJ (λn e s=>∃(j:Nat) (m1:aA),n=j/\(j:Int)<=p.at_+1/\m.Fr m1/\e 0=.pp 0 g 0 0 b a/\e 1=.d ((aD.el re).d b a)/\e 5=.rf 3 0 0 0/\e 6=.rf 4 0 0 0/\e 8=i64 (0)/\e 9=i64 (0+j-1)/\s=m1.aB g b a++[⟨0,true,3,[(p.cells b a).map .d]⟩,⟨0,true,3,[[.d (iD 0),.fu [],.d (.sc (.pointer none))]]⟩] /\
    gJ (λq m=>e8 (λm base p=>bn k true m base p true) m { at_:=q,ah:=p.ah,todo:=.mk 0 (.el aL) 0 0 (.mk 5 .nil 0 p.at_ .nil) }) re.neg p (0) j m1=some x)
   ⟨_,_,_,cU.refl,(p.at_.toNat+1),m,rfl,by omega,.refl _,rfl,?_,rfl,rfl,rfl,?_,rfl,hx⟩ ?_
  ·rw[aD.d,Re.ae];rfl
  ·rw[show (0:Int)+((p.at_.toNat+1):Nat)-1=p.at_ by omega];rfl
  clear hx;rintro n e s ⟨j,m1,rfl,hj,Aa,h0,h1,h5,h6,h8,h9,rfl,hx⟩;have du:=Aa.p;have iq:=h1;simp only[aD.d,Re.ae,iD,bD]at iq;cases n with
  |zero =>
   simp only[gJ,adp]at hx;cases hx;rw[show (0:Int)+((0:Nat):Int)-1=0-1 by omega]at h9;have hle:¬(0:Int)<=0-1:=by omega
   unfold aA.aB aA.ay;cases hn:re.neg with
   |true =>
    simp only[zX,simprocAttr,zM,aO,h0,iq,h5,h6,h8,h9,d8,ek,hk,hle,ge_iff_le];refine ao mix [] [(0,[3],[]),(2,[0],[]),(3,[0],[]),(4,[0],[]),(7,[0],[]),(8,[0],[]),(9,[0],[]),(12,[4],[4])] (by rfl) ?_;simp only[zX,simprocAttr,zM,aO,h0,iq,h5,h6,h8,h9,d8,ek,hk,hn];first|exact⟨an m1 b a,rfl⟩|exact an m1 b a
   |false =>
    simp only[zX,simprocAttr,zM,aO,h0,iq,h5,h6,h8,h9,d8,ek,hk,hle,ge_iff_le];refine ao mix [] [(0,[3],[]),(2,[0],[]),(3,[0],[]),(4,[0],[]),(7,[0],[]),(8,[0],[]),(9,[0],[]),(12,[4],[4])] (by rfl) ?_;simp only[zX,simprocAttr,zM,aO,h0,iq,h5,h6,h8,h9,d8,ek,hk,hn];first|exact⟨an m1 b a,rfl⟩|exact an m1 b a
  |succ j =>
   rw[show (0:Int)+((j+1:Nat):Int)-1=0+(j:Int) by omega]at h9;have hle:(0:Int)<=0+(j:Int):=by omega
   simp only[gJ]at hx;by_cases he:m1.bU=true
   ·rw[ap he]at hx;cases hx;unfold aA.aB aA.ay;cases hn:re.neg with
    |true =>
     simp only[zX,simprocAttr,zM,aO,h0,iq,h5,h6,h8,h9,d8,ek,hk,hle,he,ge_iff_le];refine ao mix [] [(0,[3],[]),(2,[0],[]),(3,[0],[]),(4,[0],[]),(7,[0],[]),(8,[0],[]),(9,[0],[]),(12,[4],[4])] (by rfl) ?_;simp only[zX,simprocAttr,zM,aO,h0,iq,h5,h6,h8,h9,d8,ek,hk,hn];first|exact⟨an m1 b a,rfl⟩|exact an m1 b a
    |false =>
     simp only[zX,simprocAttr,zM,aO,h0,iq,h5,h6,h8,h9,d8,ek,hk,hle,he,ge_iff_le];refine ao mix [] [(0,[3],[]),(2,[0],[]),(3,[0],[]),(4,[0],[]),(7,[0],[]),(8,[0],[]),(9,[0],[]),(12,[4],[4])] (by rfl) ?_;simp only[zX,simprocAttr,zM,aO,h0,iq,h5,h6,h8,h9,d8,ek,hk,hn];first|exact⟨an m1 b a,rfl⟩|exact an m1 b a
   ·rw[am he]at hx;have he:m1.bU=false:=by simpa using he
    cases hs:e8 (λm base p=>bn k true m base p true) m1 { at_:=0+(j:Int),ah:=p.ah,todo:=.mk 0 (.el aL) 0 0 (.mk 5 .nil 0 p.at_ .nil) } with
    |none=>rw[hs]at hx;cases hx
    |some y =>
     obtain⟨m2,r,found⟩:=y;rw[hs]at hx;simp only at hx;have Af:m1.Fr m2:=oz (λm base p x h=>nN k true m base p true x h) hs;have aU:=λext=>bt (oH ih g b a m1 _ hs) rfl rfl rfl ext;unfold aA.aB aA.ay at aU;simp only[zM,aO,aF.d,aD.d,Re.ae,he]at aU;unfold aA.aB aA.ay;simp only[zX,simprocAttr,zM,aO,h0,iq,h5,h6,h8,h9,d8,ek,hk,he,hle,ge_iff_le,Re.ae];refine az HN rfl rfl ?_;simp only[zX,simprocAttr,zM,aO,h0,iq,h5,h6,h8,h9,d8,ek,hk,Re.ae];refine aS ca.bh ?_;refine ao mix [9] [(1,[0],[]),(2,[0],[]),(3,[0],[]),(5,[3],[]),(6,[3],[]),(8,[5],[5])] (by rfl) ?_;simp only[zX,simprocAttr,zM,aO,hole,h0,iq,h5,h6,h8,h9,d8,ek,hk];refine bj (aY [5] (by simp [bg,bT,bf.go,bf,cE,aF.d,aD.d,Re.ae,iD,bD]) (az (gm b a (.el aL) (.mk 5 .nil 0 p.at_ .nil)) rfl rfl ⟨rfl,rfl⟩)) ?_;simp only[zX,simprocAttr,zM,aO,h0,iq,h5,h6,h8,h9,d8,ek,hk,bg,bT,aD.d,aF.d,Re.ae];refine aj (aU _) (λv s' hv=>?_);obtain⟨rfl,rfl⟩:=hv;cases found with
     |false =>
      simp only[adq,if_false]at hx;simp only[zX,simprocAttr,zM,aO,h0,iq,h5,h6,h8,h9,d8,ek,hk];refine⟨j,_,_,by omega,cU.cut (s':=m2.aB g b a++[⟨0,true,3,[(p.cells b a).map .d]⟩,⟨0,true,3,[[.d (iD 0),.fu [],.d (.sc (.pointer none))]]⟩]) 5 (by omega) rfl ?_ [0,1,5,6,8,9] ?_,j,m2,rfl,by omega,Aa.trans Af,?_,?_,?_,?_,?_,?_,rfl,hx⟩ <;> (try simp only[zU,Nat.reduceBEq,Nat.reduceShiftRight,Nat.reduceMod,Nat.reduceEqDiff,reduceIte])
      ·rw[List.all_append,show (m2.aB g b a).all (bJ 5)=true from fp g b a m2 _ 5 (by omega) (show ak 5 m2.text=true by unfold aA.text;split <;> rfl)];rfl
      ·simp [cB,br,ak,i64,h0,iq,h5,h6,h8,h9]
      ·exact h0
      ·first|exact h1|exact iq
      ·exact h5
      ·exact h6
      ·exact h8
      ·rw[bM _ (by omega)]
     |true =>
      simp only[if_true]at hx;cases cS:re.neg with
      |true =>
       skip
       rw[cS]at hx;cases hx;simp only[zX,simprocAttr,zM,aO,h0,iq,h5,h6,h8,h9,d8,ek,hk,cS];first|exact⟨an m2 b a,rfl⟩|exact an m2 b a
      |false =>
       skip
       rw[cS]at hx;cases hx;simp only[zX,simprocAttr,zM,aO,h0,iq,h5,h6,h8,h9,d8,ek,hk,cS];first|exact⟨an m2 b a,rfl⟩|exact an m2 b a
 ·have d8:decide (re.op=8)=false:=adl o8;rw[am o8,am o8]at hx;have Ed:∀q,kG re.op aL q=.mk 0 (.el aL) 0 0 .nil:=λq=>am o8;simp only[Ed]at hx;unfold aA.aB aA.ay;refine ar func84 rfl ntmps84 results84 rfl 3 8167 (by simp) (by simp) ?_;simp only[zX,simprocAttr,zM,aO,aD.d,Re.ae,d8];refine aJ (λn e s=>∃(j:Nat) (m1:aA),n=j/\(j:Int)<=1/\m.Fr m1/\e 0=.pp 0 g 0 0 b a/\e 1=.d ((aD.el re).d b a)/\e 5=.rf 3 0 0 0/\e 6=.rf 4 0 0 0/\e 8=i64 (p.at_)/\e 9=i64 (p.at_+j-1)/\s=m1.aB g b a++[⟨0,true,3,[(p.cells b a).map .d]⟩,⟨0,true,3,[[.d (iD 0),.fu [],.d (.sc (.pointer none))]]⟩] /\
    gJ (λq m=>e8 (λm base p=>bn k true m base p true) m { at_:=q,ah:=p.ah,todo:=.mk 0 (.el aL) 0 0 .nil }) re.neg p (p.at_) j m1=some x)
   ⟨_,_,_,cU.refl,1,m,rfl,by omega,.refl _,rfl,?_,rfl,rfl,rfl,?_,rfl,hx⟩ ?_
  ·rw[aD.d,Re.ae];rfl
  ·rw[show (p.at_:Int)+(1:Nat)-1=p.at_ by omega];rfl
  clear hx;rintro n e s ⟨j,m1,rfl,hj,Aa,h0,h1,h5,h6,h8,h9,rfl,hx⟩;have du:=Aa.p;have iq:=h1;simp only[aD.d,Re.ae,iD,bD]at iq;cases n with
  |zero =>
   simp only[gJ,adp]at hx;cases hx;rw[show (p.at_:Int)+((0:Nat):Int)-1=p.at_-1 by omega]at h9;have hle:¬(p.at_:Int)<=p.at_-1:=by omega
   unfold aA.aB aA.ay;cases hn:re.neg with
   |true =>
    simp only[zX,simprocAttr,zM,aO,h0,iq,h5,h6,h8,h9,d8,ek,hk,hle,ge_iff_le];refine ao mix [] [(0,[3],[]),(2,[0],[]),(3,[0],[]),(4,[0],[]),(7,[0],[]),(8,[0],[]),(9,[0],[]),(12,[4],[4])] (by rfl) ?_;simp only[zX,simprocAttr,zM,aO,h0,iq,h5,h6,h8,h9,d8,ek,hk,hn];first|exact⟨an m1 b a,rfl⟩|exact an m1 b a
   |false =>
    simp only[zX,simprocAttr,zM,aO,h0,iq,h5,h6,h8,h9,d8,ek,hk,hle,ge_iff_le];refine ao mix [] [(0,[3],[]),(2,[0],[]),(3,[0],[]),(4,[0],[]),(7,[0],[]),(8,[0],[]),(9,[0],[]),(12,[4],[4])] (by rfl) ?_;simp only[zX,simprocAttr,zM,aO,h0,iq,h5,h6,h8,h9,d8,ek,hk,hn];first|exact⟨an m1 b a,rfl⟩|exact an m1 b a
  |succ j =>
   rw[show (p.at_:Int)+((j+1:Nat):Int)-1=p.at_+(j:Int) by omega]at h9;have hle:(p.at_:Int)<=p.at_+(j:Int):=by omega
   simp only[gJ]at hx;by_cases he:m1.bU=true
   ·rw[ap he]at hx;cases hx;unfold aA.aB aA.ay;cases hn:re.neg with
    |true =>
     simp only[zX,simprocAttr,zM,aO,h0,iq,h5,h6,h8,h9,d8,ek,hk,hle,he,ge_iff_le];refine ao mix [] [(0,[3],[]),(2,[0],[]),(3,[0],[]),(4,[0],[]),(7,[0],[]),(8,[0],[]),(9,[0],[]),(12,[4],[4])] (by rfl) ?_;simp only[zX,simprocAttr,zM,aO,h0,iq,h5,h6,h8,h9,d8,ek,hk,hn];first|exact⟨an m1 b a,rfl⟩|exact an m1 b a
    |false =>
     simp only[zX,simprocAttr,zM,aO,h0,iq,h5,h6,h8,h9,d8,ek,hk,hle,he,ge_iff_le];refine ao mix [] [(0,[3],[]),(2,[0],[]),(3,[0],[]),(4,[0],[]),(7,[0],[]),(8,[0],[]),(9,[0],[]),(12,[4],[4])] (by rfl) ?_;simp only[zX,simprocAttr,zM,aO,h0,iq,h5,h6,h8,h9,d8,ek,hk,hn];first|exact⟨an m1 b a,rfl⟩|exact an m1 b a
   ·rw[am he]at hx;have he:m1.bU=false:=by simpa using he
    cases hs:e8 (λm base p=>bn k true m base p true) m1 { at_:=p.at_+(j:Int),ah:=p.ah,todo:=.mk 0 (.el aL) 0 0 .nil } with
    |none=>rw[hs]at hx;cases hx
    |some y =>
     obtain⟨m2,r,found⟩:=y;rw[hs]at hx;simp only at hx;have Af:m1.Fr m2:=oz (λm base p x h=>nN k true m base p true x h) hs;have aU:=λext=>bt (oH ih g b a m1 _ hs) rfl rfl rfl ext;unfold aA.aB aA.ay at aU;simp only[zM,aO,aF.d,aD.d,Re.ae,he]at aU;unfold aA.aB aA.ay;simp only[zX,simprocAttr,zM,aO,h0,iq,h5,h6,h8,h9,d8,ek,hk,he,hle,ge_iff_le,Re.ae];refine az HN rfl rfl ?_;simp only[zX,simprocAttr,zM,aO,h0,iq,h5,h6,h8,h9,d8,ek,hk,Re.ae];refine aj (aU _) (λv s' hv=>?_);obtain⟨rfl,rfl⟩:=hv;cases found with
     |false =>
      simp only[adq,if_false]at hx;simp only[zX,simprocAttr,zM,aO,h0,iq,h5,h6,h8,h9,d8,ek,hk];refine⟨j,_,_,by omega,cU.cut (s':=m2.aB g b a++[⟨0,true,3,[(p.cells b a).map .d]⟩,⟨0,true,3,[[.d (iD 0),.fu [],.d (.sc (.pointer none))]]⟩]) 5 (by omega) rfl ?_ [0,1,5,6,8,9] ?_,j,m2,rfl,by omega,Aa.trans Af,?_,?_,?_,?_,?_,?_,rfl,hx⟩ <;> (try simp only[zU,Nat.reduceBEq,Nat.reduceShiftRight,Nat.reduceMod,Nat.reduceEqDiff,reduceIte])
      ·rw[List.all_append,show (m2.aB g b a).all (bJ 5)=true from fp g b a m2 _ 5 (by omega) (show ak 5 m2.text=true by unfold aA.text;split <;> rfl)];rfl
      ·simp [cB,br,ak,i64,h0,iq,h5,h6,h8,h9]
      ·exact h0
      ·first|exact h1|exact iq
      ·exact h5
      ·exact h6
      ·exact h8
      ·rw[bM _ (by omega)]
     |true =>
      simp only[if_true]at hx;cases cS:re.neg with
      |true =>
       skip
       rw[cS]at hx;cases hx;simp only[zX,simprocAttr,zM,aO,h0,iq,h5,h6,h8,h9,d8,ek,hk,cS];first|exact⟨an m2 b a,rfl⟩|exact an m2 b a
      |false =>
       skip
       rw[cS]at hx;cases hx;simp only[zX,simprocAttr,zM,aO,h0,iq,h5,h6,h8,h9,d8,ek,hk,cS];first|exact⟨an m2 b a,rfl⟩|exact an m2 b a
theorem BD (ih:bw k) (g b a:Nat) (m:aA) (p:aw) (aL:Re) (l:List Re) (hl:m.p.re.kids=aL::l) (Cj:0<=p.at_) (wD:p.at_<=1000000) (hx:lj (λm base p=>bn k true m base p true) m m.p.re aL p=some x) :
  au prog 84 [.pp 0 g 0 0 b a,.d ((aD.root).d b a),p.v b a] (m.aB g b a) λv s=>v=aO b a x.2.1 x.2.2/\s=x.1.aB g b a:=by
 have hk:m.p.re.kids[0]?=some aL:=by rw[hl];rfl
 have ek:(0:Int)<(m.p.re.kids.length:Int):=by rw[hl,adA];omega
 have HN:=gm b a (.el aL) .nil;simp only[aF.d,aD.d,Re.ae,iD,bD]at HN;clear hl;unfold lj at hx;by_cases o8:m.p.re.op=8
 ·have d8:decide (m.p.re.op=8)=true:=adu o8;rw[ap o8,ap o8]at hx;have Ed:∀q,kG m.p.re.op aL q=.mk 0 (.el aL) 0 0 (.mk 5 .nil 0 q .nil):=λq=>ap o8;simp only[Ed]at hx;unfold aA.aB aA.ay;refine ar func84 rfl ntmps84 results84 rfl 3 8167 (by simp) (by simp) ?_;simp only[zX,simprocAttr,zM,aO,aD.d,Re.ae,d8];refine aJ (λn e s=>∃(j:Nat) (m1:aA),n=j/\(j:Int)<=p.at_+1/\m.Fr m1/\e 0=.pp 0 g 0 0 b a/\e 1=.d ((aD.root).d b a)/\e 5=.rf 3 0 0 0/\e 6=.rf 4 0 0 0/\e 8=i64 (0)/\e 9=i64 (0+j-1)/\s=m1.aB g b a++[⟨0,true,3,[(p.cells b a).map .d]⟩,⟨0,true,3,[[.d (iD 0),.fu [],.d (.sc (.pointer none))]]⟩] /\
    gJ (λq m=>e8 (λm base p=>bn k true m base p true) m { at_:=q,ah:=p.ah,todo:=.mk 0 (.el aL) 0 0 (.mk 5 .nil 0 p.at_ .nil) }) m.p.re.neg p (0) j m1=some x)
   ⟨_,_,_,cU.refl,(p.at_.toNat+1),m,rfl,by omega,.refl _,rfl,?_,rfl,rfl,rfl,?_,rfl,hx⟩ ?_
  ·rfl
  ·rw[show (0:Int)+((p.at_.toNat+1):Nat)-1=p.at_ by omega];rfl
  clear hx;rintro n e s ⟨j,m1,rfl,hj,Aa,h0,h1,h5,h6,h8,h9,rfl,hx⟩;have du:=Aa.p;have iq:=h1;simp only[aD.d,Re.ae,iD,bD]at iq;rw[<- du]at hk ek d8 hx;have Zd:m.p.re=m1.p.re:=by rw[du]
  cases n with
  |zero =>
   simp only[gJ,adp]at hx;cases hx;rw[show (0:Int)+((0:Nat):Int)-1=0-1 by omega]at h9;have hle:¬(0:Int)<=0-1:=by omega
   unfold aA.aB aA.ay;cases hn:m1.p.re.neg with
   |true =>
    simp only[zX,simprocAttr,zM,aO,h0,iq,h5,h6,h8,h9,d8,ek,hk,hle,ge_iff_le];refine ao mix [] [(0,[3],[]),(2,[0],[]),(3,[0],[]),(4,[0],[]),(7,[0],[]),(8,[0],[]),(9,[0],[]),(12,[4],[4])] (by rfl) ?_;simp only[zX,simprocAttr,zM,aO,h0,iq,h5,h6,h8,h9,d8,ek,hk,hn];first|exact⟨an m1 b a,rfl⟩|exact an m1 b a
   |false =>
    simp only[zX,simprocAttr,zM,aO,h0,iq,h5,h6,h8,h9,d8,ek,hk,hle,ge_iff_le];refine ao mix [] [(0,[3],[]),(2,[0],[]),(3,[0],[]),(4,[0],[]),(7,[0],[]),(8,[0],[]),(9,[0],[]),(12,[4],[4])] (by rfl) ?_;simp only[zX,simprocAttr,zM,aO,h0,iq,h5,h6,h8,h9,d8,ek,hk,hn];first|exact⟨an m1 b a,rfl⟩|exact an m1 b a
  |succ j =>
   rw[show (0:Int)+((j+1:Nat):Int)-1=0+(j:Int) by omega]at h9;have hle:(0:Int)<=0+(j:Int):=by omega
   simp only[gJ]at hx;by_cases he:m1.bU=true
   ·rw[ap he]at hx;cases hx;unfold aA.aB aA.ay;cases hn:m1.p.re.neg with
    |true =>
     simp only[zX,simprocAttr,zM,aO,h0,iq,h5,h6,h8,h9,d8,ek,hk,hle,he,ge_iff_le];refine ao mix [] [(0,[3],[]),(2,[0],[]),(3,[0],[]),(4,[0],[]),(7,[0],[]),(8,[0],[]),(9,[0],[]),(12,[4],[4])] (by rfl) ?_;simp only[zX,simprocAttr,zM,aO,h0,iq,h5,h6,h8,h9,d8,ek,hk,hn];first|exact⟨an m1 b a,rfl⟩|exact an m1 b a
    |false =>
     simp only[zX,simprocAttr,zM,aO,h0,iq,h5,h6,h8,h9,d8,ek,hk,hle,he,ge_iff_le];refine ao mix [] [(0,[3],[]),(2,[0],[]),(3,[0],[]),(4,[0],[]),(7,[0],[]),(8,[0],[]),(9,[0],[]),(12,[4],[4])] (by rfl) ?_;simp only[zX,simprocAttr,zM,aO,h0,iq,h5,h6,h8,h9,d8,ek,hk,hn];first|exact⟨an m1 b a,rfl⟩|exact an m1 b a
   ·rw[am he]at hx;have he:m1.bU=false:=by simpa using he
    cases hs:e8 (λm base p=>bn k true m base p true) m1 { at_:=0+(j:Int),ah:=p.ah,todo:=.mk 0 (.el aL) 0 0 (.mk 5 .nil 0 p.at_ .nil) } with
    |none=>rw[hs]at hx;cases hx
    |some y =>
     obtain⟨m2,r,found⟩:=y;rw[hs]at hx;simp only at hx;have Af:m1.Fr m2:=oz (λm base p x h=>nN k true m base p true x h) hs;have aU:=λext=>bt (oH ih g b a m1 _ hs) rfl rfl rfl ext;unfold aA.aB aA.ay at aU;simp only[zM,aO,aF.d,aD.d,Re.ae,he]at aU;unfold aA.aB aA.ay;simp only[zX,simprocAttr,zM,aO,h0,iq,h5,h6,h8,h9,d8,ek,hk,he,hle,ge_iff_le,Re.ae];refine az HN rfl rfl ?_;simp only[zX,simprocAttr,zM,aO,h0,iq,h5,h6,h8,h9,d8,ek,hk,Re.ae];refine aS ca.bh ?_;refine ao mix [9] [(1,[0],[]),(2,[0],[]),(3,[0],[]),(5,[3],[]),(6,[3],[]),(8,[5],[5])] (by rfl) ?_;simp only[zX,simprocAttr,zM,aO,hole,h0,iq,h5,h6,h8,h9,d8,ek,hk];refine bj (aY [5] (by simp [bg,bT,bf.go,bf,cE,aF.d,aD.d,Re.ae,iD,bD]) (az (gm b a (.el aL) (.mk 5 .nil 0 p.at_ .nil)) rfl rfl ⟨rfl,rfl⟩)) ?_;simp only[zX,simprocAttr,zM,aO,h0,iq,h5,h6,h8,h9,d8,ek,hk,bg,bT,aD.d,aF.d,Re.ae];refine aj (aU _) (λv s' hv=>?_);obtain⟨rfl,rfl⟩:=hv;cases found with
     |false =>
      simp only[adq,if_false]at hx;simp only[zX,simprocAttr,zM,aO,h0,iq,h5,h6,h8,h9,d8,ek,hk];refine⟨j,_,_,by omega,cU.cut (s':=m2.aB g b a++[⟨0,true,3,[(p.cells b a).map .d]⟩,⟨0,true,3,[[.d (iD 0),.fu [],.d (.sc (.pointer none))]]⟩]) 5 (by omega) rfl ?_ [0,1,5,6,8,9] ?_,j,m2,rfl,by omega,Aa.trans Af,?_,?_,?_,?_,?_,?_,rfl,by rw[Zd];exact hx⟩ <;> (try simp only[zU,Nat.reduceBEq,Nat.reduceShiftRight,Nat.reduceMod,Nat.reduceEqDiff,reduceIte])
      ·rw[List.all_append,show (m2.aB g b a).all (bJ 5)=true from fp g b a m2 _ 5 (by omega) (show ak 5 m2.text=true by unfold aA.text;split <;> rfl)];rfl
      ·simp [cB,br,ak,i64,h0,iq,h5,h6,h8,h9]
      ·exact h0
      ·first|exact h1|exact iq
      ·exact h5
      ·exact h6
      ·exact h8
      ·rw[bM _ (by omega)]
     |true =>
      simp only[if_true]at hx;cases cS:m1.p.re.neg with
      |true =>
       have qB:=cS;rw[<- Af.p]at qB;rw[cS]at hx;cases hx;simp only[zX,simprocAttr,zM,aO,h0,iq,h5,h6,h8,h9,d8,ek,hk,qB];first|exact⟨an m2 b a,rfl⟩|exact an m2 b a
      |false =>
       have qB:=cS;rw[<- Af.p]at qB;rw[cS]at hx;cases hx;simp only[zX,simprocAttr,zM,aO,h0,iq,h5,h6,h8,h9,d8,ek,hk,qB];first|exact⟨an m2 b a,rfl⟩|exact an m2 b a
 ·have d8:decide (m.p.re.op=8)=false:=adl o8;rw[am o8,am o8]at hx;have Ed:∀q,kG m.p.re.op aL q=.mk 0 (.el aL) 0 0 .nil:=λq=>am o8;simp only[Ed]at hx;unfold aA.aB aA.ay;refine ar func84 rfl ntmps84 results84 rfl 3 8167 (by simp) (by simp) ?_;simp only[zX,simprocAttr,zM,aO,aD.d,Re.ae,d8];refine aJ (λn e s=>∃(j:Nat) (m1:aA),n=j/\(j:Int)<=1/\m.Fr m1/\e 0=.pp 0 g 0 0 b a/\e 1=.d ((aD.root).d b a)/\e 5=.rf 3 0 0 0/\e 6=.rf 4 0 0 0/\e 8=i64 (p.at_)/\e 9=i64 (p.at_+j-1)/\s=m1.aB g b a++[⟨0,true,3,[(p.cells b a).map .d]⟩,⟨0,true,3,[[.d (iD 0),.fu [],.d (.sc (.pointer none))]]⟩] /\
    gJ (λq m=>e8 (λm base p=>bn k true m base p true) m { at_:=q,ah:=p.ah,todo:=.mk 0 (.el aL) 0 0 .nil }) m.p.re.neg p (p.at_) j m1=some x)
   ⟨_,_,_,cU.refl,1,m,rfl,by omega,.refl _,rfl,?_,rfl,rfl,rfl,?_,rfl,hx⟩ ?_
  ·rfl
  ·rw[show (p.at_:Int)+(1:Nat)-1=p.at_ by omega];rfl
  clear hx;rintro n e s ⟨j,m1,rfl,hj,Aa,h0,h1,h5,h6,h8,h9,rfl,hx⟩;have du:=Aa.p;have iq:=h1;simp only[aD.d,Re.ae,iD,bD]at iq;rw[<- du]at hk ek d8 hx;have Zd:m.p.re=m1.p.re:=by rw[du]
  cases n with
  |zero =>
   simp only[gJ,adp]at hx;cases hx;rw[show (p.at_:Int)+((0:Nat):Int)-1=p.at_-1 by omega]at h9;have hle:¬(p.at_:Int)<=p.at_-1:=by omega
   unfold aA.aB aA.ay;cases hn:m1.p.re.neg with
   |true =>
    simp only[zX,simprocAttr,zM,aO,h0,iq,h5,h6,h8,h9,d8,ek,hk,hle,ge_iff_le];refine ao mix [] [(0,[3],[]),(2,[0],[]),(3,[0],[]),(4,[0],[]),(7,[0],[]),(8,[0],[]),(9,[0],[]),(12,[4],[4])] (by rfl) ?_;simp only[zX,simprocAttr,zM,aO,h0,iq,h5,h6,h8,h9,d8,ek,hk,hn];first|exact⟨an m1 b a,rfl⟩|exact an m1 b a
   |false =>
    simp only[zX,simprocAttr,zM,aO,h0,iq,h5,h6,h8,h9,d8,ek,hk,hle,ge_iff_le];refine ao mix [] [(0,[3],[]),(2,[0],[]),(3,[0],[]),(4,[0],[]),(7,[0],[]),(8,[0],[]),(9,[0],[]),(12,[4],[4])] (by rfl) ?_;simp only[zX,simprocAttr,zM,aO,h0,iq,h5,h6,h8,h9,d8,ek,hk,hn];first|exact⟨an m1 b a,rfl⟩|exact an m1 b a
  |succ j =>
   rw[show (p.at_:Int)+((j+1:Nat):Int)-1=p.at_+(j:Int) by omega]at h9;have hle:(p.at_:Int)<=p.at_+(j:Int):=by omega
   simp only[gJ]at hx;by_cases he:m1.bU=true
   ·rw[ap he]at hx;cases hx;unfold aA.aB aA.ay;cases hn:m1.p.re.neg with
    |true =>
     simp only[zX,simprocAttr,zM,aO,h0,iq,h5,h6,h8,h9,d8,ek,hk,hle,he,ge_iff_le];refine ao mix [] [(0,[3],[]),(2,[0],[]),(3,[0],[]),(4,[0],[]),(7,[0],[]),(8,[0],[]),(9,[0],[]),(12,[4],[4])] (by rfl) ?_;simp only[zX,simprocAttr,zM,aO,h0,iq,h5,h6,h8,h9,d8,ek,hk,hn];first|exact⟨an m1 b a,rfl⟩|exact an m1 b a
    |false =>
     simp only[zX,simprocAttr,zM,aO,h0,iq,h5,h6,h8,h9,d8,ek,hk,hle,he,ge_iff_le];refine ao mix [] [(0,[3],[]),(2,[0],[]),(3,[0],[]),(4,[0],[]),(7,[0],[]),(8,[0],[]),(9,[0],[]),(12,[4],[4])] (by rfl) ?_;simp only[zX,simprocAttr,zM,aO,h0,iq,h5,h6,h8,h9,d8,ek,hk,hn];first|exact⟨an m1 b a,rfl⟩|exact an m1 b a
   ·rw[am he]at hx;have he:m1.bU=false:=by simpa using he
    cases hs:e8 (λm base p=>bn k true m base p true) m1 { at_:=p.at_+(j:Int),ah:=p.ah,todo:=.mk 0 (.el aL) 0 0 .nil } with
    |none=>rw[hs]at hx;cases hx
    |some y =>
     obtain⟨m2,r,found⟩:=y;rw[hs]at hx;simp only at hx;have Af:m1.Fr m2:=oz (λm base p x h=>nN k true m base p true x h) hs;have aU:=λext=>bt (oH ih g b a m1 _ hs) rfl rfl rfl ext;unfold aA.aB aA.ay at aU;simp only[zM,aO,aF.d,aD.d,Re.ae,he]at aU;unfold aA.aB aA.ay;simp only[zX,simprocAttr,zM,aO,h0,iq,h5,h6,h8,h9,d8,ek,hk,he,hle,ge_iff_le,Re.ae];refine az HN rfl rfl ?_;simp only[zX,simprocAttr,zM,aO,h0,iq,h5,h6,h8,h9,d8,ek,hk,Re.ae];refine aj (aU _) (λv s' hv=>?_);obtain⟨rfl,rfl⟩:=hv;cases found with
     |false =>
      simp only[adq,if_false]at hx;simp only[zX,simprocAttr,zM,aO,h0,iq,h5,h6,h8,h9,d8,ek,hk];refine⟨j,_,_,by omega,cU.cut (s':=m2.aB g b a++[⟨0,true,3,[(p.cells b a).map .d]⟩,⟨0,true,3,[[.d (iD 0),.fu [],.d (.sc (.pointer none))]]⟩]) 5 (by omega) rfl ?_ [0,1,5,6,8,9] ?_,j,m2,rfl,by omega,Aa.trans Af,?_,?_,?_,?_,?_,?_,rfl,by rw[Zd];exact hx⟩ <;> (try simp only[zU,Nat.reduceBEq,Nat.reduceShiftRight,Nat.reduceMod,Nat.reduceEqDiff,reduceIte])
      ·rw[List.all_append,show (m2.aB g b a).all (bJ 5)=true from fp g b a m2 _ 5 (by omega) (show ak 5 m2.text=true by unfold aA.text;split <;> rfl)];rfl
      ·simp [cB,br,ak,i64,h0,iq,h5,h6,h8,h9]
      ·exact h0
      ·first|exact h1|exact iq
      ·exact h5
      ·exact h6
      ·exact h8
      ·rw[bM _ (by omega)]
     |true =>
      simp only[if_true]at hx;cases cS:m1.p.re.neg with
      |true =>
       have qB:=cS;rw[<- Af.p]at qB;rw[cS]at hx;cases hx;simp only[zX,simprocAttr,zM,aO,h0,iq,h5,h6,h8,h9,d8,ek,hk,qB];first|exact⟨an m2 b a,rfl⟩|exact an m2 b a
      |false =>
       have qB:=cS;rw[<- Af.p]at qB;rw[cS]at hx;cases hx;simp only[zX,simprocAttr,zM,aO,h0,iq,h5,h6,h8,h9,d8,ek,hk,qB];first|exact⟨an m2 b a,rfl⟩|exact an m2 b a
end Go.Proofs.Ytphfjhaffbfpfaa
