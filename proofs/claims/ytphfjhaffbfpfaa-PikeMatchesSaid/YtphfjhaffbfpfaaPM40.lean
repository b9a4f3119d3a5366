/- A part of the proof (G28 G29). -/
import Derived.Test.YtphfjhaffbfpfaaPM39
set_option linter.all false
set_option maxRecDepth 100000
set_option maxHeartbeats 80000000
namespace Go.Proofs.Ytphfjhaffbfpfaa
open Go.VL Go.Proofs.Try
variable{gp:Nat}{kind:Int}{s:List VL.Obj}{at_:Int}
theorem LC (gp:Nat) (kind n at_ x:Int) (rd cd nd:D) :
  au prog 62 [i64 kind,.d rd,i64 n,i64 at_,.rf 0 gp 0 0] [⟨gp,true,3,[[.d (iD x),.d cd,.d nd]]⟩] λv s=>v=.tu []/\s=[⟨gp,true,3,[[.d (iD x),.d cd,.d (.el [iD kind,rd,iD n,iD at_,nd])]]⟩]:=by
 refine Ai func62 rfl ntmps62 results62 rfl 1 31 (by simp) (by simp) ?_;simp only[zX,simprocAttr,zM,tj,wQ,nh]
theorem oB {k:Nat}{n x:Int}{rd cd nd:D}{K:V->List VL.Obj->Prop} (ho:s[k]?=some ⟨gp,true,3,[[.d (.sc (.int .i64 x)),.d cd,.d nd]]⟩)
  (hk:K (.tu []) (s.set k ⟨gp,true,3,[[.d (.sc (.int .i64 x)),.d cd,.d (.el [.sc (.int .i64 kind),rd,.sc (.int .i64 n),.sc (.int .i64 at_),nd])]]⟩)) :
  au prog 62 [.d (.sc (.int .i64 kind)),.d rd,.d (.sc (.int .i64 n)),.d (.sc (.int .i64 at_)),.rf k gp 0 0] s K :=
 vm k (LC gp kind n at_ x rd cd nd) rfl rfl rfl ho rfl hk
theorem Mi (gp:Nat) (kind n at_ x:Int) (rd cd nd:D) :
  au prog 79 [i64 kind,.d rd,i64 n,i64 at_,.rf 0 gp 0 0] [⟨gp,true,3,[[.d (iD x),.d cd,.d nd]]⟩] λv s=>v=.tu []/\s=[⟨gp,true,3,[[.d (iD x),.d cd,.d (.el [iD kind,rd,iD n,iD at_,nd])]]⟩]:=by
 refine Ai func79 rfl ntmps79 results79 rfl 1 31 (by simp) (by simp) ?_;simp only[zX,simprocAttr,zM,tj,wQ,nh]
theorem eO {k:Nat}{n x:Int}{rd cd nd:D}{K:V->List VL.Obj->Prop} (ho:s[k]?=some ⟨gp,true,3,[[.d (.sc (.int .i64 x)),.d cd,.d nd]]⟩)
  (hk:K (.tu []) (s.set k ⟨gp,true,3,[[.d (.sc (.int .i64 x)),.d cd,.d (.el [.sc (.int .i64 kind),rd,.sc (.int .i64 n),.sc (.int .i64 at_),nd])]]⟩)) :
  au prog 79 [.d (.sc (.int .i64 kind)),.d rd,.d (.sc (.int .i64 n)),.d (.sc (.int .i64 at_)),.rf k gp 0 0] s K :=
 vm k (Mi gp kind n at_ x rd cd nd) rfl rfl rfl ho rfl hk
theorem aA.e9 (m:aA):m.step.p=m.p:=by unfold aA.step;split <;> rfl
theorem aA.Hd (m:aA):m.step.top=m.top:=by unfold aA.step;split <;> rfl
theorem aA.HD (m:aA):m.step.gj=m.gj:=by unfold aA.step;split <;> rfl
theorem bt {f:FuncId}{g b a:Nat}{cargs:List V}{m m':aA}{r:V} (h:au prog f cargs (m.aB g b a) λv s=>v=r/\s=m'.aB g b a) (ha:cargs.map (aX [0,1,2])=cargs) (x8:ak.go 3 cargs=true) (hr:aX [0,1,2] r=r)
  (ext:List VL.Obj):au prog f cargs (m.aB g b a++ext) λv s=>v=r/\s=m'.aB g b a++ext:=by
 have Gm:∀m:aA,(m.aB g b a).map (bp [0,1,2])=m.aB g b a:=by
  intro m;unfold aA.aB aA.ay;simp only[adG,adP,List.cons.injEq,and_true];refine⟨?_,?_,?_⟩
  ·unfold aA.text;split <;> rfl
  ·unfold bp;simp only[List.map_map];congr 1;refine aei λp _=>?_;cases p <;> rfl
  ·exact uv [0,1,2] m.eV true 1 m.own iD
 refine gx [0,1,2] h (by decide) (by rfl) ?_ ha.symm x8 (fp g b a m _ 3 (adB _) (tK m)) hr ?_
 ·have e:(m.aB g b a).map (λo=>some (bp [0,1,2] o))=(m.aB g b a).map some:=by
   conv=>rhs;rw[<- Gm m]
   rw[List.map_map];rfl
  rw[e];rfl
 ·rw[Gm];exact⟨rfl,rfl⟩
theorem aF.bu (b a:Nat) (kind:Int) (r:aD) (n at_:Int) (nx:aF):(aF.mk kind r n at_ nx).d b a=.el [.sc (.int .i64 kind),r.d b a,.sc (.int .i64 n),.sc (.int .i64 at_),nx.d b a]:=rfl
theorem N1 (g b a:Nat) (m:aA) (re:Re) (n at_:Int) (nx:aF) (p:aw) (aL:Re) (hk:re.kids[0]?=some aL) (hm:m.bW p) (nq:0<=n) (lX:n<=10000000000000) {x:Rs} (hx:ka m (.el re) n p=some x) :
  au prog 65 [.pp 0 g 0 0 b a,.d ((aF.mk 2 (.el re) n at_ nx).d b a),p.v b a] (m.aB g b a) λv s=>v=aO b a x.2.1 x.2.2/\s=x.1.aB g b a:=by
 obtain⟨⟨g1,g2,g3,g4⟩,⟨g5,g6,g7⟩,g8,g9⟩:=hm;have aU:=λext=>bt (cX g b a m g1 g2) rfl rfl rfl ext;unfold ka at hx;simp only[aA.lit]at hx;obtain⟨l,hl⟩:∃l,re.kids=aL::l:=by
  cases hh:re.kids with
  |nil=>rw[hh]at hk;cases hk
  |cons y l=>rw[hh]at hk;cases hk;exact⟨l,rfl⟩
 rw[hl]at hx;simp only at hx;have ek:(0:Int)<(re.kids.length:Int):=by rw[hl,adA];omega
 clear hl;have du:=m.e9;have Us:=m.HD;have Fy:=m.Hd;by_cases c1:m.fuel<=m.steps
 ·rw[ap c1]at hx;cases hx;have hd:decide (m.steps<m.fuel)=false:=adl (by omega);simp only[hd]at aU;unfold aA.aB aA.ay at aU;simp only[zM]at aU;unfold aA.aB aA.ay;refine ar func65 rfl ntmps65 results65 rfl 3 2023 (by simp) (by simp) ?_;simp only[zX,simprocAttr,zM,aF.bu];refine aj (aU _) (λv s' hv=>?_);obtain⟨rfl,rfl⟩:=hv;simp only[zX,simprocAttr,zM,adz];exact⟨an m.step b a,rfl⟩
 ·rw[am c1]at hx;have hd:decide (m.steps<m.fuel)=true:=adu (by omega);simp only[hd]at aU;generalize oa:m.step=m1 at *;unfold aA.aB aA.ay at aU;simp only[zM]at aU;unfold aA.aB aA.ay;have w1:IntKind.i64.wrap (n+1)=n+1:=bM _ (by omega);have tk:∀q:aw,au prog 64 [.pp 0 g 0 0 b a,q.v b a] (m1.aB g b a) λv s=>v=.tu []/\s=(m1.push q).aB g b a:=λq=>rQ g b a m1 q (by rw[Fy,Us];exact g3) (by rw[Fy];exact g4);refine ar func65 rfl ntmps65 results65 rfl 3 2023 (by simp) (by simp) ?_;simp only[zX,simprocAttr,zM,aF.bu];refine aj (aU _) (λv s' hv=>?_);obtain⟨rfl,rfl⟩:=hv;simp only[zX,simprocAttr,zM,ads,aD.d,Re.ae,ek,hk];refine aS (ca.bh.trans ca.bh) ?_;refine ao mix [] [(0,[3],[]),(1,[3],[]),(2,[5],[5]),(3,[6],[6]),(4,[5],[5]),(5,[6],[6])] (by rfl) ?_;simp only[zX,simprocAttr,zM,hole];refine ao mix [] [(8,[0],[]),(9,[0],[]),(10,[0],[])] (by rfl) ?_;by_cases c2:n<re.mn
  ·rw[ap c2]at hx;cases hx;simp only[zX,simprocAttr,zM,c2,aD.d,Re.ae];refine aS ca.bh ?_;refine ao mix [14] [(10,[3],[]),(11,[3],[]),(13,[7],[7]),(15,[6],[]),(16,[6],[6])] (by rfl) ?_;simp only[zX,simprocAttr,zM,hole,w1];refine bj (aY [7] (by simp [bg,bT,bf.go,bf,cE,aF.bu,aD.d,Re.ae,iD,bD]) (az (gm b a (.el aL) (.mk 2 (.el re) (n+1) 0 p.todo)) rfl rfl ⟨rfl,rfl⟩)) ?_;simp only[zX,simprocAttr,zM,aF.bu,aD.d,Re.ae,bg,bT];refine⟨an m1 b a,?_⟩;simp only[zM,aO,aF.bu,aD.d,Re.ae]
  ·rw[am c2]at hx;have QI:=λext=>bt (tk { p with todo:=.mk 0 (.el aL) 0 0 (.mk 3 (.el re) (n+1) p.at_ p.todo) }) rfl rfl rfl ext;have HE:=λext=>bt (tk p) rfl rfl rfl ext;generalize A0:m1.push { p with todo:=.mk 0 (.el aL) 0 0 (.mk 3 (.el re) (n+1) p.at_ p.todo) }=m2 at *;generalize hm3:m1.push p=m3 at *;unfold aA.aB aA.ay at QI HE;simp only[zM,aF.bu,aD.d,Re.ae]at QI HE;simp only[zX,simprocAttr,zM,c2,aD.d,Re.ae];refine ao mix [] [(4,[0],[]),(5,[0],[]),(6,[0],[]),(17,[0],[]),(18,[0],[]),(19,[0],[])] (by rfl) ?_;by_cases c3:0<=re.mx/\re.mx<=n
   ·rw[ap c3]at hx;cases hx;simp only[zX,simprocAttr,zM,c3.1,c3.2,ge_iff_le,aD.d,Re.ae];exact⟨an m1 b a,rfl⟩
   ·rw[am c3]at hx;by_cases c4:0<=re.mx
    ·have c5:¬re.mx<=n:=λh=>c3 ⟨c4,h⟩;simp only[zX,simprocAttr,zM,c4,c5,ge_iff_le,aD.d,Re.ae];refine aS ca.bh ?_;refine ao mix [16] [(10,[3],[]),(11,[3],[]),(12,[3],[]),(13,[3],[]),(15,[7],[7]),(17,[6],[]),(18,[6],[6])] (by rfl) ?_;simp only[zX,simprocAttr,zM,hole,w1];refine bj (aY [7] (by simp [bg,bT,bf.go,bf,cE,aF.bu,aD.d,Re.ae,iD,bD]) (az (gm b a (.el aL) (.mk 3 (.el re) (n+1) p.at_ p.todo)) rfl rfl ⟨rfl,rfl⟩)) ?_;by_cases c6:re.mode=1
     ·rw[ap c6]at hx;have d6:decide (re.mode=1)=true:=adu c6;cases hx;simp only[zX,simprocAttr,zM,aF.bu,aD.d,Re.ae,d6,bg,bT];refine aj (QI _) (λv s' hv=>?_);obtain⟨rfl,rfl⟩:=hv;simp only[zX,simprocAttr,zM];exact⟨an m2 b a,rfl⟩
     ·rw[am c6]at hx;have d6:decide (re.mode=1)=false:=adl c6;cases hx;simp only[zX,simprocAttr,zM,aF.bu,aD.d,Re.ae,d6,bg,bT];refine aj (HE _) (λv s' hv=>?_);obtain⟨rfl,rfl⟩:=hv;simp only[zX,simprocAttr,zM];refine⟨an m3 b a,?_⟩;simp only[zM,aO,aF.bu,aD.d,Re.ae]
    ·simp only[zX,simprocAttr,zM,c4,ge_iff_le,aD.d,Re.ae];refine aS ca.bh ?_;refine ao mix [16] [(10,[3],[]),(11,[3],[]),(12,[3],[]),(13,[3],[]),(15,[7],[7]),(17,[6],[]),(18,[6],[6])] (by rfl) ?_;simp only[zX,simprocAttr,zM,hole,w1];refine bj (aY [7] (by simp [bg,bT,bf.go,bf,cE,aF.bu,aD.d,Re.ae,iD,bD]) (az (gm b a (.el aL) (.mk 3 (.el re) (n+1) p.at_ p.todo)) rfl rfl ⟨rfl,rfl⟩)) ?_;by_cases c6:re.mode=1
     ·rw[ap c6]at hx;have d6:decide (re.mode=1)=true:=adu c6;cases hx;simp only[zX,simprocAttr,zM,aF.bu,aD.d,Re.ae,d6,bg,bT];refine aj (QI _) (λv s' hv=>?_);obtain⟨rfl,rfl⟩:=hv;simp only[zX,simprocAttr,zM];exact⟨an m2 b a,rfl⟩
     ·rw[am c6]at hx;have d6:decide (re.mode=1)=false:=adl c6;cases hx;simp only[zX,simprocAttr,zM,aF.bu,aD.d,Re.ae,d6,bg,bT];refine aj (HE _) (λv s' hv=>?_);obtain⟨rfl,rfl⟩:=hv;simp only[zX,simprocAttr,zM];refine⟨an m3 b a,?_⟩;simp only[zM,aO,aF.bu,aD.d,Re.ae]
theorem Is (g b a:Nat) (m:aA) (n at_:Int) (nx:aF) (p:aw) (aL:Re) (hk:m.p.re.kids[0]?=some aL) (hm:m.bW p) (nq:0<=n) (lX:n<=10000000000000) {x:Rs} (hx:ka m .root n p=some x) :
  au prog 65 [.pp 0 g 0 0 b a,.d ((aF.mk 2 .root n at_ nx).d b a),p.v b a] (m.aB g b a) λv s=>v=aO b a x.2.1 x.2.2/\s=x.1.aB g b a:=by
 obtain⟨⟨g1,g2,g3,g4⟩,⟨g5,g6,g7⟩,g8,g9⟩:=hm;have aU:=λext=>bt (cX g b a m g1 g2) rfl rfl rfl ext;unfold ka at hx;simp only[aA.lit]at hx;obtain⟨l,hl⟩:∃l,m.p.re.kids=aL::l:=by
  cases hh:m.p.re.kids with
  |nil=>rw[hh]at hk;cases hk
  |cons y l=>rw[hh]at hk;cases hk;exact⟨l,rfl⟩
 rw[hl]at hx;simp only at hx;have ek:(0:Int)<(m.p.re.kids.length:Int):=by rw[hl,adA];omega
 clear hl;have du:=m.e9;have Us:=m.HD;have Fy:=m.Hd;by_cases c1:m.fuel<=m.steps
 ·rw[ap c1]at hx;cases hx;have hd:decide (m.steps<m.fuel)=false:=adl (by omega);simp only[hd]at aU;unfold aA.aB aA.ay at aU;simp only[zM]at aU;unfold aA.aB aA.ay;refine ar func65 rfl ntmps65 results65 rfl 3 2023 (by simp) (by simp) ?_;simp only[zX,simprocAttr,zM,aF.bu];refine aj (aU _) (λv s' hv=>?_);obtain⟨rfl,rfl⟩:=hv;simp only[zX,simprocAttr,zM,adz];exact⟨an m.step b a,rfl⟩
 ·rw[am c1]at hx;have hd:decide (m.steps<m.fuel)=true:=adu (by omega);simp only[hd]at aU;generalize oa:m.step=m1 at *;rw[<- du]at hk ek hx;unfold aA.aB aA.ay at aU;simp only[zM]at aU;unfold aA.aB aA.ay;have w1:IntKind.i64.wrap (n+1)=n+1:=bM _ (by omega);have tk:∀q:aw,au prog 64 [.pp 0 g 0 0 b a,q.v b a] (m1.aB g b a) λv s=>v=.tu []/\s=(m1.push q).aB g b a:=λq=>rQ g b a m1 q (by rw[Fy,Us];exact g3) (by rw[Fy];exact g4);refine ar func65 rfl ntmps65 results65 rfl 3 2023 (by simp) (by simp) ?_;simp only[zX,simprocAttr,zM,aF.bu];refine aj (aU _) (λv s' hv=>?_);obtain⟨rfl,rfl⟩:=hv;simp only[zX,simprocAttr,zM,ads,aD.d,Re.ae,ek,hk];refine aS (ca.bh.trans ca.bh) ?_;refine ao mix [] [(0,[3],[]),(1,[3],[]),(2,[5],[5]),(3,[6],[6]),(4,[5],[5]),(5,[6],[6])] (by rfl) ?_;simp only[zX,simprocAttr,zM,hole];refine ao mix [] [(8,[0],[]),(9,[0],[]),(10,[0],[])] (by rfl) ?_;by_cases c2:n<m1.p.re.mn
  ·rw[ap c2]at hx;cases hx;simp only[zX,simprocAttr,zM,c2,aD.d,Re.ae];refine aS ca.bh ?_;refine ao mix [14] [(10,[3],[]),(11,[3],[]),(13,[7],[7]),(15,[6],[]),(16,[6],[6])] (by rfl) ?_;simp only[zX,simprocAttr,zM,hole,w1];refine bj (aY [7] (by simp [bg,bT,bf.go,bf,cE,aF.bu,aD.d,Re.ae,iD,bD]) (az (gm b a (.el aL) (.mk 2 .root (n+1) 0 p.todo)) rfl rfl ⟨rfl,rfl⟩)) ?_;simp only[zX,simprocAttr,zM,aF.bu,aD.d,Re.ae,bg,bT];refine⟨an m1 b a,?_⟩;simp only[zM,aO,aF.bu,aD.d,Re.ae]
  ·rw[am c2]at hx;have QI:=λext=>bt (tk { p with todo:=.mk 0 (.el aL) 0 0 (.mk 3 .root (n+1) p.at_ p.todo) }) rfl rfl rfl ext;have HE:=λext=>bt (tk p) rfl rfl rfl ext;generalize A0:m1.push { p with todo:=.mk 0 (.el aL) 0 0 (.mk 3 .root (n+1) p.at_ p.todo) }=m2 at *;generalize hm3:m1.push p=m3 at *;unfold aA.aB aA.ay at QI HE;simp only[zM,aF.bu,aD.d,Re.ae]at QI HE;simp only[zX,simprocAttr,zM,c2,aD.d,Re.ae];refine ao mix [] [(4,[0],[]),(5,[0],[]),(6,[0],[]),(17,[0],[]),(18,[0],[]),(19,[0],[])] (by rfl) ?_;by_cases c3:0<=m1.p.re.mx/\m1.p.re.mx<=n
   ·rw[ap c3]at hx;cases hx;simp only[zX,simprocAttr,zM,c3.1,c3.2,ge_iff_le,aD.d,Re.ae];exact⟨an m1 b a,rfl⟩
   ·rw[am c3]at hx;by_cases c4:0<=m1.p.re.mx
    ·have c5:¬m1.p.re.mx<=n:=λh=>c3 ⟨c4,h⟩;simp only[zX,simprocAttr,zM,c4,c5,ge_iff_le,aD.d,Re.ae];refine aS ca.bh ?_;refine ao mix [16] [(10,[3],[]),(11,[3],[]),(12,[3],[]),(13,[3],[]),(15,[7],[7]),(17,[6],[]),(18,[6],[6])] (by rfl) ?_;simp only[zX,simprocAttr,zM,hole,w1];refine bj (aY [7] (by simp [bg,bT,bf.go,bf,cE,aF.bu,aD.d,Re.ae,iD,bD]) (az (gm b a (.el aL) (.mk 3 .root (n+1) p.at_ p.todo)) rfl rfl ⟨rfl,rfl⟩)) ?_;by_cases c6:m1.p.re.mode=1
     ·rw[ap c6]at hx;have d6:decide (m1.p.re.mode=1)=true:=adu c6;cases hx;simp only[zX,simprocAttr,zM,aF.bu,aD.d,Re.ae,d6,bg,bT];refine aj (QI _) (λv s' hv=>?_);obtain⟨rfl,rfl⟩:=hv;simp only[zX,simprocAttr,zM];exact⟨an m2 b a,rfl⟩
     ·rw[am c6]at hx;have d6:decide (m1.p.re.mode=1)=false:=adl c6;cases hx;simp only[zX,simprocAttr,zM,aF.bu,aD.d,Re.ae,d6,bg,bT];refine aj (HE _) (λv s' hv=>?_);obtain⟨rfl,rfl⟩:=hv;simp only[zX,simprocAttr,zM];refine⟨an m3 b a,?_⟩;simp only[zM,aO,aF.bu,aD.d,Re.ae]
    ·simp only[zX,simprocAttr,zM,c4,ge_iff_le,aD.d,Re.ae];refine aS ca.bh ?_;refine ao mix [16] [(10,[3],[]),(11,[3],[]),(12,[3],[]),(13,[3],[]),(15,[7],[7]),(17,[6],[]),(18,[6],[6])] (by rfl) ?_;simp only[zX,simprocAttr,zM,hole,w1];refine bj (aY [7] (by simp [bg,bT,bf.go,bf,cE,aF.bu,aD.d,Re.ae,iD,bD]) (az (gm b a (.el aL) (.mk 3 .root (n+1) p.at_ p.todo)) rfl rfl ⟨rfl,rfl⟩)) ?_;by_cases c6:m1.p.re.mode=1
     ·rw[ap c6]at hx;have d6:decide (m1.p.re.mode=1)=true:=adu c6;cases hx;simp only[zX,simprocAttr,zM,aF.bu,aD.d,Re.ae,d6,bg,bT];refine aj (QI _) (λv s' hv=>?_);obtain⟨rfl,rfl⟩:=hv;simp only[zX,simprocAttr,zM];exact⟨an m2 b a,rfl⟩
     ·rw[am c6]at hx;have d6:decide (m1.p.re.mode=1)=false:=adl c6;cases hx;simp only[zX,simprocAttr,zM,aF.bu,aD.d,Re.ae,d6,bg,bT];refine aj (HE _) (λv s' hv=>?_);obtain⟨rfl,rfl⟩:=hv;simp only[zX,simprocAttr,zM];refine⟨an m3 b a,?_⟩;simp only[zM,aO,aF.bu,aD.d,Re.ae]
end Go.Proofs.Ytphfjhaffbfpfaa
