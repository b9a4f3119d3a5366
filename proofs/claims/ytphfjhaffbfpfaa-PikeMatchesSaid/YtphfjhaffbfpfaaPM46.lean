/- A part of the proof (G40). -/
import Derived.Test.YtphfjhaffbfpfaaPM45
set_option linter.all false
set_option maxRecDepth 100000
set_option maxHeartbeats 80000000
namespace Go.Proofs.Ytphfjhaffbfpfaa
open Go.VL Go.Proofs.Try
variable{f:FuncId}
def Ib:List V->V
 |[x,y,c,d,e,f]=>.tu [.ag [x,y,c],d,e,f]
 |_=>.un
def aA.rest (m:aA):aA:={ m with ready:=false,top:=0 }
def aA.Au (m:aA) (t:List Int) (at_ fuel:Int):aA:={ m.rest with t:=t,bC:=false,start:=at_,steps:=0,fuel:=fuel,bU:=false }
def mH (m:aA) (at_:Int):aw:=⟨at_,List.replicate m.p.ah.toNat (-1,-1),.mk 0 .root 0 0 .nil⟩
theorem yR{g b a:Nat}{cargs:List V}{m m':aA}{r T T':V} (h:au prog f cargs (m.ay g b a T) λv s=>v=r/\s=m'.ay g b a T') (hT:ak 3 T=true) (Lk:aX [0,1,2] T=T) (ZB:ak 3 T'=true) (Ub:aX [0,1,2] T'=T')
  (ha:cargs.map (aX [0,1,2])=cargs) (x8:ak.go 3 cargs=true) (hr:aX [0,1,2] r=r) (ext:List VL.Obj):au prog f cargs (m.ay g b a T++ext) λv s=>v=r/\s=m'.ay g b a T'++ext:=by
 have Gm:∀(m:aA) (T:V),aX [0,1,2] T=T->(m.ay g b a T).map (bp [0,1,2])=m.ay g b a T:=by
  intro m T hT;unfold aA.ay;simp only[adG,adP,List.cons.injEq,and_true];refine⟨?_,?_,?_⟩
  ·unfold bp;simp [aX.go,aX,hT,i64,bV]
  ·unfold bp;simp only[List.map_map];congr 1;refine aei λp _=>?_;cases p <;> rfl
  ·exact uv [0,1,2] m.eV true 1 m.own iD
 refine gx [0,1,2] h (by decide) (by rfl) ?_ ha.symm x8 (fp g b a m _ 3 (adB _) hT) hr ?_
 ·have e:(m.ay g b a T).map (λo=>some (bp [0,1,2] o))=(m.ay g b a T).map some:=by
   conv=>rhs;rw[<- Gm m T Lk]
   rw[List.map_map];rfl
  rw[e];rfl
 ·rw[Gm m' T' Ub];exact⟨rfl,rfl⟩
theorem PC (g b a:Nat) (m:aA) (T:V) (hT:ak 3 T=true) (Lk:aX [0,1,2] T=T) (II:m.top<=m.gj.length) (t:List Int) (at_ fuel:Int) (ht:t.length<=1000000000) (hI:∀x∈t,kg x) (hc:iS m.p.aK t at_ fuel≠0) :
  au prog 8 [.pp 0 g 0 0 b a,.d (av t),i64 at_,i64 fuel] (m.ay g b a T) λv s =>
   v=Ib [i64 0,i64 0,.d (.sl []),bV false,i64 0,i64 (iS m.p.aK t at_ fuel)]/\s=m.rest.ay g b a T:=by
 have hM:=cT m.rest b a T hT;have s7:=λext=>yR (Hg g b a m.rest T hT t at_ fuel ht hI) hT Lk hT Lk rfl rfl rfl ext;have Ve:iS m.rest.p.aK t at_ fuel=iS m.p.aK t at_ fuel:=rfl;rw[Ve]at s7;generalize iS m.p.aK t at_ fuel=c at *;unfold aA.ay at s7;simp only[zM,aO]at s7;have oo:min m.top m.gj.length=m.top:=by omega
 have q1:(0:Int)<=(m.top:Int):=by omega
 unfold aA.ay;refine ar func8 rfl ntmps8 results8 rfl 3 6917529027641147151 (by simp) (by simp) ?_;try simp only[zX,simprocAttr,zM,aO,II,oo,q1,ad5,ado,ady,Int.sub_self,Int.toNat_zero,adI,true_or]
 refine aj (s7 _) (λv s' hv=>?_);obtain⟨rfl,rfl⟩:=hv;try simp only[zX,simprocAttr,zM,aO,hc,Ib]
 first|exact⟨hM,rfl⟩|exact hM
theorem N9{g b a:Nat}{m:aA} (h:au prog f [.pp 0 g 0 0 b a] (m.aB g b a) λv s=>v=.tu []/\s=m.kept.ay g b a m.kB) (ext:List VL.Obj):au prog f [.pp 0 g 0 0 b a] (m.aB g b a++ext) λv s=>v=.tu []/\s=m.kept.ay g b a m.kB++ext:=by unfold aA.aB at h ⊢;refine yR h (tK m) (by unfold aA.text;split <;> rfl) (by unfold aA.kB;split <;> rfl) (by unfold aA.kB;split <;> rfl) rfl rfl rfl ext
theorem RV (m:aA) (p:aw) (found:Bool):∃d0 d1 d2 d3 d4 d5:D,m.res p found=[.d d0,.d d1,.d d2,.d d3,.d d4,.d d5]:=by
 unfold aA.res;split
 ·exact⟨_,_,_,_,_,_,rfl⟩
 ·split
  ·exact⟨_,_,_,_,_,_,rfl⟩
  ·exact⟨_,_,_,_,_,_,rfl⟩
def mZ (n i:Nat):aC:=List.replicate i (-1,-1)++List.replicate (n-i) (0,0)
theorem MA (n:Nat):(mZ n 0).map qO=List.replicate n [V.d (D.sc (.int .i64 0)),V.d (D.sc (.int .i64 0))]:=by unfold mZ;simp only[List.replicate_zero,adt,Nat.sub_zero,List.map_replicate];rfl
theorem PB (n i:Nat) (h:i<n):((mZ n i).map qO).set i [V.d (D.sc (.int .i64 (-1))),V.d (D.sc (.int .i64 (-1)))]=(mZ n (i+1)).map qO:=by
 have:(mZ n i).set i (-1,-1)=mZ n (i+1):=by unfold mZ;rw[List.set_append_right _ _ (by simp),List.length_replicate,Nat.sub_self,show n-i=(n-(i+1))+1 by omega,List.replicate_succ,ad0,List.replicate_succ',adX];rfl
 rw[<- this,List.map_set];rfl
theorem Oi (n i:Nat) (h:i<n):((mZ n i).map qO)[i]?=some [V.d (D.sc (.int .i64 0)),V.d (D.sc (.int .i64 0))]:=by unfold mZ;rw[adL,adN (by simp),List.length_replicate,Nat.sub_self,show n-i=(n-(i+1))+1 by omega,List.replicate_succ];rfl
theorem LA (n:Nat):mZ n n=List.replicate n (-1,-1):=by simp [mZ]
theorem Ex (n i:Nat) (h:i<=n):(mZ n i).length=n:=by simp [mZ];omega
theorem Rq (g b a:Nat) (m:aA) (T:V) (hT:ak 3 T=true) (Lk:aX [0,1,2] T=T) (II:m.top<=m.gj.length) (t:List Int) (at_ fuel:Int) (ht:t.length<=1000000) (hI:∀x∈t,kg x) (hc:iS m.p.aK t at_ fuel=0) (n:Nat) (BA:m.p.ah=n) (hn:n<=1000000)
  {k:Nat}{m2:aA}{p2:aw}{found:Bool} (hx:bn k true (m.Au t at_ fuel) 0 (mH m at_) true=some (m2,p2,found)) (P9:p2.ah.length<=1000000000) :
  au prog 8 [.pp 0 g 0 0 b a,.d (av t),i64 at_,i64 fuel] (m.ay g b a T) λv s =>
   v=Ib (m2.res p2 found)/\s=(m2.done found).kept.ay g b a (m2.done found).kB:=by
 have s7:=λext=>yR (Hg g b a m.rest T hT t at_ fuel (by omega) hI) hT Lk hT Lk rfl rfl rfl ext;have Ve:iS m.rest.p.aK t at_ fuel=0:=hc;rw[Ve]at s7;unfold aA.ay at s7;simp only[zM,aO]at s7;have oo:min m.top m.gj.length=m.top:=by omega
 have q1:(0:Int)<=(m.top:Int):=by omega
 have HN:=gm b a .root .nil;simp only[aF.d,aD.d,iD]at HN;have oD:=λext=>bt (ME k g b a (m.Au t at_ fuel) 0 (mH m at_) true _ hx) rfl rfl rfl ext;have Aa:(m.Au t at_ fuel).Fr m2:=nN _ _ _ _ _ _ _ hx;have XD:=λext=>bt (Lw g b a m2 p2 found P9) rfl rfl (by obtain⟨_,_,_,_,_,_,h⟩:=RV m2 p2 found;rw[h];rfl) ext;have tV:=λext=>N9 (RK g b a (m2.done found) (by rw[show (m2.done found).t=m2.t from rfl,Aa.t];exact ht) (by rw[show (m2.done found).bC=m2.bC from rfl,Aa.bC];rfl)) ext;obtain⟨d0,d1,d2,d3,d4,d5,NX⟩:=RV m2 p2 found;rw[NX]at XD ⊢;have tG:(m2.done found).kept.ay g b a (m2.done found).kB=(m2.done found).kept.ay g b a (m2.done found).kB:=rfl;have hM:=cT (m2.done found).kept b a (m2.done found).kB (by unfold aA.kB;split <;> rfl);generalize hm4:(m2.done found).kept=m4 at *;generalize hT4:(m2.done found).kB=T4 at *;generalize hm3:m2.done found=m3 at *;unfold aA.aB at oD;rw[show (m.Au t at_ fuel).text=.d (av t) from rfl]at oD;unfold aA.aB aA.ay at XD tV;unfold aA.ay at oD;simp only[zM,aO,mH,BA,adR,aF.d,aD.d,bQ]at oD XD tV;have z0:(0:Int)<=(n:Int):=by omega
 have RD:∀(ck:Nat) (s:List VL.Obj),(List.take n (List.map qO (mZ n n))).mapM (λe=>e.mapM (cE 7 ck s))=some ((List.replicate n ((-1:Int),(-1:Int))).map aN):=by intro ck s;rw[adT (by rw[ado,Ex n n (adB _)];exact adB _),vP 6 ck s,LA]
 unfold aA.ay;refine ar func8 rfl ntmps8 results8 rfl 3 6917529027641147151 (by simp) (by simp) ?_;try simp only[zX,simprocAttr,zM,aO,II,oo,q1,ad5,ado,ady,Int.sub_self,Int.toNat_zero,adI,true_or]
 refine aj (s7 _) (λv s' hv=>?_);obtain⟨rfl,rfl⟩:=hv;have S8:m.rest.p.ah=n:=BA;try simp only[zX,simprocAttr,zM,aO,S8,z0,adR]
 refine⟨⟨ady _,by (try simp);omega,by omega⟩,?_⟩;refine aJ (λq e s=>∃i:Nat,q=n-i/\i<=n/\e 0=.pp 0 g 0 0 b a/\e 2=i64 at_/\e 8=.rf 3 0 0 0/\e 13=.so 4 0 0 n/\e 61=i64 n/\e 62=i64 i/\s=(m.Au t at_ fuel).ay g b a (.d (av t))++[⟨0,true,3,[[.d (iD 0),.d (iD 0),.fu []]]⟩,⟨0,true,2,(mZ n i).map qO⟩])
  ⟨_,_,_,cU.refl,0,rfl,by omega,rfl,rfl,rfl,rfl,rfl,rfl,?_⟩ ?_
 ·rw[MA];unfold aA.ay;rw[show (m.Au t at_ fuel).p.ah=n from BA];rfl
 rintro q e s ⟨i,rfl,hi,h0,h2,h8,eB,Ss,S7,rfl⟩;unfold aA.ay;rcases adV i n with aH|iP
 ·have l0:(0:Int)<=(i:Int):=by omega
  have l1:(i:Int)<(n:Int):=by omega
  have hg:=Oi n i aH;have aU:=PB n i aH;try simp only[zX,simprocAttr,zM,aO,h0,h2,h8,eB,Ss,S7,l0,l1,adR,adI,hg,aU]
  refine⟨n-(i+1),_,_,by omega,cU.refl,i+1,rfl,aH,?_,?_,?_,?_,?_,?_,rfl⟩ <;> (try simp only[zU,Nat.reduceBEq,Nat.reduceShiftRight,Nat.reduceMod,Nat.reduceEqDiff,reduceIte])
  ·exact h0
  ·exact h2
  ·exact h8
  ·exact eB
  ·exact Ss
  ·rw[bM _ (by omega)];rfl
 ·have fy:i=n:=by omega
  subst fy;try simp only[zX,simprocAttr,zM,aO,h0,h2,h8,eB,Ss,S7,Int.lt_irrefl]
  refine Ow ?_;simp only[adG,adP,QZ,Nat.add_zero];refine az HN rfl rfl ?_;try simp only[zX,simprocAttr,zM,aO,h0,h2,h8,eB,Ss,S7]
  refine aY [4] (by simp [bg,bT,bf.go,bf,cE,iD,RD,Ex i i (adB _)]) (aj (oD _) (λv s' hv=>?_));obtain⟨rfl,rfl⟩:=hv;try simp only[zX,simprocAttr,zM,aO,h0,h2,h8,eB,Ss,S7]
  refine aj (XD _) (λv s' hv=>?_);obtain⟨rfl,rfl⟩:=hv;try simp only[zX,simprocAttr,zM,aO,h0,h2,h8,eB,Ss,S7]
  refine aj (tV _) (λv s' hv=>?_);obtain⟨rfl,rfl⟩:=hv;try simp only[zX,simprocAttr,zM,aO,h0,h2,h8,eB,Ss,S7]
  refine ao mix [] [(0,[5],[]),(1,[5],[]),(2,[5],[]),(3,[5],[]),(4,[5],[]),(5,[5],[]),(6,[5],[]),(7,[5],[]),(8,[3],[3])] (by rfl) ?_;try simp only[zX,simprocAttr,zM,aO,h0,h2,h8,eB,Ss,S7,Ib]
  exact hM
end Go.Proofs.Ytphfjhaffbfpfaa
