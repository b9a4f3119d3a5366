/- A part of the proof (G40). -/
import Derived.Test.YtmihcpdhcillaaaGreatBG45
set_option linter.unusedSimpArgs false
set_option linter.unusedVariables false
set_option maxRecDepth 100000
set_option maxHeartbeats 80000000
namespace Go.Proofs.YtmihcpdhcillaaaGreat
open Go.VL Go.Proofs.Tryz
def AP:List V→V
 |[x,y,c,d,e,f]=>.tu [.ag [x,y,c],d,e,f]
 |_=>.un
def aC.rest (m:aC):aC:={ m with ready:=false,top:=0 }
def aC.vJ (m:aC) (t:List Int) (at_ fuel:Int):aC:={ m.rest with t:=t,bB:=false,start:=at_,steps:=0,fuel:=fuel,aK:=false }
def kq (m:aC) (at_:Int):aA:=⟨at_,List.replicate m.p.ak.toNat (-1,-1),.mk 0 .root 0 0 .nil⟩
theorem x9 {f:FuncId}{g b a:Nat}{cargs:List V}{m m':aC}{r T T':V} (h:av prog f cargs (m.az g b a T) fun v s=>v=r∧s=m'.az g b a T') (hT:ao 3 T=true) (G7:bF [0,1,2] T=T) (SE:ao 3 T'=true) (Ov:bF [0,1,2] T'=T')
  (ha:cargs.map (bF [0,1,2])=cargs) (td:ao.go 3 cargs=true) (hr:bF [0,1,2] r=r) (ext:List VL.Obj):av prog f cargs (m.az g b a T++ext) fun v s=>v=r∧s=m'.az g b a T'++ext:=by
 have KG:∀(m:aC) (T:V),bF [0,1,2] T=T→(m.az g b a T).map (bX [0,1,2])=m.az g b a T:=by
  intro m T hT
  unfold aC.az
  simp only[WU,WV,X4,and_true]
  refine⟨?_,?_,?_⟩
  ·unfold bX
   simp [bF.go,bF,hT,i64,bV]
  ·unfold bX
   simp only[XS]
   congr 1
   refine XM fun p _=>?_
   cases p <;> rfl
  ·exact sa [0,1,2] m.eP true 1 m.own iD
 refine jt [0,1,2] h (by decide) (by rfl) ?_ ha.symm td (fg g b a m _ 3 (W4 _) hT) hr ?_
 ·have e:(m.az g b a T).map (fun o=>some (bX [0,1,2] o))=(m.az g b a T).map some:=by
   conv=>rhs;rw[← KG m T G7]
   rw[XS];rfl
  rw[e];rfl
 ·rw[KG m' T' Ov]
  exact⟨rfl,rfl⟩
theorem JQ (g b a:Nat) (m:aC) (T:V) (hT:ao 3 T=true) (G7:bF [0,1,2] T=T) (pt:m.top≤m.cO.length) (t:List Int) (at_ fuel:Int) (ht:t.length≤1000000000) (hI:∀x∈t,jX x) (hc:gM m.p.bk t at_ fuel≠0) :
  av prog 7 [.pp 0 g 0 0 b a,.d (aB t),i64 at_,i64 fuel] (m.az g b a T) fun v s =>
   v=AP [i64 0,i64 0,.d (.sl []),bV false,i64 0,i64 (gM m.p.bk t at_ fuel)]∧s=m.rest.az g b a T:=by
 have hM:=cy m.rest b a T hT
 have qu:=fun ext=>x9 (B0 g b a m.rest T hT t at_ fuel ht hI) hT G7 hT G7 rfl rfl rfl ext
 have P7:gM m.rest.p.bk t at_ fuel=gM m.p.bk t at_ fuel:=rfl
 rw[P7]at qu
 generalize gM m.p.bk t at_ fuel=c at *
 unfold aC.az at qu
 simp only[zM,aJ]at qu
 have iI:min m.top m.cO.length=m.top:=by omega
 have q1:(0:Int)≤(m.top:Int):=by omega
 unfold aC.az
 refine aw func7 rfl ntmps7 results7 rfl 3 6917529027641147151 (by simp) (by simp) ?_
 try simp only[zX,simprocAttr,zM,aJ,pt,iI,q1,Xu,W1,WW,Int.sub_self,Int.toNat_zero,Xi,true_or]
 refine aj (qu _) (fun v s' hv=>?_);obtain⟨rfl,rfl⟩:=hv
 try simp only[zX,simprocAttr,zM,aJ,hc,AP]
 first|exact⟨hM,rfl⟩|exact hM
theorem JF {f:FuncId}{g b a:Nat}{m:aC} (h:av prog f [.pp 0 g 0 0 b a] (m.au g b a) fun v s=>v=.tu []∧s=m.kept.az g b a m.jg) (ext:List VL.Obj):av prog f [.pp 0 g 0 0 b a] (m.au g b a++ext) fun v s=>v=.tu []∧s=m.kept.az g b a m.jg++ext:=by
 unfold aC.au at h ⊢
 refine x9 h (iE m) (by unfold aC.text;split <;> rfl) (by unfold aC.jg;split <;> rfl) (by unfold aC.jg;split <;> rfl) rfl rfl rfl ext
theorem GS (m:aC) (p:aA) (found:Bool):∃d0 d1 d2 d3 d4 d5:D,m.res p found=[.d d0,.d d1,.d d2,.d d3,.d d4,.d d5]:=by
 unfold aC.res
 split
 ·exact⟨_,_,_,_,_,_,rfl⟩
 ·split
  ·exact⟨_,_,_,_,_,_,rfl⟩
  ·exact⟨_,_,_,_,_,_,rfl⟩
def lI (n i:Nat):ar:=List.replicate i (-1,-1)++List.replicate (n-i) (0,0)
theorem Ii (n:Nat):(lI n 0).map pV=List.replicate n [V.d (D.sc (.int .i64 0)),V.d (D.sc (.int .i64 0))]:=by
 unfold lI
 simp only[List.replicate_zero,WS,Nat.sub_zero,List.map_replicate]
 rfl
theorem Kw (n i:Nat) (h:i<n):((lI n i).map pV).set i [V.d (D.sc (.int .i64 (-1))),V.d (D.sc (.int .i64 (-1)))]=(lI n (i+1)).map pV:=by
 have:(lI n i).set i (-1,-1)=lI n (i+1):=by
  unfold lI
  rw[List.set_append_right _ _ (by simp),XD,X3,show n-i=(n-(i+1))+1 by omega,List.replicate_succ,Xh,List.replicate_succ',Xx]
  rfl
 rw[← this,List.map_set];rfl
theorem KN (n i:Nat) (h:i<n):((lI n i).map pV)[i]?=some [V.d (D.sc (.int .i64 0)),V.d (D.sc (.int .i64 0))]:=by
 unfold lI
 rw[Xd,Xm (by simp),XD,X3,show n-i=(n-(i+1))+1 by omega,List.replicate_succ]
 rfl
theorem Hg (n:Nat):lI n n=List.replicate n (-1,-1):=by simp [lI]
theorem DE (n i:Nat) (h:i≤n):(lI n i).length=n:=by simp [lI];omega
theorem GI (g b a:Nat) (m:aC) (T:V) (hT:ao 3 T=true) (G7:bF [0,1,2] T=T) (pt:m.top≤m.cO.length) (t:List Int) (at_ fuel:Int) (ht:t.length≤1000000) (hI:∀x∈t,jX x) (hc:gM m.p.bk t at_ fuel=0) (n:Nat) (JV:m.p.ak=n) (hn:n≤1000000)
  {k:Nat}{m2:aC}{p2:aA}{found:Bool} (hx:bh k true (m.vJ t at_ fuel) 0 (kq m at_) true=some (m2,p2,found)) (MI:p2.ak.length≤1000000000) :
  av prog 7 [.pp 0 g 0 0 b a,.d (aB t),i64 at_,i64 fuel] (m.az g b a T) fun v s =>
   v=AP (m2.res p2 found)∧s=(m2.done found).kept.az g b a (m2.done found).jg:=by
 have qu:=fun ext=>x9 (B0 g b a m.rest T hT t at_ fuel (by omega) hI) hT G7 hT G7 rfl rfl rfl ext
 have P7:gM m.rest.p.bk t at_ fuel=0:=hc
 rw[P7]at qu
 unfold aC.az at qu
 simp only[zM,aJ]at qu
 have iI:min m.top m.cO.length=m.top:=by omega
 have q1:(0:Int)≤(m.top:Int):=by omega
 have yT:=fJ b a .root .nil
 simp only[aG.d,aE.d,iD]at yT
 have lf:=fun ext=>bn (zP k g b a (m.vJ t at_ fuel) 0 (kq m at_) true _ hx) rfl rfl rfl ext
 have kM:(m.vJ t at_ fuel).Fr m2:=mr _ _ _ _ _ _ _ hx
 have Mq:=fun ext=>bn (AB g b a m2 p2 found MI) rfl rfl (by obtain⟨_,_,_,_,_,_,h⟩:=GS m2 p2 found;rw[h];rfl) ext
 have x8:=fun ext=>JF (Mu g b a (m2.done found) (by rw[show (m2.done found).t=m2.t from rfl,kM.t];exact ht) (by rw[show (m2.done found).bB=m2.bB from rfl,kM.bB];rfl)) ext
 obtain⟨d0,d1,d2,d3,d4,d5,FT⟩:=GS m2 p2 found
 rw[FT]at Mq ⊢
 have vf:(m2.done found).kept.az g b a (m2.done found).jg=(m2.done found).kept.az g b a (m2.done found).jg:=rfl
 have hM:=cy (m2.done found).kept b a (m2.done found).jg (by unfold aC.jg;split <;> rfl)
 generalize WL:(m2.done found).kept=m4 at *
 generalize Wv:(m2.done found).jg=T4 at *
 generalize Pp:m2.done found=m3 at *
 unfold aC.au at lf
 rw[show (m.vJ t at_ fuel).text=.d (aB t) from rfl]at lf
 unfold aC.au aC.az at Mq x8
 unfold aC.az at lf
 simp only[zM,aJ,kq,JV,Xp,aG.d,aE.d,bH]at lf Mq x8
 have z0:(0:Int)≤(n:Int):=by omega
 have Pz:∀(cE:Nat) (s:List VL.Obj),(List.take n (List.map pV (lI n n))).mapM (fun e=>e.mapM (bN 7 cE s))=some ((List.replicate n ((-1:Int),(-1:Int))).map aT):=by
  intro cE s
  rw[Xv (by rw[W1,DE n n (W4 _)];exact W4 _),sy 6 cE s,Hg]
 unfold aC.az
 refine aw func7 rfl ntmps7 results7 rfl 3 6917529027641147151 (by simp) (by simp) ?_
 try simp only[zX,simprocAttr,zM,aJ,pt,iI,q1,Xu,W1,WW,Int.sub_self,Int.toNat_zero,Xi,true_or]
 refine aj (qu _) (fun v s' hv=>?_);obtain⟨rfl,rfl⟩:=hv
 have NY:m.rest.p.ak=n:=JV
 try simp only[zX,simprocAttr,zM,aJ,NY,z0,Xp]
 refine⟨⟨WW _,by (try simp);omega,by omega⟩,?_⟩
 refine aX (fun q e s=>∃i:Nat,q=n-i∧i≤n∧e 0=.pp 0 g 0 0 b a∧e 2=i64 at_∧e 8=.rf 3 0 0 0∧e 13=.so 4 0 0 n∧e 61=i64 n∧e 62=i64 i∧s=(m.vJ t at_ fuel).az g b a (.d (aB t))++[⟨0,true,3,[[.d (iD 0),.d (iD 0),.fu []]]⟩,⟨0,true,2,(lI n i).map pV⟩])
  ⟨_,_,_,dw.refl,0,rfl,by omega,rfl,rfl,rfl,rfl,rfl,rfl,?_⟩ ?_
 ·rw[Ii]
  unfold aC.az
  rw[show (m.vJ t at_ fuel).p.ak=n from JV]
  rfl
 rintro q e s ⟨i,rfl,hi,h0,h2,h8,fh,Na,Pj,rfl⟩
 unfold aC.az
 rcases Xw i n with aS|lW
 ·have l0:(0:Int)≤(i:Int):=by omega
  have l1:(i:Int)<(n:Int):=by omega
  have hg:=KN n i aS
  have aW:=Kw n i aS
  try simp only[zX,simprocAttr,zM,aJ,h0,h2,h8,fh,Na,Pj,l0,l1,Xp,Xi,hg,aW]
  refine⟨n-(i+1),_,_,by omega,dw.refl,i+1,rfl,aS,?_,?_,?_,?_,?_,?_,rfl⟩ <;> (try simp only[zU,Nat.reduceBEq,Nat.reduceShiftRight,Nat.reduceMod,Nat.reduceEqDiff,reduceIte])
  ·exact h0
  ·exact h2
  ·exact h8
  ·exact fh
  ·exact Na
  ·rw[bU _ (by omega)];rfl
 ·have iQ:i=n:=by omega
  subst iQ
  try simp only[zX,simprocAttr,zM,aJ,h0,h2,h8,fh,Na,Pj,Int.lt_irrefl]
  refine JP ?_
  simp only[WU,WV,MX,Nat.add_zero]
  refine aD yT rfl rfl ?_
  try simp only[zX,simprocAttr,zM,aJ,h0,h2,h8,fh,Na,Pj]
  refine aO [4] (by simp [aM,bf,aR.go,aR,bN,iD,Pz,DE i i (W4 _)]) (aj (lf _) (fun v s' hv=>?_))
  obtain⟨rfl,rfl⟩:=hv
  try simp only[zX,simprocAttr,zM,aJ,h0,h2,h8,fh,Na,Pj]
  refine aj (Mq _) (fun v s' hv=>?_);obtain⟨rfl,rfl⟩:=hv
  try simp only[zX,simprocAttr,zM,aJ,h0,h2,h8,fh,Na,Pj]
  refine aj (x8 _) (fun v s' hv=>?_);obtain⟨rfl,rfl⟩:=hv
  try simp only[zX,simprocAttr,zM,aJ,h0,h2,h8,fh,Na,Pj]
  refine aq mix [] [(0,[5],[]),(1,[5],[]),(2,[5],[]),(3,[5],[]),(4,[5],[]),(5,[5],[]),(6,[5],[]),(7,[5],[]),(8,[3],[3])] (by rfl) ?_
  try simp only[zX,simprocAttr,zM,aJ,h0,h2,h8,fh,Na,Pj,AP]
  exact hM
theorem C9 (g b a:Nat) (m:aC) (hr:m.ready=true) {k:Nat}{m2:aC}{p2:aA}{found:Bool} (hx:bh k true m 0 .zero false=some (m2,p2,found)) (MI:p2.ak.length≤1000000000) :
  av prog 26 [.pp 0 g 0 0 b a] (m.au g b a) fun v s=>v=AP (m2.res p2 found)∧s=(m2.done found).au g b a:=by
 have lf:=fun ext=>bn (zP k g b a m 0 .zero false _ hx) rfl rfl rfl ext
 have Mq:=fun ext=>bn (AB g b a m2 p2 found MI) rfl rfl (by obtain⟨_,_,_,_,_,_,h⟩:=GS m2 p2 found;rw[h];rfl) ext
 obtain⟨d0,d1,d2,d3,d4,d5,FT⟩:=GS m2 p2 found
 rw[FT]at Mq ⊢
 have hM:=an (m2.done found) b a
 generalize Pp:m2.done found=m3 at *
 unfold aC.au aC.az at Mq lf
 simp only[zM,aJ,aA.zero,hr,bH,aG.d]at Mq lf
 unfold aC.au aC.az
 refine aw func26 rfl ntmps26 results26 rfl 3 125 (by simp) (by simp) ?_
 try simp only[zX,simprocAttr,zM,aJ,hr]
 refine aO [] (by simp [aM,bf,aR.go,aR,bN]) (aj (lf _) (fun v s' hv=>?_))
 obtain⟨rfl,rfl⟩:=hv
 try simp only[zX,simprocAttr,zM,aJ]
 refine aj (Mq _) (fun v s' hv=>?_);obtain⟨rfl,rfl⟩:=hv
 try simp only[zX,simprocAttr,zM,aJ]
 refine aq mix [] [(0,[4],[]),(1,[4],[]),(2,[4],[]),(3,[4],[]),(4,[4],[]),(5,[4],[]),(6,[4],[]),(7,[4],[]),(8,[3],[3])] (by rfl) ?_
 try simp only[zX,simprocAttr,zM,aJ,AP]
 first|exact⟨hM,rfl⟩|exact hM
end Go.Proofs.YtmihcpdhcillaaaGreat
