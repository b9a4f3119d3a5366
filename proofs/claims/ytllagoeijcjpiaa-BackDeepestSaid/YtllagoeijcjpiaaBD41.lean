/- A part of the proof (G40). -/
import Derived.Test.YtllagoeijcjpiaaBD40
set_option linter.unusedSimpArgs false
set_option linter.unusedVariables false
set_option maxRecDepth 100000
set_option maxHeartbeats 80000000
namespace Go.Proofs.Ytllagoeijcjpiaa
open Go.VL Go.Proofs.Try
def tX:List V→V
 |[x,y,c,d,e,f]=>.tu [.ag [x,y,c],d,e,f]
 |_=>.un
def aB.rest (m:aB):aB:={ m with ready:=false,top:=0 }
def aB.iG (m:aB) (t:List Int) (at_ fuel:Int):aB:={ m.rest with t:=t,bq:=false,start:=at_,steps:=0,fuel:=fuel,aW:=false }
def df (m:aB) (at_:Int):ao:=⟨at_,List.replicate m.p.ai.toNat (-1,-1),.mk 0 .root 0 0 .nil⟩
theorem x7 {f:FuncId}{g b a:Nat}{cargs:List V}{m m':aB}{r T T':V} (h:az prog f cargs (m.aA g b a T) fun v s=>v=r∧s=m'.aA g b a T') (hT:ar 3 T=true) (Cq:bu [0,1,2] T=T) (Vc:ar 3 T'=true) (Ri:bu [0,1,2] T'=T')
  (ha:cargs.map (bu [0,1,2])=cargs) (rn:ar.go 3 cargs=true) (hr:bu [0,1,2] r=r) (ext:List VL.Obj):az prog f cargs (m.aA g b a T++ext) fun v s=>v=r∧s=m'.aA g b a T'++ext:=by
 have KA:∀(m:aB) (T:V),bu [0,1,2] T=T→(m.aA g b a T).map (ct [0,1,2])=m.aA g b a T:=by
  intro m T hT
  unfold aB.aA
  simp only[VP,VO,List.cons.injEq,and_true]
  refine⟨?_,?_,?_⟩
  ·unfold ct
   simp [bu.go,bu,hT,i64,bV]
  ·unfold ct
   simp only[List.map_map]
   congr 1
   refine Wn fun p _=>?_
   cases p <;> rfl
  ·exact rI [0,1,2] m.ew true 1 m.own iD
 refine lX [0,1,2] h (by decide) (by rfl) ?_ ha.symm rn (ff g b a m _ 3 (VA _) hT) hr ?_
 ·have e:(m.aA g b a T).map (fun o=>some (ct [0,1,2] o))=(m.aA g b a T).map some:=by
   conv=>rhs;rw[← KA m T Cq]
   rw[List.map_map];rfl
  rw[e];rfl
 ·rw[KA m' T' Ri]
  exact⟨rfl,rfl⟩
theorem KV (g b a:Nat) (m:aB) (T:V) (hT:ar 3 T=true) (Cq:bu [0,1,2] T=T) (EP:m.top≤m.dY.length) (t:List Int) (at_ fuel:Int) (ht:t.length≤1000000000) (hI:∀x∈t,iV x) (hc:fQ m.p.bG t at_ fuel≠0) :
  az prog 24 [.pp 0 g 0 0 b a,.d (ay t),i64 at_,i64 fuel] (m.aA g b a T) fun v s =>
   v=tX [i64 0,i64 0,.d (.sl []),bV false,i64 0,i64 (fQ m.p.bG t at_ fuel)]∧s=m.rest.aA g b a T:=by
 have hM:=cB m.rest b a T hT
 have zK:=fun ext=>x7 (Br g b a m.rest T hT t at_ fuel ht hI) hT Cq hT Cq rfl rfl rfl ext
 have PD:fQ m.rest.p.bG t at_ fuel=fQ m.p.bG t at_ fuel:=rfl
 rw[PD]at zK
 generalize fQ m.p.bG t at_ fuel=c at *
 unfold aB.aA at zK
 simp only[zM,aR]at zK
 have m6:min m.top m.dY.length=m.top:=by omega
 have q1:(0:Int)≤(m.top:Int):=by omega
 unfold aB.aA
 refine av func24 rfl ntmps24 results24 rfl 3 6917529027641147151 (by simp) (by simp) ?_
 try simp only[zX,simprocAttr,zM,aR,EP,m6,q1,V3,Vv,Vr,Int.sub_self,Int.toNat_zero,VU,true_or]
 refine aj (zK _) (fun v s' hv=>?_);obtain⟨rfl,rfl⟩:=hv
 try simp only[zX,simprocAttr,zM,aR,hc,tX]
 first|exact⟨hM,rfl⟩|exact hM
theorem IN {f:FuncId}{g b a:Nat}{m:aB} (h:az prog f [.pp 0 g 0 0 b a] (m.aF g b a) fun v s=>v=.tu []∧s=m.kept.aA g b a m.gW) (ext:List VL.Obj):az prog f [.pp 0 g 0 0 b a] (m.aF g b a++ext) fun v s=>v=.tu []∧s=m.kept.aA g b a m.gW++ext:=by
 unfold aB.aF at h ⊢
 refine x7 h (gx m) (by unfold aB.text;split <;> rfl) (by unfold aB.gW;split <;> rfl) (by unfold aB.gW;split <;> rfl) rfl rfl rfl ext
theorem Gn (m:aB) (p:ao) (found:Bool):∃d0 d1 d2 d3 d4 d5:D,m.res p found=[.d d0,.d d1,.d d2,.d d3,.d d4,.d d5]:=by
 unfold aB.res
 split
 ·exact⟨_,_,_,_,_,_,rfl⟩
 ·split
  ·exact⟨_,_,_,_,_,_,rfl⟩
  ·exact⟨_,_,_,_,_,_,rfl⟩
def lM (n i:Nat):aq:=List.replicate i (-1,-1)++List.replicate (n-i) (0,0)
theorem Il (n:Nat):(lM n 0).map py=List.replicate n [V.d (D.sc (.int .i64 0)),V.d (D.sc (.int .i64 0))]:=by
 unfold lM
 simp only[List.replicate_zero,Vx,Nat.sub_zero,List.map_replicate]
 rfl
theorem JP (n i:Nat) (h:i<n):((lM n i).map py).set i [V.d (D.sc (.int .i64 (-1))),V.d (D.sc (.int .i64 (-1)))]=(lM n (i+1)).map py:=by
 have:(lM n i).set i (-1,-1)=lM n (i+1):=by
  unfold lM
  rw[List.set_append_right _ _ (by simp),V7,Wv,show n-i=(n-(i+1))+1 by omega,List.replicate_succ,V5,List.replicate_succ',VY]
  rfl
 rw[← this,List.map_set];rfl
theorem I3 (n i:Nat) (h:i<n):((lM n i).map py)[i]?=some [V.d (D.sc (.int .i64 0)),V.d (D.sc (.int .i64 0))]:=by
 unfold lM
 rw[VB,VF (by simp),V7,Wv,show n-i=(n-(i+1))+1 by omega,List.replicate_succ]
 rfl
theorem HM (n:Nat):lM n n=List.replicate n (-1,-1):=by simp [lM]
theorem Df (n i:Nat) (h:i≤n):(lM n i).length=n:=by simp [lM];omega
theorem A1 (g b a:Nat) (m:aB) (T:V) (hT:ar 3 T=true) (Cq:bu [0,1,2] T=T) (EP:m.top≤m.dY.length) (t:List Int) (at_ fuel:Int) (ht:t.length≤1000000) (hI:∀x∈t,iV x) (hc:fQ m.p.bG t at_ fuel=0) (n:Nat) (Js:m.p.ai=n) (hn:n≤1000000)
  {k:Nat}{m2:aB}{p2:ao}{found:Bool} (hx:aQ k true (m.iG t at_ fuel) 0 (df m at_) true=some (m2,p2,found)) (EX:p2.ai.length≤1000000000) :
  az prog 24 [.pp 0 g 0 0 b a,.d (ay t),i64 at_,i64 fuel] (m.aA g b a T) fun v s =>
   v=tX (m2.res p2 found)∧s=(m2.done found).kept.aA g b a (m2.done found).gW:=by
 have zK:=fun ext=>x7 (Br g b a m.rest T hT t at_ fuel (by omega) hI) hT Cq hT Cq rfl rfl rfl ext
 have PD:fQ m.rest.p.bG t at_ fuel=0:=hc
 rw[PD]at zK
 unfold aB.aA at zK
 simp only[zM,aR]at zK
 have m6:min m.top m.dY.length=m.top:=by omega
 have q1:(0:Int)≤(m.top:Int):=by omega
 have Ea:=fO b a .root .nil
 simp only[aI.d,aG.d,iD]at Ea
 have lP:=fun ext=>br (zv k g b a (m.iG t at_ fuel) 0 (df m at_) true _ hx) rfl rfl rfl ext
 have yl:(m.iG t at_ fuel).Fr m2:=iM _ _ _ _ _ _ _ hx
 have Lz:=fun ext=>br (zq g b a m2 p2 found EX) rfl rfl (by obtain⟨_,_,_,_,_,_,h⟩:=Gn m2 p2 found;rw[h];rfl) ext
 have xk:=fun ext=>IN (Ly g b a (m2.done found) (by rw[show (m2.done found).t=m2.t from rfl,yl.t];exact ht) (by rw[show (m2.done found).bq=m2.bq from rfl,yl.bq];rfl)) ext
 obtain⟨d0,d1,d2,d3,d4,d5,KC⟩:=Gn m2 p2 found
 rw[KC]at Lz ⊢
 have yi:(m2.done found).kept.aA g b a (m2.done found).gW=(m2.done found).kept.aA g b a (m2.done found).gW:=rfl
 have hM:=cB (m2.done found).kept b a (m2.done found).gW (by unfold aB.gW;split <;> rfl)
 generalize Vb:(m2.done found).kept=m4 at *
 generalize U3:(m2.done found).gW=T4 at *
 generalize LJ:m2.done found=m3 at *
 unfold aB.aF at lP
 rw[show (m.iG t at_ fuel).text=.d (ay t) from rfl]at lP
 unfold aB.aF aB.aA at Lz xk
 unfold aB.aA at lP
 simp only[zM,aR,df,Js,VR,aI.d,aG.d,bd]at lP Lz xk
 have z0:(0:Int)≤(n:Int):=by omega
 have OL:∀(cL:Nat) (s:List VL.Obj),(List.take n (List.map py (lM n n))).mapM (fun e=>e.mapM (bQ 7 cL s))=some ((List.replicate n ((-1:Int),(-1:Int))).map aM):=by
  intro cL s
  rw[VZ (by rw[Vv,Df n n (VA _)];exact VA _),ts 6 cL s,HM]
 unfold aB.aA
 refine av func24 rfl ntmps24 results24 rfl 3 6917529027641147151 (by simp) (by simp) ?_
 try simp only[zX,simprocAttr,zM,aR,EP,m6,q1,V3,Vv,Vr,Int.sub_self,Int.toNat_zero,VU,true_or]
 refine aj (zK _) (fun v s' hv=>?_);obtain⟨rfl,rfl⟩:=hv
 have ND:m.rest.p.ai=n:=Js
 try simp only[zX,simprocAttr,zM,aR,ND,z0,VR]
 refine⟨⟨Vr _,by (try simp);omega,by omega⟩,?_⟩
 refine aY (fun q e s=>∃i:Nat,q=n-i∧i≤n∧e 0=.pp 0 g 0 0 b a∧e 2=i64 at_∧e 8=.rf 3 0 0 0∧e 13=.so 4 0 0 n∧e 61=i64 n∧e 62=i64 i∧s=(m.iG t at_ fuel).aA g b a (.d (ay t))++[⟨0,true,3,[[.d (iD 0),.d (iD 0),.fu []]]⟩,⟨0,true,2,(lM n i).map py⟩])
  ⟨_,_,_,dt.refl,0,rfl,by omega,rfl,rfl,rfl,rfl,rfl,rfl,?_⟩ ?_
 ·rw[Il]
  unfold aB.aA
  rw[show (m.iG t at_ fuel).p.ai=n from Js]
  rfl
 rintro q e s ⟨i,rfl,hi,h0,h2,h8,kf,Mt,NW,rfl⟩
 unfold aB.aA
 rcases VX i n with aT|iR
 ·have l0:(0:Int)≤(i:Int):=by omega
  have l1:(i:Int)<(n:Int):=by omega
  have hg:=I3 n i aT
  have aH:=JP n i aT
  try simp only[zX,simprocAttr,zM,aR,h0,h2,h8,kf,Mt,NW,l0,l1,VR,VU,hg,aH]
  refine⟨n-(i+1),_,_,by omega,dt.refl,i+1,rfl,aT,?_,?_,?_,?_,?_,?_,rfl⟩ <;> (try simp only[zU,Nat.reduceBEq,Nat.reduceShiftRight,Nat.reduceMod,Nat.reduceEqDiff,reduceIte])
  ·exact h0
  ·exact h2
  ·exact h8
  ·exact kf
  ·exact Mt
  ·rw[bR _ (by omega)];rfl
 ·have kT:i=n:=by omega
  subst kT
  try simp only[zX,simprocAttr,zM,aR,h0,h2,h8,kf,Mt,NW,Int.lt_irrefl]
  refine Kk ?_
  simp only[VP,VO,Ma,Nat.add_zero]
  refine aE Ea rfl rfl ?_
  try simp only[zX,simprocAttr,zM,aR,h0,h2,h8,kf,Mt,NW]
  refine aP [4] (by simp [bk,bA,aZ.go,aZ,bQ,iD,OL,Df i i (VA _)]) (aj (lP _) (fun v s' hv=>?_))
  obtain⟨rfl,rfl⟩:=hv
  try simp only[zX,simprocAttr,zM,aR,h0,h2,h8,kf,Mt,NW]
  refine aj (Lz _) (fun v s' hv=>?_);obtain⟨rfl,rfl⟩:=hv
  try simp only[zX,simprocAttr,zM,aR,h0,h2,h8,kf,Mt,NW]
  refine aj (xk _) (fun v s' hv=>?_);obtain⟨rfl,rfl⟩:=hv
  try simp only[zX,simprocAttr,zM,aR,h0,h2,h8,kf,Mt,NW]
  refine an mix [] [(0,[5],[]),(1,[5],[]),(2,[5],[]),(3,[5],[]),(4,[5],[]),(5,[5],[]),(6,[5],[]),(7,[5],[]),(8,[3],[3])] (by rfl) ?_
  try simp only[zX,simprocAttr,zM,aR,h0,h2,h8,kf,Mt,NW,tX]
  exact hM
theorem H5 {P:Program}{f:FuncId}{args:List V}{s:List VL.Obj}{o:VL.Obj}{pre post:List V} (k:Nat) {K:V→List VL.Obj→Prop} (ho:s[k]?=some o) (kV:o.aL=[pre++.fu []::post]) (gH:pre.length+1+post.length=o.sz)
  (h:az P f args (s.set k { o with aL:=[pre++.d (.sl [])::post] }) K):az P f args s K:=by
 refine⟨h.1,fun σ w vals hI hl hv=>?_⟩
 have hr:=EC hI (els':=[pre++.d (.sl [])::post]) ho (by intro e he;rw[List.mem_singleton.1 he];simp;omega) (by rw[kV];rfl) (by
  intro es he
  rw[kV]at he
  have hm:(pre++.fu []::post)∈iP es:=by rw[← he];exact List.mem_singleton.2 rfl
  unfold iP at hm
  obtain⟨x,_,hx⟩:=List.mem_map.1 hm
  have hf:V.fu []∈[V.d (.sc x.key),V.d (.sc x.val)]:=by rw[hx];simp
  simp at hf) (fun i j x' hx=>by
  rw[kV]
  cases i with
  |succ i=>simp at hx
  |zero =>
   simp only[VQ,Wd]at hx ⊢
   by_cases hj:j=pre.length
   ·subst hj
    rw[VF (VA _),Wv]at hx ⊢
    simp only[VQ,Option.some.injEq]at hx ⊢
    subst hx
    refine⟨_,rfl,fun u hu=>?_⟩
    cases hu with|fu hx=>?_
    exact .d hx
   ·refine⟨x',?_,fun u hu=>hu⟩
    rcases VX j pre.length with aT|iR
    ·rw[VH aT]at hx ⊢;exact hx
    ·rw[VF iR]at hx ⊢
     cases hm:j-pre.length with
     |zero=>omega
     |succ m=>rw[hm]at hx;simpa using hx)
 exact(h.2 _ w vals hr.2 (by simpa using hl) (fun i x hx=>(hv i x hx).bM hr.1)).mono fun _ _ ⟨u,v,σ',s',a,b,c,d,e⟩=>⟨u,v,σ',s',a,hr.1.trans b,c,d,e⟩
theorem Jq {P:Program}{f:FuncId}{args:List V}{g b a:Nat}{m:aB}{ext:List VL.Obj}{K:V→List VL.Obj→Prop} (h:az P f args (m.aA g b a (.d (.sl []))++ext) K):az P f args (m.aA g b a (.fu [])++ext) K:=by
 refine H5 (o:=⟨g,true,19,[[.d (iD m.p.re.op),.d (.sl (m.p.re.set.map aM)),.d (.sl (m.p.re.kids.map Re.cells)),.d (iD m.p.re.mn),.d (iD m.p.re.mx),.d (iD m.p.re.mode),.d (iD m.p.re.n),.d (bD m.p.re.neg),i64 m.p.ai,bV m.p.bG,.fu [],.so 2 m.ew 0 m.own.length,.so 1 m.gen 0 m.top,i64 m.aC,i64 m.start,i64 m.steps,i64 m.fuel,bV m.aW,bV m.ready]]⟩)
  (pre:=[.d (iD m.p.re.op),.d (.sl (m.p.re.set.map aM)),.d (.sl (m.p.re.kids.map Re.cells)),.d (iD m.p.re.mn),.d (iD m.p.re.mx),.d (iD m.p.re.mode),.d (iD m.p.re.n),.d (bD m.p.re.neg),i64 m.p.ai,bV m.p.bG])
  (post:=[.so 2 m.ew 0 m.own.length,.so 1 m.gen 0 m.top,i64 m.aC,i64 m.start,i64 m.steps,i64 m.fuel,bV m.aW,bV m.ready]) 0 rfl rfl rfl ?_
 exact h
theorem sB (g b a:Nat) (m:aB) (hr:m.ready=true) {k:Nat}{m2:aB}{p2:ao}{found:Bool} (hx:aQ k true m 0 .zero false=some (m2,p2,found)) (EX:p2.ai.length≤1000000000) :
  az prog 26 [.pp 0 g 0 0 b a] (m.aF g b a) fun v s=>v=tX (m2.res p2 found)∧s=(m2.done found).aF g b a:=by
 have lP:=fun ext=>br (zv k g b a m 0 .zero false _ hx) rfl rfl rfl ext
 have Lz:=fun ext=>br (zq g b a m2 p2 found EX) rfl rfl (by obtain⟨_,_,_,_,_,_,h⟩:=Gn m2 p2 found;rw[h];rfl) ext
 obtain⟨d0,d1,d2,d3,d4,d5,KC⟩:=Gn m2 p2 found
 rw[KC]at Lz ⊢
 have hM:=ak (m2.done found) b a
 generalize LJ:m2.done found=m3 at *
 unfold aB.aF aB.aA at Lz lP
 simp only[zM,aR,ao.zero,hr,bd,aI.d]at Lz lP
 unfold aB.aF aB.aA
 refine av func26 rfl ntmps26 results26 rfl 3 125 (by simp) (by simp) ?_
 try simp only[zX,simprocAttr,zM,aR,hr]
 refine aP [] (by simp [bk,bA,aZ.go,aZ,bQ]) (aj (lP _) (fun v s' hv=>?_))
 obtain⟨rfl,rfl⟩:=hv
 try simp only[zX,simprocAttr,zM,aR]
 refine aj (Lz _) (fun v s' hv=>?_);obtain⟨rfl,rfl⟩:=hv
 try simp only[zX,simprocAttr,zM,aR]
 refine an mix [] [(0,[4],[]),(1,[4],[]),(2,[4],[]),(3,[4],[]),(4,[4],[]),(5,[4],[]),(6,[4],[]),(7,[4],[]),(8,[3],[3])] (by rfl) ?_
 try simp only[zX,simprocAttr,zM,aR,tX]
 first|exact⟨hM,rfl⟩|exact hM
end Go.Proofs.Ytllagoeijcjpiaa
