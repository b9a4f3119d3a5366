/- A part of the proof (G19 F51 F52 F61 G20 G21 G22). -/
import Derived.Test.YtfmdmlfhigocaaaOF14
import Derived.Test.YtfmdmlfhigocaaaOF25
import Derived.Test.YtfmdmlfhigocaaaOF27
set_option linter.unusedSimpArgs false
set_option linter.unusedVariables false
set_option maxRecDepth 100000
set_option maxHeartbeats 80000000
namespace Go.Proofs.Ytfmdmlfhigocaaa
open Go.VL Go.Proofs.Try
def Cn (at_:Int) (x:Int×aE):List D:=[iD at_,iD x.1,cy x.2]
def pD (p:jl):aE:=List.replicate p.ai.toNat (-1,-1)
def Nj (at_:Int) (x:bq):V:=if x.empty=true then .tu [.d (.sl []),i64 0,i64 11] else .tu [.d (.sl ((x.ends.zip x.ai).map (Cn at_))),i64 x.steps,i64 0]
def Sc (e:Int):V:=.tu [.d (.sl []),i64 0,i64 e]
theorem Nn (p:jl) (t:List Int) (at_ most fuel:Int) (hf:p.re.dG=true) (hs:p.re.size<=1000000000) (ht:t.length<=1000000000) (hv:gU p t fuel≠0) :
  ba prog 26 [bL p,.d (ao t),i64 at_,i64 most,i64 fuel] (Sc (gU p t fuel)):=by
 have h1:=vS p t fuel hf hs ht
 cases p with
 |mk re ai aU =>
 simp only[bL,Re.ae re,List.map_cons,List.map_nil,List.cons_append,List.nil_append,i64,iD,bD,bV]at h1
 generalize gU ⟨re,ai,aU⟩ t fuel=v at *
 refine an func26 rfl ntmps26 results26 rfl 0 130111 (by simp) (by simp) ?_
 simp only[zX,simprocAttr,i64,bL,Re.ae re,bV,iD,bD]
 refine al h1 (by simp [ah,ah.go,aj,i64,bV,bm]) (by simp [ah,ah.go,aj,i64,bV,bm]) ?_
 simp only[zX,simprocAttr,i64,bL,bV,iD,bD,hv]
 rfl
theorem IY (p:jl) (t:List Int) (at_ most fuel:Int) (hf:p.re.dG=true) (hs:p.re.size<=1000000000) (ht:t.length<=1000000000) (hv:gU p t fuel=0) (ha:at_<0\/t.length<at_) :
  ba prog 26 [bL p,.d (ao t),i64 at_,i64 most,i64 fuel] (Sc 5):=by
 have h1:=vS p t fuel hf hs ht
 rw[hv]at h1
 cases p with
 |mk re ai aU =>
 simp only[bL,Re.ae re,List.map_cons,List.map_nil,List.cons_append,List.nil_append,i64,iD,bD,bV]at h1
 refine an func26 rfl ntmps26 results26 rfl 0 130111 (by simp) (by simp) ?_
 simp only[zX,simprocAttr,i64,bL,Re.ae re,bV,iD,bD]
 refine al h1 (by simp [ah,ah.go,aj,i64,bV,bm]) (by simp [ah,ah.go,aj,i64,bV,bm]) ?_
 simp only[zX,simprocAttr,i64,bL,bV,iD,bD]
 by_cases c1:at_<0
 ·simp only[zX,simprocAttr,i64,bL,bV,iD,bD,c1]
  rfl
 ·have c2:(t.length:Int)<at_:=ha.resolve_left c1
  simp only[zX,simprocAttr,i64,bL,bV,iD,bD,c1,c2,ao,gt_iff_lt,List.length_map]
  rfl
def Uy (re:Re) (ai:Int) (aU:Bool) (t:List Int) (most fuel xs:Int) (fH:List Int) (nS:List aE):List VL.Obj :=
 [⟨0,true,10,[[.d (.sc (.int .i64 re.op)),.d (.sl (re.set.map aV)),.d (.sl (re.kids.map Re.cells)),.d (.sc (.int .i64 re.mn)),.d (.sc (.int .i64 re.mx)),.d (.sc (.int .i64 re.mode)),.d (.sc (.int .i64 re.n)),.d (.sc (.bool re.neg)),.d (.sc (.int .i64 ai)),.d (.sc (.bool aU))]]⟩,
  ⟨0,true,7,[[.d (ao t),.d (.sc (.int .i64 most)),.d (.sc (.int .i64 fuel)),.d (.sc (.int .i64 xs)),.d (.sc (.bool false)),.so 3 fH.length 0 fH.length,.so 4 fH.length 0 nS.length]]⟩,
  ⟨1,false,12,[[.d (.sc (.int .i64 0)),.d (.sc (.int .i64 re.op)),.d (.sl (re.set.map aV)),.d (.sl (re.kids.map Re.cells)),.d (.sc (.int .i64 re.mn)),.d (.sc (.int .i64 re.mx)),.d (.sc (.int .i64 re.mode)),.d (.sc (.int .i64 re.n)),.d (.sc (.bool re.neg)),.d (.sc (.int .i64 0)),.d (.sc (.int .i64 0)),.d (.sc (.pointer none))]]⟩,
  ⟨fH.length,true,1,fH.map fun x=>[.d (.sc (.int .i64 x))]⟩,⟨fH.length,true,1,nS.map fun c=>[.d (cy c)]⟩]
theorem NG (p:jl) (t:List Int) (at_ most fuel:Int) (hf:p.re.dG=true) (hs:p.re.size<=1000000000) (ht:t.length<=1000000) (hc:p.ai<=1000000) (hv:gU p t fuel=0) (a0:0<=at_) (a1:at_<=t.length)
  {n:Nat}{b:Bool}{x:bq} (hx:fG t fuel n most (.run (.mk 0 p.re 0 0 .nil) at_ (pD p)) ⟨0,false,[],[]⟩=some (b,x)) (hl:x.ends.length<=2000000000000) (WT:x.ai.length=x.ends.length) :
  ba prog 26 [bL p,.d (ao t),i64 at_,i64 most,i64 fuel] (Nj at_ x):=by
 have h1:=vS p t fuel hf hs (by omega)
 have hb:=No p.ai hc
 have G0:Goal.nil.d=.sc (.pointer none):=rfl
 rw[hv]at h1
 have dI:=HV (F:=fuel) ht n 0 most _ _ _ _ hx
 unfold bF cW ey dL at dI
 unfold pD at dI
 cases p with
 |mk re ai aU =>
 simp only[Goal.bN,G0,i64,bV,iD,bD]at dI
 simp only[i64]at hb
 simp only[bL,Re.ae re,List.map_cons,List.map_nil,List.cons_append,List.nil_append,i64,iD,bD,bV]at h1
 clear hx hv
 have c1:¬at_<0:=by omega
 have c2:¬(t.length:Int)<at_:=by omega
 refine an func26 rfl ntmps26 results26 rfl 0 130111 (by simp) (by simp) ?_
 simp only[zX,simprocAttr,i64,bL,Re.ae re,bV,iD,bD]
 refine al h1 (by simp [ah,ah.go,aj,i64,bV,bm]) (by simp [ah,ah.go,aj,i64,bV,bm]) ?_
 simp only[zX,simprocAttr,i64,bL,bV,iD,bD,c1,c2,ao,gt_iff_lt,List.length_map]
 refine aT bZ.bk ?_
 refine ar mix [9] [(4,[2],[2])] (by rfl) ?_
 simp only[zX,simprocAttr,i64,bV,hole]
 refine fg hb rfl rfl ?_
 simp only[zX,simprocAttr,i64,bV,iD,bD]
 refine eh (r:=.d (.sc (.bool b))) (s1:=[⟨0,true,10,[[.d (.sc (.int .i64 re.op)),.d (.sl (re.set.map aV)),.d (.sl (re.kids.map Re.cells)),.d (.sc (.int .i64 re.mn)),.d (.sc (.int .i64 re.mx)),.d (.sc (.int .i64 re.mode)),.d (.sc (.int .i64 re.n)),.d (.sc (.bool re.neg)),.d (.sc (.int .i64 ai)),.d (.sc (.bool aU))]]⟩,
  ⟨0,true,7,[[.d (ao t),.d (.sc (.int .i64 most)),.d (.sc (.int .i64 fuel)),.d (.sc (.int .i64 x.steps)),.d (.sc (.bool x.empty)),.so 3 x.ends.length 0 x.ends.length,.so 4 x.ends.length 0 x.ai.length]]⟩,
  ⟨1,false,12,[[.d (.sc (.int .i64 0)),.d (.sc (.int .i64 re.op)),.d (.sl (re.set.map aV)),.d (.sl (re.kids.map Re.cells)),.d (.sc (.int .i64 re.mn)),.d (.sc (.int .i64 re.mx)),.d (.sc (.int .i64 re.mode)),.d (.sc (.int .i64 re.n)),.d (.sc (.bool re.neg)),.d (.sc (.int .i64 0)),.d (.sc (.int .i64 0)),.d (.sc (.pointer none))]]⟩,
  ⟨x.ends.length,true,1,x.ends.map fun x=>[.d (.sc (.int .i64 x))]⟩,⟨x.ends.length,true,1,x.ai.map fun c=>[.d (cy c)]⟩]) ?_ ?_
 ·refine bA (cargs:=[.rf 1 0 0 0,.d (.el [.sc (.int .i64 0),.sc (.int .i64 re.op),.sl (re.set.map aV),.sl (re.kids.map Re.cells),.sc (.int .i64 re.mn),.sc (.int .i64 re.mx),.sc (.int .i64 re.mode),.sc (.int .i64 re.n),.sc (.bool re.neg),.sc (.int .i64 0),.sc (.int .i64 0),.sc (.pointer none)]),.d (.sc (.int .i64 at_)),.d (cy (List.replicate ai.toNat (-1,-1)))]) [2] (by simp [ca,bS,bh.go,bh,cA]) ?_
  simp only[ca,bS,List.getElem?_cons_zero,List.getElem?_cons_succ,List.set_cons_succ,List.set_cons_zero]
  refine fM (pre:=[.d (ao t),.d (.sc (.int .i64 most)),.d (.sc (.int .i64 fuel)),.d (.sc (.int .i64 0)),.d (.sc (.bool false))]) (post:=[.fu []]) 1 1 rfl rfl rfl ?_
  simp only[List.set_cons_succ,List.set_cons_zero,List.cons_append,List.nil_append,List.length_cons,List.length_nil,Nat.reduceAdd]
  refine fM (pre:=[.d (ao t),.d (.sc (.int .i64 most)),.d (.sc (.int .i64 fuel)),.d (.sc (.int .i64 0)),.d (.sc (.bool false)),.so 3 0 0 0]) (post:=[]) 1 1 rfl rfl rfl ?_
  simp only[List.set_cons_succ,List.set_cons_zero,List.cons_append,List.nil_append,List.length_cons,List.length_nil,Nat.reduceAdd]
  refine dk [1,3,4] dI (by decide) rfl rfl rfl rfl ?_ rfl ?_
  ·rfl
  simp only[List.map_cons,List.map_nil,Bz,aH,List.set_cons_zero,List.set_cons_succ,aP,aJ,aJ.go,List.getD_cons_zero,List.getD_cons_succ,List.map_map,and_self,true_and]
  rfl
 ·clear dI
  obtain⟨xs,xe,fH,nS⟩:=x
  simp only at hl WT
  cases xe with
  |true =>
   simp only[zX,simprocAttr,i64,bV,iD,bD,Nj]
  |false =>
   simp only[CC,zK,zL,simprocAttr,nF,i64,bV,iD,bD,Nj,Bool.false_eq_true,if_false]
   refine ay (fun n e s=>∃i:Nat,n=fH.length-i/\i<=fH.length/\e 2=i64 at_/\e 14=.rf 1 0 0 0/\e 16=i64 i/\Acc (Uy re ai aU t most fuel xs fH nS) 3 (e 15) s (((fH.zip nS).take i).map (Cn at_)))
    ⟨_,_,_,bI.refl,0,rfl,by omega,rfl,rfl,rfl,.inl ⟨rfl,rfl⟩⟩ ?_
   rintro n e s ⟨i,rfl,hi,h2,fQ,jM,mj⟩
   have Ol:=mj.get (id:=1) rfl
   have T5:=mj.get (id:=3) rfl
   have U1:=mj.get (id:=4) rfl
   have Xf:(0:Int)<=i:=by omega
   rcases Nat.lt_or_ge i fH.length with az|ib
   ·obtain⟨y,hy⟩:∃y,fH[i]?=some y:=⟨_,List.getElem?_eq_getElem az⟩
    obtain⟨z,hz⟩:∃z,nS[i]?=some z:=⟨_,List.getElem?_eq_getElem (by omega)⟩
    have Xt:(fH.zip nS)[i]?=some (y,z):=by rw[List.getElem?_zip_eq_some];exact⟨hy,hz⟩
    have aK:(i:Int)<fH.length:=by omega
    have UW:i<nS.length:=by omega
    simp only[CC,zK,zL,simprocAttr,nF,i64,iD,bD,bV,h2,fQ,jM,Ol,T5,U1,aK,az]
    refine ar mix [18] [] (by rfl) ?_
    simp only[CC,zK,zL,simprocAttr,nF,i64,iD,bD,bV,h2,fQ,jM,Ol,T5,U1,aK,az,UW,hy,hz,Nat.zero_add]
    refine mj.append PE rfl (by decide) (by decide) (by intro y hy;obtain⟨z,_,rfl⟩:=List.mem_map.1 hy;rfl) (by simp) (by simp) (by simp only[List.length_map,List.length_take,List.length_cons,List.length_nil];omega) (fun v' s' CY=>?_)
    simp only[CC,zK,zL,simprocAttr,nF,i64,iD,bD,bV,h2,fQ,jM]
    refine⟨fH.length-(i+1),_,_,by omega,bI.refl,i+1,rfl,az,?_,?_,?_,?_⟩ <;> (try simp only[zU,Nat.reduceBEq,Nat.reduceShiftRight,Nat.reduceMod,Nat.reduceEqDiff,reduceIte])
    ·exact h2
    ·exact fQ
    ·rw[br _ (by omega)];rfl
    ·rw[bt Xt];simpa [Cn,iD]using CY
   ·have eQ:i=fH.length:=by omega
    subst eQ
    have aK:¬(fH.length:Int)<fH.length:=by omega
    have P9:(fH.zip nS).length=fH.length:=by simp [WT]
    have GO:(fH.zip nS).take fH.length=fH.zip nS:=by rw[<- P9,List.take_length]
    rw[GO]at mj
    simp only[CC,zK,zL,simprocAttr,nF,i64,iD,bD,bV,h2,fQ,jM,Ol,T5,U1,aK]
    refine ar mix [] [] (by rfl) ?_
    simp only[CC,zK,zL,simprocAttr,nF,i64,iD,bD,bV,h2,fQ,jM,Ol]
    rw[mj.RB (Nat.zero_le _)]
    rfl
open Classical in
noncomputable def Uu (t:List Int) (F most:Int) (task:Task) (st:bq):Bool×bq:=if h:∃n r,fG t F n most task st=some r then (Classical.choose_spec h).choose else (false,st)
theorem Lk {t:List Int}{F most:Int}{task:Task}{st:bq}{n:Nat}{r:Bool×bq} (h:fG t F n most task st=some r):Uu t F most task st=r:=by
 unfold Uu
 rw[dif_pos ⟨n,r,h⟩]
 exact M7 (Classical.choose_spec (Classical.choose_spec (⟨n,r,h⟩:∃n r,fG t F n most task st=some r))) h
theorem CF {re:Re}{ai top:Int} (h:bG re ai top=true) (hk:re.kids.length<=1000000000):ij re=true:=by
 obtain⟨h1,h2,h3,h4,h5⟩:=gL.1 h
 have eO:re.set.length<=64:=by
  split at h2
  ·simp only[fW,Bool.and_eq_true,decide_eq_true_eq]at h2
   exact h2.1
  ·omega
 refine decide_eq_true ⟨fun ho hn=>?_,fun ho=>?_,by omega,hk⟩
 ·have:=h1.2.2.1
  rw[hn]at this
  simp only[List.length_nil,Int.natCast_zero]at this
  rcases ho with o|o|o|o|o <;> rw[o]at this <;> simp [cj]at this
 ·have:=h1.2.2.1
  rw[ho]at this
  simp [cj]at this
  omega
theorem Ed {ai top:Int} (re:Re) (h:re.whole ai top=true) (hs:re.size<=1000000):re.every ij=true:=by
 revert h hs
 refine Re.ind (Q:=fun re=>re.whole ai top=true->re.size<=1000000->re.every ij=true) (fun re ih h hs=>?_) re
 obtain⟨a1,a2⟩:=(Re.aS re).1 h
 have:=Re.sw re.kids
 have:=Re.size_eq re
 exact(Re.aS re).2 ⟨CF a1 (by omega),fun k hk=>ih k hk (a2 k hk) (by have:=Re.iv hk;omega)⟩
noncomputable def iG (p:jl) (t:List Int) (at_ most fuel:Int):Bool×bq:=Uu t fuel most (.run (.mk 0 p.re 0 0 .nil) at_ (pD p)) ⟨0,false,[],[]⟩
theorem xb {p:jl}{t:List Int}{fuel:Int} (h:gU p t fuel=0):dQ p=0/\t.length<=65536/\t.all (eH p.aU)=true/\0<=fuel/\fuel<=1099511627776:=by
 unfold gU at h
 split at h
 ·omega
 ·split at h
  ·omega
  ·split at h
   ·omega
   ·split at h
    ·omega
    ·refine⟨by omega,by omega,by simp_all,by omega,by omega⟩
theorem gx {p:jl} (h:dQ p=0):p.re.size<=256/\p.re.depth<=24/\0<=p.ai/\p.ai<=9/\p.re.whole p.ai (fB p.aU)=true:=by
 unfold dQ at h
 split at h
 ·omega
 ·split at h
  ·omega
  ·rename_i h1 h2
   refine⟨by omega,by omega,by omega,by omega,?_⟩
   cases hw:p.re.whole p.ai (fB p.aU) with
   |true=>rfl
   |false=>exact absurd (.inr (.inr hw)) h2
theorem wu {p:jl}{t:List Int}{at_ most fuel:Int} (hv:gU p t fuel=0) (a0:0<=at_) (a1:at_<=t.length) :
  ∃n,fG t fuel n most (.run (.mk 0 p.re 0 0 .nil) at_ (pD p)) ⟨0,false,[],[]⟩=some (iG p t at_ most fuel)/\dx t fuel 0 at_ (pD p).length ⟨0,false,[],[]⟩ (iG p t at_ most fuel).1 (iG p t at_ most fuel).2:=by
 obtain⟨h1,h2,h3,h4,h5⟩:=xb hv
 obtain⟨k1,k2,k3,k4,k5⟩:=gx h1
 have iJ:(pD p).length<=9:=by unfold pD;rw[List.length_replicate];omega
 obtain⟨n,b,s',e1,e2,_⟩:=LJ (t:=t) (F:=fuel) (by omega) _ _ most (.run (.mk 0 p.re 0 0 .nil) at_ (pD p)) ⟨0,false,[],[]⟩ (Nat.le_refl _) (Nat.le_refl _)
  ⟨by omega,Ed _ k5 (by omega),by intro h;omega,by intro h;omega,by intro h;omega,by intro h;omega,trivial⟩
  ⟨a0,a1,⟨by show (pD p).length<=_;omega,fun q hq=>.inl (List.eq_of_mem_replicate hq)⟩,rfl,Int.le_refl _,h4,by simp [Task.fJ,dF],rfl⟩
 have hx:iG p t at_ most fuel=(b,s'):=Lk e1
 rw[hx]
 exact⟨n,e1,e2⟩
noncomputable def sA (p:jl) (t:List Int) (at_ most fuel:Int):Int:=if gU p t fuel≠0 then gU p t fuel else if at_<0\/(t.length:Int)<at_ then 5 else if (iG p t at_ most fuel).2.empty=true then 11 else 0
noncomputable def allM (p:jl) (t:List Int) (at_ most fuel:Int):List (Int×aE):=if sA p t at_ most fuel=0 then (iG p t at_ most fuel).2.ends.zip (iG p t at_ most fuel).2.ai else []
noncomputable def MT (p:jl) (t:List Int) (at_ most fuel:Int):Int:=if sA p t at_ most fuel=0 then (iG p t at_ most fuel).2.steps else 0
theorem I3 (p:jl) (t:List Int) (at_ most fuel:Int) (hf:p.re.dG=true) (hs:p.re.size<=1000000000) (ht:t.length<=1000000000) :
  ba prog 26 [bL p,.d (ao t),i64 at_,i64 most,i64 fuel] (.tu [.d (.sl ((allM p t at_ most fuel).map (Cn at_))),i64 (MT p t at_ most fuel),i64 (sA p t at_ most fuel)]):=by
 by_cases hv:gU p t fuel=0
 case neg =>
  have he:sA p t at_ most fuel=gU p t fuel:=by rw[sA,if_pos hv]
  rw[allM,MT,he,if_neg hv,if_neg hv]
  exact Nn p t at_ most fuel hf hs ht hv
 by_cases ha:at_<0\/(t.length:Int)<at_
 ·have he:sA p t at_ most fuel=5:=by rw[sA,if_neg (by omega),if_pos ha]
  rw[allM,MT,he,if_neg (by omega),if_neg (by omega)]
  exact IY p t at_ most fuel hf hs ht hv ha
 ·obtain⟨n,e1,e2⟩:=wu (at_:=at_) (most:=most) hv (by omega) (by omega)
  obtain⟨h1,h2,_,h4,h5⟩:=xb hv
  obtain⟨_,_,_,k4,_⟩:=gx h1
  have he:sA p t at_ most fuel=if (iG p t at_ most fuel).2.empty=true then 11 else 0:=by rw[sA,if_neg (by omega),if_neg ha]
  rw[allM,MT,he]
  generalize iG p t at_ most fuel=X at *
  obtain⟨b,x⟩:=X
  simp only at e2 ⊢
  obtain⟨new,sZ,m1,m2,m3,m4,_⟩:=e2.more
  have gX:=e2.s1
  simp only[List.nil_append]at m1 m2
  have hlen:x.ends.length<=2000000000000:=by rw[m1];simp only at m4;omega
  have r:=NG p t at_ most fuel hf hs (by omega) (by omega) hv (by omega) (by omega) e1 hlen (by rw[m1,m2,m3])
  unfold Nj at r
  split at r
  ·rename_i hh
   rw[if_pos hh,if_neg (by decide),if_neg (by decide)];exact r
  ·rename_i hh
   rw[if_neg hh,if_pos rfl,if_pos rfl];exact r
end Go.Proofs.Ytfmdmlfhigocaaa
namespace Go.Proofs.Ytfmdmlfhigocaaa
open Go.VL Go.Proofs.Try
end Go.Proofs.Ytfmdmlfhigocaaa
namespace Go.Proofs.Ytfmdmlfhigocaaa
open Go.VL Go.Proofs.Try
structure lQ where
 s:Int
 e:Int
 c:aE
deriving DecidableEq
def lQ.v (m:lQ):V:=.ag [i64 m.s,i64 m.e,.d (cy m.c)]
theorem RQ (a b:lQ) (hc:a.c.length<=1000000000):ba prog 14 [a.v,b.v] (bV (decide (a=b))):=by
 obtain⟨s1,e1,c1⟩:=a
 obtain⟨s2,e2,c2⟩:=b
 simp only at hc
 refine an func14 rfl ntmps14 results14 rfl 0 63 (by simp) (by simp) ?_
 by_cases q1:s1=s2
 case neg =>
  simp only[zX,simprocAttr,-Int.reduceNatCast',i64,iD,cy,lQ.v,q1]
  rw[decide_eq_false (fun h=>q1 (by simp only[lQ.mk.injEq]at h;exact h.1))];rfl
 by_cases q2:e1=e2
 case neg =>
  simp only[zX,simprocAttr,-Int.reduceNatCast',i64,iD,cy,lQ.v,q1,q2]
  rw[decide_eq_false (fun h=>q2 (by simp only[lQ.mk.injEq]at h;exact h.2.1))];rfl
 by_cases q3:(c1.length:Int)=c2.length
 case neg =>
  simp only[zX,simprocAttr,-Int.reduceNatCast',i64,iD,cy,lQ.v,q1,q2,q3,List.length_map]
  rw[decide_eq_false (fun h=>q3 (by simp only[lQ.mk.injEq]at h;rw[h.2.2]))];rfl
 subst q1 q2
 simp only[zX,simprocAttr,-Int.reduceNatCast',i64,iD,cy,lQ.v,q3,List.length_map]
 refine ay (fun n e s=>∃i:Nat,n=c1.length-i/\i<=c1.length/\e 2=.rf 0 0 0 0/\e 3=.rf 1 0 0 0/\e 5=i64 i/\s=[⟨0,true,3,[[i64 s1,i64 e1,.d (cy c1)]]⟩,⟨0,true,3,[[i64 s1,i64 e1,.d (cy c2)]]⟩]/\c1.take i=c2.take i)
  ⟨_,_,_,bI.refl,0,rfl,by omega,rfl,rfl,rfl,rfl,rfl⟩ ?_
 rintro n e s ⟨i,rfl,hi,h2,h3,h5,rfl,GO⟩
 rcases Nat.lt_or_ge i c1.length with az|ib
 ·have KR:i<c2.length:=by omega
  have aK:(i:Int)<c2.length:=by omega
  obtain⟨x,hx⟩:∃x,c1[i]?=some x:=⟨_,List.getElem?_eq_getElem az⟩
  obtain⟨y,hy⟩:∃y,c2[i]?=some y:=⟨_,List.getElem?_eq_getElem KR⟩
  simp only[zX,simprocAttr,-Int.reduceNatCast',i64,cy,h2,h3,h5,az,KR,q3,aK,List.length_map]
  refine ar mix [] [] (by rfl) ?_
  simp only[zX,simprocAttr,-Int.reduceNatCast',i64,cy,h2,h3,h5,az,KR,hx,hy,iD,aV,q3,aK,List.length_map]
  by_cases Pq:x=y
  ·have hb:(x.1 == y.1&&x.2 == y.2)=true:=by simp [Pq]
   simp only[zX,simprocAttr,-Int.reduceNatCast',i64,cy,h2,h3,h5,hb]
   refine⟨c1.length-(i+1),_,_,by omega,bI.refl,i+1,rfl,az,?_,?_,?_,rfl,by rw[bt hx,bt hy,GO,Pq]⟩ <;> (try simp only[zU,Nat.reduceBEq,Nat.reduceShiftRight,Nat.reduceMod,Nat.reduceEqDiff,reduceIte])
   ·exact h2
   ·exact h3
   ·rw[br _ (by omega)];rfl
  ·have hb:(x.1 == y.1&&x.2 == y.2)=false:=by
    rw[Bool.eq_false_iff];intro h;exact Pq (by simp at h;exact Prod.ext h.1 h.2)
   simp only[zX,simprocAttr,-Int.reduceNatCast',i64,cy,h2,h3,h5,hb]
   rw[decide_eq_false (fun h=>by simp only[lQ.mk.injEq,true_and]at h;subst h;rw[hx]at hy;simp only[Option.some.injEq]at hy;exact Pq hy)]
   all_goals first|exact⟨rfl,rfl⟩|exact⟨rfl,trivial⟩|rfl|trivial|(rw[aj];rfl)
 ·have eQ:i=c1.length:=by omega
  subst eQ
  have Sg:c1=c2:=by
   rw[List.take_length,List.take_of_length_le (by omega)]at GO;exact GO
  simp only[zX,simprocAttr,-Int.reduceNatCast',i64,cy,h2,h3,h5,Nat.lt_irrefl,List.length_map]
  rw[decide_eq_true (by rw[Sg])]
  all_goals first|exact⟨rfl,rfl⟩|exact⟨rfl,trivial⟩|rfl|trivial|(rw[aj];rfl)
def mf:List Int:=[97,97,97,98,98,99,97,98,10,32,65,200]
def gH (l:List Int) (most:Int):List Int:=(List.range (min l.length most.toNat)).map fun i:Nat=>mf.getD (pick l i 12).toNat 0
theorem Hx (l:List Int) (hl:∀x∈l,lA x) (most:Int) (hm:most<=1000000):ba prog 17 [.d (ao l),i64 most] (.d (ao (gH l most))):=by
 refine an func17 rfl ntmps17 results17 rfl 0 115 (by simp) (by simp) ?_
 simp only[CC,zK,zL,simprocAttr,-Int.reduceNatCast',nF,i64]
 refine ay (fun m e s=>∃i:Nat,m=min l.length most.toNat-i/\i<=min l.length most.toNat/\e 0=.d (ao l)/\e 1=i64 most/\e 6=i64 i/\Acc [] 1 (e 5) s (((List.range i).map fun i:Nat=>mf.getD (pick l i 12).toNat 0).map fun x=>[iD x]))
  ⟨_,_,_,bI.refl,0,rfl,by omega,rfl,rfl,rfl,.inl ⟨rfl,rfl⟩⟩ ?_
 rintro m e s ⟨i,rfl,hi,h0,h1,h6,mj⟩
 have hp:=HD l hl i 12 (by omega)
 have Zz:=bO l i 12 (by omega)
 simp only[i64]at hp
 by_cases c1:(i:Int)<l.length
 case neg =>
  have eQ:i=min l.length most.toNat:=by omega
  simp only[CC,zK,zL,simprocAttr,-Int.reduceNatCast',nF,i64,ao,h0,h1,h6,c1,List.length_map]
  rw[mj.RB (by simp)]
  subst eQ
  simp only[gH,ao]
 by_cases c2:(i:Int)<most
 case neg =>
  have eQ:i=min l.length most.toNat:=by omega
  simp only[CC,zK,zL,simprocAttr,-Int.reduceNatCast',nF,i64,ao,h0,h1,h6,c1,c2,List.length_map]
  rw[mj.RB (by simp)]
  subst eQ
  simp only[gH,ao]
 simp only[CC,zK,zL,simprocAttr,-Int.reduceNatCast',nF,i64,h0,h1,h6,c1,c2]
 refine al hp rfl rfl ?_
 have PQ:pick l i 12=0\/pick l i 12=1\/pick l i 12=2\/pick l i 12=3\/pick l i 12=4\/pick l i 12=5\/pick l i 12=6\/pick l i 12=7\/pick l i 12=8\/pick l i 12=9\/pick l i 12=10\/pick l i 12=11:=by omega
 have go:∀(z:Int),mf.getD (pick l i 12).toNat 0=z->∀(v':V) (s':List VL.Obj),Acc [] 1 v' s' (((List.range i).map fun i:Nat=>mf.getD (pick l i 12).toNat 0).map (fun x=>[iD x])++[[iD z]])->Acc [] 1 v' s' (((List.range (i+1)).map fun i:Nat=>mf.getD (pick l i 12).toNat 0).map fun x=>[iD x]):=by
  intro z hz v' s' h
  rw[List.range_succ,List.map_append,List.map_append,List.map_cons,List.map_nil,hz]
  exact h
 rcases PQ with q|q|q|q|q|q|q|q|q|q|q|q
 all_goals
  rw[q]at go ⊢
  simp only[CC,zK,zL,simprocAttr,-Int.reduceNatCast',nF,i64,h0,h1,h6,Int.toNat_zero,Int.toNat_one]
  refine⟨by omega,?_⟩
  refine mj.append Qh rfl (by decide) (by decide) (by intro y hy;obtain⟨z,_,rfl⟩:=List.mem_map.1 hy;rfl) (by simp) (by simp) (by simp only[List.length_map,List.length_range,List.length_cons,List.length_nil];omega) (fun v' s' CY=>?_)
  simp only[CC,zK,zL,simprocAttr,-Int.reduceNatCast',nF,i64,h0,h1,h6]
  refine⟨min l.length most.toNat-(i+1),_,_,by omega,bI.refl,i+1,rfl,by omega,?_,?_,?_,?_⟩ <;> (try simp only[zU,Nat.reduceBEq,Nat.reduceShiftRight,Nat.reduceMod,Nat.reduceEqDiff,reduceIte])
  ·exact h0
  ·exact h1
  ·rw[br _ (by omega)];rfl
  ·exact go _ rfl _ _ CY
noncomputable def sL (p:jl) (t:List Int) (n:Nat) (fuel:Int) (i:Nat):Bool:=decide (sA p (t.take n) i (-1) fuel=0)
noncomputable def cS (p:jl) (t:List Int) (fuel:Int):Nat->jl×List Int
 |0=>(⟨.mk 0 [] [] 0 0 0 0 false,p.ai,false⟩,[])
 |n+1=>if (List.range (n+1)).all (sL p t n fuel)=true then (p,t.take n) else cS p t fuel n
theorem y7 (f:Nat->Bool) (n:Nat):(List.range (n+1)).all f=((List.range n).all f&&f n):=by
 rw[List.range_succ,List.all_append];simp
def r9 (p:jl):List VL.Obj:=[⟨0,true,10,[[i64 0,.fu [],.fu [],i64 0,i64 0,i64 0,i64 0,bV false,i64 0,bV false]]⟩,⟨0,true,10,[p.re.cells.map V.d++[i64 p.ai,bV p.aU]]⟩]
theorem NT (l m:List Int) (hl:∀x∈l,lA x) (hm:∀x∈m,lA x) (bu most fuel:Int) (h0:0<=most) (h1:most<=100) :
  ba prog 16 [.d (ao l),.d (ao m),i64 bu,i64 most,i64 fuel]
   (.tu [bL (cS (jf l bu most) (gH m 12) fuel ((gH m 12).length+1)).1,.d (ao (cS (jf l bu most) (gH m 12) fuel ((gH m 12).length+1)).2)]):=by
 have PY:=Gv l bu most hl h0 (by omega)
 have Vn:=Hx m hm 12 (by omega)
 obtain⟨hv,fo⟩:=wg l bu most hl h0 h1
 have Vf:=A1 l bu most hl h0 h1
 have wG:(jf l bu most).re.dG=true:=zl (by omega) _ Vf.ev
 have Mw:(gH m 12).length<=12:=by simp [gH];omega
 generalize jf l bu most=p at *
 generalize gH m 12=t at *
 have bM:=fun (n i:Nat)=>I3 p (t.take n) i (-1) fuel wG (by omega) (by rw[List.length_take];omega)
 generalize hR:cS p t fuel (t.length+1)=R
 have Zh:=Re.ae p.re
 simp only[bL,Re.ae p.re,List.map_cons,List.map_nil,List.cons_append,List.nil_append,i64,iD,bD,bV]at PY bM
 simp only[i64]at Vn
 refine an func16 rfl ntmps16 results16 rfl 0 654367 (by simp) (by simp) ?_
 simp only[zX,simprocAttr,-Int.reduceNatCast',i64]
 refine al PY (by simp [ah,ah.go,aj,i64,bV,bm]) (by simp [ah,ah.go,aj,i64,bV,bm]) ?_
 simp only[zX,simprocAttr,-Int.reduceNatCast',i64]
 refine al Vn (by simp [ah,ah.go,aj,i64,bV,bm]) (by simp [ah,ah.go,aj,i64,bV,bm]) ?_
 simp only[zX,simprocAttr,-Int.reduceNatCast',i64,ao,List.length_map]
 refine ay (fun N e s=>e 4=i64 fuel/\e 10=.rf 0 0 0 0/\e 12=.rf 1 0 0 0/\e 13=.d (ao t)/\e 14=i64 ((N:Int)-1)/\N<=t.length+1/\cS p t fuel N=R/\s=r9 p)
  ⟨t.length+1,_,_,bI.refl,rfl,rfl,rfl,rfl,?_,Nat.le_refl _,hR,?_⟩ ?_
 ·show i64 _=i64 _
  congr 1
  omega
 ·unfold r9
  rw[Re.ae]
  rfl
 clear PY Vn hR
 rintro N e s ⟨h4,dC,iF,ta,fQ,hN,hR,rfl⟩
 cases N with
 |zero =>
  unfold r9
  rw[Re.ae]
  simp only[zX,simprocAttr,-Int.reduceNatCast',i64,h4,dC,iF,ta,fQ,bD,iD,Int.natCast_zero,Int.zero_sub]
  subst hR
  simp only[cS,bL,Re.cells]
  rfl
 |succ n =>
  have Yg:((n+1:Nat):Int)-1=n:=by omega
  rw[Yg]at fQ
  have fl:(0:Int)<=n:=by omega
  unfold r9
  rw[Re.ae]
  simp only[zX,simprocAttr,-Int.reduceNatCast',i64,h4,dC,iF,ta,fQ,bD,iD,fl,ge_iff_le]
  refine ay (fun M e s=>∃i:Nat,M=n+1-i/\i<=n+1/\e 4=i64 fuel/\e 10=.rf 0 0 0 0/\e 12=.rf 1 0 0 0/\e 13=.d (ao t)/\e 14=i64 n/\e 15=bV ((List.range i).all (sL p t n fuel))/\e 16=i64 i/\s=r9 p)
   ⟨_,_,_,bI.refl,0,rfl,by omega,?_,?_,?_,?_,?_,rfl,rfl,?_⟩ ?_ <;> (try simp only[zU,Nat.reduceBEq,Nat.reduceShiftRight,Nat.reduceMod,Nat.reduceEqDiff,reduceIte])
  ·exact h4
  ·exact dC
  ·exact iF
  ·exact ta
  ·exact fQ
  ·unfold r9;rw[Re.ae];rfl
  rintro M e s ⟨i,rfl,hi,h4,dC,iF,ta,fQ,kS,jM,rfl⟩
  have bad:(List.range (n+1)).all (sL p t n fuel)=false->cS p t fuel n=R:=by
   intro h;rw[cS,h]at hR;exact hR
  by_cases xD:(i:Int)<=n
  ·cases hg:(List.range i).all (sL p t n fuel) with
   |false =>
    rw[hg]at kS
    unfold r9
    rw[Re.ae]
    simp only[zX,simprocAttr,-Int.reduceNatCast',i64,h4,dC,iF,ta,fQ,kS,jM,bD,iD,xD,bV]
    refine⟨n,_,_,by omega,bI.refl,?_,?_,?_,?_,?_,by omega,bad ?_,?_⟩ <;> (try simp only[zU,Nat.reduceBEq,Nat.reduceShiftRight,Nat.reduceMod,Nat.reduceEqDiff,reduceIte])
    ·exact h4
    ·exact dC
    ·exact iF
    ·exact ta
    ·rw[br _ (by omega)]
    ·rw[Bool.eq_false_iff]at hg ⊢
     intro h
     apply hg
     rw[List.all_eq_true]at h ⊢
     exact fun x hx=>h x (List.mem_range.2 (by have:=List.mem_range.1 hx;omega))
   |true =>
    rw[hg]at kS
    have Ag:=bM n i
    have My:n<=t.length:=by omega
    unfold r9
    rw[Re.ae]
    simp only[zX,simprocAttr,-Int.reduceNatCast',i64,h4,dC,iF,ta,fQ,kS,jM,bD,iD,xD,bV]
    refine ar mix [] [] (by rfl) ?_
    simp only[zX,simprocAttr,-Int.reduceNatCast',i64,h4,dC,iF,ta,fQ,kS,jM,bD,iD,ao,List.length_map,fl,My]
    refine⟨by omega,?_⟩
    have GO:List.take ((n:Int)-0).toNat (List.map (fun x=>[D.sc (.int .i64 x)]) t)=(t.take n).map (fun x=>[D.sc (.int .i64 x)]):=by
     rw[<- List.map_take];congr 2
    rw[GO]
    simp only[ao,iD]at Ag
    refine fg Ag (by simp [ah,ah.go,aj,i64,bV,bm]) (by simp [ah,ah.go,aj,i64,bV,bm]) ?_
    simp only[zX,simprocAttr,-Int.reduceNatCast',i64,h4,dC,iF,ta,fQ,kS,jM,bD,iD,ao,List.length_map,fl,My]
    refine⟨n+1-(i+1),_,_,by omega,bI.refl,i+1,rfl,by omega,?_,?_,?_,?_,?_,?_,?_,?_⟩ <;> (try simp only[zU,Nat.reduceBEq,Nat.reduceShiftRight,Nat.reduceMod,Nat.reduceEqDiff,reduceIte])
    ·exact h4
    ·exact dC
    ·exact iF
    ·exact ta
    ·exact fQ
    ·rw[y7,hg,Bool.true_and];rfl
    ·rw[br _ (by omega)];rfl
  ·have eQ:i=n+1:=by omega
   subst eQ
   cases hg:(List.range (n+1)).all (sL p t n fuel) with
   |false =>
    rw[hg]at kS
    unfold r9
    rw[Re.ae]
    simp only[zX,simprocAttr,-Int.reduceNatCast',i64,h4,dC,iF,ta,fQ,kS,jM,bD,iD,xD,bV]
    refine⟨n,_,_,by omega,bI.refl,?_,?_,?_,?_,?_,by omega,bad hg,?_⟩ <;> (try simp only[zU,Nat.reduceBEq,Nat.reduceShiftRight,Nat.reduceMod,Nat.reduceEqDiff,reduceIte])
    ·exact h4
    ·exact dC
    ·exact iF
    ·exact ta
    ·rw[br _ (by omega)]
   |true =>
    rw[hg]at kS
    rw[cS,hg,if_pos rfl]at hR
    subst hR
    unfold r9
    rw[Re.ae]
    have My:n<=t.length:=by omega
    simp only[zX,simprocAttr,-Int.reduceNatCast',i64,h4,dC,iF,ta,fQ,kS,jM,bD,iD,xD,bV]
    refine ar mix [] [(0,[1],[]),(4,[0],[0])] (by rfl) ?_
    simp only[zX,simprocAttr,-Int.reduceNatCast',i64,h4,dC,iF,ta,fQ,kS,jM,bD,iD,ao,List.length_map,fl,My]
    refine⟨by omega,?_⟩
    have GO:List.take ((n:Int)-0).toNat (List.map (fun x=>[D.sc (.int .i64 x)]) t)=(t.take n).map (fun x=>[D.sc (.int .i64 x)]):=by
     rw[<- List.map_take];congr 2
    rw[GO,bL,Re.ae]
    rfl
inductive UD where
 |nil
 |root
 |el (re:Re)
inductive Ov where
 |nil
 |mk (kind:Int) (re:UD) (n at_:Int) (next:Ov)
structure Gu where
 at_:Int
 ai:aE
 todo:Ov
structure K0 where
 p:jl
 t:List Int
 M9:Bool
 own:List Int
 XI:Nat
 Y2:List (Option Gu)
 top:Nat
 gen:Nat
 TL:Int
 start:Int
 steps:Int
 fuel:Int
 Rm:Bool
 ready:Bool
def K0.step (m:K0):K0:=if m.steps<m.fuel then { m with steps:=m.steps+1 } else { m with Rm:=true }
end Go.Proofs.Ytfmdmlfhigocaaa
