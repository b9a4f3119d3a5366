/- A part of the proof (Vrf O24 O25). -/
import Derived.Test.YtfmdmlfhigocaaaOF14
import Derived.Test.YtfmdmlfhigocaaaOF16
import Derived.Test.YtfmdmlfhigocaaaOF30
import Derived.Test.YtfmdmlfhigocaaaOF31
import Derived.Test.YtfmdmlfhigocaaaOF35
set_option linter.unusedSimpArgs false
set_option linter.unusedVariables false
set_option maxRecDepth 100000
set_option maxHeartbeats 80000000
namespace Go.VL
def BO (b a:Nat):V:=.d (.sc (.pointer (some ⟨b,a,none⟩)))
theorem xE {au:List (List V)}{j:Nat}{x:V} (h:au[j]?=some [x]) (es:Array MapEntry):au≠eB es:=by
 intro he
 rw[he,eB,List.getElem?_map]at h
 obtain⟨y,_,h2⟩:=Option.map_eq_some_iff.1 h
 have h3:=congrArg List.length h2
 simp at h3
theorem DO {au:List (List V)}{j:Nat}{x y:V} (h:au[j]?=some [x]) {i l:Nat}{x':V} (hx:((au.set j [y])[i]?.bind (·[l]?))=some x'):(i=j/\l=0/\x'=y/\(au[i]?.bind (·[l]?))=some x)\/(au[i]?.bind (·[l]?))=some x':=by
 by_cases hi:j=i
 ·subst hi
  rw[List.getElem?_set_self (List.getElem?_eq_some_iff.1 h).1]at hx
  match l with
  |0 =>
   simp at hx
   exact .inl ⟨rfl,rfl,hx.symm,by rw[h];rfl⟩
  |l+1=>simp at hx
 ·rw[List.getElem?_set_ne hi]at hx
  exact .inr hx
theorem HJ {P:Program}{N:Nat}{full:List Oper}{e:Env}{s:List Obj}{K:Env->List Obj->Prop}{ok oa:Obj}{g:Nat} (t k a1 j:Nat) (he:e t=.rf k g 0 0) (hk:s[k]?=some ok) (HH:ok.g=g) (ha:s[a1]?=some oa) (hc:oa.au[j]?=some [.rf k g 0 0]) (fo:oa.sz=1)
  (h:∀b a,qi P N full (bB e t (.pp k g 0 0 b a)) (s.set a1 { oa with au:=oa.au.set j [BO b a] }) K):qi P N full e s K:=by
 intro σ0 s0 w0 Q RH σ w a id hE hI hR
 have hr:=hR.2.2 t
 rw[he]at hr
 generalize Sb:a.tmps.getD t undef=u at hr
 cases hr with|rf o' gE hg hu ew=>?_
 rw[hk]at gE;cases gE
 obtain⟨b,base,hs,hC,rfl⟩:=ew HH
 have Jc:=yk hI (els':=oa.au.set j [BO b (base+0*ok.sz+0)]) ha (fun el vO=>by
   rcases List.mem_or_eq_of_mem_set vO with h'|rfl
   ·rcases hI.content a1 oa ha with (⟨_,h0⟩|⟨_,es,_,_,_,h3⟩)|⟨_,_,_,_,_,_,h3,_⟩
    ·rw[h0]at h';cases h'
    ·exact absurd h3 (xE hc es)
    ·exact h3 el h'
   ·rw[fo];rfl) (by simp) (xE hc) (fun i l x' hx=>by
  rcases DO hc hx with ⟨_,_,rfl,h2⟩|h2
  ·refine⟨_,h2,fun u uQ=>?_⟩
   cases uQ with|rf o2 KM _ _ F8=>?_
   rw[hk]at KM;cases KM
   obtain⟨b2,wW,pj,_,rfl⟩:=F8 HH
   rw[hs]at pj;cases pj
   exact .d (.sc _ rfl)
  ·exact⟨_,h2,fun _ h=>h⟩)
 refine h b (base+0*ok.sz+0) σ0 s0 w0 Q RH σ w a id (hE.trans Jc.1) Jc.2 ⟨hR.1,hR.2.1,fun t'=>?_⟩
 unfold bB
 split
 ·rename_i ht
  subst ht
  rw[Sb]
  have Mx:aw σ s w (.pp k g 0 0 b (base+0*ok.sz+0)) (.pointer (some ⟨b,base+0*ok.sz+0,none⟩)):=.pp ok hk (by omega) (fun _=>⟨base,hs,hC,rfl⟩)
  exact Mx.aO Jc.1
 ·exact(hR.2.2 t').aO Jc.1
theorem bZ.RA {e:Env}{s:List Obj}{ok oa:Obj}{g b a0:Nat} (t k a1 j:Nat) (he:e t=.pp k g 0 0 b a0) (hk:s[k]?=some ok) (HH:ok.g=g) (ha:s[a1]?=some oa) (hc:oa.au[j]?=some [BO b a0]) (fo:oa.sz=1) :
  bZ e s (bB e t (.rf k g 0 0)) (s.set a1 { oa with au:=oa.au.set j [.rf k g 0 0] }):=by
 intro σ0 s0 w0 σ w N a hE hI hR
 have hr:=hR.2.2 t
 rw[he]at hr
 generalize Sb:a.tmps.getD t undef=u at hr
 cases hr with|pp o' gE hg ew=>?_
 rw[hk]at gE;cases gE
 obtain⟨base,hs,hC,Sg⟩:=ew HH
 have SY:aw σ s w (.rf k g 0 0) (.pointer (some ⟨b,a0,none⟩)):=.rf ok hk (by omega) rfl (fun _=>⟨b,base,hs,hC,by rw[Sg]⟩)
 have Jc:=yk hI (els':=oa.au.set j [.rf k g 0 0]) ha (fun el vO=>by
   rcases List.mem_or_eq_of_mem_set vO with h'|rfl
   ·rcases hI.content a1 oa ha with (⟨_,h0⟩|⟨_,es,_,_,_,h3⟩)|⟨_,_,_,_,_,_,h3,_⟩
    ·rw[h0]at h';cases h'
    ·exact absurd h3 (xE hc es)
    ·exact h3 el h'
   ·rw[fo];rfl) (by simp) (xE hc) (fun i l x' hx=>by
  rcases DO hc hx with ⟨_,_,rfl,h2⟩|h2
  ·refine⟨_,h2,fun u uQ=>?_⟩
   cases uQ with|d hd=>?_
   cases hd with|sc _ _=>?_
   exact SY
  ·exact⟨_,h2,fun _ h=>h⟩)
 refine⟨σ,hE.trans Jc.1,Jc.2,hR.1,hR.2.1,fun t'=>?_⟩
 unfold bB
 split
 ·rename_i ht
  subst ht
  rw[Sb]
  exact SY.aO Jc.1
 ·exact(hR.2.2 t').aO Jc.1
theorem IP {P:Program}{f:FuncId}{args:List V}{s:List Obj}{K:V->List Obj->Prop}{ok:Obj}{g:Nat} (j k:Nat) (hj:args[j]?=some (.rf k g 0 0)) (hk:s[k]?=some ok) (HH:ok.g=g)
  (h:∀b a,aq P f (args.set j (.pp k g 0 0 b a)) s K):aq P f args s K:=by
 refine⟨(h 0 0).1,fun σ w vals hI hl hv=>?_⟩
 have hr:=hv j _ hj
 generalize Sb:vals.getD j undef=u at hr
 cases hr with|rf o' gE hg hu ew=>?_
 rw[hk]at gE;cases gE
 obtain⟨b,base,hs,hC,rfl⟩:=ew HH
 have Mx:aw σ s w (.pp k g 0 0 b (base+0*ok.sz+0)) (.pointer (some ⟨b,base+0*ok.sz+0,none⟩)):=.pp ok hk (by omega) (fun _=>⟨base,hs,hC,rfl⟩)
 refine(h b (base+0*ok.sz+0)).2 σ w vals hI (by simpa using hl) fun i x hx=>?_
 rw[List.getElem?_set]at hx
 split at hx
 ·rename_i O5
  subst O5
  split at hx
  ·cases hx
   rw[Sb]
   exact Mx
  ·cases hx
 ·exact hv i x hx
theorem Kg {o:Obj}{c:List V}{x:V}{au:List (List V)} (h:o.au=c::au) (hx:x∈c) (hn:∀v,x≠.d (.sc v)) (es:Array MapEntry):o.au≠eB es:=by
 intro he
 rw[h,eB]at he
 have hm:c∈es.toList.map fun e=>[V.d (.sc e.key),V.d (.sc e.val)]:=by rw[<- he];simp
 obtain⟨e,_,rfl⟩:=List.mem_map.1 hm
 simp only[List.mem_cons,List.not_mem_nil,or_false]at hx
 rcases hx with rfl|rfl
 ·exact hn _ rfl
 ·exact hn _ rfl
theorem EU {P:Program}{f:FuncId}{args:List V}{s:List Obj}{K:V->List Obj->Prop}{o:Obj}{pre post:List V} (k:Nat) (ho:s[k]?=some o) (fv:o.au=[pre++.fu []::post]) (fo:pre.length+1+post.length=o.sz)
  (h:aq P f args (s.set k { o with au:=[pre++.d (.sl [])::post] }) K):aq P f args s K:=by
 refine⟨h.1,fun σ w vals hI hl hv=>?_⟩
 have Jc:=yk hI (els':=[pre++.d (.sl [])::post]) ho (fun el vO=>by rw[List.mem_singleton.1 vO];simp;omega) (by rw[fv];rfl) (Kg fv (x:=.fu []) (by simp) (by simp)) (fun i j x' hx=>by
  rw[fv]
  match i with
  |i+1=>simp at hx
  |0 =>
   simp only[List.getElem?_cons_zero,Option.bind_some]at hx ⊢
   rcases Nat.lt_trichotomy j pre.length with az|rfl|S2
   ·rw[List.getElem?_append_left az]at hx
    exact⟨x',by rw[List.getElem?_append_left az];exact hx,fun _ h=>h⟩
   ·rw[List.getElem?_append_right (Nat.le_refl _),Nat.sub_self,List.getElem?_cons_zero]at hx
    cases hx
    refine⟨.fu [],by rw[List.getElem?_append_right (Nat.le_refl _),Nat.sub_self];rfl,fun u hu=>?_⟩
    cases hu with|fu hd=>exact .d hd
   ·rw[List.getElem?_append_right (by omega)]at hx
    refine⟨x',?_,fun _ h=>h⟩
    rw[List.getElem?_append_right (by omega)]
    obtain⟨m,hm⟩:∃m,j-pre.length=m+1:=⟨j-pre.length-1,by omega⟩
    rw[hm,List.getElem?_cons_succ]at hx ⊢
    exact hx)
 refine(h.2 σ w vals Jc.2 hl fun i x hx=>(hv i x hx).aO Jc.1).mono fun e w' ⟨u,v,σ',s',h1,h2,h3,h4,h5⟩=>⟨u,v,σ',s',h1,Jc.1.trans h2,h3,h4,h5⟩
end Go.VL
namespace Go.Proofs.Ytfmdmlfhigocaaa
open Go.VL
mutual
def Re.jC:Re->Nat->List D
 |.mk op set kids mn mx mode n neg,k =>
  if op=7\/op=8 then (Re.mk op set kids mn mx mode n neg).aY k::Re.dM kids (k+1) else Re.dM kids k
def Re.dM:List Re->Nat->List D
 |[],_=>[]
 |x::l,k=>x.jC k++Re.dM l (k+x.looks)
end
theorem Re.ES (re:Re) (k:Nat):re.jC k=if re.op=7\/re.op=8 then re.aY k::Re.dM re.kids (k+1) else Re.dM re.kids k:=by
 cases re;rw[Re.jC];rfl
mutual
theorem Re.wk:∀(re:Re) (k:Nat),(re.jC k).length=re.looks
 |.mk op set kids mn mx mode n neg,k=>by
  have h:=Re.lP kids
  rw[Re.jC,Re.looks]
  split <;> simp [h] <;> omega
theorem Re.lP:∀(l:List Re) (k:Nat),(Re.dM l k).length=Re.aN l
 |[],_=>rfl
 |x::l,k=>by rw[Re.dM,List.length_append,Re.wk x,Re.lP l,Re.aN]
end
theorem w6:∀(l:List Re) (x:Re) (k:Nat),Re.dM (l++[x]) k=Re.dM l k++x.jC (k+Re.aN l)
 |[],x,k=>by simp [Re.dM,Re.aN]
 |y::l,x,k=>by rw[List.cons_append,Re.dM,w6 l,Re.dM,Re.aN,List.append_assoc,Nat.add_assoc]
theorem wZ:∀(l:List Re) (x:Re) (k:Nat),Re.dg (l++[x]) k=Re.dg l k++[[x.aY (k+Re.aN l)]]
 |[],x,k=>by simp [Re.dg,Re.aN]
 |y::l,x,k=>by rw[List.cons_append,Re.dg,wZ l,Re.dg,Re.aN,Nat.add_assoc];rfl
def gM (t:List Int) (root:D) (g n:Nat):VL.Obj:=⟨0,true,4,[[.d (ao t),.d root,.so 1 g 0 n,.d (.sl [])]]⟩
def ek (g:Nat) (l:List D):VL.Obj:=⟨g,true,1,l.map fun d=>[.d d]⟩
def sE (t:List Int) (root:D) (re:Re):Prop:=∀(g:Nat) (Pr:List D),Pr.length+re.looks<=1000000 ->
 aq Try.prog 52 [.rf 0 0 0 0,jW re] [gM t root g Pr.length,ek g Pr] fun v s=>v=.d (re.aY Pr.length)/\s=[gM t root (g+re.looks) (Pr++re.jC Pr.length).length,ek (g+re.looks) (Pr++re.jC Pr.length)]
theorem iB (ρ:List Nat) (g:Nat) (l:List D):aP ρ (ek g l)=ek g l:=by
 unfold aP ek
 simp only[List.map_map]
 congr 1
theorem ky (n g:Nat) (l:List D):aQ n (ek g l)=true:=by
 unfold aQ ek
 rw[List.all_eq_true]
 intro e he
 obtain⟨i,_,rfl⟩:=List.mem_map.1 he
 rfl
def dV (re:Re) (g k i:Nat):VL.Obj:=⟨0,true,10,[re.cells.map .d++[.so 4 g 0 i,i64 k]]⟩
def gS (t:List Int) (root:D) (re:Re) (g k:Nat) (Pr:List D) (i:Nat):List VL.Obj :=
 [gM t root g Pr.length,ek g Pr,aF re,dV re i k i,⟨i,true,1,(Re.dg (re.kids.take i) k).map fun c=>c.map V.d⟩]
theorem Rp (t:List Int) (root:D) (re:Re) (g k:Nat) (Pr:List D) (i:Nat):(gS t root re g k Pr i).all (aQ 5)=true:=by
 have h1:=ky 5 g Pr
 have h2:aQ 5 (aF re)=true:=by simp [aF,aQ,Re.ae re,ah]
 have h3:aQ 5 (dV re i k i)=true:=by simp [dV,aQ,Re.ae re,ah,i64]
 have h4:aQ 5 (gM t root g Pr.length)=true:=by simp [gM,aQ,ah]
 have h5:aQ 5 ⟨i,true,1,(Re.dg (re.kids.take i) k).map fun c=>c.map V.d⟩=true:=xS
 simp only[gS,List.all_cons,List.all_nil,h1,h2,h3,h4,h5,Bool.and_self]
theorem wj {α β:Type}{f:β->Option α}{h:β->α}:∀{l:List β},(∀x∈l,f x=some (h x))->l.mapM f=some (l.map h)
 |[],_=>by simp
 |x::l,hx=>by
  rw[List.mapM_cons,hx x (by simp),wj (fun y hy=>hx y (by simp [hy]))]
  rfl
theorem Kk (lim g:Nat) (s:List VL.Obj) (l:List D):uu lim s (ek g l)=some (ek g l):=by
 unfold uu ek
 have:(l.map fun d=>[V.d d]).mapM (bh.go lim s)=some (l.map fun d=>[V.d d]):=by
  rw[wj (h:=id)]
  ·simp
  ·intro x hx
   obtain⟨d,_,rfl⟩:=List.mem_map.1 hx
   rfl
 rw[this]
 rfl
theorem JA {t:List Int}{root:D}{re:Re}{g k n:Nat}{P:List D}{N1:List (List D)}{bx:VL.Obj} (hN:N1.length=n) (K:V->List VL.Obj->Prop)
  (h:K (.d (.el (re.cells++[.sl N1,iD k]))) [gM t root g P.length,ek g P]) :
  vL 2 [gM t root g P.length,ek g P,bx,dV re n k n,⟨n,true,1,N1.map fun c=>c.map V.d⟩] (.rf 3 0 0 0) K:=by
 unfold vL
 have hA:([gM t root g P.length,ek g P,bx,dV re n k n,⟨n,true,1,N1.map fun c=>c.map V.d⟩].take 2).mapM (uu 2 [gM t root g P.length,ek g P,bx,dV re n k n,⟨n,true,1,N1.map fun c=>c.map V.d⟩])=some [gM t root g P.length,ek g P]:=by
  have h1:uu 2 [gM t root g P.length,ek g P,bx,dV re n k n,⟨n,true,1,N1.map fun c=>c.map V.d⟩] (gM t root g P.length)=some (gM t root g P.length):=by
   simp [uu,gM,bh.go,bh,cA,ek]
  simp only[List.take_succ_cons,List.take_zero,List.mapM_cons,List.mapM_nil,h1,Kk]
  rfl
 have hB:bh 2 [gM t root g P.length,ek g P,bx,dV re n k n,⟨n,true,1,N1.map fun c=>c.map V.d⟩] (.rf 3 0 0 0)=some (.d (.el (re.cells++[.sl N1,iD k]))):=by
  have h1:=kK 6 2 [gM t root g P.length,ek g P,bx,dV re n k n,⟨n,true,1,N1.map fun c=>c.map V.d⟩] N1 n (by omega)
  simp only[bh,cA,List.getElem?_cons_succ,List.getElem?_cons_zero,dV,true_and,Nat.reduceLeDiff,true_or,if_true,List.drop_zero,Re.ae,List.map_cons,List.map_nil,List.cons_append,List.nil_append,List.mapM_cons,List.mapM_nil,i64,List.length_map,hN,Nat.zero_add,Nat.le_refl,and_self]
  simp only[dV,Re.ae,List.map_cons,List.map_nil,List.cons_append,List.nil_append,i64]at h1
  rw[h1]
  rfl
 rw[hA,hB]
 exact h
theorem Gd (t:List Int) (root:D) (re:Re) (Xq:¬re.op=7) (Ys:¬re.op=8) (Of:re.kids.length<=1000) (hK:∀x∈re.kids,sE t root x):sE t root re:=by
 intro g Pr Wm
 have nT:re.jC Pr.length=Re.dM re.kids Pr.length:=by rw[Re.ES,if_neg (by omega)]
 have Ew:re.looks=Re.aN re.kids:=by rw[Re.iu,if_neg (by omega),Nat.zero_add]
 have eF:re.aY Pr.length=.el [iD re.op,.sl (re.set.map aV),.sl (re.kids.map Re.cells),iD re.mn,iD re.mx,iD re.mode,iD re.n,bD re.neg,.sl (Re.dg re.kids Pr.length),iD Pr.length]:=by
  rw[Re.dw,if_neg (by omega),Nat.add_zero]
 rw[nT,Ew,eF]
 rw[Ew]at Wm
 refine Gi Try.func52 rfl Try.ntmps52 Try.results52 rfl 2 240518168763 (by simp) (by simp) ?_
 simp only[zX,Nat.reduceShiftRight,Nat.reduceMod,Nat.reduceLT,Nat.reduceMul,Nat.reduceSub,Int.reduceToNat,Int.reduceNeg,Int.reduceLT,Int.reduceLE,Int.reduceEq,Nat.reduceEqDiff,Nat.reduceAdd,Nat.reduceLeDiff,reduceIte,reduceCtorEq,Nat.reduceBEq,i64,bV,iD,bD,aj re,gM]
 refine ar mix [7] [] (by rfl) ?_
 simp only[zX,Nat.reduceShiftRight,Nat.reduceMod,Nat.reduceLT,Nat.reduceMul,Nat.reduceSub,Int.reduceToNat,Int.reduceNeg,Int.reduceLT,Int.reduceLE,Int.reduceEq,Nat.reduceEqDiff,Nat.reduceAdd,Nat.reduceLeDiff,reduceIte,reduceCtorEq,Nat.reduceBEq,i64,bV,iD,bD,Re.ae re,Xq,Ys,gM]
 generalize ew:Pr.length=k at *
 refine ay (fun n e s=>∃i:Nat,n=re.kids.length-i/\i<=re.kids.length/\e 0=.rf 0 0 0 0/\e 5=.rf 3 0 0 0/\e 35=.d (.sl (re.kids.map Re.cells))/\e 36=i64 re.kids.length/\e 37=i64 i/\s=gS t root re (g+Re.aN (re.kids.take i)) k (Pr++Re.dM (re.kids.take i) k) i)
  ⟨_,_,_,.JV (kJ (pre:=[V.d (iD re.op),V.d (.sl (re.set.map aV)),V.d (.sl (re.kids.map Re.cells)),V.d (iD re.mn),V.d (iD re.mx),V.d (iD re.mode),V.d (iD re.n),V.d (bD re.neg)]) (post:=[i64 k]) 3 1 rfl rfl rfl),0,rfl,by omega,rfl,rfl,rfl,by first|rfl|(rw[List.length_map];rfl),rfl,?_⟩ ?_
 ·simp [gS,gM,dV,aF,Re.ae re,iD,bD,i64,Re.aN,Re.dM,Re.dg,ew,ao]
 rintro n e s ⟨i,rfl,hi,h0,h5,vX,A8,DF,rfl⟩
 have Wu:(Pr++Re.dM (re.kids.take i) k).length=k+Re.aN (re.kids.take i):=by rw[List.length_append,Re.lP,ew]
 have B9:=Re.mb (re.kids.take i) k
 rw[List.length_take,Nat.min_eq_left hi]at B9
 rcases Nat.lt_or_ge i re.kids.length with az|ib
 ·obtain⟨x,hx⟩:∃x,re.kids[i]?=some x:=⟨_,List.getElem?_eq_getElem az⟩
  have hm:=List.mem_of_getElem? hx
  have aK:(i:Int)<(re.kids.length:Int):=by omega
  have hi0:(0:Int)<=(i:Int):=by omega
  have Ih:Re.aN (re.kids.take (i+1))=Re.aN (re.kids.take i)+x.looks:=by rw[bt hx,nf];simp [Re.aN]
  have hle:Re.aN (re.kids.take (i+1))<=Re.aN re.kids:=by
   have h1:re.kids=re.kids.take (i+1)++re.kids.drop (i+1):=(List.take_append_drop _ _).symm
   have h2:Re.aN re.kids=Re.aN (re.kids.take (i+1))+Re.aN (re.kids.drop (i+1)):=by rw[<- nf,<- h1]
   omega
  have Rx:Pr++Re.dM (re.kids.take (i+1)) k=Pr++Re.dM (re.kids.take i) k++x.jC (Pr++Re.dM (re.kids.take i) k).length:=by
   rw[bt hx,w6,Wu,List.append_assoc]
  have sy:Re.dg (re.kids.take (i+1)) k=Re.dg (re.kids.take i) k++[[x.aY (Pr++Re.dM (re.kids.take i) k).length]]:=by
   rw[bt hx,wZ,Wu]
  have sK:=hK x hm (g+Re.aN (re.kids.take i)) (Pr++Re.dM (re.kids.take i) k) (by omega)
  rw[<- Rx,Nat.add_assoc,<- Ih]at sK
  generalize Y0:Pr++Re.dM (re.kids.take (i+1)) k=P2 at *
  generalize Pr++Re.dM (re.kids.take i) k=P1 at *
  generalize Zb:g+Re.aN (re.kids.take (i+1))=G2 at *
  generalize g+Re.aN (re.kids.take i)=G1 at *
  generalize XG:Re.dg (re.kids.take (i+1)) k=N2 at *
  rw[show gS t root re G1 k P1 i=[gM t root G1 P1.length,ek G1 P1,aF re,dV re i k i,⟨i,true,1,(Re.dg (re.kids.take i) k).map fun c=>c.map V.d⟩] from rfl]
  generalize Zl:Re.dg (re.kids.take i) k=N1 at *
  generalize x.aY P1.length=xd at *
  have e0:∀n G,aP [0,1] (gM t root G n)=gM t root G n:=fun n G=>by simp [aP,gM,aJ,aJ.go]
  have e3:aQ 2 (gM t root G1 P1.length)=true:=by simp [gM,aQ,ah]
  simp only[zX,Nat.reduceShiftRight,Nat.reduceMod,Nat.reduceLT,Nat.reduceMul,Nat.reduceSub,Int.reduceToNat,Int.reduceNeg,Int.reduceLT,Int.reduceLE,Int.reduceEq,Nat.reduceEqDiff,Nat.reduceAdd,Nat.reduceLeDiff,reduceIte,reduceCtorEq,Nat.reduceBEq,i64,bV,iD,bD,aF,Re.ae re,List.map_cons,List.map_nil,h0,h5,vX,A8,DF,aK,hi0,az,hx,List.length_map,List.getElem?_map,Option.map_some,Int.toNat_natCast]
  refine ar mix [] [(2,[3],[]),(3,[3],[]),(4,[3],[]),(7,[0,1],[0,1]),(9,[4],[4]),(10,[3],[]),(11,[3],[]),(12,[3],[3])] (by rfl) ?_
  simp only[zX,Nat.reduceShiftRight,Nat.reduceMod,Nat.reduceLT,Nat.reduceMul,Nat.reduceSub,Int.reduceToNat,Int.reduceNeg,Int.reduceLT,Int.reduceLE,Int.reduceEq,Nat.reduceEqDiff,Nat.reduceAdd,Nat.reduceLeDiff,reduceIte,reduceCtorEq,Nat.reduceBEq,i64,bV,iD,bD,Re.ae re,List.map_cons,List.map_nil,h0,h5,vX,A8,DF,dV,List.cons_append,List.nil_append]
  refine vU [0,1] sK (by decide) rfl ?_ ?_ ?_ ?_ (r':=.d xd) rfl ?_
  ·simp only[List.map_cons,List.map_nil,e0,iB]
   rfl
  ·rw[aj];simp [aJ,aJ.go,i64,bV]
  ·rw[aj];simp [ah,ah.go,i64,bV]
  ·simp only[List.all_cons,List.all_nil,List.length_cons,List.length_nil,Nat.zero_add,Nat.reduceAdd,e3,ky,Bool.and_self]
  simp only[List.map_cons,List.map_nil,e0,iB,aH,List.set_cons_zero,List.set_cons_succ]
  simp only[zX,Nat.reduceShiftRight,Nat.reduceMod,Nat.reduceLT,Nat.reduceMul,Nat.reduceSub,Int.reduceToNat,Int.reduceNeg,Int.reduceLT,Int.reduceLE,Int.reduceEq,Nat.reduceEqDiff,Nat.reduceAdd,Nat.reduceLeDiff,reduceIte,reduceCtorEq,Nat.reduceBEq,i64,bV,iD,bD,h0,h5,vX,A8,DF,List.length_map,List.cons_append,List.nil_append]
  have hT:List.take i (N1.map fun c=>c.map V.d)++[[V.d xd]]=N2.map fun c=>c.map V.d:=by
   rw[List.take_of_length_le (by rw[List.length_map];omega),sy];simp
  refine⟨rfl,fun e he=>by rw[List.mem_singleton.1 he];rfl,⟨by omega,by omega⟩,?_⟩
  rw[hT]
  refine⟨re.kids.length-(i+1),_,_,by omega,bI.cut (s':=gS t root re G2 k P2 (i+1)) 5 (by omega) ?_ (Rp t root re G2 k P2 (i+1)) [0,5,35,36,37] (by simp [bB,aL,ah,h0,h5,vX,A8,DF,i64]),i+1,rfl,az,?_,?_,?_,?_,?_,by rw[Zb,Y0]⟩ <;> (try simp only[zU,Nat.reduceBEq,Nat.reduceShiftRight,Nat.reduceMod,Nat.reduceEqDiff,reduceIte])
  ·simp [gS,dV,aF,Re.ae re,iD,bD,i64,XG]
  ·exact h0
  ·exact h5
  ·exact vX
  ·exact A8
  ·rw[br _ (by omega)];rfl
 ·have eQ:i=re.kids.length:=by omega
  subst eQ
  rw[List.take_length]at *
  simp only[zX,Nat.reduceShiftRight,Nat.reduceMod,Nat.reduceLT,Nat.reduceMul,Nat.reduceSub,Int.reduceToNat,Int.reduceNeg,Int.reduceLT,Int.reduceLE,Int.reduceEq,Nat.reduceEqDiff,Nat.reduceAdd,Nat.reduceLeDiff,reduceIte,reduceCtorEq,Nat.reduceBEq,i64,bV,iD,bD,h0,h5,vX,A8,DF,Int.lt_irrefl,gS,HK]
  refine JA (by rw[List.take_length,B9]) _ ?_
  rw[List.take_length,Re.ae re]
  exact⟨rfl,rfl⟩
def jL (g:Nat) (Pr Q:List D):VL.Obj:=⟨g,true,1,(Pr.map fun d=>[V.d d])++[V.rf 3 0 0 0]::(Q.map fun d=>[V.d d])⟩
theorem MU (g:Nat) (Pr Q:List D):aQ 5 (jL g Pr Q)=true:=by
 have h1:=ky 5 g Pr
 have h2:=ky 5 g Q
 unfold aQ ek at h1 h2
 unfold aQ jL
 simp only[List.all_append,List.all_cons,h1,h2,Bool.and_true,Bool.true_and,List.all_nil]
 rfl
def lS (t:List Int) (root:D) (re:Re) (g k:Nat) (Pr Q:List D) (N1:List (List D)):List VL.Obj :=
 [gM t root g (Pr.length+1+Q.length),jL g Pr Q,aF re,dV re N1.length k N1.length,⟨N1.length,true,1,N1.map fun c=>c.map V.d⟩]
theorem Oj (t:List Int) (root:D) (re:Re) (g k:Nat) (Pr Q:List D) (N1:List (List D)):(lS t root re g k Pr Q N1).all (aQ 5)=true:=by
 have h2:aQ 5 (aF re)=true:=by simp [aF,aQ,Re.ae re,ah]
 have h3:aQ 5 (dV re N1.length k N1.length)=true:=by simp [dV,aQ,Re.ae re,ah,i64]
 have h4:aQ 5 (gM t root g (Pr.length+1+Q.length))=true:=by simp [gM,aQ,ah]
 have h5:aQ 5 ⟨N1.length,true,1,N1.map fun c=>c.map V.d⟩=true:=xS
 simp only[lS,List.all_cons,List.all_nil,MU,h2,h3,h4,h5,Bool.and_self]
theorem AU {t:List Int}{root:D}{re:Re}{g k:Nat}{Pr Q:List D}{N1:List (List D)} (K:V->List VL.Obj->Prop)
  (h:K (.d (.el (re.cells++[.sl N1,iD k]))) [gM t root g (Pr.length+1+Q.length),ek g (Pr++D.el (re.cells++[.sl N1,iD k])::Q)]) :
  vL 2 (lS t root re g k Pr Q N1) (.rf 3 0 0 0) K:=by
 unfold vL
 have hB:bh 2 (lS t root re g k Pr Q N1) (.rf 3 0 0 0)=some (.d (.el (re.cells++[.sl N1,iD k]))):=by
  have h1:=kK 6 2 (lS t root re g k Pr Q N1) N1 N1.length (Nat.le_refl _)
  generalize hS:lS t root re g k Pr Q N1=S at *
  have q3:S[3]?=some (dV re N1.length k N1.length):=by rw[<- hS];rfl
  have q4:S[4]?=some ⟨N1.length,true,1,N1.map fun c=>c.map V.d⟩:=by rw[<- hS];rfl
  simp only[bh,cA,q3,q4,dV,true_and,Nat.reduceLeDiff,true_or,if_true,List.getElem?_cons_zero,List.drop_zero,Re.ae,List.map_cons,List.map_nil,List.cons_append,List.nil_append,List.mapM_cons,List.mapM_nil,i64,List.length_map,Nat.zero_add,Nat.le_refl,and_self,h1]
  rfl
 have hA:uu 2 (lS t root re g k Pr Q N1) (gM t root g (Pr.length+1+Q.length))=some (gM t root g (Pr.length+1+Q.length)):=by
  simp [uu,gM,bh.go,bh,cA,lS,jL]
 have hC:uu 2 (lS t root re g k Pr Q N1) (jL g Pr Q)=some (ek g (Pr++D.el (re.cells++[.sl N1,iD k])::Q)):=by
  unfold uu
  have:(jL g Pr Q).au.mapM (bh.go 2 (lS t root re g k Pr Q N1))=some ((Pr++D.el (re.cells++[.sl N1,iD k])::Q).map fun d=>[V.d d]):=by
   have hd:∀(L:List D),(L.map fun d=>[V.d d]).mapM (bh.go 2 (lS t root re g k Pr Q N1))=some (L.map fun d=>[V.d d]):=fun L=>by
    rw[wj (h:=id)]
    ·simp
    ·intro x hx
     obtain⟨d,_,rfl⟩:=List.mem_map.1 hx
     rfl
   simp only[jL,List.mapM_append,List.mapM_cons,hd,bh.go,hB]
   simp
  rw[this]
  rfl
 have hT:((lS t root re g k Pr Q N1).take 2).mapM (uu 2 (lS t root re g k Pr Q N1))=some [gM t root g (Pr.length+1+Q.length),ek g (Pr++D.el (re.cells++[.sl N1,iD k])::Q)]:=by
  rw[show (lS t root re g k Pr Q N1).take 2=[gM t root g (Pr.length+1+Q.length),jL g Pr Q] from rfl]
  simp only[List.mapM_cons,List.mapM_nil,hA,hC]
  rfl
 rw[hT,hB]
 exact h
theorem I2 (t:List Int) (root:D) (re x:Re) (ho:re.op=7\/re.op=8) (Q3:re.kids=[x]) (hK:sE t root x):sE t root re:=by
 intro g Pr Wm
 have Y1:Re.aN re.kids=x.looks:=by rw[Q3];simp [Re.aN]
 have nT:re.jC Pr.length=re.aY Pr.length::x.jC (Pr.length+1):=by rw[Re.ES,if_pos ho,Q3];simp [Re.dM]
 have Ew:re.looks=1+x.looks:=by rw[Re.iu,if_pos ho,Y1]
 have eF:re.aY Pr.length=.el (re.cells++[.sl [[x.aY (Pr.length+1)]],iD Pr.length]):=by
  rw[Re.dw,if_pos ho,Q3,Re.ae re,Q3];rfl
 have sK:=fun ptr=>hK (g+1) (Pr++[ptr]) (by rw[List.length_append,List.length_singleton];omega)
 have hlen:∀ptr,(Pr++[ptr]++x.jC (Pr++[ptr]).length).length=Pr.length+1+(x.jC (Pr.length+1)).length:=fun ptr=>by
  simp only[List.length_append,List.length_singleton]
 simp only[hlen,List.length_append,List.length_singleton]at sK
 rw[nT,Ew,eF]
 have FG:=Re.wk x (Pr.length+1)
 have Uj:(Pr++D.el (re.cells++[.sl [[x.aY (Pr.length+1)]],iD Pr.length])::x.jC (Pr.length+1)).length=Pr.length+1+(x.jC (Pr.length+1)).length:=by simp;omega
 rw[Uj]
 generalize x.jC (Pr.length+1)=Q at *
 generalize x.aY (Pr.length+1)=xd at *
 have hG:g+(1+x.looks)=g+1+x.looks:=by omega
 rw[hG]
 have Bo:Pr.length<=1000000:=by omega
 have hT:List.take Pr.length (Pr.map fun d=>[V.d d])=Pr.map fun d=>[V.d d]:=List.take_of_length_le (by simp)
 generalize Zf:x.looks=lx at *
 have Of:(re.kids.length:Int)=1:=by rw[Q3];rfl
 have Rj:re.kids[0]?=some x:=by rw[Q3];rfl
 have YI:re.op=7\/(¬re.op=7/\re.op=8):=by omega
 have Wc:∃b7 b8:Bool,decide (re.op=7)=b7/\decide (re.op=8)=b8/\(b7=true\/b8=true):=⟨_,_,rfl,rfl,by rcases ho with o|o <;> simp [o]⟩
 rcases YI with o|⟨o',o⟩
 ·refine Gi Try.func52 rfl Try.ntmps52 Try.results52 rfl 2 240518168763 (by simp) (by simp) ?_
  simp only[zX,Nat.reduceShiftRight,Nat.reduceMod,Nat.reduceLT,Nat.reduceMul,Nat.reduceSub,Int.reduceToNat,Int.reduceNeg,Int.reduceLT,Int.reduceLE,Int.reduceEq,Nat.reduceEqDiff,Nat.reduceAdd,Nat.reduceLeDiff,reduceIte,reduceCtorEq,Nat.reduceBEq,i64,bV,iD,bD,aj re,gM]
  refine ar mix [7] [] (by rfl) ?_
  simp only[zX,Nat.reduceShiftRight,Nat.reduceMod,Nat.reduceLT,Nat.reduceMul,Nat.reduceSub,Int.reduceToNat,Int.reduceNeg,Int.reduceLT,Int.reduceLE,Int.reduceEq,Nat.reduceEqDiff,Nat.reduceAdd,Nat.reduceLeDiff,reduceIte,reduceCtorEq,Nat.reduceBEq,i64,bV,iD,bD,Re.ae re,o,gM,ek,List.length_map,hT,Option.bind_none,Nat.zero_add]
  refine⟨fun e he=>by rw[List.mem_singleton.1 he];rfl,⟨by omega,by omega⟩,?_⟩
  refine ay (fun n e s=>∃i:Nat,n=1-i/\i<=1/\e 0=.rf 0 0 0 0/\e 5=.rf 3 0 0 0/\e 35=.d (.sl (re.kids.map Re.cells))/\e 36=i64 1/\e 37=i64 i/\s=if i=0 then lS t root re (g+1) Pr.length Pr [] [] else lS t root re (g+1+lx) Pr.length Pr Q [[xd]])
   ⟨_,_,_,(bI.cut (s':=[gM t root (g+1) (Pr.length+1),jL (g+1) Pr [],aF re,⟨0,true,10,[re.cells.map .d++[.fu [],i64 Pr.length]]⟩]) 4 (by omega) (by simp [gM,jL,aF,Re.ae re,iD,bD,i64,o,ao]) (by have h1:=ky 4 0 Pr;unfold aQ ek at h1;simp only[List.all_cons,List.all_nil,aQ,jL,List.all_append,h1];simp [gM,aF,Re.ae re,ah,i64]) [0,5,35,36,37] (by simp [bB,aL,ah,i64];rfl)).trans (.JV (kJ (pre:=re.cells.map .d) (post:=[i64 Pr.length]) 3 1 rfl rfl (by simp [Re.ae re]))),0,rfl,by omega,by (try simp only[zU,Nat.reduceBEq,Nat.reduceShiftRight,Nat.reduceMod,Nat.reduceEqDiff,reduceIte]);(try rfl),by (try simp only[zU,Nat.reduceBEq,Nat.reduceShiftRight,Nat.reduceMod,Nat.reduceEqDiff,reduceIte]);(try rfl),by (try simp only[zU,Nat.reduceBEq,Nat.reduceShiftRight,Nat.reduceMod,Nat.reduceEqDiff,reduceIte]);(try rfl),by (try simp only[zU,Nat.reduceBEq,Nat.reduceShiftRight,Nat.reduceMod,Nat.reduceEqDiff,reduceIte]);(try rw[Of]);(try rfl),by (try simp only[zU,Nat.reduceBEq,Nat.reduceShiftRight,Nat.reduceMod,Nat.reduceEqDiff,reduceIte]);(try rfl),by simp [lS,dV]⟩ ?_
  rintro n e s ⟨i,rfl,hi,h0,h5,vX,A8,DF,rfl⟩
  rcases Nat.lt_or_ge i 1 with az|ib
  ·obtain rfl:i=0:=by omega
   rw[if_pos rfl]
   have aK:((0:Nat):Int)<1:=by decide
   simp only[zX,Nat.reduceShiftRight,Nat.reduceMod,Nat.reduceLT,Nat.reduceMul,Nat.reduceSub,Int.reduceToNat,Int.reduceNeg,Int.reduceLT,Int.reduceLE,Int.reduceEq,Nat.reduceEqDiff,Nat.reduceAdd,Nat.reduceLeDiff,reduceIte,reduceCtorEq,Nat.reduceBEq,i64,bV,iD,bD,lS,aF,Re.ae re,List.map_cons,List.map_nil,h0,h5,vX,A8,DF,aK,Of,Rj,List.length_map,List.getElem?_map,Option.map_some,Int.toNat_natCast,Int.natCast_zero]
   have eO:∀ptr:D,({ jL (g+1) Pr []with au:=(jL (g+1) Pr []).au.set Pr.length [.d ptr] }:VL.Obj)=ek (g+1) (Pr++[ptr]):=fun ptr=>by
    simp [jL,ek,List.set_append_right]
   refine HJ (ok:=dV re 0 Pr.length 0) (oa:=jL (g+1) Pr []) (g:=0) 5 3 1 Pr.length (by (try simp only[zU,Nat.reduceBEq,Nat.reduceShiftRight,Nat.reduceMod,Nat.reduceEqDiff,reduceIte]);exact h5) rfl rfl rfl (by simp [jL]) rfl (fun b a=>?_)
   rw[BO,eO]
   have sK:=sK (.sc (.pointer (some ⟨b,a,none⟩)))
   have KP:({ ek (g+1+lx) (Pr++[.sc (.pointer (some ⟨b,a,none⟩))]++Q) with au:=(ek (g+1+lx) (Pr++[.sc (.pointer (some ⟨b,a,none⟩))]++Q)).au.set Pr.length [.rf 3 0 0 0] }:VL.Obj)=jL (g+1+lx) Pr Q:=by
    simp [jL,ek,List.set_append_right]
   have Em:(ek (g+1+lx) (Pr++[.sc (.pointer (some ⟨b,a,none⟩))]++Q)).au[Pr.length]?=some [BO b a]:=by
    simp [ek,BO]
   have e0:∀n G,aP [0,1] (gM t root G n)=gM t root G n:=fun n G=>by simp [aP,gM,aJ,aJ.go]
   have e3:aQ 2 (gM t root (g+1) (Pr.length+1))=true:=by simp [gM,aQ,ah]
   simp only[List.set_cons_succ,List.set_cons_zero,Nat.add_zero]
   generalize Pr++[.sc (.pointer (some ⟨b,a,none⟩))]++Q=P2 at *
   generalize Pr++[.sc (.pointer (some ⟨b,a,none⟩))]=P1 at *
   refine ar mix [] [(2,[3],[]),(3,[3],[]),(4,[3],[]),(7,[0,1],[0,1]),(9,[4],[4]),(10,[3],[]),(11,[3],[]),(12,[3],[3])] (by rfl) ?_
   simp only[zX,Nat.reduceShiftRight,Nat.reduceMod,Nat.reduceLT,Nat.reduceMul,Nat.reduceSub,Int.reduceToNat,Int.reduceNeg,Int.reduceLT,Int.reduceLE,Int.reduceEq,Nat.reduceEqDiff,Nat.reduceAdd,Nat.reduceLeDiff,reduceIte,reduceCtorEq,Nat.reduceBEq,i64,bV,iD,bD,Re.ae re,List.map_cons,List.map_nil,h0,h5,vX,A8,DF,dV,List.cons_append,List.nil_append]
   refine vU [0,1] sK (by decide) rfl ?_ ?_ ?_ ?_ (r':=.d xd) rfl ?_
   ·simp only[List.map_cons,List.map_nil,e0,iB]
    rfl
   ·rw[aj];simp [aJ,aJ.go,i64,bV]
   ·rw[aj];simp [ah,ah.go,i64,bV]
   ·simp only[List.all_cons,List.all_nil,List.length_cons,List.length_nil,Nat.zero_add,Nat.reduceAdd,e3,ky,Bool.and_self]
   simp only[List.map_cons,List.map_nil,e0,iB,aH,List.set_cons_zero,List.set_cons_succ]
   simp only[zX,Nat.reduceShiftRight,Nat.reduceMod,Nat.reduceLT,Nat.reduceMul,Nat.reduceSub,Int.reduceToNat,Int.reduceNeg,Int.reduceLT,Int.reduceLE,Int.reduceEq,Nat.reduceEqDiff,Nat.reduceAdd,Nat.reduceLeDiff,reduceIte,reduceCtorEq,Nat.reduceBEq,i64,bV,iD,bD,h0,h5,vX,A8,DF,List.length_map,List.cons_append,List.nil_append]
   refine⟨rfl,fun e he=>by rw[List.mem_singleton.1 he];rfl,?_⟩
   refine⟨0,_,_,by omega,(bI.JV (bZ.RA (ok:=dV re 1 Pr.length 1) (oa:=ek (g+1+lx) P2) (g:=0) (b:=b) (a0:=a) 5 3 1 Pr.length (by (try simp only[zU,Nat.reduceBEq,Nat.reduceShiftRight,Nat.reduceMod,Nat.reduceEqDiff,reduceIte])) ?_ rfl rfl Em rfl)).trans (bI.cut (s':=lS t root re (g+1+lx) Pr.length Pr Q [[xd]]) 5 (by omega) ?_ (Oj t root re (g+1+lx) Pr.length Pr Q [[xd]]) [0,5,35,36,37] (by simp [bB,aL,ah,h0,h5,vX,A8,DF,i64])),1,rfl,by omega,?_,?_,?_,?_,?_,by rw[if_neg (by omega)];simp [lS,dV,aF,Re.ae re,iD,bD,i64]⟩ <;> (try simp only[zU,Nat.reduceBEq,Nat.reduceShiftRight,Nat.reduceMod,Nat.reduceEqDiff,reduceIte])
   ·simp [dV,Re.ae re,iD,bD,i64]
   ·simp only[List.set_cons_succ,List.set_cons_zero,KP,List.take_succ_cons,List.take_zero]
    simp [lS,dV,aF,Re.ae re,iD,bD,i64]
   ·exact h0
   ·exact vX
   ·exact A8
   ·rfl
  ·obtain rfl:i=1:=by omega
   rw[if_neg (by omega)]
   simp only[zX,Nat.reduceShiftRight,Nat.reduceMod,Nat.reduceLT,Nat.reduceMul,Nat.reduceSub,Int.reduceToNat,Int.reduceNeg,Int.reduceLT,Int.reduceLE,Int.reduceEq,Nat.reduceEqDiff,Nat.reduceAdd,Nat.reduceLeDiff,reduceIte,reduceCtorEq,Nat.reduceBEq,i64,bV,iD,bD,h0,h5,vX,A8,DF,Int.lt_irrefl,Int.natCast_one,HK]
   refine AU _ ?_
   exact⟨by simp [Re.ae re,iD,bD,o],by simp [Re.ae re,iD,bD,o,gM,ek]⟩
 ·refine Gi Try.func52 rfl Try.ntmps52 Try.results52 rfl 2 240518168763 (by simp) (by simp) ?_
  simp only[zX,Nat.reduceShiftRight,Nat.reduceMod,Nat.reduceLT,Nat.reduceMul,Nat.reduceSub,Int.reduceToNat,Int.reduceNeg,Int.reduceLT,Int.reduceLE,Int.reduceEq,Nat.reduceEqDiff,Nat.reduceAdd,Nat.reduceLeDiff,reduceIte,reduceCtorEq,Nat.reduceBEq,i64,bV,iD,bD,aj re,gM]
  refine ar mix [7] [] (by rfl) ?_
  simp only[zX,Nat.reduceShiftRight,Nat.reduceMod,Nat.reduceLT,Nat.reduceMul,Nat.reduceSub,Int.reduceToNat,Int.reduceNeg,Int.reduceLT,Int.reduceLE,Int.reduceEq,Nat.reduceEqDiff,Nat.reduceAdd,Nat.reduceLeDiff,reduceIte,reduceCtorEq,Nat.reduceBEq,i64,bV,iD,bD,Re.ae re,o,gM,ek,List.length_map,hT,Option.bind_none,Nat.zero_add]
  refine⟨fun e he=>by rw[List.mem_singleton.1 he];rfl,⟨by omega,by omega⟩,?_⟩
  refine ay (fun n e s=>∃i:Nat,n=1-i/\i<=1/\e 0=.rf 0 0 0 0/\e 5=.rf 3 0 0 0/\e 35=.d (.sl (re.kids.map Re.cells))/\e 36=i64 1/\e 37=i64 i/\s=if i=0 then lS t root re (g+1) Pr.length Pr [] [] else lS t root re (g+1+lx) Pr.length Pr Q [[xd]])
   ⟨_,_,_,(bI.cut (s':=[gM t root (g+1) (Pr.length+1),jL (g+1) Pr [],aF re,⟨0,true,10,[re.cells.map .d++[.fu [],i64 Pr.length]]⟩]) 4 (by omega) (by simp [gM,jL,aF,Re.ae re,iD,bD,i64,o,ao]) (by have h1:=ky 4 0 Pr;unfold aQ ek at h1;simp only[List.all_cons,List.all_nil,aQ,jL,List.all_append,h1];simp [gM,aF,Re.ae re,ah,i64]) [0,5,35,36,37] (by simp [bB,aL,ah,i64];rfl)).trans (.JV (kJ (pre:=re.cells.map .d) (post:=[i64 Pr.length]) 3 1 rfl rfl (by simp [Re.ae re]))),0,rfl,by omega,by (try simp only[zU,Nat.reduceBEq,Nat.reduceShiftRight,Nat.reduceMod,Nat.reduceEqDiff,reduceIte]);(try rfl),by (try simp only[zU,Nat.reduceBEq,Nat.reduceShiftRight,Nat.reduceMod,Nat.reduceEqDiff,reduceIte]);(try rfl),by (try simp only[zU,Nat.reduceBEq,Nat.reduceShiftRight,Nat.reduceMod,Nat.reduceEqDiff,reduceIte]);(try rfl),by (try simp only[zU,Nat.reduceBEq,Nat.reduceShiftRight,Nat.reduceMod,Nat.reduceEqDiff,reduceIte]);(try rw[Of]);(try rfl),by (try simp only[zU,Nat.reduceBEq,Nat.reduceShiftRight,Nat.reduceMod,Nat.reduceEqDiff,reduceIte]);(try rfl),by simp [lS,dV]⟩ ?_
  rintro n e s ⟨i,rfl,hi,h0,h5,vX,A8,DF,rfl⟩
  rcases Nat.lt_or_ge i 1 with az|ib
  ·obtain rfl:i=0:=by omega
   rw[if_pos rfl]
   have aK:((0:Nat):Int)<1:=by decide
   simp only[zX,Nat.reduceShiftRight,Nat.reduceMod,Nat.reduceLT,Nat.reduceMul,Nat.reduceSub,Int.reduceToNat,Int.reduceNeg,Int.reduceLT,Int.reduceLE,Int.reduceEq,Nat.reduceEqDiff,Nat.reduceAdd,Nat.reduceLeDiff,reduceIte,reduceCtorEq,Nat.reduceBEq,i64,bV,iD,bD,lS,aF,Re.ae re,List.map_cons,List.map_nil,h0,h5,vX,A8,DF,aK,Of,Rj,List.length_map,List.getElem?_map,Option.map_some,Int.toNat_natCast,Int.natCast_zero]
   have eO:∀ptr:D,({ jL (g+1) Pr []with au:=(jL (g+1) Pr []).au.set Pr.length [.d ptr] }:VL.Obj)=ek (g+1) (Pr++[ptr]):=fun ptr=>by
    simp [jL,ek,List.set_append_right]
   refine HJ (ok:=dV re 0 Pr.length 0) (oa:=jL (g+1) Pr []) (g:=0) 5 3 1 Pr.length (by (try simp only[zU,Nat.reduceBEq,Nat.reduceShiftRight,Nat.reduceMod,Nat.reduceEqDiff,reduceIte]);exact h5) rfl rfl rfl (by simp [jL]) rfl (fun b a=>?_)
   rw[BO,eO]
   have sK:=sK (.sc (.pointer (some ⟨b,a,none⟩)))
   have KP:({ ek (g+1+lx) (Pr++[.sc (.pointer (some ⟨b,a,none⟩))]++Q) with au:=(ek (g+1+lx) (Pr++[.sc (.pointer (some ⟨b,a,none⟩))]++Q)).au.set Pr.length [.rf 3 0 0 0] }:VL.Obj)=jL (g+1+lx) Pr Q:=by
    simp [jL,ek,List.set_append_right]
   have Em:(ek (g+1+lx) (Pr++[.sc (.pointer (some ⟨b,a,none⟩))]++Q)).au[Pr.length]?=some [BO b a]:=by
    simp [ek,BO]
   have e0:∀n G,aP [0,1] (gM t root G n)=gM t root G n:=fun n G=>by simp [aP,gM,aJ,aJ.go]
   have e3:aQ 2 (gM t root (g+1) (Pr.length+1))=true:=by simp [gM,aQ,ah]
   simp only[List.set_cons_succ,List.set_cons_zero,Nat.add_zero]
   generalize Pr++[.sc (.pointer (some ⟨b,a,none⟩))]++Q=P2 at *
   generalize Pr++[.sc (.pointer (some ⟨b,a,none⟩))]=P1 at *
   refine ar mix [] [(2,[3],[]),(3,[3],[]),(4,[3],[]),(7,[0,1],[0,1]),(9,[4],[4]),(10,[3],[]),(11,[3],[]),(12,[3],[3])] (by rfl) ?_
   simp only[zX,Nat.reduceShiftRight,Nat.reduceMod,Nat.reduceLT,Nat.reduceMul,Nat.reduceSub,Int.reduceToNat,Int.reduceNeg,Int.reduceLT,Int.reduceLE,Int.reduceEq,Nat.reduceEqDiff,Nat.reduceAdd,Nat.reduceLeDiff,reduceIte,reduceCtorEq,Nat.reduceBEq,i64,bV,iD,bD,Re.ae re,List.map_cons,List.map_nil,h0,h5,vX,A8,DF,dV,List.cons_append,List.nil_append]
   refine vU [0,1] sK (by decide) rfl ?_ ?_ ?_ ?_ (r':=.d xd) rfl ?_
   ·simp only[List.map_cons,List.map_nil,e0,iB]
    rfl
   ·rw[aj];simp [aJ,aJ.go,i64,bV]
   ·rw[aj];simp [ah,ah.go,i64,bV]
   ·simp only[List.all_cons,List.all_nil,List.length_cons,List.length_nil,Nat.zero_add,Nat.reduceAdd,e3,ky,Bool.and_self]
   simp only[List.map_cons,List.map_nil,e0,iB,aH,List.set_cons_zero,List.set_cons_succ]
   simp only[zX,Nat.reduceShiftRight,Nat.reduceMod,Nat.reduceLT,Nat.reduceMul,Nat.reduceSub,Int.reduceToNat,Int.reduceNeg,Int.reduceLT,Int.reduceLE,Int.reduceEq,Nat.reduceEqDiff,Nat.reduceAdd,Nat.reduceLeDiff,reduceIte,reduceCtorEq,Nat.reduceBEq,i64,bV,iD,bD,h0,h5,vX,A8,DF,List.length_map,List.cons_append,List.nil_append]
   refine⟨rfl,fun e he=>by rw[List.mem_singleton.1 he];rfl,?_⟩
   refine⟨0,_,_,by omega,(bI.JV (bZ.RA (ok:=dV re 1 Pr.length 1) (oa:=ek (g+1+lx) P2) (g:=0) (b:=b) (a0:=a) 5 3 1 Pr.length (by (try simp only[zU,Nat.reduceBEq,Nat.reduceShiftRight,Nat.reduceMod,Nat.reduceEqDiff,reduceIte])) ?_ rfl rfl Em rfl)).trans (bI.cut (s':=lS t root re (g+1+lx) Pr.length Pr Q [[xd]]) 5 (by omega) ?_ (Oj t root re (g+1+lx) Pr.length Pr Q [[xd]]) [0,5,35,36,37] (by simp [bB,aL,ah,h0,h5,vX,A8,DF,i64])),1,rfl,by omega,?_,?_,?_,?_,?_,by rw[if_neg (by omega)];simp [lS,dV,aF,Re.ae re,iD,bD,i64]⟩ <;> (try simp only[zU,Nat.reduceBEq,Nat.reduceShiftRight,Nat.reduceMod,Nat.reduceEqDiff,reduceIte])
   ·simp [dV,Re.ae re,iD,bD,i64]
   ·simp only[List.set_cons_succ,List.set_cons_zero,KP,List.take_succ_cons,List.take_zero]
    simp [lS,dV,aF,Re.ae re,iD,bD,i64]
   ·exact h0
   ·exact vX
   ·exact A8
   ·rfl
  ·obtain rfl:i=1:=by omega
   rw[if_neg (by omega)]
   simp only[zX,Nat.reduceShiftRight,Nat.reduceMod,Nat.reduceLT,Nat.reduceMul,Nat.reduceSub,Int.reduceToNat,Int.reduceNeg,Int.reduceLT,Int.reduceLE,Int.reduceEq,Nat.reduceEqDiff,Nat.reduceAdd,Nat.reduceLeDiff,reduceIte,reduceCtorEq,Nat.reduceBEq,i64,bV,iD,bD,h0,h5,vX,A8,DF,Int.lt_irrefl,Int.natCast_one,HK]
   refine AU _ ?_
   exact⟨by simp [Re.ae re,iD,bD,o],by simp [Re.ae re,iD,bD,o,gM,ek]⟩
theorem L1 (t:List Int) (root:D) (re:Re):re.every nt=true->sE t root re:=by
 refine Re.ind (Q:=fun re=>re.every nt=true->sE t root re) (fun re ih hs=>?_) re
 obtain⟨gX,pj⟩:=(Re.aS re).1 hs
 obtain⟨q1,q2,q3,_⟩:=kP.1 gX
 have hK:∀x∈re.kids,sE t root x:=fun x hx=>ih x hx (pj x hx)
 by_cases ho:re.op=7\/re.op=8
 ·obtain⟨x,hx⟩:∃x,re.kids=[x]:=List.length_eq_one_iff.1 (q1 (by omega))
  exact I2 t root re x ho hx (hK x (by rw[hx];simp))
 ·exact Gd t root re (by omega) (by omega) q3 hK
end Go.Proofs.Ytfmdmlfhigocaaa
