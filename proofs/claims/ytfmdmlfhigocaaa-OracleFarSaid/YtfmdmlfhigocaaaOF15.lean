/- A part of the proof (F72 K0 O3 G4 G2). -/
import Derived.Test.YtfmdmlfhigocaaaOF10
import Derived.Test.YtfmdmlfhigocaaaOF13
import Derived.Test.YtfmdmlfhigocaaaOF14
set_option linter.unusedSimpArgs false
set_option linter.unusedVariables false
set_option maxRecDepth 100000
set_option maxHeartbeats 80000000
set_option linter.unusedSimpArgs false
set_option linter.unusedVariables false
namespace Go.Proofs.Ytfmdmlfhigocaaa
open Go.VL Go.Proofs.Try
theorem yp {σ:Gh}{s:List VL.Obj}{w:World} (hI:Inv σ s w) {o:VL.Obj}{pre post:List V} (k sz:Nat) (ho:s[k]?=some o) (fv:o.au=[pre++.fu []::post]) (fo:pre.length+1+post.length=o.sz) :
  ∃σ',aA σ s w σ' (s.set k { o with au:=[pre++.so s.length 0 0 0::post] }++[⟨0,true,sz,[]⟩]) w/\Inv σ' (s.set k { o with au:=[pre++.so s.length 0 0 0::post] }++[⟨0,true,sz,[]⟩]) w:=by
 have hk:=(List.getElem?_eq_some_iff.1 ho).1
 have hp:=l9 (p:=none) (o':=⟨0,true,sz,[]⟩) (w':=w) hI rfl rfl rfl (Nat.le_refl _) (fun _ _=>rfl) (fun _ _ h'=>by cases h') (fun _=>.inl (.inl ⟨rfl,rfl⟩))
 have KM:(s++[(⟨0,true,sz,[]⟩:VL.Obj)])[k]?=some o:=by rw[List.getElem?_append_left hk];exact ho
 have hr:=yk hp.2 (els':=[pre++.so s.length 0 0 0::post]) KM (by intro e he;rw[List.mem_singleton.1 he];simp;omega) (by rw[fv];rfl) (by
  intro es he
  rw[fv]at he
  have hm:(pre++.fu []::post)∈eB es:=by rw[<- he];exact List.mem_singleton.2 rfl
  unfold eB at hm
  obtain⟨x,_,hx⟩:=List.mem_map.1 hm
  have hf:V.fu []∈[V.d (.sc x.key),V.d (.sc x.val)]:=by rw[hx];simp
  simp at hf) (fun i j x' hx=>by
  rw[fv]
  cases i with
  |succ i=>simp at hx
  |zero =>
   simp only[List.getElem?_cons_zero,Option.bind_some]at hx ⊢
   by_cases hj:j=pre.length
   ·subst hj
    rw[List.getElem?_append_right (Nat.le_refl _),Nat.sub_self]at hx ⊢
    simp only[List.getElem?_cons_zero,Option.some.injEq]at hx ⊢
    subst hx
    refine⟨_,rfl,fun u hu=>?_⟩
    cases hu with|fu hx=>?_
    exact .so ⟨0,true,sz,[]⟩ (by simp) (Nat.le_refl _) ⟨_,_,rfl⟩ (fun _=>.inl ⟨bH _ _ _,⟨_,rfl⟩,rfl,rfl⟩)
   ·refine⟨x',?_,fun u hu=>hu⟩
    rcases Nat.lt_or_ge j pre.length with az|ib
    ·rw[List.getElem?_append_left az]at hx ⊢;exact hx
    ·rw[List.getElem?_append_right ib]at hx ⊢
     cases hm:j-pre.length with
     |zero=>omega
     |succ m=>rw[hm]at hx;simpa using hx)
 have eO:(s++[(⟨0,true,sz,[]⟩:VL.Obj)]).set k { o with au:=[pre++.so s.length 0 0 0::post] }=s.set k { o with au:=[pre++.so s.length 0 0 0::post] }++[⟨0,true,sz,[]⟩]:=by
  rw[List.set_append_left _ _ hk]
 rw[eO]at hr
 exact⟨_,hp.1.trans hr.1,hr.2⟩
theorem nD {lim id g lo n sz:Nat}{live:Bool}{s:List VL.Obj}{au:List (List V)}{ds:List (List D)} (ho:s[id]?=some ⟨g,live,sz,au⟩) (he:(au.drop lo).take n=ds.map (fun c=>c.map V.d)) (hn:lo+n<=au.length) (hl:lim<=id\/live=false) :
  bh lim s (.so id g lo n)=some (.d (.sl ds)):=by
 simp only[bh,cA,ho,true_and]
 rw[if_pos ⟨hn,hl⟩,he,qu]
 rfl
theorem mA {e:Env}{s:List VL.Obj} (t sz:Nat) (h:e t=.fu []):bZ e s (bB e t (.so s.length 0 0 0)) (s++[⟨0,true,sz,[]⟩]):=by
 intro σ0 s0 w0 σ w N a hE hI hR
 have hp:=l9 (p:=none) (o':=⟨0,true,sz,[]⟩) (w':=w) hI rfl rfl rfl (Nat.le_refl _) (fun _ _=>rfl) (fun _ _ h'=>by cases h') (fun _=>.inl (.inl ⟨rfl,rfl⟩))
 refine⟨_,hE.trans hp.1,hp.2,hR.1,hR.2.1,fun k=>?_⟩
 by_cases hk:k=t
 ·subst hk
  have hu:=(hR.2.2 k).aO hp.1
  rw[h]at hu
  rw[bB,if_pos rfl]
  generalize a.tmps.getD k undef=u at hu
  cases hu with|fu hx=>?_
  exact .so ⟨0,true,sz,[]⟩ (by simp) (Nat.le_refl _) ⟨_,_,rfl⟩ (fun _=>.inl ⟨bH _ _ _,⟨_,rfl⟩,rfl,rfl⟩)
 ·rw[bB,if_neg hk]
  exact(hR.2.2 k).aO hp.1
theorem kJ {e:Env}{s:List VL.Obj}{o:VL.Obj}{pre post:List V} (k sz:Nat) (ho:s[k]?=some o) (fv:o.au=[pre++.fu []::post]) (fo:pre.length+1+post.length=o.sz) :
  bZ e s e (s.set k { o with au:=[pre++.so s.length 0 0 0::post] }++[⟨0,true,sz,[]⟩]):=by
 intro σ0 s0 w0 σ w N a hE hI hR
 obtain⟨σ',h1,h2⟩:=yp hI k sz ho fv fo
 exact⟨σ',hE.trans h1,h2,hR.aO h1⟩
def Re.kf (re:Re):Bool:=decide (re.op=7\/re.op=8)
mutual
def Re.looks:Re->Nat
 |.mk op _ kids _ _ _ _ _=>(if op=7\/op=8 then 1 else 0)+Re.aN kids
def Re.aN:List Re->Nat
 |[]=>0
 |k::l=>k.looks+Re.aN l
end
mutual
def Re.aY:Re->Nat->D
 |.mk op set kids mn mx mode n neg,k=>.el [iD op,.sl (set.map aV),.sl (kids.map Re.cells),iD mn,iD mx,iD mode,iD n,bD neg,.sl (Re.dg kids (k+if op=7\/op=8 then 1 else 0)),iD k]
def Re.dg:List Re->Nat->List (List D)
 |[],_=>[]
 |x::l,k=>[x.aY k]::Re.dg l (k+x.looks)
end
theorem Re.iu (re:Re):re.looks=(if re.op=7\/re.op=8 then 1 else 0)+Re.aN re.kids:=by cases re;rfl
theorem Re.dw (re:Re) (k:Nat):re.aY k=.el [iD re.op,.sl (re.set.map aV),.sl (re.kids.map Re.cells),iD re.mn,iD re.mx,iD re.mode,iD re.n,bD re.neg,.sl (Re.dg re.kids (k+if re.op=7\/re.op=8 then 1 else 0)),iD k]:=by
 cases re;rfl
theorem Re.mb:∀(l:List Re) (k:Nat),(Re.dg l k).length=l.length
 |[],_=>rfl
 |x::l,k=>by simp [Re.dg,Re.mb l]
def cV (t:List Int) (root parts:D) (bg nb:Nat):VL.Obj:=⟨0,true,4,[[.d (ao t),.d root,.d parts,.so 1 bg 0 nb]]⟩
def ez (bg:Nat) (Bs:List (List Bool)):VL.Obj:=⟨bg,true,1,Bs.map fun l=>[.d (.sl (l.map fun b=>[bD b]))]⟩
theorem fe (n bg:Nat) (Bs:List (List Bool)):((ez bg Bs).au.all fun e=>e.all (ah n))=true:=by
 unfold ez
 rw[List.all_eq_true]
 intro e he
 obtain⟨l,_,rfl⟩:=List.mem_map.1 he
 rfl
theorem bK {e0 v:V}:sa e0 (.bx v)=.bx v:=(rfl)
theorem aG {id g i off b a:Nat}:du (.pp id g i off b a)=some [.pp id g i off b a]:=rfl
theorem Nc (l:List (Int×Int)) (x:Int) (hl:l.length<=1000000):ba Try.prog 58 [.d (.sl (l.map aV)),i64 x] (bV (Ba l x)):=by
 refine an Try.func58 rfl Try.ntmps58 Try.results58 rfl 0 979 (by simp) (by simp) ?_
 simp only[zX,Nat.reduceShiftRight,Nat.reduceMod,Nat.reduceLT,Nat.reduceMul,Nat.reduceSub,Int.reduceToNat,Int.reduceNeg,Int.reduceLT,Int.reduceLE,Int.reduceEq,Nat.reduceEqDiff,Nat.reduceAdd,Nat.reduceLeDiff,reduceIte,reduceCtorEq,Nat.reduceBEq,i64,List.length_map]
 refine ay (fun n e s=>∃i:Nat,n=l.length-i/\i<=l.length/\e 1=i64 x/\e 7=.d (.sl (l.map aV))/\e 8=i64 l.length/\e 9=i64 i/\s=[]/\(l.take i).any (fun s=>decide (s.1<=x)&&decide (x<=s.2))=false)
  ⟨_,_,_,bI.refl,0,rfl,by omega,rfl,rfl,rfl,rfl,rfl,by simp⟩ ?_
 rintro n e s ⟨i,rfl,hi,h1,h7,h8,h9,rfl,lM⟩
 rcases Nat.lt_or_ge i l.length with az|ib
 ·obtain⟨k,hk⟩:∃k,l[i]?=some k:=⟨_,List.getElem?_eq_getElem az⟩
  have aK:(i:Int)<l.length:=by omega
  have hm:=List.mem_of_getElem? hk
  by_cases c1:k.1<=x
  ·by_cases c2:x<=k.2
   ·simp only[zX,Nat.reduceShiftRight,Nat.reduceMod,Nat.reduceLT,Nat.reduceMul,Nat.reduceSub,Int.reduceToNat,Int.reduceNeg,Int.reduceLT,Int.reduceLE,Int.reduceEq,Nat.reduceEqDiff,Nat.reduceAdd,Nat.reduceLeDiff,reduceIte,reduceCtorEq,Nat.reduceBEq,i64,bV,iD,bD,aV,h1,h7,h8,h9,aK,hk,c1,c2]
    have:Ba l x=true:=List.any_eq_true.2 ⟨k,hm,by simp [c1,c2]⟩
    rw[this]
   ·simp only[zX,Nat.reduceShiftRight,Nat.reduceMod,Nat.reduceLT,Nat.reduceMul,Nat.reduceSub,Int.reduceToNat,Int.reduceNeg,Int.reduceLT,Int.reduceLE,Int.reduceEq,Nat.reduceEqDiff,Nat.reduceAdd,Nat.reduceLeDiff,reduceIte,reduceCtorEq,Nat.reduceBEq,i64,bV,iD,bD,aV,h1,h7,h8,h9,aK,hk,c1,c2]
    refine⟨l.length-(i+1),_,_,by omega,bI.cut (s':=[]) 0 (by omega) rfl rfl [1,7,8,9] (by simp [bB,aL,ah,h1,h7,h8,h9,i64]),i+1,rfl,az,?_,?_,?_,?_,rfl,by rw[bt hk,List.any_append,lM];simp [c2]⟩ <;> (try simp only[zU,Nat.reduceBEq,Nat.reduceShiftRight,Nat.reduceMod,Nat.reduceEqDiff,reduceIte])
    ·exact h1
    ·exact h7
    ·exact h8
    ·rw[br _ (by omega)];rfl
  ·simp only[zX,Nat.reduceShiftRight,Nat.reduceMod,Nat.reduceLT,Nat.reduceMul,Nat.reduceSub,Int.reduceToNat,Int.reduceNeg,Int.reduceLT,Int.reduceLE,Int.reduceEq,Nat.reduceEqDiff,Nat.reduceAdd,Nat.reduceLeDiff,reduceIte,reduceCtorEq,Nat.reduceBEq,i64,bV,iD,bD,aV,h1,h7,h8,h9,aK,hk,c1]
   refine⟨l.length-(i+1),_,_,by omega,bI.cut (s':=[]) 0 (by omega) rfl rfl [1,7,8,9] (by simp [bB,aL,ah,h1,h7,h8,h9,i64]),i+1,rfl,az,?_,?_,?_,?_,rfl,by rw[bt hk,List.any_append,lM];simp [c1]⟩ <;> (try simp only[zU,Nat.reduceBEq,Nat.reduceShiftRight,Nat.reduceMod,Nat.reduceEqDiff,reduceIte])
   ·exact h1
   ·exact h7
   ·exact h8
   ·rw[br _ (by omega)];rfl
 ·have eQ:i=l.length:=by omega
  subst eQ
  have aK:¬(l.length:Int)<l.length:=by omega
  rw[List.take_length]at lM
  simp only[zX,Nat.reduceShiftRight,Nat.reduceMod,Nat.reduceLT,Nat.reduceMul,Nat.reduceSub,Int.reduceToNat,Int.reduceNeg,Int.reduceLT,Int.reduceLE,Int.reduceEq,Nat.reduceEqDiff,Nat.reduceAdd,Nat.reduceLeDiff,reduceIte,reduceCtorEq,Nat.reduceBEq,i64,bV,iD,bD,h1,h7,h8,h9,aK]
  have:Ba l x=false:=lM
  rw[this]
theorem Hk (x:Int):ba prog 107 [i64 x] (bV (oV x)):=by
 refine an func107 rfl ntmps107 results107 rfl 0 5 (by simp) (by simp) ?_
 simp only[zX,simprocAttr,i64]
 repeat' (first
 |(with_reducible refine And.intro (by first|omega|exact⟨by omega,by omega⟩|(simp;done)) ?_)
 |(with_reducible refine jc (fun hc=>?_) (fun hc=>?_) <;> simp only[zX,simprocAttr,i64,ge_iff_le,hc])
 |(with_reducible refine dj (fun hc=>?_) (fun hc=>?_) <;> simp only[zX,simprocAttr,i64,ge_iff_le,hc])
 |(with_reducible refine di (fun hc=>?_) (fun hc=>?_) <;> simp only[zX,simprocAttr,i64,ge_iff_le,hc])
 |(with_reducible refine cF (fun hc=>?_) (fun hc=>?_) <;> simp only[zX,simprocAttr,i64,ge_iff_le,hc])
 |(with_reducible refine cE (fun hc=>?_) (fun hc=>?_) <;> simp only[zX,simprocAttr,i64,ge_iff_le,hc])
 |(with_reducible refine fL (fun hc=>?_) (fun hc=>?_) <;> simp only[zX,simprocAttr,i64,ge_iff_le,hc])
 |(with_reducible refine df (fun hc=>?_) (fun hc=>?_) <;> simp only[zX,simprocAttr,i64,ge_iff_le,hc]))
 all_goals (simp only[oV,bV];simp [*];try omega)
theorem R5 (l:List (Int×Int)) (x:Int) (hl:l.length<=1000000000):ba prog 102 [.d (.sl (l.map aV)),i64 x] (bV (Ba l x)):=by
 refine an func102 rfl ntmps102 results102 rfl 0 51 (by simp) (by simp) ?_
 simp only[zX,simprocAttr,i64]
 refine ay (fun n e s=>∃i:Nat,n=l.length-i/\i<=l.length/\e 0=.d (.sl (l.map aV))/\e 1=i64 x/\e 5=i64 i/\s=[]/\Ba (l.take i) x=false)
  ⟨_,_,_,bI.refl,0,rfl,by omega,rfl,rfl,rfl,rfl,rfl⟩ ?_
 rintro n e s ⟨i,rfl,hi,h0,h1,h5,rfl,lM⟩
 rcases Nat.lt_or_ge i l.length with az|ib
 ·obtain⟨y,hy⟩:∃y,l[i]?=some y:=⟨_,List.getElem?_eq_getElem az⟩
  have hm:=List.mem_of_getElem? hy
  have V4:decide (y.1<=x)=true->decide (x<=y.2)=true->Ba l x=true:=fun h1 h2=>by
   unfold Ba;rw[List.any_eq_true];exact⟨y,hm,by rw[h1,h2];rfl⟩
  have Sp:¬(y.1<=x/\x<=y.2)->Ba (l.take (i+1)) x=false:=fun h=>by
   rw[bt hy]
   unfold Ba at lM ⊢
   rw[List.any_append,lM]
   have:(decide (y.1<=x)&&decide (x<=y.2))=false:=by
    rw[Bool.eq_false_iff];intro hc
    simp only[Bool.and_eq_true,decide_eq_true_eq]at hc
    exact h hc
   simp [this]
  by_cases c1:y.1<=x
  ·by_cases c2:x<=y.2
   ·rw[V4 (decide_eq_true c1) (decide_eq_true c2)]
    simp only[zX,simprocAttr,i64,h0,h1,h5,az,hy,aV,iD,c1,c2]
    all_goals first|exact⟨rfl,rfl⟩|exact⟨rfl,trivial⟩|rfl|trivial|(rw[aj];rfl)
   ·simp only[zX,simprocAttr,i64,h0,h1,h5,az,hy,aV,iD,c1,c2]
    refine⟨l.length-(i+1),_,_,by omega,bI.refl,i+1,rfl,az,?_,?_,?_,rfl,Sp (fun h=>c2 h.2)⟩ <;> (try simp only[zU,Nat.reduceBEq,Nat.reduceShiftRight,Nat.reduceMod,Nat.reduceEqDiff,reduceIte])
    ·exact h0
    ·exact h1
    ·rw[br _ (by omega)];rfl
  ·simp only[zX,simprocAttr,i64,h0,h1,h5,az,hy,aV,iD,c1]
   refine⟨l.length-(i+1),_,_,by omega,bI.refl,i+1,rfl,az,?_,?_,?_,rfl,Sp (fun h=>c1 h.1)⟩ <;> (try simp only[zU,Nat.reduceBEq,Nat.reduceShiftRight,Nat.reduceMod,Nat.reduceEqDiff,reduceIte])
   ·exact h0
   ·exact h1
   ·rw[br _ (by omega)];rfl
 ·have eQ:i=l.length:=by omega
  subst eQ
  rw[List.take_length]at lM
  rw[lM]
  simp only[zX,simprocAttr,i64,h0,h1,h5,Nat.lt_irrefl]
  all_goals first|exact⟨rfl,rfl⟩|exact⟨rfl,trivial⟩|rfl|trivial|(rw[aj];rfl)
theorem lF {t:List Int}{i:Int} (h0:0<=i) (h1:i<t.length):t[i.toNat]?=some (kW t i):=by
 unfold kW
 rw[List.getElem?_eq_getElem (by omega)]
 simp [List.getD,List.getElem?_eq_getElem (show i.toNat<t.length by omega)]
theorem KV (n:Int) (t:List Int) (i:Int) (ht:t.length<=1000000) (h0:0<=i) (h1:i<=t.length):ba prog 105 [i64 n,.d (ao t),i64 i] (bV (bP n t i)):=by
 have w1:IntKind.i64.wrap (i-1)=i-1:=br _ (by omega)
 have hw:=Hk (kW t (i-1))
 have OT:=Hk (kW t i)
 simp only[i64,bV]at hw OT
 have sq:(n=0)\/(¬n=0/\n=1)\/(¬n=0/\¬n=1/\n=2)\/(¬n=0/\¬n=1/\¬n=2/\n=3)\/(¬n=0/\¬n=1/\¬n=2/\¬n=3/\n=4)\/(¬n=0/\¬n=1/\¬n=2/\¬n=3/\¬n=4):=by omega
 have Sn:0<i->t[(i-1).toNat]?=some (kW t (i-1)):=fun h=>lF (by omega) (by omega)
 have Q9:i<t.length->t[i.toNat]?=some (kW t i):=fun h=>lF h0 h
 by_cases c1:0<i
 ·by_cases c2:i<(t.length:Int)
  ·have hl:mC t i=oV (kW t (i-1)):=by simp [mC,c1]
   have hr:jB t i=oV (kW t i):=by simp [jB,c2]
   have b1:0<=i-1:=by omega
   have b2:i-1<(t.length:Int):=by omega
   have g1:=Sn c1
   have n0:¬i=0:=by omega
   have ef:decide (i=0)=false:=decide_eq_false n0
   have g2:=Q9 c2
   have n1:¬i=(t.length:Int):=by omega
   have np:decide (i=(t.length:Int))=false:=decide_eq_false n1
   refine an func105 rfl ntmps105 results105 rfl 0 1073742279 (by simp) (by simp) ?_
   simp only[zX,simprocAttr,i64,iD,ao,c1,c2,w1,gt_iff_lt,h0,g1,b1,b2,g2]
   refine al hw rfl rfl ?_
   simp only[zX,simprocAttr,i64,iD,ao,c1,c2,w1,gt_iff_lt,h0,g1,b1,b2,g2]
   refine al OT rfl rfl ?_
   rcases sq with a|⟨a,b⟩|⟨a,b,c⟩|⟨a,b,c,d⟩|⟨a,b,c,d,f⟩|⟨a,b,c,d,f⟩
   ·simp only[zX,simprocAttr,i64,iD,ao,c1,c2,w1,gt_iff_lt,h0,g1,b1,b2,g2,n0,n1,a]
    all_goals (simp only[bP,a,hl,hr,ef,np,bV,Int.reduceEq,if_true,if_false,reduceIte,Bool.true_or,Bool.false_or];try rfl)
   ·simp only[zX,simprocAttr,i64,iD,ao,c1,c2,w1,gt_iff_lt,h0,g1,b1,b2,g2,n0,n1,a,b]
    all_goals (simp only[bP,a,b,hl,hr,ef,np,bV,Int.reduceEq,if_true,if_false,reduceIte,Bool.true_or,Bool.false_or];try rfl)
   ·simp only[zX,simprocAttr,i64,iD,ao,c1,c2,w1,gt_iff_lt,h0,g1,b1,b2,g2,n0,n1,a,b,c]
    all_goals (simp only[bP,a,b,c,hl,hr,ef,np,bV,Int.reduceEq,if_true,if_false,reduceIte,Bool.true_or,Bool.false_or];try rfl)
   ·simp only[zX,simprocAttr,i64,iD,ao,c1,c2,w1,gt_iff_lt,h0,g1,b1,b2,g2,n0,n1,a,b,c,d]
    all_goals (simp only[bP,a,b,c,d,hl,hr,ef,np,bV,Int.reduceEq,if_true,if_false,reduceIte,Bool.true_or,Bool.false_or];try rfl)
   ·simp only[zX,simprocAttr,i64,iD,ao,c1,c2,w1,gt_iff_lt,h0,g1,b1,b2,g2,n0,n1,a,b,c,d,f]
    all_goals (simp only[bP,a,b,c,d,f,hl,hr,ef,np,bV,Int.reduceEq,if_true,if_false,reduceIte,Bool.true_or,Bool.false_or];try rfl)
   ·simp only[zX,simprocAttr,i64,iD,ao,c1,c2,w1,gt_iff_lt,h0,g1,b1,b2,g2,n0,n1,a,b,c,d,f]
    all_goals (simp only[bP,a,b,c,d,f,hl,hr,ef,np,bV,Int.reduceEq,if_true,if_false,reduceIte,Bool.true_or,Bool.false_or];try rfl)
  ·have hl:mC t i=oV (kW t (i-1)):=by simp [mC,c1]
   have hr:jB t i=false:=by simp [jB,c2]
   have b1:0<=i-1:=by omega
   have b2:i-1<(t.length:Int):=by omega
   have g1:=Sn c1
   have n0:¬i=0:=by omega
   have ef:decide (i=0)=false:=decide_eq_false n0
   have n1:i=(t.length:Int):=by omega
   have np:decide (i=(t.length:Int))=true:=decide_eq_true n1
   refine an func105 rfl ntmps105 results105 rfl 0 1073742279 (by simp) (by simp) ?_
   simp only[zX,simprocAttr,i64,iD,ao,c1,c2,w1,gt_iff_lt,h0,g1,b1,b2]
   refine al hw rfl rfl ?_
   simp only[zX,simprocAttr,i64,iD,ao,c1,c2,w1,gt_iff_lt,h0,g1,b1,b2]
   have e1:(i=(t.length:Int))=True:=eq_true n1
   rcases sq with a|⟨a,b⟩|⟨a,b,c⟩|⟨a,b,c,d⟩|⟨a,b,c,d,f⟩|⟨a,b,c,d,f⟩
   ·simp only[zX,simprocAttr,i64,iD,ao,c1,c2,w1,gt_iff_lt,h0,g1,b1,b2,n0,e1,a]
    all_goals (simp only[bP,a,hl,hr,ef,np,bV,Int.reduceEq,if_true,if_false,reduceIte,Bool.true_or,Bool.false_or];try rfl)
   ·simp only[zX,simprocAttr,i64,iD,ao,c1,c2,w1,gt_iff_lt,h0,g1,b1,b2,n0,e1,a,b]
    all_goals (simp only[bP,a,b,hl,hr,ef,np,bV,Int.reduceEq,if_true,if_false,reduceIte,Bool.true_or,Bool.false_or];try rfl)
   ·simp only[zX,simprocAttr,i64,iD,ao,c1,c2,w1,gt_iff_lt,h0,g1,b1,b2,n0,e1,a,b,c]
    all_goals (simp only[bP,a,b,c,hl,hr,ef,np,bV,Int.reduceEq,if_true,if_false,reduceIte,Bool.true_or,Bool.false_or];try rfl)
   ·simp only[zX,simprocAttr,i64,iD,ao,c1,c2,w1,gt_iff_lt,h0,g1,b1,b2,n0,e1,a,b,c,d]
    all_goals (simp only[bP,a,b,c,d,hl,hr,ef,np,bV,Int.reduceEq,if_true,if_false,reduceIte,Bool.true_or,Bool.false_or];try rfl)
   ·simp only[zX,simprocAttr,i64,iD,ao,c1,c2,w1,gt_iff_lt,h0,g1,b1,b2,n0,e1,a,b,c,d,f]
    all_goals (simp only[bP,a,b,c,d,f,hl,hr,ef,np,bV,Int.reduceEq,if_true,if_false,reduceIte,Bool.true_or,Bool.false_or];try rfl)
   ·simp only[zX,simprocAttr,i64,iD,ao,c1,c2,w1,gt_iff_lt,h0,g1,b1,b2,n0,e1,a,b,c,d,f]
    all_goals (simp only[bP,a,b,c,d,f,hl,hr,ef,np,bV,Int.reduceEq,if_true,if_false,reduceIte,Bool.true_or,Bool.false_or];try rfl)
 ·by_cases c2:i<(t.length:Int)
  ·have hl:mC t i=false:=by simp [mC,c1]
   have hr:jB t i=oV (kW t i):=by simp [jB,c2]
   have n0:i=0:=by omega
   have ef:decide (i=0)=true:=decide_eq_true n0
   have g2:=Q9 c2
   have n1:¬i=(t.length:Int):=by omega
   have np:decide (i=(t.length:Int))=false:=decide_eq_false n1
   refine an func105 rfl ntmps105 results105 rfl 0 1073742279 (by simp) (by simp) ?_
   simp only[zX,simprocAttr,i64,iD,ao,c1,c2,w1,gt_iff_lt,h0,g2]
   refine al OT rfl rfl ?_
   have e0:(i=0)=True:=eq_true n0
   rcases sq with a|⟨a,b⟩|⟨a,b,c⟩|⟨a,b,c,d⟩|⟨a,b,c,d,f⟩|⟨a,b,c,d,f⟩
   ·simp only[zX,simprocAttr,i64,iD,ao,c1,c2,w1,gt_iff_lt,h0,g2,n1,e0,a]
    all_goals (simp only[bP,a,hl,hr,ef,np,bV,Int.reduceEq,if_true,if_false,reduceIte,Bool.true_or,Bool.false_or];try rfl)
   ·simp only[zX,simprocAttr,i64,iD,ao,c1,c2,w1,gt_iff_lt,h0,g2,n1,e0,a,b]
    all_goals (simp only[bP,a,b,hl,hr,ef,np,bV,Int.reduceEq,if_true,if_false,reduceIte,Bool.true_or,Bool.false_or];try rfl)
   ·simp only[zX,simprocAttr,i64,iD,ao,c1,c2,w1,gt_iff_lt,h0,g2,n1,e0,a,b,c]
    all_goals (simp only[bP,a,b,c,hl,hr,ef,np,bV,Int.reduceEq,if_true,if_false,reduceIte,Bool.true_or,Bool.false_or];try rfl)
   ·simp only[zX,simprocAttr,i64,iD,ao,c1,c2,w1,gt_iff_lt,h0,g2,n1,e0,a,b,c,d]
    all_goals (simp only[bP,a,b,c,d,hl,hr,ef,np,bV,Int.reduceEq,if_true,if_false,reduceIte,Bool.true_or,Bool.false_or];try rfl)
   ·simp only[zX,simprocAttr,i64,iD,ao,c1,c2,w1,gt_iff_lt,h0,g2,n1,e0,a,b,c,d,f]
    all_goals (simp only[bP,a,b,c,d,f,hl,hr,ef,np,bV,Int.reduceEq,if_true,if_false,reduceIte,Bool.true_or,Bool.false_or];try rfl)
   ·simp only[zX,simprocAttr,i64,iD,ao,c1,c2,w1,gt_iff_lt,h0,g2,n1,e0,a,b,c,d,f]
    all_goals (simp only[bP,a,b,c,d,f,hl,hr,ef,np,bV,Int.reduceEq,if_true,if_false,reduceIte,Bool.true_or,Bool.false_or];try rfl)
  ·have hl:mC t i=false:=by simp [mC,c1]
   have hr:jB t i=false:=by simp [jB,c2]
   have n0:i=0:=by omega
   have ef:decide (i=0)=true:=decide_eq_true n0
   have n1:i=(t.length:Int):=by omega
   have np:decide (i=(t.length:Int))=true:=decide_eq_true n1
   refine an func105 rfl ntmps105 results105 rfl 0 1073742279 (by simp) (by simp) ?_
   simp only[zX,simprocAttr,i64,iD,ao,c1,c2,w1,gt_iff_lt,h0]
   have e0:(i=0)=True:=eq_true n0
   have e1:(i=(t.length:Int))=True:=eq_true n1
   rcases sq with a|⟨a,b⟩|⟨a,b,c⟩|⟨a,b,c,d⟩|⟨a,b,c,d,f⟩|⟨a,b,c,d,f⟩
   ·simp only[zX,simprocAttr,i64,iD,ao,c1,c2,w1,gt_iff_lt,h0,e0,e1,a]
    all_goals (simp only[bP,a,hl,hr,ef,np,bV,Int.reduceEq,if_true,if_false,reduceIte,Bool.true_or,Bool.false_or];try rfl)
   ·simp only[zX,simprocAttr,i64,iD,ao,c1,c2,w1,gt_iff_lt,h0,e0,e1,a,b]
    all_goals (simp only[bP,a,b,hl,hr,ef,np,bV,Int.reduceEq,if_true,if_false,reduceIte,Bool.true_or,Bool.false_or];try rfl)
   ·simp only[zX,simprocAttr,i64,iD,ao,c1,c2,w1,gt_iff_lt,h0,e0,e1,a,b,c]
    all_goals (simp only[bP,a,b,c,hl,hr,ef,np,bV,Int.reduceEq,if_true,if_false,reduceIte,Bool.true_or,Bool.false_or];try rfl)
   ·simp only[zX,simprocAttr,i64,iD,ao,c1,c2,w1,gt_iff_lt,h0,e0,e1,a,b,c,d]
    all_goals (simp only[bP,a,b,c,d,hl,hr,ef,np,bV,Int.reduceEq,if_true,if_false,reduceIte,Bool.true_or,Bool.false_or];try rfl)
   ·simp only[zX,simprocAttr,i64,iD,ao,c1,c2,w1,gt_iff_lt,h0,e0,e1,a,b,c,d,f]
    all_goals (simp only[bP,a,b,c,d,f,hl,hr,ef,np,bV,Int.reduceEq,if_true,if_false,reduceIte,Bool.true_or,Bool.false_or];try rfl)
   ·simp only[zX,simprocAttr,i64,iD,ao,c1,c2,w1,gt_iff_lt,h0,e0,e1,a,b,c,d,f]
    all_goals (simp only[bP,a,b,c,d,f,hl,hr,ef,np,bV,Int.reduceEq,if_true,if_false,reduceIte,Bool.true_or,Bool.false_or];try rfl)
section mono
variable {rec rec':Int->Task->bq->Option (Bool×bq)} (h:∀m task st r,rec m task st=some r->rec' m task st=some r)
include h
theorem fI {g:Goal}{i:Int}{c:aE}{st:bq}{r:Option (Int×aE)×bq} (hr:ff rec g i c st=some r):ff rec' g i c st=some r:=by
 unfold ff at hr ⊢
 cases hx:rec 1 (.run g i c) ⟨st.steps,false,[],[]⟩ with
 |none=>rw[hx]at hr;cases hr
 |some x=>rw[hx]at hr;rw[h _ _ _ _ hx];exact hr
omit h in
theorem qk {a a':Option (Bool×bq)}{k k':bq->Option (Bool×bq)} (h1:∀r,a=some r->a'=some r) (h2:∀s r,k s=some r->k' s=some r) {r:Bool×bq} (hr:FJ a k=some r):FJ a' k'=some r:=by
 cases a with
 |none=>cases hr
 |some x =>
  rw[h1 x rfl]
  obtain⟨b,s⟩:=x
  cases b with
  |true=>exact hr
  |false=>exact h2 s r hr
omit h in
theorem nZ {f f':Int->bq->Option (Option (Int×aE)×bq)} (hf:∀k st r,f k st=some r->f' k st=some r):∀(n:Nat) (st:bq) (r:Option aE×bq),iH f n st=some r->iH f' n st=some r
 |0,_,_,hr=>hr
 |n+1,st,r,hr=>by
  simp only[iH]at hr ⊢
  by_cases he:st.empty=true
  ·rw[if_pos he]at hr ⊢;exact hr
  ·rw[if_neg he]at hr ⊢
   cases hx:f n st with
   |none=>rw[hx]at hr;cases hr
   |some x =>
    rw[hx]at hr
    rw[hf _ _ _ hx]
    obtain⟨o,s⟩:=x
    cases o with
    |none=>exact nZ hf n s r hr
    |some p=>exact hr
theorem sU {op:Int}{kid:Re}{i:Int}{c:aE}{st:bq}{r:Option aE×bq} (hr:oZ rec op kid i c st=some r):oZ rec' op kid i c st=some r:=by
 unfold oZ at hr ⊢
 by_cases o:op=7
 ·rw[if_pos o]at hr ⊢
  cases hx:ff rec (.mk 0 kid 0 0 .nil) i c st with
  |none=>rw[hx]at hr;cases hr
  |some x=>rw[hx]at hr;rw[fI h hx];exact hr
 ·rw[if_neg o]at hr ⊢
  exact nZ (fun k st r hr=>fI h hr) _ _ _ hr
omit h in
theorem vI {f f':Re->bq->Option (Bool×bq)} (hf:∀k st r,f k st=some r->f' k st=some r):∀(l:List Re) (st:bq) (r:Bool×bq),yf f l st=some r->yf f' l st=some r
 |[],_,_,hr=>hr
 |k::l,st,r,hr=>by
  simp only[yf]at hr ⊢
  exact qk (hf k st) (vI hf l) hr
theorem F6 {t:List Int}{most:Int}{re:Re}{next:Goal}{i:Int}{c:aE}{st:bq}{r:Bool×bq} (hr:eE t rec most re next i c st=some r):eE t rec' most re next i c st=some r:=by
 unfold eE at hr ⊢
 by_cases o1:re.op=1
 ·rw[if_pos o1]at hr ⊢
  by_cases hc:i<t.length/\Ba re.set (kW t i)=true
  ·rw[if_pos hc]at hr ⊢;exact h _ _ _ _ hr
  ·rw[if_neg hc]at hr ⊢;exact hr
 rw[if_neg o1]at hr ⊢
 by_cases o2:re.op=2
 ·rw[if_pos o2]at hr ⊢;exact h _ _ _ _ hr
 rw[if_neg o2]at hr ⊢
 by_cases o3:re.op=3
 ·rw[if_pos o3]at hr ⊢;exact vI (fun k st r hr=>h _ _ _ _ hr) _ _ _ hr
 rw[if_neg o3]at hr ⊢
 by_cases o5:re.op=5
 ·rw[if_pos o5]at hr ⊢
  cases hk:re.kids with
  |nil=>rw[hk]at hr;cases hr
  |cons k l=>rw[hk]at hr;exact h _ _ _ _ hr
 rw[if_neg o5]at hr ⊢
 by_cases o6:re.op=6
 ·rw[if_pos o6]at hr ⊢
  simp only at hr ⊢
  by_cases c1:(ck c re.n).1<0
  ·rw[if_pos c1]at hr ⊢;exact hr
  rw[if_neg c1]at hr ⊢
  by_cases c2:(ck c re.n).2<(ck c re.n).1\/(t.length:Int)<(ck c re.n).2
  ·rw[if_pos c2]at hr;cases hr
  rw[if_neg c2]at hr ⊢
  by_cases c3:t.length<i+(ck c re.n).2-(ck c re.n).1
  ·rw[if_pos c3]at hr ⊢;exact hr
  rw[if_neg c3]at hr ⊢
  by_cases c4:oW t (ck c re.n).1 i ((ck c re.n).2-(ck c re.n).1).toNat=true
  ·rw[if_pos c4]at hr ⊢;exact h _ _ _ _ hr
  ·rw[if_neg c4]at hr ⊢;exact hr
 rw[if_neg o6]at hr ⊢
 by_cases o7:re.op=7\/re.op=8
 ·rw[if_pos o7]at hr ⊢
  cases hk:re.kids with
  |nil=>rw[hk]at hr;cases hr
  |cons k l =>
   rw[hk]at hr
   simp only at hr ⊢
   cases hx:oZ rec re.op k i c st with
   |none=>rw[hx]at hr;cases hr
   |some x =>
    rw[hx]at hr
    rw[sU h hx]
    obtain⟨o,s⟩:=x
    simp only at hr ⊢
    by_cases he:s.empty=true
    ·rw[if_pos he]at hr ⊢;exact hr
    rw[if_neg he]at hr ⊢
    by_cases hn:re.neg=true
    ·rw[if_pos hn]at hr ⊢
     cases o with
     |none=>exact h _ _ _ _ hr
     |some d=>exact hr
    ·rw[if_neg hn]at hr ⊢
     cases o with
     |none=>exact hr
     |some d=>exact h _ _ _ _ hr
 rw[if_neg o7]at hr ⊢
 by_cases o9:re.op=9
 ·rw[if_pos o9]at hr ⊢
  cases hk:re.kids with
  |nil=>rw[hk]at hr;cases hr
  |cons k l =>
   rw[hk]at hr
   simp only at hr ⊢
   cases hx:ff rec (.mk 0 k 0 0 .nil) i c st with
   |none=>rw[hx]at hr;cases hr
   |some x =>
    rw[hx]at hr
    rw[fI h hx]
    obtain⟨o,s⟩:=x
    simp only at hr ⊢
    by_cases he:s.empty=true
    ·rw[if_pos he]at hr ⊢;exact hr
    rw[if_neg he]at hr ⊢
    cases o with
    |none=>exact hr
    |some d=>exact h _ _ _ _ hr
 rw[if_neg o9]at hr ⊢
 by_cases FD:re.op=10
 ·rw[if_pos FD]at hr ⊢
  match hk:re.kids with
  |[]=>rw[hk]at hr;cases hr
  |[_]=>rw[hk]at hr;cases hr
  |a::b::l=>rw[hk]at hr;exact h _ _ _ _ hr
 rw[if_neg FD]at hr ⊢
 by_cases FF:re.op=11
 ·rw[if_pos FF]at hr ⊢
  by_cases hc:bP re.n t i=true
  ·rw[if_pos hc]at hr ⊢;exact h _ _ _ _ hr
  ·rw[if_neg hc]at hr ⊢;exact hr
 rw[if_neg FF]at hr ⊢
 exact h _ _ _ _ hr
theorem IJ {fuel most:Int}{re:Re}{k:Int}{next:Goal}{i:Int}{c:aE}{st:bq}{r:Bool×bq} (hr:vA fuel rec most re k next i c st=some r):vA fuel rec' most re k next i c st=some r:=by
 unfold vA at hr ⊢
 by_cases m:re.mode=2
 ·rw[if_pos m]at hr ⊢
  cases hx:ff rec (.mk 1 (re.eo 0) 0 0 .nil) i c st with
  |none=>rw[hx]at hr;cases hr
  |some x =>
   rw[hx]at hr
   rw[fI h hx]
   obtain⟨o,s⟩:=x
   cases o with
   |none=>exact hr
   |some d=>exact h _ _ _ _ hr
 rw[if_neg m]at hr ⊢
 by_cases c1:st.steps<0\/10000000000000<st.steps
 ·rw[if_pos c1]at hr;cases hr
 rw[if_neg c1]at hr ⊢
 simp only at hr ⊢
 by_cases he:(st.step fuel).empty=true
 ·rw[if_pos he]at hr ⊢;exact hr
 rw[if_neg he]at hr ⊢
 cases hk:re.kids with
 |nil=>rw[hk]at hr;cases hr
 |cons kid l =>
  rw[hk]at hr
  simp only at hr ⊢
  by_cases c2:k<re.mn
  ·rw[if_pos c2]at hr ⊢;exact h _ _ _ _ hr
  rw[if_neg c2]at hr ⊢
  by_cases c3:re.mx=-1\/k<re.mx
  ·simp only[if_pos c3]at hr ⊢
   by_cases c4:re.mode=1
   ·rw[if_pos c4]at hr ⊢
    exact qk (fun r hr=>h _ _ _ _ hr) (fun s r hr=>h _ _ _ _ hr) hr
   ·rw[if_neg c4]at hr ⊢
    exact qk (fun r hr=>h _ _ _ _ hr) (fun s r hr=>h _ _ _ _ hr) hr
  ·simp only[if_neg c3]at hr ⊢
   by_cases c4:re.mode=1
   ·rw[if_pos c4]at hr ⊢
    exact qk (fun r hr=>h _ _ _ _ hr) (fun s r hr=>hr) hr
   ·rw[if_neg c4]at hr ⊢
    exact qk (fun r hr=>hr) (fun s r hr=>h _ _ _ _ hr) hr
theorem DY {t:List Int}{fuel most:Int}{task:Task}{st:bq}{r:Bool×bq} (hr:cn t fuel rec most task st=some r):cn t fuel rec' most task st=some r:=by
 cases task with
 |run g i c =>
  simp only[cn]at hr ⊢
  by_cases hi:i<0\/(t.length:Int)<i
  ·rw[if_pos hi]at hr;cases hr
  rw[if_neg hi]at hr ⊢
  cases g with
  |nil=>exact hr
  |mk kind re k eA next =>
   simp only at hr ⊢
   by_cases k1:kind=1
   ·rw[if_pos k1]at hr ⊢;exact h _ _ _ _ hr
   rw[if_neg k1]at hr ⊢
   by_cases k2:kind=2
   ·rw[if_pos k2]at hr ⊢
    by_cases c1:re.mn<=k/\i=eA
    ·rw[if_pos c1]at hr ⊢;exact hr
    rw[if_neg c1]at hr ⊢
    by_cases c2:k<0\/10000000000000<k
    ·rw[if_pos c2]at hr;cases hr
    rw[if_neg c2]at hr ⊢;exact h _ _ _ _ hr
   rw[if_neg k2]at hr ⊢
   by_cases k3:kind=3
   ·rw[if_pos k3]at hr ⊢
    by_cases c1:1000000000<c.length
    ·rw[if_pos c1]at hr;cases hr
    rw[if_neg c1]at hr ⊢;exact h _ _ _ _ hr
   rw[if_neg k3]at hr ⊢
   by_cases k4:kind=4
   ·rw[if_pos k4]at hr ⊢
    by_cases c1:i=eA
    ·rw[if_pos c1]at hr ⊢;exact h _ _ _ _ hr
    ·rw[if_neg c1]at hr ⊢;exact hr
   rw[if_neg k4]at hr ⊢;exact h _ _ _ _ hr
 |rep g i c =>
  simp only[cn]at hr ⊢
  by_cases hi:i<0\/(t.length:Int)<i
  ·rw[if_pos hi]at hr;cases hr
  rw[if_neg hi]at hr ⊢
  cases g with
  |nil=>cases hr
  |mk kind re k eA next=>exact IJ h hr
 |node g i c =>
  simp only[cn]at hr ⊢
  by_cases hi:i<0\/(t.length:Int)<i
  ·rw[if_pos hi]at hr;cases hr
  rw[if_neg hi]at hr ⊢
  cases g with
  |nil=>cases hr
  |mk kind re k eA next =>
   simp only at hr ⊢
   by_cases o4:re.op=4
   ·rw[if_pos o4]at hr ⊢;exact h _ _ _ _ hr
   rw[if_neg o4]at hr ⊢
   by_cases c0:1000000000<re.set.length\/1000000000<re.kids.length\/1000000000<c.length
   ·rw[if_pos c0]at hr;cases hr
   rw[if_neg c0]at hr ⊢
   by_cases c1:st.steps<0\/10000000000000<st.steps
   ·rw[if_pos c1]at hr;cases hr
   rw[if_neg c1]at hr ⊢
   by_cases he:(st.step fuel).empty=true
   ·rw[if_pos he]at hr ⊢;exact hr
   rw[if_neg he]at hr ⊢
   exact F6 h hr
end mono
theorem Fm {t:List Int}{fuel:Int}:∀(n:Nat) (m:Int) (task:Task) (st:bq) (r:Bool×bq),fG t fuel n m task st=some r->fG t fuel (n+1) m task st=some r
 |0,_,_,_,_,hr=>by cases hr
 |n+1,m,task,st,r,hr=>DY (rec:=fG t fuel n) (fun m task st r hr=>Fm n m task st r hr) hr
theorem dy {t:List Int}{fuel:Int}{n n':Nat} (hn:n<=n') {m:Int}{task:Task}{st:bq}{r:Bool×bq} (hr:fG t fuel n m task st=some r):fG t fuel n' m task st=some r:=by
 induction hn with
 |refl=>exact hr
 |step _ ih=>exact Fm _ _ _ _ _ ih
theorem M7 {t:List Int}{fuel:Int}{n n':Nat}{m:Int}{task:Task}{st:bq}{r r':Bool×bq} (h1:fG t fuel n m task st=some r) (h2:fG t fuel n' m task st=some r'):r=r':=by
 have e1:=dy (Nat.le_max_left n n') h1
 have e2:=dy (Nat.le_max_right n n') h2
 rw[e1]at e2
 exact Option.some.inj e2
end Go.Proofs.Ytfmdmlfhigocaaa
