/- A part of the proof (O28 O29). -/
import Derived.Test.YtfmdmlfhigocaaaOF43
set_option linter.unusedSimpArgs false
set_option linter.unusedVariables false
set_option maxRecDepth 100000
set_option maxHeartbeats 80000000
namespace Go.Proofs.Ytfmdmlfhigocaaa
open Go.VL
theorem Nv {P:Program}{f:FuncId}{args:List V}{g sz k n:Nat}{l:List (List D)}{s:List VL.Obj}{ob:VL.Obj}{K:V->List VL.Obj->Prop}
  (h1:aq P f args s fun v s1=>v=.so s.length g 0 n/\s1=s++[⟨g,true,sz,l.map fun c=>c.map V.d⟩]) (hs:s[k]?=some ob)
  (hk:K (.so k (ob.g+1) 0 n) (s.set k ⟨ob.g+1,true,sz,l.map fun c=>c.map V.d⟩)):aq P f args s K:=by
 refine⟨h1.1,fun σ w vals hI hl hv=>(h1.2 σ w vals hI hl hv).mono fun e w' ⟨u,v,σ',s',k1,k2,k3,k4,k5,k6⟩=>?_⟩
 subst k5 k6
 obtain⟨m1,m2,m3⟩:=nG hI k2 k3 hs rfl (fun i' j x' jO=>by
  rw[List.getElem?_map]at jO
  cases hq:l[i']? with
  |none=>rw[hq]at jO;cases jO
  |some c =>
   rw[hq]at jO
   simp only[Option.map_some,Option.bind_some,List.getElem?_map]at jO
   obtain⟨d,_,rfl⟩:=Option.map_eq_some_iff.1 jO
   rfl)
 exact⟨u,_,_,_,k1,m1,m2,m3 _ _ _ k4,hk⟩
theorem J9 (q:Nat) (l:List Bool):bT q l=⟨q,true,1,(l.map fun b=>[bD b]).map fun c=>c.map V.d⟩:=by
 unfold bT
 rw[List.map_map]
 rfl
theorem Jr {f:FuncId}{t:List Int}{root parts:D}{bg nb:Nat}{Bs:List (List Bool)}{g b a:Nat}{C:List av}{l:List Bool}{m:Nat}
  (h:aq Try.prog f [.rf 0 0 0 0,.so 2 g 0 C.length] [cV t root parts bg nb,ez bg Bs,cr g b a C] fun v s=>v=.so 3 0 0 m/\s=[cV t root parts bg nb,ez bg Bs,cr g b a C,bT 0 l])
  {s:List VL.Obj}{K:V->List VL.Obj->Prop} (h0:s[0]?=some (cV t root parts bg nb)) (h1:s[1]?=some (ez bg Bs)) (h2:s[2]?=some (cr g b a C)) (h3:s[3]?=some hole)
  (hk:K (.so 3 1 0 m) (s.set 3 (bT 1 l))):aq Try.prog f [.rf 0 0 0 0,.so 2 g 0 C.length] s K:=by
 refine Nv (k:=3) (ob:=hole) (g:=0) (sz:=1) (n:=m) (l:=l.map fun b=>[bD b]) ?_ h3 (by rw[<- J9];exact hk)
 have hm:∀ρ,aP (0::1::ρ) (cV t root parts bg nb)=cV t root parts bg nb:=fun ρ=>rfl
 refine jy h [0,1,2] rfl (by decide) (fun j o ho=>?_) rfl (by simp [ah,ah.go]) ?_ ?_
 ·match j with
  |0=>cases ho;rw[hm];exact h0
  |1=>cases ho;rw[er];exact h1
  |2=>cases ho;rw[iI];exact h2
  |j+3=>simp at ho
 ·have hb:=fe 3 bg Bs
  simp only[List.all_cons,List.all_nil,List.length_cons,List.length_nil,Nat.zero_add,Nat.reduceAdd,iP 3 _ _ _ (by omega),Bool.and_true]
  simp [aQ,cV,ah,hb]
 rintro v s' ⟨rfl,rfl⟩ _
 rw[<- J9]
 have e1:vE [0,1,2] s [cV t root parts bg nb,ez bg Bs,cr g b a C] [cV t root parts bg nb,ez bg Bs,cr g b a C,bT 0 l]=[0,1,2,s.length]:=rfl
 rw[e1]
 have e5:aJ [0,1,2,s.length] (.so 3 0 0 m)=.so s.length 0 0 m:=rfl
 rw[e5]
 simp only[List.length_cons,List.length_nil,Nat.zero_add,Nat.reduceAdd,List.take_succ_cons,List.take_zero,List.drop_succ_cons,List.drop_zero,List.map_cons,List.map_nil,hm,er,iI,uI,aH]
 have s0:s.set 0 (cV t root parts bg nb)=s:=by
  apply List.ext_getElem?;intro j
  by_cases hj:j=0
  ·subst hj;rw[List.getElem?_set_self (List.getElem?_eq_some_iff.1 h0).1,h0]
  ·rw[List.getElem?_set_ne (Ne.symm hj)]
 have s1:s.set 1 (ez bg Bs)=s:=by
  apply List.ext_getElem?;intro j
  by_cases hj:j=1
  ·subst hj;rw[List.getElem?_set_self (List.getElem?_eq_some_iff.1 h1).1,h1]
  ·rw[List.getElem?_set_ne (Ne.symm hj)]
 have s2:s.set 2 (cr g b a C)=s:=by
  apply List.ext_getElem?;intro j
  by_cases hj:j=2
  ·subst hj;rw[List.getElem?_set_self (List.getElem?_eq_some_iff.1 h2).1,h2]
  ·rw[List.getElem?_set_ne (Ne.symm hj)]
 rw[s0,s1,s2]
 first|exact⟨rfl,rfl⟩|exact⟨trivial,rfl⟩
theorem oU {f:FuncId}{t:List Int}{root parts:D}{bg nb:Nat}{Bs:List (List Bool)}{g b a:Nat}{C:List av}{l:List Bool}{m:Nat}
  (h:aq Try.prog f [.rf 0 0 0 0,.so 2 g 0 C.length] [cV t root parts bg nb,ez bg Bs,cr g b a C] fun v s=>v=.so 3 0 0 m/\s=[cV t root parts bg nb,ez bg Bs,cr g b a C,bT 0 l])
  {K:V->List VL.Obj->Prop} (hk:K (.so 3 1 0 m) [cV t root parts bg nb,ez bg Bs,cr g b a C,bT 1 l]):EE Try.prog [0,1,2,3] [3] f [.rf 0 0 0 0,.so 2 g 0 C.length] [cV t root parts bg nb,ez bg Bs,cr g b a C,hole] K:=by
 refine⟨.so 3 1 0 m,[bT 1 l],rfl,fun s' _ jS=>?_,hk⟩
 exact Jr h (jS 0 (by simp)) (jS 1 (by simp)) (jS 2 (by simp)) (jS 3 (by simp)) ⟨rfl,rfl⟩
theorem vF {t:List Int}{root parts:D}{bg nb:Nat}{Bs:List (List Bool)}{re:Re} (hs:re.every Hf=true) (hz:re.fT<=1000000) (k:Nat) {K:V->List VL.Obj->Prop}
  (hk:∀b a,K (.so 2 (re.emit k []++[cc]).length 0 (re.emit k []++[cc]).length) [cV t root parts bg nb,ez bg Bs,cr (re.emit k []++[cc]).length b a (re.emit k []++[cc])]) :
  aq Try.prog 28 [.rf 0 0 0 0,.d (re.aY k)] [cV t root parts bg nb,ez bg Bs] K:=by
 refine IP (ok:=cV t root parts bg nb) (g:=0) 0 0 rfl rfl rfl (fun b a=>?_)
 refine ak (K7 t root parts bg nb Bs b a re hs hz k) ?_
 rintro v s ⟨rfl,rfl⟩
 exact hk b a
def dE (p:jl) (t:List Int):Int:=if yJ p≠0 then yJ p else if 65536<t.length then 4 else if t.all (eH p.aU)=false then 1 else 0
theorem vg (p:jl) (t:List Int) (hf:p.re.dG=true) (h:dE p t≠0) (hl:t.length<=1000000):ba Try.prog 27 [bL p,.d (ao t)] (.tu [.d (.sc (.pointer none)),i64 (dE p t)]):=by
 have h1:=mQ p hf
 unfold dE at h ⊢
 generalize yJ p=ac at *
 cases p with
 |mk re ai aU =>
 simp only[bL,Re.ae,List.map_cons,List.map_nil,List.cons_append,List.nil_append,i64,iD,bD,bV]at h1
 simp only at h ⊢
 by_cases TN:ac=0
 ·subst TN
  rw[if_neg (by simp)]at h ⊢
  by_cases hlen:65536<t.length
  ·rw[if_pos hlen]
   have yF:(65536:Int)<(t.length:Int):=by omega
   refine an Try.func27 rfl Try.ntmps27 Try.results27 rfl 0 62307562302417931542365956185554679 (by simp) (by simp) ?_
   simp only[zX,Nat.reduceShiftRight,Nat.reduceMod,Nat.reduceLT,Nat.reduceMul,Nat.reduceSub,Int.reduceToNat,Int.reduceNeg,Int.reduceLT,Int.reduceLE,Int.reduceEq,Nat.reduceEqDiff,Nat.reduceAdd,Nat.reduceLeDiff,reduceIte,reduceCtorEq,Nat.reduceBEq,i64,bL,Re.ae,bV,iD,bD,ao]
   refine al h1 rfl rfl ?_
   simp only[zX,Nat.reduceShiftRight,Nat.reduceMod,Nat.reduceLT,Nat.reduceMul,Nat.reduceSub,Int.reduceToNat,Int.reduceNeg,Int.reduceLT,Int.reduceLE,Int.reduceEq,Nat.reduceEqDiff,Nat.reduceAdd,Nat.reduceLeDiff,reduceIte,reduceCtorEq,Nat.reduceBEq,i64,bL,Re.ae,bV,iD,bD,ne_eq,not_true_eq_false,List.length_map,yF,gt_iff_lt]
   all_goals rfl
  ·rw[if_neg hlen]at h ⊢
   have yF:¬(65536:Int)<(t.length:Int):=by omega
   have Ho:t.all (eH aU)=false:=by
    cases hq:t.all (eH aU) with
    |false=>rfl
    |true=>rw[hq]at h;exact absurd rfl h
   rw[if_pos Ho]
   have gZ:=Ho
   obtain⟨ru,uQ⟩:∃ru,aU=ru:=⟨_,rfl⟩
   cases ru with
   |true =>
    refine an Try.func27 rfl Try.ntmps27 Try.results27 rfl 0 62307562302417931542365956185554679 (by simp) (by simp) ?_
    simp only[zX,Nat.reduceShiftRight,Nat.reduceMod,Nat.reduceLT,Nat.reduceMul,Nat.reduceSub,Int.reduceToNat,Int.reduceNeg,Int.reduceLT,Int.reduceLE,Int.reduceEq,Nat.reduceEqDiff,Nat.reduceAdd,Nat.reduceLeDiff,reduceIte,reduceCtorEq,Nat.reduceBEq,i64,bL,Re.ae,bV,iD,bD,ao]
    refine al h1 rfl rfl ?_
    simp only[zX,Nat.reduceShiftRight,Nat.reduceMod,Nat.reduceLT,Nat.reduceMul,Nat.reduceSub,Int.reduceToNat,Int.reduceNeg,Int.reduceLT,Int.reduceLE,Int.reduceEq,Nat.reduceEqDiff,Nat.reduceAdd,Nat.reduceLeDiff,reduceIte,reduceCtorEq,Nat.reduceBEq,i64,bL,Re.ae,bV,iD,bD,ne_eq,not_true_eq_false,List.length_map,yF,gt_iff_lt,uQ]
    refine ay (fun n e s=>∃i:Nat,n=t.length-i/\i<=t.length/\e 1=.d (ao t)/\e 2=.rf 0 0 0 0/\e 7=i64 (fB aU)/\e 25=.d (ao t)/\e 26=i64 t.length/\e 27=i64 i/\(t.take i).all (eH aU)=true/\s=[⟨0,true,10,[re.cells.map .d++[i64 ai,bV aU]]⟩])
     ⟨_,_,_,bI.refl,0,rfl,by omega,rfl,rfl,by subst uQ;rfl,rfl,by first|rfl|(rw[List.length_map];rfl),rfl,by simp,by subst uQ;simp [Re.ae re,iD,bD,bV,i64]⟩ ?_
    rintro n e s ⟨i,rfl,hi,q1,q2,q7,CA,tp,zG,bM,rfl⟩
    have ng:e 25=.d (.sl (t.map fun x=>[iD x])):=CA
    rcases Nat.lt_or_ge i t.length with az|ib
    ·obtain⟨x,hx⟩:∃x,t[i]?=some x:=⟨_,List.getElem?_eq_getElem az⟩
     have aK:(i:Int)<(t.length:Int):=by omega
     have hi0:(0:Int)<=(i:Int):=by omega
     have hT:=bt hx
     by_cases c1:x<0
     ·have kL:t.all (eH aU)=false:=all_false hx (by simp [eH];omega)
      simp only[zX,Nat.reduceShiftRight,Nat.reduceMod,Nat.reduceLT,Nat.reduceMul,Nat.reduceSub,Int.reduceToNat,Int.reduceNeg,Int.reduceLT,Int.reduceLE,Int.reduceEq,Nat.reduceEqDiff,Nat.reduceAdd,Nat.reduceLeDiff,reduceIte,reduceCtorEq,Nat.reduceBEq,i64,iD,bD,bV,Re.ae re,List.map_cons,List.map_nil,q1,q2,q7,ng,tp,zG,aK,hi0,az,hx,List.length_map,List.getElem?_map,Option.map_some,Int.toNat_natCast,c1]
      first|(rw[gZ]at kL;cases kL;done)|(all_goals rfl)
     ·by_cases c2:fB aU<x
      ·have kL:t.all (eH aU)=false:=all_false hx (by simp [eH];omega)
       simp only[zX,Nat.reduceShiftRight,Nat.reduceMod,Nat.reduceLT,Nat.reduceMul,Nat.reduceSub,Int.reduceToNat,Int.reduceNeg,Int.reduceLT,Int.reduceLE,Int.reduceEq,Nat.reduceEqDiff,Nat.reduceAdd,Nat.reduceLeDiff,reduceIte,reduceCtorEq,Nat.reduceBEq,i64,iD,bD,bV,Re.ae re,List.map_cons,List.map_nil,q1,q2,q7,ng,tp,zG,aK,hi0,az,hx,List.length_map,List.getElem?_map,Option.map_some,Int.toNat_natCast,c1,c2,gt_iff_lt]
       first|(rw[gZ]at kL;cases kL;done)|(all_goals rfl)
      ·simp only[zX,Nat.reduceShiftRight,Nat.reduceMod,Nat.reduceLT,Nat.reduceMul,Nat.reduceSub,Int.reduceToNat,Int.reduceNeg,Int.reduceLT,Int.reduceLE,Int.reduceEq,Nat.reduceEqDiff,Nat.reduceAdd,Nat.reduceLeDiff,reduceIte,reduceCtorEq,Nat.reduceBEq,i64,iD,bD,bV,Re.ae re,List.map_cons,List.map_nil,q1,q2,q7,ng,tp,zG,aK,hi0,az,hx,List.length_map,List.getElem?_map,Option.map_some,Int.toNat_natCast,c1,c2,gt_iff_lt]
       refine⟨t.length-(i+1),_,_,by omega,bI.refl,i+1,rfl,az,?_,?_,?_,?_,?_,?_,?_,by simp [Re.ae re,iD,bD,bV,i64]⟩ <;> (try simp only[zU,Nat.reduceBEq,Nat.reduceShiftRight,Nat.reduceMod,Nat.reduceEqDiff,reduceIte])
       ·exact q1
       ·exact q2
       ·exact q7
       ·exact CA
       ·exact tp
       ·rw[br _ (by omega)];rfl
       ·rw[hT,List.all_append,bM];simp [eH];omega
    ·have eQ:i=t.length:=by omega
     subst eQ
     rw[List.take_length,Ho]at bM
     cases bM
   |false =>
    refine an Try.func27 rfl Try.ntmps27 Try.results27 rfl 0 62307562302417931542365956185554679 (by simp) (by simp) ?_
    simp only[zX,Nat.reduceShiftRight,Nat.reduceMod,Nat.reduceLT,Nat.reduceMul,Nat.reduceSub,Int.reduceToNat,Int.reduceNeg,Int.reduceLT,Int.reduceLE,Int.reduceEq,Nat.reduceEqDiff,Nat.reduceAdd,Nat.reduceLeDiff,reduceIte,reduceCtorEq,Nat.reduceBEq,i64,bL,Re.ae,bV,iD,bD,ao]
    refine al h1 rfl rfl ?_
    simp only[zX,Nat.reduceShiftRight,Nat.reduceMod,Nat.reduceLT,Nat.reduceMul,Nat.reduceSub,Int.reduceToNat,Int.reduceNeg,Int.reduceLT,Int.reduceLE,Int.reduceEq,Nat.reduceEqDiff,Nat.reduceAdd,Nat.reduceLeDiff,reduceIte,reduceCtorEq,Nat.reduceBEq,i64,bL,Re.ae,bV,iD,bD,ne_eq,not_true_eq_false,List.length_map,yF,gt_iff_lt,uQ]
    refine ay (fun n e s=>∃i:Nat,n=t.length-i/\i<=t.length/\e 1=.d (ao t)/\e 2=.rf 0 0 0 0/\e 7=i64 (fB aU)/\e 25=.d (ao t)/\e 26=i64 t.length/\e 27=i64 i/\(t.take i).all (eH aU)=true/\s=[⟨0,true,10,[re.cells.map .d++[i64 ai,bV aU]]⟩])
     ⟨_,_,_,bI.refl,0,rfl,by omega,rfl,rfl,by subst uQ;rfl,rfl,by first|rfl|(rw[List.length_map];rfl),rfl,by simp,by subst uQ;simp [Re.ae re,iD,bD,bV,i64]⟩ ?_
    rintro n e s ⟨i,rfl,hi,q1,q2,q7,CA,tp,zG,bM,rfl⟩
    have ng:e 25=.d (.sl (t.map fun x=>[iD x])):=CA
    rcases Nat.lt_or_ge i t.length with az|ib
    ·obtain⟨x,hx⟩:∃x,t[i]?=some x:=⟨_,List.getElem?_eq_getElem az⟩
     have aK:(i:Int)<(t.length:Int):=by omega
     have hi0:(0:Int)<=(i:Int):=by omega
     have hT:=bt hx
     by_cases c1:x<0
     ·have kL:t.all (eH aU)=false:=all_false hx (by simp [eH];omega)
      simp only[zX,Nat.reduceShiftRight,Nat.reduceMod,Nat.reduceLT,Nat.reduceMul,Nat.reduceSub,Int.reduceToNat,Int.reduceNeg,Int.reduceLT,Int.reduceLE,Int.reduceEq,Nat.reduceEqDiff,Nat.reduceAdd,Nat.reduceLeDiff,reduceIte,reduceCtorEq,Nat.reduceBEq,i64,iD,bD,bV,Re.ae re,List.map_cons,List.map_nil,q1,q2,q7,ng,tp,zG,aK,hi0,az,hx,List.length_map,List.getElem?_map,Option.map_some,Int.toNat_natCast,c1]
      first|(rw[gZ]at kL;cases kL;done)|(all_goals rfl)
     ·by_cases c2:fB aU<x
      ·have kL:t.all (eH aU)=false:=all_false hx (by simp [eH];omega)
       simp only[zX,Nat.reduceShiftRight,Nat.reduceMod,Nat.reduceLT,Nat.reduceMul,Nat.reduceSub,Int.reduceToNat,Int.reduceNeg,Int.reduceLT,Int.reduceLE,Int.reduceEq,Nat.reduceEqDiff,Nat.reduceAdd,Nat.reduceLeDiff,reduceIte,reduceCtorEq,Nat.reduceBEq,i64,iD,bD,bV,Re.ae re,List.map_cons,List.map_nil,q1,q2,q7,ng,tp,zG,aK,hi0,az,hx,List.length_map,List.getElem?_map,Option.map_some,Int.toNat_natCast,c1,c2,gt_iff_lt]
       first|(rw[gZ]at kL;cases kL;done)|(all_goals rfl)
      ·simp only[zX,Nat.reduceShiftRight,Nat.reduceMod,Nat.reduceLT,Nat.reduceMul,Nat.reduceSub,Int.reduceToNat,Int.reduceNeg,Int.reduceLT,Int.reduceLE,Int.reduceEq,Nat.reduceEqDiff,Nat.reduceAdd,Nat.reduceLeDiff,reduceIte,reduceCtorEq,Nat.reduceBEq,i64,iD,bD,bV,Re.ae re,List.map_cons,List.map_nil,q1,q2,q7,ng,tp,zG,aK,hi0,az,hx,List.length_map,List.getElem?_map,Option.map_some,Int.toNat_natCast,c1,c2,gt_iff_lt]
       refine⟨t.length-(i+1),_,_,by omega,bI.refl,i+1,rfl,az,?_,?_,?_,?_,?_,?_,?_,by simp [Re.ae re,iD,bD,bV,i64]⟩ <;> (try simp only[zU,Nat.reduceBEq,Nat.reduceShiftRight,Nat.reduceMod,Nat.reduceEqDiff,reduceIte])
       ·exact q1
       ·exact q2
       ·exact q7
       ·exact CA
       ·exact tp
       ·rw[br _ (by omega)];rfl
       ·rw[hT,List.all_append,bM];simp [eH];omega
    ·have eQ:i=t.length:=by omega
     subst eQ
     rw[List.take_length,Ho]at bM
     cases bM
 ·rw[if_pos TN]
  refine an Try.func27 rfl Try.ntmps27 Try.results27 rfl 0 62307562302417931542365956185554679 (by simp) (by simp) ?_
  simp only[zX,Nat.reduceShiftRight,Nat.reduceMod,Nat.reduceLT,Nat.reduceMul,Nat.reduceSub,Int.reduceToNat,Int.reduceNeg,Int.reduceLT,Int.reduceLE,Int.reduceEq,Nat.reduceEqDiff,Nat.reduceAdd,Nat.reduceLeDiff,reduceIte,reduceCtorEq,Nat.reduceBEq,i64,bL,Re.ae,bV,iD,bD,ao]
  refine al h1 rfl rfl ?_
  simp only[zX,Nat.reduceShiftRight,Nat.reduceMod,Nat.reduceLT,Nat.reduceMul,Nat.reduceSub,Int.reduceToNat,Int.reduceNeg,Int.reduceLT,Int.reduceLE,Int.reduceEq,Nat.reduceEqDiff,Nat.reduceAdd,Nat.reduceLeDiff,reduceIte,reduceCtorEq,Nat.reduceBEq,i64,bL,Re.ae,bV,iD,bD,ne_eq,TN,not_false_eq_true]
  all_goals rfl
def dp (L:List (Re×Nat)):D:=.sl (L.map fun p=>[p.1.aY p.2])
theorem As {p:jl} (h:yJ p=0):dQ p=0/\p.re.bC (List.replicate 10 false) false=true/\pM p.re=true:=by
 unfold yJ at h
 split at h
 ·rename_i h1;exact absurd h h1
 ·rename_i h1
  split at h
  ·cases h
  ·rename_i h2
   split at h
   ·cases h
   ·rename_i h3
    exact⟨by simpa using h1,by simpa using h2,by simpa using h3⟩
theorem wB {p:jl}{t:List Int} (h:dE p t=0):yJ p=0/\t.length<=65536/\t.all (eH p.aU)=true:=by
 unfold dE at h
 split at h
 ·rename_i h1;exact absurd h h1
 ·rename_i h1
  split at h
  ·cases h
  ·rename_i h2
   split at h
   ·cases h
   ·rename_i h3
    exact⟨by simpa using h1,by omega,by simpa using h3⟩
theorem Hd (re:Re):re.looks<=re.size:=by
 refine Re.ind (Q:=fun re=>re.looks<=re.size) (fun re ih=>?_) re
 have hL:∀l:List Re,(∀x∈l,x∈re.kids)->Re.aN l<=Re.cR l:=by
  intro l
  induction l with
  |nil=>intro _;simp [Re.aN,Re.cR]
  |cons x l IK =>
   intro hm
   have h1:=ih x (hm x (by simp))
   have h2:=IK (fun y hy=>hm y (by simp [hy]))
   simp only[Re.aN,Re.cR]
   omega
 have:=hL re.kids (fun _ h=>h)
 rw[Re.iu,Re.size_eq]
 split <;> omega
theorem H8 (lim:Nat) (s:List VL.Obj) (d:D):fk lim s (.d d)=.d d:=rfl
theorem DX (t:List Int) (ej:D) (L:List (Re×Nat)) (pb:VL.Obj) :
  jZ [1,3] (iQ 4 (ca [pb,⟨0,true,4,[[.d (.sl (t.map fun x=>[D.sc (Value.int IntKind.i64 x)])),.d ej,.so 2 L.length 0 L.length,.so 3 0 0 L.length]]⟩,ek L.length (L.map fun p=>p.1.aY p.2),⟨0,true,1,List.replicate L.length [.fu []]⟩] [2])) =
   [cV t ej (dp L) 0 L.length,ez 0 (List.replicate L.length [])]:=by
 have hk:ca [pb,⟨0,true,4,[[.d (.sl (t.map fun x=>[D.sc (Value.int IntKind.i64 x)])),.d ej,.so 2 L.length 0 L.length,.so 3 0 0 L.length]]⟩,ek L.length (L.map fun p=>p.1.aY p.2),⟨0,true,1,List.replicate L.length [.fu []]⟩] [2] =
   [pb,⟨0,true,4,[[.d (.sl (t.map fun x=>[D.sc (Value.int IntKind.i64 x)])),.d ej,.so 2 L.length 0 L.length,.so 3 0 0 L.length]]⟩,⟨L.length,false,1,(L.map fun p=>p.1.aY p.2).map fun d=>[.d d]⟩,⟨0,true,1,List.replicate L.length [.fu []]⟩]:=rfl
 rw[hk]
 generalize hS:[pb,(⟨0,true,4,[[.d (.sl (t.map fun x=>[D.sc (Value.int IntKind.i64 x)])),.d ej,.so 2 L.length 0 L.length,.so 3 0 0 L.length]]⟩:VL.Obj),⟨L.length,false,1,(L.map fun p=>p.1.aY p.2).map fun d=>[.d d]⟩,⟨0,true,1,List.replicate L.length [.fu []]⟩]=S
 have s2:S[2]?=some ⟨L.length,false,1,(L.map fun p=>p.1.aY p.2).map fun d=>[.d d]⟩:=by rw[<- hS];rfl
 have s3:S[3]?=some ⟨0,true,1,List.replicate L.length [.fu []]⟩:=by rw[<- hS];rfl
 have c2:fk 4 S (.so 2 L.length 0 L.length)=.d (dp L):=by
  have:=nD (lim:=4) (s:=S) (id:=2) (g:=L.length) (lo:=0) (n:=L.length) (sz:=1) (live:=false) (ds:=L.map fun p=>[p.1.aY p.2]) s2 (by rw[List.drop_zero,List.take_of_length_le (by simp)];simp) (by simp) (.inr rfl)
  rw[fk,this];rfl
 have c3:fk 4 S (.so 3 0 0 L.length)=.so 3 0 0 L.length:=by
  rw[fk,bh,cA,s3]
  simp
 have hc:iQ 4 S=[⟨pb.g,pb.live,pb.sz,pb.au.map fun c=>c.map (fk 4 S)⟩,⟨0,true,4,[[.d (.sl (t.map fun x=>[D.sc (Value.int IntKind.i64 x)])),.d ej,.d (dp L),.so 3 0 0 L.length]]⟩,⟨L.length,false,1,((L.map fun p=>p.1.aY p.2).map fun d=>[V.d d]).map fun c=>c.map (fk 4 S)⟩,⟨0,true,1,List.replicate L.length [.d (.sl [])]⟩]:=by
  unfold iQ
  rw[show S.take 4=[pb,(⟨0,true,4,[[.d (.sl (t.map fun x=>[D.sc (Value.int IntKind.i64 x)])),.d ej,.so 2 L.length 0 L.length,.so 3 0 0 L.length]]⟩:VL.Obj),⟨L.length,false,1,(L.map fun p=>p.1.aY p.2).map fun d=>[.d d]⟩,⟨0,true,1,List.replicate L.length [.fu []]⟩] by rw[<- hS];rfl]
  simp only[List.map_cons,List.map_nil,H8,c2,c3,List.map_replicate]
  rfl
 rw[hc]
 simp only[jZ,List.map_cons,List.map_nil,List.getD_cons_succ,List.getD_cons_zero]
 have e4:eD [1,3] ⟨0,true,1,List.replicate L.length [V.d (.sl [])]⟩=ez 0 (List.replicate L.length []):=by
  simp [eD,dU.go,dU,ez]
 rw[e4]
 rfl
theorem Hw (t:List Int) (ej AQ:D) (n i m:Nat) (Bs:List (List Bool)) (l:List Bool) (hl:l.length=m) (x:VL.Obj) :
  iQ 2 [cV t ej AQ 0 n,⟨0,true,1,(Bs.map fun l=>[V.d (.sl (l.map fun b=>[bD b]))]).set i [.so 3 1 0 m]⟩,x,bT 1 l]=[cV t ej AQ 0 n,ez 0 (Bs.set i l)]:=by
 generalize hS:[cV t ej AQ 0 n,⟨0,true,1,(Bs.map fun l=>[V.d (.sl (l.map fun b=>[bD b]))]).set i [.so 3 1 0 m]⟩,x,bT 1 l]=S
 have s3:S[3]?=some (bT 1 l):=by rw[<- hS];rfl
 have s1:S[1]?=some ⟨0,true,1,(Bs.map fun l=>[V.d (.sl (l.map fun b=>[bD b]))]).set i [.so 3 1 0 m]⟩:=by rw[<- hS];rfl
 have c3:fk 2 S (.so 3 1 0 m)=.d (.sl (l.map fun b=>[bD b])):=by
  have:=nD (lim:=2) (s:=S) (id:=3) (g:=1) (lo:=0) (n:=m) (sz:=1) (live:=true) (au:=l.map fun b=>[bV b]) (ds:=l.map fun b=>[bD b]) s3 (by rw[List.drop_zero,List.take_of_length_le (by simp [hl]),List.map_map];rfl) (by simp [hl]) (.inl (by omega))
  rw[fk,this];rfl
 have c1:fk 2 S (.so 1 0 0 n)=.so 1 0 0 n:=by
  rw[fk,bh,cA,s1]
  simp
 have e1:iQ 2 S=[{ cV t ej AQ 0 n with au:=(cV t ej AQ 0 n).au.map fun c=>c.map (fk 2 S) },⟨0,true,1,((Bs.map fun l=>[V.d (.sl (l.map fun b=>[bD b]))]).set i [.so 3 1 0 m]).map fun c=>c.map (fk 2 S)⟩]:=by
  unfold iQ
  conv=>lhs;rw[show S.take 2=[cV t ej AQ 0 n,⟨0,true,1,(Bs.map fun l=>[V.d (.sl (l.map fun b=>[bD b]))]).set i [.so 3 1 0 m]⟩] by rw[<- hS];rfl]
  rfl
 rw[e1]
 simp only[cV,List.map_cons,List.map_nil,H8,c1,List.map_set,c3,List.map_map]
 unfold ez
 rw[List.map_set]
 rfl
def fN (neg:Bool) (m:Nat) (l:List Bool):List Bool:=(l.take m).map (fun b=>b != neg)++l.drop m
theorem AX (neg:Bool) (l:List Bool):fN neg 0 l=l:=by simp [fN]
theorem EF (neg:Bool) (l:List Bool):fN neg l.length l=l.map fun b=>b != neg:=by simp [fN]
theorem DC (neg:Bool) (m:Nat) (l:List Bool):(fN neg m l).length=l.length:=by simp [fN];omega
theorem Dk {neg:Bool}{m:Nat}{l:List Bool}{y:Bool} (h:l[m]?=some y):(fN neg m l)[m]?=some y:=by
 have hm:=(List.getElem?_eq_some_iff.1 h).1
 unfold fN
 rw[List.getElem?_append_right (by simp;omega)]
 simp only[List.length_map,List.length_take,Nat.min_eq_left (Nat.le_of_lt hm),Nat.sub_self,List.getElem?_drop,Nat.add_zero]
 exact h
theorem AO {neg:Bool}{m:Nat}{l:List Bool}{y:Bool} (h:l[m]?=some y):(fN neg m l).set m (y != neg)=fN neg (m+1) l:=by
 have hm:=(List.getElem?_eq_some_iff.1 h).1
 unfold fN
 rw[List.set_append_right _ _ (by simp;omega)]
 simp only[List.length_map,List.length_take,Nat.min_eq_left (Nat.le_of_lt hm),Nat.sub_self]
 rw[List.drop_eq_getElem_cons hm,List.set_cons_zero,bt h,List.map_append,List.append_assoc]
 rfl
theorem oR {lim:Nat}{s:List VL.Obj}{aR:List Nat}{e:VL.Env}{t:Nat} (h:aR.contains t=true):vM lim s aR e t=fk lim s (e t):=by unfold vM;rw[if_pos h]
theorem ya {P:Program}{N L M:Nat}{a b:Code}{R:VL.Env->List VL.Obj->Prop}{Q:Exit->VL.Env->List VL.Obj->Prop}{e:VL.Env}{s:List VL.Obj}{p:Prop} [Decidable p] (J:VL.Env->List VL.Obj->Prop)
  (h1:p->∀(B:VL.Env->List VL.Obj->Prop) (Q:Exit->VL.Env->List VL.Obj->Prop),(∀e s,J e s->B e s)->codeWp P N L M a (za B Q) e s)
  (h2:¬p->∀(B:VL.Env->List VL.Obj->Prop) (Q:Exit->VL.Env->List VL.Obj->Prop),(∀e s,J e s->B e s)->codeWp P N L M b (za B Q) e s)
  (h3:∀e s,J e s->R e s):lh (.d (.sc (.bool (decide p)))) (codeWp P N L M a (za R Q)) (codeWp P N L M b (za R Q)) e s :=
 jc (fun h=>h1 h _ _ h3) (fun h=>h2 h _ _ h3)
end Go.Proofs.Ytfmdmlfhigocaaa
