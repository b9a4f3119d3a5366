/- A part of the proof (F96). -/
import Derived.Test.YtafbdphblilenaaAB29
set_option linter.unusedSimpArgs false
set_option linter.unusedVariables false
set_option maxRecDepth 100000
set_option maxHeartbeats 80000000
set_option linter.unusedSimpArgs false
set_option linter.unusedVariables false
namespace Go.Proofs.Ytafbdphblilenaa
open Go.VL Go.Proofs.Try
theorem rKids_suf {f:Nat→List Nat→Int→RdT} (hf:∀s xs w,(f s xs w).2.2.1 <:+ xs):∀(n s:Nat) (xs:List Nat) (w:Int),(rKids f n s xs w).2.2.1 <:+ xs
 | 0,s,xs,w=>List.suffix_refl _
 | n + 1,s,xs,w=>by
  have h1:=hf s xs w
  rw[rKids]
  split
  ·rename_i r he
   rw[he] at h1
   exact h1
  ·rename_i k s1 xs1 w1 he
   rw[he] at h1
   have h2:=rKids_suf hf n s1 xs1 w1
   split
   ·rename_i r he2
    rw[he2] at h2
    exact h2.trans h1
   ·rename_i l r he2
    rw[he2] at h2
    exact h2.trans h1
theorem rTree_suf:∀(d s:Nat) (xs:List Nat) (w:Int),(rTree d s xs w).2.2.1 <:+ xs
 | 0,s,xs,w=>List.suffix_refl _
 | d + 1,s,xs,w=>by
  have h1:=rNode_suf xs w
  rw[rTree]
  split
  ·exact List.suffix_refl _
  split
  ·rename_i xs1 w1 he
   rw[he] at h1
   exact h1
  ·rename_i re k xs1 w1 he
   rw[he] at h1
   have h2:=rKids_suf (fun s xs w=>rTree_suf d s xs w) k (s + 1) xs1 w1
   split
   ·rename_i r he2
    rw[he2] at h2
    exact h2.trans h1
   ·rename_i l r he2
    rw[he2] at h2
    exact h2.trans h1
theorem rKids_size {f:Nat→List Nat→Int→RdT} (hf:∀s xs w re s1 xs1 w1,s≤256→f s xs w=(some re,s1,xs1,w1)→s1≤256):∀(n s:Nat) (xs:List Nat) (w:Int) (l:List Re) (s1:Nat) (xs1:List Nat) (w1:Int),s≤256→rKids f n s xs w=(some l,s1,xs1,w1)→s1≤256
 | 0,s,xs,w,l,s1,xs1,w1,hs,h=>by
  simp only[rKids,Prod.mk.injEq] at h
  omega
 | n + 1,s,xs,w,l,s1,xs1,w1,hs,h=>by
  rw[rKids] at h
  split at h
  ·simp at h
  ·rename_i k s2 xs2 w2 he
   split at h
   ·simp at h
   ·rename_i l2 r he2
    simp only[Prod.mk.injEq] at h
    obtain⟨_,h2⟩:=h
    obtain⟨r1,r2,r3⟩:=r
    simp only[Prod.mk.injEq] at h2
    have:=rKids_size hf n s2 xs2 w2 l2 r1 r2 r3 (hf _ _ _ _ _ _ _ hs he) he2
    omega
theorem rTree_size:∀(d s:Nat) (xs:List Nat) (w:Int) (re:Re) (s1:Nat) (xs1:List Nat) (w1:Int),s≤256→rTree d s xs w=(some re,s1,xs1,w1)→s1≤256
 | 0,s,xs,w,re,s1,xs1,w1,hs,h=>by simp [rTree] at h
 | d + 1,s,xs,w,re,s1,xs1,w1,hs,h=>by
  rw[rTree] at h
  split at h
  ·simp at h
  split at h
  ·simp at h
  split at h
  ·simp at h
  ·rename_i l r he2
   simp only[Prod.mk.injEq] at h
   obtain⟨_,h2⟩:=h
   obtain⟨r1,r2,r3⟩:=r
   simp only[Prod.mk.injEq] at h2
   have:=rKids_size (fun s xs w re s1 xs1 w1=>rTree_size d s xs w re s1 xs1 w1) _ _ _ _ l r1 r2 r3 (by omega) he2
   omega
theorem rTree_succ (d s:Nat) (xs:List Nat) (w:Int):rTree (d + 1) s xs w=if 256 < s + 1 then (none,s + 1,xs,w) else match rNode xs w with
  |(none,xs1,w1)=>(none,s + 1,xs1,w1)
  |(some (re,k),xs1,w1)=>((rKids (rTree d) k (s + 1) xs1 w1).1.map re.withKids,(rKids (rTree d) k (s + 1) xs1 w1).2):=by
 rw[rTree]
 split
 ·rfl
 ·generalize rNode xs w=RN
  obtain⟨rn,xs1,w1⟩:=RN
  cases rn with
  | none=>rfl
  | some rk =>
   obtain⟨re,k⟩:=rk
   simp only
   generalize rKids (rTree d) k (s + 1) xs1 w1=R
   obtain⟨R1,R2⟩:=R
   cases R1 <;> rfl
def combK (l:List Re) (r:Option (List Re) × Nat × List Nat × Int):Option (List Re) × Nat × List Nat × Int:=(r.1.map (l++·),r.2)
theorem combK_start (r:Option (List Re) × Nat × List Nat × Int):combK [] r=r:=by
 unfold combK
 obtain⟨a,b⟩:=r
 cases a <;> simp
theorem combK_bad {f:Nat→List Nat→Int→RdT} (l:List Re) (n s:Nat) (xs:List Nat) (w:Int) {r:Nat × List Nat × Int} (h:f s xs w=(none,r)):combK l (rKids f (n + 1) s xs w)=(none,r):=by
 rw[rKids,h]
 rfl
theorem combK_step {f:Nat→List Nat→Int→RdT} (l:List Re) (n s:Nat) (xs:List Nat) (w:Int) {k:Re} {s1:Nat} {xs1:List Nat} {w1:Int} (h:f s xs w=(some k,s1,xs1,w1)):combK l (rKids f (n + 1) s xs w)=combK (l++[k]) (rKids f n s1 xs1 w1):=by
 rw[rKids,h]
 simp only
 unfold combK
 split <;> rename_i he
 ·rw[he]; rfl
 ·rw[he]; simp
theorem combK_end {f:Nat→List Nat→Int→RdT} (l:List Re) (s:Nat) (xs:List Nat) (w:Int):combK l (rKids f 0 s xs w)=(some l,s,xs,w):=by
 simp [combK,rKids]
def rbxO:VL.Obj:=⟨0,true,1,[[.rf 0 0 0 0]]⟩
def dszO (s:Nat):VL.Obj:=⟨0,true,1,[[i64 (s:Int)]]⟩
def dwkO:VL.Obj:=⟨0,true,1,[[.cl (.func 92) [] [.rf 2 0 0 0,.rf 1 0 0 0,.rf 3 0 0 0]]]⟩
def wkV:Option Re→V
 | some re=>.tu [reV re,bV true]
 | none=>.tu [reV (.mk 0 [] [] 0 0 0 0 false),bV false]
def WalkD (bs:List Nat) (d:Nat):Prop:=∀(xs:List Nat) (w:Int) (s:Nat),xs <:+ bs→s≤256 →
 callWp prog 92 [i64 ((25 - d:Nat):Int),.rf 2 0 0 0,.rf 1 0 0 0,.rf 3 0 0 0] [rdO bs xs w,rbxO,dszO s,dwkO] fun v st=>v=wkV (rTree d s xs w).1∧st=[rdO bs (rTree d s xs w).2.2.1 (rTree d s xs w).2.2.2,rbxO,dszO (rTree d s xs w).2.1,dwkO]
theorem call_wk {bs xs xs':List Nat} {w w':Int} {s s':Nat} {f:FuncId} {args:List V} {r:V} {rest:List VL.Obj} {K:V→List VL.Obj→Prop} (h:callWp prog f args [rdO bs xs w,rbxO,dszO s,dwkO] fun v st=>v=r∧st=[rdO bs xs' w',rbxO,dszO s',dwkO])
  (ha:args=args.map (renV [0,1,2,3])) (hra:refsV.go 4 args=true) (hr:renV [0,1,2,3] r=r) (hk:K r (rdO bs xs' w'::rbxO::dszO s'::dwkO::rest)):callWp prog f args (rdO bs xs w::rbxO::dszO s::dwkO::rest) K:=by
 refine call_map [0,1,2,3] h (by decide) rfl ?_ ha hra ?_ hr ?_
 ·rfl
 ·rfl
 ·exact hk
def kdO (g:Nat) (l:List Re):VL.Obj:=⟨g,true,8,(l.map Re.cells).map fun c=>c.map V.d⟩
def rkO (re:Re) (v:V):VL.Obj:=⟨0,true,8,[[i64 re.op,.d (.sl (re.set.map spanC)),v,i64 re.mn,i64 re.mx,i64 re.mode,i64 re.n,bV re.neg]]⟩
theorem objOk_kd (n g:Nat) (l:List Re):objOk n (kdO g l)=true:=by
 simp only[objOk,kdO,List.all_eq_true]
 intro e he x hx
 obtain⟨c,hc,rfl⟩:=List.mem_map.1 he
 obtain⟨d,_,rfl⟩:=List.mem_map.1 hx
 rfl
theorem kd_snoc (g i:Nat) (l:List Re) (k:Re) (h:l.length=i):(⟨g,true,8,List.take i (List.map (fun c=>List.map V.d c) (List.map Re.cells l))++[[V.d (iD k.op),V.d (D.sl (List.map spanC k.set)),V.d (D.sl (List.map Re.cells k.kids)),V.d (iD k.mn),V.d (iD k.mx),V.d (iD k.mode),V.d (iD k.n),V.d (bD k.neg)]]⟩:VL.Obj)=kdO g (l++[k]):=by
 rw[List.take_of_length_le (by simp [h])]
 simp [kdO,Re.cells_eq k]
def dWI (bs:List Nat) (d k:Nat) (depth:Int) (re:Re) (R:Option (List Re) × Nat × List Nat × Int):Nat→Env→List VL.Obj→Prop:=fun n e st=>∃(i:Nat) (l:List Re) (s:Nat) (ys:List Nat) (w:Int),n=k - i∧i≤k∧l.length=i∧ys <:+ bs∧s≤256∧combK l (rKids (rTree d) (k - i) s ys w)=R ∧
 e 0=i64 depth∧e 1=.rf 2 0 0 0∧e 2=.rf 1 0 0 0∧e 3=.rf 3 0 0 0∧e 5=.rf 4 0 0 0∧e 7=.rf 5 0 0 0∧e 30=i64 k∧e 31=i64 i ∧
 ((i=0∧st=[rdO bs ys w,rbxO,dszO s,dwkO,zeroO8,rkO re (.fu [])])∨∃g X,objOk 8 X=true∧st=[rdO bs ys w,rbxO,dszO s,dwkO,zeroO8,rkO re (.so 7 g 0 i),X,kdO g l])
theorem walkD_ok (bs:List Nat) (hb:bs.length≤1000000000) (hB:∀b∈bs,b < 256):∀d,d≤24→WalkD bs d:=by
 intro d
 induction d with
 | zero =>
  intro _ xs w s hs hsz
  have w1:IntKind.i64.wrap ((s:Int) + 1)=((s + 1:Nat):Int):=by rw[w64 _ (by omega)]; omega
  rw[rTree]
  have h25:¬((25 - 0:Nat):Int)≤24:=by decide
  have h25':(24:Int) < ((25 - 0:Nat):Int):=by decide
  generalize ((25 - 0:Nat):Int)=dd at *
  simp only[rdO,rbxO,dszO,dwkO,i64]
  by_cases hc:(256:Int) < ((s + 1:Nat):Int)
  ·refine fn_ok func92 rfl ntmps92 results92 rfl 4 3221229551 (by simp) (by simp) ?_
   simp only[zX,Nat.reduceShiftRight,Nat.reduceMod,Nat.reduceLT,Nat.reduceMul,Nat.reduceSub,Int.reduceToNat,Int.reduceNeg,Int.reduceLT,Int.reduceLE,Int.reduceEq,Nat.reduceEqDiff,Nat.reduceAdd,Nat.reduceLeDiff,reduceIte,reduceCtorEq,Nat.reduceBEq,i64,w1,hc,gt_iff_lt,decide_true,wkV,reV_eq]
   all_goals first | exact⟨rfl,rfl⟩ | exact⟨rfl,trivial⟩ | rfl | trivial | (rw[reV_eq]; rfl)
  ·refine fn_ok func92 rfl ntmps92 results92 rfl 4 3221229551 (by simp) (by simp) ?_
   simp only[zX,Nat.reduceShiftRight,Nat.reduceMod,Nat.reduceLT,Nat.reduceMul,Nat.reduceSub,Int.reduceToNat,Int.reduceNeg,Int.reduceLT,Int.reduceLE,Int.reduceEq,Nat.reduceEqDiff,Nat.reduceAdd,Nat.reduceLeDiff,reduceIte,reduceCtorEq,Nat.reduceBEq,i64,w1,hc,h25',gt_iff_lt,decide_true,decide_false,wkV,reV_eq]
   all_goals first | exact⟨rfl,rfl⟩ | exact⟨rfl,trivial⟩ | rfl | trivial | (rw[reV_eq]; rfl)
 | succ d ih =>
  intro hd xs w s hs hsz
  have ih:=ih (by omega)
  have w1:IntKind.i64.wrap ((s:Int) + 1)=((s + 1:Nat):Int):=by rw[w64 _ (by omega)]; omega
  have h24:¬(24:Int) < ((25 - (d + 1):Nat):Int):=by omega
  have wd:IntKind.i64.wrap (((25 - (d + 1):Nat):Int) + 1)=((25 - d:Nat):Int):=by rw[w64 _ (by omega)]; omega
  generalize ((25 - (d + 1):Nat):Int)=dd at *
  unfold WalkD at ih
  generalize ((25 - d:Nat):Int)=dd' at *
  rw[rTree_succ]
  by_cases hc:256 < s + 1
  ·have hc':(256:Int) < ((s + 1:Nat):Int):=by omega
   rw[if_pos hc]
   simp only[rbxO,dszO,dwkO,i64]
   refine fn_ok func92 rfl ntmps92 results92 rfl 4 3221229551 (by simp) (by simp) ?_
   simp only[zX,Nat.reduceShiftRight,Nat.reduceMod,Nat.reduceLT,Nat.reduceMul,Nat.reduceSub,Int.reduceToNat,Int.reduceNeg,Int.reduceLT,Int.reduceLE,Int.reduceEq,Nat.reduceEqDiff,Nat.reduceAdd,Nat.reduceLeDiff,reduceIte,reduceCtorEq,Nat.reduceBEq,i64,w1,hc',gt_iff_lt,decide_true,wkV,reV_eq]
   all_goals first | exact⟨rfl,rfl⟩ | exact⟨rfl,trivial⟩ | rfl | trivial | (rw[reV_eq]; rfl)
  rw[if_neg hc]
  have hc':¬(256:Int) < ((s + 1:Nat):Int):=by omega
  have k1:=readNode_ok bs xs w hs hb hB
  have s1:=(rNode_suf xs w).trans hs
  have hkk:∀re k,(rNode xs w).1=some (re,k)→k≤256:=by
   intro re k h
   cases hgood:nodeBad (rIsW xs w).1 (rIsW (rIsW xs w).2.1 (rIsW xs w).2.2).1 (rI (rIsW (rIsW xs w).2.1 (rIsW xs w).2.2).2.1 (rIsW (rIsW xs w).2.1 (rIsW xs w).2.2).2.2).1 with
   | true=>rw[rNode_bad hgood] at h; cases h
   | false =>
    obtain⟨_,_,_,_,_,_,_,_,_,_,_,g4,_,_,g7⟩:=rNode_good hgood
    rw[g7] at h
    cases h
    exact g4
  generalize rNode xs w=RN at *
  obtain⟨rn,xs1,w1'⟩:=RN
  cases rn with
  | none =>
   simp only
   simp only at k1
   simp only[rbxO,dszO,dwkO,i64,bV,iD,bD,wkV,rnM,reV_eq] at k1 ⊢
   refine fn_ok func92 rfl ntmps92 results92 rfl 4 3221229551 (by simp) (by simp) ?_
   simp only[zX,Nat.reduceShiftRight,Nat.reduceMod,Nat.reduceLT,Nat.reduceMul,Nat.reduceSub,Int.reduceToNat,Int.reduceNeg,Int.reduceLT,Int.reduceLE,Int.reduceEq,Nat.reduceEqDiff,Nat.reduceAdd,Nat.reduceLeDiff,reduceIte,reduceCtorEq,Nat.reduceBEq,i64,w1,hc',h24,gt_iff_lt,decide_true,decide_false]
   refine call_one k1 rfl rfl rfl rfl rfl rfl ?_
   simp only[zX,Nat.reduceShiftRight,Nat.reduceMod,Nat.reduceLT,Nat.reduceMul,Nat.reduceSub,Int.reduceToNat,Int.reduceNeg,Int.reduceLT,Int.reduceLE,Int.reduceEq,Nat.reduceEqDiff,Nat.reduceAdd,Nat.reduceLeDiff,reduceIte,reduceCtorEq,Nat.reduceBEq,i64,rdO]
   all_goals first | exact⟨rfl,rfl⟩ | exact⟨rfl,trivial⟩ | rfl | trivial | (rw[reV_eq]; rfl)
  | some rk =>
  obtain⟨re,k⟩:=rk
  simp only at s1 k1
  have hk:=hkk re k rfl
  clear hkk
  obtain⟨R,hR⟩:∃R,rKids (rTree d) k (s + 1) xs1 w1'=R:=⟨_,rfl⟩
  simp only
  rw[hR]
  have ec:∀l,(re.withKids l).cells=[iD re.op,.sl (re.set.map spanC),.sl (l.map Re.cells),iD re.mn,iD re.mx,iD re.mode,iD re.n,bD re.neg]:=fun l=>by rw[Re.cells_eq]; rfl
  simp only[rbxO,dszO,dwkO,i64,bV,rnM] at k1 ⊢
  refine fn_ok func92 rfl ntmps92 results92 rfl 4 3221229551 (by simp) (by simp) ?_
  simp only[zX,Nat.reduceShiftRight,Nat.reduceMod,Nat.reduceLT,Nat.reduceMul,Nat.reduceSub,Int.reduceToNat,Int.reduceNeg,Int.reduceLT,Int.reduceLE,Int.reduceEq,Nat.reduceEqDiff,Nat.reduceAdd,Nat.reduceLeDiff,reduceIte,reduceCtorEq,Nat.reduceBEq,i64,w1,hc',h24,gt_iff_lt,decide_true,decide_false]
  refine call_one k1 rfl rfl rfl rfl rfl rfl ?_
  simp only[zX,Nat.reduceShiftRight,Nat.reduceMod,Nat.reduceLT,Nat.reduceMul,Nat.reduceSub,Int.reduceToNat,Int.reduceNeg,Int.reduceLT,Int.reduceLE,Int.reduceEq,Nat.reduceEqDiff,Nat.reduceAdd,Nat.reduceLeDiff,reduceIte,reduceCtorEq,Nat.reduceBEq,i64]
  refine loop_rule (dWI bs d k dd re R) ⟨_,_,_,Cln.refl,0,[],s + 1,xs1,w1',rfl,by omega,rfl,s1,by omega,?_,rfl,rfl,rfl,rfl,rfl,rfl,rfl,rfl,.inl ⟨rfl,rfl⟩⟩ ?_
  ·rw[combK_start]; exact hR
  rintro n e st ⟨i,l,s',ys,w',rfl,hi,hli,hys,hs',hcK,h0,h1,h2,h3,h5,h7,h30,h31,hacc⟩
  simp only[i64] at h0 h30 h31
  by_cases hlt:i < k
  case neg =>
   have hie:i=k:=by omega
   subst hie
   rw[Nat.sub_self,combK_end] at hcK
   subst hcK
   rcases hacc with ⟨hz,rfl⟩ | ⟨g,X,hX,rfl⟩
   ·have hl0:l=[]:=List.eq_nil_of_length_eq_zero (by omega)
    subst hl0
    simp only[zX,Nat.reduceShiftRight,Nat.reduceMod,Nat.reduceLT,Nat.reduceMul,Nat.reduceSub,Int.reduceToNat,Int.reduceNeg,Int.reduceLT,Int.reduceLE,Int.reduceEq,Nat.reduceEqDiff,Nat.reduceAdd,Nat.reduceLeDiff,reduceIte,reduceCtorEq,Nat.reduceBEq,i64,bV,h0,h1,h2,h3,h5,h7,h30,h31,Int.lt_irrefl,decide_false,zeroO8,rkO]
    refine⟨rfl,?_⟩
    simp only[Option.map_some,wkV,reV,ec]
    exact⟨rfl,rfl⟩
   ·simp only[zX,Nat.reduceShiftRight,Nat.reduceMod,Nat.reduceLT,Nat.reduceMul,Nat.reduceSub,Int.reduceToNat,Int.reduceNeg,Int.reduceLT,Int.reduceLE,Int.reduceEq,Nat.reduceEqDiff,Nat.reduceAdd,Nat.reduceLeDiff,reduceIte,reduceCtorEq,Nat.reduceBEq,i64,bV,h0,h1,h2,h3,h5,h7,h30,h31,Int.lt_irrefl,decide_false,zeroO8,rkO]
    subst hli
    unfold kdO
    refine⟨rfl,?_⟩
    rw[if_pos ⟨rfl,by simp⟩,List.take_of_length_le (by simp),mapM_frzE]
    simp only[Option.map_some,wkV,reV,ec]
    exact⟨rfl,rfl⟩
  have hlt':(i:Int) < (k:Int):=by omega
  obtain⟨m,hm⟩:∃m,k - i=m + 1:=⟨k - i - 1,by omega⟩
  rw[hm] at hcK
  have hcall:=ih ys w' s' hys hs'
  have wi:IntKind.i64.wrap ((i:Int) + 1)=((i + 1:Nat):Int):=by rw[w64 _ (by omega)]; omega
  have hsuf2:=(rTree_suf d s' ys w').trans hys
  have hsz2:=rTree_size d s' ys w'
  have hcb:=fun r=>combK_bad (f:=rTree d) l m s' ys w' (r:=r)
  have hcs:=fun k s1 xs1 w1=>combK_step (f:=rTree d) l m s' ys w' (k:=k) (s1:=s1) (xs1:=xs1) (w1:=w1)
  generalize rTree d s' ys w'=RT at *
  obtain⟨kid,s2,ys2,w2⟩:=RT
  cases kid with
  | none =>
   rw[hcb _ rfl] at hcK
   subst hcK
   simp only[i64,wkV,reV_eq,iD,bD,bV] at hcall
   rcases hacc with ⟨hz,rfl⟩ | ⟨g,X,hX,rfl⟩
   ·simp only[zX,Nat.reduceShiftRight,Nat.reduceMod,Nat.reduceLT,Nat.reduceMul,Nat.reduceSub,Int.reduceToNat,Int.reduceNeg,Int.reduceLT,Int.reduceLE,Int.reduceEq,Nat.reduceEqDiff,Nat.reduceAdd,Nat.reduceLeDiff,reduceIte,reduceCtorEq,Nat.reduceBEq,i64,bV,h0,h1,h2,h3,h5,h7,h30,h31,hlt',dwkO,wd]
    refine call_wk (rest:=[_,_]) hcall rfl rfl rfl ?_
    simp only[zX,Nat.reduceShiftRight,Nat.reduceMod,Nat.reduceLT,Nat.reduceMul,Nat.reduceSub,Int.reduceToNat,Int.reduceNeg,Int.reduceLT,Int.reduceLE,Int.reduceEq,Nat.reduceEqDiff,Nat.reduceAdd,Nat.reduceLeDiff,reduceIte,reduceCtorEq,Nat.reduceBEq,i64,bV,h0,h1,h2,h3,h5,h7,h30,h31,zeroO8,Option.map_none,wkV,reV_eq]
    all_goals first | exact⟨rfl,rfl⟩ | exact⟨rfl,trivial⟩ | rfl | trivial | (rw[reV_eq]; rfl)
   ·simp only[zX,Nat.reduceShiftRight,Nat.reduceMod,Nat.reduceLT,Nat.reduceMul,Nat.reduceSub,Int.reduceToNat,Int.reduceNeg,Int.reduceLT,Int.reduceLE,Int.reduceEq,Nat.reduceEqDiff,Nat.reduceAdd,Nat.reduceLeDiff,reduceIte,reduceCtorEq,Nat.reduceBEq,i64,bV,h0,h1,h2,h3,h5,h7,h30,h31,hlt',dwkO,wd]
    refine call_wk (rest:=[_,_,_,_]) hcall rfl rfl rfl ?_
    simp only[zX,Nat.reduceShiftRight,Nat.reduceMod,Nat.reduceLT,Nat.reduceMul,Nat.reduceSub,Int.reduceToNat,Int.reduceNeg,Int.reduceLT,Int.reduceLE,Int.reduceEq,Nat.reduceEqDiff,Nat.reduceAdd,Nat.reduceLeDiff,reduceIte,reduceCtorEq,Nat.reduceBEq,i64,bV,h0,h1,h2,h3,h5,h7,h30,h31,zeroO8,Option.map_none,wkV,reV_eq]
    all_goals first | exact⟨rfl,rfl⟩ | exact⟨rfl,trivial⟩ | rfl | trivial | (rw[reV_eq]; rfl)
  | some kid =>
   rw[hcs _ _ _ _ rfl] at hcK
   have hs2:=hsz2 kid s2 ys2 w2 hs' rfl
   have hm':m=k - (i + 1):=by omega
   rw[hm'] at hcK
   simp only at hsuf2
   simp only[i64,wkV,bV] at hcall
   have hkc:kid.cells.length=8:=Re.cells_len kid
   rcases hacc with ⟨hz,rfl⟩ | ⟨g,X,hX,rfl⟩
   ·simp only[zX,Nat.reduceShiftRight,Nat.reduceMod,Nat.reduceLT,Nat.reduceMul,Nat.reduceSub,Int.reduceToNat,Int.reduceNeg,Int.reduceLT,Int.reduceLE,Int.reduceEq,Nat.reduceEqDiff,Nat.reduceAdd,Nat.reduceLeDiff,reduceIte,reduceCtorEq,Nat.reduceBEq,i64,bV,h0,h1,h2,h3,h5,h7,h30,h31,hlt',dwkO,wd]
    refine call_wk (rest:=[_,_]) hcall rfl rfl (by simp [renV,renV.go,renV_reV]) ?_
    simp only[zX,Nat.reduceShiftRight,Nat.reduceMod,Nat.reduceLT,Nat.reduceMul,Nat.reduceSub,Int.reduceToNat,Int.reduceNeg,Int.reduceLT,Int.reduceLE,Int.reduceEq,Nat.reduceEqDiff,Nat.reduceAdd,Nat.reduceLeDiff,reduceIte,reduceCtorEq,Nat.reduceBEq,i64,bV,h0,h1,h2,h3,h5,h7,h30,h31,rkO,wi,reV_eq]
    refine⟨by simp,by simp,k - (i + 1),_,_,by omega,Cln.refl,i + 1,l++[kid],s2,ys2,w2,rfl,hlt,by simp [hli],hsuf2,hs2,hcK,?_,?_,?_,?_,?_,?_,?_,?_,.inr ⟨0,⟨0,true,8,[kid.cells.map V.d]⟩,?_,?_⟩⟩ <;> (try simp only[zU,Nat.reduceBEq,Nat.reduceShiftRight,Nat.reduceMod,Nat.reduceEqDiff,reduceIte])
    ·exact h0
    ·exact h1
    ·exact h2
    ·exact h3
    ·exact h5
    ·exact h7
    ·exact h30
    ·rfl
    ·simp [objOk,Re.cells_eq kid,refsV]
    ·have hl0:l=[]:=List.eq_nil_of_length_eq_zero (by omega)
     subst hl0 hz
     simp only[kdO,rkO,i64,bV,Re.cells_eq kid,List.nil_append,List.map_cons,List.map_nil]
   ·simp only[zX,Nat.reduceShiftRight,Nat.reduceMod,Nat.reduceLT,Nat.reduceMul,Nat.reduceSub,Int.reduceToNat,Int.reduceNeg,Int.reduceLT,Int.reduceLE,Int.reduceEq,Nat.reduceEqDiff,Nat.reduceAdd,Nat.reduceLeDiff,reduceIte,reduceCtorEq,Nat.reduceBEq,i64,bV,h0,h1,h2,h3,h5,h7,h30,h31,hlt',dwkO,wd]
    refine call_wk (rest:=[_,_,_,_]) hcall rfl rfl (by simp [renV,renV.go,renV_reV]) ?_
    simp only[zX,Nat.reduceShiftRight,Nat.reduceMod,Nat.reduceLT,Nat.reduceMul,Nat.reduceSub,Int.reduceToNat,Int.reduceNeg,Int.reduceLT,Int.reduceLE,Int.reduceEq,Nat.reduceEqDiff,Nat.reduceAdd,Nat.reduceLeDiff,reduceIte,reduceCtorEq,Nat.reduceBEq,i64,bV,h0,h1,h2,h3,h5,h7,h30,h31,rkO,kdO,wi,reV_eq]
    rw[kd_snoc (g + 1) i l kid hli]
    refine⟨by simp,⟨by omega,by omega⟩,k - (i + 1),_,_,by omega,Cln.cut 8 (by omega) rfl ?_ [0,1,2,3,5,7,30,31] ?_,i + 1,l++[kid],s2,ys2,w2,rfl,hlt,by simp [hli],hsuf2,hs2,hcK,?_,?_,?_,?_,?_,?_,?_,?_,.inr ⟨g + 1,X,hX,?_⟩⟩ <;> (try simp only[zU,Nat.reduceBEq,Nat.reduceShiftRight,Nat.reduceMod,Nat.reduceEqDiff,reduceIte])
    ·simp only[List.take_succ_cons,List.take_zero,List.all_cons,List.all_nil,Bool.and_true,hX,Bool.true_and]
     simp only[objOk_kd,Bool.and_true]
     rfl
    ·simp [updE,trimE_app,refsV,h0,h1,h2,h3,h5,h7,h30,i64]
    ·exact h0
    ·exact h1
    ·exact h2
    ·exact h3
    ·exact h5
    ·exact h7
    ·exact h30
    ·rfl
    ·rfl
end Go.Proofs.Ytafbdphblilenaa
