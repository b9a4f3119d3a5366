/- A part of the proof (F110 F115). -/
import Derived.Test.YtffeafbdcakfbaaAQ6
import Derived.Test.YtffeafbdcakfbaaAQ5
import Derived.Test.YtffeafbdcakfbaaAQ19
set_option linter.unusedSimpArgs false
set_option linter.unusedVariables false
set_option maxRecDepth 100000
set_option maxHeartbeats 80000000
set_option linter.unusedSimpArgs false
set_option linter.unusedVariables false
namespace Go.Proofs.Ytffeafbdcakfbaa
open Go.VL Go.Proofs.Try
def hole8:VL.Obj:=⟨0,true,8,[]⟩
def chK (re:Re) (v:V):List V:=[.d (iD re.op),.d (.sl (re.set.map spanC)),v,.d (iD re.mn),.d (iD re.mx),.d (iD re.mode),.d (iD re.n),.d (bD re.neg)]
def chC (b:Nat) (c:List V) (re:Re):List Int→List V
 | []=>c
 | _::_=>chK re (.so b (re.kids.length + 1) 0 re.kids.length)
def chO (c:List V):Nat→Re→List Int→List VL.Obj
 | _,_,[]=>[]
 | b,re,h::p=>match re.kids[h.toNat]? with
  | none=>[]
  | some k=>⟨re.kids.length + 1,true,8,(re.kids.map fun x=>x.cells.map V.d).set h.toNat (chC (b + 1) c k p)⟩::chO c (b + 1) k p
def okP:Re→List Int→Prop
 | _,[]=>True
 | re,h::p=>0≤h∧∃k,re.kids[h.toNat]?=some k∧okP k p
theorem okP_nil (re:Re):okP re []:=by cases re; trivial
theorem okP_cons {re:Re} {h:Int} {p:List Int}:okP re (h::p) ↔ 0≤h∧∃k,re.kids[h.toNat]?=some k∧okP k p:=by cases re; exact Iff.rfl
theorem atR_nil (re:Re):re.atR []=(re,0):=by cases re; rfl
theorem putR_nil (re x:Re):re.putR [] x=(x,0):=by cases re; rfl
theorem chO_nil (c:List V) (b:Nat) (re:Re):chO c b re []=[]:=by cases re; rfl
theorem kid_lt {re k:Re} {h:Int} (h0:0≤h) (hk:re.kids[h.toNat]?=some k):¬(h < 0∨(re.kids.length:Int)≤h):=by
 have:=(List.getElem?_eq_some_iff.1 hk).1
 omega
theorem atR_cons {re k:Re} {h:Int} {p:List Int} (h0:0≤h) (hk:re.kids[h.toNat]?=some k):re.atR (h::p)=k.atR p:=by
 rw[Re.atR,if_neg (kid_lt h0 hk),hk]
theorem chO_cons {re k:Re} {h:Int} {p:List Int} {c:List V} {b:Nat} (hk:re.kids[h.toNat]?=some k) :
  chO c b re (h::p)=⟨re.kids.length + 1,true,8,(re.kids.map fun x=>x.cells.map V.d).set h.toNat (chC (b + 1) c k p)⟩::chO c (b + 1) k p:=by
 rw[chO,hk]
theorem atR_ok:∀(p:List Int) (re:Re),okP re p→(re.atR p).2=0
 | [],re,_=>by rw[atR_nil]
 | h::p,re,ho=>by
  obtain⟨h0,k,hk,ho⟩:=okP_cons.1 ho
  rw[atR_cons h0 hk]
  exact atR_ok p k ho
theorem atR_bad:∀(p:List Int) (re:Re),¬okP re p→re.atR p=(zeroRe,7)
 | [],re,h=>(h (okP_nil re)).elim
 | h::p,re,ho=>by
  rw[Re.atR]
  split
  ·rfl
  ·rename_i hb
   split
   ·rename_i k hk
    exact atR_bad p k fun h'=>ho (okP_cons.2 ⟨by omega,k,hk,h'⟩)
   ·rfl
theorem putR_cons {re k:Re} {h:Int} {p:List Int} (x:Re) (h0:0≤h) (hk:re.kids[h.toNat]?=some k) :
  re.putR (h::p) x=if (k.putR p x).2≠0 then (zeroRe,(k.putR p x).2) else (re.setKids (re.kids.take h.toNat++(k.putR p x).1::re.kids.drop (h.toNat + 1)),0):=by
 rw[Re.putR,if_neg (kid_lt h0 hk),hk]
theorem putR_ok (x:Re):∀(p:List Int) (re:Re),okP re p→(re.putR p x).2=0
 | [],re,_=>by rw[putR_nil]
 | h::p,re,ho=>by
  obtain⟨h0,k,hk,ho⟩:=okP_cons.1 ho
  rw[putR_cons x h0 hk,if_neg (by simp [putR_ok x p k ho])]
theorem putR_bad (x:Re):∀(p:List Int) (re:Re),¬okP re p→re.putR p x=(zeroRe,7)
 | [],re,h=>(h (okP_nil re)).elim
 | h::p,re,ho=>by
  rw[Re.putR]
  split
  ·rfl
  ·rename_i hb
   split
   ·rename_i k hk
    rw[putR_bad x p k fun h'=>ho (okP_cons.2 ⟨by omega,k,hk,h'⟩)]
    rfl
   ·rfl
theorem putR_set (x:Re) {re k:Re} {h:Int} {p:List Int} (h0:0≤h) (hk:re.kids[h.toNat]?=some k) (ho:okP k p):(re.putR (h::p) x).1=re.setKids (re.kids.set h.toNat (k.putR p x).1):=by
 rw[putR_cons x h0 hk,if_neg (by simp [putR_ok x p k ho])]
 have:=(List.getElem?_eq_some_iff.1 hk).1
 rw[List.set_eq_take_append_cons_drop,if_pos this]
theorem Re.setKids_kids (re:Re) (l:List Re):(re.setKids l).kids=l:=by cases re; rfl
theorem Re.setKids_cellsD (re:Re) (l:List Re):(re.setKids l).cells=[iD re.op,.sl (re.set.map spanC),.sl (l.map Re.cells),iD re.mn,iD re.mx,iD re.mode,iD re.n,bD re.neg]:=by
 cases re; rw[Re.cells_eq]; rfl
theorem pathsL_ok:∀(l:List Re) (i:Int) (p:List Int),p∈Re.pathsL l i→∃(n:Nat) (k:Re) (q:List Int),l[n]?=some k∧q∈k.paths∧p=(i + n)::q
 | [],i,p,h=>by simp [Re.pathsL] at h
 | k::l,i,p,h=>by
  simp only[Re.pathsL,List.mem_append,List.mem_map] at h
  rcases h with ⟨q,hq,rfl⟩ | h
  ·exact⟨0,k,q,rfl,hq,by simp⟩
  ·obtain⟨n,k',q,h1,h2,rfl⟩:=pathsL_ok l (i + 1) p h
   exact⟨n + 1,k',q,h1,h2,by congr 1; omega⟩
theorem rpaths_ok (re:Re):∀p∈re.paths,okP re p:=by
 refine Re.ind (Q:=fun re=>∀p∈re.paths,okP re p) (fun re ih=>?_) re
 intro p hp
 rw[Re.paths_eq] at hp
 rcases List.mem_cons.1 hp with rfl | hp
 ·exact okP_nil re
 ·obtain⟨n,k,q,h1,h2,rfl⟩:=pathsL_ok _ _ _ hp
  refine okP_cons.2 ⟨by omega,k,?_,ih k (List.mem_of_getElem? h1) q h2⟩
  rw[show ((0:Int) + n).toNat=n by omega]; exact h1
theorem chO_len (c:List V):∀(p:List Int) (b:Nat) (re:Re),okP re p→(chO c b re p).length=p.length
 | [],b,re,_=>by rw[chO_nil]; rfl
 | h::p,b,re,ho=>by
  obtain⟨h0,k,hk,ho⟩:=okP_cons.1 ho
  rw[chO_cons hk,List.length_cons,List.length_cons,chO_len c p _ k ho]
theorem renV_go_d (ρ:List Nat) (c:List D):renV.go ρ (c.map V.d)=c.map V.d:=by
 rw[renV_go,List.map_map]
 exact List.map_congr_left fun x _=>rfl
theorem chC_ren {ρ:List Nat} {b b':Nat} (c:List D) (re:Re) (p:List Int) (h:p≠[]→ρ.getD b 0=b'):renV.go ρ (chC b (c.map V.d) re p)=chC b' (c.map V.d) re p:=by
 cases p with
 | nil=>exact renV_go_d ρ c
 | cons x p=>simp only[chC,chK,renV.go,renV,h (by simp)]
theorem chO_ren {ρ:List Nat} (c:List D):∀(p:List Int) (b b':Nat) (re:Re),(∀j,0 < j→j < p.length→ρ.getD (b + j) 0=b' + j)→(chO (c.map V.d) b re p).map (renO ρ)=chO (c.map V.d) b' re p
 | [],b,b',re,_=>by rw[chO_nil,chO_nil]; rfl
 | h::p,b,b',re,hρ=>by
  cases hk:re.kids[h.toNat]? with
  | none=>rw[chO,chO,hk]; rfl
  | some k =>
   rw[chO_cons hk,chO_cons hk,List.map_cons,chO_ren c p (b + 1) (b' + 1) k (fun j h1 h2=>by have:=hρ (j + 1) (by omega) (by simp; omega); rw[show b + 1 + j=b + (j + 1) by omega,this]; omega)]
   congr 1
   unfold renO
   simp only[VL.Obj.mk.injEq,true_and]
   rw[List.map_set,List.map_map,chC_ren (b':=b' + 1) c k p (fun hne=>hρ 1 (by omega) (by have:=List.length_pos_iff.2 hne; simp; omega))]
   congr 1
   exact List.map_congr_left fun x _=>renV_go_d ρ _
theorem refs_data (lim:Nat) (c:List D):(c.map V.d).all (refsV lim)=true:=by
 rw[List.all_eq_true]; intro x hx; obtain⟨d,_,rfl⟩:=List.mem_map.1 hx; rfl
theorem chC_refs (lim b:Nat) (c:List D) (re:Re) (p:List Int) (h:p≠[]→b < lim):(chC b (c.map V.d) re p).all (refsV lim)=true:=by
 cases p with
 | nil=>exact refs_data lim c
 | cons x p=>simp [chC,chK,refsV,h (by simp)]
theorem chO_obj (lim:Nat) (c:List D):∀(p:List Int) (b:Nat) (re:Re),b + p.length≤lim→(chO (c.map V.d) b re p).all (objOk lim)=true
 | [],b,re,_=>by rw[chO_nil]; rfl
 | h::p,b,re,hl=>by
  simp only[List.length_cons] at hl
  cases hk:re.kids[h.toNat]? with
  | none=>rw[chO,hk]; rfl
  | some k =>
   rw[chO_cons hk,List.all_cons,chO_obj lim c p (b + 1) k (by omega),Bool.and_true]
   unfold objOk
   rw[List.all_eq_true]
   intro e he
   rcases List.mem_or_eq_of_mem_set he with he | rfl
   ·obtain⟨x,_,rfl⟩:=List.mem_map.1 he
    exact refs_data lim _
   ·exact chC_refs lim (b + 1) c k p fun hne=>by have:=List.length_pos_iff.2 hne; omega
theorem mapM_set {α β:Type} {f:α→Option β}:∀{l:List α} {r:List β} {i:Nat} {x:α} {y:β},l.mapM f=some r→f x=some y→(l.set i x).mapM f=some (r.set i y)
 | [],r,i,x,y,h,_=>by simp at h; subst h; simp
 | a::l,r,i,x,y,h,hx=>by
  simp only[List.mapM_cons,Option.bind_eq_bind,Option.pure_def] at h
  cases ha:f a with
  | none=>rw[ha] at h; simp at h
  | some b =>
   rw[ha] at h
   cases hl:l.mapM f with
   | none=>rw[hl] at h; simp at h
   | some bs =>
    rw[hl] at h
    simp only[Option.bind_some,Option.some.injEq] at h
    subst h
    cases i with
    | zero=>simp [hx,hl]
    | succ i=>simp [ha,mapM_set (i:=i) hl hx]
theorem ch_frz {x:Re} {lim:Nat} {s:List VL.Obj}:∀(p:List Int) (n b:Nat) (re:Re),okP re p→p.length≤n→lim≤b→(∀t o,(chO (x.cells.map V.d) b re p)[t]?=some o→s[b + t]?=some o) →
  (chC b (x.cells.map V.d) re p).mapM (frzD n lim s)=some (re.putR p x).1.cells
 | [],n,b,re,_,_,_,_=>by rw[putR_nil]; exact mapM_frzD n lim s _
 | h::p,n,b,re,ho,hn,hl,hs=>by
  obtain⟨h0,k,hk,ho⟩:=okP_cons.1 ho
  rw[chO_cons hk] at hs
  simp only[List.length_cons] at hn
  obtain⟨n,rfl⟩:∃m,n=m + 1:=⟨n - 1,by omega⟩
  have ih:=ch_frz (lim:=lim) p n (b + 1) k ho (by omega) (by omega) fun t o ht=>by
   have:=hs (t + 1) o (by simpa using ht)
   rwa [show b + (t + 1)=b + 1 + t by omega] at this
  have hs0:=hs 0 _ rfl
  rw[Nat.add_zero] at hs0
  rw[putR_set x h0 hk ho,Re.setKids_cellsD]
  have hd:=mapM_frzE n lim s (re.kids.map Re.cells)
  rw[List.map_map] at hd
  have hm:=mapM_set (i:=h.toNat) hd ih
  have hso:frzD (n + 1) lim s (.so b (re.kids.length + 1) 0 re.kids.length)=some (.sl ((re.kids.set h.toNat (k.putR p x).1).map Re.cells)):=by
   simp only[frzD,hs0,true_and]
   rw[if_pos ⟨by simp,.inl hl⟩,List.drop_zero,List.take_of_length_le (by simp)]
   rw[show (re.kids.map fun x=>x.cells.map V.d)=re.kids.map ((fun c=>c.map V.d) ∘ Re.cells) from rfl,hm,List.map_set]
   rfl
  simp only[chC,chK,List.mapM_cons,List.mapM_nil,frzD_d,hso]
  rfl
theorem ch_so {x:Re} {lim:Nat} {s:List VL.Obj} {h:Int} {p:List Int} {n b:Nat} {re:Re} (ho:okP re (h::p)) (hn:p.length≤n) (hl:lim≤b) (hs:∀t o,(chO (x.cells.map V.d) b re (h::p))[t]?=some o→s[b + t]?=some o) :
  frzD (n + 1) lim s (.so b (re.kids.length + 1) 0 re.kids.length)=some (.sl ((re.putR (h::p) x).1.kids.map Re.cells)):=by
 have hf:=ch_frz (x:=x) (h::p) (n + 1) b re ho (by simp only[List.length_cons]; omega) hl hs
 obtain⟨h0,k,hk,hok⟩:=okP_cons.1 ho
 rw[putR_set x h0 hk hok,Re.setKids_cellsD] at hf
 rw[putR_set x h0 hk hok,Re.setKids_kids]
 simp only[chC,chK,List.mapM_cons,List.mapM_nil,frzD_d,Option.bind_eq_bind,Option.bind_some,Option.pure_def] at hf
 cases hd:frzD (n + 1) lim s (.so b (re.kids.length + 1) 0 re.kids.length) with
 | none=>rw[hd] at hf; cases hf
 | some y =>
  rw[hd] at hf
  simp only[Option.bind_some,Option.some.injEq,List.cons.injEq,and_true,true_and] at hf
  rw[hf]
theorem ch_frzV {x:Re} {s:List VL.Obj} {p:List Int} {b:Nat} {re:Re} (ho:okP re p) (hn:p.length≤8) (hs:∀t o,(chO (x.cells.map V.d) b re p)[t]?=some o→s[b + t]?=some o) :
  frzV.go 0 s (chC b (x.cells.map V.d) re p)=some ((re.putR p x).1.cells.map V.d):=by
 cases p with
 | nil=>rw[putR_nil]; exact frzV_go_d 0 s _
 | cons h p =>
  have hso:=ch_so (n:=7) (lim:=0) ho (by simp only[List.length_cons] at hn; omega) (Nat.zero_le _) hs
  obtain⟨h0,k,hk,hok⟩:=okP_cons.1 ho
  rw[putR_set x h0 hk hok,Re.setKids_kids] at hso
  rw[putR_set x h0 hk hok,Re.setKids_cellsD]
  simp only[chC,chK,frzV.go,frzV,hso]
  rfl
def endR:V→Nat→Re→List Int→V
 | cur,_,_,[]=>cur
 | cur,b,re,h::p=>match re.kids[h.toNat]? with
  | none=>cur
  | some k=>endR (.rf b (re.kids.length + 1) h.toNat 0) (b + 1) k p
theorem endR_nil (cur:V) (b:Nat) (re:Re):endR cur b re []=cur:=by cases re; rfl
theorem endR_cons {cur:V} {b:Nat} {re k:Re} {h:Int} {p:List Int} (hk:re.kids[h.toNat]?=some k):endR cur b re (h::p)=endR (.rf b (re.kids.length + 1) h.toNat 0) (b + 1) k p:=by
 rw[endR,hk]
theorem endR_ren {ρ:List Nat}:∀(p:List Int) (cur:V) (b b':Nat) (re:Re),(∀j,j < p.length→ρ.getD (b + j) 0=b' + j)→renV ρ (endR cur b re p)=endR (renV ρ cur) b' re p
 | [],cur,b,b',re,_=>by rw[endR_nil,endR_nil]
 | h::p,cur,b,b',re,hρ=>by
  cases hk:re.kids[h.toNat]? with
  | none=>rw[endR,endR,hk]
  | some k =>
   rw[endR_cons hk,endR_cons hk,endR_ren p _ (b + 1) (b' + 1) k (fun j hj=>by have:=hρ (j + 1) (by simp; omega); rw[show b + 1 + j=b + (j + 1) by omega,this]; omega)]
   have h0:=hρ 0 (by simp)
   simp only[renV]
   rw[show ρ.getD b 0=b' from h0]
theorem chO_last:∀(p:List Int) (b:Nat) (re:Re),okP re p→p≠[]→∃(pre:List VL.Obj) (g h:Nat) (els:List (List V)),pre.length + 1=p.length∧h < els.length∧(∀cur,endR cur b re p=.rf (b + pre.length) g h 0) ∧
  ∀c,chO c b re p=pre++[⟨g,true,8,els.set h c⟩]
 | [],b,re,_,hne=>(hne rfl).elim
 | h::p,b,re,ho,_=>by
  obtain⟨h0,k,hk,ho⟩:=okP_cons.1 ho
  have hlt:=(List.getElem?_eq_some_iff.1 hk).1
  by_cases hp:p=[]
  ·subst hp
   exact⟨[],re.kids.length + 1,h.toNat,re.kids.map fun x=>x.cells.map V.d,rfl,by rw[List.length_map]; exact hlt,fun cur=>by rw[endR_cons hk,endR_nil]; rfl,fun c=>by rw[chO_cons hk,chO_nil]; rfl⟩
  ·obtain⟨pre,g,i,els,h1,h2,h3,h4⟩:=chO_last p (b + 1) k ho hp
   obtain⟨a,q,rfl⟩:∃a q,p=a::q:=by
    cases p with
    | nil=>exact(hp rfl).elim
    | cons a q=>exact⟨a,q,rfl⟩
   refine⟨⟨re.kids.length + 1,true,8,(re.kids.map fun x=>x.cells.map V.d).set h.toNat (chK k (.so (b + 1) (k.kids.length + 1) 0 k.kids.length))⟩::pre,g,i,els,by simp only[List.length_cons] at h1 ⊢; omega,h2,fun cur=>?_,fun c=>?_⟩
   ·rw[endR_cons hk,h3,List.length_cons,show b + 1 + pre.length=b + (pre.length + 1) by omega]
   ·rw[chO_cons hk,h4 c]
    rfl
theorem le_foldl_of_mem:∀(l:List Int) (a x:Int),x∈l→x≤l.foldl max a
 | y::l,a,x,h=>by
  rcases List.mem_cons.1 h with rfl | h
  ·exact Int.le_trans (by omega) (le_foldl_max l (max a x))
  ·exact le_foldl_of_mem l (max a y) x h
theorem depth_pos (re:Re):1≤re.depth:=by
 rw[Re.depth_eq]; have:=le_foldl_max (re.kids.map Re.depth) 0; unfold maxL; omega
theorem depth_path:∀(p:List Int) (re:Re),okP re p→(p.length:Int) + 1≤re.depth
 | [],re,_=>by have:=depth_pos re; simpa using this
 | h::p,re,ho=>by
  obtain⟨h0,k,hk,ho⟩:=okP_cons.1 ho
  have ih:=depth_path p k ho
  have:=le_foldl_of_mem (re.kids.map Re.depth) 0 k.depth (List.mem_map.2 ⟨k,List.mem_of_getElem? hk,rfl⟩)
  rw[Re.depth_eq,List.length_cons]
  unfold maxL
  omega
theorem pat_depth (l:List Int) (uses most:Int) (hl:∀x∈l,I64 x) (h0:0≤most) (h1:most≤100):(patOf l uses most).re.depth≤6:=by
 have hin:(⟨l,0,uses,most,0⟩:Mk).In 0:=⟨hl,by simp,by simp,by simpa using h0,by show most≤_; omega,by simp,by simp⟩
 have h:=(tree_tt 5).tok ⟨l,0,uses,most,0⟩ 0 (by omega) hin
 have hdep:=h.dep
 show (Mk.tree 5 ⟨l,0,uses,most,0⟩).1.depth≤6
 simpa using hdep
theorem pat_path {l:List Int} {uses most:Int} (hl:∀x∈l,I64 x) (h0:0≤most) (h1:most≤100) {p:List Int} (ho:okP (patOf l uses most).re p):p.length≤5:=by
 have h2:=pat_depth l uses most hl h0 h1
 have h3:=depth_path p _ ho
 omega
theorem fine_put {x:Re} (hx:x.fine=true):∀(p:List Int) (re:Re),re.fine=true→okP re p→(re.putR p x).1.fine=true
 | [],re,_,_=>by rw[putR_nil]; exact hx
 | h::p,re,hf,ho=>by
  obtain⟨h0,k,hk,ho⟩:=okP_cons.1 ho
  obtain⟨h1,h2,h3⟩:=Re.fine_spec hf
  have ih:=fine_put hx p k (h3 k (List.mem_of_getElem? hk)) ho
  rw[putR_set x h0 hk ho,Re.fine_iff,Re.setKids_kids]
  refine⟨by cases re; exact h1,by rw[List.length_set]; exact h2,fun y hy=>?_⟩
  rcases List.mem_or_eq_of_mem_set hy with hy | rfl
  ·exact h3 y hy
  ·exact ih
theorem fine_at:∀(p:List Int) (re:Re),re.fine=true→okP re p→(re.atR p).1.fine=true
 | [],re,h,_=>by rw[atR_nil]; exact h
 | h::p,re,hf,ho=>by
  obtain⟨h0,k,hk,ho⟩:=okP_cons.1 ho
  rw[atR_cons h0 hk]
  exact fine_at p k ((Re.fine_spec hf).2.2 k (List.mem_of_getElem? hk)) ho
end Go.Proofs.Ytffeafbdcakfbaa
