/- A part of the proof (E5 E6). -/
import Derived.Test.YtllagoeijcjpiaaSL3
import Derived.Test.YtllagoeijcjpiaaSL5
import Derived.Test.YtllagoeijcjpiaaSL23
set_option linter.unusedSimpArgs false
set_option linter.unusedVariables false
set_option maxRecDepth 100000
set_option maxHeartbeats 80000000
namespace Go.Proofs.Ytllagoeijcjpiaa
open Go.VL Go.Proofs.Try
inductive LK where
 | tree (re:Re)
 | rep (re:Re) (k:Int)
 | list (l:List Re)
inductive Ln:LK→Int→Prop where
 | set {re:Re} (ho:re.op=1):Ln (.tree re) 1
 | ref {re:Re} {n:Int} (ho:re.op=6) (h:0≤n):Ln (.tree re) n
 | cat {re:Re} {n:Int} (ho:re.op=2) (h:Ln (.list re.kids) n):Ln (.tree re) n
 | alt {re kid:Re} {n:Int} (ho:re.op=3∨re.op=5∨re.op=9∨re.op=10) (hk:kid∈re.kids) (h:Ln (.tree kid) n):Ln (.tree re) n
 | rep {re:Re} {n:Int} (ho:re.op=4) (h:Ln (.rep re 0) n):Ln (.tree re) n
 | zero {re:Re} (ho:re.op ∉ ([1,2,3,4,5,6,9,10]:List Int)):Ln (.tree re) 0
 | nilL:Ln (.list []) 0
 | consL {k:Re} {l:List Re} {a b:Int} (h:Ln (.tree k) a) (h2:Ln (.list l) b):Ln (.list (k::l)) (a + b)
 | done {re:Re} {k:Int} (hk:¬k < re.mn):Ln (.rep re k) 0
 | more {re kid:Re} {k a b:Int} {l:List Re} (hkk:re.kids=kid::l) (hk:k < re.mn∨re.mx=-1∨k < re.mx) (h:Ln (.tree kid) a) (h2:Ln (.rep re (k + 1)) b):Ln (.rep re k) (a + b)
theorem Ln.mode {k:LK} {n:Int} (h:Ln k n):∀{re:Re} {m j:Int},k=.rep (re.setMode m) j→Ln (.rep re j) n:=by
 induction h with
 | done hk=>intro re m j e; cases e; exact .done hk
 | more hkk hk h _ _ ih2=>intro re m j e; cases e; exact .more hkk hk h (ih2 rfl)
 | _=>intro re m j e; cases e
def repK (re:Re) (k:Int):LK:=.rep re (if re.mode=2 then 0 else k)
def LenG:Goal→Int→Int→Prop
 | .nil,i,e=>e=i
 | .mk kind re k _ nx,i,e=>if kind=1 then ∃m,Ln (repK re k) (m - i)∧LenG nx m e else if kind=2 then ∃m,Ln (repK re (k + 1)) (m - i)∧LenG nx m e else if kind=3∨kind=4 then LenG nx i e else ∃m,Ln (.tree re) (m - i)∧LenG nx m e
def LenT:ETask→Int→Prop
 | .run g i _,e=>LenG g i e
 | .rep re k nx i _,e=>∃m,Ln (repK re k) (m - i)∧LenG nx m e
 | .node re nx i _,e=>∃m,Ln (.tree re) (m - i)∧LenG nx m e
 | .body re nx i _,e=>re.op≠4→∃m,Ln (.tree re) (m - i)∧LenG nx m e
 | .alt l nx i _,e=>∃kid,kid∈l∧∃m,Ln (.tree kid) (m - i)∧LenG nx m e
 | .behind _ _ nx i _ _,e=>LenG nx i e
theorem lenG_all:∀(l:List Re) {nx:Goal} {i e:Int},LenG (pushAll l nx) i e→∃m,Ln (.list l) (m - i)∧LenG nx m e
 | [],nx,i,e,h=>⟨i,by rw[Int.sub_self]; exact .nilL,h⟩
 | k::l,nx,i,e,h=>by
  have h:LenG (.mk 0 k 0 0 (pushAll l nx)) i e:=h
  simp only[LenG,Int.reduceEq,if_false,or_self] at h
  obtain⟨m,h1,h2⟩:=h
  obtain⟨m2,h3,h4⟩:=lenG_all l h2
  exact⟨m2,by rw[show m2 - i=(m - i) + (m2 - m) by omega]; exact .consL h1 h3,h4⟩
def NewL (st st':Sst) (P:Int→Prop):Prop:=∃new,st'.ends=st.ends++new∧∀e∈new,P e
theorem NewL.mono {st st':Sst} {P Q:Int→Prop} (h:NewL st st' P) (hPQ:∀e,P e→Q e):NewL st st' Q:=by
 obtain⟨new,h1,h2⟩:=h
 exact⟨new,h1,fun e he=>hPQ e (h2 e he)⟩
theorem NewL.same {st st':Sst} {P:Int→Prop} (h:st'.ends=st.ends):NewL st st' P:=⟨[],by rw[h,List.append_nil],fun e he=>by simp at he⟩
theorem NewL.trans {st s2 st':Sst} {P:Int→Prop} (h:NewL st s2 P) (k:NewL s2 st' P):NewL st st' P:=by
 obtain⟨a,h1,h2⟩:=h
 obtain⟨b,k1,k2⟩:=k
 exact⟨a++b,by rw[k1,h1,List.append_assoc],fun e he=>(List.mem_append.1 he).elim (h2 e) (k2 e)⟩
theorem NewL.first {st x:Sst} {P:Int→Prop} {e:Int} {le:List Int} (h:NewL st.sub x P) (he:x.ends=e::le):P e:=by
 obtain⟨new,h1,h2⟩:=h
 have h1:x.ends=new:=by simpa [Sst.sub] using h1
 exact h2 e (by rw[← h1,he]; simp)
theorem more_len {re kid:Re} {l:List Re} {nx:Goal} {k i f e:Int} (hm:re.mode≠2) (hkk:re.kids=kid::l) (hk:k < re.mn∨re.mx=-1∨k < re.mx) (h:LenG (.mk 0 kid 0 0 (.mk 2 re k f nx)) i e):∃m,Ln (repK re k) (m - i)∧LenG nx m e:=by
 simp only[LenG,Int.reduceEq,if_false,if_true,or_self] at h
 obtain⟨m,h1,m2,h2,h3⟩:=h
 unfold repK at *
 rw[if_neg hm] at h2 ⊢
 exact⟨m2,by rw[show m2 - i=(m - i) + (m2 - m) by omega]; exact .more hkk hk h1 h2,h3⟩
theorem done_len {re:Re} {nx:Goal} {k i e:Int} (hm:re.mode≠2) (hk:¬k < re.mn) (h:LenG nx i e):∃m,Ln (repK re k) (m - i)∧LenG nx m e :=
 ⟨i,by unfold repK; rw[if_neg hm,Int.sub_self]; exact .done hk,h⟩
theorem zero_len {re:Re} {nx:Goal} {i e:Int} (ho:re.op ∉ ([1,2,3,4,5,6,9,10]:List Int)) (h:LenG nx i e):∃m,Ln (.tree re) (m - i)∧LenG nx m e:=⟨i,by rw[Int.sub_self]; exact .zero ho,h⟩
theorem kid_len {re kid:Re} {nx:Goal} {i e:Int} (ho:re.op=3∨re.op=5∨re.op=9∨re.op=10) (hk:kid∈re.kids) (h:∃m,Ln (.tree kid) (m - i)∧LenG nx m e):∃m,Ln (.tree re) (m - i)∧LenG nx m e:=by
 obtain⟨m,h1,h2⟩:=h
 exact⟨m,.alt ho hk h1,h2⟩
theorem tree_len {kid:Re} {nx:Goal} {i e:Int} (h:LenG (.mk 0 kid 0 0 nx) i e):∃m,Ln (.tree kid) (m - i)∧LenG nx m e:=by
 simpa only[LenG,Int.reduceEq,if_false,or_self] using h
theorem one_sub (x:Int):x + 1 - x=1:=by omega
theorem EvI.lens {t:List Int} {F most:Int} {task:ETask} {st st':Sst} {b:Bool} (h:EvI t F most task st b st'):NewL st st' (LenT task):=by
 induction h with
 | found=>exact⟨[_],rfl,fun e he=>by simpa [LenT,LenG] using he⟩
 | tree hk1 hk2 hk3 hk4 _ _ _ ih=>exact ih.mono fun e he=>by simpa [LenT,LenG,hk1,hk2,hk3,hk4] using he
 | goRep _ _ _ ih=>exact ih.mono fun e he=>by simpa [LenT,LenG] using he
 | iter _ _ _ _ _ _ ih=>exact ih.mono fun e he=>by simpa [LenT,LenG] using he
 | save _ _ _ ih=>exact ih.mono fun e he=>by simpa [LenT,LenG] using he
 | here _ _ _ _ ih=>exact ih.mono fun e he=>by simpa [LenT,LenG] using he
 | stay=>exact .same rfl
 | gone=>exact .same rfl
 | possOut=>exact .same rfl
 | possNo=>exact .same rfl
 | repOut=>exact .same rfl
 | nodeOut=>exact .same rfl
 | setNo=>exact .same rfl
 | altNil=>exact .same rfl
 | refNone=>exact .same rfl
 | refLong=>exact .same rfl
 | refNo=>exact .same rfl
 | aheadOut=>exact .same rfl
 | aheadNo=>exact .same rfl
 | aheadYesNeg=>exact .same rfl
 | bhNo=>exact .same rfl
 | bhOut=>exact .same rfl
 | bhYesNeg=>exact .same rfl
 | atomOut=>exact .same rfl
 | atomNo=>exact .same rfl
 | assertNo=>exact .same rfl
 | possYes hm h hx he hd h2 ih ih2 =>
  have h1:=ih.first he
  simp only[LenT,LenG,if_true] at h1
  obtain⟨m,h3,rfl⟩:=h1
  refine NewL.mono (show NewL _ _ _ from ih2) fun e he=>⟨_,?_,he⟩
  unfold repK
  rw[if_pos hm]
  refine Ln.mode h3 ?_ (m:=0)
  unfold repK
  split <;> rfl
 | repMin hm hs he hkk hk h ih=>exact NewL.mono (show NewL _ _ _ from ih) fun e he=>more_len hm hkk (.inl hk) he
 | repMax hm hs he hkk hk hx h ih=>exact NewL.mono (show NewL _ _ _ from ih) fun e he=>done_len hm hk he
 | lazyT hm hs he hkk hk hx h ih=>exact NewL.mono (show NewL _ _ _ from ih) fun e he=>done_len (by rw[hm]; decide) hk he
 | lazyF hm hs he hkk hk hx h h2 ih ih2=>exact(NewL.mono (show NewL _ _ _ from ih) fun e he=>done_len (by rw[hm]; decide) hk he).trans (ih2.mono fun e he=>more_len (by rw[hm]; decide) hkk (.inr hx) he)
 | moreT hm _ hs he hkk hk hx h ih=>exact NewL.mono (show NewL _ _ _ from ih) fun e he=>more_len hm hkk (.inr hx) he
 | moreF hm _ hs he hkk hk hx h h2 ih ih2=>exact(NewL.mono (show NewL _ _ _ from ih) fun e he=>more_len hm hkk (.inr hx) he).trans (ih2.mono fun e he=>done_len hm hk he)
 | nodeRep ho _ _ h ih =>
  refine ih.mono fun e he=>?_
  obtain⟨m,h1,h2⟩:=he
  refine⟨m,.rep ho ?_,h2⟩
  unfold repK at h1
  rwa [ite_self] at h1
 | node ho hs he h ih=>exact NewL.mono (show NewL _ _ _ from ih) fun e he=>he ho
 | empty ho h ih=>exact ih.mono fun e he h4=>zero_len (by simp at ho ⊢; omega) he
 | setYes ho hi hs h ih=>exact ih.mono fun e he _=>⟨_,by rw[one_sub]; exact .set ho,he⟩
 | cat ho h ih =>
  refine ih.mono fun e he _=>?_
  obtain⟨m,h1,h2⟩:=lenG_all _ he
  exact⟨m,.cat ho h1,h2⟩
 | alt ho h ih =>
  refine ih.mono fun e he _=>?_
  obtain⟨kid,hk,h1⟩:=he
  exact kid_len (.inl ho) hk h1
 | altT h ih=>exact ih.mono fun e he=>⟨_,List.mem_cons_self ..,tree_len he⟩
 | altF h h2 ih ih2=>exact(ih.mono fun e he=>⟨_,List.mem_cons_self ..,tree_len he⟩).trans (ih2.mono fun e he=>by obtain⟨kid,hk,h1⟩:=he; exact⟨kid,List.mem_cons_of_mem _ hk,h1⟩)
 | cap ho hkk h ih =>
  refine ih.mono fun e he _=>?_
  obtain⟨m,h1,h2⟩:=tree_len he
  refine kid_len (.inr (.inl ho)) ?_ ⟨m,h1,by simpa [LenG] using h2⟩
  rw[hkk]; simp
 | refYes ho hx h12 h2 hl hs h ih=>exact ih.mono fun e he _=>⟨_,.ref ho (by omega),he⟩
 | aheadNoNeg ho hkk h hx he hn h2 ih ih2=>exact NewL.mono (show NewL _ _ _ from ih2) fun e he _=>zero_len (by rw[ho]; decide) he
 | aheadYes ho hkk h hx he hd hn h2 ih ih2=>exact NewL.mono (show NewL _ _ _ from ih2) fun e he _=>zero_len (by rw[ho]; decide) he
 | behind ho hkk he h ih=>exact ih.mono fun e he _=>zero_len (by rw[ho]; decide) he
 | bhNoNeg hn h ih=>exact ih
 | bhYes h hx he hd hn h2 ih ih2=>exact ih2
 | bhMore h hx he h2 ih ih2=>exact ih2
 | atomYes ho hkk h hx he hd h2 ih ih2 =>
  have h1:=ih.first he
  obtain⟨m,h3,h4⟩:=tree_len h1
  have h4:_=m:=h4
  subst h4
  exact NewL.mono (show NewL _ _ _ from ih2) fun e he _=>kid_len (.inr (.inr (.inl ho))) (by rw[hkk]; simp) ⟨_,h3,he⟩
 | cond ho hkk h ih =>
  refine ih.mono fun e he _=>?_
  have h1:=tree_len he
  refine kid_len (.inr (.inr (.inr ho))) ?_ h1
  rw[hkk]
  split <;> simp
 | assertYes ho hh h ih=>exact ih.mono fun e he _=>zero_len (by rw[ho]; decide) he
def InL (p:Int × Int) (n:Int):Prop:=p.1≤n∧(0≤p.2→n≤p.2)
theorem inl_plus {na nk:Bool} {a k:Int × Int} {n m:Int} (ha:LR na a) (hk:LR nk k) (h1:InL a n) (h2:InL k m) (h3:n + m≤1000000):InL (lplus a.1 k.1,lplus a.2 k.2) (n + m):=by
 obtain⟨a0,a1,b0,b1,ab,nl⟩:=ha
 obtain⟨c0,c1,d0,d1,cd,nl'⟩:=hk
 obtain⟨h1,h1'⟩:=h1
 obtain⟨h2,h2'⟩:=h2
 have e1:lplus a.1 k.1=min (a.1 + k.1) 1000000:=by rw[lplus_in ⟨by omega,a1⟩ ⟨by omega,c1⟩,if_neg (by omega)]
 have e2:=lplus_in ⟨b0,b1⟩ ⟨d0,d1⟩
 refine⟨?_,?_⟩ <;> simp only[e1,e2]
 ·omega
 ·split <;> omega
theorem inl_alt {a k:Int × Int} {n:Int} (h:InL a n∨InL k n) (ha:-1≤a.2) (hk:-1≤k.2):InL (altF a k) n:=by
 unfold InL altF lgreater at *
 refine⟨?_,?_⟩
 ·simp only
  rcases h with ⟨h1,h2⟩ | ⟨h1,h2⟩ <;> omega
 ·simp only
  split
  ·omega
  ·rcases h with ⟨h1,h2⟩ | ⟨h1,h2⟩ <;> omega
theorem inl_altL:∀(l:List (Int × Int)) (a:Int × Int) (n:Int),(∀x∈l,-1≤x.2)→-1≤a.2→(InL a n∨∃x∈l,InL x n)→InL (l.foldl altF a) n
 | [],a,n,_,_,h=>by
  rcases h with h | ⟨x,hx,_⟩
  ·exact h
  ·cases hx
 | y::l,a,n,hl,ha,h=>by
  have hy:=hl y (by simp)
  refine inl_altL l (altF a y) n (fun x hx=>hl x (by simp [hx])) (by unfold altF lgreater; simp only; split <;> omega) ?_
  rcases h with h | ⟨x,hx,h⟩
  ·exact .inl (inl_alt (.inl h) ha hy)
  ·rcases List.mem_cons.1 hx with rfl | hx
   ·exact .inl (inl_alt (.inr h) ha hy)
   ·exact .inr ⟨x,hx,h⟩
def LnP:LK→Int→Prop
 | .tree re,n=>re.every genB=true→0≤n∧(n≤1000000→InL re.lens n)
 | .list l,n=>(∀k∈l,k.every genB=true)→0≤n∧∀(na:Bool) (acc:Int × Int) (m:Int),LR na acc→0≤m→InL acc m→m + n≤1000000→InL ((l.map Re.lens).foldl (fun a k=>(lplus a.1 k.1,lplus a.2 k.2)) acc) (m + n)
 | .rep re k,n=>re.every genB=true→re.op=4→∀kid l,re.kids=kid::l→0≤k→0≤n∧(n≤1000000→kid.lens.1 * max (re.mn - k) 0≤n∧(kid.lens.2=0→n=0)∧(0≤kid.lens.2→re.mx≠-1→n≤kid.lens.2 * max (re.mx - k) 0))
theorem ln_in {k:LK} {n:Int} (h:Ln k n):LnP k n:=by
 induction h with
 | set ho =>
  intro h
  refine⟨by omega,fun _=>?_⟩
  rw[Re.lens_eq,lensOp,if_pos ho]
  exact⟨by simp,by simp⟩
 | ref ho hn =>
  intro h
  refine⟨hn,fun _=>?_⟩
  rw[Re.lens_eq,lensOp,if_neg (by omega),if_pos ho]
  exact⟨hn,by simp⟩
 | cat ho _ ih =>
  intro h
  obtain⟨_,h2⟩:=(Re.every_iff _).1 h
  obtain⟨i1,i2⟩:=ih h2
  refine⟨i1,fun hn=>?_⟩
  rw[Re.lens_eq,lensOp,if_neg (by omega),if_neg (by omega),if_pos ho]
  have:=i2 true (0,0) 0 ⟨by simp,by simp,by simp,by simp,by simp,by simp⟩ (by omega) ⟨by simp,by simp⟩ (by omega)
  rwa [Int.zero_add] at this
 | @alt re kid n ho hk _ ih =>
  intro h
  obtain⟨_,h2⟩:=(Re.every_iff _).1 h
  obtain⟨i1,i2⟩:=ih (h2 kid hk)
  refine⟨i1,fun hn=>?_⟩
  rw[Re.lens_eq,lensOp,if_neg (by omega),if_neg (by omega),if_neg (by omega),if_pos (by omega),if_neg (by omega)]
  cases hkk:re.kids with
  | nil=>rw[hkk] at hk; cases hk
  | cons y l =>
   have hb:∀x∈re.kids,-1≤x.lens.2:=fun x hx=>(nul_lens x (h2 x hx)).b0
   have hy:=hb y (by rw[hkk]; simp)
   rw[List.map_cons,altL]
   refine inl_altL _ _ n (fun x hx=>?_) ?_ ?_
   ·obtain⟨z,hz,rfl⟩:=List.mem_map.1 hx
    exact hb z (by rw[hkk]; simp [hz])
   ·rw[altF_self (nul_lens y (h2 y (by rw[hkk]; simp)))]; exact hy
   ·rw[altF_self (nul_lens y (h2 y (by rw[hkk]; simp)))]
    rw[hkk] at hk
    rcases List.mem_cons.1 hk with rfl | hk
    ·exact .inl (i2 hn)
    ·exact .inr ⟨_,List.mem_map.2 ⟨_,hk,rfl⟩,i2 hn⟩
 | @rep re n ho _ ih =>
  intro h
  obtain⟨h1,h2⟩:=(Re.every_iff _).1 h
  obtain⟨_,_,o0,o11,h4,hne⟩:=of_decide_eq_true h1
  obtain⟨g1,g2,g3,g4⟩:=h4 ho
  cases hkk:re.kids with
  | nil=>rw[hkk] at g1; simp at g1
  | cons kid l =>
   have hl:l=[]:=by rw[hkk] at g1; exact List.length_eq_zero_iff.1 (by simpa using g1)
   subst hl
   have hLR:=nul_lens kid (h2 kid (by rw[hkk]; simp))
   obtain⟨i1,i2⟩:=ih h ho kid [] hkk (Int.le_refl 0)
   refine⟨i1,fun hn=>?_⟩
   obtain⟨j1,j2,j3⟩:=i2 hn
   rw[Re.lens_eq,lensOp,if_neg (by omega),if_neg (by omega),if_neg (by omega),if_pos (by omega),if_pos ho,hkk,List.map_cons,List.map_nil,altL,List.foldl_nil,altF_self hLR]
   rw[Int.sub_zero,Int.max_eq_left g2] at j1
   refine⟨?_,fun hb=>?_⟩
   ·show ltimes kid.lens.1 re.mn≤n
    rw[lt_nn hLR.a0 hLR.a1 g2 (by omega)]
    omega
   ·show n≤ltimes kid.lens.2 re.mx
    have hb:0≤ltimes kid.lens.2 re.mx:=hb
    by_cases hz:kid.lens.2=0
    ·rw[j2 hz,hz,lt_zero']; omega
    ·rcases g4 with g4 | ⟨g4,g5,g6⟩
     ·rw[g4,lt_any hz] at hb; omega
     ·by_cases hm:kid.lens.2=-1
      ·rw[hm,lt_neg (by omega)] at hb; omega
      ·have:=hLR.b0
       rw[lt_nn (by omega) hLR.b1 (by omega) (by omega)]
       have:=j3 (by omega) (by omega)
       rw[Int.sub_zero,Int.max_eq_left (by omega)] at this
       omega
 | zero ho =>
  intro h
  refine⟨Int.le_refl _,fun _=>?_⟩
  simp only[List.mem_cons,List.not_mem_nil,or_false,not_or] at ho
  rw[Re.lens_eq,lensOp,if_neg (by omega),if_neg (by omega),if_neg (by omega),if_neg (by omega)]
  exact⟨by simp,by simp⟩
 | nilL =>
  intro h
  refine⟨Int.le_refl _,fun na acc m _ _ h _=>?_⟩
  rw[Int.add_zero]
  exact h
 | @consL k l a b _ _ ih ih2 =>
  intro h
  have hk:=h k (by simp)
  obtain⟨i1,i2⟩:=ih hk
  obtain⟨j1,j2⟩:=ih2 fun x hx=>h x (by simp [hx])
  refine⟨by omega,fun na acc m hL hm hI hs=>?_⟩
  rw[List.map_cons,List.foldl_cons,show m + (a + b)=(m + a) + b by omega]
  exact j2 _ _ _ (cat_step hL (nul_lens k hk)) (by omega) (inl_plus hL (nul_lens k hk) hI (i2 (by omega)) (by omega)) (by omega)
 | @done re k hk =>
  intro h ho kid l hkk k0
  refine⟨Int.le_refl _,fun _=>⟨?_,fun _=>rfl,fun hb _=>?_⟩⟩
  ·rw[Int.max_eq_right (by omega),Int.mul_zero]; omega
  ·exact Int.mul_nonneg hb (by omega)
 | @more re kid' k a b l' hkk' hk _ _ ih ih2 =>
  intro h ho kid l hkk k0
  rw[hkk] at hkk'
  obtain⟨rfl,rfl⟩:=List.cons.inj hkk'
  obtain⟨h1,h2⟩:=(Re.every_iff _).1 h
  obtain⟨_,_,o0,o11,h4,hne⟩:=of_decide_eq_true h1
  obtain⟨g1,g2,g3,g4⟩:=h4 ho
  have hkid:=h2 kid (by rw[hkk]; simp)
  have hLR:=nul_lens kid hkid
  obtain⟨i1,i2⟩:=ih hkid
  obtain⟨j1,j2⟩:=ih2 h ho kid l hkk (by omega)
  refine⟨by omega,fun hn=>?_⟩
  obtain⟨q1,q2⟩:=i2 (by omega)
  obtain⟨r1,r2,r3⟩:=j2 (by omega)
  refine⟨?_,fun hz=>?_,fun hb hx=>?_⟩
  ·by_cases hlt:k < re.mn
   ·rw[Int.max_eq_left (by omega)] at r1 ⊢
    rw[show re.mn - k=(re.mn - (k + 1)) + 1 by omega,Int.mul_add,Int.mul_one]
    omega
   ·rw[Int.max_eq_right (by omega),Int.mul_zero]; omega
  ·have:=q2 (by omega)
   have:=r2 hz
   omega
  ·have hkx:k < re.mx:=by omega
   have t1:=r3 hb hx
   have t2:=q2 hb
   rw[Int.max_eq_left (by omega)] at t1 ⊢
   rw[show re.mx - k=(re.mx - (k + 1)) + 1 by omega,Int.mul_add,Int.mul_one]
   omega
end Go.Proofs.Ytllagoeijcjpiaa
