/- A part of the proof (K39). -/
import Derived.Test.YtdofoappodmcoaaKP51
import Derived.Test.YtdofoappodmcoaaKP36
set_option linter.unusedSimpArgs false
set_option linter.unusedVariables false
set_option maxRecDepth 100000
set_option maxHeartbeats 80000000
namespace Go.Proofs.Ytdofoappodmcoaa
open Go.VL Go.Proofs.Try
structure InsIn (lo hi caps:Int) (runes:Bool) (x:Ins):Prop where
 un:unusedB x=true
 op:x.op=0∨(x.op=1∧setE x.set=0∧hiB runes x.set=true)∨(x.op=2∧lo≤x.x∧x.x≤hi∧lo≤x.y∧x.y≤hi)∨(x.op=3∧lo≤x.x∧x.x≤hi)∨(x.op=4∧0≤x.n∧x.n < 2 * caps)∨(x.op=5∧0≤x.n∧x.n≤5)
theorem InsIn.mono {lo hi lo' hi' caps:Int} {runes:Bool} {x:Ins} (h:InsIn lo hi caps runes x) (h1:lo'≤lo) (h2:hi≤hi'):InsIn lo' hi' caps runes x:=⟨h.un,by
 rcases h.op with o | o | o | o | o
 ·exact .inl o
 ·exact .inr (.inl o)
 ·exact .inr (.inr (.inl (by omega)))
 ·exact .inr (.inr (.inr (.inl (by omega))))
 ·exact .inr (.inr (.inr (.inr (by omega))))⟩
theorem splI_in {lo hi caps a b mode:Int} {runes:Bool} (h:lo≤a∧a≤hi∧lo≤b∧b≤hi):InsIn lo hi caps runes (splI mode a b):=by
 unfold splI
 split
 ·exact⟨by simp [unusedB],by simp; omega⟩
 ·exact⟨by simp [unusedB],by simp; omega⟩
theorem jmpI_in {lo hi caps a:Int} {runes:Bool} (h:lo≤a∧a≤hi):InsIn lo hi caps runes (jmpI a):=⟨by simp [unusedB,jmpI],by simp [jmpI]; omega⟩
theorem savI_in {lo hi caps a:Int} {runes:Bool} (h:0≤a∧a < 2 * caps):InsIn lo hi caps runes (savI a):=⟨by simp [unusedB,savI],by simp [savI]; omega⟩
theorem repPre_mem {c:Int→List Ins} {x:Ins}:∀(k:Nat) (f:Int),x∈repPre c k f→∃j,f≤j∧j + ((c j).length:Int)≤f + (repPre c k f).length∧x∈c j
 | 0,f,h=>by simp [repPre] at h
 | k + 1,f,h=>by
  rw[repPre] at h ⊢
  rw[List.length_append]
  rcases List.mem_append.1 h with h | h
  ·obtain⟨j,h1,h2,h3⟩:=repPre_mem k f h
   exact⟨j,h1,by push_cast; omega,h3⟩
  ·exact⟨_,by omega,by push_cast; omega,h⟩
theorem repPost_mem {c:Int→List Ins} {mode fin:Int} {x:Ins}:∀(k:Nat) (f:Int),x∈repPost c mode fin k f→∃j,f≤j∧j + ((c j).length:Int)≤f + (repPost c mode fin k f).length∧(x∈c j∨x=splI mode j fin)
 | 0,f,h=>by simp [repPost] at h
 | k + 1,f,h=>by
  rw[repPost] at h ⊢
  rw[List.length_append,List.length_cons]
  rcases List.mem_append.1 h with h | h
  ·obtain⟨j,h1,h2,h3⟩:=repPost_mem k f h
   exact⟨j,h1,by push_cast; omega,h3⟩
  ·rcases List.mem_cons.1 h with h | h
   ·exact⟨_,by omega,by push_cast; omega,.inr h⟩
   ·exact⟨_,by omega,by push_cast; omega,.inl h⟩
theorem codeCat_in {l:List Re} {caps:Int} {runes:Bool} (h:∀k∈l,∀f,∀x∈k.code f,InsIn f (f + (k.code f).length) caps runes x):∀f,∀x∈Re.codeCat l f,InsIn f (f + (Re.codeCat l f).length) caps runes x:=by
 induction l with
 | nil=>intro f x hx; simp [Re.codeCat] at hx
 | cons k l ih =>
  intro f x hx
  have h1:=h k (by simp) f
  have h2:=ih (fun y hy=>h y (by simp [hy])) (f + (k.code f).length)
  rw[Re.codeCat] at hx ⊢
  rw[List.length_append]
  rcases List.mem_append.1 hx with hx | hx
  ·exact(h1 x hx).mono (Int.le_refl _) (by push_cast; omega)
  ·exact(h2 x hx).mono (by omega) (by push_cast; omega)
theorem codeAlt_in {l:List Re} {caps:Int} {runes:Bool} (h:∀k∈l,∀f,∀x∈k.code f,InsIn f (f + (k.code f).length) caps runes x):∀f,∀x∈Re.codeAlt l f,InsIn f (f + (Re.codeAlt l f).length) caps runes x:=by
 induction l with
 | nil=>intro f x hx; simp [Re.codeAlt] at hx
 | cons k l ih =>
  intro f x hx
  cases l with
  | nil =>
   simp only[Re.codeAlt] at hx ⊢
   exact h k (by simp) f x hx
  | cons k2 l2 =>
   have h1:=h k (by simp) (f + 1)
   have h2:=ih (fun y hy=>h y (by simp only[List.mem_cons] at hy ⊢; exact .inr hy)) (f + (k.code (f + 1)).length + 2)
   rw[Re.codeAlt] at hx ⊢
   generalize Re.codeAlt (k2::l2) (f + (k.code (f + 1)).length + 2)=z at *
   simp only[List.length_cons,List.length_append]
   push_cast
   simp only[List.mem_cons,List.mem_append] at hx
   rcases hx with rfl | hx | rfl | hx
   ·exact splI_in (by omega)
   ·exact(h1 x hx).mono (by omega) (by omega)
   ·exact jmpI_in (by omega)
   ·exact(h2 x hx).mono (by omega) (by omega)
theorem spOk_mono {top top':Int} (ht:top≤top'):∀(l:List (Int × Int)) (p:Int),spOk top p l=true→spOk top' p l=true
 | [],_,_=>rfl
 | s::l,p,h=>by
  simp only[spOk,Bool.and_eq_true,decide_eq_true_eq] at h ⊢
  exact⟨by omega,spOk_mono ht l _ h.2⟩
theorem spOk_mem {top:Int}:∀(l:List (Int × Int)) (p:Int),spOk top p l=true→∀s∈l,s.2≤top
 | [],_,_,_,hs=>by cases hs
 | a::l,p,h,s,hs=>by
  simp only[spOk,Bool.and_eq_true,decide_eq_true_eq] at h
  rcases List.mem_cons.1 hs with rfl | hs
  ·omega
  ·exact spOk_mem l _ h.2 s hs
theorem code_in {caps top:Int} {runes:Bool} (hc0:0≤caps) (hc1:caps≤9) (htop:top≤1114111) (hr:runes=true∨top≤255) (re:Re):re.whole caps top=true→re.every kshD=true→re.csz≤9000→∀f,∀x∈re.code f,InsIn f (f + (re.code f).length) caps runes x:=by
 induction re using Re.ind with
 | h re ih =>
 intro hw hs hz f x hx
 obtain⟨hw1,hw2⟩:=(Re.every_iff re).1 hw
 obtain⟨hs1,hs2⟩:=(Re.every_iff re).1 hs
 obtain⟨hsc,hop,h1k,hk0⟩:=kshD_iff.1 hs1
 obtain⟨⟨a1,a2,a3,a4⟩,b,c,d,e⟩:=nodeOk_iff.1 hw1
 obtain⟨q1,q2,q3,q4,q5,q6,q7,q8,q9,q10⟩:=kshB_iff.1 (kshC_iff.1 hsc).1
 have hq:=(kshC_iff.1 hsc).2
 have hlen:=code_len re hs hz f
 have hkid:¬isLeaf re→∀k∈re.kids,∀f,∀x∈k.code f,InsIn f (f + (k.code f).length) caps runes x:=fun hl k hk=>ih k hk (hw2 k hk) (hs2 k hk) (by
  have:=(csz_kid hs hz ⟨fun h=>hl (.inr (.inl h)),fun h=>hl (.inr (.inr h))⟩).2 k hk
  omega)
 rw[Re.code_eq] at hx hlen ⊢
 by_cases o1:re.op=1
 ·rw[if_pos o1] at hx ⊢
  rw[if_pos o1] at b
  rw[List.mem_singleton.1 hx]
  unfold spansR at b
  rw[Bool.and_eq_true] at b
  have hb1:=of_decide_eq_true b.1
  refine⟨by simp [unusedB],.inr (.inl ⟨rfl,?_,?_⟩)⟩
  ·show setE re.set=0
   unfold setE
   rw[if_pos (spOk_mono htop _ _ b.2),if_neg (by omega)]
  ·show hiB runes re.set=true
   unfold hiB
   rcases hr with rfl | hr
   ·rfl
   ·cases hg:re.set[re.set.length - 1]? with
    | none=>simp
    | some s =>
     have:=spOk_mem _ _ b.2 s (List.mem_of_getElem? hg)
     simp only[Bool.or_eq_true,decide_eq_true_eq]; exact .inr (by omega)
 rw[if_neg o1] at hx hlen ⊢
 by_cases o11:re.op=11
 ·rw[if_pos o11] at hx ⊢
  rw[if_neg (by omega),if_pos o11] at d
  rw[List.mem_singleton.1 hx]
  exact⟨by simp [unusedB],by simp; omega⟩
 rw[if_neg o11] at hx hlen ⊢
 by_cases o2:re.op=2
 ·rw[if_pos o2] at hx ⊢
  exact codeCat_in (hkid (by unfold isLeaf; omega)) f x hx
 rw[if_neg o2] at hx hlen ⊢
 by_cases o3:re.op=3
 ·rw[if_pos o3] at hx ⊢
  exact codeAlt_in (hkid (by unfold isLeaf; omega)) f x hx
 rw[if_neg o3] at hx hlen ⊢
 by_cases o5:re.op=5
 ·rw[if_pos o5] at hx ⊢
  rw[if_pos (.inl o5)] at d
  obtain⟨k,hk⟩:∃k,re.kids=[k]:=List.length_eq_one_iff.1 (h1k (.inr o5))
  have hk1:=hkid (by unfold isLeaf; omega) k (by rw[hk]; simp) (f + 1)
  have e0:Re.code0 re.kids (f + 1)=k.code (f + 1):=by rw[hk]; rfl
  rw[e0] at hx ⊢
  simp only[List.length_cons,List.length_append,List.length_nil]
  push_cast
  simp only[List.mem_cons,List.mem_append,List.not_mem_nil,or_false] at hx
  rcases hx with rfl | hx | rfl
  ·exact savI_in (by omega)
  ·exact(hk1 x hx).mono (by omega) (by omega)
  ·exact savI_in (by omega)
 rw[if_neg o5] at hx hlen ⊢
 by_cases o4:re.op=4
 ·rw[if_pos o4] at hx hlen ⊢
  obtain⟨k,hk⟩:∃k,re.kids=[k]:=List.length_eq_one_iff.1 (h1k (.inl o4))
  have hk1:=hkid (by unfold isLeaf; omega) k (by rw[hk]; simp)
  have e0:(fun i=>Re.code0 re.kids i)=k.code:=code0_one hk
  rw[e0] at hx hlen ⊢
  rw[hlen]
  unfold repC at hx hlen
  simp only at hx hlen
  by_cases hm:re.mx=-1
  ·rw[if_pos hm] at hx hlen
   simp only[List.length_append,List.length_cons,List.length_nil] at hlen
   push_cast at hlen
   simp only[List.mem_cons,List.mem_append,List.not_mem_nil,or_false] at hx
   rcases hx with hx | rfl | hx | rfl
   ·obtain⟨j,j1,j2,j3⟩:=repPre_mem _ _ hx
    exact(hk1 j x j3).mono (by omega) (by omega)
   ·exact splI_in (by omega)
   ·exact(hk1 _ x hx).mono (by omega) (by omega)
   ·exact jmpI_in (by omega)
  ·rw[if_neg hm] at hx hlen
   simp only[List.length_append] at hlen
   push_cast at hlen
   rcases List.mem_append.1 hx with hx | hx
   ·obtain⟨j,j1,j2,j3⟩:=repPre_mem _ _ hx
    exact(hk1 j x j3).mono (by omega) (by omega)
   ·obtain⟨j,j1,j2,j3⟩:=repPost_mem _ _ hx
    rcases j3 with j3 | rfl
    ·exact(hk1 j x j3).mono (by omega) (by omega)
    ·exact splI_in (by omega)
 rw[if_neg o4] at hx
 cases hx
theorem compR_valid (p:Pat) (hv:validR p=0) (hc:p.re.comp []=true) (hz:p.re.csz≤8000):prgE (compR p)=0:=by
 obtain⟨v1,v2,v3,v4,v5⟩:=validR_spec hv
 have hC:=kshC_of v4 p.re v5 (by omega)
 have hD:=kshD_of v4 p.re v5 (by omega) [] hc
 have hl:=code_len p.re hD (by omega) 0
 have hr:=csz_range p.re hC
 have hi:=code_in (runes:=p.runes) v3 v4 (by unfold topR; split <;> omega) (by unfold topR; cases p.runes <;> simp) p.re v5 hD (by omega) 0
 have hlen:((compR p).ins.length:Int)=p.re.csz + 1:=by unfold compR; simp; omega
 unfold prgE
 rw[if_neg (by omega),if_neg (by show ¬((compR p).ins.length=0∨p.caps < 0∨9 < p.caps); omega),if_pos ?_,if_neg ?_]
 ·have:lastOp (compR p)=0:=by unfold lastOp compR; simp [doneI]
  omega
 ·rw[List.all_eq_true]
  intro x hx
  unfold insB
  rcases List.mem_append.1 hx with hx | hx
  ·have h:=hi x hx
   have ho:=h.op
   rw[h.un,Bool.true_and]
   show opOk (compR p).ins.length p.caps p.runes x=true
   unfold opOk tgtB
   rw[hlen]
   rcases ho with o | ⟨o,ho⟩ | ⟨o,ho⟩ | ⟨o,ho⟩ | ⟨o,ho⟩ | ⟨o,ho⟩
   ·rw[if_pos o]
   ·rw[if_neg (by omega),if_pos o]; simp [ho.1,ho.2]
   ·rw[if_neg (by omega),if_neg (by omega),if_pos o]; simp; omega
   ·rw[if_neg (by omega),if_neg (by omega),if_neg (by omega),if_pos o]; simp; omega
   ·rw[if_neg (by omega),if_neg (by omega),if_neg (by omega),if_neg (by omega),if_pos o]; simp; omega
   ·rw[if_neg (by omega),if_neg (by omega),if_neg (by omega),if_neg (by omega),if_neg (by omega),if_pos o]; simp; omega
  ·rw[List.mem_singleton.1 hx]; rfl
theorem compR_good {p:Pat} {t:List Int} (h:PlainR p t) (hc:p.re.comp []=true):(compR p).good:=good_of (compR_valid p h.valid hc (by have:=h.csz; omega))
end Go.Proofs.Ytdofoappodmcoaa
