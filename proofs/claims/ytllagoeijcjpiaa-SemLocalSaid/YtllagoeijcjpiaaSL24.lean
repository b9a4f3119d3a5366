/- A part of the proof (E13 E14). -/
import Derived.Test.YtllagoeijcjpiaaSL23
import Derived.Test.YtllagoeijcjpiaaSL17
import Derived.Test.YtllagoeijcjpiaaSL19
set_option linter.unusedSimpArgs false
set_option linter.unusedVariables false
set_option maxRecDepth 100000
set_option maxHeartbeats 80000000
namespace Go.Proofs.Ytllagoeijcjpiaa
open Go.VL Go.Proofs.Try
theorem cap0_sh (δ:Int) (p:Pat):shC δ (cap0 p)=cap0 p:=by
 unfold shC cap0
 rw[List.map_replicate]
 rfl
theorem cap0_x (x:Int) (p:Pat):CapX x (cap0 p):=fun q hq=>.inl (List.eq_of_mem_replicate hq)
theorem local_search {p:Pat} {t u:List Int} {x δ most F:Int} (hT:ShT x δ t u) (hloc:p.re.every locB=true) (h:allE p t x most F=0) (hu:valid7 p u F=0) :
  allE p u (x - δ) most F=0∧allM p u (x - δ) most F=(allM p t x most F).map (fun m=>(m.1 - δ,shC δ m.2))∧allN p u (x - δ) most F=allN p t x most F∧(∀m∈allM p t x most F,x≤m.1∧CapX x m.2):=by
 obtain⟨hv,h0,h1,he⟩:=allE_valid h
 have hdx:=hT.dx
 have hlen:=hT.len
 obtain⟨n,b,X,e1,e2⟩:=search_at (most:=most) hv h0 h1
 obtain⟨k1,k2⟩:=local_all hT n _ _ _ _ _ e2 ⟨gx0 (nx:=.nil) hloc trivial 0 0,Int.le_refl _,cap0_x x p⟩ ⟨by simp,by simp⟩
 have k2:evR u F n most (.run (.mk 0 p.re 0 0 .nil) (x - δ) (shC δ (cap0 p))) ⟨0,false,[],[]⟩=some (b,shS δ X):=k2
 rw[cap0_sh] at k2
 have hX:searchX p u (x - δ) most F=(b,shS δ X):=evX_eq k2
 rw[e1] at he
 have hE:allE p u (x - δ) most F=0:=allE_zero hu (by omega) (by omega) (by rw[hX]; exact he)
 refine⟨hE,?_,?_,?_⟩
 ·unfold allM
  rw[if_pos hE,if_pos h,hX,e1]
  exact List.zip_map
 ·unfold allN
  rw[if_pos hE,if_pos h,hX,e1]
  rfl
 ·intro m hm
  unfold allM at hm
  rw[if_pos h,e1] at hm
  obtain⟨a,c⟩:=m
  obtain⟨h3,h4⟩:=List.of_mem_zip hm
  exact⟨k1.1 a h3,k1.2 c h4⟩
theorem drop_sh (t:List Int) (x:Nat) (hx:x≤t.length):ShT x x t (t.drop x):=by
 refine⟨by omega,Int.le_refl _,by rw[List.length_drop]; omega,fun i hi=>?_⟩
 unfold tAt
 rw[List.getD_eq_getElem?_getD,List.getD_eq_getElem?_getD,List.getElem?_drop,show x + (i - (x:Int)).toNat=i.toNat by omega]
theorem ins_sh (t:List Int) (x n:Nat) (hx:x≤t.length):ShT x ((x:Int) - n) t (List.replicate n 0++t.drop x):=by
 refine⟨by omega,by omega,by rw[List.length_append,List.length_drop,List.length_replicate]; omega,fun i hi=>?_⟩
 unfold tAt
 rw[List.getD_eq_getElem?_getD,List.getD_eq_getElem?_getD,List.getElem?_append_right (by rw[List.length_replicate]; omega),List.length_replicate,List.getElem?_drop,show x + ((i - ((x:Int) - n)).toNat - n)=i.toNat by omega]
theorem has_of {m:Mk} {u k:Int} (h:m.uses=u) (hb:(bitV .and .i64 u k)≤0):m.has k=false:=by
 unfold Mk.has
 rw[h]
 exact decide_eq_false (by omega)
def KL (t:Mk→Re × Mk):Prop:=∀m:Mk,m.uses=107→(t m).1.every locB=true∧(t m).2.uses=107
theorem every_loc {op mn mx mode n:Int} {set:List (Int × Int)} {kids:List Re} {neg:Bool} (h7:op≠7) (h8:op≠8) (h11:op≠11) (hk:∀k∈kids,k.every locB=true):(Re.mk op set kids mn mx mode n neg).every locB=true :=
 (Re.every_iff _).2 ⟨decide_eq_true ⟨h7,h8,h11⟩,hk⟩
theorem one_loc {k:Re} (h:k.every locB=true):∀x∈[k],x.every locB=true:=fun x hx=>by rw[List.mem_singleton.1 hx]; exact h
theorem set_loc (m:Mk):m.set.1.every locB=true:=every_loc (by decide) (by decide) (by decide) (fun k hk=>by cases hk)
theorem kidsFrom_kl {t:Mk→Re × Mk} (ht:KL t):∀(f:Nat) (i:Int) (m:Mk),m.uses=107→(∀k∈(kidsFrom t f i m).1,k.every locB=true)∧(kidsFrom t f i m).2.uses=107
 | 0,i,m,h=>⟨fun k hk=>by simp [kidsFrom] at hk,h⟩
 | f + 1,i,m,h=>by
  simp only[kidsFrom]
  split
  ·obtain⟨h1,h2⟩:=ht (m.next 2).2 h
   obtain⟨h3,h4⟩:=kidsFrom_kl ht f (i + 1) _ h2
   refine⟨fun k hk=>?_,h4⟩
   rcases List.mem_cons.1 hk with rfl | hk
   ·exact h1
   ·exact h3 k hk
  ·exact⟨(fun k hk=>by cases hk),h⟩
theorem rep_kl {t:Mk→Re × Mk} (ht:KL t):KL (fun m=>m.rep t):=by
 intro m h
 have hmd:∀m:Mk,m.uses=107→(repMode m).2.uses=107:=by
  intro m h
  unfold repMode
  simp only
  split <;> exact h
 obtain⟨h3,h4⟩:=ht _ (hmd (m.next 12).2 h)
 have hk:(repKid t (repMode (m.next 12).2).2).1.every locB=true∧(repKid t (repMode (m.next 12).2).2).2.uses=107:=by
  unfold repKid
  simp only
  split
  ·exact⟨set_loc _,h4⟩
  ·exact⟨h3,h4⟩
 exact⟨every_loc (by decide) (by decide) (by decide) (one_loc hk.1),hk.2⟩
theorem capNum_kl (m:Mk) (h:m.uses=107):(capNum m).2.uses=107:=by
 unfold capNum
 simp only
 split
 ·exact h
 split
 ·split <;> exact h
 ·exact h
theorem capture_kl {t:Mk→Re × Mk} (ht:KL t):KL (fun m=>m.capture t):=by
 intro m h
 have h1:=capNum_kl m h
 obtain⟨h3,h4⟩:=ht ((capNum m).2.withCaps (max (capNum m).2.caps (capNum m).1)) h1
 exact⟨every_loc (by decide) (by decide) (by decide) (one_loc h3),h4⟩
theorem node_kl {t:Mk→Re × Mk} (ht:KL t) (k:Int):KL (fun m=>m.node t k):=by
 intro m h
 have h16:m.has 16=false:=has_of h (by decide)
 have h4:m.has 4=false:=has_of h (by decide)
 have hkf:=kidsFrom_kl ht 4 0 m h
 simp only[Mk.node,h16,h4,Bool.false_eq_true,and_false,if_false]
 split
 ·exact⟨every_loc (by decide) (by decide) (by decide) hkf.1,hkf.2⟩
 split
 ·exact⟨every_loc (by decide) (by decide) (by decide) hkf.1,hkf.2⟩
 split
 ·exact rep_kl ht m h
 split
 ·exact capture_kl ht m h
 split
 ·exact capture_kl ht m h
 split
 ·exact⟨every_loc (by decide) (by decide) (by decide) (one_loc (ht m h).1),(ht m h).2⟩
 split
 ·exact⟨every_loc (by decide) (by decide) (by decide) (fun k hk=>by cases hk),h⟩
 split
 ·obtain⟨h1,h2⟩:=ht (m.next m.caps).2 h
  obtain⟨h3,h4⟩:=ht _ h2
  refine⟨every_loc (by decide) (by decide) (by decide) (fun k hk=>?_),h4⟩
  rcases List.mem_cons.1 hk with rfl | hk
  ·exact h1
  ·rw[List.mem_singleton.1 hk]; exact h3
 ·exact⟨set_loc m,h⟩
theorem empty_loc:(Re.node 0 []).every locB=true:=every_loc (by decide) (by decide) (by decide) (fun k hk=>by cases hk)
theorem tree_kl:∀d,KL (Mk.tree d)
 | 0=>by
  intro m h
  simp only[Mk.tree]
  split
  ·exact⟨empty_loc,h⟩
  ·exact⟨set_loc _,h⟩
 | d + 1=>by
  intro m h
  simp only[Mk.tree]
  split
  ·split
   ·exact⟨empty_loc,h⟩
   ·exact⟨set_loc _,h⟩
  ·exact node_kl (tree_kl d) (m.less.next 20).1 (m.less.next 20).2 h
theorem pat_loc (l:List Int) (most:Int):(patOf l 107 most).re.every locB=true:=(tree_kl 5 ⟨l,0,107,most,0⟩ rfl).1
end Go.Proofs.Ytllagoeijcjpiaa
