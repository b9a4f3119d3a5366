/- A part of the proof (F26 F42). -/
import Derived.Test.YtllagoeijcjpiaaSL14
import Derived.Test.YtllagoeijcjpiaaSL5
import Derived.Test.YtllagoeijcjpiaaSL16
set_option linter.unusedSimpArgs false
set_option linter.unusedVariables false
set_option maxRecDepth 100000
set_option maxHeartbeats 80000000
set_option linter.unusedSimpArgs false
set_option linter.unusedVariables false
namespace Go.Proofs.Ytllagoeijcjpiaa
open Go.VL Go.Proofs.Try
theorem every_mk {p:Re→Bool} {op mn mx mode n:Int} {set:List (Int × Int)} {kids:List Re} {neg:Bool} (h:p (.mk op set kids mn mx mode n neg)=true) (hk:∀k∈kids,k.every p=true):(Re.mk op set kids mn mx mode n neg).every p=true :=
 (Re.every_iff _).2 ⟨h,hk⟩
theorem set_gen (m:Mk):m.set.1.every genB=true:=by
 have hl:∀i:Nat,((setSpans[i]?).getD []).length≤10:=by
  intro i
  by_cases hi:i < 8
  ·have:∀i,i < 8→((setSpans[i]?).getD []).length≤10:=by decide
   exact this i hi
  ·rw[List.getElem?_eq_none (by simp [setSpans]; omega)]; simp
 refine every_mk (decide_eq_true ?_) (fun k hk=>by cases hk)
 refine⟨hl _,by simp [Re.kids],?_,?_,?_,?_⟩ <;> simp [Re.op]
theorem kidsFrom_gen {t:Mk→Re × Mk} (ht:∀m,(t m).1.every genB=true):∀(f:Nat) (i:Int) (m:Mk),(∀k∈(kidsFrom t f i m).1,k.every genB=true)∧(kidsFrom t f i m).1.length≤f
 | 0,i,m=>by simp [kidsFrom]
 | f + 1,i,m=>by
  simp only[kidsFrom]
  split
  ·obtain⟨h1,h2⟩:=kidsFrom_gen ht f (i + 1) (t (m.next 2).2).2
   refine⟨fun k hk=>?_,by simp; omega⟩
   rcases List.mem_cons.1 hk with rfl | hk
   ·exact ht _
   ·exact h1 k hk
  ·simp
theorem kidsFrom_ne {t:Mk→Re × Mk} (m:Mk):(kidsFrom t 4 0 m).1≠[]:=by
 have hp:=pick_range m.l m.pos 2 (by omega)
 rw[kidsFrom,if_pos (by simp only[Mk.next]; omega)]
 simp
theorem one_gen {op mn mx mode n:Int} {neg:Bool} {k:Re} (hk:k.every genB=true) (h0:0≤op) (h1:op≤11) (h4:op=4→0≤mn∧mn≤2∧(mx=-1∨(1≤mx∧mx≤3∧mn≤mx))):(Re.mk op [] [k] mn mx mode n neg).every genB=true:=by
 refine every_mk (decide_eq_true ⟨by simp [Re.set],by simp [Re.kids],h0,h1,fun h=>⟨rfl,h4 h⟩,fun _=>by simp [Re.kids]⟩) (fun y hy=>?_)
 rw[List.mem_singleton.1 hy]; exact hk
theorem nil_gen {op mn mx mode n:Int} {neg:Bool} (h0:0≤op) (h1:op≤11) (h:op≠4∧op≠3∧op≠10∧op≠5∧op≠9):(Re.mk op [] [] mn mx mode n neg).every genB=true:=by
 refine every_mk (decide_eq_true ⟨by simp [Re.set],by simp [Re.kids],h0,h1,fun h'=>absurd h' h.1,fun h'=>?_⟩) (fun y hy=>by cases hy)
 obtain⟨_,a,b,c,d⟩:=h
 simp only[Re.op] at h'
 rcases h' with h' | h' | h' | h'
 ·exact absurd h' a
 ·exact absurd h' b
 ·exact absurd h' c
 ·exact absurd h' d
theorem repKid_gen {t:Mk→Re × Mk} (ht:∀m,(t m).1.every genB=true) (m:Mk):(repKid t m).1.every genB=true:=by
 unfold repKid
 simp only
 split
 ·exact set_gen _
 ·exact ht _
theorem rep_gen {t:Mk→Re × Mk} (ht:∀m,(t m).1.every genB=true) (m:Mk):(m.rep t).1.every genB=true:=by
 simp only[Mk.rep]
 have hk:=pick_range m.l m.pos 12 (by omega)
 refine one_gen (repKid_gen ht _) (by omega) (by omega) (fun _=>?_)
 have key:∀i:Nat,i < 12→0≤(repMins[i]?).getD 0∧(repMins[i]?).getD 0≤2∧((repMaxs[i]?).getD 0=-1∨(1≤(repMaxs[i]?).getD 0∧(repMaxs[i]?).getD 0≤3∧(repMins[i]?).getD 0≤(repMaxs[i]?).getD 0)):=by decide
 exact key (pick m.l m.pos 12).toNat (by omega)
theorem node_gen {t:Mk→Re × Mk} (ht:∀m,(t m).1.every genB=true) (k:Int) (m:Mk):(Mk.node t k m).1.every genB=true:=by
 obtain⟨k1,k2⟩:=kidsFrom_gen ht 4 0 m
 have kn:=kidsFrom_ne (t:=t) m
 have kids:∀op:Int,(op=2∨op=3)→(Re.node op (kidsFrom t 4 0 m).1).every genB=true:=fun op h =>
  every_mk (decide_eq_true ⟨by simp [Re.set],k2,by simp only[Re.op]; omega,by simp only[Re.op]; omega,fun h'=>by simp only[Re.op] at h'; omega,fun _=>kn⟩) k1
 unfold Mk.node
 split
 ·exact kids 2 (.inl rfl)
 split
 ·exact kids 3 (.inr rfl)
 split
 ·exact rep_gen ht m
 split
 ·exact one_gen (ht _) (by omega) (by omega) (fun h=>by omega)
 split
 ·exact one_gen (ht _) (by omega) (by omega) (fun h=>by omega)
 split
 ·exact nil_gen (by omega) (by omega) (by decide)
 split
 ·have hp:=pick_range (m.next 3).2.l (m.next 3).2.pos 2 (by omega)
  refine one_gen (ht _) ?_ ?_ (fun h=>?_) <;> simp only[Mk.next] at * <;> omega
 split
 ·exact one_gen (ht _) (by omega) (by omega) (fun h=>by omega)
 split
 ·exact nil_gen (by omega) (by omega) (by decide)
 split
 ·refine every_mk (decide_eq_true ⟨by simp [Re.set],by simp [Re.kids],by simp [Re.op],by simp [Re.op],fun h=>by simp [Re.op] at h,fun _=>by simp [Re.kids]⟩) (fun y hy=>?_)
  rcases List.mem_cons.1 hy with rfl | hy
  ·exact ht _
  ·rw[List.mem_singleton.1 hy]; exact ht _
 ·exact set_gen m
theorem tree_gen:∀(d:Nat) (m:Mk),(Mk.tree d m).1.every genB=true
 | 0,m=>by
  simp only[Mk.tree]
  split
  ·exact nil_gen (by omega) (by omega) (by decide)
  ·exact set_gen _
 | d + 1,m=>by
  simp only[Mk.tree]
  split
  ·split
   ·exact nil_gen (by omega) (by omega) (by decide)
   ·exact set_gen _
  ·exact node_gen (tree_gen d) _ _
theorem pat_gen (l:List Int) (uses most:Int):(patOf l uses most).re.every genB=true:=tree_gen 5 _
theorem around_range (n m:Int) (hm:1≤m) (hn:I64 n):0≤around n m∧around n m < m:=by
 unfold I64 at hn
 unfold around
 split
 ·exact⟨Int.tmod_nonneg _ (by omega),Int.tmod_lt_of_pos _ (by omega)⟩
 ·exact⟨Int.tmod_nonneg _ (by omega),Int.tmod_lt_of_pos _ (by omega)⟩
theorem nodeOk_iff {re:Re} {caps top:Int}:nodeOk re caps top=true ↔
  (0≤re.op∧re.op≤11∧(kidsR re.op).1≤re.kids.length∧((kidsR re.op).2 < 0∨(re.kids.length:Int)≤(kidsR re.op).2)) ∧
  (if re.op=1 then spansR re.set top=true else re.set.length=0) ∧
  (if re.op=4 then (0≤re.mn∧re.mn≤32∧-1≤re.mx∧re.mx≠0∧re.mx≤32∧(0 < re.mx→re.mn≤re.mx)∧0≤re.mode∧re.mode≤2) else (re.mn=0∧re.mx=0∧re.mode=0)) ∧
  (if re.op=5∨re.op=6∨re.op=10 then (1≤re.n∧re.n≤caps) else if re.op=11 then (0≤re.n∧re.n≤5) else re.n=0) ∧
  (re.neg=true→re.op=7∨re.op=8):=by
 unfold nodeOk
 simp only[Bool.and_eq_true,decide_eq_true_eq]
 refine and_congr Iff.rfl (and_congr ?_ (and_congr ?_ (and_congr ?_ ?_)))
 ·split <;> simp
 ·split <;> simp only[decide_eq_true_eq]
 ·split
  ·simp only[decide_eq_true_eq]
  ·split <;> simp only[decide_eq_true_eq]
 ·cases re.neg <;> simp
theorem nodeOk_mono {re:Re} {caps caps' top:Int} (h:caps≤caps') (hn:nodeOk re caps top=true):nodeOk re caps' top=true:=by
 rw[nodeOk_iff] at *
 obtain⟨a,b,c,d,e⟩:=hn
 refine⟨a,b,c,?_,e⟩
 split
 ·rename_i hh; rw[if_pos hh] at d; omega
 ·rename_i hh; rw[if_neg hh] at d; exact d
theorem whole_mono {re:Re} {caps caps' top:Int} (h:caps≤caps') (hn:re.whole caps top=true):re.whole caps' top=true :=
 every_mono' (fun r hr=>nodeOk_mono h hr) re hn
theorem whole_mk {op mn mx mode n caps top:Int} {set:List (Int × Int)} {kids:List Re} {neg:Bool} (h:nodeOk (.mk op set kids mn mx mode n neg) caps top=true) (hk:∀k∈kids,k.whole caps top=true):(Re.mk op set kids mn mx mode n neg).whole caps top=true :=
 (Re.every_iff _).2 ⟨h,hk⟩
theorem Re.depth_mk {op mn mx mode n:Int} {set:List (Int × Int)} {kids:List Re} {neg:Bool} {b:Int} (hb:0≤b) (hk:∀k∈kids,k.depth≤b):(Re.mk op set kids mn mx mode n neg).depth≤b + 1:=by
 rw[Re.depth_eq]
 have:=foldl_max_le (b:=b) (kids.map Re.depth) 0 hb (fun x hx=>by obtain⟨k,hk',rfl⟩:=List.mem_map.1 hx; exact hk k hk')
 show maxL (kids.map Re.depth) + 1≤_
 unfold maxL
 omega
structure TOK (d:Nat) (m:Mk) (x:Re × Mk):Prop where
 caps:m.caps≤x.2.caps
 ok:x.1.whole x.2.caps 255=true
 dep:x.1.depth≤d + 1
 size:(x.1.size:Int)≤m.left - x.2.left
 low:m.left≤3→m.left - 1≤x.2.left
 high:4≤m.left→2 - 4 * (d:Int)≤x.2.left
structure TT (d:Nat) (t:Mk→Re × Mk) (c z:Int):Prop where
 good:Good t c z
 c0:0≤c
 z1:1≤z
 tok:∀m b,0≤b→Mk.In m b→TOK d m (t m)
theorem TOK.one {d:Nat} {m:Mk} {x:Re × Mk} (h:TOK d m x) {B:Int} (h1:B≤2 - 4 * (d:Int)) (h2:B≤m.left):B - 1≤x.2.left:=by
 have:=h.low; have:=h.high
 omega
structure FOK (d f:Nat) (m:Mk) (x:List Re × Mk):Prop where
 caps:m.caps≤x.2.caps
 ok:∀k∈x.1,k.whole x.2.caps 255=true
 dep:∀k∈x.1,k.depth≤d + 1
 size:(Re.sizeL x.1:Int)≤m.left - x.2.left
 bnd:∀B:Int,B≤2 - 4 * (d:Int)→B≤m.left→B - f≤x.2.left
theorem kidsFrom_ok {d:Nat} {t:Mk→Re × Mk} {c z:Int} (ht:TT d t c z):∀(f:Nat) (i:Int) (m:Mk) (b:Int),0≤b→m.In b→FOK d f m (kidsFrom t f i m)
 | 0,i,m,b,hb,h=>⟨Int.le_refl _,by simp [kidsFrom],by simp [kidsFrom],by simp [kidsFrom,Re.sizeL],fun B _ h2=>by simpa [kidsFrom] using h2⟩
 | f + 1,i,m,b,hb,h=>by
  simp only[kidsFrom]
  split
  ·have h1:=h.next 2
   have h2:=ht.tok _ (b + 1) (by omega) h1
   obtain⟨h3,_⟩:=ht.good _ (b + 1) (by omega) h1
   have h4:=kidsFrom_ok ht f (i + 1) _ (b + 1 + c) (by have:=ht.c0; omega) h3
   refine⟨Int.le_trans h2.caps h4.caps,?_,?_,?_,?_⟩
   ·intro k hk
    rcases List.mem_cons.1 hk with rfl | hk
    ·exact whole_mono h4.caps h2.ok
    ·exact h4.ok k hk
   ·intro k hk
    rcases List.mem_cons.1 hk with rfl | hk
    ·exact h2.dep
    ·exact h4.dep k hk
   ·have a:=h2.size
    have a':=h4.size
    simp only[Re.sizeL,Int.natCast_add]
    have e:(m.next 2).2.left=m.left:=rfl
    omega
   ·intro B hB1 hB2
    have:=h4.bnd (B - 1) (by omega) (h2.one hB1 hB2)
    simp only[Int.natCast_add]
    omega
  ·exact⟨Int.le_refl _,by simp,by simp,by simp [Re.sizeL,Mk.next],fun B _ h2=>by simp only[Mk.next]; omega⟩
theorem kidsFrom_two {t:Mk→Re × Mk} (m:Mk):2≤(kidsFrom t 4 0 m).1.length:=by
 have hp:=pick_range m.l m.pos 2 (by omega)
 rw[kidsFrom,if_pos (by simp only[Mk.next]; omega)]
 simp only[List.length_cons]
 generalize (t (m.next 2).2).2=m'
 have hp':=pick_range m'.l m'.pos 2 (by omega)
 rw[kidsFrom,if_pos (by simp only[Mk.next]; omega)]
 simp
structure NOK (d:Nat) (m:Mk) (x:Re × Mk):Prop where
 caps:m.caps≤x.2.caps
 ok:x.1.whole x.2.caps 255=true
 dep:x.1.depth≤d + 2
 size:(x.1.size:Int)≤1 + (m.left - x.2.left)
 bnd:∀B:Int,B≤2 - 4 * (d:Int)→B≤m.left→B - 4≤x.2.left
theorem set_whole (m:Mk) (caps:Int):m.set.1.whole caps 255=true:=by
 have hs:∀i:Nat,spansR ((setSpans[i]?).getD []) 255=true:=by
  intro i
  by_cases hi:i < 8
  ·have:∀i,i < 8→spansR ((setSpans[i]?).getD []) 255=true:=by decide
   exact this i hi
  ·rw[List.getElem?_eq_none (by simp [setSpans]; omega)]; rfl
 refine whole_mk (nodeOk_iff.2 ?_) (fun k hk=>by cases hk)
 refine⟨⟨by simp [Re.op],by simp [Re.op],by simp [Re.op,kidsR],by simp [Re.op,kidsR,Re.kids]⟩,?_,?_,?_,?_⟩
 ·show (if (1:Int)=1 then spansR ((setSpans[(pick m.l m.pos 15 / 2).toNat]?).getD []) 255=true else _)
  rw[if_pos rfl]; exact hs _
 ·rw[if_neg (by simp [Re.op])]; exact⟨rfl,rfl,rfl⟩
 ·rw[if_neg (by simp [Re.op]),if_neg (by simp [Re.op])]; rfl
 ·intro h; simp [Re.neg] at h
theorem set_dep (m:Mk):m.set.1.depth=1:=rfl
theorem set_size (m:Mk):m.set.1.size=1:=rfl
theorem set_nok (d:Nat) (m:Mk):NOK d m m.set :=
 ⟨Int.le_refl _,set_whole m _,by rw[set_dep]; omega,by rw[set_size]; simp [Mk.set,Mk.next],fun B _ h=>by simp only[Mk.set,Mk.next]; omega⟩
theorem one_nok {d:Nat} {m m':Mk} {x:Re × Mk} {op mn mx mode n:Int} {neg:Bool} (h:TOK d m' x) (hc:m.caps≤m'.caps) (hl:m'.left=m.left)
  (hn:nodeOk (.mk op [] [x.1] mn mx mode n neg) x.2.caps 255=true):NOK d m (.mk op [] [x.1] mn mx mode n neg,x.2):=by
 refine⟨Int.le_trans hc h.caps,whole_mk hn (fun k hk=>by rw[List.mem_singleton.1 hk]; exact h.ok),?_,?_,?_⟩
 ·exact Re.depth_mk (b:=d + 1) (by omega) (fun k hk=>by rw[List.mem_singleton.1 hk]; exact h.dep)
 ·show ((Re.mk op [] [x.1] mn mx mode n neg).size:Int)≤1 + (m.left - x.2.left)
  rw[size_one]; have:=h.size; omega
 ·intro B h1 h2
  have:=h.one h1 (by omega)
  show B - 4≤x.2.left
  omega
theorem none_nok {d:Nat} {m m':Mk} {op mn mx mode n:Int} {neg:Bool} (hc:m.caps=m'.caps) (hl:m'.left=m.left)
  (hn:nodeOk (.mk op [] [] mn mx mode n neg) m'.caps 255=true):NOK d m (.mk op [] [] mn mx mode n neg,m'):=by
 refine⟨by rw[hc]; exact Int.le_refl _,whole_mk hn (fun k hk=>by cases hk),?_,?_,?_⟩
 ·have:=Re.depth_mk (op:=op) (set:=[]) (mn:=mn) (mx:=mx) (mode:=mode) (n:=n) (neg:=neg) (b:=0) (kids:=[]) (by omega) (fun k hk=>by cases hk)
  show (Re.mk op [] [] mn mx mode n neg).depth≤_
  omega
 ·show ((Re.mk op [] [] mn mx mode n neg).size:Int)≤1 + (m.left - m'.left); rw[hl]; simp [Re.size,Re.sizeL]
 ·intro B h1 h2; show B - 4≤m'.left; omega
theorem simple_node {op n caps:Int} {kids:List Re} {neg:Bool} (h0:0≤op∧op≤11) (h1:op≠1) (h4:op≠4) (hk:(kidsR op).1≤kids.length∧((kidsR op).2 < 0∨(kids.length:Int)≤(kidsR op).2))
  (hn:if op=5∨op=6∨op=10 then (1≤n∧n≤caps) else if op=11 then (0≤n∧n≤5) else n=0) (hneg:neg=true→op=7∨op=8):nodeOk (.mk op [] kids 0 0 0 n neg) caps 255=true:=by
 refine nodeOk_iff.2 ⟨⟨h0.1,h0.2,hk.1,hk.2⟩,?_,?_,hn,hneg⟩
 ·rw[if_neg (by exact h1)]; rfl
 ·rw[if_neg (by exact h4)]; exact⟨rfl,rfl,rfl⟩
theorem repKid_tok {d:Nat} {t:Mk→Re × Mk} {m:Mk} (h:TOK d m (t m)):TOK d m (repKid t m):=by
 unfold repKid
 simp only
 split
 ·have h1:=h.size
  have h2:=(t m).1.size_pos
  exact⟨h.caps,set_whole _ _,by rw[set_dep]; omega,by rw[set_size]; show ((1:Nat):Int)≤m.left - (t m).2.left; omega,h.low,h.high⟩
 ·exact h
theorem repMode_same (m:Mk):(repMode m).2.caps=m.caps∧(repMode m).2.left=m.left∧0≤(repMode m).1∧(repMode m).1≤2:=by
 have hp:=pick_range m.l m.pos 2 (by omega)
 unfold repMode
 simp only
 split
 ·refine⟨rfl,rfl,?_,?_⟩ <;> (split <;> simp only[Mk.next] <;> omega)
 ·refine⟨rfl,rfl,?_,?_⟩ <;> simp only[Mk.next] <;> omega
theorem rep_nok {d:Nat} {t:Mk→Re × Mk} {c z:Int} (ht:TT d t c z) {m:Mk} {b:Int} (hb:0≤b) (h:m.In b):NOK d m (m.rep t):=by
 have hk:=pick_range m.l m.pos 12 (by omega)
 have hi:=repMode_in (h.next 12)
 obtain⟨r1,r2,r3,r4⟩:=repMode_same (m.next 12).2
 have h2:=repKid_tok (ht.tok _ (b + 1 + 2) (by omega) hi)
 simp only[Mk.rep]
 refine one_nok h2 (by rw[r1]; exact Int.le_refl _) (by rw[r2]; rfl) (nodeOk_iff.2 ⟨⟨by simp [Re.op],by simp [Re.op],by simp [Re.op,kidsR,Re.kids],by simp [Re.op,kidsR,Re.kids]⟩,?_,?_,?_,?_⟩)
 ·rw[if_neg (by simp [Re.op])]; rfl
 ·rw[if_pos (by simp [Re.op])]
  have key:∀i:Nat,i < 12→0≤(repMins[i]?).getD 0∧(repMins[i]?).getD 0≤32∧-1≤(repMaxs[i]?).getD 0∧(repMaxs[i]?).getD 0≠0∧(repMaxs[i]?).getD 0≤32∧(0 < (repMaxs[i]?).getD 0→(repMins[i]?).getD 0≤(repMaxs[i]?).getD 0):=by decide
  obtain⟨k1,k2,k3,k4,k5,k6⟩:=key (pick m.l m.pos 12).toNat (by omega)
  exact⟨k1,k2,k3,k4,k5,k6,r3,r4⟩
 ·rw[if_neg (by simp [Re.op]),if_neg (by simp [Re.op])]; rfl
 ·intro h; simp [Re.neg] at h
theorem capNum_left (m:Mk):(capNum m).2.left=m.left:=by
 unfold capNum
 simp only
 split
 ·rfl
 ·split
  ·split <;> rfl
  ·rfl
theorem capture_nok {d:Nat} {t:Mk→Re × Mk} {c z:Int} (ht:TT d t c z) {m:Mk} {b:Int} (hb:0≤b) (h:m.In b):NOK d m (m.capture t):=by
 obtain⟨h1,h2,h3,h4⟩:=capNum_in h
 have hl:=capNum_left m
 simp only[Mk.capture]
 have hin:((capNum m).2.withCaps (max (capNum m).2.caps (capNum m).1)).In (b + 2):=⟨h1.l,h1.p0,h1.p1,h1.l0,h1.l1,by show 0≤max _ _; omega,by have:=h.c1; show max _ _≤4; omega⟩
 have hx:=ht.tok _ (b + 2) (by omega) hin
 have hcc:(capNum m).1≤(t ((capNum m).2.withCaps (max (capNum m).2.caps (capNum m).1))).2.caps:=Int.le_trans (by show _≤max _ _; omega) hx.caps
 refine one_nok hx (by show m.caps≤max _ _; omega) hl (simple_node (by omega) (by omega) (by omega) (by simp [kidsR]) ?_ (by simp))
 rw[if_pos (.inl rfl)]
 exact⟨h3,hcc⟩
theorem forest_nok {d:Nat} {m:Mk} {op:Int} {x:List Re × Mk} (h:FOK d 4 m x) (ho:op=2∨op=3) (hl:2≤x.1.length):NOK d m (Re.node op x.1,x.2):=by
 refine⟨h.caps,whole_mk (simple_node (by omega) (by omega) (by omega) ?_ ?_ (by simp)) h.ok,Re.depth_mk (b:=d + 1) (by omega) h.dep,?_,?_⟩
 ·unfold kidsR; rw[if_pos ho]; exact⟨by show (2:Int)≤_; omega,.inl (by show (-1:Int) < 0; omega)⟩
 ·rw[if_neg (by omega),if_neg (by omega)]
 ·show ((Re.node op x.1).size:Int)≤_
  have:=h.size
  simp only[Re.node,Re.size,Int.natCast_add]
  show ((1:Nat):Int) + (Re.sizeL x.1:Int)≤1 + (m.left - x.2.left)
  omega
 ·intro B h1 h2
  exact h.bnd B h1 h2
theorem node_nok {d:Nat} {t:Mk→Re × Mk} {c z:Int} (ht:TT d t c z) (k:Int) {m:Mk} {b:Int} (hb:0≤b) (h:m.In b):NOK d m (Mk.node t k m):=by
 have hf:=kidsFrom_ok ht 4 0 m b hb h
 have hl:=kidsFrom_two (t:=t) m
 have hc0:=ht.c0
 unfold Mk.node
 split
 ·exact forest_nok hf (.inl rfl) hl
 split
 ·exact forest_nok hf (.inr rfl) hl
 split
 ·exact rep_nok ht hb h
 split
 ·exact capture_nok ht hb h
 split
 ·exact capture_nok ht hb h
 split
 ·have hp:=pick_range m.l m.pos 6 (by omega)
  refine none_nok rfl rfl (simple_node (by omega) (by omega) (by omega) (by simp [kidsR]) ?_ (by simp))
  rw[if_neg (by omega),if_pos rfl]
  simp only[Mk.next]; omega
 split
 ·have hp:=pick_range (m.next 3).2.l (m.next 3).2.pos 2 (by omega)
  have hx:=ht.tok _ (b + 2) (by omega) (((h.next 3).next 2).mono (by omega))
  have hp2:((m.next 3).2.next 2).1=0∨((m.next 3).2.next 2).1=1:=by simp only[Mk.next] at hp ⊢; omega
  refine one_nok hx (Int.le_refl _) rfl (simple_node ?_ ?_ ?_ ?_ ?_ ?_)
  ·omega
  ·omega
  ·omega
  ·rcases hp2 with e | e <;> rw[e] <;> simp [kidsR]
  ·rcases hp2 with e | e <;> rw[e] <;> simp
  ·intro _; omega
 split
 ·exact one_nok (ht.tok m b hb h) (Int.le_refl _) rfl (simple_node (by omega) (by omega) (by omega) (by simp [kidsR]) (by simp) (by simp))
 split
 ·rename_i hcond
  have hcp:0 < m.caps:=hcond.2.2
  have hp:=pick_range m.l m.pos m.caps (by omega)
  refine none_nok rfl rfl (simple_node (by omega) (by omega) (by omega) (by simp [kidsR]) ?_ (by simp))
  rw[if_pos (.inr (.inl rfl))]
  simp only[Mk.next]; omega
 split
 ·rename_i hcond
  have hcp:0 < m.caps:=hcond.2.2
  have hp:=pick_range m.l m.pos m.caps (by omega)
  have h1:=h.next m.caps
  have hy:=ht.tok _ (b + 1) (by omega) h1
  obtain⟨h2,_⟩:=ht.good _ (b + 1) (by omega) h1
  have hz:=ht.tok _ (b + 1 + c) (by omega) h2
  have e1:(m.next m.caps).2.caps=m.caps:=rfl
  have e2:(m.next m.caps).2.left=m.left:=rfl
  simp only
  refine⟨Int.le_trans hy.caps hz.caps,whole_mk (simple_node (by omega) (by omega) (by omega) (by simp [kidsR]) ?_ (by simp)) ?_,Re.depth_mk (b:=d + 1) (by omega) ?_,?_,?_⟩
  ·rw[if_pos (.inr (.inr rfl))]
   have:=Int.le_trans hy.caps hz.caps
   simp only[Mk.next] at this hp ⊢
   omega
  ·intro x hx
   rcases List.mem_cons.1 hx with rfl | hx
   ·exact whole_mono hz.caps hy.ok
   ·rw[List.mem_singleton.1 hx]; exact hz.ok
  ·intro x hx
   rcases List.mem_cons.1 hx with rfl | hx
   ·exact hy.dep
   ·rw[List.mem_singleton.1 hx]; exact hz.dep
  ·have a1:=hy.size
   have a2:=hz.size
   simp only[Re.size,Re.sizeL,Int.natCast_add]
   omega
  ·intro B hB1 hB2
   have b1:=hy.one hB1 (by omega)
   have b2:=hz.one (B:=B - 1) (by omega) b1
   show B - 4≤(t (t (m.next m.caps).2).2).2.left
   omega
 ·exact set_nok d m
theorem tree_tt:∀d,TT d (Mk.tree d) (cD d) (zD d)
 | 0=>by
  refine⟨tree_good 0,by have:=cD_nonneg 0; omega,zD_pos 0,fun m b hb h=>?_⟩
  simp only[Mk.tree]
  have el:(m.less.next 20).2.left=m.left - 1:=rfl
  have ec:(m.less.next 20).2.caps=m.caps:=rfl
  split
  ·have hn:nodeOk (Re.node 0 []) (m.less.next 20).2.caps 255=true:=simple_node (by omega) (by omega) (by omega) (by simp [kidsR]) (by simp) (by simp)
   exact⟨by rw[ec]; exact Int.le_refl _,whole_mk hn (fun k hk=>by cases hk),by show (1:Int)≤_; omega,by show ((1:Nat):Int)≤m.left - (m.less.next 20).2.left; omega,fun _=>by show _≤(m.less.next 20).2.left; omega,fun _=>by show _≤(m.less.next 20).2.left; omega⟩
  ·have e1:(m.less.next 20).2.set.2.left=m.left - 1:=rfl
   exact⟨Int.le_refl _,set_whole _ _,by rw[set_dep]; omega,by rw[set_size]; omega,fun _=>by omega,fun _=>by omega⟩
 | d + 1=>by
  refine⟨tree_good (d + 1),by have:=cD_nonneg (d + 1); omega,zD_pos (d + 1),fun m b hb h=>?_⟩
  simp only[Mk.tree]
  have el:(m.less.next 20).2.left=m.left - 1:=rfl
  have ec:(m.less.next 20).2.caps=m.caps:=rfl
  split
  ·split
   ·have hn:nodeOk (Re.node 0 []) (m.less.next 20).2.caps 255=true:=simple_node (by omega) (by omega) (by omega) (by simp [kidsR]) (by simp) (by simp)
    exact⟨by rw[ec]; exact Int.le_refl _,whole_mk hn (fun k hk=>by cases hk),by show (1:Int)≤_; omega,by show ((1:Nat):Int)≤m.left - (m.less.next 20).2.left; omega,fun _=>by show _≤(m.less.next 20).2.left; omega,fun _=>by show _≤(m.less.next 20).2.left; omega⟩
   ·have e1:(m.less.next 20).2.set.2.left=m.left - 1:=rfl
    exact⟨Int.le_refl _,set_whole _ _,by rw[set_dep]; omega,by rw[set_size]; omega,fun _=>by omega,fun _=>by omega⟩
  ·rename_i hcond
   have hl3:¬(m.less.next 20).2.left < 3:=fun hh=>hcond (.inl hh)
   have hn:=node_nok (tree_tt d) (m.less.next 20).1 (b:=b + 1 + 1) (by omega) (h.left.next 20)
   refine⟨Int.le_trans (by rw[ec]; exact Int.le_refl _) hn.caps,hn.ok,?_,?_,fun hh=>by omega,fun _=>?_⟩
   ·have:=hn.dep; simp only[Int.natCast_add]; omega
   ·have:=hn.size; omega
   ·have:=hn.bnd (2 - 4 * (d:Int)) (Int.le_refl _) (by omega)
    simp only[Int.natCast_add]; omega
theorem pat_valid (l:List Int) (uses most:Int) (hl:∀x∈l,I64 x) (h0:0≤most) (h1:most≤100):validR (patOf l uses most)=0∧(patOf l uses most).re.size≤256:=by
 have hin:(⟨l,0,uses,most,0⟩:Mk).In 0:=⟨hl,by simp,by simp,by simpa using h0,by show most≤_; omega,by simp,by simp⟩
 have h:=(tree_tt 5).tok ⟨l,0,uses,most,0⟩ 0 (by omega) hin
 obtain⟨g,_⟩:=(tree_tt 5).good ⟨l,0,uses,most,0⟩ 0 (by omega) hin
 have hsz:=h.size
 have hlow:=h.low
 have hhigh:=h.high
 have hdep:=h.dep
 have hok:=h.ok
 have hs:(patOf l uses most).re.size≤256:=by
  show (Mk.tree 5 ⟨l,0,uses,most,0⟩).1.size≤256
  simp only at hsz hlow hhigh
  omega
 refine⟨?_,hs⟩
 unfold validR
 rw[if_neg,if_neg]
 ·rintro (h' | h' | h')
  ·have:=g.c0; have h'':(Mk.tree 5 ⟨l,0,uses,most,0⟩).2.caps < 0:=h'; omega
  ·have:=g.c1; have h'':9 < (Mk.tree 5 ⟨l,0,uses,most,0⟩).2.caps:=h'; omega
  ·have h'':(Mk.tree 5 ⟨l,0,uses,most,0⟩).1.whole (Mk.tree 5 ⟨l,0,uses,most,0⟩).2.caps 255=false:=h'
   rw[hok] at h''; cases h''
 ·rintro (h' | h')
  ·omega
  ·have h'':24 < (Mk.tree 5 ⟨l,0,uses,most,0⟩).1.depth:=h'
   omega
theorem sp_in {top:Int}:∀(l:List (Int × Int)) (p:Int),spOk top p l=true→∀s∈l,0≤s.1∧s.1≤top∧0≤s.2∧s.2≤top
 | [],p,h,s,hs=>by cases hs
 | x::l,p,h,s,hs=>by
  simp only[spOk,Bool.and_eq_true,decide_eq_true_eq] at h
  rcases List.mem_cons.1 hs with rfl | hs
  ·omega
  ·exact sp_in l x.2 h.2 s hs
theorem small_of_ok {re:Re} {caps top:Int} {c:Nat} (hc:64≤c) (ht:top≤1114111) (hcp:caps≤1000000) (h:nodeOk re caps top=true) (hk:re.kids.length≤c):smallB c re=true:=by
 obtain⟨h1,h2,h3,h4,h5⟩:=nodeOk_iff.1 h
 have hset:re.set.length≤64∧∀s∈re.set,I64 s.1∧I64 s.2:=by
  split at h2
  ·simp only[spansR,Bool.and_eq_true,decide_eq_true_eq] at h2
   refine⟨h2.1,fun s hs=>?_⟩
   have:=sp_in _ _ h2.2 s hs
   unfold I64; omega
  ·have hn:re.set=[]:=List.eq_nil_of_length_eq_zero h2
   rw[hn]; exact⟨by simp,fun s hs=>by cases hs⟩
 refine smallB_iff.2 ⟨⟨by omega,hk,?_,?_,?_,?_,?_⟩,hset.2⟩
 ·unfold I64; omega
 ·unfold I64; split at h3 <;> omega
 ·unfold I64; split at h3 <;> omega
 ·unfold I64; split at h3 <;> omega
 ·unfold I64; split at h4
  ·omega
  ·split at h4 <;> omega
theorem pat_small (l:List Int) (uses most:Int) (hl:∀x∈l,I64 x) (h0:0≤most) (h1:most≤100):(patOf l uses most).small 256:=by
 have hin:(⟨l,0,uses,most,0⟩:Mk).In 0:=⟨hl,by simp,by simp,by simpa using h0,by show most≤_; omega,by simp,by simp⟩
 have h:=(tree_tt 5).tok ⟨l,0,uses,most,0⟩ 0 (by omega) hin
 obtain⟨g,_⟩:=(tree_tt 5).good ⟨l,0,uses,most,0⟩ 0 (by omega) hin
 obtain⟨_,hs⟩:=pat_valid l uses most hl h0 h1
 have hc0:=g.c0
 have hc1:=g.c1
 refine⟨?_,hs,by show I64 (Mk.tree 5 ⟨l,0,uses,most,0⟩).2.caps; unfold I64; omega⟩
 have hok:(patOf l uses most).re.whole (Mk.tree 5 ⟨l,0,uses,most,0⟩).2.caps 255=true:=h.ok
 revert hok hs
 generalize (patOf l uses most).re=re
 intro hs hok
 refine Re.ind (Q:=fun re=>re.size≤256→re.whole (Mk.tree 5 ⟨l,0,uses,most,0⟩).2.caps 255=true→re.every (smallB 256)=true) (fun re ih hs hok=>?_) re hs hok
 obtain⟨a1,a2⟩:=(Re.every_iff re).1 hok
 have:=Re.len_le re.kids
 have:=Re.size_eq re
 exact(Re.every_iff re).2 ⟨small_of_ok (by omega) (by omega) (by omega) a1 (by omega),fun k hk=>ih k hk (by have:=Re.size_kid hk; omega) (a2 k hk)⟩
end Go.Proofs.Ytllagoeijcjpiaa
