/- A part of the proof (F42 F43). -/
import Derived.Test.YtpppfpaalcbggaaMB15
import Derived.Test.YtpppfpaalcbggaaMB16
import Derived.Test.YtpppfpaalcbggaaMB17
import Derived.Test.YtpppfpaalcbggaaMB18
set_option linter.unusedSimpArgs false
set_option linter.unusedVariables false
set_option maxRecDepth 100000
set_option maxHeartbeats 80000000
set_option linter.unusedSimpArgs false
set_option linter.unusedVariables false
namespace Go.Proofs.Ytpppfpaalcbggaa
open Go.VL Go.Proofs.Try
theorem nodeOk_iff {re:Re} {caps top:Int}:nodeOk re caps top=true ↔
  (0≤re.op∧re.op≤11∧(kidsR re.op).1≤re.kids.length∧((kidsR re.op).2 < 0∨(re.kids.length:Int)≤(kidsR re.op).2)) ∧
  (if re.op=1 then spansR re.set top=true else re.set.length=0) ∧
  (if re.op=4 then (0≤re.mn∧re.mn≤32∧-1≤re.mx∧re.mx≠0∧re.mx≤32∧(0 < re.mx→re.mn≤re.mx)∧0≤re.mode∧re.mode≤2) else (re.mn=0∧re.mx=0∧re.mode=0)) ∧
  (if re.op=5∨re.op=6∨re.op=10 then (1≤re.n∧re.n≤caps) else if re.op=11 then (0≤re.n∧re.n≤5) else re.n=0) ∧
  (re.neg=true→re.op=7∨re.op=8):=by
 unfold nodeOk
 simp only[Bool.and_eq_true,decide_eq_true_eq]
 refine and_congr Iff.rfl (and_congr ?_ (and_congr ?_ (and_congr ?_ ?_)))
 ·split <;> simp
 ·split <;> simp only[decide_eq_true_eq]
 ·split
  ·simp only[decide_eq_true_eq]
  ·split <;> simp only[decide_eq_true_eq]
 ·cases re.neg <;> simp
theorem nodeOk_mono {re:Re} {caps caps' top:Int} (h:caps≤caps') (hn:nodeOk re caps top=true):nodeOk re caps' top=true:=by
 rw[nodeOk_iff] at *
 obtain⟨a,b,c,d,e⟩:=hn
 refine⟨a,b,c,?_,e⟩
 split
 ·rename_i hh; rw[if_pos hh] at d; omega
 ·rename_i hh; rw[if_neg hh] at d; exact d
theorem whole_mono {re:Re} {caps caps' top:Int} (h:caps≤caps') (hn:re.whole caps top=true):re.whole caps' top=true :=
 every_mono' (fun r hr=>nodeOk_mono h hr) re hn
theorem whole_mk {op mn mx mode n caps top:Int} {set:List (Int × Int)} {kids:List Re} {neg:Bool} (h:nodeOk (.mk op set kids mn mx mode n neg) caps top=true) (hk:∀k∈kids,k.whole caps top=true):(Re.mk op set kids mn mx mode n neg).whole caps top=true :=
 (Re.every_iff _).2 ⟨h,hk⟩
theorem Re.depth_mk {op mn mx mode n:Int} {set:List (Int × Int)} {kids:List Re} {neg:Bool} {b:Int} (hb:0≤b) (hk:∀k∈kids,k.depth≤b):(Re.mk op set kids mn mx mode n neg).depth≤b + 1:=by
 rw[Re.depth_eq]
 have:=foldl_max_le (b:=b) (kids.map Re.depth) 0 hb (fun x hx=>by obtain⟨k,hk',rfl⟩:=List.mem_map.1 hx; exact hk k hk')
 show maxL (kids.map Re.depth) + 1≤_
 unfold maxL
 omega
structure TOK (d:Nat) (m:Mk) (x:Re × Mk):Prop where
 caps:m.caps≤x.2.caps
 ok:x.1.whole x.2.caps 255=true
 dep:x.1.depth≤d + 1
 size:(x.1.size:Int)≤m.left - x.2.left
 low:m.left≤3→m.left - 1≤x.2.left
 high:4≤m.left→2 - 4 * (d:Int)≤x.2.left
structure TT (d:Nat) (t:Mk→Re × Mk) (c z:Int):Prop where
 good:Good t c z
 c0:0≤c
 z1:1≤z
 tok:∀m b,0≤b→Mk.In m b→TOK d m (t m)
theorem TOK.one {d:Nat} {m:Mk} {x:Re × Mk} (h:TOK d m x) {B:Int} (h1:B≤2 - 4 * (d:Int)) (h2:B≤m.left):B - 1≤x.2.left:=by
 have:=h.low; have:=h.high
 omega
structure FOK (d f:Nat) (m:Mk) (x:List Re × Mk):Prop where
 caps:m.caps≤x.2.caps
 ok:∀k∈x.1,k.whole x.2.caps 255=true
 dep:∀k∈x.1,k.depth≤d + 1
 size:(Re.sizeL x.1:Int)≤m.left - x.2.left
 bnd:∀B:Int,B≤2 - 4 * (d:Int)→B≤m.left→B - f≤x.2.left
theorem kidsFrom_ok {d:Nat} {t:Mk→Re × Mk} {c z:Int} (ht:TT d t c z):∀(f:Nat) (i:Int) (m:Mk) (b:Int),0≤b→m.In b→FOK d f m (kidsFrom t f i m)
 | 0,i,m,b,hb,h=>⟨Int.le_refl _,by simp [kidsFrom],by simp [kidsFrom],by simp [kidsFrom,Re.sizeL],fun B _ h2=>by simpa [kidsFrom] using h2⟩
 | f + 1,i,m,b,hb,h=>by
  simp only[kidsFrom]
  split
  ·have h1:=h.next 2
   have h2:=ht.tok _ (b + 1) (by omega) h1
   obtain⟨h3,_⟩:=ht.good _ (b + 1) (by omega) h1
   have h4:=kidsFrom_ok ht f (i + 1) _ (b + 1 + c) (by have:=ht.c0; omega) h3
   refine⟨Int.le_trans h2.caps h4.caps,?_,?_,?_,?_⟩
   ·intro k hk
    rcases List.mem_cons.1 hk with rfl | hk
    ·exact whole_mono h4.caps h2.ok
    ·exact h4.ok k hk
   ·intro k hk
    rcases List.mem_cons.1 hk with rfl | hk
    ·exact h2.dep
    ·exact h4.dep k hk
   ·have a:=h2.size
    have a':=h4.size
    simp only[Re.sizeL,Int.natCast_add]
    have e:(m.next 2).2.left=m.left:=rfl
    omega
   ·intro B hB1 hB2
    have:=h4.bnd (B - 1) (by omega) (h2.one hB1 hB2)
    simp only[Int.natCast_add]
    omega
  ·exact⟨Int.le_refl _,by simp,by simp,by simp [Re.sizeL,Mk.next],fun B _ h2=>by simp only[Mk.next]; omega⟩
theorem kidsFrom_two {t:Mk→Re × Mk} (m:Mk):2≤(kidsFrom t 4 0 m).1.length:=by
 have hp:=pick_range m.l m.pos 2 (by omega)
 rw[kidsFrom,if_pos (by simp only[Mk.next]; omega)]
 simp only[List.length_cons]
 generalize (t (m.next 2).2).2=m'
 have hp':=pick_range m'.l m'.pos 2 (by omega)
 rw[kidsFrom,if_pos (by simp only[Mk.next]; omega)]
 simp
structure NOK (d:Nat) (m:Mk) (x:Re × Mk):Prop where
 caps:m.caps≤x.2.caps
 ok:x.1.whole x.2.caps 255=true
 dep:x.1.depth≤d + 2
 size:(x.1.size:Int)≤1 + (m.left - x.2.left)
 bnd:∀B:Int,B≤2 - 4 * (d:Int)→B≤m.left→B - 4≤x.2.left
theorem set_whole (m:Mk) (caps:Int):m.set.1.whole caps 255=true:=by
 have hs:∀i:Nat,spansR ((setSpans[i]?).getD []) 255=true:=by
  intro i
  by_cases hi:i < 8
  ·have:∀i,i < 8→spansR ((setSpans[i]?).getD []) 255=true:=by decide
   exact this i hi
  ·rw[List.getElem?_eq_none (by simp [setSpans]; omega)]; rfl
 refine whole_mk (nodeOk_iff.2 ?_) (fun k hk=>by cases hk)
 refine⟨⟨by simp [Re.op],by simp [Re.op],by simp [Re.op,kidsR],by simp [Re.op,kidsR,Re.kids]⟩,?_,?_,?_,?_⟩
 ·show (if (1:Int)=1 then spansR ((setSpans[(pick m.l m.pos 15 / 2).toNat]?).getD []) 255=true else _)
  rw[if_pos rfl]; exact hs _
 ·rw[if_neg (by simp [Re.op])]; exact⟨rfl,rfl,rfl⟩
 ·rw[if_neg (by simp [Re.op]),if_neg (by simp [Re.op])]; rfl
 ·intro h; simp [Re.neg] at h
theorem set_dep (m:Mk):m.set.1.depth=1:=rfl
theorem set_size (m:Mk):m.set.1.size=1:=rfl
theorem set_nok (d:Nat) (m:Mk):NOK d m m.set :=
 ⟨Int.le_refl _,set_whole m _,by rw[set_dep]; omega,by rw[set_size]; simp [Mk.set,Mk.next],fun B _ h=>by simp only[Mk.set,Mk.next]; omega⟩
theorem one_nok {d:Nat} {m m':Mk} {x:Re × Mk} {op mn mx mode n:Int} {neg:Bool} (h:TOK d m' x) (hc:m.caps≤m'.caps) (hl:m'.left=m.left)
  (hn:nodeOk (.mk op [] [x.1] mn mx mode n neg) x.2.caps 255=true):NOK d m (.mk op [] [x.1] mn mx mode n neg,x.2):=by
 refine⟨Int.le_trans hc h.caps,whole_mk hn (fun k hk=>by rw[List.mem_singleton.1 hk]; exact h.ok),?_,?_,?_⟩
 ·exact Re.depth_mk (b:=d + 1) (by omega) (fun k hk=>by rw[List.mem_singleton.1 hk]; exact h.dep)
 ·show ((Re.mk op [] [x.1] mn mx mode n neg).size:Int)≤1 + (m.left - x.2.left)
  rw[size_one]; have:=h.size; omega
 ·intro B h1 h2
  have:=h.one h1 (by omega)
  show B - 4≤x.2.left
  omega
theorem none_nok {d:Nat} {m m':Mk} {op mn mx mode n:Int} {neg:Bool} (hc:m.caps=m'.caps) (hl:m'.left=m.left)
  (hn:nodeOk (.mk op [] [] mn mx mode n neg) m'.caps 255=true):NOK d m (.mk op [] [] mn mx mode n neg,m'):=by
 refine⟨by rw[hc]; exact Int.le_refl _,whole_mk hn (fun k hk=>by cases hk),?_,?_,?_⟩
 ·have:=Re.depth_mk (op:=op) (set:=[]) (mn:=mn) (mx:=mx) (mode:=mode) (n:=n) (neg:=neg) (b:=0) (kids:=[]) (by omega) (fun k hk=>by cases hk)
  show (Re.mk op [] [] mn mx mode n neg).depth≤_
  omega
 ·show ((Re.mk op [] [] mn mx mode n neg).size:Int)≤1 + (m.left - m'.left); rw[hl]; simp [Re.size,Re.sizeL]
 ·intro B h1 h2; show B - 4≤m'.left; omega
theorem simple_node {op n caps:Int} {kids:List Re} {neg:Bool} (h0:0≤op∧op≤11) (h1:op≠1) (h4:op≠4) (hk:(kidsR op).1≤kids.length∧((kidsR op).2 < 0∨(kids.length:Int)≤(kidsR op).2))
  (hn:if op=5∨op=6∨op=10 then (1≤n∧n≤caps) else if op=11 then (0≤n∧n≤5) else n=0) (hneg:neg=true→op=7∨op=8):nodeOk (.mk op [] kids 0 0 0 n neg) caps 255=true:=by
 refine nodeOk_iff.2 ⟨⟨h0.1,h0.2,hk.1,hk.2⟩,?_,?_,hn,hneg⟩
 ·rw[if_neg (by exact h1)]; rfl
 ·rw[if_neg (by exact h4)]; exact⟨rfl,rfl,rfl⟩
theorem repKid_tok {d:Nat} {t:Mk→Re × Mk} {m:Mk} (h:TOK d m (t m)):TOK d m (repKid t m):=by
 unfold repKid
 simp only
 split
 ·have h1:=h.size
  have h2:=(t m).1.size_pos
  exact⟨h.caps,set_whole _ _,by rw[set_dep]; omega,by rw[set_size]; show ((1:Nat):Int)≤m.left - (t m).2.left; omega,h.low,h.high⟩
 ·exact h
theorem repMode_same (m:Mk):(repMode m).2.caps=m.caps∧(repMode m).2.left=m.left∧0≤(repMode m).1∧(repMode m).1≤2:=by
 have hp:=pick_range m.l m.pos 2 (by omega)
 unfold repMode
 simp only
 split
 ·refine⟨rfl,rfl,?_,?_⟩ <;> (split <;> simp only[Mk.next] <;> omega)
 ·refine⟨rfl,rfl,?_,?_⟩ <;> simp only[Mk.next] <;> omega
theorem rep_nok {d:Nat} {t:Mk→Re × Mk} {c z:Int} (ht:TT d t c z) {m:Mk} {b:Int} (hb:0≤b) (h:m.In b):NOK d m (m.rep t):=by
 have hk:=pick_range m.l m.pos 12 (by omega)
 have hi:=repMode_in (h.next 12)
 obtain⟨r1,r2,r3,r4⟩:=repMode_same (m.next 12).2
 have h2:=repKid_tok (ht.tok _ (b + 1 + 2) (by omega) hi)
 simp only[Mk.rep]
 refine one_nok h2 (by rw[r1]; exact Int.le_refl _) (by rw[r2]; rfl) (nodeOk_iff.2 ⟨⟨by simp [Re.op],by simp [Re.op],by simp [Re.op,kidsR,Re.kids],by simp [Re.op,kidsR,Re.kids]⟩,?_,?_,?_,?_⟩)
 ·rw[if_neg (by simp [Re.op])]; rfl
 ·rw[if_pos (by simp [Re.op])]
  have key:∀i:Nat,i < 12→0≤(repMins[i]?).getD 0∧(repMins[i]?).getD 0≤32∧-1≤(repMaxs[i]?).getD 0∧(repMaxs[i]?).getD 0≠0∧(repMaxs[i]?).getD 0≤32∧(0 < (repMaxs[i]?).getD 0→(repMins[i]?).getD 0≤(repMaxs[i]?).getD 0):=by decide
  obtain⟨k1,k2,k3,k4,k5,k6⟩:=key (pick m.l m.pos 12).toNat (by omega)
  exact⟨k1,k2,k3,k4,k5,k6,r3,r4⟩
 ·rw[if_neg (by simp [Re.op]),if_neg (by simp [Re.op])]; rfl
 ·intro h; simp [Re.neg] at h
theorem capNum_left (m:Mk):(capNum m).2.left=m.left:=by
 unfold capNum
 simp only
 split
 ·rfl
 ·split
  ·split <;> rfl
  ·rfl
theorem capture_nok {d:Nat} {t:Mk→Re × Mk} {c z:Int} (ht:TT d t c z) {m:Mk} {b:Int} (hb:0≤b) (h:m.In b):NOK d m (m.capture t):=by
 obtain⟨h1,h2,h3,h4⟩:=capNum_in h
 have hl:=capNum_left m
 simp only[Mk.capture]
 have hin:((capNum m).2.withCaps (max (capNum m).2.caps (capNum m).1)).In (b + 2):=⟨h1.l,h1.p0,h1.p1,h1.l0,h1.l1,by show 0≤max _ _; omega,by have:=h.c1; show max _ _≤4; omega⟩
 have hx:=ht.tok _ (b + 2) (by omega) hin
 have hcc:(capNum m).1≤(t ((capNum m).2.withCaps (max (capNum m).2.caps (capNum m).1))).2.caps:=Int.le_trans (by show _≤max _ _; omega) hx.caps
 refine one_nok hx (by show m.caps≤max _ _; omega) hl (simple_node (by omega) (by omega) (by omega) (by simp [kidsR]) ?_ (by simp))
 rw[if_pos (.inl rfl)]
 exact⟨h3,hcc⟩
theorem forest_nok {d:Nat} {m:Mk} {op:Int} {x:List Re × Mk} (h:FOK d 4 m x) (ho:op=2∨op=3) (hl:2≤x.1.length):NOK d m (Re.node op x.1,x.2):=by
 refine⟨h.caps,whole_mk (simple_node (by omega) (by omega) (by omega) ?_ ?_ (by simp)) h.ok,Re.depth_mk (b:=d + 1) (by omega) h.dep,?_,?_⟩
 ·unfold kidsR; rw[if_pos ho]; exact⟨by show (2:Int)≤_; omega,.inl (by show (-1:Int) < 0; omega)⟩
 ·rw[if_neg (by omega),if_neg (by omega)]
 ·show ((Re.node op x.1).size:Int)≤_
  have:=h.size
  simp only[Re.node,Re.size,Int.natCast_add]
  show ((1:Nat):Int) + (Re.sizeL x.1:Int)≤1 + (m.left - x.2.left)
  omega
 ·intro B h1 h2
  exact h.bnd B h1 h2
theorem node_nok {d:Nat} {t:Mk→Re × Mk} {c z:Int} (ht:TT d t c z) (k:Int) {m:Mk} {b:Int} (hb:0≤b) (h:m.In b):NOK d m (Mk.node t k m):=by
 have hf:=kidsFrom_ok ht 4 0 m b hb h
 have hl:=kidsFrom_two (t:=t) m
 have hc0:=ht.c0
 unfold Mk.node
 split
 ·exact forest_nok hf (.inl rfl) hl
 split
 ·exact forest_nok hf (.inr rfl) hl
 split
 ·exact rep_nok ht hb h
 split
 ·exact capture_nok ht hb h
 split
 ·exact capture_nok ht hb h
 split
 ·have hp:=pick_range m.l m.pos 6 (by omega)
  refine none_nok rfl rfl (simple_node (by omega) (by omega) (by omega) (by simp [kidsR]) ?_ (by simp))
  rw[if_neg (by omega),if_pos rfl]
  simp only[Mk.next]; omega
 split
 ·have hp:=pick_range (m.next 3).2.l (m.next 3).2.pos 2 (by omega)
  have hx:=ht.tok _ (b + 2) (by omega) (((h.next 3).next 2).mono (by omega))
  have hp2:((m.next 3).2.next 2).1=0∨((m.next 3).2.next 2).1=1:=by simp only[Mk.next] at hp ⊢; omega
  refine one_nok hx (Int.le_refl _) rfl (simple_node ?_ ?_ ?_ ?_ ?_ ?_)
  ·omega
  ·omega
  ·omega
  ·rcases hp2 with e | e <;> rw[e] <;> simp [kidsR]
  ·rcases hp2 with e | e <;> rw[e] <;> simp
  ·intro _; omega
 split
 ·exact one_nok (ht.tok m b hb h) (Int.le_refl _) rfl (simple_node (by omega) (by omega) (by omega) (by simp [kidsR]) (by simp) (by simp))
 split
 ·rename_i hcond
  have hcp:0 < m.caps:=hcond.2.2
  have hp:=pick_range m.l m.pos m.caps (by omega)
  refine none_nok rfl rfl (simple_node (by omega) (by omega) (by omega) (by simp [kidsR]) ?_ (by simp))
  rw[if_pos (.inr (.inl rfl))]
  simp only[Mk.next]; omega
 split
 ·rename_i hcond
  have hcp:0 < m.caps:=hcond.2.2
  have hp:=pick_range m.l m.pos m.caps (by omega)
  have h1:=h.next m.caps
  have hy:=ht.tok _ (b + 1) (by omega) h1
  obtain⟨h2,_⟩:=ht.good _ (b + 1) (by omega) h1
  have hz:=ht.tok _ (b + 1 + c) (by omega) h2
  have e1:(m.next m.caps).2.caps=m.caps:=rfl
  have e2:(m.next m.caps).2.left=m.left:=rfl
  simp only
  refine⟨Int.le_trans hy.caps hz.caps,whole_mk (simple_node (by omega) (by omega) (by omega) (by simp [kidsR]) ?_ (by simp)) ?_,Re.depth_mk (b:=d + 1) (by omega) ?_,?_,?_⟩
  ·rw[if_pos (.inr (.inr rfl))]
   have:=Int.le_trans hy.caps hz.caps
   simp only[Mk.next] at this hp ⊢
   omega
  ·intro x hx
   rcases List.mem_cons.1 hx with rfl | hx
   ·exact whole_mono hz.caps hy.ok
   ·rw[List.mem_singleton.1 hx]; exact hz.ok
  ·intro x hx
   rcases List.mem_cons.1 hx with rfl | hx
   ·exact hy.dep
   ·rw[List.mem_singleton.1 hx]; exact hz.dep
  ·have a1:=hy.size
   have a2:=hz.size
   simp only[Re.size,Re.sizeL,Int.natCast_add]
   omega
  ·intro B hB1 hB2
   have b1:=hy.one hB1 (by omega)
   have b2:=hz.one (B:=B - 1) (by omega) b1
   show B - 4≤(t (t (m.next m.caps).2).2).2.left
   omega
 ·exact set_nok d m
theorem tree_tt:∀d,TT d (Mk.tree d) (cD d) (zD d)
 | 0=>by
  refine⟨tree_good 0,by have:=cD_nonneg 0; omega,zD_pos 0,fun m b hb h=>?_⟩
  simp only[Mk.tree]
  have el:(m.less.next 20).2.left=m.left - 1:=rfl
  have ec:(m.less.next 20).2.caps=m.caps:=rfl
  split
  ·have hn:nodeOk (Re.node 0 []) (m.less.next 20).2.caps 255=true:=simple_node (by omega) (by omega) (by omega) (by simp [kidsR]) (by simp) (by simp)
   exact⟨by rw[ec]; exact Int.le_refl _,whole_mk hn (fun k hk=>by cases hk),by show (1:Int)≤_; omega,by show ((1:Nat):Int)≤m.left - (m.less.next 20).2.left; omega,fun _=>by show _≤(m.less.next 20).2.left; omega,fun _=>by show _≤(m.less.next 20).2.left; omega⟩
  ·have e1:(m.less.next 20).2.set.2.left=m.left - 1:=rfl
   exact⟨Int.le_refl _,set_whole _ _,by rw[set_dep]; omega,by rw[set_size]; omega,fun _=>by omega,fun _=>by omega⟩
 | d + 1=>by
  refine⟨tree_good (d + 1),by have:=cD_nonneg (d + 1); omega,zD_pos (d + 1),fun m b hb h=>?_⟩
  simp only[Mk.tree]
  have el:(m.less.next 20).2.left=m.left - 1:=rfl
  have ec:(m.less.next 20).2.caps=m.caps:=rfl
  split
  ·split
   ·have hn:nodeOk (Re.node 0 []) (m.less.next 20).2.caps 255=true:=simple_node (by omega) (by omega) (by omega) (by simp [kidsR]) (by simp) (by simp)
    exact⟨by rw[ec]; exact Int.le_refl _,whole_mk hn (fun k hk=>by cases hk),by show (1:Int)≤_; omega,by show ((1:Nat):Int)≤m.left - (m.less.next 20).2.left; omega,fun _=>by show _≤(m.less.next 20).2.left; omega,fun _=>by show _≤(m.less.next 20).2.left; omega⟩
   ·have e1:(m.less.next 20).2.set.2.left=m.left - 1:=rfl
    exact⟨Int.le_refl _,set_whole _ _,by rw[set_dep]; omega,by rw[set_size]; omega,fun _=>by omega,fun _=>by omega⟩
  ·rename_i hcond
   have hl3:¬(m.less.next 20).2.left < 3:=fun hh=>hcond (.inl hh)
   have hn:=node_nok (tree_tt d) (m.less.next 20).1 (b:=b + 1 + 1) (by omega) (h.left.next 20)
   refine⟨Int.le_trans (by rw[ec]; exact Int.le_refl _) hn.caps,hn.ok,?_,?_,fun hh=>by omega,fun _=>?_⟩
   ·have:=hn.dep; simp only[Int.natCast_add]; omega
   ·have:=hn.size; omega
   ·have:=hn.bnd (2 - 4 * (d:Int)) (Int.le_refl _) (by omega)
    simp only[Int.natCast_add]; omega
theorem pat_valid (l:List Int) (uses most:Int) (hl:∀x∈l,I64 x) (h0:0≤most) (h1:most≤100):validR (patOf l uses most)=0∧(patOf l uses most).re.size≤256:=by
 have hin:(⟨l,0,uses,most,0⟩:Mk).In 0:=⟨hl,by simp,by simp,by simpa using h0,by show most≤_; omega,by simp,by simp⟩
 have h:=(tree_tt 5).tok ⟨l,0,uses,most,0⟩ 0 (by omega) hin
 obtain⟨g,_⟩:=(tree_tt 5).good ⟨l,0,uses,most,0⟩ 0 (by omega) hin
 have hsz:=h.size
 have hlow:=h.low
 have hhigh:=h.high
 have hdep:=h.dep
 have hok:=h.ok
 have hs:(patOf l uses most).re.size≤256:=by
  show (Mk.tree 5 ⟨l,0,uses,most,0⟩).1.size≤256
  simp only at hsz hlow hhigh
  omega
 refine⟨?_,hs⟩
 unfold validR
 rw[if_neg,if_neg]
 ·rintro (h' | h' | h')
  ·have:=g.c0; have h'':(Mk.tree 5 ⟨l,0,uses,most,0⟩).2.caps < 0:=h'; omega
  ·have:=g.c1; have h'':9 < (Mk.tree 5 ⟨l,0,uses,most,0⟩).2.caps:=h'; omega
  ·have h'':(Mk.tree 5 ⟨l,0,uses,most,0⟩).1.whole (Mk.tree 5 ⟨l,0,uses,most,0⟩).2.caps 255=false:=h'
   rw[hok] at h''; cases h''
 ·rintro (h' | h')
  ·omega
  ·have h'':24 < (Mk.tree 5 ⟨l,0,uses,most,0⟩).1.depth:=h'
   omega
theorem sp_in {top:Int}:∀(l:List (Int × Int)) (p:Int),spOk top p l=true→∀s∈l,0≤s.1∧s.1≤top∧0≤s.2∧s.2≤top
 | [],p,h,s,hs=>by cases hs
 | x::l,p,h,s,hs=>by
  simp only[spOk,Bool.and_eq_true,decide_eq_true_eq] at h
  rcases List.mem_cons.1 hs with rfl | hs
  ·omega
  ·exact sp_in l x.2 h.2 s hs
theorem small_of_ok {re:Re} {caps top:Int} {c:Nat} (hc:64≤c) (ht:top≤1114111) (hcp:caps≤1000000) (h:nodeOk re caps top=true) (hk:re.kids.length≤c):smallB c re=true:=by
 obtain⟨h1,h2,h3,h4,h5⟩:=nodeOk_iff.1 h
 have hset:re.set.length≤64∧∀s∈re.set,I64 s.1∧I64 s.2:=by
  split at h2
  ·simp only[spansR,Bool.and_eq_true,decide_eq_true_eq] at h2
   refine⟨h2.1,fun s hs=>?_⟩
   have:=sp_in _ _ h2.2 s hs
   unfold I64; omega
  ·have hn:re.set=[]:=List.eq_nil_of_length_eq_zero h2
   rw[hn]; exact⟨by simp,fun s hs=>by cases hs⟩
 refine smallB_iff.2 ⟨⟨by omega,hk,?_,?_,?_,?_,?_⟩,hset.2⟩
 ·unfold I64; omega
 ·unfold I64; split at h3 <;> omega
 ·unfold I64; split at h3 <;> omega
 ·unfold I64; split at h3 <;> omega
 ·unfold I64; split at h4
  ·omega
  ·split at h4 <;> omega
theorem pat_small (l:List Int) (uses most:Int) (hl:∀x∈l,I64 x) (h0:0≤most) (h1:most≤100):(patOf l uses most).small 256:=by
 have hin:(⟨l,0,uses,most,0⟩:Mk).In 0:=⟨hl,by simp,by simp,by simpa using h0,by show most≤_; omega,by simp,by simp⟩
 have h:=(tree_tt 5).tok ⟨l,0,uses,most,0⟩ 0 (by omega) hin
 obtain⟨g,_⟩:=(tree_tt 5).good ⟨l,0,uses,most,0⟩ 0 (by omega) hin
 obtain⟨_,hs⟩:=pat_valid l uses most hl h0 h1
 have hc0:=g.c0
 have hc1:=g.c1
 refine⟨?_,hs,by show I64 (Mk.tree 5 ⟨l,0,uses,most,0⟩).2.caps; unfold I64; omega⟩
 have hok:(patOf l uses most).re.whole (Mk.tree 5 ⟨l,0,uses,most,0⟩).2.caps 255=true:=h.ok
 revert hok hs
 generalize (patOf l uses most).re=re
 intro hs hok
 refine Re.ind (Q:=fun re=>re.size≤256→re.whole (Mk.tree 5 ⟨l,0,uses,most,0⟩).2.caps 255=true→re.every (smallB 256)=true) (fun re ih hs hok=>?_) re hs hok
 obtain⟨a1,a2⟩:=(Re.every_iff re).1 hok
 have:=Re.len_le re.kids
 have:=Re.size_eq re
 exact(Re.every_iff re).2 ⟨small_of_ok (by omega) (by omega) (by omega) a1 (by omega),fun k hk=>ih k hk (by have:=Re.size_kid hk; omega) (a2 k hk)⟩
def valB (re:Re):Bool:=decide (0≤re.op∧re.op≤11∧(re.op=4→re.kids.length=1∧0≤re.mn∧re.mn≤32∧(re.mx=-1∨(1≤re.mx∧re.mx≤32∧re.mn≤re.mx))) ∧
 (re.op=3∨re.op=10∨re.op=5∨re.op=9→re.kids≠[])∧(re.op=5∨re.op=9→re.kids.length=1))
theorem val_of_ok {re:Re} {caps top:Int} (h:nodeOk re caps top=true):valB re=true:=by
 obtain⟨⟨h1,h2,h3,h4⟩,_,h5,_,_⟩:=nodeOk_iff.1 h
 refine decide_eq_true ⟨h1,h2,fun o=>?_,fun o=>?_,fun o=>?_⟩
 ·rw[o] at h3 h4 h5
  simp only[kidsR,Int.reduceEq,or_self,if_false,or_true,true_or,or_false,false_or,if_true,reduceIte] at h3 h4 h5
  omega
 ·intro hn
  rw[hn] at h3
  rcases o with o | o | o | o <;> rw[o] at h3 <;> simp [kidsR] at h3
 ·rcases o with o | o
  all_goals
   rw[o] at h3 h4
   simp only[kidsR,Int.reduceEq,or_self,if_false,or_true,true_or,or_false,false_or,if_true,reduceIte] at h3 h4
   omega
theorem val_whole {re:Re} {caps top:Int} (h:re.whole caps top=true):re.every valB=true:=every_mono' (fun _=>val_of_ok) re h
theorem nul_lensV (re:Re) (h:re.every valB=true):LR re.anul re.lens:=by
 revert h
 refine Re.ind (Q:=fun re=>re.every valB=true→LR re.anul re.lens) (fun re ih h=>?_) re
 obtain⟨h1,h2⟩:=(Re.every_iff re).1 h
 obtain⟨o0,o11,h4,hne,_⟩:=of_decide_eq_true h1
 have hk:∀k∈re.kids,LR k.anul k.lens:=fun k hk=>ih k hk (h2 k hk)
 have hp:∀x∈re.kids.map (fun k=>(k.anul,k.lens)),LR x.1 x.2:=fun x hx=>by
  obtain⟨k,hk',rfl⟩:=List.mem_map.1 hx
  exact hk k hk'
 rw[Re.anul_eq,Re.lens_eq]
 have m1:(re.kids.map (fun k=>(k.anul,k.lens))).map (·.1)=re.kids.map Re.anul:=by simp
 have m2:(re.kids.map (fun k=>(k.anul,k.lens))).map (·.2)=re.kids.map Re.lens:=by simp
 have alt:re.kids≠[]→LR ((re.kids.map Re.anul).any id) (altL (re.kids.map Re.lens)):=fun hn=>by
  obtain⟨k,l,hkl⟩:=List.exists_cons_of_ne_nil hn
  have hkk:=hk k (by rw[hkl]; simp)
  have:=alt_foldl (l.map fun k=>(k.anul,k.lens)) k.anul k.lens hkk (fun x hx=>by
   obtain⟨y,hy,rfl⟩:=List.mem_map.1 hx
   exact hk y (by rw[hkl]; simp [hy]))
  rw[hkl]
  simp only[List.map_cons,altL,altF_self hkk,List.any_cons,id_eq]
  simpa [List.map_map,Function.comp_def] using this
 have hop:re.op=0∨re.op=1∨re.op=2∨re.op=3∨re.op=4∨re.op=5∨re.op=6∨re.op=7∨re.op=8∨re.op=9∨re.op=10∨re.op=11:=by omega
 have zz:LR true (0,0):=⟨by decide,by decide,by decide,by decide,.inr (by decide),by decide⟩
 rcases hop with o | o | o | o | o | o | o | o | o | o | o | o
 ·rw[o]; exact zz
 ·have one:LR false (1,1):=⟨by decide,by decide,by decide,by decide,.inr (by decide),by decide⟩
  rw[o]; exact one
 ·have:=cat_foldl _ true (0,0) zz hp
  rw[m1,m2,Bool.true_and] at this
  rw[o]; exact this
 ·have:=alt (hne (.inl o))
  rw[o]; exact this
 ·obtain⟨q1,q2,q3,q4⟩:=h4 o
  have:=alt (by intro he; rw[he] at q1; cases q1)
  rw[o]
  simp only[anulOp,lensOp]
  generalize altL (re.kids.map Re.lens)=p at *
  generalize (re.kids.map Re.anul).any id=na at *
  obtain⟨a0,a1,b0,b1,ab,nl⟩:=this
  have e1:=lt_nn a0 a1 q2 (by omega)
  have e2:0≤p.1 * re.mn:=Int.mul_nonneg a0 q2
  simp only[reduceCtorEq,Int.reduceEq,if_false,false_or,or_false,or_self,if_true,true_or,or_true]
  have key:(ltimes p.2 re.mx=-1∨(0≤ltimes p.2 re.mx∧ltimes p.1 re.mn≤ltimes p.2 re.mx))∧ltimes p.2 re.mx≤1000000:=by
   by_cases hm:re.mx=-1
   ·rw[hm]
    by_cases hb:p.2=0
    ·have ha:p.1=0:=by omega
     rw[hb,ha,lt_zero',lt_zero']; omega
    ·rw[lt_any hb]; omega
   ·have q5:1≤re.mx∧re.mx≤32∧re.mn≤re.mx:=by omega
    by_cases hb:p.2=-1
    ·rw[hb,lt_neg (by omega)]; omega
    ·rw[lt_nn (by omega) b1 (by omega) (by omega),e1]
     have:p.1 * re.mn≤p.2 * re.mx:=Int.mul_le_mul (by omega) q5.2.2 q2 (by omega)
     have:=Int.mul_nonneg (show 0≤p.2 by omega) (show 0≤re.mx by omega)
     omega
  refine⟨?_,?_,?_,key.2,?_,?_⟩ <;> simp only
  ·rw[e1]; omega
  ·rw[e1]; omega
  ·omega
  ·omega
  ·rw[e1]
   split
   ·rename_i hm
    rw[hm,Int.mul_zero]; exact⟨fun _=>by omega,fun _=>rfl⟩
   ·rename_i hm
    rw[nl]
    constructor
    ·intro hz; rw[hz,Int.zero_mul]; omega
    ·intro hz
     by_cases hz':p.1=0
     ·exact hz'
     ·have:0 < p.1 * re.mn:=Int.mul_pos (by omega) (by omega)
      omega
 ·have:=alt (hne (.inr (.inr (.inl o))))
  rw[o]; exact this
 ·have far:LR true (0,-1):=⟨by decide,by decide,by decide,by decide,.inl (by decide),by decide⟩
  rw[o]; exact far
 ·rw[o]; exact zz
 ·rw[o]; exact zz
 ·have:=alt (hne (.inr (.inr (.inr o))))
  rw[o]; exact this
 ·have:=alt (hne (.inr (.inl o)))
  rw[o]; exact this
 ·rw[o]; exact zz
theorem one_kid {l:List Re} (h:l.length=1):∃k,l=[k]:=by
 match l,h with
 | [k],_=>exact⟨k,rfl⟩
theorem anul_nul (re:Re) (h:re.every valB=true):re.anul=re.nul:=by
 revert h
 refine Re.ind (Q:=fun re=>re.every valB=true→re.anul=re.nul) (fun re ih h=>?_) re
 obtain⟨h1,h2⟩:=(Re.every_iff re).1 h
 obtain⟨o0,o11,h4,h5,h6⟩:=of_decide_eq_true h1
 have hm:re.kids.map Re.anul=re.kids.map Re.nul:=List.map_congr_left (fun k hk=>ih k hk (h2 k hk))
 rw[Re.anul_eq,Re.nul_eq,hm,Re.nulAll_all,Re.nulAny_any]
 have hop:re.op=0∨re.op=1∨re.op=2∨re.op=3∨re.op=4∨re.op=5∨re.op=6∨re.op=7∨re.op=8∨re.op=9∨re.op=10∨re.op=11:=by omega
 rcases hop with o | o | o | o | o | o | o | o | o | o | o | o
 case inr.inr.inr.inr.inl =>
  obtain⟨q1,q2,_⟩:=h4 o
  obtain⟨k,hk⟩:=one_kid q1
  rw[o,hk]
  by_cases hz:re.mn=0
  ·simp [anulOp,hz]
  ·have:¬re.mn≤0:=by omega
   simp [anulOp,hz,this,Re.nul1]
 case inr.inr.inr.inr.inr.inl =>
  obtain⟨k,hk⟩:=one_kid (h6 (.inl o))
  rw[o,hk]; simp [anulOp,Re.nul1]
 case inr.inr.inr.inr.inr.inr.inr.inr.inr.inl =>
  obtain⟨k,hk⟩:=one_kid (h6 (.inr o))
  rw[o,hk]; simp [anulOp,Re.nul1]
 all_goals (rw[o]; simp [anulOp])
 all_goals (try (congr 1))
theorem or_nat {n m:Nat} (hn:n < 128) (hm:m < 128):bitV .or .i64 (n:Int) (m:Int)=((n ||| m:Nat):Int)∧n ||| m < 128:=by
 have hlt:n ||| m < 2 ^ 7:=Nat.or_lt_two_pow hn hm
 refine⟨?_,hlt⟩
 have e:∀k:Nat,k < 128→(BitVec.ofInt IntKind.i64.bits (k:Int)).toNat=k:=by
  intro k hk
  show (BitVec.ofInt 64 (k:Int)).toNat=k
  rw[BitVec.ofInt_natCast,BitVec.toNat_ofNat]
  omega
 simp only[bitV,BitVec.toNat_or,e n hn,e m hm]
 exact w64 _ (by omega)
def UsesP (re:Re):Prop:=∃u:Nat,u < 128∧re.usesR=u∧∀n:Nat,n < 128→re.usesA n=((n ||| u:Nat):Int)
theorem usesL_eq:∀l:List Re,(∀k∈l,UsesP k)→∃v:Nat,v < 128∧∀n:Nat,n < 128→Re.usesRL l n=((n ||| v:Nat):Int)∧Re.usesAL l n=((n ||| v:Nat):Int)
 | [],_=>⟨0,by omega,fun n _=>by simp [Re.usesRL,Re.usesAL]⟩
 | k::l,h=>by
  obtain⟨u,h1,h2,h3⟩:=h k (by simp)
  obtain⟨v,k1,k2⟩:=usesL_eq l (fun x hx=>h x (by simp [hx]))
  refine⟨u ||| v,Nat.or_lt_two_pow (n:=7) h1 k1,fun n hn=>?_⟩
  obtain⟨o1,o2⟩:=or_nat hn h1
  obtain⟨a1,a2⟩:=k2 (n ||| u) o2
  simp only[Re.usesRL,Re.usesAL,h2,h3 n hn,o1,a1,a2,Nat.or_assoc,and_self]
theorem usesN_nat (op mode:Int) (l:List Bool) (b:Bool) (hb:l.headD false=b):∃u:Nat,u < 128∧usesN op mode l=u∧usesRN op mode b=u:=by
 unfold usesN usesRN
 rw[hb]
 by_cases h6:op=6
 ·exact⟨1,by omega,by rw[if_pos h6]; rfl,by rw[if_pos h6]; rfl⟩
 rw[if_neg h6,if_neg h6]
 by_cases h10:op=10
 ·exact⟨2,by omega,by rw[if_pos h10]; rfl,by rw[if_pos h10]; rfl⟩
 rw[if_neg h10,if_neg h10]
 by_cases h7:op=7∨op=8
 ·exact⟨4,by omega,by rw[if_pos h7]; rfl,by rw[if_pos h7]; rfl⟩
 rw[if_neg h7,if_neg h7]
 by_cases h9:op=9
 ·exact⟨8,by omega,by rw[if_pos h9]; rfl,by rw[if_pos h9]; rfl⟩
 rw[if_neg h9,if_neg h9]
 by_cases h11:op=11
 ·exact⟨16,by omega,by rw[if_pos h11]; rfl,by rw[if_pos h11]; rfl⟩
 rw[if_neg h11,if_neg h11]
 by_cases h5:op=5
 ·exact⟨64,by omega,by rw[if_pos h5]; rfl,by rw[if_pos h5]; rfl⟩
 rw[if_neg h5,if_neg h5]
 by_cases h4:op=4
 ·rw[if_pos h4,if_pos h4]
  by_cases hm:mode=2
  ·cases b
   ·exact⟨8,by omega,by simp only[hm,if_true]; decide,by simp [hm]⟩
   ·exact⟨40,by omega,by simp only[hm,if_true]; decide,by simp only[hm,if_true]; decide⟩
  ·cases b
   ·exact⟨0,by omega,by simp [hm],by simp [hm]⟩
   ·exact⟨32,by omega,by simp only[hm,if_false,if_true]; decide,by simp only[hm,if_false,if_true]; decide⟩
 ·exact⟨0,by omega,by rw[if_neg h4]; rfl,by rw[if_neg h4]; rfl⟩
theorem uses_both (re:Re) (h:re.every valB=true):UsesP re:=by
 revert h
 refine Re.ind (Q:=fun re=>re.every valB=true→UsesP re) (fun re ih h=>?_) re
 obtain⟨h1,h2⟩:=(Re.every_iff re).1 h
 obtain⟨v,v1,v2⟩:=usesL_eq re.kids (fun k hk=>ih k hk (h2 k hk))
 have hb:(re.kids.map Re.anul).headD false=headNul re.kids:=by
  cases hk:re.kids with
  | nil=>rfl
  | cons k l=>exact anul_nul k (h2 k (by rw[hk]; simp))
 obtain⟨u,u1,u2,u3⟩:=usesN_nat re.op re.mode (re.kids.map Re.anul) (headNul re.kids) hb
 refine⟨u ||| v,Nat.or_lt_two_pow (n:=7) u1 v1,?_,fun n hn=>?_⟩
 ·rw[Re.usesR_eq,u3]; exact(v2 u u1).1
 ·obtain⟨o1,o2⟩:=or_nat hn u1
  rw[Re.usesA_eq,u2,o1,(v2 _ o2).2,Nat.or_assoc]
theorem uses_eq (re:Re) (h:re.every valB=true):re.usesA 0=re.usesR:=by
 obtain⟨u,h1,h2,h3⟩:=uses_both re h
 have:=h3 0 (by omega)
 rw[Nat.zero_or] at this
 rw[h2]; exact this
end Go.Proofs.Ytpppfpaalcbggaa
