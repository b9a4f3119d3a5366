/- A part of the proof (K4 K5 K6 K7 K8 K9). -/
import Derived.Test.YtdofoappodmcoaaKP10
import Derived.Test.YtdofoappodmcoaaKP21
import Derived.Test.YtdofoappodmcoaaKP9
set_option linter.unusedSimpArgs false
set_option linter.unusedVariables false
set_option maxRecDepth 100000
set_option maxHeartbeats 80000000
namespace Go.Proofs.Ytdofoappodmcoaa
open Go.VL Go.Proofs.Try
def kshD (re:Re):Bool:=kshC re&&decide ((re.op=0∨re.op=1∨re.op=2∨re.op=3∨re.op=4∨re.op=5∨re.op=11)∧(re.op=4∨re.op=5→re.kids.length=1)∧(re.op=0→re.kids=[]))
theorem kshD_iff {re:Re}:kshD re=true ↔ kshC re=true∧(re.op=0∨re.op=1∨re.op=2∨re.op=3∨re.op=4∨re.op=5∨re.op=11)∧(re.op=4∨re.op=5→re.kids.length=1)∧(re.op=0→re.kids=[]):=by
 unfold kshD
 rw[Bool.and_eq_true,decide_eq_true_eq]
theorem kshC_iff {re:Re}:kshC re=true ↔ kshB re=true∧(re.op=4→re.mx=-1∨1≤re.mx∧re.mn≤re.mx):=by
 unfold kshC
 rw[Bool.and_eq_true,decide_eq_true_eq]
theorem every_DC {re:Re} (h:re.every kshD=true):re.every kshC=true:=every_mono' (fun _ h=>(kshD_iff.1 h).1) re h
theorem every_CB {re:Re} (h:re.every kshC=true):re.every kshB=true:=every_mono' (fun _ h=>(kshC_iff.1 h).1) re h
theorem cszL_split {l:List Re} (h:∀k∈l,0≤k.csz) {k:Re} (hk:k∈l):k.csz≤Re.cszL l:=by
 induction l with
 | nil=>cases hk
 | cons x l ih =>
  have h1:=h x (by simp)
  have h2:0≤Re.cszL l:=by
   have:∀l':List Re,(∀k∈l',0≤k.csz)→0≤Re.cszL l':=by
    intro l'
    induction l' with
    | nil=>intro _; simp [Re.cszL]
    | cons y l' ih'=>intro h'; have:=h' y (by simp); have:=ih' (fun z hz=>h' z (by simp [hz])); simp only[Re.cszL]; omega
   exact this l (fun y hy=>h y (by simp [hy]))
  simp only[Re.cszL]
  rcases List.mem_cons.1 hk with rfl | hk
  ·omega
  ·have:=ih (fun y hy=>h y (by simp [hy])) hk; omega
theorem repPre_len {c:Int→List Ins} {n:Int} (h:∀f,((c f).length:Int)=n):∀(k:Nat) (f:Int),((repPre c k f).length:Int)=k * n
 | 0,f=>by simp [repPre]
 | k + 1,f=>by
  rw[repPre,List.length_append]
  have h1:=repPre_len h k f
  have h2:=h (f + (repPre c k f).length)
  push_cast
  rw[Int.add_mul]; omega
theorem repPost_len {c:Int→List Ins} {n:Int} (h:∀f,((c f).length:Int)=n) (mode fin:Int):∀(k:Nat) (f:Int),((repPost c mode fin k f).length:Int)=k * (n + 1)
 | 0,f=>by simp [repPost]
 | k + 1,f=>by
  rw[repPost,List.length_append,List.length_cons]
  have h1:=repPost_len h mode fin k f
  have h2:=h (f + (repPost c mode fin k f).length + 1)
  push_cast
  rw[Int.add_mul]; omega
theorem csz_un {re:Re} (h:re.csz≤9000):re.csz=(if re.op=1∨re.op=11 then 1 else if re.op=3 then Re.cszL re.kids + 2 * (re.kids.length:Int) - 2 else if re.op=5 then Re.cszL re.kids + 2 else if re.op=4 then (if re.mx=-1 then (re.mn + 1) * Re.cszL re.kids + 2 else re.mx * Re.cszL re.kids + re.mx - re.mn) else Re.cszL re.kids):=by
 rw[Re.csz_eq] at h ⊢
 unfold cszN at h ⊢
 omega
theorem csz_kid {re:Re} (hs:re.every kshD=true) (h:re.csz≤9000) (ho:re.op≠1∧re.op≠11):Re.cszL re.kids≤9000∧∀k∈re.kids,k.csz≤9000:=by
 obtain⟨hs1,hs2⟩:=(Re.every_iff re).1 hs
 obtain⟨hc,hop,h1k,h0⟩:=kshD_iff.1 hs1
 obtain⟨hb,hmx⟩:=kshC_iff.1 hc
 obtain⟨q1,q2,q3,q4,q5,q6,q7,q8,q9,q10⟩:=kshB_iff.1 hb
 have hkr:∀k∈re.kids,0≤k.csz:=fun k hk=>(csz_range k (every_DC (hs2 k hk))).1
 have hz:=(cszL_range (l:=re.kids) (fun k hk=>csz_range k (every_DC (hs2 k hk)))).1
 have hu:=csz_un h
 have hle:Re.cszL re.kids≤9000:=by
  generalize Re.cszL re.kids=z at *
  rw[if_neg (by omega)] at hu
  split at hu
  ·rename_i o3; have:=q2 o3; omega
  ·split at hu
   ·omega
   ·split at hu
    ·split at hu
     ·have:1 * z≤(re.mn + 1) * z:=Int.mul_le_mul_of_nonneg_right (by omega) (by omega)
      omega
     ·rename_i o4 om
      have hm:=(hmx o4).resolve_left om
      have:1 * z≤re.mx * z:=Int.mul_le_mul_of_nonneg_right (by omega) (by omega)
      omega
    ·omega
 exact⟨hle,fun k hk=>Int.le_trans (cszL_split hkr hk) hle⟩
theorem codeCat_len {l:List Re} (h:∀k∈l,∀f,((k.code f).length:Int)=k.csz):∀f,((Re.codeCat l f).length:Int)=Re.cszL l:=by
 induction l with
 | nil=>intro f; simp [Re.codeCat,Re.cszL]
 | cons k l ih =>
  intro f
  have h1:=h k (by simp) f
  have h2:=ih (fun x hx=>h x (by simp [hx])) (f + (k.code f).length)
  simp only[Re.codeCat,Re.cszL,List.length_append]
  omega
theorem codeAlt_len {l:List Re} (h:∀k∈l,∀f,((k.code f).length:Int)=k.csz):l≠[]→∀f,((Re.codeAlt l f).length:Int)=Re.cszL l + 2 * l.length - 2:=by
 induction l with
 | nil=>intro hn; exact absurd rfl hn
 | cons k l ih =>
  intro _ f
  cases l with
  | nil =>
   simp only[Re.codeAlt,Re.cszL,List.length_cons,List.length_nil]
   have:=h k (by simp) f
   omega
  | cons k2 l2 =>
   have h1:=h k (by simp) (f + 1)
   have h2:=ih (fun x hx=>h x (by simp only[List.mem_cons] at hx ⊢; exact .inr hx)) (by simp) (f + (k.code (f + 1)).length + 2)
   rw[Re.codeAlt]
   generalize Re.codeAlt (k2::l2) (f + (k.code (f + 1)).length + 2)=z at *
   simp only[Re.cszL,List.length_cons,List.length_append] at h2 ⊢
   push_cast at h2 ⊢
   omega
theorem repC_len {c:Int→List Ins} {n:Int} (h:∀f,((c f).length:Int)=n) {mn mx:Int} (mode sz f:Int) (h0:0≤mn) (h1:mx=-1∨1≤mx∧mn≤mx) :
  ((repC c mn mx mode sz f).length:Int)=if mx=-1 then (mn + 1) * n + 2 else mx * n + mx - mn:=by
 have hp:=repPre_len h mn.toNat f
 have e0:((mn.toNat:Nat):Int)=mn:=by omega
 rw[e0] at hp
 unfold repC
 by_cases hm:mx=-1
 ·rw[if_pos hm,if_pos hm]
  have h2:=h (f + (repPre c mn.toNat f).length + 1)
  simp only[List.length_append,List.length_cons,List.length_nil]
  push_cast
  rw[Int.add_mul]
  omega
 ·rw[if_neg hm,if_neg hm]
  have h3:=repPost_len h mode (f + sz) (mx - mn).toNat (f + (repPre c mn.toNat f).length)
  have e1:(((mx - mn).toNat:Nat):Int)=mx - mn:=by omega
  rw[e1] at h3
  simp only[List.length_append]
  push_cast
  generalize repPost c mode (f + sz) (mx - mn).toNat (f + (repPre c mn.toNat f).length)=z at *
  rw[hp,h3,Int.mul_add,Int.sub_mul]
  omega
theorem code0_one {k:Re} {l:List Re} (hl:l=[k]):(fun i=>Re.code0 l i)=k.code:=by subst hl; funext i; simp [Re.code0]
theorem code_len (re:Re):re.every kshD=true→re.csz≤9000→∀f,((re.code f).length:Int)=re.csz:=by
 induction re using Re.ind with
 | h re ih =>
 intro hs hz f
 obtain⟨hs1,hs2⟩:=(Re.every_iff re).1 hs
 obtain⟨hc,hop,h1k,h0⟩:=kshD_iff.1 hs1
 obtain⟨hb,hmx⟩:=kshC_iff.1 hc
 obtain⟨q1,q2,q3,q4,q5,q6,q7,q8,q9,q10⟩:=kshB_iff.1 hb
 have hu:=csz_un hz
 refine Eq.trans ?_ hu.symm
 rw[Re.code_eq]
 by_cases o1:re.op=1
 ·rw[if_pos o1,if_pos (.inl o1)]; rfl
 by_cases o11:re.op=11
 ·rw[if_neg o1,if_pos o11,if_pos (.inr o11)]; rfl
 have hk:=csz_kid hs hz ⟨o1,o11⟩
 have hkl:∀k∈re.kids,∀f,((k.code f).length:Int)=k.csz:=fun k hm f=>ih k hm (hs2 k hm) (hk.2 k hm) f
 have o3':re.op=2→¬re.op=3:=by omega
 have o5':re.op=2→¬re.op=5:=by omega
 have o4':re.op=2→¬re.op=4:=by omega
 have o00:¬re.op=2→¬re.op=3→¬re.op=5→¬re.op=4→re.op=0:=by omega
 clear hu
 rw[if_neg o1,if_neg o11,if_neg (show ¬(re.op=1∨re.op=11) from fun h=>h.elim o1 o11)]
 by_cases o2:re.op=2
 ·rw[if_pos o2,if_neg (o3' o2),if_neg (o5' o2),if_neg (o4' o2)]
  exact codeCat_len hkl f
 rw[if_neg o2]
 by_cases o3:re.op=3
 ·rw[if_pos o3,if_pos o3]
  exact codeAlt_len hkl (by have:=q2 o3; intro h; rw[h] at this; simp at this) f
 rw[if_neg o3,if_neg o3]
 by_cases o5:re.op=5
 ·rw[if_pos o5,if_pos o5]
  obtain⟨k,hkk⟩:=List.length_eq_one_iff.1 (h1k (.inr o5))
  have:=hkl k (by rw[hkk]; simp) (f + 1)
  rw[hkk]
  simp only[Re.code0,Re.cszL,List.length_cons,List.length_append,List.length_nil]
  push_cast; omega
 rw[if_neg o5,if_neg o5]
 by_cases o4:re.op=4
 ·rw[if_pos o4,if_pos o4]
  obtain⟨k,hkk⟩:=List.length_eq_one_iff.1 (h1k (.inl o4))
  rw[code0_one hkk,repC_len (n:=Re.cszL re.kids) (fun f=>by rw[hkk]; have:=hkl k (by rw[hkk]; simp) f; simp only[Re.cszL]; omega) _ _ _ q5 (hmx o4)]
 ·rw[if_neg o4,if_neg o4,h0 (o00 o2 o3 o5 o4)]
  rfl
def arrI (g:Nat) (l:List Ins):VL.Obj:=⟨g,true,5,(l.map Ins.cells).map fun c=>c.map V.d⟩
theorem ins_take (l:List Ins) (n:Nat) (h:l.length≤n):List.take n ((l.map Ins.cells).map fun c=>c.map V.d)=(l.map Ins.cells).map fun c=>c.map V.d:=List.take_of_length_le (by simpa using h)
def isLeaf (re:Re):Prop:=re.op=0∨re.op=1∨re.op=11
theorem csz_le {re:Re} (hs:re.every kshD=true) (h:re.csz≤8500) (ho:¬isLeaf re):Re.cszL re.kids≤8500:=by
 obtain⟨hs1,hs2⟩:=(Re.every_iff re).1 hs
 obtain⟨hc,hop,h1k,h0⟩:=kshD_iff.1 hs1
 obtain⟨hb,hmx⟩:=kshC_iff.1 hc
 obtain⟨q1,q2,q3,q4,q5,q6,q7,q8,q9,q10⟩:=kshB_iff.1 hb
 have hz:=(cszL_range (l:=re.kids) (fun k hk=>csz_range k (every_DC (hs2 k hk)))).1
 have hu:=csz_un (re:=re) (by omega)
 unfold isLeaf at ho
 generalize Re.cszL re.kids=z at *
 rw[if_neg (by omega)] at hu
 by_cases o3:re.op=3
 ·rw[if_pos o3] at hu; have:=q2 o3; omega
 rw[if_neg o3] at hu
 by_cases o5:re.op=5
 ·rw[if_pos o5] at hu; omega
 rw[if_neg o5] at hu
 by_cases o4:re.op=4
 ·rw[if_pos o4] at hu
  by_cases om:re.mx=-1
  ·rw[if_pos om] at hu
   have:1 * z≤(re.mn + 1) * z:=Int.mul_le_mul_of_nonneg_right (by omega) (by omega)
   omega
  ·rw[if_neg om] at hu
   have hm:=(hmx o4).resolve_left om
   have:1 * z≤re.mx * z:=Int.mul_le_mul_of_nonneg_right (by omega) (by omega)
   omega
 ·rw[if_neg o4] at hu; omega
theorem csz_kid' {re:Re} (hs:re.every kshD=true) (h:re.csz≤8500) (ho:¬isLeaf re):∀k∈re.kids,k.csz≤8500:=fun k hk =>
 Int.le_trans (cszL_split (fun x hx=>(csz_range x (every_DC (((Re.every_iff re).1 hs).2 x hx))).1) hk) (csz_le hs h ho)
theorem ksh_node {re:Re} {caps top:Int} (hc:caps≤9) (hn:nodeOk re caps top=true) (hk:re.kids.length≤1000):kshC re=true:=by
 obtain⟨⟨a1,a2,a3,a4⟩,b,c,d,e⟩:=nodeOk_iff.1 hn
 have hset:re.set.length≤64:=by
  split at b
  ·unfold spansR at b; rw[Bool.and_eq_true] at b; exact of_decide_eq_true b.1
  ·omega
 have hnn:0≤re.n∧re.n≤9:=by
  split at d
  ·omega
  ·split at d <;> omega
 have hkk:(re.op=4∨re.op=5→1≤re.kids.length)∧(re.op=3→2≤re.kids.length):=by
  unfold kidsR at a3
  refine⟨fun h=>?_,fun h=>?_⟩
  ·rw[if_neg (by omega),if_pos (by omega)] at a3
   simp only at a3; omega
  ·rw[if_pos (by omega)] at a3
   simp only at a3; omega
 have hm:0≤re.mn∧re.mn≤32∧-1≤re.mx∧re.mx≤32∧(re.mx=-1∨re.mx=0∨re.mn≤re.mx)∧(re.op=4→re.mx=-1∨1≤re.mx∧re.mn≤re.mx):=by
  split at c
  ·omega
  ·omega
 exact kshC_iff.2 ⟨kshB_iff.2 ⟨hkk.1,hkk.2,hk,by omega,hm.1,hm.2.1,hm.2.2.1,hm.2.2.2.1,hm.2.2.2.2.1,by unfold I64; omega,by omega,by omega⟩,hm.2.2.2.2.2⟩
theorem kshC_of {caps top:Int} (hc:caps≤9) (re:Re) (hw:re.whole caps top=true) (hz:re.size≤1000):re.every kshC=true:=by
 revert hw hz
 refine Re.ind (Q:=fun re=>re.whole caps top=true→re.size≤1000→re.every kshC=true) (fun re ih hw hz=>?_) re
 obtain⟨h1,h2⟩:=(Re.every_iff re).1 hw
 have hl:=Re.len_le re.kids
 have hs:=Re.size_eq re
 exact(Re.every_iff re).2 ⟨ksh_node hc h1 (by omega),fun k hk=>ih k hk (h2 k hk) (by have:=Re.size_kid hk; omega)⟩
theorem kshD_of {caps top:Int} (hc:caps≤9) (re:Re) (hw:re.whole caps top=true) (hz:re.size≤1000):∀a,re.comp a=true→re.every kshD=true:=by
 revert hw hz
 refine Re.ind (Q:=fun re=>re.whole caps top=true→re.size≤1000→∀a,re.comp a=true→re.every kshD=true) (fun re ih hw hz a ha=>?_) re
 obtain⟨h1,h2⟩:=(Re.every_iff re).1 hw
 have hl:=Re.len_le re.kids
 have hs:=Re.size_eq re
 have hsh:=ksh_node hc h1 (by omega)
 obtain⟨⟨a1,a2,a3,a4⟩,_⟩:=nodeOk_iff.1 h1
 rw[Re.comp_eq] at ha
 split at ha
 ·cases ha
 ·split at ha
  ·cases ha
  ·split at ha
   ·cases ha
   ·rename_i c1 c2 c3
    rw[List.all_eq_true] at ha
    refine(Re.every_iff re).2 ⟨kshD_iff.2 ⟨hsh,by omega,fun h=>?_,fun h=>?_⟩,fun k hk=>ih k hk (h2 k hk) (by have:=Re.size_kid hk; omega) _ (ha k hk)⟩
    ·unfold kidsR at a3 a4
     rw[if_neg (by omega),if_pos (by omega)] at a3 a4
     simp only at a3 a4; omega
    ·unfold kidsR at a4
     rw[if_neg (by omega),if_neg (by omega),if_neg (by omega)] at a4
     simp only at a4
     exact List.eq_nil_of_length_eq_zero (by omega)
def doneI:Ins:=⟨0,0,0,0,[]⟩
def compR (p:Pat):Prg:=⟨p.re.code 0++[doneI],p.caps,p.runes⟩
end Go.Proofs.Ytdofoappodmcoaa
