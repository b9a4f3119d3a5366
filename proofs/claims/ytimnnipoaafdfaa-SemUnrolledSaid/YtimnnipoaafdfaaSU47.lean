/- A part of the proof (F62 F63 F65 F66 F67 F69). -/
import Derived.Test.YtimnnipoaafdfaaSU2
import Derived.Test.YtimnnipoaafdfaaSU31
import Derived.Test.YtimnnipoaafdfaaSU21
set_option linter.unusedSimpArgs false
set_option linter.unusedVariables false
set_option maxRecDepth 100000
set_option maxHeartbeats 80000000
set_option linter.unusedSimpArgs false
set_option linter.unusedVariables false
namespace Go.Proofs.Ytimnnipoaafdfaa
open Go.VL Go.Proofs.Try
end Go.Proofs.Ytimnnipoaafdfaa
namespace Go.Proofs.Ytimnnipoaafdfaa
open Go.VL Go.Proofs.Try
def lrgNode (op mn mx n k:Int):Int :=
 if ¬op=4∨(decide (mn=0)&&(decide (mx=-1)||decide (mx=1)))=true then n
 else if mx=-1 then min ((mn + 1) * k + 2) 10000
 else
  let c:=mx - mn
  let n1:=mx * k + c
  let n2:=if 1 < c then n1 + c - 1 else n1
  min (if 1 < mn∨mn=1∧0 < c then n2 + 1 else n2) 10000
def lrgSum (l:List Int):Int:=l.foldl (fun a k=>min (a + k) 10000) 1
mutual
def Re.lrg:Re→Int
 | .mk op _ kids mn mx _ _ _=>lrgNode op mn mx (lrgSum (Re.lrgL kids)) ((Re.lrgL kids).getLastD 0)
def Re.lrgL:List Re→List Int
 | []=>[]
 | k::l=>k.lrg::Re.lrgL l
end
theorem Re.lrgL_eq:∀l:List Re,Re.lrgL l=l.map Re.lrg
 | []=>by simp [Re.lrgL]
 | k::l=>by simp [Re.lrgL,Re.lrgL_eq l]
theorem Re.lrg_eq (re:Re):re.lrg=lrgNode re.op re.mn re.mx (lrgSum (re.kids.map Re.lrg)) ((re.kids.map Re.lrg).getLastD 0):=by
 cases re; simp [Re.lrg,Re.lrgL_eq,Re.op,Re.mn,Re.mx,Re.kids]
theorem joinR_one (x:Re):joinR [x]=x:=rfl
theorem joinR_two (l:List Re) (h:l.length≠1):joinR l=.mk 2 [] l 0 0 0 0 false:=by
 unfold joinR
 split
 ·simp at h
 ·rfl
def tailR (re x:Re):List Re:=if re.mx=-1 then [rept x (-1) re.mode] else if re.mn < re.mx then [restR re.mode x (re.mx - re.mn - 1).toNat] else []
theorem unrollR_eq (re x:Re):unrollR re x=joinR (List.replicate re.mn.toNat x++tailR re x):=rfl
def UnB (re:Re):Prop:=0≤re.mn∧re.mn≤32∧(re.mx=-1∨(1≤re.mx∧re.mx≤32∧re.mn≤re.mx))∧¬(re.mn=0∧(re.mx=-1∨re.mx=1))∧re.mode≠2
theorem un_cases {re:Re} (hv:valB re=true) (ha:re.exa=true):(re.op≠4∨re.kept=true) ∨
  (re.op=4∧re.kept=false∧UnB re∧∃k,re.kids=[k]∧k.anul=false):=by
 have h1:=of_decide_eq_true hv
 by_cases o:re.op=4
 ·cases hk:re.kept with
  | true=>exact .inl (.inr rfl)
  | false =>
   obtain⟨k1,k2,k3,k4⟩:=h1.2.2.1 o
   obtain⟨k,hkk⟩:=List.length_eq_one_iff.1 k1
   have hk':(decide (re.mn=0)&&(decide (re.mx=-1)||decide (re.mx=1)))=false:=hk
   rw[Re.exa_eq,Bool.and_eq_true] at ha
   have hn:=ha.1
   unfold exaNode at hn
   rw[hk',hkk] at hn
   simp [o] at hn
   refine .inr ⟨o,rfl,⟨k2,k3,k4,?_,hn.1⟩,k,hkk,hn.2⟩
   rintro ⟨e1,e2⟩
   simp [e1] at hk'
   exact e2.elim hk'.1 hk'.2
 ·exact .inl (.inl o)
theorem join_size (l:List Re):(joinR l).size=if l.length=1 then Re.sizeL l else 1 + Re.sizeL l:=by
 split
 ·rename_i h
  obtain⟨x,rfl⟩:=List.length_eq_one_iff.1 h
  simp [joinR_one,Re.sizeL]
 ·rename_i h
  rw[joinR_two l h,Re.size_eq]; rfl
theorem sizeL_rep (x:Re):∀n:Nat,Re.sizeL (List.replicate n x)=n * x.size
 | 0=>by simp [Re.sizeL]
 | n + 1=>by rw[List.replicate_succ,Re.sizeL,sizeL_rep x n,Nat.add_mul]; omega
theorem rept_size (x:Re) (most mode:Int):(rept x most mode).size=1 + x.size:=by
 rw[Re.size_eq]; simp [rept,Re.kids,Re.sizeL]
theorem rest_size (mode:Int) (x:Re):∀j:Nat,(restR mode x j).size=(1 + x.size) + j * (2 + x.size)
 | 0=>by simp [restR,rept_size]
 | j + 1=>by
  rw[restR,rept_size,join_size,if_neg (by simp),Re.sizeL,Re.sizeL,Re.sizeL,rest_size mode x j,Nat.add_mul]; omega
def unS (mn mx X:Int):Int :=
 if mx=-1 then mn * X + (1 + X) + 1
 else if mn < mx then mn * X + ((1 + X) + (mx - mn - 1) * (2 + X)) + (if 0 < mn then 1 else 0)
 else mn * X + (if 1 < mn then 1 else 0)
theorem un_size {re x:Re} (h:UnB re):((joinR (List.replicate re.mn.toNat x++tailR re x)).size:Int)=unS re.mn re.mx x.size:=by
 obtain⟨h0,h1,h2,h3,_⟩:=h
 have hm:((re.mn.toNat:Nat):Int)=re.mn:=Int.toNat_of_nonneg h0
 rw[join_size,Re.sizeL_append,sizeL_rep,List.length_append,List.length_replicate]
 unfold unS tailR
 have hp:((re.mn.toNat * x.size:Nat):Int)=re.mn * x.size:=by rw[Int.natCast_mul,hm]
 by_cases m:re.mx=-1
 ·rw[if_pos m,if_pos m]
  simp only[List.length_cons,List.length_nil,Re.sizeL,rept_size]
  have:¬re.mn.toNat + (0 + 1)=1:=by omega
  rw[if_neg this]
  omega
 ·rw[if_neg m,if_neg m]
  by_cases m2:re.mn < re.mx
  ·rw[if_pos m2,if_pos m2]
   simp only[List.length_cons,List.length_nil,Re.sizeL,rest_size]
   have hq:(((re.mx - re.mn - 1).toNat * (2 + x.size):Nat):Int)=(re.mx - re.mn - 1) * (2 + x.size):=by
    rw[Int.natCast_mul,Int.toNat_of_nonneg (by omega)]; rfl
   generalize (re.mx - re.mn - 1).toNat * (2 + x.size)=B at *
   rw[← hq,← hp]
   generalize re.mn.toNat * x.size=A at *
   by_cases p:0 < re.mn
   ·rw[if_pos p,if_neg (by omega)]; omega
   ·rw[if_neg p,if_pos (by omega)]; omega
  ·rw[if_neg m2,if_neg m2]
   simp only[List.length_nil,Re.sizeL]
   rw[← hp]
   generalize re.mn.toNat * x.size=A at *
   by_cases p:1 < re.mn
   ·rw[if_pos p,if_neg (by omega)]; omega
   ·rw[if_neg p,if_pos (by omega)]; omega
theorem esz_fold:∀(l:List Re) (A:Nat),(∀k∈l,k.esz=min (k.exp.size:Int) 4097)→(l.map Re.esz).foldl (fun a k=>min (IntKind.i64.wrap (a + k)) 4097) (min (A:Int) 4097)=min ((A + Re.sizeL (l.map Re.exp):Nat):Int) 4097
 | [],A,_=>by simp [Re.sizeL]
 | k::l,A,h=>by
  rw[List.map_cons,List.foldl_cons,h k (by simp),w64 _ (by omega)]
  have:min (min (A:Int) 4097 + min (k.exp.size:Int) 4097) 4097=min ((A + k.exp.size:Nat):Int) 4097:=by omega
  rw[this,esz_fold l _ (fun x hx=>h x (by simp [hx])),List.map_cons,Re.sizeL,Nat.add_assoc]
theorem lrg_fold:∀(l:List Re) (A:Nat),(∀k∈l,k.lrg=min (k.exp.size:Int) 10000)→(l.map Re.lrg).foldl (fun a k=>min (a + k) 10000) (min (A:Int) 10000)=min ((A + Re.sizeL (l.map Re.exp):Nat):Int) 10000
 | [],A,_=>by simp [Re.sizeL]
 | k::l,A,h=>by
  rw[List.map_cons,List.foldl_cons,h k (by simp)]
  have:min (min (A:Int) 10000 + min (k.exp.size:Int) 10000) 10000=min ((A + k.exp.size:Nat):Int) 10000:=by omega
  rw[this,lrg_fold l _ (fun x hx=>h x (by simp [hx])),List.map_cons,Re.sizeL,Nat.add_assoc]
theorem esz_un {mn mx:Int} {X:Nat} (h0:0≤mn) (h1:mn≤32) (h2:mx=-1∨(1≤mx∧mx≤32∧mn≤mx)) (h3:¬(mn=0∧(mx=-1∨mx=1))) (hX:0 < X) :
  eszNode 4 mn mx (min (X:Int) 4097)=min (unS mn mx X) 4097:=by
 unfold eszNode
 rw[if_neg (by
  rintro (h | h)
  ·exact h rfl
  ·simp only[Bool.and_eq_true,Bool.or_eq_true,decide_eq_true_eq] at h
   exact h3 h)]
 have hl:min (max mn 0) 4097=mn:=by omega
 simp only[hl]
 have key:∀kid:Int,1≤kid→kid≤4097→(kid=X∨(kid=4097∧4097 < (X:Int))) →
   (let least:=mn
    let sum:=IntKind.i64.wrap (least * kid)
    let more:=min (IntKind.i64.wrap (mx - mn)) 4097
    let ps:Int × Int :=
     if mx=-1 then (IntKind.i64.wrap (least + 1),IntKind.i64.wrap (IntKind.i64.wrap (sum + 1) + kid))
     else if 0 < more then (IntKind.i64.wrap (least + 1),IntKind.i64.wrap (IntKind.i64.wrap (IntKind.i64.wrap (sum + 1) + kid) + IntKind.i64.wrap (IntKind.i64.wrap (more - 1) * IntKind.i64.wrap (2 + kid))))
     else (least,sum)
    min (if 1 < ps.1 then IntKind.i64.wrap (ps.2 + 1) else ps.2) 4097)=min (unS mn mx X) 4097:=by
  intro kid k0 k1 hk
  have p1:0≤mn * kid∧mn * kid≤131104∧(1≤mn→kid≤mn * kid):=⟨Int.mul_nonneg h0 (by omega),by have:=Int.mul_le_mul h1 k1 (by omega) (by omega); omega,fun h=>by have:=Int.mul_le_mul_of_nonneg_right h (show 0≤kid by omega); omega⟩
  have q1:0≤mn * (X:Int)∧(1≤mn→(X:Int)≤mn * X):=⟨Int.mul_nonneg h0 (by omega),fun h=>by have:=Int.mul_le_mul_of_nonneg_right h (show 0≤(X:Int) by omega); omega⟩
  unfold unS
  by_cases m:mx=-1
  ·simp only[if_pos m]
   have e1:mn * kid=mn * X∨(4097 < (X:Int)∧kid=4097):=by rcases hk with rfl | h; exact .inl rfl; exact .inr h.symm
   generalize mn * kid=P at *
   generalize mn * (X:Int)=Q at *
   simp (disch:=omega) only[w64,if_pos,if_neg]
   omega
  ·have hw:min (IntKind.i64.wrap (mx - mn)) 4097=mx - mn:=by rw[w64 _ (by omega)]; omega
   simp only[hw,if_neg m]
   by_cases m2:mn < mx
   ·have p2:0≤(mx - mn - 1) * (2 + kid)∧(mx - mn - 1) * (2 + kid)≤131168:=⟨Int.mul_nonneg (by omega) (by omega),by have:=Int.mul_le_mul (show mx - mn - 1≤32 by omega) (show 2 + kid≤4099 by omega) (by omega) (by omega); omega⟩
    have q2:0≤(mx - mn - 1) * (2 + (X:Int)):=Int.mul_nonneg (by omega) (by omega)
    have e1:(mn * kid=mn * X∧(mx - mn - 1) * (2 + kid)=(mx - mn - 1) * (2 + (X:Int))∧kid=X)∨(4097 < (X:Int)∧kid=4097):=by rcases hk with rfl | h; exact .inl ⟨rfl,rfl,rfl⟩; exact .inr h.symm
    have w1:IntKind.i64.wrap (mx - mn - 1)=mx - mn - 1:=w64 _ (by omega)
    have w2:IntKind.i64.wrap (2 + kid)=2 + kid:=w64 _ (by omega)
    simp only[w1,w2,if_pos m2,if_pos (show 0 < mx - mn by omega)]
    generalize (mx - mn - 1) * (2 + kid)=P2 at *
    generalize (mx - mn - 1) * (2 + (X:Int))=Q2 at *
    generalize mn * kid=P at *
    generalize mn * (X:Int)=Q at *
    by_cases m3:0 < mn
    ·simp (disch:=omega) only[w64,if_pos,if_neg]
     omega
    ·simp (disch:=omega) only[w64,if_pos,if_neg]
     omega
   ·have e1:(mn * kid=mn * X∧kid=X)∨(4097 < (X:Int)∧kid=4097):=by rcases hk with rfl | h; exact .inl ⟨rfl,rfl⟩; exact .inr h.symm
    simp only[if_neg m2,if_neg (show ¬0 < mx - mn by omega)]
    generalize mn * kid=P at *
    generalize mn * (X:Int)=Q at *
    by_cases m3:1 < mn
    ·simp (disch:=omega) only[w64,if_pos,if_neg]
     omega
    ·simp (disch:=omega) only[w64,if_pos,if_neg]
     omega
 exact key (min (X:Int) 4097) (by omega) (by omega) (by omega)
theorem lrg_un {mn mx:Int} {A:Int} {X:Nat} (h0:0≤mn) (h1:mn≤32) (h2:mx=-1∨(1≤mx∧mx≤32∧mn≤mx)) (h3:¬(mn=0∧(mx=-1∨mx=1))) (hX:0 < X) :
  lrgNode 4 mn mx A (min (X:Int) 10000)=min (unS mn mx X) 10000:=by
 unfold lrgNode
 rw[if_neg (by
  rintro (h | h)
  ·exact h rfl
  ·simp only[Bool.and_eq_true,Bool.or_eq_true,decide_eq_true_eq] at h
   exact h3 h)]
 have key:∀kid:Int,1≤kid→(kid=X∨(kid=10000∧10000 < (X:Int))) →
   (if mx=-1 then min ((mn + 1) * kid + 2) 10000
    else
     let c:=mx - mn
     let n1:=mx * kid + c
     let n2:=if 1 < c then n1 + c - 1 else n1
     min (if 1 < mn∨mn=1∧0 < c then n2 + 1 else n2) 10000)=min (unS mn mx X) 10000:=by
  intro kid k0 hk
  have q1:0≤mn * (X:Int)∧(1≤mn→(X:Int)≤mn * X):=⟨Int.mul_nonneg h0 (by omega),fun h=>by have:=Int.mul_le_mul_of_nonneg_right h (show 0≤(X:Int) by omega); omega⟩
  unfold unS
  by_cases m:mx=-1
  ·simp only[if_pos m]
   have e0:(mn + 1) * kid=mn * kid + kid:=by rw[Int.add_mul,Int.one_mul]
   have p1:0≤mn * kid:=Int.mul_nonneg h0 (by omega)
   have e1:(mn * kid=mn * X∧kid=X)∨(10000 < (X:Int)∧kid=10000):=by rcases hk with rfl | h; exact .inl ⟨rfl,rfl⟩; exact .inr h.symm
   rw[e0]
   omega
  ·have p1:0≤mx * kid∧kid≤mx * kid:=⟨Int.mul_nonneg (by omega) (by omega),by have:=Int.mul_le_mul_of_nonneg_right (show 1≤mx by omega) (show 0≤kid by omega); omega⟩
   have e1:(mx * kid=mx * X∧kid=X)∨(10000 < (X:Int)∧kid=10000):=by rcases hk with rfl | h; exact .inl ⟨rfl,rfl⟩; exact .inr h.symm
   simp only[if_neg m]
   by_cases m2:mn < mx
   ·have q2:0≤(mx - mn - 1) * (2 + (X:Int)):=Int.mul_nonneg (by omega) (by omega)
    have e2:(mx - mn - 1) * (2 + (X:Int))=2 * (mx - mn - 1) + (mx * X - mn * X - X):=by
     have e4:(mx - mn - 1) * (X:Int)=mx * X - mn * X - X:=by rw[Int.sub_mul,Int.sub_mul,Int.one_mul]
     rw[Int.mul_add,e4]; omega
    simp only[if_pos m2]
    generalize (mx - mn - 1) * (2 + (X:Int))=Q2 at *
    generalize mx * kid=P at *
    generalize mx * (X:Int)=R at *
    generalize mn * (X:Int)=Q at *
    by_cases m3:0 < mn
    ·by_cases m4:1 < mx - mn
     ·simp (disch:=omega) only[if_pos,if_neg]; omega
     ·simp (disch:=omega) only[if_pos,if_neg]; omega
    ·by_cases m4:1 < mx - mn
     ·simp (disch:=omega) only[if_pos,if_neg]; omega
     ·simp (disch:=omega) only[if_pos,if_neg]; omega
   ·have e3:mx=mn:=by omega
    subst e3
    simp only[if_neg m2]
    generalize mx * kid=P at *
    generalize mx * (X:Int)=R at *
    by_cases m3:1 < mx
    ·simp (disch:=omega) only[if_pos,if_neg]; omega
    ·simp (disch:=omega) only[if_pos,if_neg]; omega
 exact key (min (X:Int) 10000) (by omega) (by omega)
theorem exp_sizes (re:Re) (hv:re.every valB=true) (ha:re.exa=true):re.esz=min (re.exp.size:Int) 4097∧re.lrg=min (re.exp.size:Int) 10000:=by
 revert hv ha
 refine Re.ind (Q:=fun re=>re.every valB=true→re.exa=true→re.esz=min (re.exp.size:Int) 4097∧re.lrg=min (re.exp.size:Int) 10000) (fun re ih hv ha=>?_) re
 obtain⟨hv1,hv2⟩:=(Re.every_iff re).1 hv
 have ha2:=(exa_spec ha).2
 have hk:∀k∈re.kids,k.esz=min (k.exp.size:Int) 4097∧k.lrg=min (k.exp.size:Int) 10000:=fun k hk=>ih k hk (hv2 k hk) (ha2 k hk)
 have e1:=esz_fold re.kids 0 (fun k h=>(hk k h).1)
 have e2:=lrg_fold re.kids 1 (fun k h=>(hk k h).2)
 rw[show min ((0:Nat):Int) 4097=0 from rfl] at e1
 rw[show min ((1:Nat):Int) 10000=1 from rfl] at e2
 have e1':kidSum (re.kids.map Re.esz)=min ((0 + Re.sizeL (re.kids.map Re.exp):Nat):Int) 4097:=e1
 have e2':lrgSum (re.kids.map Re.lrg)=min ((1 + Re.sizeL (re.kids.map Re.exp):Nat):Int) 10000:=e2
 rw[Re.esz_eq,Re.lrg_eq]
 rcases un_cases hv1 ha with h | ⟨o,hkp,hb,k,hkk,hn⟩
 ·have hc:¬re.op=4∨(decide (re.mn=0)&&(decide (re.mx=-1)||decide (re.mx=1)))=true:=h
  rw[eszNode,if_pos hc,lrgNode,if_pos hc,Re.exp_keep h,e1',e2',Re.size_eq re.out,show re.out.kids=re.kids.map Re.exp from rfl]
  refine⟨?_,by omega⟩
  rw[w64 _ (by omega)]
  omega
 ·rw[hkk] at e1' e2' ⊢
  have hkz:=hk k (by rw[hkk]; simp)
  have hx:=k.exp.size_pos
  rw[Re.exp_un o hkp hkk,unrollR_eq,un_size hb,o,e1']
  obtain⟨b0,b1,b2,b3,_⟩:=hb
  have h1:=esz_un (X:=k.exp.size) b0 b1 b2 b3 hx
  have h2:=lrg_un (A:=lrgSum ([k].map Re.lrg)) (X:=k.exp.size) b0 b1 b2 b3 hx
  refine⟨?_,?_⟩
  ·rw[← h1]; simp [Re.sizeL]
  ·rw[← h2]; simp [hkz.2]
end Go.Proofs.Ytimnnipoaafdfaa
