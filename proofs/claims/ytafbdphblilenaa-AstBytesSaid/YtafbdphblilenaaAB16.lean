/- A part of the proof (F55). -/
import Derived.Test.YtafbdphblilenaaAB15
import Derived.Test.YtafbdphblilenaaAB7
import Derived.Test.YtafbdphblilenaaAB8
set_option linter.unusedSimpArgs false
set_option linter.unusedVariables false
set_option maxRecDepth 100000
set_option maxHeartbeats 80000000
set_option linter.unusedSimpArgs false
set_option linter.unusedVariables false
namespace Go.Proofs.Ytafbdphblilenaa
open Go.VL Go.Proofs.Try
mutual
def Re.tok:Re→List Int
 | .mk op set kids mn mx mode n neg=>ordL (.mk op set kids mn mx mode n neg)++Re.tokL kids
def Re.tokL:List Re→List Int
 | []=>[]
 | k::l=>k.tok++Re.tokL l
end
theorem re_ext {a b:Re} (h1:a.op=b.op) (h2:a.set=b.set) (h3:a.kids=b.kids) (h4:a.mn=b.mn) (h5:a.mx=b.mx) (h6:a.mode=b.mode) (h7:a.n=b.n) (h8:a.neg=b.neg):a=b:=by
 cases a; cases b
 simp only[Re.op,Re.set,Re.kids,Re.mn,Re.mx,Re.mode,Re.n,Re.neg] at *
 subst h1 h2 h3 h4 h5 h6 h7 h8; rfl
theorem uvF_inj:∀(f a b:Nat) (x y:List Nat),a < 2 * 128 ^ f→b < 2 * 128 ^ f→uvF f a++x=uvF f b++y→a=b∧x=y
 | 0,a,b,x,y,ha,hb,h=>by
  simp only[uvF,List.cons_append,List.nil_append,List.cons.injEq] at h
  exact⟨by omega,h.2⟩
 | f + 1,a,b,x,y,ha,hb,h=>by
  have hp:2 * 128 ^ (f + 1)=128 * (2 * 128 ^ f):=by rw[Nat.pow_succ]; omega
  simp only[uvF] at h
  split at h <;> split at h <;> simp only[List.cons_append,List.nil_append,List.cons.injEq] at h
  ·obtain⟨h1,h2⟩:=uvF_inj f (a / 128) (b / 128) x y (by omega) (by omega) h.2
   exact⟨by omega,h2⟩
  ·omega
  ·omega
  ·exact h
theorem uv_inj {a b:Nat} {x y:List Nat} (ha:a < 18446744073709551616) (hb:b < 18446744073709551616) (h:uv a++x=uv b++y):a=b∧x=y:=by
 have e:(18446744073709551616:Nat)≤2 * 128 ^ 10:=by decide
 exact uvF_inj 10 a b x y (by omega) (by omega) h
theorem zz_inj {a b:Int} (h:zz a=zz b):a=b:=by
 unfold zz at h
 split at h <;> split at h <;> omega
theorem ints_inj:∀(l l':List Int) (x y:List Nat),l.length=l'.length→(∀n∈l,I64 n)→(∀n∈l',I64 n)→(l.flatMap fun n=>uv (zz n))++x=(l'.flatMap fun n=>uv (zz n))++y→l=l'∧x=y
 | [],l',x,y,h,_,_,he=>by
  cases l' with
  | nil=>exact⟨rfl,he⟩
  | cons k l=>simp at h
 | k::l,[],x,y,h,_,_,he=>by simp at h
 | k::l,k'::l',x,y,h,h1,h2,he=>by
  simp only[List.flatMap_cons,List.append_assoc] at he
  obtain⟨e1,e2⟩:=uv_inj (zz_lt k (h1 k (by simp))) (zz_lt k' (h2 k' (by simp))) he
  obtain⟨e3,e4⟩:=ints_inj l l' x y (by simpa using h) (fun n hn=>h1 n (by simp [hn])) (fun n hn=>h2 n (by simp [hn])) e2
  rw[zz_inj e1,e3]
  exact⟨rfl,e4⟩
theorem intsB_inj {l l':List Int} {x y:List Nat} (hl:l.length < 18446744073709551616) (hl':l'.length < 18446744073709551616) (h1:∀n∈l,I64 n) (h2:∀n∈l',I64 n) (h:intsB l++x=intsB l'++y):l=l'∧x=y:=by
 unfold intsB at h
 simp only[List.append_assoc] at h
 obtain⟨e1,e2⟩:=uv_inj hl hl' h
 exact ints_inj l l' x y e1 h1 h2 e2
def headI (re:Re):List Int:=re.op::re.set.flatMap fun s=>[s.1,s.2]
def tailI (re:Re):List Int:=[re.mn,re.mx,re.mode,re.n,digI re.neg]
mutual
def Re.enc:Re→List Nat
 | .mk op set kids mn mx mode n neg=>intsB (headI (.mk op set kids mn mx mode n neg))++(intsB (tailI (.mk op set kids mn mx mode n neg))++(uv (zz kids.length)++Re.encL kids))
def Re.encL:List Re→List Nat
 | []=>[]
 | k::l=>k.enc++Re.encL l
end
theorem Re.enc_eq (re:Re):re.enc=intsB (headI re)++(intsB (tailI re)++(uv (zz re.kids.length)++Re.encL re.kids)):=by cases re; simp only[Re.enc,Re.kids]
theorem headI_len (re:Re):(headI re).length=1 + 2 * re.set.length:=by
 have hfl:∀l:List (Int × Int),(l.flatMap fun s=>[s.1,s.2]).length=2 * l.length:=by
  intro l
  induction l with
  | nil=>rfl
  | cons x l ih=>simp only[List.flatMap_cons,List.length_append,ih,List.length_cons,List.length_nil]; omega
 unfold headI; rw[List.length_cons,hfl]; omega
theorem headI_in {c:Nat} {re:Re} (h:smallB c re=true):∀n∈headI re,I64 n:=by
 obtain⟨⟨_,_,h3,_⟩,h4⟩:=smallB_iff.1 h
 intro n hn
 rcases List.mem_cons.1 hn with rfl | hn
 ·exact h3
 ·obtain⟨s,hs,hn⟩:=List.mem_flatMap.1 hn
  simp only[List.mem_cons,List.not_mem_nil,or_false] at hn
  rcases hn with rfl | rfl
  ·exact(h4 s hs).1
  ·exact(h4 s hs).2
theorem tailI_in {c:Nat} {re:Re} (h:smallB c re=true):∀n∈tailI re,I64 n:=by
 obtain⟨⟨_,_,_,h4,h5,h6,h7⟩,_⟩:=smallB_iff.1 h
 intro n hn
 simp only[tailI,List.mem_cons,List.not_mem_nil,or_false] at hn
 rcases hn with rfl | rfl | rfl | rfl | rfl
 ·exact h4
 ·exact h5
 ·exact h6
 ·exact h7
 ·unfold digI I64; split <;> omega
def EncInj (c:Nat) (a:Re):Prop:=∀(b:Re) (x y:List Nat),b.every (smallB c)=true→a.enc++x=b.enc++y→a=b∧x=y
theorem encL_inj {c:Nat}:∀(l l':List Re) (x y:List Nat),l.length=l'.length→(∀k∈l,EncInj c k)→(∀k∈l',k.every (smallB c)=true)→Re.encL l++x=Re.encL l'++y→l=l'∧x=y
 | [],l',x,y,h,_,_,he=>by
  cases l' with
  | nil=>exact⟨rfl,he⟩
  | cons k l=>simp at h
 | k::l,[],x,y,h,_,_,he=>by simp at h
 | k::l,k'::l',x,y,h,h1,h2,he=>by
  simp only[Re.encL,List.append_assoc] at he
  obtain⟨e1,e2⟩:=h1 k (by simp) k' _ _ (h2 k' (by simp)) he
  obtain⟨e3,e4⟩:=encL_inj l l' x y (by simpa using h) (fun z hz=>h1 z (by simp [hz])) (fun z hz=>h2 z (by simp [hz])) e2
  rw[e1,e3]; exact⟨rfl,e4⟩
theorem enc_inj {c:Nat} (hc:c≤1000000000) (a:Re) (ha:a.every (smallB c)=true):EncInj c a:=by
 revert ha
 refine Re.ind (Q:=fun a=>a.every (smallB c)=true→EncInj c a) (fun a ih ha b x y hb he=>?_) a
 obtain⟨a1,a2⟩:=(Re.every_iff a).1 ha
 obtain⟨b1,b2⟩:=(Re.every_iff b).1 hb
 obtain⟨⟨hsa,hka,_⟩,_⟩:=smallB_iff.1 a1
 obtain⟨⟨hsb,hkb,_⟩,_⟩:=smallB_iff.1 b1
 rw[Re.enc_eq,Re.enc_eq] at he
 simp only[List.append_assoc] at he
 obtain⟨e1,e2⟩:=intsB_inj (by rw[headI_len]; omega) (by rw[headI_len]; omega) (headI_in a1) (headI_in b1) he
 obtain⟨e3,e4⟩:=intsB_inj (by simp [tailI]) (by simp [tailI]) (tailI_in a1) (tailI_in b1) e2
 obtain⟨e5,e6⟩:=uv_inj (zz_lt _ (by unfold I64; omega)) (zz_lt _ (by unfold I64; omega)) e4
 have hkl:a.kids.length=b.kids.length:=by have:=zz_inj e5; omega
 obtain⟨e7,e8⟩:=encL_inj a.kids b.kids x y hkl (fun k hk=>ih k hk (a2 k hk)) b2 e6
 unfold headI at e1
 unfold tailI at e3
 simp only[List.cons.injEq,and_true] at e1 e3
 refine⟨re_ext e1.1 (flat_inj e1.2) e7 e3.1 e3.2.1 e3.2.2.1 e3.2.2.2.1 ?_,e8⟩
 have:=e3.2.2.2.2
 unfold digI at this
 cases ha:a.neg <;> cases hb:b.neg <;> simp [ha,hb] at this <;> rfl
end Go.Proofs.Ytafbdphblilenaa
