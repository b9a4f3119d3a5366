/- A part of the proof (F104). -/
import Derived.Test.YtafbdphblilenaaAB43
import Derived.Test.YtafbdphblilenaaAB41
set_option linter.unusedSimpArgs false
set_option linter.unusedVariables false
set_option maxRecDepth 100000
set_option maxHeartbeats 80000000
set_option linter.unusedSimpArgs false
set_option linter.unusedVariables false
namespace Go.Proofs.Ytafbdphblilenaa
open Go.VL Go.Proofs.Try
theorem uvF_byte:∀(f m:Nat),∀b∈uvF f m,b < 256
 | 0,m,b,h=>by
  simp only[uvF,List.mem_singleton] at h
  omega
 | f + 1,m,b,h=>by
  simp only[uvF] at h
  split at h
  ·rcases List.mem_cons.1 h with rfl | h
   ·omega
   ·exact uvF_byte f _ b h
  ·rw[List.mem_singleton] at h
   omega
theorem uv_byte (m:Nat):∀b∈uv m,b < 256:=uvF_byte 10 m
theorem intsB_byte (l:List Int):∀b∈intsB l,b < 256:=by
 intro b h
 unfold intsB at h
 rcases List.mem_append.1 h with h | h
 ·exact uv_byte _ b h
 ·obtain⟨x,_,hx⟩:=List.mem_flatMap.1 h
  exact uv_byte _ b hx
theorem enc_byte (re:Re):∀b∈re.enc,b < 256:=by
 refine Re.ind (Q:=fun re=>∀b∈re.enc,b < 256) (fun re ih b h=>?_) re
 rw[Re.enc_eq] at h
 have hl:∀l:List Re,(∀k∈l,∀b∈k.enc,b < 256)→∀b∈Re.encL l,b < 256:=by
  intro l
  induction l with
  | nil=>intro _ b hb; simp [Re.encL] at hb
  | cons k l ihl =>
   intro hk b hb
   simp only[Re.encL] at hb
   rcases List.mem_append.1 hb with hb | hb
   ·exact hk k (by simp) b hb
   ·exact ihl (fun x hx=>hk x (by simp [hx])) b hb
 rcases List.mem_append.1 h with h | h
 ·exact intsB_byte _ b h
 rcases List.mem_append.1 h with h | h
 ·exact intsB_byte _ b h
 rcases List.mem_append.1 h with h | h
 ·exact uv_byte _ b h
 ·exact hl re.kids ih b h
theorem encP_byte (p:Pat):∀b∈encP p,b < 256:=by
 intro b h
 unfold encP at h
 rcases List.mem_append.1 h with h | h
 ·rcases List.mem_append.1 h with h | h
  ·exact uv_byte _ b h
  ·rw[List.mem_singleton] at h
   subst h
   split <;> omega
 ·exact enc_byte _ b h
theorem encP_len {c:Nat} (hc:c≤2000) {p:Pat} (hp:p.small c):1≤(encP p).length∧(encP p).length≤100000000:=by
 have hen:=enc_len c p.re hp.ev
 have hsz:=hp.sz
 have h1:p.re.size * (11 * (2 * c + 10))≤2000 * (11 * (2 * 2000 + 10)):=Nat.mul_le_mul (by omega) (by omega)
 have h2:=uv_len (zz p.caps)
 unfold encP
 simp only[List.length_append,List.length_cons,List.length_nil]
 omega
theorem encP_inj2 {c:Nat} (hc:c≤1000000000) {a b:Pat} (ha:a.re.every (smallB c)=true) (hb:b.re.every (smallB c)=true) (ia:I64 a.caps) (ib:I64 b.caps) (h:encP a=encP b):a=b:=by
 obtain⟨ar,ac,ab⟩:=a
 obtain⟨br,bc,bb⟩:=b
 unfold encP at h
 simp only[List.append_assoc] at h
 obtain⟨h1,h2⟩:=uv_inj (zz_lt _ ia) (zz_lt _ ib) h
 have hz:=zz_inj h1
 simp only at hz
 simp only[List.cons_append,List.nil_append,List.cons.injEq] at h2
 obtain⟨h3,h4⟩:=h2
 have h5:ab=bb:=by
  cases ab <;> cases bb <;> simp at h3 <;> rfl
 have h6:=(enc_inj hc ar ha br [] [] hb (by rw[List.append_nil,List.append_nil]; exact h4)).1
 rw[hz,h5,h6]
theorem dec_of {p:Pat} (hp:p.small 2000):(validR p=0→decR (encP p)=(p,0))∧(validR p≠0→decR (encP p)=(zeroPat,2)):=by
 refine⟨fun hv=>dec_enc (c:=2000) (by omega) hv hp.ev,fun hv=>?_⟩
 rcases dec_cases (encP p) with h | h
 ·exfalso
  have hl:=(encP_len (by omega) hp).2
  have hq:decR (encP p)=((decR (encP p)).1,0):=Prod.ext rfl h
  obtain⟨e1,e2⟩:=enc_dec (encP_byte p) hq
  obtain⟨e3,e4⟩:=dec_small (c:=100000000) (by omega) (encP_byte p) hl hq
  have:=encP_inj2 (c:=100000000) (by omega) e3 (small_every_le (by omega) hp).ev e4 hp.caps e1
  rw[this] at e2
  exact hv e2
 ·exact h
theorem rI_encP {p:Pat} (hc:I64 p.caps):(rI (encP p) 0).1=p.caps:=by
 unfold encP
 rw[List.append_assoc,rI_enc hc]
end Go.Proofs.Ytafbdphblilenaa
