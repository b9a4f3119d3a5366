/- A part of the proof (MM32). -/
import Derived.Test.YtpppfpaalcbggaaML35
import Derived.Test.YtpppfpaalcbggaaML48
set_option linter.unusedSimpArgs false
set_option linter.unusedVariables false
set_option maxRecDepth 100000
set_option maxHeartbeats 80000000
namespace Go.Proofs.Ytpppfpaalcbggaa
open Go.VL
section plainSteps
variable {t:List Int} {F:Int} {g:Nat} {most i:Int} {c:CapsL} {st:Sst} {next:Goal}
theorem pl_run0 {re:Re} {k frm:Int} (h0:0≤i) (h1:i≤t.length):evR t F (g + 1) most (.run (.mk 0 re k frm next) i c) st=evR t F g most (.node (.mk 0 re k frm next) i c) st:=by
 show evStep t F (evR t F g) most _ st=_
 unfold evStep
 simp only
 rw[if_neg (by omega),if_neg (by decide),if_neg (by decide),if_neg (by decide),if_neg (by decide)]
theorem pl_run1 {re:Re} {k frm:Int} (h0:0≤i) (h1:i≤t.length):evR t F (g + 1) most (.run (.mk 1 re k frm next) i c) st=evR t F g most (.rep (.mk 1 re k frm next) i c) st:=by
 show evStep t F (evR t F g) most _ st=_
 unfold evStep
 simp only
 rw[if_neg (by omega),if_pos trivial]
theorem pl_run2 {re:Re} {k frm:Int} (h0:0≤i) (h1:i≤t.length) (h2:i≠frm) (h3:0≤k) (h4:k≤10000000000000):evR t F (g + 1) most (.run (.mk 2 re k frm next) i c) st=evR t F g most (.run (.mk 1 re (k + 1) 0 next) i c) st:=by
 show evStep t F (evR t F g) most _ st=_
 unfold evStep
 simp only
 rw[if_neg (by omega),if_neg (by decide),if_pos trivial,if_neg (fun h=>h2 h.2),if_neg (by omega)]
def Sst.more (st:Sst) (n:Int):Sst:={ st with steps:=st.steps + n }
theorem pl_step (he:st.empty=false) (h1:st.steps + 1≤F):st.step F=st.more 1:=by
 unfold Sst.step Sst.more
 rw[he,decide_eq_false (by omega)]
 rfl
theorem pl_set {x:Int} (h0:0≤i) (h1:i≤t.length) (hc:c.length≤1000000000) (hs0:0≤st.steps) (hs:st.steps≤1000000) (he:st.empty=false) (hf:st.steps + 1≤F) :
  evR t F (g + 1) most (.node (.mk 0 (lsR x) 0 0 next) i c) st=if i < t.length∧tAt t i=x then evR t F g most (.run next (i + 1) c) (st.more 1) else some (false,st.more 1):=by
 show evStep t F (evR t F g) most _ st=_
 unfold evStep
 dsimp only
 rw[if_neg (by omega),if_neg (show ¬(lsR x).op=4 from (by show ¬(1:Int)=4; decide)),if_neg (show ¬(1000000000 < (lsR x).set.length∨1000000000 < (lsR x).kids.length∨1000000000 < c.length) from (by show ¬(1000000000 < 1∨1000000000 < 0∨1000000000 < c.length); omega)),if_neg (by omega),pl_step he hf,if_neg (by show ¬st.empty=true; rw[he]; decide)]
 unfold nodeR
 rw[if_pos (show (lsR x).op=1 from rfl)]
 have hin:inB (lsR x).set (tAt t i)=true ↔ tAt t i=x:=by
  simp only[lsR,Re.set,inB,List.any_cons,List.any_nil,Bool.or_false,Bool.and_eq_true,decide_eq_true_eq]
  omega
 by_cases hh:i < (t.length:Int)∧tAt t i=x
 ·rw[if_pos ⟨hh.1,hin.2 hh.2⟩,if_pos hh]
 ·rw[if_neg (fun h=>hh ⟨h.1,hin.1 h.2⟩),if_neg hh]
theorem pl_alt {a b:Re} (h0:0≤i) (h1:i≤t.length) (hc:c.length≤1000000000) (hs0:0≤st.steps) (hs:st.steps≤1000000) (he:st.empty=false) (hf:st.steps + 1≤F) :
  evR t F (g + 1) most (.node (.mk 0 (.mk 3 [] [a,b] 0 0 0 0 false) 0 0 next) i c) st=orR (evR t F g most (.run (.mk 0 a 0 0 next) i c) (st.more 1)) (fun s=>orR (evR t F g most (.run (.mk 0 b 0 0 next) i c) s) fun s=>some (false,s)):=by
 show evStep t F (evR t F g) most _ st=_
 unfold evStep
 dsimp only
 rw[if_neg (by omega),if_neg (show ¬(Re.mk 3 [] [a,b] 0 0 0 0 false).op=4 from (by show ¬(3:Int)=4; decide)),if_neg (show ¬(1000000000 < (Re.mk 3 [] [a,b] 0 0 0 0 false).set.length∨1000000000 < (Re.mk 3 [] [a,b] 0 0 0 0 false).kids.length∨1000000000 < c.length) from (by show ¬(1000000000 < 0∨1000000000 < 2∨1000000000 < c.length); omega)),if_neg (by omega),pl_step he hf,if_neg (by show ¬st.empty=true; rw[he]; decide)]
 rfl
theorem pl_cat {a b:Re} (h0:0≤i) (h1:i≤t.length) (hc:c.length≤1000000000) (hs0:0≤st.steps) (hs:st.steps≤1000000) (he:st.empty=false) (hf:st.steps + 1≤F) :
  evR t F (g + 1) most (.node (.mk 0 (.mk 2 [] [a,b] 0 0 0 0 false) 0 0 next) i c) st=evR t F g most (.run (.mk 0 a 0 0 (.mk 0 b 0 0 next)) i c) (st.more 1):=by
 show evStep t F (evR t F g) most _ st=_
 unfold evStep
 dsimp only
 rw[if_neg (by omega),if_neg (show ¬(Re.mk 2 [] [a,b] 0 0 0 0 false).op=4 from (by show ¬(2:Int)=4; decide)),if_neg (show ¬(1000000000 < (Re.mk 2 [] [a,b] 0 0 0 0 false).set.length∨1000000000 < (Re.mk 2 [] [a,b] 0 0 0 0 false).kids.length∨1000000000 < c.length) from (by show ¬(1000000000 < 0∨1000000000 < 2∨1000000000 < c.length); omega)),if_neg (by omega),pl_step he hf,if_neg (by show ¬st.empty=true; rw[he]; decide)]
 rfl
theorem pl_star {a:Re} (h0:0≤i) (h1:i≤t.length):evR t F (g + 1) most (.node (.mk 0 (.mk 4 [] [a] 0 (-1) 0 0 false) 0 0 next) i c) st=evR t F g most (.rep (.mk 1 (.mk 4 [] [a] 0 (-1) 0 0 false) 0 0 next) i c) st:=by
 show evStep t F (evR t F g) most _ st=_
 unfold evStep
 simp only[Re.op]
 rw[if_neg (by omega),if_pos trivial]
theorem pl_rep {a:Re} {k frm:Int} (h0:0≤i) (h1:i≤t.length) (hk:0≤k) (hs0:0≤st.steps) (hs:st.steps≤1000000) (he:st.empty=false) (hf:st.steps + 1≤F) :
  evR t F (g + 1) most (.rep (.mk 1 (.mk 4 [] [a] 0 (-1) 0 0 false) k frm next) i c) st =
   orR (evR t F g most (.run (.mk 0 a 0 0 (.mk 2 (.mk 4 [] [a] 0 (-1) 0 0 false) k i next)) i c) (st.more 1)) fun s=>evR t F g most (.run next i c) s:=by
 show evStep t F (evR t F g) most _ st=_
 unfold evStep
 simp only
 rw[if_neg (by omega)]
 unfold repR
 simp only[Re.mode,Re.kids,Re.mx,Re.mn]
 rw[if_neg (by decide),if_neg (by omega),pl_step he hf,if_neg (by show ¬st.empty=true; rw[he]; decide),if_neg (by omega),if_neg (by decide)]
 simp
end plainSteps
def altA:Re:=.mk 3 [] [lsR 97,lsR 97] 0 0 0 0 false
def starA:Re:=.mk 4 [] [altA] 0 (-1) 0 0 false
def lastB:Goal:=.mk 0 (lsR 98) 0 0 .nil
theorem more_more (st:Sst) (a b:Int):(st.more a).more b=st.more (a + b):=by
 unfold Sst.more
 simp [Int.add_assoc]
theorem pl_two {n:Nat} {most:Int} {c:CapsL} (hc:c.length≤1000000000):∀(r:Nat) (i k frm:Int) (st:Sst),i + r=n→0≤i→0≤k→k + r≤1000000→st.empty=false→0≤st.steps→st.steps + (10 * (2:Int) ^ r - 5)≤1000000 →
  evR (asT n) 1048576 (7 * r + 5) most (.rep (.mk 1 starA k frm lastB) i c) st=some (false,st.more (10 * (2:Int) ^ r - 5))
 | 0,i,k,frm,st,hi,h0,hk,hk2,he,hs0,hs=>by
  have hl:=asT_len n
  have p0:(2:Int) ^ 0=1:=rfl
  rw[p0] at hs ⊢
  unfold starA lastB
  rw[pl_rep h0 (by omega) hk hs0 (by omega) he (by omega)]
  unfold altA
  rw[pl_run0 h0 (by omega)]
  rw[pl_alt (st:=st.more 1) h0 (by omega) hc (by show 0≤st.steps + 1; omega) (by show st.steps + 1≤_; omega) he (by show st.steps + 1 + 1≤_; omega)]
  rw[pl_run0 h0 (by omega)]
  rw[pl_set (st:=(st.more 1).more 1) h0 (by omega) hc (by show 0≤st.steps + 1 + 1; omega) (by show st.steps + 1 + 1≤_; omega) he (by show st.steps + 1 + 1 + 1≤_; omega)]
  rw[if_neg (by omega)]
  simp only[orR,more_more]
  rw[pl_run0 h0 (by omega)]
  rw[pl_set (st:=st.more (1 + 1 + 1)) h0 (by omega) hc (by show 0≤st.steps + (1 + 1 + 1); omega) (by show st.steps + (1 + 1 + 1)≤_; omega) he (by show st.steps + (1 + 1 + 1) + 1≤_; omega)]
  rw[if_neg (by omega)]
  simp only[more_more]
  rw[pl_run0 h0 (by omega)]
  rw[pl_set (st:=st.more (1 + 1 + 1 + 1)) h0 (by omega) hc (by show 0≤st.steps + (1 + 1 + 1 + 1); omega) (by show st.steps + (1 + 1 + 1 + 1)≤_; omega) he (by show st.steps + (1 + 1 + 1 + 1) + 1≤_; omega)]
  rw[if_neg (by omega)]
  simp only[more_more]
  rfl
 | r + 1,i,k,frm,st,hi,h0,hk,hk2,he,hs0,hs=>by
  have hl:=asT_len n
  have p0:(2:Int) ^ (r + 1)=2 * 2 ^ r:=by rw[Int.pow_succ]; omega
  have p1:(1:Int)≤2 ^ r:=Int.pow_pos (by decide)
  have hn:i < (asT n).length:=by omega
  have ha:tAt (asT n) i=97:=asT_at h0 (by omega)
  rw[p0] at hs ⊢
  generalize hP:(2:Int) ^ r=P at *
  have ih:=fun (k frm:Int) (st:Sst)=>pl_two (n:=n) (most:=most) (c:=c) hc r (i + 1) k frm st
  rw[hP] at ih
  rw[show 7 * (r + 1) + 5=7 * r + 5 + 7 by omega]
  unfold starA
  rw[pl_rep h0 (by omega) hk hs0 (by omega) he (by omega)]
  unfold altA
  rw[pl_run0 h0 (by omega)]
  rw[pl_alt (st:=st.more 1) h0 (by omega) hc (by show 0≤st.steps + 1; omega) (by show st.steps + 1≤_; omega) he (by show st.steps + 1 + 1≤_; omega)]
  rw[pl_run0 h0 (by omega)]
  rw[pl_set (st:=(st.more 1).more 1) h0 (by omega) hc (by show 0≤st.steps + 1 + 1; omega) (by show st.steps + 1 + 1≤_; omega) he (by show st.steps + 1 + 1 + 1≤_; omega)]
  rw[if_pos ⟨hn,ha⟩]
  rw[pl_run2 (by omega) (by omega) (by omega) hk (by omega),pl_run1 (by omega) (by omega)]
  have i1:=ih (k + 1) 0 (((st.more 1).more 1).more 1) (by omega) (by omega) (by omega) (by omega) he (by show 0≤st.steps + 1 + 1 + 1; omega) (by show st.steps + 1 + 1 + 1 + _≤_; omega)
  unfold starA altA at i1
  rw[i1]
  simp only[orR,more_more]
  rw[pl_run0 h0 (by omega)]
  rw[pl_set (st:=st.more (1 + 1 + 1 + (10 * P - 5))) h0 (by omega) hc (by show 0≤st.steps + (1 + 1 + 1 + (10 * P - 5)); omega) (by show st.steps + (1 + 1 + 1 + (10 * P - 5))≤_; omega) he (by show st.steps + (1 + 1 + 1 + (10 * P - 5)) + 1≤_; omega)]
  rw[if_pos ⟨hn,ha⟩]
  simp only[more_more]
  rw[pl_run2 (by omega) (by omega) (by omega) hk (by omega),pl_run1 (by omega) (by omega)]
  have i2:=ih (k + 1) 0 (st.more (1 + 1 + 1 + (10 * P - 5) + 1)) (by omega) (by omega) (by omega) (by omega) he (by show 0≤st.steps + (1 + 1 + 1 + (10 * P - 5) + 1); omega) (by show st.steps + (1 + 1 + 1 + (10 * P - 5) + 1) + _≤_; omega)
  unfold starA altA at i2
  rw[i2]
  simp only[more_more]
  unfold lastB
  rw[pl_run0 h0 (by omega)]
  rw[pl_set (st:=st.more (1 + 1 + 1 + (10 * P - 5) + 1 + (10 * P - 5))) h0 (by omega) hc (by show 0≤st.steps + (1 + 1 + 1 + (10 * P - 5) + 1 + (10 * P - 5)); omega) (by show st.steps + (1 + 1 + 1 + (10 * P - 5) + 1 + (10 * P - 5))≤_; omega) he (by show st.steps + (1 + 1 + 1 + (10 * P - 5) + 1 + (10 * P - 5)) + 1≤_; omega)]
  rw[if_neg (by rw[ha]; omega)]
  rw[more_more]
  have:1 + 1 + 1 + (10 * P - 5) + 1 + (10 * P - 5) + 1=10 * (2 * P) - 5:=by omega
  rw[this]
theorem pl_all {n:Nat} {most:Int} {c:CapsL} (hc:c.length≤1000000000) (hn:n≤12) :
  evR (asT n) 1048576 (7 * n + 9) most (.run (.mk 0 livM.re 0 0 .nil) 0 c) ⟨0,false,[],[]⟩=some (false,⟨10 * (2:Int) ^ n - 4,false,[],[]⟩):=by
 have hl:=asT_len n
 have p1:(2:Int) ^ n≤4096:=by
  have h:(2:Nat) ^ n≤2 ^ 12:=Nat.pow_le_pow_right (by decide) hn
  have:((2 ^ n:Nat):Int)≤((2 ^ 12:Nat):Int):=Int.ofNat_le.2 h
  simpa using this
 rw[pl_run0 (by decide) (by omega)]
 unfold livM
 rw[pl_cat (by decide) (by omega) hc (by decide) (by decide) rfl (by decide),pl_run0 (by decide) (by omega),pl_star (by decide) (by omega)]
 have h:=pl_two (n:=n) (most:=most) hc n 0 0 0 (Sst.more ⟨0,false,[],[]⟩ 1) (by omega) (by decide) (by decide) (by omega) rfl (by decide) (by show (0 + 1) + _≤(1000000:Int); omega)
 unfold starA altA lastB at h
 rw[h,more_more]
 have:(0:Int) + (1 + (10 * 2 ^ n - 5))=10 * 2 ^ n - 4:=by omega
 unfold Sst.more
 simp only[this]
theorem asT_sym (n:Nat):(asT n).all (symB false)=true:=by
 rw[List.all_eq_true]
 intro x hx
 rw[(List.mem_replicate.1 hx).2]
 decide
theorem linAll_ok {n:Nat} (hn:n≤12):PureOK Try.prog 16 [patV livM,.d (intsD (asT n)),i64 0,i64 1,i64 1048576] (.tu [.d (.sl []),i64 (10 * (2:Int) ^ n - 4),i64 0]):=by
 have hl:=asT_len n
 have hv:valid7 livM (asT n) 1048576=0:=by
  unfold valid7
  rw[if_neg (by decide),if_neg (by omega),if_neg (by rw[show livM.runes=false from rfl,asT_sym]; simp),if_neg (by omega)]
 have hx:searchX livM (asT n) 0 1 1048576=(false,⟨10 * (2:Int) ^ n - 4,false,[],[]⟩):=evX_eq (pl_all (by decide) hn)
 have hE:allE livM (asT n) 0 1 1048576=0:=by
  unfold allE
  rw[if_neg (by rw[hv]; simp),if_neg (by omega),hx,if_neg (by simp)]
 have p1:(2:Int) ^ n≤4096:=by
  have h:(2:Nat) ^ n≤2 ^ 12:=Nat.pow_le_pow_right (by decide) hn
  have:((2 ^ n:Nat):Int)≤((2 ^ 12:Nat):Int):=Int.ofNat_le.2 h
  simpa using this
 have h:=semAll_ok livM (asT n) 0 1 1048576 (by decide) (by omega) (by decide) (fun _ _ _=>by rw[hx]; show 10 * (2:Int) ^ n - 4≤_; omega)
 have hM:allM livM (asT n) 0 1 1048576=[]:=by unfold allM; rw[if_pos hE,hx]; rfl
 have hN:allN livM (asT n) 0 1 1048576=10 * (2:Int) ^ n - 4:=by unfold allN; rw[if_pos hE,hx]
 rw[hE,hM,hN] at h
 exact h
end Go.Proofs.Ytpppfpaalcbggaa
