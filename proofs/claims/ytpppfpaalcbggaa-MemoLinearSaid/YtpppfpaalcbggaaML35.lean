/- A part of the proof (MM31). -/
import Derived.Test.YtpppfpaalcbggaaML33
import Derived.Test.YtpppfpaalcbggaaML34
set_option linter.unusedSimpArgs false
set_option linter.unusedVariables false
set_option maxRecDepth 100000
set_option maxHeartbeats 80000000
namespace Go.Proofs.Ytpppfpaalcbggaa
open Go.VL
def secM:Pat:=⟨.mk 2 [] [.mk 4 [] [.mk 4 [] [lsR 97] 0 (-1) 0 0 false] 0 (-1) 0 0 false,lsR 98] 0 0 0 0 false,0,false⟩
def secN:Nd:=.mk secM.re 0 [.mk (.mk 4 [] [.mk 4 [] [lsR 97] 0 (-1) 0 0 false] 0 (-1) 0 0 false) 1 [.mk (.mk 4 [] [lsR 97] 0 (-1) 0 0 false) 2 [.mk (lsR 97) 3 [] false] false] true,.mk (lsR 98) 4 [] false] false
def fstN:Nd:=.mk livM.re 0 [.mk (.mk 4 [] [.mk 3 [] [lsR 97,lsR 97] 0 0 0 0 false] 0 (-1) 0 0 false) 1 [.mk (.mk 3 [] [lsR 97,lsR 97] 0 0 0 0 false) 2 [.mk (lsR 97) 3 [] false,.mk (lsR 97) 4 [] false] false] false,.mk (lsR 98) 5 [] false] false
theorem sec_num:(numR secM.re 0).1=secN:=by rfl
theorem fst_num:(numR livM.re 0).1=fstN:=by rfl
def atK (nd:Nd) (f:Nat→Nat) (n:Nat):Bool:=match numK n 97 16 nd with
 | some (.ofNat k)=>Nat.ble k (f n)
 | _=>false
theorem fst_all:(List.range 41).all (atK fstN fun n=>6 * n + 6)=true:=by kernel_rfl
theorem sec_a:(List.range' 0 20).all (atK secN fun n=>8 * (n + 1) * (n + 1))=true:=by kernel_rfl
theorem sec_b:(List.range' 20 8).all (atK secN fun n=>8 * (n + 1) * (n + 1))=true:=by kernel_rfl
theorem sec_c:(List.range' 28 7).all (atK secN fun n=>8 * (n + 1) * (n + 1))=true:=by kernel_rfl
theorem sec_d:(List.range' 35 6).all (atK secN fun n=>8 * (n + 1) * (n + 1))=true:=by kernel_rfl
theorem atK_ok {nd:Nd} {f:Nat→Nat} {n:Nat} (h:atK nd f n=true):∃k:Nat,numK n 97 16 nd=some k∧k≤f n:=by
 unfold atK at h
 split at h
 ·rename_i k hk
  exact⟨k,hk,Nat.le_of_ble_eq_true h⟩
 ·cases h
theorem fst_in {n:Nat} (h:n≤40):∃k:Nat,numK n 97 16 fstN=some k∧k≤6 * n + 6 :=
 atK_ok (List.all_eq_true.1 fst_all n (List.mem_range.2 (by omega)))
theorem sec_in {n:Nat} (h:n≤40):∃k:Nat,numK n 97 16 secN=some k∧k≤8 * (n + 1) * (n + 1):=by
 refine atK_ok (f:=fun n=>8 * (n + 1) * (n + 1)) ?_
 rcases Nat.lt_or_ge n 20 with h1 | h1
 ·exact List.all_eq_true.1 sec_a n (List.mem_range'_1.2 (by omega))
 rcases Nat.lt_or_ge n 28 with h2 | h2
 ·exact List.all_eq_true.1 sec_b n (List.mem_range'_1.2 (by omega))
 rcases Nat.lt_or_ge n 35 with h3 | h3
 ·exact List.all_eq_true.1 sec_c n (List.mem_range'_1.2 (by omega))
 ·exact List.all_eq_true.1 sec_d n (List.mem_range'_1.2 (by omega))
def asT (n:Nat):List Int:=List.replicate n 97
theorem asT_at {n:Nat} {i:Int} (h0:0≤i) (h1:i < n):tAt (asT n) i=97:=by
 unfold tAt asT
 rw[List.getD_eq_getElem?_getD,List.getElem?_replicate,if_pos (by omega)]
 rfl
theorem asT_len (n:Nat):(asT n).length=n:=by simp [asT]
end Go.Proofs.Ytpppfpaalcbggaa
