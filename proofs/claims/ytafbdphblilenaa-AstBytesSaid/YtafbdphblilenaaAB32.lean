/- A part of the proof (F97). -/
import Derived.Test.YtafbdphblilenaaAB2
import Derived.Test.YtafbdphblilenaaAB3
import Derived.Test.YtafbdphblilenaaAB31
import Derived.Test.YtafbdphblilenaaAB30
set_option linter.unusedSimpArgs false
set_option linter.unusedVariables false
set_option maxRecDepth 100000
set_option maxHeartbeats 80000000
set_option linter.unusedSimpArgs false
set_option linter.unusedVariables false
namespace Go.Proofs.Ytafbdphblilenaa
open Go.VL Go.Proofs.Try
theorem callWp_post2 {P:Program} {f:FuncId} {args:List V} {s:List VL.Obj} {K1 K:V→List VL.Obj→Prop} (h:callWp P f args s K1)
  (hw:∀v s1,K1 v s1→∀σ0 w0 σ w u,Evolve σ0 s w0 σ s1 w→Inv σ s1 w→RepV σ s1 w v u→∃σ2 s2 v2,Evolve σ0 s w0 σ2 s2 w∧Inv σ2 s2 w∧RepV σ2 s2 w v2 u∧K v2 s2):callWp P f args s K:=by
 refine⟨h.1,fun σ w vals hI hl hv=>(h.2 σ w vals hI hl hv).mono fun e w' ⟨u,v,σ',s',h1,h2,h3,h4,h5⟩=>?_⟩
 obtain⟨σ2,s2,v2,k1,k2,k3,k4⟩:=hw v s' h5 _ _ σ' w' u h2 h3 h4
 exact⟨u,v2,σ2,s2,h1,k1,k2,k3,k4⟩
theorem bytes_up (bs:List Nat):(bs.map fun b:Nat=>[D.sc (.int .u8 (b:Int))]).map (fun c=>c.map V.d)=bs.map u8V:=by
 simp [u8V]
theorem read_own (bs:List Nat) (hb:bs.length≤1000000000):callWp prog 48 [.d (bytesD bs)] [] fun v s=>v=.rf 0 0 0 0∧s=[⟨0,true,3,[[.so 1 0 0 bs.length,i64 0,i64 0]]⟩,⟨0,true,1,bs.map u8V⟩]:=by
 refine fn_own func48 rfl ntmps48 results48 rfl 0 5 (by simp) (by simp) ?_
 simp only[zX,Nat.reduceShiftRight,Nat.reduceMod,Nat.reduceLT,Nat.reduceMul,Nat.reduceSub,Int.reduceToNat,Int.reduceNeg,Int.reduceLT,Int.reduceLE,Int.reduceEq,Nat.reduceEqDiff,Nat.reduceAdd,Nat.reduceLeDiff,reduceIte,reduceCtorEq,Nat.reduceBEq,i64,bytesD]
 rw[bytes_up]
 refine⟨?_,⟨by omega,by simp⟩,?_⟩
 ·intro e he
  obtain⟨b,_,rfl⟩:=List.mem_map.1 he
  rfl
 simp only[zX,Nat.reduceShiftRight,Nat.reduceMod,Nat.reduceLT,Nat.reduceMul,Nat.reduceSub,Int.reduceToNat,Int.reduceNeg,Int.reduceLT,Int.reduceLE,Int.reduceEq,Nat.reduceEqDiff,Nat.reduceAdd,Nat.reduceLeDiff,reduceIte,reduceCtorEq,Nat.reduceBEq,i64,Qown,ownWp,Nat.zero_add]
 refine⟨[1,0],by decide,rfl,?_⟩
 have hd:(bs.map u8V).map (downV.go [1,0])=bs.map u8V:=by
  rw[List.map_map]
  exact List.map_congr_left fun b _=>rfl
 have h1:selS [1,0] [(⟨0,true,1,bs.map u8V⟩:VL.Obj),⟨0,true,3,[[.so 0 0 0 bs.length,.d (.sc (.int .i64 0)),.d (.sc (.int .i64 0))]]⟩]=[downO [1,0] ⟨0,true,3,[[.so 0 0 0 bs.length,.d (.sc (.int .i64 0)),.d (.sc (.int .i64 0))]]⟩,downO [1,0] ⟨0,true,1,bs.map u8V⟩]:=rfl
 rw[h1]
 unfold downO
 rw[hd]
 rfl
theorem read_new (bs:List Nat) (hb:bs.length≤1000000000):callWp prog 48 [.d (bytesD bs)] [] fun v s=>v=.rf 0 0 0 0∧s=[rdO bs bs 0]:=by
 refine callWp_post2 (read_own bs hb) ?_
 rintro v s1 ⟨rfl,rfl⟩ σ0 w0 σ w u hE hI hu
 obtain⟨k1,k2⟩:=killO_ok [1] _ hI
 have hk:killO [(⟨0,true,3,[[.so 1 0 0 bs.length,i64 0,i64 0]]⟩:VL.Obj),⟨0,true,1,bs.map u8V⟩] [1]=[⟨0,true,3,[[.so 1 0 0 bs.length,i64 0,i64 0]]⟩,⟨0,false,1,bs.map u8V⟩]:=rfl
 rw[hk] at k1 k2
 have hf:frzV 2 [(⟨0,true,3,[[.so 1 0 0 bs.length,i64 0,i64 0]]⟩:VL.Obj),⟨0,false,1,bs.map u8V⟩] (.so 1 0 0 bs.length)=some (.d (bytesD bs)):=by
  rw[← bytes_up]
  simp only[frzV,frzD,List.getElem?_cons_succ,List.getElem?_cons_zero,true_and,List.drop_zero]
  rw[if_pos ⟨by simp,by simp⟩,List.take_of_length_le (by simp),mapM_frzE]
  rfl
 obtain⟨m1,m2⟩:=recell k2 (k:=0) (o:=⟨0,true,3,[[.so 1 0 0 bs.length,i64 0,i64 0]]⟩) (els':=[[.d (bytesD bs),i64 0,i64 0]]) rfl (by intro e he; rw[List.mem_singleton.1 he]; rfl) rfl
  (fun es he=>by
   have hm:[V.so 1 0 0 bs.length,i64 0,i64 0]∈mapEls es:=by rw[← he]; exact List.mem_singleton.2 rfl
   unfold mapEls at hm
   obtain⟨x,_,hx⟩:=List.mem_map.1 hm
   simp at hx)
  (fun i j x' hx=>by
   match i,j with
   | 0,0 =>
    simp only[List.getElem?_cons_zero,Option.bind_some,Option.some.injEq] at hx
    subst hx
    exact⟨_,rfl,fun u hu=>frzV_spec k2 hu hf⟩
   | 0,1=>exact⟨_,rfl,fun u hu=>by simp at hx; subst hx; exact hu⟩
   | 0,2=>exact⟨_,rfl,fun u hu=>by simp at hx; subst hx; exact hu⟩
   | 0,j + 3=>simp at hx
   | i + 1,j=>simp at hx)
 have e1:=(k1.trans m1)
 have hs2:([(⟨0,true,3,[[.so 1 0 0 bs.length,i64 0,i64 0]]⟩:VL.Obj),⟨0,false,1,bs.map u8V⟩].set 0 ⟨0,true,3,[[.d (bytesD bs),i64 0,i64 0]]⟩)=[rdO bs bs 0,⟨0,false,1,bs.map u8V⟩]:=by
  simp [rdO]
 simp only[hs2] at m2 e1
 have h1:=(hE.trans e1).take (lim:=1) (Nat.zero_le _)
 have h2:=Inv.take m2 (lim:=1) rfl
 refine⟨_,_,_,h1,h2,?_,rfl,rfl⟩
 exact RepV.take (hu.evolve e1) (lim:=1) rfl
theorem call_read {bs:List Nat} (hb:bs.length≤1000000000) {s:List VL.Obj} {K:V→List VL.Obj→Prop} (hk:K (.rf s.length 0 0 0) (s++[rdO bs bs 0])):callWp prog 48 [.d (bytesD bs)] s K:=by
 refine call_frame_new (read_new bs hb) [] rfl (by simp) (fun k o h=>by simp at h) rfl rfl rfl ?_
 rintro v s' ⟨rfl,rfl⟩ _
 simpa [rhoN,renV,putObjs,rdO_ren] using hk
end Go.Proofs.Ytafbdphblilenaa
