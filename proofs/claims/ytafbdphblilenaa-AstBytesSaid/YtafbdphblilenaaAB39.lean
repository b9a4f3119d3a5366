/- A part of the proof (K0 F100 F101). -/
import Derived.Test.YtafbdphblilenaaAB2
import Derived.Test.YtafbdphblilenaaAB3
import Derived.Test.YtafbdphblilenaaAB38
set_option linter.unusedSimpArgs false
set_option linter.unusedVariables false
set_option maxRecDepth 100000
set_option maxHeartbeats 80000000
namespace Go.Proofs.Ytafbdphblilenaa
open Go.VL Go.Proofs.Try
theorem frz_ownK {lim id g lo n sz:Nat} {live:Bool} {s:List VL.Obj} {els:List (List V)} {ds:List (List D)} (ho:s[id]?=some ⟨g,live,sz,els⟩) (he:(els.drop lo).take n=ds.map (fun c=>c.map V.d)) (hn:lo + n≤els.length) (hl:lim≤id∨live=false) :
  frzV lim s (.so id g lo n)=some (.d (.sl ds)):=by
 simp only[frzV,frzD,ho,true_and]
 rw[if_pos ⟨hn,hl⟩,he,mapM_frzE]
 rfl
theorem reserveSlot {e:Env} {s:List VL.Obj} (t sz:Nat) (h:e t=.fu []):Cln0 e s (updE e t (.so s.length 0 0 0)) (s++[⟨0,true,sz,[]⟩]):=by
 intro σ0 s0 w0 σ w N a hE hI hR
 have hp:=push_obj (p:=none) (o':=⟨0,true,sz,[]⟩) (w':=w) hI rfl rfl rfl (Nat.le_refl _) (fun _ _=>rfl) (fun _ _ h'=>by cases h') (fun _=>.inl (.inl ⟨rfl,rfl⟩))
 refine⟨_,hE.trans hp.1,hp.2,hR.1,hR.2.1,fun k=>?_⟩
 by_cases hk:k=t
 ·subst hk
  have hu:=(hR.2.2 k).evolve hp.1
  rw[h] at hu
  rw[updE,if_pos rfl]
  generalize a.tmps.getD k undef=u at hu
  cases hu with | fu hx=>?_
  exact .so ⟨0,true,sz,[]⟩ (by simp) (Nat.le_refl _) rfl (fun _=>.inl ⟨updG_same _ _ _,⟨_,rfl⟩,rfl,rfl⟩)
 ·rw[updE,if_neg hk]
  exact(hR.2.2 k).evolve hp.1
def OwnSl (P:Program) (f:FuncId) (args:List V) (sz:Nat) (l:List (List D)):Prop :=
 callWp P f args [] fun v s=>∃g,v=.so 0 g 0 l.length∧s=[⟨g,true,sz,l.map fun c=>c.map V.d⟩]
theorem renV_go_data (ρ:List Nat):∀c:List D,renV.go ρ (c.map V.d)=c.map V.d
 | []=>rfl
 | x::c=>by simp only[List.map_cons,renV.go,renV,renV_go_data ρ c]
theorem cutData {l:List (List D)}:((l.map fun c=>c.map V.d).drop 0).take l.length=l.map (fun c=>c.map V.d):=by
 rw[List.drop_zero,List.take_of_length_le (by simp)]
theorem OwnSl.pure {P:Program} {f:FuncId} {args:List V} {sz:Nat} {l:List (List D)} (h:OwnSl P f args sz l):PureOK P f args (.d (.sl l)):=by
 refine⟨h.1,fun σ w vals hI hl hv=>(h.2 σ w vals hI hl hv).mono fun e w' ⟨u,v,σ',s',h1,h2,h3,h4,g,h5,h6⟩=>?_⟩
 subst h5 h6
 have:=frzV_spec h3 (lim:=0) h4 (frz_ownK (els:=l.map fun c=>c.map V.d) (live:=true) (sz:=sz) rfl cutData (by simp) (.inl (Nat.le_refl _)))
 exact⟨u,_,σ',[],h1,h2.take (lim:=0) (Nat.le_refl _),h3.take (lim:=0) (by rfl),this,rfl,rfl⟩
theorem OwnSl.call {P:Program} {f:FuncId} {args:List V} {sz:Nat} {l:List (List D)} {s:List VL.Obj} {K:V→List VL.Obj→Prop} (h:OwnSl P f args sz l) (ha:args=args.map (renV [])) (hr:refsV.go 0 args=true)
  (hk:∀g,K (.so s.length g 0 l.length) (s++[⟨g,true,sz,l.map fun c=>c.map V.d⟩])):callWp P f args s K:=by
 refine call_frame_new h [] rfl (by simp) (fun k o h=>by simp at h) ha hr rfl ?_
 rintro v s' ⟨g,rfl,rfl⟩ _
 have e1:renV (rhoN [] s [] [(⟨g,true,sz,l.map fun c=>c.map V.d⟩:VL.Obj)]) (.so 0 g 0 l.length)=.so s.length g 0 l.length:=by simp [rhoN,renV]
 have e2:renO (rhoN [] s [] [(⟨g,true,sz,l.map fun c=>c.map V.d⟩:VL.Obj)]) ⟨g,true,sz,l.map fun c=>c.map V.d⟩=⟨g,true,sz,l.map fun c=>c.map V.d⟩:=by
  unfold renO
  congr 1
  rw[List.map_map]
  exact List.map_congr_left fun c _=>renV_go_data _ c
 rw[e1]
 simp only[List.length_nil,List.take_zero,List.drop_zero,List.map_nil,List.map_cons,e2,putObjs]
 exact hk g
theorem OwnSl.hole {P:Program} {f:FuncId} {args:List V} {sz k:Nat} {l:List (List D)} {s:List VL.Obj} {ob:VL.Obj} {K:V→List VL.Obj→Prop} (h:OwnSl P f args sz l) (ha:args=args.map (renV [])) (hr:refsV.go 0 args=true) (hs:s[k]?=some ob)
  (hk:K (.so k (ob.g + 1) 0 l.length) (s.set k ⟨ob.g + 1,true,sz,l.map fun c=>c.map V.d⟩)):callWp P f args s K:=by
 have h1:callWp P f args s fun v s1=>∃g,v=.so s.length g 0 l.length∧s1=s++[⟨g,true,sz,l.map fun c=>c.map V.d⟩]:=h.call ha hr fun g=>⟨g,rfl,rfl⟩
 refine⟨h1.1,fun σ w vals hI hl hv=>(h1.2 σ w vals hI hl hv).mono fun e w' ⟨u,v,σ',s',k1,k2,k3,k4,g,k5,k6⟩=>?_⟩
 subst k5 k6
 obtain⟨m1,m2,m3⟩:=move_hole hI k2 k3 hs rfl (fun i' j x' hx'=>by
  rw[List.getElem?_map] at hx'
  cases hq:l[i']? with
  | none=>rw[hq] at hx'; cases hx'
  | some c =>
   rw[hq] at hx'
   simp only[Option.map_some,Option.bind_some,List.getElem?_map] at hx'
   obtain⟨d,_,rfl⟩:=Option.map_eq_some_iff.1 hx'
   rfl)
 exact⟨u,_,_,_,k1,m1,m2,m3 _ _ _ k4,hk⟩
theorem downV_go_data (keep:List Nat) (c:List D):downV.go keep (c.map V.d)=c.map V.d:=by
 rw[downV_go,List.map_map]
 exact List.map_congr_left fun x _=>rfl
theorem own_exit {s:List VL.Obj} {id g n m sz:Nat} {els:List (List V)} {l:List (List D)} (ho:s[id]?=some ⟨g,true,sz,els⟩) (he:els=l.map fun c=>c.map V.d) (hn:n=m) :
  ownWp 0 s (.so id g 0 n) fun v s1=>∃g,v=.so 0 g 0 m∧s1=[⟨g,true,sz,l.map fun c=>c.map V.d⟩]:=by
 have hid:=lt_of_get ho
 refine⟨[id],?_,g,?_,?_⟩
 ·simp [keepOk,hid]
 ·simp [downV,hn,List.idxOf?,List.findIdx?_cons]
 ·have hg:s.getD id hole=⟨g,true,sz,els⟩:=by rw[List.getD,ho]; rfl
  simp only[selS,List.map_cons,List.map_nil,hg,downO,he,List.map_map]
  congr 2
  exact List.map_congr_left fun c _=>downV_go_data _ c
def bytesL (l:List Nat):List (List D):=l.map fun b:Nat=>[D.sc (.int .u8 (b:Int))]
def arG (g:Nat) (bs:List Nat):VL.Obj:=⟨g,true,1,bs.map u8V⟩
theorem arG_eq (g:Nat) (bs:List Nat):arG g bs=⟨g,true,1,(bytesL bs).map fun c=>c.map V.d⟩:=by
 unfold arG bytesL
 rw[bytes_up]
theorem bytesL_len (bs:List Nat):(bytesL bs).length=bs.length:=by simp [bytesL]
theorem arG_cut (bs:List Nat):(bs.map u8V).take bs.length=bs.map u8V:=List.take_of_length_le (by simp)
theorem tmod128 (m:Nat):(m:Int).tmod 128=((m % 128:Nat):Int):=by
 rw[Int.tmod_eq_emod_of_nonneg (by omega)]
 omega
theorem tdiv128 (m:Nat):(m:Int).tdiv 128=((m / 128:Nat):Int):=by
 rw[Int.tdiv_eq_ediv_of_nonneg (by omega)]
 omega
theorem refUint_own (m:Nat) (hm:m < 18446744073709551616):OwnSl prog 114 [u64 m] 1 (bytesL (uv m)):=by
 unfold OwnSl
 have h64:m < 2 * 128 ^ (10 - 1):=by
  have:(2:Nat) * 128 ^ (10 - 1)=18446744073709551616:=by decide
  omega
 refine fn_own func114 rfl ntmps114 results114 rfl 0 13 (by simp) (by simp) ?_
 simp only[zX,Nat.reduceShiftRight,Nat.reduceMod,Nat.reduceLT,Nat.reduceMul,Nat.reduceSub,Int.reduceToNat,Int.reduceNeg,Int.reduceLT,Int.reduceLE,Int.reduceEq,Nat.reduceEqDiff,Nat.reduceAdd,Nat.reduceLeDiff,reduceIte,reduceCtorEq,Nat.reduceBEq,u64]
 refine loop_rule (fun n e s=>∃(f m' g:Nat) (done:List Nat),n=f∧1≤f∧m' < 2 * 128 ^ (f - 1)∧m' < 18446744073709551616∧done.length + f≤10∧e 0=u64 m'∧e 3=.so 0 g 0 done.length∧uv m=done++uvF f m'∧s=[arG g done])
  ⟨_,_,_,.of0 (reserveSlot 3 1 rfl),10,m,0,[],rfl,by omega,h64,hm,by simp,rfl,rfl,rfl,rfl⟩ ?_
 rintro n e s ⟨f,m',g,done,rfl,hf1,hlt,hlt2,hdf,h0,h3,huv,rfl⟩
 simp only[u64] at h0
 obtain⟨k,rfl⟩:∃k,n=k + 1:=⟨n - 1,by omega⟩
 by_cases hc:(127:Int) < (m':Int)
 ·have hg:1≤k:=by
   rcases Nat.eq_zero_or_pos k with h | h
   ·subst h; simp at hlt; omega
   ·exact h
  have hpow:2 * 128 ^ (k + 1 - 1)=128 * (2 * 128 ^ (k - 1)):=by
   obtain⟨j,rfl⟩:∃j,k=j + 1:=⟨k - 1,by omega⟩
   simp only[Nat.add_sub_cancel,Nat.pow_succ]; omega
  have hstep:uv m=(done++[m' % 128 + 128])++uvF k (m' / 128):=by
   rw[huv,uvF,if_pos (by omega)]; simp
  have w1:IntKind.u64.wrap (128 + ((m' % 128:Nat):Int))=((m' % 128 + 128:Nat):Int):=by rw[wrapu _ (by omega)]; omega
  have w2:IntKind.u8.wrap ((m' % 128 + 128:Nat):Int)=((m' % 128 + 128:Nat):Int):=by rw[IntKind.wrap_u8]; omega
  have w3:IntKind.u64.wrap ((m' / 128:Nat):Int)=((m' / 128:Nat):Int):=wrapu _ (by omega)
  simp only[zX,Nat.reduceShiftRight,Nat.reduceMod,Nat.reduceLT,Nat.reduceMul,Nat.reduceSub,Int.reduceToNat,Int.reduceNeg,Int.reduceLT,Int.reduceLE,Int.reduceEq,Nat.reduceEqDiff,Nat.reduceAdd,Nat.reduceLeDiff,reduceIte,reduceCtorEq,Nat.reduceBEq,u64,arG,h0,h3,hc,gt_iff_lt,tmod128,tdiv128,w1,w2,w3,arG_cut]
  refine⟨by simp,⟨by simp,by omega⟩,k,_,_,by omega,Cln.refl,k,m' / 128,g + 1,done++[m' % 128 + 128],rfl,hg,by omega,by omega,by simp; omega,?_,?_,hstep,?_⟩ <;> (try simp only[zU,Nat.reduceBEq,Nat.reduceShiftRight,Nat.reduceMod,Nat.reduceEqDiff,reduceIte])
  ·rw[List.length_append]; rfl
  ·simp only[arG,List.map_append,List.map_cons,List.map_nil]; rfl
 ·have hstep:uv m=done++[m']:=by
   rw[huv,uvF,if_neg (by omega)]
  have w8:IntKind.u8.wrap (m':Int)=(m':Int):=by rw[IntKind.wrap_u8]; omega
  rw[hstep]
  simp only[zX,Nat.reduceShiftRight,Nat.reduceMod,Nat.reduceLT,Nat.reduceMul,Nat.reduceSub,Int.reduceToNat,Int.reduceNeg,Int.reduceLT,Int.reduceLE,Int.reduceEq,Nat.reduceEqDiff,Nat.reduceAdd,Nat.reduceLeDiff,reduceIte,reduceCtorEq,Nat.reduceBEq,u64,arG,h0,h3,hc,gt_iff_lt,w8,arG_cut,Qown]
  refine⟨by simp,⟨by simp,by omega⟩,?_⟩
  refine own_exit (id:=0) (g:=g + 1) (sz:=1) (els:=(done++[m']).map u8V) ?_ ?_ ?_
  ·simp [u8V]
  ·rw[bytesL,bytes_up]
  ·simp [bytesL]
theorem refZigzag_ok (n:Int) (hn:I64 n):PureOK prog 115 [i64 n] (u64 (zz n)):=by
 unfold I64 at hn
 by_cases hc:n < 0
 ·have hz:zz n=(-2 * n - 1).toNat:=by unfold zz; rw[if_neg (by omega)]
  have w1:IntKind.i64.wrap (n + 1)=n + 1:=w64 _ (by omega)
  have w2:IntKind.i64.wrap (-(n + 1))=-(n + 1):=w64 _ (by omega)
  have w2':IntKind.i64.wrap (0 - (n + 1))=-(n + 1):=by rw[w64 _ (by omega)]; omega
  have w3:IntKind.u64.wrap (-(n + 1))=-(n + 1):=wrapu _ (by omega)
  have w4:IntKind.u64.wrap (2 * -(n + 1))=2 * -(n + 1):=wrapu _ (by omega)
  have w5:IntKind.u64.wrap (2 * -(n + 1) + 1)=(zz n:Int):=by rw[wrapu _ (by omega),hz]; omega
  refine fn_ok func115 rfl ntmps115 results115 rfl 0 5 (by simp) (by simp) ?_
  simp only[zX,Nat.reduceShiftRight,Nat.reduceMod,Nat.reduceLT,Nat.reduceMul,Nat.reduceSub,Int.reduceToNat,Int.reduceNeg,Int.reduceLT,Int.reduceLE,Int.reduceEq,Nat.reduceEqDiff,Nat.reduceAdd,Nat.reduceLeDiff,reduceIte,reduceCtorEq,Nat.reduceBEq,i64,u64,hc,w1,w2,w2',w3,w4,w5]
 ·have hz:zz n=(2 * n).toNat:=by unfold zz; rw[if_pos (by omega)]
  have w1:IntKind.u64.wrap n=n:=wrapu _ (by omega)
  have w2:IntKind.u64.wrap (2 * n)=(zz n:Int):=by rw[wrapu _ (by omega),hz]; omega
  refine fn_ok func115 rfl ntmps115 results115 rfl 0 5 (by simp) (by simp) ?_
  simp only[zX,Nat.reduceShiftRight,Nat.reduceMod,Nat.reduceLT,Nat.reduceMul,Nat.reduceSub,Int.reduceToNat,Int.reduceNeg,Int.reduceLT,Int.reduceLE,Int.reduceEq,Nat.reduceEqDiff,Nat.reduceAdd,Nat.reduceLeDiff,reduceIte,reduceCtorEq,Nat.reduceBEq,i64,u64,hc,w1,w2]
theorem bytes_exit {g n m:Nat} {bs:List Nat} (hn:n=bs.length) (hm:m=bs.length):ownWp 0 [arG g bs] (.so 0 g 0 n) fun v s1=>∃g,v=.so 0 g 0 m∧s1=[⟨g,true,1,(bytesL bs).map fun c=>c.map V.d⟩] :=
 own_exit (id:=0) (by rfl) (by rw[bytesL,bytes_up]) (by omega)
theorem refInt_own (n:Int) (hn:I64 n):OwnSl prog 95 [i64 n] 1 (bytesL (uv (zz n))):=by
 have hz:=refZigzag_ok n hn
 have hu:=refUint_own (zz n) (zz_lt n hn)
 generalize uv (zz n)=B at *
 unfold OwnSl
 simp only[i64,u64] at *
 refine fn_own func95 rfl ntmps95 results95 rfl 0 5 (by simp) (by simp) ?_
 simp only[zX,Nat.reduceShiftRight,Nat.reduceMod,Nat.reduceLT,Nat.reduceMul,Nat.reduceSub,Int.reduceToNat,Int.reduceNeg,Int.reduceLT,Int.reduceLE,Int.reduceEq,Nat.reduceEqDiff,Nat.reduceAdd,Nat.reduceLeDiff,reduceIte,reduceCtorEq,Nat.reduceBEq,i64]
 refine call_pure hz rfl rfl ?_
 simp only[zX,Nat.reduceShiftRight,Nat.reduceMod,Nat.reduceLT,Nat.reduceMul,Nat.reduceSub,Int.reduceToNat,Int.reduceNeg,Int.reduceLT,Int.reduceLE,Int.reduceEq,Nat.reduceEqDiff,Nat.reduceAdd,Nat.reduceLeDiff,reduceIte,reduceCtorEq,Nat.reduceBEq,i64]
 refine hu.call rfl rfl fun g=>?_
 simp only[zX,Nat.reduceShiftRight,Nat.reduceMod,Nat.reduceLT,Nat.reduceMul,Nat.reduceSub,Int.reduceToNat,Int.reduceNeg,Int.reduceLT,Int.reduceLE,Int.reduceEq,Nat.reduceEqDiff,Nat.reduceAdd,Nat.reduceLeDiff,reduceIte,reduceCtorEq,Nat.reduceBEq,i64,Qown,List.length_nil]
 rw[← arG_eq,bytesL_len]
 exact bytes_exit rfl rfl
theorem refBool_ok (b:Bool):PureOK prog 96 [bV b] (.d (bytesD [if b=true then 1 else 0])):=by
 cases b
 ·refine fn_ok func96 rfl ntmps96 results96 rfl 0 5 (by simp) (by simp) ?_
  simp only[zX,Nat.reduceShiftRight,Nat.reduceMod,Nat.reduceLT,Nat.reduceMul,Nat.reduceSub,Int.reduceToNat,Int.reduceNeg,Int.reduceLT,Int.reduceLE,Int.reduceEq,Nat.reduceEqDiff,Nat.reduceAdd,Nat.reduceLeDiff,reduceIte,reduceCtorEq,Nat.reduceBEq,bV]
  rfl
 ·refine fn_ok func96 rfl ntmps96 results96 rfl 0 5 (by simp) (by simp) ?_
  simp only[zX,Nat.reduceShiftRight,Nat.reduceMod,Nat.reduceLT,Nat.reduceMul,Nat.reduceSub,Int.reduceToNat,Int.reduceNeg,Int.reduceLT,Int.reduceLE,Int.reduceEq,Nat.reduceEqDiff,Nat.reduceAdd,Nat.reduceLeDiff,reduceIte,reduceCtorEq,Nat.reduceBEq,bV]
  rfl
theorem refInts_own (l:List Int) (hl:∀x∈l,I64 x) (hll:l.length≤1000000000) (hb:(intsB l).length≤1000000000):OwnSl prog 116 [.d (intsD l)] 1 (bytesL (intsB l)):=by
 have hu:=refUint_own l.length (by omega)
 have wl:IntKind.u64.wrap (l.length:Int)=(l.length:Int):=wrapu _ (by omega)
 have hlen0:(intsB l).length=(uv l.length).length + (l.flatMap fun x=>uv (zz x)).length:=by unfold intsB; rw[List.length_append]
 unfold OwnSl
 simp only[u64] at hu
 refine fn_own func116 rfl ntmps116 results116 rfl 0 29 (by simp) (by simp) ?_
 simp only[zX,Nat.reduceShiftRight,Nat.reduceMod,Nat.reduceLT,Nat.reduceMul,Nat.reduceSub,Int.reduceToNat,Int.reduceNeg,Int.reduceLT,Int.reduceLE,Int.reduceEq,Nat.reduceEqDiff,Nat.reduceAdd,Nat.reduceLeDiff,reduceIte,reduceCtorEq,Nat.reduceBEq,intsD,iD,wl,List.length_map]
 refine hu.call rfl rfl fun g=>?_
 rw[← arG_eq,bytesL_len]
 simp only[zX,Nat.reduceShiftRight,Nat.reduceMod,Nat.reduceLT,Nat.reduceMul,Nat.reduceSub,Int.reduceToNat,Int.reduceNeg,Int.reduceLT,Int.reduceLE,Int.reduceEq,Nat.reduceEqDiff,Nat.reduceAdd,Nat.reduceLeDiff,reduceIte,reduceCtorEq,Nat.reduceBEq,intsD,iD,List.length_nil]
 refine loop_rule (fun n e s=>∃(i g:Nat),n=l.length - i∧i≤l.length∧e 0=.d (intsD l)∧e 4=i64 i∧e 3=.so 0 g 0 (uv l.length++(l.take i).flatMap fun x=>uv (zz x)).length∧s=[arG g (uv l.length++(l.take i).flatMap fun x=>uv (zz x))])
  ⟨_,_,_,Cln.refl,0,g,rfl,by omega,rfl,rfl,by rw[List.take_zero,List.flatMap_nil,List.append_nil,← bytesL_len]; rfl,by simp⟩ ?_
 rintro n e s ⟨i,g,rfl,hi,h0,h4,h3,rfl⟩
 simp only[i64,intsD,iD] at h0 h4
 rcases Nat.lt_or_ge i l.length with hlt | hge
 ·obtain⟨x,hx⟩:∃x,l[i]?=some x:=⟨_,List.getElem?_eq_getElem hlt⟩
  have hft:=flat_take_le (fun x=>uv (zz x)) l i
  have hw:=(refInt_own x (hl x (List.mem_of_getElem? hx))).pure
  have hlt':(i:Int) < (l.length:Int):=by omega
  have wi:IntKind.i64.wrap ((i:Int) + 1)=((i + 1:Nat):Int):=by rw[w64 _ (by omega)]; omega
  have hnext:uv l.length++(l.take (i + 1)).flatMap (fun x=>uv (zz x))=(uv l.length++(l.take i).flatMap fun x=>uv (zz x))++uv (zz x):=by
   rw[take_get hx,List.flatMap_append]
   simp [List.append_assoc]
  have hxl:(uv (zz x)).length≤11:=uv_len _
  have hdl:(uv l.length++(l.take i).flatMap fun x=>uv (zz x)).length≤1000000000:=by rw[List.length_append]; omega
  generalize hD:(uv l.length++(l.take i).flatMap fun x=>uv (zz x))=DD at *
  generalize uv (zz x)=U at *
  simp only[i64] at hw
  simp only[zX,Nat.reduceShiftRight,Nat.reduceMod,Nat.reduceLT,Nat.reduceMul,Nat.reduceSub,Int.reduceToNat,Int.reduceNeg,Int.reduceLT,Int.reduceLE,Int.reduceEq,Nat.reduceEqDiff,Nat.reduceAdd,Nat.reduceLeDiff,reduceIte,reduceCtorEq,Nat.reduceBEq,i64,intsD,iD,h0,h3,h4,hlt',List.length_map,List.getElem?_map,hx,Option.map_some]
  refine call_pure hw rfl rfl ?_
  simp only[zX,Nat.reduceShiftRight,Nat.reduceMod,Nat.reduceLT,Nat.reduceMul,Nat.reduceSub,Int.reduceToNat,Int.reduceNeg,Int.reduceLT,Int.reduceLE,Int.reduceEq,Nat.reduceEqDiff,Nat.reduceAdd,Nat.reduceLeDiff,reduceIte,reduceCtorEq,Nat.reduceBEq,i64,intsD,iD,h0,h3,h4,bytesL,arG,bytes_up,arG_cut,List.length_map,wi]
  refine⟨?_,⟨by omega,by omega⟩,l.length - (i + 1),_,_,by omega,Cln.refl,i + 1,g + 1,rfl,hlt,?_,?_,?_,?_⟩ <;> (try simp only[zU,Nat.reduceBEq,Nat.reduceShiftRight,Nat.reduceMod,Nat.reduceEqDiff,reduceIte])
  ·intro e he
   obtain⟨b,_,rfl⟩:=List.mem_map.1 he
   rfl
  ·exact h0
  ·rw[hnext,List.length_append]
  ·rw[hnext]; simp only[arG,List.map_append]
 ·have hie:i=l.length:=by omega
  subst hie
  rw[List.take_length] at h3 ⊢
  have hB:(uv l.length++l.flatMap fun x=>uv (zz x))=intsB l:=rfl
  rw[hB] at h3 ⊢
  simp only[zX,Nat.reduceShiftRight,Nat.reduceMod,Nat.reduceLT,Nat.reduceMul,Nat.reduceSub,Int.reduceToNat,Int.reduceNeg,Int.reduceLT,Int.reduceLE,Int.reduceEq,Nat.reduceEqDiff,Nat.reduceAdd,Nat.reduceLeDiff,reduceIte,reduceCtorEq,Nat.reduceBEq,i64,intsD,iD,h0,h3,h4,Int.lt_irrefl,List.length_map,Qown,bytesL_len]
  exact bytes_exit rfl rfl
end Go.Proofs.Ytafbdphblilenaa
