/- A part of the proof (F53 F54). -/
import Derived.Test.YtafbdphblilenaaAB2
import Derived.Test.YtafbdphblilenaaAB6
set_option linter.unusedSimpArgs false
set_option linter.unusedVariables false
set_option maxRecDepth 100000
set_option maxHeartbeats 80000000
set_option linter.unusedSimpArgs false
set_option linter.unusedVariables false
namespace Go.Proofs.Ytafbdphblilenaa
open Go.VL Go.Proofs.Try
def uvF:Nat→Nat→List Nat
 | 0,m=>[m % 256]
 | f + 1,m=>if 128≤m then (m % 128 + 128)::uvF f (m / 128) else [m]
def uv (m:Nat):List Nat:=uvF 10 m
theorem uvF_len:∀f m,(uvF f m).length≤f + 1
 | 0,m=>by simp [uvF]
 | f + 1,m=>by
  simp only[uvF]
  split
  ·have:=uvF_len f (m / 128); simp only[List.length_cons]; omega
  ·simp
def zz (n:Int):Nat:=if 0≤n then (2 * n).toNat else (-2 * n - 1).toNat
def u8V (b:Nat):List V:=[V.d (.sc (.int .u8 (b:Int)))]
def wO (bs:List Nat):VL.Obj:=⟨0,true,1,[[.so 1 bs.length 0 bs.length]]⟩
def arO (bs:List Nat):VL.Obj:=⟨bs.length,true,1,bs.map u8V⟩
def u64 (n:Nat):V:=.d (.sc (.int .u64 (n:Int)))
theorem or128 (m:Nat):bitV .or .u8 (IntKind.u8.wrap (m:Int)) 128=((m % 128 + 128:Nat):Int):=by
 have h:∀x:Nat,x < 256→bitV .or .u8 (x:Int) 128=((x % 128 + 128:Nat):Int):=by decide
 have e:IntKind.u8.wrap (m:Int)=((m % 256:Nat):Int):=by rw[IntKind.wrap_u8]; omega
 rw[e,h _ (by omega)]
 omega
theorem shr7 (m:Nat) (h:m < 18446744073709551616):shV .shr .u64 (m:Int) 7=((m / 128:Nat):Int):=by
 show (m:Int).fdiv (2 ^ min (7:Int).toNat IntKind.u64.bits)=_
 have:(2:Int) ^ min (7:Int).toNat IntKind.u64.bits=128:=by decide
 rw[this,Int.fdiv_eq_ediv_of_nonneg _ (by omega)]
 omega
theorem uint_ok (m:Nat) (hm:m < 18446744073709551616) (bs:List Nat) (hb:bs.length≤1000000000):callWp prog 111 [.rf 0 0 0 0,u64 m] [wO bs,arO bs] fun v s=>v=.tu []∧s=[wO (bs++uv m),arO (bs++uv m)]:=by
 have h64:m < 2 * 128 ^ (10 - 1):=by
  have:(2:Nat) * 128 ^ (10 - 1)=18446744073709551616:=by decide
  omega
 refine fn_ok func111 rfl ntmps111 results111 rfl 2 3 (by simp) (by simp) ?_
 simp only[zX,Nat.reduceShiftRight,Nat.reduceMod,Nat.reduceLT,Nat.reduceMul,Nat.reduceSub,Int.reduceToNat,Int.reduceNeg,Int.reduceLT,Int.reduceLE,Int.reduceEq,Nat.reduceEqDiff,Nat.reduceAdd,Nat.reduceLeDiff,reduceIte,reduceCtorEq,Nat.reduceBEq,u64,wO,arO]
 refine loop_rule (fun n e s=>∃(f m':Nat) (done:List Nat),n=f∧1≤f∧m' < 2 * 128 ^ (f - 1)∧m' < 18446744073709551616∧done.length≤10∧done.length + f≤10∧e 0=.rf 0 0 0 0∧e 1=u64 m'∧uv m=done++uvF f m'∧s=[wO (bs++done),arO (bs++done)])
  ⟨_,_,_,Cln.refl,10,m,[],rfl,by omega,h64,hm,by simp,by simp,rfl,rfl,rfl,by simp [wO,arO]⟩ ?_
 rintro n e s ⟨f,m',done,rfl,hf1,hlt,hlt2,hd,hdf,h0,h1,huv,rfl⟩
 have hL:(bs++done).length≤1000000010:=by rw[List.length_append]; omega
 have hcons:∀x,uv m=done++[x]→True:=fun _ _=>trivial
 have hcut:∀l:List Nat,(l.map u8V).take l.length=l.map u8V:=fun l=>List.take_of_length_le (by simp)
 by_cases hc:(128:Int)≤(m':Int)
 ·obtain⟨g,rfl⟩:∃g,n=g + 1:=⟨n - 1,by omega⟩
  have hg:1≤g:=by
   rcases Nat.eq_zero_or_pos g with h | h
   ·subst h; simp at hlt; omega
   ·exact h
  have hpow:2 * 128 ^ (g + 1 - 1)=128 * (2 * 128 ^ (g - 1)):=by
   obtain⟨k,rfl⟩:∃k,g=k + 1:=⟨g - 1,by omega⟩
   simp only[Nat.add_sub_cancel,Nat.pow_succ]; omega
  have hstep:uv m=(done++[m' % 128 + 128])++uvF g (m' / 128):=by
   rw[huv,uvF,if_pos (by omega)]; simp
  simp only[zX,Nat.reduceShiftRight,Nat.reduceMod,Nat.reduceLT,Nat.reduceMul,Nat.reduceSub,Int.reduceToNat,Int.reduceNeg,Int.reduceLT,Int.reduceLE,Int.reduceEq,Nat.reduceEqDiff,Nat.reduceAdd,Nat.reduceLeDiff,reduceIte,reduceCtorEq,Nat.reduceBEq,u64,wO,arO,h0,h1,hc,or128,shr7 m' hlt2]
  rw[hcut]
  refine⟨by simp,⟨by simp,by omega⟩,g,_,_,by omega,Cln.refl,g,m' / 128,done++[m' % 128 + 128],rfl,hg,by omega,by omega,by simp; omega,by simp; omega,?_,?_,hstep,?_⟩ <;> (try simp only[zU,Nat.reduceBEq,Nat.reduceShiftRight,Nat.reduceMod,Nat.reduceEqDiff,reduceIte])
  ·exact h0
  ·rw[← List.append_assoc]
   simp [wO,arO,u8V,Nat.add_assoc]
 ·obtain⟨g,rfl⟩:∃g,n=g + 1:=⟨n - 1,by omega⟩
  have hstep:uv m=done++[m']:=by
   rw[huv,uvF,if_neg (by omega)]
  have w8:IntKind.u8.wrap (m':Int)=(m':Int):=by rw[IntKind.wrap_u8]; omega
  rw[hstep]
  simp only[zX,Nat.reduceShiftRight,Nat.reduceMod,Nat.reduceLT,Nat.reduceMul,Nat.reduceSub,Int.reduceToNat,Int.reduceNeg,Int.reduceLT,Int.reduceLE,Int.reduceEq,Nat.reduceEqDiff,Nat.reduceAdd,Nat.reduceLeDiff,reduceIte,reduceCtorEq,Nat.reduceBEq,u64,wO,arO,h0,h1,hc,w8]
  rw[hcut]
  refine⟨by simp,⟨by simp,by omega⟩,?_⟩
  rw[← List.append_assoc]
  simp [wO,arO,u8V,refsV,Nat.add_assoc]
theorem call_same {P:Program} {f:FuncId} {args:List V} {s s1:List VL.Obj} {r:V} {K:V→List VL.Obj→Prop} (h:callWp P f args s fun v s'=>v=r∧s'=s1) (hk:K r s1):callWp P f args s K :=
 callWp_mono h (by rintro v s' ⟨rfl,rfl⟩; exact hk)
theorem all_u8 (n:Nat) (l:List Nat):((l.map u8V).all fun e=>e.all (refsV n))=true:=by
 simp [u8V,refsV]
theorem zz_lt (n:Int) (h:I64 n):zz n < 18446744073709551616:=by
 unfold I64 at h; unfold zz; split <;> omega
theorem wrapu (n:Int) (h:0≤n∧n≤18446744073709551615):IntKind.u64.wrap n=n:=IntWalk.u64_in n h
theorem wrapu_eq (n:Int):IntKind.u64.wrap n=n % 18446744073709551616:=by
 simp [IntKind.wrap,IntKind.bits,IntKind.signed]
theorem zz_eq (n:Int) (h:I64 n):bitV .xor .u64 (shV .shl .u64 (IntKind.u64.wrap n) 1) (IntKind.u64.wrap (shV .shr .i64 n 63))=(zz n:Int):=by
 unfold I64 at h
 have e1:shV .shl .u64 (IntKind.u64.wrap n) 1=(2 * n) % 18446744073709551616:=by
  show IntKind.u64.wrap (IntKind.u64.wrap n * 2 ^ min (1:Int).toNat IntKind.u64.bits)=_
  have:(2:Int) ^ min (1:Int).toNat IntKind.u64.bits=2:=by decide
  rw[this,wrapu_eq,wrapu_eq]; omega
 have e2:shV .shr .i64 n 63=if 0≤n then 0 else -1:=by
  show n.fdiv (2 ^ min (63:Int).toNat IntKind.i64.bits)=_
  have:(2:Int) ^ min (63:Int).toNat IntKind.i64.bits=9223372036854775808:=by decide
  rw[this,Int.fdiv_eq_ediv_of_nonneg _ (by omega)]
  split <;> omega
 rw[e1,e2]
 unfold zz
 split
 ·have w0:IntKind.u64.wrap 0=0:=wrapu 0 (by omega)
  rw[w0]
  show IntKind.u64.wrap ((BitVec.ofInt 64 ((2 * n) % 18446744073709551616) ^^^ BitVec.ofInt 64 0).toNat:Int)=_
  have z:BitVec.ofInt 64 0=0#64:=by decide
  rw[z,BitVec.xor_zero,BitVec.toNat_ofInt,wrapu_eq]
  omega
 ·have w1:IntKind.u64.wrap (-1)=18446744073709551615:=by rw[wrapu_eq]; decide
  rw[w1]
  show IntKind.u64.wrap ((BitVec.ofInt 64 ((2 * n) % 18446744073709551616) ^^^ BitVec.ofInt 64 18446744073709551615).toNat:Int)=_
  have z:BitVec.ofInt 64 18446744073709551615=BitVec.allOnes 64:=by decide
  rw[z,BitVec.xor_allOnes,BitVec.toNat_not,BitVec.toNat_ofInt,wrapu_eq]
  omega
theorem wint_ok (n:Int) (hn:I64 n) (bs:List Nat) (hb:bs.length≤1000000000):callWp prog 85 [.rf 0 0 0 0,i64 n] [wO bs,arO bs] fun v s=>v=.tu []∧s=[wO (bs++uv (zz n)),arO (bs++uv (zz n))]:=by
 have hz:=zz_eq n hn
 have hu:=uint_ok (zz n) (zz_lt n hn) bs hb
 simp only[u64] at hu
 refine fn_ok func85 rfl ntmps85 results85 rfl 2 3 (by simp) (by simp) ?_
 simp only[zX,Nat.reduceShiftRight,Nat.reduceMod,Nat.reduceLT,Nat.reduceMul,Nat.reduceSub,Int.reduceToNat,Int.reduceNeg,Int.reduceLT,Int.reduceLE,Int.reduceEq,Nat.reduceEqDiff,Nat.reduceAdd,Nat.reduceLeDiff,reduceIte,reduceCtorEq,Nat.reduceBEq,i64,hz]
 refine call_same hu ?_
 simp only[zX,Nat.reduceShiftRight,Nat.reduceMod,Nat.reduceLT,Nat.reduceMul,Nat.reduceSub,Int.reduceToNat,Int.reduceNeg,Int.reduceLT,Int.reduceLE,Int.reduceEq,Nat.reduceEqDiff,Nat.reduceAdd,Nat.reduceLeDiff,reduceIte,reduceCtorEq,Nat.reduceBEq,wO,arO,all_u8]
 try all_goals first | exact⟨rfl,rfl⟩ | exact⟨rfl,trivial⟩ | rfl | trivial | (rw[reV_eq]; rfl)
theorem wbool_ok (b:Bool) (bs:List Nat) (hb:bs.length≤1000000000):callWp prog 86 [.rf 0 0 0 0,bV b] [wO bs,arO bs] fun v s=>v=.tu []∧s=[wO (bs++[if b=true then 1 else 0]),arO (bs++[if b=true then 1 else 0])]:=by
 have hcut:∀l:List Nat,(l.map u8V).take l.length=l.map u8V:=fun l=>List.take_of_length_le (by simp)
 cases b
 ·refine fn_ok func86 rfl ntmps86 results86 rfl 2 3 (by simp) (by simp) ?_
  simp only[zX,Nat.reduceShiftRight,Nat.reduceMod,Nat.reduceLT,Nat.reduceMul,Nat.reduceSub,Int.reduceToNat,Int.reduceNeg,Int.reduceLT,Int.reduceLE,Int.reduceEq,Nat.reduceEqDiff,Nat.reduceAdd,Nat.reduceLeDiff,reduceIte,reduceCtorEq,Nat.reduceBEq,bV,wO,arO]
  rw[hcut]
  refine⟨by simp,⟨by simp,by omega⟩,?_⟩
  simp [wO,arO,u8V,refsV,Nat.add_assoc]
 ·refine fn_ok func86 rfl ntmps86 results86 rfl 2 3 (by simp) (by simp) ?_
  simp only[zX,Nat.reduceShiftRight,Nat.reduceMod,Nat.reduceLT,Nat.reduceMul,Nat.reduceSub,Int.reduceToNat,Int.reduceNeg,Int.reduceLT,Int.reduceLE,Int.reduceEq,Nat.reduceEqDiff,Nat.reduceAdd,Nat.reduceLeDiff,reduceIte,reduceCtorEq,Nat.reduceBEq,bV,wO,arO]
  rw[hcut]
  refine⟨by simp,⟨by simp,by omega⟩,?_⟩
  simp [wO,arO,u8V,refsV,Nat.add_assoc]
def intsB (l:List Int):List Nat:=uv l.length++l.flatMap fun x=>uv (zz x)
theorem flat_take_le {α β:Type} (f:α→List β) (l:List α) (i:Nat):((l.take i).flatMap f).length≤(l.flatMap f).length:=by
 conv=>rhs; rw[← List.take_append_drop i l]
 rw[List.flatMap_append,List.length_append]; omega
theorem wints_ok (l:List Int) (hl:∀x∈l,I64 x) (hll:l.length≤1000000000) (bs:List Nat) (hb:bs.length + (intsB l).length≤1000000000):callWp prog 88 [.rf 0 0 0 0,.d (intsD l)] [wO bs,arO bs] fun v s=>v=.tu []∧s=[wO (bs++intsB l),arO (bs++intsB l)]:=by
 have hu:=uint_ok l.length (by omega) bs (by omega)
 have wl:IntKind.u64.wrap (l.length:Int)=(l.length:Int):=wrapu _ (by omega)
 have hlen0:(intsB l).length=(uv l.length).length + (l.flatMap fun x=>uv (zz x)).length:=by unfold intsB; rw[List.length_append]
 simp only[u64] at hu
 refine fn_ok func88 rfl ntmps88 results88 rfl 2 14371 (by simp) (by simp) ?_
 simp only[zX,Nat.reduceShiftRight,Nat.reduceMod,Nat.reduceLT,Nat.reduceMul,Nat.reduceSub,Int.reduceToNat,Int.reduceNeg,Int.reduceLT,Int.reduceLE,Int.reduceEq,Nat.reduceEqDiff,Nat.reduceAdd,Nat.reduceLeDiff,reduceIte,reduceCtorEq,Nat.reduceBEq,intsD,iD,wl]
 refine call_same hu ?_
 simp only[zX,Nat.reduceShiftRight,Nat.reduceMod,Nat.reduceLT,Nat.reduceMul,Nat.reduceSub,Int.reduceToNat,Int.reduceNeg,Int.reduceLT,Int.reduceLE,Int.reduceEq,Nat.reduceEqDiff,Nat.reduceAdd,Nat.reduceLeDiff,reduceIte,reduceCtorEq,Nat.reduceBEq,intsD,iD]
 refine loop_rule (fun n e s=>∃i:Nat,n=l.length - i∧i≤l.length∧e 0=.rf 0 0 0 0∧e 11=.d (intsD l)∧e 12=i64 l.length∧e 13=i64 i∧s=[wO (bs++(uv l.length++(l.take i).flatMap fun x=>uv (zz x))),arO (bs++(uv l.length++(l.take i).flatMap fun x=>uv (zz x)))])
  ⟨_,_,_,Cln.refl,0,rfl,by omega,rfl,rfl,rfl,rfl,by simp⟩ ?_
 rintro n e s ⟨i,rfl,hi,h0,h11,h12,h13,rfl⟩
 rcases Nat.lt_or_ge i l.length with hlt | hge
 ·obtain⟨x,hx⟩:∃x,l[i]?=some x:=⟨_,List.getElem?_eq_getElem hlt⟩
  have hft:=flat_take_le (fun x=>uv (zz x)) l i
  have hw:=wint_ok x (hl x (List.mem_of_getElem? hx)) (bs++(uv l.length++(l.take i).flatMap fun x=>uv (zz x))) (by simp only[List.length_append]; omega)
  simp only[i64] at hw
  simp only[zX,Nat.reduceShiftRight,Nat.reduceMod,Nat.reduceLT,Nat.reduceMul,Nat.reduceSub,Int.reduceToNat,Int.reduceNeg,Int.reduceLT,Int.reduceLE,Int.reduceEq,Nat.reduceEqDiff,Nat.reduceAdd,Nat.reduceLeDiff,reduceIte,reduceCtorEq,Nat.reduceBEq,i64,intsD,iD,h0,h11,h12,h13,hlt,hx]
  refine call_same hw ?_
  simp only[zX,Nat.reduceShiftRight,Nat.reduceMod,Nat.reduceLT,Nat.reduceMul,Nat.reduceSub,Int.reduceToNat,Int.reduceNeg,Int.reduceLT,Int.reduceLE,Int.reduceEq,Nat.reduceEqDiff,Nat.reduceAdd,Nat.reduceLeDiff,reduceIte,reduceCtorEq,Nat.reduceBEq,i64,intsD,iD,h0,h11,h12,h13]
  refine⟨l.length - (i + 1),_,_,by omega,Cln.refl,i + 1,rfl,hlt,?_,?_,?_,?_,?_⟩ <;> (try simp only[zU,Nat.reduceBEq,Nat.reduceShiftRight,Nat.reduceMod,Nat.reduceEqDiff,reduceIte])
  ·exact h0
  ·exact h11
  ·exact h12
  ·rw[w64 _ (by omega)]; rfl
  ·rw[take_get hx,List.flatMap_append]
   simp [List.append_assoc]
 ·have hie:i=l.length:=by omega
  subst hie
  rw[List.take_length]
  simp only[zX,Nat.reduceShiftRight,Nat.reduceMod,Nat.reduceLT,Nat.reduceMul,Nat.reduceSub,Int.reduceToNat,Int.reduceNeg,Int.reduceLT,Int.reduceLE,Int.reduceEq,Nat.reduceEqDiff,Nat.reduceAdd,Nat.reduceLeDiff,reduceIte,reduceCtorEq,Nat.reduceBEq,i64,h0,h11,h12,h13,Nat.lt_irrefl]
  show _∧_
  simp [intsB,wO,arO,objOk,refsV,u8V]
def bytesD (l:List Nat):D:=.sl (l.map fun b:Nat=>[D.sc (.int .u8 (b:Int))])
theorem wdone_ok (bs:List Nat) (hb:bs.length≤1000000000):callWp prog 90 [.rf 0 0 0 0] [wO bs,arO bs] fun v s=>v=.d (bytesD bs)∧s=[wO bs,arO bs]:=by
 have hcut:∀l:List Nat,(l.map u8V).take l.length=l.map u8V:=fun l=>List.take_of_length_le (by simp)
 have e8:bs.map u8V=(bs.map fun b:Nat=>[D.sc (.int .u8 (b:Int))]).map (fun c=>c.map V.d):=by simp [u8V]
 refine fn_ok func90 rfl ntmps90 results90 rfl 2 5 (by simp) (by simp) ?_
 simp only[zX,Nat.reduceShiftRight,Nat.reduceMod,Nat.reduceLT,Nat.reduceMul,Nat.reduceSub,Int.reduceToNat,Int.reduceNeg,Int.reduceLT,Int.reduceLE,Int.reduceEq,Nat.reduceEqDiff,Nat.reduceAdd,Nat.reduceLeDiff,reduceIte,reduceCtorEq,Nat.reduceBEq,wO,arO,hcut,Nat.zero_add,Nat.le_refl,all_u8,List.length_map]
 refine⟨by intro e he; obtain⟨b,_,rfl⟩:=List.mem_map.1 he; rfl,⟨by omega,by simp⟩,?_⟩
 have hm:∀(n lim:Nat) (s:List VL.Obj),(bs.map u8V).mapM (fun (e:List V)=>e.mapM (frzD n lim s))=some (bs.map fun b:Nat=>[D.sc (.int .u8 (b:Int))]):=fun n lim s=>by rw[e8,mapM_frzE]
 rw[hm]
 rfl
end Go.Proofs.Ytafbdphblilenaa
