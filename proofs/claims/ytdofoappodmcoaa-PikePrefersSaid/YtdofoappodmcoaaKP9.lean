/- A part of the proof (K1 K2 K3). -/
import Derived.Test.YtdofoappodmcoaaKP6
import Derived.Test.YtdofoappodmcoaaKP7
import Derived.Test.YtdofoappodmcoaaKP8
set_option linter.unusedSimpArgs false
set_option linter.unusedVariables false
set_option maxRecDepth 100000
set_option maxHeartbeats 80000000
namespace Go.Proofs.Ytdofoappodmcoaa
open Go.VL Go.Proofs.Try
structure Ins where
 op:Int
 x:Int
 y:Int
 n:Int
 set:List (Int × Int)
def Ins.cells (i:Ins):List D:=[iD i.op,iD i.x,iD i.y,iD i.n,.sl (i.set.map spanC)]
structure Prg where
 ins:List Ins
 caps:Int
 runes:Bool
def Prg.cells (g:Prg):List D:=[.sl (g.ins.map Ins.cells),iD g.caps,bD g.runes]
def prgV (g:Prg):V:=.ag (g.cells.map .d)
theorem prgV_eq (g:Prg):prgV g=.ag [.d (.sl (g.ins.map Ins.cells)),.d (iD g.caps),.d (bD g.runes)]:=rfl
mutual
def Re.comp:Re→List Int→Bool
 | .mk op _ kids _ _ mode n _,a =>
  if op=4∧(mode=2∨Re.nul1 kids=true) then false
  else if op=5∧n∈a then false
  else if 5 < op∧op≠11 then false
  else Re.compL kids (if op=5 then a++[n] else a)
def Re.compL:List Re→List Int→Bool
 | [],_=>true
 | k::l,a=>k.comp a&&Re.compL l a
end
theorem Re.compL_all:∀(l:List Re) (a:List Int),Re.compL l a=l.all fun k=>k.comp a
 | [],_=>by simp [Re.compL]
 | k::l,a=>by simp [Re.compL,Re.compL_all l a]
theorem Re.comp_eq (re:Re) (a:List Int):re.comp a=if re.op=4∧(re.mode=2∨Re.nul1 re.kids=true) then false
  else if re.op=5∧re.n∈a then false
  else if 5 < re.op∧re.op≠11 then false
  else re.kids.all fun k=>k.comp (if re.op=5 then a++[re.n] else a):=by
 cases re; simp only[Re.comp,Re.compL_all,Re.op,Re.kids,Re.mode,Re.n]; rfl
def cszN (op mn mx:Int) (k n:Int):Int :=
 min (if op=1∨op=11 then 1 else if op=3 then n + 2 * k - 2 else if op=5 then n + 2 else if op=4 then (if mx=-1 then (mn + 1) * n + 2 else mx * n + mx - mn) else n) 10000
mutual
def Re.csz:Re→Int
 | .mk op _ kids mn mx _ _ _=>cszN op mn mx kids.length (Re.cszL kids)
def Re.cszL:List Re→Int
 | []=>0
 | k::l=>k.csz + Re.cszL l
end
theorem Re.csz_eq (re:Re):re.csz=cszN re.op re.mn re.mx re.kids.length (Re.cszL re.kids):=by
 cases re; simp only[Re.csz,Re.op,Re.kids,Re.mn,Re.mx]
theorem Re.cszL_snoc:∀(l:List Re) (k:Re),Re.cszL (l++[k])=Re.cszL l + k.csz
 | [],k=>by simp [Re.cszL]
 | x::l,k=>by simp only[List.cons_append,Re.cszL,Re.cszL_snoc l k]; omega
def jmpI (x:Int):Ins:=⟨3,x,0,0,[]⟩
def savI (n:Int):Ins:=⟨4,0,0,n,[]⟩
def splI (mode a b:Int):Ins:=if mode=1 then ⟨2,b,a,0,[]⟩ else ⟨2,a,b,0,[]⟩
def repPre (c:Int→List Ins):Nat→Int→List Ins
 | 0,_=>[]
 | k + 1,f=>repPre c k f++c (f + (repPre c k f).length)
def repPost (c:Int→List Ins) (mode:Int) (fin:Int):Nat→Int→List Ins
 | 0,_=>[]
 | k + 1,f=>repPost c mode fin k f++splI mode (f + (repPost c mode fin k f).length + 1) fin::c (f + (repPost c mode fin k f).length + 1)
def repC (c:Int→List Ins) (mn mx mode sz:Int) (f:Int):List Ins :=
 let pre:=repPre c mn.toNat f
 if mx=-1 then
  let kid:=c (f + pre.length + 1)
  pre++splI mode (f + pre.length + 1) (f + pre.length + kid.length + 2)::(kid++[jmpI (f + pre.length)])
 else pre++repPost c mode (f + sz) (mx - mn).toNat (f + pre.length)
mutual
def Re.code:Re→Int→List Ins
 | .mk op set kids mn mx mode n _,f =>
  if op=1 then [⟨1,0,0,0,set⟩] else if op=11 then [⟨5,0,0,n,[]⟩] else if op=2 then Re.codeCat kids f
  else if op=3 then Re.codeAlt kids f
  else if op=5 then savI (2 * n - 2)::(Re.code0 kids (f + 1)++[savI (2 * n - 1)])
  else if op=4 then repC (fun i=>Re.code0 kids i) mn mx mode (cszN op mn mx kids.length (Re.cszL kids)) f
  else []
def Re.codeCat:List Re→Int→List Ins
 | [],_=>[]
 | k::l,f=>k.code f++Re.codeCat l (f + (k.code f).length)
def Re.codeAlt:List Re→Int→List Ins
 | [],_=>[]
 | k::l,f=>match l with
  | []=>k.code f
  | _::_=>splI 0 (f + 1) (f + (k.code (f + 1)).length + 2)::(k.code (f + 1)++jmpI (f + (k.code (f + 1)).length + 2 + (Re.codeAlt l (f + (k.code (f + 1)).length + 2)).length)::Re.codeAlt l (f + (k.code (f + 1)).length + 2))
def Re.code0:List Re→Int→List Ins
 | [],_=>[]
 | k::_,f=>k.code f
end
theorem Re.code_eq (re:Re) (f:Int):re.code f=if re.op=1 then [⟨1,0,0,0,re.set⟩] else if re.op=11 then [⟨5,0,0,re.n,[]⟩] else if re.op=2 then Re.codeCat re.kids f
  else if re.op=3 then Re.codeAlt re.kids f
  else if re.op=5 then savI (2 * re.n - 2)::(Re.code0 re.kids (f + 1)++[savI (2 * re.n - 1)])
  else if re.op=4 then repC (fun i=>Re.code0 re.kids i) re.mn re.mx re.mode re.csz f
  else []:=by
 cases re; rw[Re.code,Re.csz]; rfl
theorem Re.codeCat_snoc:∀(l:List Re) (k:Re) (f:Int),Re.codeCat (l++[k]) f=Re.codeCat l f++k.code (f + (Re.codeCat l f).length)
 | [],k,f=>by simp [Re.codeCat]
 | x::l,k,f=>by
  simp only[List.cons_append,Re.codeCat,Re.codeCat_snoc l k,List.append_assoc,List.length_append]
  congr 3
  omega
def kshB (re:Re):Bool:=decide ((re.op=4∨re.op=5→1≤re.kids.length)∧(re.op=3→2≤re.kids.length)∧re.kids.length≤1000∧re.set.length≤1000000∧0≤re.mn∧re.mn≤32∧-1≤re.mx∧re.mx≤32∧(re.mx=-1∨re.mx=0∨re.mn≤re.mx)∧I64 re.n∧re.n≤1000000∧-1000000≤re.n)
theorem kshB_iff {re:Re}:kshB re=true ↔ ((re.op=4∨re.op=5→1≤re.kids.length)∧(re.op=3→2≤re.kids.length)∧re.kids.length≤1000∧re.set.length≤1000000∧0≤re.mn∧re.mn≤32∧-1≤re.mx∧re.mx≤32∧(re.mx=-1∨re.mx=0∨re.mn≤re.mx)∧I64 re.n∧re.n≤1000000∧-1000000≤re.n):=decide_eq_true_iff
theorem comp_ok (re:Re):∀a:List Int,re.every kshB=true→re.size≤1000000→a.length + re.size≤2000000→PureOK prog 44 [reV re,.d (intsD a)] (bV (re.comp a)):=by
 induction re using Re.ind with
 | h re ih =>
 intro a hs hz ha
 obtain⟨hs1,hs2⟩:=(Re.every_iff re).1 hs
 obtain⟨q1,q2,q3,q4,q5,q6,q7,q8,q9,q10⟩:=kshB_iff.1 hs1
 have hsz:=Re.size_eq re
 -- the loop over the kids
 have hkids:∀a':List Int,a'.length≤a.length + 1→∀k∈re.kids,PureOK prog 44 [reV k,.d (intsD a')] (bV (k.comp a')):=fun a' ha' k hk =>
  ih k hk a' (hs2 k hk) (by have:=Re.size_kid hk; omega) (by have:=Re.size_kid hk; omega)
 by_cases c1:re.op=4∧(re.mode=2∨Re.nul1 re.kids=true)
 ·rw[Re.comp_eq,if_pos c1]
  obtain⟨o4,c1⟩:=c1
  obtain⟨k,l,hk⟩:=List.exists_cons_of_length_pos (q1 (.inl o4))
  have hm:k∈re.kids:=by rw[hk]; simp
  have hk0:re.kids[0]?=some k:=by rw[hk]; rfl
  have hlen:(0:Int) < (re.kids.length:Int):=by rw[hk]; simp
  have hn:=refNullable_ok k (by have:=Re.size_kid hm; omega)
  rw[hk] at c1
  by_cases cm:re.mode=2
  ·refine fn_ok func44 rfl ntmps44 results44 rfl 0 247 (by simp) (by simp) ?_
   simp only[zX,simprocAttr,i64,reV_eq re,iD,bD,o4,cm]
   rfl
  ·have cn:k.nul=true:=c1.resolve_left cm
   rw[cn] at hn
   refine fn_ok func44 rfl ntmps44 results44 rfl 0 247 (by simp) (by simp) ?_
   simp only[zX,simprocAttr,i64,reV_eq re,iD,bD,o4,cm,hk0,hlen]
   refine call_pure hn (by simp [refsV,refsV.go,reV_eq,i64,bV,reEl]) (by simp [refsV,refsV.go,reV_eq,i64,bV,reEl]) ?_
   simp only[zX,simprocAttr,i64,reV_eq re,iD,bD,bV]
 have c1':¬(re.op=4∧(re.mode=2∨Re.nul1 re.kids=true)):=c1
 by_cases c2:re.op=5
 ·have hh:=has_ok a re.n (by omega)
  by_cases c3:re.n∈a
  ·rw[Re.comp_eq,if_neg c1,if_pos ⟨c2,c3⟩]
   rw[decide_eq_true c3] at hh
   refine fn_ok func44 rfl ntmps44 results44 rfl 0 247 (by simp) (by simp) ?_
   simp only[zX,simprocAttr,i64,reV_eq re,iD,bD,c2,intsD]
   refine call_pure hh rfl rfl ?_
   simp only[zX,simprocAttr,i64,reV_eq re,iD,bD,bV,c2]
  ·rw[Re.comp_eq,if_neg c1,if_neg (fun h=>c3 h.2),if_neg (by omega),if_pos c2]
   rw[decide_eq_false c3] at hh
   have hel:∀e∈(a.map fun x=>[iD x]).map (fun x=>x.map V.d),e.length=1:=fun e he=>by
    obtain⟨x,hx,rfl⟩:=List.mem_map.1 he
    obtain⟨p,_,rfl⟩:=List.mem_map.1 hx
    rfl
   refine fn_ok func44 rfl ntmps44 results44 rfl 0 247 (by simp) (by simp) ?_
   simp only[zX,simprocAttr,i64,reV_eq re,iD,bD,c2,intsD]
   refine call_pure hh rfl rfl ?_
   simp only[zX,simprocAttr,i64,reV_eq re,iD,bD,bV,c2,Bool.false_eq_true]
   refine draw_first (reserveSlot 6 1 rfl) ?_
   refine draw_c mix [] [(2,[1],[1]),(6,[1],[1])] (by rfl) ?_
   simp only[zX,simprocAttr,i64,reV_eq re,iD,bD,bV,c2]
   refine⟨rfl,hel,by omega,rfl,fun e he=>by rw[List.mem_singleton.1 he]; rfl,⟨by omega,by omega⟩,?_⟩
   have hL:=hkids (a++[re.n]) (by simp)
   generalize haa:a++[re.n]=aa at *
   refine loop_rule (fun n e s=>∃i:Nat,n=re.kids.length - i∧i≤re.kids.length∧e 1=.d (intsD aa)∧e 2=.rf 0 0 0 0∧e 7=i64 i∧(∀x∈re.kids.take i,x.comp aa=true)∧s=[boxR re])
    ⟨_,_,_,frzCut (s':=[boxR re]) 1 (aa.map fun x=>[iD x]) 1 [1,2,7] rfl rfl ?_ ?_ (by omega) (Nat.le_refl _) ?_ (by simp [boxR,Re.cells_eq re,objOk,refsV,iD,bD]) rfl,0,rfl,by omega,?_,?_,?_,by simp,rfl⟩ ?_
   ·rw[List.drop_zero,← haa,List.take_of_length_le (by simp),List.take_of_length_le (by simp)]
    simp [iD]
   ·simp
   ·simp [boxR,Re.cells_eq re,iD,bD,c2]
   ·rfl
   ·rfl
   ·rfl
   rintro n e s ⟨i,rfl,hi,h1,h2,h7,hall,rfl⟩
   simp only[intsD] at h1
   rcases Nat.lt_or_ge i re.kids.length with hlt | hge
   ·obtain⟨k,hk⟩:∃k,re.kids[i]?=some k:=⟨_,List.getElem?_eq_getElem hlt⟩
    have hm:=List.mem_of_getElem? hk
    have hkc:=hL k hm
    simp only[intsD] at hkc
    have hlt':(i:Int) < re.kids.length:=by omega
    simp only[zX,simprocAttr,i64,boxR,Re.cells_eq re,List.map_cons,List.map_nil,iD,bD,h1,h2,h7,hlt',hk]
    refine call_pure hkc (by simp [refsV,refsV.go,reV_eq]) (by simp [refsV,refsV.go,reV_eq,i64,bV,reEl]) ?_
    cases hkn:k.comp aa with
    | true =>
     simp only[zX,simprocAttr,i64,iD,bD,bV,h1,h2,h7,hkn,Bool.not_true]
     refine⟨re.kids.length - (i + 1),_,_,by omega,Cln.refl,i + 1,rfl,hlt,?_,?_,?_,?_,rfl⟩ <;> (try simp only[zU,Nat.reduceBEq,Nat.reduceShiftRight,Nat.reduceMod,Nat.reduceEqDiff,reduceIte])
     ·exact h1
     ·exact h2
     ·rw[w64 _ (by omega)]; rfl
     ·intro x hx
      rcases mem_take_succ hk hx with h | rfl
      ·exact hall x h
      ·exact hkn
    | false =>
     simp only[zX,simprocAttr,i64,iD,bD,bV,h1,h2,h7,hkn,Bool.not_false]
     have:(re.kids.all fun k=>k.comp aa)=false:=by rw[List.all_eq_false]; exact⟨k,hm,by simp [hkn]⟩
     rw[this]
   ·have hie:i=re.kids.length:=by omega
    subst hie
    have hlt':¬(re.kids.length:Int) < re.kids.length:=by omega
    rw[List.take_length] at hall
    have:(re.kids.all fun k=>k.comp aa)=true:=by rw[List.all_eq_true]; exact hall
    rw[this]
    simp only[zX,simprocAttr,i64,boxR,Re.cells_eq re,List.map_cons,List.map_nil,iD,bD,bV,h1,h2,h7,hlt']
 ·have hL:=hkids a (by omega)
  by_cases c3:5 < re.op∧re.op≠11
  ·rw[Re.comp_eq,if_neg c1,if_neg (fun h=>c2 h.1),if_pos c3]
   have c4:re.op≠4:=by omega
   have c5:=c3.1
   have c6:=c3.2
   refine fn_ok func44 rfl ntmps44 results44 rfl 0 247 (by simp) (by simp) ?_
   simp only[zX,simprocAttr,i64,reV_eq re,iD,bD,bV,c2,c4,c5,c6,gt_iff_lt,ne_eq,not_false_eq_true]
  ·rw[Re.comp_eq,if_neg c1,if_neg (fun h=>c2 h.1),if_neg c3,if_neg c2]
   generalize a=aa at *
   by_cases o4:re.op=4
   ·have cm:re.mode≠2:=fun h=>c1 ⟨o4,.inl h⟩
    obtain⟨k,l,hk⟩:=List.exists_cons_of_length_pos (q1 (.inl o4))
    have cn:k.nul=false:=by
     cases h:k.nul with
     | false=>rfl
     | true=>exact absurd ⟨o4,.inr (by rw[hk]; exact h)⟩ c1
    have hm:k∈re.kids:=by rw[hk]; simp
    have hk0:re.kids[0]?=some k:=by rw[hk]; rfl
    have hlen:(0:Int) < (re.kids.length:Int):=by rw[hk]; simp
    have hn:=refNullable_ok k (by have:=Re.size_kid hm; omega)
    rw[cn] at hn
    refine fn_ok func44 rfl ntmps44 results44 rfl 0 247 (by simp) (by simp) ?_
    simp only[zX,simprocAttr,i64,reV_eq re,iD,bD,o4,cm,hk0,hlen]
    refine call_pure hn (by simp [refsV,refsV.go,reV_eq,i64,bV,reEl]) (by simp [refsV,refsV.go,reV_eq,i64,bV,reEl]) ?_
    simp only[zX,simprocAttr,i64,reV_eq re,iD,bD,bV,o4,Bool.false_eq_true,gt_iff_lt]
    refine loop_rule (fun n e s=>∃i:Nat,n=re.kids.length - i∧i≤re.kids.length∧e 1=.d (intsD aa)∧e 2=.rf 0 0 0 0∧e 7=i64 i∧(∀x∈re.kids.take i,x.comp aa=true)∧s=[boxR re])
     ⟨_,_,_,Cln.refl,0,rfl,by omega,rfl,rfl,rfl,by simp,by simp [boxR,Re.cells_eq re,iD,bD,o4]⟩ ?_
    rintro n e s ⟨i,rfl,hi,h1,h2,h7,hall,rfl⟩
    simp only[intsD] at h1
    rcases Nat.lt_or_ge i re.kids.length with hlt | hge
    ·obtain⟨k,hk⟩:∃k,re.kids[i]?=some k:=⟨_,List.getElem?_eq_getElem hlt⟩
     have hm:=List.mem_of_getElem? hk
     have hkc:=hL k hm
     simp only[intsD] at hkc
     have hlt':(i:Int) < re.kids.length:=by omega
     simp only[zX,simprocAttr,i64,boxR,Re.cells_eq re,List.map_cons,List.map_nil,iD,bD,h1,h2,h7,hlt',hk]
     refine call_pure hkc (by simp [refsV,refsV.go,reV_eq]) (by simp [refsV,refsV.go,reV_eq,i64,bV,reEl]) ?_
     cases hkn:k.comp aa with
     | true =>
      simp only[zX,simprocAttr,i64,iD,bD,bV,h1,h2,h7,hkn,Bool.not_true]
      refine⟨re.kids.length - (i + 1),_,_,by omega,Cln.refl,i + 1,rfl,hlt,?_,?_,?_,?_,rfl⟩ <;> (try simp only[zU,Nat.reduceBEq,Nat.reduceShiftRight,Nat.reduceMod,Nat.reduceEqDiff,reduceIte])
      ·exact h1
      ·exact h2
      ·rw[w64 _ (by omega)]; rfl
      ·intro x hx
       rcases mem_take_succ hk hx with h | rfl
       ·exact hall x h
       ·exact hkn
     | false =>
      simp only[zX,simprocAttr,i64,iD,bD,bV,h1,h2,h7,hkn,Bool.not_false]
      have:(re.kids.all fun k=>k.comp aa)=false:=by rw[List.all_eq_false]; exact⟨k,hm,by simp [hkn]⟩
      rw[this]
    ·have hie:i=re.kids.length:=by omega
     subst hie
     have hlt':¬(re.kids.length:Int) < re.kids.length:=by omega
     rw[List.take_length] at hall
     have:(re.kids.all fun k=>k.comp aa)=true:=by rw[List.all_eq_true]; exact hall
     rw[this]
     simp only[zX,simprocAttr,i64,boxR,Re.cells_eq re,List.map_cons,List.map_nil,iD,bD,bV,h1,h2,h7,hlt']
   ·by_cases c5:5 < re.op
    ·have c6:re.op=11:=by omega
     refine fn_ok func44 rfl ntmps44 results44 rfl 0 247 (by simp) (by simp) ?_
     simp only[zX,simprocAttr,i64,reV_eq re,iD,bD,bV,c6,Bool.false_eq_true,gt_iff_lt,ne_eq,not_true_eq_false]
     refine loop_rule (fun n e s=>∃i:Nat,n=re.kids.length - i∧i≤re.kids.length∧e 1=.d (intsD aa)∧e 2=.rf 0 0 0 0∧e 7=i64 i∧(∀x∈re.kids.take i,x.comp aa=true)∧s=[boxR re])
      ⟨_,_,_,Cln.refl,0,rfl,by omega,rfl,rfl,rfl,by simp,by simp [boxR,Re.cells_eq re,iD,bD,c6]⟩ ?_
     rintro n e s ⟨i,rfl,hi,h1,h2,h7,hall,rfl⟩
     simp only[intsD] at h1
     rcases Nat.lt_or_ge i re.kids.length with hlt | hge
     ·obtain⟨k,hk⟩:∃k,re.kids[i]?=some k:=⟨_,List.getElem?_eq_getElem hlt⟩
      have hm:=List.mem_of_getElem? hk
      have hkc:=hL k hm
      simp only[intsD] at hkc
      have hlt':(i:Int) < re.kids.length:=by omega
      simp only[zX,simprocAttr,i64,boxR,Re.cells_eq re,List.map_cons,List.map_nil,iD,bD,h1,h2,h7,hlt',hk]
      refine call_pure hkc (by simp [refsV,refsV.go,reV_eq]) (by simp [refsV,refsV.go,reV_eq,i64,bV,reEl]) ?_
      cases hkn:k.comp aa with
      | true =>
       simp only[zX,simprocAttr,i64,iD,bD,bV,h1,h2,h7,hkn,Bool.not_true]
       refine⟨re.kids.length - (i + 1),_,_,by omega,Cln.refl,i + 1,rfl,hlt,?_,?_,?_,?_,rfl⟩ <;> (try simp only[zU,Nat.reduceBEq,Nat.reduceShiftRight,Nat.reduceMod,Nat.reduceEqDiff,reduceIte])
       ·exact h1
       ·exact h2
       ·rw[w64 _ (by omega)]; rfl
       ·intro x hx
        rcases mem_take_succ hk hx with h | rfl
        ·exact hall x h
        ·exact hkn
      | false =>
       simp only[zX,simprocAttr,i64,iD,bD,bV,h1,h2,h7,hkn,Bool.not_false]
       have:(re.kids.all fun k=>k.comp aa)=false:=by rw[List.all_eq_false]; exact⟨k,hm,by simp [hkn]⟩
       rw[this]
     ·have hie:i=re.kids.length:=by omega
      subst hie
      have hlt':¬(re.kids.length:Int) < re.kids.length:=by omega
      rw[List.take_length] at hall
      have:(re.kids.all fun k=>k.comp aa)=true:=by rw[List.all_eq_true]; exact hall
      rw[this]
      simp only[zX,simprocAttr,i64,boxR,Re.cells_eq re,List.map_cons,List.map_nil,iD,bD,bV,h1,h2,h7,hlt']
    ·refine fn_ok func44 rfl ntmps44 results44 rfl 0 247 (by simp) (by simp) ?_
     simp only[zX,simprocAttr,i64,reV_eq re,iD,bD,bV,o4,c5,c2,Bool.false_eq_true,gt_iff_lt,ne_eq,not_true_eq_false]
     refine loop_rule (fun n e s=>∃i:Nat,n=re.kids.length - i∧i≤re.kids.length∧e 1=.d (intsD aa)∧e 2=.rf 0 0 0 0∧e 7=i64 i∧(∀x∈re.kids.take i,x.comp aa=true)∧s=[boxR re])
      ⟨_,_,_,Cln.refl,0,rfl,by omega,rfl,rfl,rfl,by simp,by simp [boxR,Re.cells_eq re,iD,bD,o4]⟩ ?_
     rintro n e s ⟨i,rfl,hi,h1,h2,h7,hall,rfl⟩
     simp only[intsD] at h1
     rcases Nat.lt_or_ge i re.kids.length with hlt | hge
     ·obtain⟨k,hk⟩:∃k,re.kids[i]?=some k:=⟨_,List.getElem?_eq_getElem hlt⟩
      have hm:=List.mem_of_getElem? hk
      have hkc:=hL k hm
      simp only[intsD] at hkc
      have hlt':(i:Int) < re.kids.length:=by omega
      simp only[zX,simprocAttr,i64,boxR,Re.cells_eq re,List.map_cons,List.map_nil,iD,bD,h1,h2,h7,hlt',hk]
      refine call_pure hkc (by simp [refsV,refsV.go,reV_eq]) (by simp [refsV,refsV.go,reV_eq,i64,bV,reEl]) ?_
      cases hkn:k.comp aa with
      | true =>
       simp only[zX,simprocAttr,i64,iD,bD,bV,h1,h2,h7,hkn,Bool.not_true]
       refine⟨re.kids.length - (i + 1),_,_,by omega,Cln.refl,i + 1,rfl,hlt,?_,?_,?_,?_,rfl⟩ <;> (try simp only[zU,Nat.reduceBEq,Nat.reduceShiftRight,Nat.reduceMod,Nat.reduceEqDiff,reduceIte])
       ·exact h1
       ·exact h2
       ·rw[w64 _ (by omega)]; rfl
       ·intro x hx
        rcases mem_take_succ hk hx with h | rfl
        ·exact hall x h
        ·exact hkn
      | false =>
       simp only[zX,simprocAttr,i64,iD,bD,bV,h1,h2,h7,hkn,Bool.not_false]
       have:(re.kids.all fun k=>k.comp aa)=false:=by rw[List.all_eq_false]; exact⟨k,hm,by simp [hkn]⟩
       rw[this]
     ·have hie:i=re.kids.length:=by omega
      subst hie
      have hlt':¬(re.kids.length:Int) < re.kids.length:=by omega
      rw[List.take_length] at hall
      have:(re.kids.all fun k=>k.comp aa)=true:=by rw[List.all_eq_true]; exact hall
      rw[this]
      simp only[zX,simprocAttr,i64,boxR,Re.cells_eq re,List.map_cons,List.map_nil,iD,bD,bV,h1,h2,h7,hlt']
theorem cszN_le (op mn mx k n:Int):cszN op mn mx k n≤10000:=by unfold cszN; omega
theorem cszN_nonneg {op mn mx k n:Int} (hk:op=3→2≤k) (hn:0≤n) (h0:0≤mn) (h1:op=4→mx=-1∨1≤mx∧mn≤mx):0≤cszN op mn mx k n:=by
 unfold cszN
 by_cases o1:op=1∨op=11
 ·rw[if_pos o1]; omega
 rw[if_neg o1]
 by_cases o3:op=3
 ·rw[if_pos o3]; have:=hk o3; omega
 rw[if_neg o3]
 by_cases o5:op=5
 ·rw[if_pos o5]; omega
 rw[if_neg o5]
 by_cases o4:op=4
 ·rw[if_pos o4]
  have h1:=h1 o4
  by_cases om:mx=-1
  ·rw[if_pos om]
   have:0≤(mn + 1) * n:=Int.mul_nonneg (by omega) hn
   omega
  ·rw[if_neg om]
   have:0≤mx * n:=Int.mul_nonneg (by omega) hn
   omega
 ·rw[if_neg o4]; omega
def kshC (re:Re):Bool:=kshB re&&decide (re.op=4→re.mx=-1∨1≤re.mx∧re.mn≤re.mx)
theorem csz_range (re:Re):re.every kshC=true→0≤re.csz∧re.csz≤10000:=by
 induction re using Re.ind with
 | h re ih =>
 intro hs
 obtain⟨hs1,hs2⟩:=(Re.every_iff re).1 hs
 unfold kshC at hs1
 obtain⟨hs1,hs3⟩:=Bool.and_eq_true_iff.1 hs1
 have hs3:=of_decide_eq_true hs3
 obtain⟨q1,q2,q3,q4,q5,q6,q7,q8,q9,q10⟩:=kshB_iff.1 hs1
 have hL:∀l:List Re,(∀k∈l,k∈re.kids)→0≤Re.cszL l:=by
  intro l
  induction l with
  | nil=>intro _; simp [Re.cszL]
  | cons k l ihl =>
   intro hm
   have h1:=(ih k (hm k (by simp)) (hs2 k (hm k (by simp)))).1
   have h2:=ihl (fun x hx=>hm x (by simp [hx]))
   simp only[Re.cszL]; omega
 rw[Re.csz_eq]
 exact⟨cszN_nonneg (fun h=>by have:=q2 h; omega) (hL _ (fun _ h=>h)) q5 hs3,cszN_le _ _ _ _ _⟩
theorem cszL_range {l:List Re} (h:∀k∈l,0≤k.csz∧k.csz≤10000):0≤Re.cszL l∧Re.cszL l≤10000 * l.length:=by
 induction l with
 | nil=>simp [Re.cszL]
 | cons k l ih =>
  have h1:=h k (by simp)
  have h2:=ih (fun x hx=>h x (by simp [hx]))
  simp only[Re.cszL,List.length_cons]; omega
end Go.Proofs.Ytdofoappodmcoaa
