/- A part of the proof (G18 G19). -/
import Derived.Test.YtllagoeijcjpiaaSL15
import Derived.Test.YtllagoeijcjpiaaSL11
import Derived.Test.YtllagoeijcjpiaaSL12
import Derived.Test.YtllagoeijcjpiaaSL17
set_option linter.unusedSimpArgs false
set_option linter.unusedVariables false
set_option maxRecDepth 100000
set_option maxHeartbeats 80000000
namespace Go.Proofs.Ytllagoeijcjpiaa
open Go.VL Go.Proofs.Try
def symB (runes:Bool) (x:Int):Bool:=decide (0≤x)&&decide (x≤topR runes)
def valid7 (p:Pat) (t:List Int) (fuel:Int):Int :=
 if validR p≠0 then validR p else if 65536 < t.length then 4 else if t.all (symB p.runes)=false then 1 else if fuel < 0∨1099511627776 < fuel then 1 else 0
theorem all_take_succ {α:Type} {P:α→Bool} {l:List α} {i:Nat} {x:α} (hx:l[i]?=some x) (h:(l.take i).all P=true) (hp:P x=true):(l.take (i + 1)).all P=true:=by
 rw[List.take_add_one,hx,List.all_append,h]
 simp [hp]
theorem all_false {α:Type} {P:α→Bool} {l:List α} {i:Nat} {x:α} (hx:l[i]?=some x) (hp:P x=false):l.all P=false:=by
 rw[Bool.eq_false_iff]
 intro h
 rw[List.all_eq_true] at h
 rw[h x (List.mem_of_getElem? hx)] at hp
 cases hp
theorem valid7_ok (p:Pat) (t:List Int) (fuel:Int) (hf:p.re.fine=true) (hs:p.re.size≤1000000000) (ht:t.length≤1000000000) :
  PureOK prog 87 [patV p,.d (intsD t),i64 fuel] (i64 (valid7 p t fuel)):=by
 have h1:=refValid_ok p hf hs
 unfold valid7
 cases p with
 | mk re caps runes =>
 simp only[patV,Re.cells_eq re,List.map_cons,List.map_nil,List.cons_append,List.nil_append,i64,iD,bD,bV] at h1
 simp only at *
 generalize hv:validR ⟨re,caps,runes⟩=v at *
 refine fn_ok func87 rfl ntmps87 results87 rfl 0 975 (by simp) (by simp) ?_
 simp only[zX,simprocAttr,i64,patV,Re.cells_eq re,bV,iD,bD]
 refine call_pure h1 (by simp [refsV,refsV.go,reV_eq,i64,bV,reEl]) (by simp [refsV,refsV.go,reV_eq,i64,bV,reEl]) ?_
 simp only[zX,simprocAttr,i64,patV,bV,iD,bD]
 by_cases c0:v=0
 case neg =>
  rw[if_pos c0]
  simp only[zX,simprocAttr,i64,patV,bV,iD,bD,c0]
 subst c0
 rw[if_neg (by omega)]
 by_cases c1:65536 < t.length
 ·rw[if_pos c1]
  have c1':(65536:Int) < t.length:=by omega
  simp only[zX,simprocAttr,i64,patV,bV,iD,bD,gt_iff_lt,c1']
 rw[if_neg c1]
 have c1':¬(65536:Int) < t.length:=by omega
 cases runes
 ·simp only[zX,simprocAttr,i64,patV,bV,iD,bD,gt_iff_lt,c1']
  refine loop_rule (fun n e s=>∃i:Nat,n=t.length - i∧i≤t.length∧e 1=.d (intsD t)∧e 2=i64 fuel∧e 8=i64 (topR false)∧e 9=i64 i∧(t.take i).all (symB false)=true)
   ⟨_,_,_,Cln.refl,0,rfl,by omega,rfl,rfl,rfl,rfl,by simp⟩ ?_
  rintro n e s ⟨i,rfl,hi,h1,h2,h8,h9,hall⟩
  rcases Nat.lt_or_ge i t.length with hlt | hge
  ·obtain⟨x,hx⟩:∃x,t[i]?=some x:=⟨_,List.getElem?_eq_getElem hlt⟩
   have hlt':(i:Int) < t.length:=by omega
   simp only[zX,simprocAttr,i64,h1,h2,h8,h9,hlt',intsD,hx,iD]
   by_cases d1:x < 0
   ·simp only[zX,simprocAttr,d1]
    rw[if_pos (all_false hx (by rw[symB,decide_eq_false (by omega)]; rfl))]
   ·by_cases d2:topR false < x
    ·simp only[zX,simprocAttr,d1,d2,gt_iff_lt,i64,h1,h2,h8,h9,hlt',hlt,intsD,hx,iD]
     rw[if_pos (all_false hx (by rw[symB,decide_eq_false (by omega:¬x≤topR false),Bool.and_false]))]
    ·simp only[zX,simprocAttr,d1,d2,gt_iff_lt,i64,h1,h2,h8,h9,hlt',hlt,intsD,hx,iD]
     refine⟨t.length - (i + 1),_,_,by omega,Cln.refl,i + 1,rfl,hlt,?_,?_,?_,?_,?_⟩ <;> (try simp only[zU,Nat.reduceBEq,Nat.reduceShiftRight,Nat.reduceMod,Nat.reduceEqDiff,reduceIte])
     ·exact h1
     ·exact h2
     ·exact h8
     ·rw[w64 _ (by omega)]; rfl
     ·exact all_take_succ hx hall (by rw[symB,decide_eq_true (by omega),decide_eq_true (by omega)]; rfl)
  ·have hie:i=t.length:=by omega
   subst hie
   have hlt':¬(t.length:Int) < t.length:=by omega
   rw[List.take_length] at hall
   rw[hall,if_neg (by decide)]
   simp only[zX,simprocAttr,i64,h1,h2,h9,hlt',intsD]
   by_cases d1:fuel < 0
   ·simp only[zX,simprocAttr,d1]
   ·by_cases d2:1099511627776 < fuel
    ·simp only[zX,simprocAttr,d1,d2,gt_iff_lt,i64,h1,h2]
    ·simp only[zX,simprocAttr,d1,d2,gt_iff_lt,i64,h1,h2]
 ·simp only[zX,simprocAttr,i64,patV,bV,iD,bD,gt_iff_lt,c1']
  refine loop_rule (fun n e s=>∃i:Nat,n=t.length - i∧i≤t.length∧e 1=.d (intsD t)∧e 2=i64 fuel∧e 8=i64 (topR true)∧e 9=i64 i∧(t.take i).all (symB true)=true)
   ⟨_,_,_,Cln.refl,0,rfl,by omega,rfl,rfl,rfl,rfl,by simp⟩ ?_
  rintro n e s ⟨i,rfl,hi,h1,h2,h8,h9,hall⟩
  rcases Nat.lt_or_ge i t.length with hlt | hge
  ·obtain⟨x,hx⟩:∃x,t[i]?=some x:=⟨_,List.getElem?_eq_getElem hlt⟩
   have hlt':(i:Int) < t.length:=by omega
   simp only[zX,simprocAttr,i64,h1,h2,h8,h9,hlt',intsD,hx,iD]
   by_cases d1:x < 0
   ·simp only[zX,simprocAttr,d1]
    rw[if_pos (all_false hx (by rw[symB,decide_eq_false (by omega)]; rfl))]
   ·by_cases d2:topR true < x
    ·simp only[zX,simprocAttr,d1,d2,gt_iff_lt,i64,h1,h2,h8,h9,hlt',hlt,intsD,hx,iD]
     rw[if_pos (all_false hx (by rw[symB,decide_eq_false (by omega:¬x≤topR true),Bool.and_false]))]
    ·simp only[zX,simprocAttr,d1,d2,gt_iff_lt,i64,h1,h2,h8,h9,hlt',hlt,intsD,hx,iD]
     refine⟨t.length - (i + 1),_,_,by omega,Cln.refl,i + 1,rfl,hlt,?_,?_,?_,?_,?_⟩ <;> (try simp only[zU,Nat.reduceBEq,Nat.reduceShiftRight,Nat.reduceMod,Nat.reduceEqDiff,reduceIte])
     ·exact h1
     ·exact h2
     ·exact h8
     ·rw[w64 _ (by omega)]; rfl
     ·exact all_take_succ hx hall (by rw[symB,decide_eq_true (by omega),decide_eq_true (by omega)]; rfl)
  ·have hie:i=t.length:=by omega
   subst hie
   have hlt':¬(t.length:Int) < t.length:=by omega
   rw[List.take_length] at hall
   rw[hall,if_neg (by decide)]
   simp only[zX,simprocAttr,i64,h1,h2,h9,hlt',intsD]
   by_cases d1:fuel < 0
   ·simp only[zX,simprocAttr,d1]
   ·by_cases d2:1099511627776 < fuel
    ·simp only[zX,simprocAttr,d1,d2,gt_iff_lt,i64,h1,h2]
    ·simp only[zX,simprocAttr,d1,d2,gt_iff_lt,i64,h1,h2]
def matchD (at_:Int) (x:Int × CapsL):List D:=[iD at_,iD x.1,capD x.2]
def cap0 (p:Pat):CapsL:=List.replicate p.caps.toNat (-1,-1)
def allV (at_:Int) (x:Sst):V:=if x.empty=true then .tu [.d (.sl []),i64 0,i64 11] else .tu [.d (.sl ((x.ends.zip x.caps).map (matchD at_))),i64 x.steps,i64 0]
def errV (e:Int):V:=.tu [.d (.sl []),i64 0,i64 e]
theorem all_err (p:Pat) (t:List Int) (at_ most fuel:Int) (hf:p.re.fine=true) (hs:p.re.size≤1000000000) (ht:t.length≤1000000000) (hv:valid7 p t fuel≠0) :
  PureOK prog 47 [patV p,.d (intsD t),i64 at_,i64 most,i64 fuel] (errV (valid7 p t fuel)):=by
 have h1:=valid7_ok p t fuel hf hs ht
 cases p with
 | mk re caps runes =>
 simp only[patV,Re.cells_eq re,List.map_cons,List.map_nil,List.cons_append,List.nil_append,i64,iD,bD,bV] at h1
 generalize valid7 ⟨re,caps,runes⟩ t fuel=v at *
 refine fn_ok func47 rfl ntmps47 results47 rfl 0 130111 (by simp) (by simp) ?_
 simp only[zX,simprocAttr,i64,patV,Re.cells_eq re,bV,iD,bD]
 refine call_pure h1 (by simp [refsV,refsV.go,reV_eq,i64,bV,reEl]) (by simp [refsV,refsV.go,reV_eq,i64,bV,reEl]) ?_
 simp only[zX,simprocAttr,i64,patV,bV,iD,bD,hv]
 rfl
theorem all_range (p:Pat) (t:List Int) (at_ most fuel:Int) (hf:p.re.fine=true) (hs:p.re.size≤1000000000) (ht:t.length≤1000000000) (hv:valid7 p t fuel=0) (ha:at_ < 0∨t.length < at_) :
  PureOK prog 47 [patV p,.d (intsD t),i64 at_,i64 most,i64 fuel] (errV 5):=by
 have h1:=valid7_ok p t fuel hf hs ht
 rw[hv] at h1
 cases p with
 | mk re caps runes =>
 simp only[patV,Re.cells_eq re,List.map_cons,List.map_nil,List.cons_append,List.nil_append,i64,iD,bD,bV] at h1
 refine fn_ok func47 rfl ntmps47 results47 rfl 0 130111 (by simp) (by simp) ?_
 simp only[zX,simprocAttr,i64,patV,Re.cells_eq re,bV,iD,bD]
 refine call_pure h1 (by simp [refsV,refsV.go,reV_eq,i64,bV,reEl]) (by simp [refsV,refsV.go,reV_eq,i64,bV,reEl]) ?_
 simp only[zX,simprocAttr,i64,patV,bV,iD,bD]
 by_cases c1:at_ < 0
 ·simp only[zX,simprocAttr,i64,patV,bV,iD,bD,c1]
  rfl
 ·have c2:(t.length:Int) < at_:=ha.resolve_left c1
  simp only[zX,simprocAttr,i64,patV,bV,iD,bD,c1,c2,intsD,gt_iff_lt,List.length_map]
  rfl
def resB (re:Re) (caps:Int) (runes:Bool) (t:List Int) (most fuel xs:Int) (xends:List Int) (xcaps:List CapsL):List VL.Obj :=
 [⟨0,true,10,[[.d (.sc (.int .i64 re.op)),.d (.sl (re.set.map spanC)),.d (.sl (re.kids.map Re.cells)),.d (.sc (.int .i64 re.mn)),.d (.sc (.int .i64 re.mx)),.d (.sc (.int .i64 re.mode)),.d (.sc (.int .i64 re.n)),.d (.sc (.bool re.neg)),.d (.sc (.int .i64 caps)),.d (.sc (.bool runes))]]⟩,
  ⟨0,true,7,[[.d (intsD t),.d (.sc (.int .i64 most)),.d (.sc (.int .i64 fuel)),.d (.sc (.int .i64 xs)),.d (.sc (.bool false)),.so 3 xends.length 0 xends.length,.so 4 xends.length 0 xcaps.length]]⟩,
  ⟨1,false,12,[[.d (.sc (.int .i64 0)),.d (.sc (.int .i64 re.op)),.d (.sl (re.set.map spanC)),.d (.sl (re.kids.map Re.cells)),.d (.sc (.int .i64 re.mn)),.d (.sc (.int .i64 re.mx)),.d (.sc (.int .i64 re.mode)),.d (.sc (.int .i64 re.n)),.d (.sc (.bool re.neg)),.d (.sc (.int .i64 0)),.d (.sc (.int .i64 0)),.d (.sc (.pointer none))]]⟩,
  ⟨xends.length,true,1,xends.map fun x=>[.d (.sc (.int .i64 x))]⟩,⟨xends.length,true,1,xcaps.map fun c=>[.d (capD c)]⟩]
theorem all_run (p:Pat) (t:List Int) (at_ most fuel:Int) (hf:p.re.fine=true) (hs:p.re.size≤1000000000) (ht:t.length≤1000000) (hc:p.caps≤1000000) (hv:valid7 p t fuel=0) (a0:0≤at_) (a1:at_≤t.length)
  {n:Nat} {b:Bool} {x:Sst} (hx:evR t fuel n most (.run (.mk 0 p.re 0 0 .nil) at_ (cap0 p)) ⟨0,false,[],[]⟩=some (b,x)) (hl:x.ends.length≤2000000000000) (hlc:x.caps.length=x.ends.length) :
  PureOK prog 47 [patV p,.d (intsD t),i64 at_,i64 most,i64 fuel] (allV at_ x):=by
 have h1:=valid7_ok p t fuel hf hs (by omega)
 have hb:=bare_ok p.caps hc
 have hnil:Goal.nil.d=.sc (.pointer none):=rfl
 rw[hv] at h1
 have hrun:=run_all (F:=fuel) ht n 0 most _ _ _ _ hx
 unfold srS srO taskF taskA at hrun
 unfold cap0 at hrun
 cases p with
 | mk re caps runes =>
 simp only[Goal.d_mk,hnil,i64,bV,iD,bD] at hrun
 simp only[i64] at hb
 simp only[patV,Re.cells_eq re,List.map_cons,List.map_nil,List.cons_append,List.nil_append,i64,iD,bD,bV] at h1
 clear hx hv
 have c1:¬at_ < 0:=by omega
 have c2:¬(t.length:Int) < at_:=by omega
 refine fn_ok func47 rfl ntmps47 results47 rfl 0 130111 (by simp) (by simp) ?_
 simp only[zX,simprocAttr,i64,patV,Re.cells_eq re,bV,iD,bD]
 refine call_pure h1 (by simp [refsV,refsV.go,reV_eq,i64,bV,reEl]) (by simp [refsV,refsV.go,reV_eq,i64,bV,reEl]) ?_
 simp only[zX,simprocAttr,i64,patV,bV,iD,bD,c1,c2,intsD,gt_iff_lt,List.length_map]
 refine draw_first Cln0.reserve ?_
 refine draw_c mix [9] [(4,[2],[2])] (by rfl) ?_
 simp only[zX,simprocAttr,i64,bV,hole]
 refine callC_pure hb rfl rfl ?_
 simp only[zX,simprocAttr,i64,bV,iD,bD]
 refine callD_of (r:=.d (.sc (.bool b))) (s1:=[⟨0,true,10,[[.d (.sc (.int .i64 re.op)),.d (.sl (re.set.map spanC)),.d (.sl (re.kids.map Re.cells)),.d (.sc (.int .i64 re.mn)),.d (.sc (.int .i64 re.mx)),.d (.sc (.int .i64 re.mode)),.d (.sc (.int .i64 re.n)),.d (.sc (.bool re.neg)),.d (.sc (.int .i64 caps)),.d (.sc (.bool runes))]]⟩,
  ⟨0,true,7,[[.d (intsD t),.d (.sc (.int .i64 most)),.d (.sc (.int .i64 fuel)),.d (.sc (.int .i64 x.steps)),.d (.sc (.bool x.empty)),.so 3 x.ends.length 0 x.ends.length,.so 4 x.ends.length 0 x.caps.length]]⟩,
  ⟨1,false,12,[[.d (.sc (.int .i64 0)),.d (.sc (.int .i64 re.op)),.d (.sl (re.set.map spanC)),.d (.sl (re.kids.map Re.cells)),.d (.sc (.int .i64 re.mn)),.d (.sc (.int .i64 re.mx)),.d (.sc (.int .i64 re.mode)),.d (.sc (.int .i64 re.n)),.d (.sc (.bool re.neg)),.d (.sc (.int .i64 0)),.d (.sc (.int .i64 0)),.d (.sc (.pointer none))]]⟩,
  ⟨x.ends.length,true,1,x.ends.map fun x=>[.d (.sc (.int .i64 x))]⟩,⟨x.ends.length,true,1,x.caps.map fun c=>[.d (capD c)]⟩]) ?_ ?_
 ·refine call_give (cargs:=[.rf 1 0 0 0,.d (.el [.sc (.int .i64 0),.sc (.int .i64 re.op),.sl (re.set.map spanC),.sl (re.kids.map Re.cells),.sc (.int .i64 re.mn),.sc (.int .i64 re.mx),.sc (.int .i64 re.mode),.sc (.int .i64 re.n),.sc (.bool re.neg),.sc (.int .i64 0),.sc (.int .i64 0),.sc (.pointer none)]),.d (.sc (.int .i64 at_)),.d (capD (List.replicate caps.toNat (-1,-1)))]) [2] (by simp [killO,kill1,frzV.go,frzV,frzD]) ?_
  simp only[killO,kill1,List.getElem?_cons_zero,List.getElem?_cons_succ,List.set_cons_succ,List.set_cons_zero]
  refine call_reserve (pre:=[.d (intsD t),.d (.sc (.int .i64 most)),.d (.sc (.int .i64 fuel)),.d (.sc (.int .i64 0)),.d (.sc (.bool false))]) (post:=[.fu []]) 1 1 rfl rfl rfl ?_
  simp only[List.set_cons_succ,List.set_cons_zero,List.cons_append,List.nil_append,List.length_cons,List.length_nil,Nat.reduceAdd]
  refine call_reserve (pre:=[.d (intsD t),.d (.sc (.int .i64 most)),.d (.sc (.int .i64 fuel)),.d (.sc (.int .i64 0)),.d (.sc (.bool false)),.so 3 0 0 0]) (post:=[]) 1 1 rfl rfl rfl ?_
  simp only[List.set_cons_succ,List.set_cons_zero,List.cons_append,List.nil_append,List.length_cons,List.length_nil,Nat.reduceAdd]
  refine call_map [1,3,4] hrun (by decide) rfl rfl rfl rfl ?_ rfl ?_
  ·rfl
  simp only[List.map_cons,List.map_nil,renO_d,putObjs,List.set_cons_zero,List.set_cons_succ,renO,renV,renV.go,List.getD_cons_zero,List.getD_cons_succ,List.map_map,and_self,true_and]
  rfl
 ·clear hrun
  obtain⟨xs,xe,xends,xcaps⟩:=x
  simp only at hl hlc
  cases xe with
  | true =>
   simp only[zX,simprocAttr,i64,bV,iD,bD,allV]
  | false =>
   simp only[vsL,vsB,vsC,simprocAttr,tysA,i64,bV,iD,bD,allV,Bool.false_eq_true,if_false]
   refine loop_rule (fun n e s=>∃i:Nat,n=xends.length - i∧i≤xends.length∧e 2=i64 at_∧e 14=.rf 1 0 0 0∧e 16=i64 i∧Acc (resB re caps runes t most fuel xs xends xcaps) 3 (e 15) s (((xends.zip xcaps).take i).map (matchD at_)))
    ⟨_,_,_,Cln.refl,0,rfl,by omega,rfl,rfl,rfl,.inl ⟨rfl,rfl⟩⟩ ?_
   rintro n e s ⟨i,rfl,hi,h2,h14,h16,hacc⟩
   have hB1:=hacc.get (id:=1) rfl
   have hB3:=hacc.get (id:=3) rfl
   have hB4:=hacc.get (id:=4) rfl
   have hfuel:(0:Int)≤i:=by omega
   rcases Nat.lt_or_ge i xends.length with hlt | hge
   ·obtain⟨y,hy⟩:∃y,xends[i]?=some y:=⟨_,List.getElem?_eq_getElem hlt⟩
    obtain⟨z,hz⟩:∃z,xcaps[i]?=some z:=⟨_,List.getElem?_eq_getElem (by omega)⟩
    have hyz:(xends.zip xcaps)[i]?=some (y,z):=by rw[List.getElem?_zip_eq_some]; exact⟨hy,hz⟩
    have hlt':(i:Int) < xends.length:=by omega
    have hltc:i < xcaps.length:=by omega
    simp only[vsL,vsB,vsC,simprocAttr,tysA,i64,iD,bD,bV,h2,h14,h16,hB1,hB3,hB4,hlt',hlt]
    refine draw_c mix [18] [] (by rfl) ?_
    simp only[vsL,vsB,vsC,simprocAttr,tysA,i64,iD,bD,bV,h2,h14,h16,hB1,hB3,hB4,hlt',hlt,hltc,hy,hz,Nat.zero_add]
    refine hacc.append slTy56 rfl (by decide) (by decide) (by intro y hy; obtain⟨z,_,rfl⟩:=List.mem_map.1 hy; rfl) (by simp) (by simp) (by simp only[List.length_map,List.length_take,List.length_cons,List.length_nil]; omega) (fun v' s' hacc'=>?_)
    simp only[vsL,vsB,vsC,simprocAttr,tysA,i64,iD,bD,bV,h2,h14,h16]
    refine⟨xends.length - (i + 1),_,_,by omega,Cln.refl,i + 1,rfl,hlt,?_,?_,?_,?_⟩ <;> (try simp only[zU,Nat.reduceBEq,Nat.reduceShiftRight,Nat.reduceMod,Nat.reduceEqDiff,reduceIte])
    ·exact h2
    ·exact h14
    ·rw[w64 _ (by omega)]; rfl
    ·rw[take_get hyz]; simpa [matchD,iD] using hacc'
   ·have hie:i=xends.length:=by omega
    subst hie
    have hlt':¬(xends.length:Int) < xends.length:=by omega
    have hzl:(xends.zip xcaps).length=xends.length:=by simp [hlc]
    have htk:(xends.zip xcaps).take xends.length=xends.zip xcaps:=by rw[← hzl,List.take_length]
    rw[htk] at hacc
    simp only[vsL,vsB,vsC,simprocAttr,tysA,i64,iD,bD,bV,h2,h14,h16,hB1,hB3,hB4,hlt']
    refine draw_c mix [] [] (by rfl) ?_
    simp only[vsL,vsB,vsC,simprocAttr,tysA,i64,iD,bD,bV,h2,h14,h16,hB1]
    rw[hacc.frz (Nat.zero_le _)]
    rfl
open Classical in
noncomputable def evX (t:List Int) (F most:Int) (task:Task) (st:Sst):Bool × Sst:=if h:∃n r,evR t F n most task st=some r then (Classical.choose_spec h).choose else (false,st)
theorem evX_eq {t:List Int} {F most:Int} {task:Task} {st:Sst} {n:Nat} {r:Bool × Sst} (h:evR t F n most task st=some r):evX t F most task st=r:=by
 unfold evX
 rw[dif_pos ⟨n,r,h⟩]
 exact evR_det (Classical.choose_spec (Classical.choose_spec (⟨n,r,h⟩:∃n r,evR t F n most task st=some r))) h
theorem shape_of_ok {re:Re} {caps top:Int} (h:nodeOk re caps top=true) (hk:re.kids.length≤1000000000):shapeB re=true:=by
 obtain⟨h1,h2,h3,h4,h5⟩:=nodeOk_iff.1 h
 have hset:re.set.length≤64:=by
  split at h2
  ·simp only[spansR,Bool.and_eq_true,decide_eq_true_eq] at h2
   exact h2.1
  ·omega
 refine decide_eq_true ⟨fun ho hn=>?_,fun ho=>?_,by omega,hk⟩
 ·have:=h1.2.2.1
  rw[hn] at this
  simp only[List.length_nil,Int.natCast_zero] at this
  rcases ho with o | o | o | o | o <;> rw[o] at this <;> simp [kidsR] at this
 ·have:=h1.2.2.1
  rw[ho] at this
  simp [kidsR] at this
  omega
theorem shape_every {caps top:Int} (re:Re) (h:re.whole caps top=true) (hs:re.size≤1000000):re.every shapeB=true:=by
 revert h hs
 refine Re.ind (Q:=fun re=>re.whole caps top=true→re.size≤1000000→re.every shapeB=true) (fun re ih h hs=>?_) re
 obtain⟨a1,a2⟩:=(Re.every_iff re).1 h
 have:=Re.len_le re.kids
 have:=Re.size_eq re
 exact(Re.every_iff re).2 ⟨shape_of_ok a1 (by omega),fun k hk=>ih k hk (a2 k hk) (by have:=Re.size_kid hk; omega)⟩
noncomputable def searchX (p:Pat) (t:List Int) (at_ most fuel:Int):Bool × Sst:=evX t fuel most (.run (.mk 0 p.re 0 0 .nil) at_ (cap0 p)) ⟨0,false,[],[]⟩
theorem valid7_spec {p:Pat} {t:List Int} {fuel:Int} (h:valid7 p t fuel=0):validR p=0∧t.length≤65536∧t.all (symB p.runes)=true∧0≤fuel∧fuel≤1099511627776:=by
 unfold valid7 at h
 split at h
 ·omega
 ·split at h
  ·omega
  ·split at h
   ·omega
   ·split at h
    ·omega
    ·refine⟨by omega,by omega,by simp_all,by omega,by omega⟩
theorem validR_spec {p:Pat} (h:validR p=0):p.re.size≤256∧p.re.depth≤24∧0≤p.caps∧p.caps≤9∧p.re.whole p.caps (topR p.runes)=true:=by
 unfold validR at h
 split at h
 ·omega
 ·split at h
  ·omega
  ·rename_i h1 h2
   refine⟨by omega,by omega,by omega,by omega,?_⟩
   cases hw:p.re.whole p.caps (topR p.runes) with
   | true=>rfl
   | false=>exact absurd (.inr (.inr hw)) h2
theorem search_ends {p:Pat} {t:List Int} {at_ most fuel:Int} (hv:valid7 p t fuel=0) (a0:0≤at_) (a1:at_≤t.length) :
  ∃n,evR t fuel n most (.run (.mk 0 p.re 0 0 .nil) at_ (cap0 p)) ⟨0,false,[],[]⟩=some (searchX p t at_ most fuel)∧PostG t fuel 0 at_ (cap0 p).length ⟨0,false,[],[]⟩ (searchX p t at_ most fuel).1 (searchX p t at_ most fuel).2:=by
 obtain⟨h1,h2,h3,h4,h5⟩:=valid7_spec hv
 obtain⟨k1,k2,k3,k4,k5⟩:=validR_spec h1
 have hcl:(cap0 p).length≤9:=by unfold cap0; rw[List.length_replicate]; omega
 obtain⟨n,b,s',e1,e2,_⟩:=ends_all (t:=t) (F:=fuel) (by omega) _ _ most (.run (.mk 0 p.re 0 0 .nil) at_ (cap0 p)) ⟨0,false,[],[]⟩ (Nat.le_refl _) (Nat.le_refl _)
  ⟨by omega,shape_every _ k5 (by omega),by intro h; omega,by intro h; omega,by intro h; omega,by intro h; omega,trivial⟩
  ⟨a0,a1,⟨by show (cap0 p).length≤_; omega,fun q hq=>.inl (List.eq_of_mem_replicate hq)⟩,rfl,Int.le_refl _,h4,by simp [Task.slack,slackG],rfl⟩
 have hx:searchX p t at_ most fuel=(b,s'):=evX_eq e1
 rw[hx]
 exact⟨n,e1,e2⟩
noncomputable def allE (p:Pat) (t:List Int) (at_ most fuel:Int):Int:=if valid7 p t fuel≠0 then valid7 p t fuel else if at_ < 0∨(t.length:Int) < at_ then 5 else if (searchX p t at_ most fuel).2.empty=true then 11 else 0
noncomputable def allM (p:Pat) (t:List Int) (at_ most fuel:Int):List (Int × CapsL):=if allE p t at_ most fuel=0 then (searchX p t at_ most fuel).2.ends.zip (searchX p t at_ most fuel).2.caps else []
noncomputable def allN (p:Pat) (t:List Int) (at_ most fuel:Int):Int:=if allE p t at_ most fuel=0 then (searchX p t at_ most fuel).2.steps else 0
theorem refAll_ok (p:Pat) (t:List Int) (at_ most fuel:Int) (hf:p.re.fine=true) (hs:p.re.size≤1000000000) (ht:t.length≤1000000000) :
  PureOK prog 47 [patV p,.d (intsD t),i64 at_,i64 most,i64 fuel] (.tu [.d (.sl ((allM p t at_ most fuel).map (matchD at_))),i64 (allN p t at_ most fuel),i64 (allE p t at_ most fuel)]):=by
 by_cases hv:valid7 p t fuel=0
 case neg =>
  have he:allE p t at_ most fuel=valid7 p t fuel:=by rw[allE,if_pos hv]
  rw[allM,allN,he,if_neg hv,if_neg hv]
  exact all_err p t at_ most fuel hf hs ht hv
 by_cases ha:at_ < 0∨(t.length:Int) < at_
 ·have he:allE p t at_ most fuel=5:=by rw[allE,if_neg (by omega),if_pos ha]
  rw[allM,allN,he,if_neg (by omega),if_neg (by omega)]
  exact all_range p t at_ most fuel hf hs ht hv ha
 ·obtain⟨n,e1,e2⟩:=search_ends (at_:=at_) (most:=most) hv (by omega) (by omega)
  obtain⟨h1,h2,_,h4,h5⟩:=valid7_spec hv
  obtain⟨_,_,_,k4,_⟩:=validR_spec h1
  have he:allE p t at_ most fuel=if (searchX p t at_ most fuel).2.empty=true then 11 else 0:=by rw[allE,if_neg (by omega),if_neg ha]
  rw[allM,allN,he]
  generalize searchX p t at_ most fuel=X at *
  obtain⟨b,x⟩:=X
  simp only at e2 ⊢
  obtain⟨new,newc,m1,m2,m3,m4,_⟩:=e2.more
  have hs1:=e2.s1
  simp only[List.nil_append] at m1 m2
  have hlen:x.ends.length≤2000000000000:=by rw[m1]; simp only at m4; omega
  have r:=all_run p t at_ most fuel hf hs (by omega) (by omega) hv (by omega) (by omega) e1 hlen (by rw[m1,m2,m3])
  unfold allV at r
  split at r
  ·rename_i hh
   rw[if_pos hh,if_neg (by decide),if_neg (by decide)]; exact r
  ·rename_i hh
   rw[if_neg hh,if_pos rfl,if_pos rfl]; exact r
end Go.Proofs.Ytllagoeijcjpiaa
