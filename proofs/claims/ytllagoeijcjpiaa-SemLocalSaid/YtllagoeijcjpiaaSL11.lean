/- A part of the proof (G12 G13 G14). -/
import Derived.Test.YtllagoeijcjpiaaSL7
import Derived.Test.YtllagoeijcjpiaaSL8
import Derived.Test.YtllagoeijcjpiaaSL9
import Derived.Test.YtllagoeijcjpiaaSL10
set_option linter.unusedSimpArgs false
set_option linter.unusedVariables false
set_option maxRecDepth 100000
set_option maxHeartbeats 80000000
namespace Go.Proofs.Ytllagoeijcjpiaa
open Go.VL Go.Proofs.Try
theorem node_10 {t:List Int} {F:Int} {n:Nat} (ih:RunOK t F n) (ht:t.length≤1000000) {g0:Nat} {most:Int} {kind:Int} {re:Re} {k frm:Int} {next:Goal} {i:Int} {c:CapsL} {st s1 st':Sst} {b:Bool} (o:re.op=10)
  (hi0:0≤i) (hi1:i≤t.length) (hset:re.set.length≤1000000000) (hkids:re.kids.length≤1000000000) (hcl:c.length≤1000000000) (he:s1.empty=false) (hst:StepTo t F g0 most st s1)
  (hr:nodeR t (evR t F n) most re next i c s1=some (b,st')) :
  callWp prog 114 [.rf 0 g0 0 0,.d (Goal.mk kind re k frm next).d,i64 i,.d (capD c)] (srS g0 t most F st) fun v s=>v=bV b∧s=srS g0 t most F st':=by
 unfold StepTo srS srO at hst
 simp only[i64,bV,iD,List.cons_append,List.nil_append] at hst
 have d4:decide (re.op=4)=false:=decide_eq_false (by omega)
 have d1:decide (re.op=1)=false:=decide_eq_false (by omega)
 have d2:decide (re.op=2)=false:=decide_eq_false (by omega)
 have d3:decide (re.op=3)=false:=decide_eq_false (by omega)
 have d5:decide (re.op=5)=false:=decide_eq_false (by omega)
 have d6:decide (re.op=6)=false:=decide_eq_false (by omega)
 have d7:decide (re.op=7)=false:=decide_eq_false (by omega)
 have d8:decide (re.op=8)=false:=decide_eq_false (by omega)
 have d9:decide (re.op=9)=false:=decide_eq_false (by omega)
 have d10:decide (re.op=10)=true:=decide_eq_true o
 unfold nodeR at hr
 rw[if_neg (by omega),if_neg (by omega),if_neg (by omega),if_neg (by omega),if_neg (by omega),if_neg (by omega),if_neg (by omega),if_pos o] at hr
 have hsp:=span_ok c re.n hcl
 simp only[i64] at hsp
 match hk:re.kids with
 | []=>rw[hk] at hr; cases hr
 | [_]=>rw[hk] at hr; cases hr
 | yes::no::l =>
  rw[hk] at hr
  have hk0:re.kids[0]?=some yes:=by rw[hk]; rfl
  have hk1:re.kids[1]?=some no:=by rw[hk]; rfl
  have hl0:(0:Int) < (re.kids.length:Int):=by rw[hk,List.length_cons]; omega
  have hl1:(1:Int) < (re.kids.length:Int):=by rw[hk,List.length_cons,List.length_cons]; omega
  clear hk
  simp only at hr
  by_cases q:0≤(spanR c re.n).1
  ·rw[if_pos q] at hr
   have hc:=fun ext=>sr_ext (ih g0 _ _ _ _ _ hr) ext
   unfold taskF taskA srS srO at hc; simp only[Goal.d_mk,i64,iD,bD,bV,List.cons_append,List.nil_append] at hc
   simp only[he] at hc
   unfold srS srO
   refine fn_ok func114 rfl ntmps114 results114 rfl 3 26328072917139296674479506920917608079723773850137295405767982863 (by simp) (by simp) ?_
   simp only[zX,simprocAttr,-Int.reduceNatCast',i64,bV,Goal.d_mk,iD,bD,d4,d1,d2,d3,d5,d6,d7,d8,d9,d10]
   refine callWp_mono (hst _) (fun v s' hv=>?_)
   obtain⟨rfl,rfl⟩:=hv
   simp only[zX,simprocAttr,-Int.reduceNatCast',i64,bV,iD,bD,he,Bool.not_false,Bool.not_true,d4,d1,d2,d3,d5,d6,d7,d8,d9,d10]
   refine call_pure hsp rfl rfl ?_
   simp only[zX,simprocAttr,-Int.reduceNatCast',i64,iD,bD,hk0,hl0,hk1,hl1,reV_eq yes,Re.cells_eq yes,reV_eq no,Re.cells_eq no,q,ge_iff_le]
   refine⟨by decide,?_⟩
   refine draw_first Cln0.reserve ?_
   refine draw_c mix [10] [(7,[6],[6])] (by rfl) ?_
   simp only[zX,simprocAttr,-Int.reduceNatCast',i64,bV,iD,bD,hole]
   refine callD_of (call_give [6] (by simp [killO,kill1,frzV.go,frzV,frzD]) (hc _)) ?_
   simp only[zX,simprocAttr,-Int.reduceNatCast',i64,bV,iD,bD]
   first | exact andAll _ _ | exact⟨andAll _ _,rfl⟩
  ·rw[if_neg q] at hr
   have hc:=fun ext=>sr_ext (ih g0 _ _ _ _ _ hr) ext
   unfold taskF taskA srS srO at hc; simp only[Goal.d_mk,i64,iD,bD,bV,List.cons_append,List.nil_append] at hc
   simp only[he] at hc
   unfold srS srO
   refine fn_ok func114 rfl ntmps114 results114 rfl 3 26328072917139296674479506920917608079723773850137295405767982863 (by simp) (by simp) ?_
   simp only[zX,simprocAttr,-Int.reduceNatCast',i64,bV,Goal.d_mk,iD,bD,d4,d1,d2,d3,d5,d6,d7,d8,d9,d10]
   refine callWp_mono (hst _) (fun v s' hv=>?_)
   obtain⟨rfl,rfl⟩:=hv
   simp only[zX,simprocAttr,-Int.reduceNatCast',i64,bV,iD,bD,he,Bool.not_false,Bool.not_true,d4,d1,d2,d3,d5,d6,d7,d8,d9,d10]
   refine call_pure hsp rfl rfl ?_
   simp only[zX,simprocAttr,-Int.reduceNatCast',i64,iD,bD,hk0,hl0,hk1,hl1,reV_eq yes,Re.cells_eq yes,reV_eq no,Re.cells_eq no,q,ge_iff_le]
   refine⟨by decide,?_⟩
   refine draw_first Cln0.reserve ?_
   refine draw_c mix [10] [(7,[6],[6])] (by rfl) ?_
   simp only[zX,simprocAttr,-Int.reduceNatCast',i64,bV,iD,bD,hole]
   refine callD_of (call_give [6] (by simp [killO,kill1,frzV.go,frzV,frzD]) (hc _)) ?_
   simp only[zX,simprocAttr,-Int.reduceNatCast',i64,bV,iD,bD]
   first | exact andAll _ _ | exact⟨andAll _ _,rfl⟩
def reO (re:Re):VL.Obj:=⟨0,true,8,[[i64 re.op,.d (.sl (re.set.map spanC)),.d (.sl (re.kids.map Re.cells)),i64 re.mn,i64 re.mx,i64 re.mode,i64 re.n,bV re.neg]]⟩
theorem srS_ok (g0:Nat) (t:List Int) (most F:Int) (st:Sst) (n:Nat) (hn:3≤n):(srS g0 t most F st).all (objOk n)=true:=by
 unfold srS srO
 simp only[List.all_cons,List.all_nil,objOk,Bool.and_true]
 rw[allD st.ends iD n,allD st.caps capD n]
 have h1:decide (1 < n)=true:=decide_eq_true (by omega)
 have h2:decide (2 < n)=true:=decide_eq_true (by omega)
 simp [refsV,i64,bV,h1,h2]
theorem drop_get {α:Type} {l:List α} {j:Nat} {x:α} (h:l[j]?=some x):l.drop j=x::l.drop (j + 1):=by
 obtain⟨h1,h2⟩:=List.getElem?_eq_some_iff.1 h
 rw[← h2]; exact List.drop_eq_getElem_cons h1
theorem node_3 {t:List Int} {F:Int} {n:Nat} (ih:RunOK t F n) (ht:t.length≤1000000) {g0:Nat} {most:Int} {kind:Int} {re:Re} {k frm:Int} {next:Goal} {i:Int} {c:CapsL} {st s1 st':Sst} {b:Bool} (o:re.op=3)
  (hi0:0≤i) (hi1:i≤t.length) (hset:re.set.length≤1000000000) (hkids:re.kids.length≤1000000000) (hcl:c.length≤1000000000) (he:s1.empty=false) (hst:StepTo t F g0 most st s1)
  (hr:nodeR t (evR t F n) most re next i c s1=some (b,st')) :
  callWp prog 114 [.rf 0 g0 0 0,.d (Goal.mk kind re k frm next).d,i64 i,.d (capD c)] (srS g0 t most F st) fun v s=>v=bV b∧s=srS g0 t most F st':=by
 unfold StepTo srS srO at hst
 simp only[i64,bV,iD,List.cons_append,List.nil_append] at hst
 have d4:decide (re.op=4)=false:=decide_eq_false (by omega)
 have d1:decide (re.op=1)=false:=decide_eq_false (by omega)
 have d2:decide (re.op=2)=false:=decide_eq_false (by omega)
 have d3:decide (re.op=3)=true:=decide_eq_true o
 unfold nodeR at hr
 rw[if_neg (by omega),if_neg (by omega),if_pos o] at hr
 unfold srS srO
 refine fn_ok func114 rfl ntmps114 results114 rfl 3 26328072917139296674479506920917608079723773850137295405767982863 (by simp) (by simp) ?_
 simp only[zX,simprocAttr,-Int.reduceNatCast',i64,bV,Goal.d_mk,iD,bD,d4,d1,d2,d3]
 refine callWp_mono (hst _) (fun v s' hv=>?_)
 obtain⟨rfl,rfl⟩:=hv
 simp only[zX,simprocAttr,-Int.reduceNatCast',i64,bV,iD,bD,he,Bool.not_false,Bool.not_true,d4,d1,d2,d3]
 refine loop_rule (fun m e s=>∃(j:Nat) (s2:Sst),m=re.kids.length - j∧j≤re.kids.length∧e 0=.rf 0 g0 0 0∧e 1=.d (Goal.mk kind re k frm next).d∧e 2=i64 i∧e 3=.d (capD c)∧e 9=.rf 3 0 0 0∧e 12=i64 j∧s=srS g0 t most F s2++[reO re] ∧
   altR (fun k st=>evR t F n most (.run (.mk 0 k 0 0 next) i c) st) (re.kids.drop j) s2=some (b,st'))
  ⟨_,_,_,Cln.refl,0,s1,rfl,by omega,rfl,?_,rfl,rfl,rfl,rfl,?_,by simpa using hr⟩ ?_
 ·rw[Goal.d_mk]; rfl
 ·unfold srS srO reO; simp only[he]; rfl
 clear hr
 rintro m e s ⟨j,s2,rfl,hj,h0,h1,h2,h3,h9,h12,rfl,hb⟩
 rw[Goal.d_mk] at h1
 rcases Nat.lt_or_ge j re.kids.length with hlt | hge
 ·obtain⟨x,hx⟩:∃x,re.kids[j]?=some x:=⟨_,List.getElem?_eq_getElem hlt⟩
  rw[drop_get hx] at hb
  simp only[altR] at hb
  cases hxx:evR t F n most (.run (.mk 0 x 0 0 next) i c) s2 with
  | none=>rw[hxx] at hb; cases hb
  | some y =>
   obtain⟨b1,s3⟩:=y
   rw[hxx] at hb
   have hc:=fun ext=>sr_ext (ih g0 _ _ _ _ _ hxx) ext
   unfold taskF taskA srS srO at hc; simp only[Goal.d_mk,i64,iD,bD,bV,List.cons_append,List.nil_append] at hc
   unfold srS srO reO
   simp only[zX,simprocAttr,-Int.reduceNatCast',i64,bV,iD,bD,List.cons_append,List.nil_append,h0,h1,h2,h3,h9,h12,hlt,hx]
   refine draw_first Cln0.reserve ?_
   refine draw_c mix [14] [(11,[4],[4])] (by rfl) ?_
   simp only[zX,simprocAttr,-Int.reduceNatCast',i64,bV,iD,bD,hole,h0,h1,h2,h3,h9,h12,hlt,hx,reV_eq x,Re.cells_eq x]
   refine callD_of (call_give [4] (by simp [killO,kill1,frzV.go,frzV,frzD]) (hc _)) ?_
   cases b1 with
   | true =>
    simp only[orR,Option.some.injEq,Prod.mk.injEq] at hb
    obtain⟨rfl,rfl⟩:=hb
    simp only[zX,simprocAttr,-Int.reduceNatCast',i64,bV,iD,bD]
    first | exact andAll _ _ | exact⟨andAll _ _,rfl⟩
   | false =>
    simp only[orR] at hb
    simp only[zX,simprocAttr,-Int.reduceNatCast',i64,bV,iD,bD,h0,h1,h2,h3,h9,h12]
    refine⟨re.kids.length - (j + 1),_,_,by omega,Cln.cut (s':=srS g0 t most F s3++[reO re]) 4 (by omega) rfl ?_ [0,1,2,3,9,12] ?_,j + 1,s3,rfl,hlt,?_,?_,?_,?_,?_,?_,rfl,hb⟩
    ·have:=srS_ok g0 t most F s3 4 (by omega)
     rw[List.all_append,this]; rfl
    ·simp [updE,trimE_app,refsV,i64,h0,h1,h2,h3,h9,h12]
    ·simpa [keepE,updE,trimE_app,i64] using h0
    ·rw[Goal.d_mk]; simpa [keepE,updE,trimE_app,i64] using h1
    ·simpa [keepE,updE,trimE_app,i64] using h2
    ·simpa [keepE,updE,trimE_app,i64] using h3
    ·simpa [keepE,updE,trimE_app,i64] using h9
    ·simp only[keepE,updE,List.contains_cons,List.contains_nil,Nat.reduceBEq,Bool.or_false,Bool.false_or,Bool.true_or,Bool.or_true,if_true,Bool.false_eq_true,if_false,reduceIte,Nat.reduceEqDiff]
     rw[w64 _ (by omega)]; rfl
 ·have hje:j=re.kids.length:=by omega
  subst hje
  rw[List.drop_length] at hb
  simp only[altR,Option.some.injEq,Prod.mk.injEq] at hb
  obtain⟨rfl,rfl⟩:=hb
  unfold srS srO reO
  simp only[zX,simprocAttr,-Int.reduceNatCast',i64,bV,iD,bD,List.cons_append,List.nil_append,h0,h1,h2,h3,h9,h12,Nat.lt_irrefl]
  first | exact andAll _ _ | exact⟨andAll _ _,rfl⟩
theorem node_2 {t:List Int} {F:Int} {n:Nat} (ih:RunOK t F n) (ht:t.length≤1000000) {g0:Nat} {most:Int} {kind:Int} {re:Re} {k frm:Int} {next:Goal} {i:Int} {c:CapsL} {st s1 st':Sst} {b:Bool} (o:re.op=2)
  (hi0:0≤i) (hi1:i≤t.length) (hset:re.set.length≤1000000000) (hkids:re.kids.length≤1000000000) (hcl:c.length≤1000000000) (he:s1.empty=false) (hst:StepTo t F g0 most st s1)
  (hr:nodeR t (evR t F n) most re next i c s1=some (b,st')) :
  callWp prog 114 [.rf 0 g0 0 0,.d (Goal.mk kind re k frm next).d,i64 i,.d (capD c)] (srS g0 t most F st) fun v s=>v=bV b∧s=srS g0 t most F st':=by
 unfold StepTo srS srO at hst
 simp only[i64,bV,iD,List.cons_append,List.nil_append] at hst
 have d4:decide (re.op=4)=false:=decide_eq_false (by omega)
 have d1:decide (re.op=1)=false:=decide_eq_false (by omega)
 have d2:decide (re.op=2)=true:=decide_eq_true o
 unfold nodeR at hr
 rw[if_neg (by omega),if_pos o] at hr
 have wl:IntKind.i64.wrap ((re.kids.length:Int) - 1)=(re.kids.length:Int) - 1:=w64 _ (by omega)
 unfold srS srO
 refine fn_ok func114 rfl ntmps114 results114 rfl 3 26328072917139296674479506920917608079723773850137295405767982863 (by simp) (by simp) ?_
 simp only[zX,simprocAttr,-Int.reduceNatCast',i64,bV,Goal.d_mk,iD,bD,d4,d1,d2]
 refine callWp_mono (hst _) (fun v s' hv=>?_)
 obtain⟨rfl,rfl⟩:=hv
 simp only[zX,simprocAttr,-Int.reduceNatCast',i64,bV,iD,bD,he,Bool.not_false,Bool.not_true,d4,d1,d2]
 refine loop_rule (fun m e s=>∃(j:Nat),m=j∧j≤re.kids.length∧e 0=.rf 0 g0 0 0∧e 2=i64 i∧e 3=.d (capD c)∧e 9=.rf 3 0 0 0∧e 10=.d (pushAll (re.kids.drop j) next).d∧e 11=i64 ((j:Int) - 1)∧s=srS g0 t most F s1++[reO re])
  ⟨_,_,_,Cln.refl,re.kids.length,rfl,by omega,rfl,rfl,rfl,rfl,?_,?_,?_⟩ ?_
 ·rw[List.drop_length]; rfl
 ·simp [updE,wl,i64]
 ·unfold srS srO reO; simp only[he]; rfl
 rintro m e s ⟨j,rfl,hj,h0,h2,h3,h9,h10,h11,rfl⟩
 cases m with
 | zero =>
  rw[show ((0:Nat):Int) - 1=-1 from rfl] at h11
  rw[List.drop_zero] at h10
  have hc:=fun ext=>sr_ext (ih g0 _ _ _ _ _ hr) ext
  unfold taskF taskA srS srO at hc; simp only[Goal.d_mk,i64,iD,bD,bV,List.cons_append,List.nil_append] at hc
  simp only[he] at hc
  unfold srS srO reO
  simp only[zX,simprocAttr,-Int.reduceNatCast',i64,bV,iD,bD,List.cons_append,List.nil_append,h0,h2,h3,h9,h10,h11,ge_iff_le,he]
  (refine callWp_mono (hc _) (fun v s' hv=>?_); obtain⟨rfl,rfl⟩:=hv)
  simp only[zX,simprocAttr,-Int.reduceNatCast',i64,bV,iD,bD]
  first | exact andAll _ _ | exact⟨andAll _ _,rfl⟩
 | succ j =>
  rw[show ((j + 1:Nat):Int) - 1=j by omega] at h11
  have hj0:(0:Int)≤(j:Int):=by omega
  have hlt:j < re.kids.length:=by omega
  have hlt':(j:Int) < (re.kids.length:Int):=by omega
  obtain⟨x,hx⟩:∃x,re.kids[j]?=some x:=⟨_,List.getElem?_eq_getElem hlt⟩
  have hpush:pushAll (re.kids.drop j) next=.mk 0 x 0 0 (pushAll (re.kids.drop (j + 1)) next):=by rw[drop_get hx]; rfl
  generalize pushAll (re.kids.drop (j + 1)) next=G at *
  have w1:IntKind.i64.wrap ((j:Int) - 1)=(j:Int) - 1:=w64 _ (by omega)
  unfold srS srO reO
  simp only[zX,simprocAttr,-Int.reduceNatCast',i64,bV,iD,bD,List.cons_append,List.nil_append,h0,h2,h3,h9,h10,h11,ge_iff_le,hj0,hlt,hlt',hx,reV_eq x,Re.cells_eq x,w1]
  refine⟨j,_,_,by omega,(Cln.freeze [4] [10]).trans (Cln.cut (s':=srS g0 t most F s1++[reO re]) 4 (by omega) rfl ?_ [0,2,3,9,10,11] ?_),j,rfl,by omega,?_,?_,?_,?_,?_,?_,rfl⟩
  ·have:=srS_ok g0 t most F s1 4 (by omega)
   rw[List.all_append,this]; rfl
  ·simp [freezeE,updE,trimE_app,refsV,i64,h0,h2,h3,h9,h10,h11]
   rfl
  ·simpa [keepE,freezeE,updE,trimE_app] using h0
  ·simpa [keepE,freezeE,updE,trimE_app,i64] using h2
  ·simpa [keepE,freezeE,updE,trimE_app] using h3
  ·simpa [keepE,freezeE,updE,trimE_app] using h9
  ·rw[hpush,Goal.d_mk]; rfl
  ·rfl
def spO (x1 x2:Int):VL.Obj:=⟨0,true,2,[[i64 x1,i64 x2]]⟩
theorem sameR_succ {t:List Int} {a i:Int} {j:Nat}:sameR t a i (j + 1)=(sameR t a i j&&(tAt t (a + j) == tAt t (i + j))):=by
 unfold sameR
 rw[List.range_succ,List.all_append]
 simp
theorem sameR_no {t:List Int} {a i:Int} {n j:Nat} (hj:j < n) (h:¬tAt t (a + j)=tAt t (i + j)):sameR t a i n=false:=by
 rw[Bool.eq_false_iff]
 intro hs
 unfold sameR at hs
 rw[List.all_eq_true] at hs
 have:=hs j (List.mem_range.2 hj)
 simp only[beq_iff_eq] at this
 exact h this
theorem node_6 {t:List Int} {F:Int} {n:Nat} (ih:RunOK t F n) (ht:t.length≤1000000) {g0:Nat} {most:Int} {kind:Int} {re:Re} {k frm:Int} {next:Goal} {i:Int} {c:CapsL} {st s1 st':Sst} {b:Bool} (o:re.op=6)
  (hi0:0≤i) (hi1:i≤t.length) (hset:re.set.length≤1000000000) (hkids:re.kids.length≤1000000000) (hcl:c.length≤1000000000) (he:s1.empty=false) (hst:StepTo t F g0 most st s1)
  (hr:nodeR t (evR t F n) most re next i c s1=some (b,st')) :
  callWp prog 114 [.rf 0 g0 0 0,.d (Goal.mk kind re k frm next).d,i64 i,.d (capD c)] (srS g0 t most F st) fun v s=>v=bV b∧s=srS g0 t most F st':=by
 unfold StepTo srS srO at hst
 simp only[i64,bV,iD,List.cons_append,List.nil_append] at hst
 have d4:decide (re.op=4)=false:=decide_eq_false (by omega)
 have d1:decide (re.op=1)=false:=decide_eq_false (by omega)
 have d2:decide (re.op=2)=false:=decide_eq_false (by omega)
 have d3:decide (re.op=3)=false:=decide_eq_false (by omega)
 have d5:decide (re.op=5)=false:=decide_eq_false (by omega)
 have d6:decide (re.op=6)=true:=decide_eq_true o
 unfold nodeR at hr
 rw[if_neg (by omega),if_neg (by omega),if_neg (by omega),if_neg (by omega),if_pos o] at hr
 have hsp:=span_ok c re.n hcl
 generalize spanR c re.n=x at *
 obtain⟨x1,x2⟩:=x
 simp only[i64] at hsp
 simp only at hr
 by_cases q1:x1 < 0
 ·rw[if_pos q1] at hr
  simp only[Option.some.injEq,Prod.mk.injEq] at hr
  obtain⟨rfl,rfl⟩:=hr
  unfold srS srO
  refine fn_ok func114 rfl ntmps114 results114 rfl 3 26328072917139296674479506920917608079723773850137295405767982863 (by simp) (by simp) ?_
  simp only[zX,simprocAttr,-Int.reduceNatCast',i64,bV,Goal.d_mk,iD,bD,d4,d1,d2,d3,d5,d6]
  refine callWp_mono (hst _) (fun v s' hv=>?_)
  obtain⟨rfl,rfl⟩:=hv
  simp only[zX,simprocAttr,-Int.reduceNatCast',i64,bV,iD,bD,he,Bool.not_false,Bool.not_true,d4,d1,d2,d3,d5,d6]
  refine call_pure hsp rfl rfl ?_
  simp only[zX,simprocAttr,-Int.reduceNatCast',i64,iD,bD]
  refine draw_c mix [] [] (by rfl) ?_
  simp only[zX,simprocAttr,-Int.reduceNatCast',i64,bV,iD,bD,q1]
  exact⟨by decide,andAll _ _⟩
 rw[if_neg q1] at hr
 by_cases q2:x2 < x1∨(t.length:Int) < x2
 ·rw[if_pos q2] at hr; cases hr
 rw[if_neg q2] at hr
 have wa:IntKind.i64.wrap (i + x2)=i + x2:=w64 _ (by omega)
 have wb:IntKind.i64.wrap (i + x2 - x1)=i + x2 - x1:=w64 _ (by omega)
 by_cases q3:t.length < i + x2 - x1
 ·rw[if_pos q3] at hr
  simp only[Option.some.injEq,Prod.mk.injEq] at hr
  obtain⟨rfl,rfl⟩:=hr
  unfold srS srO
  refine fn_ok func114 rfl ntmps114 results114 rfl 3 26328072917139296674479506920917608079723773850137295405767982863 (by simp) (by simp) ?_
  simp only[zX,simprocAttr,-Int.reduceNatCast',i64,bV,Goal.d_mk,iD,bD,d4,d1,d2,d3,d5,d6]
  refine callWp_mono (hst _) (fun v s' hv=>?_)
  obtain⟨rfl,rfl⟩:=hv
  simp only[zX,simprocAttr,-Int.reduceNatCast',i64,bV,iD,bD,he,Bool.not_false,Bool.not_true,d4,d1,d2,d3,d5,d6]
  refine call_pure hsp rfl rfl ?_
  simp only[zX,simprocAttr,-Int.reduceNatCast',i64,iD,bD]
  refine draw_c mix [] [] (by rfl) ?_
  simp only[zX,simprocAttr,-Int.reduceNatCast',i64,bV,iD,bD,q1,wa,wb,q3,gt_iff_lt]
  exact⟨by decide,by decide,by decide,andAll _ _⟩
 rw[if_neg q3] at hr
 unfold srS srO
 refine fn_ok func114 rfl ntmps114 results114 rfl 3 26328072917139296674479506920917608079723773850137295405767982863 (by simp) (by simp) ?_
 simp only[zX,simprocAttr,-Int.reduceNatCast',i64,bV,Goal.d_mk,iD,bD,d4,d1,d2,d3,d5,d6]
 refine callWp_mono (hst _) (fun v s' hv=>?_)
 obtain⟨rfl,rfl⟩:=hv
 simp only[zX,simprocAttr,-Int.reduceNatCast',i64,bV,iD,bD,he,Bool.not_false,Bool.not_true,d4,d1,d2,d3,d5,d6]
 refine call_pure hsp rfl rfl ?_
 simp only[zX,simprocAttr,-Int.reduceNatCast',i64,iD,bD]
 refine draw_c mix [] [] (by rfl) ?_
 simp only[zX,simprocAttr,-Int.reduceNatCast',i64,bV,iD,bD,q1,wa,wb,q3,gt_iff_lt]
 refine⟨by decide,by decide,by decide,by decide,?_⟩
 obtain⟨N,hN⟩:∃N:Nat,(N:Int)=x2 - x1:=⟨(x2 - x1).toNat,by omega⟩
 have hN':(x2 - x1).toNat=N:=by omega
 rw[hN'] at hr
 refine loop_rule (fun m e s=>∃(j:Nat),m=N - j∧j≤N∧e 0=.rf 0 g0 0 0∧e 1=.d (Goal.mk kind re k frm next).d∧e 2=i64 i∧e 3=.d (capD c)∧e 13=.rf 4 0 0 0∧e 14=i64 (x1 + j)∧s=srS g0 t most F s1++[reO re,spO x1 x2]∧sameR t x1 i j=true)
  ⟨_,_,_,Cln.refl,0,rfl,by omega,rfl,?_,rfl,rfl,rfl,?_,?_,rfl⟩ ?_
 ·rw[Goal.d_mk]; rfl
 ·simp [updE,i64]
 ·unfold srS srO reO spO; simp only[he]; rfl
 rintro m e s ⟨j,rfl,hj,h0,h1,h2,h3,h13,h14,rfl,hsame⟩
 rw[Goal.d_mk] at h1
 rcases Nat.lt_or_ge j N with hlt | hge
 ·have l0:x1 + (j:Int) < x2:=by omega
  have l1:0≤x1 + (j:Int):=by omega
  have l2:x1 + (j:Int) < (t.length:Int):=by omega
  have l3:0≤i + (j:Int):=by omega
  have l4:i + (j:Int) < (t.length:Int):=by omega
  have g1:=tAt_get l1 l2
  have g2:=tAt_get l3 l4
  have wc:IntKind.i64.wrap (i + (x1 + (j:Int)))=i + (x1 + (j:Int)):=w64 _ (by omega)
  have wd:IntKind.i64.wrap (i + (x1 + (j:Int)) - x1)=i + (j:Int):=by rw[w64 _ (by omega)]; omega
  have we:IntKind.i64.wrap (x1 + (j:Int) + 1)=x1 + ((j + 1:Nat):Int):=by rw[w64 _ (by omega)]; omega
  unfold srS srO reO spO
  simp only[zX,simprocAttr,-Int.reduceNatCast',i64,bV,iD,bD,List.cons_append,List.nil_append,h0,h1,h2,h3,h13,h14,l0]
  refine⟨by decide,?_⟩
  refine draw_c mix [] [] (by rfl) ?_
  by_cases hq:tAt t (x1 + (j:Int))=tAt t (i + (j:Int))
  ·have dq:decide (tAt t (x1 + (j:Int))=tAt t (i + (j:Int)))=true:=decide_eq_true hq
   simp only[zX,simprocAttr,-Int.reduceNatCast',i64,bV,iD,bD,intsD,h0,h1,h2,h3,h13,h14,l1,l2,l3,l4,g1,g2,wc,wd,we,dq]
   refine⟨by decide,N - (j + 1),_,_,by omega,Cln.refl,j + 1,rfl,hlt,?_,?_,?_,?_,?_,?_,rfl,by rw[sameR_succ,hsame,hq]; simp⟩ <;> (try simp only[zU,Nat.reduceBEq,Nat.reduceShiftRight,Nat.reduceMod,Nat.reduceEqDiff,reduceIte])
   ·exact h0
   ·rw[Goal.d_mk]; exact h1
   ·exact h2
   ·exact h3
   ·exact h13
  ·have dq:decide (tAt t (x1 + (j:Int))=tAt t (i + (j:Int)))=false:=decide_eq_false hq
   have hno:sameR t x1 i N=false:=sameR_no hlt hq
   rw[if_neg (by rw[hno]; decide)] at hr
   simp only[Option.some.injEq,Prod.mk.injEq] at hr
   obtain⟨rfl,rfl⟩:=hr
   simp only[zX,simprocAttr,-Int.reduceNatCast',i64,bV,iD,bD,intsD,h0,h1,h2,h3,h13,h14,l1,l2,l3,l4,g1,g2,wc,wd,we,dq]
   exact⟨by decide,andAll _ _⟩
 ·have hje:j=N:=by omega
  subst hje
  rw[if_pos hsame] at hr
  have hc:=fun ext=>sr_ext (ih g0 _ _ _ _ _ hr) ext
  unfold taskF taskA srS srO at hc; simp only[Goal.d_mk,i64,iD,bD,bV,List.cons_append,List.nil_append] at hc
  simp only[he] at hc
  have l0:¬x1 + (j:Int) < x2:=by omega
  unfold srS srO reO spO
  simp only[zX,simprocAttr,-Int.reduceNatCast',i64,bV,iD,bD,List.cons_append,List.nil_append,h0,h1,h2,h3,h13,h14,l0]
  refine⟨by decide,?_⟩
  refine draw_c mix [13] [] (by rfl) ?_
  simp only[zX,simprocAttr,-Int.reduceNatCast',i64,bV,iD,bD,h0,h1,h2,h3,h13,h14,wa,wb,he]
  refine⟨by decide,by decide,callD_of (hc _) ?_⟩
  simp only[zX,simprocAttr,-Int.reduceNatCast',i64,bV,iD,bD]
  first | exact andAll _ _ | exact⟨andAll _ _,rfl⟩
theorem node_4 {t:List Int} {F:Int} {n:Nat} (ih:RunOK t F n) {g0:Nat} {most:Int} {kind:Int} {re:Re} {k frm:Int} {next:Goal} {i:Int} {c:CapsL} {st st':Sst} {b:Bool} (o:re.op=4)
  (hr:evR t F n most (.rep (.mk 1 re 0 0 next) i c) st=some (b,st')) :
  callWp prog 114 [.rf 0 g0 0 0,.d (Goal.mk kind re k frm next).d,i64 i,.d (capD c)] (srS g0 t most F st) fun v s=>v=bV b∧s=srS g0 t most F st':=by
 have hc:=fun ext=>sr_ext (ih g0 _ _ _ _ _ hr) ext
 unfold taskF taskA srS srO at hc; simp only[Goal.d_mk,i64,iD,bD,bV,List.cons_append,List.nil_append] at hc
 have d4:decide (re.op=4)=true:=decide_eq_true o
 unfold srS srO
 refine fn_ok func114 rfl ntmps114 results114 rfl 3 26328072917139296674479506920917608079723773850137295405767982863 (by simp) (by simp) ?_
 simp only[zX,simprocAttr,-Int.reduceNatCast',i64,bV,Goal.d_mk,iD,bD,d4]
 refine draw_first Cln0.reserve ?_
 refine draw_c mix [10] [(7,[4],[4])] (by rfl) ?_
 simp only[zX,simprocAttr,-Int.reduceNatCast',i64,bV,iD,bD,hole]
 refine callD_of (call_give [4] (by simp [killO,kill1,frzV.go,frzV,frzD]) (hc _)) ?_
 simp only[zX,simprocAttr,-Int.reduceNatCast',i64,bV,iD,bD]
 exact andAll _ _
theorem node_out {t:List Int} {F:Int} {g0:Nat} {most:Int} {kind:Int} {re:Re} {k frm:Int} {next:Goal} {i:Int} {c:CapsL} {st s1:Sst} (hst:StepTo t F g0 most st s1) (he:s1.empty=true) (o:re.op≠4) :
  callWp prog 114 [.rf 0 g0 0 0,.d (Goal.mk kind re k frm next).d,i64 i,.d (capD c)] (srS g0 t most F st) fun v s=>v=bV true∧s=srS g0 t most F s1:=by
 unfold StepTo srS srO at hst
 simp only[i64,bV,iD,List.cons_append,List.nil_append] at hst
 have d4:decide (re.op=4)=false:=decide_eq_false o
 unfold srS srO
 refine fn_ok func114 rfl ntmps114 results114 rfl 3 26328072917139296674479506920917608079723773850137295405767982863 (by simp) (by simp) ?_
 simp only[zX,simprocAttr,-Int.reduceNatCast',i64,bV,Goal.d_mk,iD,bD,d4]
 refine callWp_mono (hst _) (fun v s' hv=>?_)
 obtain⟨rfl,rfl⟩:=hv
 simp only[zX,simprocAttr,-Int.reduceNatCast',i64,bV,iD,bD,he,Bool.not_false,Bool.not_true]
 exact andAll _ _
theorem run_all {t:List Int} (ht:t.length≤1000000) (F:Int):∀n,RunOK t F n
 | 0=>fun _ _ _ _ _ _ h=>by cases h
 | n + 1=>fun g0 most task st b st' h=>by
  have ih:=run_all ht F n
  have h:evStep t F (evR t F n) most task st=some (b,st'):=h
  cases task with
  | run g i c =>
   cases g with
   | nil =>
    simp only[evStep] at h
    by_cases hi:i < 0∨(t.length:Int) < i
    ·rw[if_pos hi] at h; cases h
    rw[if_neg hi] at h
    by_cases he:st.ends.length < 2000000000000∧st.caps.length=st.ends.length
    ·rw[if_pos he] at h
     simp only[Option.some.injEq,Prod.mk.injEq] at h
     obtain⟨rfl,rfl⟩:=h
     exact run_nil he.1 he.2
    ·rw[if_neg he] at h; cases h
   | mk kind re k frm next=>exact run_mk ih h
  | rep g i c =>
   simp only[evStep] at h
   by_cases hi:i < 0∨(t.length:Int) < i
   ·rw[if_pos hi] at h; cases h
   rw[if_neg hi] at h
   cases g with
   | nil=>cases h
   | mk kind re k frm next =>
    by_cases hm:re.mode=2
    ·exact rep_poss ih hm h
    ·exact rep_step ih hm h
  | node g i c =>
   simp only[evStep] at h
   by_cases hi:i < 0∨(t.length:Int) < i
   ·rw[if_pos hi] at h; cases h
   rw[if_neg hi] at h
   cases g with
   | nil=>cases h
   | mk kind re k frm next =>
    simp only at h
    by_cases o4:re.op=4
    ·rw[if_pos o4] at h; exact node_4 ih o4 h
    rw[if_neg o4] at h
    by_cases c0:1000000000 < re.set.length∨1000000000 < re.kids.length∨1000000000 < c.length
    ·rw[if_pos c0] at h; cases h
    rw[if_neg c0] at h
    by_cases c1:st.steps < 0∨10000000000000 < st.steps
    ·rw[if_pos c1] at h; cases h
    rw[if_neg c1] at h
    have hst:StepTo t F g0 most st (st.step F):=fun ext=>step_ext g0 t most F st (by omega) (by omega) ext
    by_cases he:(st.step F).empty=true
    ·rw[if_pos he] at h
     simp only[Option.some.injEq,Prod.mk.injEq] at h
     obtain⟨rfl,rfl⟩:=h
     exact node_out hst he o4
    ·rw[if_neg he] at h
     have he:(st.step F).empty=false:=by simpa using he
     have a1:0≤i:=by omega
     have a2:i≤t.length:=by omega
     have a3:re.set.length≤1000000000:=by omega
     have a4:re.kids.length≤1000000000:=by omega
     have a5:c.length≤1000000000:=by omega
     by_cases o1:re.op=1
     ·exact node_1 ih ht o1 a1 a2 a3 a4 a5 he hst h
     by_cases o2:re.op=2
     ·exact node_2 ih ht o2 a1 a2 a3 a4 a5 he hst h
     by_cases o3:re.op=3
     ·exact node_3 ih ht o3 a1 a2 a3 a4 a5 he hst h
     by_cases o5:re.op=5
     ·exact node_5 ih ht o5 a1 a2 a3 a4 a5 he hst h
     by_cases o6:re.op=6
     ·exact node_6 ih ht o6 a1 a2 a3 a4 a5 he hst h
     by_cases o7:re.op=7
     ·exact node_7 ih ht o7 a1 a2 a3 a4 a5 he hst h
     by_cases o8:re.op=8
     ·exact node_8 ih ht o8 a1 a2 a3 a4 a5 he hst h
     by_cases o9:re.op=9
     ·exact node_9 ih ht o9 a1 a2 a3 a4 a5 he hst h
     by_cases o10:re.op=10
     ·exact node_10 ih ht o10 a1 a2 a3 a4 a5 he hst h
     by_cases o11:re.op=11
     ·exact node_11 ih ht o11 a1 a2 a3 a4 a5 he hst h
     exact node_other ih ht ⟨o1,o2,o3,o4,o5,o6,o7,o8,o9,o10,o11⟩ a1 a2 a3 a4 a5 he hst h
end Go.Proofs.Ytllagoeijcjpiaa
