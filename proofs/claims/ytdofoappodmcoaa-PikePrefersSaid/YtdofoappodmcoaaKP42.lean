/- A part of the proof (K37B K37C). -/
import Derived.Test.YtdofoappodmcoaaKP41
set_option linter.unusedSimpArgs false
set_option linter.unusedVariables false
set_option maxRecDepth 100000
set_option maxHeartbeats 80000000
namespace Go.Proofs.Ytdofoappodmcoaa
open Go.VL Go.Proofs.Try
theorem pvalid_5 (g:Prg) (x:Ins) (hl:x.set.length≤1000000000) (o:x.op=5):PureOK prog 93 [prgV g,.d (.el x.cells)] (bV (insB g.ins.length g.caps g.runes x)):=by
 have hst:=st3_numbers
 have hb:insB g.ins.length g.caps g.runes x=(unusedB x&&decide (0≤x.n∧x.n≤5)):=by unfold insB opOk; simp [o]
 rw[hb]
 refine fn_ok func93 rfl ntmps93 results93 rfl 0 16887 (by simp) (by simp) ?_
 by_cases n0:0≤x.n
 ·by_cases n1:x.n≤5
  ·rw[decide_eq_true ⟨n0,n1⟩]
   simp only[zX,simprocAttr,i64,bV,iD,bD,prgV_eq,Ins.cells,o,n0,n1]
   refine draw_c mix [] [] (by rfl) ?_
   by_cases hs:(x.set.length:Int)=0
   ·have hs':=eq_true hs
    have hs0:x.set=[]:=List.length_eq_zero_iff.1 (by omega)
    simp only[zX,simprocAttr,i64,bV,iD,bD,prgV_eq,Ins.cells,o,hs',hst,List.length_map]
    by_cases a1:x.x=0 <;> by_cases a2:x.y=0 <;> by_cases a3:x.n=0 <;> simp [unusedB,insB,opOk,a1,a2,a3,hs0,o]
   ·have hs0:x.set≠[]:=fun h=>hs (by rw[h]; rfl)
    simp only[zX,simprocAttr,i64,bV,iD,bD,prgV_eq,Ins.cells,o,hs,hst,List.length_map]
    by_cases a1:x.x=0 <;> by_cases a2:x.y=0 <;> by_cases a3:x.n=0 <;> simp [unusedB,insB,opOk,a1,a2,a3,hs0,o]
  ·rw[decide_eq_false (fun h=>n1 h.2)]
   simp only[zX,simprocAttr,i64,bV,iD,bD,prgV_eq,Ins.cells,o,n0,n1]
   refine draw_c mix [] [] (by rfl) ?_
   simp only[zX,simprocAttr,i64,bV,iD,bD,prgV_eq,Ins.cells,o,n0,n1,Bool.and_false]
 ·rw[decide_eq_false (fun h=>n0 h.1)]
  simp only[zX,simprocAttr,i64,bV,iD,bD,prgV_eq,Ins.cells,o,n0]
  refine draw_c mix [] [] (by rfl) ?_
  simp only[zX,simprocAttr,i64,bV,iD,bD,prgV_eq,Ins.cells,o,n0,Bool.and_false]
theorem pvalid_4 (g:Prg) (x:Ins) (hl:x.set.length≤1000000000) (hc0:0≤g.caps) (hc1:g.caps≤9) (o:x.op=4):PureOK prog 93 [prgV g,.d (.el x.cells)] (bV (insB g.ins.length g.caps g.runes x)):=by
 have hst:=st3_numbers
 have w1:IntKind.i64.wrap (2 * g.caps)=2 * g.caps:=w64 _ (by omega)
 have w2:IntKind.i64.wrap (2 * g.caps - 1)=2 * g.caps - 1:=w64 _ (by omega)
 have hb:insB g.ins.length g.caps g.runes x=(unusedB x&&decide (0≤x.n∧x.n < 2 * g.caps)):=by unfold insB opOk; simp [o]
 rw[hb]
 refine fn_ok func93 rfl ntmps93 results93 rfl 0 16887 (by simp) (by simp) ?_
 by_cases n0:0≤x.n
 ·by_cases n1:x.n≤2 * g.caps - 1
  ·rw[decide_eq_true ⟨n0,by omega⟩]
   simp only[zX,simprocAttr,i64,bV,iD,bD,prgV_eq,Ins.cells,o]
   refine draw_c mix [] [] (by rfl) ?_
   simp only[zX,simprocAttr,i64,bV,iD,bD,prgV_eq,Ins.cells,o,n0,n1,w1,w2]
   refine draw_c mix [] [] (by rfl) ?_
   by_cases hs:(x.set.length:Int)=0
   ·have hs':=eq_true hs
    have hs0:x.set=[]:=List.length_eq_zero_iff.1 (by omega)
    simp only[zX,simprocAttr,i64,bV,iD,bD,prgV_eq,Ins.cells,o,hs',hst,List.length_map]
    by_cases a1:x.x=0 <;> by_cases a2:x.y=0 <;> by_cases a3:x.n=0 <;> simp [unusedB,insB,opOk,a1,a2,a3,hs0,o]
   ·have hs0:x.set≠[]:=fun h=>hs (by rw[h]; rfl)
    simp only[zX,simprocAttr,i64,bV,iD,bD,prgV_eq,Ins.cells,o,hs,hst,List.length_map]
    by_cases a1:x.x=0 <;> by_cases a2:x.y=0 <;> by_cases a3:x.n=0 <;> simp [unusedB,insB,opOk,a1,a2,a3,hs0,o]
  ·rw[decide_eq_false (fun h=>n1 (by omega))]
   simp only[zX,simprocAttr,i64,bV,iD,bD,prgV_eq,Ins.cells,o]
   refine draw_c mix [] [] (by rfl) ?_
   simp only[zX,simprocAttr,i64,bV,iD,bD,prgV_eq,Ins.cells,o,n0,n1,w1,w2]
   refine draw_c mix [] [] (by rfl) ?_
   simp only[zX,simprocAttr,i64,bV,iD,bD,prgV_eq,Ins.cells,o,n0,n1,Bool.and_false]
 ·rw[decide_eq_false (fun h=>n0 h.1)]
  simp only[zX,simprocAttr,i64,bV,iD,bD,prgV_eq,Ins.cells,o]
  refine draw_c mix [] [] (by rfl) ?_
  simp only[zX,simprocAttr,i64,bV,iD,bD,prgV_eq,Ins.cells,o,n0]
  refine draw_c mix [] [] (by rfl) ?_
  simp only[zX,simprocAttr,i64,bV,iD,bD,prgV_eq,Ins.cells,o,n0,Bool.and_false]
theorem pvalid_9 (g:Prg) (x:Ins) (o0:¬x.op=0) (o1:¬x.op=1) (o2:¬x.op=2) (o3:¬x.op=3) (o4:¬x.op=4) (o5:¬x.op=5):PureOK prog 93 [prgV g,.d (.el x.cells)] (bV (insB g.ins.length g.caps g.runes x)):=by
 have hb:insB g.ins.length g.caps g.runes x=false:=by unfold insB opOk; simp [o0,o1,o2,o3,o4,o5]
 rw[hb]
 refine fn_ok func93 rfl ntmps93 results93 rfl 0 16887 (by simp) (by simp) ?_
 simp only[zX,simprocAttr,i64,bV,iD,bD,prgV_eq,Ins.cells,o0,o1,o2,o3,o4,o5]
 refine draw_c mix [] [] (by rfl) ?_
 simp only[zX,simprocAttr,i64,bV,iD,bD,prgV_eq,Ins.cells,o0,o1,o2,o3,o4,o5]
theorem pvalid_1 (g:Prg) (x:Ins) (hl:x.set.length≤1000000000) (o:x.op=1):PureOK prog 93 [prgV g,.d (.el x.cells)] (bV (insB g.ins.length g.caps g.runes x)):=by
 have hst:=st3_numbers
 have hv:=setsValid_ok x.set hl
 simp only[i64] at hv
 have hb:insB g.ins.length g.caps g.runes x=(unusedB x&&(decide (setE x.set=0)&&hiB g.runes x.set)):=by unfold insB opOk; simp [o]
 have w1:IntKind.i64.wrap ((x.set.length:Int) - 1)=(x.set.length:Int) - 1:=w64 _ (by omega)
 rw[hb]
 refine fn_ok func93 rfl ntmps93 results93 rfl 0 16887 (by simp) (by simp) ?_
 simp only[zX,simprocAttr,i64,bV,iD,bD,prgV_eq,Ins.cells,o]
 refine call_pure hv rfl rfl ?_
 by_cases e0:setE x.set=0
 ·have e0':=eq_true e0
  rw[decide_eq_true e0,Bool.true_and]
  cases hr:g.runes with
  | true =>
   have hh:hiB true x.set=true:=by simp [hiB]
   rw[hh]
   simp only[zX,simprocAttr,i64,bV,iD,bD,prgV_eq,Ins.cells,o,e0',hr,w1,List.length_map,Bool.and_true]
   refine draw_c mix [] [] (by rfl) ?_
   simp only[zX,simprocAttr,i64,bV,iD,bD,prgV_eq,Ins.cells,o,hst,List.length_map]
   by_cases a1:x.x=0 <;> by_cases a2:x.y=0 <;> by_cases a3:x.n=0 <;> simp [unusedB,o,a1,a2,a3]
  | false =>
   by_cases l0:0≤(x.set.length:Int) - 1
   ·obtain⟨sp,hsp⟩:∃sp,x.set[x.set.length - 1]?=some sp:=⟨_,List.getElem?_eq_getElem (by omega)⟩
    have hh:hiB false x.set=decide (sp.2≤255):=by simp [hiB,hsp]
    have ln:((x.set.length:Int) - 1).toNat=x.set.length - 1:=by omega
    have lb:(x.set.length:Int) - 1 < x.set.length:=by omega
    rw[hh]
    simp only[zX,simprocAttr,i64,bV,iD,bD,prgV_eq,Ins.cells,o,e0',hr,w1,l0,ln,lb,hsp,spanC,List.length_map]
    by_cases c:sp.2≤255
    ·rw[decide_eq_true c]
     rw[Bool.and_true]
     refine draw_c mix [] [] (by rfl) ?_
     simp only[zX,simprocAttr,i64,bV,iD,bD,prgV_eq,Ins.cells,o,hst,List.length_map]
     by_cases a1:x.x=0 <;> by_cases a2:x.y=0 <;> by_cases a3:x.n=0 <;> simp [unusedB,o,a1,a2,a3]
    ·rw[decide_eq_false c]
     refine draw_c mix [] [] (by rfl) ?_
     simp only[zX,simprocAttr,i64,bV,iD,bD,prgV_eq,Ins.cells,o,hst,List.length_map,Bool.and_false]
   ·have hn:x.set=[]:=List.length_eq_zero_iff.1 (by omega)
    have hh:hiB false x.set=true:=by simp [hiB,hn]
    rw[hh]
    simp only[zX,simprocAttr,i64,bV,iD,bD,prgV_eq,Ins.cells,o,e0',hr,w1,l0,List.length_map,Bool.and_true]
    refine draw_c mix [] [] (by rfl) ?_
    simp only[zX,simprocAttr,i64,bV,iD,bD,prgV_eq,Ins.cells,o,hst,List.length_map]
    by_cases a1:x.x=0 <;> by_cases a2:x.y=0 <;> by_cases a3:x.n=0 <;> simp [unusedB,o,a1,a2,a3]
 ·rw[decide_eq_false e0,Bool.false_and]
  simp only[zX,simprocAttr,i64,bV,iD,bD,prgV_eq,Ins.cells,o,e0,w1,List.length_map]
  refine draw_c mix [] [] (by rfl) ?_
  simp only[zX,simprocAttr,i64,bV,iD,bD,prgV_eq,Ins.cells,o,hst,List.length_map,Bool.and_false]
end Go.Proofs.Ytdofoappodmcoaa
