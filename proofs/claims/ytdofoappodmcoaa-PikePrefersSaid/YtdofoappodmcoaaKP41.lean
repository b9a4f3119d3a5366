/- A part of the proof (K36 K37). -/
import Derived.Test.YtdofoappodmcoaaKP32
import Derived.Test.YtdofoappodmcoaaKP35
set_option linter.unusedSimpArgs false
set_option linter.unusedVariables false
set_option maxRecDepth 100000
set_option maxHeartbeats 80000000
namespace Go.Proofs.Ytdofoappodmcoaa
open Go.VL Go.Proofs.Try
theorem st3_numbers:st3I prog 195=some .i64:=by kernel_rfl
theorem tgt_ok (g:Prg) (x:Int) (hs:g.ins.length≤1000000000):callWp prog 110 [i64 x,.rf 0 0 0 0] [boxP g] fun v s=>v=bV (tgtB g.ins.length x)∧s=[boxP g]:=by
 by_cases h0:0≤x
 ·by_cases h1:x < g.ins.length
  ·have e:tgtB g.ins.length x=true:=decide_eq_true ⟨h0,h1⟩
   rw[e]
   refine fn_ok func110 rfl ntmps110 results110 rfl 1 11 (by simp) (by simp) ?_
   simp only[zX,simprocAttr,i64,bV,iD,bD,boxP,h0,h1,List.length_map]
  ·have e:tgtB g.ins.length x=false:=decide_eq_false (fun h=>h1 h.2)
   rw[e]
   refine fn_ok func110 rfl ntmps110 results110 rfl 1 11 (by simp) (by simp) ?_
   simp only[zX,simprocAttr,i64,bV,iD,bD,boxP,h0,h1,List.length_map]
 ·have e:tgtB g.ins.length x=false:=decide_eq_false (fun h=>h0 h.1)
  rw[e]
  refine fn_ok func110 rfl ntmps110 results110 rfl 1 11 (by simp) (by simp) ?_
  simp only[zX,simprocAttr,i64,bV,iD,bD,boxP,h0,List.length_map]
theorem call_tgt {g:Prg} {x:Int} {s:List VL.Obj} {K:V→List VL.Obj→Prop} (hs:g.ins.length≤1000000000) (ho:s[0]?=some (boxP g)) (hk:K (bV (tgtB g.ins.length x)) s):callWp prog 110 [i64 x,.rf 0 0 0 0] s K:=by
 have e:renO [0] (boxP g)=boxP g:=by unfold renO boxP; simp [renV.go,renV,i64,bV]
 refine call_at 0 (tgt_ok g x hs) rfl rfl (by simp [objOk,boxP,refsV,i64,bV]) (by rw[e]; exact ho) rfl ?_
 rw[e,set_same ho]
 exact hk
theorem pvalid_0 (g:Prg) (x:Ins) (hl:x.set.length≤1000000000) (o:x.op=0):PureOK prog 93 [prgV g,.d (.el x.cells)] (bV (insB g.ins.length g.caps g.runes x)):=by
 have hst:=st3_numbers
 refine fn_ok func93 rfl ntmps93 results93 rfl 0 16887 (by simp) (by simp) ?_
 simp only[zX,simprocAttr,i64,bV,iD,bD,prgV_eq,Ins.cells,o]
 refine draw_c mix [] [] (by rfl) ?_
 by_cases hs:(x.set.length:Int)=0
 ·have hs':=eq_true hs
  have hs0:x.set=[]:=List.length_eq_zero_iff.1 (by omega)
  simp only[zX,simprocAttr,i64,bV,iD,bD,prgV_eq,Ins.cells,o,hs',hst,List.length_map]
  by_cases a1:x.x=0 <;> by_cases a2:x.y=0 <;> by_cases a3:x.n=0 <;> simp [insB,unusedB,opOk,o,a1,a2,a3,hs0]
 ·have hs0:x.set≠[]:=fun h=>hs (by rw[h]; rfl)
  simp only[zX,simprocAttr,i64,bV,iD,bD,prgV_eq,Ins.cells,o,hs,hst,List.length_map]
  by_cases a1:x.x=0 <;> by_cases a2:x.y=0 <;> by_cases a3:x.n=0 <;> simp [insB,unusedB,opOk,o,a1,a2,a3,hs0]
theorem pvalid_3 (g:Prg) (x:Ins) (hl:x.set.length≤1000000000) (hg:g.ins.length≤1000000000) (o:x.op=3):PureOK prog 93 [prgV g,.d (.el x.cells)] (bV (insB g.ins.length g.caps g.runes x)):=by
 have hst:=st3_numbers
 have hb:insB g.ins.length g.caps g.runes x=(unusedB x&&tgtB g.ins.length x.x):=by unfold insB opOk; simp [o]
 rw[hb]
 refine fn_ok func93 rfl ntmps93 results93 rfl 0 16887 (by simp) (by simp) ?_
 simp only[zX,simprocAttr,i64,bV,iD,bD,prgV_eq,Ins.cells,o]
 refine call_tgt (g:=g) (x:=x.x) hg rfl ?_
 cases tgtB g.ins.length x.x with
 | true =>
  simp only[zX,simprocAttr,i64,bV,iD,bD,prgV_eq,Ins.cells,o]
  refine draw_c mix [] [] (by rfl) ?_
  by_cases hs:(x.set.length:Int)=0
  ·have hs':=eq_true hs
   have hs0:x.set=[]:=List.length_eq_zero_iff.1 (by omega)
   simp only[zX,simprocAttr,i64,bV,iD,bD,prgV_eq,Ins.cells,o,hs',hst,List.length_map]
   by_cases a1:x.x=0 <;> by_cases a2:x.y=0 <;> by_cases a3:x.n=0 <;> simp [unusedB,o,a1,a2,a3,hs0]
  ·have hs0:x.set≠[]:=fun h=>hs (by rw[h]; rfl)
   simp only[zX,simprocAttr,i64,bV,iD,bD,prgV_eq,Ins.cells,o,hs,hst,List.length_map]
   by_cases a1:x.x=0 <;> by_cases a2:x.y=0 <;> by_cases a3:x.n=0 <;> simp [unusedB,o,a1,a2,a3,hs0]
 | false =>
  simp only[zX,simprocAttr,i64,bV,iD,bD,prgV_eq,Ins.cells,o]
  refine draw_c mix [] [] (by rfl) ?_
  simp only[zX,simprocAttr,i64,bV,iD,bD,prgV_eq,Ins.cells,o,hst,List.length_map,Bool.and_false]
theorem pvalid_2 (g:Prg) (x:Ins) (hl:x.set.length≤1000000000) (hg:g.ins.length≤1000000000) (o:x.op=2):PureOK prog 93 [prgV g,.d (.el x.cells)] (bV (insB g.ins.length g.caps g.runes x)):=by
 have hst:=st3_numbers
 have hb:insB g.ins.length g.caps g.runes x=(unusedB x&&(tgtB g.ins.length x.x&&tgtB g.ins.length x.y)):=by unfold insB opOk; simp [o]
 rw[hb]
 refine fn_ok func93 rfl ntmps93 results93 rfl 0 16887 (by simp) (by simp) ?_
 simp only[zX,simprocAttr,i64,bV,iD,bD,prgV_eq,Ins.cells,o]
 refine call_tgt (g:=g) (x:=x.x) hg rfl ?_
 cases tgtB g.ins.length x.x with
 | true =>
  simp only[zX,simprocAttr,i64,bV,iD,bD,prgV_eq,Ins.cells,o]
  refine call_tgt (g:=g) (x:=x.y) hg rfl ?_
  cases tgtB g.ins.length x.y with
  | true =>
   simp only[zX,simprocAttr,i64,bV,iD,bD,prgV_eq,Ins.cells,o]
   refine draw_c mix [] [(8,[1],[]),(9,[1],[1]),(10,[1],[]),(11,[1],[1])] (by rfl) ?_
   simp only[zX,simprocAttr,i64,bV,iD,bD,prgV_eq,Ins.cells,o]
   refine draw_c mix [] [] (by rfl) ?_
   by_cases hs:(x.set.length:Int)=0
   ·have hs':=eq_true hs
    have hs0:x.set=[]:=List.length_eq_zero_iff.1 (by omega)
    simp only[zX,simprocAttr,i64,bV,iD,bD,prgV_eq,Ins.cells,o,hs',hst,List.length_map]
    by_cases a1:x.x=0 <;> by_cases a2:x.y=0 <;> by_cases a3:x.n=0 <;> simp [unusedB,o,a1,a2,a3,hs0]
   ·have hs0:x.set≠[]:=fun h=>hs (by rw[h]; rfl)
    simp only[zX,simprocAttr,i64,bV,iD,bD,prgV_eq,Ins.cells,o,hs,hst,List.length_map]
    by_cases a1:x.x=0 <;> by_cases a2:x.y=0 <;> by_cases a3:x.n=0 <;> simp [unusedB,o,a1,a2,a3,hs0]
  | false =>
   simp only[zX,simprocAttr,i64,bV,iD,bD,prgV_eq,Ins.cells,o]
   refine draw_c mix [] [(8,[1],[]),(9,[1],[1]),(10,[1],[]),(11,[1],[1])] (by rfl) ?_
   simp only[zX,simprocAttr,i64,bV,iD,bD,prgV_eq,Ins.cells,o]
   refine draw_c mix [] [] (by rfl) ?_
   simp only[zX,simprocAttr,i64,bV,iD,bD,prgV_eq,Ins.cells,o,hst,List.length_map,Bool.and_false]
 | false =>
  simp only[zX,simprocAttr,i64,bV,iD,bD,prgV_eq,Ins.cells,o]
  refine draw_c mix [] [(8,[1],[]),(9,[1],[1]),(10,[1],[]),(11,[1],[1])] (by rfl) ?_
  simp only[zX,simprocAttr,i64,bV,iD,bD,prgV_eq,Ins.cells,o]
  refine draw_c mix [] [] (by rfl) ?_
  simp only[zX,simprocAttr,i64,bV,iD,bD,prgV_eq,Ins.cells,o,hst,List.length_map,Bool.and_false,Bool.false_and]
end Go.Proofs.Ytdofoappodmcoaa
