/- A part of the proof (K37B K37C). -/
import Derived.Test.YtphfjhaffbfpfaaPM50
set_option linter.all false
set_option maxRecDepth 100000
set_option maxHeartbeats 80000000
namespace Go.Proofs.Ytphfjhaffbfpfaa
open Go.VL Go.Proofs.Try
theorem Pp (g:cJ) (x:bR) (hl:x.set.length<=1000000000) (o:x.op=5):ba prog 58 [qP g,.d (.el x.cells)] (bV (iw g.ins.length g.ah g.aK x)):=by
 have aU:=jG;have hb:iw g.ins.length g.ah g.aK x=(dk x&&decide (0<=x.n/\x.n<=5)):=by unfold iw mV;simp [o]
 rw[hb];refine ar func58 rfl ntmps58 results58 rfl 0 16887 (by simp) (by simp) ?_;by_cases n0:0<=x.n
 ·by_cases n1:x.n<=5
  ·rw[adu ⟨n0,n1⟩];simp only[zX,simprocAttr,i64,bV,iD,bD,aM,bR.cells,o,n0,n1];refine ao mix [] [] (by rfl) ?_;by_cases hs:(x.set.length:Int)=0
   ·have ng:=eq_true hs;have fW:x.set=[]:=List.length_eq_zero_iff.1 (by omega);simp only[zX,simprocAttr,i64,bV,iD,bD,aM,bR.cells,o,ng,aU,ado];by_cases a1:x.x=0 <;> by_cases a2:x.y=0 <;> by_cases a3:x.n=0 <;> simp [dk,iw,mV,a1,a2,a3,fW,o]
   ·have fW:x.set≠[]:=λh=>hs (by rw[h];rfl);simp only[zX,simprocAttr,i64,bV,iD,bD,aM,bR.cells,o,hs,aU,ado];by_cases a1:x.x=0 <;> by_cases a2:x.y=0 <;> by_cases a3:x.n=0 <;> simp [dk,iw,mV,a1,a2,a3,fW,o]
  ·rw[adl (λh=>n1 h.2)];simp only[zX,simprocAttr,i64,bV,iD,bD,aM,bR.cells,o,n0,n1];refine ao mix [] [] (by rfl) ?_;simp only[zX,simprocAttr,i64,bV,iD,bD,aM,bR.cells,o,n0,n1,Bool.and_false]
 ·rw[adl (λh=>n0 h.1)];simp only[zX,simprocAttr,i64,bV,iD,bD,aM,bR.cells,o,n0];refine ao mix [] [] (by rfl) ?_;simp only[zX,simprocAttr,i64,bV,iD,bD,aM,bR.cells,o,n0,Bool.and_false]
theorem Oj (g:cJ) (x:bR) (hl:x.set.length<=1000000000) (KG:0<=g.ah) (x0:g.ah<=9) (o:x.op=4):ba prog 58 [qP g,.d (.el x.cells)] (bV (iw g.ins.length g.ah g.aK x)):=by
 have aU:=jG;have w1:IntKind.i64.wrap (2*g.ah)=2*g.ah:=bM _ (by omega);have w2:IntKind.i64.wrap (2*g.ah-1)=2*g.ah-1:=bM _ (by omega);have hb:iw g.ins.length g.ah g.aK x=(dk x&&decide (0<=x.n/\x.n<2*g.ah)):=by unfold iw mV;simp [o]
 rw[hb];refine ar func58 rfl ntmps58 results58 rfl 0 16887 (by simp) (by simp) ?_;by_cases n0:0<=x.n
 ·by_cases n1:x.n<=2*g.ah-1
  ·rw[adu ⟨n0,by omega⟩];simp only[zX,simprocAttr,i64,bV,iD,bD,aM,bR.cells,o];refine ao mix [] [] (by rfl) ?_;simp only[zX,simprocAttr,i64,bV,iD,bD,aM,bR.cells,o,n0,n1,w1,w2];refine ao mix [] [] (by rfl) ?_;by_cases hs:(x.set.length:Int)=0
   ·have ng:=eq_true hs;have fW:x.set=[]:=List.length_eq_zero_iff.1 (by omega);simp only[zX,simprocAttr,i64,bV,iD,bD,aM,bR.cells,o,ng,aU,ado];by_cases a1:x.x=0 <;> by_cases a2:x.y=0 <;> by_cases a3:x.n=0 <;> simp [dk,iw,mV,a1,a2,a3,fW,o]
   ·have fW:x.set≠[]:=λh=>hs (by rw[h];rfl);simp only[zX,simprocAttr,i64,bV,iD,bD,aM,bR.cells,o,hs,aU,ado];by_cases a1:x.x=0 <;> by_cases a2:x.y=0 <;> by_cases a3:x.n=0 <;> simp [dk,iw,mV,a1,a2,a3,fW,o]
  ·rw[adl (λh=>n1 (by omega))];simp only[zX,simprocAttr,i64,bV,iD,bD,aM,bR.cells,o];refine ao mix [] [] (by rfl) ?_;simp only[zX,simprocAttr,i64,bV,iD,bD,aM,bR.cells,o,n0,n1,w1,w2];refine ao mix [] [] (by rfl) ?_;simp only[zX,simprocAttr,i64,bV,iD,bD,aM,bR.cells,o,n0,n1,Bool.and_false]
 ·rw[adl (λh=>n0 h.1)];simp only[zX,simprocAttr,i64,bV,iD,bD,aM,bR.cells,o];refine ao mix [] [] (by rfl) ?_;simp only[zX,simprocAttr,i64,bV,iD,bD,aM,bR.cells,o,n0];refine ao mix [] [] (by rfl) ?_;simp only[zX,simprocAttr,i64,bV,iD,bD,aM,bR.cells,o,n0,Bool.and_false]
theorem O1 (g:cJ) (x:bR) (o0:¬x.op=0) (o1:¬x.op=1) (o2:¬x.op=2) (o3:¬x.op=3) (o4:¬x.op=4) (o5:¬x.op=5):ba prog 58 [qP g,.d (.el x.cells)] (bV (iw g.ins.length g.ah g.aK x)):=by
 have hb:iw g.ins.length g.ah g.aK x=false:=by unfold iw mV;simp [o0,o1,o2,o3,o4,o5]
 rw[hb];refine ar func58 rfl ntmps58 results58 rfl 0 16887 (by simp) (by simp) ?_;simp only[zX,simprocAttr,i64,bV,iD,bD,aM,bR.cells,o0,o1,o2,o3,o4,o5];refine ao mix [] [] (by rfl) ?_;simp only[zX,simprocAttr,i64,bV,iD,bD,aM,bR.cells,o0,o1,o2,o3,o4,o5]
theorem NP (g:cJ) (x:bR) (hl:x.set.length<=1000000000) (o:x.op=1):ba prog 58 [qP g,.d (.el x.cells)] (bV (iw g.ins.length g.ah g.aK x)):=by
 have aU:=jG;have hv:=CU x.set hl;simp only[i64]at hv;have hb:iw g.ins.length g.ah g.aK x=(dk x&&(decide (wN x.set=0)&&M4 g.aK x.set)):=by unfold iw mV;simp [o]
 have w1:IntKind.i64.wrap ((x.set.length:Int)-1)=(x.set.length:Int)-1:=bM _ (by omega);rw[hb];refine ar func58 rfl ntmps58 results58 rfl 0 16887 (by simp) (by simp) ?_;simp only[zX,simprocAttr,i64,bV,iD,bD,aM,bR.cells,o];refine az hv rfl rfl ?_;by_cases e0:wN x.set=0
 ·have XN:=eq_true e0;rw[adu e0,Bool.true_and];cases hr:g.aK with
  |true =>
   have hh:M4 true x.set=true:=by simp [M4]
   rw[hh];simp only[zX,simprocAttr,i64,bV,iD,bD,aM,bR.cells,o,XN,hr,w1,ado,Bool.and_true];refine ao mix [] [] (by rfl) ?_;simp only[zX,simprocAttr,i64,bV,iD,bD,aM,bR.cells,o,aU,ado];by_cases a1:x.x=0 <;> by_cases a2:x.y=0 <;> by_cases a3:x.n=0 <;> simp [dk,o,a1,a2,a3]
  |false =>
   by_cases l0:0<=(x.set.length:Int)-1
   ·obtain⟨sp,du⟩:∃sp,x.set[x.set.length-1]?=some sp:=⟨_,adn (by omega)⟩
    have hh:M4 false x.set=decide (sp.2<=255):=by simp [M4,du]
    have ln:((x.set.length:Int)-1).toNat=x.set.length-1:=by omega
    have lb:(x.set.length:Int)-1<x.set.length:=by omega
    rw[hh];simp only[zX,simprocAttr,i64,bV,iD,bD,aM,bR.cells,o,XN,hr,w1,l0,ln,lb,du,aN,ado];by_cases c:sp.2<=255
    ·rw[adu c];rw[Bool.and_true];refine ao mix [] [] (by rfl) ?_;simp only[zX,simprocAttr,i64,bV,iD,bD,aM,bR.cells,o,aU,ado];by_cases a1:x.x=0 <;> by_cases a2:x.y=0 <;> by_cases a3:x.n=0 <;> simp [dk,o,a1,a2,a3]
    ·rw[adl c];refine ao mix [] [] (by rfl) ?_;simp only[zX,simprocAttr,i64,bV,iD,bD,aM,bR.cells,o,aU,ado,Bool.and_false]
   ·have hn:x.set=[]:=List.length_eq_zero_iff.1 (by omega);have hh:M4 false x.set=true:=by simp [M4,hn]
    rw[hh];simp only[zX,simprocAttr,i64,bV,iD,bD,aM,bR.cells,o,XN,hr,w1,l0,ado,Bool.and_true];refine ao mix [] [] (by rfl) ?_;simp only[zX,simprocAttr,i64,bV,iD,bD,aM,bR.cells,o,aU,ado];by_cases a1:x.x=0 <;> by_cases a2:x.y=0 <;> by_cases a3:x.n=0 <;> simp [dk,o,a1,a2,a3]
 ·rw[adl e0,Bool.false_and];simp only[zX,simprocAttr,i64,bV,iD,bD,aM,bR.cells,o,e0,w1,ado];refine ao mix [] [] (by rfl) ?_;simp only[zX,simprocAttr,i64,bV,iD,bD,aM,bR.cells,o,aU,ado,Bool.and_false]
end Go.Proofs.Ytphfjhaffbfpfaa
