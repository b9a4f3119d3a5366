/- A part of the proof (K36 K37). -/
import Derived.Test.YtphfjhaffbfpfaaPM20
import Derived.Test.YtphfjhaffbfpfaaPM22
set_option linter.all false
set_option maxRecDepth 100000
set_option maxHeartbeats 80000000
namespace Go.Proofs.Ytphfjhaffbfpfaa
open Go.VL Go.Proofs.Try
theorem jG:NZ prog 146=some .i64:=by kernel_rfl
theorem S6 (g:cJ) (x:Int) (hs:g.ins.length<=1000000000):au prog 76 [i64 x,.rf 0 0 0 0] [jf g] λv s=>v=bV (qK g.ins.length x)/\s=[jf g]:=by
 by_cases h0:0<=x
 ·by_cases h1:x<g.ins.length
  ·have e:qK g.ins.length x=true:=adu ⟨h0,h1⟩;rw[e];refine ar func76 rfl ntmps76 results76 rfl 1 11 (by simp) (by simp) ?_;simp only[zX,simprocAttr,i64,bV,iD,bD,jf,h0,h1,ado]
  ·have e:qK g.ins.length x=false:=adl (λh=>h1 h.2);rw[e];refine ar func76 rfl ntmps76 results76 rfl 1 11 (by simp) (by simp) ?_;simp only[zX,simprocAttr,i64,bV,iD,bD,jf,h0,h1,ado]
 ·have e:qK g.ins.length x=false:=adl (λh=>h0 h.1);rw[e];refine ar func76 rfl ntmps76 results76 rfl 1 11 (by simp) (by simp) ?_;simp only[zX,simprocAttr,i64,bV,iD,bD,jf,h0,ado]
theorem y3 {g:cJ}{x:Int}{s:List VL.Obj}{K:V->List VL.Obj->Prop} (hs:g.ins.length<=1000000000) (ho:s[0]?=some (jf g)) (hk:K (bV (qK g.ins.length x)) s):au prog 76 [i64 x,.rf 0 0 0 0] s K:=by
 have e:bp [0] (jf g)=jf g:=by unfold bp jf;simp [aX.go,aX,i64,bV]
 refine vm 0 (S6 g x hs) rfl rfl (by simp [bJ,jf,ak,i64,bV]) (by rw[e];exact ho) rfl ?_;rw[e,Ek ho];exact hk
theorem N3 (g:cJ) (x:bR) (hl:x.set.length<=1000000000) (o:x.op=0):ba prog 58 [qP g,.d (.el x.cells)] (bV (iw g.ins.length g.ah g.aK x)):=by
 have aU:=jG;refine ar func58 rfl ntmps58 results58 rfl 0 16887 (by simp) (by simp) ?_;simp only[zX,simprocAttr,i64,bV,iD,bD,aM,bR.cells,o];refine ao mix [] [] (by rfl) ?_;by_cases hs:(x.set.length:Int)=0
 ·have ng:=eq_true hs;have fW:x.set=[]:=List.length_eq_zero_iff.1 (by omega);simp only[zX,simprocAttr,i64,bV,iD,bD,aM,bR.cells,o,ng,aU,ado];by_cases a1:x.x=0 <;> by_cases a2:x.y=0 <;> by_cases a3:x.n=0 <;> simp [iw,dk,mV,o,a1,a2,a3,fW]
 ·have fW:x.set≠[]:=λh=>hs (by rw[h];rfl);simp only[zX,simprocAttr,i64,bV,iD,bD,aM,bR.cells,o,hs,aU,ado];by_cases a1:x.x=0 <;> by_cases a2:x.y=0 <;> by_cases a3:x.n=0 <;> simp [iw,dk,mV,o,a1,a2,a3,fW]
theorem Ns (g:cJ) (x:bR) (hl:x.set.length<=1000000000) (hg:g.ins.length<=1000000000) (o:x.op=3):ba prog 58 [qP g,.d (.el x.cells)] (bV (iw g.ins.length g.ah g.aK x)):=by
 have aU:=jG;have hb:iw g.ins.length g.ah g.aK x=(dk x&&qK g.ins.length x.x):=by unfold iw mV;simp [o]
 rw[hb];refine ar func58 rfl ntmps58 results58 rfl 0 16887 (by simp) (by simp) ?_;simp only[zX,simprocAttr,i64,bV,iD,bD,aM,bR.cells,o];refine y3 (g:=g) (x:=x.x) hg rfl ?_;cases qK g.ins.length x.x with
 |true =>
  simp only[zX,simprocAttr,i64,bV,iD,bD,aM,bR.cells,o];refine ao mix [] [] (by rfl) ?_;by_cases hs:(x.set.length:Int)=0
  ·have ng:=eq_true hs;have fW:x.set=[]:=List.length_eq_zero_iff.1 (by omega);simp only[zX,simprocAttr,i64,bV,iD,bD,aM,bR.cells,o,ng,aU,ado];by_cases a1:x.x=0 <;> by_cases a2:x.y=0 <;> by_cases a3:x.n=0 <;> simp [dk,o,a1,a2,a3,fW]
  ·have fW:x.set≠[]:=λh=>hs (by rw[h];rfl);simp only[zX,simprocAttr,i64,bV,iD,bD,aM,bR.cells,o,hs,aU,ado];by_cases a1:x.x=0 <;> by_cases a2:x.y=0 <;> by_cases a3:x.n=0 <;> simp [dk,o,a1,a2,a3,fW]
 |false =>
  simp only[zX,simprocAttr,i64,bV,iD,bD,aM,bR.cells,o];refine ao mix [] [] (by rfl) ?_;simp only[zX,simprocAttr,i64,bV,iD,bD,aM,bR.cells,o,aU,ado,Bool.and_false]
theorem PR (g:cJ) (x:bR) (hl:x.set.length<=1000000000) (hg:g.ins.length<=1000000000) (o:x.op=2):ba prog 58 [qP g,.d (.el x.cells)] (bV (iw g.ins.length g.ah g.aK x)):=by
 have aU:=jG;have hb:iw g.ins.length g.ah g.aK x=(dk x&&(qK g.ins.length x.x&&qK g.ins.length x.y)):=by unfold iw mV;simp [o]
 rw[hb];refine ar func58 rfl ntmps58 results58 rfl 0 16887 (by simp) (by simp) ?_;simp only[zX,simprocAttr,i64,bV,iD,bD,aM,bR.cells,o];refine y3 (g:=g) (x:=x.x) hg rfl ?_;cases qK g.ins.length x.x with
 |true =>
  simp only[zX,simprocAttr,i64,bV,iD,bD,aM,bR.cells,o];refine y3 (g:=g) (x:=x.y) hg rfl ?_;cases qK g.ins.length x.y with
  |true =>
   simp only[zX,simprocAttr,i64,bV,iD,bD,aM,bR.cells,o];refine ao mix [] [(8,[1],[]),(9,[1],[1]),(10,[1],[]),(11,[1],[1])] (by rfl) ?_;simp only[zX,simprocAttr,i64,bV,iD,bD,aM,bR.cells,o];refine ao mix [] [] (by rfl) ?_;by_cases hs:(x.set.length:Int)=0
   ·have ng:=eq_true hs;have fW:x.set=[]:=List.length_eq_zero_iff.1 (by omega);simp only[zX,simprocAttr,i64,bV,iD,bD,aM,bR.cells,o,ng,aU,ado];by_cases a1:x.x=0 <;> by_cases a2:x.y=0 <;> by_cases a3:x.n=0 <;> simp [dk,o,a1,a2,a3,fW]
   ·have fW:x.set≠[]:=λh=>hs (by rw[h];rfl);simp only[zX,simprocAttr,i64,bV,iD,bD,aM,bR.cells,o,hs,aU,ado];by_cases a1:x.x=0 <;> by_cases a2:x.y=0 <;> by_cases a3:x.n=0 <;> simp [dk,o,a1,a2,a3,fW]
  |false =>
   simp only[zX,simprocAttr,i64,bV,iD,bD,aM,bR.cells,o];refine ao mix [] [(8,[1],[]),(9,[1],[1]),(10,[1],[]),(11,[1],[1])] (by rfl) ?_;simp only[zX,simprocAttr,i64,bV,iD,bD,aM,bR.cells,o];refine ao mix [] [] (by rfl) ?_;simp only[zX,simprocAttr,i64,bV,iD,bD,aM,bR.cells,o,aU,ado,Bool.and_false]
 |false =>
  simp only[zX,simprocAttr,i64,bV,iD,bD,aM,bR.cells,o];refine ao mix [] [(8,[1],[]),(9,[1],[1]),(10,[1],[]),(11,[1],[1])] (by rfl) ?_;simp only[zX,simprocAttr,i64,bV,iD,bD,aM,bR.cells,o];refine ao mix [] [] (by rfl) ?_;simp only[zX,simprocAttr,i64,bV,iD,bD,aM,bR.cells,o,aU,ado,Bool.and_false,Bool.false_and]
end Go.Proofs.Ytphfjhaffbfpfaa
