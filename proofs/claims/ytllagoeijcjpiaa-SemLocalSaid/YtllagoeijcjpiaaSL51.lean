/- A part of the proof (S51 S56). -/
import Derived.Test.YtllagoeijcjpiaaSL29
import Derived.Test.YtllagoeijcjpiaaSL30
import Derived.Test.YtllagoeijcjpiaaSL50
import Derived.Test.YtllagoeijcjpiaaSL17
set_option linter.unusedSimpArgs false
set_option linter.unusedVariables false
set_option maxRecDepth 100000
set_option maxHeartbeats 80000000
namespace Go.Proofs.Ytllagoeijcjpiaa
open Go.VL Go.Proofs.Try
structure SpanOK (p:Pat) (t:List Int) (x:Int) (m:Mat):Prop where
 s:m.s=x
 e0:m.s≤m.e
 e1:m.e≤t.length
 len:InL p.re.lens (m.e - m.s)
 caps:(m.c.length:Int)=p.caps
 ok:∀q∈m.c,q=(-1,-1)∨(0≤q.1∧q.1≤q.2∧q.2≤t.length)
theorem spans_law {p:Pat} {t:List Int} {x:Int} (hg:p.re.every genB=true) (ht:t.length≤12) (h:allE p t x (-1) 6000=0):∀m∈matsL x (allM p t x (-1) 6000),SpanOK p t x m:=by
 obtain⟨hv7,h0,h1,he⟩:=allE_valid h
 obtain⟨w1,_,_,_,_⟩:=valid7_spec hv7
 obtain⟨_,_,hc0,hc9,_⟩:=validR_spec w1
 obtain⟨k,e1,e2⟩:=search_ends (most:=-1) hv7 h0 h1
 obtain⟨new,newc,z1,z2,z3,z4,z5,z6⟩:=e2.more
 obtain⟨new',y1,y2⟩:NewL ⟨0,false,[],[]⟩ (searchX p t x (-1) 6000).2 (LenT (.run (.mk 0 p.re 0 0 .nil) x (cap0 p))):=(evI_of k _ _ _ _ _ e1).lens
 intro m hm
 unfold allM at hm
 rw[if_pos h] at hm
 obtain⟨⟨e,d⟩,hx,rfl⟩:=List.mem_map.1 hm
 obtain⟨he1,hd1⟩:=List.of_mem_zip hx
 have hn:new'=new:=by rw[y1] at z1; simpa using z1
 rw[z1] at he1
 rw[z2] at hd1
 have he1:e∈new:=by simpa using he1
 have hd1:d∈newc:=by simpa using hd1
 have hpos:=z5 e he1
 have hcap:=z6 d hd1
 have hlen:=tree_len (y2 e (by rw[hn]; exact he1))
 obtain⟨m2,l1,l2⟩:=hlen
 have l2:e=m2:=l2
 subst l2
 obtain⟨_,l3⟩:=ln_in l1 hg
 have hcl:(cap0 p).length=p.caps.toNat:=by unfold cap0; rw[List.length_replicate]
 refine⟨rfl,hpos.1,hpos.2,l3 (by omega),?_,?_⟩
 ·rw[show (Mat.mk x e d).c.length=d.length from rfl,hcap.2,hcl]; omega
 ·exact fun q hq=>(hcap.1.2 q hq)
theorem all_big {p:Pat} {t:List Int} {i F N:Int} (hv:valid7 p t F=0) (h0:0≤i) (h1:i≤t.length) (hN:F + 2 < N):searchX p t i N F=searchX p t i (-1) F∧allE p t i N F=allE p t i (-1) F∧allM p t i N F=allM p t i (-1) F∧allN p t i N F=allN p t i (-1) F:=by
 obtain⟨n,e1,e2⟩:=search_ends (most:=-1) hv h0 h1
 obtain⟨new,newc,z1,_,_,z4,_,_⟩:=e2.more
 have hs:=e2.s1
 have hlen:((searchX p t i (-1) F).2.ends.length:Int) < N:=by
  rw[z1,List.nil_append]
  have z4:(new.length:Int)≤(searchX p t i (-1) F).2.steps - 0 + 0:=z4
  omega
 have hX:searchX p t i N F=searchX p t i (-1) F:=by
  generalize searchX p t i (-1) F=Y at *
  obtain⟨b,X⟩:=Y
  exact evX_eq ((big_all (N:=N) n _ _ _ _ e1).2 hlen)
 have hE:allE p t i N F=allE p t i (-1) F:=by unfold allE; rw[hX]
 exact⟨hX,hE,by unfold allM; rw[hE,hX],by unfold allN; rw[hE,hX]⟩
theorem semAll_few0 (p:Pat) (t:List Int) (x f:Int) (hf:p.re.fine=true) (ht:t.length≤100) (hf1:f≤50000000):PureOK prog 28 [patV p,.d (intsD t),i64 x,i64 1073741824,i64 f] (.tu [.d (.sl ((matsL x (allM p t x (-1) f)).map matD)),i64 (allN p t x (-1) f),i64 (allE p t x (-1) f)]):=by
 have h:=semAll_ok p t x 1073741824 f hf (by omega) (by omega) (fun hv h0 h1=>by
  obtain⟨_,_,e2⟩:=search_ends (most:=1073741824) hv h0 h1
  have:=e2.s1
  omega)
 rw[matsL_D] at h
 by_cases hv:valid7 p t f=0
 ·by_cases hr:x < 0∨(t.length:Int) < x
  ·have e1:∀most,allE p t x most f=5:=fun most=>by unfold allE; rw[if_neg (by rw[hv]; simp),if_pos hr]
   have e2:∀most,allM p t x most f=[]:=fun most=>by unfold allM; rw[e1,if_neg (by decide)]
   have e3:∀most,allN p t x most f=0:=fun most=>by unfold allN; rw[e1,if_neg (by decide)]
   rw[e1,e2,e3] at h
   rw[e1,e2,e3]
   exact h
  ·obtain⟨_,e1,e2,e3⟩:=all_big (i:=x) (N:=1073741824) hv (by omega) (by omega) (by omega)
   rw[e1,e2,e3] at h
   exact h
 ·have e1:∀most,allE p t x most f=valid7 p t f:=fun most=>by unfold allE; rw[if_pos hv]
  have e2:∀most,allM p t x most f=[]:=fun most=>by unfold allM; rw[e1,if_neg hv]
  have e3:∀most,allN p t x most f=0:=fun most=>by unfold allN; rw[e1,if_neg hv]
  rw[e1,e2,e3] at h
  rw[e1,e2,e3]
  exact h
theorem semAll_few (p:Pat) (t:List Int) (x f:Int) (hf:p.re.fine=true) (ht:t.length≤12) (hf1:f≤50000000):PureOK prog 28 [patV p,.d (intsD t),i64 x,i64 1073741824,i64 f] (.tu [.d (.sl ((matsL x (allM p t x (-1) f)).map matD)),i64 (allN p t x (-1) f),i64 (allE p t x (-1) f)]):=semAll_few0 p t x f hf (by omega) hf1
end Go.Proofs.Ytllagoeijcjpiaa
