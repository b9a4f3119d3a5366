/- A part of the proof (H6 H7 H8). -/
import Derived.Test.YtllagoeijcjpiaaBD9
import Derived.Test.YtllagoeijcjpiaaBD22
import Derived.Test.YtllagoeijcjpiaaBD8
set_option linter.unusedSimpArgs false
set_option linter.unusedVariables false
set_option maxRecDepth 100000
set_option maxHeartbeats 80000000
namespace Go.Proofs.Ytllagoeijcjpiaa
open Go.VL
def cW (g:Nat) (t:List Int) (F:Int) (st:aU) (o d:Int):VL.Obj:=⟨g,true,6,[[.d (ay t),i64 F,i64 st.steps,i64 o,i64 d,bV st.empty]]⟩
def fm (e:Int) (l:aq):V:=.ag [i64 e,.d (bd l)]
theorem NH {g:Nat}{t:List Int}{F:Int}{st:aU}{o d:Int} (h:st.empty=false):cW g t F st.sub o d=cW g t F st o d:=by
 unfold cW aU.sub
 rw[h]
theorem b6 (g:Nat) (t:List Int) (F:Int) (st:aU) (o d:Int) (he:st.empty=false) (h0:0≤st.steps) (h1:st.steps≤10000000000000) :
  az Try.prog 123 [.rf 0 g 0 0] [cW g t F st o d] fun v s=>v=bV (!(st.step F).empty)∧s=[cW g t F (st.step F) o d]:=by
 have w1:IntKind.i64.wrap (st.steps+1)=st.steps+1:=bR _ (by omega)
 unfold cW aU.step
 rw[he]
 simp only[VM]
 by_cases c:F<st.steps+1
 ·refine av Try.func123 rfl Try.ntmps123 Try.results123 rfl 1 5 (by simp) (by simp) ?_
  simp only[zX,simprocAttr,i64,bV,w1]
  refine an mix [18] [] (by rfl) ?_
  simp only[zX,simprocAttr,i64,bV,w1,gt_iff_lt,decide_eq_true c]
 ·refine av Try.func123 rfl Try.ntmps123 Try.results123 rfl 1 5 (by simp) (by simp) ?_
  simp only[zX,simprocAttr,i64,bV,w1]
  refine an mix [18] [] (by rfl) ?_
  simp only[zX,simprocAttr,i64,bV,w1,gt_iff_lt,decide_eq_false c]
theorem Bi (g:Nat) (t:List Int) (F:Int) (st:aU) (o d:Int) (h0:0≤o) (h1:o≤10000000000000) :
  az Try.prog 125 [.rf 0 g 0 0] [cW g t F st o d] fun v s=>v=.tu []∧s=[cW g t F st (o+1) (max d (o+1))]:=by
 have w1:IntKind.i64.wrap (o+1)=o+1:=bR _ (by omega)
 unfold cW
 refine av Try.func125 rfl Try.ntmps125 Try.results125 rfl 1 1 (by simp) (by simp) ?_
 simp only[zX,simprocAttr,i64,bV,w1]
 refine an mix [12] [] (by rfl) ?_
 simp only[zX,simprocAttr,i64,bV,w1]
def fI (ah:Int) (st:aU):Int:=(if ah<0 then 1152921504606846976 else ah)-st.ends.length
structure jl (t:List Int) (F:Int) (nc:Nat) (ah i:Int) (c:aq) (st:aU) (o:Int):Prop where
 empty:st.empty=false
 s0:0≤st.steps
 s1:st.steps≤F
 want:1≤fI ah st
 ah:ah≤1152921504606846976
 i0:0≤i
 i1:i≤t.length
 ai:cr t c
 cl:c.length=nc
 o0:0≤o
 o1:o≤st.steps
def mF (t:List Int) (F:Int) (nc:Nat) (ah i:Int) (st:aU) (b:Bool) (st':aU) (w e:Int) (l:aq):Prop :=
 st.steps≤st'.steps∧((b=false∧st'.empty=false∧st'.steps≤F∧w=fI ah st'∧1≤w) ∨
  (b=true∧st'.empty=false∧st'.steps≤F∧w=0∧(0≤ah∧(st'.ends.length:Int)=ah)∧∃es cs,st'.ends=es++[e]∧st'.ai=cs++[l]∧i≤e∧e≤t.length∧cr t l∧l.length=nc∧cs.length=es.length) ∨
  (b=true∧st'.empty=true))
theorem KZ {ah:Int}{st:aU} (h:ah≤1152921504606846976):fI ah st≤1152921504606846976:=by
 unfold fI;split <;> omega
theorem zP (st:aU):fI 1 st.sub=1:=by simp [fI,aU.sub]
theorem mF.dZ {t:List Int}{F:Int}{nc:Nat}{ah i i':Int}{s0 st st':aU}{b:Bool}{w e:Int}{l:aq} (h:mF t F nc ah i' s0 b st' w e l) (hi:i≤i') (hs:st.steps≤s0.steps):mF t F nc ah i st b st' w e l:=by
 obtain⟨h0,h⟩:=h
 refine⟨by omega,?_⟩
 rcases h with h|⟨h1,h2,h3,h4,h5,es,cs,h6,h7,h8,h9⟩|h
 ·exact .inl h
 ·exact .inr (.inl ⟨h1,h2,h3,h4,h5,es,cs,h6,h7,by omega,h9⟩)
 ·exact .inr (.inr h)
def A6 (g0:Nat) (t:List Int) (F:Int) (nc:Nat) (f:FuncId) (gd:D) (i:Int) (c:aq) (ah:Int) (st:aU) (b:Bool) (st':aU) (o d d':Int):Prop :=
 ∃w e l,mF t F nc ah i st b st' w e l∧az Try.prog f [.rf 0 g0 0 0,.d gd,i64 i,.d (bd c),i64 (fI ah st)] [cW g0 t F st o d] fun v s=>v=.tu [i64 w,fm e l]∧s=[cW g0 t F st' o d']
def Nu (g0:Nat) (t:List Int) (F:Int) (nc:Nat) (gd:D) (i:Int) (c:aq) (st:aU) (b:Bool) (x:aU) (o d d':Int):Prop :=
 ∃w e l,mF t F nc 1 i st b x w e l∧(x.empty=false→w=1∧x.ends=[]∨w=0∧x.ends=[e]∧x.ai=[l])∧az Try.prog 122 [.rf 0 g0 0 0,.d gd,i64 i,.d (bd c)] [cW g0 t F st o d] fun v s=>v=.tu [i64 w,fm e l]∧s=[cW g0 t F x o d']
theorem LV {g0:Nat}{t:List Int}{F:Int}{nc:Nat}{gd:D}{i:Int}{c:aq}{st x:aU}{b:Bool}{o d d':Int} (he:st.empty=false) (h:A6 g0 t F nc 56 gd i c 1 st.sub b x o d d'):Nu g0 t F nc gd i c st b x o d d':=by
 obtain⟨w,e,l,hp,hc⟩:=h
 refine⟨w,e,l,hp.dZ (Vr _) (Vr _),fun Qs=>?_,?_⟩
 ·obtain⟨_,h|h|h⟩:=hp
  ·obtain⟨_,_,_,h1,h2⟩:=h
   have kP:w=1-(x.ends.length:Int):=h1
   have Rr:x.ends.length=0:=by omega
   exact .inl ⟨by omega,VD Rr⟩
  ·obtain⟨_,_,_,h1,⟨_,h2⟩,es,cs,h3,h4,_,_,_,_,hx⟩:=h
   rw[h3,VN]at h2
   have AA:es=[]:=VD (by simp at h2;omega)
   have mW:cs=[]:=VD (by rw[hx,AA];rfl)
   subst AA mW
   exact .inr ⟨h1,h3,h4⟩
  ·rw[Qs]at h;cases h.2
 rw[zP,NH he]at hc
 unfold cW fm at hc ⊢
 simp only[i64,bV]at hc
 refine av Try.func122 rfl Try.ntmps122 Try.results122 rfl 1 7951 (by simp) (by simp) ?_
 simp only[zX,simprocAttr,i64,bV]
 refine au hc rfl rfl rfl rfl rfl rfl ?_
 simp only[zX,simprocAttr,i64,bV]
 refine an mix [3] [] (by rfl) ?_
 simp only[zX,simprocAttr,i64,bV]
def Mp (g0:Nat) (t:List Int) (F:Int) (nc:Nat) (gd hd:D) (i:Int) (c:aq) (ah:Int) (st:aU) (b:Bool) (st':aU) (o d d':Int):Prop :=
 ∃w e l,mF t F nc ah i st b st' w e l∧az Try.prog 124 [.rf 0 g0 0 0,.d gd,.d hd,i64 i,.d (bd c),i64 (fI ah st)] [cW g0 t F st o d] fun v s=>v=.tu [i64 w,fm e l]∧s=[cW g0 t F st' o d']
theorem Jb {g0:Nat}{t:List Int}{F:Int}{nc:Nat}{gd hd:D}{i:Int}{c:aq}{ah:Int}{st st':aU}{o d d':Int} (h0:0≤o) (h1:o≤10000000000000) (h:A6 g0 t F nc 56 gd i c ah st true st' (o+1) (max d (o+1)) d'):Mp g0 t F nc gd hd i c ah st true st' o d d':=by
 obtain⟨w,e,l,hp,hc⟩:=h
 refine⟨w,e,l,hp,?_⟩
 have ht:=Bi g0 t F st o d h0 h1
 have w1:IntKind.i64.wrap (o+1-1)=o:=by rw[bR _ (by omega)];omega
 have dG:(st'.empty=false∧w=0)∨st'.empty=true:=by
  obtain⟨_,h|h|h⟩:=hp
  ·cases h.1
  ·exact .inl ⟨h.2.1,h.2.2.2.1⟩
  ·exact .inr h.2
 clear hp
 generalize fI ah st=n at *
 unfold cW at ht
 unfold cW fm at hc ⊢
 simp only[i64,bV]at hc ht
 rcases dG with ⟨he,rfl⟩|he
 ·simp only[he]at hc ⊢
  refine av Try.func124 rfl Try.ntmps124 Try.results124 rfl 1 61503 (by simp) (by simp) ?_
  simp only[zX,simprocAttr,i64,bV]
  refine au ht rfl rfl rfl rfl rfl rfl ?_
  simp only[zX,simprocAttr,i64,bV]
  refine au hc rfl rfl rfl rfl rfl rfl ?_
  simp only[zX,simprocAttr,i64,bV,w1]
  refine an mix [3] [] (by rfl) ?_
  simp only[zX,simprocAttr,i64,bV]
 ·simp only[he]at hc ⊢
  by_cases hw:w≤0
  ·refine av Try.func124 rfl Try.ntmps124 Try.results124 rfl 1 61503 (by simp) (by simp) ?_
   simp only[zX,simprocAttr,i64,bV]
   refine au ht rfl rfl rfl rfl rfl rfl ?_
   simp only[zX,simprocAttr,i64,bV]
   refine au hc rfl rfl rfl rfl rfl rfl ?_
   simp only[zX,simprocAttr,i64,bV,w1,decide_eq_true hw]
   refine an mix [3] [] (by rfl) ?_
   simp only[zX,simprocAttr,i64,bV]
  ·refine av Try.func124 rfl Try.ntmps124 Try.results124 rfl 1 61503 (by simp) (by simp) ?_
   simp only[zX,simprocAttr,i64,bV]
   refine au ht rfl rfl rfl rfl rfl rfl ?_
   simp only[zX,simprocAttr,i64,bV]
   refine au hc rfl rfl rfl rfl rfl rfl ?_
   simp only[zX,simprocAttr,i64,bV,w1,decide_eq_false hw]
   refine an mix [3] [] (by rfl) ?_
   simp only[zX,simprocAttr,i64,bV]
theorem KE {g0:Nat}{t:List Int}{F:Int}{nc:Nat}{gd hd:D}{i:Int}{c:aq}{ah:Int}{st s2 st':aU}{b:Bool}{o d d1 d':Int} (h0:0≤o) (h1:o≤10000000000000) (h:A6 g0 t F nc 56 gd i c ah st false s2 (o+1) (max d (o+1)) d1)
  (h2:A6 g0 t F nc 56 hd i c ah s2 b st' o d1 d'):Mp g0 t F nc gd hd i c ah st b st' o d d':=by
 obtain⟨w,e,l,hp,hc⟩:=h
 obtain⟨w',e',l',Iu,MN⟩:=h2
 have ht:=Bi g0 t F st o d h0 h1
 have w1:IntKind.i64.wrap (o+1-1)=o:=by rw[bR _ (by omega)];omega
 obtain⟨xS,dG⟩:=hp
 refine⟨w',e',l',Iu.dZ (Vr _) xS,?_⟩
 obtain⟨he,hw,Vj⟩:s2.empty=false∧w=fI ah s2∧1≤w:=by
  rcases dG with h|h|h
  ·exact⟨h.2.1,h.2.2.2⟩
  ·cases h.1
  ·cases h.1
 rw[← hw]at MN
 have Rj:¬w≤0:=by omega
 clear Iu dG hw
 generalize fI ah st=n at *
 unfold cW at ht
 unfold cW fm at hc MN ⊢
 simp only[i64,bV,he]at hc MN ht
 refine av Try.func124 rfl Try.ntmps124 Try.results124 rfl 1 61503 (by simp) (by simp) ?_
 simp only[zX,simprocAttr,i64,bV]
 refine au ht rfl rfl rfl rfl rfl rfl ?_
 simp only[zX,simprocAttr,i64,bV]
 refine au hc rfl rfl rfl rfl rfl rfl ?_
 simp only[zX,simprocAttr,i64,bV,w1,Rj]
 refine au MN rfl rfl rfl rfl rfl rfl ?_
 simp only[zX,simprocAttr,i64,bV]
def gy (g0:Nat) (t:List Int) (F:Int) (gd:D) (i:Int) (c:aq) (st x:aU) (o d d1 w e:Int) (l:aq):Prop :=
 az Try.prog 122 [.rf 0 g0 0 0,.d gd,i64 i,.d (bd c)] [cW g0 t F st o d] fun v s=>v=.tu [i64 w,fm e l]∧s=[cW g0 t F x o d1]
def fR (g0:Nat) (t:List Int) (F:Int) (re:Re) (i:Int) (c:aq) (st x:aU) (o d d1 w e:Int) (l:aq):Prop :=
 az Try.prog 126 [.rf 0 g0 0 0,lq re,i64 i,.d (bd c)] [cW g0 t F st o d] fun v s=>v=.tu [i64 w,fm e l]∧s=[cW g0 t F x o d1]
inductive Fe (g0:Nat) (t:List Int) (F:Int) (gd:D) (c:aq) (o:Int):Nat→aU→Int→aU→Int→Int→Int→aq→Prop where
 |none (st:aU) (d:Int):Fe g0 t F gd c o 0 st d st d 1 0 []
 |QP {j:Nat}{st x:aU}{d d1 w e:Int}{l:aq} (he:st.empty=false) (h:gy g0 t F gd j c st x o d d1 w e l) (hw:w≤0∨x.empty=true):Fe g0 t F gd c o (j+1) st d x d1 w e l
 |Qh {j:Nat}{st x s2:aU}{d d1 d2 w e w2 e2:Int}{l l2:aq} (he:st.empty=false) (h:gy g0 t F gd j c st x o d d1 w e l) (hw:¬w≤0) (hx:x.empty=false) (h2:Fe g0 t F gd c o j x d1 s2 d2 w2 e2 l2):Fe g0 t F gd c o (j+1) st d s2 d2 w2 e2 l2
section look
variable {g0:Nat}{t:List Int}{F:Int}{re kid:Re}{lk:List Re} (hk:re.kids=kid::lk) {i:Int} (hi0:0≤i) (eK:i≤1000000) {c:aq}{st x:aU}{o d d1 w e:Int}{l:aq}
include hk
theorem sw (o7:re.op=7) (h:gy g0 t F (Goal.mk 0 kid 0 0 .nil).d i c st x o d d1 w e l):fR g0 t F re i c st x o d d1 w e l:=by
 have dL:re.kids[0]?=some kid:=by rw[hk];rfl
 have dg:(0:Int)<(re.kids.length:Int):=by rw[hk,VC];omega
 clear hk
 have mZ:Goal.nil.d=.sc (.pointer none):=rfl
 have d7:decide (re.op=7)=true:=decide_eq_true o7
 unfold gy cW fm at h
 unfold fR cW fm
 simp only[Goal.aN,mZ,i64,iD,bD,bV]at h
 refine av Try.func126 rfl Try.ntmps126 Try.results126 rfl 1 16175 (by simp) (by simp) ?_
 simp only[zX,simprocAttr,i64,bV,aw re,aw kid,Re.ae kid,iD,bD,dL,dg,d7]
 refine aP [3] (by simp [bk,bA,aZ.go,aZ,bQ]) (au h rfl rfl rfl rfl rfl rfl ?_)
 simp only[zX,simprocAttr,i64,bV,iD,bD]
include hi0 eK in
theorem L7 (o7:re.op≠7) (h:Fe g0 t F (Goal.mk 0 kid 0 0 (.mk 4 (.mk 0 [] [] 0 0 0 0 false) 0 i .nil)).d c o (i.toNat+1) st d x d1 w e l):fR g0 t F re i c st x o d d1 w e l:=by
 have dL:re.kids[0]?=some kid:=by rw[hk];rfl
 have dg:(0:Int)<(re.kids.length:Int):=by rw[hk,VC];omega
 clear hk
 have mZ:Goal.nil.d=.sc (.pointer none):=rfl
 have d7:decide (re.op=7)=false:=decide_eq_false o7
 have It:(Goal.mk 0 kid 0 0 (.mk 4 (.mk 0 [] [] 0 0 0 0 false) 0 i .nil)).d=.el [iD 0,iD kid.op,.sl (kid.set.map aM),.sl (kid.kids.map Re.cells),iD kid.mn,iD kid.mx,iD kid.mode,iD kid.n,bD kid.neg,iD 0,iD 0,
   .el [iD 4,iD 0,.sl [],.sl [],iD 0,iD 0,iD 0,iD 0,bD false,iD 0,iD i,.sc (.pointer none)]]:=by
  rw[Goal.aN,Goal.aN];rfl
 unfold fR cW fm
 refine av Try.func126 rfl Try.ntmps126 Try.results126 rfl 1 16175 (by simp) (by simp) ?_
 simp only[zX,simprocAttr,i64,bV,aw re,aw kid,Re.ae kid,iD,bD,dL,dg,d7]
 refine aY (fun m E s=>∃(k:Nat) (s1:aU) (w1:Int),m=k∧k≤i.toNat+1∧E 0=.rf 0 g0 0 0∧E 3=.d (bd c)∧E 9=.rf 2 0 0 0∧E 10=.d (Goal.mk 0 kid 0 0 (.mk 4 (.mk 0 [] [] 0 0 0 0 false) 0 i .nil)).d∧E 11=i64 ((k:Int)-1)∧s=[cW g0 t F s1 o w1,⟨0,true,8,[[i64 re.op,.d (.sl (re.set.map aM)),.d (.sl (re.kids.map Re.cells)),i64 re.mn,i64 re.mx,i64 re.mode,i64 re.n,bV re.neg]]⟩,⟨0,true,2,[[i64 0,.fu []]]⟩] ∧
   Fe g0 t F (Goal.mk 0 kid 0 0 (.mk 4 (.mk 0 [] [] 0 0 0 0 false) 0 i .nil)).d c o k s1 w1 x d1 w e l)
  ⟨_,_,_,(dt.freeze [3,4] [10]).trans (dt.cut 3 (by omega) rfl ?_ [0,3,9,10,11] ?_),i.toNat+1,st,d,rfl,VA _,?_,?_,?_,?_,?_,?_,h⟩ ?_
 ·rfl
 ·rfl
 ·rfl
 ·rfl
 ·rfl
 ·rw[It];rfl
 ·simp only[iH,fy,cu,List.contains_cons,List.contains_nil,Nat.reduceBEq,WB,VM,VV,Bool.or_true,if_true,Vw,if_false,reduceIte,Nat.reduceEqDiff,i64]
  congr 3
  omega
 ·rfl
 generalize hG:Goal.mk 0 kid 0 0 (.mk 4 (.mk 0 [] [] 0 0 0 0 false) 0 i .nil)=G at *
 rintro m E s ⟨k,s1,w1,rfl,bH,h0,h3,h9,de,cq,rfl,hb⟩
 cases hb with
 |none =>
  rw[show ((0:Nat):Int)-1=-1 from rfl]at cq
  unfold cW
  simp only[zX,simprocAttr,i64,bV,iD,bD,h0,h3,h9,de,cq,ge_iff_le]
  rfl
 |@QP j _ _ _ _ _ _ _ he hc hw =>
  rw[show ((j+1:Nat):Int)-1=j by omega]at cq
  have dL:(0:Int)≤(j:Int):=by omega
  unfold gy cW fm at hc
  unfold cW
  simp only[i64,bV]at hc
  simp only[zX,simprocAttr,i64,bV,iD,bD,h0,h3,h9,de,cq,ge_iff_le,dL]
  refine au hc rfl rfl rfl rfl rfl rfl ?_
  by_cases Rf:w≤0
  ·simp only[zX,simprocAttr,i64,bV,iD,bD,h0,h3,h9,de,cq,decide_eq_true Rf]
   refine an mix [3] [] (by rfl) ?_
   simp only[zX,simprocAttr,i64,bV,h9]
  ·have hx:x.empty=true:=hw.resolve_left Rf
   simp only[zX,simprocAttr,i64,bV,iD,bD,h0,h3,h9,de,cq,decide_eq_false Rf,hx]
   refine an mix [3] [] (by rfl) ?_
   simp only[zX,simprocAttr,i64,bV,h9]
 |@Qh j _ x1 _ _ _ _ _ _ _ _ _ _ he hc hw hx h2 =>
  rw[show ((j+1:Nat):Int)-1=j by omega]at cq
  have dL:(0:Int)≤(j:Int):=by omega
  have Uo:IntKind.i64.wrap ((j:Int)-1)=(j:Int)-1:=bR _ (by omega)
  unfold gy cW fm at hc
  unfold cW
  simp only[i64,bV]at hc
  simp only[zX,simprocAttr,i64,bV,iD,bD,h0,h3,h9,de,cq,ge_iff_le,dL]
  refine au hc rfl rfl rfl rfl rfl rfl ?_
  simp only[zX,simprocAttr,i64,bV,iD,bD,h0,h3,h9,de,cq,hw,hx,Uo]
  refine⟨j,_,_,by omega,dt.cut 3 (by omega) rfl rfl [0,3,9,10,11] ?_,j,x1,_,rfl,by omega,?_,?_,?_,?_,?_,?_,h2⟩ <;> (try simp only[zU,Nat.reduceBEq,Nat.reduceShiftRight,Nat.reduceMod,Nat.reduceEqDiff,reduceIte])
  ·simp [bg,fP,cu,ar,h0,h3,h9,de,cq,i64,bd]
  ·exact h0
  ·exact h3
  ·exact h9
  ·exact de
  ·rw[hx];rfl
end look
end Go.Proofs.Ytllagoeijcjpiaa
