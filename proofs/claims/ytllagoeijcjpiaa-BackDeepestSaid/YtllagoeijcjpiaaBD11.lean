/- A part of the proof (G9 G10). -/
import Derived.Test.YtllagoeijcjpiaaBD9
set_option linter.unusedSimpArgs false
set_option linter.unusedVariables false
set_option maxRecDepth 100000
set_option maxHeartbeats 80000000
namespace Go.Proofs.Ytllagoeijcjpiaa
open Go.VL Go.Proofs.Try
def kO:Option aq→V
 |none=>.tu [.d (.sl []),bV false]
 |some d=>.tu [.d (bd d),bV true]
theorem J5 (r:Option aq):bu [0,1,2] (kO r)=kO r:=by cases r <;> rfl
theorem look_ok {t:List Int}{F:Int}{n:Nat} (ih:je t F n) {g0:Nat}{ah:Int}{re kid:Re}{l:List Re} (hk:re.kids=kid::l) {i:Int} (hi0:0≤i) (eK:i≤1000000) {c:aq}{st st':aU}{r:Option aq}
  (hr:kN (eh t F n) re.op kid i c st=some (r,st')) :
  az prog 149 [.rf 0 g0 0 0,lq re,i64 i,.d (bd c)] (b7 g0 t ah F st) fun v s=>v=kO r∧s=b7 g0 t ah F st':=by
 have dL:re.kids[0]?=some kid:=by rw[hk];rfl
 have dg:(0:Int)<(re.kids.length:Int):=by rw[hk,VC];omega
 clear hk
 have mZ:Goal.nil.d=.sc (.pointer none):=rfl
 unfold kN at hr
 by_cases o7:re.op=7
 ·have d7:decide (re.op=7)=true:=decide_eq_true o7
  rw[if_pos o7]at hr
  cases hx:cT (eh t F n) (.mk 0 kid 0 0 .nil) i c st with
  |none=>rw[hx]at hr;cases hr
  |some x =>
   obtain⟨r1,s1⟩:=x
   rw[hx]at hr
   simp only[Option.some.injEq,Prod.mk.injEq]at hr
   obtain⟨rfl,rfl⟩:=hr
   have hf:=fun ext=>uU (g0:=g0) (ah:=ah) ih hx ext
   unfold b7 dN at hf
   simp only[Goal.aN,mZ,i64,iD,bD,bV,Vz,Vx]at hf
   unfold b7 dN
   refine av func149 rfl ntmps149 results149 rfl 3 227119 (by simp) (by simp) ?_
   simp only[zX,simprocAttr,i64,bV,aw re,aw kid,Re.ae kid,iD,bD,dL,dg,d7]
   refine aP [4] (by simp [bk,bA,aZ.go,aZ,bQ]) (aj (hf _) (fun v s' hv=>?_))
   obtain⟨rfl,rfl⟩:=hv
   cases r1 with
   |none =>
    simp only[zX,simprocAttr,i64,bV,iD,bD,ju]
    exact⟨ba _ _,rfl⟩
   |some p =>
    obtain⟨e,d⟩:=p
    simp only[zX,simprocAttr,i64,bV,iD,bD,ju]
    exact⟨ba _ _,rfl⟩
 ·have d7:decide (re.op=7)=false:=decide_eq_false o7
  rw[if_neg o7]at hr
  have It:(Goal.mk 0 kid 0 0 (.mk 4 (.mk 0 [] [] 0 0 0 0 false) 0 i .nil)).d=.el [iD 0,iD kid.op,.sl (kid.set.map aM),.sl (kid.kids.map Re.cells),iD kid.mn,iD kid.mx,iD kid.mode,iD kid.n,bD kid.neg,iD 0,iD 0,
    .el [iD 4,iD 0,.sl [],.sl [],iD 0,iD 0,iD 0,iD 0,bD false,iD 0,iD i,.sc (.pointer none)]]:=by
   rw[Goal.aN,Goal.aN];rfl
  unfold b7 dN
  refine av func149 rfl ntmps149 results149 rfl 3 227119 (by simp) (by simp) ?_
  simp only[zX,simprocAttr,i64,bV,aw re,aw kid,Re.ae kid,iD,bD,dL,dg,d7]
  refine aY (fun m e s=>∃(k:Nat) (s1:aU),m=k∧k≤i.toNat+1∧e 0=.rf 0 g0 0 0∧e 3=.d (bd c)∧e 10=.d (Goal.mk 0 kid 0 0 (.mk 4 (.mk 0 [] [] 0 0 0 0 false) 0 i .nil)).d∧e 14=i64 ((k:Int)-1)∧s=b7 g0 t ah F s1 ∧
    dK (fun k st=>cT (eh t F n) (.mk 0 kid 0 0 (.mk 4 (.mk 0 [] [] 0 0 0 0 false) 0 i .nil)) k c st) k s1=some (r,st'))
   ⟨_,_,_,(dt.freeze [4,5] [10]).trans (dt.cut 3 (by omega) rfl ?_ [0,3,10,14] ?_),i.toNat+1,st,rfl,VA _,?_,?_,?_,?_,?_,hr⟩ ?_
  ·simp only[bk,bA,VQ,List.getElem?_cons_succ,V9,V5,List.take,List.all_cons,List.all_nil,cP]
   simp only[Wy]
   rw[VE]
   exact⟨rfl,ba _ _⟩
  ·rfl
  ·rfl
  ·rfl
  ·rw[It];rfl
  ·simp only[iH,fy,cu,List.contains_cons,List.contains_nil,Nat.reduceBEq,WB,VM,VV,Bool.or_true,if_true,Vw,if_false,reduceIte,Nat.reduceEqDiff,i64]
   congr 3
   omega
  ·rfl
  generalize hG:Goal.mk 0 kid 0 0 (.mk 4 (.mk 0 [] [] 0 0 0 0 false) 0 i .nil)=G at *
  rintro m e s ⟨k,s1,rfl,hk,h0,h3,de,dh,rfl,hb⟩
  cases m with
  |zero =>
   simp only[dK,Option.some.injEq,Prod.mk.injEq]at hb
   obtain⟨rfl,rfl⟩:=hb
   rw[show ((0:Nat):Int)-1=-1 from rfl]at dh
   unfold b7 dN
   simp only[zX,simprocAttr,i64,bV,iD,bD,h0,h3,de,dh,ge_iff_le]
   exact⟨ba _ _,rfl⟩
  |succ k =>
   rw[show ((k+1:Nat):Int)-1=k by omega]at dh
   have dL:(0:Int)≤(k:Int):=by omega
   simp only[dK]at hb
   by_cases he:s1.empty=true
   ·rw[if_pos he]at hb
    simp only[Option.some.injEq,Prod.mk.injEq]at hb
    obtain⟨rfl,rfl⟩:=hb
    unfold b7 dN
    simp only[zX,simprocAttr,i64,bV,iD,bD,h0,h3,de,dh,ge_iff_le,dL,he]
    exact⟨ba _ _,rfl⟩
   ·rw[if_neg he]at hb
    have he:s1.empty=false:=by simpa using he
    cases hx:cT (eh t F n) G k c s1 with
    |none=>rw[hx]at hb;cases hb
    |some x =>
     obtain⟨r1,s2⟩:=x
     rw[hx]at hb
     have hf:=Cn (g0:=g0) (ah:=ah) ih hx
     unfold b7 dN at hf
     simp only[i64,bV,iD,he]at hf
     have w1:IntKind.i64.wrap ((k:Int)-1)=(k:Int)-1:=bR _ (by omega)
     cases r1 with
     |none =>
      unfold b7 dN
      simp only[zX,simprocAttr,i64,bV,iD,bD,h0,h3,de,dh,ge_iff_le,dL,he]
      refine aj hf (fun v s' hv=>?_)
      obtain⟨rfl,rfl⟩:=hv
      simp only[zX,simprocAttr,i64,bV,iD,bD,ju,h0,h3,de,dh,w1]
      refine⟨k,_,_,by omega,dt.refl,k,s2,rfl,by omega,?_,?_,?_,?_,rfl,hb⟩ <;> (try simp only[zU,Nat.reduceBEq,Nat.reduceShiftRight,Nat.reduceMod,Nat.reduceEqDiff,reduceIte])
      ·exact h0
      ·exact h3
      ·exact de
     |some p =>
      obtain⟨e1,d⟩:=p
      simp only[Option.some.injEq,Prod.mk.injEq]at hb
      obtain⟨rfl,rfl⟩:=hb
      unfold b7 dN
      simp only[zX,simprocAttr,i64,bV,iD,bD,h0,h3,de,dh,ge_iff_le,dL,he]
      refine aj hf (fun v s' hv=>?_)
      obtain⟨rfl,rfl⟩:=hv
      simp only[zX,simprocAttr,i64,bV,iD,bD,ju,h0,h3,de,dh,w1]
      exact⟨ba _ _,rfl⟩
theorem DM {t:List Int}{F:Int}{n:Nat} (ih:je t F n) {g0:Nat}{ah:Int}{re kid:Re}{l:List Re} (hk:re.kids=kid::l) {i:Int} (hi0:0≤i) (eK:i≤1000000) {c:aq}{st st':aU}{r:Option aq}
  (hr:kN (eh t F n) re.op kid i c st=some (r,st')) (ext:List VL.Obj) :
  az prog 149 [.rf 0 g0 0 0,lq re,i64 i,.d (bd c)] (b7 g0 t ah F st++ext) fun v s=>v=kO r∧s=b7 g0 t ah F st'++ext :=
 tB (look_ok ih hk hi0 eK hr) (by simp only[VP,VO,bE];rfl) (by simp only[ar.go,GI];rfl) (J5 r) ⟨rfl,rfl⟩
def eS (t:List Int) (F:Int) (g0:Nat) (ah:Int) (st s1:aU):Prop:=∀ext,az prog 146 [.rf 0 g0 0 0] (b7 g0 t ah F st++ext) fun v s=>v=bV (!s1.empty)∧s=b7 g0 t ah F s1++ext
theorem Fc {t:List Int}{F:Int}{n:Nat} (ih:je t F n) (ht:t.length≤1000000) {g0:Nat}{ah:Int}{kind:Int}{re:Re}{k bO:Int}{next:Goal}{i:Int}{c:aq}{st s1 st':aU}{b:Bool} (o:re.op≠1∧re.op≠2∧re.op≠3∧re.op≠4∧re.op≠5∧re.op≠6∧re.op≠7∧re.op≠8∧re.op≠9∧re.op≠10∧re.op≠11)
  (hi0:0≤i) (eK:i≤t.length) (cC:re.set.length≤1000000000) (cJ:re.kids.length≤1000000000) (cI:c.length≤1000000000) (he:s1.empty=false) (aH:eS t F g0 ah st s1)
  (hr:eQ t (eh t F n) ah re next i c s1=some (b,st')) :
  az prog 114 [.rf 0 g0 0 0,.d (Goal.mk kind re k bO next).d,i64 i,.d (bd c)] (b7 g0 t ah F st) fun v s=>v=bV b∧s=b7 g0 t ah F st':=by
 unfold eS b7 dN at aH
 simp only[i64,bV,iD,Vz,Vx]at aH
 have d4:decide (re.op=4)=false:=decide_eq_false (by omega)
 have d1:decide (re.op=1)=false:=decide_eq_false (by omega)
 have d2:decide (re.op=2)=false:=decide_eq_false (by omega)
 have d3:decide (re.op=3)=false:=decide_eq_false (by omega)
 have d5:decide (re.op=5)=false:=decide_eq_false (by omega)
 have d6:decide (re.op=6)=false:=decide_eq_false (by omega)
 have d7:decide (re.op=7)=false:=decide_eq_false (by omega)
 have d8:decide (re.op=8)=false:=decide_eq_false (by omega)
 have d9:decide (re.op=9)=false:=decide_eq_false (by omega)
 have d10:decide (re.op=10)=false:=decide_eq_false (by omega)
 have d11:decide (re.op=11)=false:=decide_eq_false (by omega)
 unfold eQ at hr
 rw[if_neg (by omega),if_neg (by omega),if_neg (by omega),if_neg (by omega),if_neg (by omega),if_neg (by omega),if_neg (by omega),if_neg (by omega),if_neg (by omega)]at hr
 have hc:=fun ext=>fo (ih g0 _ _ _ _ _ hr) ext
 unfold e8 eE b7 dN at hc;simp only[Goal.aN,i64,iD,bD,bV,Vz,Vx]at hc
 simp only[he]at hc
 unfold b7 dN
 refine av func114 rfl ntmps114 results114 rfl 3 26328072917139296674479506920917608079723773850137295405767982863 (by simp) (by simp) ?_
 simp only[zX,simprocAttr,i64,bV,Goal.aN,iD,bD,d4,d1,d2,d3,d5,d6,d7,d8,d9,d10,d11]
 refine aj (aH _) (fun v s' hv=>?_)
 obtain⟨rfl,rfl⟩:=hv
 simp only[zX,simprocAttr,i64,bV,iD,bD,he,Vt,Vs,d4,d1,d2,d3,d5,d6,d7,d8,d9,d10,d11]
 (refine aj (hc _) (fun v s' hv=>?_);obtain⟨rfl,rfl⟩:=hv)
 simp only[zX,simprocAttr,i64,bV,iD,bD]
 first|exact ba _ _|exact⟨ba _ _,rfl⟩
theorem Mh {t:List Int}{F:Int}{n:Nat} (ih:je t F n) (ht:t.length≤1000000) {g0:Nat}{ah:Int}{kind:Int}{re:Re}{k bO:Int}{next:Goal}{i:Int}{c:aq}{st s1 st':aU}{b:Bool} (o:re.op=11)
  (hi0:0≤i) (eK:i≤t.length) (cC:re.set.length≤1000000000) (cJ:re.kids.length≤1000000000) (cI:c.length≤1000000000) (he:s1.empty=false) (aH:eS t F g0 ah st s1)
  (hr:eQ t (eh t F n) ah re next i c s1=some (b,st')) :
  az prog 114 [.rf 0 g0 0 0,.d (Goal.mk kind re k bO next).d,i64 i,.d (bd c)] (b7 g0 t ah F st) fun v s=>v=bV b∧s=b7 g0 t ah F st':=by
 unfold eS b7 dN at aH
 simp only[i64,bV,iD,Vz,Vx]at aH
 have d4:decide (re.op=4)=false:=decide_eq_false (by omega)
 have d1:decide (re.op=1)=false:=decide_eq_false (by omega)
 have d2:decide (re.op=2)=false:=decide_eq_false (by omega)
 have d3:decide (re.op=3)=false:=decide_eq_false (by omega)
 have d5:decide (re.op=5)=false:=decide_eq_false (by omega)
 have d6:decide (re.op=6)=false:=decide_eq_false (by omega)
 have d7:decide (re.op=7)=false:=decide_eq_false (by omega)
 have d8:decide (re.op=8)=false:=decide_eq_false (by omega)
 have d9:decide (re.op=9)=false:=decide_eq_false (by omega)
 have d10:decide (re.op=10)=false:=decide_eq_false (by omega)
 have d11:decide (re.op=11)=true:=decide_eq_true o
 unfold eQ at hr
 rw[if_neg (by omega),if_neg (by omega),if_neg (by omega),if_neg (by omega),if_neg (by omega),if_neg (by omega),if_neg (by omega),if_neg (by omega),if_pos o]at hr
 have hh:=xp re.n t i ht hi0 eK
 simp only[i64,bV]at hh
 cases hb:bN re.n t i with
 |true =>
  rw[if_pos hb]at hr
  rw[hb]at hh
  have hc:=fun ext=>fo (ih g0 _ _ _ _ _ hr) ext
  unfold e8 eE b7 dN at hc;simp only[Goal.aN,i64,iD,bD,bV,Vz,Vx]at hc
  simp only[he]at hc
  unfold b7 dN
  refine av func114 rfl ntmps114 results114 rfl 3 26328072917139296674479506920917608079723773850137295405767982863 (by simp) (by simp) ?_
  simp only[zX,simprocAttr,i64,bV,Goal.aN,iD,bD,d4,d1,d2,d3,d5,d6,d7,d8,d9,d10,d11]
  refine aj (aH _) (fun v s' hv=>?_)
  obtain⟨rfl,rfl⟩:=hv
  simp only[zX,simprocAttr,i64,bV,iD,bD,he,Vt,Vs,d4,d1,d2,d3,d5,d6,d7,d8,d9,d10,d11]
  refine an mix [16] [] (by rfl) ?_
  simp only[zX,simprocAttr,i64,bV,iD,bD]
  refine cz hh rfl rfl ?_
  simp only[zX,simprocAttr,i64,bV,iD,bD]
  refine bn (hc _) ?_
  simp only[zX,simprocAttr,i64,bV,iD,bD]
  first|exact ba _ _|exact⟨ba _ _,rfl⟩
 |false =>
  rw[if_neg (by rw[hb];decide)]at hr
  rw[hb]at hh
  simp only[Option.some.injEq,Prod.mk.injEq]at hr
  obtain⟨rfl,rfl⟩:=hr
  unfold b7 dN
  refine av func114 rfl ntmps114 results114 rfl 3 26328072917139296674479506920917608079723773850137295405767982863 (by simp) (by simp) ?_
  simp only[zX,simprocAttr,i64,bV,Goal.aN,iD,bD,d4,d1,d2,d3,d5,d6,d7,d8,d9,d10,d11]
  refine aj (aH _) (fun v s' hv=>?_)
  obtain⟨rfl,rfl⟩:=hv
  simp only[zX,simprocAttr,i64,bV,iD,bD,he,Vt,Vs,d4,d1,d2,d3,d5,d6,d7,d8,d9,d10,d11]
  refine an mix [16] [] (by rfl) ?_
  simp only[zX,simprocAttr,i64,bV,iD,bD]
  refine cz hh rfl rfl ?_
  simp only[zX,simprocAttr,i64,bV,iD,bD]
  first|exact ba _ _|exact⟨ba _ _,rfl⟩
theorem Og {t:List Int}{F:Int}{n:Nat} (ih:je t F n) (ht:t.length≤1000000) {g0:Nat}{ah:Int}{kind:Int}{re:Re}{k bO:Int}{next:Goal}{i:Int}{c:aq}{st s1 st':aU}{b:Bool} (o:re.op=1)
  (hi0:0≤i) (eK:i≤t.length) (cC:re.set.length≤1000000000) (cJ:re.kids.length≤1000000000) (cI:c.length≤1000000000) (he:s1.empty=false) (aH:eS t F g0 ah st s1)
  (hr:eQ t (eh t F n) ah re next i c s1=some (b,st')) :
  az prog 114 [.rf 0 g0 0 0,.d (Goal.mk kind re k bO next).d,i64 i,.d (bd c)] (b7 g0 t ah F st) fun v s=>v=bV b∧s=b7 g0 t ah F st':=by
 unfold eS b7 dN at aH
 simp only[i64,bV,iD,Vz,Vx]at aH
 have d4:decide (re.op=4)=false:=decide_eq_false (by omega)
 have d1:decide (re.op=1)=true:=decide_eq_true o
 unfold eQ at hr
 rw[if_pos o]at hr
 have hh:=PV re.set (eH t i) cC
 simp only[i64,bV]at hh
 have w1:IntKind.i64.wrap (i+1)=i+1:=bR _ (by omega)
 by_cases q:i<(t.length:Int)
 ·have hg:=fD hi0 q
  cases hb:oQ re.set (eH t i) with
  |true =>
   rw[if_pos ⟨q,hb⟩]at hr
   rw[hb]at hh
   have hc:=fun ext=>fo (ih g0 _ _ _ _ _ hr) ext
   unfold e8 eE b7 dN at hc;simp only[Goal.aN,i64,iD,bD,bV,Vz,Vx]at hc
   simp only[he]at hc
   unfold b7 dN
   refine av func114 rfl ntmps114 results114 rfl 3 26328072917139296674479506920917608079723773850137295405767982863 (by simp) (by simp) ?_
   simp only[zX,simprocAttr,i64,bV,Goal.aN,iD,bD,d4,d1]
   refine aj (aH _) (fun v s' hv=>?_)
   obtain⟨rfl,rfl⟩:=hv
   simp only[zX,simprocAttr,i64,bV,iD,bD,he,Vt,Vs,d4,d1]
   refine an mix [28] [] (by rfl) ?_
   simp only[zX,simprocAttr,i64,bV,iD,bD,q,hi0,hg,ay]
   refine cz hh rfl rfl ?_
   simp only[zX,simprocAttr,i64,bV,iD,bD,w1]
   refine bn (hc _) ?_
   simp only[zX,simprocAttr,i64,bV,iD,bD]
   first|exact ba _ _|exact⟨ba _ _,rfl⟩
  |false =>
   rw[if_neg (by rw[hb];simp)]at hr
   rw[hb]at hh
   simp only[Option.some.injEq,Prod.mk.injEq]at hr
   obtain⟨rfl,rfl⟩:=hr
   unfold b7 dN
   refine av func114 rfl ntmps114 results114 rfl 3 26328072917139296674479506920917608079723773850137295405767982863 (by simp) (by simp) ?_
   simp only[zX,simprocAttr,i64,bV,Goal.aN,iD,bD,d4,d1]
   refine aj (aH _) (fun v s' hv=>?_)
   obtain⟨rfl,rfl⟩:=hv
   simp only[zX,simprocAttr,i64,bV,iD,bD,he,Vt,Vs,d4,d1]
   refine an mix [28] [] (by rfl) ?_
   simp only[zX,simprocAttr,i64,bV,iD,bD,q,hi0,hg,ay]
   refine cz hh rfl rfl ?_
   simp only[zX,simprocAttr,i64,bV,iD,bD]
   first|exact ba _ _|exact⟨ba _ _,rfl⟩
 ·rw[if_neg (fun h=>q h.1)]at hr
  simp only[Option.some.injEq,Prod.mk.injEq]at hr
  obtain⟨rfl,rfl⟩:=hr
  unfold b7 dN
  refine av func114 rfl ntmps114 results114 rfl 3 26328072917139296674479506920917608079723773850137295405767982863 (by simp) (by simp) ?_
  simp only[zX,simprocAttr,i64,bV,Goal.aN,iD,bD,d4,d1]
  refine aj (aH _) (fun v s' hv=>?_)
  obtain⟨rfl,rfl⟩:=hv
  simp only[zX,simprocAttr,i64,bV,iD,bD,he,Vt,Vs,d4,d1]
  refine an mix [28] [] (by rfl) ?_
  simp only[zX,simprocAttr,i64,bV,iD,bD,q,hi0,ay]
  first|exact ba _ _|exact⟨ba _ _,rfl⟩
theorem Nt {t:List Int}{F:Int}{n:Nat} (ih:je t F n) (ht:t.length≤1000000) {g0:Nat}{ah:Int}{kind:Int}{re:Re}{k bO:Int}{next:Goal}{i:Int}{c:aq}{st s1 st':aU}{b:Bool} (o:re.op=5)
  (hi0:0≤i) (eK:i≤t.length) (cC:re.set.length≤1000000000) (cJ:re.kids.length≤1000000000) (cI:c.length≤1000000000) (he:s1.empty=false) (aH:eS t F g0 ah st s1)
  (hr:eQ t (eh t F n) ah re next i c s1=some (b,st')) :
  az prog 114 [.rf 0 g0 0 0,.d (Goal.mk kind re k bO next).d,i64 i,.d (bd c)] (b7 g0 t ah F st) fun v s=>v=bV b∧s=b7 g0 t ah F st':=by
 unfold eS b7 dN at aH
 simp only[i64,bV,iD,Vz,Vx]at aH
 have d4:decide (re.op=4)=false:=decide_eq_false (by omega)
 have d1:decide (re.op=1)=false:=decide_eq_false (by omega)
 have d2:decide (re.op=2)=false:=decide_eq_false (by omega)
 have d3:decide (re.op=3)=false:=decide_eq_false (by omega)
 have d5:decide (re.op=5)=true:=decide_eq_true o
 unfold eQ at hr
 rw[if_neg (by omega),if_neg (by omega),if_neg (by omega),if_pos o]at hr
 cases hk:re.kids with
 |nil=>rw[hk]at hr;cases hr
 |cons kid l =>
  rw[hk]at hr
  have dL:re.kids[0]?=some kid:=by rw[hk];rfl
  have dg:(0:Int)<(re.kids.length:Int):=by rw[hk,VC];omega
  clear hk
  simp only at hr
  have hc:=fun ext=>fo (ih g0 _ _ _ _ _ hr) ext
  unfold e8 eE b7 dN at hc;simp only[Goal.aN,i64,iD,bD,bV,Vz,Vx]at hc
  simp only[he]at hc
  unfold b7 dN
  refine av func114 rfl ntmps114 results114 rfl 3 26328072917139296674479506920917608079723773850137295405767982863 (by simp) (by simp) ?_
  simp only[zX,simprocAttr,i64,bV,Goal.aN,iD,bD,d4,d1,d2,d3,d5]
  refine aj (aH _) (fun v s' hv=>?_)
  obtain⟨rfl,rfl⟩:=hv
  simp only[zX,simprocAttr,i64,bV,iD,bD,he,Vt,Vs,d4,d1,d2,d3,d5]
  refine aK (bL.trans bL.aV bL.aV) ?_
  refine an mix [17] [(12,[4],[4]),(14,[5],[5])] (by rfl) ?_
  simp only[zX,simprocAttr,i64,bV,iD,bD,hole,dL,dg,aw kid,Re.ae kid]
  refine bn (aP [4,5] (by simp [bk,bA,aZ.go,aZ,bQ]) (hc _)) ?_
  simp only[zX,simprocAttr,i64,bV,iD,bD]
  first|exact ba _ _|exact⟨ba _ _,rfl⟩
end Go.Proofs.Ytllagoeijcjpiaa
