/- A part of the proof (F48 F49). -/
import Derived.Test.YtpppfpaalcbggaaML24
import Derived.Test.YtpppfpaalcbggaaML25
import Derived.Test.YtpppfpaalcbggaaML26
import Derived.Test.YtpppfpaalcbggaaML29
set_option linter.unusedSimpArgs false
set_option linter.unusedVariables false
set_option maxRecDepth 100000
set_option maxHeartbeats 80000000
set_option linter.unusedSimpArgs false
set_option linter.unusedVariables false
namespace Go.Proofs.Ytpppfpaalcbggaa
open Go.VL Go.Proofs.Try
theorem formed_ok (re:Re) (hf:re.fine=true) (caps top:Int) (ht:top≤1114111):PureOK prog 50 [reEl re,i64 caps,i64 top] (bV (nodeOk re caps top)):=by
 have hc:(re.op=0∨re.op=2∨re.op=3)∨(re.op=5∨re.op=6∨re.op=7)∨(re.op=8∨re.op=9)∨(re.op=10∨re.op=11)∨(re.op=1∨re.op=4∨(¬re.op=0∧¬re.op=1∧¬re.op=2∧¬re.op=3∧¬re.op=4∧¬re.op=5∧¬re.op=6∧¬re.op=7∧¬re.op=8∧¬re.op=9∧¬re.op=10∧¬re.op=11)):=by omega
 rcases hc with h | h | h | h | h
 ·exact formed_B re hf caps top ht h
 ·exact formed_C re hf caps top ht h
 ·exact formed_D re hf caps top ht h
 ·exact formed_E re hf caps top ht h
 ·exact formed_A re hf caps top ht h
mutual
def Re.vw (caps top:Int):Re→Int→Int→Bool→Bool × Int × Bool
 | .mk op set kids mn mx mode n neg,d,sz,g =>
  if 256 < sz + 1∨24 < d then (false,sz + 1,g) else Re.vwL caps top kids (d + 1) (sz + 1) (g&&nodeOk (.mk op set kids mn mx mode n neg) caps top)
def Re.vwL (caps top:Int):List Re→Int→Int→Bool→Bool × Int × Bool
 | [],_,sz,g=>(true,sz,g)
 | k::l,d,sz,g=>if (Re.vw caps top k d sz g).1=true then Re.vwL caps top l d (Re.vw caps top k d sz g).2.1 (Re.vw caps top k d sz g).2.2 else Re.vw caps top k d sz g
end
theorem Re.vw_eq (caps top:Int) (re:Re) (d sz:Int) (g:Bool):re.vw caps top d sz g=if 256 < sz + 1∨24 < d then (false,sz + 1,g) else Re.vwL caps top re.kids (d + 1) (sz + 1) (g&&nodeOk re caps top):=by
 cases re; simp [Re.vw,Re.kids]
theorem Re.vwL_append (caps top:Int):∀(a b:List Re) (d sz:Int) (g:Bool),Re.vwL caps top (a++b) d sz g=if (Re.vwL caps top a d sz g).1=true then Re.vwL caps top b d (Re.vwL caps top a d sz g).2.1 (Re.vwL caps top a d sz g).2.2 else Re.vwL caps top a d sz g
 | [],b,d,sz,g=>by simp [Re.vwL]
 | k::a,b,d,sz,g=>by
  simp only[List.cons_append,Re.vwL]
  split
  ·exact Re.vwL_append caps top a b d _ _
  ·rename_i h; first | rfl | rw[if_neg h]
theorem Re.vwL_snoc (caps top:Int) (a:List Re) (k:Re) (d sz:Int) (g:Bool) (h:(Re.vwL caps top a d sz g).1=true):Re.vwL caps top (a++[k]) d sz g=k.vw caps top d (Re.vwL caps top a d sz g).2.1 (Re.vwL caps top a d sz g).2.2:=by
 rw[Re.vwL_append,if_pos h]
 simp only[Re.vwL]
 split
 ·rename_i hk
  exact Prod.ext hk.symm rfl
 ·rfl
def VwOK (caps top:Int) (re:Re):Prop:=∀(d sz:Int) (g:Bool),0≤sz→sz≤256 →
 ((re.vw caps top d sz g).1=true ↔ (sz + re.size≤256∧d + re.depth - 1≤24))∧0≤(re.vw caps top d sz g).2.1∧(re.vw caps top d sz g).2.1≤257 ∧
 ((re.vw caps top d sz g).1=true→(re.vw caps top d sz g).2.1=sz + re.size∧(re.vw caps top d sz g).2.2=(g&&re.whole caps top))
theorem vwL_ok (caps top:Int):∀(l:List Re),(∀k∈l,VwOK caps top k)→∀(d sz:Int) (g:Bool),0≤sz→sz≤256 →
  ((Re.vwL caps top l d sz g).1=true ↔ (sz + Re.sizeL l≤256∧∀k∈l,d + k.depth - 1≤24))∧0≤(Re.vwL caps top l d sz g).2.1∧(Re.vwL caps top l d sz g).2.1≤257 ∧
  ((Re.vwL caps top l d sz g).1=true→(Re.vwL caps top l d sz g).2.1=sz + Re.sizeL l∧(Re.vwL caps top l d sz g).2.2=(g&&l.all fun k=>k.whole caps top))
 | [],_,d,sz,g,h0,h1=>by
  simp only[Re.vwL,Re.sizeL]
  exact⟨⟨fun _=>⟨by omega,fun k hk=>by cases hk⟩,fun _=>trivial⟩,h0,by omega,fun _=>⟨by omega,by simp⟩⟩
 | k::l,hk,d,sz,g,h0,h1=>by
  obtain⟨a1,a2,a3,a4⟩:=hk k (by simp) d sz g h0 h1
  simp only[Re.vwL,Re.sizeL]
  split
  ·rename_i ht
   obtain⟨b1,b2⟩:=a4 ht
   obtain⟨c1,c2⟩:=a1.1 ht
   obtain⟨e1,e2,e3,e4⟩:=vwL_ok caps top l (fun x hx=>hk x (by simp [hx])) d (k.vw caps top d sz g).2.1 (k.vw caps top d sz g).2.2 a2 (by omega)
   refine⟨?_,e2,e3,fun h=>?_⟩
   ·rw[e1,b1]
    constructor
    ·rintro ⟨f1,f2⟩
     refine⟨by omega,fun x hx=>?_⟩
     rcases List.mem_cons.1 hx with rfl | hx
     ·exact c2
     ·exact f2 x hx
    ·rintro ⟨f1,f2⟩
     exact⟨by omega,fun x hx=>f2 x (by simp [hx])⟩
   ·obtain⟨f1,f2⟩:=e4 h
    refine⟨by omega,?_⟩
    rw[f2,b2,List.all_cons,Bool.and_assoc]
  ·rename_i ht
   refine⟨⟨fun h=>absurd h ht,fun ⟨f1,f2⟩=>absurd (a1.2 ⟨by omega,f2 k (by simp)⟩) ht⟩,a2,a3,fun h=>absurd h ht⟩
theorem depth_le_iff (re:Re) (b:Int) (hb:0≤b):re.depth - 1≤b ↔ ∀k∈re.kids,k.depth≤b:=by
 rw[Re.depth_eq]
 constructor
 ·intro h k hk
  have:∀(l:List Int) (a x:Int),x∈l→x≤l.foldl max a:=by
   intro l
   induction l with
   | nil=>intro a x hx; cases hx
   | cons y l ih =>
    intro a x hx
    rcases List.mem_cons.1 hx with rfl | hx
    ·exact Int.le_trans (by omega) (le_foldl_max l (max a x))
    ·exact ih (max a y) x hx
  have:=this (re.kids.map Re.depth) 0 k.depth (List.mem_map.2 ⟨k,hk,rfl⟩)
  unfold maxL at h
  omega
 ·intro h
  have:=foldl_max_le (b:=b) (re.kids.map Re.depth) 0 hb (fun x hx=>by obtain⟨k,hk,rfl⟩:=List.mem_map.1 hx; exact h k hk)
  unfold maxL
  omega
theorem vw_ok (caps top:Int) (re:Re):VwOK caps top re:=by
 refine Re.ind (Q:=VwOK caps top) (fun re ih=>?_) re
 intro d sz g h0 h1
 have hd:=Re.depth_le re
 have hp:=re.size_pos
 rw[Re.vw_eq,Re.size_eq]
 split
 ·rename_i hc
  simp only
  refine⟨⟨fun h=>(by cases h),fun h=>?_⟩,by omega,by omega,fun h=>(by cases h)⟩
  have hdp:1≤re.depth:=by rw[Re.depth_eq]; have:=le_foldl_max (re.kids.map Re.depth) 0; unfold maxL; omega
  omega
 ·rename_i hc
  obtain⟨a1,a2,a3,a4⟩:=vwL_ok caps top re.kids ih (d + 1) (sz + 1) (g&&nodeOk re caps top) (by omega) (by omega)
  refine⟨?_,a2,a3,fun h=>?_⟩
  ·rw[a1]
   have hdl:=depth_le_iff re (24 - d) (by omega)
   constructor
   ·rintro ⟨f1,f2⟩
    have:=hdl.2 (fun k hk=>by have:=f2 k hk; omega)
    omega
   ·rintro ⟨f1,f2⟩
    have:=hdl.1 (by omega)
    exact⟨by omega,fun k hk=>by have:=this k hk; omega⟩
  ·obtain⟨f1,f2⟩:=a4 h
   refine⟨by omega,?_⟩
   rw[f2,Bool.and_assoc]
   congr 1
   unfold Re.whole
   rw[Bool.eq_iff_iff,Bool.and_eq_true,Re.every_iff,List.all_eq_true]
def gO (g:Bool):VL.Obj:=⟨0,true,1,[[bV g]]⟩
def patO (lv:Bool) (p:Pat):VL.Obj:=⟨0,lv,10,[(patC p).map .d]⟩
def cell5O (f:FuncId):VL.Obj:=⟨0,true,1,[[.cl (.func f) [] [.rf 0 0 0 0,.rf 1 0 0 0,.rf 2 0 0 0,.rf 3 0 0 0,.rf 4 0 0 0]]]⟩
def ValOK (p:Pat) (top:Int) (re:Re):Prop:=∀(d sz:Int) (g lv:Bool) (pv:V),(pv=.rf 2 0 0 0∨pv=.d (.el (patC p)))→0≤d→d≤25→0≤sz→sz≤256 →
 callWp prog 49 [reEl re,i64 d,.rf 0 0 0 0,.rf 1 0 0 0,pv,.rf 3 0 0 0,.rf 4 0 0 0] [cntO sz,gO g,patO lv p,cntO top,cell5O 49]
  fun v s=>v=bV (re.vw p.caps top d sz g).1∧s=[cntO (re.vw p.caps top d sz g).2.1,gO (re.vw p.caps top d sz g).2.2,patO lv p,cntO top,cell5O 49]
theorem valid_rec (p:Pat) (top:Int) (ht:top≤1114111) (re:Re) (hf:re.fine=true):ValOK p top re:=by
 revert hf
 refine Re.ind (Q:=fun re=>re.fine=true→ValOK p top re) (fun re ih hf=>?_) re
 obtain⟨hset1,hlen,hfk⟩:=Re.fine_spec hf
 have hfo:=formed_ok re hf p.caps top ht
 rw[reEl,Re.cells_eq] at hfo
 simp only[i64,iD,bD] at hfo
 intro d sz g lv pv hpv hd0 hd1 hs0 hs1
 have w1:IntKind.i64.wrap (sz + 1)=sz + 1:=w64 _ (by omega)
 have w2:IntKind.i64.wrap (d + 1)=d + 1:=w64 _ (by omega)
 rw[Re.vw_eq]
 by_cases hc:256 < sz + 1∨24 < d
 ·rw[if_pos hc]
  have hc2:256 < sz + 1∨(¬256 < sz + 1∧24 < d):=by omega
  refine fn_ok func49 rfl ntmps49 results49 rfl 5 6442452607 (by simp) (by simp) ?_
  rcases hc2 with c1 | ⟨c1,c2⟩
  ·simp only[zX,Nat.reduceShiftRight,Nat.reduceMod,Nat.reduceLT,Nat.reduceMul,Nat.reduceSub,Int.reduceToNat,Int.reduceNeg,Int.reduceLT,Int.reduceLE,Int.reduceEq,Nat.reduceEqDiff,Nat.reduceAdd,Nat.reduceLeDiff,reduceIte,reduceCtorEq,Nat.reduceBEq,i64,reEl,Re.cells_eq re,iD,bD,cntO,gO,patO,patC_eq p,cell5O,bV,w1,c1]
   all_goals first | exact⟨rfl,rfl⟩ | exact⟨rfl,trivial⟩ | rfl | trivial | (rw[reV_eq]; rfl)
  ·simp only[zX,Nat.reduceShiftRight,Nat.reduceMod,Nat.reduceLT,Nat.reduceMul,Nat.reduceSub,Int.reduceToNat,Int.reduceNeg,Int.reduceLT,Int.reduceLE,Int.reduceEq,Nat.reduceEqDiff,Nat.reduceAdd,Nat.reduceLeDiff,reduceIte,reduceCtorEq,Nat.reduceBEq,i64,reEl,Re.cells_eq re,iD,bD,cntO,gO,patO,patC_eq p,cell5O,bV,w1,c1,c2]
   all_goals first | exact⟨rfl,rfl⟩ | exact⟨rfl,trivial⟩ | rfl | trivial | (rw[reV_eq]; rfl)
 rw[if_neg hc]
 have c1:¬256 < sz + 1:=fun h=>hc (.inl h)
 have c2:¬24 < d:=fun h=>hc (.inr h)
 generalize hG:(g&&nodeOk re p.caps top)=G
 rcases hpv with rfl | rfl
 all_goals
  cases g
  all_goals
   refine fn_ok func49 rfl ntmps49 results49 rfl 5 6442452607 (by simp) (by simp) ?_
   simp only[zX,Nat.reduceShiftRight,Nat.reduceMod,Nat.reduceLT,Nat.reduceMul,Nat.reduceSub,Int.reduceToNat,Int.reduceNeg,Int.reduceLT,Int.reduceLE,Int.reduceEq,Nat.reduceEqDiff,Nat.reduceAdd,Nat.reduceLeDiff,reduceIte,reduceCtorEq,Nat.reduceBEq,i64,reEl,Re.cells_eq re,iD,bD,cntO,gO,patO,patC_eq p,cell5O,bV,w1,c1,c2]
   try
    rw[Bool.true_and] at hG
    rw[hG] at hfo
    refine call_pure hfo (by simp [refsV,refsV.go,reV_eq,i64,bV,reEl]) (by simp [refsV,refsV.go,reV_eq,i64,bV,reEl]) ?_
    simp only[zX,Nat.reduceShiftRight,Nat.reduceMod,Nat.reduceLT,Nat.reduceMul,Nat.reduceSub,Int.reduceToNat,Int.reduceNeg,Int.reduceLT,Int.reduceLE,Int.reduceEq,Nat.reduceEqDiff,Nat.reduceAdd,Nat.reduceLeDiff,reduceIte,reduceCtorEq,Nat.reduceBEq,i64,iD,bD,bV]
   refine loop_rule (fun n e s=>∃i:Nat,n=re.kids.length - i∧i≤re.kids.length∧e 0=reEl re∧e 1=i64 d∧e 6=.rf 4 0 0 0∧e 31=i64 re.kids.length∧e 32=i64 i ∧
     (Re.vwL p.caps top (re.kids.take i) (d + 1) (sz + 1) G).1=true ∧
     s=[cntO (Re.vwL p.caps top (re.kids.take i) (d + 1) (sz + 1) G).2.1,gO (Re.vwL p.caps top (re.kids.take i) (d + 1) (sz + 1) G).2.2,patO lv p,cntO top,cell5O 49])
    ⟨_,_,_,Cln.refl,0,rfl,by omega,by simp [reEl,Re.cells_eq re,iD,bD]; rfl,rfl,rfl,rfl,rfl,rfl,by simp only[List.take_zero,Re.vwL,cntO,gO,patO,patC_eq p,cell5O,i64,bV,iD,bD,List.map_cons,List.map_nil,← hG,Bool.false_and]⟩ ?_
   rintro n e s ⟨i,rfl,hi,h0,h1,h6,h31,h32,hall,rfl⟩
   have hvl:=vwL_ok p.caps top (re.kids.take i) (fun k _=>vw_ok p.caps top k) (d + 1) (sz + 1) G (by omega) (by omega)
   obtain⟨b1,b2⟩:=hvl.2.2.2 hall
   have b3:=(hvl.1.1 hall).1
   have b4:=hvl.2.1
   rcases Nat.lt_or_ge i re.kids.length with hlt | hge
   ·obtain⟨k,hk⟩:∃k,re.kids[i]?=some k:=⟨_,List.getElem?_eq_getElem hlt⟩
    have hm:=List.mem_of_getElem? hk
    have hsn:=Re.vwL_snoc p.caps top (re.kids.take i) k (d + 1) (sz + 1) G hall
    rw[← take_get hk] at hsn
    have hspl:Re.vwL p.caps top re.kids (d + 1) (sz + 1) G=if (Re.vwL p.caps top (re.kids.take (i + 1)) (d + 1) (sz + 1) G).1=true then Re.vwL p.caps top (re.kids.drop (i + 1)) (d + 1) (Re.vwL p.caps top (re.kids.take (i + 1)) (d + 1) (sz + 1) G).2.1 (Re.vwL p.caps top (re.kids.take (i + 1)) (d + 1) (sz + 1) G).2.2 else Re.vwL p.caps top (re.kids.take (i + 1)) (d + 1) (sz + 1) G:=by
     rw[← Re.vwL_append,List.take_append_drop]
    have hrec:=ih k hm (hfk k hm) (d + 1) (Re.vwL p.caps top (re.kids.take i) (d + 1) (sz + 1) G).2.1 (Re.vwL p.caps top (re.kids.take i) (d + 1) (sz + 1) G).2.2 lv (.rf 2 0 0 0) (.inl rfl) (by omega) (by omega) b4 (by omega)
    rw[← hsn] at hrec
    simp only[patO,patC_eq p,iD,bD,List.map_cons,List.map_nil] at hrec
    generalize Re.vwL p.caps top (re.kids.take i) (d + 1) (sz + 1) G=A at *
    generalize hB:Re.vwL p.caps top (re.kids.take (i + 1)) (d + 1) (sz + 1) G=B at *
    obtain⟨B1,B2,B3⟩:=B
    simp only[zX,Nat.reduceShiftRight,Nat.reduceMod,Nat.reduceLT,Nat.reduceMul,Nat.reduceSub,Int.reduceToNat,Int.reduceNeg,Int.reduceLT,Int.reduceLE,Int.reduceEq,Nat.reduceEqDiff,Nat.reduceAdd,Nat.reduceLeDiff,reduceIte,reduceCtorEq,Nat.reduceBEq,i64,cntO,gO,patO,patC_eq p,cell5O,bV,h0,h1,h6,h31,h32,hlt]
    refine draw_c mix [] [(0,[4],[]),(9,[0,1,2,3,4],[0,1,2,3,4])] (by rfl) ?_
    simp only[zX,Nat.reduceShiftRight,Nat.reduceMod,Nat.reduceLT,Nat.reduceMul,Nat.reduceSub,Int.reduceToNat,Int.reduceNeg,Int.reduceLT,Int.reduceLE,Int.reduceEq,Nat.reduceEqDiff,Nat.reduceAdd,Nat.reduceLeDiff,reduceIte,reduceCtorEq,Nat.reduceBEq,i64,cntO,gO,patO,patC_eq p,cell5O,bV,reEl,Re.cells_eq re,iD,bD,h0,h1,h6,h31,h32,hlt,hk,w2]
    refine callF_whole hrec (by intro j hj; simp only[List.length_cons,List.length_nil] at hj; simp only[List.mem_cons,List.not_mem_nil,or_false]; omega) rfl rfl ?_
    cases B1 with
    | false =>
     simp only[Bool.false_eq_true,if_false] at hspl
     rw[hspl]
     simp only[zX,Nat.reduceShiftRight,Nat.reduceMod,Nat.reduceLT,Nat.reduceMul,Nat.reduceSub,Int.reduceToNat,Int.reduceNeg,Int.reduceLT,Int.reduceLE,Int.reduceEq,Nat.reduceEqDiff,Nat.reduceAdd,Nat.reduceLeDiff,reduceIte,reduceCtorEq,Nat.reduceBEq,i64,cntO,gO,patO,patC_eq p,cell5O,bV,h0,h1,h6,h31,h32]
     all_goals first | exact⟨rfl,rfl⟩ | exact⟨rfl,trivial⟩ | rfl | trivial | (rw[reV_eq]; rfl)
    | true =>
     simp only[zX,Nat.reduceShiftRight,Nat.reduceMod,Nat.reduceLT,Nat.reduceMul,Nat.reduceSub,Int.reduceToNat,Int.reduceNeg,Int.reduceLT,Int.reduceLE,Int.reduceEq,Nat.reduceEqDiff,Nat.reduceAdd,Nat.reduceLeDiff,reduceIte,reduceCtorEq,Nat.reduceBEq,i64,cntO,gO,bV,h0,h1,h6,h31,h32]
     refine⟨re.kids.length - (i + 1),_,_,by omega,Cln.refl,i + 1,rfl,hlt,?_,?_,?_,?_,?_,by rw[hB],?_⟩ <;> (try simp only[zU,Nat.reduceBEq,Nat.reduceShiftRight,Nat.reduceMod,Nat.reduceEqDiff,reduceIte])
     ·simpa [reEl,Re.cells_eq re,iD,bD] using h0
     ·exact h1
     ·exact h6
     ·exact h31
     ·rw[w64 _ (by omega)]; rfl
     ·rw[hB]; simp only[patO,patC_eq p,iD,bD,List.map_cons,List.map_nil]; rfl
   ·have hie:i=re.kids.length:=by omega
    subst hie
    rw[List.take_length] at *
    simp only[zX,Nat.reduceShiftRight,Nat.reduceMod,Nat.reduceLT,Nat.reduceMul,Nat.reduceSub,Int.reduceToNat,Int.reduceNeg,Int.reduceLT,Int.reduceLE,Int.reduceEq,Nat.reduceEqDiff,Nat.reduceAdd,Nat.reduceLeDiff,reduceIte,reduceCtorEq,Nat.reduceBEq,i64,cntO,gO,patO,patC_eq p,cell5O,bV,h0,h1,h6,h31,h32,Nat.lt_irrefl]
    rw[hall]
    all_goals first | exact⟨rfl,rfl⟩ | exact⟨rfl,trivial⟩ | rfl | trivial | (rw[reV_eq]; rfl)
theorem ast_valid_eq (p:Pat) (g:Bool) (hg:g=(decide (0≤p.caps)&&decide (p.caps≤9))) :
  (if (p.re.vw p.caps (topR p.runes) 1 0 g).1=true then (if (p.re.vw p.caps (topR p.runes) 1 0 g).2.2=true then (0:Int) else 1) else 4)=validR p:=by
 obtain⟨a1,_,_,a4⟩:=vw_ok p.caps (topR p.runes) p.re 1 0 g (by omega) (by omega)
 by_cases h:(p.re.vw p.caps (topR p.runes) 1 0 g).1=true
 ·have h1:=a1.1 h
  have hv:validR p=if p.caps < 0∨9 < p.caps∨p.re.whole p.caps (topR p.runes)=false then 1 else 0:=by
   unfold validR; rw[if_neg (by omega)]
  rw[if_pos h,hv,(a4 h).2,hg]
  cases hw:p.re.whole p.caps (topR p.runes)
  ·rw[if_neg (by simp),if_pos (.inr (.inr rfl))]
  ·by_cases hc:p.caps < 0∨9 < p.caps
   ·rw[if_neg (by simp only[Bool.and_true,Bool.and_eq_true,decide_eq_true_eq]; omega),if_pos (by omega)]
   ·rw[if_pos (by simp only[Bool.and_true,Bool.and_eq_true,decide_eq_true_eq]; omega),if_neg (by rintro (h' | h' | h') <;> first | omega | cases h')]
 ·have hh:¬(0 + (p.re.size:Int)≤256∧1 + p.re.depth - 1≤24):=fun hh=>h (a1.2 hh)
  have hv:validR p=4:=by
   unfold validR; rw[if_pos (by omega)]
  rw[if_neg h,hv]
theorem valid_ok (p:Pat) (hf:p.re.fine=true):PureOK prog 21 [.ag ((patC p).map .d)] (i64 (validR p)):=by
 have hto:=topOf_ok p.runes
 have htt:topR p.runes≤1114111:=by unfold topR; split <;> omega
 have hk:∀g:Bool,g=(decide (0≤p.caps)&&decide (p.caps≤9))→callWp prog 49 [.d (.el (patC p)),i64 1,.rf 0 0 0 0,.rf 1 0 0 0,.d (.el (patC p)),.rf 3 0 0 0,.rf 4 0 0 0] [cntO 0,gO g,patO false p,cntO (topR p.runes),cell5O 49]
   fun v s=>v=bV (p.re.vw p.caps (topR p.runes) 1 0 g).1∧s=[cntO (p.re.vw p.caps (topR p.runes) 1 0 g).2.1,gO (p.re.vw p.caps (topR p.runes) 1 0 g).2.2,patO false p,cntO (topR p.runes),cell5O 49]:=by
  intro g _
  have:=valid_rec p (topR p.runes) htt p.re hf 1 0 g false (.d (.el (patC p))) (.inr rfl) (by omega) (by omega) (by omega) (by omega)
  exact call_weak (ex:=[iD p.caps,bD p.runes]) this
 have fin:=fun g hg=>ast_valid_eq p g hg
 generalize hG:(decide (0≤p.caps)&&decide (p.caps≤9))=G at hk fin
 have hk:=hk G rfl
 have fin:=fin G rfl
 generalize p.re.vw p.caps (topR p.runes) 1 0 G=R at hk fin
 obtain⟨R1,R2,R3⟩:=R
 simp only at fin
 rw[← fin]
 simp only[patO,patC_eq p,iD,bD,bV,i64,List.map_cons,List.map_nil] at hk hto ⊢
 refine fn_ok func21 rfl ntmps21 results21 rfl 0 127 (by simp) (by simp) ?_
 simp only[zX,Nat.reduceShiftRight,Nat.reduceMod,Nat.reduceLT,Nat.reduceMul,Nat.reduceSub,Int.reduceToNat,Int.reduceNeg,Int.reduceLT,Int.reduceLE,Int.reduceEq,Nat.reduceEqDiff,Nat.reduceAdd,Nat.reduceLeDiff,reduceIte,reduceCtorEq,Nat.reduceBEq,i64,iD,bD,List.map_cons,List.map_nil]
 by_cases g1:0≤p.caps
 all_goals
  try (by_cases g2:p.caps≤9)
 all_goals
  first
   |(have hGv:G=true:=by rw[← hG,decide_eq_true g1,decide_eq_true g2]; rfl
     subst hGv
     simp only[zX,Nat.reduceShiftRight,Nat.reduceMod,Nat.reduceLT,Nat.reduceMul,Nat.reduceSub,Int.reduceToNat,Int.reduceNeg,Int.reduceLT,Int.reduceLE,Int.reduceEq,Nat.reduceEqDiff,Nat.reduceAdd,Nat.reduceLeDiff,reduceIte,reduceCtorEq,Nat.reduceBEq,i64,iD,bD,g1,g2])
   |(have hGv:G=false:=by rw[← hG,decide_eq_true g1,decide_eq_false g2]; rfl
     subst hGv
     simp only[zX,Nat.reduceShiftRight,Nat.reduceMod,Nat.reduceLT,Nat.reduceMul,Nat.reduceSub,Int.reduceToNat,Int.reduceNeg,Int.reduceLT,Int.reduceLE,Int.reduceEq,Nat.reduceEqDiff,Nat.reduceAdd,Nat.reduceLeDiff,reduceIte,reduceCtorEq,Nat.reduceBEq,i64,iD,bD,g1,g2])
   |(have hGv:G=false:=by rw[← hG,decide_eq_false g1]; rfl
     subst hGv
     simp only[zX,Nat.reduceShiftRight,Nat.reduceMod,Nat.reduceLT,Nat.reduceMul,Nat.reduceSub,Int.reduceToNat,Int.reduceNeg,Int.reduceLT,Int.reduceLE,Int.reduceEq,Nat.reduceEqDiff,Nat.reduceAdd,Nat.reduceLeDiff,reduceIte,reduceCtorEq,Nat.reduceBEq,i64,iD,bD,g1])
  refine call_pure hto rfl rfl ?_
  simp only[zX,Nat.reduceShiftRight,Nat.reduceMod,Nat.reduceLT,Nat.reduceMul,Nat.reduceSub,Int.reduceToNat,Int.reduceNeg,Int.reduceLT,Int.reduceLE,Int.reduceEq,Nat.reduceEqDiff,Nat.reduceAdd,Nat.reduceLeDiff,reduceIte,reduceCtorEq,Nat.reduceBEq,i64,iD,bD]
  refine call_give [0] rfl ?_
  refine call_map [1,2,0,3,4] hk (by decide) rfl rfl rfl (by simp [refsV,refsV.go]) (by simp [objOk,cntO,gO,patO,cell5O,refsV,refsV.go,i64,bV]) rfl ?_
  cases R1
  ·simp only[zX,Nat.reduceShiftRight,Nat.reduceMod,Nat.reduceLT,Nat.reduceMul,Nat.reduceSub,Int.reduceToNat,Int.reduceNeg,Int.reduceLT,Int.reduceLE,Int.reduceEq,Nat.reduceEqDiff,Nat.reduceAdd,Nat.reduceLeDiff,reduceIte,reduceCtorEq,Nat.reduceBEq,i64,killO,kill1,renO,renV,renV.go,cntO,gO,patO,patC_eq p,cell5O,bV,putObjs,iD,bD]
   all_goals first | exact⟨rfl,rfl⟩ | exact⟨rfl,trivial⟩ | rfl | trivial | (rw[reV_eq]; rfl)
  ·cases R3
   ·simp only[zX,Nat.reduceShiftRight,Nat.reduceMod,Nat.reduceLT,Nat.reduceMul,Nat.reduceSub,Int.reduceToNat,Int.reduceNeg,Int.reduceLT,Int.reduceLE,Int.reduceEq,Nat.reduceEqDiff,Nat.reduceAdd,Nat.reduceLeDiff,reduceIte,reduceCtorEq,Nat.reduceBEq,i64,killO,kill1,renO,renV,renV.go,cntO,gO,patO,patC_eq p,cell5O,bV,putObjs,iD,bD]
    all_goals first | exact⟨rfl,rfl⟩ | exact⟨rfl,trivial⟩ | rfl | trivial | (rw[reV_eq]; rfl)
   ·simp only[zX,Nat.reduceShiftRight,Nat.reduceMod,Nat.reduceLT,Nat.reduceMul,Nat.reduceSub,Int.reduceToNat,Int.reduceNeg,Int.reduceLT,Int.reduceLE,Int.reduceEq,Nat.reduceEqDiff,Nat.reduceAdd,Nat.reduceLeDiff,reduceIte,reduceCtorEq,Nat.reduceBEq,i64,killO,kill1,renO,renV,renV.go,cntO,gO,patO,patC_eq p,cell5O,bV,putObjs,iD,bD]
    all_goals first | exact⟨rfl,rfl⟩ | exact⟨rfl,trivial⟩ | rfl | trivial | (rw[reV_eq]; rfl)
end Go.Proofs.Ytpppfpaalcbggaa
