/- A part of the proof (K38 K43 K44). -/
import Derived.Test.YtdofoappodmcoaaKP3
import Derived.Test.YtdofoappodmcoaaKP41
import Derived.Test.YtdofoappodmcoaaKP42
import Derived.Test.YtdofoappodmcoaaKP44
set_option linter.unusedSimpArgs false
set_option linter.unusedVariables false
set_option maxRecDepth 100000
set_option maxHeartbeats 80000000
namespace Go.Proofs.Ytdofoappodmcoaa
open Go.VL Go.Proofs.Try
theorem pvalid_ok (g:Prg) (x:Ins) (hl:x.set.length≤1000000000) (hg:g.ins.length≤1000000000) (hc0:0≤g.caps) (hc1:g.caps≤9):PureOK prog 93 [prgV g,.d (.el x.cells)] (bV (insB g.ins.length g.caps g.runes x)):=by
 by_cases o0:x.op=0
 ·exact pvalid_0 g x hl o0
 by_cases o1:x.op=1
 ·exact pvalid_1 g x hl o1
 by_cases o2:x.op=2
 ·exact pvalid_2 g x hl hg o2
 by_cases o3:x.op=3
 ·exact pvalid_3 g x hl hg o3
 by_cases o4:x.op=4
 ·exact pvalid_4 g x hl hc0 hc1 o4
 by_cases o5:x.op=5
 ·exact pvalid_5 g x hl o5
 exact pvalid_9 g x o0 o1 o2 o3 o4 o5
theorem take_all {α:Type} {p:α→Bool} {l:List α} {i:Nat} {x:α} (hx:l[i]?=some x) (h:(l.take i).all p=true) (hp:p x=true):(l.take (i + 1)).all p=true:=by
 rw[take_get hx,List.all_append,h]; simp [hp]
theorem progValid_ok (g:Prg) (hs:g.ins.length≤1000000000) (hl:∀x∈g.ins,x.set.length≤1000000000):PureOK prog 64 [prgV g] (i64 (prgE g)):=by
 have hboxP:(⟨0,true,3,[[.d (.sl (g.ins.map Ins.cells)),.d (.sc (.int .i64 g.caps)),.d (.sc (.bool g.runes))]]⟩:VL.Obj)=boxP g:=rfl
 unfold prgE
 refine fn_ok func64 rfl ntmps64 results64 rfl 0 52776608464911 (by simp) (by simp) ?_
 by_cases c1:8192 < g.ins.length
 ·have c1':(8192:Int) < g.ins.length:=by omega
  rw[if_pos c1]
  simp only[zX,simprocAttr,i64,bV,iD,bD,prgV_eq,c1',List.length_map]
 rw[if_neg c1]
 have c1':¬(8192:Int) < g.ins.length:=by omega
 by_cases c2:g.ins.length=0∨g.caps < 0∨9 < g.caps
 ·rw[if_pos c2]
  by_cases d1:g.caps < 0
  ·simp only[zX,simprocAttr,i64,bV,iD,bD,prgV_eq,c1',d1,List.length_map]
  ·by_cases d2:9 < g.caps
   ·simp only[zX,simprocAttr,i64,bV,iD,bD,prgV_eq,c1',d1,d2,List.length_map]
   ·have d3:=eq_true (show (g.ins.length:Int)=0 by omega)
    simp only[zX,simprocAttr,i64,bV,iD,bD,prgV_eq,c1',d1,d2,d3,List.length_map]
 rw[if_neg c2]
 have d1:¬g.caps < 0:=by omega
 have d2:¬9 < g.caps:=by omega
 have d3:¬(g.ins.length:Int)=0:=by omega
 simp only[zX,simprocAttr,i64,bV,iD,bD,prgV_eq,c1',d1,d2,d3,List.length_map]
 refine loop_rule (fun n e s=>∃i:Nat,n=g.ins.length - i∧i≤g.ins.length∧e 1=.rf 0 0 0 0∧e 24=i64 g.ins.length∧e 25=i64 i∧(g.ins.take i).all (insB g.ins.length g.caps g.runes)=true∧s=[boxP g])
  ⟨_,_,_,Cln.refl,0,rfl,by omega,rfl,rfl,rfl,rfl,rfl⟩ ?_
 rintro n e s ⟨i,rfl,hi,h1,h24,h25,hall,rfl⟩
 rcases Nat.lt_or_ge i g.ins.length with hlt | hge
 ·obtain⟨x,hx⟩:∃x,g.ins[i]?=some x:=⟨_,List.getElem?_eq_getElem hlt⟩
  have hlt':(i:Int) < g.ins.length:=by omega
  have hp:=pvalid_ok g x (hl x (List.mem_of_getElem? hx)) hs (by omega) (by omega)
  simp only[prgV_eq,i64,bV,iD,bD] at hp
  simp only[zX,simprocAttr,i64,bV,iD,bD,boxP,h1,h24,h25,hlt',hx,List.length_map]
  refine draw_c mix [] [] (by rfl) ?_
  simp only[zX,simprocAttr,i64,bV,iD,bD,boxP,h1,h24,h25,hlt',hx,List.length_map]
  refine⟨rfl,callC_pure hp rfl rfl ?_⟩
  cases hB:insB g.ins.length g.caps g.runes x with
  | true =>
   simp only[zX,simprocAttr,i64,bV,iD,bD,boxP,h1,h24,h25,hlt',hx,List.length_map]
   refine⟨g.ins.length - (i + 1),_,_,by omega,Cln.refl,i + 1,rfl,hlt,?_,?_,?_,take_all hx hall hB,rfl⟩ <;> (try simp only[zU,Nat.reduceBEq,Nat.reduceShiftRight,Nat.reduceMod,Nat.reduceEqDiff,reduceIte])
   ·exact h1
   ·exact h24
   ·rw[w64 _ (by omega)]; rfl
  | false =>
   have hn:¬g.ins.all (insB g.ins.length g.caps g.runes)=true:=fun h=>by
    have:=List.all_eq_true.1 h x (List.mem_of_getElem? hx)
    rw[hB] at this; cases this
   rw[if_neg hn]
   simp only[zX,simprocAttr,i64,bV,iD,bD,boxP,h1,h24,h25,hlt',hx,List.length_map]
 ·have hie:i=g.ins.length:=by omega
  subst hie
  rw[List.take_length] at hall
  rw[if_pos hall]
  have hlt':¬(g.ins.length:Int) < g.ins.length:=by omega
  have w1:IntKind.i64.wrap ((g.ins.length:Int) - 1)=((g.ins.length - 1:Nat):Int):=by rw[w64 _ (by omega)]; omega
  have hb:((g.ins.length - 1:Nat):Int) < g.ins.length:=by omega
  obtain⟨x,hx⟩:∃x,g.ins[g.ins.length - 1]?=some x:=⟨_,List.getElem?_eq_getElem (by omega)⟩
  have hlo:lastOp g=x.op:=by unfold lastOp; rw[hx]
  rw[hlo]
  simp only[zX,simprocAttr,i64,bV,iD,bD,boxP,h1,h24,h25,hlt',w1,hb,hx,Ins.cells,List.length_map]
  have hxo:=List.all_eq_true.1 hall x (List.mem_of_getElem? hx)
  by_cases o0:x.op=0
  ·rw[if_neg (by omega)]
   have o0':=eq_true o0
   simp only[zX,simprocAttr,i64,bV,iD,bD,o0']
  by_cases o2:x.op=2
  ·rw[if_neg (by omega)]
   have o2':=eq_true o2
   simp only[zX,simprocAttr,i64,bV,iD,bD,o0,o2']
  by_cases o3:x.op=3
  ·rw[if_neg (by omega)]
   have o3':=eq_true o3
   simp only[zX,simprocAttr,i64,bV,iD,bD,o0,o2,o3']
  have h14:x.op=1∨4≤x.op:=by
   by_cases o1:x.op=1
   ·exact .inl o1
   by_cases o4:x.op=4
   ·exact .inr (by omega)
   by_cases o5:x.op=5
   ·exact .inr (by omega)
   unfold insB opOk at hxo
   simp [o0,o1,o2,o3,o4,o5] at hxo
  rw[if_pos h14]
  simp only[zX,simprocAttr,i64,bV,iD,bD,o0,o2,o3]
theorem start_err (g:Prg) (t:List Int) (hs:g.ins.length≤1000000000) (hl:∀x∈g.ins,x.set.length≤1000000000) (h:prgE g≠0∨65536 < t.length):PureOK prog 34 [prgV g,.d (intsD t)] (.tu [.d (.sc (.pointer none)),i64 (if prgE g≠0 then prgE g else 4)]):=by
 have hv:=progValid_ok g hs hl
 generalize prgE g=E at *
 simp only[prgV_eq,i64,iD,bD] at hv
 by_cases he:E=0
 ·have he':=eq_true he
  have ht:(65536:Int) < t.length:=by omega
  rw[if_neg (fun h=>h he)]
  refine fn_ok func34 rfl ntmps34 results34 rfl 0 119 (by simp) (by simp) ?_
  simp only[zX,simprocAttr,i64,bV,iD,bD,prgV_eq]
  refine call_pure hv rfl rfl ?_
  simp only[zX,simprocAttr,i64,bV,iD,bD,prgV_eq,he',ht,intsD,List.length_map,ne_eq,not_true_eq_false,decide_false]
 ·rw[if_pos he]
  refine fn_ok func34 rfl ntmps34 results34 rfl 0 119 (by simp) (by simp) ?_
  simp only[zX,simprocAttr,i64,bV,iD,bD,prgV_eq]
  refine call_pure hv rfl rfl ?_
  simp only[zX,simprocAttr,i64,bV,iD,bD,prgV_eq,he,ne_eq,not_false_eq_true,decide_true]
theorem start_own (g:Prg) (t:List Int) (hg:g.good) (hl:∀x∈g.ins,x.set.length≤1000000000) (h:prgE g=0) (ht:t.length≤65536):callWp prog 34 [prgV g,.d (intsD t)] [] fun v s=>v=.tu [.rf 0 1 0 0,i64 0]∧s=[mkO0 g t,mkO1 (List.replicate g.ins.length 0)]:=by
 have hgl:=hg.len1
 have hv:=progValid_ok g (by omega) hl
 rw[h] at hv
 simp only[prgV_eq,i64,iD,bD] at hv
 have ht':¬(65536:Int) < t.length:=by omega
 refine fn_own func34 rfl ntmps34 results34 rfl 0 119 (by simp) (by simp) ?_
 simp only[zX,simprocAttr,i64,bV,iD,bD,prgV_eq]
 refine call_pure hv rfl rfl ?_
 simp only[zX,simprocAttr,i64,bV,iD,bD,prgV_eq,ht',intsD,List.length_map,ne_eq,not_true_eq_false,decide_false]
 refine draw_first Cln0.reserve ?_
 refine draw_first Cln0.reserve ?_
 refine draw_c mix [] [(5,[1],[1]),(7,[2],[2])] (by rfl) ?_
 simp only[zX,simprocAttr,i64,bV,iD,bD,prgV_eq,ht',intsD,List.length_map,hole,msAt,Qown,ownWp]
 refine⟨⟨by omega,by omega,by omega⟩,[2,1],by decide,rfl,?_⟩
 simp [selS,downO,downV.go,downV,List.idxOf?,List.findIdx?_cons,mkO0,mkO1,i64,bV,intsD,iD]
theorem call_start {g:Prg} {t:List Int} (hg:g.good) (hl:∀x∈g.ins,x.set.length≤1000000000) (h:prgE g=0) (ht:t.length≤65536) {s:List VL.Obj} {K:V→List VL.Obj→Prop}
  (hk:K (.tu [.rf s.length 1 0 0,i64 0]) (s++[pMach g t (s.length + 1) (pBegin g),mkO1 (List.replicate g.ins.length 0)])):callWp prog 34 [prgV g,.d (intsD t)] s K:=by
 refine call_frame_new (start_own g t hg hl h ht) [] rfl (by simp) (fun k o h=>by simp at h) (by simp [prgV_eq,renV,renV.go,i64,bV]) (by simp [prgV_eq,refsV,refsV.go,i64,bV]) rfl ?_
 rintro v s' ⟨rfl,rfl⟩ _
 have e1:renV (rhoN [] s [] [mkO0 g t,mkO1 (List.replicate g.ins.length 0)]) (.tu [.rf 0 1 0 0,i64 0])=.tu [.rf s.length 1 0 0,i64 0]:=by simp [rhoN,renV,renV.go,i64]
 have e2:renO (rhoN [] s [] [mkO0 g t,mkO1 (List.replicate g.ins.length 0)]) (mkO0 g t)=pMach g t (s.length + 1) (pBegin g):=by
  simp [rhoN,renO,mkO0,pMach,pBegin,renV,renV.go,i64,bV]
 have e3:renO (rhoN [] s [] [mkO0 g t,mkO1 (List.replicate g.ins.length 0)]) (mkO1 (List.replicate g.ins.length 0))=mkO1 (List.replicate g.ins.length 0):=by
  simp [renO,mkO1,renV,renV.go,i64]
 rw[e1]
 simp only[List.length_nil,List.take_zero,List.drop_zero,List.map_nil,List.map_cons,e2,e3,putObjs]
 exact hk
theorem call_first (g:Prg) (hg:g.good) (t:List Int) (ht:t.length≤65536) (at_:Int) (ha0:0≤at_) (ha1:at_≤t.length) {s:List VL.Obj} {K:V→List VL.Obj→Prop} (h2:s[2]?=some (pMach g t 3 (pBegin g))) (h3:s[3]?=some (mkO1 (List.replicate g.ins.length 0)))
  (hk:∀m:List Int,K (.tu [(optM (run0 g t at_)).v,bV (run0 g t at_).isSome]) ((s.set 2 (pMach g t 3 (pBegin g))).set 3 (mkO1 m))):callWp prog 35 [.rf 2 1 0 0,i64 at_,i64 at_] s K:=by
 have h:=pfirst_ok g hg t ht at_ at_ ha0 ha1 ha1 (List.replicate g.ins.length 0) (by simp)
 rw[first_law g hg t at_ ha0] at h
 have e0:renO [2,3] (mkO0 g t)=pMach g t 3 (pBegin g):=by simp [renO,mkO0,pMach,pBegin,renV,renV.go,i64,bV]
 have e1:∀m,renO [2,3] (mkO1 m)=mkO1 m:=fun m=>by simp [renO,mkO1,renV,renV.go,i64]
 have hm1:∀m,objOk 2 (mkO1 m)=true:=fun m=>by
  unfold objOk
  rw[List.all_eq_true]
  intro e he
  obtain⟨c,hc,rfl⟩:=List.mem_map.1 he
  rfl
 have hm0:objOk 2 (mkO0 g t)=true:=by simp [objOk,mkO0,refsV,i64,bV]
 refine call_map [2,3] h (by decide) (by rfl) ?_ (by rfl) (by rfl) ?_ (r':=.tu [(optM (run0 g t at_)).v,bV (run0 g t at_).isSome]) ?_ ?_
 ·simp only[List.map_cons,List.map_nil,h2,h3,e0,e1]
 ·simp only[List.all_cons,List.all_nil,List.length_cons,List.length_nil,Nat.zero_add,Nat.reduceAdd,hm0,hm1,Bool.and_true]
 ·simp [renV,renV.go,Mat.v,i64,bV]
 ·simp only[List.map_cons,List.map_nil,e0,e1]
  exact hk _
theorem pikeRun_ok (g:Prg) (hs:g.ins.length≤1000000000) (hl:∀x∈g.ins,x.set.length≤1000000000) (t:List Int) (ht:t.length≤1000000000) (at_:Int):PureOK prog 11 [prgV g,.d (intsD t),i64 at_] (.tu [(optM (runE g t at_).1).v,bV (runE g t at_).1.isSome,i64 (runE g t at_).2]):=by
 by_cases hE:prgE g≠0∨65536 < t.length
 ·have hse:=start_err g t hs hl hE
  have hr:runE g t at_=(none,if prgE g≠0 then prgE g else 4):=by
   unfold runE chkE
   by_cases h0:prgE g≠0
   ·rw[if_pos h0,if_neg h0]; try rw[if_pos h0]
   ·rw[if_neg h0,if_neg h0,if_pos (hE.resolve_left h0)]; rfl
  rw[hr]
  have hne:(if prgE g≠0 then prgE g else 4)≠0:=by split <;> omega
  generalize (if prgE g≠0 then prgE g else 4)=E at *
  simp only[prgV_eq,i64,iD,bD] at hse
  refine fn_ok func11 rfl ntmps11 results11 rfl 0 8143 (by simp) (by simp) ?_
  simp only[zX,simprocAttr,i64,bV,iD,bD,prgV_eq]
  refine call_pure hse rfl rfl ?_
  simp only[zX,simprocAttr,i64,bV,iD,bD,prgV_eq,hne,ne_eq,not_false_eq_true,decide_true]
  rfl
 ·have hp0:prgE g=0:=by
   by_cases h:prgE g=0
   ·exact h
   ·exact(hE (.inl h)).elim
  have ht2:t.length≤65536:=by omega
  have hg:g.good:=good_of hp0
  have hck:chkE g t at_=if at_ < 0∨(t.length:Int) < at_ then 5 else 0:=by
   unfold chkE; rw[if_neg (fun h=>h hp0),if_neg (by omega)]
  refine fn_ok func11 rfl ntmps11 results11 rfl 0 8143 (by simp) (by simp) ?_
  simp only[zX,simprocAttr,i64,bV,iD,bD,prgV_eq]
  refine call_start hg hl hp0 ht2 ?_
  simp only[List.length_cons,List.length_nil,List.cons_append,List.nil_append,Nat.zero_add,Nat.reduceAdd]
  by_cases a0:at_ < 0
  ·have hr:runE g t at_=(none,5):=by
    have hck':chkE g t at_=5:=by rw[hck,if_pos (.inl a0)]
    unfold runE; rw[hck',if_neg (by decide)]
   rw[hr]
   simp only[zX,simprocAttr,i64,bV,iD,bD,prgV_eq,a0,ne_eq,not_true_eq_false,decide_false]
   rfl
  by_cases a1:(t.length:Int) < at_
  ·have hr:runE g t at_=(none,5):=by
    have hck':chkE g t at_=5:=by rw[hck,if_pos (.inr a1)]
    unfold runE; rw[hck',if_neg (by decide)]
   rw[hr]
   simp only[zX,simprocAttr,i64,bV,iD,bD,prgV_eq,a0,a1,intsD,List.length_map,ne_eq,not_true_eq_false,decide_false]
   rfl
  have hr:runE g t at_=(run0 g t at_,0):=by
   have hck':chkE g t at_=0:=by rw[hck,if_neg (by omega)]
   unfold runE; rw[if_pos hck']
  rw[hr]
  simp only[zX,simprocAttr,i64,bV,iD,bD,prgV_eq,a0,a1,intsD,List.length_map,ne_eq,not_true_eq_false,decide_false]
  refine call_first g hg t ht2 at_ (by omega) (by omega) rfl rfl ?_
  intro m
  simp only[zX,simprocAttr,i64,bV,iD,bD,prgV_eq,Mat.v]
end Go.Proofs.Ytdofoappodmcoaa
