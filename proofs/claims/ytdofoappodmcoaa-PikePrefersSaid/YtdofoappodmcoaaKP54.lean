/- A part of the proof (K48 K49 K50 K51). -/
import Derived.Test.YtdofoappodmcoaaKP7
import Derived.Test.YtdofoappodmcoaaKP45
set_option linter.unusedSimpArgs false
set_option linter.unusedVariables false
set_option maxRecDepth 100000
set_option maxHeartbeats 80000000
namespace Go.Proofs.Ytdofoappodmcoaa
open Go.VL Go.Proofs.Try
def thT2 (en:Int):VL.Obj:=⟨0,true,1,[[i64 en]]⟩
def thT3 (σ:List Int):VL.Obj:=⟨0,true,1,[[.so 4 σ.length 0 σ.length]]⟩
def thT4 (σ:List Int):VL.Obj:=⟨σ.length,true,1,σ.map fun x=>[i64 x]⟩
theorem thT4_ok (n:Nat) (σ:List Int):objOk n (thT4 σ)=true:=by
 unfold objOk thT4
 rw[List.all_eq_true]
 intro e he
 obtain⟨c,hc,rfl⟩:=List.mem_map.1 he
 rfl
theorem boxP_ok (n:Nat) (g:Prg):objOk n (boxP g)=true:=by simp [objOk,boxP,refsV,i64,bV]
theorem pMach_all (n:Nat) (h:2≤n) (g:Prg) (t:List Int) (st:PSt):objOk n (pMach g t 1 st)=true:=by
 simp [objOk,pMach,refsV,i64,bV]; omega
theorem thT3_ok (n:Nat) (h:5≤n) (σ:List Int):objOk n (thT3 σ)=true:=by simp [objOk,thT3,refsV]; omega
theorem thT2_ok (n:Nat) (en:Int):objOk n (thT2 en)=true:=by simp [objOk,thT2,refsV,i64]
theorem objs7 {n:Nat} (h:5≤n) (g:Prg) (t:List Int) (st:PSt) (σ:List Int):(((pMach g t 1 st).els.all fun e=>e.all (refsV n))&&(((pMarks st).els.all fun e=>e.all (refsV n))&&(((thT3 σ).els.all fun e=>e.all (refsV n))&&(((thT4 σ).els.all fun e=>e.all (refsV n))&&(((boxP g).els.all fun e=>e.all (refsV n))&&(pArr st).els.all fun e=>e.all (refsV n))))))=true:=by
 have h1:=pMach_all n (by omega) g t st
 have h2:=pMarks_ok n st
 have h3:=pArr_ok n st
 have h4:=boxP_ok n g
 have h5:=thT4_ok n σ
 have h6:=thT3_ok n h σ
 unfold objOk at h1 h2 h3 h4 h5 h6
 rw[h1,h2,h3,h4,h5,h6]; rfl
theorem thr1_ok (g:Prg) (t:List Int) (en i:Int) (st:PSt) (hst:st.ok g) (hn:st.n≤100000) :
  callWp prog 39 [i64 i,.so 6 st.gen 0 st.n,.rf 2 0 0 0,.rf 3 0 0 0] [pMach g t 1 st,pMarks st,thT2 en,thT3 [],thT4 [],boxP g,pArr st] fun v s =>
   v=bV (decide (i < en))∧s=[pMach g t 1 st,pMarks st,thT2 en,thT3 (if i < en then [] else st.list.map PTh.insn),thT4 (if i < en then [] else st.list.map PTh.insn),boxP g,pArr st]:=by
 have hgA:(pArr st).g=st.gen:=rfl
 have hzA:(pArr st).sz=3:=rfl
 have hnl:=hst.n
 have hM:=pMach_all 7 (by omega) g t st
 have hK:=pMarks_ok 7 st
 have hA:=pArr_ok 7 st
 have hB:=boxP_ok 7 g
 have hT:=fun σ=>thT4_ok 7 σ
 unfold objOk at hM hK hA hB hT
 by_cases c:i < en
 ·rw[if_pos c]
  refine fn_ok func39 rfl ntmps39 results39 rfl 7 29007 (by simp) (by simp) ?_
  simp only[zX,simprocAttr,i64,bV,thT2,c]
  exact objs7 (by omega) g t st []
 ·rw[if_neg c]
  obtain⟨L,hL⟩:∃L,L=st.list.map PTh.insn:=⟨_,rfl⟩
  have hLl:L.length=st.n:=by rw[hL]; unfold PSt.list; simp; omega
  rw[← hL]
  refine fn_ok func39 rfl ntmps39 results39 rfl 7 29007 (by simp) (by simp) ?_
  simp only[zX,simprocAttr,i64,bV,thT2,c,hgA]
  refine loop_rule (fun n e s=>∃j:Nat,n=st.n - j∧j≤st.n∧e 3=.rf 3 0 0 0∧e 12=.so 6 st.gen 0 st.n∧e 13=i64 st.n∧e 14=i64 j ∧
   s=[pMach g t 1 st,pMarks st,thT2 en,thT3 (L.take j),thT4 (L.take j),boxP g,pArr st]) ⟨_,_,_,Cln.refl,0,rfl,by omega,rfl,rfl,rfl,rfl,rfl⟩ ?_
  rintro n e s ⟨j,rfl,hj,h3,h12,h13,h14,rfl⟩
  rcases Nat.lt_or_ge j st.n with hlt | hge
  ·have hlt':(j:Int) < st.n:=by omega
   obtain⟨x,hx⟩:∃x,st.arr[j]?=some x:=⟨_,List.getElem?_eq_getElem (by omega)⟩
   have hgetA:(pArr st).els[j]?=some [V.d (iD x.insn),V.d (iD x.from_),V.d (intsD x.regs)]:=by simp [pArr,hx,PTh.cells]
   have hLx:L[j]?=some x.insn:=by rw[hL,List.getElem?_map]; unfold PSt.list; rw[List.getElem?_take,if_pos hlt,hx]; rfl
   have hll:(L.take j).length=j:=by rw[List.length_take]; omega
   have hl2:(L.take (j + 1)).length=j + 1:=by rw[List.length_take]; omega
   simp only[zX,simprocAttr,i64,bV,iD,bD,h3,h12,h13,h14,hlt',hgA,hzA,hgetA,thT3,thT4,hll,Nat.zero_add,List.length_map]
   have hT3:=fun (n:Nat) (h:5≤n)=>thT3_ok n h (L.take (j + 1))
   refine⟨fun e he=>by rw[List.mem_singleton.1 he]; rfl,⟨by omega,by omega⟩,st.n - (j + 1),_,_,by omega,Cln.cut (s':=[pMach g t 1 st,pMarks st,thT2 en,thT3 (L.take (j + 1)),thT4 (L.take (j + 1)),boxP g,pArr st]) 7 (by omega) ?_ ?_ [3,12,13,14] ?_,j + 1,rfl,hlt,?_,?_,?_,?_,rfl⟩ <;> (try simp only[zU,Nat.reduceBEq,Nat.reduceShiftRight,Nat.reduceMod,Nat.reduceEqDiff,reduceIte])
   ·simp only[List.take_succ_cons,List.take_zero,thT3,thT4,hl2]
    rw[take_get hLx,List.take_of_length_le (by simp; omega)]
    simp [thT2,i64]
   ·simp only[List.all_cons,List.all_nil,thT4_ok,boxP_ok,pMarks_ok,pArr_ok,pMach_all 7 (by omega),hT3 7 (by omega),thT2_ok,Bool.and_true]
   ·simp [updE,trimE_app,refsV,h3,h12,h13,i64]
   ·exact h3
   ·exact h12
   ·exact h13
   ·rw[w64 _ (by omega)]; rfl
  ·have hje:j=st.n:=by omega
   subst hje
   have hlt':¬(st.n:Int) < st.n:=by omega
   have htk:L.take st.n=L:=List.take_of_length_le (by omega)
   simp only[zX,simprocAttr,i64,bV,h3,h12,h13,h14,hlt',htk]
   exact⟨objs7 (by omega) g t st L,rfl⟩
def thrSee (g:Prg) (en:Int):See (List Int) where
 T2:=fun _=>thT2 en
 T3:=thT3
 T4:=thT4
 T5:=fun _=>boxP g
 f:=39
 caps:=[.rf 2 0 0 0,.rf 3 0 0 0]
 F:=fun σ i l=>if i < en then σ else σ++l.map PTh.insn
 B:=fun _ i _=>decide (i < en)
theorem thT4_map (σ:List Int) (f:VL.Obj→VL.Obj) (hf:∀(gg:Nat) (b:Bool) (z:Nat) (l:List (List D)),f ⟨gg,b,z,l.map fun c=>c.map V.d⟩=⟨gg,b,z,l.map fun c=>c.map V.d⟩):f (thT4 σ)=thT4 σ:=by
 have e:thT4 σ=⟨σ.length,true,1,(σ.map fun x=>[iD x]).map fun c=>c.map V.d⟩:=by simp [thT4,iD,i64]
 rw[e]; exact hf _ _ _ _
theorem renO_data (ρ:List Nat) (gg:Nat) (b:Bool) (z:Nat) (l:List (List D)):renO ρ ⟨gg,b,z,l.map fun c=>c.map V.d⟩=⟨gg,b,z,l.map fun c=>c.map V.d⟩:=by
 unfold renO
 rw[List.map_map]
 congr 1
 exact List.map_congr_left fun c _=>renV_go_data _ c
theorem downO_data (ρ:List Nat) (gg:Nat) (b:Bool) (z:Nat) (l:List (List D)):downO ρ ⟨gg,b,z,l.map fun c=>c.map V.d⟩=⟨gg,b,z,l.map fun c=>c.map V.d⟩:=by
 unfold downO
 rw[List.map_map]
 congr 1
 exact List.map_congr_left fun c _=>downV_go_data _ c
theorem thrSee_ok (g:Prg) (t:List Int) (en:Int):(thrSee g en).ok g t (fun σ=>σ=[]):=by
 refine⟨fun σ a=>?_,fun σ n hn=>?_,fun n hn=>?_,fun σ=>?_,by rfl,fun a=>by rfl,fun σ i l h hB=>?_,fun σ i st h h0 h1 hst hth hn=>?_⟩
 ·have e:=thT4_map σ (renO [0,1,2,3,4,5,a]) (renO_data _)
  simp only[See.objs,thrSee,List.map_cons,List.map_nil,e]
  simp [renO,renV.go,renV,thT2,thT3,boxP,i64,bV]
 ·simp only[See.objs,thrSee,List.all_cons,List.all_nil,thT4_ok,boxP_ok,Bool.and_true]
  simp [objOk,thT2,thT3,refsV,i64]; omega
 ·simp [thrSee,refsV.go,refsV]; omega
 ·have e:=thT4_map σ (downO [0,1,2,3,4,5,6,7,8,9,10,12,11]) (downO_data _)
  simp only[See.objs,thrSee,List.map_cons,List.map_nil,e]
  simp [downO,downV.go,downV,thT2,thT3,boxP,i64,bV,List.idxOf?,List.findIdx?_cons]
 ·subst h
  have:i < en:=of_decide_eq_true hB
  show (if i < en then [] else _)=[]
  rw[if_pos this]
 ·subst h
  have:=thr1_ok g t en i st hst hn
  simpa [See.objs,thrSee] using this
def pThr (g:Prg) (t:List Int) (at_ en:Int):List Int × List Int:=pLoop (thrSee g en) g t at_ (t.length + 1) at_ false (pBegin g) ([],0) []
theorem call_thr (g:Prg) (hg:g.good) (t:List Int) (ht:t.length≤65536) (at_ en:Int) (ha0:0≤at_) (ha1:at_≤t.length) {K:V→List VL.Obj→Prop}
  (hk:∀m:List Int,K (.tu []) [boxP g,thT2 en,pMach g t 3 (pBegin g),mkO1 m,⟨0,true,1,[[.so 5 (pThr g t at_ en).2.length 0 (pThr g t at_ en).2.length]]⟩,thT4 (pThr g t at_ en).2]) :
  callWp prog 38 [.rf 2 1 0 0,i64 at_,i64 at_,.cl (.func 39) [] [.rf 1 0 0 0,.rf 4 0 0 0]] [boxP g,thT2 en,pMach g t 3 (pBegin g),mkO1 (List.replicate g.ins.length 0),⟨0,true,1,[[.so 5 0 0 0]]⟩,⟨0,true,1,[]⟩] K:=by
 have h:=prun_ok (thrSee g en) g hg t ht (fun σ=>σ=[]) (thrSee_ok g t en) at_ at_ ha0 ha1 ha1 [] rfl (List.replicate g.ins.length 0) (by simp)
 have e0:renO [2,3,1,4,5,0] (mkO0 g t)=pMach g t 3 (pBegin g):=by simp [renO,mkO0,pMach,pBegin,renV,renV.go,i64,bV]
 have e1:∀m,renO [2,3,1,4,5,0] (mkO1 m)=mkO1 m:=fun m=>by simp [renO,mkO1,renV,renV.go,i64]
 have e3:∀σ:List Int,renO [2,3,1,4,5,0] (thT3 σ)=⟨0,true,1,[[.so 5 σ.length 0 σ.length]]⟩:=fun σ=>by simp [renO,thT3,renV,renV.go]
 have e4:∀σ:List Int,renO [2,3,1,4,5,0] (thT4 σ)=thT4 σ:=fun σ=>thT4_map σ (renO _) (renO_data _)
 have e2:renO [2,3,1,4,5,0] (thT2 en)=thT2 en:=by simp [renO,thT2,renV,renV.go,i64]
 have e5:renO [2,3,1,4,5,0] (boxP g)=boxP g:=by simp [renO,boxP,renV,renV.go,i64,bV]
 have hm1:∀m,objOk 6 (mkO1 m)=true:=fun m=>by
  unfold objOk
  rw[List.all_eq_true]
  intro e he
  obtain⟨c,hc,rfl⟩:=List.mem_map.1 he
  rfl
 have hm0:objOk 6 (mkO0 g t)=true:=by simp [objOk,mkO0,refsV,i64,bV]
 unfold pThr at hk
 generalize pLoop (thrSee g en) g t at_ (t.length + 1) at_ false (pBegin g) ([],0) []=R at *
 obtain⟨mk,σ⟩:=R
 simp only[See.objs,thrSee] at h
 refine call_map [2,3,1,4,5,0] h (by decide) (by rfl) ?_ ?_ ?_ ?_ (r':=.tu []) ?_ ?_
 ·simp only[List.map_cons,List.map_nil,e0,e1,e2,e3,e4,e5]
  simp [thT4]
 ·simp [renV,renV.go,i64]
 ·simp [refsV,refsV.go,i64]
 ·simp only[List.all_cons,List.all_nil,List.length_cons,List.length_nil,Nat.zero_add,Nat.reduceAdd,hm0,hm1,thT4_ok,boxP_ok,Bool.and_true,Bool.true_and]
  simp [objOk,thT2,thT3,refsV,i64]
 ·simp [renV,renV.go]
 ·simp only[List.map_cons,List.map_nil,e0,e1,e2,e3,e4,e5]
  exact hk mk
def thrE (g:Prg) (t:List Int) (at_ en:Int):List Int × Int :=
 if prgE g≠0 then ([],prgE g) else if 65536 < t.length then ([],4) else if at_ < 0∨en < at_∨(t.length:Int) < en then ([],5) else ((pThr g t at_ en).2,0)
theorem pThreads_ok (g:Prg) (hs:g.ins.length≤1000000000) (hl:∀x∈g.ins,x.set.length≤1000000000) (t:List Int) (ht:t.length≤1000000000) (at_ en:Int):PureOK prog 16 [prgV g,.d (intsD t),i64 at_,i64 en] (.tu [.d (intsD (thrE g t at_ en).1),i64 (thrE g t at_ en).2]):=by
 by_cases hE:prgE g≠0∨65536 < t.length
 ·have hse:=start_err g t hs hl hE
  have hr:thrE g t at_ en=([],if prgE g≠0 then prgE g else 4):=by
   unfold thrE
   by_cases h0:prgE g≠0
   ·rw[if_pos h0,if_pos h0]
   ·rw[if_neg h0,if_neg h0,if_pos (hE.resolve_left h0)]
  rw[hr]
  have hne:(if prgE g≠0 then prgE g else 4)≠0:=by split <;> omega
  generalize (if prgE g≠0 then prgE g else 4)=E at *
  simp only[prgV_eq,i64,iD,bD] at hse
  refine fn_ok func16 rfl ntmps16 results16 rfl 0 8095 (by simp) (by simp) ?_
  simp only[zX,simprocAttr,i64,bV,iD,bD,prgV_eq]
  refine call_pure hse rfl rfl ?_
  simp only[zX,simprocAttr,i64,bV,iD,bD,prgV_eq,hne,ne_eq,not_false_eq_true,decide_true]
  all_goals first | exact⟨rfl,rfl⟩ | exact⟨rfl,trivial⟩ | rfl | trivial | (rw[reV_eq]; rfl)
 ·have hp0:prgE g=0:=by
   by_cases h:prgE g=0
   ·exact h
   ·exact(hE (.inl h)).elim
  have ht2:t.length≤65536:=by omega
  have hg:g.good:=good_of hp0
  have hck:thrE g t at_ en=if at_ < 0∨en < at_∨(t.length:Int) < en then ([],5) else ((pThr g t at_ en).2,0):=by
   unfold thrE; rw[if_neg (fun h=>h hp0),if_neg (by omega)]
  refine fn_ok func16 rfl ntmps16 results16 rfl 0 8095 (by simp) (by simp) ?_
  simp only[zX,simprocAttr,i64,bV,iD,bD,prgV_eq]
  refine call_start hg hl hp0 ht2 ?_
  simp only[List.length_cons,List.length_nil,List.cons_append,List.nil_append,Nat.zero_add,Nat.reduceAdd]
  by_cases a0:at_ < 0
  ·rw[hck,if_pos (.inl a0)]
   simp only[zX,simprocAttr,i64,bV,iD,bD,prgV_eq,a0,ne_eq,not_true_eq_false,decide_false]
   all_goals first | exact⟨rfl,rfl⟩ | exact⟨rfl,trivial⟩ | rfl | trivial | (rw[reV_eq]; rfl)
  by_cases a1:en < at_
  ·rw[hck,if_pos (.inr (.inl a1))]
   simp only[zX,simprocAttr,i64,bV,iD,bD,prgV_eq,a0,a1,ne_eq,not_true_eq_false,decide_false,gt_iff_lt]
   all_goals first | exact⟨rfl,rfl⟩ | exact⟨rfl,trivial⟩ | rfl | trivial | (rw[reV_eq]; rfl)
  by_cases a2:(t.length:Int) < en
  ·rw[hck,if_pos (.inr (.inr a2))]
   simp only[zX,simprocAttr,i64,bV,iD,bD,prgV_eq,a0,a1,a2,intsD,List.length_map,ne_eq,not_true_eq_false,decide_false,gt_iff_lt]
   all_goals first | exact⟨rfl,rfl⟩ | exact⟨rfl,trivial⟩ | rfl | trivial | (rw[reV_eq]; rfl)
  rw[hck,if_neg (by omega)]
  have hcall:=fun K hk=>call_thr g hg t ht2 at_ en (by omega) (by omega) (K:=K) hk
  simp only[zX,simprocAttr,i64,bV,iD,bD,prgV_eq,a0,a1,a2,intsD,List.length_map,ne_eq,not_true_eq_false,decide_false,gt_iff_lt]
  refine call_reserve (pre:=[]) (post:=[]) 4 1 rfl rfl rfl ?_
  simp only[List.set_cons_zero,List.set_cons_succ,List.length_cons,List.length_nil,List.cons_append,List.nil_append,Nat.zero_add,Nat.reduceAdd]
  refine hcall _ (fun m=>?_)
  generalize (pThr g t at_ en).2=A
  simp only[zX,simprocAttr,i64,bV,iD,bD,thT4]
  have hA:(A.map fun x=>[V.d (.sc (.int .i64 x))])=(A.map fun x=>[D.sc (.int .i64 x)]).map fun c=>c.map V.d:=by simp
  rw[hA,frz_data 7 0 _ _ _ (by simp),if_pos (by omega)]
  rfl
end Go.Proofs.Ytdofoappodmcoaa
namespace Go.Proofs.Ytdofoappodmcoaa
open Go.VL Go.Proofs.Try
def gLive:Prg:=⟨[⟨2,1,3,0,[]⟩,⟨1,0,0,0,[(97,97)]⟩,⟨3,5,0,0,[]⟩,⟨1,0,0,0,[(97,97)]⟩,⟨1,0,0,0,[(98,98)]⟩,⟨0,0,0,0,[]⟩],0,false⟩
theorem live_thr0:thrE gLive [97,98] 0 0=([1,3],0):=by decide +kernel
theorem live_thr1:thrE gLive [97,98] 0 1=([5],0):=by decide +kernel
theorem live_run:runE gLive [97,98] 0=(some ⟨0,1,[]⟩,0):=by decide +kernel
theorem lives11_ok:PureOK prog 15 [] (bV true):=by
 have hls:∀x∈gLive.ins,x.set.length≤1000000000:=by
  intro x hx
  simp only[gLive,List.mem_cons,List.not_mem_nil,or_false] at hx
  rcases hx with rfl | rfl | rfl | rfl | rfl | rfl <;> simp
 have h1:=pThreads_ok gLive (by simp [gLive]) hls [97,98] (by simp) 0 0
 have h2:=pThreads_ok gLive (by simp [gLive]) hls [97,98] (by simp) 0 1
 have h3:=pikeRun_ok gLive (by simp [gLive]) hls [97,98] (by simp) 0
 have s1:=sameInts_ok [1,3] [1,3] (by simp)
 have s2:=sameInts_ok [5] [5] (by simp)
 rw[live_thr0] at h1
 rw[live_thr1] at h2
 rw[live_run] at h3
 rw[decide_eq_true rfl] at s1 s2
 simp only[prgV_eq,gLive,List.map_cons,List.map_nil,Ins.cells,spanC,iD,bD,i64,bV,intsD,optM,Mat.v,Option.getD_some,Option.isSome_some,capD] at h1 h2 h3 s1 s2
 refine fn_ok func15 rfl ntmps15 results15 rfl 0 2047 (by simp) (by simp) ?_
 simp only[zX,simprocAttr,i64,bV,iD,bD]
 refine call_give [] (by rfl) (call_pure h1 rfl rfl ?_)
 simp only[zX,simprocAttr,killO,i64,bV,iD,bD]
 refine call_give [] (by rfl) (call_pure h2 rfl rfl ?_)
 simp only[zX,simprocAttr,killO,i64,bV,iD,bD]
 refine call_give [] (by rfl) (call_pure h3 rfl rfl ?_)
 simp only[zX,simprocAttr,killO,i64,bV,iD,bD]
 refine call_give [] (by rfl) (call_pure s1 rfl rfl ?_)
 simp only[zX,simprocAttr,killO,i64,bV,iD,bD]
 refine call_give [] (by rfl) (call_pure s2 rfl rfl ?_)
 simp only[zX,simprocAttr,killO,i64,bV,iD,bD]
end Go.Proofs.Ytdofoappodmcoaa
