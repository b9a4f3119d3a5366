/- A part of the proof (K33 K34 K35). -/
import Derived.Test.YtdofoappodmcoaaKP2
import Derived.Test.YtdofoappodmcoaaKP36
import Derived.Test.YtdofoappodmcoaaKP38
set_option linter.unusedSimpArgs false
set_option linter.unusedVariables false
set_option maxRecDepth 100000
set_option maxHeartbeats 80000000
namespace Go.Proofs.Ytdofoappodmcoaa
open Go.VL Go.Proofs.Try
abbrev FSt:=Bool × Option Mat
def fnil (σ:FSt):V:=if σ.1=true then .d (.sl []) else .fu []
def fT3 (σ:FSt):VL.Obj:=⟨0,true,3,[[i64 0,i64 0,fnil σ]]⟩
def fT4 (σ:FSt):VL.Obj:=match σ.2 with
 | none=>fT3 σ
 | some m=>⟨0,true,3,[[i64 m.s,i64 m.e,.d (capD m.c)]]⟩
def fT5 (σ:FSt):VL.Obj:=⟨0,true,1,[[bV σ.2.isSome]]⟩
def fF (g:Prg) (σ:FSt) (i:Int) (l:List PTh):FSt:=(true,match l[l.length - 1]? with
 | none=>σ.2
 | some x=>if (insAt g x.insn).op=0 then some ⟨x.from_,i,capsOf g.caps.toNat x.regs⟩ else σ.2)
def fObj (g:Prg) (t:List Int) (st:PSt) (σ:FSt):List VL.Obj:=[pMach g t 1 st,pMarks st,pMbox 0,fT3 σ,fT4 σ,fT5 σ,pArr st]
theorem frzO_data (lim:Nat) (s:List VL.Obj) (gg:Nat) (b:Bool) (z:Nat) (l:List (List D)):frzO lim s ⟨gg,b,z,l.map fun c=>c.map V.d⟩=some ⟨gg,b,z,l.map fun c=>c.map V.d⟩:=by
 have h1:∀c:List D,frzV.go lim s (c.map V.d)=some (c.map V.d):=by
  intro c
  induction c with
  | nil=>rfl
  | cons x c ih=>simp only[List.map_cons,frzV.go,frzV,ih]
 have h2:∀l:List (List D),(l.map fun c=>c.map V.d).mapM (frzV.go lim s)=some (l.map fun c=>c.map V.d):=by
  intro l
  induction l with
  | nil=>rfl
  | cons x l ih=>simp only[List.map_cons,List.mapM_cons,h1,ih]; rfl
 unfold frzO
 rw[h2]
 rfl
theorem frzO_marks (lim:Nat) (s:List VL.Obj) (st:PSt):frzO lim s (pMarks st)=some (pMarks st):=by
 have e1:pMarks st=⟨1,true,1,(st.marks.map fun x=>[iD x]).map fun c=>c.map V.d⟩:=by simp [pMarks,iD,i64]
 rw[e1]; exact frzO_data _ _ _ _ _ _
theorem frzO_arr (lim:Nat) (s:List VL.Obj) (st:PSt):frzO lim s (pArr st)=some (pArr st):=by
 have e2:pArr st=⟨st.gen,true,3,(st.arr.map PTh.cells).map fun c=>c.map V.d⟩:=by simp [pArr]
 rw[e2]; exact frzO_data _ _ _ _ _ _
theorem frzO_mach (s:List VL.Obj) (a:VL.Obj) (g:Prg) (t:List Int) (st:PSt):frzO 7 (a::pMarks st::s) (pMach g t 1 st)=some (pMach g t 1 st):=by
 simp [frzO,pMach,frzV.go,frzV,frzD,i64,bV,pMarks]
theorem frzO_mbox (s:List VL.Obj) (g:Prg) (t:List Int) (st:PSt):frzO 7 (pMach g t 1 st::s) (pMbox 0)=some (pMbox 0):=by
 simp [frzO,pMach,pMbox,frzV.go,frzV,frzD]
theorem frzO_T3 (lim:Nat) (s:List VL.Obj) (σ:FSt) (r:Option Mat):frzO lim s (fT3 σ)=some (fT3 (true,r)):=by
 obtain⟨b,o⟩:=σ
 cases b <;> simp [frzO,fT3,fnil,frzV.go,frzV,i64]
theorem frzO_T4 (lim:Nat) (s:List VL.Obj) (σ:FSt):frzO lim s (fT4 σ)=some (fT4 (true,σ.2)):=by
 obtain⟨b,o⟩:=σ
 cases o with
 | none=>exact frzO_T3 lim s (b,none) none
 | some m=>simp [frzO,fT4,frzV.go,frzV,i64]
theorem frzO_T5 (lim:Nat) (s:List VL.Obj) (σ:FSt):frzO lim s (fT5 σ)=some (fT5 σ):=by
 simp [frzO,fT5,frzV.go,frzV,bV]
theorem end7 {g:Prg} {t:List Int} {st:PSt} {σ τ:FSt} {o4:VL.Obj} {ext:List VL.Obj} {b:V} {K:V→List VL.Obj→Prop} (h4:frzO 7 (pMach g t 1 st::pMarks st::pMbox 0::fT3 σ::o4::fT5 τ::pArr st::ext) o4=some (fT4 τ)) (hτ:τ.1=true) (hb:∃x,b=.d x)
  (hk:K b (fObj g t st τ)):finFWp 7 (pMach g t 1 st::pMarks st::pMbox 0::fT3 σ::o4::fT5 τ::pArr st::ext) b K:=by
 obtain⟨x,rfl⟩:=hb
 obtain⟨tb,tm⟩:=τ
 simp only at hτ
 subst hτ
 have h3:=frzO_T3 7 (pMach g t 1 st::pMarks st::pMbox 0::fT3 σ::o4::fT5 (true,tm)::pArr st::ext) σ tm
 unfold finFWp
 simp only[List.take_succ_cons,List.take_zero,List.mapM_cons,List.mapM_nil,frzO_mach,frzO_marks,frzO_mbox,h3,h4,frzO_T5,frzO_arr,Option.bind_eq_bind,Option.bind_some,Option.pure_def,frzV]
 exact hk
def fArgs (i:Int) (st:PSt):List V:=[i64 i,.so 6 st.gen 0 st.n,.rf 2 0 0 0,.rf 5 0 0 0,.rf 4 0 0 0]
theorem fF_nil (g:Prg) (σ:FSt) (i:Int):fF g σ i []=(true,σ.2):=rfl
theorem list_last {st:PSt} {g:Prg} (hst:st.ok g) (h:st.n≠0):∃x,st.arr[st.n - 1]?=some x∧x∈st.list∧st.list[st.list.length - 1]?=some x:=by
 have hn:=hst.n
 obtain⟨x,hx⟩:∃x,st.arr[st.n - 1]?=some x:=⟨_,List.getElem?_eq_getElem (by omega)⟩
 have hl:st.list.length=st.n:=by unfold PSt.list; rw[List.length_take]; omega
 have h2:st.list[st.n - 1]?=some x:=by unfold PSt.list; rw[List.getElem?_take,if_pos (by omega)]; exact hx
 exact⟨x,hx,List.mem_of_getElem? h2,by rw[hl]; exact h2⟩
def pairsA (c i:Nat) (regs:List Int):VL.Obj:=⟨1,true,2,(List.range i).map (fun j=>[i64 (pairAt regs j).1,i64 (pairAt regs j).2])++List.replicate (c - i) [i64 0,i64 0]⟩
theorem app_get {α:Type} (l:List α) (z:α) {c j:Nat} (hl:l.length=j) (h:j < c):(l++List.replicate (c - j) z)[j]?=some z:=by
 rw[List.getElem?_append_right (by omega)]
 simp [List.getElem?_replicate,hl]
 omega
theorem app_set {α:Type} (l:List α) (z y:α) {c j:Nat} (hl:l.length=j) (h:j < c):(l++List.replicate (c - j) z).set j y=(l++[y])++List.replicate (c - (j + 1)) z:=by
 rw[List.set_append_right _ _ (by omega)]
 obtain⟨m,hm⟩:∃m,c - j=m + 1:=⟨c - j - 1,by omega⟩
 rw[hm,hl,Nat.sub_self,List.replicate_succ,List.set_cons_zero,List.append_assoc]
 have:c - (j + 1)=m:=by omega
 rw[this]
 rfl
def thO (x:PTh):VL.Obj:=⟨0,true,3,[x.cells.map V.d]⟩
theorem first1_ok (g:Prg) (hg:g.good) (t:List Int) (i:Int) (st:PSt) (σ:FSt) (hst:st.ok g) (hth:∀x∈st.list,x.ok g) (hn:st.n≤100000) :
  callWp prog 65 (fArgs i st) (fObj g t st σ) fun v s=>v=bV true∧s=fObj g t st (fF g σ i st.list):=by
 have hgl:=hg.len1
 have hgc:=hg.caps1
 have hgc0:=hg.caps0
 have hml:=hst.len
 have hnl:=hst.n
 have hgA:(pArr st).g=st.gen:=rfl
 have hzA:(pArr st).sz=3:=rfl
 by_cases z0:st.n=0
 ·have hz:=eq_true (show (st.n:Int)=0 by omega)
  have hl:st.list=[]:=by unfold PSt.list; rw[z0]; rfl
  rw[hl,fF_nil]
  obtain⟨τ,hτ⟩:∃τ:FSt,τ=(true,σ.2):=⟨_,rfl⟩
  have e5:fT5 σ=fT5 τ:=by rw[hτ]; rfl
  rw[← hτ]
  unfold fArgs fObj
  rw[e5]
  refine fn_frz func65 rfl ntmps65 results65 rfl 7 211106232536991 (by simp) (by simp) ?_
  simp only[zX,simprocAttr,i64,bV,iD,bD,hgA,hz,QfinF]
  refine end7 (σ:=σ) (τ:=τ) (ext:=[]) ?_ (by rw[hτ]) ⟨_,rfl⟩ ⟨rfl,rfl⟩
  rw[hτ]; exact frzO_T4 _ _ _
 obtain⟨x,hx,hxm,hxl⟩:=list_last hst z0
 have hxo:=hth x hxm
 have hp0:=hxo.p0
 have hp1:=hxo.p1
 have hxr:=hxo.regs
 have hins:=insAt_get hp0 hp1
 have z0':¬(st.n:Int)=0:=by omega
 have w1:IntKind.i64.wrap ((st.n:Int) - 1)=((st.n - 1:Nat):Int):=by rw[w64 _ (by omega)]; omega
 have hb1:((st.n - 1:Nat):Int) < st.n:=by omega
 have hgetA:(pArr st).els[st.n - 1]?=some [V.d (iD x.insn),V.d (iD x.from_),V.d (intsD x.regs)]:=by simp [pArr,hx,PTh.cells]
 by_cases o0:(insAt g x.insn).op=0
 ·have o0':=eq_true o0
  have hF:fF g σ i st.list=(true,some ⟨x.from_,i,capsOf g.caps.toNat x.regs⟩):=by unfold fF; rw[hxl]; simp only; rw[if_pos o0]
  rw[hF]
  obtain⟨C,hC⟩:∃C,C=capsOf g.caps.toNat x.regs:=⟨_,rfl⟩
  rw[← hC]
  unfold fArgs fObj
  refine fn_frz func65 rfl ntmps65 results65 rfl 7 211106232536991 (by simp) (by simp) ?_
  simp only[zX,simprocAttr,i64,bV,iD,bD,hgA,hzA,z0',w1,hb1,hgetA,QfinF,Nat.zero_add]
  refine draw_c mix [] [] (by rfl) ?_
  obtain⟨va,vb,vc,h4⟩:∃va vb vc,fT4 σ=⟨0,true,3,[[va,vb,vc]]⟩:=by
   unfold fT4 fT3
   cases σ.2 with
   | none=>exact⟨_,_,_,rfl⟩
   | some m=>exact⟨_,_,_,rfl⟩
  rw[h4]
  simp only[zX,simprocAttr,i64,bV,iD,bD,pMbox,pMach,hp0,hp1,hins,Ins.cells,o0',QfinF,List.length_map,fT5]
  refine draw_first Cln0.reserve ?_
  refine draw_c mix [] [(8,[8],[8]),(9,[4],[4]),(10,[4],[]),(11,[4],[4]),(12,[4],[]),(13,[4],[4]),(14,[4],[]),(15,[4],[4])] (by rfl) ?_
  simp only[zX,simprocAttr,i64,bV,iD,bD,pMbox,pMach,hp0,hp1,hins,Ins.cells,o0',QfinF,List.length_map,hole,msAt,Value.oneCell']
  obtain⟨c,hc⟩:∃c,c=g.caps.toNat:=⟨_,rfl⟩
  have hcc:(c:Int)=g.caps:=by omega
  refine⟨⟨by omega,Int.le_refl _,by omega,by omega⟩,?_⟩
  obtain⟨τ,hτ⟩:∃τ:FSt,τ=(true,some ⟨x.from_,i,C⟩):=⟨_,rfl⟩
  refine loop_rule (fun n e s=>∃j:Nat,n=c - j∧j≤c∧e 4=.rf 4 0 0 0∧e 8=.rf 7 0 0 0∧e 46=i64 c∧e 47=i64 j ∧
   s=[pMach g t 1 st,pMarks st,pMbox 0,fT3 σ,⟨0,true,3,[[i64 x.from_,i64 i,.so 8 1 0 c]]⟩,fT5 τ,pArr st,thO x,pairsA c j x.regs]) ?_ ?_
  ·refine⟨_,_,_,Cln.refl,0,rfl,by omega,?_,?_,?_,?_,?_⟩ <;> (try simp only[zU,Nat.reduceBEq,Nat.reduceShiftRight,Nat.reduceMod,Nat.reduceEqDiff,reduceIte])
   all_goals first | rfl | (rw[hc]; rfl) | (rw[← hc,hτ]; simp [pMach,pMbox,thO,pairsA,PTh.cells,i64,iD,bV,fT5]; done)
  rintro n e s ⟨j,rfl,hj,h4',h8,h46,h47,rfl⟩
  rcases Nat.lt_or_ge j c with hlt | hge
  ·have hlt':(j:Int) < c:=by omega
   have w1:IntKind.i64.wrap (2 * (j:Int))=((2 * j:Nat):Int):=by rw[w64 _ (by omega)]; omega
   have w2:IntKind.i64.wrap (((2 * j:Nat):Int) + 1)=((2 * j + 1:Nat):Int):=by rw[w64 _ (by omega)]; omega
   have c1:((2 * j + 1:Nat):Int) < (x.regs.length:Int):=by omega
   have c2:((2 * j:Nat):Int) < (x.regs.length:Int):=by omega
   have c3:(0:Int)≤((2 * j:Nat):Int):=by omega
   have c4:(0:Int)≤((2 * j + 1:Nat):Int):=by omega
   have g1:=getD_get (l:=x.regs) (i:=2 * j) (by omega)
   have g2:=getD_get (l:=x.regs) (i:=2 * j + 1) (by omega)
   have hP:pairAt x.regs j=if x.regs.getD (2 * j) 0=-1∨x.regs.getD (2 * j + 1) 0=-1 then (-1,-1) else (x.regs.getD (2 * j) 0,x.regs.getD (2 * j + 1) 0):=rfl
   generalize x.regs.getD (2 * j) 0=a at *
   generalize x.regs.getD (2 * j + 1) 0=b at *
   have hll:((List.range j).map (fun j=>[V.d (.sc (.int .i64 (pairAt x.regs j).1)),V.d (.sc (.int .i64 (pairAt x.regs j).2))])).length=j:=by simp
   have hget:=app_get _ [V.d (.sc (.int .i64 0)),V.d (.sc (.int .i64 0))] hll hlt
   have hset:=fun y=>app_set _ [V.d (.sc (.int .i64 0)),V.d (.sc (.int .i64 0))] y hll hlt
   simp only[zX,simprocAttr,i64,bV,iD,bD,h4',h8,h46,h47,hlt']
   refine draw_c mix [] [] (by rfl) ?_
   by_cases ha:a=-1
   ·have ha':=eq_true ha
    have hb':True:=trivial
    have hb:True:=trivial
    ·simp only[zX,simprocAttr,i64,bV,iD,bD,h4',h8,h46,h47,hlt',w1,w2,c1,c2,c3,c4,g1,g2,ha',hb',thO,PTh.cells,intsD,pairsA,hget,Nat.zero_add,Int.natCast_nonneg,Int.toNat_natCast,List.length_map]
     refine⟨c - (j + 1),_,_,by omega,Cln.refl,j + 1,rfl,hlt,?_,?_,?_,?_,?_⟩ <;> (try simp only[zU,Nat.reduceBEq,Nat.reduceShiftRight,Nat.reduceMod,Nat.reduceEqDiff,reduceIte])
     ·exact h4'
     ·exact h8
     ·exact h46
     ·rw[w64 _ (by omega)]; rfl
     ·rw[hset]; simp [thO,pairsA,PTh.cells,iD,i64,hP,ha,hb,List.range_succ,fT5,bV]
   ·have ha':=ha
    by_cases hb:b=-1
    ·have hb':=eq_true hb
     ·simp only[zX,simprocAttr,i64,bV,iD,bD,h4',h8,h46,h47,hlt',w1,w2,c1,c2,c3,c4,g1,g2,ha',hb',thO,PTh.cells,intsD,pairsA,hget,Nat.zero_add,Int.natCast_nonneg,Int.toNat_natCast,List.length_map]
      refine⟨c - (j + 1),_,_,by omega,Cln.refl,j + 1,rfl,hlt,?_,?_,?_,?_,?_⟩ <;> (try simp only[zU,Nat.reduceBEq,Nat.reduceShiftRight,Nat.reduceMod,Nat.reduceEqDiff,reduceIte])
      ·exact h4'
      ·exact h8
      ·exact h46
      ·rw[w64 _ (by omega)]; rfl
      ·rw[hset]; simp [thO,pairsA,PTh.cells,iD,i64,hP,ha,hb,List.range_succ,fT5,bV]
    ·have hb':=hb
     ·simp only[zX,simprocAttr,i64,bV,iD,bD,h4',h8,h46,h47,hlt',w1,w2,c1,c2,c3,c4,g1,g2,ha',hb',thO,PTh.cells,intsD,pairsA,hget,Nat.zero_add,Int.natCast_nonneg,Int.toNat_natCast,List.length_map]
      refine⟨c - (j + 1),_,_,by omega,Cln.refl,j + 1,rfl,hlt,?_,?_,?_,?_,?_⟩ <;> (try simp only[zU,Nat.reduceBEq,Nat.reduceShiftRight,Nat.reduceMod,Nat.reduceEqDiff,reduceIte])
      ·exact h4'
      ·exact h8
      ·exact h46
      ·rw[w64 _ (by omega)]; rfl
      ·rw[hset]; simp [thO,pairsA,PTh.cells,iD,i64,hP,ha,hb,List.range_succ,fT5,bV]
  ·have hje:j=c:=by omega
   subst hje
   have hlt':¬(j:Int) < j:=by omega
   simp only[zX,simprocAttr,i64,bV,iD,bD,h4',h8,h46,h47,hlt',QfinF]
   refine end7 (σ:=σ) (τ:=τ) (st:=st) (t:=t) (g:=g) (ext:=[thO x,pairsA j j x.regs]) ?_ (by rw[hτ]) ⟨_,rfl⟩ ⟨rfl,by rw[hτ]; rfl⟩
   obtain⟨S,hS⟩:∃S,S=pMach g t 1 st::pMarks st::pMbox 0::fT3 σ::⟨0,true,3,[[.d (.sc (.int .i64 x.from_)),.d (.sc (.int .i64 i)),.so 8 1 0 j]]⟩::fT5 τ::pArr st::[thO x,pairsA j j x.regs]:=⟨_,rfl⟩
   have hf:frzV 7 S (.so 8 1 0 j)=some (.d (capD C)):=by
    rw[frz_ownK (live:=true) (sz:=2) (els:=(pairsA j j x.regs).els) (ds:=C.map spanC) (by rw[hS]; rfl) ?_ ?_ (.inl (by omega))]
    ·rfl
    ·rw[hC,← hc]
     simp [pairsA,capsOf,iD,i64]
     rw[List.take_of_length_le (by simp)]
     exact List.map_congr_left fun a _=>rfl
    ·simp [pairsA]
   have hd:∀d,frzV 7 S (.d d)=some (.d d):=fun _=>rfl
   rw[← hS]
   simp only[frzO,List.mapM_cons,List.mapM_nil,frzV.go,hf,hd,i64]
   rw[hτ]
   rfl
 ·have hF:fF g σ i st.list=(true,σ.2):=by unfold fF; rw[hxl]; simp only; rw[if_neg o0]
  rw[hF]
  obtain⟨τ,hτ⟩:∃τ:FSt,τ=(true,σ.2):=⟨_,rfl⟩
  have e5:fT5 σ=fT5 τ:=by rw[hτ]; rfl
  rw[← hτ]
  unfold fArgs fObj
  rw[e5]
  refine fn_frz func65 rfl ntmps65 results65 rfl 7 211106232536991 (by simp) (by simp) ?_
  simp only[zX,simprocAttr,i64,bV,iD,bD,hgA,hzA,z0',w1,hb1,hgetA,QfinF,Nat.zero_add]
  refine draw_c mix [] [] (by rfl) ?_
  simp only[zX,simprocAttr,i64,bV,iD,bD,pMbox,pMach,hp0,hp1,hins,Ins.cells,o0,QfinF,List.length_map]
  refine end7 (σ:=σ) (τ:=τ) (st:=st) (t:=t) (g:=g) (o4:=fT4 σ) (ext:=[thO x]) ?_ (by rw[hτ]) ⟨_,rfl⟩ ⟨rfl,rfl⟩
  rw[hτ]; exact frzO_T4 _ _ _
def firstSee (g:Prg):See FSt where
 T2:=fun _=>pMbox 0
 T3:=fT3
 T4:=fT4
 T5:=fT5
 f:=65
 caps:=[.rf 2 0 0 0,.rf 5 0 0 0,.rf 4 0 0 0]
 F:=fun σ i l=>fF g σ i l
 B:=fun _ _ _=>true
theorem fT4_shape (σ:FSt):∃a b:Int,∃v:V,fT4 σ=⟨0,true,3,[[i64 a,i64 b,v]]⟩∧((∃d,v=.d d)∨v=.fu []):=by
 obtain⟨f,o⟩:=σ
 cases o with
 | none =>
  refine⟨0,0,fnil (f,none),rfl,?_⟩
  cases f
  ·exact .inr rfl
  ·exact .inl ⟨_,rfl⟩
 | some m=>exact⟨_,_,_,rfl,.inl ⟨_,rfl⟩⟩
theorem fT3_shape (σ:FSt):∃v:V,fT3 σ=⟨0,true,3,[[i64 0,i64 0,v]]⟩∧((∃d,v=.d d)∨v=.fu []):=by
 obtain⟨f,o⟩:=σ
 refine⟨fnil (f,o),rfl,?_⟩
 cases f
 ·exact .inr rfl
 ·exact .inl ⟨_,rfl⟩
theorem firstSee_ok (g:Prg) (hg:g.good) (t:List Int):(firstSee g).ok g t (fun _=>True):=by
 refine⟨fun σ a=>?_,fun σ n hn=>?_,fun n hn=>?_,fun σ=>?_,by rfl,fun a=>by rfl,fun _ _ _ h _=>h,fun σ i st _ h0 h1 hst hth hn=>first1_ok g hg t i st σ hst hth hn⟩
 ·obtain⟨a4,b4,v4,e4,h4⟩:=fT4_shape σ
  obtain⟨v3,e3,h3⟩:=fT3_shape σ
  simp only[See.objs,firstSee,e3,e4,fT5,pMbox]
  rcases h4 with ⟨d,rfl⟩ | rfl <;> rcases h3 with ⟨d',rfl⟩ | rfl <;> simp [renO,renV.go,renV,i64,bV]
 ·obtain⟨a4,b4,v4,e4,h4⟩:=fT4_shape σ
  obtain⟨v3,e3,h3⟩:=fT3_shape σ
  simp only[See.objs,firstSee,e3,e4,fT5,pMbox]
  rcases h4 with ⟨d,rfl⟩ | rfl <;> rcases h3 with ⟨d',rfl⟩ | rfl <;> simp [objOk,refsV.go,refsV,i64,bV] <;> omega
 ·simp [firstSee,refsV.go,refsV]; omega
 ·obtain⟨a4,b4,v4,e4,h4⟩:=fT4_shape σ
  obtain⟨v3,e3,h3⟩:=fT3_shape σ
  simp only[See.objs,firstSee,e3,e4,fT5,pMbox]
  rcases h4 with ⟨d,rfl⟩ | rfl <;> rcases h3 with ⟨d',rfl⟩ | rfl <;> simp [downO,downV.go,downV,i64,bV,List.idxOf?,List.findIdx?_cons]
def pFirst (g:Prg) (t:List Int) (at_ last:Int):List Int × FSt:=pLoop (firstSee g) g t last (t.length + 1) at_ false (pBegin g) ([],0) (false,none)
theorem pfirst_ok (g:Prg) (hg:g.good) (t:List Int) (ht:t.length≤65536) (at_ last:Int) (ha0:0≤at_) (ha1:at_≤t.length) (hl1:last≤t.length) (marks:List Int) (hm:marks.length=g.ins.length) :
  callWp prog 35 [.rf 0 1 0 0,i64 at_,i64 last] [mkO0 g t,mkO1 marks] fun v s =>
   v=.tu [(optM (pFirst g t at_ last).2.2).v,bV (pFirst g t at_ last).2.2.isSome]∧s=[mkO0 g t,mkO1 (pFirst g t at_ last).1]:=by
 have hrun:=prun_ok (firstSee g) g hg t ht (fun _=>True) (firstSee_ok g hg t) at_ last ha0 ha1 hl1 (false,none) trivial marks hm
 unfold pFirst
 generalize pLoop (firstSee g) g t last (t.length + 1) at_ false (pBegin g) ([],0) (false,none)=R at *
 obtain⟨mk,fl,r⟩:=R
 refine fn_ok func35 rfl ntmps35 results35 rfl 2 975 (by simp) (by simp) ?_
 simp only[zX,simprocAttr,i64,bV,iD,bD]
 refine callWp_mono hrun (fun v s' hv=>?_); obtain⟨rfl,rfl⟩:=hv
 simp only[See.objs,firstSee]
 have hmok:((mkO1 mk).els.all fun e=>e.all (refsV 2))=true:=by
  rw[List.all_eq_true]
  intro e he
  obtain⟨c,hc,rfl⟩:=List.mem_map.1 he
  rfl
 have hm0:((mkO0 g t).els.all fun e=>e.all (refsV 2))=true:=by simp [mkO0,refsV,i64,bV]
 cases fl <;> cases r
 all_goals
  simp only[zX,simprocAttr,i64,bV,iD,bD,fT3,fT4,fT5,fnil,Bool.false_eq_true,if_true,if_false]
  refine draw_c mix [] [(2,[3],[3])] (by rfl) ?_
  simp only[zX,simprocAttr,i64,bV,iD,bD,fT3,fT4,fT5,fnil,Bool.false_eq_true,if_true,if_false,hm0,hmok,optM,Mat.v,capD]
 all_goals rfl
end Go.Proofs.Ytdofoappodmcoaa
