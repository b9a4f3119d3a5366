/- A part of the proof (MM13). -/
import Derived.Test.YtpppfpaalcbggaaML10
set_option linter.unusedSimpArgs false
set_option linter.unusedVariables false
set_option maxRecDepth 100000
set_option maxHeartbeats 80000000
namespace Go.Proofs.Ytpppfpaalcbggaa
open Go.VL
def altAt (p:MPl) (env:Int) (kids:List Nd) (m:Mm) (j:Nat):Mm:=(kids.drop (max j 1)).foldr (fun (y:Nd) (m:Mm)=>m.push (.place (goM p 0 y 0 0 env))) m
def altPl (p:MPl) (env:Int) (kids:List Nd) (j:Nat):MPl:=match kids[j]? with
 | some k=>goM p 0 k 0 0 env
 | none=>p
theorem altAt_start (p:MPl) (env:Int) (kids:List Nd) (m:Mm):altAt p env kids m kids.length=m:=by
 unfold altAt
 rw[List.drop_of_length_le (by omega)]
 rfl
theorem altAt_push (p:MPl) (env:Int) {kids:List Nd} (m:Mm) {j:Nat} {k:Nd} (hk:kids[j]?=some k) (hj:0 < j):altAt p env kids m j=(altAt p env kids m (j + 1)).push (.place (goM p 0 k 0 0 env)):=by
 unfold altAt
 rw[show max j 1=j by omega,show max (j + 1) 1=j + 1 by omega]
 have hlt:=(List.getElem?_eq_some_iff.1 hk).1
 have he:kids[j]=k:=(List.getElem?_eq_some_iff.1 hk).2
 rw[List.drop_eq_getElem_cons hlt,he]
 rfl
theorem altAt_zero (p:MPl) (env:Int) (kids:List Nd) (m:Mm):altAt p env kids m 0=altAt p env kids m 1:=rfl
theorem altM_eq (p:MPl) (env:Int) (kids:List Nd) (m:Mm):altM p env kids m=(altAt p env kids m 0,altPl p env kids 0):=by
 match kids with
 | []=>rfl
 | [k]=>rfl
 | k::k2::l=>rfl
theorem pushes_top {f:Nd→Ltr}:∀(l:List Nd) (m:Mm),m.top≤m.stk.length→(l.foldr (fun y (m:Mm)=>m.push (f y)) m).top=m.top + l.length∧(l.foldr (fun y (m:Mm)=>m.push (f y)) m).top≤(l.foldr (fun y (m:Mm)=>m.push (f y)) m).stk.length
 | [],m,h=>⟨rfl,h⟩
 | k::l,m,h=>by
  obtain⟨h1,h2⟩:=pushes_top (f:=f) l m h
  rw[List.foldr_cons]
  generalize List.foldr (fun y (m:Mm)=>m.push (f y)) m l=M at *
  simp only[Mm.push,List.length_append,List.length_take,List.length_cons,List.length_nil]
  omega
theorem altAt_top (p:MPl) (env:Int) (kids:List Nd) {m:Mm} (h:m.top≤m.stk.length) (j:Nat):(altAt p env kids m j).top≤m.top + kids.length∧(altAt p env kids m j).top≤(altAt p env kids m j).stk.length:=by
 obtain⟨h1,h2⟩:=pushes_top (f:=fun y=>.place (goM p 0 y 0 0 env)) (kids.drop (max j 1)) m h
 refine⟨?_,h2⟩
 have h3:(kids.drop (max j 1)).length≤kids.length:=by simp
 have h4:(altAt p env kids m j).top=m.top + (kids.drop (max j 1)).length:=h1
 omega
theorem pushM_drop (env:Int) (nx:Gl) {kids:List Nd} {i:Nat} {k:Nd} (hk:kids[kids.length - 1 - i]?=some k) (hi:i < kids.length):pushM (kids.drop (kids.length - (i + 1))) env nx=.mk 0 (some k) 0 0 env (pushM (kids.drop (kids.length - i)) env nx):=by
 unfold pushM
 have hlt:=(List.getElem?_eq_some_iff.1 hk).1
 have he:kids[kids.length - 1 - i]=k:=(List.getElem?_eq_some_iff.1 hk).2
 rw[show kids.length - (i + 1)=kids.length - 1 - i by omega,List.drop_eq_getElem_cons hlt,he,List.foldr_cons,show kids.length - 1 - i + 1=kids.length - i by omega]
def bgX (g:D) (p:MPl):List VL.Obj:=[⟨0,true,1,[[.d g]]⟩,⟨0,true,3,[p.cells.map .d]⟩,⟨0,true,3,[MPl.zero.cells.map .d]⟩]
def altS (G:D) (p:MPl) (env:Int) (kids:List Nd) (m:Mm) (j:Nat):List VL.Obj:=(altAt p env kids m j).objs++bgX G (altPl p env kids j)
theorem mmbegin_ok {k:Nat} (ih:MSearchOK k) (m:Mm) (nd:Nd) (n at_ env:Int) (nx:Gl) (p:MPl) (hset:nd.re.set.length≤1000000000) (hkids:nd.kids.length≤1000000000) (hp:0≤p.at_) (ht:m.t.length≤1000000) (htop:m.top≤m.stk.length) (hlid:m.top≤1200000000001)
  {x:RsM} (hx:beginM (fun m base p=>srchM k true m base p true) m nd env p=some x) :
  callWp Try.prog 88 [.rf 0 0 0 0,.d (Gl.mk 0 (some nd) n at_ env nx).d,p.v] m.objs fun v s=>v=rsM x.2.1 x.2.2∧s=x.1.objs:=by
 unfold beginM at hx
 have hall:=mm_all m
 have hokm:=mm_ok' m 10 (by omega)
 by_cases c1:nd.re.op=1
 ·rw[if_pos c1] at hx
  cases hx
  have hst:=fun ext=>call_mm (mmset_ok m nd.re p hset hp ht) rfl rfl rfl ext
  unfold Mm.objs at hst
  simp only[i64,bV,iD,bD,List.cons_append,List.nil_append,List.map_cons,List.map_nil,MPl.v,MPl.cells,rsM,Re.cells_eq nd.re,c1] at hst
  unfold Mm.objs
  rw[Gl.d_mk,Nd.d_eq nd]
  refine fn_okH Try.func88 rfl Try.ntmps88 Try.results88 rfl 7 730750818665451459101842416358141791303211482103 (by exact Nat.le_refl _) (by simp) ?_
  simp only[zX,Nat.reduceShiftRight,Nat.reduceMod,Nat.reduceLT,Nat.reduceMul,Nat.reduceSub,Int.reduceToNat,Int.reduceNeg,Int.reduceLT,Int.reduceLE,Int.reduceEq,Nat.reduceEqDiff,Nat.reduceAdd,Nat.reduceLeDiff,reduceIte,reduceCtorEq,Nat.reduceBEq,codeWpH_seq,codeWpH_cond,codeWpH_block,codeWpH_region,codeWpH_skip,codeWpH_loop,codeWpH_ret,codeWpH_exit,codeWpH_range,SeqH_f,SeqH_t,SeqH_ret,SeqH_exit,BlkH_app,QfinH_app,i64,bV,iD,bD,List.cons_append,List.nil_append,List.map_cons,List.map_nil,MPl.v,MPl.cells,rsM,Re.cells_eq nd.re,c1]
  refine callWp_mono (hst _) (fun v s' hv=>?_); obtain⟨rfl,rfl⟩:=hv
  simp only[zX,Nat.reduceShiftRight,Nat.reduceMod,Nat.reduceLT,Nat.reduceMul,Nat.reduceSub,Int.reduceToNat,Int.reduceNeg,Int.reduceLT,Int.reduceLE,Int.reduceEq,Nat.reduceEqDiff,Nat.reduceAdd,Nat.reduceLeDiff,reduceIte,reduceCtorEq,Nat.reduceBEq,codeWpH_seq,codeWpH_cond,codeWpH_block,codeWpH_region,codeWpH_skip,codeWpH_loop,codeWpH_ret,codeWpH_exit,codeWpH_range,SeqH_f,SeqH_t,SeqH_ret,SeqH_exit,BlkH_app,QfinH_app,i64,bV,iD,bD,List.cons_append,List.nil_append,List.map_cons,List.map_nil,MPl.v,MPl.cells,rsM,Re.cells_eq nd.re,c1]
  exact hall
 rw[if_neg c1] at hx
 by_cases c2:nd.re.op=2
 ·rw[if_pos c2] at hx
  cases hx
  have hbk:=backward_ok (nd.kids.map Nd.d)
  have hit:=back_iter (nd.kids.map Nd.d) (by simpa using hkids)
  have hgd:(Gl.mk 0 (some nd) n at_ env nx).d=.el [.sc (.int .i64 0),.el [.el nd.re.cells,.sc (.int .i64 nd.id),.sl (nd.kids.map fun k=>[k.d]),.sc (.bool nd.loop)],.sc (.int .i64 n),.sc (.int .i64 at_),.sc (.int .i64 env),nx.d]:=by rw[Gl.d_mk,Nd.d_eq nd]
  rw[hgd]
  generalize hG:D.el [.sc (.int .i64 0),.el [.el nd.re.cells,.sc (.int .i64 nd.id),.sl (nd.kids.map fun k=>[k.d]),.sc (.bool nd.loop)],.sc (.int .i64 n),.sc (.int .i64 at_),.sc (.int .i64 env),nx.d]=G
  rw[show (List.map (fun d=>[d]) (List.map Nd.d nd.kids))=nd.kids.map fun k=>[k.d] by rw[List.map_map]; rfl] at hbk hit
  rw[List.length_map] at hit
  generalize hO:m.objs=O
  have hO':=hO
  unfold Mm.objs at hO
  rw[← hO]
  refine fn_okH Try.func88 rfl Try.ntmps88 Try.results88 rfl 7 730750818665451459101842416358141791303211482103 (by exact Nat.le_refl _) (by simp) ?_
  rw[← hG]
  simp only[zX,Nat.reduceShiftRight,Nat.reduceMod,Nat.reduceLT,Nat.reduceMul,Nat.reduceSub,Int.reduceToNat,Int.reduceNeg,Int.reduceLT,Int.reduceLE,Int.reduceEq,Nat.reduceEqDiff,Nat.reduceAdd,Nat.reduceLeDiff,reduceIte,reduceCtorEq,Nat.reduceBEq,codeWpH_seq,codeWpH_cond,codeWpH_block,codeWpH_region,codeWpH_skip,codeWpH_loop,codeWpH_ret,codeWpH_exit,codeWpH_range,SeqH_f,SeqH_t,SeqH_ret,SeqH_exit,BlkH_app,QfinH_app,i64,bV,iD,bD,List.cons_append,List.nil_append,List.map_cons,List.map_nil,MPl.v,MPl.cells,rsM,Re.cells_eq nd.re,c2]
  refine call_pure hbk rfl rfl ?_
  simp only[zX,Nat.reduceShiftRight,Nat.reduceMod,Nat.reduceLT,Nat.reduceMul,Nat.reduceSub,Int.reduceToNat,Int.reduceNeg,Int.reduceLT,Int.reduceLE,Int.reduceEq,Nat.reduceEqDiff,Nat.reduceAdd,Nat.reduceLeDiff,reduceIte,reduceCtorEq,Nat.reduceBEq,codeWpH_seq,codeWpH_cond,codeWpH_block,codeWpH_region,codeWpH_skip,codeWpH_loop,codeWpH_ret,codeWpH_exit,codeWpH_range,SeqH_f,SeqH_t,SeqH_ret,SeqH_exit,BlkH_app,QfinH_app,i64,bV,iD,bD,List.cons_append,List.nil_append,List.map_cons,List.map_nil,MPl.v,MPl.cells,rsM,Re.cells_eq nd.re,c2]
  refine RangeD.of 46 47 48 _ _ nd.kids.length (backAt (nd.kids.map Nd.d)) (fun i s=>s=O++bgX G { p with todo:=pushM (nd.kids.drop (nd.kids.length - i)) env p.todo })
   (fun e=>e 4=.rf 7 0 0 0∧e 5=.rf 8 0 0 0∧e 6=.rf 9 0 0 0∧∀t,refsV 10 (e t)=true) rfl rfl (by decide) (by decide) hit ⟨_,_,Cln.cut (s':=O++bgX G p) 10 (by omega) (by rw[← hO,← hG]; simp only[bgX,i64,bV,iD,bD,List.cons_append,List.nil_append,List.map_cons,List.map_nil,MPl.v,MPl.cells,rsM,Re.cells_eq nd.re,c2]; rfl) ?_ [4,5,6,46] ?_,?_,⟨?_,?_,?_,?_⟩,?_⟩ ?_ ?_
  ·rw[List.all_append,← hO',hokm]; rfl
  ·simp [updE,trimE_app,refsV]
  ·(try simp only[zU,Nat.reduceBEq,Nat.reduceShiftRight,Nat.reduceMod,Nat.reduceEqDiff,reduceIte]); (try rw[List.map_map]); (try rfl)
  ·(try simp only[zU,Nat.reduceBEq,Nat.reduceShiftRight,Nat.reduceMod,Nat.reduceEqDiff,reduceIte])
  ·(try simp only[zU,Nat.reduceBEq,Nat.reduceShiftRight,Nat.reduceMod,Nat.reduceEqDiff,reduceIte])
  ·(try simp only[zU,Nat.reduceBEq,Nat.reduceShiftRight,Nat.reduceMod,Nat.reduceEqDiff,reduceIte])
  ·exact keepE_refs (by simp [updE,trimE_app,refsV])
  ·rw[Nat.sub_zero,List.drop_of_length_le (Nat.le_refl _)]; rfl
  ·rintro e1 ⟨f4,f5,f6,fr⟩ i s hi rfl
   obtain⟨kd,hkd⟩:∃kd,nd.kids[nd.kids.length - 1 - i]?=some kd:=⟨_,List.getElem?_eq_getElem (by omega)⟩
   have hb2:(backAt (nd.kids.map Nd.d) i).2=kd.d:=by
    simp only[backAt,List.length_map,List.getD_eq_getElem?_getD,List.getElem?_map,hkd]; rfl
   have hpd:=pushM_drop env p.todo hkd hi
   rw[hb2,← hO,← hG]
   simp only[zX,Nat.reduceShiftRight,Nat.reduceMod,Nat.reduceLT,Nat.reduceMul,Nat.reduceSub,Int.reduceToNat,Int.reduceNeg,Int.reduceLT,Int.reduceLE,Int.reduceEq,Nat.reduceEqDiff,Nat.reduceAdd,Nat.reduceLeDiff,reduceIte,reduceCtorEq,Nat.reduceBEq,i64,bV,iD,bD,List.cons_append,List.nil_append,List.map_cons,List.map_nil,MPl.v,MPl.cells,rsM,bgX,f4,f5,f6]
   refine draw_first Cln0.reserve ?_
   refine draw_c mix [] [(5,[8],[]),(6,[8],[]),(8,[10],[10]),(9,[8],[]),(10,[8],[8])] (by rfl) ?_
   simp only[zX,Nat.reduceShiftRight,Nat.reduceMod,Nat.reduceLT,Nat.reduceMul,Nat.reduceSub,Int.reduceToNat,Int.reduceNeg,Int.reduceLT,Int.reduceLE,Int.reduceEq,Nat.reduceEqDiff,Nat.reduceAdd,Nat.reduceLeDiff,reduceIte,reduceCtorEq,Nat.reduceBEq,i64,bV,iD,bD,List.cons_append,List.nil_append,List.map_cons,List.map_nil,MPl.v,MPl.cells,rsM,hole,f4,f5,f6]
   refine⟨_,(Cln.of0 (Cln0.tell [10] (by simp [cleanS,killO,kill1,cleanV,frzV,frzV.go,frzD,failE_clean,frmE_clean,stM_comp]; rfl))).trans (Cln.cutE (s':=O++bgX G { p with todo:=pushM (nd.kids.drop (nd.kids.length - (i + 1))) env p.todo }) 10 (by omega) ?_ ?_ fr),?_⟩
   ·rw[← hO,← hG]
    simp only[bgX,i64,bV,iD,bD,List.cons_append,List.nil_append,List.map_cons,List.map_nil,MPl.v,MPl.cells,rsM,hpd,Gl.d_mk]
    rfl
   ·rw[List.all_append,← hO',hokm]; rfl
   ·rw[← hO,← hG]
    rfl
  ·rintro e1 ⟨f4,f5,f6,fr⟩ s rfl
   rw[Nat.sub_self,List.drop_zero,← hO]
   simp only[zX,Nat.reduceShiftRight,Nat.reduceMod,Nat.reduceLT,Nat.reduceMul,Nat.reduceSub,Int.reduceToNat,Int.reduceNeg,Int.reduceLT,Int.reduceLE,Int.reduceEq,Nat.reduceEqDiff,Nat.reduceAdd,Nat.reduceLeDiff,reduceIte,reduceCtorEq,Nat.reduceBEq,codeWpH_seq,codeWpH_cond,codeWpH_block,codeWpH_region,codeWpH_skip,codeWpH_loop,codeWpH_ret,codeWpH_exit,codeWpH_range,SeqH_f,SeqH_t,SeqH_ret,SeqH_exit,BlkH_app,QfinH_app,i64,bV,iD,bD,List.cons_append,List.nil_append,List.map_cons,List.map_nil,MPl.v,MPl.cells,rsM,bgX,f4,f5,f6]
   exact hall
 rw[if_neg c2] at hx
 by_cases c3:nd.re.op=3
 ·rw[if_pos c3] at hx
  simp only[altM_eq] at hx
  cases hx
  have hgd:(Gl.mk 0 (some nd) n at_ env nx).d=.el [.sc (.int .i64 0),.el [.el nd.re.cells,.sc (.int .i64 nd.id),.sl (nd.kids.map fun k=>[k.d]),.sc (.bool nd.loop)],.sc (.int .i64 n),.sc (.int .i64 at_),.sc (.int .i64 env),nx.d]:=by rw[Gl.d_mk,Nd.d_eq nd]
  rw[hgd]
  generalize hG:D.el [.sc (.int .i64 0),.el [.el nd.re.cells,.sc (.int .i64 nd.id),.sl (nd.kids.map fun k=>[k.d]),.sc (.bool nd.loop)],.sc (.int .i64 n),.sc (.int .i64 at_),.sc (.int .i64 env),nx.d]=G
  have w0:IntKind.i64.wrap ((nd.kids.length:Int) - 1)=(nd.kids.length:Int) - 1:=w64 _ (by omega)
  generalize hO:m.objs=O
  have hO':=hO
  unfold Mm.objs at hO
  rw[← hO]
  refine fn_okH Try.func88 rfl Try.ntmps88 Try.results88 rfl 7 730750818665451459101842416358141791303211482103 (by exact Nat.le_refl _) (by simp) ?_
  rw[← hG]
  simp only[zX,Nat.reduceShiftRight,Nat.reduceMod,Nat.reduceLT,Nat.reduceMul,Nat.reduceSub,Int.reduceToNat,Int.reduceNeg,Int.reduceLT,Int.reduceLE,Int.reduceEq,Nat.reduceEqDiff,Nat.reduceAdd,Nat.reduceLeDiff,reduceIte,reduceCtorEq,Nat.reduceBEq,codeWpH_seq,codeWpH_cond,codeWpH_block,codeWpH_region,codeWpH_skip,codeWpH_loop,codeWpH_ret,codeWpH_exit,codeWpH_range,SeqH_f,SeqH_t,SeqH_ret,SeqH_exit,BlkH_app,QfinH_app,i64,bV,iD,bD,List.cons_append,List.nil_append,List.map_cons,List.map_nil,MPl.v,MPl.cells,rsM,Re.cells_eq nd.re,c3,List.length_map,w0]
  refine loop_rule (fun n' e s=>∃j:Nat,n'=j∧j≤nd.kids.length∧e 0=.rf 0 0 0 0∧e 4=.rf 7 0 0 0∧e 5=.rf 8 0 0 0∧e 6=.rf 9 0 0 0∧e 9=.d p.todo.d∧e 12=i64 ((j:Int) - 1)∧s=altS G p env nd.kids m j)
   ⟨_,_,_,Cln.refl,nd.kids.length,rfl,Nat.le_refl _,rfl,rfl,rfl,rfl,rfl,rfl,?_⟩ ?_
  ·rw[altS,altAt_start,hO',← hO,← hG]
   have hnone:nd.kids[nd.kids.length]?=none:=List.getElem?_eq_none (Nat.le_refl _)
   simp only[altPl,hnone,bgX,i64,bV,iD,bD,List.cons_append,List.nil_append,List.map_cons,List.map_nil,MPl.v,MPl.cells,rsM,Re.cells_eq nd.re,c3]
   rfl
  rintro n' e s ⟨j,rfl,hj,h0,h4,h5,h6,h9,h12,rfl⟩
  obtain⟨t1,t2⟩:=altAt_top p env nd.kids htop n'
  have hallj:=mm_all (altAt p env nd.kids m n')
  cases n' with
  | zero =>
   rw[altS]
   rw[← hG]
   unfold Mm.objs
   generalize altAt p env nd.kids m 0=M at *
   generalize altPl p env nd.kids 0=pp at *
   rw[show ((0:Nat):Int) - 1=-1 by decide] at h12
   have ng:¬(0:Int)≤-1:=by decide
   simp only[zX,Nat.reduceShiftRight,Nat.reduceMod,Nat.reduceLT,Nat.reduceMul,Nat.reduceSub,Int.reduceToNat,Int.reduceNeg,Int.reduceLT,Int.reduceLE,Int.reduceEq,Nat.reduceEqDiff,Nat.reduceAdd,Nat.reduceLeDiff,reduceIte,reduceCtorEq,Nat.reduceBEq,codeWpH_seq,codeWpH_cond,codeWpH_block,codeWpH_region,codeWpH_skip,codeWpH_loop,codeWpH_ret,codeWpH_exit,codeWpH_range,SeqH_f,SeqH_t,SeqH_ret,SeqH_exit,BlkH_app,QfinH_app,i64,bV,iD,bD,List.cons_append,List.nil_append,List.map_cons,List.map_nil,MPl.v,MPl.cells,rsM,bgX,h0,h4,h5,h6,h9,h12,ge_iff_le,ng,decide_false]
   exact hallj
  | succ j =>
   obtain⟨kd,hkd⟩:∃kd,nd.kids[j]?=some kd:=⟨_,List.getElem?_eq_getElem (by omega)⟩
   have hpl:altPl p env nd.kids j=goM p 0 kd 0 0 env:=by simp only[altPl,hkd]
   have hpu:=fun h=>altAt_push p env m hkd h
   have i0:(0:Int)≤((j + 1:Nat):Int) - 1:=by omega
   have i1:((j + 1:Nat):Int) - 1 < (nd.kids.length:Int):=by omega
   have i2:(((j + 1:Nat):Int) - 1).toNat=j:=by omega
   have w2:IntKind.i64.wrap (((j + 1:Nat):Int) - 1 - 1)=(j:Int) - 1:=by rw[w64 _ (by omega)]; omega
   have hpp:(altPl p env nd.kids (j + 1)).at_=p.at_∧(altPl p env nd.kids (j + 1)).caps=p.caps:=by
    unfold altPl
    split <;> exact⟨rfl,rfl⟩
   have hsj:altS G p env nd.kids m j=(altAt p env nd.kids m j).objs++bgX G (goM p 0 kd 0 0 env):=by rw[altS,hpl]
   have hgo:(goM p 0 kd 0 0 env).todo.d=.el [.sc (.int .i64 0),kd.d,.sc (.int .i64 0),.sc (.int .i64 0),.sc (.int .i64 env),p.todo.d]:=by simp only[goM,Gl.d_mk]
   have hokj:=mm_ok' (altAt p env nd.kids m j) 10 (by omega)
   have hok2:(altS G p env nd.kids m j).all (objOk 10)=true:=by rw[hsj,List.all_append,hokj]; rfl
   have hSS:∀X,altS G p env nd.kids m j=X ↔ (altAt p env nd.kids m j).objs++bgX G (goM p 0 kd 0 0 env)=X:=fun X=>by rw[hsj]
   rw[show altS G p env nd.kids m (j + 1)=(altAt p env nd.kids m (j + 1)).objs++bgX G (altPl p env nd.kids (j + 1)) from rfl]
   generalize altPl p env nd.kids (j + 1)=pp at *
   obtain⟨p1,p2⟩:=hpp
   generalize hSj:altS G p env nd.kids m j=Sj at *
   by_cases hj0:j=0
   ·subst hj0
    have hz:altAt p env nd.kids m 0=altAt p env nd.kids m (0 + 1):=altAt_zero p env nd.kids m
    rw[hz] at hSS
    generalize altAt p env nd.kids m (0 + 1)=M at *
    have ip:¬(0:Int) < ((0 + 1:Nat):Int) - 1:=by omega
    rw[← hG]
    unfold Mm.objs
    simp only[zX,Nat.reduceShiftRight,Nat.reduceMod,Nat.reduceLT,Nat.reduceMul,Nat.reduceSub,Int.reduceToNat,Int.reduceNeg,Int.reduceLT,Int.reduceLE,Int.reduceEq,Nat.reduceEqDiff,Nat.reduceAdd,Nat.reduceLeDiff,reduceIte,reduceCtorEq,Nat.reduceBEq,codeWpH_seq,codeWpH_cond,codeWpH_block,codeWpH_region,codeWpH_skip,codeWpH_loop,codeWpH_ret,codeWpH_exit,codeWpH_range,SeqH_f,SeqH_t,SeqH_ret,SeqH_exit,BlkH_app,QfinH_app,i64,bV,iD,bD,List.cons_append,List.nil_append,List.map_cons,List.map_nil,MPl.v,MPl.cells,rsM,bgX,h0,h4,h5,h6,h9,h12,i0,i1,i2,hkd,ge_iff_le,List.length_map]
    refine draw_first Cln0.reserve ?_
    refine draw_c mix [] [(16,[10],[10]),(17,[8],[]),(18,[8],[8])] (by rfl) ?_
    simp only[zX,Nat.reduceShiftRight,Nat.reduceMod,Nat.reduceLT,Nat.reduceMul,Nat.reduceSub,Int.reduceToNat,Int.reduceNeg,Int.reduceLT,Int.reduceLE,Int.reduceEq,Nat.reduceEqDiff,Nat.reduceAdd,Nat.reduceLeDiff,reduceIte,reduceCtorEq,Nat.reduceBEq,codeWpH_seq,codeWpH_cond,codeWpH_block,codeWpH_region,codeWpH_skip,codeWpH_loop,codeWpH_ret,codeWpH_exit,codeWpH_range,SeqH_f,SeqH_t,SeqH_ret,SeqH_exit,BlkH_app,QfinH_app,i64,bV,iD,bD,List.cons_append,List.nil_append,List.map_cons,List.map_nil,MPl.v,MPl.cells,rsM,hole,h0,h4,h5,h6,h9,h12,i0,i1,i2,hkd,ge_iff_le,gt_iff_lt,ip,List.length_map,List.getElem?_map,Option.map_some,w2]
    refine⟨0,_,_,by omega,(Cln.of0 (Cln0.tell [10] (by simp [cleanS,killO,kill1,cleanV,frzV,frzV.go,frzD,failE_clean,frmE_clean,stM_comp]; rfl))).trans (Cln.cut (s':=Sj) 10 (by omega) ?_ hok2 [0,4,5,6,9,12] ?_),0,rfl,by omega,?_,?_,?_,?_,?_,?_,?_⟩ <;> (try simp only[zU,Nat.reduceBEq,Nat.reduceShiftRight,Nat.reduceMod,Nat.reduceEqDiff,reduceIte])
    ·refine((hSS _).2 ?_).symm
     rw[← hG]
     unfold Mm.objs
     simp only[bgX,i64,bV,iD,bD,List.cons_append,List.nil_append,List.map_cons,List.map_nil,MPl.v,MPl.cells,rsM,hgo,p1,p2]
     rfl
    ·simp [refsV,h0,h4,h5,h6,h9]
    ·exact h0
    ·exact h4
    ·exact h5
    ·exact h6
    ·exact h9
    ·rw[hG]; exact hSj.symm
   ·rw[hpu (by omega)] at hSS
    obtain⟨u1,u2⟩:=altAt_top p env nd.kids htop (j + 1)
    generalize altAt p env nd.kids m (j + 1)=M at *
    have ip:(0:Int) < ((j + 1:Nat):Int) - 1:=by omega
    have ep:=mm_push (m:=M) (.place (goM p 0 kd 0 0 env))
    simp only[stM,i64,bV,iD,bD,List.cons_append,List.nil_append,List.map_cons,List.map_nil,MPl.v,MPl.cells,rsM,Beg.cs,Beg.vals,kI,hgo] at ep
    have g1:(goM p 0 kd 0 0 env).at_=p.at_:=rfl
    have g2:(goM p 0 kd 0 0 env).caps=p.caps:=rfl
    rw[g1,g2] at ep
    rw[← hG]
    unfold Mm.objs
    simp only[zX,Nat.reduceShiftRight,Nat.reduceMod,Nat.reduceLT,Nat.reduceMul,Nat.reduceSub,Int.reduceToNat,Int.reduceNeg,Int.reduceLT,Int.reduceLE,Int.reduceEq,Nat.reduceEqDiff,Nat.reduceAdd,Nat.reduceLeDiff,reduceIte,reduceCtorEq,Nat.reduceBEq,codeWpH_seq,codeWpH_cond,codeWpH_block,codeWpH_region,codeWpH_skip,codeWpH_loop,codeWpH_ret,codeWpH_exit,codeWpH_range,SeqH_f,SeqH_t,SeqH_ret,SeqH_exit,BlkH_app,QfinH_app,i64,bV,iD,bD,List.cons_append,List.nil_append,List.map_cons,List.map_nil,MPl.v,MPl.cells,rsM,bgX,h0,h4,h5,h6,h9,h12,i0,i1,i2,hkd,ge_iff_le,List.length_map]
    refine draw_first Cln0.reserve ?_
    refine draw_c mix [] [(16,[10],[10]),(17,[8],[]),(18,[8],[8])] (by rfl) ?_
    simp only[zX,Nat.reduceShiftRight,Nat.reduceMod,Nat.reduceLT,Nat.reduceMul,Nat.reduceSub,Int.reduceToNat,Int.reduceNeg,Int.reduceLT,Int.reduceLE,Int.reduceEq,Nat.reduceEqDiff,Nat.reduceAdd,Nat.reduceLeDiff,reduceIte,reduceCtorEq,Nat.reduceBEq,codeWpH_seq,codeWpH_cond,codeWpH_block,codeWpH_region,codeWpH_skip,codeWpH_loop,codeWpH_ret,codeWpH_exit,codeWpH_range,SeqH_f,SeqH_t,SeqH_ret,SeqH_exit,BlkH_app,QfinH_app,i64,bV,iD,bD,List.cons_append,List.nil_append,List.map_cons,List.map_nil,MPl.v,MPl.cells,rsM,hole,h0,h4,h5,h6,h9,h12,i0,i1,i2,hkd,ge_iff_le,gt_iff_lt,ip,List.length_map,List.getElem?_map,Option.map_some,w2]
    refine draw_first (Cln0.tell [10] (by simp [cleanS,killO,kill1,cleanV,frzV,frzV.go,frzD,failE_clean,frmE_clean,stM_comp]; rfl)) ?_
    refine draw_c mix [] [(2,[0],[]),(3,[0],[]),(4,[0],[]),(8,[6],[6]),(9,[0],[]),(10,[0],[]),(11,[0],[0])] (by rfl) ?_
    simp only[zX,Nat.reduceShiftRight,Nat.reduceMod,Nat.reduceLT,Nat.reduceMul,Nat.reduceSub,Int.reduceToNat,Int.reduceNeg,Int.reduceLT,Int.reduceLE,Int.reduceEq,Nat.reduceEqDiff,Nat.reduceAdd,Nat.reduceLeDiff,reduceIte,reduceCtorEq,Nat.reduceBEq,codeWpH_seq,codeWpH_cond,codeWpH_block,codeWpH_region,codeWpH_skip,codeWpH_loop,codeWpH_ret,codeWpH_exit,codeWpH_range,SeqH_f,SeqH_t,SeqH_ret,SeqH_exit,BlkH_app,QfinH_app,i64,bV,iD,bD,List.cons_append,List.nil_append,List.map_cons,List.map_nil,MPl.v,MPl.cells,rsM,h0,h4,h5,h6,h9,h12,w2,Option.getD_some]
    refine⟨rfl,by simp,⟨by omega,by omega⟩,?_⟩
    refine⟨j,_,_,by omega,Cln.cut (s':=Sj) 10 (by omega) ?_ hok2 [0,4,5,6,9,12] ?_,j,rfl,by omega,?_,?_,?_,?_,?_,?_,?_⟩ <;> (try simp only[zU,Nat.reduceBEq,Nat.reduceShiftRight,Nat.reduceMod,Nat.reduceEqDiff,reduceIte])
    ·refine((hSS _).2 ?_).symm
     rw[← hG]
     unfold Mm.objs
     simp only[bgX,i64,bV,iD,bD,List.cons_append,List.nil_append,List.map_cons,List.map_nil,MPl.v,MPl.cells,rsM,hgo,p1,p2]
     rw[ep]
     rfl
    ·simp [refsV,h0,h4,h5,h6,h9]
    ·exact h0
    ·exact h4
    ·exact h5
    ·exact h6
    ·exact h9
    ·rw[hG]; exact hSj.symm
 rw[if_neg c3] at hx
 by_cases c0:nd.re.op=0
 ·rw[if_pos c0] at hx
  cases hx
  unfold Mm.objs
  rw[Gl.d_mk,Nd.d_eq nd]
  refine fn_okH Try.func88 rfl Try.ntmps88 Try.results88 rfl 7 730750818665451459101842416358141791303211482103 (by exact Nat.le_refl _) (by simp) ?_
  simp only[zX,Nat.reduceShiftRight,Nat.reduceMod,Nat.reduceLT,Nat.reduceMul,Nat.reduceSub,Int.reduceToNat,Int.reduceNeg,Int.reduceLT,Int.reduceLE,Int.reduceEq,Nat.reduceEqDiff,Nat.reduceAdd,Nat.reduceLeDiff,reduceIte,reduceCtorEq,Nat.reduceBEq,codeWpH_seq,codeWpH_cond,codeWpH_block,codeWpH_region,codeWpH_skip,codeWpH_loop,codeWpH_ret,codeWpH_exit,codeWpH_range,SeqH_f,SeqH_t,SeqH_ret,SeqH_exit,BlkH_app,QfinH_app,i64,bV,iD,bD,List.cons_append,List.nil_append,List.map_cons,List.map_nil,MPl.v,MPl.cells,rsM,Re.cells_eq nd.re,c0]
  exact hall
 ·rw[if_neg c0] at hx
  cases hx
end Go.Proofs.Ytpppfpaalcbggaa
