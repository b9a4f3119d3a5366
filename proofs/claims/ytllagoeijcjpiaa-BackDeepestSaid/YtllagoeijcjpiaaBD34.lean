/- A part of the proof (G28 G29). -/
import Derived.Test.YtllagoeijcjpiaaBD33
set_option linter.unusedSimpArgs false
set_option linter.unusedVariables false
set_option maxRecDepth 100000
set_option maxHeartbeats 80000000
namespace Go.Proofs.Ytllagoeijcjpiaa
open Go.VL Go.Proofs.Try
theorem Im (gp:Nat) (kind n at_ x:Int) (rd cd nd:D) :
  az prog 117 [i64 kind,.d rd,i64 n,i64 at_,.rf 0 gp 0 0] [⟨gp,true,3,[[.d (iD x),.d cd,.d nd]]⟩] fun v s=>v=.tu []∧s=[⟨gp,true,3,[[.d (iD x),.d cd,.d (.el [iD kind,rd,iD n,iD at_,nd])]]⟩]:=by
 refine I7 func117 rfl ntmps117 results117 rfl 1 31 (by simp) (by simp) ?_
 simp only[zX,simprocAttr,zM,JN,AZ,HN]
theorem nr {gp k:Nat}{kind n at_ x:Int}{rd cd nd:D}{s:List VL.Obj}{K:V→List VL.Obj→Prop} (ho:s[k]?=some ⟨gp,true,3,[[.d (.sc (.int .i64 x)),.d cd,.d nd]]⟩)
  (hk:K (.tu []) (s.set k ⟨gp,true,3,[[.d (.sc (.int .i64 x)),.d cd,.d (.el [.sc (.int .i64 kind),rd,.sc (.int .i64 n),.sc (.int .i64 at_),nd])]]⟩)) :
  az prog 117 [.d (.sc (.int .i64 kind)),.d rd,.d (.sc (.int .i64 n)),.d (.sc (.int .i64 at_)),.rf k gp 0 0] s K :=
 tl k (Im gp kind n at_ x rd cd nd) rfl rfl rfl ho rfl hk
theorem HJ (gp:Nat) (kind n at_ x:Int) (rd cd nd:D) :
  az prog 150 [i64 kind,.d rd,i64 n,i64 at_,.rf 0 gp 0 0] [⟨gp,true,3,[[.d (iD x),.d cd,.d nd]]⟩] fun v s=>v=.tu []∧s=[⟨gp,true,3,[[.d (iD x),.d cd,.d (.el [iD kind,rd,iD n,iD at_,nd])]]⟩]:=by
 refine I7 func150 rfl ntmps150 results150 rfl 1 31 (by simp) (by simp) ?_
 simp only[zX,simprocAttr,zM,JN,AZ,HN]
theorem eR {gp k:Nat}{kind n at_ x:Int}{rd cd nd:D}{s:List VL.Obj}{K:V→List VL.Obj→Prop} (ho:s[k]?=some ⟨gp,true,3,[[.d (.sc (.int .i64 x)),.d cd,.d nd]]⟩)
  (hk:K (.tu []) (s.set k ⟨gp,true,3,[[.d (.sc (.int .i64 x)),.d cd,.d (.el [.sc (.int .i64 kind),rd,.sc (.int .i64 n),.sc (.int .i64 at_),nd])]]⟩)) :
  az prog 150 [.d (.sc (.int .i64 kind)),.d rd,.d (.sc (.int .i64 n)),.d (.sc (.int .i64 at_)),.rf k gp 0 0] s K :=
 tl k (HJ gp kind n at_ x rd cd nd) rfl rfl rfl ho rfl hk
theorem aB.eZ (m:aB):m.step.p=m.p:=by unfold aB.step;split <;> rfl
theorem aB.CR (m:aB):m.step.top=m.top:=by unfold aB.step;split <;> rfl
theorem aB.DQ (m:aB):m.step.dY=m.dY:=by unfold aB.step;split <;> rfl
theorem br {f:FuncId}{g b a:Nat}{cargs:List V}{m m':aB}{r:V} (h:az prog f cargs (m.aF g b a) fun v s=>v=r∧s=m'.aF g b a) (ha:cargs.map (bu [0,1,2])=cargs) (rn:ar.go 3 cargs=true) (hr:bu [0,1,2] r=r)
  (ext:List VL.Obj):az prog f cargs (m.aF g b a++ext) fun v s=>v=r∧s=m'.aF g b a++ext:=by
 have KA:∀m:aB,(m.aF g b a).map (ct [0,1,2])=m.aF g b a:=by
  intro m
  unfold aB.aF aB.aA
  simp only[VP,VO,List.cons.injEq,and_true]
  refine⟨?_,?_,?_⟩
  ·unfold aB.text;split <;> rfl
  ·unfold ct
   simp only[List.map_map]
   congr 1
   refine Wn fun p _=>?_
   cases p <;> rfl
  ·exact rI [0,1,2] m.ew true 1 m.own iD
 refine lX [0,1,2] h (by decide) (by rfl) ?_ ha.symm rn (ff g b a m _ 3 (VA _) (gx m)) hr ?_
 ·have e:(m.aF g b a).map (fun o=>some (ct [0,1,2] o))=(m.aF g b a).map some:=by
   conv=>rhs;rw[← KA m]
   rw[List.map_map];rfl
  rw[e];rfl
 ·rw[KA]
  exact⟨rfl,rfl⟩
theorem aI.aN (b a:Nat) (kind:Int) (r:aG) (n at_:Int) (nx:aI):(aI.mk kind r n at_ nx).d b a=.el [.sc (.int .i64 kind),r.d b a,.sc (.int .i64 n),.sc (.int .i64 at_),nx.d b a]:=rfl
theorem Kd (g b a:Nat) (m:aB) (re:Re) (n at_:Int) (nx:aI) (p:ao) (kid:Re) (hk:re.kids[0]?=some kid) (hm:m.cX p) (ma:0≤n) (kv:n≤10000000000000) {x:Rs} (hx:fG m (.el re) n p=some x) :
  az prog 120 [.pp 0 g 0 0 b a,.d ((aI.mk 2 (.el re) n at_ nx).d b a),p.v b a] (m.aF g b a) fun v s=>v=aR b a x.2.1 x.2.2∧s=x.1.aF g b a:=by
 obtain⟨⟨g1,g2,g3,g4⟩,⟨g5,g6,g7⟩,g8,g9⟩:=hm
 have aH:=fun ext=>br (cR g b a m g1 g2) rfl rfl rfl ext
 unfold fG at hx
 simp only[aB.lit]at hx
 obtain⟨l,hl⟩:∃l,re.kids=kid::l:=by
  cases hh:re.kids with
  |nil=>rw[hh]at hk;cases hk
  |cons y l=>rw[hh]at hk;cases hk;exact⟨l,rfl⟩
 rw[hl]at hx
 simp only at hx
 have dg:(0:Int)<(re.kids.length:Int):=by rw[hl,VC];omega
 clear hl
 have eD:=m.eZ
 have NM:=m.DQ
 have vy:=m.CR
 by_cases c1:m.fuel≤m.steps
 ·rw[if_pos c1]at hx
  cases hx
  have hd:decide (m.steps<m.fuel)=false:=decide_eq_false (by omega)
  simp only[hd]at aH
  unfold aB.aF aB.aA at aH
  simp only[zM]at aH
  unfold aB.aF aB.aA
  refine av func120 rfl ntmps120 results120 rfl 3 2023 (by simp) (by simp) ?_
  simp only[zX,simprocAttr,zM,aI.aN]
  refine aj (aH _) (fun v s' hv=>?_);obtain⟨rfl,rfl⟩:=hv
  simp only[zX,simprocAttr,zM,Vt]
  exact⟨ak m.step b a,rfl⟩
 ·rw[if_neg c1]at hx
  have hd:decide (m.steps<m.fuel)=true:=decide_eq_true (by omega)
  simp only[hd]at aH
  generalize ly:m.step=m1 at *
  unfold aB.aF aB.aA at aH
  simp only[zM]at aH
  unfold aB.aF aB.aA
  have w1:IntKind.i64.wrap (n+1)=n+1:=bR _ (by omega)
  have tq:∀q:ao,az prog 119 [.pp 0 g 0 0 b a,q.v b a] (m1.aF g b a) fun v s=>v=.tu []∧s=(m1.push q).aF g b a:=fun q=>qS g b a m1 q (by rw[vy,NM];exact g3) (by rw[vy];exact g4)
  refine av func120 rfl ntmps120 results120 rfl 3 2023 (by simp) (by simp) ?_
  simp only[zX,simprocAttr,zM,aI.aN]
  refine aj (aH _) (fun v s' hv=>?_);obtain⟨rfl,rfl⟩:=hv
  simp only[zX,simprocAttr,zM,Vs,aG.d,Re.ae,dg,hk]
  refine aK (bL.aV.trans bL.aV) ?_
  refine an mix [] [(0,[3],[]),(1,[3],[]),(2,[5],[5]),(3,[6],[6]),(4,[5],[5]),(5,[6],[6])] (by rfl) ?_
  simp only[zX,simprocAttr,zM,hole]
  refine an mix [] [(8,[0],[]),(9,[0],[]),(10,[0],[])] (by rfl) ?_
  by_cases c2:n<re.mn
  ·rw[if_pos c2]at hx
   cases hx
   simp only[zX,simprocAttr,zM,c2,aG.d,Re.ae]
   refine aK bL.aV ?_
   refine an mix [14] [(10,[3],[]),(11,[3],[]),(13,[7],[7]),(15,[6],[]),(16,[6],[6])] (by rfl) ?_
   simp only[zX,simprocAttr,zM,hole,w1]
   refine bn (aP [7] (by simp [bk,bA,aZ.go,aZ,bQ,aI.aN,aG.d,Re.ae,iD,bD]) (aE (fO b a (.el kid) (.mk 2 (.el re) (n+1) 0 p.todo)) rfl rfl ⟨rfl,rfl⟩)) ?_
   simp only[zX,simprocAttr,zM,aI.aN,aG.d,Re.ae,bk,bA]
   refine⟨ak m1 b a,?_⟩
   simp only[zM,aR,aI.aN,aG.d,Re.ae]
  ·rw[if_neg c2]at hx
   have Bn:=fun ext=>br (tq { p with todo:=.mk 0 (.el kid) 0 0 (.mk 3 (.el re) (n+1) p.at_ p.todo) }) rfl rfl rfl ext
   have CI:=fun ext=>br (tq p) rfl rfl rfl ext
   generalize vx:m1.push { p with todo:=.mk 0 (.el kid) 0 0 (.mk 3 (.el re) (n+1) p.at_ p.todo) }=m2 at *
   generalize LJ:m1.push p=m3 at *
   unfold aB.aF aB.aA at Bn CI
   simp only[zM,aI.aN,aG.d,Re.ae]at Bn CI
   simp only[zX,simprocAttr,zM,c2,aG.d,Re.ae]
   refine an mix [] [(4,[0],[]),(5,[0],[]),(6,[0],[]),(17,[0],[]),(18,[0],[]),(19,[0],[])] (by rfl) ?_
   by_cases c3:0≤re.mx∧re.mx≤n
   ·rw[if_pos c3]at hx
    cases hx
    simp only[zX,simprocAttr,zM,c3.1,c3.2,ge_iff_le,aG.d,Re.ae]
    exact⟨ak m1 b a,rfl⟩
   ·rw[if_neg c3]at hx
    by_cases c4:0≤re.mx
    ·have c5:¬re.mx≤n:=fun h=>c3 ⟨c4,h⟩
     simp only[zX,simprocAttr,zM,c4,c5,ge_iff_le,aG.d,Re.ae]
     refine aK bL.aV ?_
     refine an mix [16] [(10,[3],[]),(11,[3],[]),(12,[3],[]),(13,[3],[]),(15,[7],[7]),(17,[6],[]),(18,[6],[6])] (by rfl) ?_
     simp only[zX,simprocAttr,zM,hole,w1]
     refine bn (aP [7] (by simp [bk,bA,aZ.go,aZ,bQ,aI.aN,aG.d,Re.ae,iD,bD]) (aE (fO b a (.el kid) (.mk 3 (.el re) (n+1) p.at_ p.todo)) rfl rfl ⟨rfl,rfl⟩)) ?_
     by_cases c6:re.mode=1
     ·rw[if_pos c6]at hx
      have d6:decide (re.mode=1)=true:=decide_eq_true c6
      cases hx
      simp only[zX,simprocAttr,zM,aI.aN,aG.d,Re.ae,d6,bk,bA]
      refine aj (Bn _) (fun v s' hv=>?_);obtain⟨rfl,rfl⟩:=hv
      simp only[zX,simprocAttr,zM]
      exact⟨ak m2 b a,rfl⟩
     ·rw[if_neg c6]at hx
      have d6:decide (re.mode=1)=false:=decide_eq_false c6
      cases hx
      simp only[zX,simprocAttr,zM,aI.aN,aG.d,Re.ae,d6,bk,bA]
      refine aj (CI _) (fun v s' hv=>?_);obtain⟨rfl,rfl⟩:=hv
      simp only[zX,simprocAttr,zM]
      refine⟨ak m3 b a,?_⟩
      simp only[zM,aR,aI.aN,aG.d,Re.ae]
    ·simp only[zX,simprocAttr,zM,c4,ge_iff_le,aG.d,Re.ae]
     refine aK bL.aV ?_
     refine an mix [16] [(10,[3],[]),(11,[3],[]),(12,[3],[]),(13,[3],[]),(15,[7],[7]),(17,[6],[]),(18,[6],[6])] (by rfl) ?_
     simp only[zX,simprocAttr,zM,hole,w1]
     refine bn (aP [7] (by simp [bk,bA,aZ.go,aZ,bQ,aI.aN,aG.d,Re.ae,iD,bD]) (aE (fO b a (.el kid) (.mk 3 (.el re) (n+1) p.at_ p.todo)) rfl rfl ⟨rfl,rfl⟩)) ?_
     by_cases c6:re.mode=1
     ·rw[if_pos c6]at hx
      have d6:decide (re.mode=1)=true:=decide_eq_true c6
      cases hx
      simp only[zX,simprocAttr,zM,aI.aN,aG.d,Re.ae,d6,bk,bA]
      refine aj (Bn _) (fun v s' hv=>?_);obtain⟨rfl,rfl⟩:=hv
      simp only[zX,simprocAttr,zM]
      exact⟨ak m2 b a,rfl⟩
     ·rw[if_neg c6]at hx
      have d6:decide (re.mode=1)=false:=decide_eq_false c6
      cases hx
      simp only[zX,simprocAttr,zM,aI.aN,aG.d,Re.ae,d6,bk,bA]
      refine aj (CI _) (fun v s' hv=>?_);obtain⟨rfl,rfl⟩:=hv
      simp only[zX,simprocAttr,zM]
      refine⟨ak m3 b a,?_⟩
      simp only[zM,aR,aI.aN,aG.d,Re.ae]
theorem EB (g b a:Nat) (m:aB) (n at_:Int) (nx:aI) (p:ao) (kid:Re) (hk:m.p.re.kids[0]?=some kid) (hm:m.cX p) (ma:0≤n) (kv:n≤10000000000000) {x:Rs} (hx:fG m .root n p=some x) :
  az prog 120 [.pp 0 g 0 0 b a,.d ((aI.mk 2 .root n at_ nx).d b a),p.v b a] (m.aF g b a) fun v s=>v=aR b a x.2.1 x.2.2∧s=x.1.aF g b a:=by
 obtain⟨⟨g1,g2,g3,g4⟩,⟨g5,g6,g7⟩,g8,g9⟩:=hm
 have aH:=fun ext=>br (cR g b a m g1 g2) rfl rfl rfl ext
 unfold fG at hx
 simp only[aB.lit]at hx
 obtain⟨l,hl⟩:∃l,m.p.re.kids=kid::l:=by
  cases hh:m.p.re.kids with
  |nil=>rw[hh]at hk;cases hk
  |cons y l=>rw[hh]at hk;cases hk;exact⟨l,rfl⟩
 rw[hl]at hx
 simp only at hx
 have dg:(0:Int)<(m.p.re.kids.length:Int):=by rw[hl,VC];omega
 clear hl
 have eD:=m.eZ
 have NM:=m.DQ
 have vy:=m.CR
 by_cases c1:m.fuel≤m.steps
 ·rw[if_pos c1]at hx
  cases hx
  have hd:decide (m.steps<m.fuel)=false:=decide_eq_false (by omega)
  simp only[hd]at aH
  unfold aB.aF aB.aA at aH
  simp only[zM]at aH
  unfold aB.aF aB.aA
  refine av func120 rfl ntmps120 results120 rfl 3 2023 (by simp) (by simp) ?_
  simp only[zX,simprocAttr,zM,aI.aN]
  refine aj (aH _) (fun v s' hv=>?_);obtain⟨rfl,rfl⟩:=hv
  simp only[zX,simprocAttr,zM,Vt]
  exact⟨ak m.step b a,rfl⟩
 ·rw[if_neg c1]at hx
  have hd:decide (m.steps<m.fuel)=true:=decide_eq_true (by omega)
  simp only[hd]at aH
  generalize ly:m.step=m1 at *
  rw[← eD]at hk dg hx
  unfold aB.aF aB.aA at aH
  simp only[zM]at aH
  unfold aB.aF aB.aA
  have w1:IntKind.i64.wrap (n+1)=n+1:=bR _ (by omega)
  have tq:∀q:ao,az prog 119 [.pp 0 g 0 0 b a,q.v b a] (m1.aF g b a) fun v s=>v=.tu []∧s=(m1.push q).aF g b a:=fun q=>qS g b a m1 q (by rw[vy,NM];exact g3) (by rw[vy];exact g4)
  refine av func120 rfl ntmps120 results120 rfl 3 2023 (by simp) (by simp) ?_
  simp only[zX,simprocAttr,zM,aI.aN]
  refine aj (aH _) (fun v s' hv=>?_);obtain⟨rfl,rfl⟩:=hv
  simp only[zX,simprocAttr,zM,Vs,aG.d,Re.ae,dg,hk]
  refine aK (bL.aV.trans bL.aV) ?_
  refine an mix [] [(0,[3],[]),(1,[3],[]),(2,[5],[5]),(3,[6],[6]),(4,[5],[5]),(5,[6],[6])] (by rfl) ?_
  simp only[zX,simprocAttr,zM,hole]
  refine an mix [] [(8,[0],[]),(9,[0],[]),(10,[0],[])] (by rfl) ?_
  by_cases c2:n<m1.p.re.mn
  ·rw[if_pos c2]at hx
   cases hx
   simp only[zX,simprocAttr,zM,c2,aG.d,Re.ae]
   refine aK bL.aV ?_
   refine an mix [14] [(10,[3],[]),(11,[3],[]),(13,[7],[7]),(15,[6],[]),(16,[6],[6])] (by rfl) ?_
   simp only[zX,simprocAttr,zM,hole,w1]
   refine bn (aP [7] (by simp [bk,bA,aZ.go,aZ,bQ,aI.aN,aG.d,Re.ae,iD,bD]) (aE (fO b a (.el kid) (.mk 2 .root (n+1) 0 p.todo)) rfl rfl ⟨rfl,rfl⟩)) ?_
   simp only[zX,simprocAttr,zM,aI.aN,aG.d,Re.ae,bk,bA]
   refine⟨ak m1 b a,?_⟩
   simp only[zM,aR,aI.aN,aG.d,Re.ae]
  ·rw[if_neg c2]at hx
   have Bn:=fun ext=>br (tq { p with todo:=.mk 0 (.el kid) 0 0 (.mk 3 .root (n+1) p.at_ p.todo) }) rfl rfl rfl ext
   have CI:=fun ext=>br (tq p) rfl rfl rfl ext
   generalize vx:m1.push { p with todo:=.mk 0 (.el kid) 0 0 (.mk 3 .root (n+1) p.at_ p.todo) }=m2 at *
   generalize LJ:m1.push p=m3 at *
   unfold aB.aF aB.aA at Bn CI
   simp only[zM,aI.aN,aG.d,Re.ae]at Bn CI
   simp only[zX,simprocAttr,zM,c2,aG.d,Re.ae]
   refine an mix [] [(4,[0],[]),(5,[0],[]),(6,[0],[]),(17,[0],[]),(18,[0],[]),(19,[0],[])] (by rfl) ?_
   by_cases c3:0≤m1.p.re.mx∧m1.p.re.mx≤n
   ·rw[if_pos c3]at hx
    cases hx
    simp only[zX,simprocAttr,zM,c3.1,c3.2,ge_iff_le,aG.d,Re.ae]
    exact⟨ak m1 b a,rfl⟩
   ·rw[if_neg c3]at hx
    by_cases c4:0≤m1.p.re.mx
    ·have c5:¬m1.p.re.mx≤n:=fun h=>c3 ⟨c4,h⟩
     simp only[zX,simprocAttr,zM,c4,c5,ge_iff_le,aG.d,Re.ae]
     refine aK bL.aV ?_
     refine an mix [16] [(10,[3],[]),(11,[3],[]),(12,[3],[]),(13,[3],[]),(15,[7],[7]),(17,[6],[]),(18,[6],[6])] (by rfl) ?_
     simp only[zX,simprocAttr,zM,hole,w1]
     refine bn (aP [7] (by simp [bk,bA,aZ.go,aZ,bQ,aI.aN,aG.d,Re.ae,iD,bD]) (aE (fO b a (.el kid) (.mk 3 .root (n+1) p.at_ p.todo)) rfl rfl ⟨rfl,rfl⟩)) ?_
     by_cases c6:m1.p.re.mode=1
     ·rw[if_pos c6]at hx
      have d6:decide (m1.p.re.mode=1)=true:=decide_eq_true c6
      cases hx
      simp only[zX,simprocAttr,zM,aI.aN,aG.d,Re.ae,d6,bk,bA]
      refine aj (Bn _) (fun v s' hv=>?_);obtain⟨rfl,rfl⟩:=hv
      simp only[zX,simprocAttr,zM]
      exact⟨ak m2 b a,rfl⟩
     ·rw[if_neg c6]at hx
      have d6:decide (m1.p.re.mode=1)=false:=decide_eq_false c6
      cases hx
      simp only[zX,simprocAttr,zM,aI.aN,aG.d,Re.ae,d6,bk,bA]
      refine aj (CI _) (fun v s' hv=>?_);obtain⟨rfl,rfl⟩:=hv
      simp only[zX,simprocAttr,zM]
      refine⟨ak m3 b a,?_⟩
      simp only[zM,aR,aI.aN,aG.d,Re.ae]
    ·simp only[zX,simprocAttr,zM,c4,ge_iff_le,aG.d,Re.ae]
     refine aK bL.aV ?_
     refine an mix [16] [(10,[3],[]),(11,[3],[]),(12,[3],[]),(13,[3],[]),(15,[7],[7]),(17,[6],[]),(18,[6],[6])] (by rfl) ?_
     simp only[zX,simprocAttr,zM,hole,w1]
     refine bn (aP [7] (by simp [bk,bA,aZ.go,aZ,bQ,aI.aN,aG.d,Re.ae,iD,bD]) (aE (fO b a (.el kid) (.mk 3 .root (n+1) p.at_ p.todo)) rfl rfl ⟨rfl,rfl⟩)) ?_
     by_cases c6:m1.p.re.mode=1
     ·rw[if_pos c6]at hx
      have d6:decide (m1.p.re.mode=1)=true:=decide_eq_true c6
      cases hx
      simp only[zX,simprocAttr,zM,aI.aN,aG.d,Re.ae,d6,bk,bA]
      refine aj (Bn _) (fun v s' hv=>?_);obtain⟨rfl,rfl⟩:=hv
      simp only[zX,simprocAttr,zM]
      exact⟨ak m2 b a,rfl⟩
     ·rw[if_neg c6]at hx
      have d6:decide (m1.p.re.mode=1)=false:=decide_eq_false c6
      cases hx
      simp only[zX,simprocAttr,zM,aI.aN,aG.d,Re.ae,d6,bk,bA]
      refine aj (CI _) (fun v s' hv=>?_);obtain⟨rfl,rfl⟩:=hv
      simp only[zX,simprocAttr,zM]
      refine⟨ak m3 b a,?_⟩
      simp only[zM,aR,aI.aN,aG.d,Re.ae]
end Go.Proofs.Ytllagoeijcjpiaa
