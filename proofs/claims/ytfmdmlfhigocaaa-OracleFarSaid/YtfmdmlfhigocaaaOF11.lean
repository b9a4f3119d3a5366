/- A part of the proof (Vq). -/
import Derived.Test.YtfmdmlfhigocaaaOF10
set_option linter.unusedSimpArgs false
set_option linter.unusedVariables false
set_option maxRecDepth 100000
set_option maxHeartbeats 80000000
namespace Go.VL
def jR (o:Oper) (e:Env):Option (Option (FuncId×List V)) :=
 match o.op with
 |.call c=>match c.callee with
  |.value (.func f)=>some (some (f,c.args.toList.map (ev e)))
  |.value x=>match zV (e 0) (ev e x) with
   |.cl (.func g) first ai=>some (some (g,first++c.args.toList.map (ev e)++ai))
   |_=>some none
  |.invoke ..=>some none
  |.builtin _=>none
 |_=>none
theorem yi {P:Program}{o:Oper}{e:Env}{f:FuncId}{args:List V} (h:jR o e=some (some (f,args))) (s:List Obj) (K:V->List Obj->Prop):cz P o e s K=aq P f args s K:=by
 obtain⟨dst,op,ty,pos,after,guard⟩:=o
 cases op <;> try (simp [jR]at h;done)
 rename_i c
 obtain⟨callee,cargs,argTypes⟩:=c
 cases callee with
 |value x =>
  cases x with
  |func g=>simp only[jR,Option.some.injEq,Prod.mk.injEq]at h;obtain⟨rfl,rfl⟩:=h;rfl
  |tmp t =>
   simp only[jR]at h
   split at h
   ·rename_i g first ai iJ
    simp only[Option.some.injEq,Prod.mk.injEq]at h;obtain⟨rfl,rfl⟩:=h
    simp only[cz,fw,iJ]
   ·cases h
  |const t =>
   simp only[jR]at h
   split at h
   ·rename_i g first ai iJ
    simp only[Option.some.injEq,Prod.mk.injEq]at h;obtain⟨rfl,rfl⟩:=h
    simp only[cz,fw,iJ]
   ·cases h
  |global t =>
   simp only[jR]at h
   split at h
   ·rename_i g first ai iJ
    simp only[Option.some.injEq,Prod.mk.injEq]at h;obtain⟨rfl,rfl⟩:=h
    simp only[cz,fw,iJ]
   ·cases h
 |invoke r m=>simp [jR]at h
 |builtin b=>simp [jR]at h
theorem sX {o:Oper}{e:Env} (h:jR o e=none):Gn o=false:=by
 obtain⟨dst,op,ty,pos,after,guard⟩:=o
 cases op <;> try rfl
 rename_i c
 obtain⟨callee,cargs,argTypes⟩:=c
 cases callee with
 |value x =>
  cases x with
  |func g=>simp [jR]at h
  |tmp t=>simp only[jR]at h;split at h <;> cases h
  |const t=>simp only[jR]at h;split at h <;> cases h
  |global t=>simp only[jR]at h;split at h <;> cases h
 |invoke r m=>rfl
 |builtin b=>rfl
def OH (P:Program) (f:FuncId) (args:List V) (s:List Obj) (K:V->List Obj->Prop):Prop:=∃v,(∀s',aq P f args s' fun v' xi=>v'=v/\xi=s')/\K v s
def Oc (P:Program) (f:FuncId) (args:List V) (s:List Obj) (K:V->List Obj->Prop):Prop:=∃v s1,(aq P f args s fun v' xi=>v'=v/\xi=s1)/\K v s1
def EE (P:Program) (rd wr:List Nat) (f:FuncId) (args:List V) (s:List Obj) (K:V->List Obj->Prop):Prop :=
 ∃v os,os.length=wr.length/\(∀s',s'.length=s.length->(∀id∈rd,s'[id]?=s[id]?)->aq P f args s' fun v' xi=>v'=v/\xi=aH s' wr os)/\K v (aH s wr os)
def GH:V->Bool
 |.d (.sl _)=>true
 |.fu _=>true
 |_=>false
theorem F5 {x:V} (h:GH x=true) (s s':List Obj):fV s' x=fV s x:=by
 unfold GH at h
 split at h
 ·rfl
 ·rfl
 ·cases h
def O6 (P:Program) (t t':TypeId) (au:List (List D)) (x:V) (ob:Obj) (h:Nat) (s:List Obj) (K:V->List Obj->Prop):Prop :=
 match x,gm P t with
 |.fu ns,some (_,i)=>(t=t'/\0<ns.length/\0<i.sz/\0<i.yW/\(au.length+ns.length)*i.yW<=140737488355328/\(∀e∈au,e.length=i.sz)/\∀e∈ns,e.length=i.sz) /\
   K (.so h (ob.g+1) 0 (au.length+ns.length)) (s.set h ⟨ob.g+1,true,i.sz,(au++ns).map (·.map .d)⟩)
 |.d (.sl ns),some (_,i)=>(au=[]/\t=t'/\0<i.sz/\0<i.yW/\ns.length*i.yW<=140737488355328/\∀e∈ns,e.length=i.sz) /\
   K (.so h (ob.g+1) 0 ns.length) (s.set h ⟨ob.g+1,true,i.sz,ns.map (·.map .d)⟩)
 |_,_=>False
def NN (P:Program) (t:TypeId) (l c:V) (ob:Obj) (h:Nat) (s:List Obj) (K:V->List Obj->Prop):Prop :=
 match l,c,gm P t with
 |.d (.sc (.int _ n)),.d (.sc (.int _ m)),some (_,i)=>(0<=n/\n<=m/\i.yW*m<=140737488355328/\m<=9223372036854775807/\0<i.sz) /\
   K (.so h (ob.g+1) 0 n.toNat) (s.set h ⟨ob.g+1,true,i.sz,List.replicate n.toNat (i.zero.map cv)⟩)
 |_,_,_=>False
def Rh (P:Program) (t:TypeId) (len:Nat) (parts:List (Nat×V)) (ob:Obj) (h:Nat) (s:List Obj) (K:V->List Obj->Prop):Prop :=
 match gm P t with
 |none=>False
 |some (_,i)=>(len*i.sz<=16777216/\0<i.sz)/\match pU i.sz (List.replicate len (i.zero.map cv)) parts with
  |none=>False
  |some au=>(qd au=none/\∀e∈au,∀x∈e,ah s.length x=true)/\K (.so h (ob.g+1) 0 len) (s.set h ⟨ob.g+1,true,i.sz,au⟩)
theorem NK (v:Value):ah 0 (cv v)=true:=by
 unfold cv
 split <;> rfl
def KN (P:Program) (o:Oper) (e:Env) (s:List Obj) (h:Nat) (K:V->List Obj->Prop):Prop :=
 match s[h]? with
 |none=>False
 |some ob=>match o.op with
  |.alloc t=>ob.live=true/\match cb P t with
   |some i=>K (.rf h (ob.g+1) 0 0) (s.set h ⟨ob.g+1,true,i.sz,[i.zero.map cv]⟩)
   |none=>False
  |.box _ x=>ob.live=true/\match du (ev e x) with
   |some cs=>K (.rf h (ob.g+1) 0 0) (s.set h ⟨ob.g+1,true,cs.length,[cs]⟩)
   |none=>False
  |.store t a x=>match ev e a with
   |.rf id _ _ _=>id=h/\fK P t s (ev e a) (ev e x) fun s'=>K .un s'
   |.pp id _ _ _ _ _=>id=h/\fK P t s (ev e a) (ev e x) fun s'=>K .un s'
   |_=>False
  |.makeSlice t l c=>NN P t (ev e l) (ev e c) ob h s K
  |.buildSlice t n ps=>Rh P t n (ps.toList.map fun p=>(p.1,ev e p.2)) ob h s K
  |.call c=>match c.callee,c.args.toList,c.argTypes.toList with
   |.builtin .append,[a,x],[t,t']=>match ev e a with
    |.so id _ _ _=>(id=h/\GH (ev e x)=true)/\t=t'/\cP P t (ev e a) (ev e x) s K
    |.fu au=>O6 P t t' au (ev e x) ob h s K
    |_=>False
   |_,_,_=>False
  |_=>False
theorem L0 {σ:Gh}{s:List Obj}{w:World} (hI:Inv σ s w) {id:Nat}{o:Obj} (ho:s[id]?=some o) (pX:o.live=true) {sz:Nat}{au:List (List V)}{arr:Array Value} (E:TypeId) (hl:∀e∈au,e.length=sz) (hs:au.length*sz<=arr.size)
  (hc:∀(i j:Nat) (x:V),(au[i]?.bind (·[j]?))=some x->∃u,arr[i*sz+j]?=some u/\u.oneCell'=true/\aw σ s w x u) :
  aA σ s w (l8 σ id (some (w.heap.size,0))) (s.set id ⟨o.g+1,true,sz,au⟩) (w.alloc (.cells arr E)) /\
  Inv (l8 σ id (some (w.heap.size,0))) (s.set id ⟨o.g+1,true,sz,au⟩) (w.alloc (.cells arr E)):=by
 refine lC (p:=some (w.heap.size,0)) hI ho pX rfl rfl rfl (by simp) (fun b hb _=>Go.RowKit.Below.heap_alloc w _ b hb)
  (fun b base b9 E' jS hh=>⟨b9,by rw[Go.RowKit.Below.heap_alloc w _ b (de hh)];exact hh,rfl⟩)
  (fun b base jS hm=>let ⟨es,c,hh⟩:=hm;⟨es,c,by rw[Go.RowKit.Below.heap_alloc w _ b (de hh)];exact hh⟩) (Nat.le_succ _) (fun h=>by simp at h) (fun b base h=>by cases h;exact .inr (Nat.le_refl _))
  (fun hE=>.inr ⟨w.heap.size,0,arr,E,rfl,heap_alloc_new w _,hl,by simpa using hs,fun i j x hx=>?_⟩)
 obtain⟨u,h1,h2,h3⟩:=hc i j x hx
 exact⟨u,by simpa using h1,h2,h3.aO hE⟩
theorem Ot {σ:Gh}{s:List Obj}{w:World}{id:Nat} (cL:id<s.length) {o:Obj}{b base:Nat} (hC:Bp w b):aw (l8 σ id (some (b,base))) (s.set id o) w (.rf id o.g 0 0) (.pointer (some ⟨b,base,none⟩)) :=
 .rf o (by simp [cL]) (Nat.le_refl _) rfl (fun _=>⟨b,base,bH _ _ _,hC,by simp⟩)
theorem Mb {P:Program}{full:List Oper}{o:Oper}{e:Env}{s:List Obj}{h:Nat}{K:V->List Obj->Prop} (ha:KN P o e s h K) :
  ∃v o',K v (s.set h o')/\∀s',s'.length=s.length->s'[h]?=s[h]?->Ha P full o e s' v (s'.set h o'):=by
 obtain⟨dst,op,ty,pos,after,guard⟩:=o
 unfold KN at ha
 cases HN:s[h]? with
 |none=>rw[HN]at ha;exact ha.elim
 |some ob =>
  rw[HN]at ha
  simp only at ha
  cases op <;> simp only at ha <;> try exact ha.elim
  case alloc t =>
   obtain⟨hl,ha⟩:=ha
   split at ha
   case h_2=>exact ha.elim
   rename_i i hi
   refine⟨_,_,ha,fun s' hlen jS σ w N a hI hR=>?_⟩
   obtain⟨z,hz,hr,hs,P9⟩:=vy hi σ s' w
   have:=L0 hI jS hl (au:=[i.zero.map cv]) (sz:=i.sz) (arr:=z.cells) t (by simp;rw[<- P9];simpa using hs) (by simp [hs]) (rJ hr i.sz)
   refine dW (u:=.pointer (some ⟨w.heap.size,0,none⟩)) (w':=w.alloc (.cells z.cells t)) ?_ this.1 this.2 (Ot (o:=⟨ob.g+1,true,i.sz,[i.zero.map cv]⟩) (List.getElem?_eq_some_iff.1 jS).1 ⟨_,_,heap_alloc_new w _⟩) ⟨rfl,rfl⟩
   simp [execOp,Instr.alloc,hz,newVar,newRow]
  case box t x =>
   obtain⟨hl,ha⟩:=ha
   split at ha
   case h_2=>exact ha.elim
   rename_i cs mL
   refine⟨_,_,ha,fun s' hlen jS σ w N a hI hR=>?_⟩
   have hm:ev (l7 full ⟨dst,.box t x,ty,pos,after,guard⟩ e) x=ev e x:=by
    cases x with
    |tmp t'=>simp [ev,l7,Oper.looksAt,Op.operands]
    |_=>rfl
   have hx:=hR.ev x
   rw[hm]at hx
   have hr:tx σ s' w cs (a.eval x).cells:=kB hx mL
   have:=L0 hI jS hl (au:=[cs]) (sz:=cs.length) (arr:=(a.eval x).cells) t (by simp) (by simp [hr.1]) (rJ hr _)
   refine dW (u:=.pointer (some ⟨w.heap.size,0,none⟩)) (w':=w.alloc (.cells (a.eval x).cells t)) ?_ this.1 this.2 (Ot (o:=⟨ob.g+1,true,cs.length,[cs]⟩) (List.getElem?_eq_some_iff.1 jS).1 ⟨_,_,heap_alloc_new w _⟩) ⟨rfl,rfl⟩
   simp [execOp,Instr.box,newVar,newRow]
  case store t x y =>
   split at ha
   case h_3=>exact ha.elim
   ·rename_i id g k off hx
    obtain⟨rfl,ha⟩:=ha
    unfold fK at ha
    cases ht:cb P t with
    |none=>rw[ht]at ha;exact ha.elim
    |some i =>
     rw[ht]at ha
     simp only[hx,HN]at ha
     obtain⟨h1,h2,ha⟩:=ha
     split at ha
     ·exact ha.elim
     ·rename_i cs mL
      split at ha
      ·exact ha.elim
      ·rename_i ns sy
       obtain⟨h3,h4,ha⟩:=ha
       refine⟨_,_,ha,fun s' hlen jS=>g9 ?_⟩
       unfold jD cz
       simp only[fK,ht,hx,jS,HN,mL,sy]
       exact⟨h1,h2,h3,h4,trivial,trivial⟩
   ·rename_i id g k off b a' hx
    obtain⟨rfl,ha⟩:=ha
    unfold fK at ha
    cases ht:cb P t with
    |none=>rw[ht]at ha;exact ha.elim
    |some i =>
     rw[ht]at ha
     simp only[hx,HN]at ha
     obtain⟨h1,h2,ha⟩:=ha
     split at ha
     ·exact ha.elim
     ·rename_i cs mL
      split at ha
      ·exact ha.elim
      ·rename_i ns sy
       obtain⟨h3,h4,ha⟩:=ha
       refine⟨_,_,ha,fun s' hlen jS=>g9 ?_⟩
       unfold jD cz
       simp only[fK,ht,hx,jS,HN,mL,sy]
       exact⟨h1,h2,h3,h4,trivial,trivial⟩
  case buildSlice t n ps =>
   unfold Rh at ha
   cases ct:gm P t with
   |none=>rw[ct]at ha;exact ha.elim
   |some ei =>
    obtain⟨ee,i⟩:=ei
    rw[ct]at ha
    simp only at ha
    obtain⟨h1,ha⟩:=ha
    cases T0:pU i.sz (List.replicate n (i.zero.map cv)) (ps.toList.map fun p=>(p.1,ev e p.2)) with
    |none=>rw[T0]at ha;exact ha.elim
    |some au =>
     rw[T0]at ha
     simp only at ha
     obtain⟨⟨uA,SY⟩,ha⟩:=ha
     refine⟨_,_,ha,fun s' hlen jS σ w N a0 hI hR=>?_⟩
     have BM:jD P ⟨dst,.buildSlice t n ps,ty,pos,after,guard⟩ e s' (.so s'.length 0 0 n) (s'++[⟨0,true,i.sz,au⟩]):=by
      unfold jD cz
      simp only
      unfold dK
      rw[ct]
      simp only[T0,uA]
      exact⟨h1,trivial,trivial⟩
     refine Oper.wp_mono (fun a' w' ⟨u,v,σ',s1,Ln,sR,im,nI,NU,QE⟩=>?_) (g9 BM σ w N a0 hI hR)
     subst NU QE
     obtain⟨m1,m2,m3⟩:=yC hI sR im jS rfl (fun i' j x' jO=>by
      right
      rw[hlen]
      cases hq:au[i']? with
      |none=>rw[hq]at jO;cases jO
      |some c =>
       rw[hq]at jO
       exact SY c (List.mem_of_getElem? hq) x' (List.mem_of_getElem? jO))
     exact⟨u,_,_,_,Ln,m1,m2,m3 _ _ _ nI,rfl,rfl⟩
  case makeSlice t l c =>
   unfold NN at ha
   split at ha
   case h_2=>exact ha.elim
   rename_i k1 n k2 m ee i hl hc ct
   obtain⟨h1,ha⟩:=ha
   refine⟨_,_,ha,fun s' hlen jS σ w N a0 hI hR=>?_⟩
   have BM:jD P ⟨dst,.makeSlice t l c,ty,pos,after,guard⟩ e s' (.so s'.length 0 0 n.toNat) (s'++[⟨0,true,i.sz,List.replicate n.toNat (i.zero.map cv)⟩]):=by
    unfold jD cz
    simp only
    unfold eV
    rw[hl,hc,ct]
    exact⟨h1,rfl,rfl⟩
   refine Oper.wp_mono (fun a' w' ⟨u,v,σ',s1,Ln,sR,im,nI,NU,QE⟩=>?_) (g9 BM σ w N a0 hI hR)
   subst NU QE
   obtain⟨m1,m2,m3⟩:=nG hI sR im jS rfl (fun i' j x' jO=>by
    cases hq:(List.replicate n.toNat (i.zero.map cv))[i']? with
    |none=>rw[hq]at jO;cases jO
    |some e' =>
     have he:=List.eq_of_mem_replicate (List.mem_of_getElem? hq)
     subst he
     rw[hq]at jO
     simp only[Option.bind_some,List.getElem?_map]at jO
     obtain⟨d,_,rfl⟩:=Option.map_eq_some_iff.1 jO
     exact NK d)
   exact⟨u,_,_,_,Ln,m1,m2,m3 _ _ _ nI,rfl,rfl⟩
  case call c =>
   split at ha
   case h_2=>exact ha.elim
   rename_i a x t t' zR vn Ld
   split at ha
   case h_3=>exact ha.elim
   case h_2 =>
    rename_i au hx
    obtain⟨callee,args,Cz⟩:=c
    simp only at zR vn Ld
    subst zR
    unfold O6 at ha
    split at ha
    case h_3=>exact ha.elim
    case h_2 =>
     rename_i ns ee i hy ct
     obtain⟨⟨rfl,rfl,h2,h3,h4,h6⟩,ha⟩:=ha
     refine⟨_,_,ha,fun s' hlen jS σ w N a0 hI hR=>?_⟩
     have BM:jD P ⟨dst,.call ⟨.builtin .append,args,Cz⟩,ty,pos,after,guard⟩ e s' (.so s'.length 0 0 ns.length) (s'++[⟨0,true,i.sz,ns.map (·.map .d)⟩]):=by
      unfold jD cz fw
      simp only[vn,Ld,eq_self,if_true]
      unfold cP
      rw[hx,hy,ct]
      have vO:fV s' (.d (.sl ns))=some (ns.map (·.map .d)):=rfl
      rw[vO]
      refine⟨⟨fun e he=>?_,h2,h3⟩,?_⟩
      ·obtain⟨d,hd,rfl⟩:=List.mem_map.1 he
       simpa using h6 d hd
      ·simp only
       refine⟨⟨.inl trivial,by simpa using h4,by simp⟩,?_,?_⟩ <;> simp
     refine Oper.wp_mono (fun a' w' ⟨u,v,σ',s1,Ln,sR,im,nI,NU,QE⟩=>?_) (g9 BM σ w N a0 hI hR)
     subst NU QE
     obtain⟨m1,m2,m3⟩:=nG hI sR im jS rfl (fun i' j x' jO=>by
      rw[List.getElem?_map]at jO
      cases hq:ns[i']? with
      |none=>rw[hq]at jO;cases jO
      |some c =>
       rw[hq]at jO
       simp only[Option.map_some,Option.bind_some,List.getElem?_map]at jO
       obtain⟨d,_,rfl⟩:=Option.map_eq_some_iff.1 jO
       rfl)
     exact⟨u,_,_,_,Ln,m1,m2,m3 _ _ _ nI,rfl,rfl⟩
    rename_i ns ee i hy ct
    obtain⟨⟨rfl,h1,h2,h3,h4,h5,h6⟩,ha⟩:=ha
    refine⟨_,_,ha,fun s' hlen jS σ w N a0 hI hR=>?_⟩
    have az:h<s'.length:=fx jS
    have BM:jD P ⟨dst,.call ⟨.builtin .append,args,Cz⟩,ty,pos,after,guard⟩ e s' (.so s'.length 0 0 (au.length+ns.length)) (s'++[⟨0,true,i.sz,(au++ns).map (·.map .d)⟩]):=by
     unfold jD cz fw
     simp only[vn,Ld,eq_self,if_true]
     unfold cP
     rw[hx,hy,ct]
     have vO:fV s' (.fu ns)=some (ns.map (·.map .d)):=rfl
     rw[vO]
     refine⟨⟨fun e he=>?_,h2,h3⟩,?_⟩
     ·obtain⟨d,hd,rfl⟩:=List.mem_map.1 he
      simpa using h6 d hd
     ·simp only
      refine⟨⟨.inr (by simpa using h1),by simpa using h4,h5⟩,?_,?_⟩
      ·simp
      ·simp [List.map_append]
    refine Oper.wp_mono (fun a' w' ⟨u,v,σ',s1,Ln,sR,im,nI,NU,QE⟩=>?_) (g9 BM σ w N a0 hI hR)
    subst NU QE
    obtain⟨m1,m2,m3⟩:=nG hI sR im jS rfl (fun i' j x' jO=>by
     rw[List.getElem?_map]at jO
     cases hq:(au++ns)[i']? with
     |none=>rw[hq]at jO;cases jO
     |some c =>
      rw[hq]at jO
      simp only[Option.map_some,Option.bind_some,List.getElem?_map]at jO
      obtain⟨d,_,rfl⟩:=Option.map_eq_some_iff.1 jO
      rfl)
    exact⟨u,_,_,_,Ln,m1,m2,m3 _ _ _ nI,rfl,rfl⟩
   rename_i id g lo n hx
   obtain⟨⟨rfl,Bo⟩,rfl,ha⟩:=ha
   obtain⟨callee,args,Cz⟩:=c
   simp only at zR vn Ld
   subst zR
   unfold cP at ha
   cases ct:gm P t with
   |none=>rw[ct]at ha;exact ha.elim
   |some ei =>
    obtain⟨ee,i⟩:=ei
    rw[ct]at ha
    simp only at ha
    cases sy:fV s (ev e x) with
    |none=>rw[sy]at ha;exact ha.elim
    |some ns =>
     rw[sy]at ha
     simp only[hx,rj,HN]at ha
     obtain⟨h1,h2,h3,ha⟩:=ha
     refine⟨_,_,ha,fun s' hlen jS=>g9 ?_⟩
     unfold jD cz fw
     simp only[vn,Ld,eq_self,if_true]
     unfold cP
     rw[F5 Bo s s',sy,ct]
     simp only[hx,rj,jS,HN]
     exact⟨h1,h2,h3,trivial,trivial⟩
def LH (P:Program) (o:Oper) (e:Env) (s:List Obj) (h:Nat) (K:V->List Obj->Prop):Prop :=
 match s[h]? with
 |none=>False
 |some ob=>match o.op with
  |.call c=>match c.callee,c.args.toList,c.argTypes.toList with
   |.builtin .append,[a,x],[t,t']=>match ev e a,ev e x,gm P t with
    |.cap cl _ (.so id g lo n),.fu ns,some (_,i)=>(id=h/\ob.g=g/\ob.live=true/\t=t'/\ob.sz=i.sz/\(∀e∈ns,e.length=i.sz)/\0<i.sz/\0<ns.length/\lo+n<=ob.au.length/\n+ns.length<=cl) /\
      K (.so id g lo (n+ns.length)) (s.set h ⟨g,true,i.sz,ob.au.take (lo+n)++ns.map (·.map .d)++ob.au.drop (lo+n+ns.length)⟩)
    |_,_,_=>False
   |_,_,_=>False
  |_=>False
def KU (P:Program) (o:Oper) (e:Env) (s:List Obj) (rd:List Nat) (h:Nat) (K:V->List Obj->Prop):Prop :=
 match s[h]? with
 |none=>False
 |some ob=>match o.op with
  |.call c=>match c.callee,c.args.toList,c.argTypes.toList with
   |.builtin .append,[a,x],[t,t']=>match ev e a,ev e x,gm P t with
    |.cap _ ch (.so id g lo n),.fu ns,some (_,i)=>match s[id]? with
     |none=>False
     |some o=>(rd.contains id=true/\o.g=g/\t=t'/\o.sz=i.sz/\(∀e∈ns,e.length=i.sz)/\0<i.sz/\0<i.yW/\0<ns.length/\lo+n<=o.au.length/\ch<n+ns.length/\(n+ns.length)*i.yW<=140737488355328 /\
       (∀e∈o.au,∀x∈e,ah 0 x=true))/\K (.so h (ob.g+1) 0 (n+ns.length)) (s.set h ⟨ob.g+1,true,i.sz,(o.au.drop lo).take n++ns.map (·.map .d)⟩)
    |_,_,_=>False
   |_,_,_=>False
  |_=>False
theorem uP {full:List Oper}{dst:Option Nat}{ty:TypeId}{pos:String}{after:Array Edge}{guard:Option (Nat×Bool)}{e:Env}{a x:Operand}{Cz:Array TypeId}:∀y,y∈[a,x]->ev (l7 full ⟨dst,.call ⟨.builtin .append,#[a,x],Cz⟩,ty,pos,after,guard⟩ e) y=ev e y:=by
 intro y hy
 cases y with
 |tmp k =>
  have hk:k∈(⟨dst,.call ⟨.builtin .append,#[a,x],Cz⟩,ty,pos,after,guard⟩:Oper).looksAt full.toArray:=List.mem_append_left _ (List.mem_filterMap.2 ⟨.tmp k,by
   simp only[List.mem_cons,List.not_mem_nil,or_false]at hy
   rcases hy with rfl|rfl <;> simp [Op.operands,Call.operands],rfl⟩)
  simp [ev,l7,hk]
 |_=>rfl
theorem KH {P:Program}{full:List Oper}{o:Oper}{e:Env}{s:List Obj}{h:Nat}{K:V->List Obj->Prop} (ha:LH P o e s h K) :
  ∃v o',K v (s.set h o')/\∀s',s'.length=s.length->s'[h]?=s[h]?->Ha P full o e s' v (s'.set h o'):=by
 obtain⟨dst,op,ty,pos,after,guard⟩:=o
 unfold LH at ha
 cases HN:s[h]? with
 |none=>rw[HN]at ha;exact ha.elim
 |some ob =>
  rw[HN]at ha
  simp only at ha
  cases op <;> simp only at ha <;> try exact ha.elim
  rename_i c
  split at ha
  case h_2=>exact ha.elim
  rename_i a x t t' zR vn Ld
  split at ha
  case h_2=>exact ha.elim
  rename_i cl ch id g lo n ns ee i Q4 hex ct
  obtain⟨⟨rfl,hg,hl,rfl,fo,hz,hp,hn,hle,hr⟩,ha⟩:=ha
  refine⟨_,_,ha,fun s' hlen jS σ w N a0 hI hR=>?_⟩
  obtain⟨callee,args,Cz⟩:=c
  simp only at zR vn Ld
  subst zR
  have e1:args=#[a,x]:=Array.toList_inj.1 (by rw[vn])
  have e2:Cz=#[t,t]:=Array.toList_inj.1 (by rw[Ld])
  subst e1 e2
  have ra:=hR.ev a
  rw[uP a (by simp),Q4]at ra
  have rx:=hR.ev x
  rw[uP x (by simp),hex]at rx
  cases ra with|cap Gj ra=>?_
  obtain⟨r,σ',w',k1,k2,k3,k4⟩:=DS (ty:=ty) hI ra Gj rx rfl ct jS hg fo (fun e he=>by
   obtain⟨d,hd,rfl⟩:=List.mem_map.1 he
   simpa using hz d hd) hp (by simpa using hn) hle hl (by simpa using hr)
  rw[List.length_map]at k2 k3 k4
  exact dW (by simp [execOp,resolve,invoke,builtin,k1]) k2 k3 k4 ⟨rfl,rfl⟩
theorem Md {P:Program}{full:List Oper}{o:Oper}{e:Env}{s:List Obj}{rd:List Nat}{h:Nat}{K:V->List Obj->Prop} (ha:KU P o e s rd h K) :
  ∃v o',K v (s.set h o')/\∀s',s'.length=s.length->s'[h]?=s[h]?->(∀id∈rd,s'[id]?=s[id]?)->Ha P full o e s' v (s'.set h o'):=by
 obtain⟨dst,op,ty,pos,after,guard⟩:=o
 unfold KU at ha
 cases HN:s[h]? with
 |none=>rw[HN]at ha;exact ha.elim
 |some ob =>
  rw[HN]at ha
  simp only at ha
  cases op <;> simp only at ha <;> try exact ha.elim
  rename_i c
  split at ha
  case h_2=>exact ha.elim
  rename_i a x t t' zR vn Ld
  split at ha
  case h_2=>exact ha.elim
  rename_i cl ch id g lo n ns ee i Q4 hex ct
  split at ha
  ·exact ha.elim
  rename_i o ho
  obtain⟨⟨MJ,hg,rfl,fo,hz,hp,SQ,hn,hle,hr,hb,hd⟩,ha⟩:=ha
  refine⟨_,_,ha,fun s' hlen jS Ig σ w N a0 hI hR=>?_⟩
  obtain⟨callee,args,Cz⟩:=c
  simp only at zR vn Ld
  subst zR
  have e1:args=#[a,x]:=Array.toList_inj.1 (by rw[vn])
  have e2:Cz=#[t,t]:=Array.toList_inj.1 (by rw[Ld])
  subst e1 e2
  have ra:=hR.ev a
  rw[uP a (by simp),Q4]at ra
  have rx:=hR.ev x
  rw[uP x (by simp),hex]at rx
  cases ra with|cap Gj ra=>?_
  have gE:s'[id]?=some o:=(Ig id (by simpa using MJ)).trans ho
  obtain⟨r,σ',w',k1,k2,k3,k4⟩:=Dy (ty:=ty) hI ra Gj rx rfl ct gE hg fo (fun e he=>by
   obtain⟨d,hd,rfl⟩:=List.mem_map.1 he
   simpa using hz d hd) hp (by simpa using hn) hle SQ (by simpa using hb) (by simpa using hr)
  rw[List.length_map]at k4
  obtain⟨m1,m2,m3⟩:=nG hI k2 k3 jS rfl (fun i' j x' jO=>by
   simp only at jO
   cases hq:((o.au.drop lo).take n++ns.map (·.map .d))[i']? with
   |none=>rw[hq]at jO;cases jO
   |some c =>
    rw[hq]at jO
    have hm:=List.mem_of_getElem? jO
    rcases List.mem_append.1 (List.mem_of_getElem? hq) with hc|hc
    ·exact hd c (List.mem_of_mem_drop (List.mem_of_mem_take hc)) x' hm
    ·obtain⟨dd,_,rfl⟩:=List.mem_map.1 hc
     obtain⟨y,_,rfl⟩:=List.mem_map.1 hm
     rfl)
  exact dW (by simp [execOp,resolve,invoke,builtin,k1]) m1 m2 (m3 _ _ _ k4) ⟨rfl,rfl⟩
def K4 (s:List Obj) (K:V->List Obj->Prop) (v:V) (s1:List Obj):Prop:=s1=s/\K v s
theorem qJ {s:List Obj}{K:V->List Obj->Prop}{v:V}{s1:List Obj}:K4 s K v s1=(s1=s/\K v s):=(rfl)
def Cd (o:Oper) (e:Env) (ws:List Nat):Bool:=JD o&&(oQ e o).all fun id=>!ws.contains id
def MZ (o:Oper) (e:Env) (rd:List Nat):Bool:=JD o&&(oQ e o).all fun id=>rd.contains id
def eg (P:Program) (bars:List Nat) (fs:cd) (i:Nat) (o:Oper) (e:Env) (s:List Obj) (K:V->List Obj->Prop):Prop :=
 match bars.contains i with
 |true=>match jR o e with
  |some (some (f,args))=>Oc P f args s K
  |some none=>False
  |none=>cz P o e s K
 |false=>match fC fs i with
  |none=>match jR o e with
   |some (some (f,args))=>OH P f args s K
   |some none=>False
   |none=>Cd o e (Cl fs)=true/\cz P o e s (K4 s K)
  |some (rd,wr)=>match jR o e with
   |some (some (f,args))=>EE P rd wr f args s K
   |some none=>False
   |none=>match wr with
    |[]=>MZ o e rd=true/\cz P o e s (K4 s K)
    |[h]=>rd.contains h=true/\KN P o e s h K
    |[h,_]=>rd.contains h=true/\LH P o e s h K
    |[h,_,_]=>rd.contains h=true/\KU P o e s rd h K
    |_=>False
theorem tQ:∀(ρ:List Nat) (os:List Obj) (s s':List Obj) (id:Nat),id∈ρ->os.length=ρ.length->s.length=s'.length->(aH s ρ os)[id]?=(aH s' ρ os)[id]?
 |[],_,_,_,_,h,_,_=>by cases h
 |r::ρ,[],_,_,_,_,h,_=>by simp at h
 |r::ρ,o::os,s,s',id,h,hl,hs=>by
  simp only[aH]
  by_cases hm:id∈ρ
  ·exact tQ ρ os _ _ id hm (by simpa using hl) (by simpa using hs)
  ·have:id=r:=by rcases List.mem_cons.1 h with h|h;exact h;exact absurd h hm
   subst this
   rw[fj ρ os _ _ hm,fj ρ os _ _ hm]
   by_cases az:id<s.length
   ·rw[List.getElem?_set_self az,List.getElem?_set_self (by omega)]
   ·rw[List.getElem?_eq_none (by simp;omega),List.getElem?_eq_none (by simp;omega)]
theorem I8 {P:Program}{full:List Oper}{bars:List Nat}{fs:cd}{i:Nat}{o:Oper}{e:Env}{s:List Obj}{K:V->List Obj->Prop} (hg:∀g want,o.guard=some (g,want)->∃d,jV full g=some d/\e d=.d (.sc (.bool want))) (h:eg P bars fs i o e s K) :
  ∃v tf,Hp P full bars fs i o ⟨some v,tf⟩ e s/\K v (tf s):=by
 unfold eg at h
 cases hb:bars.contains i with
 |true =>
  rw[hb]at h
  simp only at h
  have VG:∀v s1,jD P o e s v s1->K v s1->∃v tf,Hp P full bars fs i o ⟨some v,tf⟩ e s/\K v (tf s):=by
   intro v s1 h1 h2
   refine⟨v,fun _=>s1,⟨(fun h=>by rw[hb]at h;cases h),hg,fun s' _ h' _=>?_⟩,h2⟩
   rw[h' hb]
   exact g9 h1
  split at h
  ·rename_i f args hc
   obtain⟨v,s1,h1,h2⟩:=h
   exact VG v s1 (by unfold jD;rw[yi hc];exact h1) h2
  ·exact h.elim
  ·rename_i hc
   obtain⟨v,s1,h1,h2⟩:=Gb (sX hc) _ h
   exact VG v s1 h1 h2
 |false =>
  rw[hb]at h
  simp only at h
  cases hf:fC fs i with
  |none =>
   rw[hf]at h
   simp only at h
   have R6:G9 fs i fun s=>s:=fun s=>⟨rfl,fun _ _=>rfl,fun s' hl id hw _=>by simp [lu,hf]at hw⟩
   split at h
   ·rename_i f args hc
    obtain⟨v,h1,h2⟩:=h
    exact⟨v,fun s=>s,⟨fun _=>R6,hg,fun s' _ _ _=>g9 (by unfold jD;rw[yi hc];exact h1 s')⟩,h2⟩
   ·exact h.elim
   ·rename_i hc
    obtain⟨hr,h⟩:=h
    obtain⟨v,s1,h1,h2,h3⟩:=Gb (sX hc) _ h
    subst h2
    simp only[Cd,Bool.and_eq_true,List.all_eq_true,Bool.not_eq_true',List.contains_eq_mem,decide_eq_false_iff_not]at hr
    refine⟨v,fun s=>s,⟨fun _=>R6,hg,fun s' _ _ Ig=>g9 (DG hr.1 (fun id cL=>Ig id ?_) h1)⟩,h3⟩
    unfold Kn
    rw[hf]
    exact hr.2 id cL
  |some Xx =>
   obtain⟨rd,wr⟩:=Xx
   rw[hf]at h
   simp only at h
   split at h
   ·rename_i f args hc
    obtain⟨v,os,hl,h1,h2⟩:=h
    refine⟨v,fun s=>aH s wr os,⟨fun _ s=>⟨lW _ _ _,fun id cL=>fj _ _ _ _ (by simpa [lu,hf]using cL),fun s' Ih id cL _=>tQ _ _ _ _ _ (by simpa [lu,hf]using cL) hl Ih.symm⟩,hg,
     fun s' Ih _ Ig=>g9 (by unfold jD;rw[yi hc];exact h1 s' Ih fun id cL=>Ig id (by unfold Kn;rw[hf];exact cL))⟩,h2⟩
   ·exact h.elim
   ·rename_i hc
    split at h
    ·obtain⟨hr,h⟩:=h
     obtain⟨v,s1,h1,h2,h3⟩:=Gb (sX hc) _ h
     subst h2
     simp only[MZ,Bool.and_eq_true,List.all_eq_true,List.contains_eq_mem,decide_eq_true_eq]at hr
     refine⟨v,fun s=>s,⟨fun _ s=>⟨rfl,fun _ _=>rfl,fun s' hl id hw _=>by simp [lu,hf]at hw⟩,hg,fun s' _ _ Ig=>g9 (DG hr.1 (fun id cL=>Ig id ?_) h1)⟩,h3⟩
     unfold Kn
     rw[hf]
     exact hr.2 id cL
    ·rename_i hh
     obtain⟨hr,h⟩:=h
     obtain⟨v,o',h1,h2⟩:=Mb (full:=full) h
     refine⟨v,fun s=>s.set hh o',⟨fun _ s=>⟨by simp,fun id cL=>?_,fun s' Ih id cL _=>?_⟩,hg,fun s' Ih _ Ig=>h2 s' Ih (Ig hh ?_)⟩,h1⟩
     ·have:id≠hh:=by simpa [lu,hf]using cL
      exact List.getElem?_set_ne (Ne.symm this)
     ·have:id=hh:=by simpa [lu,hf]using cL
      subst this
      by_cases az:id<s.length
      ·rw[List.getElem?_set_self az,List.getElem?_set_self (by omega)]
      ·rw[List.getElem?_eq_none (by simp;omega),List.getElem?_eq_none (by simp;omega)]
     ·unfold Kn
      rw[hf]
      simpa using hr
    ·rename_i hh VW
     obtain⟨hr,h⟩:=h
     obtain⟨v,o',h1,h2⟩:=KH (full:=full) h
     refine⟨v,fun s=>s.set hh o',⟨fun _ s=>⟨by simp,fun id cL=>?_,fun s' Ih id cL Qr=>?_⟩,hg,fun s' Ih _ Ig=>h2 s' Ih (Ig hh ?_)⟩,h1⟩
     ·have:id≠hh:=by
       intro he;subst he;simp [lu,hf]at cL
      exact List.getElem?_set_ne (Ne.symm this)
     ·by_cases he:id=hh
      ·subst he
       by_cases az:id<s.length
       ·rw[List.getElem?_set_self az,List.getElem?_set_self (by omega)]
       ·rw[List.getElem?_eq_none (by simp;omega),List.getElem?_eq_none (by simp;omega)]
      ·rw[List.getElem?_set_ne (Ne.symm he),List.getElem?_set_ne (Ne.symm he)]
       exact Qr.symm
     ·unfold Kn
      rw[hf]
      simpa using hr
    ·rename_i hh VW Zv
     obtain⟨hr,h⟩:=h
     obtain⟨v,o',h1,h2⟩:=Md (full:=full) h
     refine⟨v,fun s=>s.set hh o',⟨fun _ s=>⟨by simp,fun id cL=>?_,fun s' Ih id cL Qr=>?_⟩,hg,fun s' Ih _ Ig=>h2 s' Ih (Ig hh ?_) fun id cL=>Ig id (by unfold Kn;rw[hf];exact cL)⟩,h1⟩
     ·have:id≠hh:=by
       intro he;subst he;simp [lu,hf]at cL
      exact List.getElem?_set_ne (Ne.symm this)
     ·by_cases he:id=hh
      ·subst he
       by_cases az:id<s.length
       ·rw[List.getElem?_set_self az,List.getElem?_set_self (by omega)]
       ·rw[List.getElem?_eq_none (by simp;omega),List.getElem?_eq_none (by simp;omega)]
      ·rw[List.getElem?_set_ne (Ne.symm he),List.getElem?_set_ne (Ne.symm he)]
       exact Qr.symm
     ·unfold Kn
      rw[hf]
      simpa using hr
    ·exact h.elim
def ft (P:Program) (N:Nat) (full:List Oper) (bars:List Nat) (fs:cd):Nat->List Oper->Env->List Obj->(Env->List Obj->Prop)->Prop
 |_,[],e,s,K=>K e s
 |i,o::rest,e,s,K=>dz N o.dst/\match o.guard with
  |none=>match o.op with
   |.pick c a b=>bars.contains i=false/\fC fs i=none/\fz (ev e c) (ft P N full bars fs (i+1) rest (gp e o.dst (ev e a)) s K) (ft P N full bars fs (i+1) rest (gp e o.dst (ev e b)) s K)
   |_=>eg P bars fs i o e s fun v s1=>ft P N full bars fs (i+1) rest (gp e o.dst v) s1 K
  |some (g,want)=>jA (jV full g) e want (fun e=>eg P bars fs i o e s fun v s1=>ft P N full bars fs (i+1) rest (gp e o.dst v) s1 K)
    (fun e=>ft P N full bars fs (i+1) rest (gp e o.dst .un) s K)
theorem oC {P:Program}{N:Nat}{full:List Oper}{bars:List Nat}{fs:cd}:∀(l:List Oper) (i:Nat) (e:Env) (s:List Obj) (K:Env->List Obj->Prop),ft P N full bars fs i l e s K ->
  ∃tr e' s',Trace P N full bars fs i l tr e s e' s'/\K e' s'
 |[],i,e,s,K,h=>⟨[],e,s,⟨rfl,rfl⟩,h⟩
 |o::rest,i,e,s,K,h=>by
  obtain⟨hd,h⟩:=h
  have run:(∀g want,o.guard=some (g,want)->∃d,jV full g=some d/\e d=.d (.sc (.bool want)))->(eg P bars fs i o e s fun v s1=>ft P N full bars fs (i+1) rest (gp e o.dst v) s1 K) ->
    ∃tr e' s',Trace P N full bars fs i (o::rest) tr e s e' s'/\K e' s':=by
   intro hg h
   obtain⟨v,tf,h1,h2⟩:=I8 hg h
   obtain⟨tr,e',s',k1,k2⟩:=oC rest (i+1) _ _ K h2
   exact⟨⟨some v,tf⟩::tr,e',s',⟨hd,h1,k1⟩,k2⟩
  split at h
  ·rename_i hg
   have SO:∀g want,o.guard=some (g,want)->∃d,jV full g=some d/\e d=.d (.sc (.bool want)):=fun g want h=>by rw[hg]at h;cases h
   split at h
   ·rename_i c a b Om
    obtain⟨ly,Yj,h⟩:=h
    unfold fz at h
    split at h
    ·rename_i bb Wk
     have go:∀(v:V),(∀s',jD P o e s' v s')->ft P N full bars fs (i+1) rest (gp e o.dst v) s K->∃tr e' s',Trace P N full bars fs i (o::rest) tr e s e' s'/\K e' s':=by
      intro v hv h2
      obtain⟨tr,e',s',k1,k2⟩:=oC rest (i+1) _ _ K h2
      exact⟨⟨some v,fun s=>s⟩::tr,e',s',⟨hd,⟨fun _ s=>⟨rfl,fun _ _=>rfl,fun s' hl id hw _=>by simp [lu,Yj]at hw⟩,SO,fun s' _ _ _=>g9 (hv s')⟩,k1⟩,k2⟩
     cases bb with
     |true=>exact go _ (fun s'=>by simp [jD,cz,Om,fz,Wk]) (h.1 rfl)
     |false=>exact go _ (fun s'=>by simp [jD,cz,Om,fz,Wk]) (h.2 rfl)
    ·exact h.elim
   ·exact run SO h
  ·rename_i g want hg
   unfold jA at h
   split at h
   case h_1=>exact h.elim
   rename_i d OR
   have skip:(e d=.d (.sc (.bool (!want)))\/e d=.un)->ft P N full bars fs (i+1) rest (gp e o.dst .un) s K ->
     ∃tr e' s',Trace P N full bars fs i (o::rest) tr e s e' s'/\K e' s':=by
    intro hv h2
    obtain⟨tr,e',s',k1,k2⟩:=oC rest (i+1) _ _ K h2
    exact⟨⟨none,fun s=>s⟩::tr,e',s',⟨hd,⟨fun _ s=>⟨rfl,fun _ _=>rfl,fun s' hl id _ h=>h.symm⟩,fun _=>rfl,g,want,d,hg,OR,hv⟩,k1⟩,k2⟩
   split at h
   ·rename_i b hb
    by_cases VA:b=want
    ·subst VA
     have:=h.1 rfl
     rw[AM hb]at this
     exact run (fun g' Wz zP=>by rw[hg]at zP;cases zP;exact⟨d,OR,hb⟩) this
    ·have M5:b=!want:=by cases b <;> cases want <;> simp_all
     subst M5
     have:=h.2 rfl
     rw[AM hb]at this
     exact skip (.inl hb) this
   ·rename_i hb
    exact skip (.inr hb) h
   ·exact h.elim
def eX (P:Program) (N:Nat) (full:List Oper) (bars:List Nat) (fs:cd) (i:Nat) (rest:List Oper) (e:Env) (d:Option Nat) (K:Env->List Obj->Prop) (v:V) (s:List Obj):Prop:=ft P N full bars fs i rest (gp e d v) s K
theorem rC {P:Program}{N:Nat}{full:List Oper}{bars:List Nat}{fs:cd}{i:Nat}{rest:List Oper}{e:Env}{d:Option Nat}{K:Env->List Obj->Prop}{v:V}{s:List Obj}:eX P N full bars fs i rest e d K v s=ft P N full bars fs i rest (gp e d v) s K:=(rfl)
theorem tY {P:Program}{N:Nat}{full:List Oper}{bars:List Nat}{fs:cd}{i:Nat}{e:Env}{s:List Obj}{K:Env->List Obj->Prop}:ft P N full bars fs i [] e s K=K e s:=(rfl)
theorem ar {P:Program}{N:Nat}{full:List Oper} (hm:P.follows .mixedOrders=true) (bars:List Nat) (fs:cd) {e:Env}{s:List Obj}{K:Env->List Obj->Prop} (hd:iR full bars fs=true) (h:ft P N full bars fs 0 full e s K):qi P N full e s K:=by
 obtain⟨tr,e',s',h1,h2⟩:=oC _ _ _ _ _ h
 exact Ey hm hd h1 h2
theorem fg {P:Program}{f:FuncId}{args:List V}{r:V}{s:List Obj}{K:V->List Obj->Prop} (h:ba P f args r) (ha:ah.go 0 args=true) (hr:ah 0 r=true) (hk:K r s):OH P f args s K :=
 ⟨r,fun s'=>al h ha hr ⟨rfl,rfl⟩,hk⟩
theorem eh {P:Program}{f:FuncId}{args:List V}{s:List Obj}{K:V->List Obj->Prop}{r:V}{s1:List Obj} (h:aq P f args s fun v' xi=>v'=r/\xi=s1) (hk:K r s1):Oc P f args s K:=⟨r,s1,h,hk⟩
def bZ (e:Env) (s:List Obj) (e':Env) (s':List Obj):Prop :=
 ∀(σ0:Gh) (s0:List Obj) (w0:World) (σ:Gh) (w:World) (N:Nat) (a:Act),aA σ0 s0 w0 σ s w->Inv σ s w->dt σ s w N e a->∃σ',aA σ0 s0 w0 σ' s' w/\Inv σ' s' w/\dt σ' s' w N e' a
theorem aT {P:Program}{N:Nat}{full:List Oper}{e e':Env}{s s':List Obj}{K:Env->List Obj->Prop} (h:bZ e s e' s') (k:qi P N full e' s' K):qi P N full e s K:=by
 intro σ0 s0 w0 Q RH σ w a id hE hI hR
 obtain⟨σ',h1,h2,h3⟩:=h σ0 s0 w0 σ w N a hE hI hR
 exact k σ0 s0 w0 Q RH σ' w a id h1 h2 h3
def hole:Obj:=⟨0,true,0,[]⟩
theorem bZ.bk {e:Env}{s:List Obj}:bZ e s e (s++[hole]):=by
 intro σ0 s0 w0 σ w N a hE hI hR
 have:=l9 (p:=none) (o':=hole) (w':=w) hI rfl rfl rfl (Nat.le_refl _) (fun _ _=>rfl) (fun _ _ h'=>by cases h') (fun _=>.inl (.inl ⟨rfl,rfl⟩))
 exact⟨_,hE.trans this.1,this.2,hR.aO this.1⟩
theorem bZ.trans {e e' SN:Env}{s s' xi:List Obj} (h:bZ e s e' s') (k:bZ e' s' SN xi):bZ e s SN xi:=by
 intro σ0 s0 w0 σ w N a hE hI hR
 obtain⟨σ',h1,h2,h3⟩:=h σ0 s0 w0 σ w N a hE hI hR
 exact k σ0 s0 w0 σ' w N a h1 h2 h3
def lp (s:List Obj) (iX:List Nat) (e:Env):Env:=fun t=>if iX.contains t then fk s.length s (e t) else e t
theorem bZ.freeze {e:Env}{s:List Obj} (ids iX:List Nat):bZ e s (lp (ca s ids) iX e) (ca s ids):=by
 intro σ0 s0 w0 σ w N a hE hI hR
 obtain⟨h1,h2⟩:=qq ids s hI
 refine⟨σ,hE.trans h1,h2,hR.1,hR.2.1,fun t=>?_⟩
 unfold lp
 split
 ·have:=pV h2 (lim:=(ca s ids).length) ((hR.2.2 t).aO h1)
  rwa [List.take_length]at this
 ·exact(hR.2.2 t).aO h1
theorem aC {P:Program}{f:FuncId}{args:List V}{o o':Obj}{r:V}{rest:List Obj}{K:V->List Obj->Prop} (h:aq P f args [o] fun v s'=>v=r/\s'=[o']) (ha:args.map (aJ [0])=args) (z8:ah.go 1 args=true)
  (hoo:aQ 1 o=true) (ho:aP [0] o=o) (gE:aP [0] o'=o') (hr:aJ [0] r=r) (hk:K r (o'::rest)):aq P f args (o::rest) K:=by
 refine sJ h [0] rfl (by simp) (fun k ob hk=>?_) ha.symm z8 (by simp [hoo]) fun v s' hv=>?_
 ·cases k with
  |zero=>simp at hk;subst hk;simp [ho]
  |succ k=>simp at hk
 ·obtain⟨rfl,rfl⟩:=hv
  refine⟨rfl,?_⟩
  rw[hr]
  simpa [aH,gE]using hk
theorem qx {P:Program}{f:FuncId}{args:List V}{o o':Obj}{r:V}{rest:List Obj}{K:V->List Obj->Prop} (h:aq P f args [o] fun v s'=>v=r/\s'=[o']) (ha:args.map (aJ [0])=args) (z8:ah.go 1 args=true)
  (hoo:aQ 1 o=true) (ho:aP [0] o=o) (gE:aP [0] o'=o') (hr:aJ [0] r=r) (hk:K r (o'::rest)):EE P [0] [0] f args (o::rest) K:=by
 refine⟨r,[o'],rfl,fun s' hl hs=>?_,by simpa [aH]using hk⟩
 cases s' with
 |nil=>simp at hl
 |cons o1 Xj =>
  have:o1=o:=by have:=hs 0 (by simp);simpa using this
  subst this
  exact aC h ha z8 hoo ho gE hr ⟨rfl,by simp [aH]⟩
end Go.VL
