/- A part of the proof (Vq). -/
import Derived.Test.YtfmdmlfhigocaaaOR10
set_option linter.unusedSimpArgs false
set_option linter.unusedVariables false
set_option maxRecDepth 100000
set_option maxHeartbeats 80000000
namespace Go.VL
variable{e:Env}{f:FuncId}{P:Program}{o:Oper}{args:List V}{w:World}{id:Nat}{s:List Obj}{h:Nat}{full:List Oper}{K:V->List Obj->Prop}{s1:List Obj}{i:Nat}{fs:cI}{bars:List Nat}{N:Nat}{r:V}{e':Env}{s':List Obj}{rest:List Obj}
def mI (o:Oper) (e:Env):Option (Option (FuncId×List V)) :=
 match o.op with
 |.call c=>match c.callee with
  |.value (.func f)=>some (some (f,c.args.toList.map (ev e)))
  |.value x=>match FW (e 0) (ev e x) with
   |.cl (.func g) first ai=>some (some (g,first++c.args.toList.map (ev e)++ai))
   |_=>some none
  |.invoke ..=>some none
  |.builtin _=>none
 |_=>none
theorem DU (h:mI o e=some (some (f,args))) (s:List Obj) (K:V->List Obj->Prop):dg P o e s K=az P f args s K:=by
 obtain⟨dst,op,ty,pos,after,guard⟩:=o;cases op <;> try (simp [mI]at h;done)
 rename_i c;obtain⟨callee,cargs,argTypes⟩:=c;cases callee with
 |value x =>
  cases x with
  |func g=>simp only[mI,ai5,ajE]at h;obtain⟨rfl,rfl⟩:=h;rfl
  |tmp t =>
   simp only[mI]at h;split at h
   ·rename_i g first ai iy
    simp only[ai5,ajE]at h;obtain⟨rfl,rfl⟩:=h;simp only[dg,iJ,iy]
   ·cases h
  |const t =>
   simp only[mI]at h;split at h
   ·rename_i g first ai iy
    simp only[ai5,ajE]at h;obtain⟨rfl,rfl⟩:=h;simp only[dg,iJ,iy]
   ·cases h
  |global t =>
   simp only[mI]at h;split at h
   ·rename_i g first ai iy
    simp only[ai5,ajE]at h;obtain⟨rfl,rfl⟩:=h;simp only[dg,iJ,iy]
   ·cases h
 |invoke r m=>simp [mI]at h
 |builtin b=>simp [mI]at h
theorem ym (h:mI o e=none):Nr o=false:=by
 obtain⟨dst,op,ty,pos,after,guard⟩:=o;cases op <;> try rfl
 rename_i c;obtain⟨callee,cargs,argTypes⟩:=c;cases callee with
 |value x =>
  cases x with
  |func g=>simp [mI]at h
  |tmp t=>simp only[mI]at h;split at h <;> cases h
  |const t=>simp only[mI]at h;split at h <;> cases h
  |global t=>simp only[mI]at h;split at h <;> cases h
 |invoke r m=>rfl
 |builtin b=>rfl
def Xa (P:Program) (f:FuncId) (args:List V) (s:List Obj) (K:V->List Obj->Prop):Prop:=∃v,(∀s',az P f args s' λv' Co=>v'=v/\Co=s')/\K v s
def WE (P:Program) (f:FuncId) (args:List V) (s:List Obj) (K:V->List Obj->Prop):Prop:=∃v s1,(az P f args s λv' Co=>v'=v/\Co=s1)/\K v s1
def LC (P:Program) (rd wr:List Nat) (f:FuncId) (args:List V) (s:List Obj) (K:V->List Obj->Prop):Prop :=
 ∃v os,os.length=wr.length/\(∀s',s'.length=s.length->(∀id∈rd,s'[id]?=s[id]?)->az P f args s' λv' Co=>v'=v/\Co=aO s' wr os)/\K v (aO s wr os)
def NU:V->Bool
 |.d (.sl _)=>true
 |.fu _=>true
 |_=>false
theorem M9 {x:V} (h:NU x=true) (s s':List Obj):jj s' x=jj s x:=by
 unfold NU at h;split at h
 ·rfl
 ·rfl
 ·cases h
def XC (P:Program) (t t':TypeId) (aw:List (List D)) (x:V) (ob:Obj) (h:Nat) (s:List Obj) (K:V->List Obj->Prop):Prop :=
 match x,jk P t with
 |.fu ns,some (_,i)=>(t=t'/\0<ns.length/\0<i.sz/\0<i.Cx/\(aw.length+ns.length)*i.Cx<=140737488355328/\(∀e∈aw,e.length=i.sz)/\∀e∈ns,e.length=i.sz) /\
   K (.so h (ob.g+1) 0 (aw.length+ns.length)) (s.set h ⟨ob.g+1,true,i.sz,(aw++ns).map (·.map .d)⟩)
 |.d (.sl ns),some (_,i)=>(aw=[]/\t=t'/\0<i.sz/\0<i.Cx/\ns.length*i.Cx<=140737488355328/\∀e∈ns,e.length=i.sz) /\
   K (.so h (ob.g+1) 0 ns.length) (s.set h ⟨ob.g+1,true,i.sz,ns.map (·.map .d)⟩)
 |_,_=>False
def Wg (P:Program) (t:TypeId) (l c:V) (ob:Obj) (h:Nat) (s:List Obj) (K:V->List Obj->Prop):Prop :=
 match l,c,jk P t with
 |.d (.sc (.int _ n)),.d (.sc (.int _ m)),some (_,i)=>(0<=n/\n<=m/\i.Cx*m<=140737488355328/\m<=9223372036854775807/\0<i.sz) /\
   K (.so h (ob.g+1) 0 n.toNat) (s.set h ⟨ob.g+1,true,i.sz,List.replicate n.toNat (i.zero.map cv)⟩)
 |_,_,_=>False
def ZS (P:Program) (t:TypeId) (len:Nat) (parts:List (Nat×V)) (ob:Obj) (h:Nat) (s:List Obj) (K:V->List Obj->Prop):Prop :=
 match jk P t with
 |none=>False
 |some (_,i)=>(len*i.sz<=16777216/\0<i.sz)/\match uO i.sz (List.replicate len (i.zero.map cv)) parts with
  |none=>False
  |some aw=>(u6 aw=none/\∀e∈aw,∀x∈e,ak s.length x=true)/\K (.so h (ob.g+1) 0 len) (s.set h ⟨ob.g+1,true,i.sz,aw⟩)
theorem Wa (v:Value):ak 0 (cv v)=true:=by unfold cv;split <;> rfl
def SR (P:Program) (o:Oper) (e:Env) (s:List Obj) (h:Nat) (K:V->List Obj->Prop):Prop :=
 match s[h]? with
 |none=>False
 |some ob=>match o.op with
  |.alloc t=>ob.live=true/\match cH P t with
   |some i=>K (.rf h (ob.g+1) 0 0) (s.set h ⟨ob.g+1,true,i.sz,[i.zero.map cv]⟩)
   |none=>False
  |.box _ x=>ob.live=true/\match eH (ev e x) with
   |some cs=>K (.rf h (ob.g+1) 0 0) (s.set h ⟨ob.g+1,true,cs.length,[cs]⟩)
   |none=>False
  |.store t a x=>match ev e a with
   |.rf id _ _ _=>id=h/\iY P t s (ev e a) (ev e x) λs'=>K .un s'
   |.pp id _ _ _ _ _=>id=h/\iY P t s (ev e a) (ev e x) λs'=>K .un s'
   |_=>False
  |.makeSlice t l c=>Wg P t (ev e l) (ev e c) ob h s K
  |.buildSlice t n ps=>ZS P t n (ps.toList.map λp=>(p.1,ev e p.2)) ob h s K
  |.call c=>match c.callee,c.args.toList,c.argTypes.toList with
   |.builtin .append,[a,x],[t,t']=>match ev e a with
    |.so id _ _ _=>(id=h/\NU (ev e x)=true)/\t=t'/\dj P t (ev e a) (ev e x) s K
    |.fu aw=>XC P t t' aw (ev e x) ob h s K
    |_=>False
   |_,_,_=>False
  |_=>False
theorem T2 {σ:Gh} (hI:Inv σ s w){o:Obj} (ho:s[id]?=some o) (uT:o.live=true) {sz:Nat}{aw:List (List V)}{arr:Array Value} (E:TypeId) (hl:∀e∈aw,e.length=sz) (hs:aw.length*sz<=arr.size)
  (hc:∀(i j:Nat) (x:V),(aw[i]?.bind (·[j]?))=some x->∃u,arr[i*sz+j]?=some u/\u.oneCell'=true/\aC σ s w x u) :
  aG σ s w (pK σ id (some (w.heap.size,0))) (s.set id ⟨o.g+1,true,sz,aw⟩) (w.alloc (.cells arr E)) /\
  Inv (pK σ id (some (w.heap.size,0))) (s.set id ⟨o.g+1,true,sz,aw⟩) (w.alloc (.cells arr E)):=by
 refine oO (p:=some (w.heap.size,0)) hI ho uT rfl rfl rfl aj (λb hb _=>Go.RowKit.Below.heap_alloc w _ b hb)
  (λb base cE E' mJ hh=>⟨cE,by rw[Go.RowKit.Below.heap_alloc w _ b (eg hh)];exact hh,rfl⟩)
  (λb base mJ hm=>let ⟨es,c,hh⟩:=hm;⟨es,c,by rw[Go.RowKit.Below.heap_alloc w _ b (eg hh)];exact hh⟩) (Nat.le_succ _) (λh=>by simp at h) (λb base h=>by cases h;exact .inr (ajc _))
  (λhE=>.inr ⟨w.heap.size,0,arr,E,rfl,heap_alloc_new w _,hl,by simpa using hs,λi j x hx=>?_⟩)
 obtain⟨u,h1,h2,h3⟩:=hc i j x hx;exact⟨u,by simpa using h1,h2,h3.aZ hE⟩
theorem WU {σ:Gh} (du:id<s.length) {o:Obj}{b base:Nat} (hC:HZ w b):aC (pK σ id (some (b,base))) (s.set id o) w (.rf id o.g 0 0) (.pointer (some ⟨b,base,none⟩)) :=
 .rf o (by simp [du]) (ajc _) rfl (λ_=>⟨b,base,cc _ _ _,hC,aj⟩)
theorem Ug (ha:SR P o e s h K) :
  ∃v o',K v (s.set h o')/\∀s',s'.length=s.length->s'[h]?=s[h]?->OB P full o e s' v (s'.set h o'):=by
 obtain⟨dst,op,ty,pos,after,guard⟩:=o;unfold SR at ha;cases Pj:s[h]? with
 |none=>rw[Pj]at ha;exact ha.elim
 |some ob =>
  rw[Pj]at ha;simp only at ha;cases op <;> simp only at ha <;> try exact ha.elim
  case alloc t =>
   obtain⟨hl,ha⟩:=ha;split at ha
   case h_2=>exact ha.elim
   rename_i i hi;refine⟨_,_,ha,λs' hlen mJ σ w N a hI hR=>?_⟩;obtain⟨z,hz,hr,hs,YE⟩:=AM hi σ s' w;have:=T2 hI mJ hl (aw:=[i.zero.map cv]) (sz:=i.sz) (arr:=z.cells) t (by simp;rw[<- YE];simpa using hs) (by simp [hs]) (wQ hr i.sz);refine ft (u:=.pointer (some ⟨w.heap.size,0,none⟩)) (w':=w.alloc (.cells z.cells t)) ?_ this.1 this.2 (WU (o:=⟨ob.g+1,true,i.sz,[i.zero.map cv]⟩) (List.getElem?_eq_some_iff.1 mJ).1 ⟨_,_,heap_alloc_new w _⟩) ⟨rfl,rfl⟩;simp [execOp,Instr.alloc,hz,newVar,newRow]
  case box t x =>
   obtain⟨hl,ha⟩:=ha;split at ha
   case h_2=>exact ha.elim
   rename_i cs oq;refine⟨_,_,ha,λs' hlen mJ σ w N a hI hR=>?_⟩;have hm:ev (pJ full ⟨dst,.box t x,ty,pos,after,guard⟩ e) x=ev e x:=by
    cases x with
    |tmp t'=>simp [ev,pJ,Oper.looksAt,Op.operands]
    |_=>rfl
   have hx:=hR.ev x;rw[hm]at hx;have hr:yI σ s' w cs (a.eval x).cells:=nC hx oq;have:=T2 hI mJ hl (aw:=[cs]) (sz:=cs.length) (arr:=(a.eval x).cells) t aj (by simp [hr.1]) (wQ hr _);refine ft (u:=.pointer (some ⟨w.heap.size,0,none⟩)) (w':=w.alloc (.cells (a.eval x).cells t)) ?_ this.1 this.2 (WU (o:=⟨ob.g+1,true,cs.length,[cs]⟩) (List.getElem?_eq_some_iff.1 mJ).1 ⟨_,_,heap_alloc_new w _⟩) ⟨rfl,rfl⟩;simp [execOp,Instr.box,newVar,newRow]
  case store t x y =>
   split at ha
   case h_3=>exact ha.elim
   ·rename_i id g k off hx;obtain⟨rfl,ha⟩:=ha;unfold iY at ha;cases ht:cH P t with
    |none=>rw[ht]at ha;exact ha.elim
    |some i =>
     rw[ht]at ha;simp only[hx,Pj]at ha;obtain⟨h1,h2,ha⟩:=ha;split at ha
     ·exact ha.elim
     ·rename_i cs oq;split at ha
      ·exact ha.elim
      ·rename_i ns yH;obtain⟨h3,h4,ha⟩:=ha;refine⟨_,_,ha,λs' hlen mJ=>kt ?_⟩;unfold ml dg;simp only[iY,ht,hx,mJ,Pj,oq,yH];exact⟨h1,h2,h3,h4,trivial,trivial⟩
   ·rename_i id g k off b a' hx;obtain⟨rfl,ha⟩:=ha;unfold iY at ha;cases ht:cH P t with
    |none=>rw[ht]at ha;exact ha.elim
    |some i =>
     rw[ht]at ha;simp only[hx,Pj]at ha;obtain⟨h1,h2,ha⟩:=ha;split at ha
     ·exact ha.elim
     ·rename_i cs oq;split at ha
      ·exact ha.elim
      ·rename_i ns yH;obtain⟨h3,h4,ha⟩:=ha;refine⟨_,_,ha,λs' hlen mJ=>kt ?_⟩;unfold ml dg;simp only[iY,ht,hx,mJ,Pj,oq,yH];exact⟨h1,h2,h3,h4,trivial,trivial⟩
  case buildSlice t n ps =>
   unfold ZS at ha;cases ck:jk P t with
   |none=>rw[ck]at ha;exact ha.elim
   |some ei =>
    obtain⟨ee,i⟩:=ei;rw[ck]at ha;simp only at ha;obtain⟨h1,ha⟩:=ha;cases hfi:uO i.sz (List.replicate n (i.zero.map cv)) (ps.toList.map λp=>(p.1,ev e p.2)) with
    |none=>rw[hfi]at ha;exact ha.elim
    |some aw =>
     rw[hfi]at ha;simp only at ha;obtain⟨⟨zF,hrf⟩,ha⟩:=ha;refine⟨_,_,ha,λs' hlen mJ σ w N a0 hI hR=>?_⟩;have Is:ml P ⟨dst,.buildSlice t n ps,ty,pos,after,guard⟩ e s' (.so s'.length 0 0 n) (s'++[⟨0,true,i.sz,aw⟩]):=by unfold ml dg;simp only;unfold e9;rw[ck];simp only[hfi,zF];exact⟨h1,trivial,trivial⟩
     refine Oper.wp_mono (λa' w' ⟨u,v,σ',s1,Q5,yd,ko,qp,Wq,Ze⟩=>?_) (kt Is σ w N a0 hI hR);subst Wq Ze;obtain⟨m1,m2,m3⟩:=Em hI yd ko mJ rfl (λi' j x' kS=>by
      right;rw[hlen];cases hq:aw[i']? with
      |none=>rw[hq]at kS;cases kS
      |some c =>
       rw[hq]at kS;exact hrf c (ai4 hq) x' (ai4 kS))
     exact⟨u,_,_,_,Q5,m1,m2,m3 _ _ _ qp,rfl,rfl⟩
  case makeSlice t l c =>
   unfold Wg at ha;split at ha
   case h_2=>exact ha.elim
   rename_i k1 n k2 m ee i hl hc ck;obtain⟨h1,ha⟩:=ha;refine⟨_,_,ha,λs' hlen mJ σ w N a0 hI hR=>?_⟩;have Is:ml P ⟨dst,.makeSlice t l c,ty,pos,after,guard⟩ e s' (.so s'.length 0 0 n.toNat) (s'++[⟨0,true,i.sz,List.replicate n.toNat (i.zero.map cv)⟩]):=by unfold ml dg;simp only;unfold gY;rw[hl,hc,ck];exact⟨h1,rfl,rfl⟩
   refine Oper.wp_mono (λa' w' ⟨u,v,σ',s1,Q5,yd,ko,qp,Wq,Ze⟩=>?_) (kt Is σ w N a0 hI hR);subst Wq Ze;obtain⟨m1,m2,m3⟩:=oX hI yd ko mJ rfl (λi' j x' kS=>by
    cases hq:(List.replicate n.toNat (i.zero.map cv))[i']? with
    |none=>rw[hq]at kS;cases kS
    |some e' =>
     have he:=List.eq_of_mem_replicate (ai4 hq);subst he;rw[hq]at kS;simp only[ajM,aiY]at kS;obtain⟨d,_,rfl⟩:=Option.map_eq_some_iff.1 kS;exact Wa d)
   exact⟨u,_,_,_,Q5,m1,m2,m3 _ _ _ qp,rfl,rfl⟩
  case call c =>
   split at ha
   case h_2=>exact ha.elim
   rename_i a x t t' FP AE Tl;split at ha
   case h_3=>exact ha.elim
   case h_2 =>
    rename_i aw hx;obtain⟨callee,args,Jp⟩:=c;simp only at FP AE Tl;subst FP;unfold XC at ha;split at ha
    case h_3=>exact ha.elim
    case h_2 =>
     rename_i ns ee i hy ck;obtain⟨⟨rfl,rfl,h2,h3,h4,h6⟩,ha⟩:=ha;refine⟨_,_,ha,λs' hlen mJ σ w N a0 hI hR=>?_⟩;have Is:ml P ⟨dst,.call ⟨.builtin .append,args,Jp⟩,ty,pos,after,guard⟩ e s' (.so s'.length 0 0 ns.length) (s'++[⟨0,true,i.sz,ns.map (·.map .d)⟩]):=by
      unfold ml dg iJ;simp only[AE,Tl,eq_self,if_true];unfold dj;rw[hx,hy,ck];have tO:jj s' (.d (.sl ns))=some (ns.map (·.map .d)):=rfl;rw[tO];refine⟨⟨λe he=>?_,h2,h3⟩,?_⟩
      ·obtain⟨d,hd,rfl⟩:=List.mem_map.1 he;simpa using h6 d hd
      ·simp only;refine⟨⟨.inl trivial,by simpa using h4,aj⟩,?_,?_⟩ <;> simp
     refine Oper.wp_mono (λa' w' ⟨u,v,σ',s1,Q5,yd,ko,qp,Wq,Ze⟩=>?_) (kt Is σ w N a0 hI hR);subst Wq Ze;obtain⟨m1,m2,m3⟩:=oX hI yd ko mJ rfl (λi' j x' kS=>by
      rw[aiY]at kS;cases hq:ns[i']? with
      |none=>rw[hq]at kS;cases kS
      |some c =>
       rw[hq]at kS;simp only[ai3,ajM,aiY]at kS;obtain⟨d,_,rfl⟩:=Option.map_eq_some_iff.1 kS;rfl)
     exact⟨u,_,_,_,Q5,m1,m2,m3 _ _ _ qp,rfl,rfl⟩
    rename_i ns ee i hy ck;obtain⟨⟨rfl,h1,h2,h3,h4,h5,h6⟩,ha⟩:=ha;refine⟨_,_,ha,λs' hlen mJ σ w N a0 hI hR=>?_⟩;have aB:h<s'.length:=gN mJ;have Is:ml P ⟨dst,.call ⟨.builtin .append,args,Jp⟩,ty,pos,after,guard⟩ e s' (.so s'.length 0 0 (aw.length+ns.length)) (s'++[⟨0,true,i.sz,(aw++ns).map (·.map .d)⟩]):=by
     unfold ml dg iJ;simp only[AE,Tl,eq_self,if_true];unfold dj;rw[hx,hy,ck];have tO:jj s' (.fu ns)=some (ns.map (·.map .d)):=rfl;rw[tO];refine⟨⟨λe he=>?_,h2,h3⟩,?_⟩
     ·obtain⟨d,hd,rfl⟩:=List.mem_map.1 he;simpa using h6 d hd
     ·simp only;refine⟨⟨.inr (by simpa using h1),by simpa using h4,h5⟩,?_,?_⟩
      ·simp
      ·simp [akf]
    refine Oper.wp_mono (λa' w' ⟨u,v,σ',s1,Q5,yd,ko,qp,Wq,Ze⟩=>?_) (kt Is σ w N a0 hI hR);subst Wq Ze;obtain⟨m1,m2,m3⟩:=oX hI yd ko mJ rfl (λi' j x' kS=>by
     rw[aiY]at kS;cases hq:(aw++ns)[i']? with
     |none=>rw[hq]at kS;cases kS
     |some c =>
      rw[hq]at kS;simp only[ai3,ajM,aiY]at kS;obtain⟨d,_,rfl⟩:=Option.map_eq_some_iff.1 kS;rfl)
    exact⟨u,_,_,_,Q5,m1,m2,m3 _ _ _ qp,rfl,rfl⟩
   rename_i id g lo n hx;obtain⟨⟨rfl,ki⟩,rfl,ha⟩:=ha;obtain⟨callee,args,Jp⟩:=c;simp only at FP AE Tl;subst FP;unfold dj at ha;cases ck:jk P t with
   |none=>rw[ck]at ha;exact ha.elim
   |some ei =>
    obtain⟨ee,i⟩:=ei;rw[ck]at ha;simp only at ha;cases yH:jj s (ev e x) with
    |none=>rw[yH]at ha;exact ha.elim
    |some ns =>
     rw[yH]at ha;simp only[hx,wo,Pj]at ha;obtain⟨h1,h2,h3,ha⟩:=ha;refine⟨_,_,ha,λs' hlen mJ=>kt ?_⟩;unfold ml dg iJ;simp only[AE,Tl,eq_self,if_true];unfold dj;rw[M9 ki s s',yH,ck];simp only[hx,wo,mJ,Pj];exact⟨h1,h2,h3,trivial,trivial⟩
def TR (P:Program) (o:Oper) (e:Env) (s:List Obj) (h:Nat) (K:V->List Obj->Prop):Prop :=
 match s[h]? with
 |none=>False
 |some ob=>match o.op with
  |.call c=>match c.callee,c.args.toList,c.argTypes.toList with
   |.builtin .append,[a,x],[t,t']=>match ev e a,ev e x,jk P t with
    |.cap cl _ (.so id g lo n),.fu ns,some (_,i)=>(id=h/\ob.g=g/\ob.live=true/\t=t'/\ob.sz=i.sz/\(∀e∈ns,e.length=i.sz)/\0<i.sz/\0<ns.length/\lo+n<=ob.aw.length/\n+ns.length<=cl) /\
      K (.so id g lo (n+ns.length)) (s.set h ⟨g,true,i.sz,ob.aw.take (lo+n)++ns.map (·.map .d)++ob.aw.drop (lo+n+ns.length)⟩)
    |_,_,_=>False
   |_,_,_=>False
  |_=>False
def S0 (P:Program) (o:Oper) (e:Env) (s:List Obj) (rd:List Nat) (h:Nat) (K:V->List Obj->Prop):Prop :=
 match s[h]? with
 |none=>False
 |some ob=>match o.op with
  |.call c=>match c.callee,c.args.toList,c.argTypes.toList with
   |.builtin .append,[a,x],[t,t']=>match ev e a,ev e x,jk P t with
    |.cap _ ch (.so id g lo n),.fu ns,some (_,i)=>match s[id]? with
     |none=>False
     |some o=>(rd.contains id=true/\o.g=g/\t=t'/\o.sz=i.sz/\(∀e∈ns,e.length=i.sz)/\0<i.sz/\0<i.Cx/\0<ns.length/\lo+n<=o.aw.length/\ch<n+ns.length/\(n+ns.length)*i.Cx<=140737488355328 /\
       (∀e∈o.aw,∀x∈e,ak 0 x=true))/\K (.so h (ob.g+1) 0 (n+ns.length)) (s.set h ⟨ob.g+1,true,i.sz,(o.aw.drop lo).take n++ns.map (·.map .d)⟩)
    |_,_,_=>False
   |_,_,_=>False
  |_=>False
theorem Aa{dst:Option Nat}{ty:TypeId}{pos:String}{after:Array Edge}{guard:Option (Nat×Bool)}{a x:Operand}{Jp:Array TypeId}:∀y,y∈[a,x]->ev (pJ full ⟨dst,.call ⟨.builtin .append,#[a,x],Jp⟩,ty,pos,after,guard⟩ e) y=ev e y:=by
 intro y hy;cases y with
 |tmp k =>
  have hk:k∈(⟨dst,.call ⟨.builtin .append,#[a,x],Jp⟩,ty,pos,after,guard⟩:Oper).looksAt full.toArray:=List.mem_append_left _ (List.mem_filterMap.2 ⟨.tmp k,by
   simp only[ajF,ajP,or_false]at hy;rcases hy with rfl|rfl <;> simp [Op.operands,Call.operands],rfl⟩)
  simp [ev,pJ,hk]
 |_=>rfl
theorem SK (ha:TR P o e s h K) :
  ∃v o',K v (s.set h o')/\∀s',s'.length=s.length->s'[h]?=s[h]?->OB P full o e s' v (s'.set h o'):=by
 obtain⟨dst,op,ty,pos,after,guard⟩:=o;unfold TR at ha;cases Pj:s[h]? with
 |none=>rw[Pj]at ha;exact ha.elim
 |some ob =>
  rw[Pj]at ha;simp only at ha;cases op <;> simp only at ha <;> try exact ha.elim
  rename_i c;split at ha
  case h_2=>exact ha.elim
  rename_i a x t t' FP AE Tl;split at ha
  case h_2=>exact ha.elim
  rename_i cl ch id g lo n ns ee i ZF hex ck;obtain⟨⟨rfl,hg,hl,rfl,fY,hz,hp,hn,hle,hr⟩,ha⟩:=ha;refine⟨_,_,ha,λs' hlen mJ σ w N a0 hI hR=>?_⟩;obtain⟨callee,args,Jp⟩:=c;simp only at FP AE Tl;subst FP;have e1:args=#[a,x]:=Array.toList_inj.1 (by rw[AE]);have e2:Jp=#[t,t]:=Array.toList_inj.1 (by rw[Tl]);subst e1 e2;have ra:=hR.ev a;rw[Aa a aj,ZF]at ra;have rx:=hR.ev x;rw[Aa x aj,hex]at rx;cases ra with|cap BK ra=>?_
  obtain⟨r,σ',w',k1,k2,k3,k4⟩:=KK (ty:=ty) hI ra BK rx rfl ck mJ hg fY (λe he=>by
   obtain⟨d,hd,rfl⟩:=List.mem_map.1 he;simpa using hz d hd) hp (by simpa using hn) hle hl (by simpa using hr)
  rw[aiW]at k2 k3 k4;exact ft (by simp [execOp,resolve,invoke,builtin,k1]) k2 k3 k4 ⟨rfl,rfl⟩
theorem Ui{rd:List Nat} (ha:S0 P o e s rd h K) :
  ∃v o',K v (s.set h o')/\∀s',s'.length=s.length->s'[h]?=s[h]?->(∀id∈rd,s'[id]?=s[id]?)->OB P full o e s' v (s'.set h o'):=by
 obtain⟨dst,op,ty,pos,after,guard⟩:=o;unfold S0 at ha;cases Pj:s[h]? with
 |none=>rw[Pj]at ha;exact ha.elim
 |some ob =>
  rw[Pj]at ha;simp only at ha;cases op <;> simp only at ha <;> try exact ha.elim
  rename_i c;split at ha
  case h_2=>exact ha.elim
  rename_i a x t t' FP AE Tl;split at ha
  case h_2=>exact ha.elim
  rename_i cl ch id g lo n ns ee i ZF hex ck;split at ha
  ·exact ha.elim
  rename_i o ho;obtain⟨⟨Jt,hg,rfl,fY,hz,hp,hbp,hn,hle,hr,hb,hd⟩,ha⟩:=ha;refine⟨_,_,ha,λs' hlen mJ PU σ w N a0 hI hR=>?_⟩;obtain⟨callee,args,Jp⟩:=c;simp only at FP AE Tl;subst FP;have e1:args=#[a,x]:=Array.toList_inj.1 (by rw[AE]);have e2:Jp=#[t,t]:=Array.toList_inj.1 (by rw[Tl]);subst e1 e2;have ra:=hR.ev a;rw[Aa a aj,ZF]at ra;have rx:=hR.ev x;rw[Aa x aj,hex]at rx;cases ra with|cap BK ra=>?_
  have jV:s'[id]?=some o:=(PU id (by simpa using Jt)).trans ho;obtain⟨r,σ',w',k1,k2,k3,k4⟩:=Kk (ty:=ty) hI ra BK rx rfl ck jV hg fY (λe he=>by
   obtain⟨d,hd,rfl⟩:=List.mem_map.1 he;simpa using hz d hd) hp (by simpa using hn) hle hbp (by simpa using hb) (by simpa using hr)
  rw[aiW]at k4;obtain⟨m1,m2,m3⟩:=oX hI k2 k3 mJ rfl (λi' j x' kS=>by
   simp only at kS;cases hq:((o.aw.drop lo).take n++ns.map (·.map .d))[i']? with
   |none=>rw[hq]at kS;cases kS
   |some c =>
    rw[hq]at kS;have hm:=ai4 kS;rcases List.mem_append.1 (ai4 hq) with hc|hc
    ·exact hd c (akk (ajT hc)) x' hm
    ·obtain⟨dd,_,rfl⟩:=List.mem_map.1 hc;obtain⟨y,_,rfl⟩:=List.mem_map.1 hm;rfl)
  exact ft (by simp [execOp,resolve,invoke,builtin,k1]) m1 m2 (m3 _ _ _ k4) ⟨rfl,rfl⟩
def Tb (s:List Obj) (K:V->List Obj->Prop) (v:V) (s1:List Obj):Prop:=s1=s/\K v s
theorem vJ{v:V}:Tb s K v s1=(s1=s/\K v s):=(rfl)
def IQ (o:Oper) (e:Env) (ws:List Nat):Bool:=Rs o&&(td e o).all λid=>!ws.contains id
def Ve (o:Oper) (e:Env) (rd:List Nat):Bool:=Rs o&&(td e o).all λid=>rd.contains id
def fF (P:Program) (bars:List Nat) (fs:cI) (i:Nat) (o:Oper) (e:Env) (s:List Obj) (K:V->List Obj->Prop):Prop :=
 match bars.contains i with
 |true=>match mI o e with
  |some (some (f,args))=>WE P f args s K
  |some none=>False
  |none=>dg P o e s K
 |false=>match iP fs i with
  |none=>match mI o e with
   |some (some (f,args))=>Xa P f args s K
   |some none=>False
   |none=>IQ o e (I6 fs)=true/\dg P o e s (Tb s K)
  |some (rd,wr)=>match mI o e with
   |some (some (f,args))=>LC P rd wr f args s K
   |some none=>False
   |none=>match wr with
    |[]=>Ve o e rd=true/\dg P o e s (Tb s K)
    |[h]=>rd.contains h=true/\SR P o e s h K
    |[h,_]=>rd.contains h=true/\TR P o e s h K
    |[h,_,_]=>rd.contains h=true/\S0 P o e s rd h K
    |_=>False
theorem zg:∀(ρ:List Nat) (os:List Obj) (s s':List Obj) (id:Nat),id∈ρ->os.length=ρ.length->s.length=s'.length->(aO s ρ os)[id]?=(aO s' ρ os)[id]?
 |[],_,_,_,_,h,_,_=>by cases h
 |r::ρ,[],_,_,_,_,h,_=>by simp at h
 |r::ρ,o::os,s,s',id,h,hl,hs=>by
  simp only[aO];by_cases hm:id∈ρ
  ·exact zg ρ os _ _ id hm (by simpa using hl) (by simpa using hs)
  ·have:id=r:=by rcases List.mem_cons.1 h with h|h;exact h;exact absurd h hm
   subst this;rw[iu ρ os _ _ hm,iu ρ os _ _ hm];by_cases aB:id<s.length
   ·rw[ajm aB,ajm ae]
   ·rw[ajH cG,ajH cG]
theorem Q2 (hg:∀g want,o.guard=some (g,want)->∃d,mN full g=some d/\e d=.d (.sc (.bool want))) (h:fF P bars fs i o e s K) :
  ∃v tf,OV P full bars fs i o ⟨some v,tf⟩ e s/\K v (tf s):=by
 unfold fF at h;cases hb:bars.contains i with
 |true =>
  rw[hb]at h;simp only at h;have bar:∀v s1,ml P o e s v s1->K v s1->∃v tf,OV P full bars fs i o ⟨some v,tf⟩ e s/\K v (tf s):=by intro v s1 h1 h2;refine⟨v,λ_=>s1,⟨(λh=>by rw[hb]at h;cases h),hg,λs' _ h' _=>?_⟩,h2⟩;rw[h' hb];exact kt h1
  split at h
  ·rename_i f args hc;obtain⟨v,s1,h1,h2⟩:=h;exact bar v s1 (by unfold ml;rw[DU hc];exact h1) h2
  ·exact h.elim
  ·rename_i hc;obtain⟨v,s1,h1,h2⟩:=Nf (ym hc) _ h;exact bar v s1 h1 h2
 |false =>
  rw[hb]at h;simp only at h;cases hf:iP fs i with
  |none =>
   rw[hf]at h;simp only at h;have aaG:Ou fs i λs=>s:=λs=>⟨rfl,λ_ _=>rfl,λs' hl id hw _=>by simp [oL,hf]at hw⟩
   split at h
   ·rename_i f args hc;obtain⟨v,h1,h2⟩:=h;exact⟨v,λs=>s,⟨λ_=>aaG,hg,λs' _ _ _=>kt (by unfold ml;rw[DU hc];exact h1 s')⟩,h2⟩
   ·exact h.elim
   ·rename_i hc;obtain⟨hr,h⟩:=h;obtain⟨v,s1,h1,h2,h3⟩:=Nf (ym hc) _ h;subst h2;simp only[IQ,aji,ajo,Bool.not_eq_true',List.contains_eq_mem,decide_eq_false_iff_not]at hr;refine⟨v,λs=>s,⟨λ_=>aaG,hg,λs' _ _ PU=>kt (Kv hr.1 (λid du=>PU id ?_) h1)⟩,h3⟩;unfold Sr;rw[hf];exact hr.2 id du
  |some rw' =>
   obtain⟨rd,wr⟩:=rw';rw[hf]at h;simp only at h;split at h
   ·rename_i f args hc;obtain⟨v,os,hl,h1,h2⟩:=h;refine⟨v,λs=>aO s wr os,⟨λ_ s=>⟨pz _ _ _,λid du=>iu _ _ _ _ (by simpa [oL,hf]using du),λs' OA id du _=>zg _ _ _ _ _ (by simpa [oL,hf]using du) hl OA.symm⟩,hg,
     λs' OA _ PU=>kt (by unfold ml;rw[DU hc];exact h1 s' OA λid du=>PU id (by unfold Sr;rw[hf];exact du))⟩,h2⟩
   ·exact h.elim
   ·rename_i hc;split at h
    ·obtain⟨hr,h⟩:=h;obtain⟨v,s1,h1,h2,h3⟩:=Nf (ym hc) _ h;subst h2;simp only[Ve,aji,ajo,List.contains_eq_mem,decide_eq_true_eq]at hr;refine⟨v,λs=>s,⟨λ_ s=>⟨rfl,λ_ _=>rfl,λs' hl id hw _=>by simp [oL,hf]at hw⟩,hg,λs' _ _ PU=>kt (Kv hr.1 (λid du=>PU id ?_) h1)⟩,h3⟩;unfold Sr;rw[hf];exact hr.2 id du
    ·rename_i hh;obtain⟨hr,h⟩:=h;obtain⟨v,o',h1,h2⟩:=Ug (full:=full) h;refine⟨v,λs=>s.set hh o',⟨λ_ s=>⟨aj,λid du=>?_,λs' OA id du _=>?_⟩,hg,λs' OA _ PU=>h2 s' OA (PU hh ?_)⟩,h1⟩
     ·have:id≠hh:=by simpa [oL,hf]using du
      exact ajy (Ne.symm this)
     ·have:id=hh:=by simpa [oL,hf]using du
      subst this;by_cases aB:id<s.length
      ·rw[ajm aB,ajm ae]
      ·rw[ajH cG,ajH cG]
     ·unfold Sr;rw[hf];simpa using hr
    ·rename_i hh hh2;obtain⟨hr,h⟩:=h;obtain⟨v,o',h1,h2⟩:=SK (full:=full) h;refine⟨v,λs=>s.set hh o',⟨λ_ s=>⟨aj,λid du=>?_,λs' OA id du Y0=>?_⟩,hg,λs' OA _ PU=>h2 s' OA (PU hh ?_)⟩,h1⟩
     ·have:id≠hh:=by intro he;subst he;simp [oL,hf]at du
      exact ajy (Ne.symm this)
     ·by_cases he:id=hh
      ·subst he;by_cases aB:id<s.length
       ·rw[ajm aB,ajm ae]
       ·rw[ajH cG,ajH cG]
      ·rw[ajy (Ne.symm he),ajy (Ne.symm he)];exact Y0.symm
     ·unfold Sr;rw[hf];simpa using hr
    ·rename_i hh hh2 hh3;obtain⟨hr,h⟩:=h;obtain⟨v,o',h1,h2⟩:=Ui (full:=full) h;refine⟨v,λs=>s.set hh o',⟨λ_ s=>⟨aj,λid du=>?_,λs' OA id du Y0=>?_⟩,hg,λs' OA _ PU=>h2 s' OA (PU hh ?_) λid du=>PU id (by unfold Sr;rw[hf];exact du)⟩,h1⟩
     ·have:id≠hh:=by intro he;subst he;simp [oL,hf]at du
      exact ajy (Ne.symm this)
     ·by_cases he:id=hh
      ·subst he;by_cases aB:id<s.length
       ·rw[ajm aB,ajm ae]
       ·rw[ajH cG,ajH cG]
      ·rw[ajy (Ne.symm he),ajy (Ne.symm he)];exact Y0.symm
     ·unfold Sr;rw[hf];simpa using hr
    ·exact h.elim
def iE (P:Program) (N:Nat) (full:List Oper) (bars:List Nat) (fs:cI):Nat->List Oper->Env->List Obj->(Env->List Obj->Prop)->Prop
 |_,[],e,s,K=>K e s
 |i,o::rest,e,s,K=>eP N o.dst/\match o.guard with
  |none=>match o.op with
   |.pick c a b=>bars.contains i=false/\iP fs i=none/\iM (ev e c) (iE P N full bars fs (i+1) rest (jJ e o.dst (ev e a)) s K) (iE P N full bars fs (i+1) rest (jJ e o.dst (ev e b)) s K)
   |_=>fF P bars fs i o e s λv s1=>iE P N full bars fs (i+1) rest (jJ e o.dst v) s1 K
  |some (g,want)=>mh (mN full g) e want (λe=>fF P bars fs i o e s λv s1=>iE P N full bars fs (i+1) rest (jJ e o.dst v) s1 K)
    (λe=>iE P N full bars fs (i+1) rest (jJ e o.dst .un) s K)
theorem sJ {P:Program}{N:Nat}{full:List Oper}{bars:List Nat}{fs:cI}:∀(l:List Oper) (i:Nat) (e:Env) (s:List Obj) (K:Env->List Obj->Prop),iE P N full bars fs i l e s K ->
  ∃tr e' s',Trace P N full bars fs i l tr e s e' s'/\K e' s'
 |[],i,e,s,K,h=>⟨[],e,s,⟨rfl,rfl⟩,h⟩
 |o::rest,i,e,s,K,h=>by
  obtain⟨hd,h⟩:=h;have run:(∀g want,o.guard=some (g,want)->∃d,mN full g=some d/\e d=.d (.sc (.bool want)))->(fF P bars fs i o e s λv s1=>iE P N full bars fs (i+1) rest (jJ e o.dst v) s1 K) ->
    ∃tr e' s',Trace P N full bars fs i (o::rest) tr e s e' s'/\K e' s':=by
   intro hg h;obtain⟨v,tf,h1,h2⟩:=Q2 hg h;obtain⟨tr,e',s',k1,k2⟩:=sJ rest (i+1) _ _ K h2;exact⟨⟨some v,tf⟩::tr,e',s',⟨hd,h1,k1⟩,k2⟩
  split at h
  ·rename_i hg;have ZK:∀g want,o.guard=some (g,want)->∃d,mN full g=some d/\e d=.d (.sc (.bool want)):=λg want h=>by rw[hg]at h;cases h
   split at h
   ·rename_i c a b An;obtain⟨oM,hnf,h⟩:=h;unfold iM at h;split at h
    ·rename_i bb hbb;have go:∀(v:V),(∀s',ml P o e s' v s')->iE P N full bars fs (i+1) rest (jJ e o.dst v) s K->∃tr e' s',Trace P N full bars fs i (o::rest) tr e s e' s'/\K e' s':=by intro v hv h2;obtain⟨tr,e',s',k1,k2⟩:=sJ rest (i+1) _ _ K h2;exact⟨⟨some v,λs=>s⟩::tr,e',s',⟨hd,⟨λ_ s=>⟨rfl,λ_ _=>rfl,λs' hl id hw _=>by simp [oL,hnf]at hw⟩,ZK,λs' _ _ _=>kt (hv s')⟩,k1⟩,k2⟩
     cases bb with
     |true=>exact go _ (λs'=>by simp [ml,dg,An,iM,hbb]) (h.1 rfl)
     |false=>exact go _ (λs'=>by simp [ml,dg,An,iM,hbb]) (h.2 rfl)
    ·exact h.elim
   ·exact run ZK h
  ·rename_i g want hg;unfold mh at h;split at h
   case h_1=>exact h.elim
   rename_i d Xm;have skip:(e d=.d (.sc (.bool (!want)))\/e d=.un)->iE P N full bars fs (i+1) rest (jJ e o.dst .un) s K ->
     ∃tr e' s',Trace P N full bars fs i (o::rest) tr e s e' s'/\K e' s':=by
    intro hv h2;obtain⟨tr,e',s',k1,k2⟩:=sJ rest (i+1) _ _ K h2;exact⟨⟨none,λs=>s⟩::tr,e',s',⟨hd,⟨λ_ s=>⟨rfl,λ_ _=>rfl,λs' hl id _ h=>h.symm⟩,λ_=>rfl,g,want,d,hg,Xm,hv⟩,k1⟩,k2⟩
   split at h
   ·rename_i b hb;by_cases hbw:b=want
    ·subst hbw;have:=h.1 rfl;rw[G7 hb]at this;exact run (λg' ae3 FO=>by rw[hg]at FO;cases FO;exact⟨d,Xm,hb⟩) this
    ·have Vl:b=!want:=by cases b <;> cases want <;> simp_all
     subst Vl;have:=h.2 rfl;rw[G7 hb]at this;exact skip (.inl hb) this
   ·rename_i hb;exact skip (.inr hb) h
   ·exact h.elim
def g8 (P:Program) (N:Nat) (full:List Oper) (bars:List Nat) (fs:cI) (i:Nat) (rest:List Oper) (e:Env) (d:Option Nat) (K:Env->List Obj->Prop) (v:V) (s:List Obj):Prop:=iE P N full bars fs i rest (jJ e d v) s K
theorem wI{rest:List Oper}{d:Option Nat}{K:Env->List Obj->Prop}{v:V}:g8 P N full bars fs i rest e d K v s=iE P N full bars fs i rest (jJ e d v) s K:=(rfl)
theorem zo{K:Env->List Obj->Prop}:iE P N full bars fs i [] e s K=K e s:=(rfl)
theorem aA (hm:P.follows .mixedOrders=true) (bars:List Nat) (fs:cI){K:Env->List Obj->Prop} (hd:lp full bars fs=true) (h:iE P N full bars fs 0 full e s K):ve P N full e s K:=by obtain⟨tr,e',s',h1,h2⟩:=sJ _ _ _ _ _ h;exact Lw hm hd h1 h2
theorem bR (h:aM P f args r) (ha:ak.go 0 args=true) (hr:ak 0 r=true) (hk:K r s):Xa P f args s K :=
 ⟨r,λs'=>bp h ha hr ⟨rfl,rfl⟩,hk⟩
theorem fG (h:az P f args s λv' Co=>v'=r/\Co=s1) (hk:K r s1):WE P f args s K:=⟨r,s1,h,hk⟩
def ct (e:Env) (s:List Obj) (e':Env) (s':List Obj):Prop :=
 ∀(σ0:Gh) (s0:List Obj) (w0:World) (σ:Gh) (w:World) (N:Nat) (a:Act),aG σ0 s0 w0 σ s w->Inv σ s w->eC σ s w N e a->∃σ',aG σ0 s0 w0 σ' s' w/\Inv σ' s' w/\eC σ' s' w N e' a
theorem aX{K:Env->List Obj->Prop} (h:ct e s e' s') (k:ve P N full e' s' K):ve P N full e s K:=by intro σ0 s0 w0 Q hKQ σ w a id hE hI hR;obtain⟨σ',h1,h2,h3⟩:=h σ0 s0 w0 σ w N a hE hI hR;exact k σ0 s0 w0 Q hKQ σ' w a id h1 h2 h3
def hole:Obj:=⟨0,true,0,[]⟩
theorem ct.bt:ct e s e (s++[hole]):=by intro σ0 s0 w0 σ w N a hE hI hR;have:=pM (p:=none) (o':=hole) (w':=w) hI rfl rfl rfl (ajc _) (λ_ _=>rfl) (λ_ _ h'=>by cases h') (λ_=>.inl (.inl ⟨rfl,rfl⟩));exact⟨_,hE.trans this.1,this.2,hR.aZ this.1⟩
theorem ct.trans {e'':Env}{Co:List Obj} (h:ct e s e' s') (k:ct e' s' e'' Co):ct e s e'' Co:=by intro σ0 s0 w0 σ w N a hE hI hR;obtain⟨σ',h1,h2,h3⟩:=h σ0 s0 w0 σ w N a hE hI hR;exact k σ0 s0 w0 σ' w N a h1 h2 h3
def me (s:List Obj) (lC:List Nat) (e:Env):Env:=λt=>if lC.contains t then gm s.length s (e t) else e t
theorem ct.freeze (ids lC:List Nat):ct e s (me (bA s ids) lC e) (bA s ids):=by
 intro σ0 s0 w0 σ w N a hE hI hR;obtain⟨h1,h2⟩:=vm ids s hI;refine⟨σ,hE.trans h1,h2,hR.1,hR.2.1,λt=>?_⟩;unfold me;split
 ·have:=uP h2 (lim:=(bA s ids).length) ((hR.2.2 t).aZ h1);rwa [ajt]at this
 ·exact(hR.2.2 t).aZ h1
theorem bC{o o':Obj} (h:az P f args [o] λv s'=>v=r/\s'=[o']) (ha:args.map (aS [0])=args) (F6:ak.go 1 args=true)
  (RL:bc 1 o=true) (ho:bf [0] o=o) (jV:bf [0] o'=o') (hr:aS [0] r=r) (hk:K r (o'::rest)):az P f args (o::rest) K:=by
 refine xX h [0] rfl aj (λk ob hk=>?_) ha.symm F6 (by simp [RL]) λv s' hv=>?_
 ·cases k with
  |zero=>simp at hk;subst hk;simp [ho]
  |succ k=>simp at hk
 ·obtain⟨rfl,rfl⟩:=hv;refine⟨rfl,?_⟩;rw[hr];simpa [aO,jV]using hk
theorem vy{o o':Obj} (h:az P f args [o] λv s'=>v=r/\s'=[o']) (ha:args.map (aS [0])=args) (F6:ak.go 1 args=true)
  (RL:bc 1 o=true) (ho:bf [0] o=o) (jV:bf [0] o'=o') (hr:aS [0] r=r) (hk:K r (o'::rest)):LC P [0] [0] f args (o::rest) K:=by
 refine⟨r,[o'],rfl,λs' hl hs=>?_,by simpa [aO]using hk⟩;cases s' with
 |nil=>simp at hl
 |cons o1 afO =>
  have:o1=o:=by have:=hs 0 aj;simpa using this
  subst this;exact bC h ha F6 RL ho jV hr ⟨rfl,by simp [aO]⟩
end Go.VL
