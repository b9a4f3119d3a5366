/- A part of the proof (Vq). -/
import Derived.Test.YtjjfioalgbecmaaGreatOQ10
set_option linter.unusedSimpArgs false
set_option linter.unusedVariables false
set_option maxRecDepth 100000
set_option maxHeartbeats 80000000
namespace Go.VL
variable{e:Env}{f:FuncId}{P:Program}{o:Oper}{args:List V}{w:World}{id:Nat}{s:List Obj}{h:Nat}{full:List Oper}{K:V->List Obj->Prop}{s1:List Obj}{fs:cE}{i:Nat}{bars:List Nat}{N:Nat}{r:V}{e':Env}{s':List Obj}{rest:List Obj}
def lZ (o:Oper) (e:Env):Option (Option (FuncId×List V)) :=
 match o.op with
 |.call c=>match c.callee with
  |.value (.func f)=>some (some (f,c.args.toList.map (ev e)))
  |.value x=>match Ff (e 0) (ev e x) with
   |.cl (.func g) first ai=>some (some (g,first++c.args.toList.map (ev e)++ai))
   |_=>some none
  |.invoke ..=>some none
  |.builtin _=>none
 |_=>none
theorem Cz (h:lZ o e=some (some (f,args))) (s:List Obj) (K:V->List Obj->Prop):cz P o e s K=ar P f args s K:=by
 obtain⟨dst,op,ty,pos,after,guard⟩:=o;cases op <;> try (simp [lZ]at h;done)
 rename_i c;obtain⟨callee,cargs,argTypes⟩:=c;cases callee with
 |value x =>
  cases x with
  |func g=>simp only[lZ,ajU,akn]at h;obtain⟨rfl,rfl⟩:=h;rfl
  |tmp t =>
   simp only[lZ]at h;split at h
   ·rename_i g first ai ia
    simp only[ajU,akn]at h;obtain⟨rfl,rfl⟩:=h;simp only[cz,gZ,ia]
   ·cases h
  |const t =>
   simp only[lZ]at h;split at h
   ·rename_i g first ai ia
    simp only[ajU,akn]at h;obtain⟨rfl,rfl⟩:=h;simp only[cz,gZ,ia]
   ·cases h
  |global t =>
   simp only[lZ]at h;split at h
   ·rename_i g first ai ia
    simp only[ajU,akn]at h;obtain⟨rfl,rfl⟩:=h;simp only[cz,gZ,ia]
   ·cases h
 |invoke r m=>simp [lZ]at h
 |builtin b=>simp [lZ]at h
theorem xf (h:lZ o e=none):MI o=false:=by
 obtain⟨dst,op,ty,pos,after,guard⟩:=o;cases op <;> try rfl
 rename_i c;obtain⟨callee,cargs,argTypes⟩:=c;cases callee with
 |value x =>
  cases x with
  |func g=>simp [lZ]at h
  |tmp t=>simp only[lZ]at h;split at h <;> cases h
  |const t=>simp only[lZ]at h;split at h <;> cases h
  |global t=>simp only[lZ]at h;split at h <;> cases h
 |invoke r m=>rfl
 |builtin b=>rfl
def Tm (P:Program) (f:FuncId) (args:List V) (s:List Obj) (K:V->List Obj->Prop):Prop:=∃v,(∀s',ar P f args s' λv' Bm=>v'=v/\Bm=s')/\K v s
def W9 (P:Program) (f:FuncId) (args:List V) (s:List Obj) (K:V->List Obj->Prop):Prop:=∃v s1,(ar P f args s λv' Bm=>v'=v/\Bm=s1)/\K v s1
def GO (P:Program) (rd wr:List Nat) (f:FuncId) (args:List V) (s:List Obj) (K:V->List Obj->Prop):Prop :=
 ∃v os,os.length=wr.length/\(∀s',s'.length=s.length->(∀id∈rd,s'[id]?=s[id]?)->ar P f args s' λv' Bm=>v'=v/\Bm=aJ s' wr os)/\K v (aJ s wr os)
def M6:V->Bool
 |.d (.sl _)=>true
 |.fu _=>true
 |_=>false
theorem Mr {x:V} (h:M6 x=true) (s s':List Obj):il s' x=il s x:=by
 unfold M6 at h;split at h
 ·rfl
 ·rfl
 ·cases h
def Z7 (P:Program) (t t':TypeId) (au:List (List D)) (x:V) (ob:Obj) (h:Nat) (s:List Obj) (K:V->List Obj->Prop):Prop :=
 match x,iL P t with
 |.fu ns,some (_,i)=>(t=t'/\0<ns.length/\0<i.sz/\0<i.A3/\(au.length+ns.length)*i.A3<=140737488355328/\(∀e∈au,e.length=i.sz)/\∀e∈ns,e.length=i.sz) /\
   K (.so h (ob.g+1) 0 (au.length+ns.length)) (s.set h ⟨ob.g+1,true,i.sz,(au++ns).map (·.map .d)⟩)
 |.d (.sl ns),some (_,i)=>(au=[]/\t=t'/\0<i.sz/\0<i.A3/\ns.length*i.A3<=140737488355328/\∀e∈ns,e.length=i.sz) /\
   K (.so h (ob.g+1) 0 ns.length) (s.set h ⟨ob.g+1,true,i.sz,ns.map (·.map .d)⟩)
 |_,_=>False
def QQ (P:Program) (t:TypeId) (l c:V) (ob:Obj) (h:Nat) (s:List Obj) (K:V->List Obj->Prop):Prop :=
 match l,c,iL P t with
 |.d (.sc (.int _ n)),.d (.sc (.int _ m)),some (_,i)=>(0<=n/\n<=m/\i.A3*m<=140737488355328/\m<=9223372036854775807/\0<i.sz) /\
   K (.so h (ob.g+1) 0 n.toNat) (s.set h ⟨ob.g+1,true,i.sz,List.replicate n.toNat (i.zero.map cv)⟩)
 |_,_,_=>False
def Z4 (P:Program) (t:TypeId) (len:Nat) (parts:List (Nat×V)) (ob:Obj) (h:Nat) (s:List Obj) (K:V->List Obj->Prop):Prop :=
 match iL P t with
 |none=>False
 |some (_,i)=>(len*i.sz<=16777216/\0<i.sz)/\match tC i.sz (List.replicate len (i.zero.map cv)) parts with
  |none=>False
  |some au=>(tM au=none/\∀e∈au,∀x∈e,aj s.length x=true)/\K (.so h (ob.g+1) 0 len) (s.set h ⟨ob.g+1,true,i.sz,au⟩)
theorem Ws (v:Value):aj 0 (cv v)=true:=by unfold cv;split <;> rfl
def SC (P:Program) (o:Oper) (e:Env) (s:List Obj) (h:Nat) (K:V->List Obj->Prop):Prop :=
 match s[h]? with
 |none=>False
 |some ob=>match o.op with
  |.alloc t=>ob.live=true/\match bQ P t with
   |some i=>K (.rf h (ob.g+1) 0 0) (s.set h ⟨ob.g+1,true,i.sz,[i.zero.map cv]⟩)
   |none=>False
  |.box _ x=>ob.live=true/\match eg (ev e x) with
   |some cs=>K (.rf h (ob.g+1) 0 0) (s.set h ⟨ob.g+1,true,cs.length,[cs]⟩)
   |none=>False
  |.store t a x=>match ev e a with
   |.rf id _ _ _=>id=h/\iF P t s (ev e a) (ev e x) λs'=>K .un s'
   |.pp id _ _ _ _ _=>id=h/\iF P t s (ev e a) (ev e x) λs'=>K .un s'
   |_=>False
  |.makeSlice t l c=>QQ P t (ev e l) (ev e c) ob h s K
  |.buildSlice t n ps=>Z4 P t n (ps.toList.map λp=>(p.1,ev e p.2)) ob h s K
  |.call c=>match c.callee,c.args.toList,c.argTypes.toList with
   |.builtin .append,[a,x],[t,t']=>match ev e a with
    |.so id _ _ _=>(id=h/\M6 (ev e x)=true)/\t=t'/\dt P t (ev e a) (ev e x) s K
    |.fu au=>Z7 P t t' au (ev e x) ob h s K
    |_=>False
   |_,_,_=>False
  |_=>False
theorem Ub {σ:Gh} (hI:Inv σ s w){o:Obj} (ho:s[id]?=some o) (qB:o.live=true) {sz:Nat}{au:List (List V)}{arr:Array Value} (E:TypeId) (hl:∀e∈au,e.length=sz) (hs:au.length*sz<=arr.size)
  (hc:∀(i j:Nat) (x:V),(au[i]?.bind (·[j]?))=some x->∃u,arr[i*sz+j]?=some u/\u.oneCell'=true/\ay σ s w x u) :
  aC σ s w (nA σ id (some (w.heap.size,0))) (s.set id ⟨o.g+1,true,sz,au⟩) (w.alloc (.cells arr E)) /\
  Inv (nA σ id (some (w.heap.size,0))) (s.set id ⟨o.g+1,true,sz,au⟩) (w.alloc (.cells arr E)):=by
 refine lQ (p:=some (w.heap.size,0)) hI ho qB rfl rfl rfl ak (λb hb _=>akU w _ b hb)
  (λb base bR E' jz hh=>⟨bR,by rw[akU w _ b (dN hh)];exact hh,rfl⟩)
  (λb base jz hm=>let ⟨es,c,hh⟩:=hm;⟨es,c,by rw[akU w _ b (dN hh)];exact hh⟩) (Nat.le_succ _) (λh=>by simp at h) (λb base h=>by cases h;exact .inr (ajZ _))
  (λhE=>.inr ⟨w.heap.size,0,arr,E,rfl,heap_alloc_new w _,hl,by simpa using hs,λi j x hx=>?_⟩)
 obtain⟨u,h1,h2,h3⟩:=hc i j x hx;exact⟨u,by simpa using h1,h2,h3.aR hE⟩
theorem Xn {σ:Gh} (dc:id<s.length) {o:Obj}{b base:Nat} (hC:FM w b):ay (nA σ id (some (b,base))) (s.set id o) w (.rf id o.g 0 0) (.pointer (some ⟨b,base,none⟩)) :=
 .rf o (by simp [dc]) (ajZ _) rfl (λ_=>⟨b,base,bP _ _ _,hC,ak⟩)
theorem Un (ha:SC P o e s h K) :
  ∃v o',K v (s.set h o')/\∀s',s'.length=s.length->s'[h]?=s[h]?->NI P full o e s' v (s'.set h o'):=by
 obtain⟨dst,op,ty,pos,after,guard⟩:=o;unfold SC at ha;cases II:s[h]? with
 |none=>rw[II]at ha;exact ha.elim
 |some ob =>
  rw[II]at ha;simp only at ha;cases op <;> simp only at ha <;> try exact ha.elim
  case alloc t =>
   obtain⟨hl,ha⟩:=ha;split at ha
   case h_2=>exact ha.elim
   rename_i i hi;refine⟨_,_,ha,λs' hlen jz σ w N a hI hR=>?_⟩;obtain⟨z,hz,hr,hs,YX⟩:=zu hi σ s' w;have:=Ub hI jz hl (au:=[i.zero.map cv]) (sz:=i.sz) (arr:=z.cells) t (by simp;rw[<- YX];simpa using hs) (by simp [hs]) (vz hr i.sz);refine eD (u:=.pointer (some ⟨w.heap.size,0,none⟩)) (w':=w.alloc (.cells z.cells t)) ?_ this.1 this.2 (Xn (o:=⟨ob.g+1,true,i.sz,[i.zero.map cv]⟩) (List.getElem?_eq_some_iff.1 jz).1 ⟨_,_,heap_alloc_new w _⟩) ⟨rfl,rfl⟩;simp [execOp,Instr.alloc,hz,newVar,newRow]
  case box t x =>
   obtain⟨hl,ha⟩:=ha;split at ha
   case h_2=>exact ha.elim
   rename_i cs oL;refine⟨_,_,ha,λs' hlen jz σ w N a hI hR=>?_⟩;have hm:ev (ot full ⟨dst,.box t x,ty,pos,after,guard⟩ e) x=ev e x:=by
    cases x with
    |tmp t'=>simp [ev,ot,Oper.looksAt,Op.operands]
    |_=>rfl
   have hx:=hR.ev x;rw[hm]at hx;have hr:xB σ s' w cs (a.eval x).cells:=mN hx oL;have:=Ub hI jz hl (au:=[cs]) (sz:=cs.length) (arr:=(a.eval x).cells) t ak (by simp [hr.1]) (vz hr _);refine eD (u:=.pointer (some ⟨w.heap.size,0,none⟩)) (w':=w.alloc (.cells (a.eval x).cells t)) ?_ this.1 this.2 (Xn (o:=⟨ob.g+1,true,cs.length,[cs]⟩) (List.getElem?_eq_some_iff.1 jz).1 ⟨_,_,heap_alloc_new w _⟩) ⟨rfl,rfl⟩;simp [execOp,Instr.box,newVar,newRow]
  case store t x y =>
   split at ha
   case h_3=>exact ha.elim
   ·rename_i id g k off hx;obtain⟨rfl,ha⟩:=ha;unfold iF at ha;cases ht:bQ P t with
    |none=>rw[ht]at ha;exact ha.elim
    |some i =>
     rw[ht]at ha;simp only[hx,II]at ha;obtain⟨h1,h2,ha⟩:=ha;split at ha
     ·exact ha.elim
     ·rename_i cs oL;split at ha
      ·exact ha.elim
      ·rename_i ns uu;obtain⟨h3,h4,ha⟩:=ha;refine⟨_,_,ha,λs' hlen jz=>jJ ?_⟩;unfold lF cz;simp only[iF,ht,hx,jz,II,oL,uu];exact⟨h1,h2,h3,h4,trivial,trivial⟩
   ·rename_i id g k off b a' hx;obtain⟨rfl,ha⟩:=ha;unfold iF at ha;cases ht:bQ P t with
    |none=>rw[ht]at ha;exact ha.elim
    |some i =>
     rw[ht]at ha;simp only[hx,II]at ha;obtain⟨h1,h2,ha⟩:=ha;split at ha
     ·exact ha.elim
     ·rename_i cs oL;split at ha
      ·exact ha.elim
      ·rename_i ns uu;obtain⟨h3,h4,ha⟩:=ha;refine⟨_,_,ha,λs' hlen jz=>jJ ?_⟩;unfold lF cz;simp only[iF,ht,hx,jz,II,oL,uu];exact⟨h1,h2,h3,h4,trivial,trivial⟩
  case buildSlice t n ps =>
   unfold Z4 at ha;cases bH:iL P t with
   |none=>rw[bH]at ha;exact ha.elim
   |some ei =>
    obtain⟨ee,i⟩:=ei;rw[bH]at ha;simp only at ha;obtain⟨h1,ha⟩:=ha;cases hfi:tC i.sz (List.replicate n (i.zero.map cv)) (ps.toList.map λp=>(p.1,ev e p.2)) with
    |none=>rw[hfi]at ha;exact ha.elim
    |some au =>
     rw[hfi]at ha;simp only at ha;obtain⟨⟨hnd,hrf⟩,ha⟩:=ha;refine⟨_,_,ha,λs' hlen jz σ w N a0 hI hR=>?_⟩;have HP:lF P ⟨dst,.buildSlice t n ps,ty,pos,after,guard⟩ e s' (.so s'.length 0 0 n) (s'++[⟨0,true,i.sz,au⟩]):=by unfold lF cz;simp only;unfold eN;rw[bH];simp only[hfi,hnd];exact⟨h1,trivial,trivial⟩
     refine Oper.wp_mono (λa' w' ⟨u,v,σ',s1,KN,nE,fS,iY,WN,Zt⟩=>?_) (jJ HP σ w N a0 hI hR);subst WN Zt;obtain⟨m1,m2,m3⟩:=CW hI nE fS jz rfl (λi' j x' jR=>by
      right;rw[hlen];cases hq:au[i']? with
      |none=>rw[hq]at jR;cases jR
      |some c =>
       rw[hq]at jR;exact hrf c (List.mem_of_getElem? hq) x' (List.mem_of_getElem? jR))
     exact⟨u,_,_,_,KN,m1,m2,m3 _ _ _ iY,rfl,rfl⟩
  case makeSlice t l c =>
   unfold QQ at ha;split at ha
   case h_2=>exact ha.elim
   rename_i k1 n k2 m ee i hl hc bH;obtain⟨h1,ha⟩:=ha;refine⟨_,_,ha,λs' hlen jz σ w N a0 hI hR=>?_⟩;have HP:lF P ⟨dst,.makeSlice t l c,ty,pos,after,guard⟩ e s' (.so s'.length 0 0 n.toNat) (s'++[⟨0,true,i.sz,List.replicate n.toNat (i.zero.map cv)⟩]):=by unfold lF cz;simp only;unfold fY;rw[hl,hc,bH];exact⟨h1,rfl,rfl⟩
   refine Oper.wp_mono (λa' w' ⟨u,v,σ',s1,KN,nE,fS,iY,WN,Zt⟩=>?_) (jJ HP σ w N a0 hI hR);subst WN Zt;obtain⟨m1,m2,m3⟩:=nP hI nE fS jz rfl (λi' j x' jR=>by
    cases hq:(List.replicate n.toNat (i.zero.map cv))[i']? with
    |none=>rw[hq]at jR;cases jR
    |some e' =>
     have he:=List.eq_of_mem_replicate (List.mem_of_getElem? hq);subst he;rw[hq]at jR;simp only[akA,List.getElem?_map]at jR;obtain⟨d,_,rfl⟩:=Option.map_eq_some_iff.1 jR;exact Ws d)
   exact⟨u,_,_,_,KN,m1,m2,m3 _ _ _ iY,rfl,rfl⟩
  case call c =>
   split at ha
   case h_2=>exact ha.elim
   rename_i a x t t' Fb ze S5;split at ha
   case h_3=>exact ha.elim
   case h_2 =>
    rename_i au hx;obtain⟨callee,args,E7⟩:=c;simp only at Fb ze S5;subst Fb;unfold Z7 at ha;split at ha
    case h_3=>exact ha.elim
    case h_2 =>
     rename_i ns ee i hy bH;obtain⟨⟨rfl,rfl,h2,h3,h4,h6⟩,ha⟩:=ha;refine⟨_,_,ha,λs' hlen jz σ w N a0 hI hR=>?_⟩;have HP:lF P ⟨dst,.call ⟨.builtin .append,args,E7⟩,ty,pos,after,guard⟩ e s' (.so s'.length 0 0 ns.length) (s'++[⟨0,true,i.sz,ns.map (·.map .d)⟩]):=by
      unfold lF cz gZ;simp only[ze,S5,eq_self,if_true];unfold dt;rw[hx,hy,bH];have sE:il s' (.d (.sl ns))=some (ns.map (·.map .d)):=rfl;rw[sE];refine⟨⟨λe he=>?_,h2,h3⟩,?_⟩
      ·obtain⟨d,hd,rfl⟩:=List.mem_map.1 he;simpa using h6 d hd
      ·simp only;refine⟨⟨.inl trivial,by simpa using h4,ak⟩,?_,?_⟩ <;> simp
     refine Oper.wp_mono (λa' w' ⟨u,v,σ',s1,KN,nE,fS,iY,WN,Zt⟩=>?_) (jJ HP σ w N a0 hI hR);subst WN Zt;obtain⟨m1,m2,m3⟩:=nP hI nE fS jz rfl (λi' j x' jR=>by
      rw[List.getElem?_map]at jR;cases hq:ns[i']? with
      |none=>rw[hq]at jR;cases jR
      |some c =>
       rw[hq]at jR;simp only[ajS,akA,List.getElem?_map]at jR;obtain⟨d,_,rfl⟩:=Option.map_eq_some_iff.1 jR;rfl)
     exact⟨u,_,_,_,KN,m1,m2,m3 _ _ _ iY,rfl,rfl⟩
    rename_i ns ee i hy bH;obtain⟨⟨rfl,h1,h2,h3,h4,h5,h6⟩,ha⟩:=ha;refine⟨_,_,ha,λs' hlen jz σ w N a0 hI hR=>?_⟩;have az:h<s'.length:=fR jz;have HP:lF P ⟨dst,.call ⟨.builtin .append,args,E7⟩,ty,pos,after,guard⟩ e s' (.so s'.length 0 0 (au.length+ns.length)) (s'++[⟨0,true,i.sz,(au++ns).map (·.map .d)⟩]):=by
     unfold lF cz gZ;simp only[ze,S5,eq_self,if_true];unfold dt;rw[hx,hy,bH];have sE:il s' (.fu ns)=some (ns.map (·.map .d)):=rfl;rw[sE];refine⟨⟨λe he=>?_,h2,h3⟩,?_⟩
     ·obtain⟨d,hd,rfl⟩:=List.mem_map.1 he;simpa using h6 d hd
     ·simp only;refine⟨⟨.inr (by simpa using h1),by simpa using h4,h5⟩,?_,?_⟩
      ·simp
      ·simp [akF]
    refine Oper.wp_mono (λa' w' ⟨u,v,σ',s1,KN,nE,fS,iY,WN,Zt⟩=>?_) (jJ HP σ w N a0 hI hR);subst WN Zt;obtain⟨m1,m2,m3⟩:=nP hI nE fS jz rfl (λi' j x' jR=>by
     rw[List.getElem?_map]at jR;cases hq:(au++ns)[i']? with
     |none=>rw[hq]at jR;cases jR
     |some c =>
      rw[hq]at jR;simp only[ajS,akA,List.getElem?_map]at jR;obtain⟨d,_,rfl⟩:=Option.map_eq_some_iff.1 jR;rfl)
    exact⟨u,_,_,_,KN,m1,m2,m3 _ _ _ iY,rfl,rfl⟩
   rename_i id g lo n hx;obtain⟨⟨rfl,oZ⟩,rfl,ha⟩:=ha;obtain⟨callee,args,E7⟩:=c;simp only at Fb ze S5;subst Fb;unfold dt at ha;cases bH:iL P t with
   |none=>rw[bH]at ha;exact ha.elim
   |some ei =>
    obtain⟨ee,i⟩:=ei;rw[bH]at ha;simp only at ha;cases uu:il s (ev e x) with
    |none=>rw[uu]at ha;exact ha.elim
    |some ns =>
     rw[uu]at ha;simp only[hx,tE,II]at ha;obtain⟨h1,h2,h3,ha⟩:=ha;refine⟨_,_,ha,λs' hlen jz=>jJ ?_⟩;unfold lF cz gZ;simp only[ze,S5,eq_self,if_true];unfold dt;rw[Mr oZ s s',uu,bH];simp only[hx,tE,jz,II];exact⟨h1,h2,h3,trivial,trivial⟩
def TL (P:Program) (o:Oper) (e:Env) (s:List Obj) (h:Nat) (K:V->List Obj->Prop):Prop :=
 match s[h]? with
 |none=>False
 |some ob=>match o.op with
  |.call c=>match c.callee,c.args.toList,c.argTypes.toList with
   |.builtin .append,[a,x],[t,t']=>match ev e a,ev e x,iL P t with
    |.cap cl _ (.so id g lo n),.fu ns,some (_,i)=>(id=h/\ob.g=g/\ob.live=true/\t=t'/\ob.sz=i.sz/\(∀e∈ns,e.length=i.sz)/\0<i.sz/\0<ns.length/\lo+n<=ob.au.length/\n+ns.length<=cl) /\
      K (.so id g lo (n+ns.length)) (s.set h ⟨g,true,i.sz,ob.au.take (lo+n)++ns.map (·.map .d)++ob.au.drop (lo+n+ns.length)⟩)
    |_,_,_=>False
   |_,_,_=>False
  |_=>False
def SL (P:Program) (o:Oper) (e:Env) (s:List Obj) (rd:List Nat) (h:Nat) (K:V->List Obj->Prop):Prop :=
 match s[h]? with
 |none=>False
 |some ob=>match o.op with
  |.call c=>match c.callee,c.args.toList,c.argTypes.toList with
   |.builtin .append,[a,x],[t,t']=>match ev e a,ev e x,iL P t with
    |.cap _ ch (.so id g lo n),.fu ns,some (_,i)=>match s[id]? with
     |none=>False
     |some o=>(rd.contains id=true/\o.g=g/\t=t'/\o.sz=i.sz/\(∀e∈ns,e.length=i.sz)/\0<i.sz/\0<i.A3/\0<ns.length/\lo+n<=o.au.length/\ch<n+ns.length/\(n+ns.length)*i.A3<=140737488355328 /\
       (∀e∈o.au,∀x∈e,aj 0 x=true))/\K (.so h (ob.g+1) 0 (n+ns.length)) (s.set h ⟨ob.g+1,true,i.sz,(o.au.drop lo).take n++ns.map (·.map .d)⟩)
    |_,_,_=>False
   |_,_,_=>False
  |_=>False
theorem yH{dst:Option Nat}{ty:TypeId}{pos:String}{after:Array Edge}{guard:Option (Nat×Bool)}{a x:Operand}{E7:Array TypeId}:∀y,y∈[a,x]->ev (ot full ⟨dst,.call ⟨.builtin .append,#[a,x],E7⟩,ty,pos,after,guard⟩ e) y=ev e y:=by
 intro y hy;cases y with
 |tmp k =>
  have hk:k∈(⟨dst,.call ⟨.builtin .append,#[a,x],E7⟩,ty,pos,after,guard⟩:Oper).looksAt full.toArray:=List.mem_append_left _ (List.mem_filterMap.2 ⟨.tmp k,by
   simp only[akD,List.not_mem_nil,or_false]at hy;rcases hy with rfl|rfl <;> simp [Op.operands,Call.operands],rfl⟩)
  simp [ev,ot,hk]
 |_=>rfl
theorem Sy (ha:TL P o e s h K) :
  ∃v o',K v (s.set h o')/\∀s',s'.length=s.length->s'[h]?=s[h]?->NI P full o e s' v (s'.set h o'):=by
 obtain⟨dst,op,ty,pos,after,guard⟩:=o;unfold TL at ha;cases II:s[h]? with
 |none=>rw[II]at ha;exact ha.elim
 |some ob =>
  rw[II]at ha;simp only at ha;cases op <;> simp only at ha <;> try exact ha.elim
  rename_i c;split at ha
  case h_2=>exact ha.elim
  rename_i a x t t' Fb ze S5;split at ha
  case h_2=>exact ha.elim
  rename_i cl ch id g lo n ns ee i ZZ hex bH;obtain⟨⟨rfl,hg,hl,rfl,eZ,hz,hp,hn,hle,hr⟩,ha⟩:=ha;refine⟨_,_,ha,λs' hlen jz σ w N a0 hI hR=>?_⟩;obtain⟨callee,args,E7⟩:=c;simp only at Fb ze S5;subst Fb;have e1:args=#[a,x]:=Array.toList_inj.1 (by rw[ze]);have e2:E7=#[t,t]:=Array.toList_inj.1 (by rw[S5]);subst e1 e2;have ra:=hR.ev a;rw[yH a ak,ZZ]at ra;have rx:=hR.ev x;rw[yH x ak,hex]at rx;cases ra with|cap qf ra=>?_
  obtain⟨r,σ',w',k1,k2,k3,k4⟩:=J4 (ty:=ty) hI ra qf rx rfl bH jz hg eZ (λe he=>by
   obtain⟨d,hd,rfl⟩:=List.mem_map.1 he;simpa using hz d hd) hp (by simpa using hn) hle hl (by simpa using hr)
  rw[ajM]at k2 k3 k4;exact eD (by simp [execOp,resolve,invoke,builtin,k1]) k2 k3 k4 ⟨rfl,rfl⟩
theorem Uo{rd:List Nat} (ha:SL P o e s rd h K) :
  ∃v o',K v (s.set h o')/\∀s',s'.length=s.length->s'[h]?=s[h]?->(∀id∈rd,s'[id]?=s[id]?)->NI P full o e s' v (s'.set h o'):=by
 obtain⟨dst,op,ty,pos,after,guard⟩:=o;unfold SL at ha;cases II:s[h]? with
 |none=>rw[II]at ha;exact ha.elim
 |some ob =>
  rw[II]at ha;simp only at ha;cases op <;> simp only at ha <;> try exact ha.elim
  rename_i c;split at ha
  case h_2=>exact ha.elim
  rename_i a x t t' Fb ze S5;split at ha
  case h_2=>exact ha.elim
  rename_i cl ch id g lo n ns ee i ZZ hex bH;split at ha
  ·exact ha.elim
  rename_i o ho;obtain⟨⟨U3,hg,rfl,eZ,hz,hp,Zs,hn,hle,hr,hb,hd⟩,ha⟩:=ha;refine⟨_,_,ha,λs' hlen jz Pf σ w N a0 hI hR=>?_⟩;obtain⟨callee,args,E7⟩:=c;simp only at Fb ze S5;subst Fb;have e1:args=#[a,x]:=Array.toList_inj.1 (by rw[ze]);have e2:E7=#[t,t]:=Array.toList_inj.1 (by rw[S5]);subst e1 e2;have ra:=hR.ev a;rw[yH a ak,ZZ]at ra;have rx:=hR.ev x;rw[yH x ak,hex]at rx;cases ra with|cap qf ra=>?_
  have g7:s'[id]?=some o:=(Pf id (by simpa using U3)).trans ho;obtain⟨r,σ',w',k1,k2,k3,k4⟩:=JB (ty:=ty) hI ra qf rx rfl bH g7 hg eZ (λe he=>by
   obtain⟨d,hd,rfl⟩:=List.mem_map.1 he;simpa using hz d hd) hp (by simpa using hn) hle Zs (by simpa using hb) (by simpa using hr)
  rw[ajM]at k4;obtain⟨m1,m2,m3⟩:=nP hI k2 k3 jz rfl (λi' j x' jR=>by
   simp only at jR;cases hq:((o.au.drop lo).take n++ns.map (·.map .d))[i']? with
   |none=>rw[hq]at jR;cases jR
   |some c =>
    rw[hq]at jR;have hm:=List.mem_of_getElem? jR;rcases List.mem_append.1 (List.mem_of_getElem? hq) with hc|hc
    ·exact hd c (ak1 (akv hc)) x' hm
    ·obtain⟨dd,_,rfl⟩:=List.mem_map.1 hc;obtain⟨y,_,rfl⟩:=List.mem_map.1 hm;rfl)
  exact eD (by simp [execOp,resolve,invoke,builtin,k1]) m1 m2 (m3 _ _ _ k4) ⟨rfl,rfl⟩
def SV (s:List Obj) (K:V->List Obj->Prop) (v:V) (s1:List Obj):Prop:=s1=s/\K v s
theorem uL{v:V}:SV s K v s1=(s1=s/\K v s):=(rfl)
def H8 (o:Oper) (e:Env) (ws:List Nat):Bool:=QV o&&(r9 e o).all λid=>!ws.contains id
def Vm (o:Oper) (e:Env) (rd:List Nat):Bool:=QV o&&(r9 e o).all λid=>rd.contains id
def ff (P:Program) (bars:List Nat) (fs:cE) (i:Nat) (o:Oper) (e:Env) (s:List Obj) (K:V->List Obj->Prop):Prop :=
 match bars.contains i with
 |true=>match lZ o e with
  |some (some (f,args))=>W9 P f args s K
  |some none=>False
  |none=>cz P o e s K
 |false=>match ic fs i with
  |none=>match lZ o e with
   |some (some (f,args))=>Tm P f args s K
   |some none=>False
   |none=>H8 o e (Ip fs)=true/\cz P o e s (SV s K)
  |some (rd,wr)=>match lZ o e with
   |some (some (f,args))=>GO P rd wr f args s K
   |some none=>False
   |none=>match wr with
    |[]=>Vm o e rd=true/\cz P o e s (SV s K)
    |[h]=>rd.contains h=true/\SC P o e s h K
    |[h,_]=>rd.contains h=true/\TL P o e s h K
    |[h,_,_]=>rd.contains h=true/\SL P o e s rd h K
    |_=>False
theorem x4:∀(ρ:List Nat) (os:List Obj) (s s':List Obj) (id:Nat),id∈ρ->os.length=ρ.length->s.length=s'.length->(aJ s ρ os)[id]?=(aJ s' ρ os)[id]?
 |[],_,_,_,_,h,_,_=>by cases h
 |r::ρ,[],_,_,_,_,h,_=>by simp at h
 |r::ρ,o::os,s,s',id,h,hl,hs=>by
  simp only[aJ];by_cases hm:id∈ρ
  ·exact x4 ρ os _ _ id hm (by simpa using hl) (by simpa using hs)
  ·have:id=r:=by rcases List.mem_cons.1 h with h|h;exact h;exact absurd h hm
   subst this;rw[gG ρ os _ _ hm,gG ρ os _ _ hm];by_cases az:id<s.length
   ·rw[List.getElem?_set_self az,List.getElem?_set_self ae]
   ·rw[List.getElem?_eq_none cC,List.getElem?_eq_none cC]
theorem Qj (hg:∀g want,o.guard=some (g,want)->∃d,lR full g=some d/\e d=.d (.sc (.bool want))) (h:ff P bars fs i o e s K) :
  ∃v tf,N9 P full bars fs i o ⟨some v,tf⟩ e s/\K v (tf s):=by
 unfold ff at h;cases hb:bars.contains i with
 |true =>
  rw[hb]at h;simp only at h;have bar:∀v s1,lF P o e s v s1->K v s1->∃v tf,N9 P full bars fs i o ⟨some v,tf⟩ e s/\K v (tf s):=by intro v s1 h1 h2;refine⟨v,λ_=>s1,⟨(λh=>by rw[hb]at h;cases h),hg,λs' _ h' _=>?_⟩,h2⟩;rw[h' hb];exact jJ h1
  split at h
  ·rename_i f args hc;obtain⟨v,s1,h1,h2⟩:=h;exact bar v s1 (by unfold lF;rw[Cz hc];exact h1) h2
  ·exact h.elim
  ·rename_i hc;obtain⟨v,s1,h1,h2⟩:=Mw (xf hc) _ h;exact bar v s1 h1 h2
 |false =>
  rw[hb]at h;simp only at h;cases hf:ic fs i with
  |none =>
   rw[hf]at h;simp only at h;have aa8:NC fs i λs=>s:=λs=>⟨rfl,λ_ _=>rfl,λs' hl id hw _=>by simp [nC,hf]at hw⟩
   split at h
   ·rename_i f args hc;obtain⟨v,h1,h2⟩:=h;exact⟨v,λs=>s,⟨λ_=>aa8,hg,λs' _ _ _=>jJ (by unfold lF;rw[Cz hc];exact h1 s')⟩,h2⟩
   ·exact h.elim
   ·rename_i hc;obtain⟨hr,h⟩:=h;obtain⟨v,s1,h1,h2,h3⟩:=Mw (xf hc) _ h;subst h2;simp only[H8,aj5,aj3,Bool.not_eq_true',List.contains_eq_mem,decide_eq_false_iff_not]at hr;refine⟨v,λs=>s,⟨λ_=>aa8,hg,λs' _ _ Pf=>jJ (JO hr.1 (λid dc=>Pf id ?_) h1)⟩,h3⟩;unfold R5;rw[hf];exact hr.2 id dc
  |some rw' =>
   obtain⟨rd,wr⟩:=rw';rw[hf]at h;simp only at h;split at h
   ·rename_i f args hc;obtain⟨v,os,hl,h1,h2⟩:=h;refine⟨v,λs=>aJ s wr os,⟨λ_ s=>⟨n8 _ _ _,λid dc=>gG _ _ _ _ (by simpa [nC,hf]using dc),λs' Pg id dc _=>x4 _ _ _ _ _ (by simpa [nC,hf]using dc) hl Pg.symm⟩,hg,
     λs' Pg _ Pf=>jJ (by unfold lF;rw[Cz hc];exact h1 s' Pg λid dc=>Pf id (by unfold R5;rw[hf];exact dc))⟩,h2⟩
   ·exact h.elim
   ·rename_i hc;split at h
    ·obtain⟨hr,h⟩:=h;obtain⟨v,s1,h1,h2,h3⟩:=Mw (xf hc) _ h;subst h2;simp only[Vm,aj5,aj3,List.contains_eq_mem,decide_eq_true_eq]at hr;refine⟨v,λs=>s,⟨λ_ s=>⟨rfl,λ_ _=>rfl,λs' hl id hw _=>by simp [nC,hf]at hw⟩,hg,λs' _ _ Pf=>jJ (JO hr.1 (λid dc=>Pf id ?_) h1)⟩,h3⟩;unfold R5;rw[hf];exact hr.2 id dc
    ·rename_i hh;obtain⟨hr,h⟩:=h;obtain⟨v,o',h1,h2⟩:=Un (full:=full) h;refine⟨v,λs=>s.set hh o',⟨λ_ s=>⟨ak,λid dc=>?_,λs' Pg id dc _=>?_⟩,hg,λs' Pg _ Pf=>h2 s' Pg (Pf hh ?_)⟩,h1⟩
     ·have:id≠hh:=by simpa [nC,hf]using dc
      exact List.getElem?_set_ne (Ne.symm this)
     ·have:id=hh:=by simpa [nC,hf]using dc
      subst this;by_cases az:id<s.length
      ·rw[List.getElem?_set_self az,List.getElem?_set_self ae]
      ·rw[List.getElem?_eq_none cC,List.getElem?_eq_none cC]
     ·unfold R5;rw[hf];simpa using hr
    ·rename_i hh hh2;obtain⟨hr,h⟩:=h;obtain⟨v,o',h1,h2⟩:=Sy (full:=full) h;refine⟨v,λs=>s.set hh o',⟨λ_ s=>⟨ak,λid dc=>?_,λs' Pg id dc Zi=>?_⟩,hg,λs' Pg _ Pf=>h2 s' Pg (Pf hh ?_)⟩,h1⟩
     ·have:id≠hh:=by intro he;subst he;simp [nC,hf]at dc
      exact List.getElem?_set_ne (Ne.symm this)
     ·by_cases he:id=hh
      ·subst he;by_cases az:id<s.length
       ·rw[List.getElem?_set_self az,List.getElem?_set_self ae]
       ·rw[List.getElem?_eq_none cC,List.getElem?_eq_none cC]
      ·rw[List.getElem?_set_ne (Ne.symm he),List.getElem?_set_ne (Ne.symm he)];exact Zi.symm
     ·unfold R5;rw[hf];simpa using hr
    ·rename_i hh hh2 hh3;obtain⟨hr,h⟩:=h;obtain⟨v,o',h1,h2⟩:=Uo (full:=full) h;refine⟨v,λs=>s.set hh o',⟨λ_ s=>⟨ak,λid dc=>?_,λs' Pg id dc Zi=>?_⟩,hg,λs' Pg _ Pf=>h2 s' Pg (Pf hh ?_) λid dc=>Pf id (by unfold R5;rw[hf];exact dc)⟩,h1⟩
     ·have:id≠hh:=by intro he;subst he;simp [nC,hf]at dc
      exact List.getElem?_set_ne (Ne.symm this)
     ·by_cases he:id=hh
      ·subst he;by_cases az:id<s.length
       ·rw[List.getElem?_set_self az,List.getElem?_set_self ae]
       ·rw[List.getElem?_eq_none cC,List.getElem?_eq_none cC]
      ·rw[List.getElem?_set_ne (Ne.symm he),List.getElem?_set_ne (Ne.symm he)];exact Zi.symm
     ·unfold R5;rw[hf];simpa using hr
    ·exact h.elim
def gJ (P:Program) (N:Nat) (full:List Oper) (bars:List Nat) (fs:cE):Nat->List Oper->Env->List Obj->(Env->List Obj->Prop)->Prop
 |_,[],e,s,K=>K e s
 |i,o::rest,e,s,K=>dQ N o.dst/\match o.guard with
  |none=>match o.op with
   |.pick c a b=>bars.contains i=false/\ic fs i=none/\gF (ev e c) (gJ P N full bars fs (i+1) rest (gP e o.dst (ev e a)) s K) (gJ P N full bars fs (i+1) rest (gP e o.dst (ev e b)) s K)
   |_=>ff P bars fs i o e s λv s1=>gJ P N full bars fs (i+1) rest (gP e o.dst v) s1 K
  |some (g,want)=>kq (lR full g) e want (λe=>ff P bars fs i o e s λv s1=>gJ P N full bars fs (i+1) rest (gP e o.dst v) s1 K)
    (λe=>gJ P N full bars fs (i+1) rest (gP e o.dst .un) s K)
theorem rJ {P:Program}{N:Nat}{full:List Oper}{bars:List Nat}{fs:cE}:∀(l:List Oper) (i:Nat) (e:Env) (s:List Obj) (K:Env->List Obj->Prop),gJ P N full bars fs i l e s K ->
  ∃tr e' s',Trace P N full bars fs i l tr e s e' s'/\K e' s'
 |[],i,e,s,K,h=>⟨[],e,s,⟨rfl,rfl⟩,h⟩
 |o::rest,i,e,s,K,h=>by
  obtain⟨hd,h⟩:=h;have run:(∀g want,o.guard=some (g,want)->∃d,lR full g=some d/\e d=.d (.sc (.bool want)))->(ff P bars fs i o e s λv s1=>gJ P N full bars fs (i+1) rest (gP e o.dst v) s1 K) ->
    ∃tr e' s',Trace P N full bars fs i (o::rest) tr e s e' s'/\K e' s':=by
   intro hg h;obtain⟨v,tf,h1,h2⟩:=Qj hg h;obtain⟨tr,e',s',k1,k2⟩:=rJ rest (i+1) _ _ K h2;exact⟨⟨some v,tf⟩::tr,e',s',⟨hd,h1,k1⟩,k2⟩
  split at h
  ·rename_i hg;have Ut:∀g want,o.guard=some (g,want)->∃d,lR full g=some d/\e d=.d (.sc (.bool want)):=λg want h=>by rw[hg]at h;cases h
   split at h
   ·rename_i c a b wH;obtain⟨nD,hnf,h⟩:=h;unfold gF at h;split at h
    ·rename_i bb hbb;have go:∀(v:V),(∀s',lF P o e s' v s')->gJ P N full bars fs (i+1) rest (gP e o.dst v) s K->∃tr e' s',Trace P N full bars fs i (o::rest) tr e s e' s'/\K e' s':=by intro v hv h2;obtain⟨tr,e',s',k1,k2⟩:=rJ rest (i+1) _ _ K h2;exact⟨⟨some v,λs=>s⟩::tr,e',s',⟨hd,⟨λ_ s=>⟨rfl,λ_ _=>rfl,λs' hl id hw _=>by simp [nC,hnf]at hw⟩,Ut,λs' _ _ _=>jJ (hv s')⟩,k1⟩,k2⟩
     cases bb with
     |true=>exact go _ (λs'=>by simp [lF,cz,wH,gF,hbb]) (h.1 rfl)
     |false=>exact go _ (λs'=>by simp [lF,cz,wH,gF,hbb]) (h.2 rfl)
    ·exact h.elim
   ·exact run Ut h
  ·rename_i g want hg;unfold kq at h;split at h
   case h_1=>exact h.elim
   rename_i d XM;have skip:(e d=.d (.sc (.bool (!want)))\/e d=.un)->gJ P N full bars fs (i+1) rest (gP e o.dst .un) s K ->
     ∃tr e' s',Trace P N full bars fs i (o::rest) tr e s e' s'/\K e' s':=by
    intro hv h2;obtain⟨tr,e',s',k1,k2⟩:=rJ rest (i+1) _ _ K h2;exact⟨⟨none,λs=>s⟩::tr,e',s',⟨hd,⟨λ_ s=>⟨rfl,λ_ _=>rfl,λs' hl id _ h=>h.symm⟩,λ_=>rfl,g,want,d,hg,XM,hv⟩,k1⟩,k2⟩
   split at h
   ·rename_i b hb;by_cases hbw:b=want
    ·subst hbw;have:=h.1 rfl;rw[Gt hb]at this;exact run (λg' af0 CK=>by rw[hg]at CK;cases CK;exact⟨d,XM,hb⟩) this
    ·have Vu:b=!want:=by cases b <;> cases want <;> simp_all
     subst Vu;have:=h.2 rfl;rw[Gt hb]at this;exact skip (.inl hb) this
   ·rename_i hb;exact skip (.inr hb) h
   ·exact h.elim
def gi (P:Program) (N:Nat) (full:List Oper) (bars:List Nat) (fs:cE) (i:Nat) (rest:List Oper) (e:Env) (d:Option Nat) (K:Env->List Obj->Prop) (v:V) (s:List Obj):Prop:=gJ P N full bars fs i rest (gP e d v) s K
theorem vq{rest:List Oper}{d:Option Nat}{K:Env->List Obj->Prop}{v:V}:gi P N full bars fs i rest e d K v s=gJ P N full bars fs i rest (gP e d v) s K:=(rfl)
theorem ya{K:Env->List Obj->Prop}:gJ P N full bars fs i [] e s K=K e s:=(rfl)
theorem Yy (hm:P.follows .mixedOrders=true) (bars:List Nat) (fs:cE){K:Env->List Obj->Prop} (hd:jX full bars fs=true) (h:gJ P N full bars fs 0 full e s K):oC P N full e s K:=by obtain⟨tr,e',s',h1,h2⟩:=rJ _ _ _ _ _ h;exact KV hm hd h1 h2
theorem cu{full:List Oper}(hm:P.follows .mixedOrders=true)(bars:List Nat)(fs:cE){K:Env->List Obj->Prop}(h:gJ P N full bars fs 0 full e s K)(hd:jX full bars fs=true:=by rfl):oC P N full e s K:=Yy hm bars fs hd h
theorem MD (h:aM P f args r) (ha:aj.go 0 args=true) (hr:aj 0 r=true) (hk:K r s):Tm P f args s K :=
 ⟨r,λs'=>dD h ha hr ⟨rfl,rfl⟩,hk⟩
theorem Fk(h:aM P f args r)(hk:K r s)(ha:aj.go 0 args=true:=by first|rfl|simp [aj,aj.go,av,i64,bV,fA])(hr:aj 0 r=true:=by first|rfl|simp [aj,aj.go,av,i64,bV,fA]):Tm P f args s K:=MD h ha hr hk
theorem ct (h:ar P f args s λv' Bm=>v'=r/\Bm=s1) (hk:K r s1):W9 P f args s K:=⟨r,s1,h,hk⟩
def bW (e:Env) (s:List Obj) (e':Env) (s':List Obj):Prop :=
 ∀(σ0:Gh) (s0:List Obj) (w0:World) (σ:Gh) (w:World) (N:Nat) (a:Act),aC σ0 s0 w0 σ s w->Inv σ s w->dC σ s w N e a->∃σ',aC σ0 s0 w0 σ' s' w/\Inv σ' s' w/\dC σ' s' w N e' a
theorem aX{K:Env->List Obj->Prop} (h:bW e s e' s') (k:oC P N full e' s' K):oC P N full e s K:=by intro σ0 s0 w0 Q hKQ σ w a id hE hI hR;obtain⟨σ',h1,h2,h3⟩:=h σ0 s0 w0 σ w N a hE hI hR;exact k σ0 s0 w0 Q hKQ σ' w a id h1 h2 h3
def hole:Obj:=⟨0,true,0,[]⟩
theorem bW.bn:bW e s e (s++[hole]):=by intro σ0 s0 w0 σ w N a hE hI hR;have:=mV (p:=none) (o':=hole) (w':=w) hI rfl rfl rfl (ajZ _) (λ_ _=>rfl) (λ_ _ h'=>by cases h') (λ_=>.inl (.inl ⟨rfl,rfl⟩));exact⟨_,hE.trans this.1,this.2,hR.aR this.1⟩
theorem bW.trans {e'':Env}{Bm:List Obj} (h:bW e s e' s') (k:bW e' s' e'' Bm):bW e s e'' Bm:=by intro σ0 s0 w0 σ w N a hE hI hR;obtain⟨σ',h1,h2,h3⟩:=h σ0 s0 w0 σ w N a hE hI hR;exact k σ0 s0 w0 σ' w N a h1 h2 h3
def jE (s:List Obj) (kI:List Nat) (e:Env):Env:=λt=>if kI.contains t then fp s.length s (e t) else e t
theorem bW.freeze (ids kI:List Nat):bW e s (jE (br s ids) kI e) (br s ids):=by
 intro σ0 s0 w0 σ w N a hE hI hR;obtain⟨h1,h2⟩:=oE ids s hI;refine⟨σ,hE.trans h1,h2,hR.1,hR.2.1,λt=>?_⟩;unfold jE;split
 ·have:=tD h2 (lim:=(br s ids).length) ((hR.2.2 t).aR h1);rwa [akg]at this
 ·exact(hR.2.2 t).aR h1
theorem IY{o o':Obj} (h:ar P f args [o] λv s'=>v=r/\s'=[o']) (ha:args.map (aE [0])=args) (wY:aj.go 1 args=true)
  (hoo:aK 1 o=true) (ho:aN [0] o=o) (g7:aN [0] o'=o') (hr:aE [0] r=r) (hk:K r (o'::rest)):ar P f args (o::rest) K:=by
 refine rE h [0] rfl ak (λk ob hk=>?_) ha.symm wY (by simp [hoo]) λv s' hv=>?_
 ·cases k with
  |zero=>simp at hk;subst hk;simp [ho]
  |succ k=>simp at hk
 ·obtain⟨rfl,rfl⟩:=hv;refine⟨rfl,?_⟩;rw[hr];simpa [aJ,g7]using hk
theorem Pw{o o':Obj} (h:ar P f args [o] λv s'=>v=r/\s'=[o']) (ha:args.map (aE [0])=args) (wY:aj.go 1 args=true)
  (hoo:aK 1 o=true) (ho:aN [0] o=o) (g7:aN [0] o'=o') (hr:aE [0] r=r) (hk:K r (o'::rest)):GO P [0] [0] f args (o::rest) K:=by
 refine⟨r,[o'],rfl,λs' hl hs=>?_,by simpa [aJ]using hk⟩;cases s' with
 |nil=>simp at hl
 |cons o1 ag1 =>
  have:o1=o:=by have:=hs 0 ak;simpa using this
  subst this;exact IY h ha wY hoo ho g7 hr ⟨rfl,by simp [aJ]⟩
theorem qO{o o':Obj}(h:ar P f args [o] λv s'=>v=r/\s'=[o'])(hk:K r (o'::rest))(ha:args.map (aE [0])=args:=by exact rfl)(wY:aj.go 1 args=true:=by exact rfl)(hoo:aK 1 o=true:=by exact rfl)(ho:aN [0] o=o:=by exact rfl)(g7:aN [0] o'=o':=by exact rfl)(hr:aE [0] r=r:=by first|exact rfl|exact yj _ _):ar P f args (o::rest) K:=IY h ha wY hoo ho g7 hr hk
theorem ofA{o o':Obj}(h:ar P f args [o] λv s'=>v=r/\s'=[o'])(hk:K r (o'::rest))(ha:args.map (aE [0])=args:=by exact rfl)(wY:aj.go 1 args=true:=by exact rfl)(hoo:aK 1 o=true:=by exact rfl)(ho:aN [0] o=o:=by exact rfl)(g7:aN [0] o'=o':=by exact rfl)(hr:aE [0] r=r:=by first|exact rfl|exact yj _ _):GO P [0] [0] f args (o::rest) K:=Pw h ha wY hoo ho g7 hr hk
end Go.VL
