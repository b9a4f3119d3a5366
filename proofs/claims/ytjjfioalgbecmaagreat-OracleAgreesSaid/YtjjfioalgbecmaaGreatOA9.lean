/- A part of the proof. -/
import Derived.Test.YtjjfioalgbecmaaGreatOA8
set_option linter.unusedSimpArgs false
set_option linter.unusedVariables false
set_option maxRecDepth 100000
set_option maxHeartbeats 80000000
namespace Go.VL
variable{e:Env}{f:FuncId}{P:Program}{o:Oper}{args:List V}{w:World}{id:Nat}{s:List Obj}{h:Nat}{full:List Oper}{K:V->List Obj->Prop}{s1:List Obj}{i:Nat}{fs:cT}{bars:List Nat}{N:Nat}{r:V}{e':Env}{s':List Obj}{rest:List Obj}
def mK (o:Oper) (e:Env):Option (Option (FuncId×List V)) :=
 match o.op with
 |.call c=>match c.callee with
  |.value (.func f)=>some (some (f,c.args.toList.map (ev e)))
  |.value x=>match Gl (e 0) (ev e x) with
   |.cl (.func g) first aj=>some (some (g,first++c.args.toList.map (ev e)++aj))
   |_=>some none
  |.invoke ..=>some none
  |.builtin _=>none
 |_=>none
theorem DT (h:mK o e=some (some (f,args))) (s:List Obj) (K:V->List Obj->Prop):du P o e s K=av P f args s K:=by
 obtain⟨dst,op,ty,pos,after,guard⟩:=o;cases op <;> try (simp [mK]at h;done)
 rename_i c;obtain⟨callee,cargs,argTypes⟩:=c;cases callee with
 |value x =>
  cases x with
  |func g=>simp only[mK,alb,alG]at h;obtain⟨rfl,rfl⟩:=h;rfl
  |tmp t =>
   exact Zbf
  |const t =>
   exact Zbf
  |global t =>
   exact Zbf
 |invoke r m=>simp [mK]at h
 |builtin b=>simp [mK]at h
theorem yy (h:mK o e=none):NN o=false:=by
 obtain⟨dst,op,ty,pos,after,guard⟩:=o;cases op <;> try rfl
 rename_i c;obtain⟨callee,cargs,argTypes⟩:=c;cases callee with
 |value x =>
  cases x with
  |func g=>simp [mK]at h
  |tmp t=>simp only[mK]at h;split at h <;> cases h
  |const t=>simp only[mK]at h;split at h <;> cases h
  |global t=>simp only[mK]at h;split at h <;> cases h
 |invoke r m=>rfl
 |builtin b=>rfl
def UB (P:Program) (f:FuncId) (args:List V) (s:List Obj) (K:V->List Obj->Prop):Prop:=∃v,(∀s',av P f args s' λv' Cx=>v'=v/\Cx=s')/\K v s
def Ya (P:Program) (f:FuncId) (args:List V) (s:List Obj) (K:V->List Obj->Prop):Prop:=∃v s1,(av P f args s λv' Cx=>v'=v/\Cx=s1)/\K v s1
def EH (P:Program) (rd wr:List Nat) (f:FuncId) (args:List V) (s:List Obj) (K:V->List Obj->Prop):Prop :=
 ∃v os,os.length=wr.length/\(∀s',s'.length=s.length->(∀id∈rd,s'[id]?=s[id]?)->av P f args s' λv' Cx=>v'=v/\Cx=aT s' wr os)/\K v (aT s wr os)
def Jk:V->Bool
 |.d (.sl _)=>true
 |.fu _=>true
 |_=>false
theorem Nt {x:V} (h:Jk x=true) (s s':List Obj):jl s' x=jl s x:=by
 unfold Jk at h;split at h
 ·rfl
 ·rfl
 ·cases h
def Zm (P:Program) (t t':TypeId) (aA:List (List D)) (x:V) (ob:Obj) (h:Nat) (s:List Obj) (K:V->List Obj->Prop):Prop :=
 match x,jn P t with
 |.fu ns,some (_,i)=>(t=t'/\0<ns.length/\0<i.sz/\0<i.EP/\(aA.length+ns.length)*i.EP<=140737488355328/\(∀e∈aA,e.length=i.sz)/\∀e∈ns,e.length=i.sz) /\
   K (.so h (ob.g+1) 0 (aA.length+ns.length)) (s.set h ⟨ob.g+1,true,i.sz,(aA++ns).map (·.map .d)⟩)
 |.d (.sl ns),some (_,i)=>(aA=[]/\t=t'/\0<i.sz/\0<i.EP/\ns.length*i.EP<=140737488355328/\∀e∈ns,e.length=i.sz) /\
   K (.so h (ob.g+1) 0 ns.length) (s.set h ⟨ob.g+1,true,i.sz,ns.map (·.map .d)⟩)
 |_,_=>False
def XD (P:Program) (t:TypeId) (l c:V) (ob:Obj) (h:Nat) (s:List Obj) (K:V->List Obj->Prop):Prop :=
 match l,c,jn P t with
 |.d (.sc (.int _ n)),.d (.sc (.int _ m)),some (_,i)=>(0<=n/\n<=m/\i.EP*m<=140737488355328/\m<=9223372036854775807/\0<i.sz) /\
   K (.so h (ob.g+1) 0 n.toNat) (s.set h ⟨ob.g+1,true,i.sz,List.replicate n.toNat (i.zero.map cv)⟩)
 |_,_,_=>False
def abR (P:Program) (t:TypeId) (len:Nat) (parts:List (Nat×V)) (ob:Obj) (h:Nat) (s:List Obj) (K:V->List Obj->Prop):Prop :=
 match jn P t with
 |none=>False
 |some (_,i)=>(len*i.sz<=16777216/\0<i.sz)/\match uT i.sz (List.replicate len (i.zero.map cv)) parts with
  |none=>False
  |some aA=>(rb aA=none/\∀e∈aA,∀x∈e,ak s.length x=true)/\K (.so h (ob.g+1) 0 len) (s.set h ⟨ob.g+1,true,i.sz,aA⟩)
theorem Xw (v:Value):ak 0 (cv v)=true:=by unfold cv;split <;> rfl
def TG (P:Program) (o:Oper) (e:Env) (s:List Obj) (h:Nat) (K:V->List Obj->Prop):Prop :=
 match s[h]? with
 |none=>False
 |some ob=>match o.op with
  |.alloc t=>ob.live=true/\match bW P t with
   |some i=>K (.rf h (ob.g+1) 0 0) (s.set h ⟨ob.g+1,true,i.sz,[i.zero.map cv]⟩)
   |none=>False
  |.box _ x=>ob.live=true/\match eI (ev e x) with
   |some cs=>K (.rf h (ob.g+1) 0 0) (s.set h ⟨ob.g+1,true,cs.length,[cs]⟩)
   |none=>False
  |.store t a x=>match ev e a with
   |.rf id _ _ _=>id=h/\iU P t s (ev e a) (ev e x) λs'=>K .un s'
   |.pp id _ _ _ _ _=>id=h/\iU P t s (ev e a) (ev e x) λs'=>K .un s'
   |_=>False
  |.makeSlice t l c=>XD P t (ev e l) (ev e c) ob h s K
  |.buildSlice t n ps=>abR P t n (ps.toList.map λp=>(p.1,ev e p.2)) ob h s K
  |.call c=>match c.callee,c.args.toList,c.argTypes.toList with
   |.builtin .append,[a,x],[t,t']=>match ev e a with
    |.so id _ _ _=>(id=h/\Jk (ev e x)=true)/\t=t'/\dN P t (ev e a) (ev e x) s K
    |.fu aA=>Zm P t t' aA (ev e x) ob h s K
    |_=>False
   |_,_,_=>False
  |_=>False
theorem Ve {σ:Gh} (hI:Inv σ s w){o:Obj} (ho:s[id]?=some o) (uX:o.live=true) {sz:Nat}{aA:List (List V)}{arr:Array Value} (E:TypeId) (hl:∀e∈aA,e.length=sz) (hs:aA.length*sz<=arr.size)
  (hc:∀(i j:Nat) (x:V),(aA[i]?.bind (·[j]?))=some x->∃u,arr[i*sz+j]?=some u/\u.oneCell'=true/\aD σ s w x u) :
  aK σ s w (pM σ id (some (w.heap.size,0))) (s.set id ⟨o.g+1,true,sz,aA⟩) (w.alloc (.cells arr E)) /\
  Inv (pM σ id (some (w.heap.size,0))) (s.set id ⟨o.g+1,true,sz,aA⟩) (w.alloc (.cells arr E)):=by
 refine oM (p:=some (w.heap.size,0)) hI ho uX rfl rfl rfl aq (λb hb _=>amd w _ b hb)
  (λb base cN E' jT hh=>⟨cN,by rw[amd w _ b (eo hh)];exact hh,rfl⟩)
  (λb base jT hm=>let ⟨es,c,hh⟩:=hm;⟨es,c,by rw[amd w _ b (eo hh)];exact hh⟩) (Nat.le_succ _) (λh=>by simp at h) (λb base h=>by cases h;exact .inr (ale _))
  (λhE=>.inr ⟨w.heap.size,0,arr,E,rfl,heap_alloc_new w _,hl,by simpa using hs,λi j x hx=>?_⟩)
 exact ZcY
theorem Ys {σ:Gh} (dA:id<s.length) {o:Obj}{b base:Nat} (hC:IA w b):aD (pM σ id (some (b,base))) (s.set id o) w (.rf id o.g 0 0) (.pointer (some ⟨b,base,none⟩)) :=
 .rf o (by simp [dA]) (ale _) rfl (λ_=>⟨b,base,cy _ _ _,hC,aq⟩)
theorem Vr (ha:TG P o e s h K) :
  ∃v o',K v (s.set h o')/\∀s',s'.length=s.length->s'[h]?=s[h]?->OL P full o e s' v (s'.set h o'):=by
 obtain⟨dst,op,ty,pos,after,guard⟩:=o;unfold TG at ha;cases PH:s[h]? with
 |none=>rw[PH]at ha;exact ha.elim
 |some ob =>
  rw[PH]at ha;simp only at ha;cases op <;> simp only at ha <;> try exact ha.elim
  case alloc t =>
   obtain⟨hl,ha⟩:=ha;split at ha
   case h_2=>exact ha.elim
   rename_i i hi;refine⟨_,_,ha,λs' hlen jT σ w N a hI hR=>?_⟩;obtain⟨z,hz,hr,hs,hzl⟩:=AM hi σ s' w;have:=Ve hI jT hl (aA:=[i.zero.map cv]) (sz:=i.sz) (arr:=z.cells) t (by simp;rw[<- hzl];simpa using hs) (by simp [hs]) (wT hr i.sz);refine fx (u:=.pointer (some ⟨w.heap.size,0,none⟩)) (w':=w.alloc (.cells z.cells t)) ?_ this.1 this.2 (Ys (o:=⟨ob.g+1,true,i.sz,[i.zero.map cv]⟩) (List.getElem?_eq_some_iff.1 jT).1 ⟨_,_,heap_alloc_new w _⟩) ⟨rfl,rfl⟩;simp [execOp,Instr.alloc,hz,newVar,newRow]
  case box t x =>
   obtain⟨hl,ha⟩:=ha;split at ha
   case h_2=>exact ha.elim
   rename_i cs n9;refine⟨_,_,ha,λs' hlen jT σ w N a hI hR=>?_⟩;have hm:ev (pK full ⟨dst,.box t x,ty,pos,after,guard⟩ e) x=ev e x:=by
    cases x with
    |tmp t'=>simp [ev,pK,Oper.looksAt,Op.operands]
    |_=>rfl
   have hx:=hR.ev x;rw[hm]at hx;have hr:yU σ s' w cs (a.eval x).cells:=nO hx n9;have:=Ve hI jT hl (aA:=[cs]) (sz:=cs.length) (arr:=(a.eval x).cells) t aq (by simp [hr.1]) (wT hr _);refine fx (u:=.pointer (some ⟨w.heap.size,0,none⟩)) (w':=w.alloc (.cells (a.eval x).cells t)) ?_ this.1 this.2 (Ys (o:=⟨ob.g+1,true,cs.length,[cs]⟩) (List.getElem?_eq_some_iff.1 jT).1 ⟨_,_,heap_alloc_new w _⟩) ⟨rfl,rfl⟩;simp [execOp,Instr.box,newVar,newRow]
  case store t x y =>
   split at ha
   case h_3=>exact ha.elim
   ·rename_i id g k off hx;exact ZaK
   ·rename_i id g k off b a' hx;exact ZaK
  case buildSlice t n ps =>
   unfold abR at ha;cases bL:jn P t with
   |none=>rw[bL]at ha;exact ha.elim
   |some ei =>
    obtain⟨ee,i⟩:=ei;rw[bL]at ha;simp only at ha;obtain⟨h1,ha⟩:=ha;cases Zd:uT i.sz (List.replicate n (i.zero.map cv)) (ps.toList.map λp=>(p.1,ev e p.2)) with
    |none=>rw[Zd]at ha;exact ha.elim
    |some aA =>
     rw[Zd]at ha;simp only at ha;obtain⟨⟨yl,hrf⟩,ha⟩:=ha;refine⟨_,_,ha,λs' hlen jT σ w N a0 hI hR=>?_⟩;have I2:mh P ⟨dst,.buildSlice t n ps,ty,pos,after,guard⟩ e s' (.so s'.length 0 0 n) (s'++[⟨0,true,i.sz,aA⟩]):=by unfold mh du;simp only;unfold fh;rw[bL];simp only[Zd,yl];exact⟨h1,trivial,trivial⟩
     refine Oper.wp_mono (λa' w' ⟨u,v,σ',s1,RC,yn,jR,qu,XU,hK2⟩=>?_) (jY I2 σ w N a0 hI hR);subst XU hK2;obtain⟨m1,m2,m3⟩:=Ei hI yn jR jT rfl (λi' j x' ky=>by
      right;rw[hlen];cases hq:aA[i']? with
      |none=>rw[hq]at ky;cases ky
      |some c =>
       rw[hq]at ky;exact hrf c (List.mem_of_getElem? hq) x' (List.mem_of_getElem? ky))
     exact Zcg
  case makeSlice t l c =>
   unfold XD at ha;split at ha
   case h_2=>exact ha.elim
   rename_i k1 n k2 m ee i hl hc bL;obtain⟨h1,ha⟩:=ha;refine⟨_,_,ha,λs' hlen jT σ w N a0 hI hR=>?_⟩;have I2:mh P ⟨dst,.makeSlice t l c,ty,pos,after,guard⟩ e s' (.so s'.length 0 0 n.toNat) (s'++[⟨0,true,i.sz,List.replicate n.toNat (i.zero.map cv)⟩]):=by unfold mh du;simp only;unfold gR;rw[hl,hc,bL];exact⟨h1,rfl,rfl⟩
   refine Oper.wp_mono (λa' w' ⟨u,v,σ',s1,RC,yn,jR,qu,XU,hK2⟩=>?_) (jY I2 σ w N a0 hI hR);subst XU hK2;obtain⟨m1,m2,m3⟩:=oS hI yn jR jT rfl (λi' j x' ky=>by
    cases hq:(List.replicate n.toNat (i.zero.map cv))[i']? with
    |none=>rw[hq]at ky;cases ky
    |some e' =>
     have he:=List.eq_of_mem_replicate (List.mem_of_getElem? hq);subst he;rw[hq]at ky;simp only[alO,List.getElem?_map]at ky;obtain⟨d,_,rfl⟩:=Option.map_eq_some_iff.1 ky;exact Xw d)
   exact Zcg
  case call c =>
   split at ha
   case h_2=>exact ha.elim
   rename_i a x t t' Gf AF Ue;split at ha
   case h_3=>exact ha.elim
   case h_2 =>
    rename_i aA hx;obtain⟨callee,args,JM⟩:=c;simp only at Gf AF Ue;subst Gf;unfold Zm at ha;split at ha
    case h_3=>exact ha.elim
    case h_2 =>
     rename_i ns ee i hy bL;obtain⟨⟨rfl,rfl,h2,h3,h4,h6⟩,ha⟩:=ha;refine⟨_,_,ha,λs' hlen jT σ w N a0 hI hR=>?_⟩;have I2:mh P ⟨dst,.call ⟨.builtin .append,args,JM⟩,ty,pos,after,guard⟩ e s' (.so s'.length 0 0 ns.length) (s'++[⟨0,true,i.sz,ns.map (·.map .d)⟩]):=by
      unfold mh du iB;simp only[AF,Ue,eq_self,if_true];unfold dN;rw[hx,hy,bL];have uj:jl s' (.d (.sl ns))=some (ns.map (·.map .d)):=rfl;rw[uj];refine⟨⟨λe he=>?_,h2,h3⟩,?_⟩
      ·exact Zdz
      ·simp only;refine⟨⟨.inl trivial,by simpa using h4,aq⟩,?_,?_⟩ <;> simp
     refine Oper.wp_mono (λa' w' ⟨u,v,σ',s1,RC,yn,jR,qu,XU,hK2⟩=>?_) (jY I2 σ w N a0 hI hR);subst XU hK2;obtain⟨m1,m2,m3⟩:=oS hI yn jR jT rfl (λi' j x' ky=>by
      rw[List.getElem?_map]at ky;cases hq:ns[i']? with
      |none=>rw[hq]at ky;cases ky
      |some c =>
       rw[hq]at ky;simp only[ala,alO,List.getElem?_map]at ky;obtain⟨d,_,rfl⟩:=Option.map_eq_some_iff.1 ky;rfl)
     exact Zcg
    rename_i ns ee i hy bL;obtain⟨⟨rfl,h1,h2,h3,h4,h5,h6⟩,ha⟩:=ha;refine⟨_,_,ha,λs' hlen jT σ w N a0 hI hR=>?_⟩;have aE:h<s'.length:=gN jT;have I2:mh P ⟨dst,.call ⟨.builtin .append,args,JM⟩,ty,pos,after,guard⟩ e s' (.so s'.length 0 0 (aA.length+ns.length)) (s'++[⟨0,true,i.sz,(aA++ns).map (·.map .d)⟩]):=by
     unfold mh du iB;simp only[AF,Ue,eq_self,if_true];unfold dN;rw[hx,hy,bL];have uj:jl s' (.fu ns)=some (ns.map (·.map .d)):=rfl;rw[uj];refine⟨⟨λe he=>?_,h2,h3⟩,?_⟩
     ·exact Zdz
     ·simp only;refine⟨⟨.inr (by simpa using h1),by simpa using h4,h5⟩,?_,?_⟩
      ·simp
      ·simp [amp]
    refine Oper.wp_mono (λa' w' ⟨u,v,σ',s1,RC,yn,jR,qu,XU,hK2⟩=>?_) (jY I2 σ w N a0 hI hR);subst XU hK2;obtain⟨m1,m2,m3⟩:=oS hI yn jR jT rfl (λi' j x' ky=>by
     rw[List.getElem?_map]at ky;cases hq:(aA++ns)[i']? with
     |none=>rw[hq]at ky;cases ky
     |some c =>
      rw[hq]at ky;simp only[ala,alO,List.getElem?_map]at ky;obtain⟨d,_,rfl⟩:=Option.map_eq_some_iff.1 ky;rfl)
    exact Zcg
   rename_i id g lo n hx;obtain⟨⟨rfl,r9⟩,rfl,ha⟩:=ha;obtain⟨callee,args,JM⟩:=c;simp only at Gf AF Ue;subst Gf;unfold dN at ha;cases bL:jn P t with
   |none=>rw[bL]at ha;exact ha.elim
   |some ei =>
    obtain⟨ee,i⟩:=ei;rw[bL]at ha;simp only at ha;cases yS:jl s (ev e x) with
    |none=>rw[yS]at ha;exact ha.elim
    |some ns =>
     rw[yS]at ha;simp only[hx,wq,PH]at ha;obtain⟨h1,h2,h3,ha⟩:=ha;refine⟨_,_,ha,λs' hlen jT=>jY ?_⟩;unfold mh du iB;simp only[AF,Ue,eq_self,if_true];unfold dN;rw[Nt r9 s s',yS,bL];simp only[hx,wq,jT,PH];exact⟨h1,h2,h3,trivial,trivial⟩
def U3 (P:Program) (o:Oper) (e:Env) (s:List Obj) (h:Nat) (K:V->List Obj->Prop):Prop :=
 match s[h]? with
 |none=>False
 |some ob=>match o.op with
  |.call c=>match c.callee,c.args.toList,c.argTypes.toList with
   |.builtin .append,[a,x],[t,t']=>match ev e a,ev e x,jn P t with
    |.cap cl _ (.so id g lo n),.fu ns,some (_,i)=>(id=h/\ob.g=g/\ob.live=true/\t=t'/\ob.sz=i.sz/\(∀e∈ns,e.length=i.sz)/\0<i.sz/\0<ns.length/\lo+n<=ob.aA.length/\n+ns.length<=cl) /\
      K (.so id g lo (n+ns.length)) (s.set h ⟨g,true,i.sz,ob.aA.take (lo+n)++ns.map (·.map .d)++ob.aA.drop (lo+n+ns.length)⟩)
    |_,_,_=>False
   |_,_,_=>False
  |_=>False
def TP (P:Program) (o:Oper) (e:Env) (s:List Obj) (rd:List Nat) (h:Nat) (K:V->List Obj->Prop):Prop :=
 match s[h]? with
 |none=>False
 |some ob=>match o.op with
  |.call c=>match c.callee,c.args.toList,c.argTypes.toList with
   |.builtin .append,[a,x],[t,t']=>match ev e a,ev e x,jn P t with
    |.cap _ ch (.so id g lo n),.fu ns,some (_,i)=>match s[id]? with
     |none=>False
     |some o=>(rd.contains id=true/\o.g=g/\t=t'/\o.sz=i.sz/\(∀e∈ns,e.length=i.sz)/\0<i.sz/\0<i.EP/\0<ns.length/\lo+n<=o.aA.length/\ch<n+ns.length/\(n+ns.length)*i.EP<=140737488355328 /\
       (∀e∈o.aA,∀x∈e,ak 0 x=true))/\K (.so h (ob.g+1) 0 (n+ns.length)) (s.set h ⟨ob.g+1,true,i.sz,(o.aA.drop lo).take n++ns.map (·.map .d)⟩)
    |_,_,_=>False
   |_,_,_=>False
  |_=>False
theorem Ag{dst:Option Nat}{ty:TypeId}{pos:String}{after:Array Edge}{guard:Option (Nat×Bool)}{a x:Operand}{JM:Array TypeId}:∀y,y∈[a,x]->ev (pK full ⟨dst,.call ⟨.builtin .append,#[a,x],JM⟩,ty,pos,after,guard⟩ e) y=ev e y:=by
 intro y hy;cases y with
 |tmp k =>
  have hk:k∈(⟨dst,.call ⟨.builtin .append,#[a,x],JM⟩,ty,pos,after,guard⟩:Oper).looksAt full.toArray:=List.mem_append_left _ (List.mem_filterMap.2 ⟨.tmp k,by
   simp only[alT,amc,or_false]at hy;rcases hy with rfl|rfl <;> simp [Op.operands,Call.operands],rfl⟩)
  simp [ev,pK,hk]
 |_=>rfl
theorem Tx (ha:U3 P o e s h K) :
  ∃v o',K v (s.set h o')/\∀s',s'.length=s.length->s'[h]?=s[h]?->OL P full o e s' v (s'.set h o'):=by
 obtain⟨dst,op,ty,pos,after,guard⟩:=o;unfold U3 at ha;cases PH:s[h]? with
 |none=>rw[PH]at ha;exact ha.elim
 |some ob =>
  rw[PH]at ha;simp only at ha;cases op <;> simp only at ha <;> try exact ha.elim
  rename_i c;split at ha
  case h_2=>exact ha.elim
  rename_i a x t t' Gf AF Ue;split at ha
  case h_2=>exact ha.elim
  rename_i cl ch id g lo n ns ee i hea hex bL;obtain⟨⟨rfl,hg,hl,rfl,gr,hz,hp,hn,hle,hr⟩,ha⟩:=ha;refine⟨_,_,ha,λs' hlen jT σ w N a0 hI hR=>?_⟩;obtain⟨callee,args,JM⟩:=c;simp only at Gf AF Ue;subst Gf;have e1:args=#[a,x]:=Array.toList_inj.1 (by rw[AF]);have e2:JM=#[t,t]:=Array.toList_inj.1 (by rw[Ue]);subst e1 e2;have ra:=hR.ev a;rw[Ag a aq,hea]at ra;have rx:=hR.ev x;rw[Ag x aq,hex]at rx;cases ra with|cap xY ra=>?_
  obtain⟨r,σ',w',k1,k2,k3,k4⟩:=K6 (ty:=ty) hI ra xY rx rfl bL jT hg gr (λe he=>by
   obtain⟨d,hd,rfl⟩:=List.mem_map.1 he;simpa using hz d hd) hp (by simpa using hn) hle hl (by simpa using hr)
  rw[ak4]at k2 k3 k4;exact fx (by simp [execOp,resolve,invoke,builtin,k1]) k2 k3 k4 ⟨rfl,rfl⟩
theorem Vu{rd:List Nat} (ha:TP P o e s rd h K) :
  ∃v o',K v (s.set h o')/\∀s',s'.length=s.length->s'[h]?=s[h]?->(∀id∈rd,s'[id]?=s[id]?)->OL P full o e s' v (s'.set h o'):=by
 obtain⟨dst,op,ty,pos,after,guard⟩:=o;unfold TP at ha;cases PH:s[h]? with
 |none=>rw[PH]at ha;exact ha.elim
 |some ob =>
  rw[PH]at ha;simp only at ha;cases op <;> simp only at ha <;> try exact ha.elim
  rename_i c;split at ha
  case h_2=>exact ha.elim
  rename_i a x t t' Gf AF Ue;split at ha
  case h_2=>exact ha.elim
  rename_i cl ch id g lo n ns ee i hea hex bL;split at ha
  ·exact ha.elim
  rename_i o ho;obtain⟨⟨JV,hg,rfl,gr,hz,hp,hbp,hn,hle,hr,hb,hd⟩,ha⟩:=ha;refine⟨_,_,ha,λs' hlen jT Qe σ w N a0 hI hR=>?_⟩;obtain⟨callee,args,JM⟩:=c;simp only at Gf AF Ue;subst Gf;have e1:args=#[a,x]:=Array.toList_inj.1 (by rw[AF]);have e2:JM=#[t,t]:=Array.toList_inj.1 (by rw[Ue]);subst e1 e2;have ra:=hR.ev a;rw[Ag a aq,hea]at ra;have rx:=hR.ev x;rw[Ag x aq,hex]at rx;cases ra with|cap xY ra=>?_
  have jb:s'[id]?=some o:=(Qe id (by simpa using JV)).trans ho;obtain⟨r,σ',w',k1,k2,k3,k4⟩:=KH (ty:=ty) hI ra xY rx rfl bL jb hg gr (λe he=>by
   obtain⟨d,hd,rfl⟩:=List.mem_map.1 he;simpa using hz d hd) hp (by simpa using hn) hle hbp (by simpa using hb) (by simpa using hr)
  rw[ak4]at k4;obtain⟨m1,m2,m3⟩:=oS hI k2 k3 jT rfl (λi' j x' ky=>by
   simp only at ky;cases hq:((o.aA.drop lo).take n++ns.map (·.map .d))[i']? with
   |none=>rw[hq]at ky;cases ky
   |some c =>
    rw[hq]at ky;have hm:=List.mem_of_getElem? ky;rcases List.mem_append.1 (List.mem_of_getElem? hq) with hc|hc
    ·exact hd c (List.mem_of_mem_drop (alU hc)) x' hm
    ·obtain⟨dd,_,rfl⟩:=List.mem_map.1 hc;obtain⟨y,_,rfl⟩:=List.mem_map.1 hm;rfl)
  exact fx (by simp [execOp,resolve,invoke,builtin,k1]) m1 m2 (m3 _ _ _ k4) ⟨rfl,rfl⟩
def T3 (s:List Obj) (K:V->List Obj->Prop) (v:V) (s1:List Obj):Prop:=s1=s/\K v s
theorem vO{v:V}:T3 s K v s1=(s1=s/\K v s):=(rfl)
def Jm (o:Oper) (e:Env) (ws:List Nat):Bool:=R6 o&&(tH e o).all λid=>!ws.contains id
def Wp (o:Oper) (e:Env) (rd:List Nat):Bool:=R6 o&&(tH e o).all λid=>rd.contains id
def fJ (P:Program) (bars:List Nat) (fs:cT) (i:Nat) (o:Oper) (e:Env) (s:List Obj) (K:V->List Obj->Prop):Prop :=
 match bars.contains i with
 |true=>match mK o e with
  |some (some (f,args))=>Ya P f args s K
  |some none=>False
  |none=>du P o e s K
 |false=>match iK fs i with
  |none=>match mK o e with
   |some (some (f,args))=>UB P f args s K
   |some none=>False
   |none=>Jm o e (Jy fs)=true/\du P o e s (T3 s K)
  |some (rd,wr)=>match mK o e with
   |some (some (f,args))=>EH P rd wr f args s K
   |some none=>False
   |none=>match wr with
    |[]=>Wp o e rd=true/\du P o e s (T3 s K)
    |[h]=>rd.contains h=true/\TG P o e s h K
    |[h,_]=>rd.contains h=true/\U3 P o e s h K
    |[h,_,_]=>rd.contains h=true/\TP P o e s rd h K
    |_=>False
theorem zm:∀(ρ:List Nat) (os:List Obj) (s s':List Obj) (id:Nat),id∈ρ->os.length=ρ.length->s.length=s'.length->(aT s ρ os)[id]?=(aT s' ρ os)[id]?
 |[],_,_,_,_,h,_,_=>by cases h
 |r::ρ,[],_,_,_,_,h,_=>by simp at h
 |r::ρ,o::os,s,s',id,h,hl,hs=>by
  simp only[aT];by_cases hm:id∈ρ
  ·exact zm ρ os _ _ id hm (by simpa using hl) (by simpa using hs)
  ·have:id=r:=by rcases List.mem_cons.1 h with h|h;exact h;exact absurd h hm
   subst this;rw[ij ρ os _ _ hm,ij ρ os _ _ hm];exact ZaM
theorem Ru (hg:∀g want,o.guard=some (g,want)->∃d,mU full g=some d/\e d=.d (.sc (.bool want))) (h:fJ P bars fs i o e s K) :
  ∃v tf,Pc P full bars fs i o ⟨some v,tf⟩ e s/\K v (tf s):=by
 unfold fJ at h;cases hb:bars.contains i with
 |true =>
  rw[hb]at h;simp only at h;have bar:∀v s1,mh P o e s v s1->K v s1->∃v tf,Pc P full bars fs i o ⟨some v,tf⟩ e s/\K v (tf s):=by intro v s1 h1 h2;refine⟨v,λ_=>s1,⟨(λh=>by rw[hb]at h;cases h),hg,λs' _ h' _=>?_⟩,h2⟩;rw[h' hb];exact jY h1
  split at h
  ·rename_i f args hc;obtain⟨v,s1,h1,h2⟩:=h;exact bar v s1 (by unfold mh;rw[DT hc];exact h1) h2
  ·exact h.elim
  ·rename_i hc;obtain⟨v,s1,h1,h2⟩:=Ny (yy hc) _ h;exact bar v s1 h1 h2
 |false =>
  rw[hb]at h;simp only at h;cases hf:iK fs i with
  |none =>
   rw[hf]at h;simp only at h;have acN:OG fs i λs=>s:=λs=>⟨rfl,λ_ _=>rfl,λs' hl id hw _=>by simp [oJ,hf]at hw⟩
   split at h
   ·rename_i f args hc;obtain⟨v,h1,h2⟩:=h;exact⟨v,λs=>s,⟨λ_=>acN,hg,λs' _ _ _=>jY (by unfold mh;rw[DT hc];exact h1 s')⟩,h2⟩
   ·exact h.elim
   ·rename_i hc;obtain⟨hr,h⟩:=h;obtain⟨v,s1,h1,h2,h3⟩:=Ny (yy hc) _ h;subst h2;simp only[Jm,alo,als,Bool.not_eq_true',List.contains_eq_mem,decide_eq_false_iff_not]at hr;refine⟨v,λs=>s,⟨λ_=>acN,hg,λs' _ _ Qe=>jY (KR hr.1 (λid dA=>Qe id ?_) h1)⟩,h3⟩;unfold S8;rw[hf];exact hr.2 id dA
  |some rw' =>
   obtain⟨rd,wr⟩:=rw';rw[hf]at h;simp only at h;split at h
   ·rename_i f args hc;obtain⟨v,os,hl,h1,h2⟩:=h;refine⟨v,λs=>aT s wr os,⟨λ_ s=>⟨py _ _ _,λid dA=>ij _ _ _ _ (by simpa [oJ,hf]using dA),λs' MV id dA _=>zm _ _ _ _ _ (by simpa [oJ,hf]using dA) hl MV.symm⟩,hg,
     λs' MV _ Qe=>jY (by unfold mh;rw[DT hc];exact h1 s' MV λid dA=>Qe id (by unfold S8;rw[hf];exact dA))⟩,h2⟩
   ·exact h.elim
   ·rename_i hc;split at h
    ·obtain⟨hr,h⟩:=h;obtain⟨v,s1,h1,h2,h3⟩:=Ny (yy hc) _ h;subst h2;simp only[Wp,alo,als,List.contains_eq_mem,decide_eq_true_eq]at hr;refine⟨v,λs=>s,⟨λ_ s=>⟨rfl,λ_ _=>rfl,λs' hl id hw _=>by simp [oJ,hf]at hw⟩,hg,λs' _ _ Qe=>jY (KR hr.1 (λid dA=>Qe id ?_) h1)⟩,h3⟩;unfold S8;rw[hf];exact hr.2 id dA
    ·rename_i hh;obtain⟨hr,h⟩:=h;obtain⟨v,o',h1,h2⟩:=Vr (full:=full) h;refine⟨v,λs=>s.set hh o',⟨λ_ s=>⟨aq,λid dA=>?_,λs' MV id dA _=>?_⟩,hg,λs' MV _ Qe=>h2 s' MV (Qe hh ?_)⟩,h1⟩
     ·have:id≠hh:=by simpa [oJ,hf]using dA
      exact List.getElem?_set_ne (Ne.symm this)
     ·have:id=hh:=by simpa [oJ,hf]using dA
      subst this;exact ZaM
     ·unfold S8;rw[hf];simpa using hr
    ·rename_i hh hh2;obtain⟨hr,h⟩:=h;obtain⟨v,o',h1,h2⟩:=Tx (full:=full) h;refine⟨v,λs=>s.set hh o',⟨λ_ s=>⟨aq,λid dA=>?_,λs' MV id dA aaV=>?_⟩,hg,λs' MV _ Qe=>h2 s' MV (Qe hh ?_)⟩,h1⟩
     ·exact Zcw
     ·exact Zeh
     ·unfold S8;rw[hf];simpa using hr
    ·rename_i hh hh2 hh3;obtain⟨hr,h⟩:=h;obtain⟨v,o',h1,h2⟩:=Vu (full:=full) h;refine⟨v,λs=>s.set hh o',⟨λ_ s=>⟨aq,λid dA=>?_,λs' MV id dA aaV=>?_⟩,hg,λs' MV _ Qe=>h2 s' MV (Qe hh ?_) λid dA=>Qe id (by unfold S8;rw[hf];exact dA)⟩,h1⟩
     ·exact Zcw
     ·exact Zeh
     ·unfold S8;rw[hf];simpa using hr
    ·exact h.elim
def im (P:Program) (N:Nat) (full:List Oper) (bars:List Nat) (fs:cT):Nat->List Oper->Env->List Obj->(Env->List Obj->Prop)->Prop
 |_,[],e,s,K=>K e s
 |i,o::rest,e,s,K=>eS N o.dst/\match o.guard with
  |none=>match o.op with
   |.pick c a b=>bars.contains i=false/\iK fs i=none/\iH (ev e c) (im P N full bars fs (i+1) rest (jH e o.dst (ev e a)) s K) (im P N full bars fs (i+1) rest (jH e o.dst (ev e b)) s K)
   |_=>fJ P bars fs i o e s λv s1=>im P N full bars fs (i+1) rest (jH e o.dst v) s1 K
  |some (g,want)=>me (mU full g) e want (λe=>fJ P bars fs i o e s λv s1=>im P N full bars fs (i+1) rest (jH e o.dst v) s1 K)
    (λe=>im P N full bars fs (i+1) rest (jH e o.dst .un) s K)
theorem sX {P:Program}{N:Nat}{full:List Oper}{bars:List Nat}{fs:cT}:∀(l:List Oper) (i:Nat) (e:Env) (s:List Obj) (K:Env->List Obj->Prop),im P N full bars fs i l e s K ->
  ∃tr e' s',Trace P N full bars fs i l tr e s e' s'/\K e' s'
 |[],i,e,s,K,h=>⟨[],e,s,⟨rfl,rfl⟩,h⟩
 |o::rest,i,e,s,K,h=>by
  obtain⟨hd,h⟩:=h;have run:(∀g want,o.guard=some (g,want)->∃d,mU full g=some d/\e d=.d (.sc (.bool want)))->(fJ P bars fs i o e s λv s1=>im P N full bars fs (i+1) rest (jH e o.dst v) s1 K) ->
    ∃tr e' s',Trace P N full bars fs i (o::rest) tr e s e' s'/\K e' s':=by
   intro hg h;obtain⟨v,tf,h1,h2⟩:=Ru hg h;obtain⟨tr,e',s',k1,k2⟩:=sX rest (i+1) _ _ K h2;exact⟨⟨some v,tf⟩::tr,e',s',⟨hd,h1,k1⟩,k2⟩
  split at h
  ·rename_i hg;have hgn:∀g want,o.guard=some (g,want)->∃d,mU full g=some d/\e d=.d (.sc (.bool want)):=λg want h=>by rw[hg]at h;cases h
   split at h
   ·rename_i c a b Aq;obtain⟨oK,hnf,h⟩:=h;unfold iH at h;split at h
    ·rename_i bb VS;have go:∀(v:V),(∀s',mh P o e s' v s')->im P N full bars fs (i+1) rest (jH e o.dst v) s K->∃tr e' s',Trace P N full bars fs i (o::rest) tr e s e' s'/\K e' s':=by intro v hv h2;obtain⟨tr,e',s',k1,k2⟩:=sX rest (i+1) _ _ K h2;exact⟨⟨some v,λs=>s⟩::tr,e',s',⟨hd,⟨λ_ s=>⟨rfl,λ_ _=>rfl,λs' hl id hw _=>by simp [oJ,hnf]at hw⟩,hgn,λs' _ _ _=>jY (hv s')⟩,k1⟩,k2⟩
     cases bb with
     |true=>exact go _ (λs'=>by simp [mh,du,Aq,iH,VS]) (h.1 rfl)
     |false=>exact go _ (λs'=>by simp [mh,du,Aq,iH,VS]) (h.2 rfl)
    ·exact h.elim
   ·exact run hgn h
  ·rename_i g want hg;unfold me at h;split at h
   case h_1=>exact h.elim
   rename_i d YY;have skip:(e d=.d (.sc (.bool (!want)))\/e d=.un)->im P N full bars fs (i+1) rest (jH e o.dst .un) s K ->
     ∃tr e' s',Trace P N full bars fs i (o::rest) tr e s e' s'/\K e' s':=by
    intro hv h2;obtain⟨tr,e',s',k1,k2⟩:=sX rest (i+1) _ _ K h2;exact⟨⟨none,λs=>s⟩::tr,e',s',⟨hd,⟨λ_ s=>⟨rfl,λ_ _=>rfl,λs' hl id _ h=>h.symm⟩,λ_=>rfl,g,want,d,hg,YY,hv⟩,k1⟩,k2⟩
   split at h
   ·rename_i b hb;by_cases hbw:b=want
    ·subst hbw;have:=h.1 rfl;rw[HB hb]at this;exact run (λg' ahn D4=>by rw[hg]at D4;cases D4;exact⟨d,YY,hb⟩) this
    ·have Wv:b=!want:=by cases b <;> cases want <;> simp_all
     subst Wv;have:=h.2 rfl;rw[HB hb]at this;exact skip (.inl hb) this
   ·rename_i hb;exact skip (.inr hb) h
   ·exact h.elim
def gV (P:Program) (N:Nat) (full:List Oper) (bars:List Nat) (fs:cT) (i:Nat) (rest:List Oper) (e:Env) (d:Option Nat) (K:Env->List Obj->Prop) (v:V) (s:List Obj):Prop:=im P N full bars fs i rest (jH e d v) s K
theorem wJ{rest:List Oper}{d:Option Nat}{K:Env->List Obj->Prop}{v:V}:gV P N full bars fs i rest e d K v s=im P N full bars fs i rest (jH e d v) s K:=(rfl)
theorem zu{K:Env->List Obj->Prop}:im P N full bars fs i [] e s K=K e s:=(rfl)
theorem ZZ (hm:P.follows .mixedOrders=true) (bars:List Nat) (fs:cT){K:Env->List Obj->Prop} (hd:kt full bars fs=true) (h:im P N full bars fs 0 full e s K):tv P N full e s K:=by obtain⟨tr,e',s',h1,h2⟩:=sX _ _ _ _ _ h;exact L0 hm hd h1 h2
theorem cP{full:List Oper}(hm:P.follows .mixedOrders=true)(bars:List Nat)(fs:cT){K:Env->List Obj->Prop}(h:im P N full bars fs 0 full e s K)(hd:kt full bars fs=true:=by rfl):tv P N full e s K:=ZZ hm bars fs hd h
theorem DR (h:aS P f args r) (ha:ak.go 0 args=true) (hr:ak 0 r=true) (hk:K r s):UB P f args s K :=
 ⟨r,λs'=>bB h ha hr ⟨rfl,rfl⟩,hk⟩
theorem HD(h:aS P f args r)(hk:K r s)(ha:ak.go 0 args=true:=by first|rfl|simp [ak,ak.go,au,i64,bV,fY])(hr:ak 0 r=true:=by first|rfl|simp [ak,ak.go,au,i64,bV,fY]):UB P f args s K:=DR h ha hr hk
theorem cU (h:av P f args s λv' Cx=>v'=r/\Cx=s1) (hk:K r s1):Ya P f args s K:=⟨r,s1,h,hk⟩
def cr (e:Env) (s:List Obj) (e':Env) (s':List Obj):Prop :=
 ∀(σ0:Gh) (s0:List Obj) (w0:World) (σ:Gh) (w:World) (N:Nat) (a:Act),aK σ0 s0 w0 σ s w->Inv σ s w->eE σ s w N e a->∃σ',aK σ0 s0 w0 σ' s' w/\Inv σ' s' w/\eE σ' s' w N e' a
theorem aW{K:Env->List Obj->Prop} (h:cr e s e' s') (k:tv P N full e' s' K):tv P N full e s K:=by intro σ0 s0 w0 Q hKQ σ w a id hE hI hR;obtain⟨σ',h1,h2,h3⟩:=h σ0 s0 w0 σ w N a hE hI hR;exact k σ0 s0 w0 Q hKQ σ' w a id h1 h2 h3
def hole:Obj:=⟨0,true,0,[]⟩
theorem cr.bu:cr e s e (s++[hole]):=by intro σ0 s0 w0 σ w N a hE hI hR;have:=pP (p:=none) (o':=hole) (w':=w) hI rfl rfl rfl (ale _) (λ_ _=>rfl) (λ_ _ h'=>by cases h') (λ_=>.inl (.inl ⟨rfl,rfl⟩));exact⟨_,hE.trans this.1,this.2,hR.bj this.1⟩
theorem cr.trans {e'':Env}{Cx:List Obj} (h:cr e s e' s') (k:cr e' s' e'' Cx):cr e s e'' Cx:=by intro σ0 s0 w0 σ w N a hE hI hR;obtain⟨σ',h1,h2,h3⟩:=h σ0 s0 w0 σ w N a hE hI hR;exact k σ0 s0 w0 σ' w N a h1 h2 h3
def l9 (s:List Obj) (lj:List Nat) (e:Env):Env:=λt=>if lj.contains t then gi s.length s (e t) else e t
theorem cr.freeze (ids lj:List Nat):cr e s (l9 (bI s ids) lj e) (bI s ids):=by
 intro σ0 s0 w0 σ w N a hE hI hR;obtain⟨h1,h2⟩:=rT ids s hI;refine⟨σ,hE.trans h1,h2,hR.1,hR.2.1,λt=>?_⟩;unfold l9;split
 ·have:=uU h2 (bM:=(bI s ids).length) ((hR.2.2 t).bj h1);rwa [alr]at this
 ·exact(hR.2.2 t).bj h1
theorem J1{o o':Obj} (h:av P f args [o] λv s'=>v=r/\s'=[o']) (ha:args.map (aI [0])=args) (xj:ak.go 1 args=true)
  (Nd:aY 1 o=true) (ho:ba [0] o=o) (jb:ba [0] o'=o') (hr:aI [0] r=r) (hk:K r (o'::rest)):av P f args (o::rest) K:=by
 refine x9 h [0] rfl aq (λk ob hk=>?_) ha.symm xj (by simp [Nd]) λv s' hv=>?_
 ·cases k with
  |zero=>simp at hk;subst hk;simp [ho]
  |succ k=>simp at hk
 ·obtain⟨rfl,rfl⟩:=hv;refine⟨rfl,?_⟩;rw[hr];simpa [aT,jb]using hk
theorem Qw{o o':Obj} (h:av P f args [o] λv s'=>v=r/\s'=[o']) (ha:args.map (aI [0])=args) (xj:ak.go 1 args=true)
  (Nd:aY 1 o=true) (ho:ba [0] o=o) (jb:ba [0] o'=o') (hr:aI [0] r=r) (hk:K r (o'::rest)):EH P [0] [0] f args (o::rest) K:=by
 refine⟨r,[o'],rfl,λs' hl hs=>?_,by simpa [aT]using hk⟩;cases s' with
 |nil=>simp at hl
 |cons o1 aid =>
  have:o1=o:=by have:=hs 0 aq;simpa using this
  subst this;exact J1 h ha xj Nd ho jb hr ⟨rfl,by simp [aT]⟩
theorem rZ{o o':Obj}(h:av P f args [o] λv s'=>v=r/\s'=[o'])(hk:K r (o'::rest))(ha:args.map (aI [0])=args:=by exact rfl)(xj:ak.go 1 args=true:=by exact rfl)(Nd:aY 1 o=true:=by exact rfl)(ho:ba [0] o=o:=by exact rfl)(jb:ba [0] o'=o':=by exact rfl)(hr:aI [0] r=r:=by first|exact rfl|exact zE _ _):av P f args (o::rest) K:=J1 h ha xj Nd ho jb hr hk
theorem ofA{o o':Obj}(h:av P f args [o] λv s'=>v=r/\s'=[o'])(hk:K r (o'::rest))(ha:args.map (aI [0])=args:=by exact rfl)(xj:ak.go 1 args=true:=by exact rfl)(Nd:aY 1 o=true:=by exact rfl)(ho:ba [0] o=o:=by exact rfl)(jb:ba [0] o'=o':=by exact rfl)(hr:aI [0] r=r:=by first|exact rfl|exact zE _ _):EH P [0] [0] f args (o::rest) K:=Qw h ha xj Nd ho jb hr hk
end Go.VL
