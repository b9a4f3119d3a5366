/- A part of the proof (Vq). -/
import Derived.Test.YtfmdmlfhigocaaaON10
set_option linter.unusedSimpArgs false
set_option linter.unusedVariables false
set_option maxRecDepth 100000
set_option maxHeartbeats 80000000
namespace Go.VL
variable{e:Env}{f:FuncId}{P:Program}{o:Oper}{args:List V}{w:World}{id:Nat}{s:List Obj}{h:Nat}{full:List Oper}{K:V->List Obj->Prop}{s1:List Obj}{i:Nat}{fs:cx}{bars:List Nat}{N:Nat}{r:V}{e':Env}{s':List Obj}{rest:List Obj}
def lI (o:Oper) (e:Env):Option (Option (FuncId×List V)) :=
 match o.op with
 |.call c=>match c.callee with
  |.value (.func f)=>some (some (f,c.args.toList.map (ev e)))
  |.value x=>match Dw (e 0) (ev e x) with
   |.cl (.func g) first ak=>some (some (g,first++c.args.toList.map (ev e)++ak))
   |_=>some none
  |.invoke ..=>some none
  |.builtin _=>none
 |_=>none
theorem By (h:lI o e=some (some (f,args))) (s:List Obj) (K:V->List Obj->Prop):cN P o e s K=aq P f args s K:=by
 obtain⟨dst,op,ty,pos,after,guard⟩:=o;cases op <;> try (simp [lI]at h;done)
 rename_i c;obtain⟨callee,cargs,argTypes⟩:=c;cases callee with
 |value x =>
  cases x with
  |func g=>simp only[lI,afY,agx]at h;obtain⟨rfl,rfl⟩:=h;rfl
  |tmp t =>
   simp only[lI]at h;split at h
   ·rename_i g first ak fK
    simp only[afY,agx]at h;obtain⟨rfl,rfl⟩:=h;simp only[cN,gH,fK]
   ·cases h
  |const t =>
   simp only[lI]at h;split at h
   ·rename_i g first ak fK
    simp only[afY,agx]at h;obtain⟨rfl,rfl⟩:=h;simp only[cN,gH,fK]
   ·cases h
  |global t =>
   simp only[lI]at h;split at h
   ·rename_i g first ak fK
    simp only[afY,agx]at h;obtain⟨rfl,rfl⟩:=h;simp only[cN,gH,fK]
   ·cases h
 |invoke r m=>simp [lI]at h
 |builtin b=>simp [lI]at h
theorem v7 (h:lI o e=none):KG o=false:=by
 obtain⟨dst,op,ty,pos,after,guard⟩:=o;cases op <;> try rfl
 rename_i c;obtain⟨callee,cargs,argTypes⟩:=c;cases callee with
 |value x =>
  cases x with
  |func g=>simp [lI]at h
  |tmp t=>simp only[lI]at h;split at h <;> cases h
  |const t=>simp only[lI]at h;split at h <;> cases h
  |global t=>simp only[lI]at h;split at h <;> cases h
 |invoke r m=>rfl
 |builtin b=>rfl
def Ub (P:Program) (f:FuncId) (args:List V) (s:List Obj) (K:V->List Obj->Prop):Prop:=∃v,(∀s',aq P f args s' λv' Am=>v'=v/\Am=s')/\K v s
def TH (P:Program) (f:FuncId) (args:List V) (s:List Obj) (K:V->List Obj->Prop):Prop:=∃v s1,(aq P f args s λv' Am=>v'=v/\Am=s1)/\K v s1
def EJ (P:Program) (rd wr:List Nat) (f:FuncId) (args:List V) (s:List Obj) (K:V->List Obj->Prop):Prop :=
 ∃v os,os.length=wr.length/\(∀s',s'.length=s.length->(∀id∈rd,s'[id]?=s[id]?)->aq P f args s' λv' Am=>v'=v/\Am=aE s' wr os)/\K v (aE s wr os)
def KX:V->Bool
 |.d (.sl _)=>true
 |.fu _=>true
 |_=>false
theorem Kp {x:V} (h:KX x=true) (s s':List Obj):iy s' x=iy s x:=by
 unfold KX at h;split at h
 ·rfl
 ·rfl
 ·cases h
def O3 (P:Program) (t t':TypeId) (aw:List (List D)) (x:V) (ob:Obj) (h:Nat) (s:List Obj) (K:V->List Obj->Prop):Prop :=
 match x,iN P t with
 |.fu ns,some (_,i)=>(t=t'/\0<ns.length/\0<i.sz/\0<i.Cs/\(aw.length+ns.length)*i.Cs<=140737488355328/\(∀e∈aw,e.length=i.sz)/\∀e∈ns,e.length=i.sz) /\
   K (.so h (ob.g+1) 0 (aw.length+ns.length)) (s.set h ⟨ob.g+1,true,i.sz,(aw++ns).map (·.map .d)⟩)
 |.d (.sl ns),some (_,i)=>(aw=[]/\t=t'/\0<i.sz/\0<i.Cs/\ns.length*i.Cs<=140737488355328/\∀e∈ns,e.length=i.sz) /\
   K (.so h (ob.g+1) 0 ns.length) (s.set h ⟨ob.g+1,true,i.sz,ns.map (·.map .d)⟩)
 |_,_=>False
def Tf (P:Program) (t:TypeId) (l c:V) (ob:Obj) (h:Nat) (s:List Obj) (K:V->List Obj->Prop):Prop :=
 match l,c,iN P t with
 |.d (.sc (.int _ n)),.d (.sc (.int _ m)),some (_,i)=>(0<=n/\n<=m/\i.Cs*m<=140737488355328/\m<=9223372036854775807/\0<i.sz) /\
   K (.so h (ob.g+1) 0 n.toNat) (s.set h ⟨ob.g+1,true,i.sz,List.replicate n.toNat (i.zero.map cv)⟩)
 |_,_,_=>False
def MQ (P:Program) (t:TypeId) (len:Nat) (parts:List (Nat×V)) (ob:Obj) (h:Nat) (s:List Obj) (K:V->List Obj->Prop):Prop :=
 match iN P t with
 |none=>False
 |some (_,i)=>(len*i.sz<=16777216/\0<i.sz)/\match sP i.sz (List.replicate len (i.zero.map cv)) parts with
  |none=>False
  |some aw=>(sY aw=none/\∀e∈aw,∀x∈e,ah s.length x=true)/\K (.so h (ob.g+1) 0 len) (s.set h ⟨ob.g+1,true,i.sz,aw⟩)
theorem Tb (v:Value):ah 0 (cv v)=true:=by unfold cv;split <;> rfl
def PI (P:Program) (o:Oper) (e:Env) (s:List Obj) (h:Nat) (K:V->List Obj->Prop):Prop :=
 match s[h]? with
 |none=>False
 |some ob=>match o.op with
  |.alloc t=>ob.live=true/\match cw P t with
   |some i=>K (.rf h (ob.g+1) 0 0) (s.set h ⟨ob.g+1,true,i.sz,[i.zero.map cv]⟩)
   |none=>False
  |.box _ x=>ob.live=true/\match dT (ev e x) with
   |some cs=>K (.rf h (ob.g+1) 0 0) (s.set h ⟨ob.g+1,true,cs.length,[cs]⟩)
   |none=>False
  |.store t a x=>match ev e a with
   |.rf id _ _ _=>id=h/\gY P t s (ev e a) (ev e x) λs'=>K .un s'
   |.pp id _ _ _ _ _=>id=h/\gY P t s (ev e a) (ev e x) λs'=>K .un s'
   |_=>False
  |.makeSlice t l c=>Tf P t (ev e l) (ev e c) ob h s K
  |.buildSlice t n ps=>MQ P t n (ps.toList.map λp=>(p.1,ev e p.2)) ob h s K
  |.call c=>match c.callee,c.args.toList,c.argTypes.toList with
   |.builtin .append,[a,x],[t,t']=>match ev e a with
    |.so id _ _ _=>(id=h/\KX (ev e x)=true)/\t=t'/\df P t (ev e a) (ev e x) s K
    |.fu aw=>O3 P t t' aw (ev e x) ob h s K
    |_=>False
   |_,_,_=>False
  |_=>False
theorem Q6 {σ:Gh} (hI:Inv σ s w){o:Obj} (ho:s[id]?=some o) (sT:o.live=true) {sz:Nat}{aw:List (List V)}{arr:Array Value} (E:TypeId) (hl:∀e∈aw,e.length=sz) (hs:aw.length*sz<=arr.size)
  (hc:∀(i j:Nat) (x:V),(aw[i]?.bind (·[j]?))=some x->∃u,arr[i*sz+j]?=some u/\u.oneCell'=true/\aA σ s w x u) :
  aF σ s w (mV σ id (some (w.heap.size,0))) (s.set id ⟨o.g+1,true,sz,aw⟩) (w.alloc (.cells arr E)) /\
  Inv (mV σ id (some (w.heap.size,0))) (s.set id ⟨o.g+1,true,sz,aw⟩) (w.alloc (.cells arr E)):=by
 refine ml (p:=some (w.heap.size,0)) hI ho sT rfl rfl rfl (by simp) (λb hb _=>Go.RowKit.Below.heap_alloc w _ b hb)
  (λb base cf E' kJ hh=>⟨cf,by rw[Go.RowKit.Below.heap_alloc w _ b (dF hh)];exact hh,rfl⟩)
  (λb base kJ hm=>let ⟨es,c,hh⟩:=hm;⟨es,c,by rw[Go.RowKit.Below.heap_alloc w _ b (dF hh)];exact hh⟩) (Nat.le_succ _) (λh=>by simp at h) (λb base h=>by cases h;exact .inr (af3 _))
  (λhE=>.inr ⟨w.heap.size,0,arr,E,rfl,heap_alloc_new w _,hl,by simpa using hs,λi j x hx=>?_⟩)
 obtain⟨u,h1,h2,h3⟩:=hc i j x hx;exact⟨u,by simpa using h1,h2,h3.aX hE⟩
theorem TV {σ:Gh} (cS:id<s.length) {o:Obj}{b base:Nat} (hC:Fs w b):aA (mV σ id (some (b,base))) (s.set id o) w (.rf id o.g 0 0) (.pointer (some ⟨b,base,none⟩)) :=
 .rf o (by simp [cS]) (af3 _) rfl (λ_=>⟨b,base,bQ _ _ _,hC,by simp⟩)
theorem Rk (ha:PI P o e s h K) :
  ∃v o',K v (s.set h o')/\∀s',s'.length=s.length->s'[h]?=s[h]?->Lx P full o e s' v (s'.set h o'):=by
 obtain⟨dst,op,ty,pos,after,guard⟩:=o;unfold PI at ha;cases xH:s[h]? with
 |none=>rw[xH]at ha;exact ha.elim
 |some ob =>
  rw[xH]at ha;simp only at ha;cases op <;> simp only at ha <;> try exact ha.elim
  case alloc t =>
   obtain⟨hl,ha⟩:=ha;split at ha
   case h_2=>exact ha.elim
   rename_i i hi;refine⟨_,_,ha,λs' hlen kJ σ w N a hI hR=>?_⟩;obtain⟨z,hz,hr,hs,Vz⟩:=yP hi σ s' w;have:=Q6 hI kJ hl (aw:=[i.zero.map cv]) (sz:=i.sz) (arr:=z.cells) t (by simp;rw[<- Vz];simpa using hs) (by simp [hs]) (uN hr i.sz);refine eO (u:=.pointer (some ⟨w.heap.size,0,none⟩)) (w':=w.alloc (.cells z.cells t)) ?_ this.1 this.2 (TV (o:=⟨ob.g+1,true,i.sz,[i.zero.map cv]⟩) (List.getElem?_eq_some_iff.1 kJ).1 ⟨_,_,heap_alloc_new w _⟩) ⟨rfl,rfl⟩;simp [execOp,Instr.alloc,hz,newVar,newRow]
  case box t x =>
   obtain⟨hl,ha⟩:=ha;split at ha
   case h_2=>exact ha.elim
   rename_i cs mZ;refine⟨_,_,ha,λs' hlen kJ σ w N a hI hR=>?_⟩;have hm:ev (oc full ⟨dst,.box t x,ty,pos,after,guard⟩ e) x=ev e x:=by
    cases x with
    |tmp t'=>simp [ev,oc,Oper.looksAt,Op.operands]
    |_=>rfl
   have hx:=hR.ev x;rw[hm]at hx;have hr:wM σ s' w cs (a.eval x).cells:=mq hx mZ;have:=Q6 hI kJ hl (aw:=[cs]) (sz:=cs.length) (arr:=(a.eval x).cells) t (by simp) (by simp [hr.1]) (uN hr _);refine eO (u:=.pointer (some ⟨w.heap.size,0,none⟩)) (w':=w.alloc (.cells (a.eval x).cells t)) ?_ this.1 this.2 (TV (o:=⟨ob.g+1,true,cs.length,[cs]⟩) (List.getElem?_eq_some_iff.1 kJ).1 ⟨_,_,heap_alloc_new w _⟩) ⟨rfl,rfl⟩;simp [execOp,Instr.box,newVar,newRow]
  case store t x y =>
   split at ha
   case h_3=>exact ha.elim
   ·rename_i id g k off hx;obtain⟨rfl,ha⟩:=ha;unfold gY at ha;cases ht:cw P t with
    |none=>rw[ht]at ha;exact ha.elim
    |some i =>
     rw[ht]at ha;simp only[hx,xH]at ha;obtain⟨h1,h2,ha⟩:=ha;split at ha
     ·exact ha.elim
     ·rename_i cs mZ;split at ha
      ·exact ha.elim
      ·rename_i ns wK;obtain⟨h3,h4,ha⟩:=ha;refine⟨_,_,ha,λs' hlen kJ=>js ?_⟩;unfold ll cN;simp only[gY,ht,hx,kJ,xH,mZ,wK];exact⟨h1,h2,h3,h4,trivial,trivial⟩
   ·rename_i id g k off b a' hx;obtain⟨rfl,ha⟩:=ha;unfold gY at ha;cases ht:cw P t with
    |none=>rw[ht]at ha;exact ha.elim
    |some i =>
     rw[ht]at ha;simp only[hx,xH]at ha;obtain⟨h1,h2,ha⟩:=ha;split at ha
     ·exact ha.elim
     ·rename_i cs mZ;split at ha
      ·exact ha.elim
      ·rename_i ns wK;obtain⟨h3,h4,ha⟩:=ha;refine⟨_,_,ha,λs' hlen kJ=>js ?_⟩;unfold ll cN;simp only[gY,ht,hx,kJ,xH,mZ,wK];exact⟨h1,h2,h3,h4,trivial,trivial⟩
  case buildSlice t n ps =>
   unfold MQ at ha;cases cI:iN P t with
   |none=>rw[cI]at ha;exact ha.elim
   |some ei =>
    obtain⟨ee,i⟩:=ei;rw[cI]at ha;simp only at ha;obtain⟨h1,ha⟩:=ha;cases wA:sP i.sz (List.replicate n (i.zero.map cv)) (ps.toList.map λp=>(p.1,ev e p.2)) with
    |none=>rw[wA]at ha;exact ha.elim
    |some aw =>
     rw[wA]at ha;simp only at ha;obtain⟨⟨rR,Tx⟩,ha⟩:=ha;refine⟨_,_,ha,λs' hlen kJ σ w N a0 hI hR=>?_⟩;have FP:ll P ⟨dst,.buildSlice t n ps,ty,pos,after,guard⟩ e s' (.so s'.length 0 0 n) (s'++[⟨0,true,i.sz,aw⟩]):=by unfold ll cN;simp only;unfold ey;rw[cI];simp only[wA,rR];exact⟨h1,trivial,trivial⟩
     refine Oper.wp_mono (λa' w' ⟨u,v,σ',s1,NP,vV,jo,oR,Rw,V5⟩=>?_) (js FP σ w N a0 hI hR);subst Rw V5;obtain⟨m1,m2,m3⟩:=BS hI vV jo kJ rfl (λi' j x' jB=>by
      right;rw[hlen];cases hq:aw[i']? with
      |none=>rw[hq]at jB;cases jB
      |some c =>
       rw[hq]at jB;exact Tx c (afW hq) x' (afW jB))
     exact⟨u,_,_,_,NP,m1,m2,m3 _ _ _ oR,rfl,rfl⟩
  case makeSlice t l c =>
   unfold Tf at ha;split at ha
   case h_2=>exact ha.elim
   rename_i k1 n k2 m ee i hl hc cI;obtain⟨h1,ha⟩:=ha;refine⟨_,_,ha,λs' hlen kJ σ w N a0 hI hR=>?_⟩;have FP:ll P ⟨dst,.makeSlice t l c,ty,pos,after,guard⟩ e s' (.so s'.length 0 0 n.toNat) (s'++[⟨0,true,i.sz,List.replicate n.toNat (i.zero.map cv)⟩]):=by unfold ll cN;simp only;unfold fY;rw[hl,hc,cI];exact⟨h1,rfl,rfl⟩
   refine Oper.wp_mono (λa' w' ⟨u,v,σ',s1,NP,vV,jo,oR,Rw,V5⟩=>?_) (js FP σ w N a0 hI hR);subst Rw V5;obtain⟨m1,m2,m3⟩:=nE hI vV jo kJ rfl (λi' j x' jB=>by
    cases hq:(List.replicate n.toNat (i.zero.map cv))[i']? with
    |none=>rw[hq]at jB;cases jB
    |some e' =>
     have he:=List.eq_of_mem_replicate (afW hq);subst he;rw[hq]at jB;simp only[agE,afO]at jB;obtain⟨d,_,rfl⟩:=Option.map_eq_some_iff.1 jB;exact Tb d)
   exact⟨u,_,_,_,NP,m1,m2,m3 _ _ _ oR,rfl,rfl⟩
  case call c =>
   split at ha
   case h_2=>exact ha.elim
   rename_i a x t t' Ds yG Qe;split at ha
   case h_3=>exact ha.elim
   case h_2 =>
    rename_i aw hx;obtain⟨callee,args,GL⟩:=c;simp only at Ds yG Qe;subst Ds;unfold O3 at ha;split at ha
    case h_3=>exact ha.elim
    case h_2 =>
     rename_i ns ee i hy cI;obtain⟨⟨rfl,rfl,h2,h3,h4,h6⟩,ha⟩:=ha;refine⟨_,_,ha,λs' hlen kJ σ w N a0 hI hR=>?_⟩;have FP:ll P ⟨dst,.call ⟨.builtin .append,args,GL⟩,ty,pos,after,guard⟩ e s' (.so s'.length 0 0 ns.length) (s'++[⟨0,true,i.sz,ns.map (·.map .d)⟩]):=by
      unfold ll cN gH;simp only[yG,Qe,eq_self,if_true];unfold df;rw[hx,hy,cI];have qX:iy s' (.d (.sl ns))=some (ns.map (·.map .d)):=rfl;rw[qX];refine⟨⟨λe he=>?_,h2,h3⟩,?_⟩
      ·obtain⟨d,hd,rfl⟩:=List.mem_map.1 he;simpa using h6 d hd
      ·simp only;refine⟨⟨.inl trivial,by simpa using h4,by simp⟩,?_,?_⟩ <;> simp
     refine Oper.wp_mono (λa' w' ⟨u,v,σ',s1,NP,vV,jo,oR,Rw,V5⟩=>?_) (js FP σ w N a0 hI hR);subst Rw V5;obtain⟨m1,m2,m3⟩:=nE hI vV jo kJ rfl (λi' j x' jB=>by
      rw[afO]at jB;cases hq:ns[i']? with
      |none=>rw[hq]at jB;cases jB
      |some c =>
       rw[hq]at jB;simp only[afV,agE,afO]at jB;obtain⟨d,_,rfl⟩:=Option.map_eq_some_iff.1 jB;rfl)
     exact⟨u,_,_,_,NP,m1,m2,m3 _ _ _ oR,rfl,rfl⟩
    rename_i ns ee i hy cI;obtain⟨⟨rfl,h1,h2,h3,h4,h5,h6⟩,ha⟩:=ha;refine⟨_,_,ha,λs' hlen kJ σ w N a0 hI hR=>?_⟩;have az:h<s'.length:=fo kJ;have FP:ll P ⟨dst,.call ⟨.builtin .append,args,GL⟩,ty,pos,after,guard⟩ e s' (.so s'.length 0 0 (aw.length+ns.length)) (s'++[⟨0,true,i.sz,(aw++ns).map (·.map .d)⟩]):=by
     unfold ll cN gH;simp only[yG,Qe,eq_self,if_true];unfold df;rw[hx,hy,cI];have qX:iy s' (.fu ns)=some (ns.map (·.map .d)):=rfl;rw[qX];refine⟨⟨λe he=>?_,h2,h3⟩,?_⟩
     ·obtain⟨d,hd,rfl⟩:=List.mem_map.1 he;simpa using h6 d hd
     ·simp only;refine⟨⟨.inr (by simpa using h1),by simpa using h4,h5⟩,?_,?_⟩
      ·simp
      ·simp [aha]
    refine Oper.wp_mono (λa' w' ⟨u,v,σ',s1,NP,vV,jo,oR,Rw,V5⟩=>?_) (js FP σ w N a0 hI hR);subst Rw V5;obtain⟨m1,m2,m3⟩:=nE hI vV jo kJ rfl (λi' j x' jB=>by
     rw[afO]at jB;cases hq:(aw++ns)[i']? with
     |none=>rw[hq]at jB;cases jB
     |some c =>
      rw[hq]at jB;simp only[afV,agE,afO]at jB;obtain⟨d,_,rfl⟩:=Option.map_eq_some_iff.1 jB;rfl)
    exact⟨u,_,_,_,NP,m1,m2,m3 _ _ _ oR,rfl,rfl⟩
   rename_i id g lo n hx;obtain⟨⟨rfl,yr⟩,rfl,ha⟩:=ha;obtain⟨callee,args,GL⟩:=c;simp only at Ds yG Qe;subst Ds;unfold df at ha;cases cI:iN P t with
   |none=>rw[cI]at ha;exact ha.elim
   |some ei =>
    obtain⟨ee,i⟩:=ei;rw[cI]at ha;simp only at ha;cases wK:iy s (ev e x) with
    |none=>rw[wK]at ha;exact ha.elim
    |some ns =>
     rw[wK]at ha;simp only[hx,uo,xH]at ha;obtain⟨h1,h2,h3,ha⟩:=ha;refine⟨_,_,ha,λs' hlen kJ=>js ?_⟩;unfold ll cN gH;simp only[yG,Qe,eq_self,if_true];unfold df;rw[Kp yr s s',wK,cI];simp only[hx,uo,kJ,xH];exact⟨h1,h2,h3,trivial,trivial⟩
def QP (P:Program) (o:Oper) (e:Env) (s:List Obj) (h:Nat) (K:V->List Obj->Prop):Prop :=
 match s[h]? with
 |none=>False
 |some ob=>match o.op with
  |.call c=>match c.callee,c.args.toList,c.argTypes.toList with
   |.builtin .append,[a,x],[t,t']=>match ev e a,ev e x,iN P t with
    |.cap cl _ (.so id g lo n),.fu ns,some (_,i)=>(id=h/\ob.g=g/\ob.live=true/\t=t'/\ob.sz=i.sz/\(∀e∈ns,e.length=i.sz)/\0<i.sz/\0<ns.length/\lo+n<=ob.aw.length/\n+ns.length<=cl) /\
      K (.so id g lo (n+ns.length)) (s.set h ⟨g,true,i.sz,ob.aw.take (lo+n)++ns.map (·.map .d)++ob.aw.drop (lo+n+ns.length)⟩)
    |_,_,_=>False
   |_,_,_=>False
  |_=>False
def PR (P:Program) (o:Oper) (e:Env) (s:List Obj) (rd:List Nat) (h:Nat) (K:V->List Obj->Prop):Prop :=
 match s[h]? with
 |none=>False
 |some ob=>match o.op with
  |.call c=>match c.callee,c.args.toList,c.argTypes.toList with
   |.builtin .append,[a,x],[t,t']=>match ev e a,ev e x,iN P t with
    |.cap _ ch (.so id g lo n),.fu ns,some (_,i)=>match s[id]? with
     |none=>False
     |some o=>(rd.contains id=true/\o.g=g/\t=t'/\o.sz=i.sz/\(∀e∈ns,e.length=i.sz)/\0<i.sz/\0<i.Cs/\0<ns.length/\lo+n<=o.aw.length/\ch<n+ns.length/\(n+ns.length)*i.Cs<=140737488355328 /\
       (∀e∈o.aw,∀x∈e,ah 0 x=true))/\K (.so h (ob.g+1) 0 (n+ns.length)) (s.set h ⟨ob.g+1,true,i.sz,(o.aw.drop lo).take n++ns.map (·.map .d)⟩)
    |_,_,_=>False
   |_,_,_=>False
  |_=>False
theorem yb{dst:Option Nat}{ty:TypeId}{pos:String}{after:Array Edge}{guard:Option (Nat×Bool)}{a x:Operand}{GL:Array TypeId}:∀y,y∈[a,x]->ev (oc full ⟨dst,.call ⟨.builtin .append,#[a,x],GL⟩,ty,pos,after,guard⟩ e) y=ev e y:=by
 intro y hy;cases y with
 |tmp k =>
  have hk:k∈(⟨dst,.call ⟨.builtin .append,#[a,x],GL⟩,ty,pos,after,guard⟩:Oper).looksAt full.toArray:=List.mem_append_left _ (List.mem_filterMap.2 ⟨.tmp k,by
   simp only[agV,ag8,or_false]at hy;rcases hy with rfl|rfl <;> simp [Op.operands,Call.operands],rfl⟩)
  simp [ev,oc,hk]
 |_=>rfl
theorem PC (ha:QP P o e s h K) :
  ∃v o',K v (s.set h o')/\∀s',s'.length=s.length->s'[h]?=s[h]?->Lx P full o e s' v (s'.set h o'):=by
 obtain⟨dst,op,ty,pos,after,guard⟩:=o;unfold QP at ha;cases xH:s[h]? with
 |none=>rw[xH]at ha;exact ha.elim
 |some ob =>
  rw[xH]at ha;simp only at ha;cases op <;> simp only at ha <;> try exact ha.elim
  rename_i c;split at ha
  case h_2=>exact ha.elim
  rename_i a x t t' Ds yG Qe;split at ha
  case h_2=>exact ha.elim
  rename_i cl ch id g lo n ns ee i Ww hex cI;obtain⟨⟨rfl,hg,hl,rfl,fF,hz,hp,hn,hle,hr⟩,ha⟩:=ha;refine⟨_,_,ha,λs' hlen kJ σ w N a0 hI hR=>?_⟩;obtain⟨callee,args,GL⟩:=c;simp only at Ds yG Qe;subst Ds;have e1:args=#[a,x]:=Array.toList_inj.1 (by rw[yG]);have e2:GL=#[t,t]:=Array.toList_inj.1 (by rw[Qe]);subst e1 e2;have ra:=hR.ev a;rw[yb a (by simp),Ww]at ra;have rx:=hR.ev x;rw[yb x (by simp),hex]at rx;cases ra with|cap zF ra=>?_
  obtain⟨r,σ',w',k1,k2,k3,k4⟩:=H6 (ty:=ty) hI ra zF rx rfl cI kJ hg fF (λe he=>by
   obtain⟨d,hd,rfl⟩:=List.mem_map.1 he;simpa using hz d hd) hp (by simpa using hn) hle hl (by simpa using hr)
  rw[afN]at k2 k3 k4;exact eO (by simp [execOp,resolve,invoke,builtin,k1]) k2 k3 k4 ⟨rfl,rfl⟩
theorem Rm{rd:List Nat} (ha:PR P o e s rd h K) :
  ∃v o',K v (s.set h o')/\∀s',s'.length=s.length->s'[h]?=s[h]?->(∀id∈rd,s'[id]?=s[id]?)->Lx P full o e s' v (s'.set h o'):=by
 obtain⟨dst,op,ty,pos,after,guard⟩:=o;unfold PR at ha;cases xH:s[h]? with
 |none=>rw[xH]at ha;exact ha.elim
 |some ob =>
  rw[xH]at ha;simp only at ha;cases op <;> simp only at ha <;> try exact ha.elim
  rename_i c;split at ha
  case h_2=>exact ha.elim
  rename_i a x t t' Ds yG Qe;split at ha
  case h_2=>exact ha.elim
  rename_i cl ch id g lo n ns ee i Ww hex cI;split at ha
  ·exact ha.elim
  rename_i o ho;obtain⟨⟨RT,hg,rfl,fF,hz,hp,Yp,hn,hle,hr,hb,hd⟩,ha⟩:=ha;refine⟨_,_,ha,λs' hlen kJ MK σ w N a0 hI hR=>?_⟩;obtain⟨callee,args,GL⟩:=c;simp only at Ds yG Qe;subst Ds;have e1:args=#[a,x]:=Array.toList_inj.1 (by rw[yG]);have e2:GL=#[t,t]:=Array.toList_inj.1 (by rw[Qe]);subst e1 e2;have ra:=hR.ev a;rw[yb a (by simp),Ww]at ra;have rx:=hR.ev x;rw[yb x (by simp),hex]at rx;cases ra with|cap zF ra=>?_
  have iY:s'[id]?=some o:=(MK id (by simpa using RT)).trans ho;obtain⟨r,σ',w',k1,k2,k3,k4⟩:=HH (ty:=ty) hI ra zF rx rfl cI iY hg fF (λe he=>by
   obtain⟨d,hd,rfl⟩:=List.mem_map.1 he;simpa using hz d hd) hp (by simpa using hn) hle Yp (by simpa using hb) (by simpa using hr)
  rw[afN]at k4;obtain⟨m1,m2,m3⟩:=nE hI k2 k3 kJ rfl (λi' j x' jB=>by
   simp only at jB;cases hq:((o.aw.drop lo).take n++ns.map (·.map .d))[i']? with
   |none=>rw[hq]at jB;cases jB
   |some c =>
    rw[hq]at jB;have hm:=afW jB;rcases List.mem_append.1 (afW hq) with hc|hc
    ·exact hd c (List.mem_of_mem_drop (agJ hc)) x' hm
    ·obtain⟨dd,_,rfl⟩:=List.mem_map.1 hc;obtain⟨y,_,rfl⟩:=List.mem_map.1 hm;rfl)
  exact eO (by simp [execOp,resolve,invoke,builtin,k1]) m1 m2 (m3 _ _ _ k4) ⟨rfl,rfl⟩
def P5 (s:List Obj) (K:V->List Obj->Prop) (v:V) (s1:List Obj):Prop:=s1=s/\K v s
theorem tM{v:V}:P5 s K v s1=(s1=s/\K v s):=(rfl)
def Gf (o:Oper) (e:Env) (ws:List Nat):Bool:=Oh o&&(ry e o).all λid=>!ws.contains id
def Sc (o:Oper) (e:Env) (rd:List Nat):Bool:=Oh o&&(ry e o).all λid=>rd.contains id
def eZ (P:Program) (bars:List Nat) (fs:cx) (i:Nat) (o:Oper) (e:Env) (s:List Obj) (K:V->List Obj->Prop):Prop :=
 match bars.contains i with
 |true=>match lI o e with
  |some (some (f,args))=>TH P f args s K
  |some none=>False
  |none=>cN P o e s K
 |false=>match gP fs i with
  |none=>match lI o e with
   |some (some (f,args))=>Ub P f args s K
   |some none=>False
   |none=>Gf o e (Gr fs)=true/\cN P o e s (P5 s K)
  |some (rd,wr)=>match lI o e with
   |some (some (f,args))=>EJ P rd wr f args s K
   |some none=>False
   |none=>match wr with
    |[]=>Sc o e rd=true/\cN P o e s (P5 s K)
    |[h]=>rd.contains h=true/\PI P o e s h K
    |[h,_]=>rd.contains h=true/\QP P o e s h K
    |[h,_,_]=>rd.contains h=true/\PR P o e s rd h K
    |_=>False
theorem xq:∀(ρ:List Nat) (os:List Obj) (s s':List Obj) (id:Nat),id∈ρ->os.length=ρ.length->s.length=s'.length->(aE s ρ os)[id]?=(aE s' ρ os)[id]?
 |[],_,_,_,_,h,_,_=>by cases h
 |r::ρ,[],_,_,_,_,h,_=>by simp at h
 |r::ρ,o::os,s,s',id,h,hl,hs=>by
  simp only[aE];by_cases hm:id∈ρ
  ·exact xq ρ os _ _ id hm (by simpa using hl) (by simpa using hs)
  ·have:id=r:=by rcases List.mem_cons.1 h with h|h;exact h;exact absurd h hm
   subst this;rw[gy ρ os _ _ hm,gy ρ os _ _ hm];by_cases az:id<s.length
   ·rw[agc az,agc (by omega)]
   ·rw[agG (by simp;omega),agG (by simp;omega)]
theorem NK (hg:∀g want,o.guard=some (g,want)->∃d,lM full g=some d/\e d=.d (.sc (.bool want))) (h:eZ P bars fs i o e s K) :
  ∃v tf,LQ P full bars fs i o ⟨some v,tf⟩ e s/\K v (tf s):=by
 unfold eZ at h;cases hb:bars.contains i with
 |true =>
  rw[hb]at h;simp only at h;have bar:∀v s1,ll P o e s v s1->K v s1->∃v tf,LQ P full bars fs i o ⟨some v,tf⟩ e s/\K v (tf s):=by intro v s1 h1 h2;refine⟨v,λ_=>s1,⟨(λh=>by rw[hb]at h;cases h),hg,λs' _ h' _=>?_⟩,h2⟩;rw[h' hb];exact js h1
  split at h
  ·rename_i f args hc;obtain⟨v,s1,h1,h2⟩:=h;exact bar v s1 (by unfold ll;rw[By hc];exact h1) h2
  ·exact h.elim
  ·rename_i hc;obtain⟨v,s1,h1,h2⟩:=Kw (v7 hc) _ h;exact bar v s1 h1 h2
 |false =>
  rw[hb]at h;simp only at h;cases hf:gP fs i with
  |none =>
   rw[hf]at h;simp only at h;have Xz:Lr fs i λs=>s:=λs=>⟨rfl,λ_ _=>rfl,λs' hl id hw _=>by simp [nq,hf]at hw⟩
   split at h
   ·rename_i f args hc;obtain⟨v,h1,h2⟩:=h;exact⟨v,λs=>s,⟨λ_=>Xz,hg,λs' _ _ _=>js (by unfold ll;rw[By hc];exact h1 s')⟩,h2⟩
   ·exact h.elim
   ·rename_i hc;obtain⟨hr,h⟩:=h;obtain⟨v,s1,h1,h2,h3⟩:=Kw (v7 hc) _ h;subst h2;simp only[Gf,agb,af8,Bool.not_eq_true',List.contains_eq_mem,decide_eq_false_iff_not]at hr;refine⟨v,λs=>s,⟨λ_=>Xz,hg,λs' _ _ MK=>js (HR hr.1 (λid cS=>MK id ?_) h1)⟩,h3⟩;unfold Pg;rw[hf];exact hr.2 id cS
  |some rw' =>
   obtain⟨rd,wr⟩:=rw';rw[hf]at h;simp only at h;split at h
   ·rename_i f args hc;obtain⟨v,os,hl,h1,h2⟩:=h;refine⟨v,λs=>aE s wr os,⟨λ_ s=>⟨nS _ _ _,λid cS=>gy _ _ _ _ (by simpa [nq,hf]using cS),λs' Lw id cS _=>xq _ _ _ _ _ (by simpa [nq,hf]using cS) hl Lw.symm⟩,hg,
     λs' Lw _ MK=>js (by unfold ll;rw[By hc];exact h1 s' Lw λid cS=>MK id (by unfold Pg;rw[hf];exact cS))⟩,h2⟩
   ·exact h.elim
   ·rename_i hc;split at h
    ·obtain⟨hr,h⟩:=h;obtain⟨v,s1,h1,h2,h3⟩:=Kw (v7 hc) _ h;subst h2;simp only[Sc,agb,af8,List.contains_eq_mem,decide_eq_true_eq]at hr;refine⟨v,λs=>s,⟨λ_ s=>⟨rfl,λ_ _=>rfl,λs' hl id hw _=>by simp [nq,hf]at hw⟩,hg,λs' _ _ MK=>js (HR hr.1 (λid cS=>MK id ?_) h1)⟩,h3⟩;unfold Pg;rw[hf];exact hr.2 id cS
    ·rename_i hh;obtain⟨hr,h⟩:=h;obtain⟨v,o',h1,h2⟩:=Rk (full:=full) h;refine⟨v,λs=>s.set hh o',⟨λ_ s=>⟨by simp,λid cS=>?_,λs' Lw id cS _=>?_⟩,hg,λs' Lw _ MK=>h2 s' Lw (MK hh ?_)⟩,h1⟩
     ·have:id≠hh:=by simpa [nq,hf]using cS
      exact agp (Ne.symm this)
     ·have:id=hh:=by simpa [nq,hf]using cS
      subst this;by_cases az:id<s.length
      ·rw[agc az,agc (by omega)]
      ·rw[agG (by simp;omega),agG (by simp;omega)]
     ·unfold Pg;rw[hf];simpa using hr
    ·rename_i hh hh2;obtain⟨hr,h⟩:=h;obtain⟨v,o',h1,h2⟩:=PC (full:=full) h;refine⟨v,λs=>s.set hh o',⟨λ_ s=>⟨by simp,λid cS=>?_,λs' Lw id cS VT=>?_⟩,hg,λs' Lw _ MK=>h2 s' Lw (MK hh ?_)⟩,h1⟩
     ·have:id≠hh:=by intro he;subst he;simp [nq,hf]at cS
      exact agp (Ne.symm this)
     ·by_cases he:id=hh
      ·subst he;by_cases az:id<s.length
       ·rw[agc az,agc (by omega)]
       ·rw[agG (by simp;omega),agG (by simp;omega)]
      ·rw[agp (Ne.symm he),agp (Ne.symm he)];exact VT.symm
     ·unfold Pg;rw[hf];simpa using hr
    ·rename_i hh hh2 hh3;obtain⟨hr,h⟩:=h;obtain⟨v,o',h1,h2⟩:=Rm (full:=full) h;refine⟨v,λs=>s.set hh o',⟨λ_ s=>⟨by simp,λid cS=>?_,λs' Lw id cS VT=>?_⟩,hg,λs' Lw _ MK=>h2 s' Lw (MK hh ?_) λid cS=>MK id (by unfold Pg;rw[hf];exact cS)⟩,h1⟩
     ·have:id≠hh:=by intro he;subst he;simp [nq,hf]at cS
      exact agp (Ne.symm this)
     ·by_cases he:id=hh
      ·subst he;by_cases az:id<s.length
       ·rw[agc az,agc (by omega)]
       ·rw[agG (by simp;omega),agG (by simp;omega)]
      ·rw[agp (Ne.symm he),agp (Ne.symm he)];exact VT.symm
     ·unfold Pg;rw[hf];simpa using hr
    ·exact h.elim
def gE (P:Program) (N:Nat) (full:List Oper) (bars:List Nat) (fs:cx):Nat->List Oper->Env->List Obj->(Env->List Obj->Prop)->Prop
 |_,[],e,s,K=>K e s
 |i,o::rest,e,s,K=>dY N o.dst/\match o.guard with
  |none=>match o.op with
   |.pick c a b=>bars.contains i=false/\gP fs i=none/\gK (ev e c) (gE P N full bars fs (i+1) rest (iP e o.dst (ev e a)) s K) (gE P N full bars fs (i+1) rest (iP e o.dst (ev e b)) s K)
   |_=>eZ P bars fs i o e s λv s1=>gE P N full bars fs (i+1) rest (iP e o.dst v) s1 K
  |some (g,want)=>lh (lM full g) e want (λe=>eZ P bars fs i o e s λv s1=>gE P N full bars fs (i+1) rest (iP e o.dst v) s1 K)
    (λe=>gE P N full bars fs (i+1) rest (iP e o.dst .un) s K)
theorem qT {P:Program}{N:Nat}{full:List Oper}{bars:List Nat}{fs:cx}:∀(l:List Oper) (i:Nat) (e:Env) (s:List Obj) (K:Env->List Obj->Prop),gE P N full bars fs i l e s K ->
  ∃tr e' s',Trace P N full bars fs i l tr e s e' s'/\K e' s'
 |[],i,e,s,K,h=>⟨[],e,s,⟨rfl,rfl⟩,h⟩
 |o::rest,i,e,s,K,h=>by
  obtain⟨hd,h⟩:=h;have run:(∀g want,o.guard=some (g,want)->∃d,lM full g=some d/\e d=.d (.sc (.bool want)))->(eZ P bars fs i o e s λv s1=>gE P N full bars fs (i+1) rest (iP e o.dst v) s1 K) ->
    ∃tr e' s',Trace P N full bars fs i (o::rest) tr e s e' s'/\K e' s':=by
   intro hg h;obtain⟨v,tf,h1,h2⟩:=NK hg h;obtain⟨tr,e',s',k1,k2⟩:=qT rest (i+1) _ _ K h2;exact⟨⟨some v,tf⟩::tr,e',s',⟨hd,h1,k1⟩,k2⟩
  split at h
  ·rename_i hg;have Yn:∀g want,o.guard=some (g,want)->∃d,lM full g=some d/\e d=.d (.sc (.bool want)):=λg want h=>by rw[hg]at h;cases h
   split at h
   ·rename_i c a b J5;obtain⟨nr,hnf,h⟩:=h;unfold gK at h;split at h
    ·rename_i bb hbb;have go:∀(v:V),(∀s',ll P o e s' v s')->gE P N full bars fs (i+1) rest (iP e o.dst v) s K->∃tr e' s',Trace P N full bars fs i (o::rest) tr e s e' s'/\K e' s':=by intro v hv h2;obtain⟨tr,e',s',k1,k2⟩:=qT rest (i+1) _ _ K h2;exact⟨⟨some v,λs=>s⟩::tr,e',s',⟨hd,⟨λ_ s=>⟨rfl,λ_ _=>rfl,λs' hl id hw _=>by simp [nq,hnf]at hw⟩,Yn,λs' _ _ _=>js (hv s')⟩,k1⟩,k2⟩
     cases bb with
     |true=>exact go _ (λs'=>by simp [ll,cN,J5,gK,hbb]) (h.1 rfl)
     |false=>exact go _ (λs'=>by simp [ll,cN,J5,gK,hbb]) (h.2 rfl)
    ·exact h.elim
   ·exact run Yn h
  ·rename_i g want hg;unfold lh at h;split at h
   case h_1=>exact h.elim
   rename_i d Un;have skip:(e d=.d (.sc (.bool (!want)))\/e d=.un)->gE P N full bars fs (i+1) rest (iP e o.dst .un) s K ->
     ∃tr e' s',Trace P N full bars fs i (o::rest) tr e s e' s'/\K e' s':=by
    intro hv h2;obtain⟨tr,e',s',k1,k2⟩:=qT rest (i+1) _ _ K h2;exact⟨⟨none,λs=>s⟩::tr,e',s',⟨hd,⟨λ_ s=>⟨rfl,λ_ _=>rfl,λs' hl id _ h=>h.symm⟩,λ_=>rfl,g,want,d,hg,Un,hv⟩,k1⟩,k2⟩
   split at h
   ·rename_i b hb;by_cases hbw:b=want
    ·subst hbw;have:=h.1 rfl;rw[Ev hb]at this;exact run (λg' abY Dr=>by rw[hg]at Dr;cases Dr;exact⟨d,Un,hb⟩) this
    ·have Sj:b=!want:=by cases b <;> cases want <;> simp_all
     subst Sj;have:=h.2 rfl;rw[Ev hb]at this;exact skip (.inl hb) this
   ·rename_i hb;exact skip (.inr hb) h
   ·exact h.elim
def ga (P:Program) (N:Nat) (full:List Oper) (bars:List Nat) (fs:cx) (i:Nat) (rest:List Oper) (e:Env) (d:Option Nat) (K:Env->List Obj->Prop) (v:V) (s:List Obj):Prop:=gE P N full bars fs i rest (iP e d v) s K
theorem uE{rest:List Oper}{d:Option Nat}{K:Env->List Obj->Prop}{v:V}:ga P N full bars fs i rest e d K v s=gE P N full bars fs i rest (iP e d v) s K:=(rfl)
theorem xA{K:Env->List Obj->Prop}:gE P N full bars fs i [] e s K=K e s:=(rfl)
theorem ar (hm:P.follows .mixedOrders=true) (bars:List Nat) (fs:cx){K:Env->List Obj->Prop} (hd:kq full bars fs=true) (h:gE P N full bars fs 0 full e s K):tb P N full e s K:=by obtain⟨tr,e',s',h1,h2⟩:=qT _ _ _ _ _ h;exact IU hm hd h1 h2
theorem bp (h:aO P f args r) (ha:ah.go 0 args=true) (hr:ah 0 r=true) (hk:K r s):Ub P f args s K :=
 ⟨r,λs'=>aj h ha hr ⟨rfl,rfl⟩,hk⟩
theorem e8 (h:aq P f args s λv' Am=>v'=r/\Am=s1) (hk:K r s1):TH P f args s K:=⟨r,s1,h,hk⟩
def bO (e:Env) (s:List Obj) (e':Env) (s':List Obj):Prop :=
 ∀(σ0:Gh) (s0:List Obj) (w0:World) (σ:Gh) (w:World) (N:Nat) (a:Act),aF σ0 s0 w0 σ s w->Inv σ s w->dQ σ s w N e a->∃σ',aF σ0 s0 w0 σ' s' w/\Inv σ' s' w/\dQ σ' s' w N e' a
theorem aS{K:Env->List Obj->Prop} (h:bO e s e' s') (k:tb P N full e' s' K):tb P N full e s K:=by intro σ0 s0 w0 Q Xc σ w a id hE hI hR;obtain⟨σ',h1,h2,h3⟩:=h σ0 s0 w0 σ w N a hE hI hR;exact k σ0 s0 w0 Q Xc σ' w a id h1 h2 h3
def hole:Obj:=⟨0,true,0,[]⟩
theorem bO.bf:bO e s e (s++[hole]):=by intro σ0 s0 w0 σ w N a hE hI hR;have:=mK (p:=none) (o':=hole) (w':=w) hI rfl rfl rfl (af3 _) (λ_ _=>rfl) (λ_ _ h'=>by cases h') (λ_=>.inl (.inl ⟨rfl,rfl⟩));exact⟨_,hE.trans this.1,this.2,hR.aX this.1⟩
theorem bO.trans {Ym:Env}{Am:List Obj} (h:bO e s e' s') (k:bO e' s' Ym Am):bO e s Ym Am:=by intro σ0 s0 w0 σ w N a hE hI hR;obtain⟨σ',h1,h2,h3⟩:=h σ0 s0 w0 σ w N a hE hI hR;exact k σ0 s0 w0 σ' w N a h1 h2 h3
def kY (s:List Obj) (kx:List Nat) (e:Env):Env:=λt=>if kx.contains t then fA s.length s (e t) else e t
theorem bO.freeze (ids kx:List Nat):bO e s (kY (bE s ids) kx e) (bE s ids):=by
 intro σ0 s0 w0 σ w N a hE hI hR;obtain⟨h1,h2⟩:=tq ids s hI;refine⟨σ,hE.trans h1,h2,hR.1,hR.2.1,λt=>?_⟩;unfold kY;split
 ·have:=sQ h2 (lim:=(bE s ids).length) ((hR.2.2 t).aX h1);rwa [agj]at this
 ·exact(hR.2.2 t).aX h1
theorem aJ{o o':Obj} (h:aq P f args [o] λv s'=>v=r/\s'=[o']) (ha:args.map (aL [0])=args) (DC:ah.go 1 args=true)
  (hoo:aG 1 o=true) (ho:aT [0] o=o) (iY:aT [0] o'=o') (hr:aL [0] r=r) (hk:K r (o'::rest)):aq P f args (o::rest) K:=by
 refine vM h [0] rfl (by simp) (λk ob hk=>?_) ha.symm DC (by simp [hoo]) λv s' hv=>?_
 ·cases k with
  |zero=>simp at hk;subst hk;simp [ho]
  |succ k=>simp at hk
 ·obtain⟨rfl,rfl⟩:=hv;refine⟨rfl,?_⟩;rw[hr];simpa [aE,iY]using hk
theorem tz{o o':Obj} (h:aq P f args [o] λv s'=>v=r/\s'=[o']) (ha:args.map (aL [0])=args) (DC:ah.go 1 args=true)
  (hoo:aG 1 o=true) (ho:aT [0] o=o) (iY:aT [0] o'=o') (hr:aL [0] r=r) (hk:K r (o'::rest)):EJ P [0] [0] f args (o::rest) K:=by
 refine⟨r,[o'],rfl,λs' hl hs=>?_,by simpa [aE]using hk⟩;cases s' with
 |nil=>simp at hl
 |cons o1 acK =>
  have:o1=o:=by have:=hs 0 (by simp);simpa using this
  subst this;exact aJ h ha DC hoo ho iY hr ⟨rfl,by simp [aE]⟩
end Go.VL
