/- A part of the proof (Vjr Vk Vl). -/
import Derived.TacticsIn
import Derived.OrdersIn
import Derived.Test.YtfmdmlfhigocaaaOF5
set_option linter.unusedSimpArgs false
set_option linter.unusedVariables false
set_option maxRecDepth 100000
set_option maxHeartbeats 80000000
namespace Go.VL
def Ar (r:Option Nat):Fence:={ Fence.wide with round:=r }
theorem Lw (r:Option Nat) (n:Nat):(Ar r).room n:=fun _ h=>by simp [Ar,Fence.wide]at h
def Act.wD (a:Act) (D:List Deferred):Act:={ a with defers:=D }
theorem pA {a:Act} (h:a.defers=[]):Act.wD a []=a:=by cases a;simp only at h;subst h;rfl
theorem Og (a:Act) (D D':List Deferred):Act.wD (Act.wD a D) D'=Act.wD a D':=rfl
theorem KD {a:Act}{D:List Deferred} (h:a.defers=D):Act.wD (Act.wD a []) D=a:=by cases a;simp only at h;subst h;rfl
theorem Ii (a:Act) (D:List Deferred):(Act.wD a D).eval=a.eval:=by funext x;cases x <;> rfl
theorem vT (a:Act) (D:List Deferred) (d:Option Nat) (v:Value):(Act.wD a D).put d v=Act.wD (a.put d v) D:=by cases d <;> rfl
def vC:Go.Obj->Bool
 |.deferred _=>true
 |.loop _=>true
 |_=>false
def mu (w w':World):Prop:=∀(b:Nat) (o:Go.Obj),w.heap[b]?=some o->vC o=true->w'.heap[b]?=some o
theorem mu.refl (w:World):mu w w:=fun _ _ h _=>h
theorem mu.trans {w w' Jm:World} (h:mu w w') (k:mu w' Jm):mu w Jm:=fun b o ho hb=>k b o (h b o ho hb) hb
theorem mu.of {σ σ':Gh}{s s':List Obj}{w w':World} (hI:Inv σ s w) (hE:aA σ s w σ' s' w'):mu w w':=by
 intro b o ho hb
 have az:=de ho
 by_cases hO:Own σ s b
 ·rcases hO with h|⟨id,ob,base,h1,h2,h3⟩
  ·rw[hE.eT b az h];exact ho
  ·exfalso
   rcases hI.content id ob h1 with (⟨h4,_⟩|⟨b',es,c,h4,h5,_⟩)|⟨b',bp,arr,E,h4,h5,_⟩
   ·rw[h3]at h4;cases h4
   ·rw[h3]at h4;cases h4;rw[h5]at ho;cases ho;cases hb
   ·rw[h3]at h4;cases h4;rw[h5]at ho;cases ho;cases hb
 ·rw[hE.aR b az hO];exact ho
def QR (w0:World) (D:List Deferred) (Q:Exit->Act->World->Prop):Exit->Act->World->Prop:=fun ex a w=>a.defers=D/\mu w0 w/\Q ex (Act.wD a []) w
def zt (P:Program) (c:Code) (Q:Exit->Act->World->Prop) (a:Act) (w:World):Prop :=
 ∀(r:Option Nat) (D:List Deferred),c.wpIn (Ar r) 0 P (QR w D Q) (Act.wD a D) w
section
variable {P:Program}{Q:Exit->Act->World->Prop}{a:Act}{w:World}
theorem zt.wp {c:Code} (ha:a.defers=[]) (h:zt P c Q a w):c.wp P Q a w:=by
 have h1:=h none []
 rw[pA ha]at h1
 refine wpIn_wide.1 (wpIn_mono (F:=Fence.wide) (n:=0) (show c.wpIn Fence.wide 0 P (QR w [] Q) a w from h1) fun ex a' w' ⟨h2,_,h3⟩=>?_)
 rwa [pA h2]at h3
theorem uL {c:Code}{Q':Exit->Act->World->Prop} (h:zt P c Q a w) (hq:∀e a w,Q e a w->Q' e a w):zt P c Q' a w :=
 fun r D=>wpIn_mono (h r D) fun _ _ _ ⟨h1,hk,h2⟩=>⟨h1,hk,hq _ _ _ h2⟩
theorem Bl {w0:World}{D:List Deferred}{ex:Exit} (hk:mu w0 w) (h:a.defers=[]) (hq:Q ex a w):QR w0 D Q ex (Act.wD a D) w:=⟨rfl,hk,by rw[Og,pA h];exact hq⟩
theorem Kr (ha:a.defers=[]) (h:Q .normal a w):zt P .skip Q a w:=fun _ _=>wpIn_skip (Bl (.refl _) ha h)
theorem IX {l:Nat} (ha:a.defers=[]) (h:Q .normal a w):zt P (.label l) Q a w:=fun _ _=>wpIn_label (Bl (.refl _) ha h)
theorem Ka {id:Nat} (ha:a.defers=[]) (h:Q (.exit id) a w):zt P (.exit id) Q a w:=fun _ _=>wpIn_exit (Bl (.refl _) ha h)
theorem Nl (ha:a.defers=[]) (h:Q .ret a w):zt P .ret Q a w:=fun _ _=>wpIn_ret (Bl (.refl _) ha h)
theorem M3 {x y:Code} (h:zt P x (Exit.then (zt P y Q) Q) a w):zt P (.seq x y) Q a w:=by
 intro r D
 refine wpIn_seq (wpIn_mono (h r D) fun ex a' w' ⟨h1,hk,h2⟩=>?_)
 cases ex with
 |normal =>
  have:=h2 r D
  rw[KD h1]at this
  exact wpIn_mono this fun _ _ _ ⟨h3,BZ,h4⟩=>⟨h3,hk.trans BZ,h4⟩
 |_=>exact⟨h1,hk,h2⟩
theorem qf {c:Operand}{x y:Code}{t:Bool} (hc:a.eval c=.bool t) (ht:t=true->zt P x Q a w) (hf:t=false->zt P y Q a w):zt P (.cond c x y) Q a w :=
 fun r D=>wpIn_cond_split (by rw[Ii];exact hc) (fun h=>ht h r D) (fun h=>hf h r D)
theorem Jk {id:Nat}{c:Code} (h:zt P c (Exit.inBlock id Q) a w):zt P (.block id c) Q a w:=by
 intro r D
 refine wpIn_block (wpIn_mono (h r D) fun ex a' w' ⟨h1,hk,h2⟩=>?_)
 cases ex with
 |exit i =>
  unfold Exit.inBlock at h2 ⊢
  simp only at h2 ⊢
  split
  ·rename_i hi;rw[if_pos hi]at h2;exact⟨h1,hk,h2⟩
  ·rename_i hi;rw[if_neg hi]at h2;exact⟨h1,hk,h2⟩
 |_=>exact⟨h1,hk,h2⟩
theorem L4 {c:Code} (I:Act->World->Prop) (μ:Act->World->Nat) (h₀:I a w) (hd:a.defers=[])
  (round:∀a w,I a w->zt P c (Exit.then (fun a' w'=>I a' w'/\μ a' w'<μ a w) Q) a w):zt P (.loop c) Q a w:=by
 intro r D
 refine wpIn_loop (fun a w'=>a.defers=D/\mu w w'/\I (Act.wD a []) w') (fun a w=>μ (Act.wD a []) w) ⟨rfl,.refl _,by rw[Og,pA hd];exact h₀⟩ fun a1 w1 ⟨h1,hk,h2⟩=>?_
 have:=round _ _ h2 r D
 rw[KD h1]at this
 refine wpIn_mono this fun ex a' w' ⟨h3,BZ,h4⟩=>?_
 cases ex with
 |normal=>exact⟨⟨h3,hk.trans BZ,h4.1⟩,h4.2⟩
 |_=>exact⟨h3,hk.trans BZ,h4⟩
theorem iT {b:Frame}{k:List Item}{cs:List Frame}{c:Code}:step P (lone (b.atR a (.code (.scope c)::k)) cs w)=.next (lone (b.atR a (.code c::.inScope c::k)) cs w) :=
 step_lone_go (by simp [stepG,stepG.exec,Frame.atR])
theorem z5 {b:Frame}{k:List Item}{cs:List Frame}{c:Code}:step P (lone (b.atR a (.inScope c::k)) cs w)=.next (lone (b.atR a k) cs w) :=
 step_lone_go (by simp [stepG,stepG.exec,Frame.atR])
theorem rM {F:Fence}{n:Nat}{c:Code} (h:c.wpIn F n P (Exit.noGoto Q) a w):(Code.scope c).wpIn F n P Q a w:=by
 intro b k cs Vo hb hr
 have h0:(lone (b.atR a (.code (.scope c)::k)) cs w).fenced P F:=fenced_calm hb hr rfl
 obtain⟨e,a₁,w₁,hq,Jh⟩:=h b (.inScope c::k) cs Vo hb hr
 cases e with
 |normal=>exact⟨.normal,a₁,w₁,hq,.head h0 iT (StepsIn.trans Jh (.one (fenced_calm hb hr rfl) z5))⟩
 |exit id =>
  have hx:exitTo id (.inScope c::k)=exitTo id k:=by simp [exitTo]
  exact⟨_,a₁,w₁,hq,fun k' hk=>.head h0 iT (Jh.1 k' (by rw[hx];exact hk)),
   fun NH hk=>let ⟨k₁,h1,h2⟩:=Jh.2 NH (by rw[hx];exact hk);⟨k₁,h1,.head h0 iT h2⟩⟩
 |goto l=>exact hq.elim
 |ret=>exact⟨_,a₁,w₁,hq,.of_steps (.one h0 iT) Jh⟩
 |panic ch=>exact⟨_,a₁,w₁,hq,.of_steps (.one h0 iT) Jh⟩
 |outgrown=>exact⟨_,a₁,w₁,hq,.of_steps (.one h0 iT) Jh⟩
theorem sx {c:Code} (h:zt P c (Exit.noGoto Q) a w):zt P (.scope c) Q a w:=by
 intro r D
 refine rM (wpIn_mono (h r D) fun ex a' w' ⟨h1,hk,h2⟩=>?_)
 cases ex with
 |goto l=>exact h2
 |_=>exact⟨h1,hk,h2⟩
theorem Gc {r:Option Nat}{n:Nat}{f:FuncId}{args:Array Value}{R:Ending->World->Prop} (h:Calls P f args w R):CallsIn (Ar r) n P f args w R:=by
 have:=(callsIn_wide (n:=n)).2 h
 exact⟨trivial,fun cs hr=>this.2 cs (room_wide _)⟩
theorem La {o:Oper}{K:Act->World->Prop} (hK:∀a' w',K a' w'->a'.defers=a.defers) (h:o.wp P a w K (fun _ _ _=>False)):∀c,o.op≠.defer c:=by
 intro c hc
 unfold Oper.wp at h
 have hx:execOp a.eval o=(do return Next.defer (<- resolve a.eval c o.type)):=by simp only[execOp,hc]
 rw[hx]at h
 simp only[Sem.run_bind,Sem.run_pure]at h
 generalize (resolve a.eval c o.type).run P w=r at h
 cases r with
 |ok d w' =>
  have:=hK _ _ h
  cases hd:o.dst <;> simp [hd,Act.put]at this
 |halt x w'=>cases x <;> exact h
theorem H0 {o:Oper}{r:Option Nat}{D:List Deferred}{K:Act->World->Prop}{Q':Exit->Act->World->Prop} (hK:∀a' w',K a' w'->∃u,a'=a.put o.dst u) (h:o.wp P a w K (fun _ _ _=>False)) :
  o.wpIn (Ar r) 0 P (Act.wD a D) w (fun a' w'=>∃a0,a'=Act.wD a0 D/\K a0 w') Q':=by
 have uA:=La (fun a' w' hk=>by obtain⟨u,rfl⟩:=hK a' w' hk;cases o.dst <;> rfl) h
 refine⟨fun f hf=>trivial,?_⟩
 rw[Ii,Oper.semAt_eq _ _ _ uA]
 unfold Oper.wp at h
 generalize (execOp a.eval o).run P w=res at *
 cases res with
 |ok n w' =>
  cases n <;> simp only[Oper.upon,Oper.uponIn]at h ⊢
  case value v=>exact⟨_,vT _ _ _ _,h⟩
  case skip=>exact⟨_,vT _ _ _ _,h⟩
  case defer d =>
   obtain⟨u,hu⟩:=hK _ _ h
   exfalso
   have:=congrArg Act.defers hu
   cases hd:o.dst <;> simp [hd,Act.put]at this
  case enter f args =>
   refine⟨fun h'=>by simp [Ar,Fence.wide]at h',Gc (Calls.mono h fun e Jm he=>?_)⟩
   cases e with
   |returned v=>exact⟨_,vT _ _ _ _,he⟩
   |panicked ch=>exact he.elim
   |outgrown=>obtain⟨_,_,h'⟩:=he;exact h'.elim
  case row row args =>
   refine⟨fun h'=>by simp [Ar,Fence.wide]at h',fun c cs _=>?_⟩
   obtain⟨v,w2,h1,h2⟩:=h c cs
   exact⟨v,w2,⟨_,vT _ _ _ _,h1⟩,stepsIn_wide.2 h2⟩
 |halt x w'=>cases x <;> simp only[Oper.upon]at h
end
abbrev Env:=Nat->V
def bB (e:Env) (d:Nat) (v:V):Env:=fun t=>if t=d then v else e t
def gp (e:Env) (d:Option Nat) (v:V):Env :=
 match d with
 |none=>e
 |some d=>bB e d v
def dz (N:Nat) (d:Option Nat):Prop :=
 match d with
 |none=>True
 |some d=>d<N
theorem dt.put {σ s w N e a} (h:dt σ s w N e a) {d:Option Nat} (hd:dz N d) {v:V}{u:Value} (hv:aw σ s w v u):dt σ s w N (gp e d v) (a.put d u):=by
 cases d with
 |none=>exact h
 |some d =>
  have OR:d<N:=hd
  refine⟨h.1,by simp [Act.put,h.2.1],fun t=>?_⟩
  simp only[Act.put,gp,bB]
  by_cases ht:t=d
  ·subst ht
   rw[if_pos rfl,Array.getD_eq_getD_getElem?,Array.getElem?_setIfInBounds_self_of_lt (by rw[h.2.1];exact OR)]
   exact hv
  ·rw[if_neg ht,Array.getD_eq_getD_getElem?,Array.getElem?_setIfInBounds_ne (Ne.symm ht),<- Array.getD_eq_getD_getElem?]
   exact h.2.2 t
def mS (M:Nat) (e:Env):Env:=fun t=>if (M >>> t) % 2=1 then e t else .any
theorem aL {M:Nat}{e:Env}{t:Nat}:mS M e t=if (M >>> t) % 2=1 then e t else .any:=(rfl)
theorem lN {M:Nat}{e:Env}{d:Nat}{v:V}:mS M (bB e d v)=if (M >>> d) % 2=1 then bB (mS M e) d v else mS M e:=by
 split <;> rename_i h <;> funext t <;> simp only[mS,bB]
 ·by_cases ht:t=d
  ·subst ht;simp [h]
  ·simp [ht]
 ·by_cases ht:t=d
  ·subst ht;simp [h]
  ·simp [ht]
theorem ka {M:Nat}{e:Env}:mS M (mS M e)=mS M e:=by
 funext t;simp only[mS];split <;> rfl
theorem dt.trim {σ s w N M e a} (h:dt σ s w N e a):dt σ s w N (mS M e) a:=by
 refine⟨h.1,h.2.1,fun t=>?_⟩
 unfold mS
 split
 ·exact h.2.2 t
 ·exact .any
theorem dt.aO {σ s w σ' s' w' N e a} (h:dt σ s w N e a) (hE:aA σ s w σ' s' w'):dt σ' s' w' N e a :=
 ⟨h.1,h.2.1,fun t=>(h.2.2 t).aO hE⟩
def jV (full:List Oper) (g:Nat):Option Nat :=
 match full[g]? with
 |some o=>o.dst
 |none=>none
def jA (d:Option Nat) (e:Env) (want:Bool) (A B:Env->Prop):Prop :=
 match d with
 |none=>False
 |some d=>match e d with
  |.d (.sc (.bool b))=>(b=want->A (bB e d (.d (.sc (.bool want)))))/\(b=(!want)->B (bB e d (.d (.sc (.bool (!want))))))
  |.un=>B e
  |_=>False
theorem dt.same {σ s w N e a} (h:dt σ s w N e a) {d:Nat}{v:V} (hv:e d=v):dt σ s w N (bB e d v) a:=by
 refine⟨h.1,h.2.1,fun t=>?_⟩
 unfold bB
 split
 ·rename_i ht;subst ht;rw[<- hv];exact h.2.2 _
 ·exact h.2.2 t
theorem sY {full:List Oper}{σ s w N e a} (h:dt σ s w N e a) {g:Nat}{want:Bool}{o:Oper} (ho:o.guard=some (g,want)) {A B:Env->Prop} (hg:jA (jV full g) e want A B) :
  ∃e',dt σ s w N e' a/\((Region.wanted o (yielded full.toArray a.tmps)=true/\A e')\/(Region.wanted o (yielded full.toArray a.tmps)=false/\B e')):=by
 unfold jA at hg
 unfold Region.wanted
 rw[ho]
 simp only
 split at hg
 case h_1=>exact hg.elim
 rename_i d hd
 unfold jV at hd
 split at hd
 case h_2=>cases hd
 rename_i og P6
 have hr:=h.2.2 d
 split at hg
 ·rename_i b hb
  rw[hb]at hr
  generalize tm:a.tmps.getD d undef=c at hr
  cases hr with|d hr=>?_
  cases hr with|sc _ _=>?_
  have KI:a.tmps[d]?=some (.bool b):=by
   rw[Array.getD_eq_getD_getElem?]at tm
   cases hx:a.tmps[d]? with
   |none=>rw[hx]at tm;cases tm
   |some y=>rw[hx]at tm;simp only[Option.getD_some]at tm;rw[tm]
  have hy:yielded full.toArray a.tmps g=some b:=by simp [yielded,P6,hd,KI]
  rw[hy]
  by_cases VA:b=want
  ·subst VA
   exact⟨_,h.same hb,.inl ⟨by simp,hg.1 rfl⟩⟩
  ·have M5:b=!want:=by cases b <;> cases want <;> simp_all
   subst M5
   exact⟨_,h.same hb,.inr ⟨by simp,hg.2 rfl⟩⟩
 ·rename_i hb
  rw[hb]at hr
  generalize tm:a.tmps.getD d undef=c at hr
  cases hr
  have hy:yielded full.toArray a.tmps g=none:=by
   rw[Array.getD_eq_getD_getElem?]at tm
   cases hx:a.tmps[d]? with
   |none=>simp [yielded,P6,hd,hx]
   |some y=>rw[hx]at tm;simp only[Option.getD_some]at tm;simp [yielded,P6,hd,hx,tm,undef]
  exact⟨e,h,.inr ⟨by rw[hy];rfl,hg⟩⟩
 ·exact hg.elim
def mI (P:Program) (N:Nat) (full:List Oper):List Oper->Env->List Obj->(Env->List Obj->Prop)->Prop
 |[],e,s,K=>K e s
 |o::rest,e,s,K=>dz N o.dst/\match o.guard with
  |none=>cz P o e s fun v s'=>mI P N full rest (gp e o.dst v) s' K
  |some (g,want)=>jA (jV full g) e want (fun e=>cz P o e s fun v s'=>mI P N full rest (gp e o.dst v) s' K) (fun e=>mI P N full rest (gp e o.dst .un) s K)
def QX (σ0:Gh) (s0:List Obj) (w0:World) (N:Nat) (Q:Exit->Env->List Obj->Prop):Exit->Act->World->Prop :=
 fun ex a w=>∃e σ s,aA σ0 s0 w0 σ s w/\Inv σ s w/\dt σ s w N e a/\Q ex e s
theorem pN {P:Program}{N:Nat}{full:List Oper}{σ0:Gh}{s0:List Obj}{w0:World}{Q:Exit->Env->List Obj->Prop}{r:Option Nat}{D:List Deferred}{ws:World}:∀(l:List Oper) (e:Env) (s:List Obj) (σ:Gh) (w:World) (a:Act),
  mu ws w->aA σ0 s0 w0 σ s w->Inv σ s w->dt σ s w N e a->mI P N full l e s (fun e s=>Q .normal e s)->wpListIn (Ar r) 0 P full.toArray (QR ws D (QX σ0 s0 w0 N Q)) l (Act.wD a D) w
 |[],e,s,σ,w,a,hk,hE,hI,hR,h=>Bl hk hR.1 ⟨e,σ,s,hE,hI,hR,h⟩
 |o::rest,e,s,σ,w,a,hk,hE,hI,hR,h=>by
  obtain⟨hd,h⟩:=h
  have run:∀e,dt σ s w N e a->(cz P o e s fun v s'=>mI P N full rest (gp e o.dst v) s' fun e s=>Q .normal e s)->o.wpIn (Ar r) 0 P (Act.wD a D) w (wpListIn (Ar r) 0 P full.toArray (QR ws D (QX σ0 s0 w0 N Q)) rest) (QR ws D (QX σ0 s0 w0 N Q)):=by
   intro e hR h
   refine Oper.wpIn_mono (fun a' w' ⟨a0,h1,u,v,σ',s',ha,sR,im,nI,hK⟩=>?_) (H0 (fun a' w' ⟨u,_,_,_,ha,_⟩=>⟨u,ha⟩) (zb hI hR h))
   subst ha h1
   exact pN rest _ s' σ' w' _ (hk.trans (.of hI sR)) (hE.trans sR) im ((hR.aO sR).put hd nI) hK
  unfold wpListIn
  split at h
  ·rename_i hg
   rw[if_pos (by simp [Region.wanted,hg])]
   exact run e hR h
  ·rename_i g want hg
   obtain⟨e',nI,⟨h1,h2⟩|⟨h1,h2⟩⟩:=sY hR hg h
   ·rw[if_pos (show Region.wanted o (yielded full.toArray (Act.wD a D).tmps)=true from h1)];exact run e' nI h2
   ·rw[if_neg (show ¬Region.wanted o (yielded full.toArray (Act.wD a D).tmps)=true by rw[show (Act.wD a D).tmps=a.tmps from rfl,h1];decide),vT]
    exact⟨fun _ _=>trivial,pN rest _ s σ w _ hk hE hI (nI.put hd .un) h2⟩
def za (B:Env->List Obj->Prop) (Q:Exit->Env->List Obj->Prop):Exit->Env->List Obj->Prop
 |.normal,e,s=>B e s
 |x,e,s=>Q x e s
def IB (id:Nat) (Q:Exit->Env->List Obj->Prop):Exit->Env->List Obj->Prop
 |.exit i,e,s=>if i=id then Q .normal e s else Q (.exit i) e s
 |x,e,s=>Q x e s
def pz (x:V) (A B:Prop):Prop :=
 match x with
 |.d .ub=>A/\B
 |_=>fz x A B
def qi (P:Program) (N:Nat) (ops:List Oper) (e:Env) (s:List Obj) (K:Env->List Obj->Prop):Prop :=
 ∀(σ0:Gh) (s0:List Obj) (w0:World) (Q:Exit->Env->List Obj->Prop),(∀e s,K e s->Q .normal e s)->∀(σ:Gh) (w:World) (a:Act) (id:Nat),
  aA σ0 s0 w0 σ s w->Inv σ s w->dt σ s w N e a->zt P (Code.region id ops.toArray true) (QX σ0 s0 w0 N Q) a w
def bI (L:Nat) (e:Env) (s:List Obj) (e':Env) (s':List Obj):Prop :=
 ∀(σ0:Gh) (s0:List Obj) (w0:World) (σ:Gh) (w:World) (N:Nat) (a:Act),s0.length<=L->aA σ0 s0 w0 σ s w->Inv σ s w->dt σ s w N e a->∃σ',aA σ0 s0 w0 σ' s' w/\Inv σ' s' w/\dt σ' s' w N e' a
theorem bI.refl {L:Nat}{e:Env}{s:List Obj}:bI L e s e s:=fun _ _ _ σ _ _ _ _ hE hI hR=>⟨σ,hE,hI,hR⟩
theorem bI.trans {L:Nat}{e e' SN:Env}{s s' xi:List Obj} (h:bI L e s e' s') (k:bI L e' s' SN xi):bI L e s SN xi:=fun σ0 s0 w0 σ w N a hL hE hI hR =>
 let ⟨σ',h1,h2,h3⟩:=h σ0 s0 w0 σ w N a hL hE hI hR
 k σ0 s0 w0 σ' w N a hL h1 h2 h3
def OZ (L:Nat) (body:(Exit->Env->List Obj->Prop)->Env->List Obj->Prop) (Q:Exit->Env->List Obj->Prop) (e:Env) (s:List Obj):Prop :=
 ∃I:Nat->Env->List Obj->Prop,(∃n e1 s1,bI L e s e1 s1/\I n e1 s1)/\∀n e s,I n e s->body (za (fun e s=>∃m e1 s1,m<n/\bI L e s e1 s1/\I m e1 s1) Q) e s
def Lu (Q:Exit->Env->List Obj->Prop):Exit->Env->List Obj->Prop
 |.goto _,_,_=>False
 |ex,e,s=>Q ex e s
def codeWp (P:Program) (N L M:Nat):Code->(Exit->Env->List Obj->Prop)->Env->List Obj->Prop
 |.skip,Q,e,s=>Q .normal e s
 |.region _ ops draw,Q,e,s=>match draw with
  |false=>mI P N ops.toList ops.toList e s fun e s=>Q .normal e s
  |true=>qi P N ops.toList e s fun e s=>Q .normal e s
 |.seq a b,Q,e,s=>codeWp P N L M a (za (codeWp P N L M b Q) Q) e s
 |.cond c a b,Q,e,s=>pz (ev e c) (codeWp P N L M a Q (mS M e) s) (codeWp P N L M b Q (mS M e) s)
 |.block id c,Q,e,s=>codeWp P N L M c (IB id Q) e s
 |.loop c,Q,e,s=>OZ L (codeWp P N L M c) Q e s
 |.exit id,Q,e,s=>Q (.exit id) e s
 |.ret,Q,e,s=>Q .ret e s
 |.scope c,Q,e,s=>codeWp P N L M c (Lu Q) e s
 |.label _,Q,e,s=>Q .normal e s
 |_,_,_,_=>False
def Qn (Q:Exit->Env->List Obj->Prop) (e:Env) (s:List Obj):Prop:=Q .normal e s
def cont (P:Program) (N:Nat) (full rest:List Oper) (e:Env) (d:Option Nat) (K:Env->List Obj->Prop) (v:V) (s:List Obj):Prop:=mI P N full rest (gp e d v) s K
theorem uG {P:Program}{N:Nat}{full rest:List Oper}{e:Env}{d:Option Nat}{K:Env->List Obj->Prop}{v:V}{s:List Obj}:cont P N full rest e d K v s=mI P N full rest (gp e d v) s K:=(rfl)
theorem Ca {Q:Exit->Env->List Obj->Prop}{e:Env}{s:List Obj}:Qn Q e s=Q .normal e s:=(rfl)
theorem qD {P:Program}{N:Nat}{full:List Oper}{e:Env}{s:List Obj}{K:Env->List Obj->Prop}:mI P N full [] e s K=K e s:=(rfl)
theorem mM {P:Program}{N L M:Nat}{Q:Exit->Env->List Obj->Prop}{e:Env}{s:List Obj}:codeWp P N L M .skip Q e s=Q .normal e s:=(rfl)
theorem kr {P:Program}{N L M:Nat}{Q:Exit->Env->List Obj->Prop}{e:Env}{s:List Obj}{id:Nat}{ops:Array Oper}:codeWp P N L M (.region id ops false) Q e s=mI P N ops.toList ops.toList e s (Qn Q):=(rfl)
theorem mK {P:Program}{N L M:Nat}{Q:Exit->Env->List Obj->Prop}{e:Env}{s:List Obj}{id:Nat}{ops:Array Oper}:codeWp P N L M (.region id ops true) Q e s=qi P N ops.toList e s (Qn Q):=(rfl)
theorem oT {P:Program}{N L M:Nat}{Q:Exit->Env->List Obj->Prop}{e:Env}{s:List Obj}{a b:Code}:codeWp P N L M (.seq a b) Q e s=codeWp P N L M a (za (codeWp P N L M b Q) Q) e s:=(rfl)
theorem lj {P:Program}{N L M:Nat}{Q:Exit->Env->List Obj->Prop}{e:Env}{s:List Obj}{id:Nat}{c:Code}:codeWp P N L M (.block id c) Q e s=codeWp P N L M c (IB id Q) e s:=(rfl)
theorem mN {P:Program}{N L M:Nat}{Q:Exit->Env->List Obj->Prop}{e:Env}{s:List Obj}{id:Nat}:codeWp P N L M (.exit id) Q e s=Q (.exit id) e s:=(rfl)
theorem n8 {P:Program}{N L M:Nat}{Q:Exit->Env->List Obj->Prop}{e:Env}{s:List Obj}:codeWp P N L M .ret Q e s=Q .ret e s:=(rfl)
theorem mz {B:Env->List Obj->Prop}{Q:Exit->Env->List Obj->Prop}{e:Env}{s:List Obj}:za B Q .normal e s=B e s:=(rfl)
theorem tF {B:Env->List Obj->Prop}{Q:Exit->Env->List Obj->Prop}{e:Env}{s:List Obj}:za B Q .ret e s=Q .ret e s:=(rfl)
theorem rh {B:Env->List Obj->Prop}{Q:Exit->Env->List Obj->Prop}{e:Env}{s:List Obj}{i:Nat}:za B Q (.exit i) e s=Q (.exit i) e s:=(rfl)
theorem mP {Q:Exit->Env->List Obj->Prop}{e:Env}{s:List Obj}{i:Nat}:IB i Q .normal e s=Q .normal e s:=(rfl)
theorem uJ {Q:Exit->Env->List Obj->Prop}{e:Env}{s:List Obj}{i:Nat}:IB i Q .ret e s=Q .ret e s:=(rfl)
theorem qU {Q:Exit->Env->List Obj->Prop}{e:Env}{s:List Obj}{i j:Nat}:IB i Q (.exit j) e s=if j=i then Q .normal e s else Q (.exit j) e s:=(rfl)
def RN (L:Nat) (I:Nat->Env->List Obj->Prop) (n:Nat) (e:Env) (s:List Obj):Prop:=∃m e1 s1,m<n/\bI L e s e1 s1/\I m e1 s1
theorem ay {P:Program}{N L M:Nat}{c:Code}{Q:Exit->Env->List Obj->Prop}{e:Env}{s:List Obj} (I:Nat->Env->List Obj->Prop) (h0:∃n e1 s1,bI L e s e1 s1/\I n e1 s1) (h:∀n e s,I n e s->codeWp P N L M c (za (RN L I n) Q) e s) :
  codeWp P N L M (.loop c) Q e s:=⟨I,h0,h⟩
theorem bY {P:Program}{N L M:Nat}{σ0:Gh}{s0:List Obj}{w0:World} (hL:s0.length<=L):∀(c:Code) (Q:Exit->Env->List Obj->Prop) (e:Env) (s:List Obj) (σ:Gh) (w:World) (a:Act),
  aA σ0 s0 w0 σ s w->Inv σ s w->dt σ s w N e a->codeWp P N L M c Q e s->zt P c (QX σ0 s0 w0 N Q) a w
 |.skip,Q,e,s,σ,w,a,hE,hI,hR,h=>Kr hR.1 ⟨e,σ,s,hE,hI,hR,h⟩
 |.region id ops false,Q,e,s,σ,w,a,hE,hI,hR,h=>by
  intro r D
  refine wpIn_region_list ?_
  have:=pN (Q:=Q) (r:=r) (D:=D) (ws:=w) ops.toList e s σ w a (.refl _) hE hI hR h
  simpa using this
 |.region id ops true,Q,e,s,σ,w,a,hE,hI,hR,h=>by
  have:=h σ0 s0 w0 Q (fun _ _ h=>h) σ w a id hE hI hR
  simpa using this
 |.seq x y,Q,e,s,σ,w,a,hE,hI,hR,h=>by
  refine M3 (uL (bY hL x _ e s σ w a hE hI hR h) fun ex a' w' ⟨e',σ',s',sR,im,nI,hq⟩=>?_)
  cases ex with
  |normal=>exact bY hL y Q e' s' σ' w' a' sR im nI hq
  |_=>exact⟨e',σ',s',sR,im,nI,hq⟩
 |.cond c x y,Q,e,s,σ,w,a,hE,hI,hR,h=>by
  simp only[codeWp,pz]at h
  split at h
  ·rename_i hb
   have hc:=hR.ev c
   rw[hb]at hc
   generalize tm:a.eval c=Pv at hc
   cases hc with|d hc=>?_
   cases hc with|ub b=>?_
   refine qf tm (fun ht=>?_) (fun hf=>?_)
   ·exact bY hL x Q _ s σ w a hE hI hR.trim h.1
   ·exact bY hL y Q _ s σ w a hE hI hR.trim h.2
  unfold fz at h
  split at h
  ·rename_i b hb
   have hc:=hR.ev c
   rw[hb]at hc
   generalize tm:a.eval c=Pv at hc
   cases hc with|d hc=>?_
   cases hc with|sc _ _=>?_
   refine qf tm (fun ht=>?_) (fun hf=>?_)
   ·exact bY hL x Q _ s σ w a hE hI hR.trim (h.1 ht)
   ·exact bY hL y Q _ s σ w a hE hI hR.trim (h.2 hf)
  ·exact h.elim
 |.block id c,Q,e,s,σ,w,a,hE,hI,hR,h=>by
  refine Jk (uL (bY hL c _ e s σ w a hE hI hR h) fun ex a' w' ⟨e',σ',s',sR,im,nI,hq⟩=>?_)
  cases ex with
  |exit i =>
   simp only[Exit.inBlock]
   simp only[IB]at hq
   split
   ·rename_i hi;rw[if_pos hi]at hq;exact⟨e',σ',s',sR,im,nI,hq⟩
   ·rename_i hi;rw[if_neg hi]at hq;exact⟨e',σ',s',sR,im,nI,hq⟩
  |_=>exact⟨e',σ',s',sR,im,nI,hq⟩
 |.loop c,Q,e,s,σ,w,a,hE,hI,hR,h=>by
  obtain⟨I,⟨n0,e0,XE,ME,h0⟩,qp⟩:=h
  obtain⟨σ,hE,hI,hR⟩:=ME σ0 s0 w0 σ w N a hL hE hI hR
  let J:Nat->Act->World->Prop:=fun n a w=>∃e σ s,aA σ0 s0 w0 σ s w/\Inv σ s w/\dt σ s w N e a/\I n e s
  have least:∀a w,(∃n,J n a w)->∃n,J n a w/\∀m,J m a w->n<=m:=by
   intro a w ⟨n,hn⟩
   induction n using Nat.strongRecOn with
   |_ n ih =>
    by_cases hm:∃m,m<n/\J m a w
    ·obtain⟨m,MO,V2⟩:=hm;exact ih m MO V2
    ·exact⟨n,hn,fun m hj=>by
      rcases Nat.lt_or_ge m n with h'|h'
      ·exact absurd ⟨m,h',hj⟩ hm
      ·exact h'⟩
  classical
  let μ:Act->World->Nat:=fun a w=>if h:∃n,J n a w then Classical.choose (least a w h) else 0
  have hμ:∀a w,(∃n,J n a w)->J (μ a w) a w/\∀m,J m a w->μ a w<=m:=by
   intro a w h
   simp only[μ,dif_pos h]
   exact Classical.choose_spec (least a w h)
  refine L4 (fun a w=>∃n,J n a w) μ ⟨n0,e0,σ,XE,hE,hI,hR,h0⟩ hR.1 fun a w hJ=>?_
  obtain⟨⟨e1,σ1,s1,Lj,MD,Ms,hi⟩,_⟩:=hμ a w hJ
  refine uL (bY hL c _ e1 s1 σ1 w a Lj MD Ms (qp _ _ _ hi)) fun ex a' w' ⟨e',σ',s',sR,im,nI,hq⟩=>?_
  cases ex with
  |normal =>
   obtain⟨m,e2,s2,hm,hc,hi'⟩:=hq
   obtain⟨σ',sR,im,nI⟩:=hc σ0 s0 w0 σ' w' N a' hL sR im nI
   have hj:J m a' w':=⟨e2,σ',s2,sR,im,nI,hi'⟩
   exact⟨⟨m,hj⟩,Nat.lt_of_le_of_lt ((hμ a' w' ⟨m,hj⟩).2 m hj) hm⟩
  |_=>exact⟨e',σ',s',sR,im,nI,hq⟩
 |.exit id,Q,e,s,σ,w,a,hE,hI,hR,h=>Ka hR.1 ⟨e,σ,s,hE,hI,hR,h⟩
 |.ret,Q,e,s,σ,w,a,hE,hI,hR,h=>Nl hR.1 ⟨e,σ,s,hE,hI,hR,h⟩
 |.rangeFunc ..,_,_,_,_,_,_,_,_,_,h=>h.elim
 |.scope c,Q,e,s,σ,w,a,hE,hI,hR,h=>by
  refine sx (uL (bY hL c (Lu Q) e s σ w a hE hI hR h) fun ex a' w' ⟨e',σ',s',sR,im,nI,hq⟩=>?_)
  cases ex with
  |goto l=>exact hq
  |_=>exact⟨e',σ',s',sR,im,nI,hq⟩
 |.label _,Q,e,s,σ,w,a,hE,hI,hR,h=>IX hR.1 ⟨e,σ,s,hE,hI,hR,h⟩
 |.goto _,_,_,_,_,_,_,_,_,_,h=>h.elim
 |.refuse _,_,_,_,_,_,_,_,_,_,h=>h.elim
theorem oq {P:Program}{N L M:Nat}{σ0:Gh}{s0:List Obj}{w0:World} (hL:s0.length<=L) (c:Code) (Q:Exit->Env->List Obj->Prop) (e:Env) (s:List Obj) (σ:Gh) (w:World) (a:Act)
  (hE:aA σ0 s0 w0 σ s w) (hI:Inv σ s w) (hR:dt σ s w N e a) (h:codeWp P N L M c Q e s):c.wp P (QX σ0 s0 w0 N Q) a w :=
 (bY hL c Q e s σ w a hE hI hR h).wp hR.1
def cA:Nat->Nat->List Obj->V->Option D
 |_,_,_,.d x=>some x
 |_,_,_,.fu au=>some (.sl au)
 |n+1,lim,s,.so id g lo m=>match s[id]? with
  |some o=>if o.g=g/\lo+m<=o.au.length/\(lim<=id\/o.live=false) then
    (((o.au.drop lo).take m).mapM fun (e:List V)=>e.mapM (cA n lim s)).map .sl else none
  |none=>none
 |n+1,lim,s,.rf id g k off=>match s[id]? with
  |some o=>if o.g=g/\(lim<=id\/o.live=false) then
    (match o.au[k]? with
    |some e=>((e.drop off).mapM (cA n lim s)).map .el
    |none=>none) else none
  |none=>none
 |_,_,_,.pp _ _ _ _ b a=>some (.sc (.pointer (some ⟨b,a,none⟩)))
 |n+1,lim,s,.bx v=>(cA n lim s v).map fun x=>.el [x]
 |n+1,lim,s,.cl fn first ai=>match first.mapM (cA n lim s),ai.mapM (cA n lim s) with
  |some f,some c=>some (.cl fn f c)
  |_,_=>none
 |_,_,_,_=>none
theorem qX {σ:Gh}{s:List Obj}{w:World} (hI:Inv σ s w) (lim:Nat):∀(n:Nat) (x:V) (u:Value) (y:D),aw σ s w x u->cA n lim s x=some y->cu (Own σ (s.take lim)) w y u:=by
 have gi:∀b,Own σ (s.take lim) b->Own σ s b:=by
  rintro b (h|⟨id,o,base,h1,h2,h3⟩)
  ·exact .inl h
  ·rw[List.getElem?_take]at h1
   split at h1
   ·exact .inr ⟨id,o,base,h1,h2,h3⟩
   ·cases h1
 intro n
 induction n with
 |zero =>
  intro x u y hr h
  cases hr <;> simp only[cA,Option.some.injEq]at h <;> first|(cases h;done)|(subst h;exact cu.own gi (by assumption))|(subst h;exact .sc _ rfl)
 |succ n ih =>
  intro x u y hr h
  cases hr with
  |d h'=>simp only[cA,Option.some.injEq]at h;subst h;exact cu.own gi h'
  |fu h'=>simp only[cA,Option.some.injEq]at h;subst h;exact cu.own gi h'
  |pp o ho hg hk=>simp only[cA,Option.some.injEq]at h;subst h;exact .sc _ rfl
  |bx h1 h2 h3 hu h4 =>
   simp only[cA]at h
   obtain⟨z,hz,rfl⟩:=Option.map_eq_some_iff.1 h
   rename_i v a u
   refine cu.el [z] a (fun _=>u) h1 (fun j x hx=>?_) (fun j x hx=>?_)
   ·cases j with
    |zero=>exact⟨h2,fun h'=>h3 (gi _ h')⟩
    |succ j=>simp at hx
   ·cases j with
    |zero=>simp at hx;subst hx;exact ih _ _ _ h4 hz
    |succ j=>simp at hx
  |cl h1 h2 h3 h4 =>
   simp only[cA]at h
   split at h
   case h_2=>cases h
   rename_i f c hf hc
   cases h
   obtain⟨f1,f2⟩:=ir hf
   obtain⟨c1,c2⟩:=ir hc
   refine .cl (by omega) (fun i x hx=>?_) (by omega) (fun i x hx=>?_)
   ·obtain⟨z,k1,k2⟩:=f2 i x hx
    exact ih _ _ _ (h2 i z k1) k2
   ·obtain⟨z,k1,k2⟩:=c2 i x hx
    exact ih _ _ _ (h4 i z k1) k2
  |so o ho hg hu hk =>
   rename_i id g lo m
   simp only[cA,ho]at h
   split at h
   case isFalse=>cases h
   rename_i hc
   obtain⟨sI,hlen,OY⟩:=hc
   obtain⟨au,fv,rfl⟩:=Option.map_eq_some_iff.1 h
   obtain⟨m1,m2⟩:=ir fv
   have hl:au.length=m:=by rw[m1];simp;omega
   rcases hk sI with ⟨pk,⟨a,rfl⟩,rfl,rfl⟩|⟨b,base,cap,E,arr,g1,g2,rfl,g4,g5⟩
   ·have:au=[]:=List.eq_nil_of_length_eq_zero hl
    subst this
    cases a with
    |none=>exact .nil
    |some a=>exact cu.sl [] a 0 0 (fun _ _=>undef) (by simp) (by simp) (by simp) (by simp) (by simp)
   ·rcases hI.content _ o ho with h1|⟨b',bp,b9,E',h1,h2,h3,h4,h5⟩
    ·exact(h1.xr g1 ⟨arr,E,g2⟩).elim
    rw[g1]at h1;cases h1
    rw[g2]at h2;cases h2
    have hO:¬Own σ (s.take lim) b:=by
     rintro (h|⟨jm,o',bp,k1,k2,k3⟩)
     ·exact hI.apart _ o b base ho g1 h
     ·rw[List.getElem?_take]at k1
      split at k1
      ·rename_i az
       have:=hI.inj jm id o' o b bp base k1 ho k2 k3 g1
       subst this
       rcases OY with h|h
       ·omega
       ·rw[ho]at k1;cases k1;rw[h]at k2;cases k2
      ·cases k1
    rw[<- hl]
    refine cu.F0 (sz:=o.sz) (by omega) (fun e he=>?_) hO (fun i j x hx=>?_)
    ·obtain⟨i,hi⟩:=List.mem_iff_getElem?.1 he
     obtain⟨e',k1,k2⟩:=m2 i e hi
     rw[(ir k2).1]
     exact h3 e' (List.mem_of_mem_drop (List.mem_of_mem_take (List.mem_of_getElem? k1)))
    ·cases hi:au[i]? with
     |none=>rw[hi]at hx;cases hx
     |some e =>
      rw[hi]at hx
      obtain⟨e',k1,k2⟩:=m2 i e hi
      obtain⟨v,k3,k4⟩:=(ir k2).2 j x hx
      rw[List.getElem?_take]at k1
      split at k1
      case isFalse=>cases k1
      rw[List.getElem?_drop]at k1
      obtain⟨c,c1,c2,c3⟩:=h5 (lo+i) j v (by rw[k1];exact k3)
      refine⟨c,?_,ih v c x c3 k4⟩
      simp only[World.cell?,g2]
      rw[Nat.add_mul]at c1
      simpa [Nat.add_assoc]using c1
  |rf o ho hg hu hk =>
   rename_i id g k off
   simp only[cA,ho]at h
   split at h
   case isFalse=>cases h
   rename_i hc
   obtain⟨sI,OY⟩:=hc
   split at h
   case h_2=>cases h
   rename_i e he
   obtain⟨cs,mL,rfl⟩:=Option.map_eq_some_iff.1 h
   obtain⟨m1,m2⟩:=ir mL
   obtain⟨b,base,g1,gC,rfl⟩:=hk sI
   rcases hI.content _ o ho with h1|⟨b',bp,b9,E',h1,h2,h3,h4,h5⟩
   ·exact(h1.xr g1 gC).elim
   rw[g1]at h1;cases h1
   have hO:¬Own σ (s.take lim) b:=by
    rintro (h|⟨jm,o',bp,k1,k2,k3⟩)
    ·exact hI.apart _ o b base ho g1 h
    ·rw[List.getElem?_take]at k1
     split at k1
     ·rename_i az
      have:=hI.inj jm id o' o b bp base k1 ho k2 k3 g1
      subst this
      rcases OY with h|h
      ·omega
      ·rw[ho]at k1;cases k1;rw[h]at k2;cases k2
     ·cases k1
   have key:∀j x,cs[j]?=some x->∃c,w.cell? ⟨b,base+k*o.sz+off+j,none⟩=some c/\cu (Own σ (s.take lim)) w x c:=by
    intro j x hx
    obtain⟨v,k3,k4⟩:=m2 j x hx
    rw[List.getElem?_drop]at k3
    obtain⟨c,c1,c2,c3⟩:=h5 k (off+j) v (by rw[he];exact k3)
    refine⟨c,?_,ih v c x c3 k4⟩
    simp only[World.cell?,h2]
    simpa [Nat.add_assoc]using c1
   refine .el cs _ (fun j=>(w.cell? ⟨b,base+k*o.sz+off+j,none⟩).getD undef) rfl (fun j x hx=>⟨?_,hO⟩) (fun j x hx=>?_)
   ·obtain⟨c,h1,_⟩:=key j x hx
    simp only[h1,Option.getD_some]
   ·obtain⟨c,h1,Zc⟩:=key j x hx
    simp only[h1,Option.getD_some]
    exact Zc
  |_=>simp [cA]at h
def ah (lim:Nat):V->Bool
 |.d _|.fu _|.un=>true
 |.so id _ _ _=>decide (id<lim)
 |.rf id _ _ _=>decide (id<lim)
 |.pp id _ _ _ _ _=>decide (id<lim)
 |.mp id _=>decide (id<lim)
 |.ag cs=>go cs
 |.tu cs=>go cs
 |.bx v=>ah lim v
 |.cap _ _ v=>ah lim v
 |.cl _ first ai=>go first&&go ai
 |.any=>true
where go:List V->Bool
 |[]=>true
 |v::vs=>ah lim v&&go vs
theorem cZ {lim:Nat}:∀{l:List V},ah.go lim l=true->∀(i:Nat) (x:V),l[i]?=some x->ah lim x=true
 |[],_,i,x,hx=>by simp at hx
 |v::vs,h,i,x,hx=>by
  simp only[ah.go,Bool.and_eq_true]at h
  cases i with
  |zero=>simp at hx;subst hx;exact h.1
  |succ i=>exact cZ h.2 i x (by simpa using hx)
theorem aw.take {σ:Gh}{s:List Obj}{w:World}{lim:Nat}{x:V}{u:Value} (hr:aw σ s w x u) (h:ah lim x=true):aw σ (s.take lim) w x u:=by
 have gi:∀b,Own σ (s.take lim) b->Own σ s b:=by
  rintro b (h|⟨id,o,base,h1,h2,h3⟩)
  ·exact .inl h
  ·rw[List.getElem?_take]at h1
   split at h1
   ·exact .inr ⟨id,o,base,h1,h2,h3⟩
   ·cases h1
 induction hr with
 |d hx=>exact .d (hx.own gi)
 |ag h1 h2 _ ih=>exact .ag h1 h2 fun i x hx=>ih i x hx (cZ (by simpa only[ah]using h) i x hx)
 |tu h1 _ ih=>exact .tu h1 fun i x hx=>ih i x hx (cZ (by simpa only[ah]using h) i x hx)
 |fu hx=>exact .fu (hx.own gi)
 |so o ho hg hu hk =>
  simp only[ah,decide_eq_true_eq]at h
  exact .so o (by rw[List.getElem?_take,if_pos h];exact ho) hg hu hk
 |rf o ho hg hu hk =>
  simp only[ah,decide_eq_true_eq]at h
  exact .rf o (by rw[List.getElem?_take,if_pos h];exact ho) hg hu hk
 |pp o ho hg hk =>
  simp only[ah,decide_eq_true_eq]at h
  exact .pp o (by rw[List.getElem?_take,if_pos h];exact ho) hg hk
 |mp o ho hg hu hk =>
  simp only[ah,decide_eq_true_eq]at h
  exact .mp o (by rw[List.getElem?_take,if_pos h];exact ho) hg hu hk
 |bx h1 h2 h3 hu _ ih=>exact .bx h1 h2 (fun h'=>h3 (gi _ h')) hu (ih (by simpa only[ah]using h))
 |cap h1 _ ih=>exact .cap h1 (ih (by simpa only[ah]using h))
 |cl h1 _ h3 _ u9 u5 =>
  simp only[ah,Bool.and_eq_true]at h
  exact .cl h1 (fun i x hx=>u9 i x hx (cZ h.1 i x hx)) h3 (fun i x hx=>u5 i x hx (cZ h.2 i x hx))
 |un=>exact .un
 |any=>exact .any
def bh (lim:Nat) (s:List Obj):V->Option V
 |.d x=>some (.d x)
 |.fu au=>some (.d (.sl au))
 |.so id g lo m=>match cA 8 lim s (.so id g lo m) with
  |some x=>some (.d x)
  |none=>if id<lim then some (.so id g lo m) else none
 |.rf id g i off=>match cA 8 lim s (.rf id g i off) with
  |some x=>some (.d x)
  |none=>if id<lim then some (.rf id g i off) else none
 |.pp id g i off b a=>if id<lim then some (.pp id g i off b a) else some (.d (.sc (.pointer (some ⟨b,a,none⟩))))
 |.mp id g=>if id<lim then some (.mp id g) else none
 |.ag cs=>(go cs).map .ag
 |.tu cs=>(go cs).map .tu
 |.bx v=>(cA 8 lim s (.bx v)).map .d
 |.cap _ _ v=>bh lim s v
 |.cl fn first ai=>match cA 8 lim s (.cl fn first ai) with
  |some x=>some (.d x)
  |none=>if ah lim (.cl fn first ai) then some (.cl fn first ai) else none
 |.un=>some .un
 |.any=>some .any
where go:List V->Option (List V)
 |[]=>some []
 |v::vs=>match bh lim s v,go vs with
  |some v',some WM=>some (v'::WM)
  |_,_=>none
theorem qy {lim:Nat}{s:List Obj}:∀{l r:List V},bh.go lim s l=some r->r.length=l.length/\∀(i:Nat) (y:V),r[i]?=some y->∃x,l[i]?=some x/\bh lim s x=some y
 |[],r,h=>by simp [bh.go]at h;subst h;simp
 |v::vs,r,h=>by
  simp only[bh.go]at h
  split at h
  ·rename_i v' WM h1 h2
   simp only[Option.some.injEq]at h
   subst h
   obtain⟨k1,k2⟩:=qy h2
   refine⟨by simp [k1],fun i y hy=>?_⟩
   cases i with
   |zero=>simp at hy;subst hy;exact⟨v,rfl,h1⟩
   |succ i=>simpa using k2 i y (by simpa using hy)
  ·cases h
theorem lL {σ:Gh}{s:List Obj}{w:World} (hI:Inv σ s w) {lim:Nat}{x:V}{u:Value} (hr:aw σ s w x u):∀{y:V},bh lim s x=some y->aw σ (s.take lim) w y u:=by
 have gi:∀b,Own σ (s.take lim) b->Own σ s b:=by
  rintro b (h|⟨id,o,base,h1,h2,h3⟩)
  ·exact .inl h
  ·rw[List.getElem?_take]at h1
   split at h1
   ·exact .inr ⟨id,o,base,h1,h2,h3⟩
   ·cases h1
 induction hr with
 |d hx=>intro y h;simp only[bh,Option.some.injEq]at h;subst h;exact .d (hx.own gi)
 |fu hx=>intro y h;simp only[bh,Option.some.injEq]at h;subst h;exact .d (hx.own gi)
 |so o ho hg hu hk =>
  intro y h
  simp only[bh]at h
  split at h
  ·rename_i z hz
   simp only[Option.some.injEq]at h
   subst h
   exact .d (qX hI lim 8 _ _ z (.so o ho hg hu hk) hz)
  ·split at h
   ·simp only[Option.some.injEq]at h
    subst h
    exact aw.take (.so o ho hg hu hk) (by simpa [ah]using ‹_›)
   ·cases h
 |rf o ho hg hu hk =>
  intro y h
  simp only[bh]at h
  split at h
  ·rename_i z hz
   simp only[Option.some.injEq]at h
   subst h
   exact .d (qX hI lim 8 _ _ z (.rf o ho hg hu hk) hz)
  ·split at h
   ·simp only[Option.some.injEq]at h
    subst h
    exact aw.take (.rf o ho hg hu hk) (by simpa [ah]using ‹_›)
   ·cases h
 |pp o ho hg hk =>
  intro y h
  simp only[bh]at h
  split at h
  ·simp only[Option.some.injEq]at h
   subst h
   exact aw.take (.pp o ho hg hk) (by simpa [ah]using ‹_›)
  ·simp only[Option.some.injEq]at h
   subst h
   exact .d (.sc _ rfl)
 |mp o ho hg hu hk =>
  intro y h
  simp only[bh]at h
  split at h
  ·simp only[Option.some.injEq]at h
   subst h
   exact aw.take (.mp o ho hg hu hk) (by simpa [ah]using ‹_›)
  ·cases h
 |ag h1 h2 _ ih =>
  intro y h
  simp only[bh]at h
  obtain⟨cs,mL,rfl⟩:=Option.map_eq_some_iff.1 h
  obtain⟨k1,k2⟩:=qy mL
  refine .ag (by omega) (fun i x hx=>?_) (fun i x hx=>?_)
  ·obtain⟨z,hz,_⟩:=k2 i x hx;exact h2 i z hz
  ·obtain⟨z,hz,Q5⟩:=k2 i x hx;exact ih i z hz Q5
 |tu h1 _ ih =>
  intro y h
  simp only[bh]at h
  obtain⟨cs,mL,rfl⟩:=Option.map_eq_some_iff.1 h
  obtain⟨k1,k2⟩:=qy mL
  refine .tu (by omega) (fun i x hx=>?_)
  obtain⟨z,hz,Q5⟩:=k2 i x hx;exact ih i z hz Q5
 |cap h1 _ ih=>intro y h;exact ih (by simpa only[bh]using h)
 |bx h1 h2 h3 hu h4 =>
  intro y h
  simp only[bh]at h
  obtain⟨z,hz,rfl⟩:=Option.map_eq_some_iff.1 h
  exact .d (qX hI lim 8 _ _ z (.bx h1 h2 h3 hu h4) hz)
 |cl h1 h2 h3 h4 =>
  intro y h
  simp only[bh]at h
  split at h
  ·rename_i z hz
   simp only[Option.some.injEq]at h
   subst h
   exact .d (qX hI lim 8 _ _ z (.cl h1 h2 h3 h4) hz)
  ·split at h
   ·simp only[Option.some.injEq]at h
    subst h
    exact aw.take (.cl h1 h2 h3 h4) (by assumption)
   ·cases h
 |un=>intro y h;simp only[bh,Option.some.injEq]at h;subst h;exact .un
 |any=>intro y h;simp only[bh,Option.some.injEq]at h;subst h;exact .any
def aQ (lim:Nat) (o:Obj):Bool:=o.au.all fun e=>e.all (ah lim)
def Ib (lim:Nat) (s:List Obj) (r:V) (K:V->List Obj->Prop):Prop :=
 (s.take lim).all (aQ lim)=true/\match bh lim s r with
  |some r'=>K r' (s.take lim)
  |none=>False
theorem aA.take {σ s w σ' s' w'} (h:aA σ s w σ' s' w') {lim:Nat} (hl:s.length<=lim):aA σ s w σ' (s'.take lim) w':=by
 refine⟨h.os,h.tape,h.output,h.size,h.aR,h.shape,h.nk,fun b hb=>h.own b ?_,fun id o ho=>?_,h.base,h.eT⟩
 ·rcases hb with hb|⟨id,o,base,h1,h2,h3⟩
  ·exact .inl hb
  ·rw[List.getElem?_take]at h1
   split at h1
   ·exact .inr ⟨id,o,base,h1,h2,h3⟩
   ·cases h1
 ·obtain⟨o',h1,h2⟩:=h.uY id o ho
  have:=(List.getElem?_eq_some_iff.1 ho).1
  exact⟨o',by rw[List.getElem?_take,if_pos (by omega)];exact h1,h2⟩
theorem Inv.take {σ:Gh}{s:List Obj}{w:World} (h:Inv σ s w) {lim:Nat} (ho:(s.take lim).all (aQ lim)=true):Inv σ (s.take lim) w:=by
 have get:∀(id:Nat) (o:Obj),(s.take lim)[id]?=some o->s[id]?=some o:=by
  intro id o hh
  rw[List.getElem?_take]at hh
  split at hh
  ·exact hh
  ·cases hh
 refine⟨fun id o hh=>?_,fun id jm o o' b base bp h1 h2=>h.inj id jm o o' b base bp (get _ _ h1) (get _ _ h2),h.low,fun id o b base h1=>h.apart id o b base (get _ _ h1)⟩
 rcases h.content id o (get _ _ hh) with h1|⟨b,base,arr,E,h1,h2,h3,h4,h5⟩
 ·exact .inl h1
 ·refine .inr ⟨b,base,arr,E,h1,h2,h3,h4,fun i j x hx=>?_⟩
  obtain⟨u,k1,k2,k3⟩:=h5 i j x hx
  refine⟨u,k1,k2,k3.take ?_⟩
  have hobj:=List.all_eq_true.1 ho o (List.mem_of_getElem? hh)
  cases yM:o.au[i]? with
  |none=>rw[yM]at hx;cases hx
  |some e =>
   rw[yM]at hx
   exact List.all_eq_true.1 (List.all_eq_true.1 hobj e (List.mem_of_getElem? yM)) x (List.mem_of_getElem? hx)
def F7 (P:Program) (e:Env) (s:List Obj) (r:ResultVar) (K:V->Prop):Prop :=
 match r with
 |.tmp t=>K (e t)
 |.cell a t=>jJ P t s (e a) K
def Cp (P:Program) (e:Env) (s:List Obj):List ResultVar->List V->(List V->Prop)->Prop
 |[],acc,K=>K acc
 |r::rs,acc,K=>F7 P e s r fun v=>Cp P e s rs (acc++[v]) K
def yz (P:Program) (rs:List ResultVar) (e:Env) (s:List Obj) (K:V->Prop):Prop :=
 Cp P e s rs [] fun vs=>match vs with
  |[v]=>K v
  |vs=>K (.tu vs)
def M1 (tmps:Array Value):ResultVar->Sem Value
 |.tmp t=>pure (tmps.getD t undef)
 |.cell x t=>do loadVar t (<- asAddr (tmps.getD x undef))
theorem Gy (fn:Func) (tmps:Array Value):results fn tmps=(do let vs <- fn.results.mapM (M1 tmps);pure (if h:vs.size=1 then vs[0] else .tuple vs)):=by
 unfold results
 congr 1
theorem GN {P:Program}{N:Nat}{σ:Gh}{s:List Obj}{w:World}{e:Env}{a:Act}{r:ResultVar}{K:V->Prop} (hI:Inv σ s w) (hR:dt σ s w N e a) (h:F7 P e s r K) :
  ∃v c,(M1 a.tmps r).run P w=.ok c w/\aw σ s w v c/\K v:=by
 cases r with
 |tmp t=>exact⟨e t,_,rfl,hR.2.2 t,h⟩
 |cell x t =>
  simp only[F7]at h
  have hx:=hR.2.2 x
  generalize tm:a.tmps.getD x undef=c at hx
  obtain⟨v,r,k1,k2,k3⟩:=y9 hI hx h
  have hp:∃ad,c=.pointer (some ad):=by
   unfold jJ at h
   split at h
   ·exact h.elim
   ·split at h
    ·rename_i hh
     rw[hh]at hx
     cases hx with|d hx=>?_
     cases hx with|el _ ad _ _ _ _=>exact⟨ad,rfl⟩
    ·rename_i hh
     rw[hh]at hx
     cases hx with|bx _ _ _ _ _=>exact⟨_,rfl⟩
    ·rename_i hh
     rw[hh]at hx
     split at h
     ·exact h.elim
     ·rename_i o ho
      obtain⟨b,base,_,_,hp⟩:=GY hx ho h.1
      exact⟨_,hp⟩
    ·rename_i hh
     rw[hh]at hx
     exact⟨_,hx.BA⟩
    ·exact h.elim
  obtain⟨ad,rfl⟩:=hp
  refine⟨v,r,?_,k2,k3⟩
  simp only[M1,tm,asAddr,Sem.run_bind,Sem.run_pure,Result.andThen_ok]
  simpa [Instr.loadAt,Instr.sureAddr]using k1
theorem yn {P:Program}{N:Nat}{σ:Gh}{s:List Obj}{w:World}{e:Env}{a:Act} (hI:Inv σ s w) (hR:dt σ s w N e a):∀(rs:List ResultVar) (acc:List V) (K:List V->Prop),Cp P e s rs acc K ->
  ∃vs us,(rs.mapM (M1 a.tmps)).run P w=.ok us w/\us.length=vs.length /\
   (∀(i:Nat) (x:V),vs[i]?=some x->∃u,us[i]?=some u/\aw σ s w x u)/\K (acc++vs)
 |[],acc,K,h=>⟨[],[],by simp,rfl,by simp,by simpa [Cp]using h⟩
 |r::rs,acc,K,h=>by
  simp only[Cp]at h
  obtain⟨v,c,k1,k2,k3⟩:=GN hI hR h
  obtain⟨vs,us,m1,m2,m3,m4⟩:=yn hI hR rs _ K k3
  refine⟨v::vs,c::us,?_,by simp [m2],fun i x hx=>?_,by simpa using m4⟩
  ·rw[List.mapM_cons,Sem.run_bind,k1,Result.andThen_ok,Sem.run_bind,m1,Result.andThen_ok]
   rfl
  ·cases i with
   |zero=>simp at hx;subst hx;exact⟨c,rfl,k2⟩
   |succ i=>simpa using m3 i x (by simpa using hx)
theorem my {P:Program}{N:Nat}{σ:Gh}{s:List Obj}{w:World}{e:Env}{a:Act}{fn:Func}{K:V->Prop} (hI:Inv σ s w) (hR:dt σ s w N e a) (h:yz P fn.results.toList e s K) :
  ∃v c,(results fn a.tmps).run P w=.ok c w/\aw σ s w v c/\K v:=by
 obtain⟨vs,us,m1,m2,m3,m4⟩:=yn hI hR _ _ _ h
 have dI:(results fn a.tmps).run P w=.ok (if h:us.toArray.size=1 then us.toArray[0] else .tuple us.toArray) w:=by
  rw[Gy]
  rw[<- Array.toArray_toList (xs:=fn.results),List.mapM_toArray]
  simp only[Sem.run_bind,Sem.run_map,m1,Result.andThen_ok,Sem.run_pure]
 rw[dI]
 simp only[List.nil_append]at m4
 split at m4
 ·rename_i v
  have hlen:us.length=1:=by simpa using m2
  obtain⟨u,hu,uQ⟩:=m3 0 v rfl
  refine⟨v,u,?_,uQ,m4⟩
  rw[dif_pos (by simpa using hlen)]
  have:=(List.getElem?_eq_some_iff.1 hu).2
  simp [this]
 ·rename_i eF
  have hlen:us.length≠1:=by
   intro hh
   rw[m2]at hh
   match vs,hh,eF with
   |[v],_,eF=>exact eF v rfl
  refine⟨.tu vs,.tuple us.toArray,by rw[dif_neg (by simpa using hlen)],.tu (by simpa using m2) (fun i x hx=>?_),m4⟩
  obtain⟨u,hu,uQ⟩:=m3 i x hx
  rw[ot hu]
  exact uQ
def ie:List V->Env
 |[],_=>.un
 |v::_,0=>v
 |_::l,n+1=>ie l n
theorem nO:∀(l:List V) (t:Nat),ie l t=(l[t]?).getD .un
 |[],t=>by simp [ie]
 |v::l,0=>rfl
 |v::l,t+1=>by simp [ie,nO l t]
def xn:Exit->Prop
 |.normal=>True
 |.ret=>True
 |_=>False
theorem rI {ex:Exit} (h:xn ex):ex=.normal\/ex=.ret:=by
 cases ex <;> simp_all [xn]
def Sv (P:Program) (rs:List ResultVar) (lim:Nat) (K:V->List Obj->Prop) (ex:Exit) (e:Env) (s:List Obj):Prop:=xn ex/\yz P rs e s fun r=>Ib lim s r K
theorem tL {P:Program}{rs:List ResultVar}{lim:Nat}{K:V->List Obj->Prop}{ex:Exit}{e:Env}{s:List Obj}:Sv P rs lim K ex e s=(xn ex/\yz P rs e s fun r=>Ib lim s r K):=rfl
theorem an {P : Program} {f : FuncId} {fn : Func} {c : Code} {args : List V} {exts : List Obj} {K : V → List Obj → Prop} (hf : P.funcs[f]? = some fn) (hb : fn.body = some c) {N : Nat} (hN : fn.ntmps = N) {rs : Array ResultVar} (Pp : fn.results = rs) (hn : (fn.name != "runtime.NumGoroutine") = true)
  (lim M:Nat) (hl:exts.length<=lim) (ha:args.length<=N)
  (h:codeWp P N lim M c (Sv P rs.toList lim K) (ie args) exts):aq P f args exts K:=by
 subst hN;subst Pp
 refine⟨by simp only[G7,hf,hn,hb,Option.isSome_some,Bool.and_self],fun σ w vals hI PV hv=>?_⟩
 refine calls_of_wp hf hb ?_
 have hR:dt σ exts w fn.ntmps (ie args) { tmps:=vals++Array.replicate (fn.ntmps-vals.size) undef,defers:=[] }:=by
  refine⟨rfl,by simp;omega,fun t=>?_⟩
  rw[nO]
  by_cases ht:t<args.length
  ·have h1:=hv t args[t] (by simp [ht])
   have:(vals++Array.replicate (fn.ntmps-vals.size) undef).getD t undef=vals.getD t undef:=by
    rw[Array.getD_eq_getD_getElem?,Array.getElem?_append_left (by omega),Array.getD_eq_getD_getElem?]
   rw[this]
   simpa [ht]using h1
  ·have:(vals++Array.replicate (fn.ntmps-vals.size) undef).getD t undef=undef:=by
    rw[Array.getD_eq_getD_getElem?,Array.getElem?_append_right (by omega),Array.getElem?_replicate]
    split <;> rfl
   rw[this]
   simp [ht]
   exact .un
 refine wp_mono (oq hl c _ (ie args) exts σ w _ (aA.refl _ _ _) hI hR h) fun ex a' w' ⟨e',σ',s',hE,im,nI,hex,hq⟩=>?_
 obtain⟨v,u,k1,k2,k3⟩:=my im nI hq
 obtain⟨h1,h2⟩:=k3
 have fin:a'.defers=[]/\∃v,(results fn a'.tmps).run P w'=.ok v w'/\∃u OB xV uE,Ending.returned v=.returned u/\aA σ exts w xV uE w'/\Inv xV uE w'/\aw xV uE w' OB u/\K OB uE:=by
  refine⟨nI.1,u,k1,?_⟩
  split at h2
  ·rename_i r' NH
   exact⟨u,r',σ',s'.take lim,rfl,hE.take hl,im.take h1,lL im k2 NH,h2⟩
  ·exact h2.elim
 rcases rI hex with rfl|rfl
 ·exact fin
 ·exact fin
end Go.VL
