/- A part of the proof (Vjr Vk Vl). -/
import Derived.TacticsIn
import Derived.OrdersIn
import Derived.Test.YtfmdmlfhigocaaaOR5
set_option linter.unusedSimpArgs false
set_option linter.unusedVariables false
set_option maxRecDepth 100000
set_option maxHeartbeats 80000000
namespace Go.VL
def GD (r:Option Nat):Fence:={ Fence.wide with round:=r }
theorem TF (r:Option Nat) (n:Nat):(GD r).room n:=λ_ h=>by simp [GD,Fence.wide]at h
def Act.wD (a:Act) (D:List Deferred):Act:={ a with defers:=D }
theorem tV {a:Act} (h:a.defers=[]):Act.wD a []=a:=by cases a;simp only at h;subst h;rfl
theorem WK (a:Act) (D D':List Deferred):Act.wD (Act.wD a D) D'=Act.wD a D':=rfl
theorem SG {a:Act}{D:List Deferred} (h:a.defers=D):Act.wD (Act.wD a []) D=a:=by cases a;simp only at h;subst h;rfl
theorem PW (a:Act) (D:List Deferred):(Act.wD a D).eval=a.eval:=by funext x;cases x <;> rfl
theorem A6 (a:Act) (D:List Deferred) (d:Option Nat) (v:Value):(Act.wD a D).put d v=Act.wD (a.put d v) D:=by cases d <;> rfl
def AR:Go.Obj->Bool
 |.deferred _=>true
 |.loop _=>true
 |_=>false
def qd (w w':World):Prop:=∀(b:Nat) (o:Go.Obj),w.heap[b]?=some o->AR o=true->w'.heap[b]?=some o
theorem qd.refl (w:World):qd w w:=λ_ _ h _=>h
theorem qd.trans {w w' Rb:World} (h:qd w w') (k:qd w' Rb):qd w Rb:=λb o ho hb=>k b o (h b o ho hb) hb
theorem qd.of {σ σ':Gh}{s s':List Obj}{w w':World} (hI:Inv σ s w) (hE:aG σ s w σ' s' w'):qd w w':=by
 intro b o ho hb;have aB:=eg ho;by_cases hO:Own σ s b
 ·rcases hO with h|⟨id,ob,base,h1,h2,h3⟩
  ·rw[hE.gW b aB h];exact ho
  ·exfalso;rcases hI.content id ob h1 with (⟨h4,_⟩|⟨b',es,c,h4,h5,_⟩)|⟨b',bQ,arr,E,h4,h5,_⟩
   ·rw[h3]at h4;cases h4
   ·rw[h3]at h4;cases h4;rw[h5]at ho;cases ho;cases hb
   ·rw[h3]at h4;cases h4;rw[h5]at ho;cases ho;cases hb
 ·rw[hE.ba b aB hO];exact ho
def QR (w0:World) (D:List Deferred) (Q:Exit->Act->World->Prop):Exit->Act->World->Prop:=λex a w=>a.defers=D/\qd w0 w/\Q ex (Act.wD a []) w
def Ft (P:Program) (c:Code) (Q:Exit->Act->World->Prop) (a:Act) (w:World):Prop :=
 ∀(r:Option Nat) (D:List Deferred),c.wpIn (GD r) 0 P (QR w D Q) (Act.wD a D) w
section
variable {P:Program}{Q:Exit->Act->World->Prop}{a:Act}{w:World}
variable{c:Code}{Q':Exit->Act->World->Prop}{id:Nat}{y:Code}{x:Code}{r:Option Nat}{K:Act->World->Prop}{o:Oper}
theorem Ft.wp (ha:a.defers=[]) (h:Ft P c Q a w):c.wp P Q a w:=by have h1:=h none [];rw[tV ha]at h1;refine wpIn_wide.1 (wpIn_mono (F:=Fence.wide) (n:=0) (show c.wpIn Fence.wide 0 P (QR w [] Q) a w from h1) λex a' w' ⟨h2,_,h3⟩=>?_);rwa [tV h2]at h3
theorem zT (h:Ft P c Q a w) (hq:∀e a w,Q e a w->Q' e a w):Ft P c Q' a w :=
 λr D=>wpIn_mono (h r D) λ_ _ _ ⟨h1,hk,h2⟩=>⟨h1,hk,hq _ _ _ h2⟩
theorem HT {w0:World}{D:List Deferred}{ex:Exit} (hk:qd w0 w) (h:a.defers=[]) (hq:Q ex a w):QR w0 D Q ex (Act.wD a D) w:=⟨rfl,hk,by rw[WK,tV h];exact hq⟩
theorem Sw (ha:a.defers=[]) (h:Q .normal a w):Ft P .skip Q a w:=λ_ _=>wpIn_skip (HT (.refl _) ha h)
theorem QO {l:Nat} (ha:a.defers=[]) (h:Q .normal a w):Ft P (.label l) Q a w:=λ_ _=>wpIn_label (HT (.refl _) ha h)
theorem Sg (ha:a.defers=[]) (h:Q (.exit id) a w):Ft P (.exit id) Q a w:=λ_ _=>wpIn_exit (HT (.refl _) ha h)
theorem VH (ha:a.defers=[]) (h:Q .ret a w):Ft P .ret Q a w:=λ_ _=>wpIn_ret (HT (.refl _) ha h)
theorem Vi (h:Ft P x (Exit.then (Ft P y Q) Q) a w):Ft P (.seq x y) Q a w:=by
 intro r D;refine wpIn_seq (wpIn_mono (h r D) λex a' w' ⟨h1,hk,h2⟩=>?_);cases ex with
 |normal =>
  have:=h2 r D;rw[SG h1]at this;exact wpIn_mono this λ_ _ _ ⟨h3,Ew,h4⟩=>⟨h3,hk.trans Ew,h4⟩
 |_=>exact⟨h1,hk,h2⟩
theorem u9 {c:Operand}{t:Bool} (hc:a.eval c=.bool t) (ht:t=true->Ft P x Q a w) (hf:t=false->Ft P y Q a w):Ft P (.cond c x y) Q a w :=
 λr D=>wpIn_cond_split (by rw[PW];exact hc) (λh=>ht h r D) (λh=>hf h r D)
theorem Ra (h:Ft P c (Exit.inBlock id Q) a w):Ft P (.block id c) Q a w:=by
 intro r D;refine wpIn_block (wpIn_mono (h r D) λex a' w' ⟨h1,hk,h2⟩=>?_);cases ex with
 |exit i =>
  unfold Exit.inBlock at h2 ⊢;simp only at h2 ⊢;split
  ·rename_i hi;rw[be hi]at h2;exact⟨h1,hk,h2⟩
  ·rename_i hi;rw[ap hi]at h2;exact⟨h1,hk,h2⟩
 |_=>exact⟨h1,hk,h2⟩
theorem T7 (I:Act->World->Prop) (μ:Act->World->Nat) (h₀:I a w) (hd:a.defers=[])
  (round:∀a w,I a w->Ft P c (Exit.then (λa' w'=>I a' w'/\μ a' w'<μ a w) Q) a w):Ft P (.loop c) Q a w:=by
 intro r D;refine wpIn_loop (λa w'=>a.defers=D/\qd w w'/\I (Act.wD a []) w') (λa w=>μ (Act.wD a []) w) ⟨rfl,.refl _,by rw[WK,tV hd];exact h₀⟩ λa1 w1 ⟨h1,hk,h2⟩=>?_;have:=round _ _ h2 r D;rw[SG h1]at this;refine wpIn_mono this λex a' w' ⟨h3,Ew,h4⟩=>?_;cases ex with
 |normal=>exact⟨⟨h3,hk.trans Ew,h4.1⟩,h4.2⟩
 |_=>exact⟨h3,hk.trans Ew,h4⟩
theorem lA {b:Frame}{k:List Item}{cs:List Frame}{c:Code}:step P (lone (b.atR a (.code (.scope c)::k)) cs w)=.next (lone (b.atR a (.code c::.inScope c::k)) cs w) :=
 step_lone_go (by simp [stepG,stepG.exec,Frame.atR])
theorem F3 {b:Frame}{k:List Item}{cs:List Frame}{c:Code}:step P (lone (b.atR a (.inScope c::k)) cs w)=.next (lone (b.atR a k) cs w) :=
 step_lone_go (by simp [stepG,stepG.exec,Frame.atR])
theorem wV {F:Fence}{n:Nat} (h:c.wpIn F n P (Exit.noGoto Q) a w):(Code.scope c).wpIn F n P Q a w:=by
 intro b k cs hro hb hr;have h0:(lone (b.atR a (.code (.scope c)::k)) cs w).fenced P F:=fenced_calm hb hr rfl;obtain⟨e,a₁,w₁,hq,Q8⟩:=h b (.inScope c::k) cs hro hb hr;cases e with
 |normal=>exact⟨.normal,a₁,w₁,hq,.head h0 lA (StepsIn.trans Q8 (.one (fenced_calm hb hr rfl) F3))⟩
 |exit id =>
  have hx:exitTo id (.inScope c::k)=exitTo id k:=by simp [exitTo]
  exact⟨_,a₁,w₁,hq,λk' hk=>.head h0 lA (Q8.1 k' (by rw[hx];exact hk)),
   λV6 hk=>let ⟨k₁,h1,h2⟩:=Q8.2 V6 (by rw[hx];exact hk);⟨k₁,h1,.head h0 lA h2⟩⟩
 |goto l=>exact hq.elim
 |ret=>exact⟨_,a₁,w₁,hq,.of_steps (.one h0 lA) Q8⟩
 |panic ch=>exact⟨_,a₁,w₁,hq,.of_steps (.one h0 lA) Q8⟩
 |outgrown=>exact⟨_,a₁,w₁,hq,.of_steps (.one h0 lA) Q8⟩
theorem xJ (h:Ft P c (Exit.noGoto Q) a w):Ft P (.scope c) Q a w:=by
 intro r D;refine wV (wpIn_mono (h r D) λex a' w' ⟨h1,hk,h2⟩=>?_);cases ex with
 |goto l=>exact h2
 |_=>exact⟨h1,hk,h2⟩
theorem Ng{n:Nat}{f:FuncId}{args:Array Value}{R:Ending->World->Prop} (h:Calls P f args w R):CallsIn (GD r) n P f args w R:=by have:=(callsIn_wide (n:=n)).2 h;exact⟨trivial,λcs hr=>this.2 cs (room_wide _)⟩
theorem Ti (hK:∀a' w',K a' w'->a'.defers=a.defers) (h:o.wp P a w K (λ_ _ _=>False)):∀c,o.op≠.defer c:=by
 intro c hc;unfold Oper.wp at h;have hx:execOp a.eval o=(do return Next.defer (<- resolve a.eval c o.type)):=by simp only[execOp,hc]
 rw[hx]at h;simp only[Sem.run_bind,Sem.run_pure]at h;generalize (resolve a.eval c o.type).run P w=r at h;cases r with
 |ok d w' =>
  have:=hK _ _ h;cases hd:o.dst <;> simp [hd,Act.put]at this
 |halt x w'=>cases x <;> exact h
theorem Pz{D:List Deferred} (hK:∀a' w',K a' w'->∃u,a'=a.put o.dst u) (h:o.wp P a w K (λ_ _ _=>False)) :
  o.wpIn (GD r) 0 P (Act.wD a D) w (λa' w'=>∃a0,a'=Act.wD a0 D/\K a0 w') Q':=by
 have zF:=Ti (λa' w' hk=>by obtain⟨u,rfl⟩:=hK a' w' hk;cases o.dst <;> rfl) h;refine⟨λf hf=>trivial,?_⟩;rw[PW,Oper.semAt_eq _ _ _ zF];unfold Oper.wp at h;generalize (execOp a.eval o).run P w=res at *;cases res with
 |ok n w' =>
  cases n <;> simp only[Oper.upon,Oper.uponIn]at h ⊢
  case value v=>exact⟨_,A6 _ _ _ _,h⟩
  case skip=>exact⟨_,A6 _ _ _ _,h⟩
  case defer d =>
   obtain⟨u,hu⟩:=hK _ _ h;exfalso;have:=congrArg Act.defers hu;cases hd:o.dst <;> simp [hd,Act.put]at this
  case enter f args =>
   refine⟨λh'=>by simp [GD,Fence.wide]at h',Ng (Calls.mono h λe Rb he=>?_)⟩;cases e with
   |returned v=>exact⟨_,A6 _ _ _ _,he⟩
   |panicked ch=>exact he.elim
   |outgrown=>obtain⟨_,_,h'⟩:=he;exact h'.elim
  case row row args =>
   refine⟨λh'=>by simp [GD,Fence.wide]at h',λc cs _=>?_⟩;obtain⟨v,w2,h1,h2⟩:=h c cs;exact⟨v,w2,⟨_,A6 _ _ _ _,h1⟩,stepsIn_wide.2 h2⟩
 |halt x w'=>cases x <;> simp only[Oper.upon]at h
end
variable{u:Value}{v:V}{d:Option Nat}{M:Nat}{full:List Oper}{s:List Obj}{L:Nat}{N:Nat}{P:Program}{id:Nat}{ops:Array Oper}{c:Code}{i:Nat}{σ:Gh}{w:World}{lim:Nat}{fn:Func}{ex:Exit}
abbrev Env:=Nat->V
variable{e:Env}{K:Env->List Obj->Prop}{Q:Exit->Env->List Obj->Prop}{B:Env->List Obj->Prop}
def bX (e:Env) (d:Nat) (v:V):Env:=λt=>if t=d then v else e t
def jJ (e:Env) (d:Option Nat) (v:V):Env :=
 match d with
 |none=>e
 |some d=>bX e d v
def eP (N:Nat) (d:Option Nat):Prop :=
 match d with
 |none=>True
 |some d=>d<N
theorem eC.put {σ s w N e a} (h:eC σ s w N e a) (hd:eP N d) (hv:aC σ s w v u):eC σ s w N (jJ e d v) (a.put d u):=by
 cases d with
 |none=>exact h
 |some d =>
  have Xm:d<N:=hd;refine⟨h.1,by simp [Act.put,h.2.1],λt=>?_⟩;simp only[Act.put,jJ,bX];by_cases ht:t=d
  ·subst ht;rw[be rfl,ajl,Array.getElem?_setIfInBounds_self_of_lt (by rw[h.2.1];exact Xm)];exact hv
  ·rw[ap ht,ajl,Array.getElem?_setIfInBounds_ne (Ne.symm ht),<- ajl];exact h.2.2 t
def qz (M:Nat) (e:Env):Env:=λt=>if (M >>> t) % 2=1 then e t else .any
theorem aY{t:Nat}:qz M e t=if (M >>> t) % 2=1 then e t else .any:=(rfl)
theorem oY{d:Nat}:qz M (bX e d v)=if (M >>> d) % 2=1 then bX (qz M e) d v else qz M e:=by
 split <;> rename_i h <;> funext t <;> simp only[qz,bX]
 ·by_cases ht:t=d
  ·subst ht;simp [h]
  ·simp [ht]
 ·by_cases ht:t=d
  ·subst ht;simp [h]
  ·simp [ht]
theorem mX:qz M (qz M e)=qz M e:=by funext t;simp only[qz];split <;> rfl
theorem eC.trim {σ s w N M e a} (h:eC σ s w N e a):eC σ s w N (qz M e) a:=by
 refine⟨h.1,h.2.1,λt=>?_⟩;unfold qz;split
 ·exact h.2.2 t
 ·exact .any
theorem eC.aZ {σ s w σ' s' w' N e a} (h:eC σ s w N e a) (hE:aG σ s w σ' s' w'):eC σ' s' w' N e a :=
 ⟨h.1,h.2.1,λt=>(h.2.2 t).aZ hE⟩
def mN (full:List Oper) (g:Nat):Option Nat :=
 match full[g]? with
 |some o=>o.dst
 |none=>none
def mh (d:Option Nat) (e:Env) (want:Bool) (A B:Env->Prop):Prop :=
 match d with
 |none=>False
 |some d=>match e d with
  |.d (.sc (.bool b))=>(b=want->A (bX e d (.d (.sc (.bool want)))))/\(b=(!want)->B (bX e d (.d (.sc (.bool (!want))))))
  |.un=>B e
  |_=>False
theorem eC.same {σ s w N e a} (h:eC σ s w N e a) {d:Nat} (hv:e d=v):eC σ s w N (bX e d v) a:=by
 refine⟨h.1,h.2.1,λt=>?_⟩;unfold bX;split
 ·rename_i ht;subst ht;rw[<- hv];exact h.2.2 _
 ·exact h.2.2 t
theorem yn{σ s w N e a} (h:eC σ s w N e a) {g:Nat}{want:Bool}{o:Oper} (ho:o.guard=some (g,want)) {A B:Env->Prop} (hg:mh (mN full g) e want A B) :
  ∃e',eC σ s w N e' a/\((Region.wanted o (yielded full.toArray a.tmps)=true/\A e')\/(Region.wanted o (yielded full.toArray a.tmps)=false/\B e')):=by
 unfold mh at hg;unfold Region.wanted;rw[ho];simp only;split at hg
 case h_1=>exact hg.elim
 rename_i d hd;unfold mN at hd;split at hd
 case h_2=>cases hd
 rename_i og YC;have hr:=h.2.2 d;split at hg
 ·rename_i b hb;rw[hb]at hr;generalize yD:a.tmps.getD d undef=c at hr;cases hr with|d hr=>?_
  cases hr with|sc _ _=>?_
  have D7:a.tmps[d]?=some (.bool b):=by
   rw[ajl]at yD;cases hx:a.tmps[d]? with
   |none=>rw[hx]at yD;cases yD
   |some y=>rw[hx]at yD;simp only[akl]at yD;rw[yD]
  have hy:yielded full.toArray a.tmps g=some b:=by simp [yielded,YC,hd,D7]
  rw[hy];by_cases hbw:b=want
  ·subst hbw;exact⟨_,h.same hb,.inl ⟨aj,hg.1 rfl⟩⟩
  ·have Vl:b=!want:=by cases b <;> cases want <;> simp_all
   subst Vl;exact⟨_,h.same hb,.inr ⟨aj,hg.2 rfl⟩⟩
 ·rename_i hb;rw[hb]at hr;generalize yD:a.tmps.getD d undef=c at hr;cases hr;have hy:yielded full.toArray a.tmps g=none:=by
   rw[ajl]at yD;cases hx:a.tmps[d]? with
   |none=>simp [yielded,YC,hd,hx]
   |some y=>rw[hx]at yD;simp only[akl]at yD;simp [yielded,YC,hd,hx,yD,undef]
  exact⟨e,h,.inr ⟨by rw[hy];rfl,hg⟩⟩
 ·exact hg.elim
def qq (P:Program) (N:Nat) (full:List Oper):List Oper->Env->List Obj->(Env->List Obj->Prop)->Prop
 |[],e,s,K=>K e s
 |o::rest,e,s,K=>eP N o.dst/\match o.guard with
  |none=>dg P o e s λv s'=>qq P N full rest (jJ e o.dst v) s' K
  |some (g,want)=>mh (mN full g) e want (λe=>dg P o e s λv s'=>qq P N full rest (jJ e o.dst v) s' K) (λe=>qq P N full rest (jJ e o.dst .un) s K)
def QX (σ0:Gh) (s0:List Obj) (w0:World) (N:Nat) (Q:Exit->Env->List Obj->Prop):Exit->Act->World->Prop :=
 λex a w=>∃e σ s,aG σ0 s0 w0 σ s w/\Inv σ s w/\eC σ s w N e a/\Q ex e s
theorem uB {P:Program}{N:Nat}{full:List Oper}{σ0:Gh}{s0:List Obj}{w0:World}{Q:Exit->Env->List Obj->Prop}{r:Option Nat}{D:List Deferred}{ws:World}:∀(l:List Oper) (e:Env) (s:List Obj) (σ:Gh) (w:World) (a:Act),
  qd ws w->aG σ0 s0 w0 σ s w->Inv σ s w->eC σ s w N e a->qq P N full l e s (λe s=>Q .normal e s)->wpListIn (GD r) 0 P full.toArray (QR ws D (QX σ0 s0 w0 N Q)) l (Act.wD a D) w
 |[],e,s,σ,w,a,hk,hE,hI,hR,h=>HT hk hR.1 ⟨e,σ,s,hE,hI,hR,h⟩
 |o::rest,e,s,σ,w,a,hk,hE,hI,hR,h=>by
  obtain⟨hd,h⟩:=h;have run:∀e,eC σ s w N e a->(dg P o e s λv s'=>qq P N full rest (jJ e o.dst v) s' λe s=>Q .normal e s)->o.wpIn (GD r) 0 P (Act.wD a D) w (wpListIn (GD r) 0 P full.toArray (QR ws D (QX σ0 s0 w0 N Q)) rest) (QR ws D (QX σ0 s0 w0 N Q)):=by intro e hR h;refine Oper.wpIn_mono (λa' w' ⟨a0,h1,u,v,σ',s',ha,yd,ko,qp,hK⟩=>?_) (Pz (λa' w' ⟨u,_,_,_,ha,_⟩=>⟨u,ha⟩) (Fa hI hR h));subst ha h1;exact uB rest _ s' σ' w' _ (hk.trans (.of hI yd)) (hE.trans yd) ko ((hR.aZ yd).put hd qp) hK
  unfold wpListIn;split at h
  ·rename_i hg;rw[be (by simp [Region.wanted,hg])];exact run e hR h
  ·rename_i g want hg;obtain⟨e',qp,⟨h1,h2⟩|⟨h1,h2⟩⟩:=yn hR hg h
   ·rw[be (show Region.wanted o (yielded full.toArray (Act.wD a D).tmps)=true from h1)];exact run e' qp h2
   ·rw[ap (show ¬Region.wanted o (yielded full.toArray (Act.wD a D).tmps)=true by rw[show (Act.wD a D).tmps=a.tmps from rfl,h1];decide),A6];exact⟨λ_ _=>trivial,uB rest _ s σ w _ hk hE hI (qp.put hd .un) h2⟩
def E9 (B:Env->List Obj->Prop) (Q:Exit->Env->List Obj->Prop):Exit->Env->List Obj->Prop
 |.normal,e,s=>B e s
 |x,e,s=>Q x e s
def Qr (id:Nat) (Q:Exit->Env->List Obj->Prop):Exit->Env->List Obj->Prop
 |.exit i,e,s=>if i=id then Q .normal e s else Q (.exit i) e s
 |x,e,s=>Q x e s
def tT (x:V) (A B:Prop):Prop :=
 match x with
 |.d .ub=>A/\B
 |_=>iM x A B
def ve (P:Program) (N:Nat) (ops:List Oper) (e:Env) (s:List Obj) (K:Env->List Obj->Prop):Prop :=
 ∀(σ0:Gh) (s0:List Obj) (w0:World) (Q:Exit->Env->List Obj->Prop),(∀e s,K e s->Q .normal e s)->∀(σ:Gh) (w:World) (a:Act) (id:Nat),
  aG σ0 s0 w0 σ s w->Inv σ s w->eC σ s w N e a->Ft P (Code.region id ops.toArray true) (QX σ0 s0 w0 N Q) a w
def bJ (L:Nat) (e:Env) (s:List Obj) (e':Env) (s':List Obj):Prop :=
 ∀(σ0:Gh) (s0:List Obj) (w0:World) (σ:Gh) (w:World) (N:Nat) (a:Act),s0.length<=L->aG σ0 s0 w0 σ s w->Inv σ s w->eC σ s w N e a->∃σ',aG σ0 s0 w0 σ' s' w/\Inv σ' s' w/\eC σ' s' w N e' a
theorem bJ.refl:bJ L e s e s:=λ_ _ _ σ _ _ _ _ hE hI hR=>⟨σ,hE,hI,hR⟩
theorem bJ.trans{e' e'':Env}{s' Co:List Obj} (h:bJ L e s e' s') (k:bJ L e' s' e'' Co):bJ L e s e'' Co:=λσ0 s0 w0 σ w N a hL hE hI hR =>
 let ⟨σ',h1,h2,h3⟩:=h σ0 s0 w0 σ w N a hL hE hI hR
 k σ0 s0 w0 σ' w N a hL h1 h2 h3
def Xw (L:Nat) (body:(Exit->Env->List Obj->Prop)->Env->List Obj->Prop) (Q:Exit->Env->List Obj->Prop) (e:Env) (s:List Obj):Prop :=
 ∃I:Nat->Env->List Obj->Prop,(∃n e1 s1,bJ L e s e1 s1/\I n e1 s1)/\∀n e s,I n e s->body (E9 (λe s=>∃m e1 s1,m<n/\bJ L e s e1 s1/\I m e1 s1) Q) e s
def TD (Q:Exit->Env->List Obj->Prop):Exit->Env->List Obj->Prop
 |.goto _,_,_=>False
 |ex,e,s=>Q ex e s
def codeWp (P:Program) (N L M:Nat):Code->(Exit->Env->List Obj->Prop)->Env->List Obj->Prop
 |.skip,Q,e,s=>Q .normal e s
 |.region _ ops draw,Q,e,s=>match draw with
  |false=>qq P N ops.toList ops.toList e s λe s=>Q .normal e s
  |true=>ve P N ops.toList e s λe s=>Q .normal e s
 |.seq a b,Q,e,s=>codeWp P N L M a (E9 (codeWp P N L M b Q) Q) e s
 |.cond c a b,Q,e,s=>tT (ev e c) (codeWp P N L M a Q (qz M e) s) (codeWp P N L M b Q (qz M e) s)
 |.block id c,Q,e,s=>codeWp P N L M c (Qr id Q) e s
 |.loop c,Q,e,s=>Xw L (codeWp P N L M c) Q e s
 |.exit id,Q,e,s=>Q (.exit id) e s
 |.ret,Q,e,s=>Q .ret e s
 |.scope c,Q,e,s=>codeWp P N L M c (TD Q) e s
 |.label _,Q,e,s=>Q .normal e s
 |_,_,_,_=>False
def Qn (Q:Exit->Env->List Obj->Prop) (e:Env) (s:List Obj):Prop:=Q .normal e s
def cont (P:Program) (N:Nat) (full rest:List Oper) (e:Env) (d:Option Nat) (K:Env->List Obj->Prop) (v:V) (s:List Obj):Prop:=qq P N full rest (jJ e d v) s K
theorem zL{rest:List Oper}:cont P N full rest e d K v s=qq P N full rest (jJ e d v) s K:=(rfl)
theorem IP:Qn Q e s=Q .normal e s:=(rfl)
theorem vE:qq P N full [] e s K=K e s:=(rfl)
theorem qt:codeWp P N L M .skip Q e s=Q .normal e s:=(rfl)
theorem ni:codeWp P N L M (.region id ops false) Q e s=qq P N ops.toList ops.toList e s (Qn Q):=(rfl)
theorem qs:codeWp P N L M (.region id ops true) Q e s=ve P N ops.toList e s (Qn Q):=(rfl)
theorem tq{a b:Code}:codeWp P N L M (.seq a b) Q e s=codeWp P N L M a (E9 (codeWp P N L M b Q) Q) e s:=(rfl)
theorem ox:codeWp P N L M (.block id c) Q e s=codeWp P N L M c (Qr id Q) e s:=(rfl)
theorem qu:codeWp P N L M (.exit id) Q e s=Q (.exit id) e s:=(rfl)
theorem sf:codeWp P N L M .ret Q e s=Q .ret e s:=(rfl)
theorem qi:E9 B Q .normal e s=B e s:=(rfl)
theorem yS:E9 B Q .ret e s=Q .ret e s:=(rfl)
theorem wj:E9 B Q (.exit i) e s=Q (.exit i) e s:=(rfl)
theorem qw:Qr i Q .normal e s=Q .normal e s:=(rfl)
theorem zR:Qr i Q .ret e s=Q .ret e s:=(rfl)
theorem vU{j:Nat}:Qr i Q (.exit j) e s=if j=i then Q .normal e s else Q (.exit j) e s:=(rfl)
def aar (L:Nat) (I:Nat->Env->List Obj->Prop) (n:Nat) (e:Env) (s:List Obj):Prop:=∃m e1 s1,m<n/\bJ L e s e1 s1/\I m e1 s1
theorem ay (I:Nat->Env->List Obj->Prop) (h0:∃n e1 s1,bJ L e s e1 s1/\I n e1 s1) (h:∀n e s,I n e s->codeWp P N L M c (E9 (aar L I n) Q) e s) :
  codeWp P N L M (.loop c) Q e s:=⟨I,h0,h⟩
theorem cA {P:Program}{N L M:Nat}{σ0:Gh}{s0:List Obj}{w0:World} (hL:s0.length<=L):∀(c:Code) (Q:Exit->Env->List Obj->Prop) (e:Env) (s:List Obj) (σ:Gh) (w:World) (a:Act),
  aG σ0 s0 w0 σ s w->Inv σ s w->eC σ s w N e a->codeWp P N L M c Q e s->Ft P c (QX σ0 s0 w0 N Q) a w
 |.skip,Q,e,s,σ,w,a,hE,hI,hR,h=>Sw hR.1 ⟨e,σ,s,hE,hI,hR,h⟩
 |.region id ops false,Q,e,s,σ,w,a,hE,hI,hR,h=>by intro r D;refine wpIn_region_list ?_;have:=uB (Q:=Q) (r:=r) (D:=D) (ws:=w) ops.toList e s σ w a (.refl _) hE hI hR h;simpa using this
 |.region id ops true,Q,e,s,σ,w,a,hE,hI,hR,h=>by have:=h σ0 s0 w0 Q (λ_ _ h=>h) σ w a id hE hI hR;simpa using this
 |.seq x y,Q,e,s,σ,w,a,hE,hI,hR,h=>by
  refine Vi (zT (cA hL x _ e s σ w a hE hI hR h) λex a' w' ⟨e',σ',s',yd,ko,qp,hq⟩=>?_);cases ex with
  |normal=>exact cA hL y Q e' s' σ' w' a' yd ko qp hq
  |_=>exact⟨e',σ',s',yd,ko,qp,hq⟩
 |.cond c x y,Q,e,s,σ,w,a,hE,hI,hR,h=>by
  simp only[codeWp,tT]at h;split at h
  ·rename_i hb;have hc:=hR.ev c;rw[hb]at hc;generalize yD:a.eval c=X1 at hc;cases hc with|d hc=>?_
   cases hc with|ub b=>?_
   refine u9 yD (λht=>?_) (λhf=>?_)
   ·exact cA hL x Q _ s σ w a hE hI hR.trim h.1
   ·exact cA hL y Q _ s σ w a hE hI hR.trim h.2
  unfold iM at h;split at h
  ·rename_i b hb;have hc:=hR.ev c;rw[hb]at hc;generalize yD:a.eval c=X1 at hc;cases hc with|d hc=>?_
   cases hc with|sc _ _=>?_
   refine u9 yD (λht=>?_) (λhf=>?_)
   ·exact cA hL x Q _ s σ w a hE hI hR.trim (h.1 ht)
   ·exact cA hL y Q _ s σ w a hE hI hR.trim (h.2 hf)
  ·exact h.elim
 |.block id c,Q,e,s,σ,w,a,hE,hI,hR,h=>by
  refine Ra (zT (cA hL c _ e s σ w a hE hI hR h) λex a' w' ⟨e',σ',s',yd,ko,qp,hq⟩=>?_);cases ex with
  |exit i =>
   simp only[Exit.inBlock];simp only[Qr]at hq;split
   ·rename_i hi;rw[be hi]at hq;exact⟨e',σ',s',yd,ko,qp,hq⟩
   ·rename_i hi;rw[ap hi]at hq;exact⟨e',σ',s',yd,ko,qp,hq⟩
  |_=>exact⟨e',σ',s',yd,ko,qp,hq⟩
 |.loop c,Q,e,s,σ,w,a,hE,hI,hR,h=>by
  obtain⟨I,⟨n0,e0,s0',LV,h0⟩,rN⟩:=h;obtain⟨σ,hE,hI,hR⟩:=LV σ0 s0 w0 σ w N a hL hE hI hR;let J:Nat->Act->World->Prop:=λn a w=>∃e σ s,aG σ0 s0 w0 σ s w/\Inv σ s w/\eC σ s w N e a/\I n e s;have least:∀a w,(∃n,J n a w)->∃n,J n a w/\∀m,J m a w->n<=m:=by
   intro a w ⟨n,hn⟩;induction n using Nat.strongRecOn with
   |_ n ih =>
    by_cases hm:∃m,m<n/\J m a w
    ·obtain⟨m,JH,Jo⟩:=hm;exact ih m JH Jo
    ·exact⟨n,hn,λm hj=>by
      rcases ajr m n with h'|h'
      ·exact absurd ⟨m,h',hj⟩ hm
      ·exact h'⟩
  classical
  let μ:Act->World->Nat:=λa w=>if h:∃n,J n a w then Classical.choose (least a w h) else 0;have hμ:∀a w,(∃n,J n a w)->J (μ a w) a w/\∀m,J m a w->μ a w<=m:=by intro a w h;simp only[μ,dif_pos h];exact Classical.choose_spec (least a w h)
  refine T7 (λa w=>∃n,J n a w) μ ⟨n0,e0,σ,s0',hE,hI,hR,h0⟩ hR.1 λa w hJ=>?_;obtain⟨⟨e1,σ1,s1,Tp,UP,Qd,hi⟩,_⟩:=hμ a w hJ;refine zT (cA hL c _ e1 s1 σ1 w a Tp UP Qd (rN _ _ _ hi)) λex a' w' ⟨e',σ',s',yd,ko,qp,hq⟩=>?_;cases ex with
  |normal =>
   obtain⟨m,e2,s2,hm,hc,hi'⟩:=hq;obtain⟨σ',yd,ko,qp⟩:=hc σ0 s0 w0 σ' w' N a' hL yd ko qp;have hj:J m a' w':=⟨e2,σ',s2,yd,ko,qp,hi'⟩
   exact⟨⟨m,hj⟩,Nat.lt_of_le_of_lt ((hμ a' w' ⟨m,hj⟩).2 m hj) hm⟩
  |_=>exact⟨e',σ',s',yd,ko,qp,hq⟩
 |.exit id,Q,e,s,σ,w,a,hE,hI,hR,h=>Sg hR.1 ⟨e,σ,s,hE,hI,hR,h⟩
 |.ret,Q,e,s,σ,w,a,hE,hI,hR,h=>VH hR.1 ⟨e,σ,s,hE,hI,hR,h⟩
 |.rangeFunc ..,_,_,_,_,_,_,_,_,_,h=>h.elim
 |.scope c,Q,e,s,σ,w,a,hE,hI,hR,h=>by
  refine xJ (zT (cA hL c (TD Q) e s σ w a hE hI hR h) λex a' w' ⟨e',σ',s',yd,ko,qp,hq⟩=>?_);cases ex with
  |goto l=>exact hq
  |_=>exact⟨e',σ',s',yd,ko,qp,hq⟩
 |.label _,Q,e,s,σ,w,a,hE,hI,hR,h=>QO hR.1 ⟨e,σ,s,hE,hI,hR,h⟩
 |.goto _,_,_,_,_,_,_,_,_,_,h=>h.elim
 |.refuse _,_,_,_,_,_,_,_,_,_,h=>h.elim
theorem oH{σ0:Gh}{s0:List Obj}{w0:World} (hL:s0.length<=L) (c:Code) (Q:Exit->Env->List Obj->Prop) (e:Env) (s:List Obj) (σ:Gh) (w:World) (a:Act)
  (hE:aG σ0 s0 w0 σ s w) (hI:Inv σ s w) (hR:eC σ s w N e a) (h:codeWp P N L M c Q e s):c.wp P (QX σ0 s0 w0 N Q) a w :=
 (cA hL c Q e s σ w a hE hI hR h).wp hR.1
def cR:Nat->Nat->List Obj->V->Option D
 |_,_,_,.d x=>some x
 |_,_,_,.fu aw=>some (.sl aw)
 |n+1,lim,s,.so id g lo m=>match s[id]? with
  |some o=>if o.g=g/\lo+m<=o.aw.length/\(lim<=id\/o.live=false) then
    (((o.aw.drop lo).take m).mapM λ(e:List V)=>e.mapM (cR n lim s)).map .sl else none
  |none=>none
 |n+1,lim,s,.rf id g k off=>match s[id]? with
  |some o=>if o.g=g/\(lim<=id\/o.live=false) then
    (match o.aw[k]? with
    |some e=>((e.drop off).mapM (cR n lim s)).map .el
    |none=>none) else none
  |none=>none
 |_,_,_,.pp _ _ _ _ b a=>some (.sc (.pointer (some ⟨b,a,none⟩)))
 |n+1,lim,s,.bx v=>(cR n lim s v).map λx=>.el [x]
 |n+1,lim,s,.cl fn first ai=>match first.mapM (cR n lim s),ai.mapM (cR n lim s) with
  |some f,some c=>some (.cl fn f c)
  |_,_=>none
 |_,_,_,_=>none
theorem v8 (hI:Inv σ s w) (lim:Nat):∀(n:Nat) (x:V) (u:Value) (y:D),aC σ s w x u->cR n lim s x=some y->cY (Own σ (s.take lim)) w y u:=by
 have jz:∀b,Own σ (s.take lim) b->Own σ s b:=by
  rintro b (h|⟨id,o,base,h1,h2,h3⟩)
  ·exact .inl h
  ·rw[ajA]at h1;split at h1
   ·exact .inr ⟨id,o,base,h1,h2,h3⟩
   ·cases h1
 intro n;induction n with
 |zero =>
  intro x u y hr h;cases hr <;> simp only[cR,ai5]at h <;> first|(cases h;done)|(subst h;exact cY.own jz (by assumption))|(subst h;exact .sc _ rfl)
 |succ n ih =>
  intro x u y hr h;cases hr with
  |d h'=>simp only[cR,ai5]at h;subst h;exact cY.own jz h'
  |fu h'=>simp only[cR,ai5]at h;subst h;exact cY.own jz h'
  |pp o ho hg hk=>simp only[cR,ai5]at h;subst h;exact .sc _ rfl
  |bx h1 h2 h3 hu h4 =>
   simp only[cR]at h;obtain⟨z,hz,rfl⟩:=Option.map_eq_some_iff.1 h;rename_i v a u;refine cY.el [z] a (λ_=>u) h1 (λj x hx=>?_) (λj x hx=>?_)
   ·cases j with
    |zero=>exact⟨h2,λh'=>h3 (jz _ h')⟩
    |succ j=>simp at hx
   ·cases j with
    |zero=>simp at hx;subst hx;exact ih _ _ _ h4 hz
    |succ j=>simp at hx
  |cl h1 h2 h3 h4 =>
   simp only[cR]at h;split at h
   case h_2=>cases h
   rename_i f c hf hc;cases h;obtain⟨f1,f2⟩:=kM hf;obtain⟨c1,c2⟩:=kM hc;refine .cl ae (λi x hx=>?_) ae (λi x hx=>?_)
   ·obtain⟨z,k1,k2⟩:=f2 i x hx;exact ih _ _ _ (h2 i z k1) k2
   ·obtain⟨z,k1,k2⟩:=c2 i x hx;exact ih _ _ _ (h4 i z k1) k2
  |so o ho hg hu hk =>
   rename_i id g lo m;simp only[cR,ho]at h;split at h
   case isFalse=>cases h
   rename_i hc;obtain⟨xT,hlen,R5⟩:=hc;obtain⟨aw,iG,rfl⟩:=Option.map_eq_some_iff.1 h;obtain⟨m1,m2⟩:=kM iG;have hl:aw.length=m:=by rw[m1];simp;omega
   rcases hk xT with ⟨nR,⟨a,rfl⟩,rfl,rfl⟩|⟨b,base,cap,E,arr,g1,g2,rfl,g4,g5⟩
   ·have:aw=[]:=ajB hl;subst this;cases a with
    |none=>exact .nil
    |some a=>exact cY.sl [] a 0 0 (λ_ _=>undef) aj aj aj aj aj
   ·rcases hI.content _ o ho with h1|⟨b',bQ,cE,E',h1,h2,h3,h4,h5⟩
    ·exact(h1.Cz g1 ⟨arr,E,g2⟩).elim
    rw[g1]at h1;cases h1;rw[g2]at h2;cases h2;have hO:¬Own σ (s.take lim) b:=by
     rintro (h|⟨lV,o',bQ,k1,k2,k3⟩)
     ·exact hI.apart _ o b base ho g1 h
     ·rw[ajA]at k1;split at k1
      ·rename_i aB;have:=hI.inj lV id o' o b bQ base k1 ho k2 k3 g1;subst this;rcases R5 with h|h
       ·omega
       ·rw[ho]at k1;cases k1;rw[h]at k2;cases k2
      ·cases k1
    rw[<- hl];refine cY.M7 (sz:=o.sz) ae (λe he=>?_) hO (λi j x hx=>?_)
    ·obtain⟨i,hi⟩:=List.mem_iff_getElem?.1 he;obtain⟨e',k1,k2⟩:=m2 i e hi;rw[(kM k2).1];exact h3 e' (akk (ajT (ai4 k1)))
    ·cases hi:aw[i]? with
     |none=>rw[hi]at hx;cases hx
     |some e =>
      rw[hi]at hx;obtain⟨e',k1,k2⟩:=m2 i e hi;obtain⟨v,k3,k4⟩:=(kM k2).2 j x hx;rw[ajA]at k1;split at k1
      case isFalse=>cases k1
      rw[ajU]at k1;obtain⟨c,c1,c2,c3⟩:=h5 (lo+i) j v (by rw[k1];exact k3);refine⟨c,?_,ih v c x c3 k4⟩;simp only[World.cell?,g2];rw[ajR]at c1;simpa [ajI]using c1
  |rf o ho hg hu hk =>
   rename_i id g k off;simp only[cR,ho]at h;split at h
   case isFalse=>cases h
   rename_i hc;obtain⟨xT,R5⟩:=hc;split at h
   case h_2=>cases h
   rename_i e he;obtain⟨cs,oq,rfl⟩:=Option.map_eq_some_iff.1 h;obtain⟨m1,m2⟩:=kM oq;obtain⟨b,base,g1,gC,rfl⟩:=hk xT;rcases hI.content _ o ho with h1|⟨b',bQ,cE,E',h1,h2,h3,h4,h5⟩
   ·exact(h1.Cz g1 gC).elim
   rw[g1]at h1;cases h1;have hO:¬Own σ (s.take lim) b:=by
    rintro (h|⟨lV,o',bQ,k1,k2,k3⟩)
    ·exact hI.apart _ o b base ho g1 h
    ·rw[ajA]at k1;split at k1
     ·rename_i aB;have:=hI.inj lV id o' o b bQ base k1 ho k2 k3 g1;subst this;rcases R5 with h|h
      ·omega
      ·rw[ho]at k1;cases k1;rw[h]at k2;cases k2
     ·cases k1
   have key:∀j x,cs[j]?=some x->∃c,w.cell? ⟨b,base+k*o.sz+off+j,none⟩=some c/\cY (Own σ (s.take lim)) w x c:=by intro j x hx;obtain⟨v,k3,k4⟩:=m2 j x hx;rw[ajU]at k3;obtain⟨c,c1,c2,c3⟩:=h5 k (off+j) v (by rw[he];exact k3);refine⟨c,?_,ih v c x c3 k4⟩;simp only[World.cell?,h2];simpa [ajI]using c1
   refine .el cs _ (λj=>(w.cell? ⟨b,base+k*o.sz+off+j,none⟩).getD undef) rfl (λj x hx=>⟨?_,hO⟩) (λj x hx=>?_)
   ·obtain⟨c,h1,_⟩:=key j x hx;simp only[h1,akl]
   ·obtain⟨c,h1,h2'⟩:=key j x hx;simp only[h1,akl];exact h2'
  |_=>simp [cR]at h
def ak (lim:Nat):V->Bool
 |.d _|.fu _|.un=>true
 |.so id _ _ _=>decide (id<lim)
 |.rf id _ _ _=>decide (id<lim)
 |.pp id _ _ _ _ _=>decide (id<lim)
 |.mp id _=>decide (id<lim)
 |.ag cs=>go cs
 |.tu cs=>go cs
 |.bx v=>ak lim v
 |.cap _ _ v=>ak lim v
 |.cl _ first ai=>go first&&go ai
 |.any=>true
where go:List V->Bool
 |[]=>true
 |v::vs=>ak lim v&&go vs
theorem dR {lim:Nat}:∀{l:List V},ak.go lim l=true->∀(i:Nat) (x:V),l[i]?=some x->ak lim x=true
 |[],_,i,x,hx=>by simp at hx
 |v::vs,h,i,x,hx=>by
  simp only[ak.go,aji]at h;cases i with
  |zero=>simp at hx;subst hx;exact h.1
  |succ i=>exact dR h.2 i x (by simpa using hx)
theorem aC.take{x:V} (hr:aC σ s w x u) (h:ak lim x=true):aC σ (s.take lim) w x u:=by
 have jz:∀b,Own σ (s.take lim) b->Own σ s b:=by
  rintro b (h|⟨id,o,base,h1,h2,h3⟩)
  ·exact .inl h
  ·rw[ajA]at h1;split at h1
   ·exact .inr ⟨id,o,base,h1,h2,h3⟩
   ·cases h1
 induction hr with
 |d hx=>exact .d (hx.own jz)
 |ag h1 h2 _ ih=>exact .ag h1 h2 λi x hx=>ih i x hx (dR (by simpa only[ak]using h) i x hx)
 |tu h1 _ ih=>exact .tu h1 λi x hx=>ih i x hx (dR (by simpa only[ak]using h) i x hx)
 |fu hx=>exact .fu (hx.own jz)
 |so o ho hg hu hk =>
  simp only[ak,decide_eq_true_eq]at h;exact .so o (by rw[ajA,be h];exact ho) hg hu hk
 |rf o ho hg hu hk =>
  simp only[ak,decide_eq_true_eq]at h;exact .rf o (by rw[ajA,be h];exact ho) hg hu hk
 |pp o ho hg hk =>
  simp only[ak,decide_eq_true_eq]at h;exact .pp o (by rw[ajA,be h];exact ho) hg hk
 |mp o ho hg hu hk =>
  simp only[ak,decide_eq_true_eq]at h;exact .mp o (by rw[ajA,be h];exact ho) hg hu hk
 |bx h1 h2 h3 hu _ ih=>exact .bx h1 h2 (λh'=>h3 (jz _ h')) hu (ih (by simpa only[ak]using h))
 |cap h1 _ ih=>exact .cap h1 (ih (by simpa only[ak]using h))
 |cl h1 _ h3 _ Aq gy =>
  simp only[ak,aji]at h;exact .cl h1 (λi x hx=>Aq i x hx (dR h.1 i x hx)) h3 (λi x hx=>gy i x hx (dR h.2 i x hx))
 |un=>exact .un
 |any=>exact .any
def bm (lim:Nat) (s:List Obj):V->Option V
 |.d x=>some (.d x)
 |.fu aw=>some (.d (.sl aw))
 |.so id g lo m=>match cR 8 lim s (.so id g lo m) with
  |some x=>some (.d x)
  |none=>if id<lim then some (.so id g lo m) else none
 |.rf id g i off=>match cR 8 lim s (.rf id g i off) with
  |some x=>some (.d x)
  |none=>if id<lim then some (.rf id g i off) else none
 |.pp id g i off b a=>if id<lim then some (.pp id g i off b a) else some (.d (.sc (.pointer (some ⟨b,a,none⟩))))
 |.mp id g=>if id<lim then some (.mp id g) else none
 |.ag cs=>(go cs).map .ag
 |.tu cs=>(go cs).map .tu
 |.bx v=>(cR 8 lim s (.bx v)).map .d
 |.cap _ _ v=>bm lim s v
 |.cl fn first ai=>match cR 8 lim s (.cl fn first ai) with
  |some x=>some (.d x)
  |none=>if ak lim (.cl fn first ai) then some (.cl fn first ai) else none
 |.un=>some .un
 |.any=>some .any
where go:List V->Option (List V)
 |[]=>some []
 |v::vs=>match bm lim s v,go vs with
  |some v',some vs'=>some (v'::vs')
  |_,_=>none
theorem vz {lim:Nat}{s:List Obj}:∀{l r:List V},bm.go lim s l=some r->r.length=l.length/\∀(i:Nat) (y:V),r[i]?=some y->∃x,l[i]?=some x/\bm lim s x=some y
 |[],r,h=>by simp [bm.go]at h;subst h;simp
 |v::vs,r,h=>by
  simp only[bm.go]at h;split at h
  ·rename_i v' vs' h1 h2;simp only[ai5]at h;subst h;obtain⟨k1,k2⟩:=vz h2;refine⟨by simp [k1],λi y hy=>?_⟩;cases i with
   |zero=>simp at hy;subst hy;exact⟨v,rfl,h1⟩
   |succ i=>simpa using k2 i y (by simpa using hy)
  ·cases h
theorem mR (hI:Inv σ s w){x:V} (hr:aC σ s w x u):∀{y:V},bm lim s x=some y->aC σ (s.take lim) w y u:=by
 have jz:∀b,Own σ (s.take lim) b->Own σ s b:=by
  rintro b (h|⟨id,o,base,h1,h2,h3⟩)
  ·exact .inl h
  ·rw[ajA]at h1;split at h1
   ·exact .inr ⟨id,o,base,h1,h2,h3⟩
   ·cases h1
 induction hr with
 |d hx=>intro y h;simp only[bm,ai5]at h;subst h;exact .d (hx.own jz)
 |fu hx=>intro y h;simp only[bm,ai5]at h;subst h;exact .d (hx.own jz)
 |so o ho hg hu hk =>
  intro y h;simp only[bm]at h;split at h
  ·rename_i z hz;simp only[ai5]at h;subst h;exact .d (v8 hI lim 8 _ _ z (.so o ho hg hu hk) hz)
  ·split at h
   ·simp only[ai5]at h;subst h;exact aC.take (.so o ho hg hu hk) (by simpa [ak]using ‹_›)
   ·cases h
 |rf o ho hg hu hk =>
  intro y h;simp only[bm]at h;split at h
  ·rename_i z hz;simp only[ai5]at h;subst h;exact .d (v8 hI lim 8 _ _ z (.rf o ho hg hu hk) hz)
  ·split at h
   ·simp only[ai5]at h;subst h;exact aC.take (.rf o ho hg hu hk) (by simpa [ak]using ‹_›)
   ·cases h
 |pp o ho hg hk =>
  intro y h;simp only[bm]at h;split at h
  ·simp only[ai5]at h;subst h;exact aC.take (.pp o ho hg hk) (by simpa [ak]using ‹_›)
  ·simp only[ai5]at h;subst h;exact .d (.sc _ rfl)
 |mp o ho hg hu hk =>
  intro y h;simp only[bm]at h;split at h
  ·simp only[ai5]at h;subst h;exact aC.take (.mp o ho hg hu hk) (by simpa [ak]using ‹_›)
  ·cases h
 |ag h1 h2 _ ih =>
  intro y h;simp only[bm]at h;obtain⟨cs,oq,rfl⟩:=Option.map_eq_some_iff.1 h;obtain⟨k1,k2⟩:=vz oq;refine .ag ae (λi x hx=>?_) (λi x hx=>?_)
  ·obtain⟨z,hz,_⟩:=k2 i x hx;exact h2 i z hz
  ·obtain⟨z,hz,Xn⟩:=k2 i x hx;exact ih i z hz Xn
 |tu h1 _ ih =>
  intro y h;simp only[bm]at h;obtain⟨cs,oq,rfl⟩:=Option.map_eq_some_iff.1 h;obtain⟨k1,k2⟩:=vz oq;refine .tu ae (λi x hx=>?_);obtain⟨z,hz,Xn⟩:=k2 i x hx;exact ih i z hz Xn
 |cap h1 _ ih=>intro y h;exact ih (by simpa only[bm]using h)
 |bx h1 h2 h3 hu h4 =>
  intro y h;simp only[bm]at h;obtain⟨z,hz,rfl⟩:=Option.map_eq_some_iff.1 h;exact .d (v8 hI lim 8 _ _ z (.bx h1 h2 h3 hu h4) hz)
 |cl h1 h2 h3 h4 =>
  intro y h;simp only[bm]at h;split at h
  ·rename_i z hz;simp only[ai5]at h;subst h;exact .d (v8 hI lim 8 _ _ z (.cl h1 h2 h3 h4) hz)
  ·split at h
   ·simp only[ai5]at h;subst h;exact aC.take (.cl h1 h2 h3 h4) (by assumption)
   ·cases h
 |un=>intro y h;simp only[bm,ai5]at h;subst h;exact .un
 |any=>intro y h;simp only[bm,ai5]at h;subst h;exact .any
def bc (lim:Nat) (o:Obj):Bool:=o.aw.all λe=>e.all (ak lim)
def PO (lim:Nat) (s:List Obj) (r:V) (K:V->List Obj->Prop):Prop :=
 (s.take lim).all (bc lim)=true/\match bm lim s r with
  |some r'=>K r' (s.take lim)
  |none=>False
theorem aG.take {σ s w σ' s' w'} (h:aG σ s w σ' s' w') (hl:s.length<=lim):aG σ s w σ' (s'.take lim) w':=by
 refine⟨h.os,h.tape,h.output,h.size,h.ba,h.shape,h.qY,λb hb=>h.own b ?_,λid o ho=>?_,h.base,h.gW⟩
 ·rcases hb with hb|⟨id,o,base,h1,h2,h3⟩
  ·exact .inl hb
  ·rw[ajA]at h1;split at h1
   ·exact .inr ⟨id,o,base,h1,h2,h3⟩
   ·cases h1
 ·obtain⟨o',h1,h2⟩:=h.Aj id o ho;have:=(List.getElem?_eq_some_iff.1 ho).1;exact⟨o',by rw[ajA,tK];exact h1,h2⟩
theorem Inv.take (h:Inv σ s w) (ho:(s.take lim).all (bc lim)=true):Inv σ (s.take lim) w:=by
 have get:∀(id:Nat) (o:Obj),(s.take lim)[id]?=some o->s[id]?=some o:=by
  intro id o hh;rw[ajA]at hh;split at hh
  ·exact hh
  ·cases hh
 refine⟨λid o hh=>?_,λid lV o o' b base bQ h1 h2=>h.inj id lV o o' b base bQ (get _ _ h1) (get _ _ h2),h.low,λid o b base h1=>h.apart id o b base (get _ _ h1)⟩;rcases h.content id o (get _ _ hh) with h1|⟨b,base,arr,E,h1,h2,h3,h4,h5⟩
 ·exact .inl h1
 ·refine .inr ⟨b,base,arr,E,h1,h2,h3,h4,λi j x hx=>?_⟩;obtain⟨u,k1,k2,k3⟩:=h5 i j x hx;refine⟨u,k1,k2,k3.take ?_⟩;have hobj:=List.all_eq_true.1 ho o (ai4 hh);cases EG:o.aw[i]? with
  |none=>rw[EG]at hx;cases hx
  |some e =>
   rw[EG]at hx;exact List.all_eq_true.1 (List.all_eq_true.1 hobj e (ai4 EG)) x (ai4 hx)
def Nb (P:Program) (e:Env) (s:List Obj) (r:ResultVar) (K:V->Prop):Prop :=
 match r with
 |.tmp t=>K (e t)
 |.cell a t=>mz P t s (e a) K
def Jc (P:Program) (e:Env) (s:List Obj):List ResultVar->List V->(List V->Prop)->Prop
 |[],acc,K=>K acc
 |r::rs,acc,K=>Nb P e s r λv=>Jc P e s rs (acc++[v]) K
def ze (P:Program) (rs:List ResultVar) (e:Env) (s:List Obj) (K:V->Prop):Prop :=
 Jc P e s rs [] λvs=>match vs with
  |[v]=>K v
  |vs=>K (.tu vs)
def Vg (tmps:Array Value):ResultVar->Sem Value
 |.tmp t=>pure (tmps.getD t undef)
 |.cell x t=>do loadVar t (<- asAddr (tmps.getD x undef))
theorem NG (fn:Func) (tmps:Array Value):results fn tmps=(do let vs <- fn.results.mapM (Vg tmps);pure (if h:vs.size=1 then vs[0] else .tuple vs)):=by unfold results;congr 1
theorem N3{a:Act}{r:ResultVar}{K:V->Prop} (hI:Inv σ s w) (hR:eC σ s w N e a) (h:Nb P e s r K) :
  ∃v c,(Vg a.tmps r).run P w=.ok c w/\aC σ s w v c/\K v:=by
 cases r with
 |tmp t=>exact⟨e t,_,rfl,hR.2.2 t,h⟩
 |cell x t =>
  simp only[Nb]at h;have hx:=hR.2.2 x;generalize yD:a.tmps.getD x undef=c at hx;obtain⟨v,r,k1,k2,k3⟩:=E8 hI hx h;have hp:∃ad,c=.pointer (some ad):=by
   unfold mz at h;split at h
   ·exact h.elim
   ·split at h
    ·rename_i hh;rw[hh]at hx;cases hx with|d hx=>?_
     cases hx with|el _ ad _ _ _ _=>exact⟨ad,rfl⟩
    ·rename_i hh;rw[hh]at hx;cases hx with|bx _ _ _ _ _=>exact⟨_,rfl⟩
    ·rename_i hh;rw[hh]at hx;split at h
     ·exact h.elim
     ·rename_i o ho;obtain⟨b,base,_,_,hp⟩:=Of hx ho h.1;exact⟨_,hp⟩
    ·rename_i hh;rw[hh]at hx;exact⟨_,hx.Ib⟩
    ·exact h.elim
  obtain⟨ad,rfl⟩:=hp;refine⟨v,r,?_,k2,k3⟩;simp only[Vg,yD,asAddr,Sem.run_bind,Sem.run_pure,Result.andThen_ok];simpa [Instr.loadAt,Instr.sureAddr]using k1
theorem DZ {P:Program}{N:Nat}{σ:Gh}{s:List Obj}{w:World}{e:Env}{a:Act} (hI:Inv σ s w) (hR:eC σ s w N e a):∀(rs:List ResultVar) (acc:List V) (K:List V->Prop),Jc P e s rs acc K ->
  ∃vs us,(rs.mapM (Vg a.tmps)).run P w=.ok us w/\us.length=vs.length /\
   (∀(i:Nat) (x:V),vs[i]?=some x->∃u,us[i]?=some u/\aC σ s w x u)/\K (acc++vs)
 |[],acc,K,h=>⟨[],[],aj,rfl,aj,by simpa [Jc]using h⟩
 |r::rs,acc,K,h=>by
  simp only[Jc]at h;obtain⟨v,c,k1,k2,k3⟩:=N3 hI hR h;obtain⟨vs,us,m1,m2,m3,m4⟩:=DZ hI hR rs _ K k3;refine⟨v::vs,c::us,?_,by simp [m2],λi x hx=>?_,by simpa using m4⟩
  ·rw[aki,Sem.run_bind,k1,Result.andThen_ok,Sem.run_bind,m1,Result.andThen_ok];rfl
  ·cases i with
   |zero=>simp at hx;subst hx;exact⟨c,rfl,k2⟩
   |succ i=>simpa using m3 i x (by simpa using hx)
theorem nG{a:Act}{K:V->Prop} (hI:Inv σ s w) (hR:eC σ s w N e a) (h:ze P fn.results.toList e s K) :
  ∃v c,(results fn a.tmps).run P w=.ok c w/\aC σ s w v c/\K v:=by
 obtain⟨vs,us,m1,m2,m3,m4⟩:=DZ hI hR _ _ _ h;have eZ:(results fn a.tmps).run P w=.ok (if h:us.toArray.size=1 then us.toArray[0] else .tuple us.toArray) w:=by rw[NG];rw[<- Array.toArray_toList (xs:=fn.results),List.mapM_toArray];simp only[Sem.run_bind,Sem.run_map,m1,Result.andThen_ok,Sem.run_pure]
 rw[eZ];simp only[ai0]at m4;split at m4
 ·rename_i v;have hlen:us.length=1:=by simpa using m2
  obtain⟨u,hu,tE⟩:=m3 0 v rfl;refine⟨v,u,?_,tE,m4⟩;rw[dif_pos (by simpa using hlen)];have:=(List.getElem?_eq_some_iff.1 hu).2;simp [this]
 ·rename_i dP;have hlen:us.length≠1:=by
   intro hh;rw[m2]at hh
   match vs,hh,dP with
   |[v],_,dP=>exact dP v rfl
  refine⟨.tu vs,.tuple us.toArray,by rw[dif_neg (by simpa using hlen)],.tu (by simpa using m2) (λi x hx=>?_),m4⟩;obtain⟨u,hu,tE⟩:=m3 i x hx;rw[su hu];exact tE
def iX:List V->Env
 |[],_=>.un
 |v::_,0=>v
 |_::l,n+1=>iX l n
theorem oZ:∀(l:List V) (t:Nat),iX l t=(l[t]?).getD .un
 |[],t=>by simp [iX]
 |v::l,0=>rfl
 |v::l,t+1=>by simp [iX,oZ l t]
def zK:Exit->Prop
 |.normal=>True
 |.ret=>True
 |_=>False
theorem rQ (h:zK ex):ex=.normal\/ex=.ret:=by
 cases ex <;> simp_all [zK]
def YJ (P:Program) (rs:List ResultVar) (lim:Nat) (K:V->List Obj->Prop) (ex:Exit) (e:Env) (s:List Obj):Prop:=zK ex/\ze P rs e s λr=>PO lim s r K
theorem y6{rs:List ResultVar}{K:V->List Obj->Prop}:YJ P rs lim K ex e s=(zK ex/\ze P rs e s λr=>PO lim s r K):=rfl
theorem xp {P : Program} {f : FuncId} {fn : Func} {c : Code} {args : List V} {exts : List Obj} {K : V → List Obj → Prop} (hf : P.funcs[f]? = some fn) (hb : fn.body = some c) {N : Nat} (hN : fn.ntmps = N) {rs : Array ResultVar} (Qt : fn.results = rs) (hn : (fn.name != "runtime.NumGoroutine") = true)
  (lim M:Nat) (hl:exts.length<=lim) (ha:args.length<=N)
  (h:codeWp P N lim M c (YJ P rs.toList lim K) (iX args) exts):az P f args exts K:=by
 subst hN;subst Qt;refine⟨by simp only[Ml,hf,hn,hb,Option.isSome_some,aka],λσ w vals hI Xb hv=>?_⟩;refine calls_of_wp hf hb ?_;have hR:eC σ exts w fn.ntmps (iX args) { tmps:=vals++Array.replicate (fn.ntmps-vals.size) undef,defers:=[] }:=by
  refine⟨rfl,cG,λt=>?_⟩;rw[oZ];by_cases ht:t<args.length
  ·have h1:=hv t args[t] (by simp [ht]);have:(vals++Array.replicate (fn.ntmps-vals.size) undef).getD t undef=vals.getD t undef:=by rw[ajl,aj8 ae,ajl]
   rw[this];simpa [ht]using h1
  ·have:(vals++Array.replicate (fn.ntmps-vals.size) undef).getD t undef=undef:=by rw[ajl,akd ae,Array.getElem?_replicate];split <;> rfl
   rw[this];simp [ht];exact .un
 refine wp_mono (oH hl c _ (iX args) exts σ w _ (aG.refl _ _ _) hI hR h) λex a' w' ⟨e',σ',s',hE,ko,qp,hex,hq⟩=>?_;obtain⟨v,u,k1,k2,k3⟩:=nG ko qp hq;obtain⟨h1,h2⟩:=k3;have fin:a'.defers=[]/\∃v,(results fn a'.tmps).run P w'=.ok v w'/\∃u Ts xH sT,Ending.returned v=.returned u/\aG σ exts w xH sT w'/\Inv xH sT w'/\aC xH sT w' Ts u/\K Ts sT:=by
  refine⟨qp.1,u,k1,?_⟩;split at h2
  ·rename_i r' V6;exact⟨u,r',σ',s'.take lim,rfl,hE.take hl,ko.take h1,mR ko k2 V6,h2⟩
  ·exact h2.elim
 rcases rQ hex with rfl|rfl
 ·exact fin
 ·exact fin
theorem bk{f:FuncId}{c:Code}{args:List V}{exts:List Obj}{K:V→List Obj→Prop}(hf:P.funcs[f]?=some fn)(hN:fn.ntmps=N){rs:Array ResultVar}(Qt:fn.results=rs)(lim M:Nat)(h:codeWp P N lim M c (YJ P rs.toList lim K) (iX args) exts)(hb:fn.body=some c:=by rfl)(hn:(fn.name != "runtime.NumGoroutine")=true:=by rfl)(hl:exts.length≤lim:=by simp)(ha:args.length≤N:=by simp):az P f args exts K:=xp hf hb hN Qt hn lim M hl ha h
end Go.VL
