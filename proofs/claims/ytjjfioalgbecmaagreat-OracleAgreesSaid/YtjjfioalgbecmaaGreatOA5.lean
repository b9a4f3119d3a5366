/- A part of the proof. -/
import Derived.TacticsIn
import Derived.OrdersIn
import Derived.Test.YtjjfioalgbecmaaGreatOA4
set_option linter.unusedSimpArgs false
set_option linter.unusedVariables false
set_option maxRecDepth 100000
set_option maxHeartbeats 80000000
namespace Go.VL
def G7 (r:Option Nat):Fence:={ Fence.wide with round:=r }
theorem UN (r:Option Nat) (n:Nat):(G7 r).room n:=λ_ h=>by simp [G7,Fence.wide]at h
def Act.wD (a:Act) (D:List Deferred):Act:={ a with defers:=D }
theorem uz {a:Act} (h:a.defers=[]):Act.wD a []=a:=by cases a;simp only at h;subst h;rfl
theorem Yd (a:Act) (D D':List Deferred):Act.wD (Act.wD a D) D'=Act.wD a D':=rfl
theorem To {a:Act}{D:List Deferred} (h:a.defers=D):Act.wD (Act.wD a []) D=a:=by cases a;simp only at h;subst h;rfl
theorem Qf (a:Act) (D:List Deferred):(Act.wD a D).eval=a.eval:=by funext x;cases x <;> rfl
theorem Ba (a:Act) (D:List Deferred) (d:Option Nat) (v:Value):(Act.wD a D).put d v=Act.wD (a.put d v) D:=by cases d <;> rfl
def AS:Go.Obj->Bool
 |.deferred _=>true
 |.loop _=>true
 |_=>false
def qi (w w':World):Prop:=∀(b:Nat) (o:Go.Obj),w.heap[b]?=some o->AS o=true->w'.heap[b]?=some o
theorem qi.refl (w:World):qi w w:=λ_ _ h _=>h
theorem qi.trans {w w' RL:World} (h:qi w w') (k:qi w' RL):qi w RL:=λb o ho hb=>k b o (h b o ho hb) hb
theorem qi.of {σ σ':Gh}{s s':List Obj}{w w':World} (hI:Inv σ s w) (hE:aK σ s w σ' s' w'):qi w w':=by
 intro b o ho hb;have aE:=eo ho;by_cases hO:Own σ s b
 ·rcases hO with h|⟨id,ob,base,h1,h2,h3⟩
  ·rw[hE.gk b aE h];exact ho
  ·exfalso;rcases hI.content id ob h1 with (⟨h4,_⟩|⟨b',es,c,h4,h5,_⟩)|⟨b',bT,arr,E,h4,h5,_⟩
   ·rw[h3]at h4;cases h4
   ·rw[h3]at h4;cases h4;rw[h5]at ho;cases ho;cases hb
   ·rw[h3]at h4;cases h4;rw[h5]at ho;cases ho;cases hb
 ·rw[hE.bp b aE hO];exact ho
def QR (w0:World) (D:List Deferred) (Q:Exit->Act->World->Prop):Exit->Act->World->Prop:=λex a w=>a.defers=D/\qi w0 w/\Q ex (Act.wD a []) w
def FE (P:Program) (c:Code) (Q:Exit->Act->World->Prop) (a:Act) (w:World):Prop :=
 ∀(r:Option Nat) (D:List Deferred),c.wpIn (G7 r) 0 P (QR w D Q) (Act.wD a D) w
section
variable {P:Program}{Q:Exit->Act->World->Prop}{a:Act}{w:World}
variable{c:Code}{Q':Exit->Act->World->Prop}{id:Nat}{y:Code}{x:Code}{r:Option Nat}{K:Act->World->Prop}{o:Oper}
theorem FE.wp (ha:a.defers=[]) (h:FE P c Q a w):c.wp P Q a w:=by have h1:=h none [];rw[uz ha]at h1;refine wpIn_wide.1 (wpIn_mono (F:=Fence.wide) (n:=0) (show c.wpIn Fence.wide 0 P (QR w [] Q) a w from h1) λex a' w' ⟨h2,_,h3⟩=>?_);rwa [uz h2]at h3
theorem Aa (h:FE P c Q a w) (hq:∀e a w,Q e a w->Q' e a w):FE P c Q' a w :=
 λr D=>wpIn_mono (h r D) λ_ _ _ ⟨h1,hk,h2⟩=>⟨h1,hk,hq _ _ _ h2⟩
theorem It {w0:World}{D:List Deferred}{ex:Exit} (hk:qi w0 w) (h:a.defers=[]) (hq:Q ex a w):QR w0 D Q ex (Act.wD a D) w:=⟨rfl,hk,by rw[Yd,uz h];exact hq⟩
theorem Td (ha:a.defers=[]) (h:Q .normal a w):FE P .skip Q a w:=λ_ _=>wpIn_skip (It (.refl _) ha h)
theorem Rc {l:Nat} (ha:a.defers=[]) (h:Q .normal a w):FE P (.label l) Q a w:=λ_ _=>wpIn_label (It (.refl _) ha h)
theorem SW (ha:a.defers=[]) (h:Q (.exit id) a w):FE P (.exit id) Q a w:=λ_ _=>wpIn_exit (It (.refl _) ha h)
theorem WX (ha:a.defers=[]) (h:Q .ret a w):FE P .ret Q a w:=λ_ _=>wpIn_ret (It (.refl _) ha h)
theorem Wt (h:FE P x (Exit.then (FE P y Q) Q) a w):FE P (.seq x y) Q a w:=by
 intro r D;refine wpIn_seq (wpIn_mono (h r D) λex a' w' ⟨h1,hk,h2⟩=>?_);cases ex with
 |normal =>
  have:=h2 r D;rw[To h1]at this;exact wpIn_mono this λ_ _ _ ⟨h3,Ep,h4⟩=>⟨h3,hk.trans Ep,h4⟩
 |_=>exact⟨h1,hk,h2⟩
theorem vi {c:Operand}{t:Bool} (hc:a.eval c=.bool t) (ht:t=true->FE P x Q a w) (hf:t=false->FE P y Q a w):FE P (.cond c x y) Q a w :=
 λr D=>wpIn_cond_split (by rw[Qf];exact hc) (λh=>ht h r D) (λh=>hf h r D)
theorem RJ (h:FE P c (Exit.inBlock id Q) a w):FE P (.block id c) Q a w:=by
 intro r D;refine wpIn_block (wpIn_mono (h r D) λex a' w' ⟨h1,hk,h2⟩=>?_);cases ex with
 |exit i =>
  unfold Exit.inBlock at h2 ⊢;simp only at h2 ⊢;split
  ·rename_i hi;rw[be hi]at h2;exact⟨h1,hk,h2⟩
  ·rename_i hi;rw[ap hi]at h2;exact⟨h1,hk,h2⟩
 |_=>exact⟨h1,hk,h2⟩
theorem Vi (I:Act->World->Prop) (μ:Act->World->Nat) (h₀:I a w) (hd:a.defers=[])
  (round:∀a w,I a w->FE P c (Exit.then (λa' w'=>I a' w'/\μ a' w'<μ a w) Q) a w):FE P (.loop c) Q a w:=by
 intro r D;refine wpIn_loop (λa w'=>a.defers=D/\qi w w'/\I (Act.wD a []) w') (λa w=>μ (Act.wD a []) w) ⟨rfl,.refl _,by rw[Yd,uz hd];exact h₀⟩ λa1 w1 ⟨h1,hk,h2⟩=>?_;have:=round _ _ h2 r D;rw[To h1]at this;refine wpIn_mono this λex a' w' ⟨h3,Ep,h4⟩=>?_;cases ex with
 |normal=>exact⟨⟨h3,hk.trans Ep,h4.1⟩,h4.2⟩
 |_=>exact⟨h3,hk.trans Ep,h4⟩
theorem kZ {b:Frame}{k:List Item}{cs:List Frame}{c:Code}:step P (lone (b.atR a (.code (.scope c)::k)) cs w)=.next (lone (b.atR a (.code c::.inScope c::k)) cs w) :=
 step_lone_go (by simp [stepG,stepG.exec,Frame.atR])
theorem Gt {b:Frame}{k:List Item}{cs:List Frame}{c:Code}:step P (lone (b.atR a (.inScope c::k)) cs w)=.next (lone (b.atR a k) cs w) :=
 step_lone_go (by simp [stepG,stepG.exec,Frame.atR])
theorem wX {F:Fence}{n:Nat} (h:c.wpIn F n P (Exit.noGoto Q) a w):(Code.scope c).wpIn F n P Q a w:=by
 intro b k cs UY hb hr;have h0:(lone (b.atR a (.code (.scope c)::k)) cs w).fenced P F:=fenced_calm hb hr rfl;obtain⟨e,a₁,w₁,hq,RG⟩:=h b (.inScope c::k) cs UY hb hr;cases e with
 |normal=>exact⟨.normal,a₁,w₁,hq,.head h0 kZ (StepsIn.trans RG (.one (fenced_calm hb hr rfl) Gt))⟩
 |exit id =>
  have hx:exitTo id (.inScope c::k)=exitTo id k:=by simp [exitTo]
  exact⟨_,a₁,w₁,hq,λk' hk=>.head h0 kZ (RG.1 k' (by rw[hx];exact hk)),
   λXr hk=>let ⟨k₁,h1,h2⟩:=RG.2 Xr (by rw[hx];exact hk);⟨k₁,h1,.head h0 kZ h2⟩⟩
 |goto l=>exact hq.elim
 |ret=>exact⟨_,a₁,w₁,hq,.of_steps (.one h0 kZ) RG⟩
 |panic ch=>exact⟨_,a₁,w₁,hq,.of_steps (.one h0 kZ) RG⟩
 |outgrown=>exact⟨_,a₁,w₁,hq,.of_steps (.one h0 kZ) RG⟩
theorem xQ (h:FE P c (Exit.noGoto Q) a w):FE P (.scope c) Q a w:=by
 intro r D;refine wX (wpIn_mono (h r D) λex a' w' ⟨h1,hk,h2⟩=>?_);cases ex with
 |goto l=>exact h2
 |_=>exact⟨h1,hk,h2⟩
theorem Nz{n:Nat}{f:FuncId}{args:Array Value}{R:Ending->World->Prop} (h:Calls P f args w R):CallsIn (G7 r) n P f args w R:=by have:=(callsIn_wide (n:=n)).2 h;exact⟨trivial,λcs hr=>this.2 cs (room_wide _)⟩
theorem Ub (hK:∀a' w',K a' w'->a'.defers=a.defers) (h:o.wp P a w K (λ_ _ _=>False)):∀c,o.op≠.defer c:=by
 intro c hc;unfold Oper.wp at h;have hx:execOp a.eval o=(do return Next.defer (<- resolve a.eval c o.type)):=by simp only[execOp,hc]
 rw[hx]at h;simp only[Sem.run_bind,Sem.run_pure]at h;generalize (resolve a.eval c o.type).run P w=r at h;cases r with
 |ok d w' =>
  have:=hK _ _ h;cases hd:o.dst <;> simp [hd,Act.put]at this
 |halt x w'=>cases x <;> exact h
theorem PW{D:List Deferred} (hK:∀a' w',K a' w'->∃u,a'=a.put o.dst u) (h:o.wp P a w K (λ_ _ _=>False)) :
  o.wpIn (G7 r) 0 P (Act.wD a D) w (λa' w'=>∃a0,a'=Act.wD a0 D/\K a0 w') Q':=by
 have yl:=Ub (λa' w' hk=>by obtain⟨u,rfl⟩:=hK a' w' hk;cases o.dst <;> rfl) h;refine⟨λf hf=>trivial,?_⟩;rw[Qf,Oper.semAt_eq _ _ _ yl];unfold Oper.wp at h;generalize (execOp a.eval o).run P w=res at *;cases res with
 |ok n w' =>
  cases n <;> simp only[Oper.upon,Oper.uponIn]at h ⊢
  case value v=>exact⟨_,Ba _ _ _ _,h⟩
  case skip=>exact⟨_,Ba _ _ _ _,h⟩
  case defer d =>
   obtain⟨u,hu⟩:=hK _ _ h;exfalso;have:=congrArg Act.defers hu;cases hd:o.dst <;> simp [hd,Act.put]at this
  case enter f args =>
   refine⟨λh'=>by simp [G7,Fence.wide]at h',Nz (Calls.mono h λe RL he=>?_)⟩;cases e with
   |returned v=>exact⟨_,Ba _ _ _ _,he⟩
   |panicked ch=>exact he.elim
   |outgrown=>obtain⟨_,_,h'⟩:=he;exact h'.elim
  case row row args =>
   refine⟨λh'=>by simp [G7,Fence.wide]at h',λc cs _=>?_⟩;obtain⟨v,w2,h1,h2⟩:=h c cs;exact⟨v,w2,⟨_,Ba _ _ _ _,h1⟩,stepsIn_wide.2 h2⟩
 |halt x w'=>cases x <;> simp only[Oper.upon]at h
end
variable{u:Value}{v:V}{d:Option Nat}{M:Nat}{full:List Oper}{s:List Obj}{L:Nat}{N:Nat}{P:Program}{id:Nat}{ops:Array Oper}{c:Code}{i:Nat}{σ:Gh}{w:World}{bM:Nat}{fn:Func}{ex:Exit}
abbrev Env:=Nat->V
variable{e:Env}{K:Env->List Obj->Prop}{Q:Exit->Env->List Obj->Prop}{B:Env->List Obj->Prop}
def ca (e:Env) (d:Nat) (v:V):Env:=λt=>if t=d then v else e t
def jH (e:Env) (d:Option Nat) (v:V):Env :=
 match d with
 |none=>e
 |some d=>ca e d v
def eS (N:Nat) (d:Option Nat):Prop :=
 match d with
 |none=>True
 |some d=>d<N
theorem eE.put {σ s w N e a} (h:eE σ s w N e a) (hd:eS N d) (hv:aD σ s w v u):eE σ s w N (jH e d v) (a.put d u):=by
 cases d with
 |none=>exact h
 |some d =>
  have YY:d<N:=hd;refine⟨h.1,by simp [Act.put,h.2.1],λt=>?_⟩;simp only[Act.put,jH,ca];by_cases ht:t=d
  ·subst ht;rw[be rfl,Array.getD_eq_getD_getElem?,Array.getElem?_setIfInBounds_self_of_lt (by rw[h.2.1];exact YY)];exact hv
  ·rw[ap ht,Array.getD_eq_getD_getElem?,Array.getElem?_setIfInBounds_ne (Ne.symm ht),<- Array.getD_eq_getD_getElem?];exact h.2.2 t
def qD (M:Nat) (e:Env):Env:=λt=>if (M >>> t) % 2=1 then e t else .any
theorem aZ{t:Nat}:qD M e t=if (M >>> t) % 2=1 then e t else .any:=(rfl)
theorem oU{d:Nat}:qD M (ca e d v)=if (M >>> d) % 2=1 then ca (qD M e) d v else qD M e:=by
 split <;> rename_i h <;> funext t <;> simp only[qD,ca]
 ·by_cases ht:t=d
  ·subst ht;simp [h]
  ·simp [ht]
 ·by_cases ht:t=d
  ·subst ht;simp [h]
  ·simp [ht]
theorem nh:qD M (qD M e)=qD M e:=by funext t;simp only[qD];split <;> rfl
theorem eE.trim {σ s w N M e a} (h:eE σ s w N e a):eE σ s w N (qD M e) a:=by
 refine⟨h.1,h.2.1,λt=>?_⟩;unfold qD;split
 ·exact h.2.2 t
 ·exact .any
theorem eE.bj {σ s w σ' s' w' N e a} (h:eE σ s w N e a) (hE:aK σ s w σ' s' w'):eE σ' s' w' N e a :=
 ⟨h.1,h.2.1,λt=>(h.2.2 t).bj hE⟩
def mU (full:List Oper) (g:Nat):Option Nat :=
 match full[g]? with
 |some o=>o.dst
 |none=>none
def me (d:Option Nat) (e:Env) (want:Bool) (A B:Env->Prop):Prop :=
 match d with
 |none=>False
 |some d=>match e d with
  |.d (.sc (.bool b))=>(b=want->A (ca e d (.d (.sc (.bool want)))))/\(b=(!want)->B (ca e d (.d (.sc (.bool (!want))))))
  |.un=>B e
  |_=>False
theorem eE.same {σ s w N e a} (h:eE σ s w N e a) {d:Nat} (hv:e d=v):eE σ s w N (ca e d v) a:=by
 refine⟨h.1,h.2.1,λt=>?_⟩;unfold ca;split
 ·rename_i ht;subst ht;rw[<- hv];exact h.2.2 _
 ·exact h.2.2 t
theorem yz{σ s w N e a} (h:eE σ s w N e a) {g:Nat}{want:Bool}{o:Oper} (ho:o.guard=some (g,want)) {A B:Env->Prop} (hg:me (mU full g) e want A B) :
  ∃e',eE σ s w N e' a/\((Region.wanted o (yielded full.toArray a.tmps)=true/\A e')\/(Region.wanted o (yielded full.toArray a.tmps)=false/\B e')):=by
 unfold me at hg;unfold Region.wanted;rw[ho];simp only;split at hg
 case h_1=>exact hg.elim
 rename_i d hd;unfold mU at hd;split at hd
 case h_2=>cases hd
 rename_i og hog;have hr:=h.2.2 d;split at hg
 ·rename_i b hb;rw[hb]at hr;generalize yN:a.tmps.getD d undef=c at hr;cases hr with|d hr=>?_
  cases hr with|sc _ _=>?_
  have BS:a.tmps[d]?=some (.bool b):=by
   rw[Array.getD_eq_getD_getElem?]at yN;cases hx:a.tmps[d]? with
   |none=>rw[hx]at yN;cases yN
   |some y=>rw[hx]at yN;simp only[amk]at yN;rw[yN]
  have hy:yielded full.toArray a.tmps g=some b:=by simp [yielded,hog,hd,BS]
  rw[hy];by_cases hbw:b=want
  ·subst hbw;exact⟨_,h.same hb,.inl ⟨aq,hg.1 rfl⟩⟩
  ·have Wv:b=!want:=by cases b <;> cases want <;> simp_all
   subst Wv;exact⟨_,h.same hb,.inr ⟨aq,hg.2 rfl⟩⟩
 ·rename_i hb;rw[hb]at hr;generalize yN:a.tmps.getD d undef=c at hr;cases hr;have hy:yielded full.toArray a.tmps g=none:=by
   rw[Array.getD_eq_getD_getElem?]at yN;cases hx:a.tmps[d]? with
   |none=>simp [yielded,hog,hd,hx]
   |some y=>rw[hx]at yN;simp only[amk]at yN;simp [yielded,hog,hd,hx,yN,undef]
  exact⟨e,h,.inr ⟨by rw[hy];rfl,hg⟩⟩
 ·exact hg.elim
def qv (P:Program) (N:Nat) (full:List Oper):List Oper->Env->List Obj->(Env->List Obj->Prop)->Prop
 |[],e,s,K=>K e s
 |o::rest,e,s,K=>eS N o.dst/\match o.guard with
  |none=>du P o e s λv s'=>qv P N full rest (jH e o.dst v) s' K
  |some (g,want)=>me (mU full g) e want (λe=>du P o e s λv s'=>qv P N full rest (jH e o.dst v) s' K) (λe=>qv P N full rest (jH e o.dst .un) s K)
def QX (σ0:Gh) (s0:List Obj) (w0:World) (N:Nat) (Q:Exit->Env->List Obj->Prop):Exit->Act->World->Prop :=
 λex a w=>∃e σ s,aK σ0 s0 w0 σ s w/\Inv σ s w/\eE σ s w N e a/\Q ex e s
theorem uH {P:Program}{N:Nat}{full:List Oper}{σ0:Gh}{s0:List Obj}{w0:World}{Q:Exit->Env->List Obj->Prop}{r:Option Nat}{D:List Deferred}{ws:World}:∀(l:List Oper) (e:Env) (s:List Obj) (σ:Gh) (w:World) (a:Act),
  qi ws w->aK σ0 s0 w0 σ s w->Inv σ s w->eE σ s w N e a->qv P N full l e s (λe s=>Q .normal e s)->wpListIn (G7 r) 0 P full.toArray (QR ws D (QX σ0 s0 w0 N Q)) l (Act.wD a D) w
 |[],e,s,σ,w,a,hk,hE,hI,hR,h=>It hk hR.1 ⟨e,σ,s,hE,hI,hR,h⟩
 |o::rest,e,s,σ,w,a,hk,hE,hI,hR,h=>by
  obtain⟨hd,h⟩:=h;have run:∀e,eE σ s w N e a->(du P o e s λv s'=>qv P N full rest (jH e o.dst v) s' λe s=>Q .normal e s)->o.wpIn (G7 r) 0 P (Act.wD a D) w (wpListIn (G7 r) 0 P full.toArray (QR ws D (QX σ0 s0 w0 N Q)) rest) (QR ws D (QX σ0 s0 w0 N Q)):=by intro e hR h;refine Oper.wpIn_mono (λa' w' ⟨a0,h1,u,v,σ',s',ha,yn,jR,qu,hK⟩=>?_) (PW (λa' w' ⟨u,_,_,_,ha,_⟩=>⟨u,ha⟩) (E6 hI hR h));subst ha h1;exact uH rest _ s' σ' w' _ (hk.trans (.of hI yn)) (hE.trans yn) jR ((hR.bj yn).put hd qu) hK
  unfold wpListIn;split at h
  ·rename_i hg;rw[be (by simp [Region.wanted,hg])];exact run e hR h
  ·rename_i g want hg;obtain⟨e',qu,⟨h1,h2⟩|⟨h1,h2⟩⟩:=yz hR hg h
   ·rw[be (show Region.wanted o (yielded full.toArray (Act.wD a D).tmps)=true from h1)];exact run e' qu h2
   ·rw[ap (show ¬Region.wanted o (yielded full.toArray (Act.wD a D).tmps)=true by rw[show (Act.wD a D).tmps=a.tmps from rfl,h1];decide),Ba];exact⟨λ_ _=>trivial,uH rest _ s σ w _ hk hE hI (qu.put hd .un) h2⟩
def E5 (B:Env->List Obj->Prop) (Q:Exit->Env->List Obj->Prop):Exit->Env->List Obj->Prop
 |.normal,e,s=>B e s
 |x,e,s=>Q x e s
def QP (id:Nat) (Q:Exit->Env->List Obj->Prop):Exit->Env->List Obj->Prop
 |.exit i,e,s=>if i=id then Q .normal e s else Q (.exit i) e s
 |x,e,s=>Q x e s
def uu (x:V) (A B:Prop):Prop :=
 match x with
 |.d .ub=>A/\B
 |_=>iH x A B
def tv (P:Program) (N:Nat) (ops:List Oper) (e:Env) (s:List Obj) (K:Env->List Obj->Prop):Prop :=
 ∀(σ0:Gh) (s0:List Obj) (w0:World) (Q:Exit->Env->List Obj->Prop),(∀e s,K e s->Q .normal e s)->∀(σ:Gh) (w:World) (a:Act) (id:Nat),
  aK σ0 s0 w0 σ s w->Inv σ s w->eE σ s w N e a->FE P (Code.region id ops.toArray true) (QX σ0 s0 w0 N Q) a w
def bO (L:Nat) (e:Env) (s:List Obj) (e':Env) (s':List Obj):Prop :=
 ∀(σ0:Gh) (s0:List Obj) (w0:World) (σ:Gh) (w:World) (N:Nat) (a:Act),s0.length<=L->aK σ0 s0 w0 σ s w->Inv σ s w->eE σ s w N e a->∃σ',aK σ0 s0 w0 σ' s' w/\Inv σ' s' w/\eE σ' s' w N e' a
theorem bO.refl:bO L e s e s:=λ_ _ _ σ _ _ _ _ hE hI hR=>⟨σ,hE,hI,hR⟩
theorem bO.trans{e' e'':Env}{s' Cx:List Obj} (h:bO L e s e' s') (k:bO L e' s' e'' Cx):bO L e s e'' Cx:=λσ0 s0 w0 σ w N a hL hE hI hR =>
 let ⟨σ',h1,h2,h3⟩:=h σ0 s0 w0 σ w N a hL hE hI hR
 k σ0 s0 w0 σ' w N a hL h1 h2 h3
def Zf (L:Nat) (body:(Exit->Env->List Obj->Prop)->Env->List Obj->Prop) (Q:Exit->Env->List Obj->Prop) (e:Env) (s:List Obj):Prop :=
 ∃I:Nat->Env->List Obj->Prop,(∃n e1 s1,bO L e s e1 s1/\I n e1 s1)/\∀n e s,I n e s->body (E5 (λe s=>∃m e1 s1,m<n/\bO L e s e1 s1/\I m e1 s1) Q) e s
def UJ (Q:Exit->Env->List Obj->Prop):Exit->Env->List Obj->Prop
 |.goto _,_,_=>False
 |ex,e,s=>Q ex e s
def codeWp (P:Program) (N L M:Nat):Code->(Exit->Env->List Obj->Prop)->Env->List Obj->Prop
 |.skip,Q,e,s=>Q .normal e s
 |.region _ ops draw,Q,e,s=>match draw with
  |false=>qv P N ops.toList ops.toList e s λe s=>Q .normal e s
  |true=>tv P N ops.toList e s λe s=>Q .normal e s
 |.seq a b,Q,e,s=>codeWp P N L M a (E5 (codeWp P N L M b Q) Q) e s
 |.cond c a b,Q,e,s=>uu (ev e c) (codeWp P N L M a Q (qD M e) s) (codeWp P N L M b Q (qD M e) s)
 |.block id c,Q,e,s=>codeWp P N L M c (QP id Q) e s
 |.loop c,Q,e,s=>Zf L (codeWp P N L M c) Q e s
 |.exit id,Q,e,s=>Q (.exit id) e s
 |.ret,Q,e,s=>Q .ret e s
 |.scope c,Q,e,s=>codeWp P N L M c (UJ Q) e s
 |.label _,Q,e,s=>Q .normal e s
 |_,_,_,_=>False
def Qn (Q:Exit->Env->List Obj->Prop) (e:Env) (s:List Obj):Prop:=Q .normal e s
def cont (P:Program) (N:Nat) (full rest:List Oper) (e:Env) (d:Option Nat) (K:Env->List Obj->Prop) (v:V) (s:List Obj):Prop:=qv P N full rest (jH e d v) s K
theorem zS{rest:List Oper}:cont P N full rest e d K v s=qv P N full rest (jH e d v) s K:=(rfl)
theorem Jl:Qn Q e s=Q .normal e s:=(rfl)
theorem vI:qv P N full [] e s K=K e s:=(rfl)
theorem qx:codeWp P N L M .skip Q e s=Q .normal e s:=(rfl)
theorem ny:codeWp P N L M (.region id ops false) Q e s=qv P N ops.toList ops.toList e s (Qn Q):=(rfl)
theorem qw:codeWp P N L M (.region id ops true) Q e s=tv P N ops.toList e s (Qn Q):=(rfl)
theorem tM{a b:Code}:codeWp P N L M (.seq a b) Q e s=codeWp P N L M a (E5 (codeWp P N L M b Q) Q) e s:=(rfl)
theorem ox:codeWp P N L M (.block id c) Q e s=codeWp P N L M c (QP id Q) e s:=(rfl)
theorem qy:codeWp P N L M (.exit id) Q e s=Q (.exit id) e s:=(rfl)
theorem sw:codeWp P N L M .ret Q e s=Q .ret e s:=(rfl)
theorem qn:E5 B Q .normal e s=B e s:=(rfl)
theorem y6:E5 B Q .ret e s=Q .ret e s:=(rfl)
theorem wm:E5 B Q (.exit i) e s=Q (.exit i) e s:=(rfl)
theorem qA:QP i Q .normal e s=Q .normal e s:=(rfl)
theorem z8:QP i Q .ret e s=Q .ret e s:=(rfl)
theorem vY{j:Nat}:QP i Q (.exit j) e s=if j=i then Q .normal e s else Q (.exit j) e s:=(rfl)
def Yl (L:Nat) (I:Nat->Env->List Obj->Prop) (n:Nat) (e:Env) (s:List Obj):Prop:=∃m e1 s1,m<n/\bO L e s e1 s1/\I m e1 s1
theorem ay (I:Nat->Env->List Obj->Prop) (h0:∃n e1 s1,bO L e s e1 s1/\I n e1 s1) (h:∀n e s,I n e s->codeWp P N L M c (E5 (Yl L I n) Q) e s) :
  codeWp P N L M (.loop c) Q e s:=⟨I,h0,h⟩
theorem cG {P:Program}{N L M:Nat}{σ0:Gh}{s0:List Obj}{w0:World} (hL:s0.length<=L):∀(c:Code) (Q:Exit->Env->List Obj->Prop) (e:Env) (s:List Obj) (σ:Gh) (w:World) (a:Act),
  aK σ0 s0 w0 σ s w->Inv σ s w->eE σ s w N e a->codeWp P N L M c Q e s->FE P c (QX σ0 s0 w0 N Q) a w
 |.skip,Q,e,s,σ,w,a,hE,hI,hR,h=>Td hR.1 ⟨e,σ,s,hE,hI,hR,h⟩
 |.region id ops false,Q,e,s,σ,w,a,hE,hI,hR,h=>by intro r D;refine wpIn_region_list ?_;have:=uH (Q:=Q) (r:=r) (D:=D) (ws:=w) ops.toList e s σ w a (.refl _) hE hI hR h;simpa using this
 |.region id ops true,Q,e,s,σ,w,a,hE,hI,hR,h=>by have:=h σ0 s0 w0 Q (λ_ _ h=>h) σ w a id hE hI hR;simpa using this
 |.seq x y,Q,e,s,σ,w,a,hE,hI,hR,h=>by
  refine Wt (Aa (cG hL x _ e s σ w a hE hI hR h) λex a' w' ⟨e',σ',s',yn,jR,qu,hq⟩=>?_);cases ex with
  |normal=>exact cG hL y Q e' s' σ' w' a' yn jR qu hq
  |_=>exact⟨e',σ',s',yn,jR,qu,hq⟩
 |.cond c x y,Q,e,s,σ,w,a,hE,hI,hR,h=>by
  simp only[codeWp,uu]at h;split at h
  ·rename_i hb;have hc:=hR.ev c;rw[hb]at hc;generalize yN:a.eval c=ZL at hc;cases hc with|d hc=>?_
   cases hc with|ub b=>?_
   refine vi yN (λht=>?_) (λhf=>?_)
   ·exact cG hL x Q _ s σ w a hE hI hR.trim h.1
   ·exact cG hL y Q _ s σ w a hE hI hR.trim h.2
  unfold iH at h;split at h
  ·rename_i b hb;have hc:=hR.ev c;rw[hb]at hc;generalize yN:a.eval c=ZL at hc;cases hc with|d hc=>?_
   cases hc with|sc _ _=>?_
   refine vi yN (λht=>?_) (λhf=>?_)
   ·exact cG hL x Q _ s σ w a hE hI hR.trim (h.1 ht)
   ·exact cG hL y Q _ s σ w a hE hI hR.trim (h.2 hf)
  ·exact h.elim
 |.block id c,Q,e,s,σ,w,a,hE,hI,hR,h=>by
  refine RJ (Aa (cG hL c _ e s σ w a hE hI hR h) λex a' w' ⟨e',σ',s',yn,jR,qu,hq⟩=>?_);cases ex with
  |exit i =>
   simp only[Exit.inBlock];simp only[QP]at hq;split
   ·rename_i hi;rw[be hi]at hq;exact⟨e',σ',s',yn,jR,qu,hq⟩
   ·rename_i hi;rw[ap hi]at hq;exact⟨e',σ',s',yn,jR,qu,hq⟩
  |_=>exact⟨e',σ',s',yn,jR,qu,hq⟩
 |.loop c,Q,e,s,σ,w,a,hE,hI,hR,h=>by
  obtain⟨I,⟨n0,e0,s0',Mm,h0⟩,rS⟩:=h;obtain⟨σ,hE,hI,hR⟩:=Mm σ0 s0 w0 σ w N a hL hE hI hR;let J:Nat->Act->World->Prop:=λn a w=>∃e σ s,aK σ0 s0 w0 σ s w/\Inv σ s w/\eE σ s w N e a/\I n e s;have least:∀a w,(∃n,J n a w)->∃n,J n a w/\∀m,J m a w->n<=m:=by
   intro a w ⟨n,hn⟩;induction n using Nat.strongRecOn with
   |_ n ih =>
    by_cases hm:∃m,m<n/\J m a w
    ·obtain⟨m,IB,Bt⟩:=hm;exact ih m IB Bt
    ·exact⟨n,hn,λm hj=>by
      rcases alw m n with h'|h'
      ·exact absurd ⟨m,h',hj⟩ hm
      ·exact h'⟩
  classical
  let μ:Act->World->Nat:=λa w=>if h:∃n,J n a w then Classical.choose (least a w h) else 0;have hμ:∀a w,(∃n,J n a w)->J (μ a w) a w/\∀m,J m a w->μ a w<=m:=by intro a w h;simp only[μ,dif_pos h];exact Classical.choose_spec (least a w h)
  refine Vi (λa w=>∃n,J n a w) μ ⟨n0,e0,σ,s0',hE,hI,hR,h0⟩ hR.1 λa w hJ=>?_;obtain⟨⟨e1,σ1,s1,PE,V2,VQ,hi⟩,_⟩:=hμ a w hJ;refine Aa (cG hL c _ e1 s1 σ1 w a PE V2 VQ (rS _ _ _ hi)) λex a' w' ⟨e',σ',s',yn,jR,qu,hq⟩=>?_;cases ex with
  |normal =>
   obtain⟨m,e2,s2,hm,hc,hi'⟩:=hq;obtain⟨σ',yn,jR,qu⟩:=hc σ0 s0 w0 σ' w' N a' hL yn jR qu;have hj:J m a' w':=⟨e2,σ',s2,yn,jR,qu,hi'⟩
   exact⟨⟨m,hj⟩,Nat.lt_of_le_of_lt ((hμ a' w' ⟨m,hj⟩).2 m hj) hm⟩
  |_=>exact⟨e',σ',s',yn,jR,qu,hq⟩
 |.exit id,Q,e,s,σ,w,a,hE,hI,hR,h=>SW hR.1 ⟨e,σ,s,hE,hI,hR,h⟩
 |.ret,Q,e,s,σ,w,a,hE,hI,hR,h=>WX hR.1 ⟨e,σ,s,hE,hI,hR,h⟩
 |.rangeFunc ..,_,_,_,_,_,_,_,_,_,h=>h.elim
 |.scope c,Q,e,s,σ,w,a,hE,hI,hR,h=>by
  refine xQ (Aa (cG hL c (UJ Q) e s σ w a hE hI hR h) λex a' w' ⟨e',σ',s',yn,jR,qu,hq⟩=>?_);cases ex with
  |goto l=>exact hq
  |_=>exact⟨e',σ',s',yn,jR,qu,hq⟩
 |.label _,Q,e,s,σ,w,a,hE,hI,hR,h=>Rc hR.1 ⟨e,σ,s,hE,hI,hR,h⟩
 |.goto _,_,_,_,_,_,_,_,_,_,h=>h.elim
 |.refuse _,_,_,_,_,_,_,_,_,_,h=>h.elim
theorem oF{σ0:Gh}{s0:List Obj}{w0:World} (hL:s0.length<=L) (c:Code) (Q:Exit->Env->List Obj->Prop) (e:Env) (s:List Obj) (σ:Gh) (w:World) (a:Act)
  (hE:aK σ0 s0 w0 σ s w) (hI:Inv σ s w) (hR:eE σ s w N e a) (h:codeWp P N L M c Q e s):c.wp P (QX σ0 s0 w0 N Q) a w :=
 (cG hL c Q e s σ w a hE hI hR h).wp hR.1
def cJ:Nat->Nat->List Obj->V->Option D
 |_,_,_,.d x=>some x
 |_,_,_,.fu aA=>some (.sl aA)
 |n+1,bM,s,.so id g lo m=>match s[id]? with
  |some o=>if o.g=g/\lo+m<=o.aA.length/\(bM<=id\/o.live=false) then
    (((o.aA.drop lo).take m).mapM λ(e:List V)=>e.mapM (cJ n bM s)).map .sl else none
  |none=>none
 |n+1,bM,s,.rf id g k off=>match s[id]? with
  |some o=>if o.g=g/\(bM<=id\/o.live=false) then
    (match o.aA[k]? with
    |some e=>((e.drop off).mapM (cJ n bM s)).map .el
    |none=>none) else none
  |none=>none
 |_,_,_,.pp _ _ _ _ b a=>some (.sc (.pointer (some ⟨b,a,none⟩)))
 |n+1,bM,s,.bx v=>(cJ n bM s v).map λx=>.el [x]
 |n+1,bM,s,.cl fn first aj=>match first.mapM (cJ n bM s),aj.mapM (cJ n bM s) with
  |some f,some c=>some (.cl fn f c)
  |_,_=>none
 |_,_,_,_=>none
theorem wg (hI:Inv σ s w) (bM:Nat):∀(n:Nat) (x:V) (u:Value) (y:D),aD σ s w x u->cJ n bM s x=some y->di (Own σ (s.take bM)) w y u:=by
 have ju:∀b,Own σ (s.take bM) b->Own σ s b:=by
  exact Zba
 intro n;induction n with
 |zero =>
  intro x u y hr h;cases hr <;> simp only[cJ,alb]at h <;> first|(cases h;done)|(subst h;exact di.own ju (by assumption))|(subst h;exact .sc _ rfl)
 |succ n ih =>
  intro x u y hr h;cases hr with
  |d h'=>simp only[cJ,alb]at h;subst h;exact di.own ju h'
  |fu h'=>simp only[cJ,alb]at h;subst h;exact di.own ju h'
  |pp o ho hg hk=>simp only[cJ,alb]at h;subst h;exact .sc _ rfl
  |bx h1 h2 h3 hu h4 =>
   simp only[cJ]at h;obtain⟨z,hz,rfl⟩:=Option.map_eq_some_iff.1 h;rename_i v a u;refine di.el [z] a (λ_=>u) h1 (λj x hx=>?_) (λj x hx=>?_)
   ·cases j with
    |zero=>exact⟨h2,λh'=>h3 (ju _ h')⟩
    |succ j=>simp at hx
   ·cases j with
    |zero=>simp at hx;subst hx;exact ih _ _ _ h4 hz
    |succ j=>simp at hx
  |cl h1 h2 h3 h4 =>
   simp only[cJ]at h;split at h
   case h_2=>cases h
   rename_i f c hf hc;cases h;obtain⟨f1,f2⟩:=kA hf;obtain⟨c1,c2⟩:=kA hc;refine .cl ae (λi x hx=>?_) ae (λi x hx=>?_)
   ·obtain⟨z,k1,k2⟩:=f2 i x hx;exact ih _ _ _ (h2 i z k1) k2
   ·obtain⟨z,k1,k2⟩:=c2 i x hx;exact ih _ _ _ (h4 i z k1) k2
  |so o ho hg hu hk =>
   rename_i id g lo m;simp only[cJ,ho]at h;split at h
   case isFalse=>cases h
   rename_i hc;obtain⟨x6,hlen,Qu⟩:=hc;obtain⟨aA,iy,rfl⟩:=Option.map_eq_some_iff.1 h;obtain⟨m1,m2⟩:=kA iy;have hl:aA.length=m:=by rw[m1];simp;omega
   rcases hk x6 with ⟨jW,⟨a,rfl⟩,rfl,rfl⟩|⟨b,base,cap,E,arr,g1,g2,rfl,g4,g5⟩
   ·have:aA=[]:=alz hl;subst this;cases a with
    |none=>exact .nil
    |some a=>exact di.sl [] a 0 0 (λ_ _=>undef) aq aq aq aq aq
   ·rcases hI.content _ o ho with h1|⟨b',bT,cN,E',h1,h2,h3,h4,h5⟩
    ·exact(h1.CH g1 ⟨arr,E,g2⟩).elim
    rw[g1]at h1;cases h1;rw[g2]at h2;cases h2;have hO:¬Own σ (s.take bM) b:=by
     exact ZaW
    rw[<- hl];refine di.Nr (sz:=o.sz) ae (λe he=>?_) hO (λi j x hx=>?_)
    ·obtain⟨i,hi⟩:=List.mem_iff_getElem?.1 he;obtain⟨e',k1,k2⟩:=m2 i e hi;rw[(kA k2).1];exact h3 e' (List.mem_of_mem_drop (alU (List.mem_of_getElem? k1)))
    ·cases hi:aA[i]? with
     |none=>rw[hi]at hx;cases hx
     |some e =>
      rw[hi]at hx;obtain⟨e',k1,k2⟩:=m2 i e hi;obtain⟨v,k3,k4⟩:=(kA k2).2 j x hx;rw[List.getElem?_take]at k1;split at k1
      case isFalse=>cases k1
      rw[List.getElem?_drop]at k1;obtain⟨c,c1,c2,c3⟩:=h5 (lo+i) j v (by rw[k1];exact k3);refine⟨c,?_,ih v c x c3 k4⟩;simp only[World.cell?,g2];rw[alS]at c1;simpa [alL]using c1
  |rf o ho hg hu hk =>
   rename_i id g k off;simp only[cJ,ho]at h;split at h
   case isFalse=>cases h
   rename_i hc;obtain⟨x6,Qu⟩:=hc;split at h
   case h_2=>cases h
   rename_i e he;obtain⟨cs,n9,rfl⟩:=Option.map_eq_some_iff.1 h;obtain⟨m1,m2⟩:=kA n9;obtain⟨b,base,g1,gC,rfl⟩:=hk x6;rcases hI.content _ o ho with h1|⟨b',bT,cN,E',h1,h2,h3,h4,h5⟩
   ·exact(h1.CH g1 gC).elim
   rw[g1]at h1;cases h1;have hO:¬Own σ (s.take bM) b:=by
    exact ZaW
   have key:∀j x,cs[j]?=some x->∃c,w.cell? ⟨b,base+k*o.sz+off+j,none⟩=some c/\di (Own σ (s.take bM)) w x c:=by intro j x hx;obtain⟨v,k3,k4⟩:=m2 j x hx;rw[List.getElem?_drop]at k3;obtain⟨c,c1,c2,c3⟩:=h5 k (off+j) v (by rw[he];exact k3);refine⟨c,?_,ih v c x c3 k4⟩;simp only[World.cell?,h2];simpa [alL]using c1
   refine .el cs _ (λj=>(w.cell? ⟨b,base+k*o.sz+off+j,none⟩).getD undef) rfl (λj x hx=>⟨?_,hO⟩) (λj x hx=>?_)
   ·obtain⟨c,h1,_⟩:=key j x hx;simp only[h1,amk]
   ·obtain⟨c,h1,h2'⟩:=key j x hx;simp only[h1,amk];exact h2'
  |_=>simp [cJ]at h
def ak (bM:Nat):V->Bool
 |.d _|.fu _|.un=>true
 |.so id _ _ _=>decide (id<bM)
 |.rf id _ _ _=>decide (id<bM)
 |.pp id _ _ _ _ _=>decide (id<bM)
 |.mp id _=>decide (id<bM)
 |.ag cs=>go cs
 |.tu cs=>go cs
 |.bx v=>ak bM v
 |.cap _ _ v=>ak bM v
 |.cl _ first aj=>go first&&go aj
 |.any=>true
where go:List V->Bool
 |[]=>true
 |v::vs=>ak bM v&&go vs
theorem dO {bM:Nat}:∀{l:List V},ak.go bM l=true->∀(i:Nat) (x:V),l[i]?=some x->ak bM x=true
 |[],_,i,x,hx=>by simp at hx
 |v::vs,h,i,x,hx=>by
  simp only[ak.go,alo]at h;cases i with
  |zero=>simp at hx;subst hx;exact h.1
  |succ i=>exact dO h.2 i x (by simpa using hx)
theorem aD.take{x:V} (hr:aD σ s w x u) (h:ak bM x=true):aD σ (s.take bM) w x u:=by
 have ju:∀b,Own σ (s.take bM) b->Own σ s b:=by
  exact Zba
 induction hr with
 |d hx=>exact .d (hx.own ju)
 |ag h1 h2 _ ih=>exact .ag h1 h2 λi x hx=>ih i x hx (dO (by simpa only[ak]using h) i x hx)
 |tu h1 _ ih=>exact .tu h1 λi x hx=>ih i x hx (dO (by simpa only[ak]using h) i x hx)
 |fu hx=>exact .fu (hx.own ju)
 |so o ho hg hu hk =>
  simp only[ak,decide_eq_true_eq]at h;exact .so o (by rw[List.getElem?_take,be h];exact ho) hg hu hk
 |rf o ho hg hu hk =>
  simp only[ak,decide_eq_true_eq]at h;exact .rf o (by rw[List.getElem?_take,be h];exact ho) hg hu hk
 |pp o ho hg hk =>
  simp only[ak,decide_eq_true_eq]at h;exact .pp o (by rw[List.getElem?_take,be h];exact ho) hg hk
 |mp o ho hg hu hk =>
  simp only[ak,decide_eq_true_eq]at h;exact .mp o (by rw[List.getElem?_take,be h];exact ho) hg hu hk
 |bx h1 h2 h3 hu _ ih=>exact .bx h1 h2 (λh'=>h3 (ju _ h')) hu (ih (by simpa only[ak]using h))
 |cap h1 _ ih=>exact .cap h1 (ih (by simpa only[ak]using h))
 |cl h1 _ h3 _ As mN =>
  exact Zbr
 |un=>exact .un
 |any=>exact .any
def bq (bM:Nat) (s:List Obj):V->Option V
 |.d x=>some (.d x)
 |.fu aA=>some (.d (.sl aA))
 |.so id g lo m=>match cJ 8 bM s (.so id g lo m) with
  |some x=>some (.d x)
  |none=>if id<bM then some (.so id g lo m) else none
 |.rf id g i off=>match cJ 8 bM s (.rf id g i off) with
  |some x=>some (.d x)
  |none=>if id<bM then some (.rf id g i off) else none
 |.pp id g i off b a=>if id<bM then some (.pp id g i off b a) else some (.d (.sc (.pointer (some ⟨b,a,none⟩))))
 |.mp id g=>if id<bM then some (.mp id g) else none
 |.ag cs=>(go cs).map .ag
 |.tu cs=>(go cs).map .tu
 |.bx v=>(cJ 8 bM s (.bx v)).map .d
 |.cap _ _ v=>bq bM s v
 |.cl fn first aj=>match cJ 8 bM s (.cl fn first aj) with
  |some x=>some (.d x)
  |none=>if ak bM (.cl fn first aj) then some (.cl fn first aj) else none
 |.un=>some .un
 |.any=>some .any
where go:List V->Option (List V)
 |[]=>some []
 |v::vs=>match bq bM s v,go vs with
  |some v',some vs'=>some (v'::vs')
  |_,_=>none
theorem su {bM:Nat}{s:List Obj}:∀{l r:List V},bq.go bM s l=some r->r.length=l.length/\∀(i:Nat) (y:V),r[i]?=some y->∃x,l[i]?=some x/\bq bM s x=some y
 |[],r,h=>by simp [bq.go]at h;subst h;simp
 |v::vs,r,h=>by
  simp only[bq.go]at h;split at h
  ·rename_i v' vs' h1 h2;simp only[alb]at h;subst h;obtain⟨k1,k2⟩:=su h2;refine⟨by simp [k1],λi y hy=>?_⟩;cases i with
   |zero=>simp at hy;subst hy;exact⟨v,rfl,h1⟩
   |succ i=>simpa using k2 i y (by simpa using hy)
  ·cases h
theorem lk (hI:Inv σ s w){x:V} (hr:aD σ s w x u):∀{y:V},bq bM s x=some y->aD σ (s.take bM) w y u:=by
 have ju:∀b,Own σ (s.take bM) b->Own σ s b:=by
  exact Zba
 induction hr with
 |d hx=>intro y h;simp only[bq,alb]at h;subst h;exact .d (hx.own ju)
 |fu hx=>intro y h;simp only[bq,alb]at h;subst h;exact .d (hx.own ju)
 |so o ho hg hu hk =>
  intro y h;simp only[bq]at h;split at h
  ·rename_i z hz;simp only[alb]at h;subst h;exact .d (wg hI bM 8 _ _ z (.so o ho hg hu hk) hz)
  ·split at h
   ·simp only[alb]at h;subst h;exact aD.take (.so o ho hg hu hk) (by simpa [ak]using ‹_›)
   ·cases h
 |rf o ho hg hu hk =>
  intro y h;simp only[bq]at h;split at h
  ·rename_i z hz;simp only[alb]at h;subst h;exact .d (wg hI bM 8 _ _ z (.rf o ho hg hu hk) hz)
  ·split at h
   ·simp only[alb]at h;subst h;exact aD.take (.rf o ho hg hu hk) (by simpa [ak]using ‹_›)
   ·cases h
 |pp o ho hg hk =>
  intro y h;simp only[bq]at h;split at h
  ·simp only[alb]at h;subst h;exact aD.take (.pp o ho hg hk) (by simpa [ak]using ‹_›)
  ·simp only[alb]at h;subst h;exact .d (.sc _ rfl)
 |mp o ho hg hu hk =>
  intro y h;simp only[bq]at h;split at h
  ·simp only[alb]at h;subst h;exact aD.take (.mp o ho hg hu hk) (by simpa [ak]using ‹_›)
  ·cases h
 |ag h1 h2 _ ih =>
  intro y h;simp only[bq]at h;obtain⟨cs,n9,rfl⟩:=Option.map_eq_some_iff.1 h;obtain⟨k1,k2⟩:=su n9;refine .ag ae (λi x hx=>?_) (λi x hx=>?_)
  ·obtain⟨z,hz,_⟩:=k2 i x hx;exact h2 i z hz
  ·obtain⟨z,hz,YZ⟩:=k2 i x hx;exact ih i z hz YZ
 |tu h1 _ ih =>
  intro y h;simp only[bq]at h;obtain⟨cs,n9,rfl⟩:=Option.map_eq_some_iff.1 h;obtain⟨k1,k2⟩:=su n9;refine .tu ae (λi x hx=>?_);obtain⟨z,hz,YZ⟩:=k2 i x hx;exact ih i z hz YZ
 |cap h1 _ ih=>intro y h;exact ih (by simpa only[bq]using h)
 |bx h1 h2 h3 hu h4 =>
  intro y h;simp only[bq]at h;obtain⟨z,hz,rfl⟩:=Option.map_eq_some_iff.1 h;exact .d (wg hI bM 8 _ _ z (.bx h1 h2 h3 hu h4) hz)
 |cl h1 h2 h3 h4 =>
  intro y h;simp only[bq]at h;split at h
  ·rename_i z hz;simp only[alb]at h;subst h;exact .d (wg hI bM 8 _ _ z (.cl h1 h2 h3 h4) hz)
  ·split at h
   ·simp only[alb]at h;subst h;exact aD.take (.cl h1 h2 h3 h4) (by assumption)
   ·cases h
 |un=>intro y h;simp only[bq,alb]at h;subst h;exact .un
 |any=>intro y h;simp only[bq,alb]at h;subst h;exact .any
def aY (bM:Nat) (o:Obj):Bool:=o.aA.all λe=>e.all (ak bM)
def P8 (bM:Nat) (s:List Obj) (r:V) (K:V->List Obj->Prop):Prop :=
 (s.take bM).all (aY bM)=true/\match bq bM s r with
  |some r'=>K r' (s.take bM)
  |none=>False
theorem aK.take {σ s w σ' s' w'} (h:aK σ s w σ' s' w') (hl:s.length<=bM):aK σ s w σ' (s'.take bM) w':=by
 refine⟨h.os,h.tape,h.output,h.size,h.bp,h.shape,h.qY,λb hb=>h.own b ?_,λid o ho=>?_,h.base,h.gk⟩
 ·rcases hb with hb|⟨id,o,base,h1,h2,h3⟩
  ·exact .inl hb
  ·rw[List.getElem?_take]at h1;split at h1
   ·exact .inr ⟨id,o,base,h1,h2,h3⟩
   ·cases h1
 ·obtain⟨o',h1,h2⟩:=h.bw id o ho;have:=(List.getElem?_eq_some_iff.1 ho).1;exact⟨o',by rw[List.getElem?_take,rY];exact h1,h2⟩
theorem Inv.take (h:Inv σ s w) (ho:(s.take bM).all (aY bM)=true):Inv σ (s.take bM) w:=by
 have get:∀(id:Nat) (o:Obj),(s.take bM)[id]?=some o->s[id]?=some o:=by
  exact ZcT
 refine⟨λid o hh=>?_,λid lL o o' b base bT h1 h2=>h.inj id lL o o' b base bT (get _ _ h1) (get _ _ h2),h.low,λid o b base h1=>h.apart id o b base (get _ _ h1)⟩;rcases h.content id o (get _ _ hh) with h1|⟨b,base,arr,E,h1,h2,h3,h4,h5⟩
 ·exact .inl h1
 ·refine .inr ⟨b,base,arr,E,h1,h2,h3,h4,λi j x hx=>?_⟩;obtain⟨u,k1,k2,k3⟩:=h5 i j x hx;refine⟨u,k1,k2,k3.take ?_⟩;have hobj:=List.all_eq_true.1 ho o (List.mem_of_getElem? hh);cases Ex:o.aA[i]? with
  |none=>rw[Ex]at hx;cases hx
  |some e =>
   rw[Ex]at hx;exact List.all_eq_true.1 (List.all_eq_true.1 hobj e (List.mem_of_getElem? Ex)) x (List.mem_of_getElem? hx)
def Nv (P:Program) (e:Env) (s:List Obj) (r:ResultVar) (K:V->Prop):Prop :=
 match r with
 |.tmp t=>K (e t)
 |.cell a t=>mA P t s (e a) K
def JD (P:Program) (e:Env) (s:List Obj):List ResultVar->List V->(List V->Prop)->Prop
 |[],acc,K=>K acc
 |r::rs,acc,K=>Nv P e s r λv=>JD P e s rs (acc++[v]) K
def zl (P:Program) (rs:List ResultVar) (e:Env) (s:List Obj) (K:V->Prop):Prop :=
 JD P e s rs [] λvs=>match vs with
  |[v]=>K v
  |vs=>K (.tu vs)
def Ws (tmps:Array Value):ResultVar->Sem Value
 |.tmp t=>pure (tmps.getD t undef)
 |.cell x t=>do loadVar t (<- asAddr (tmps.getD x undef))
theorem NY (fn:Func) (tmps:Array Value):results fn tmps=(do let vs <- fn.results.mapM (Ws tmps);pure (if h:vs.size=1 then vs[0] else .tuple vs)):=by unfold results;congr 1
theorem Oi{a:Act}{r:ResultVar}{K:V->Prop} (hI:Inv σ s w) (hR:eE σ s w N e a) (h:Nv P e s r K) :
  ∃v c,(Ws a.tmps r).run P w=.ok c w/\aD σ s w v c/\K v:=by
 cases r with
 |tmp t=>exact⟨e t,_,rfl,hR.2.2 t,h⟩
 |cell x t =>
  simp only[Nv]at h;have hx:=hR.2.2 x;generalize yN:a.tmps.getD x undef=c at hx;obtain⟨v,r,k1,k2,k3⟩:=E4 hI hx h;have hp:∃ad,c=.pointer (some ad):=by
   unfold mA at h;split at h
   ·exact h.elim
   ·split at h
    ·rename_i hh;rw[hh]at hx;cases hx with|d hx=>?_
     cases hx with|el _ ad _ _ _ _=>exact⟨ad,rfl⟩
    ·rename_i hh;rw[hh]at hx;cases hx with|bx _ _ _ _ _=>exact⟨_,rfl⟩
    ·rename_i hh;rw[hh]at hx;split at h
     ·exact h.elim
     ·rename_i o ho;obtain⟨b,base,_,_,hp⟩:=Ow hx ho h.1;exact⟨_,hp⟩
    ·rename_i hh;rw[hh]at hx;exact⟨_,hx.DG⟩
    ·exact h.elim
  obtain⟨ad,rfl⟩:=hp;refine⟨v,r,?_,k2,k3⟩;simp only[Ws,yN,asAddr,Sem.run_bind,Sem.run_pure,Result.andThen_ok];simpa [Instr.loadAt,Instr.sureAddr]using k1
theorem DZ {P:Program}{N:Nat}{σ:Gh}{s:List Obj}{w:World}{e:Env}{a:Act} (hI:Inv σ s w) (hR:eE σ s w N e a):∀(rs:List ResultVar) (acc:List V) (K:List V->Prop),JD P e s rs acc K ->
  ∃vs us,(rs.mapM (Ws a.tmps)).run P w=.ok us w/\us.length=vs.length /\
   (∀(i:Nat) (x:V),vs[i]?=some x->∃u,us[i]?=some u/\aD σ s w x u)/\K (acc++vs)
 |[],acc,K,h=>⟨[],[],aq,rfl,aq,by simpa [JD]using h⟩
 |r::rs,acc,K,h=>by
  simp only[JD]at h;obtain⟨v,c,k1,k2,k3⟩:=Oi hI hR h;obtain⟨vs,us,m1,m2,m3,m4⟩:=DZ hI hR rs _ K k3;refine⟨v::vs,c::us,?_,by simp [m2],λi x hx=>?_,by simpa using m4⟩
  ·rw[ami,Sem.run_bind,k1,Result.andThen_ok,Sem.run_bind,m1,Result.andThen_ok];rfl
  ·cases i with
   |zero=>simp at hx;subst hx;exact⟨c,rfl,k2⟩
   |succ i=>simpa using m3 i x (by simpa using hx)
theorem nS{a:Act}{K:V->Prop} (hI:Inv σ s w) (hR:eE σ s w N e a) (h:zl P fn.results.toList e s K) :
  ∃v c,(results fn a.tmps).run P w=.ok c w/\aD σ s w v c/\K v:=by
 obtain⟨vs,us,m1,m2,m3,m4⟩:=DZ hI hR _ _ _ h;have dU:(results fn a.tmps).run P w=.ok (if h:us.toArray.size=1 then us.toArray[0] else .tuple us.toArray) w:=by rw[NY];rw[<- Array.toArray_toList (xs:=fn.results),List.mapM_toArray];simp only[Sem.run_bind,Sem.run_map,m1,Result.andThen_ok,Sem.run_pure]
 rw[dU];simp only[ak6]at m4;split at m4
 ·rename_i v;have hlen:us.length=1:=by simpa using m2
  obtain⟨u,hu,wK⟩:=m3 0 v rfl;refine⟨v,u,?_,wK,m4⟩;rw[dif_pos (by simpa using hlen)];have:=(List.getElem?_eq_some_iff.1 hu).2;simp [this]
 ·rename_i eX;have hlen:us.length≠1:=by
   intro hh;rw[m2]at hh
   match vs,hh,eX with
   |[v],_,eX=>exact eX v rfl
  refine⟨.tu vs,.tuple us.toArray,by rw[dif_neg (by simpa using hlen)],.tu (by simpa using m2) (λi x hx=>?_),m4⟩;obtain⟨u,hu,wK⟩:=m3 i x hx;rw[sJ hu];exact wK
def iT:List V->Env
 |[],_=>.un
 |v::_,0=>v
 |_::l,n+1=>iT l n
theorem oV:∀(l:List V) (t:Nat),iT l t=(l[t]?).getD .un
 |[],t=>by simp [iT]
 |v::l,0=>rfl
 |v::l,t+1=>by simp [iT,oV l t]
def zR:Exit->Prop
 |.normal=>True
 |.ret=>True
 |_=>False
theorem rW (h:zR ex):ex=.normal\/ex=.ret:=by
 cases ex <;> simp_all [zR]
def aaD (P:Program) (rs:List ResultVar) (bM:Nat) (K:V->List Obj->Prop) (ex:Exit) (e:Env) (s:List Obj):Prop:=zR ex/\zl P rs e s λr=>P8 bM s r K
theorem zf{rs:List ResultVar}{K:V->List Obj->Prop}:aaD P rs bM K ex e s=(zR ex/\zl P rs e s λr=>P8 bM s r K):=rfl
theorem xr {P : Program} {f : FuncId} {fn : Func} {c : Code} {args : List V} {exts : List Obj} {K : V → List Obj → Prop} (hf : P.funcs[f]? = some fn) (hb : fn.body = some c) {N : Nat} (hN : fn.ntmps = N) {rs : Array ResultVar} (QS : fn.results = rs) (hn : (fn.name != "runtime.NumGoroutine") = true)
  (bM M:Nat) (hl:exts.length<=bM) (ha:args.length<=N)
  (h:codeWp P N bM M c (aaD P rs.toList bM K) (iT args) exts):av P f args exts K:=by
 subst hN;subst QS;refine⟨by simp only[MJ,hf,hn,hb,Option.isSome_some,amh],λσ w vals hI YH hv=>?_⟩;refine calls_of_wp hf hb ?_;have hR:eE σ exts w fn.ntmps (iT args) { tmps:=vals++Array.replicate (fn.ntmps-vals.size) undef,defers:=[] }:=by
  exact Zaf
 refine wp_mono (oF hl c _ (iT args) exts σ w _ (aK.refl _ _ _) hI hR h) λex a' w' ⟨e',σ',s',hE,jR,qu,hex,hq⟩=>?_;obtain⟨v,u,k1,k2,k3⟩:=nS jR qu hq;obtain⟨h1,h2⟩:=k3;have fin:a'.defers=[]/\∃v,(results fn a'.tmps).run P w'=.ok v w'/\∃u Ut xM tm,Ending.returned v=.returned u/\aK σ exts w xM tm w'/\Inv xM tm w'/\aD xM tm w' Ut u/\K Ut tm:=by
  refine⟨qu.1,u,k1,?_⟩;split at h2
  ·rename_i r' Xr;exact⟨u,r',σ',s'.take bM,rfl,hE.take hl,jR.take h1,lk jR k2 Xr,h2⟩
  ·exact h2.elim
 exact ZbC
theorem br{f:FuncId}{c:Code}{args:List V}{exts:List Obj}{K:V→List Obj→Prop}(hf:P.funcs[f]?=some fn)(hN:fn.ntmps=N){rs:Array ResultVar}(QS:fn.results=rs)(bM M:Nat)(h:codeWp P N bM M c (aaD P rs.toList bM K) (iT args) exts)(hb:fn.body=some c:=by rfl)(hn:(fn.name != "runtime.NumGoroutine")=true:=by rfl)(hl:exts.length≤bM:=by simp)(ha:args.length≤N:=by simp):av P f args exts K:=xr hf hb hN QS hn bM M hl ha h
end Go.VL
