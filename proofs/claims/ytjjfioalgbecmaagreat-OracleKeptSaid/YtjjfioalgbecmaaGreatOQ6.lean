/- A part of the proof (Vjr Vk Vl). -/
import Derived.TacticsIn
import Derived.OrdersIn
import Derived.Test.YtjjfioalgbecmaaGreatOQ5
set_option linter.unusedSimpArgs false
set_option linter.unusedVariables false
set_option maxRecDepth 100000
set_option maxHeartbeats 80000000
namespace Go.VL
def FW (r:Option Nat):Fence:={ Fence.wide with round:=r }
theorem Tu (r:Option Nat) (n:Nat):(FW r).room n:=λ_ h=>by simp [FW,Fence.wide]at h
def Act.wD (a:Act) (D:List Deferred):Act:={ a with defers:=D }
theorem sU {a:Act} (h:a.defers=[]):Act.wD a []=a:=by cases a;simp only at h;subst h;rfl
theorem Xe (a:Act) (D D':List Deferred):Act.wD (Act.wD a D) D'=Act.wD a D':=rfl
theorem Sq {a:Act}{D:List Deferred} (h:a.defers=D):Act.wD (Act.wD a []) D=a:=by cases a;simp only at h;subst h;rfl
theorem Ph (a:Act) (D:List Deferred):(Act.wD a D).eval=a.eval:=by funext x;cases x <;> rfl
theorem z7 (a:Act) (D:List Deferred) (d:Option Nat) (v:Value):(Act.wD a D).put d v=Act.wD (a.put d v) D:=by cases d <;> rfl
def zC:Go.Obj->Bool
 |.deferred _=>true
 |.loop _=>true
 |_=>false
def pf (w w':World):Prop:=∀(b:Nat) (o:Go.Obj),w.heap[b]?=some o->zC o=true->w'.heap[b]?=some o
theorem pf.refl (w:World):pf w w:=λ_ _ h _=>h
theorem pf.trans {w w' OR:World} (h:pf w w') (k:pf w' OR):pf w OR:=λb o ho hb=>k b o (h b o ho hb) hb
theorem pf.of {σ σ':Gh}{s s':List Obj}{w w':World} (hI:Inv σ s w) (hE:aC σ s w σ' s' w'):pf w w':=by
 intro b o ho hb;have az:=dN ho;by_cases hO:Own σ s b
 ·rcases hO with h|⟨id,ob,base,h1,h2,h3⟩
  ·rw[hE.fj b az h];exact ho
  ·exfalso;rcases hI.content id ob h1 with (⟨h4,_⟩|⟨b',es,c,h4,h5,_⟩)|⟨b',bN,arr,E,h4,h5,_⟩
   ·rw[h3]at h4;cases h4
   ·rw[h3]at h4;cases h4;rw[h5]at ho;cases ho;cases hb
   ·rw[h3]at h4;cases h4;rw[h5]at ho;cases ho;cases hb
 ·rw[hE.aZ b az hO];exact ho
def QR (w0:World) (D:List Deferred) (Q:Exit->Act->World->Prop):Exit->Act->World->Prop:=λex a w=>a.defers=D/\pf w0 w/\Q ex (Act.wD a []) w
def Eg (P:Program) (c:Code) (Q:Exit->Act->World->Prop) (a:Act) (w:World):Prop :=
 ∀(r:Option Nat) (D:List Deferred),c.wpIn (FW r) 0 P (QR w D Q) (Act.wD a D) w
section
variable {P:Program}{Q:Exit->Act->World->Prop}{a:Act}{w:World}
variable{c:Code}{Q':Exit->Act->World->Prop}{id:Nat}{y:Code}{x:Code}{r:Option Nat}{K:Act->World->Prop}{o:Oper}
theorem Eg.wp (ha:a.defers=[]) (h:Eg P c Q a w):c.wp P Q a w:=by have h1:=h none [];rw[sU ha]at h1;refine wpIn_wide.1 (wpIn_mono (F:=Fence.wide) (n:=0) (show c.wpIn Fence.wide 0 P (QR w [] Q) a w from h1) λex a' w' ⟨h2,_,h3⟩=>?_);rwa [sU h2]at h3
theorem yA (h:Eg P c Q a w) (hq:∀e a w,Q e a w->Q' e a w):Eg P c Q' a w :=
 λr D=>wpIn_mono (h r D) λ_ _ _ ⟨h1,hk,h2⟩=>⟨h1,hk,hq _ _ _ h2⟩
theorem Hn {w0:World}{D:List Deferred}{ex:Exit} (hk:pf w0 w) (h:a.defers=[]) (hq:Q ex a w):QR w0 D Q ex (Act.wD a D) w:=⟨rfl,hk,by rw[Xe,sU h];exact hq⟩
theorem Sa (ha:a.defers=[]) (h:Q .normal a w):Eg P .skip Q a w:=λ_ _=>wpIn_skip (Hn (.refl _) ha h)
theorem P5 {l:Nat} (ha:a.defers=[]) (h:Q .normal a w):Eg P (.label l) Q a w:=λ_ _=>wpIn_label (Hn (.refl _) ha h)
theorem RM (ha:a.defers=[]) (h:Q (.exit id) a w):Eg P (.exit id) Q a w:=λ_ _=>wpIn_exit (Hn (.refl _) ha h)
theorem VU (ha:a.defers=[]) (h:Q .ret a w):Eg P .ret Q a w:=λ_ _=>wpIn_ret (Hn (.refl _) ha h)
theorem Vr (h:Eg P x (Exit.then (Eg P y Q) Q) a w):Eg P (.seq x y) Q a w:=by
 intro r D;refine wpIn_seq (wpIn_mono (h r D) λex a' w' ⟨h1,hk,h2⟩=>?_);cases ex with
 |normal =>
  have:=h2 r D;rw[Sq h1]at this;exact wpIn_mono this λ_ _ _ ⟨h3,HX,h4⟩=>⟨h3,hk.trans HX,h4⟩
 |_=>exact⟨h1,hk,h2⟩
theorem tP {c:Operand}{t:Bool} (hc:a.eval c=.bool t) (ht:t=true->Eg P x Q a w) (hf:t=false->Eg P y Q a w):Eg P (.cond c x y) Q a w :=
 λr D=>wpIn_cond_split (by rw[Ph];exact hc) (λh=>ht h r D) (λh=>hf h r D)
theorem Qx (h:Eg P c (Exit.inBlock id Q) a w):Eg P (.block id c) Q a w:=by
 intro r D;refine wpIn_block (wpIn_mono (h r D) λex a' w' ⟨h1,hk,h2⟩=>?_);cases ex with
 |exit i =>
  unfold Exit.inBlock at h2 ⊢;simp only at h2 ⊢;split
  ·rename_i hi;rw[be hi]at h2;exact⟨h1,hk,h2⟩
  ·rename_i hi;rw[ap hi]at h2;exact⟨h1,hk,h2⟩
 |_=>exact⟨h1,hk,h2⟩
theorem Ue (I:Act->World->Prop) (μ:Act->World->Nat) (h₀:I a w) (hd:a.defers=[])
  (round:∀a w,I a w->Eg P c (Exit.then (λa' w'=>I a' w'/\μ a' w'<μ a w) Q) a w):Eg P (.loop c) Q a w:=by
 intro r D;refine wpIn_loop (λa w'=>a.defers=D/\pf w w'/\I (Act.wD a []) w') (λa w=>μ (Act.wD a []) w) ⟨rfl,.refl _,by rw[Xe,sU hd];exact h₀⟩ λa1 w1 ⟨h1,hk,h2⟩=>?_;have:=round _ _ h2 r D;rw[Sq h1]at this;refine wpIn_mono this λex a' w' ⟨h3,HX,h4⟩=>?_;cases ex with
 |normal=>exact⟨⟨h3,hk.trans HX,h4.1⟩,h4.2⟩
 |_=>exact⟨h3,hk.trans HX,h4⟩
theorem kG {b:Frame}{k:List Item}{cs:List Frame}{c:Code}:step P (lone (b.atR a (.code (.scope c)::k)) cs w)=.next (lone (b.atR a (.code c::.inScope c::k)) cs w) :=
 step_lone_go (by simp [stepG,stepG.exec,Frame.atR])
theorem Fm {b:Frame}{k:List Item}{cs:List Frame}{c:Code}:step P (lone (b.atR a (.inScope c::k)) cs w)=.next (lone (b.atR a k) cs w) :=
 step_lone_go (by simp [stepG,stepG.exec,Frame.atR])
theorem vD {F:Fence}{n:Nat} (h:c.wpIn F n P (Exit.noGoto Q) a w):(Code.scope c).wpIn F n P Q a w:=by
 intro b k cs hro hb hr;have h0:(lone (b.atR a (.code (.scope c)::k)) cs w).fenced P F:=fenced_calm hb hr rfl;obtain⟨e,a₁,w₁,hq,Qu⟩:=h b (.inScope c::k) cs hro hb hr;cases e with
 |normal=>exact⟨.normal,a₁,w₁,hq,.head h0 kG (StepsIn.trans Qu (.one (fenced_calm hb hr rfl) Fm))⟩
 |exit id =>
  have hx:exitTo id (.inScope c::k)=exitTo id k:=by simp [exitTo]
  exact⟨_,a₁,w₁,hq,λk' hk=>.head h0 kG (Qu.1 k' (by rw[hx];exact hk)),
   λTW hk=>let ⟨k₁,h1,h2⟩:=Qu.2 TW (by rw[hx];exact hk);⟨k₁,h1,.head h0 kG h2⟩⟩
 |goto l=>exact hq.elim
 |ret=>exact⟨_,a₁,w₁,hq,.of_steps (.one h0 kG) Qu⟩
 |panic ch=>exact⟨_,a₁,w₁,hq,.of_steps (.one h0 kG) Qu⟩
 |outgrown=>exact⟨_,a₁,w₁,hq,.of_steps (.one h0 kG) Qu⟩
theorem wo (h:Eg P c (Exit.noGoto Q) a w):Eg P (.scope c) Q a w:=by
 intro r D;refine vD (wpIn_mono (h r D) λex a' w' ⟨h1,hk,h2⟩=>?_);cases ex with
 |goto l=>exact h2
 |_=>exact⟨h1,hk,h2⟩
theorem Mx{n:Nat}{f:FuncId}{args:Array Value}{R:Ending->World->Prop} (h:Calls P f args w R):CallsIn (FW r) n P f args w R:=by have:=(callsIn_wide (n:=n)).2 h;exact⟨trivial,λcs hr=>this.2 cs (room_wide _)⟩
theorem S2 (hK:∀a' w',K a' w'->a'.defers=a.defers) (h:o.wp P a w K (λ_ _ _=>False)):∀c,o.op≠.defer c:=by
 intro c hc;unfold Oper.wp at h;have hx:execOp a.eval o=(do return Next.defer (<- resolve a.eval c o.type)):=by simp only[execOp,hc]
 rw[hx]at h;simp only[Sem.run_bind,Sem.run_pure]at h;generalize (resolve a.eval c o.type).run P w=r at h;cases r with
 |ok d w' =>
  have:=hK _ _ h;cases hd:o.dst <;> simp [hd,Act.put]at this
 |halt x w'=>cases x <;> exact h
theorem OV{D:List Deferred} (hK:∀a' w',K a' w'->∃u,a'=a.put o.dst u) (h:o.wp P a w K (λ_ _ _=>False)) :
  o.wpIn (FW r) 0 P (Act.wD a D) w (λa' w'=>∃a0,a'=Act.wD a0 D/\K a0 w') Q':=by
 have hnd:=S2 (λa' w' hk=>by obtain⟨u,rfl⟩:=hK a' w' hk;cases o.dst <;> rfl) h;refine⟨λf hf=>trivial,?_⟩;rw[Ph,Oper.semAt_eq _ _ _ hnd];unfold Oper.wp at h;generalize (execOp a.eval o).run P w=res at *;cases res with
 |ok n w' =>
  cases n <;> simp only[Oper.upon,Oper.uponIn]at h ⊢
  case value v=>exact⟨_,z7 _ _ _ _,h⟩
  case skip=>exact⟨_,z7 _ _ _ _,h⟩
  case defer d =>
   obtain⟨u,hu⟩:=hK _ _ h;exfalso;have:=congrArg Act.defers hu;cases hd:o.dst <;> simp [hd,Act.put]at this
  case enter f args =>
   refine⟨λh'=>by simp [FW,Fence.wide]at h',Mx (Calls.mono h λe OR he=>?_)⟩;cases e with
   |returned v=>exact⟨_,z7 _ _ _ _,he⟩
   |panicked ch=>exact he.elim
   |outgrown=>obtain⟨_,_,h'⟩:=he;exact h'.elim
  case row row args =>
   refine⟨λh'=>by simp [FW,Fence.wide]at h',λc cs _=>?_⟩;obtain⟨v,w2,h1,h2⟩:=h c cs;exact⟨v,w2,⟨_,z7 _ _ _ _,h1⟩,stepsIn_wide.2 h2⟩
 |halt x w'=>cases x <;> simp only[Oper.upon]at h
end
variable{u:Value}{v:V}{d:Option Nat}{M:Nat}{o:Oper}{full:List Oper}{a:Act}{w:World}{P:Program}{s:List Obj}{L:Nat}{N:Nat}{id:Nat}{ops:Array Oper}{c:Code}{i:Nat}{σ:Gh}{lim:Nat}{fn:Func}{ex:Exit}
abbrev Env:=Nat->V
variable{e:Env}{K:Env->List Obj->Prop}{Q:Exit->Env->List Obj->Prop}{B:Env->List Obj->Prop}
def bK (e:Env) (d:Nat) (v:V):Env:=λt=>if t=d then v else e t
def gP (e:Env) (d:Option Nat) (v:V):Env :=
 match d with
 |none=>e
 |some d=>bK e d v
def dQ (N:Nat) (d:Option Nat):Prop :=
 match d with
 |none=>True
 |some d=>d<N
theorem dC.put {σ s w N e a} (h:dC σ s w N e a) (hd:dQ N d) (hv:ay σ s w v u):dC σ s w N (gP e d v) (a.put d u):=by
 cases d with
 |none=>exact h
 |some d =>
  have XM:d<N:=hd;refine⟨h.1,by simp [Act.put,h.2.1],λt=>?_⟩;simp only[Act.put,gP,bK];by_cases ht:t=d
  ·subst ht;rw[be rfl,Array.getD_eq_getD_getElem?,Array.getElem?_setIfInBounds_self_of_lt (by rw[h.2.1];exact XM)];exact hv
  ·rw[ap ht,Array.getD_eq_getD_getElem?,Array.getElem?_setIfInBounds_ne (Ne.symm ht),<- Array.getD_eq_getD_getElem?];exact h.2.2 t
def mU (M:Nat) (e:Env):Env:=λt=>if (M >>> t) % 2=1 then e t else .any
theorem aS{t:Nat}:mU M e t=if (M >>> t) % 2=1 then e t else .any:=(rfl)
theorem nQ{d:Nat}:mU M (bK e d v)=if (M >>> d) % 2=1 then bK (mU M e) d v else mU M e:=by
 split <;> rename_i h <;> funext t <;> simp only[mU,bK]
 ·by_cases ht:t=d
  ·subst ht;simp [h]
  ·simp [ht]
 ·by_cases ht:t=d
  ·subst ht;simp [h]
  ·simp [ht]
theorem mo:mU M (mU M e)=mU M e:=by funext t;simp only[mU];split <;> rfl
theorem dC.trim {σ s w N M e a} (h:dC σ s w N e a):dC σ s w N (mU M e) a:=by
 refine⟨h.1,h.2.1,λt=>?_⟩;unfold mU;split
 ·exact h.2.2 t
 ·exact .any
theorem dC.aR {σ s w σ' s' w' N e a} (h:dC σ s w N e a) (hE:aC σ s w σ' s' w'):dC σ' s' w' N e a :=
 ⟨h.1,h.2.1,λt=>(h.2.2 t).aR hE⟩
def lR (full:List Oper) (g:Nat):Option Nat :=
 match full[g]? with
 |some o=>o.dst
 |none=>none
def kq (d:Option Nat) (e:Env) (want:Bool) (A B:Env->Prop):Prop :=
 match d with
 |none=>False
 |some d=>match e d with
  |.d (.sc (.bool b))=>(b=want->A (bK e d (.d (.sc (.bool want)))))/\(b=(!want)->B (bK e d (.d (.sc (.bool (!want))))))
  |.un=>B e
  |_=>False
theorem dC.same {σ s w N e a} (h:dC σ s w N e a) {d:Nat} (hv:e d=v):dC σ s w N (bK e d v) a:=by
 refine⟨h.1,h.2.1,λt=>?_⟩;unfold bK;split
 ·rename_i ht;subst ht;rw[<- hv];exact h.2.2 _
 ·exact h.2.2 t
theorem rT{σ s w N e a} (h:dC σ s w N e a) {g:Nat}{want:Bool} (ho:o.guard=some (g,want)) {A B:Env->Prop} (hg:kq (lR full g) e want A B) :
  ∃e',dC σ s w N e' a/\((Region.wanted o (yielded full.toArray a.tmps)=true/\A e')\/(Region.wanted o (yielded full.toArray a.tmps)=false/\B e')):=by
 unfold kq at hg;unfold Region.wanted;rw[ho];simp only;split at hg
 case h_1=>exact hg.elim
 rename_i d hd;unfold lR at hd;split at hd
 case h_2=>cases hd
 rename_i og YV;have hr:=h.2.2 d;split at hg
 ·rename_i b hb;rw[hb]at hr;generalize uV:a.tmps.getD d undef=c at hr;cases hr with|d hr=>?_
  cases hr with|sc _ _=>?_
  have Sz:a.tmps[d]?=some (.bool b):=by
   rw[Array.getD_eq_getD_getElem?]at uV;cases hx:a.tmps[d]? with
   |none=>rw[hx]at uV;cases uV
   |some y=>rw[hx]at uV;simp only[ak2]at uV;rw[uV]
  have hy:yielded full.toArray a.tmps g=some b:=by simp [yielded,YV,hd,Sz]
  rw[hy];by_cases hbw:b=want
  ·subst hbw;exact⟨_,h.same hb,.inl ⟨ak,hg.1 rfl⟩⟩
  ·have Vu:b=!want:=by cases b <;> cases want <;> simp_all
   subst Vu;exact⟨_,h.same hb,.inr ⟨ak,hg.2 rfl⟩⟩
 ·rename_i hb;rw[hb]at hr;generalize uV:a.tmps.getD d undef=c at hr;cases hr;have hy:yielded full.toArray a.tmps g=none:=by
   rw[Array.getD_eq_getD_getElem?]at uV;cases hx:a.tmps[d]? with
   |none=>simp [yielded,YV,hd,hx]
   |some y=>rw[hx]at uV;simp only[ak2]at uV;simp [yielded,YV,hd,hx,uV,undef]
  exact⟨e,h,.inr ⟨by rw[hy];rfl,hg⟩⟩
 ·exact hg.elim
def ng (P:Program) (N:Nat) (full:List Oper):List Oper->Env->List Obj->(Env->List Obj->Prop)->Prop
 |[],e,s,K=>K e s
 |o::rest,e,s,K=>dQ N o.dst/\match o.guard with
  |none=>cz P o e s λv s'=>ng P N full rest (gP e o.dst v) s' K
  |some (g,want)=>kq (lR full g) e want (λe=>cz P o e s λv s'=>ng P N full rest (gP e o.dst v) s' K) (λe=>ng P N full rest (gP e o.dst .un) s K)
theorem Oper.Wh{K:Act->World->Prop}{Q:Exit->Act->World->Prop} (h:o.wp P a w K (λ_ _ _=>False)):o.wp P a w K Q:=by
 unfold Go.Oper.wp at *;generalize (execOp a.eval o).run P w=r at *;cases r with
 |ok n w' =>
  cases n <;> simp only[Oper.upon]at h ⊢ <;>
   first
    |exact h
    |exact Calls.mono h (λe OR he=>by
      cases e with
      |returned v=>exact he
      |panicked ch=>exact he.elim
      |outgrown=>obtain⟨_,_,h'⟩:=he;exact h'.elim)
 |halt x w'=>cases x <;> simp only[Oper.upon]at h ⊢
def QX (σ0:Gh) (s0:List Obj) (w0:World) (N:Nat) (Q:Exit->Env->List Obj->Prop):Exit->Act->World->Prop :=
 λex a w=>∃e σ s,aC σ0 s0 w0 σ s w/\Inv σ s w/\dC σ s w N e a/\Q ex e s
theorem te {P:Program}{N:Nat}{full:List Oper}{σ0:Gh}{s0:List Obj}{w0:World}{Q:Exit->Env->List Obj->Prop}{r:Option Nat}{D:List Deferred}{ws:World}:∀(l:List Oper) (e:Env) (s:List Obj) (σ:Gh) (w:World) (a:Act),
  pf ws w->aC σ0 s0 w0 σ s w->Inv σ s w->dC σ s w N e a->ng P N full l e s (λe s=>Q .normal e s)->wpListIn (FW r) 0 P full.toArray (QR ws D (QX σ0 s0 w0 N Q)) l (Act.wD a D) w
 |[],e,s,σ,w,a,hk,hE,hI,hR,h=>Hn hk hR.1 ⟨e,σ,s,hE,hI,hR,h⟩
 |o::rest,e,s,σ,w,a,hk,hE,hI,hR,h=>by
  obtain⟨hd,h⟩:=h;have run:∀e,dC σ s w N e a->(cz P o e s λv s'=>ng P N full rest (gP e o.dst v) s' λe s=>Q .normal e s)->o.wpIn (FW r) 0 P (Act.wD a D) w (wpListIn (FW r) 0 P full.toArray (QR ws D (QX σ0 s0 w0 N Q)) rest) (QR ws D (QX σ0 s0 w0 N Q)):=by intro e hR h;refine Oper.wpIn_mono (λa' w' ⟨a0,h1,u,v,σ',s',ha,nE,fS,iY,hK⟩=>?_) (OV (λa' w' ⟨u,_,_,_,ha,_⟩=>⟨u,ha⟩) (rU hI hR h));subst ha h1;exact te rest _ s' σ' w' _ (hk.trans (.of hI nE)) (hE.trans nE) fS ((hR.aR nE).put hd iY) hK
  unfold wpListIn;split at h
  ·rename_i hg;rw[be (by simp [Region.wanted,hg])];exact run e hR h
  ·rename_i g want hg;obtain⟨e',iY,⟨h1,h2⟩|⟨h1,h2⟩⟩:=rT hR hg h
   ·rw[be (show Region.wanted o (yielded full.toArray (Act.wD a D).tmps)=true from h1)];exact run e' iY h2
   ·rw[ap (show ¬Region.wanted o (yielded full.toArray (Act.wD a D).tmps)=true by rw[show (Act.wD a D).tmps=a.tmps from rfl,h1];decide),z7];exact⟨λ_ _=>trivial,te rest _ s σ w _ hk hE hI (iY.put hd .un) h2⟩
def qI (B:Env->List Obj->Prop) (Q:Exit->Env->List Obj->Prop):Exit->Env->List Obj->Prop
 |.normal,e,s=>B e s
 |x,e,s=>Q x e s
def HJ (id:Nat) (Q:Exit->Env->List Obj->Prop):Exit->Env->List Obj->Prop
 |.exit i,e,s=>if i=id then Q .normal e s else Q (.exit i) e s
 |x,e,s=>Q x e s
def pS (x:V) (A B:Prop):Prop :=
 match x with
 |.d .ub=>A/\B
 |_=>gF x A B
def oC (P:Program) (N:Nat) (ops:List Oper) (e:Env) (s:List Obj) (K:Env->List Obj->Prop):Prop :=
 ∀(σ0:Gh) (s0:List Obj) (w0:World) (Q:Exit->Env->List Obj->Prop),(∀e s,K e s->Q .normal e s)->∀(σ:Gh) (w:World) (a:Act) (id:Nat),
  aC σ0 s0 w0 σ s w->Inv σ s w->dC σ s w N e a->Eg P (Code.region id ops.toArray true) (QX σ0 s0 w0 N Q) a w
def bA (L:Nat) (e:Env) (s:List Obj) (e':Env) (s':List Obj):Prop :=
 ∀(σ0:Gh) (s0:List Obj) (w0:World) (σ:Gh) (w:World) (N:Nat) (a:Act),s0.length<=L->aC σ0 s0 w0 σ s w->Inv σ s w->dC σ s w N e a->∃σ',aC σ0 s0 w0 σ' s' w/\Inv σ' s' w/\dC σ' s' w N e' a
theorem bA.refl:bA L e s e s:=λ_ _ _ σ _ _ _ _ hE hI hR=>⟨σ,hE,hI,hR⟩
theorem bA.trans{e' e'':Env}{s' Bm:List Obj} (h:bA L e s e' s') (k:bA L e' s' e'' Bm):bA L e s e'' Bm:=λσ0 s0 w0 σ w N a hL hE hI hR =>
 let ⟨σ',h1,h2,h3⟩:=h σ0 s0 w0 σ w N a hL hE hI hR
 k σ0 s0 w0 σ' w N a hL h1 h2 h3
def RF (L:Nat) (body:(Exit->Env->List Obj->Prop)->Env->List Obj->Prop) (Q:Exit->Env->List Obj->Prop) (e:Env) (s:List Obj):Prop :=
 ∃I:Nat->Env->List Obj->Prop,(∃n e1 s1,bA L e s e1 s1/\I n e1 s1)/\∀n e s,I n e s->body (qI (λe s=>∃m e1 s1,m<n/\bA L e s e1 s1/\I m e1 s1) Q) e s
def Tt (Q:Exit->Env->List Obj->Prop):Exit->Env->List Obj->Prop
 |.goto _,_,_=>False
 |ex,e,s=>Q ex e s
def codeWp (P:Program) (N L M:Nat):Code->(Exit->Env->List Obj->Prop)->Env->List Obj->Prop
 |.skip,Q,e,s=>Q .normal e s
 |.region _ ops draw,Q,e,s=>match draw with
  |false=>ng P N ops.toList ops.toList e s λe s=>Q .normal e s
  |true=>oC P N ops.toList e s λe s=>Q .normal e s
 |.seq a b,Q,e,s=>codeWp P N L M a (qI (codeWp P N L M b Q) Q) e s
 |.cond c a b,Q,e,s=>pS (ev e c) (codeWp P N L M a Q (mU M e) s) (codeWp P N L M b Q (mU M e) s)
 |.block id c,Q,e,s=>codeWp P N L M c (HJ id Q) e s
 |.loop c,Q,e,s=>RF L (codeWp P N L M c) Q e s
 |.exit id,Q,e,s=>Q (.exit id) e s
 |.ret,Q,e,s=>Q .ret e s
 |.scope c,Q,e,s=>codeWp P N L M c (Tt Q) e s
 |.label _,Q,e,s=>Q .normal e s
 |_,_,_,_=>False
def Qn (Q:Exit->Env->List Obj->Prop) (e:Env) (s:List Obj):Prop:=Q .normal e s
def cont (P:Program) (N:Nat) (full rest:List Oper) (e:Env) (d:Option Nat) (K:Env->List Obj->Prop) (v:V) (s:List Obj):Prop:=ng P N full rest (gP e d v) s K
theorem yr{rest:List Oper}:cont P N full rest e d K v s=ng P N full rest (gP e d v) s K:=(rfl)
theorem H5:Qn Q e s=Q .normal e s:=(rfl)
theorem uC:ng P N full [] e s K=K e s:=(rfl)
theorem px:codeWp P N L M .skip Q e s=Q .normal e s:=(rfl)
theorem mD:codeWp P N L M (.region id ops false) Q e s=ng P N ops.toList ops.toList e s (Qn Q):=(rfl)
theorem pw:codeWp P N L M (.region id ops true) Q e s=oC P N ops.toList e s (Qn Q):=(rfl)
theorem oH{a b:Code}:codeWp P N L M (.seq a b) Q e s=codeWp P N L M a (qI (codeWp P N L M b Q) Q) e s:=(rfl)
theorem kZ:codeWp P N L M (.block id c) Q e s=codeWp P N L M c (HJ id Q) e s:=(rfl)
theorem py:codeWp P N L M (.exit id) Q e s=Q (.exit id) e s:=(rfl)
theorem rh:codeWp P N L M .ret Q e s=Q .ret e s:=(rfl)
theorem pj:qI B Q .normal e s=B e s:=(rfl)
theorem xM:qI B Q .ret e s=Q .ret e s:=(rfl)
theorem u9:qI B Q (.exit i) e s=Q (.exit i) e s:=(rfl)
theorem pA:HJ i Q .normal e s=Q .normal e s:=(rfl)
theorem yy:HJ i Q .ret e s=Q .ret e s:=(rfl)
theorem uX{j:Nat}:HJ i Q (.exit j) e s=if j=i then Q .normal e s else Q (.exit j) e s:=(rfl)
def Xk (L:Nat) (I:Nat->Env->List Obj->Prop) (n:Nat) (e:Env) (s:List Obj):Prop:=∃m e1 s1,m<n/\bA L e s e1 s1/\I m e1 s1
theorem aw (I:Nat->Env->List Obj->Prop) (h0:∃n e1 s1,bA L e s e1 s1/\I n e1 s1) (h:∀n e s,I n e s->codeWp P N L M c (qI (Xk L I n) Q) e s) :
  codeWp P N L M (.loop c) Q e s:=⟨I,h0,h⟩
theorem cx {P:Program}{N L M:Nat}{σ0:Gh}{s0:List Obj}{w0:World} (hL:s0.length<=L):∀(c:Code) (Q:Exit->Env->List Obj->Prop) (e:Env) (s:List Obj) (σ:Gh) (w:World) (a:Act),
  aC σ0 s0 w0 σ s w->Inv σ s w->dC σ s w N e a->codeWp P N L M c Q e s->Eg P c (QX σ0 s0 w0 N Q) a w
 |.skip,Q,e,s,σ,w,a,hE,hI,hR,h=>Sa hR.1 ⟨e,σ,s,hE,hI,hR,h⟩
 |.region id ops false,Q,e,s,σ,w,a,hE,hI,hR,h=>by intro r D;refine wpIn_region_list ?_;have:=te (Q:=Q) (r:=r) (D:=D) (ws:=w) ops.toList e s σ w a (.refl _) hE hI hR h;simpa using this
 |.region id ops true,Q,e,s,σ,w,a,hE,hI,hR,h=>by have:=h σ0 s0 w0 Q (λ_ _ h=>h) σ w a id hE hI hR;simpa using this
 |.seq x y,Q,e,s,σ,w,a,hE,hI,hR,h=>by
  refine Vr (yA (cx hL x _ e s σ w a hE hI hR h) λex a' w' ⟨e',σ',s',nE,fS,iY,hq⟩=>?_);cases ex with
  |normal=>exact cx hL y Q e' s' σ' w' a' nE fS iY hq
  |_=>exact⟨e',σ',s',nE,fS,iY,hq⟩
 |.cond c x y,Q,e,s,σ,w,a,hE,hI,hR,h=>by
  simp only[codeWp,pS]at h;split at h
  ·rename_i hb;have hc:=hR.ev c;rw[hb]at hc;generalize uV:a.eval c=VH at hc;cases hc with|d hc=>?_
   cases hc with|ub b=>?_
   refine tP uV (λht=>?_) (λhf=>?_)
   ·exact cx hL x Q _ s σ w a hE hI hR.trim h.1
   ·exact cx hL y Q _ s σ w a hE hI hR.trim h.2
  unfold gF at h;split at h
  ·rename_i b hb;have hc:=hR.ev c;rw[hb]at hc;generalize uV:a.eval c=VH at hc;cases hc with|d hc=>?_
   cases hc with|sc _ _=>?_
   refine tP uV (λht=>?_) (λhf=>?_)
   ·exact cx hL x Q _ s σ w a hE hI hR.trim (h.1 ht)
   ·exact cx hL y Q _ s σ w a hE hI hR.trim (h.2 hf)
  ·exact h.elim
 |.block id c,Q,e,s,σ,w,a,hE,hI,hR,h=>by
  refine Qx (yA (cx hL c _ e s σ w a hE hI hR h) λex a' w' ⟨e',σ',s',nE,fS,iY,hq⟩=>?_);cases ex with
  |exit i =>
   simp only[Exit.inBlock];simp only[HJ]at hq;split
   ·rename_i hi;rw[be hi]at hq;exact⟨e',σ',s',nE,fS,iY,hq⟩
   ·rename_i hi;rw[ap hi]at hq;exact⟨e',σ',s',nE,fS,iY,hq⟩
  |_=>exact⟨e',σ',s',nE,fS,iY,hq⟩
 |.loop c,Q,e,s,σ,w,a,hE,hI,hR,h=>by
  obtain⟨I,⟨n0,e0,s0',OX,h0⟩,qL⟩:=h;obtain⟨σ,hE,hI,hR⟩:=OX σ0 s0 w0 σ w N a hL hE hI hR;let J:Nat->Act->World->Prop:=λn a w=>∃e σ s,aC σ0 s0 w0 σ s w/\Inv σ s w/\dC σ s w N e a/\I n e s;have least:∀a w,(∃n,J n a w)->∃n,J n a w/\∀m,J m a w->n<=m:=by
   intro a w ⟨n,hn⟩;induction n using Nat.strongRecOn with
   |_ n ih =>
    by_cases hm:∃m,m<n/\J m a w
    ·obtain⟨m,I5,hm2⟩:=hm;exact ih m I5 hm2
    ·exact⟨n,hn,λm hj=>by
      rcases akd m n with h'|h'
      ·exact absurd ⟨m,h',hj⟩ hm
      ·exact h'⟩
  classical
  let μ:Act->World->Nat:=λa w=>if h:∃n,J n a w then Classical.choose (least a w h) else 0;have hμ:∀a w,(∃n,J n a w)->J (μ a w) a w/\∀m,J m a w->μ a w<=m:=by intro a w h;simp only[μ,dif_pos h];exact Classical.choose_spec (least a w h)
  refine Ue (λa w=>∃n,J n a w) μ ⟨n0,e0,σ,s0',hE,hI,hR,h0⟩ hR.1 λa w hJ=>?_;obtain⟨⟨e1,σ1,s1,Qh,Rn,Rg,hi⟩,_⟩:=hμ a w hJ;refine yA (cx hL c _ e1 s1 σ1 w a Qh Rn Rg (qL _ _ _ hi)) λex a' w' ⟨e',σ',s',nE,fS,iY,hq⟩=>?_;cases ex with
  |normal =>
   obtain⟨m,e2,s2,hm,hc,hi'⟩:=hq;obtain⟨σ',nE,fS,iY⟩:=hc σ0 s0 w0 σ' w' N a' hL nE fS iY;have hj:J m a' w':=⟨e2,σ',s2,nE,fS,iY,hi'⟩
   exact⟨⟨m,hj⟩,Nat.lt_of_le_of_lt ((hμ a' w' ⟨m,hj⟩).2 m hj) hm⟩
  |_=>exact⟨e',σ',s',nE,fS,iY,hq⟩
 |.exit id,Q,e,s,σ,w,a,hE,hI,hR,h=>RM hR.1 ⟨e,σ,s,hE,hI,hR,h⟩
 |.ret,Q,e,s,σ,w,a,hE,hI,hR,h=>VU hR.1 ⟨e,σ,s,hE,hI,hR,h⟩
 |.rangeFunc ..,_,_,_,_,_,_,_,_,_,h=>h.elim
 |.scope c,Q,e,s,σ,w,a,hE,hI,hR,h=>by
  refine wo (yA (cx hL c (Tt Q) e s σ w a hE hI hR h) λex a' w' ⟨e',σ',s',nE,fS,iY,hq⟩=>?_);cases ex with
  |goto l=>exact hq
  |_=>exact⟨e',σ',s',nE,fS,iY,hq⟩
 |.label _,Q,e,s,σ,w,a,hE,hI,hR,h=>P5 hR.1 ⟨e,σ,s,hE,hI,hR,h⟩
 |.goto _,_,_,_,_,_,_,_,_,_,h=>h.elim
 |.refuse _,_,_,_,_,_,_,_,_,_,h=>h.elim
theorem nt{σ0:Gh}{s0:List Obj}{w0:World} (hL:s0.length<=L) (c:Code) (Q:Exit->Env->List Obj->Prop) (e:Env) (s:List Obj) (σ:Gh) (w:World) (a:Act)
  (hE:aC σ0 s0 w0 σ s w) (hI:Inv σ s w) (hR:dC σ s w N e a) (h:codeWp P N L M c Q e s):c.wp P (QX σ0 s0 w0 N Q) a w :=
 (cx hL c Q e s σ w a hE hI hR h).wp hR.1
def cT:Nat->Nat->List Obj->V->Option D
 |_,_,_,.d x=>some x
 |_,_,_,.fu au=>some (.sl au)
 |n+1,lim,s,.so id g lo m=>match s[id]? with
  |some o=>if o.g=g/\lo+m<=o.au.length/\(lim<=id\/o.live=false) then
    (((o.au.drop lo).take m).mapM λ(e:List V)=>e.mapM (cT n lim s)).map .sl else none
  |none=>none
 |n+1,lim,s,.rf id g k off=>match s[id]? with
  |some o=>if o.g=g/\(lim<=id\/o.live=false) then
    (match o.au[k]? with
    |some e=>((e.drop off).mapM (cT n lim s)).map .el
    |none=>none) else none
  |none=>none
 |_,_,_,.pp _ _ _ _ b a=>some (.sc (.pointer (some ⟨b,a,none⟩)))
 |n+1,lim,s,.bx v=>(cT n lim s v).map λx=>.el [x]
 |n+1,lim,s,.cl fn first ai=>match first.mapM (cT n lim s),ai.mapM (cT n lim s) with
  |some f,some c=>some (.cl fn f c)
  |_,_=>none
 |_,_,_,_=>none
theorem u4 (hI:Inv σ s w) (lim:Nat):∀(n:Nat) (x:V) (u:Value) (y:D),ay σ s w x u->cT n lim s x=some y->cU (Own σ (s.take lim)) w y u:=by
 have iV:∀b,Own σ (s.take lim) b->Own σ s b:=by
  rintro b (h|⟨id,o,base,h1,h2,h3⟩)
  ·exact .inl h
  ·rw[List.getElem?_take]at h1;split at h1
   ·exact .inr ⟨id,o,base,h1,h2,h3⟩
   ·cases h1
 intro n;induction n with
 |zero =>
  intro x u y hr h;cases hr <;> simp only[cT,ajU]at h <;> first|(cases h;done)|(subst h;exact cU.own iV (by assumption))|(subst h;exact .sc _ rfl)
 |succ n ih =>
  intro x u y hr h;cases hr with
  |d h'=>simp only[cT,ajU]at h;subst h;exact cU.own iV h'
  |fu h'=>simp only[cT,ajU]at h;subst h;exact cU.own iV h'
  |pp o ho hg hk=>simp only[cT,ajU]at h;subst h;exact .sc _ rfl
  |bx h1 h2 h3 hu h4 =>
   simp only[cT]at h;obtain⟨z,hz,rfl⟩:=Option.map_eq_some_iff.1 h;rename_i v a u;refine cU.el [z] a (λ_=>u) h1 (λj x hx=>?_) (λj x hx=>?_)
   ·cases j with
    |zero=>exact⟨h2,λh'=>h3 (iV _ h')⟩
    |succ j=>simp at hx
   ·cases j with
    |zero=>simp at hx;subst hx;exact ih _ _ _ h4 hz
    |succ j=>simp at hx
  |cl h1 h2 h3 h4 =>
   simp only[cT]at h;split at h
   case h_2=>cases h
   rename_i f c hf hc;cases h;obtain⟨f1,f2⟩:=jY hf;obtain⟨c1,c2⟩:=jY hc;refine .cl ae (λi x hx=>?_) ae (λi x hx=>?_)
   ·obtain⟨z,k1,k2⟩:=f2 i x hx;exact ih _ _ _ (h2 i z k1) k2
   ·obtain⟨z,k1,k2⟩:=c2 i x hx;exact ih _ _ _ (h4 i z k1) k2
  |so o ho hg hu hk =>
   rename_i id g lo m;simp only[cT,ho]at h;split at h
   case isFalse=>cases h
   rename_i hc;obtain⟨wG,hlen,RC⟩:=hc;obtain⟨au,gD,rfl⟩:=Option.map_eq_some_iff.1 h;obtain⟨m1,m2⟩:=jY gD;have hl:au.length=m:=by rw[m1];simp;omega
   rcases hk wG with ⟨kA,⟨a,rfl⟩,rfl,rfl⟩|⟨b,base,cap,E,arr,g1,g2,rfl,g4,g5⟩
   ·have:au=[]:=akj hl;subst this;cases a with
    |none=>exact .nil
    |some a=>exact cU.sl [] a 0 0 (λ_ _=>undef) ak ak ak ak ak
   ·rcases hI.content _ o ho with h1|⟨b',bN,bR,E',h1,h2,h3,h4,h5⟩
    ·exact(h1.yF g1 ⟨arr,E,g2⟩).elim
    rw[g1]at h1;cases h1;rw[g2]at h2;cases h2;have hO:¬Own σ (s.take lim) b:=by
     rintro (h|⟨kX,o',bN,k1,k2,k3⟩)
     ·exact hI.apart _ o b base ho g1 h
     ·rw[List.getElem?_take]at k1;split at k1
      ·rename_i az;have:=hI.inj kX id o' o b bN base k1 ho k2 k3 g1;subst this;rcases RC with h|h
       ·omega
       ·rw[ho]at k1;cases k1;rw[h]at k2;cases k2
      ·cases k1
    rw[<- hl];refine cU.Mn (sz:=o.sz) ae (λe he=>?_) hO (λi j x hx=>?_)
    ·obtain⟨i,hi⟩:=List.mem_iff_getElem?.1 he;obtain⟨e',k1,k2⟩:=m2 i e hi;rw[(jY k2).1];exact h3 e' (ak1 (akv (List.mem_of_getElem? k1)))
    ·cases hi:au[i]? with
     |none=>rw[hi]at hx;cases hx
     |some e =>
      rw[hi]at hx;obtain⟨e',k1,k2⟩:=m2 i e hi;obtain⟨v,k3,k4⟩:=(jY k2).2 j x hx;rw[List.getElem?_take]at k1;split at k1
      case isFalse=>cases k1
      rw[List.getElem?_drop]at k1;obtain⟨c,c1,c2,c3⟩:=h5 (lo+i) j v (by rw[k1];exact k3);refine⟨c,?_,ih v c x c3 k4⟩;simp only[World.cell?,g2];rw[akx]at c1;simpa [aky]using c1
  |rf o ho hg hu hk =>
   rename_i id g k off;simp only[cT,ho]at h;split at h
   case isFalse=>cases h
   rename_i hc;obtain⟨wG,RC⟩:=hc;split at h
   case h_2=>cases h
   rename_i e he;obtain⟨cs,oL,rfl⟩:=Option.map_eq_some_iff.1 h;obtain⟨m1,m2⟩:=jY oL;obtain⟨b,base,g1,gC,rfl⟩:=hk wG;rcases hI.content _ o ho with h1|⟨b',bN,bR,E',h1,h2,h3,h4,h5⟩
   ·exact(h1.yF g1 gC).elim
   rw[g1]at h1;cases h1;have hO:¬Own σ (s.take lim) b:=by
    rintro (h|⟨kX,o',bN,k1,k2,k3⟩)
    ·exact hI.apart _ o b base ho g1 h
    ·rw[List.getElem?_take]at k1;split at k1
     ·rename_i az;have:=hI.inj kX id o' o b bN base k1 ho k2 k3 g1;subst this;rcases RC with h|h
      ·omega
      ·rw[ho]at k1;cases k1;rw[h]at k2;cases k2
     ·cases k1
   have key:∀j x,cs[j]?=some x->∃c,w.cell? ⟨b,base+k*o.sz+off+j,none⟩=some c/\cU (Own σ (s.take lim)) w x c:=by intro j x hx;obtain⟨v,k3,k4⟩:=m2 j x hx;rw[List.getElem?_drop]at k3;obtain⟨c,c1,c2,c3⟩:=h5 k (off+j) v (by rw[he];exact k3);refine⟨c,?_,ih v c x c3 k4⟩;simp only[World.cell?,h2];simpa [aky]using c1
   refine .el cs _ (λj=>(w.cell? ⟨b,base+k*o.sz+off+j,none⟩).getD undef) rfl (λj x hx=>⟨?_,hO⟩) (λj x hx=>?_)
   ·obtain⟨c,h1,_⟩:=key j x hx;simp only[h1,ak2]
   ·obtain⟨c,h1,h2'⟩:=key j x hx;simp only[h1,ak2];exact h2'
  |_=>simp [cT]at h
def aj (lim:Nat):V->Bool
 |.d _|.fu _|.un=>true
 |.so id _ _ _=>decide (id<lim)
 |.rf id _ _ _=>decide (id<lim)
 |.pp id _ _ _ _ _=>decide (id<lim)
 |.mp id _=>decide (id<lim)
 |.ag cs=>go cs
 |.tu cs=>go cs
 |.bx v=>aj lim v
 |.cap _ _ v=>aj lim v
 |.cl _ first ai=>go first&&go ai
 |.any=>true
where go:List V->Bool
 |[]=>true
 |v::vs=>aj lim v&&go vs
theorem du {lim:Nat}:∀{l:List V},aj.go lim l=true->∀(i:Nat) (x:V),l[i]?=some x->aj lim x=true
 |[],_,i,x,hx=>by simp at hx
 |v::vs,h,i,x,hx=>by
  simp only[aj.go,aj5]at h;cases i with
  |zero=>simp at hx;subst hx;exact h.1
  |succ i=>exact du h.2 i x (by simpa using hx)
theorem ay.take{x:V} (hr:ay σ s w x u) (h:aj lim x=true):ay σ (s.take lim) w x u:=by
 have iV:∀b,Own σ (s.take lim) b->Own σ s b:=by
  rintro b (h|⟨id,o,base,h1,h2,h3⟩)
  ·exact .inl h
  ·rw[List.getElem?_take]at h1;split at h1
   ·exact .inr ⟨id,o,base,h1,h2,h3⟩
   ·cases h1
 induction hr with
 |d hx=>exact .d (hx.own iV)
 |ag h1 h2 _ ih=>exact .ag h1 h2 λi x hx=>ih i x hx (du (by simpa only[aj]using h) i x hx)
 |tu h1 _ ih=>exact .tu h1 λi x hx=>ih i x hx (du (by simpa only[aj]using h) i x hx)
 |fu hx=>exact .fu (hx.own iV)
 |so o ho hg hu hk =>
  simp only[aj,decide_eq_true_eq]at h;exact .so o (by rw[List.getElem?_take,be h];exact ho) hg hu hk
 |rf o ho hg hu hk =>
  simp only[aj,decide_eq_true_eq]at h;exact .rf o (by rw[List.getElem?_take,be h];exact ho) hg hu hk
 |pp o ho hg hk =>
  simp only[aj,decide_eq_true_eq]at h;exact .pp o (by rw[List.getElem?_take,be h];exact ho) hg hk
 |mp o ho hg hu hk =>
  simp only[aj,decide_eq_true_eq]at h;exact .mp o (by rw[List.getElem?_take,be h];exact ho) hg hu hk
 |bx h1 h2 h3 hu _ ih=>exact .bx h1 h2 (λh'=>h3 (iV _ h')) hu (ih (by simpa only[aj]using h))
 |cap h1 _ ih=>exact .cap h1 (ih (by simpa only[aj]using h))
 |cl h1 _ h3 _ sM xr =>
  simp only[aj,aj5]at h;exact .cl h1 (λi x hx=>sM i x hx (du h.1 i x hx)) h3 (λi x hx=>xr i x hx (du h.2 i x hx))
 |un=>exact .un
 |any=>exact .any
def bc (lim:Nat) (s:List Obj):V->Option V
 |.d x=>some (.d x)
 |.fu au=>some (.d (.sl au))
 |.so id g lo m=>match cT 8 lim s (.so id g lo m) with
  |some x=>some (.d x)
  |none=>if id<lim then some (.so id g lo m) else none
 |.rf id g i off=>match cT 8 lim s (.rf id g i off) with
  |some x=>some (.d x)
  |none=>if id<lim then some (.rf id g i off) else none
 |.pp id g i off b a=>if id<lim then some (.pp id g i off b a) else some (.d (.sc (.pointer (some ⟨b,a,none⟩))))
 |.mp id g=>if id<lim then some (.mp id g) else none
 |.ag cs=>(go cs).map .ag
 |.tu cs=>(go cs).map .tu
 |.bx v=>(cT 8 lim s (.bx v)).map .d
 |.cap _ _ v=>bc lim s v
 |.cl fn first ai=>match cT 8 lim s (.cl fn first ai) with
  |some x=>some (.d x)
  |none=>if aj lim (.cl fn first ai) then some (.cl fn first ai) else none
 |.un=>some .un
 |.any=>some .any
where go:List V->Option (List V)
 |[]=>some []
 |v::vs=>match bc lim s v,go vs with
  |some v',some vs'=>some (v'::vs')
  |_,_=>none
theorem rb {lim:Nat}{s:List Obj}:∀{l r:List V},bc.go lim s l=some r->r.length=l.length/\∀(i:Nat) (y:V),r[i]?=some y->∃x,l[i]?=some x/\bc lim s x=some y
 |[],r,h=>by simp [bc.go]at h;subst h;simp
 |v::vs,r,h=>by
  simp only[bc.go]at h;split at h
  ·rename_i v' vs' h1 h2;simp only[ajU]at h;subst h;obtain⟨k1,k2⟩:=rb h2;refine⟨by simp [k1],λi y hy=>?_⟩;cases i with
   |zero=>simp at hy;subst hy;exact⟨v,rfl,h1⟩
   |succ i=>simpa using k2 i y (by simpa using hy)
  ·cases h
theorem iO (hI:Inv σ s w){x:V} (hr:ay σ s w x u):∀{y:V},bc lim s x=some y->ay σ (s.take lim) w y u:=by
 have iV:∀b,Own σ (s.take lim) b->Own σ s b:=by
  rintro b (h|⟨id,o,base,h1,h2,h3⟩)
  ·exact .inl h
  ·rw[List.getElem?_take]at h1;split at h1
   ·exact .inr ⟨id,o,base,h1,h2,h3⟩
   ·cases h1
 induction hr with
 |d hx=>intro y h;simp only[bc,ajU]at h;subst h;exact .d (hx.own iV)
 |fu hx=>intro y h;simp only[bc,ajU]at h;subst h;exact .d (hx.own iV)
 |so o ho hg hu hk =>
  intro y h;simp only[bc]at h;split at h
  ·rename_i z hz;simp only[ajU]at h;subst h;exact .d (u4 hI lim 8 _ _ z (.so o ho hg hu hk) hz)
  ·split at h
   ·simp only[ajU]at h;subst h;exact ay.take (.so o ho hg hu hk) (by simpa [aj]using ‹_›)
   ·cases h
 |rf o ho hg hu hk =>
  intro y h;simp only[bc]at h;split at h
  ·rename_i z hz;simp only[ajU]at h;subst h;exact .d (u4 hI lim 8 _ _ z (.rf o ho hg hu hk) hz)
  ·split at h
   ·simp only[ajU]at h;subst h;exact ay.take (.rf o ho hg hu hk) (by simpa [aj]using ‹_›)
   ·cases h
 |pp o ho hg hk =>
  intro y h;simp only[bc]at h;split at h
  ·simp only[ajU]at h;subst h;exact ay.take (.pp o ho hg hk) (by simpa [aj]using ‹_›)
  ·simp only[ajU]at h;subst h;exact .d (.sc _ rfl)
 |mp o ho hg hu hk =>
  intro y h;simp only[bc]at h;split at h
  ·simp only[ajU]at h;subst h;exact ay.take (.mp o ho hg hu hk) (by simpa [aj]using ‹_›)
  ·cases h
 |ag h1 h2 _ ih =>
  intro y h;simp only[bc]at h;obtain⟨cs,oL,rfl⟩:=Option.map_eq_some_iff.1 h;obtain⟨k1,k2⟩:=rb oL;refine .ag ae (λi x hx=>?_) (λi x hx=>?_)
  ·obtain⟨z,hz,_⟩:=k2 i x hx;exact h2 i z hz
  ·obtain⟨z,hz,XN⟩:=k2 i x hx;exact ih i z hz XN
 |tu h1 _ ih =>
  intro y h;simp only[bc]at h;obtain⟨cs,oL,rfl⟩:=Option.map_eq_some_iff.1 h;obtain⟨k1,k2⟩:=rb oL;refine .tu ae (λi x hx=>?_);obtain⟨z,hz,XN⟩:=k2 i x hx;exact ih i z hz XN
 |cap h1 _ ih=>intro y h;exact ih (by simpa only[bc]using h)
 |bx h1 h2 h3 hu h4 =>
  intro y h;simp only[bc]at h;obtain⟨z,hz,rfl⟩:=Option.map_eq_some_iff.1 h;exact .d (u4 hI lim 8 _ _ z (.bx h1 h2 h3 hu h4) hz)
 |cl h1 h2 h3 h4 =>
  intro y h;simp only[bc]at h;split at h
  ·rename_i z hz;simp only[ajU]at h;subst h;exact .d (u4 hI lim 8 _ _ z (.cl h1 h2 h3 h4) hz)
  ·split at h
   ·simp only[ajU]at h;subst h;exact ay.take (.cl h1 h2 h3 h4) (by assumption)
   ·cases h
 |un=>intro y h;simp only[bc,ajU]at h;subst h;exact .un
 |any=>intro y h;simp only[bc,ajU]at h;subst h;exact .any
def aK (lim:Nat) (o:Obj):Bool:=o.au.all λe=>e.all (aj lim)
def Pa (lim:Nat) (s:List Obj) (r:V) (K:V->List Obj->Prop):Prop :=
 (s.take lim).all (aK lim)=true/\match bc lim s r with
  |some r'=>K r' (s.take lim)
  |none=>False
theorem aC.take {σ s w σ' s' w'} (h:aC σ s w σ' s' w') (hl:s.length<=lim):aC σ s w σ' (s'.take lim) w':=by
 refine⟨h.os,h.tape,h.output,h.size,h.aZ,h.shape,h.qc,λb hb=>h.own b ?_,λid o ho=>?_,h.base,h.fj⟩
 ·rcases hb with hb|⟨id,o,base,h1,h2,h3⟩
  ·exact .inl hb
  ·rw[List.getElem?_take]at h1;split at h1
   ·exact .inr ⟨id,o,base,h1,h2,h3⟩
   ·cases h1
 ·obtain⟨o',h1,h2⟩:=h.iN id o ho;have:=(List.getElem?_eq_some_iff.1 ho).1;exact⟨o',by rw[List.getElem?_take,sP];exact h1,h2⟩
theorem Inv.take (h:Inv σ s w) (ho:(s.take lim).all (aK lim)=true):Inv σ (s.take lim) w:=by
 have get:∀(id:Nat) (o:Obj),(s.take lim)[id]?=some o->s[id]?=some o:=by
  intro id o hh;rw[List.getElem?_take]at hh;split at hh
  ·exact hh
  ·cases hh
 refine⟨λid o hh=>?_,λid kX o o' b base bN h1 h2=>h.inj id kX o o' b base bN (get _ _ h1) (get _ _ h2),h.low,λid o b base h1=>h.apart id o b base (get _ _ h1)⟩;rcases h.content id o (get _ _ hh) with h1|⟨b,base,arr,E,h1,h2,h3,h4,h5⟩
 ·exact .inl h1
 ·refine .inr ⟨b,base,arr,E,h1,h2,h3,h4,λi j x hx=>?_⟩;obtain⟨u,k1,k2,k3⟩:=h5 i j x hx;refine⟨u,k1,k2,k3.take ?_⟩;have hobj:=List.all_eq_true.1 ho o (List.mem_of_getElem? hh);cases Df:o.au[i]? with
  |none=>rw[Df]at hx;cases hx
  |some e =>
   rw[Df]at hx;exact List.all_eq_true.1 (List.all_eq_true.1 hobj e (List.mem_of_getElem? Df)) x (List.mem_of_getElem? hx)
def Mt (P:Program) (e:Env) (s:List Obj) (r:ResultVar) (K:V->Prop):Prop :=
 match r with
 |.tmp t=>K (e t)
 |.cell a t=>lT P t s (e a) K
def Iu (P:Program) (e:Env) (s:List Obj):List ResultVar->List V->(List V->Prop)->Prop
 |[],acc,K=>K acc
 |r::rs,acc,K=>Mt P e s r λv=>Iu P e s rs (acc++[v]) K
def CS (P:Program) (rs:List ResultVar) (e:Env) (s:List Obj) (K:V->Prop):Prop :=
 Iu P e s rs [] λvs=>match vs with
  |[v]=>K v
  |vs=>K (.tu vs)
def Vq (tmps:Array Value):ResultVar->Sem Value
 |.tmp t=>pure (tmps.getD t undef)
 |.cell x t=>do loadVar t (<- asAddr (tmps.getD x undef))
theorem MV (fn:Func) (tmps:Array Value):results fn tmps=(do let vs <- fn.results.mapM (Vq tmps);pure (if h:vs.size=1 then vs[0] else .tuple vs)):=by unfold results;congr 1
theorem Nc{r:ResultVar}{K:V->Prop} (hI:Inv σ s w) (hR:dC σ s w N e a) (h:Mt P e s r K) :
  ∃v c,(Vq a.tmps r).run P w=.ok c w/\ay σ s w v c/\K v:=by
 cases r with
 |tmp t=>exact⟨e t,_,rfl,hR.2.2 t,h⟩
 |cell x t =>
  simp only[Mt]at h;have hx:=hR.2.2 x;generalize uV:a.tmps.getD x undef=c at hx;obtain⟨v,r,k1,k2,k3⟩:=DL hI hx h;have hp:∃ad,c=.pointer (some ad):=by
   unfold lT at h;split at h
   ·exact h.elim
   ·split at h
    ·rename_i hh;rw[hh]at hx;cases hx with|d hx=>?_
     cases hx with|el _ ad _ _ _ _=>exact⟨ad,rfl⟩
    ·rename_i hh;rw[hh]at hx;cases hx with|bx _ _ _ _ _=>exact⟨_,rfl⟩
    ·rename_i hh;rw[hh]at hx;split at h
     ·exact h.elim
     ·rename_i o ho;obtain⟨b,base,_,_,hp⟩:=Nt hx ho h.1;exact⟨_,hp⟩
    ·rename_i hh;rw[hh]at hx;exact⟨_,hx.HA⟩
    ·exact h.elim
  obtain⟨ad,rfl⟩:=hp;refine⟨v,r,?_,k2,k3⟩;simp only[Vq,uV,asAddr,Sem.run_bind,Sem.run_pure,Result.andThen_ok];simpa [Instr.loadAt,Instr.sureAddr]using k1
theorem CF {P:Program}{N:Nat}{σ:Gh}{s:List Obj}{w:World}{e:Env}{a:Act} (hI:Inv σ s w) (hR:dC σ s w N e a):∀(rs:List ResultVar) (acc:List V) (K:List V->Prop),Iu P e s rs acc K ->
  ∃vs us,(rs.mapM (Vq a.tmps)).run P w=.ok us w/\us.length=vs.length /\
   (∀(i:Nat) (x:V),vs[i]?=some x->∃u,us[i]?=some u/\ay σ s w x u)/\K (acc++vs)
 |[],acc,K,h=>⟨[],[],ak,rfl,ak,by simpa [Iu]using h⟩
 |r::rs,acc,K,h=>by
  simp only[Iu]at h;obtain⟨v,c,k1,k2,k3⟩:=Nc hI hR h;obtain⟨vs,us,m1,m2,m3,m4⟩:=CF hI hR rs _ K k3;refine⟨v::vs,c::us,?_,by simp [m2],λi x hx=>?_,by simpa using m4⟩
  ·rw[akR,Sem.run_bind,k1,Result.andThen_ok,Sem.run_bind,m1,Result.andThen_ok];rfl
  ·cases i with
   |zero=>simp at hx;subst hx;exact⟨c,rfl,k2⟩
   |succ i=>simpa using m3 i x (by simpa using hx)
theorem mP{K:V->Prop} (hI:Inv σ s w) (hR:dC σ s w N e a) (h:CS P fn.results.toList e s K) :
  ∃v c,(results fn a.tmps).run P w=.ok c w/\ay σ s w v c/\K v:=by
 obtain⟨vs,us,m1,m2,m3,m4⟩:=CF hI hR _ _ _ h;have dZ:(results fn a.tmps).run P w=.ok (if h:us.toArray.size=1 then us.toArray[0] else .tuple us.toArray) w:=by rw[MV];rw[<- Array.toArray_toList (xs:=fn.results),List.mapM_toArray];simp only[Sem.run_bind,Sem.run_map,m1,Result.andThen_ok,Sem.run_pure]
 rw[dZ];simp only[ajO]at m4;split at m4
 ·rename_i v;have hlen:us.length=1:=by simpa using m2
  obtain⟨u,hu,yI⟩:=m3 0 v rfl;refine⟨v,u,?_,yI,m4⟩;rw[dif_pos (by simpa using hlen)];have:=(List.getElem?_eq_some_iff.1 hu).2;simp [this]
 ·rename_i eU;have hlen:us.length≠1:=by
   intro hh;rw[m2]at hh
   match vs,hh,eU with
   |[v],_,eU=>exact eU v rfl
  refine⟨.tu vs,.tuple us.toArray,by rw[dif_neg (by simpa using hlen)],.tu (by simpa using m2) (λi x hx=>?_),m4⟩;obtain⟨u,hu,yI⟩:=m3 i x hx;rw[rr hu];exact yI
def iB:List V->Env
 |[],_=>.un
 |v::_,0=>v
 |_::l,n+1=>iB l n
theorem nR:∀(l:List V) (t:Nat),iB l t=(l[t]?).getD .un
 |[],t=>by simp [iB]
 |v::l,0=>rfl
 |v::l,t+1=>by simp [iB,nR l t]
def Bx:Exit->Prop
 |.normal=>True
 |.ret=>True
 |_=>False
theorem qM (h:Bx ex):ex=.normal\/ex=.ret:=by
 cases ex <;> simp_all [Bx]
def Wr (P:Program) (rs:List ResultVar) (lim:Nat) (K:V->List Obj->Prop) (ex:Exit) (e:Env) (s:List Obj):Prop:=Bx ex/\CS P rs e s λr=>Pa lim s r K
theorem xV{rs:List ResultVar}{K:V->List Obj->Prop}:Wr P rs lim K ex e s=(Bx ex/\CS P rs e s λr=>Pa lim s r K):=rfl
theorem lr {P : Program} {f : FuncId} {fn : Func} {c : Code} {args : List V} {exts : List Obj} {K : V → List Obj → Prop} (hf : P.funcs[f]? = some fn) (hb : fn.body = some c) {N : Nat} (hN : fn.ntmps = N) {rs : Array ResultVar} (St : fn.results = rs) (hn : (fn.name != "runtime.NumGoroutine") = true)
  (lim M:Nat) (hl:exts.length<=lim) (ha:args.length<=N)
  (h:codeWp P N lim M c (Wr P rs.toList lim K) (iB args) exts):ar P f args exts K:=by
 subst hN;subst St;refine⟨by simp only[LH,hf,hn,hb,Option.isSome_some,akV],λσ w vals hI XD hv=>?_⟩;refine calls_of_wp hf hb ?_;have hR:dC σ exts w fn.ntmps (iB args) { tmps:=vals++Array.replicate (fn.ntmps-vals.size) undef,defers:=[] }:=by
  refine⟨rfl,cC,λt=>?_⟩;rw[nR];by_cases ht:t<args.length
  ·have h1:=hv t args[t] (by simp [ht]);have:(vals++Array.replicate (fn.ntmps-vals.size) undef).getD t undef=vals.getD t undef:=by rw[Array.getD_eq_getD_getElem?,Array.getElem?_append_left ae,Array.getD_eq_getD_getElem?]
   rw[this];simpa [ht]using h1
  ·have:(vals++Array.replicate (fn.ntmps-vals.size) undef).getD t undef=undef:=by rw[Array.getD_eq_getD_getElem?,Array.getElem?_append_right ae,Array.getElem?_replicate];split <;> rfl
   rw[this];simp [ht];exact .un
 refine wp_mono (nt hl c _ (iB args) exts σ w _ (aC.refl _ _ _) hI hR h) λex a' w' ⟨e',σ',s',hE,fS,iY,hex,hq⟩=>?_;obtain⟨v,u,k1,k2,k3⟩:=mP fS iY hq;obtain⟨h1,h2⟩:=k3;have fin:a'.defers=[]/\∃v,(results fn a'.tmps).run P w'=.ok v w'/\∃u Tg wm rR,Ending.returned v=.returned u/\aC σ exts w wm rR w'/\Inv wm rR w'/\ay wm rR w' Tg u/\K Tg rR:=by
  refine⟨iY.1,u,k1,?_⟩;split at h2
  ·rename_i r' TW;exact⟨u,r',σ',s'.take lim,rfl,hE.take hl,fS.take h1,iO fS k2 TW,h2⟩
  ·exact h2.elim
 rcases qM hex with rfl|rfl
 ·exact fin
 ·exact fin
theorem bo{f:FuncId}{c:Code}{args:List V}{exts:List Obj}{K:V→List Obj→Prop}(hf:P.funcs[f]?=some fn)(hN:fn.ntmps=N){rs:Array ResultVar}(St:fn.results=rs)(lim M:Nat)(h:codeWp P N lim M c (Wr P rs.toList lim K) (iB args) exts)(hb:fn.body=some c:=by rfl)(hn:(fn.name != "runtime.NumGoroutine")=true:=by rfl)(hl:exts.length≤lim:=by simp)(ha:args.length≤N:=by simp):ar P f args exts K:=lr hf hb hN St hn lim M hl ha h
end Go.VL
