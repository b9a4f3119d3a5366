/- A part of the proof (H4). -/
import Derived.Test.YtllagoeijcjpiaaBD31
set_option linter.unusedSimpArgs false
set_option linter.unusedVariables false
set_option maxRecDepth 100000
set_option maxHeartbeats 80000000
namespace Go.Proofs.Ytllagoeijcjpiaa
open Go.VL
def PS (P:Re) (t:List Int) (F:Int) (nc:Nat) (ah:Int) (task:ETask) (st:aU) (b:Bool) (st':aU) (o d d':Int):Prop :=
 ∀(base:Nat) (S:List ao),(S.length:Int)=o→match task with
  |.run h i c=>jT t F nc base S ah i c st→∀m g,MS P t F m S st.steps→m.aC=d→GR P g h→GK nc i st.steps h→cA P t F nc base S ah i m ⟨i,c,g⟩ true st b st' d'
  |.rep re k nx i c=>jT t F nc base S ah i c st→∀m g,MS P t F m S st.steps→m.aC=d→GR P g nx→GK nc i st.steps nx→re.every (vB nc)=true→re.op=4→0≤k→k≤st.steps →
    (re.mode=2→∀r n a,ph P r=some re→cA P t F nc base S ah i m ⟨i,c,.mk 0 r n a g⟩ true st b st' d')∧(re.mode≠2→∀r rj a,ph P r=some rj→RT rj re→cA P t F nc base S ah i m ⟨i,c,.mk 2 r k a g⟩ true st b st' d')
  |.node re nx i c=>jT t F nc base S ah i c st→∀m g,MS P t F m S st.steps→m.aC=d→GR P g nx→GK nc i st.steps nx→re.every (vB nc)=true→∀r n a,ph P r=some re→cA P t F nc base S ah i m ⟨i,c,.mk 0 r n a g⟩ true st b st' d'
  |.body re nx i c=>jT t F nc base S ah i c st→∀m g,MS P t F m S st.steps→m.aC=d→GR P g nx→GK nc i st.steps nx→re.every (vB nc)=true→re.op≠4→(S.length:Int)+1≤st.steps→∀r,ph P r=some re →
    ∃m1 p1 a1,(∃k,wg (fun m base p=>aQ k true m base p true) m r re ⟨i,c,g⟩=some (m1,p1,a1))∧Po m m1∧cA P t F nc base S ah i m1 p1 a1 st b st' d'
  |.alt l nx i c=>match l with
    |[]=>b=false∧st'=st∧d'=d
    |kid::l'=>jT t F nc base S ah i c st→∀m g,MS P t F m S st.steps→m.aC=d→GR P g nx→GK nc i st.steps nx→(S.length:Int)+1≤st.steps→∀re r j a,ph P r=some re→re.every (vB nc)=true→re.kids.drop j=kid::l' →
      cA P t F nc base S ah i m ⟨i,c,.mk 1 r j a g⟩ true st b st' d'
  |.behind re kid nx i c j=>jT t F nc base S ah i c st→∀m g,MS P t F m S st.steps→m.aC=d→GR P g nx→GK nc i st.steps nx→kid.every (vB nc)=true→(j:Int)≤i+1 →
    ∃m1 p1 a1,(∃k,dz (fun q m=>bY (fun m base p=>aQ k true m base p true) m ⟨q,c,.mk 0 (.el kid) 0 0 (.mk 5 .nil 0 i .nil)⟩) re.neg ⟨i,c,g⟩ 0 j m=some (m1,p1,a1))∧Po m m1∧cA P t F nc base S ah i m1 p1 a1 st b st' d'
section RC
variable {P:Re}{t:List Int}{F:Int}{nc:Nat} (X:Fx t F nc)
include X
omit X in
theorem dM {h:Goal}{q:Int}{c:aq}{st x:aU}{b:Bool}{base:Nat}{S:List ao}{ah i:Int}{m:aB}{g:aI}{d d':Int} (ih:PS P t F nc 1 (.run h q c) st.sub b x (S.length:Int) d d')
  (hP:jT t F nc base S ah i c st) (h0:0≤q) (h1:q≤t.length) (hM:MS P t F m S st.steps) (hd:m.aC=d) (hg:GR P g h) (hk:GK nc q st.steps h):EZ P t F nc S q m ⟨q,c,g⟩ st.steps x d' :=
 Fs hM (ih S.length S rfl (hP.sub h0 h1) m g hM hd hg hk)
theorem jb {i:Int}{c:aq}{base:Nat}{S:List ao}{ah:Int}{st:aU}{m:aB} (hP:jT t F nc base S ah i c st) (hM:MS P t F m S st.steps) (gb:aI):m.cX ⟨i,c,gb⟩ :=
 hM.cX (p:=⟨i,c,gb⟩) X.ht X.hF hP.s0 hP.s1 hP.i0 hP.i1 (by show c.length≤_;rw[hP.cl];exact X.nc)
theorem zm {base:Nat}{S:List ao}{ah i:Int}{c:aq}{st:aU}{m:aB}{o d:Int} (hP:jT t F nc base S ah i c st) (hM:MS P t F m S st.steps) (hd:m.aC=d) (ho:(S.length:Int)=o) (q:ao) (dR:(S.length:Int)+1≤st.steps) :
  MS P t F (m.push q) (S++[q]) st.steps∧Po m (m.push q)∧(m.push q).aC=max d (o+1)∧jT t F nc base (S++[q]) ah i c st∧((S++[q]).length:Int)=o+1:=by
 obtain⟨h1,h2⟩:=wm hM q dR X.hF hP.s1
 have ht:=hM.dY.2.1
 refine⟨h1,h2,?_,hP.on hP.empty (Vr _) hP.s1 hP.ah (by rw[VN];have:=hP.base;omega),by rw[VN];simp;omega⟩
 show max m.aC ((m.top+1:Nat):Int)=_
 rw[hd,ht,← ho]
 rfl
omit X in
theorem Cu {re kid:Re}{j:Nat}{l:List Re} (h:re.kids.drop j=kid::l):re.kids[j]?=some kid∧re.kids.drop (j+1)=l∧j<re.kids.length:=by
 have nP:re.kids[j]?=some kid:=by
  have:=congrArg (fun l=>l[0]?) h
  simpa using this
 refine⟨nP,?_,(List.getElem?_eq_some_iff.1 nP).1⟩
 have h1:re.kids.drop (j+1)=(re.kids.drop j).drop 1:=by rw[List.drop_drop]
 rw[h1,h];rfl
theorem L8 {base:Nat}{S:List ao}{ah i:Int}{c:aq}{st:aU}{m:aB}{g:aI}{re:Re} (hP:jT t F nc base S ah i c st) (hv:re.every (vB nc)=true) (ho:re.op=6) (hM:MS P t F m S st.steps) :
  ∃x,bo c re.n=x∧tb m.t re ⟨i,c,g⟩=(if x.1<0∨(t.length:Int)-i<x.2-x.1 then some (.zero,false) else if x.2<x.1∨(t.length:Int)<x.2 then none
    else if cO t x.1 i (x.2-x.1).toNat=true then some (⟨i+(x.2-x.1),c,g⟩,true) else some (.zero,false))∧True:=by
 obtain⟨⟨_,_,_,_,v5,_,_⟩,_⟩:=bJ hv
 obtain⟨w1,w2⟩:=v5 (by omega)
 have cI:=hP.cl
 have eD:bo c re.n=c.getD (re.n-1).toNat (-1,-1):=by unfold bo;rw[if_neg (by omega)]
 have D6:=wQ hP.ai re.n
 rw[eD]at D6 ⊢
 refine⟨_,rfl,?_,trivial⟩
 rw[hM.t]
 unfold tb
 rw[if_neg (by show ¬(re.n<1∨(c.length:Int)<re.n);omega)]
 simp only
 rw[if_neg]
 have ht:=X.ht
 rcases D6 with D6|D6
 ·rw[D6];simp
 ·omega
theorem RW {ah:Int}{task:ETask}{st st':aU}{b:Bool}{o d d':Int} (h:eM t F ah task st b st' o d d'):PS P t F nc ah task st b st' o d d':=by
 have Ra:=X.hF
 induction h with
 |@found o d ah i c st h0 h1 hl wq =>
  intro base S eY hP m g hM hd hg hk
  cases hg
  subst hd
  have oK:((st.ends++[i]).length:Int)=st.ends.length+1:=by simp
  cases hb:(decide (0≤ah)&&decide (ah≤(st.ends.length:Int)+1)) with
  |true =>
   simp only[VE,decide_eq_true_eq]at hb
   have:=hP.ah hb.1
   exact⟨[(i,c)],m,rfl,rfl,fun r hr=>by rw[List.mem_singleton.1 hr];exact⟨Vr _,h1,hP.ai,hP.cl⟩,⟨.refl m,rfl⟩,Vr _,.inr (.inl ⟨rfl,hP.empty,hb.1,by simp only[oK];omega,hP.s1,[],[],i,c,by simpa using hM,rfl,.refl _ _ _⟩)⟩
  |false =>
   refine⟨[(i,c)],m,rfl,rfl,fun r hr=>by rw[List.mem_singleton.1 hr];exact⟨Vr _,h1,hP.ai,hP.cl⟩,⟨.refl m,rfl⟩,Vr _,.inl ⟨rfl,hP.empty,fun hm=>?_,hM,hP.s1,.zero,.emit hM.aW (.refl _ _ _)⟩⟩
   have:=hP.ah hm
   simp only[oK]
   by_cases hle:ah≤(st.ends.length:Int)+1
   ·rw[decide_eq_true hm,decide_eq_true hle]at hb;cases hb
   ·omega
 |tree eO yw AL L3 h0 h1 _ ih =>
  intro base S eY hP m g hM hd hg hk
  cases hg with
  |tree hr hg=>exact ih base S eY hP m _ hM hd hg hk.2.2.2.2.2 (hk.1 L3) _ _ _ hr
  |round=>exact absurd rfl eO
  |more=>exact absurd rfl yw
  |vb=>exact absurd rfl yw
  |cap=>exact absurd rfl AL
  |oA=>exact absurd rfl L3
 |Aa h0 h1 _ ih =>
  intro base S eY hP m g hM hd hg hk
  cases hg with
  |round hr ht hg =>
   obtain⟨k1,k2,k3,k4,k5,k6⟩:=hk
   obtain⟨o4,hm,dL⟩:=k2 (.inl rfl)
   exact(ih base S eY hP m _ hM hd hg k6 (k1 (by decide)) o4 dL (k3 rfl)).2 hm _ _ _ hr ht
 |@stay o d ah k f i re nx c st h0 h1 eO hi =>
  intro base S eY hP m g hM hd hg hk
  cases hg with
  |more hr ht hn hg=>omega
  |@vb r rj _ _ _ g0 _ hr ht hn hg =>
   subst hi
   obtain⟨k1,k2,k3,k4,k5,k6⟩:=hk
   have:=k4 rfl
   have:=hP.s1
   obtain⟨_,_,dL⟩:=k2 (.inr rfl)
   have hF:=hP.s0
   have gg:=tH (jb X hP hM (.mk 3 r (k+1) i g0)) (by omega) (by omega)
   rw[if_pos rfl]at gg
   rw[← hd]
   exact cA.kA rfl gg (.refl m) (cA.no hM hP.empty hP.ah hP.s1)
 |@iter o d d' ah k f i re nx c st st' b h0 h1 RN dL eO eT ih =>
  intro base S eY hP m g hM hd hg hk
  obtain⟨k1,k2,k3,k4,k5,k6⟩:=hk
  obtain⟨o4,hm,Rp⟩:=k2 (.inr rfl)
  have aT:=k4 rfl
  have ga:=hP.s1
  have rb:GK nc i st.steps (.mk 1 re (k+1) 0 nx):=⟨fun _=>k1 (by decide),fun _=>⟨o4,hm,by omega⟩,fun _=>by omega,fun h=>by omega,fun h=>by omega,k6⟩
  cases hg with
  |more hr ht hn hg=>exact ih base S eY hP m _ hM hd (.round hr ht hg) rb
  |@vb r rj _ _ _ g0 _ hr ht hn hg =>
   have gg:=tH (jb X hP hM (.mk 3 r (k+1) f g0)) (by omega) (by omega)
   rw[if_neg (fun h=>RN ⟨hn,h⟩)]at gg
   exact cA.kA rfl gg (.refl m) (ih base S eY hP m _ hM hd (.round hr ht hg) rb)
 |@save o d d' ah k f i re nx c st st' b h0 h1 eT ih =>
  intro base S eY hP m g hM hd hg hk
  obtain⟨k1,k2,k3,k4,k5,k6⟩:=hk
  obtain⟨o5,f0,f1⟩:=k5 rfl
  obtain⟨⟨_,_,_,_,v5,_,_⟩,_⟩:=bJ (k1 (by decide))
  obtain⟨w1,w2⟩:=v5 (.inl o5)
  have cI:=hP.cl
  have hw:jf c re.n f i=c.set (re.n-1).toNat (f,i):=by unfold jf;rw[if_pos ⟨w1,by omega⟩]
  obtain⟨c1,c2⟩:=cr.with (n:=re.n) hP.ai f0 f1 h1
  cases hg with
  |cap hr hg =>
   refine cA.kA rfl (FU (jb X hP hM _) (fl hM hr) w1 (by omega)) (.refl m) ?_
   rw[hw]at ih c1 c2
   exact ih base S eY (hP.at hP.i0 hP.i1 c1 (by rw[c2];exact cI)) m _ hM hd hg k6
 |@here o d d' ah k f i re nx c st st' b h0 h1 hi eT ih =>
  intro base S eY hP m g hM hd hg hk
  obtain⟨k1,k2,k3,k4,k5,k6⟩:=hk
  cases hg with
  |@oA r _ _ _ g0 _ hg =>
   have gg:=rO (r:=r) (g:=g0) (a:=f) (jb X hP hM _)
   rw[decide_eq_true hi]at gg
   exact cA.kA rfl gg (.refl m) (ih base S eY hP m _ hM hd hg k6)
 |@gone o d ah k f i re nx c st h0 h1 hi =>
  intro base S eY hP m g hM hd hg hk
  cases hg with
  |@oA r _ _ _ g0 _ hg =>
   have gg:=rO (r:=r) (g:=g0) (a:=f) (jb X hP hM _)
   rw[decide_eq_false hi]at gg
   rw[← hd]
   exact cA.kA rfl gg (.refl m) (cA.no hM hP.empty hP.ah hP.s1)
 |@qc o d d' ah k i re nx c st x b hm eT hx ih =>
  intro base S eY hP m g hM hd hg hk hv o4 dL eO
  subst eY
  refine⟨fun _ r n a hr=>?_,fun h=>absurd hm h⟩
  obtain⟨⟨_,_,v3,v4,_,_,_⟩,_⟩:=bJ hv
  have hf:=dM (g:=.mk 2 r 0 0 .nil) ih hP hP.i0 hP.i1 hM hd (.round hr (.inr ⟨hm,rfl⟩) .nil) ⟨fun _=>iQ hv 0,fun _=>⟨o4,by simp [Re.bP,Re.mode],Vr _⟩,fun _=>hP.s0,fun h=>by omega,fun h=>by omega,trivial⟩
  obtain⟨m1,rr,f,⟨kk,eO⟩,hp,kx⟩:=jU (g:=g) (b:=true) (st':=st.ib x) (d':=d') hP hf (fun _=>⟨rfl,rfl,rfl⟩) (fun h=>by rw[hx]at h;cases h) (fun e d h=>by rw[hx]at h;cases h)
  exact cA.kA rfl (ft (jb X hP hM _) ⟨kk,by rw[sd (fl hM hr) v3 v4 o4 hm];exact eO⟩) hp kx
 |@uz o d d' ah k i re nx c st x b hm eT hx he ih =>
  intro base S eY hP m g hM hd hg hk hv o4 dL eO
  subst eY
  refine⟨fun _ r n a hr=>?_,fun h=>absurd hm h⟩
  obtain⟨⟨_,_,v3,v4,_,_,_⟩,_⟩:=bJ hv
  have hf:=dM (g:=.mk 2 r 0 0 .nil) ih hP hP.i0 hP.i1 hM hd (.round hr (.inr ⟨hm,rfl⟩) .nil) ⟨fun _=>iQ hv 0,fun _=>⟨o4,by simp [Re.bP,Re.mode],Vr _⟩,fun _=>hP.s0,fun h=>by omega,fun h=>by omega,trivial⟩
  obtain⟨m1,rr,f,⟨kk,eO⟩,hp,kx⟩:=jU (g:=g) (b:=false) (st':=st.ib x) (d':=d') hP hf (fun h=>by rw[hx]at h;cases h) (fun _ _=>⟨rfl,rfl,rfl⟩) (fun e d _ h=>by rw[he]at h;cases h)
  exact cA.kA rfl (ft (jb X hP hM _) ⟨kk,by rw[sd (fl hM hr) v3 v4 o4 hm];exact eO⟩) hp kx
 |@qZ o d d' d1 ah k i e re nx c d0 le ld st x st' b b' hm eT hx he mc pH ih gz =>
  intro base S eY hP m g hM hd hg hk hv o4 dL eO
  subst eY
  refine⟨fun _ r n a hr=>?_,fun h=>absurd hm h⟩
  obtain⟨⟨_,_,v3,v4,_,_,_⟩,_⟩:=bJ hv
  have hf:=dM (g:=.mk 2 r 0 0 .nil) ih hP hP.i0 hP.i1 hM hd (.round hr (.inr ⟨hm,rfl⟩) .nil) ⟨fun _=>iQ hv 0,fun _=>⟨o4,by simp [Re.bP,Re.mode],Vr _⟩,fun _=>hP.s0,fun h=>by omega,fun h=>by omega,trivial⟩
  have aH:st.steps≤x.steps:=by obtain⟨_,_,_,_,_,_,_,h,_⟩:=hf;exact h
  obtain⟨m1,rr,f,⟨kk,eO⟩,hp,kx⟩:=jU (g:=g) (b:=b') (st':=st') (d':=d') hP hf (fun h=>by rw[hx]at h;cases h) (fun _ h=>by rw[he]at h;cases h) (fun e1 e2 _ l1 l2 l3 l4 l5 l6 lF m1 pY pS=>by
   rw[he]at l1;rw[mc]at l2
   cases l1;cases l2
   exact gz base S rfl (hP.ib hx aH lF (by have:=hP.i0;omega) l4 l5 l6) m1 g pY pS hg (hk.mono l3 aH))
  exact cA.kA rfl (ft (jb X hP hM _) ⟨kk,by rw[sd (fl hM hr) v3 v4 o4 hm];exact eO⟩) hp kx
 |@uo o d ah k i re nx c st hm hs he =>
  intro base S eY hP m g hM hd hg hk hv o4 dL eO
  refine⟨fun h=>absurd h hm,fun _ r rj a hr ht=>?_⟩
  obtain⟨⟨v1,_,_,_,_,_,_⟩,_⟩:=bJ hv
  obtain⟨kid,l,bH⟩:∃kid l,re.kids=kid::l:=by
   cases hh:re.kids with
   |nil=>exact absurd hh (v1 (by omega))
   |cons y l=>exact⟨y,l,rfl⟩
  have hF:=zd hP.empty he
  have ga:=hP.s1
  obtain⟨q1,q2,q3⟩:=sY hM hF
  rw[← hd,← zr]
  exact cA.kA rfl (fq (jb X hP hM _) dL (by omega) (Ik (fl hM hr) ht bH (by rw[hM.steps,hM.fuel];exact hF))) q3 (cA.out q1 q2 he hP.ah rfl rfl (by show st.steps≤st.steps+1;omega))
 |@ug o d d' ah k i re kid l nx c st st' b hm hs he bH uK eT ih =>
  intro base S eY hP m g hM hd hg hk hv o4 dL eO
  refine⟨fun h=>absurd h hm,fun _ r rj a hr ht=>?_⟩
  obtain⟨_,fJ⟩:=bJ hv
  have aT:=(jc he).2
  have ga:=hP.s1
  have aH:(st.step F).steps=st.steps+1:=rfl
  obtain⟨pY,yg,gT⟩:=kZ hM aT
  have dF:=nA (i:=i) (c:=c) (g:=g) (k:=k) (fl hM hr) ht hm bH (by rw[hM.steps,hM.fuel];exact aT)
  rw[if_pos uK]at dF
  refine cA.kA rfl (fq (jb X hP hM _) dL (by omega) dF) yg (cA.dZ (s0:=st.step F) (ih base S eY (hP.step he) m.step _ pY (gT.trans hd) (.tree rfl (.more hr ht uK hg)) ?_) (Vr _) rfl rfl (by omega))
  exact⟨fun _=>fJ kid (by rw[bH];simp),fun h=>by omega,fun h=>by omega,fun h=>by omega,fun h=>by omega,fun _=>hv,fun _=>⟨o4,hm,dL⟩,fun h=>by omega,fun _=>by omega,fun h=>by omega,hk.mono (Vr _) (by omega)⟩
 |@oV o d d' ah k i re kid l nx c st st' b hm hs he bH uK hx eT ih =>
  intro base S eY hP m g hM hd hg hk hv o4 dL eO
  refine⟨fun h=>absurd h hm,fun _ r rj a hr ht=>?_⟩
  obtain⟨⟨_,_,_,_,_,_,v7⟩,fJ⟩:=bJ hv
  have QY:=v7 o4
  have aT:=(jc he).2
  have ga:=hP.s1
  have aH:(st.step F).steps=st.steps+1:=rfl
  obtain⟨pY,yg,gT⟩:=kZ hM aT
  have dF:=nA (i:=i) (c:=c) (g:=g) (k:=k) (fl hM hr) ht hm bH (by rw[hM.steps,hM.fuel];exact aT)
  rw[if_neg uK,if_pos (by omega)]at dF
  exact cA.kA rfl (fq (jb X hP hM _) dL (by omega) dF) yg (cA.dZ (s0:=st.step F) (ih base S eY (hP.step he) m.step _ pY (gT.trans hd) hg (hk.mono (Vr _) (by omega))) (Vr _) rfl rfl (by omega))
 |@Ai o d d' ah k i re kid l nx c st st' hm hs he bH uK hx eT ih =>
  intro base S eY hP m g hM hd hg hk hv o4 dL eO
  refine⟨fun h=>by omega,fun vx r rj a hr ht=>?_⟩
  have aT:=(jc he).2
  have ga:=hP.s1
  have aH:(st.step F).steps=st.steps+1:=rfl
  obtain⟨pY,yg,gT⟩:=kZ hM aT
  have dF:=nA (i:=i) (c:=c) (g:=g) (k:=k) (fl hM hr) ht vx bH (by rw[hM.steps,hM.fuel];exact aT)
  rw[if_neg uK,if_neg (by omega),if_pos hm]at dF
  obtain⟨p1,p2,p3,p4,p5⟩:=zm X (hP.step he) pY (gT.trans hd) eY ⟨i,c,.mk 0 (.el kid) 0 0 (.mk 3 r (k+1) i g)⟩ (by have:=hM.room;omega)
  exact cA.kA rfl (fq (jb X hP hM _) dL (by omega) dF) (yg.trans p2) (cA.dZ (s0:=st.step F) (cA.grow (ih base _ p5 p4 _ _ p1 p3 hg (hk.mono (Vr _) (by omega)))) (Vr _) rfl rfl (by omega))
 |@zj o d d' d1 ah k i re kid l nx c st s2 st' b hm hs he bH uK hx eT pH ih gz =>
  intro base S eY hP m g hM hd hg hk hv o4 dL eO
  refine⟨fun h=>by omega,fun vx r rj a hr ht=>?_⟩
  obtain⟨_,fJ⟩:=bJ hv
  have aT:=(jc he).2
  have ga:=hP.s1
  have aH:(st.step F).steps=st.steps+1:=rfl
  obtain⟨pY,yg,gT⟩:=kZ hM aT
  have dF:=nA (i:=i) (c:=c) (g:=g) (k:=k) (fl hM hr) ht vx bH (by rw[hM.steps,hM.fuel];exact aT)
  rw[if_neg uK,if_neg (by omega),if_pos hm]at dF
  obtain⟨p1,p2,p3,p4,p5⟩:=zm X (hP.step he) pY (gT.trans hd) eY ⟨i,c,.mk 0 (.el kid) 0 0 (.mk 3 r (k+1) i g)⟩ (by have:=hM.room;omega)
  refine cA.kA rfl (fq (jb X hP hM _) dL (by omega) dF) (yg.trans p2) (cA.dZ (s0:=st.step F) (cA.then hP.base (ih base _ p5 p4 _ _ p1 p3 hg (hk.mono (Vr _) (by omega))) (fun m2 Px EI IY LJ xS QD=>?_)) (Vr _) rfl rfl (by omega))
  refine gz base S eY ((hP.step he).on EI xS IY LJ hP.base) m2.pop _ Px.pop QD (.tree rfl (.vb hr ht (by omega) hg)) ?_
  exact⟨fun _=>fJ kid (by rw[bH];simp),fun h=>by omega,fun h=>by omega,fun h=>by omega,fun h=>by omega,fun _=>hv,fun _=>⟨o4,vx,dL⟩,fun h=>by omega,fun _=>by omega,fun h=>by omega,hk.mono (Vr _) (by omega)⟩
 |@ze o d d' ah k i re kid l nx c st st' vx hm hs he bH uK hx eT ih =>
  intro base S eY hP m g hM hd hg hk hv o4 dL eO
  refine⟨fun h=>absurd h vx,fun _ r rj a hr ht=>?_⟩
  obtain⟨_,fJ⟩:=bJ hv
  have aT:=(jc he).2
  have ga:=hP.s1
  have aH:(st.step F).steps=st.steps+1:=rfl
  obtain⟨pY,yg,gT⟩:=kZ hM aT
  have dF:=nA (i:=i) (c:=c) (g:=g) (k:=k) (fl hM hr) ht vx bH (by rw[hM.steps,hM.fuel];exact aT)
  rw[if_neg uK,if_neg (by omega),if_neg hm]at dF
  obtain⟨p1,p2,p3,p4,p5⟩:=zm X (hP.step he) pY (gT.trans hd) eY ⟨i,c,g⟩ (by have:=hM.room;omega)
  refine cA.kA rfl (fq (jb X hP hM _) dL (by omega) dF) (yg.trans p2) (cA.dZ (s0:=st.step F) (cA.grow (ih base _ p5 p4 _ _ p1 p3 (.tree rfl (.vb hr ht (by omega) hg)) ?_)) (Vr _) rfl rfl (by omega))
  exact⟨fun _=>fJ kid (by rw[bH];simp),fun h=>by omega,fun h=>by omega,fun h=>by omega,fun h=>by omega,fun _=>hv,fun _=>⟨o4,vx,dL⟩,fun h=>by omega,fun _=>by omega,fun h=>by omega,hk.mono (Vr _) (by omega)⟩
 |@z7 o d d' d1 ah k i re kid l nx c st s2 st' b vx hm hs he bH uK hx eT pH ih gz =>
  intro base S eY hP m g hM hd hg hk hv o4 dL eO
  refine⟨fun h=>absurd h vx,fun _ r rj a hr ht=>?_⟩
  obtain⟨_,fJ⟩:=bJ hv
  have aT:=(jc he).2
  have ga:=hP.s1
  have aH:(st.step F).steps=st.steps+1:=rfl
  obtain⟨pY,yg,gT⟩:=kZ hM aT
  have dF:=nA (i:=i) (c:=c) (g:=g) (k:=k) (fl hM hr) ht vx bH (by rw[hM.steps,hM.fuel];exact aT)
  rw[if_neg uK,if_neg (by omega),if_neg hm]at dF
  obtain⟨p1,p2,p3,p4,p5⟩:=zm X (hP.step he) pY (gT.trans hd) eY ⟨i,c,g⟩ (by have:=hM.room;omega)
  refine cA.kA rfl (fq (jb X hP hM _) dL (by omega) dF) (yg.trans p2) (cA.dZ (s0:=st.step F) (cA.then hP.base (ih base _ p5 p4 _ _ p1 p3 (.tree rfl (.vb hr ht (by omega) hg)) ?_) (fun m2 Px EI IY LJ xS QD=>?_)) (Vr _) rfl rfl (by omega))
  ·exact⟨fun _=>fJ kid (by rw[bH];simp),fun h=>by omega,fun h=>by omega,fun h=>by omega,fun h=>by omega,fun _=>hv,fun _=>⟨o4,vx,dL⟩,fun h=>by omega,fun _=>by omega,fun h=>by omega,hk.mono (Vr _) (by omega)⟩
  ·exact gz base S eY ((hP.step he).on EI xS IY LJ hP.base) m2.pop _ Px.pop QD hg (hk.mono (Vr _) (by omega))
 |@qJ o d d' ah i re nx c st st' b ho h0 h1 eT ih =>
  intro base S eY hP m g hM hd hg hk hv r n a hr
  obtain⟨⟨_,_,v3,v4,_,_,_⟩,_⟩:=bJ hv
  by_cases hm:re.mode=2
  ·exact(ih base S eY hP m g hM hd hg hk hv ho (Vr _) hP.s0).1 hm r n a hr
  ·exact cA.kA rfl (ft (jb X hP hM _) ⟨0,HG (fl hM hr) v3 v4 ho hm⟩) (.refl m) ((ih base S eY hP m g hM hd hg hk hv ho (Vr _) hP.s0).2 hm r re 0 hr (.inl ⟨rfl,hm⟩))
 |@qW o d ah i re nx c st ho hs he =>
  intro base S eY hP m g hM hd hg hk hv r n a hr
  obtain⟨⟨_,_,v3,v4,_,_,_⟩,_⟩:=bJ hv
  have hF:=zd hP.empty he
  obtain⟨q1,q2,q3⟩:=sY hM hF
  rw[← hd,← zr]
  exact cA.kA rfl (ft (jb X hP hM _) ⟨0,Hn (fl hM hr) v3 v4 ho (by rw[hM.steps,hM.fuel];exact hF)⟩) q3 (cA.out q1 q2 he hP.ah rfl rfl (by show st.steps≤st.steps+1;omega))
 |@node o d d' ah i re nx c st st' b ho hs he eT ih =>
  intro base S eY hP m g hM hd hg hk hv r n a hr
  obtain⟨⟨_,_,v3,v4,_,_,_⟩,_⟩:=bJ hv
  have aT:=(jc he).2
  have aH:(st.step F).steps=st.steps+1:=rfl
  obtain⟨pY,yg,gT⟩:=kZ hM aT
  obtain⟨m1,p1,a1,⟨k,eO⟩,hp,kx⟩:=ih base S eY (hP.step he) m.step g pY (gT.trans hd) hg (hk.mono (Vr _) (by omega)) hv ho (by have:=hM.room;omega) r hr
  exact cA.kA rfl (ft (jb X hP hM _) ⟨k,by rw[Ix (fl hM hr) v3 v4 ho (by rw[hM.steps,hM.fuel];exact aT)];exact eO⟩) (yg.trans hp) (kx.dZ (Vr _) rfl rfl (by omega))
 |@empty o d d' ah i re nx c st st' b ho eT ih =>
  intro base S eY hP m g hM hd hg hk hv o4 dR r hr
  simp only[Wu,List.not_mem_nil,or_false,not_or]at ho
  exact⟨m,⟨i,c,g⟩,true,⟨0,by simp [wg,ho]⟩,.refl m,ih base S eY hP m g hM hd hg hk⟩
 |@tY o d d' ah i re nx c st st' b ho hi hs eT ih =>
  intro base S eY hP m g hM hd hg hk hv o4 dR r hr
  have hi0:=hP.i0
  refine⟨m,⟨i+1,c,g⟩,true,⟨0,?_⟩,.refl m,(ih base S eY (hP.at (by omega) (by omega) hP.ai hP.cl) m g hM hd hg (hk.mono (by omega) (Vr _))).dZ (by omega) rfl rfl (Vr _)⟩
  unfold wg iW
  rw[if_pos ho,hM.t,if_pos ⟨hi,hs⟩]
 |@zf o d ah i re nx c st ho hn =>
  intro base S eY hP m g hM hd hg hk hv o4 dR r hr
  rw[← hd]
  refine⟨m,.zero,false,⟨0,?_⟩,.refl m,cA.no hM hP.empty hP.ah hP.s1⟩
  unfold wg iW
  rw[if_pos ho,hM.t,if_neg hn]
 |@cat o d d' ah i re nx c st st' b ho eT ih =>
  intro base S eY hP m g hM hd hg hk hv o4 dR r hr
  obtain⟨_,fJ⟩:=bJ hv
  exact⟨m,⟨i,c,eo re.kids g⟩,true,⟨0,by simp [wg,ho]⟩,.refl m,ih base S eY hP m _ hM hd (AO hg re.kids) (vZ hk re.kids fJ)⟩
 |@alt o d d' ah i re nx c st st' b ho eT ih =>
  intro base S eY hP m g hM hd hg hk hv o4 dR r hr
  obtain⟨⟨v1,_,_,_,_,_,_⟩,_⟩:=bJ hv
  have ih:=ih base S eY
  cases bH:re.kids with
  |nil=>exact absurd bH (v1 (by omega))
  |cons kid l =>
   rw[bH]at ih
   exact⟨m,⟨i,c,.mk 1 r 0 0 g⟩,true,⟨0,by simp [wg,ho,iA]⟩,.refl m,ih hP m g hM hd hg hk dR re r 0 0 hr hv (by rw[Wx,bH])⟩
 |uB=>intro base S eY;exact⟨rfl,rfl,rfl⟩
 |@GJ o d d' ah i kid l nx c st st' eT ih =>
  intro base S eY hP m g hM hd hg hk dR re r j a hr hv xH
  obtain⟨nP,uj,hj⟩:=Cu xH
  obtain⟨⟨_,_,_,v4,_,_,_⟩,fJ⟩:=bJ hv
  have gg:=w9 (re:=re) (kid:=kid) (jb X hP hM (.mk 1 r j a g)) (by omega) (by omega) (fl hM hr) v4 (by simpa using nP)
  have Ow:GK nc i st.steps (.mk 0 kid 0 0 nx):=⟨fun _=>fJ kid (Vy nP),fun h=>by omega,fun h=>by omega,fun h=>by omega,fun h=>by omega,hk⟩
  cases l with
  |nil =>
   have hlen:re.kids.length=j+1:=by have:=congrArg List.length uj;simp at this;omega
   rw[if_neg (by omega)]at gg
   rw[show aO ([]:List Re) o=o from if_pos rfl,show aD ([]:List Re) o d=d from if_pos rfl]at ih
   exact cA.kA rfl gg (.refl m) (ih base S eY hP m _ hM hd (.tree rfl hg) Ow)
  |cons k2 l2 =>
   have hlen:j+1<re.kids.length:=by have:=congrArg List.length uj;simp at this;omega
   rw[if_pos (by omega)]at gg
   rw[show aO (k2::l2) o=o+1 from if_neg (by simp),show aD (k2::l2) o d=max d (o+1) from if_neg (by simp)]at ih
   obtain⟨p1,p2,p3,p4,p5⟩:=zm X hP hM hd eY ⟨i,c,.mk 1 r ((j:Int)+1) 0 g⟩ dR
   exact cA.kA rfl gg p2 (cA.grow (ih base _ p5 p4 _ _ p1 p3 (.tree rfl hg) Ow))
 |@AE o d d' d1 ah i kid l nx c st s2 st' b eT pH ih gz =>
  intro base S eY hP m g hM hd hg hk dR re r j a hr hv xH
  obtain⟨nP,uj,hj⟩:=Cu xH
  obtain⟨⟨_,_,_,v4,_,_,_⟩,fJ⟩:=bJ hv
  have gg:=w9 (re:=re) (kid:=kid) (jb X hP hM (.mk 1 r j a g)) (by omega) (by omega) (fl hM hr) v4 (by simpa using nP)
  have Ow:GK nc i st.steps (.mk 0 kid 0 0 nx):=⟨fun _=>fJ kid (Vy nP),fun h=>by omega,fun h=>by omega,fun h=>by omega,fun h=>by omega,hk⟩
  cases l with
  |nil =>
   have hlen:re.kids.length=j+1:=by have:=congrArg List.length uj;simp at this;omega
   rw[if_neg (by omega)]at gg
   rw[show aO ([]:List Re) o=o from if_pos rfl,show aD ([]:List Re) o d=d from if_pos rfl]at ih
   obtain⟨rfl,rfl,rfl⟩:=gz base S eY
   exact cA.kA rfl gg (.refl m) (ih base S eY hP m _ hM hd (.tree rfl hg) Ow)
  |cons k2 l2 =>
   have hlen:j+1<re.kids.length:=by have:=congrArg List.length uj;simp at this;omega
   rw[if_pos (by omega)]at gg
   rw[show aO (k2::l2) o=o+1 from if_neg (by simp),show aD (k2::l2) o d=max d (o+1) from if_neg (by simp)]at ih
   obtain⟨p1,p2,p3,p4,p5⟩:=zm X hP hM hd eY ⟨i,c,.mk 1 r ((j:Int)+1) 0 g⟩ dR
   refine cA.kA rfl gg p2 (cA.then hP.base (ih base _ p5 p4 _ _ p1 p3 (.tree rfl hg) Ow) (fun m2 Px EI IY LJ xS QD=>?_))
   have:=gz base S eY (hP.on EI xS IY LJ hP.base) m2.pop g Px.pop QD hg (hk.mono (Vr _) xS) (by omega) re r (j+1) 0 hr hv uj
   simpa using this
 |@cap o d d' ah i re kid l nx c st st' b ho bH eT ih =>
  intro base S eY hP m g hM hd hg hk hv o4 dR r hr
  obtain⟨_,fJ⟩:=bJ hv
  refine⟨m,⟨i,c,.mk 0 (.el kid) 0 0 (.mk 4 r 0 i g)⟩,true,⟨0,by simp [wg,ho,bH,iA]⟩,.refl m,ih base S eY hP m _ hM hd (.tree rfl (.cap hr hg)) ?_⟩
  exact⟨fun _=>fJ kid (by rw[bH];simp),fun h=>by omega,fun h=>by omega,fun h=>by omega,fun h=>by omega,fun _=>hv,fun h=>by omega,fun h=>by omega,fun h=>by omega,fun _=>⟨ho,hP.i0,Vr _⟩,hk⟩
 |@qX o d ah i re nx c st ho hx =>
  intro base S eY hP m g hM hd hg hk hv o4 dR r hr
  obtain⟨x,e1,e2,e3⟩:=L8 X hP hv ho (m:=m) (g:=g) hM
  rw[e1]at hx
  rw[← hd]
  exact⟨m,.zero,false,⟨0,wF ho (by rw[e2,if_pos (.inl hx)])⟩,.refl m,cA.no hM hP.empty hP.ah hP.s1⟩
 |@qt o d ah i re nx c st ho hx bW h2 hl =>
  intro base S eY hP m g hM hd hg hk hv o4 dR r hr
  obtain⟨x,e1,e2,e3⟩:=L8 X hP hv ho (m:=m) (g:=g) hM
  rw[e1]at hx bW h2 hl
  rw[← hd]
  exact⟨m,.zero,false,⟨0,wF ho (by rw[e2,if_pos (.inr (by omega))])⟩,.refl m,cA.no hM hP.empty hP.ah hP.s1⟩
 |@ud o d d' ah i re nx c st st' b ho hx bW h2 hl hs eT ih =>
  intro base S eY hP m g hM hd hg hk hv o4 dR r hr
  obtain⟨x,e1,e2,e3⟩:=L8 X hP hv ho (m:=m) (g:=g) hM
  rw[e1]at hx bW h2 hl hs ih
  have hi0:=hP.i0
  have dv:i+x.2-x.1=i+(x.2-x.1):=by omega
  rw[dv]at ih
  exact⟨m,⟨i+(x.2-x.1),c,g⟩,true,⟨0,wF ho (by rw[e2,if_neg (by omega),if_neg (by omega),if_pos hs])⟩,.refl m,(ih base S eY (hP.at (by omega) (by omega) hP.ai hP.cl) m g hM hd hg (hk.mono (by omega) (Vr _))).dZ (by omega) rfl rfl (Vr _)⟩
 |@Ae o d ah i re nx c st ho hx bW h2 hl hs =>
  intro base S eY hP m g hM hd hg hk hv o4 dR r hr
  obtain⟨x,e1,e2,e3⟩:=L8 X hP hv ho (m:=m) (g:=g) hM
  rw[e1]at hx bW h2 hl hs
  rw[← hd]
  exact⟨m,.zero,false,⟨0,wF ho (by rw[e2,if_neg (by omega),if_neg (by omega),if_neg (by rw[hs];exact V1)])⟩,.refl m,cA.no hM hP.empty hP.ah hP.s1⟩
 |@ng o d d' ah i re kid l nx c st x b ho bH eT hx ih =>
  intro base S eY hP m g hM hd hg hk hv o4 dR r hr
  subst eY
  obtain⟨_,fJ⟩:=bJ hv
  have hf:=dM (g:=.mk 0 (.el kid) 0 0 .nil) ih hP hP.i0 hP.i1 hM hd (.tree rfl .nil) ⟨fun _=>fJ kid (by rw[bH];simp),fun h=>by omega,fun h=>by omega,fun h=>by omega,fun h=>by omega,trivial⟩
  obtain⟨m1,rr,f,⟨kk,eO⟩,hp,gT,ow,aH,dG⟩:=hf
  have pf:bY (fun m base p=>aQ kk true m base p true) m ⟨i+((0:Nat):Int),c,cw re.op kid i⟩=some (m1,rr,f):=by
   rw[show i+((0:Nat):Int)=i by omega,show cw re.op kid i=.mk 0 (.el kid) 0 0 .nil from if_neg (by omega)]
   exact eO
  have Is:∀x,dz (fun k m=>bY (fun m base p=>aQ kk true m base p true) m ⟨k,c,cw re.op kid i⟩) re.neg ⟨i,c,g⟩ i 1 m=some x→∃k,wg (fun m base p=>aQ k true m base p true) m r re ⟨i,c,g⟩=some x:=fun x hx=>⟨kk,by
   rw[nw (.inl ho) bH]
   unfold eX
   rw[if_neg (by omega),if_neg (by omega)]
   exact hx⟩
  rcases dG with ⟨j1,_⟩|⟨j1,j2,rfl⟩
  ·rw[hx]at j1;cases j1
  refine⟨m1,⟨i,c,g⟩,false,Is _ ?_,hp,?_⟩
  ·rw[nv hM.aW pf,nf,j2];simp
  ·rw[← gT]
   exact cA.out ow j2 j1 hP.ah rfl rfl aH
 |@qa o d d' ah i re kid l nx c st x b ho bH eT hx he hn ih =>
  intro base S eY hP m g hM hd hg hk hv o4 dR r hr
  subst eY
  obtain⟨_,fJ⟩:=bJ hv
  have hf:=dM (g:=.mk 0 (.el kid) 0 0 .nil) ih hP hP.i0 hP.i1 hM hd (.tree rfl .nil) ⟨fun _=>fJ kid (by rw[bH];simp),fun h=>by omega,fun h=>by omega,fun h=>by omega,fun h=>by omega,trivial⟩
  obtain⟨m1,rr,f,⟨kk,eO⟩,hp,gT,ow,aH,dG⟩:=hf
  have pf:bY (fun m base p=>aQ kk true m base p true) m ⟨i+((0:Nat):Int),c,cw re.op kid i⟩=some (m1,rr,f):=by
   rw[show i+((0:Nat):Int)=i by omega,show cw re.op kid i=.mk 0 (.el kid) 0 0 .nil from if_neg (by omega)]
   exact eO
  have Is:∀x,dz (fun k m=>bY (fun m base p=>aQ kk true m base p true) m ⟨k,c,cw re.op kid i⟩) re.neg ⟨i,c,g⟩ i 1 m=some x→∃k,wg (fun m base p=>aQ k true m base p true) m r re ⟨i,c,g⟩=some x:=fun x hx=>⟨kk,by
   rw[nw (.inl ho) bH]
   unfold eX
   rw[if_neg (by omega),if_neg (by omega)]
   exact hx⟩
  rcases dG with ⟨j1,j2,j3,⟨rfl,e,d0,l1,l2,rfl,l3,l4,l5,l6⟩|⟨rfl,l1,l2⟩⟩|⟨j1,_⟩
  ·rw[he]at l1;cases l1
  ·refine⟨m1,⟨i,c,g⟩,false,Is _ ?_,hp,?_⟩
   ·rw[nv hM.aW pf,nf,hn,j2.aW];rfl
   ·rw[← gT]
    exact cA.dZ (s0:=st.ib x) (cA.no j2 j1 hP.ah j3) (Vr _) rfl rfl aH
  ·rw[hx]at j1;cases j1
 |@jN o d d' d1 ah i re kid l nx c st x st' b b' ho bH eT hx he hn pH ih gz =>
  intro base S eY hP m g hM hd hg hk hv o4 dR r hr
  subst eY
  obtain⟨_,fJ⟩:=bJ hv
  have hf:=dM (g:=.mk 0 (.el kid) 0 0 .nil) ih hP hP.i0 hP.i1 hM hd (.tree rfl .nil) ⟨fun _=>fJ kid (by rw[bH];simp),fun h=>by omega,fun h=>by omega,fun h=>by omega,fun h=>by omega,trivial⟩
  obtain⟨m1,rr,f,⟨kk,eO⟩,hp,gT,ow,aH,dG⟩:=hf
  have pf:bY (fun m base p=>aQ kk true m base p true) m ⟨i+((0:Nat):Int),c,cw re.op kid i⟩=some (m1,rr,f):=by
   rw[show i+((0:Nat):Int)=i by omega,show cw re.op kid i=.mk 0 (.el kid) 0 0 .nil from if_neg (by omega)]
   exact eO
  have Is:∀x,dz (fun k m=>bY (fun m base p=>aQ kk true m base p true) m ⟨k,c,cw re.op kid i⟩) re.neg ⟨i,c,g⟩ i 1 m=some x→∃k,wg (fun m base p=>aQ k true m base p true) m r re ⟨i,c,g⟩=some x:=fun x hx=>⟨kk,by
   rw[nw (.inl ho) bH]
   unfold eX
   rw[if_neg (by omega),if_neg (by omega)]
   exact hx⟩
  rcases dG with ⟨j1,j2,j3,⟨rfl,e,d0,l1,l2,rfl,l3,l4,l5,l6⟩|⟨rfl,l1,l2⟩⟩|⟨j1,_⟩
  ·rw[he]at l1;cases l1
  ·refine⟨m1,⟨i,c,g⟩,true,Is _ ?_,hp,?_⟩
   ·rw[nv hM.aW pf,nf,hn,j2.aW];rfl
   ·exact cA.dZ (s0:=st.ib x) (gz base S rfl (hP.ib hx aH j3 hP.i0 hP.i1 hP.ai hP.cl) m1 g j2 gT hg (hk.mono (Vr _) aH)) (Vr _) rfl rfl aH
  ·rw[hx]at j1;cases j1
 |@nt o d d' d1 ah i e re kid l nx c d2 le ld st x st' b b' ho bH eT hx he mc hn pH ih gz =>
  intro base S eY hP m g hM hd hg hk hv o4 dR r hr
  subst eY
  obtain⟨_,fJ⟩:=bJ hv
  have hf:=dM (g:=.mk 0 (.el kid) 0 0 .nil) ih hP hP.i0 hP.i1 hM hd (.tree rfl .nil) ⟨fun _=>fJ kid (by rw[bH];simp),fun h=>by omega,fun h=>by omega,fun h=>by omega,fun h=>by omega,trivial⟩
  obtain⟨m1,rr,f,⟨kk,eO⟩,hp,gT,ow,aH,dG⟩:=hf
  have pf:bY (fun m base p=>aQ kk true m base p true) m ⟨i+((0:Nat):Int),c,cw re.op kid i⟩=some (m1,rr,f):=by
   rw[show i+((0:Nat):Int)=i by omega,show cw re.op kid i=.mk 0 (.el kid) 0 0 .nil from if_neg (by omega)]
   exact eO
  have Is:∀x,dz (fun k m=>bY (fun m base p=>aQ kk true m base p true) m ⟨k,c,cw re.op kid i⟩) re.neg ⟨i,c,g⟩ i 1 m=some x→∃k,wg (fun m base p=>aQ k true m base p true) m r re ⟨i,c,g⟩=some x:=fun x hx=>⟨kk,by
   rw[nw (.inl ho) bH]
   unfold eX
   rw[if_neg (by omega),if_neg (by omega)]
   exact hx⟩
  rcases dG with ⟨j1,j2,j3,⟨rfl,e1,d0,l1,l2,rfl,l3,l4,l5,l6⟩|⟨rfl,l1,l2⟩⟩|⟨j1,_⟩
  ·rw[he]at l1;rw[mc]at l2
   cases l1;cases l2
   refine⟨m1,⟨i,d2,g⟩,true,Is _ ?_,hp,?_⟩
   ·rw[tF hM.aW pf,hn];rfl
   ·exact cA.dZ (s0:=st.ib x) (gz base S rfl (hP.ib hx aH j3 hP.i0 hP.i1 l5 l6) m1 g j2 gT hg (hk.mono (Vr _) aH)) (Vr _) rfl rfl aH
  ·rw[he]at l1;cases l1
  ·rw[hx]at j1;cases j1
 |@iZ o d d' ah i e re kid l nx c d2 le ld st x b ho bH eT hx he mc hn ih =>
  intro base S eY hP m g hM hd hg hk hv o4 dR r hr
  subst eY
  obtain⟨_,fJ⟩:=bJ hv
  have hf:=dM (g:=.mk 0 (.el kid) 0 0 .nil) ih hP hP.i0 hP.i1 hM hd (.tree rfl .nil) ⟨fun _=>fJ kid (by rw[bH];simp),fun h=>by omega,fun h=>by omega,fun h=>by omega,fun h=>by omega,trivial⟩
  obtain⟨m1,rr,f,⟨kk,eO⟩,hp,gT,ow,aH,dG⟩:=hf
  have pf:bY (fun m base p=>aQ kk true m base p true) m ⟨i+((0:Nat):Int),c,cw re.op kid i⟩=some (m1,rr,f):=by
   rw[show i+((0:Nat):Int)=i by omega,show cw re.op kid i=.mk 0 (.el kid) 0 0 .nil from if_neg (by omega)]
   exact eO
  have Is:∀x,dz (fun k m=>bY (fun m base p=>aQ kk true m base p true) m ⟨k,c,cw re.op kid i⟩) re.neg ⟨i,c,g⟩ i 1 m=some x→∃k,wg (fun m base p=>aQ k true m base p true) m r re ⟨i,c,g⟩=some x:=fun x hx=>⟨kk,by
   rw[nw (.inl ho) bH]
   unfold eX
   rw[if_neg (by omega),if_neg (by omega)]
   exact hx⟩
  rcases dG with ⟨j1,j2,j3,⟨rfl,e1,d0,l1,l2,rfl,l3,l4,l5,l6⟩|⟨rfl,l1,l2⟩⟩|⟨j1,_⟩
  ·rw[he]at l1;rw[mc]at l2
   cases l1;cases l2
   refine⟨m1,.zero,false,Is _ ?_,hp,?_⟩
   ·rw[tF hM.aW pf,hn];rfl
   ·rw[← gT]
    exact cA.dZ (s0:=st.ib x) (cA.no j2 j1 hP.ah j3) (Vr _) rfl rfl aH
  ·rw[he]at l1;cases l1
  ·rw[hx]at j1;cases j1
 |@behind o d d' ah i re kid l nx c st st' b ho bH he eT ih =>
  intro base S eY hP m g hM hd hg hk hv o4 dR r hr
  obtain⟨_,fJ⟩:=bJ hv
  have hi0:=hP.i0
  obtain⟨m1,p1,a1,⟨kk,eO⟩,hp,kx⟩:=ih base S eY hP m g hM hd hg hk (fJ kid (by rw[bH];simp)) (by omega)
  refine⟨m1,p1,a1,⟨kk,?_⟩,hp,kx⟩
  rw[nw (.inr ho) bH]
  unfold eX
  rw[if_pos ho,if_pos ho]
  rw[show cw re.op kid i=.mk 0 (.el kid) 0 0 (.mk 5 .nil 0 i .nil) from if_pos ho]
  exact eO
 |@Hv o d ah i re kid nx c st hn =>
  intro base S eY hP m g hM hd hg hk sJ hj
  rw[← hd]
  exact⟨m,⟨i,c,g⟩,false,⟨0,by rw[nf,hn];rfl⟩,.refl m,cA.no hM hP.empty hP.ah hP.s1⟩
 |@qm o d d' ah i re kid nx c st st' b hn eT ih =>
  intro base S eY hP m g hM hd hg hk sJ hj
  exact⟨m,⟨i,c,g⟩,true,⟨0,by rw[nf,hn,hM.aW];rfl⟩,.refl m,ih base S eY hP m g hM hd hg hk⟩
 |@zx o d d' ah i j re kid nx c st x b eT hx ih =>
  intro base S eY hP m g hM hd hg hk sJ hj
  subst eY
  have eK:=hP.i1
  have hf:=dM (q:=(j:Int)) (g:=.mk 0 (.el kid) 0 0 (.mk 5 .nil 0 i .nil)) ih hP (by omega) (by omega) hM hd (.tree rfl (.oA .nil)) ⟨fun _=>sJ,fun h=>by omega,fun h=>by omega,fun h=>by omega,fun h=>by omega,fun h=>absurd rfl h,fun h=>by omega,fun h=>by omega,fun h=>by omega,fun h=>by omega,trivial⟩
  obtain⟨m1,rr,f,⟨kk,eO⟩,hp,gT,ow,aH,dG⟩:=hf
  have pf:(fun q m=>bY (fun m base p=>aQ kk true m base p true) m ⟨q,c,.mk 0 (.el kid) 0 0 (.mk 5 .nil 0 i .nil)⟩) (0+(j:Int)) m=some (m1,rr,f):=by
   rw[show 0+(j:Int)=(j:Int) by omega]
   exact eO
  rcases dG with ⟨j1,_⟩|⟨j1,j2,rfl⟩
  ·rw[hx]at j1;cases j1
  refine⟨m1,⟨i,c,g⟩,false,⟨kk,?_⟩,hp,?_⟩
  ·rw[nv hM.aW pf,Eo j2,j2];simp
  ·rw[← gT]
   exact cA.out ow j2 j1 hP.ah rfl rfl aH
 |@zF o d d' d1 ah i e j re kid nx c d2 le ld st x st' b b' eT hx he mc hn pH ih gz =>
  intro base S eY hP m g hM hd hg hk sJ hj
  subst eY
  have eK:=hP.i1
  have hf:=dM (q:=(j:Int)) (g:=.mk 0 (.el kid) 0 0 (.mk 5 .nil 0 i .nil)) ih hP (by omega) (by omega) hM hd (.tree rfl (.oA .nil)) ⟨fun _=>sJ,fun h=>by omega,fun h=>by omega,fun h=>by omega,fun h=>by omega,fun h=>absurd rfl h,fun h=>by omega,fun h=>by omega,fun h=>by omega,fun h=>by omega,trivial⟩
  obtain⟨m1,rr,f,⟨kk,eO⟩,hp,gT,ow,aH,dG⟩:=hf
  have pf:(fun q m=>bY (fun m base p=>aQ kk true m base p true) m ⟨q,c,.mk 0 (.el kid) 0 0 (.mk 5 .nil 0 i .nil)⟩) (0+(j:Int)) m=some (m1,rr,f):=by
   rw[show 0+(j:Int)=(j:Int) by omega]
   exact eO
  rcases dG with ⟨j1,j2,j3,⟨rfl,e1,d0,l1,l2,rfl,l3,l4,l5,l6⟩|⟨rfl,l1,l2⟩⟩|⟨j1,_⟩
  ·rw[he]at l1;rw[mc]at l2
   cases l1;cases l2
   refine⟨m1,⟨i,d2,g⟩,true,⟨kk,?_⟩,hp,?_⟩
   ·rw[tF hM.aW pf,hn];rfl
   ·exact cA.dZ (s0:=st.ib x) (gz base S rfl (hP.ib hx aH j3 hP.i0 hP.i1 l5 l6) m1 g j2 gT hg (hk.mono (Vr _) aH)) (Vr _) rfl rfl aH
  ·rw[he]at l1;cases l1
  ·rw[hx]at j1;cases j1
 |@nk o d d' ah i e j re kid nx c d2 le ld st x b eT hx he mc hn ih =>
  intro base S eY hP m g hM hd hg hk sJ hj
  subst eY
  have eK:=hP.i1
  have hf:=dM (q:=(j:Int)) (g:=.mk 0 (.el kid) 0 0 (.mk 5 .nil 0 i .nil)) ih hP (by omega) (by omega) hM hd (.tree rfl (.oA .nil)) ⟨fun _=>sJ,fun h=>by omega,fun h=>by omega,fun h=>by omega,fun h=>by omega,fun h=>absurd rfl h,fun h=>by omega,fun h=>by omega,fun h=>by omega,fun h=>by omega,trivial⟩
  obtain⟨m1,rr,f,⟨kk,eO⟩,hp,gT,ow,aH,dG⟩:=hf
  have pf:(fun q m=>bY (fun m base p=>aQ kk true m base p true) m ⟨q,c,.mk 0 (.el kid) 0 0 (.mk 5 .nil 0 i .nil)⟩) (0+(j:Int)) m=some (m1,rr,f):=by
   rw[show 0+(j:Int)=(j:Int) by omega]
   exact eO
  rcases dG with ⟨j1,j2,j3,⟨rfl,e1,d0,l1,l2,rfl,l3,l4,l5,l6⟩|⟨rfl,l1,l2⟩⟩|⟨j1,_⟩
  ·rw[he]at l1;rw[mc]at l2
   cases l1;cases l2
   refine⟨m1,.zero,false,⟨kk,?_⟩,hp,?_⟩
   ·rw[tF hM.aW pf,hn];rfl
   ·rw[← gT]
    exact cA.dZ (s0:=st.ib x) (cA.no j2 j1 hP.ah j3) (Vr _) rfl rfl aH
  ·rw[he]at l1;cases l1
  ·rw[hx]at j1;cases j1
 |@uP o d d' d1 ah i j re kid nx c st x st' b b' eT hx he pH ih gz =>
  intro base S eY hP m g hM hd hg hk sJ hj
  subst eY
  have eK:=hP.i1
  have hf:=dM (q:=(j:Int)) (g:=.mk 0 (.el kid) 0 0 (.mk 5 .nil 0 i .nil)) ih hP (by omega) (by omega) hM hd (.tree rfl (.oA .nil)) ⟨fun _=>sJ,fun h=>by omega,fun h=>by omega,fun h=>by omega,fun h=>by omega,fun h=>absurd rfl h,fun h=>by omega,fun h=>by omega,fun h=>by omega,fun h=>by omega,trivial⟩
  obtain⟨m1,rr,f,⟨kk,eO⟩,hp,gT,ow,aH,dG⟩:=hf
  have pf:(fun q m=>bY (fun m base p=>aQ kk true m base p true) m ⟨q,c,.mk 0 (.el kid) 0 0 (.mk 5 .nil 0 i .nil)⟩) (0+(j:Int)) m=some (m1,rr,f):=by
   rw[show 0+(j:Int)=(j:Int) by omega]
   exact eO
  rcases dG with ⟨j1,j2,j3,⟨rfl,e1,d0,l1,l2,rfl,l3,l4,l5,l6⟩|⟨rfl,l1,l2⟩⟩|⟨j1,_⟩
  ·rw[he]at l1;cases l1
  ·obtain⟨m2,p2,a2,⟨k2,yw⟩,EX,kx⟩:=gz base S rfl (hP.ib hx aH j3 hP.i0 hP.i1 hP.ai hP.cl) m1 g j2 gT hg (hk.mono (Vr _) aH) sJ (by omega)
   refine⟨m2,p2,a2,⟨max kk k2,?_⟩,hp.trans EX,cA.dZ (s0:=st.ib x) kx (Vr _) rfl rfl aH⟩
   have AL:(fun q m=>bY (fun m base p=>aQ (max kk k2) true m base p true) m ⟨q,c,.mk 0 (.el kid) 0 0 (.mk 5 .nil 0 i .nil)⟩) (0+(j:Int)) m=some (m1,rr,false):=jh (fun m base p x hx=>hU (Ws kk k2) hx) pf
   rw[nv hM.aW AL]
   exact nT (fun q m x hx=>jh (fun m base p x hx=>hU (Wp kk k2) hx) hx) _ _ _ yw
  ·rw[hx]at j1;cases j1
 |@pZ o d d' ah i re kid l nx c st x b ho bH eT hx ih =>
  intro base S eY hP m g hM hd hg hk hv o4 dR r hr
  subst eY
  obtain⟨_,fJ⟩:=bJ hv
  have hf:=dM (g:=.mk 0 (.el kid) 0 0 .nil) ih hP hP.i0 hP.i1 hM hd (.tree rfl .nil) ⟨fun _=>fJ kid (by rw[bH];simp),fun h=>by omega,fun h=>by omega,fun h=>by omega,fun h=>by omega,trivial⟩
  obtain⟨m1,rr,f,⟨kk,eO⟩,hp,kx⟩:=jU (g:=g) (b:=true) (st':=st.ib x) (d':=d') hP hf (fun _=>⟨rfl,rfl,rfl⟩) (fun h=>by rw[hx]at h;cases h) (fun e d h=>by rw[hx]at h;cases h)
  exact⟨m1,rr,f,⟨kk,by rw[xu ho bH];exact eO⟩,hp,kx⟩
 |@uO o d d' ah i re kid l nx c st x b ho bH eT hx he ih =>
  intro base S eY hP m g hM hd hg hk hv o4 dR r hr
  subst eY
  obtain⟨_,fJ⟩:=bJ hv
  have hf:=dM (g:=.mk 0 (.el kid) 0 0 .nil) ih hP hP.i0 hP.i1 hM hd (.tree rfl .nil) ⟨fun _=>fJ kid (by rw[bH];simp),fun h=>by omega,fun h=>by omega,fun h=>by omega,fun h=>by omega,trivial⟩
  obtain⟨m1,rr,f,⟨kk,eO⟩,hp,kx⟩:=jU (g:=g) (b:=false) (st':=st.ib x) (d':=d') hP hf (fun h=>by rw[hx]at h;cases h) (fun _ _=>⟨rfl,rfl,rfl⟩) (fun e d _ h=>by rw[he]at h;cases h)
  exact⟨m1,rr,f,⟨kk,by rw[xu ho bH];exact eO⟩,hp,kx⟩
 |@qQ o d d' d1 ah i e re kid l nx c d0 le ld st x st' b b' ho bH eT hx he mc pH ih gz =>
  intro base S eY hP m g hM hd hg hk hv o4 dR r hr
  subst eY
  obtain⟨_,fJ⟩:=bJ hv
  have hf:=dM (g:=.mk 0 (.el kid) 0 0 .nil) ih hP hP.i0 hP.i1 hM hd (.tree rfl .nil) ⟨fun _=>fJ kid (by rw[bH];simp),fun h=>by omega,fun h=>by omega,fun h=>by omega,fun h=>by omega,trivial⟩
  have aH:st.steps≤x.steps:=by obtain⟨_,_,_,_,_,_,_,h,_⟩:=hf;exact h
  obtain⟨m1,rr,f,⟨kk,eO⟩,hp,kx⟩:=jU (g:=g) (b:=b') (st':=st') (d':=d') hP hf (fun h=>by rw[hx]at h;cases h) (fun _ h=>by rw[he]at h;cases h) (fun e1 e2 _ l1 l2 l3 l4 l5 l6 lF m1 pY pS=>by
   rw[he]at l1;rw[mc]at l2
   cases l1;cases l2
   exact gz base S rfl (hP.ib hx aH lF (by have:=hP.i0;omega) l4 l5 l6) m1 g pY pS hg (hk.mono l3 aH))
  exact⟨m1,rr,f,⟨kk,by rw[xu ho bH];exact eO⟩,hp,kx⟩
 |@cond o d d' ah i re yes no l nx c st st' b ho bH eT ih =>
  intro base S eY hP m g hM hd hg hk hv o4 dR r hr
  obtain⟨⟨_,_,_,_,v5,_,_⟩,fJ⟩:=bJ hv
  obtain⟨w1,w2⟩:=v5 (by omega)
  have cI:=hP.cl
  have eD:bo c re.n=c.getD (re.n-1).toNat (-1,-1):=by unfold bo;rw[if_neg (by omega)]
  rw[eD]at ih
  refine⟨m,_,true,⟨0,Jy ho bH w1 (by show re.n≤(c.length:Int);omega)⟩,.refl m,ih base S eY hP m _ hM hd (.tree rfl hg) ⟨fun _=>?_,fun h=>by omega,fun h=>by omega,fun h=>by omega,fun h=>by omega,hk⟩⟩
  split
  ·exact fJ yes (by rw[bH];simp)
  ·exact fJ no (by rw[bH];simp)
 |@lB o d d' ah i re nx c st st' b ho hh eT ih =>
  intro base S eY hP m g hM hd hg hk hv o4 dR r hr
  obtain⟨⟨_,_,_,_,_,v6,_⟩,_⟩:=bJ hv
  obtain⟨w1,w2⟩:=v6 ho
  exact⟨m,⟨i,c,g⟩,true,⟨0,by rw[x5 ho w1 w2,hM.t];show some (m,_,bN re.n t i)=_;rw[hh]⟩,.refl m,ih base S eY hP m g hM hd hg hk⟩
 |@ny o d ah i re nx c st ho hh =>
  intro base S eY hP m g hM hd hg hk hv o4 dR r hr
  obtain⟨⟨_,_,_,_,_,v6,_⟩,_⟩:=bJ hv
  obtain⟨w1,w2⟩:=v6 ho
  rw[← hd]
  exact⟨m,⟨i,c,g⟩,false,⟨0,by rw[x5 ho w1 w2,hM.t];show some (m,_,bN re.n t i)=_;rw[hh]⟩,.refl m,cA.no hM hP.empty hP.ah hP.s1⟩
end RC
end Go.Proofs.Ytllagoeijcjpiaa
