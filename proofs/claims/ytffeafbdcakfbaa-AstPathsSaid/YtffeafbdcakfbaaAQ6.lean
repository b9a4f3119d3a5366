/- A part of the proof (Vzs Vzt Vzu). -/
import Derived.Test.YtffeafbdcakfbaaAQ2
set_option linter.unusedSimpArgs false
set_option linter.unusedVariables false
set_option maxRecDepth 100000
set_option maxHeartbeats 80000000
namespace Go.VL
inductive Mix (lim:Nat) (s:List Obj):V→V→Prop
 | frz {x y:V}:frzV lim s x=some y→Mix lim s x y
 | keep {x:V}:refsV lim x=true→Mix lim s x x
 | ag {cs ds:List V}:ds.length=cs.length→(∀(i:Nat) (x y:V),cs[i]?=some x→ds[i]?=some y→Mix lim s x y)→Mix lim s (.ag cs) (.ag ds)
 | tu {cs ds:List V}:ds.length=cs.length→(∀(i:Nat) (x y:V),cs[i]?=some x→ds[i]?=some y→Mix lim s x y)→Mix lim s (.tu cs) (.tu ds)
theorem take_ok {σ:Gh} {s:List Obj} {w:World} (hI:Inv σ s w) {k:Nat} {o:Obj} (sz:Nat) (ho:s[k]?=some o) (hl:o.live=true) :
  Evolve σ s w (updG σ k none) (s.set k ⟨o.g + 1,true,sz,[]⟩) w∧Inv (updG σ k none) (s.set k ⟨o.g + 1,true,sz,[]⟩) w :=
 set_obj hI ho hl rfl rfl rfl (Nat.le_refl _) (fun _ _ _=>rfl) (fun b base arr E _ hh=>⟨arr,hh,rfl⟩) (fun _ _ _ h=>h) (Nat.le_succ _) (fun h=>by simp at h) (fun b base h=>by cases h) (fun _=>.inl (.inl ⟨rfl,rfl⟩))
theorem Cln0.takeCell {e:Env} {s:List Obj} {o oa:Obj} {pre post:List V} (k a sz:Nat) (hka:k≠a) (ho:s[k]?=some o) (hl:o.live=true) (ha:s[a]?=some oa) (hels:oa.els=[pre++.fu []::post]) (hsz:pre.length + 1 + post.length=oa.sz) :
  Cln0 e s e ((s.set k ⟨o.g + 1,true,sz,[]⟩).set a { oa with els:=[pre++.so k (o.g + 1) 0 0::post] }):=by
 intro σ0 s0 w0 σ w N act hE hI hR
 obtain⟨h1,h2⟩:=take_ok hI sz ho hl
 have ha2:(s.set k ⟨o.g + 1,true,sz,[]⟩)[a]?=some oa:=by rw[List.getElem?_set_ne hka]; exact ha
 have hk2:(s.set k (⟨o.g + 1,true,sz,[]⟩:Obj))[k]?=some ⟨o.g + 1,true,sz,[]⟩:=List.getElem?_set_self (lt_of_get ho)
 have hr:=recell h2 (els':=[pre++.so k (o.g + 1) 0 0::post]) ha2 (by intro e he; rw[List.mem_singleton.1 he]; simp; omega) (by rw[hels]; rfl) (by
  intro es he
  rw[hels] at he
  have hm:(pre++.fu []::post)∈mapEls es:=by rw[← he]; exact List.mem_singleton.2 rfl
  unfold mapEls at hm
  obtain⟨x,_,hx⟩:=List.mem_map.1 hm
  have hf:V.fu []∈[V.d (.sc x.key),V.d (.sc x.val)]:=by rw[hx]; simp
  simp at hf) (fun i j x' hx=>by
  rw[hels]
  cases i with
  | succ i=>simp at hx
  | zero =>
   simp only[List.getElem?_cons_zero,Option.bind_some] at hx ⊢
   by_cases hj:j=pre.length
   ·subst hj
    rw[List.getElem?_append_right (Nat.le_refl _),Nat.sub_self] at hx ⊢
    simp only[List.getElem?_cons_zero,Option.some.injEq] at hx ⊢
    subst hx
    refine⟨_,rfl,fun u hu=>?_⟩
    cases hu with | fu hx=>?_
    exact .so ⟨o.g + 1,true,sz,[]⟩ hk2 (Nat.le_refl _) rfl (fun _=>.inl ⟨updG_same _ _ _,⟨_,rfl⟩,rfl,rfl⟩)
   ·refine⟨x',?_,fun u hu=>hu⟩
    rcases Nat.lt_or_ge j pre.length with hlt | hge
    ·rw[List.getElem?_append_left hlt] at hx ⊢; exact hx
    ·rw[List.getElem?_append_right hge] at hx ⊢
     cases hm:j - pre.length with
     | zero=>omega
     | succ m=>rw[hm] at hx; simpa using hx)
 exact⟨_,hE.trans (h1.trans hr.1),hr.2,hR.evolve (h1.trans hr.1)⟩
theorem call_room {P:Program} {f:FuncId} {args:List V} {s:List Obj} {K:V→List Obj→Prop} (sz:Nat) (h:callWp P f args (s++[⟨0,true,sz,[]⟩]) K):callWp P f args s K:=by
 refine⟨h.1,fun σ w vals hI hl hv=>?_⟩
 have hp:=push_obj (p:=none) (o':=⟨0,true,sz,[]⟩) (w':=w) hI rfl rfl rfl (Nat.le_refl _) (fun _ _=>rfl) (fun _ _ h'=>by cases h') (fun _=>.inl (.inl ⟨rfl,rfl⟩))
 exact(h.2 _ w vals hp.2 hl (fun i x hx=>(hv i x hx).evolve hp.1)).mono fun _ _ ⟨u,v,σ',s',a,b,c,d,e⟩=>⟨u,v,σ',s',a,hp.1.trans b,c,d,e⟩
theorem draw_cap {P:Program} {N:Nat} {full:List Oper} {e:Env} {s:List Obj} {K:Env→List Obj→Prop} {id g lo n:Nat} (t:Nat) (he:e t=.so id g lo n)
  (h1:∀hi,drawWp P N full (updE e t (.cap (n + 1) hi (.so id g lo n))) s K) (h2:drawWp P N full (updE e t (.cap 0 n (.so id g lo n))) s K):drawWp P N full e s K:=by
 intro σ0 s0 w0 Q hKQ σ w a rid hE hI hR
 have hr:=hR.2.2 t
 rw[he] at hr
 generalize hu:a.tmps.getD t undef=u at hr
 have told:∀lo' hi',CapIn lo' hi' u→RepE σ s w N (updE e t (.cap lo' hi' (.so id g lo n))) a:=by
  intro lo' hi' hc
  refine⟨hR.1,hR.2.1,fun k=>?_⟩
  by_cases hk:k=t
  ·subst hk
   rw[updE,if_pos rfl,hu]
   exact .cap hc hr
  ·rw[updE,if_neg hk]
   exact hR.2.2 k
 by_cases hc:∃ad m c,u=.slice ad m c∧n + 1≤c
 ·obtain⟨ad,m,c,rfl,hc⟩:=hc
  exact h1 c σ0 s0 w0 Q hKQ σ w a rid hE hI (told _ _ fun a' m' c' h=>by cases h; exact⟨hc,Nat.le_refl _⟩)
 ·exact h2 σ0 s0 w0 Q hKQ σ w a rid hE hI (told _ _ fun a' m' c' h=>⟨Nat.zero_le _,by
   rcases Nat.lt_or_ge n c' with hlt | hge
   ·exact(hc ⟨a',m',c',h,hlt⟩).elim
   ·exact hge⟩)
theorem Cln.uncap {L:Nat} {e:Env} {s:List Obj} {lo hi:Nat} {v:V} (t:Nat) (he:e t=.cap lo hi v):Cln L e s (updE e t v) s:=by
 intro σ0 s0 w0 σ w N a _ hE hI hR
 refine⟨σ,hE,hI,hR.1,hR.2.1,fun k=>?_⟩
 by_cases hk:k=t
 ·subst hk
  rw[updE,if_pos rfl]
  have:=hR.2.2 k
  rw[he] at this
  generalize a.tmps.getD k undef=u at this
  cases this with | cap _ h=>exact h
 ·rw[updE,if_neg hk]
  exact hR.2.2 k
theorem trunc_ok {σ:Gh} {s:List Obj} {w:World} (hI:Inv σ s w) {k:Nat} {o:Obj} (m:Nat) (ho:s[k]?=some o) (hnm:∀es,o.els≠mapEls es) :
  Evolve σ s w σ (s.set k { o with els:=o.els.take m }) w∧Inv σ (s.set k { o with els:=o.els.take m }) w:=by
 have hk:=(List.getElem?_eq_some_iff.1 ho).1
 have get:∀(id:Nat) (o':Obj),(s.set k { o with els:=o.els.take m })[id]?=some o'→∃o1,s[id]?=some o1∧o1.live=o'.live∧o1.g=o'.g∧o1.sz=o'.sz:=by
  intro id o' h'
  by_cases he:id=k
  ·subst he
   rw[List.getElem?_set_self hk] at h'
   simp only[Option.some.injEq] at h'
   subst h'
   exact⟨o,ho,rfl,rfl,rfl⟩
  ·rw[List.getElem?_set_ne (Ne.symm he)] at h'
   exact⟨o',h',rfl,rfl,rfl⟩
 have put:∀(id:Nat) (o1:Obj),s[id]?=some o1→∃o',(s.set k { o with els:=o.els.take m })[id]?=some o'∧o'.g=o1.g∧o'.sz=o1.sz∧o'.live=o1.live:=by
  intro id o1 h'
  by_cases he:id=k
  ·subst he
   rw[ho] at h'
   simp only[Option.some.injEq] at h'
   subst h'
   exact⟨_,List.getElem?_set_self hk,rfl,rfl,rfl⟩
  ·exact⟨o1,by rw[List.getElem?_set_ne (Ne.symm he)]; exact h',rfl,rfl,rfl⟩
 have hE:Evolve σ s w σ (s.set k { o with els:=o.els.take m }) w:=by
  refine⟨rfl,rfl,rfl,Nat.le_refl _,fun _ _ _=>rfl,fun _ arr _ _ h=>⟨arr,h,rfl⟩,fun _ _ h=>h,?_,?_,rfl,fun _ _ _=>rfl⟩
  ·rintro b (hb | ⟨id,o',base,h1,h2,h3⟩)
   ·exact .inl (.inl hb)
   ·obtain⟨o1,k1,k2,_⟩:=get id o' h1
    exact .inl (.inr ⟨id,o1,base,k1,by rw[k2]; exact h2,h3⟩)
  ·intro id o1 h1
   obtain⟨o',k1,k2,k3,_⟩:=put id o1 h1
   exact⟨o',k1,by omega,fun _=>⟨k3,rfl⟩⟩
 refine⟨hE,⟨?_,?_,hI.low,?_⟩⟩
 ·intro id o' h1
  by_cases he:id=k
  ·subst he
   rw[List.getElem?_set_self hk] at h1
   simp only[Option.some.injEq] at h1
   subst h1
   rcases hI.content id o ho with (⟨c1,c2⟩ | ⟨b,es,c,c1,c2,c3⟩) | ⟨b,base,arr,E,c1,c2,c3,c4,c5⟩
   ·left; exact .inl ⟨c1,by simp [c2]⟩
   ·exact(hnm es c3).elim
   ·right
    refine⟨b,base,arr,E,c1,c2,fun e he=>c3 e (List.mem_of_mem_take he),?_,fun i j x' hx=>?_⟩
    ·have:(o.els.take m).length * o.sz≤o.els.length * o.sz:=Nat.mul_le_mul_right _ (by simp; omega)
     show base + (o.els.take m).length * o.sz≤arr.size
     omega
    ·have hx':(o.els[i]?.bind (·[j]?))=some x':=by
      simp only[List.getElem?_take] at hx
      split at hx
      ·exact hx
      ·cases hx
     obtain⟨u,z1,z2,z3⟩:=c5 i j x' hx'
     exact⟨u,z1,z2,z3.evolve hE⟩
  ·rw[List.getElem?_set_ne (Ne.symm he)] at h1
   rcases hI.content id o' h1 with c | ⟨b,base,arr,E,c1,c2,c3,c4,c5⟩
   ·exact .inl c
   ·right
    refine⟨b,base,arr,E,c1,c2,c3,c4,fun i j x hx=>?_⟩
    obtain⟨u,z1,z2,z3⟩:=c5 i j x hx
    exact⟨u,z1,z2,z3.evolve hE⟩
 ·intro id id' o1 o2 b base base' h1 h2 h3 h4 h5
  obtain⟨p1,q1,q2,_⟩:=get id o1 h1
  obtain⟨p2,r1,_⟩:=get id' o2 h2
  exact hI.inj id id' p1 p2 b base base' q1 r1 (by rw[q2]; exact h3) h4 h5
 ·intro id o1 b base h1 h2
  obtain⟨p1,q1,_⟩:=get id o1 h1
  exact hI.apart id p1 b base q1 h2
theorem Cln.trunc {L:Nat} {e:Env} {s:List Obj} {o:Obj} (k m:Nat) (ho:s[k]?=some o) (hnm:∀es,o.els≠mapEls es):Cln L e s e (s.set k { o with els:=o.els.take m }):=by
 intro σ0 s0 w0 σ w N a _ hE hI hR
 obtain⟨h1,h2⟩:=trunc_ok hI m ho hnm
 exact⟨σ,hE.trans h1,h2,hR.evolve h1⟩
theorem call_resArg {P:Program} {f:FuncId} {pre post:List V} {x:V} {s:List Obj} (sz:Nat) {K:V→List Obj→Prop} (hx:x=.fu []∨x=.d (.sc (.slice none 0 0)))
  (h:callWp P f (pre++.so s.length 0 0 0::post) (s++[⟨0,true,sz,[]⟩]) K):callWp P f (pre++x::post) s K:=by
 refine⟨h.1,fun σ w vals hI hl hv=>?_⟩
 have hp:=push_obj (p:=none) (o':=⟨0,true,sz,[]⟩) (w':=w) hI rfl rfl rfl (Nat.le_refl _) (fun _ _=>rfl) (fun _ _ h'=>by cases h') (fun _=>.inl (.inl ⟨rfl,rfl⟩))
 refine(h.2 _ w vals hp.2 (by simpa using hl) (fun i y hy=>?_)).mono fun _ _ ⟨u,v,σ',s',a,b,c,d,e⟩=>⟨u,v,σ',s',a,hp.1.trans b,c,d,e⟩
 by_cases hi:i=pre.length
 ·subst hi
  rw[List.getElem?_append_right (Nat.le_refl _),Nat.sub_self] at hy
  simp only[List.getElem?_cons_zero,Option.some.injEq] at hy
  subst hy
  have hu:=hv pre.length x (by rw[List.getElem?_append_right (Nat.le_refl _),Nat.sub_self]; rfl)
  have hsl:∃a,vals.getD pre.length undef=.slice a 0 0:=by
   generalize vals.getD pre.length undef=u at hu
   rcases hx with rfl | rfl
   ·cases hu with | fu hx=>exact⟨_,rfl⟩
   ·cases hu with | d hd=>?_
    cases hd with | sc _ _=>exact⟨_,rfl⟩
  obtain⟨a,ha⟩:=hsl
  rw[ha]
  exact .so ⟨0,true,sz,[]⟩ (by simp) (Nat.le_refl _) rfl (fun _=>.inl ⟨updG_same _ _ _,⟨_,rfl⟩,rfl,rfl⟩)
 ·refine(hv i y ?_).evolve hp.1
  rcases Nat.lt_or_ge i pre.length with hlt | hge
  ·rw[List.getElem?_append_left hlt] at hy ⊢; exact hy
  ·rw[List.getElem?_append_right hge] at hy ⊢
   cases hm:i - pre.length with
   | zero=>omega
   | succ m=>rw[hm] at hy; simpa using hy
theorem callF_map {P:Program} {f:FuncId} (ρ:List Nat) {cargs args:List V} {s exts exts':List Obj} {r r':V} {K:V→List Obj→Prop} (h:callWp P f cargs exts fun v s'=>v=r∧s'=exts') (hnd:ρ.Nodup) (hl:exts'.length=exts.length)
  (hs:ρ.map (fun i=>s[i]?)=exts.map (fun o=>some (renO ρ o))) (ha:args=cargs.map (renV ρ)) (hra:refsV.go exts.length cargs=true) (hre:exts.all (objOk exts.length)=true) (hr:renV ρ r=r') (hk:K r' (putObjs s ρ (exts'.map (renO ρ)))):callF P ρ ρ f args s K:=by
 have hρ:ρ.length=exts.length:=by simpa using congrArg List.length hs
 refine⟨r',exts'.map (renO ρ),by simp [hl,hρ],fun s' _ hs'=>?_,hk⟩
 refine call_map ρ h hnd hl ?_ ha hra hre hr ⟨rfl,rfl⟩
 rw[← hs]
 exact List.map_congr_left fun i hi=>hs' i hi
end Go.VL
