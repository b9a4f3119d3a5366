/- A part of the proof (K0). -/
import Derived.Test.YtdofoappodmcoaaKP2
import Derived.Test.YtdofoappodmcoaaKP3
set_option linter.unusedSimpArgs false
set_option linter.unusedVariables false
set_option maxRecDepth 100000
set_option maxHeartbeats 80000000
namespace Go.Proofs.Ytdofoappodmcoaa
open Go.VL Go.Proofs.Try
theorem frz_ownK {lim id g lo n sz:Nat} {live:Bool} {s:List VL.Obj} {els:List (List V)} {ds:List (List D)} (ho:s[id]?=some ⟨g,live,sz,els⟩) (he:(els.drop lo).take n=ds.map (fun c=>c.map V.d)) (hn:lo + n≤els.length) (hl:lim≤id∨live=false) :
  frzV lim s (.so id g lo n)=some (.d (.sl ds)):=by
 simp only[frzV,frzD,ho,true_and]
 rw[if_pos ⟨hn,hl⟩,he,mapM_frzE]
 rfl
theorem reserveSlot {e:Env} {s:List VL.Obj} (t sz:Nat) (h:e t=.fu []):Cln0 e s (updE e t (.so s.length 0 0 0)) (s++[⟨0,true,sz,[]⟩]):=by
 intro σ0 s0 w0 σ w N a hE hI hR
 have hp:=push_obj (p:=none) (o':=⟨0,true,sz,[]⟩) (w':=w) hI rfl rfl rfl (Nat.le_refl _) (fun _ _=>rfl) (fun _ _ h'=>by cases h') (fun _=>.inl (.inl ⟨rfl,rfl⟩))
 refine⟨_,hE.trans hp.1,hp.2,hR.1,hR.2.1,fun k=>?_⟩
 by_cases hk:k=t
 ·subst hk
  have hu:=(hR.2.2 k).evolve hp.1
  rw[h] at hu
  rw[updE,if_pos rfl]
  generalize a.tmps.getD k undef=u at hu
  cases hu with | fu hx=>?_
  exact .so ⟨0,true,sz,[]⟩ (by simp) (Nat.le_refl _) rfl (fun _=>.inl ⟨updG_same _ _ _,⟨_,rfl⟩,rfl,rfl⟩)
 ·rw[updE,if_neg hk]
  exact(hR.2.2 k).evolve hp.1
theorem reserveCell {e:Env} {s:List VL.Obj} {o:VL.Obj} {pre post:List V} (k sz:Nat) (ho:s[k]?=some o) (hels:o.els=[pre++.fu []::post]) (hsz:pre.length + 1 + post.length=o.sz) :
  Cln0 e s e (s.set k { o with els:=[pre++.so s.length 0 0 0::post] }++[⟨0,true,sz,[]⟩]):=by
 intro σ0 s0 w0 σ w N a hE hI hR
 obtain⟨σ',h1,h2⟩:=reserve_ok hI k sz ho hels hsz
 exact⟨σ',hE.trans h1,h2,hR.evolve h1⟩
theorem frzCut {L:Nat} {e:Env} {s s':List VL.Obj} {els:List (List V)} {id g lo n sz:Nat} (t:Nat) (ds:List (List D)) (lim:Nat) (keep:List Nat) (he:e t=.so id g lo n) (ho:s[id]?=some ⟨g,true,sz,els⟩)
  (hd:(els.drop lo).take n=ds.map fun c=>c.map V.d) (hn:lo + n≤els.length) (hL:L≤lim) (hlim:lim≤id) (hs:s.take lim=s') (hok:s'.all (objOk lim)=true) (hk:keep.all (fun k=>k == t||refsV lim (e k))=true) :
  Cln L e s (keepE keep (updE e t (.d (.sl ds)))) s':=by
 have hkill:killO s [id]=s.set id ⟨g,false,sz,els⟩:=by simp [killO,kill1,ho]
 have hid:=(List.getElem?_eq_some_iff.1 ho).1
 have hc:cleanV (killO s [id]).length (killO s [id]) (e t)=.d (.sl ds):=by
  rw[he,cleanV,frz_ownK (els:=els) (live:=false) (sz:=sz) (by rw[hkill]; simp [hid]) hd hn (.inr rfl)]; rfl
 have henv:freezeE (killO s [id]) [t] e=updE e t (.d (.sl ds)):=by
  funext k
  unfold freezeE updE
  by_cases hkt:k=t
  ·subst hkt; simp [hc]
  ·simp [hkt]
 have h1:=Cln.freeze (L:=L) (e:=e) (s:=s) [id] [t]
 rw[henv] at h1
 refine h1.trans (Cln.cut lim hL ?_ hok keep ?_)
 ·rw[hkill,List.take_set_of_le hlim,hs]
 ·rw[List.all_eq_true] at hk ⊢
  intro k hk1
  have:=hk k hk1
  simp only[Bool.or_eq_true,beq_iff_eq] at this
  unfold updE
  by_cases hkt:k=t
  ·rw[if_pos hkt]; rfl
  ·rw[if_neg hkt]; exact this.resolve_left hkt
def OwnSl (P:Program) (f:FuncId) (args:List V) (sz:Nat) (l:List (List D)):Prop :=
 callWp P f args [] fun v s=>∃g,v=.so 0 g 0 l.length∧s=[⟨g,true,sz,l.map fun c=>c.map V.d⟩]
theorem renV_go_data (ρ:List Nat):∀c:List D,renV.go ρ (c.map V.d)=c.map V.d
 | []=>rfl
 | x::c=>by simp only[List.map_cons,renV.go,renV,renV_go_data ρ c]
theorem OwnSl.call {P:Program} {f:FuncId} {args:List V} {sz:Nat} {l:List (List D)} {s:List VL.Obj} {K:V→List VL.Obj→Prop} (h:OwnSl P f args sz l) (ha:args=args.map (renV [])) (hr:refsV.go 0 args=true)
  (hk:∀g,K (.so s.length g 0 l.length) (s++[⟨g,true,sz,l.map fun c=>c.map V.d⟩])):callWp P f args s K:=by
 refine call_frame_new h [] rfl (by simp) (fun k o h=>by simp at h) ha hr rfl ?_
 rintro v s' ⟨g,rfl,rfl⟩ _
 have e1:renV (rhoN [] s [] [(⟨g,true,sz,l.map fun c=>c.map V.d⟩:VL.Obj)]) (.so 0 g 0 l.length)=.so s.length g 0 l.length:=by simp [rhoN,renV]
 have e2:renO (rhoN [] s [] [(⟨g,true,sz,l.map fun c=>c.map V.d⟩:VL.Obj)]) ⟨g,true,sz,l.map fun c=>c.map V.d⟩=⟨g,true,sz,l.map fun c=>c.map V.d⟩:=by
  unfold renO
  congr 1
  rw[List.map_map]
  exact List.map_congr_left fun c _=>renV_go_data _ c
 rw[e1]
 simp only[List.length_nil,List.take_zero,List.drop_zero,List.map_nil,List.map_cons,e2,putObjs]
 exact hk g
theorem OwnSl.hole {P:Program} {f:FuncId} {args:List V} {sz k:Nat} {l:List (List D)} {s:List VL.Obj} {ob:VL.Obj} {K:V→List VL.Obj→Prop} (h:OwnSl P f args sz l) (ha:args=args.map (renV [])) (hr:refsV.go 0 args=true) (hs:s[k]?=some ob)
  (hk:K (.so k (ob.g + 1) 0 l.length) (s.set k ⟨ob.g + 1,true,sz,l.map fun c=>c.map V.d⟩)):callWp P f args s K:=by
 have h1:callWp P f args s fun v s1=>∃g,v=.so s.length g 0 l.length∧s1=s++[⟨g,true,sz,l.map fun c=>c.map V.d⟩]:=h.call ha hr fun g=>⟨g,rfl,rfl⟩
 refine⟨h1.1,fun σ w vals hI hl hv=>(h1.2 σ w vals hI hl hv).mono fun e w' ⟨u,v,σ',s',k1,k2,k3,k4,g,k5,k6⟩=>?_⟩
 subst k5 k6
 obtain⟨m1,m2,m3⟩:=move_hole hI k2 k3 hs rfl (fun i' j x' hx'=>by
  rw[List.getElem?_map] at hx'
  cases hq:l[i']? with
  | none=>rw[hq] at hx'; cases hx'
  | some c =>
   rw[hq] at hx'
   simp only[Option.map_some,Option.bind_some,List.getElem?_map] at hx'
   obtain⟨d,_,rfl⟩:=Option.map_eq_some_iff.1 hx'
   rfl)
 exact⟨u,_,_,_,k1,m1,m2,m3 _ _ _ k4,hk⟩
theorem downV_go_data (keep:List Nat) (c:List D):downV.go keep (c.map V.d)=c.map V.d:=by
 rw[downV_go,List.map_map]
 exact List.map_congr_left fun x _=>rfl
theorem own_exit {s:List VL.Obj} {id g n m sz:Nat} {els:List (List V)} {l:List (List D)} (ho:s[id]?=some ⟨g,true,sz,els⟩) (he:els=l.map fun c=>c.map V.d) (hn:n=m) :
  ownWp 0 s (.so id g 0 n) fun v s1=>∃g,v=.so 0 g 0 m∧s1=[⟨g,true,sz,l.map fun c=>c.map V.d⟩]:=by
 have hid:=lt_of_get ho
 refine⟨[id],?_,g,?_,?_⟩
 ·simp [keepOk,hid]
 ·simp [downV,hn,List.idxOf?,List.findIdx?_cons]
 ·have hg:s.getD id hole=⟨g,true,sz,els⟩:=by rw[List.getD,ho]; rfl
  simp only[selS,List.map_cons,List.map_nil,hg,downO,he,List.map_map]
  congr 2
  exact List.map_congr_left fun c _=>downV_go_data _ c
end Go.Proofs.Ytdofoappodmcoaa
