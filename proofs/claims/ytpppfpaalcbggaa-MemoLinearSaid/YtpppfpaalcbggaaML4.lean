/- A part of the proof (Vra Vrb Vrc Vrg Vkt Vzs Vzt Vzu Vrh). -/
import Derived.RangeFuncLeaves
import Derived.RangeFuncKeeps
import Derived.DeepKeys4
import Derived.Test.YtpppfpaalcbggaaML2
set_option linter.unusedSimpArgs false
set_option linter.unusedVariables false
set_option maxRecDepth 100000
set_option maxHeartbeats 80000000
namespace Go.VL
open Go.RowKit
structure Tw (B:Nat) (w w':World):Prop where
 os:w'.os=w.os
 tape:w'.tape=w.tape
 output:w'.output=w.output
 size:w.heap.size≤w'.heap.size
 same:∀(b:Nat) (o:Go.Obj),w.heap[b]?=some o→isBook o=false→w'.heap[b]?=some o
 low:∀b,b < B→b < w.heap.size→w'.heap[b]?=w.heap[b]?
theorem Tw.trans {B:Nat} {w w' w'':World} (h:Tw B w w') (k:Tw B w' w''):Tw B w w'' :=
 ⟨k.os.trans h.os,k.tape.trans h.tape,k.output.trans h.output,Nat.le_trans h.size k.size,fun b o ho hb=>k.same b o (h.same b o ho hb) hb,
  fun b h1 h2=>(k.low b h1 (Nat.lt_of_lt_of_le h2 h.size)).trans (h.low b h1 h2)⟩
theorem Tw.alloc {B:Nat} (w:World) (o:Go.Obj):Tw B w (w.alloc o) :=
 ⟨rfl,rfl,rfl,by simp,fun b o' h _=>(Below.heap_alloc w o b (lt_heap h)).trans h,fun b _ h=>Below.heap_alloc w o b h⟩
theorem Tw.put {B:Nat} {w:World} {r:Nat} {o:Go.Obj} (o':Go.Obj) (h:w.heap[r]?=some o) (ho:isBook o=true) (hB:B≤r):Tw B w (w.putObj r o') :=
 ⟨rfl,rfl,rfl,by simp,fun b o2 hb h2=>by
  by_cases e:b=r
  ·subst e; rw[h] at hb; cases hb; rw[ho] at h2; cases h2
  ·exact(World.putObj_heap_other e).trans hb,
  fun b h1 _=>World.putObj_heap_other (by omega)⟩
variable {B:Nat} {w w':World}
theorem Tw.cell (h:Tw B w w') {a:Addr} {u:Value} (hc:w.cell? a=some u):w'.cell? a=some u:=by
 obtain⟨o,ho,hcells⟩:=cells_of_cell hc
 have:w'.heap[a.block]?=w.heap[a.block]?:=(h.same _ o ho (by cases o <;> simp_all [Obj.isCells,isBook])).trans ho.symm
 rw[World.cell?_of_block this]
 exact hc
theorem RepD.tw {O:Nat→Prop} (h:Tw B w w') {x:D} {u:Value} (hr:RepD O w x u):RepD O w' x u:=by
 induction hr with
 | sc v hv=>exact .sc v hv
 | nil=>exact .nil
 | sl els a cap sz f h1 h2 h3 h4 _ ih=>exact .sl els a cap sz f h1 h2 h3 (fun i j x hx=>⟨h.cell (h4 i j x hx).1,(h4 i j x hx).2⟩) ih
 | el cs a f h1 h2 _ ih=>exact .el cs a f h1 (fun j x hx=>⟨h.cell (h2 j x hx).1,(h2 j x hx).2⟩) ih
 | cl h1 _ h3 _ ih1 ih2=>exact .cl h1 ih1 h3 ih2
 | ub b=>exact .ub b
theorem IsC.tw (h:Tw B w w') {b:Nat} (hc:IsC w b):IsC w' b:=by
 obtain⟨arr,E,hh⟩:=hc
 exact⟨arr,E,h.same _ _ hh rfl⟩
theorem IsM.tw (h:Tw B w w') {b:Nat} (hc:IsM w b):IsM w' b:=by
 obtain⟨es,c,hh⟩:=hc
 exact⟨es,c,h.same _ _ hh rfl⟩
theorem SoOK.tw {σ:Gh} (h:Tw B w w') {id:Nat} {o:Obj} {lo n:Nat} {u:Value} (hk:SoOK σ w id o lo n u):SoOK σ w' id o lo n u:=by
 rcases hk with h1 | ⟨b,base,cap,E,arr,h1,h2,h3⟩
 ·exact .inl h1
 ·exact .inr ⟨b,base,cap,E,arr,h1,h.same _ _ h2 rfl,h3⟩
theorem RepV.tw {σ:Gh} {s:List Obj} (h:Tw B w w') {x:V} {u:Value} (hr:RepV σ s w x u):RepV σ s w' x u:=by
 induction hr with
 | d hx=>exact .d (hx.tw h)
 | ag h1 h2 _ ih=>exact .ag h1 h2 ih
 | tu h1 _ ih=>exact .tu h1 ih
 | fu hx=>exact .fu (hx.tw h)
 | so o ho hg hu hk=>exact .so o ho hg hu fun he=>(hk he).tw h
 | rf o ho hg hu hk =>
  refine .rf o ho hg hu fun he=>?_
  obtain⟨b,base,k1,kc,k2⟩:=hk he
  exact⟨b,base,k1,kc.tw h,k2⟩
 | pp o ho hg hk =>
  refine .pp o ho hg fun he=>?_
  obtain⟨base,k1,kc,k2⟩:=hk he
  exact⟨base,k1,kc.tw h,k2⟩
 | mp o ho hg hu hk =>
  refine .mp o ho hg hu fun he=>?_
  obtain⟨b,k1,kc,k2⟩:=hk he
  exact⟨b,k1,kc.tw h,k2⟩
 | cap h1 _ ih=>exact .cap h1 ih
 | bx h1 h2 h3 hu _ ih=>exact .bx h1 (h.cell h2) h3 hu ih
 | cl h1 _ h3 _ ih1 ih2=>exact .cl h1 ih1 h3 ih2
 | un=>exact .un
 | any=>exact .any
theorem Inv.tw {σ:Gh} {s:List Obj} (h:Tw B w w') (hI:Inv σ s w):Inv σ s w':=by
 refine⟨fun id o ho=>?_,hI.inj,fun b hb=>Nat.lt_of_lt_of_le (hI.low b hb) h.size,hI.apart⟩
 rcases hI.content id o ho with h0 | ⟨b,base,arr,E,h1,h2,h3,h4,h5⟩
 ·refine .inl ?_
  rcases h0 with h0 | ⟨b,es,c,h1,h2,h3⟩
  ·exact .inl h0
  ·exact .inr ⟨b,es,c,h1,h.same _ _ h2 rfl,h3⟩
 ·refine .inr ⟨b,base,arr,E,h1,h.same _ _ h2 rfl,h3,h4,fun i j x hx=>?_⟩
  obtain⟨u,k1,k2,k3⟩:=h5 i j x hx
  exact⟨u,k1,k2,k3.tw h⟩
theorem RepE.tw {σ:Gh} {s:List Obj} {N:Nat} {e:Nat→V} {a:Act} (h:Tw B w w') (hR:RepE σ s w N e a):RepE σ s w' N e a :=
 ⟨hR.1,hR.2.1,fun t=>(hR.2.2 t).tw h⟩
theorem Evolve.tw {σ0 σ:Gh} {s0 s:List Obj} {w0:World} (h:Tw B w w') (hB:w0.heap.size≤B) (hE:Evolve σ0 s0 w0 σ s w):Evolve σ0 s0 w0 σ s w':=by
 refine⟨h.os.trans hE.os,h.tape.trans hE.tape,h.output.trans hE.output,Nat.le_trans hE.size h.size,fun b hb ho=>?_,fun b arr E ho hh=>?_,fun b ho hm=>(hE.shapeM b ho hm).tw h,hE.own,hE.objs,hE.base,fun b hb hf=>?_⟩
 ·exact(h.low b (by omega) (Nat.lt_of_lt_of_le hb hE.size)).trans (hE.keep b hb ho)
 ·obtain⟨arr',h1,h2⟩:=hE.shape b arr E ho hh
  exact⟨arr',h.same _ _ h1 rfl,h2⟩
 ·exact(h.low b (by omega) (Nat.lt_of_lt_of_le hb hE.size)).trans (hE.foreign b hb hf)
open Go.RowKit
theorem Evolve.both {σ σ':Gh} {s s':List Obj} {w w':World} (h:Evolve σ s w σ' s' w') {l:Nat} {o:Go.Obj} (ho:isBook o=true) (h1:l < w.heap.size) (h2:l < w'.heap.size):Evolve σ s (w.putObj l o) σ' s' (w'.putObj l o):=by
 have key:∀b,(b≠l→w'.heap[b]?=w.heap[b]?)→(w'.putObj l o).heap[b]?=(w.putObj l o).heap[b]?:=fun b hb=>by
  by_cases e:b=l
  ·subst e; rw[World.putObj_heap_same h1,World.putObj_heap_same h2]
  ·rw[World.putObj_heap_other e,World.putObj_heap_other e]; exact hb e
 refine⟨h.os,h.tape,h.output,by simpa using h.size,fun b hb hO=>key b fun _=>h.keep b (by simpa using hb) hO,fun b arr E hO hh=>?_,fun b hO hm=>?_,fun b hb=>by simpa using h.own b hb,h.objs,h.base,fun b hb hf=>key b fun _=>h.foreign b (by simpa using hb) hf⟩
 ·by_cases e:b=l
  ·subst e; rw[World.putObj_heap_same h1] at hh; cases hh; cases ho
  ·rw[World.putObj_heap_other e] at hh ⊢; exact h.shape b arr E hO hh
 ·by_cases e:b=l
  ·subst e
   obtain⟨es,c,hh⟩:=hm
   rw[World.putObj_heap_same h1] at hh; cases hh; cases ho
  ·obtain⟨es,c,hh⟩:=hm
   rw[World.putObj_heap_other e] at hh
   obtain⟨es',c',hh'⟩:=h.shapeM b hO ⟨es,c,hh⟩
   exact⟨es',c',by rw[World.putObj_heap_other e]; exact hh'⟩
open Go.RowKit
open Go.RowKit
def IterD (P:Program) (gf:Nat) (capsD:List D) (cnt:Nat) (v:Nat→D × D):Prop :=
 (∀args w,(callFunc gf args).run P w=.ok (.enter gf args) w) ∧
 ∀(lb:Array Value) (l:Nat) (J:Nat→World→Prop),lb.size=capsD.length→(∀i W,J i W→∀j x,capsD[j]?=some x→RepD (fun _=>False) W x (lb.getD j undef)) →
  (∀i W,J i W→i < cnt→∃O:Nat→Prop,(∀j x,capsD[j]?=some x→RepD O W x (lb.getD j undef))∧∀u u',RepD O W (v i).1 u→RepD O W (v i).2 u'→YieldAt (rdF none) 0 P l #[u,u'] W fun e W'=>e=.returned (.bool true)∧J (i + 1) W') →
  ∀W,J 0 W→CallsIn (rdF none) 0 P gf (#[.func (.yield l) #[] #[]]++lb) W fun e W'=>(∃u,e=.returned u)∧J cnt W'
theorem range_soundD {P:Program} {N L M:Nat} {σ0:Gh} {s0:List Obj} {w0:World} (hL:s0.length≤L) {tf p q:Nat} {assign body:Code} {gf:Nat} {capsD:List D} {cnt:Nat} {v:Nat→D × D} (hit:IterD P gf capsD cnt v) (I:Nat→List Obj→Prop)
  {e:Env} {s:List Obj} {σ:Gh} {w:World} {a:Act} (hE:Evolve σ0 s0 w0 σ s w) (hI:Inv σ s w) (hR:RepE σ s w N e a) (hg:e tf=.d (.cl (.func gf) [] capsD)) (hp:p < N) (hq:q < N) (h0:I 0 s)
  (hround:∀i s,i < cnt→I i s→codeWp P N s.length M (.seq assign body) (fun ex _ s'=>ex=.normal∧∃s'',Cln L e s' e s''∧I (i + 1) s'') (updE (updE e p (.d (v i).1)) q (.d (v i).2)) s)
  {Q:Exit→Act→World→Prop} (hQ:∀(D:Nat) (w':World) (σ':Gh) (s':List Obj),w0.heap.size≤D→w'.heap[D]?=some (.deferred (some []))→Evolve σ0 s0 w0 σ' s' w'→Inv σ' s' w'→RepE σ' s' w' N e a→I cnt s' →
   Q .normal (Act.wD a [{ target:=.collected D,args:=#[] }]) w') :
  (Code.rangeFunc (.tmp tf) #[p,q] assign body).wpIn (rdF none) 0 P Q a w:=by
 have hcl:∀{σ:Gh} {s:List Obj} {w:World},RepE σ s w N e a→∃lb:Array Value,a.eval (.tmp tf)=.func (.func gf) #[] lb∧lb.size=capsD.length∧∀j x,capsD[j]?=some x→RepD (Own σ s) w x (lb.getD j undef):=by
  intro σ s w hR
  have h:=hR.2.2 tf
  rw[hg] at h
  show ∃lb,a.tmps.getD tf undef=_∧_
  generalize a.tmps.getD tf undef=u at h
  cases h with | d h=>?_
  cases h with | @cl _ _ _ f' c' h1 h2 h3 h4=>?_
  have:f'=#[]:=Array.eq_empty_of_size_eq_zero (by simpa using h1)
  subst this
  exact⟨c',rfl,h3,fun j x hx=>h4 j x hx⟩
 obtain⟨lb,hlb,hlbs,_⟩:=hcl hR
 refine wpIn_rangeFunc ?_
 intro fn hfn
 obtain⟨rec,hrec⟩:∃rec:LoopState→Option Code→Loop,rec=fun st pe=>{ state:=st,pending:=pe,fn,tmps:=a.tmps,params:=#[p,q],assign,body,defers:=w.heap.size }:=⟨_,rfl⟩
 obtain⟨W1,hW1⟩:∃W1,(w.alloc (.deferred (some []))).alloc (.loop (rec .ready none))=W1:=⟨_,rfl⟩
 have hL1:W1.heap[w.heap.size + 1]?=some (.loop (rec .ready none)):=by
  rw[← hW1]; have:=World.alloc_heap_new (w.alloc (.deferred (some []))) (.loop (rec .ready none)); rwa [World.size_alloc] at this
 have hK1:W1.heap[w.heap.size]?=some (.deferred (some [])):=by
  rw[← hW1]; exact(Below.heap_alloc _ _ _ (by simp)).trans (World.alloc_heap_new w _)
 have hT1:Tw w0.heap.size w W1:=by rw[← hW1]; exact(Tw.alloc _ _).trans (Tw.alloc _ _)
 have hsz:=hE.size
 refine⟨w.heap.size + 1,[{ target:=.collected w.heap.size,args:=#[] }],W1,{ target:=.fn (.func gf) lb,args:=#[.func (.yield (w.heap.size + 1)) #[] #[]] },W1,gf,
  #[.func (.yield (w.heap.size + 1)) #[] #[]]++lb,W1,?_,?_,?_,?_,fun h=>by simp [rdF,Fence.wide] at h,?_⟩
 ·rw[← hW1,hrec]; exact run_enterLoop_outer _ _ _ _ _
 ·simp only[resolve,hlb]
  simp [go_sem]
 ·intro f' hf'; exact trivial
 ·simp [invoke,go_sem,hit.1]
 refine((hit.2 lb (w.heap.size + 1) (fun i W=>∃σ s,Evolve σ0 s0 w0 σ s W∧Inv σ s W∧RepE σ s W N e a∧I i s∧W.heap[w.heap.size + 1]?=some (.loop (rec .ready none))∧W.heap[w.heap.size]?=some (.deferred (some []))) hlbs
  (fun i W ⟨σ,s,_,_,hR,_⟩=>by
   obtain⟨lb',h1,_,h3⟩:=hcl hR
   rw[hlb] at h1; cases h1; exact fun j x hx=>(h3 j x hx).own fun _ hf=>hf.elim) ?_ W1 ⟨σ,s,hE.tw hT1 (Nat.le_refl _),hI.tw hT1,hR.tw hT1,h0,hL1,hK1⟩)).mono ?_
 ·
  rintro i W ⟨σ1,s1,hE1,hI1,hR1,hi,hl,hk⟩ hlt
  obtain⟨lb',hlb',_,hcaps⟩:=hcl hR1
  rw[hlb] at hlb'; cases hlb'
  refine⟨Own σ1 s1,hcaps,fun u u' hu hu'=>?_⟩
  have hy:=run_yield (P:=P) (args:=#[u,u']) hl (by rw[hrec]; rfl)
  have hwl:w.heap.size + 1 < W.heap.size:=lt_heap hl
  have hbz:isBook (.loop { rec .ready none with state:=.busy })=true:=rfl
  have hre:rec .ready none={ state:=.ready,pending:=none,fn,tmps:=a.tmps,params:=#[p,q],assign,body,defers:=w.heap.size }:=by rw[hrec]
  rw[hrec] at hy
  refine⟨fn,_,assign,body,hy,roundIn_of_wpIn hfn ?_⟩
  have hd:=hround i s1 hlt hi
  have hR2:RepE σ1 s1 W N (updE (updE e p (.d (v i).1)) q (.d (v i).2)) ((a.put (some p) u).put (some q) u'):=RepE.put (RepE.put hR1 (d:=some p) hp (.d hu)) (d:=some q) hq (.d hu')
  have hs:=codeWp_soundR (L:=s1.length) (M:=M) (Nat.le_refl _) assign _ _ s1 σ1 W _ (.refl _ _ _) hI1 hR2 hd (some (w.heap.size + 1)) []
  have hact:({ tmps:=(#[p,q].zip #[u,u']).foldl (fun t (p,v)=>t.setIfInBounds p v) a.tmps,defers:=[] }:Act)=Act.wD ((a.put (some p) u).put (some q) u') []:=by
   simp [Act.wD,Act.put]
  simp only at hy ⊢
  rw[hact]
  refine wpIn_mono (F:=rdF (some (w.heap.size + 1))) hs ?_
  rintro ex a1 w1 ⟨hd1,hk1,e1,σ2,s2,hE2,hI2,hR3,hq⟩
  cases ex with
  | normal =>
   have hl1:=hk1 _ _ hl rfl
   have hw1l:=lt_heap hl1
   refine⟨_,run_beginRound hl1 (by rw[hrec]),?_⟩
   have hT2:∀B,B≤w.heap.size + 1→Tw B w1 (w1.putObj (w.heap.size + 1) (.loop { rec .ready none with state:=.busy })):=fun B hB=>.put _ hl1 rfl hB
   have hT3:∀B,B≤w.heap.size + 1→Tw B W (W.putObj (w.heap.size + 1) (.loop { rec .ready none with state:=.busy })):=fun B hB=>.put _ hl rfl hB
   have hbody:=codeWp_soundR (L:=s1.length) (M:=M) (Nat.le_refl _) body _ e1 s2 σ2 _ _ (hE2.both hbz hwl hw1l) (hI2.tw (hT2 0 (by omega))) (hR3.tw (hT2 0 (by omega))) hq (some (w.heap.size + 1)) []
   rw[wD_of hd1] at hbody
   refine wpIn_mono (F:=rdF (some (w.heap.size + 1))) hbody ?_
   rintro ex a2 w3 ⟨hd2,hk2,e3,σ3,s3,hE3,hI3,hR4,rfl,s4,hc,hi4⟩
   have hl3:=hk2 _ _ (World.putObj_heap_same hw1l) rfl
   have hk3:=hk2 _ _ ((World.putObj_heap_other (by omega)).trans (hk1 _ _ hk rfl)) rfl
   have hw3l:=lt_heap hl3
   refine⟨_,_,run_endRound none hl3,rfl,?_⟩
   have hT4:∀B,B≤w.heap.size + 1→Tw B w3 (w3.putObj (w.heap.size + 1) (.loop (rec .ready none))):=fun B hB=>.put _ hl3 rfl hB
   have hre2:({ ({ rec .ready none with state:=.busy }:Loop) with state:=if (none:Option Code).isNone then .ready else .done,pending:=none }:Loop)=rec .ready none:=by rw[hrec]; rfl
   rw[hre2]
   have hEa:Evolve σ0 s0 w0 σ3 s3 w3:=(hE1.tw (hT3 w0.heap.size (by omega)) (Nat.le_refl _)).trans hE3
   have hRa:RepE σ3 s3 w3 N e a:=(hR1.tw (hT3 0 (by omega))).evolve hE3
   obtain⟨σ4,k1,k2,k3⟩:=hc σ0 s0 w0 σ3 _ N a hL (hEa.tw (hT4 w0.heap.size (by omega)) (Nat.le_refl _)) (hI3.tw (hT4 0 (by omega))) (hRa.tw (hT4 0 (by omega)))
   exact⟨σ4,s4,k1,k2,k3,hi4,World.putObj_heap_same hw3l,(World.putObj_heap_other (by omega)).trans hk3⟩
  | exit id=>exact absurd hq.1 (by simp)
  | goto t=>exact absurd hq.1 (by simp)
  | ret=>exact absurd hq.1 (by simp)
  | panic c=>exact absurd hq.1 (by simp)
  | outgrown=>exact absurd hq.1 (by simp)
 ·
  rintro e2 w2 ⟨⟨u,rfl⟩,σ2,s2,hE2,hI2,hR2,hi,hl,hk⟩
  have hw2:=lt_heap hl
  have hT:∀B,B≤w.heap.size + 1→Tw B w2 (w2.putObj (w.heap.size + 1) (.loop { rec .ready none with state:=.exhausted })):=fun B hB=>.put _ hl rfl hB
  have hst:(rec .ready none).state≠.busy:=by rw[hrec]; intro h; cases h
  have hpd:(rec .ready none).pending=none:=by rw[hrec]
  have hend:=run_endLoop (P:=P) hl hst
  refine⟨none,w2.putObj (w.heap.size + 1) (.loop { rec .ready none with state:=.exhausted }),by rw[hend]; exact congrArg (fun x=>Result.ok x _) hpd,?_⟩
  have:=hQ w.heap.size _ σ2 s2 hsz ((World.putObj_heap_other (by omega)).trans hk) (hE2.tw (hT w0.heap.size (by omega)) (Nat.le_refl _)) (hI2.tw (hT 0 (by omega))) (hR2.tw (hT 0 (by omega))) hi
  have ha:({ a with defers:=[{ target:=.collected w.heap.size,args:=#[] }]++a.defers }:Act)=Act.wD a [{ target:=.collected w.heap.size,args:=#[] }]:=by
   rw[hR.1]; rfl
  rw[ha]
  exact this
def RangeD (P:Program) (N L M:Nat) (g:Operand) (ps:Array Tmp) (assign body:Code) (e:Env) (s:List Obj) (K:Env→List Obj→Prop):Prop :=
 ∃(tf p q gf:Nat) (capsD:List D) (cnt:Nat) (v:Nat→D × D) (I:Nat→List Obj→Prop) (e1:Env) (s1:List Obj),g=.tmp tf∧ps=#[p,q]∧p < N∧q < N∧e1 tf=.d (.cl (.func gf) [] capsD)∧IterD P gf capsD cnt v∧Cln L e s e1 s1∧I 0 s1 ∧
  (∀i s,i < cnt→I i s→codeWp P N s.length M (.seq assign body) (fun ex _ s'=>ex=.normal∧∃s'',Cln L e1 s' e1 s''∧I (i + 1) s'') (updE (updE e1 p (.d (v i).1)) q (.d (v i).2)) s)∧∀s,I cnt s→K e1 s
theorem RangeD.of {P:Program} {N L M:Nat} {g:Operand} {ps:Array Tmp} {assign body:Code} {e:Env} {s:List Obj} {K:Env→List Obj→Prop} (tf p q gf:Nat) (capsD:List D) (cnt:Nat) (v:Nat→D × D) (I:Nat→List Obj→Prop) (F:Env→Prop)
  (hg:g=.tmp tf) (hps:ps=#[p,q]) (hp:p < N) (hq:q < N) (hi:IterD P gf capsD cnt v) (h0:∃e1 s1,Cln L e s e1 s1∧e1 tf=.d (.cl (.func gf) [] capsD)∧F e1∧I 0 s1)
  (h:∀e1,F e1→∀i s,i < cnt→I i s→codeWp P N s.length M (.seq assign body) (fun ex _ s'=>ex=.normal∧∃s'',Cln L e1 s' e1 s''∧I (i + 1) s'') (updE (updE e1 p (.d (v i).1)) q (.d (v i).2)) s)
  (hK:∀e1,F e1→∀s,I cnt s→K e1 s):RangeD P N L M g ps assign body e s K:=by
 obtain⟨e1,s1,h1,h2,h3,h4⟩:=h0
 exact⟨tf,p,q,gf,capsD,cnt,v,I,e1,s1,hg,hps,hp,hq,h2,hi,h1,h4,h e1 h3,hK e1 h3⟩
def SeqH (A B:Env→List Obj→Prop) (Q:Bool→Exit→Env→List Obj→Prop) (fl:Bool) (ex:Exit) (e:Env) (s:List Obj):Prop :=
 match ex with
 | .normal=>match fl with
  | false=>A e s
  | true=>B e s
 | ex=>Q fl ex e s
def BlkH (id:Nat) (Q:Bool→Exit→Env→List Obj→Prop) (fl:Bool):Exit→Env→List Obj→Prop:=Qblk id (Q fl)
def codeWpH (P:Program) (N L M:Nat):Code→(Bool→Exit→Env→List Obj→Prop)→Env→List Obj→Prop
 | .seq a b,Q,e,s=>codeWpH P N L M a (SeqH (codeWpH P N L M b Q) (codeWp P N L M b (Q true)) Q) e s
 | .cond c a b,Q,e,s=>condF (ev e c) (codeWpH P N L M a Q) (codeWpH P N L M b Q) (trimE M e) s
 | .block id c,Q,e,s=>codeWpH P N L M c (BlkH id Q) e s
 | .rangeFunc g ps assign body,Q,e,s=>RangeD P N L M g ps assign body e s (Q true .normal)
 | c,Q,e,s=>codeWp P N L M c (Q false) e s
section
variable {P:Program} {N L M:Nat} {Q:Bool→Exit→Env→List Obj→Prop} {e:Env} {s:List Obj}
theorem codeWpH_seq {a b:Code}:codeWpH P N L M (.seq a b) Q e s=codeWpH P N L M a (SeqH (codeWpH P N L M b Q) (codeWp P N L M b (Q true)) Q) e s:=(rfl)
theorem codeWpH_cond {c:Operand} {a b:Code}:codeWpH P N L M (.cond c a b) Q e s=condF (ev e c) (codeWpH P N L M a Q) (codeWpH P N L M b Q) (trimE M e) s:=(rfl)
theorem codeWpH_block {id:Nat} {c:Code}:codeWpH P N L M (.block id c) Q e s=codeWpH P N L M c (BlkH id Q) e s:=(rfl)
theorem codeWpH_region {id:Nat} {ops:Array Oper} {dr:Bool}:codeWpH P N L M (.region id ops dr) Q e s=codeWp P N L M (.region id ops dr) (Q false) e s:=(rfl)
theorem codeWpH_skip:codeWpH P N L M .skip Q e s=codeWp P N L M .skip (Q false) e s:=(rfl)
theorem codeWpH_loop {c:Code}:codeWpH P N L M (.loop c) Q e s=codeWp P N L M (.loop c) (Q false) e s:=(rfl)
theorem codeWpH_ret:codeWpH P N L M .ret Q e s=codeWp P N L M .ret (Q false) e s:=(rfl)
theorem codeWpH_exit {id:Nat}:codeWpH P N L M (.exit id) Q e s=codeWp P N L M (.exit id) (Q false) e s:=(rfl)
theorem codeWpH_range {g:Operand} {ps:Array Tmp} {assign body:Code}:codeWpH P N L M (.rangeFunc g ps assign body) Q e s=RangeD P N L M g ps assign body e s (Q true .normal):=(rfl)
theorem SeqH_f {A B:Env→List Obj→Prop}:SeqH A B Q false .normal e s=A e s:=(rfl)
theorem SeqH_t {A B:Env→List Obj→Prop}:SeqH A B Q true .normal e s=B e s:=(rfl)
theorem SeqH_ret {A B:Env→List Obj→Prop} {fl:Bool}:SeqH A B Q fl .ret e s=Q fl .ret e s:=(rfl)
theorem SeqH_exit {A B:Env→List Obj→Prop} {fl:Bool} {i:Nat}:SeqH A B Q fl (.exit i) e s=Q fl (.exit i) e s:=(rfl)
theorem BlkH_app {id:Nat} {fl:Bool} {ex:Exit}:BlkH id Q fl ex e s=Qblk id (Q fl) ex e s:=(rfl)
end
def FlOK (w0:World) (fl:Bool) (a:Act) (w:World):Prop :=
 match fl with
 | false=>a.defers=[]
 | true=>∃D:Nat,w0.heap.size≤D∧a.defers=[{ target:=.collected D,args:=#[] }]∧w.heap[D]?=some (.deferred (some []))
def QH (σ0:Gh) (s0:List Obj) (w0:World) (N:Nat) (Q:Bool→Exit→Env→List Obj→Prop):Exit→Act→World→Prop :=
 fun ex a w=>∃fl,FlOK w0 fl a w∧QX σ0 s0 w0 N (Q fl) ex (Act.wD a []) w
theorem plain_soundH {P:Program} {N L M:Nat} {σ0:Gh} {s0:List Obj} {w0:World} (hL:s0.length≤L) {fl:Bool} {c:Code} {Q:Bool→Exit→Env→List Obj→Prop} {e:Env} {s:List Obj} {σ:Gh} {w:World} {a:Act} (hf:FlOK w0 fl a w)
  (hE:Evolve σ0 s0 w0 σ s w) (hI:Inv σ s w) (hR:RepE σ s w N e (Act.wD a [])) (h:codeWp P N L M c (Q fl) e s):c.wpIn (rdF none) 0 P (QH σ0 s0 w0 N Q) a w:=by
 have h1:=codeWp_soundR hL c _ e s σ w _ hE hI hR h none a.defers
 rw[wD_of rfl] at h1
 refine wpIn_mono h1 ?_
 rintro ex a1 w1 ⟨hd1,hk1,hq⟩
 refine⟨fl,?_,hq⟩
 cases fl with
 | false=>exact hd1.trans hf
 | true =>
  obtain⟨D,h2,h3,h4⟩:=hf
  exact⟨D,h2,hd1.trans h3,hk1 _ _ h4 rfl⟩
theorem codeWpH_sound {P:Program} {N L M:Nat} {σ0:Gh} {s0:List Obj} {w0:World} (hL:s0.length≤L):∀(c:Code) (Q:Bool→Exit→Env→List Obj→Prop) (e:Env) (s:List Obj) (σ:Gh) (w:World) (a:Act),
  a.defers=[]→Evolve σ0 s0 w0 σ s w→Inv σ s w→RepE σ s w N e a→codeWpH P N L M c Q e s→c.wpIn (rdF none) 0 P (QH σ0 s0 w0 N Q) a w
 | .seq x y,Q,e,s,σ,w,a,hd,hE,hI,hR,h=>by
  refine wpIn_seq (wpIn_mono (codeWpH_sound hL x _ e s σ w a hd hE hI hR h) ?_)
  rintro ex a1 w1 ⟨fl,hf,e1,σ1,s1,hE1,hI1,hR1,hq⟩
  cases ex with
  | normal =>
   cases fl with
   | false =>
    have hd1:a1.defers=[]:=hf
    rw[wD_nil hd1] at hR1
    exact codeWpH_sound hL y Q e1 s1 σ1 w1 a1 hd1 hE1 hI1 hR1 hq
   | true=>exact plain_soundH hL hf hE1 hI1 hR1 hq
  | exit i=>exact⟨fl,hf,e1,σ1,s1,hE1,hI1,hR1,hq⟩
  | goto i=>exact⟨fl,hf,e1,σ1,s1,hE1,hI1,hR1,hq⟩
  | ret=>exact⟨fl,hf,e1,σ1,s1,hE1,hI1,hR1,hq⟩
  | panic i=>exact⟨fl,hf,e1,σ1,s1,hE1,hI1,hR1,hq⟩
  | outgrown=>exact⟨fl,hf,e1,σ1,s1,hE1,hI1,hR1,hq⟩
 | .cond c x y,Q,e,s,σ,w,a,hd,hE,hI,hR,h=>by
  simp only[codeWpH,condF,condWp] at h
  split at h
  ·rename_i hb
   have hc:=hR.ev c
   rw[hb] at hc
   generalize hcv:a.eval c=cv' at hc
   cases hc with | d hc=>?_
   cases hc with | ub b=>?_
   refine wpIn_cond_split hcv (fun ht=>?_) (fun hf=>?_)
   ·exact codeWpH_sound hL x Q _ s σ w a hd hE hI hR.trim h.1
   ·exact codeWpH_sound hL y Q _ s σ w a hd hE hI hR.trim h.2
  unfold boolWp at h
  split at h
  ·rename_i b hb
   have hc:=hR.ev c
   rw[hb] at hc
   generalize hcv:a.eval c=cv' at hc
   cases hc with | d hc=>?_
   cases hc with | sc _ _=>?_
   refine wpIn_cond_split hcv (fun ht=>?_) (fun hf=>?_)
   ·exact codeWpH_sound hL x Q _ s σ w a hd hE hI hR.trim (h.1 ht)
   ·exact codeWpH_sound hL y Q _ s σ w a hd hE hI hR.trim (h.2 hf)
  ·exact h.elim
 | .block id c,Q,e,s,σ,w,a,hd,hE,hI,hR,h=>by
  refine wpIn_block (wpIn_mono (codeWpH_sound hL c _ e s σ w a hd hE hI hR h) ?_)
  rintro ex a1 w1 ⟨fl,hf,e1,σ1,s1,hE1,hI1,hR1,hq⟩
  cases ex with
  | exit i =>
   unfold Exit.inBlock
   simp only
   have hq:Qblk id (Q fl) (.exit i) e1 s1:=hq
   rw[Qblk_exit] at hq
   split
   ·rename_i hi; rw[if_pos hi] at hq; exact⟨fl,hf,e1,σ1,s1,hE1,hI1,hR1,hq⟩
   ·rename_i hi; rw[if_neg hi] at hq; exact⟨fl,hf,e1,σ1,s1,hE1,hI1,hR1,hq⟩
  | normal=>exact⟨fl,hf,e1,σ1,s1,hE1,hI1,hR1,hq⟩
  | goto i=>exact⟨fl,hf,e1,σ1,s1,hE1,hI1,hR1,hq⟩
  | ret=>exact⟨fl,hf,e1,σ1,s1,hE1,hI1,hR1,hq⟩
  | panic i=>exact⟨fl,hf,e1,σ1,s1,hE1,hI1,hR1,hq⟩
  | outgrown=>exact⟨fl,hf,e1,σ1,s1,hE1,hI1,hR1,hq⟩
 | .rangeFunc g ps assign body,Q,e,s,σ,w,a,hd,hE,hI,hR,h=>by
  obtain⟨tf,p,q,gf,capsD,cnt,v,I,e2,s2,rfl,rfl,hp,hq,hg,hit,hc,h0,hround,hK⟩:=h
  obtain⟨σ2,hE2,hI2,hR2⟩:=hc σ0 s0 w0 σ w N a hL hE hI hR
  refine range_soundD hL hit I hE2 hI2 hR2 hg hp hq h0 hround ?_
  intro D w3 σ3 s3 hD hH hE3 hI3 hR3 hi
  refine⟨true,⟨D,hD,rfl,hH⟩,e2,σ3,s3,hE3,hI3,?_,hK s3 hi⟩
  rw[wD_wD,wD_nil hd]
  exact hR3
 | .skip,Q,e,s,σ,w,a,hd,hE,hI,hR,h=>plain_soundH (fl:=false) hL hd hE hI (by rw[wD_nil hd]; exact hR) h
 | .region ..,Q,e,s,σ,w,a,hd,hE,hI,hR,h=>plain_soundH (fl:=false) hL hd hE hI (by rw[wD_nil hd]; exact hR) h
 | .loop ..,Q,e,s,σ,w,a,hd,hE,hI,hR,h=>plain_soundH (fl:=false) hL hd hE hI (by rw[wD_nil hd]; exact hR) h
 | .exit ..,Q,e,s,σ,w,a,hd,hE,hI,hR,h=>plain_soundH (fl:=false) hL hd hE hI (by rw[wD_nil hd]; exact hR) h
 | .ret,Q,e,s,σ,w,a,hd,hE,hI,hR,h=>plain_soundH (fl:=false) hL hd hE hI (by rw[wD_nil hd]; exact hR) h
 | .scope _,Q,e,s,σ,w,a,hd,hE,hI,hR,h=>plain_soundH (fl:=false) hL hd hE hI (by rw[wD_nil hd]; exact hR) h
 | .label _,Q,e,s,σ,w,a,hd,hE,hI,hR,h=>plain_soundH (fl:=false) hL hd hE hI (by rw[wD_nil hd]; exact hR) h
 | .goto _,Q,e,s,σ,w,a,hd,hE,hI,hR,h=>plain_soundH (fl:=false) hL hd hE hI (by rw[wD_nil hd]; exact hR) h
 | .refuse _,Q,e,s,σ,w,a,hd,hE,hI,hR,h=>plain_soundH (fl:=false) hL hd hE hI (by rw[wD_nil hd]; exact hR) h
def QfinH (P:Program) (rs:List ResultVar) (lim:Nat) (K:V→List Obj→Prop) (_:Bool) (ex:Exit) (e:Env) (s:List Obj):Prop:=Qfin P rs lim K ex e s
theorem QfinH_app {P:Program} {rs:List ResultVar} {lim:Nat} {K:V→List Obj→Prop} {fl:Bool} {ex:Exit} {e:Env} {s:List Obj}:QfinH P rs lim K fl ex e s=Qfin P rs lim K ex e s:=(rfl)
theorem fn_okH {P : Program} {f : FuncId} {fn : Func} {c : Code} {args : List V} {exts : List Obj} {K : V → List Obj → Prop} (hf : P.funcs[f]? = some fn) (hb : fn.body = some c) {N : Nat} (hN : fn.ntmps = N) {rs : Array ResultVar} (hrs : fn.results = rs) (hn : (fn.name != "runtime.NumGoroutine") = true)
  (lim M:Nat) (hl:exts.length≤lim) (ha:args.length≤N)
  (h:codeWpH P N lim M c (QfinH P rs.toList lim K) (envOf args) exts):callWp P f args exts K:=by
 subst hN; subst hrs
 refine⟨by simp only[okFn,hf,hn,hb,Option.isSome_some,Bool.and_self],fun σ w vals hI hvl hv=>?_⟩
 refine callsIn_wide.1 (callsIn_of_wp_marks (F:=Fence.wide) (n:=0) hf hb trivial ?_ rfl)
 have hR:RepE σ exts w fn.ntmps (envOf args) { tmps:=vals++Array.replicate (fn.ntmps - vals.size) undef,defers:=[] }:=by
  refine⟨rfl,by simp; omega,fun t=>?_⟩
  rw[envOf_get]
  by_cases ht:t < args.length
  ·have h1:=hv t args[t] (by simp [ht])
   have:(vals++Array.replicate (fn.ntmps - vals.size) undef).getD t undef=vals.getD t undef:=by
    rw[Array.getD_eq_getD_getElem?,Array.getElem?_append_left (by omega),Array.getD_eq_getD_getElem?]
   rw[this]
   simpa [ht] using h1
  ·have:(vals++Array.replicate (fn.ntmps - vals.size) undef).getD t undef=undef:=by
    rw[Array.getD_eq_getD_getElem?,Array.getElem?_append_right (by omega),Array.getElem?_replicate]
    split <;> rfl
   rw[this]
   simp [ht]
   exact .un
 refine wpIn_mono (F:=rdF none) (codeWpH_sound hl c _ (envOf args) exts σ w _ rfl (Evolve.refl _ _ _) hI hR h) ?_
 rintro ex a' w' ⟨fl,hfl,e',σ',s',hE,hI',hR',hex,hq⟩
 cases fl with
 | false =>
  have hd:a'.defers=[]:=hfl
  rw[wD_nil hd] at hR'
  obtain⟨v,u,k1,k2,k3⟩:=resWp_sound hI' hR' hq
  obtain⟨h1,h2⟩:=k3
  have fin:LeavesInM Fence.wide 0 P fn a'.tmps (fun e w''=>∃u v σ' s',e=.returned u∧Evolve σ exts w σ' s' w''∧Inv σ' s' w''∧RepV σ' s' w'' v u∧K v s') a'.defers .returning w':=by
   rw[hd]
   split at h2
   ·rename_i r' hr'
    exact⟨u,k1,u,r',σ',s'.take lim,rfl,hE.take hl,hI'.take h1,frzV_spec hI' k2 hr',h2⟩
   ·exact h2.elim
  rcases Qend_spec hex with rfl | rfl
  ·exact fin
  ·exact fin
 | true =>
  obtain⟨D,hD,hd,hH⟩:=hfl
  have hT:Tw w.heap.size w' (w'.putObj D (.deferred none)):=.put _ hH rfl hD
  have hE2:=hE.tw hT (Nat.le_refl _)
  have hI2:=hI'.tw hT
  obtain⟨v,u,k1,k2,k3⟩:=resWp_sound hI2 (hR'.tw hT) hq
  obtain⟨h1,h2⟩:=k3
  have fin:LeavesInM Fence.wide 0 P fn a'.tmps (fun e w''=>∃u v σ' s',e=.returned u∧Evolve σ exts w σ' s' w''∧Inv σ' s' w''∧RepV σ' s' w'' v u∧K v s') a'.defers .returning w':=by
   rw[hd]
   refine⟨by simp,.inl ⟨D,_,rfl,run_takeDeferred hH,?_⟩⟩
   split at h2
   ·rename_i r' hr'
    exact⟨u,k1,u,r',σ',s'.take lim,rfl,hE2.take hl,hI2.take h1,frzV_spec hI2 k2 hr',h2⟩
   ·exact h2.elim
  rcases Qend_spec hex with rfl | rfl
  ·exact fin
  ·exact fin
def flatF (P:Program):Nat→List Field→Option (List IntKind)
 | _,[]=>some []
 | i,f::r=>match P.underlying f.type with
  | some (.int q)=>if f.offset=i∧P.cellsOf f.type=1 then (flatF P (i + 1) r).map (q::·) else none
  | _=>none
def flatKey (P:Program) (t:TypeId):Option (List IntKind) :=
 match P.underlying t with
 | some (.struct fs) => if fs.all (·.name != "_") = true ∧ P.keyType t = true ∧ P.cellsOf t = fs.size then flatF P 0 fs.toList else none
 | _=>none
def kI:List IntKind→List Int→List Value
 | q::qs,n::ns=>.int q n::kI qs ns
 | _,_=>[]
def wfI:List IntKind→List Int→Bool
 | q::qs,n::ns=>(Lit.int q n).wf&&wfI qs ns
 | [],[]=>true
 | _,_=>false
theorem kI_len:∀(qs:List IntKind) (ns:List Int),wfI qs ns=true→(kI qs ns).length=qs.length
 | [],[],_=>rfl
 | [],_::_,h=>by simp [wfI] at h
 | _::_,[],h=>by simp [wfI] at h
 | q::qs,n::ns,h=>by
  simp only[wfI,Bool.and_eq_true] at h
  simp [kI,kI_len qs ns h.2]
theorem flatF_len {P:Program}:∀(fs:List Field) (i:Nat) (qs:List IntKind),flatF P i fs=some qs→qs.length=fs.length
 | [],i,qs,h=>by cases h; rfl
 | f::r,i,qs,h=>by
  unfold flatF at h
  split at h
  case h_2=>cases h
  split at h
  case isFalse=>cases h
  obtain⟨qs',h1,rfl⟩:=Option.map_eq_some_iff.1 h
  simp [flatF_len r (i + 1) qs' h1]
theorem flatF_lits {P:Program} (d:Nat):∀(fs:List Field) (i:Nat) (qs:List IntKind) (ns:List Int) (pre:List Value),flatF P i fs=some qs→pre.length=i→wfI qs ns=true →
  ∃L,(fs.mapM fun f=>P.keyLits (d + 1) f.type (((pre++kI qs ns).drop f.offset).take (P.cellsOf f.type)))=some L
 | [],i,qs,ns,pre,_,_,_=>⟨[],rfl⟩
 | f::r,i,qs,ns,pre,h,hp,hw=>by
  unfold flatF at h
  split at h
  case h_2=>cases h
  rename_i q hq
  split at h
  case isFalse=>cases h
  rename_i ho
  obtain⟨qs',h1,rfl⟩:=Option.map_eq_some_iff.1 h
  cases ns with
  | nil=>simp [wfI] at hw
  | cons n ns =>
  simp only[wfI,Bool.and_eq_true] at hw
  obtain⟨L,hL⟩:=flatF_lits d r (i + 1) qs' ns (pre++[.int q n]) h1 (by simp [hp]) hw.2
  refine⟨[.int q n]::L,?_⟩
  simp only[List.append_assoc,List.cons_append,List.nil_append] at hL
  rw[List.mapM_cons]
  have e:((pre++kI (q::qs') (n::ns)).drop f.offset).take (P.cellsOf f.type)=[.int q n]:=by
   rw[ho.1,ho.2,← hp,List.drop_left]; rfl
  rw[e]
  have e2:P.keyLits (d + 1) f.type [.int q n]=some [.int q n]:=by
   unfold Program.keyLits
   simp [hq,hw.1]
  rw[e2]
  simp only[kI]
  rw[hL]
  rfl
theorem keyOk_flat {P:Program} {t:TypeId} {qs:List IntKind} {ns:List Int} (h:flatKey P t=some qs) (hsz:∃m,P.types.size=m + 1) (hw:wfI qs ns=true):KeyOk P t (.agg (kI qs ns).toArray):=by
 unfold flatKey at h
 split at h
 case h_2=>cases h
 rename_i fs hu
 split at h
 case isFalse=>cases h
 rename_i hc
 have hlen:=flatF_len _ _ _ h
 have hk:=kI_len qs ns hw
 have hlen2:(kI qs ns).length=P.cellsOf t:=by rw[hk,hlen,hc.2.2]; simp
 obtain⟨m,hm⟩:=hsz
 obtain⟨L,hL⟩:=flatF_lits (d:=m) fs.toList 0 qs ns [] h rfl hw
 unfold KeyOk keyOf
 simp only[hu]
 rw[if_pos (by simp [hc.2.1,Value.formed,hu,hlen2]),hm]
 unfold Program.keyLits
 simp only[hu,Value.cells]
 rw[if_pos ⟨hlen2,hc.1⟩]
 simp only[List.nil_append] at hL
 rw[hL]
 exact⟨_,rfl⟩
theorem flat_law {P:Program} {t:TypeId} {qs:List IntKind} (hl:laidOutB P=true) (hrow:t < P.types.size) (h:flatKey P t=some qs) (hm:P.keyTypeAt 2 t=true):WideMaps.KeyLaw P t:=by
 refine deep_law_laid hl (m:=2) (by decide) hrow hm ?_
 unfold flatKey at h
 split at h
 case h_2=>cases h
 rename_i fs hu
 rw[hu]
end Go.VL
namespace Go.VL
inductive Mix (lim:Nat) (s:List Obj):V→V→Prop
 | frz {x y:V}:frzV lim s x=some y→Mix lim s x y
 | keep {x:V}:refsV lim x=true→Mix lim s x x
 | ag {cs ds:List V}:ds.length=cs.length→(∀(i:Nat) (x y:V),cs[i]?=some x→ds[i]?=some y→Mix lim s x y)→Mix lim s (.ag cs) (.ag ds)
 | tu {cs ds:List V}:ds.length=cs.length→(∀(i:Nat) (x y:V),cs[i]?=some x→ds[i]?=some y→Mix lim s x y)→Mix lim s (.tu cs) (.tu ds)
theorem callF_map {P:Program} {f:FuncId} (ρ:List Nat) {cargs args:List V} {s exts exts':List Obj} {r r':V} {K:V→List Obj→Prop} (h:callWp P f cargs exts fun v s'=>v=r∧s'=exts') (hnd:ρ.Nodup) (hl:exts'.length=exts.length)
  (hs:ρ.map (fun i=>s[i]?)=exts.map (fun o=>some (renO ρ o))) (ha:args=cargs.map (renV ρ)) (hra:refsV.go exts.length cargs=true) (hre:exts.all (objOk exts.length)=true) (hr:renV ρ r=r') (hk:K r' (putObjs s ρ (exts'.map (renO ρ)))):callF P ρ ρ f args s K:=by
 have hρ:ρ.length=exts.length:=by simpa using congrArg List.length hs
 refine⟨r',exts'.map (renO ρ),by simp [hl,hρ],fun s' _ hs'=>?_,hk⟩
 refine call_map ρ h hnd hl ?_ ha hra hre hr ⟨rfl,rfl⟩
 rw[← hs]
 exact List.map_congr_left fun i hi=>hs' i hi
theorem killO_len:∀(ids:List Nat) (s:List Obj),(killO s ids).length=s.length
 | [],s=>rfl
 | id::ids,s=>by
  rw[killO,killO_len ids]
  unfold kill1
  split <;> simp
theorem Cln0.tell {e:Env} {s s':List Obj} (ids:List Nat) (hs:cleanS s.length (killO s ids)=s'):Cln0 e s e s':=by
 intro σ0 s0 w0 σ w N a hE hI hR
 obtain⟨h1,h2⟩:=killO_ok ids s hI
 have hl:=killO_len ids s
 obtain⟨k1,k2,_⟩:=Cln.drop' (L:=s.length) (e:=e) (s:=killO s ids) s.length (Nat.le_refl _) [] σ (killO s ids) w σ w N a (by omega) (.refl _ _ _) h2 (hR.evolve h1)
 rw[hs] at k1 k2
 have hE2:=h1.trans k1
 exact⟨σ,hE.trans hE2,k2,hR.evolve hE2⟩
theorem Cln.cutE {L:Nat} {e:Env} {s s':List Obj} (lim:Nat) (hL:L≤lim) (hs:s.take lim=s') (ho:s'.all (objOk lim)=true) (hk:∀t,refsV lim (e t)=true):Cln L e s e s':=by
 subst hs
 intro σ0 s0 w0 σ w N a hs0 hE hI hR
 exact⟨σ,hE.take (by omega),hI.take ho,hR.1,hR.2.1,fun t=>(hR.2.2 t).take (hk t)⟩
theorem keepE_refs {lim:Nat} {e:Env} {keep:List Nat} (h:keep.all (fun t=>refsV lim (e t))=true):∀t,refsV lim (keepE keep e t)=true:=by
 intro t
 unfold keepE
 split
 ·rename_i ht
  rw[List.all_eq_true] at h
  exact h t (by simpa using ht)
 ·rfl
theorem rows_clean (n:Nat) (s:List Obj) (L:List (Value × Value)):((rowsK L).map fun c=>c.map (cleanV n s))=rowsK L:=by
 unfold rowsK
 rw[List.map_map]
 rfl
end Go.VL
