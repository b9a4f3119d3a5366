/- A part of the proof (E23 E24). -/
import Derived.Test.YtimnnipoaafdfaaSU45
set_option linter.unusedSimpArgs false
set_option linter.unusedVariables false
set_option maxRecDepth 100000
set_option maxHeartbeats 80000000
namespace Go.Proofs.Ytimnnipoaafdfaa
open Go.VL Go.Proofs.Try
inductive GUK where
 | g (gl:Goal)
 | tl (re:Re) (k:Int) (nx:Goal)
 | cl (re:Re) (nx:Goal)
inductive GUR:Int→GUK→Goal→Prop
 | nil {B:Int}:GUR B (.g .nil) .nil
 | tree {B kind k f:Int} {re:Re} {nx nx':Goal} (hk:kind=0) (hn:GUR (B + nn re) (.g nx) nx'):GUR B (.g (.mk kind re k f nx)) (.mk 0 re.exp 0 0 nx')
 | save {B kind k f k':Int} {re re':Re} {nx nx':Goal} (hk:kind=3) (hr:re'.n=re.n) (hn:GUR B (.g nx) nx'):GUR B (.g (.mk kind re k f nx)) (.mk 3 re' k' f nx')
 | here {B kind k f k':Int} {re re':Re} {nx nx':Goal} (hk:kind=4) (hn:GUR B (.g nx) nx'):GUR B (.g (.mk kind re k f nx)) (.mk 4 re' k' f nx')
 | keep1 {B kind k f f':Int} {re:Re} {nx nx':Goal} (hk:kind=1) (hp:re.kept=true) (hn:GUR B (.g nx) nx'):GUR B (.g (.mk kind re k f nx)) (.mk 1 re.out k f' nx')
 | keep2 {B kind k f:Int} {re:Re} {nx nx':Goal} (hk:kind=2) (hp:re.kept=true) (hn:GUR B (.g nx) nx'):GUR B (.g (.mk kind re k f nx)) (.mk 2 re.out k f nx')
 | more1 {B kind k f:Int} {re:Re} {nx g':Goal} (hk:kind=1) (hp:re.kept=false) (ht:GUR B (.tl re k nx) g'):GUR B (.g (.mk kind re k f nx)) g'
 | more2 {B kind k f:Int} {re:Re} {nx g':Goal} (hk:kind=2) (hp:re.kept=false) (hf:re.mn≤k→f < B) (ht:GUR B (.tl re (k + 1) nx) g'):GUR B (.g (.mk kind re k f nx)) g'
 | star1 {B kind k f f':Int} {re kid:Re} {nx nx':Goal} (hk:kind=1) (hp:re.kept=false) (hkk:re.kids=[kid]) (hx:re.mx=-1) (hm:re.mn≤k) (hn:GUR B (.g nx) nx'):GUR B (.g (.mk kind re k f nx)) (.mk 1 (rept kid.exp (-1) re.mode) (k - re.mn) f' nx')
 | star2 {B kind k f:Int} {re kid:Re} {nx nx':Goal} (hk:kind=2) (hp:re.kept=false) (hkk:re.kids=[kid]) (hx:re.mx=-1) (hm:re.mn≤k) (hn:GUR B (.g nx) nx'):GUR B (.g (.mk kind re k f nx)) (.mk 2 (rept kid.exp (-1) re.mode) (k - re.mn) f nx')
 | lo {B k:Int} {re kid:Re} {nx g':Goal} (hkk:re.kids=[kid]) (hm:k < re.mn) (ht:GUR (B + 1) (.tl re (k + 1) nx) g'):GUR B (.tl re k nx) (.mk 0 kid.exp 0 0 g')
 | star {B k:Int} {re kid:Re} {nx nx':Goal} (hkk:re.kids=[kid]) (hx:re.mx=-1) (hm:k=re.mn) (hn:GUR B (.g nx) nx'):GUR B (.tl re k nx) (.mk 0 (rept kid.exp (-1) re.mode) 0 0 nx')
 | opt {B k:Int} {re kid:Re} {nx c:Goal} {j:Nat} (hkk:re.kids=[kid]) (hx:re.mx≠-1) (hm:re.mn≤k) (hj:k + 1 + j=re.mx) (hc:GUR B (.cl re nx) c):GUR B (.tl re k nx) (.mk 0 (restR re.mode kid.exp j) 0 0 c)
 | fin {B k:Int} {re:Re} {nx c:Goal} (hx:re.mx≠-1) (hm:k=re.mx) (hm2:re.mn≤k) (hc:GUR B (.cl re nx) c):GUR B (.tl re k nx) c
 | base {B:Int} {re:Re} {nx nx':Goal} (hn:GUR B (.g nx) nx'):GUR B (.cl re nx) nx'
 | clo {B f:Int} {re kid:Re} {nx c:Goal} {j:Nat} (hkk:re.kids=[kid]) (hf:f < B) (hc:GUR B (.cl re nx) c):GUR B (.cl re nx) (.mk 2 (restR re.mode kid.exp j) 0 f c)
theorem GUR.mono {B:Int} {k:GUK} {g':Goal} (h:GUR B k g'):∀{C:Int},B≤C→GUR C k g':=by
 induction h with
 | nil=>intro C _; exact .nil
 | tree hk hn ih=>intro C hC; exact .tree hk (ih (by omega))
 | save hk hr hn ih=>intro C hC; exact .save hk hr (ih hC)
 | here hk hn ih=>intro C hC; exact .here hk (ih hC)
 | keep1 hk hp hn ih=>intro C hC; exact .keep1 hk hp (ih hC)
 | keep2 hk hp hn ih=>intro C hC; exact .keep2 hk hp (ih hC)
 | more1 hk hp ht ih=>intro C hC; exact .more1 hk hp (ih hC)
 | more2 hk hp hf ht ih=>intro C hC; exact .more2 hk hp (fun h=>by have:=hf h; omega) (ih hC)
 | star1 hk hp hkk hx hm hn ih=>intro C hC; exact .star1 hk hp hkk hx hm (ih hC)
 | star2 hk hp hkk hx hm hn ih=>intro C hC; exact .star2 hk hp hkk hx hm (ih hC)
 | lo hkk hm ht ih=>intro C hC; exact .lo hkk hm (ih (by omega))
 | star hkk hx hm hn ih=>intro C hC; exact .star hkk hx hm (ih hC)
 | opt hkk hx hm hj hc ih=>intro C hC; exact .opt hkk hx hm hj (ih hC)
 | fin hx hm hm2 hc ih=>intro C hC; exact .fin hx hm hm2 (ih hC)
 | base hn ih=>intro C hC; exact .base (ih hC)
 | clo hkk hf hc ih=>intro C hC; exact .clo hkk (by omega) (ih hC)
theorem GUR.push {nx nx':Goal}:∀{l:List Re} {B:Int},GUR (B + sumN l) (.g nx) nx'→GUR B (.g (pushAll l nx)) (pushAll (l.map Re.exp) nx')
 | [],B,h=>by simpa [sumN,pushAll] using h
 | k::l,B,h=>by
  show GUR B (.g (.mk 0 k 0 0 (pushAll l nx))) (.mk 0 k.exp 0 0 (pushAll (l.map Re.exp) nx'))
  refine .tree rfl (GUR.push (h.mono ?_))
  unfold sumN nn
  rw[List.all_cons]
  cases k.anul <;> cases l.all Re.anul <;> simp <;> omega
section
variable {t:List Int} {most i:Int} {c:CapsL} {st st':ResL} {b:Bool}
theorem run_node {re:Re} {nx:Goal} (h:EvR t most (.node re nx i c) st b st'):EvR t most (.run (.mk 0 re 0 0 nx) i c) st b st':=.tree (by decide) (by decide) (by decide) (by decide) h
theorem run_join {l:List Re} {nx:Goal} (h:EvR t most (.run (pushAll l nx) i c) st b st'):EvR t most (.run (.mk 0 (joinR l) 0 0 nx) i c) st b st':=by
 match l,h with
 | [],h=>exact run_node (.node (by decide) (.cat rfl h))
 | [y],h=>exact h
 | y::z::l,h=>exact run_node (.node (show (2:Int)≠4 by decide) (.cat rfl h))
def restK (mode:Int) (x:Re):Nat→Re
 | 0=>x
 | j + 1=>joinR [x,restR mode x j]
theorem rest_eq (mode:Int) (x:Re):∀j,restR mode x j=rept (restK mode x j) 1 mode
 | 0=>rfl
 | j + 1=>rfl
theorem closers {B:Int} {re:Re} {nx cc:Goal} (h:GUR B (.cl re nx) cc) (hB:B=i) (hm:re.mode≠2) (hx:∀nx',GUR i (.g nx) nx'→EvR t most (.run nx' i c) st b st'):EvR t most (.run cc i c) st b st':=by
 generalize hK:GUK.cl re nx=K at h
 induction h with
 | base hn=>cases hK; subst hB; exact hx _ hn
 | @clo B f re kid nx cc j hkk hf hc ih =>
  cases hK
  have h1:=ih hB rfl
  rw[rest_eq]
  refine .iter (fun h=>by have:=h.2; omega) (.goRep (.repMax hm rfl (by show ¬(0:Int) + 1 < 0; decide) (by show ¬((1:Int)=-1∨(0:Int) + 1 < 1); decide) h1))
 | _=>cases hK
theorem once_opt {re kid:Re} {nx cc:Goal} {k:Int} {j:Nat} (hp:re.kept=false) (hkk:re.kids=[kid]) (hnl:nn kid=1) (hx:re.mx≠-1) (hm:re.mn≤k) (hj:k + 1 + j=re.mx) (hc:GUR i (.cl re nx) cc)
  (h:∀g',GUR i (.g (.mk 0 kid 0 0 (.mk 2 re k i nx))) g'→EvR t most (.run g' i c) st b st'):EvR t most (.run (.mk 0 (restK re.mode kid.exp j) 0 0 (.mk 2 (restR re.mode kid.exp j) 0 i cc)) i c) st b st':=by
 cases j with
 | zero=>exact h _ (.tree rfl (.more2 rfl hp (fun _=>by omega) (.fin hx (by omega) (by omega) (.clo hkk (by omega) (hc.mono (by omega))))))
 | succ j =>
  refine run_join (l:=[kid.exp,restR re.mode kid.exp j]) ?_
  exact h _ (.tree rfl (.more2 rfl hp (fun _=>by omega) (.opt hkk hx (by omega) (by omega) (.clo hkk (by omega) (hc.mono (by omega))))))
end
def tailU (re x:Re):List Re:=if re.mx=-1 then [rept x (-1) re.mode] else if re.mn < re.mx then [restR re.mode x (re.mx - re.mn - 1).toNat] else []
theorem tail_parts {re kid:Re} {nx nx':Goal} (hkk:re.kids=[kid]) (hm0:0≤re.mn) (hmx:re.mx=-1∨re.mn≤re.mx):∀(m:Nat) {B k:Int},k + m=re.mn→GUR (B + m) (.g nx) nx'→GUR B (.tl re k nx) (pushAll (List.replicate m kid.exp++tailU re kid.exp) nx')
 | 0,B,k,hk,h=>by
  have h:GUR B (.g nx) nx':=by simpa using h
  have hk:k=re.mn:=by omega
  show GUR B (.tl re k nx) (pushAll (tailU re kid.exp) nx')
  unfold tailU
  by_cases h1:re.mx=-1
  ·rw[if_pos h1]; exact .star hkk h1 hk h
  ·rw[if_neg h1]
   by_cases h2:re.mn < re.mx
   ·rw[if_pos h2]; exact .opt hkk h1 (by omega) (by omega) (.base h)
   ·rw[if_neg h2]; exact .fin h1 (by omega) (by omega) (.base h)
 | m + 1,B,k,hk,h=>by
  show GUR B (.tl re k nx) (.mk 0 kid.exp 0 0 (pushAll (List.replicate m kid.exp++tailU re kid.exp) nx'))
  refine .lo hkk (by omega) (tail_parts hkk hm0 hmx m (by omega) (h.mono (by push_cast; omega)))
def SimX (t:List Int) (most:Int) (st:ResL) (b:Bool) (st':ResL):ETask→Prop
 | .run gl i c=>∀g',GUR i (.g gl) g'→EvR t most (.run g' i c) st b st'
 | .node re nx i c=>∀nx',GUR (i + nn re) (.g nx) nx'→EvR t most (.run (.mk 0 re.exp 0 0 nx') i c) st b st'
 | .body re nx i c=>∀nx',GUR (i + nn re) (.g nx) nx'→EvR t most (.body re.out nx' i c) st b st'
 | .rep re k nx i c=>(re.kept=true→∀nx',GUR i (.g nx) nx'→EvR t most (.rep re.out k nx' i c) st b st') ∧
   (re.kept=false→re.mx=-1→re.mn≤k→∀kid nx',re.kids=[kid]→GUR i (.g nx) nx'→EvR t most (.rep (rept kid.exp (-1) re.mode) (k - re.mn) nx' i c) st b st') ∧
   (re.kept=false→∀g',GUR i (.tl re k nx) g'→EvR t most (.run g' i c) st b st')
 | .alt l nx i c=>∀nx',GUR (i + leastN l) (.g nx) nx'→EvR t most (.alt (l.map Re.exp) nx' i c) st b st'
 | .behind re kid nx i c j=>∀nx',GUR i (.g nx) nx'→EvR t most (.behind re.out kid.exp nx' i c j) st b st'
section
variable {t:List Int} {most i:Int} {c:CapsL} {st st':ResL} {b:Bool}
theorem sole_kid {re kid:Re} {l:List Re} (hx:re.kids.length=1) (hkk:re.kids=kid::l):re.kids=[kid]:=by
 rw[hkk] at hx ⊢
 rw[List.eq_nil_of_length_eq_zero (l:=l) (by rw[List.length_cons] at hx; omega)]
theorem nn_un {re kid:Re} (hx:re.kept=true∨(re.kids.all fun k=>!k.anul)=true) (hp:re.kept=false) (hkk:re.kids=[kid]):nn kid=1:=by
 rcases hx with h | h
 ·rw[hp] at h; cases h
 ·rw[hkk] at h
  simp at h
  unfold nn; rw[h]; rfl
theorem rep_ways {re kid:Re} {l:List Re} {k:Int} {nx:Goal} (ho:re.op=4) (hok:okx re=true) (hkk:re.kids=kid::l) (hk:¬k < re.mn) (hx:re.mx=-1∨k < re.mx)
  (hK:re.kept=true→∀nx',GUR i (.g nx) nx'→EvR t most (.rep re.out k nx' i c) st b st')
  (hS:re.kept=false→re.mx=-1→re.kids=[kid]→∀nx',GUR i (.g nx) nx'→EvR t most (.rep (rept kid.exp (-1) re.mode) (k - re.mn) nx' i c) st b st')
  (hO:re.kept=false→re.mx≠-1→re.kids=[kid]→∀(j:Nat) cc,k + 1 + j=re.mx→GUR i (.cl re nx) cc→EvR t most (.rep (rept (restK re.mode kid.exp j) 1 re.mode) 0 cc i c) st b st'):SimX t most st b st' (.rep re k nx i c):=by
 have hx4:=(okx_iff.1 hok).2.2 ho
 have h1:=sole_kid hx4.2.1 hkk
 have hm0:=hx4.2.2.1
 refine⟨hK,fun hp hmx hmn kid' nx' hk' hn=>?_,fun hp g' hg=>?_⟩
 ·rw[h1] at hk'; cases hk'; exact hS hp hmx h1 nx' hn
 ·cases hg with
  | lo _ hm=>omega
  | star hk' hmx hm hn =>
   rw[h1] at hk'; cases hk'
   have:=hS hp hmx h1 _ hn
   rw[hm,Int.sub_self] at this
   exact run_node (.nodeRep rfl this)
  | opt hk' hmx hm hj hc =>
   rw[h1] at hk'; cases hk'
   rw[rest_eq]
   exact run_node (.nodeRep rfl (hO hp hmx h1 _ _ hj hc))
  | fin hmx hm=>omega
end
theorem EvR.expand {t:List Int} {most:Int} {task:ETask} {st st':ResL} {b:Bool} (h:EvR t most task st b st'):okT task→SimX t most st b st' task:=by
 induction h with
 | found =>
  intro _ g' hg
  cases hg with
  | nil=>exact .found
 | tree hk1 hk2 hk3 hk4 h ih =>
  intro ho g' hg
  cases hg with
  | tree hk hn=>exact ih ⟨ho.1,ho.2.2⟩ _ hn
  | save hk=>exact absurd hk hk3
  | here hk=>exact absurd hk hk4
  | keep1 hk=>exact absurd hk hk1
  | keep2 hk=>exact absurd hk hk2
  | more1 hk=>exact absurd hk hk1
  | more2 hk=>exact absurd hk hk2
  | star1 hk=>exact absurd hk hk1
  | star2 hk=>exact absurd hk hk2
 | goRep h ih =>
  intro ho g' hg
  have ih:=ih ⟨ho.2.1 (.inl rfl),ho.1,ho.2.2⟩
  cases hg with
  | keep1 hk hp hn=>exact .goRep (ih.1 hp _ hn)
  | more1 hk hp ht=>exact ih.2.2 hp _ ht
  | star1 hk hp hkk hx hm hn=>exact .goRep (ih.2.1 hp hx hm _ _ hkk hn)
  | tree hk=>exact absurd hk (by decide)
  | save hk=>exact absurd hk (by decide)
  | here hk=>exact absurd hk (by decide)
  | keep2 hk=>exact absurd hk (by decide)
  | more2 hk=>exact absurd hk (by decide)
  | star2 hk=>exact absurd hk (by decide)
 | stay hk hi =>
  intro ho g' hg
  cases hg with
  | keep2 hk' hp hn=>exact .stay hk hi
  | more2 hk' hp hf ht=>have:=hf hk; omega
  | star2 hk' hp hkk hx hm hn=>exact .stay (by show (0:Int)≤_; omega) hi
  | tree hk=>exact absurd hk (by decide)
  | save hk=>exact absurd hk (by decide)
  | here hk=>exact absurd hk (by decide)
  | keep1 hk=>exact absurd hk (by decide)
  | more1 hk=>exact absurd hk (by decide)
  | star1 hk=>exact absurd hk (by decide)
 | @iter most k f i re nx c st st' b hk h ih =>
  intro ho g' hg
  have ih:=ih ⟨ho.1,fun _=>ho.2.1 (.inr rfl),ho.2.2⟩
  cases hg with
  | keep2 hk' hp hn=>exact .iter hk (ih _ (.keep1 rfl hp hn))
  | more2 hk' hp hf ht=>exact ih _ (.more1 rfl hp ht)
  | star2 hk' hp hkk hx hm hn =>
   refine .iter (fun h=>hk ⟨hm,h.2⟩) ?_
   rw[show k - re.mn + 1=k + 1 - re.mn by omega]
   exact ih _ (.star1 rfl hp hkk hx (by omega) hn)
  | tree hk=>exact absurd hk (by decide)
  | save hk=>exact absurd hk (by decide)
  | here hk=>exact absurd hk (by decide)
  | keep1 hk=>exact absurd hk (by decide)
  | more1 hk=>exact absurd hk (by decide)
  | star1 hk=>exact absurd hk (by decide)
 | save h ih =>
  intro ho g' hg
  cases hg with
  | save hk hr hn=>exact .save (by rw[hr]; exact ih ho.2.2 _ hn)
  | tree hk=>exact absurd hk (by decide)
  | here hk=>exact absurd hk (by decide)
  | keep1 hk=>exact absurd hk (by decide)
  | keep2 hk=>exact absurd hk (by decide)
  | more1 hk=>exact absurd hk (by decide)
  | more2 hk=>exact absurd hk (by decide)
  | star1 hk=>exact absurd hk (by decide)
  | star2 hk=>exact absurd hk (by decide)
 | here hi h ih =>
  intro ho g' hg
  cases hg with
  | here hk hn=>exact .here hi (ih ho.2.2 _ hn)
  | tree hk=>exact absurd hk (by decide)
  | save hk=>exact absurd hk (by decide)
  | keep1 hk=>exact absurd hk (by decide)
  | keep2 hk=>exact absurd hk (by decide)
  | more1 hk=>exact absurd hk (by decide)
  | more2 hk=>exact absurd hk (by decide)
  | star1 hk=>exact absurd hk (by decide)
  | star2 hk=>exact absurd hk (by decide)
 | gone hi =>
  intro ho g' hg
  cases hg with
  | here hk hn=>exact .gone hi
  | tree hk=>exact absurd hk (by decide)
  | save hk=>exact absurd hk (by decide)
  | keep1 hk=>exact absurd hk (by decide)
  | keep2 hk=>exact absurd hk (by decide)
  | more1 hk=>exact absurd hk (by decide)
  | more2 hk=>exact absurd hk (by decide)
  | star1 hk=>exact absurd hk (by decide)
  | star2 hk=>exact absurd hk (by decide)
 | possNo hm=>intro ho; exact absurd hm ((okx_iff.1 (okx_node ho.2.1)).2.2 ho.1).1
 | possYes hm=>intro ho; exact absurd hm ((okx_iff.1 (okx_node ho.2.1)).2.2 ho.1).1
 | @repMin most k i re kid l nx c st st' b hm hkk hk h ih =>
  intro ho
  have hx4:=(okx_iff.1 (okx_node ho.2.1)).2.2 ho.1
  have h1:=sole_kid hx4.2.1 hkk
  have ih:=ih ⟨okx_kids ho.2.1 kid (by rw[hkk]; simp),fun e=>by omega,ho.2.1,fun _=>ho.1,ho.2.2⟩
  have hr:=nn_range kid
  refine⟨fun hp nx' hn=>.repMin (kid:=kid.exp) (l:=l.map Re.exp) hm (by show re.kids.map Re.exp=_; rw[hkk]; rfl) hk (ih _ (.tree rfl (.keep2 rfl hp (hn.mono (by omega))))),fun hp hmx hmn=>by omega,fun hp g' hg=>?_⟩
  have hnl:=nn_un hx4.2.2.2.2 hp h1
  cases hg with
  | lo hk' hm' ht=>rw[h1] at hk'; cases hk'; exact ih _ (.tree rfl (.more2 rfl hp (fun _=>by omega) (by rw[hnl]; exact ht)))
  | star _ _ hm'=>omega
  | opt _ _ hm'=>omega
  | fin _ _ hm'=>omega
 | @repMax most k i re kid l nx c st st' b hm hkk hk hx h ih =>
  intro ho
  have hx4:=(okx_iff.1 (okx_node ho.2.1)).2.2 ho.1
  refine⟨fun hp nx' hn=>.repMax (kid:=kid.exp) (l:=l.map Re.exp) hm (by show re.kids.map Re.exp=_; rw[hkk]; rfl) hk hx (ih ho.2.2 _ hn),fun hp hmx=>absurd (.inl hmx) hx,fun hp g' hg=>?_⟩
  cases hg with
  | lo _ hm'=>omega
  | star _ hm'=>omega
  | opt _ _ _ hj=>omega
  | fin _ _ _ hc=>exact closers hc rfl hm (ih ho.2.2)
 | @lazyT most k i re kid l nx c st st' hm hkk hk hx h ih =>
  intro ho
  have hx4:=(okx_iff.1 (okx_node ho.2.1)).2.2 ho.1
  have ih:=ih ho.2.2
  exact rep_ways ho.1 (okx_node ho.2.1) hkk hk hx (fun hp nx' hn=>.lazyT (kid:=kid.exp) (l:=l.map Re.exp) hm (by show re.kids.map Re.exp=_; rw[hkk]; rfl) hk hx (ih _ hn))
   (fun hp hmx h1 nx' hn=>.lazyT hm rfl (by show ¬(_:Int) < 0; omega) (.inl rfl) (ih _ hn))
   (fun hp hmx h1 j cc hj hc=>.lazyT hm rfl (by show ¬(0:Int) < 0; decide) (.inr (by show (0:Int) < 1; decide)) (closers hc rfl hx4.1 ih))
 | @lazyF most k i re kid l nx c st s2 st' b hm hkk hk hx h h2 ih ih2 =>
  intro ho
  have hx4:=(okx_iff.1 (okx_node ho.2.1)).2.2 ho.1
  have ih:=ih ho.2.2
  have hr:=nn_range kid
  have ih2:=ih2 ⟨okx_kids ho.2.1 kid (by rw[hkk]; simp),fun e=>by omega,ho.2.1,fun _=>ho.1,ho.2.2⟩
  exact rep_ways ho.1 (okx_node ho.2.1) hkk hk hx (fun hp nx' hn=>.lazyF (kid:=kid.exp) (l:=l.map Re.exp) hm (by show re.kids.map Re.exp=_; rw[hkk]; rfl) hk hx (ih _ hn) (ih2 _ (.tree rfl (.keep2 rfl hp (hn.mono (by omega))))))
   (fun hp hmx h1 nx' hn=>.lazyF hm rfl (by show ¬(_:Int) < 0; omega) (.inl rfl) (ih _ hn) (ih2 _ (.tree rfl (.star2 rfl hp h1 hmx (by omega) (hn.mono (by omega))))))
   (fun hp hmx h1 j cc hj hc=>.lazyF hm rfl (by show ¬(0:Int) < 0; decide) (.inr (by show (0:Int) < 1; decide)) (closers hc rfl hx4.1 ih) (by rw[← rest_eq]; exact once_opt hp h1 (nn_un hx4.2.2.2.2 hp h1) hmx (by omega) hj hc ih2))
 | @moreT most k i re kid l nx c st st' hm hm1 hkk hk hx h ih =>
  intro ho
  have hx4:=(okx_iff.1 (okx_node ho.2.1)).2.2 ho.1
  have hr:=nn_range kid
  have ih:=ih ⟨okx_kids ho.2.1 kid (by rw[hkk]; simp),fun e=>by omega,ho.2.1,fun _=>ho.1,ho.2.2⟩
  exact rep_ways ho.1 (okx_node ho.2.1) hkk hk hx (fun hp nx' hn=>.moreT (kid:=kid.exp) (l:=l.map Re.exp) hm hm1 (by show re.kids.map Re.exp=_; rw[hkk]; rfl) hk hx (ih _ (.tree rfl (.keep2 rfl hp (hn.mono (by omega))))))
   (fun hp hmx h1 nx' hn=>.moreT hm hm1 rfl (by show ¬(_:Int) < 0; omega) (.inl rfl) (ih _ (.tree rfl (.star2 rfl hp h1 hmx (by omega) (hn.mono (by omega))))))
   (fun hp hmx h1 j cc hj hc=>.moreT hm hm1 rfl (by show ¬(0:Int) < 0; decide) (.inr (by show (0:Int) < 1; decide)) (by rw[← rest_eq]; exact once_opt hp h1 (nn_un hx4.2.2.2.2 hp h1) hmx (by omega) hj hc ih))
 | @moreF most k i re kid l nx c st s2 st' b hm hm1 hkk hk hx h h2 ih ih2 =>
  intro ho
  have hx4:=(okx_iff.1 (okx_node ho.2.1)).2.2 ho.1
  have hr:=nn_range kid
  have ih:=ih ⟨okx_kids ho.2.1 kid (by rw[hkk]; simp),fun e=>by omega,ho.2.1,fun _=>ho.1,ho.2.2⟩
  have ih2:=ih2 ho.2.2
  exact rep_ways ho.1 (okx_node ho.2.1) hkk hk hx (fun hp nx' hn=>.moreF (kid:=kid.exp) (l:=l.map Re.exp) hm hm1 (by show re.kids.map Re.exp=_; rw[hkk]; rfl) hk hx (ih _ (.tree rfl (.keep2 rfl hp (hn.mono (by omega))))) (ih2 _ hn))
   (fun hp hmx h1 nx' hn=>.moreF hm hm1 rfl (by show ¬(_:Int) < 0; omega) (.inl rfl) (ih _ (.tree rfl (.star2 rfl hp h1 hmx (by omega) (hn.mono (by omega))))) (ih2 _ hn))
   (fun hp hmx h1 j cc hj hc=>.moreF hm hm1 rfl (by show ¬(0:Int) < 0; decide) (.inr (by show (0:Int) < 1; decide)) (by rw[← rest_eq]; exact once_opt hp h1 (nn_un hx4.2.2.2.2 hp h1) hmx (by omega) hj hc ih) (closers hc rfl hx4.1 ih2))
 | @nodeRep most i re nx c st st' b ho4 h ih =>
  intro ho nx' hn
  have hx4:=(okx_iff.1 (okx_node ho.1)).2.2 ho4
  have ih:=ih ⟨ho4,ho.1,ho.2⟩
  have hr:=nn_range re
  obtain⟨kid,l,hkk⟩:∃kid l,re.kids=kid::l:=List.exists_cons_of_length_pos (by omega)
  have h1:=sole_kid hx4.2.1 hkk
  have h2:=nn_rep ho4 hx4.2.2.1 (kid:=kid) (by rw[hkk]; simp)
  have hrk:=nn_range kid
  cases hp:re.kept with
  | true =>
   have hmn:re.mn=0:=by
    have:(decide (re.mn=0)&&(decide (re.mx=-1)||decide (re.mx=1)))=true:=hp
    simp at this; exact this.1
   rw[if_neg (by omega)] at h2
   rw[Re.exp_keep (.inr hp)]
   exact run_node (.nodeRep ho4 (ih.1 hp _ (hn.mono (by omega))))
  | false =>
   rw[Re.exp_un ho4 hp hkk]
   refine run_join (ih.2.2 hp _ ?_)
   have:=tail_parts (nx:=nx) (nx':=nx') h1 hx4.2.2.1 hx4.2.2.2.1 re.mn.toNat (B:=i) (k:=0) (by omega) (hn.mono (by split at h2 <;> omega))
   exact this
 | @node most i re nx c st st' b ho4 h ih =>
  intro ho nx' hn
  rw[Re.exp_keep (.inl ho4)]
  exact run_node (.node ho4 (ih ⟨ho4,ho.1,ho.2⟩ _ hn))
 | @empty most i re nx c st st' b hop h ih =>
  intro ho nx' hn
  have hr:=nn_range re
  have hx:=okx_iff.1 (okx_node ho.2.1)
  have h4:=ho.1
  have hop':=hop
  simp only[List.mem_cons,List.not_mem_nil,or_false,not_or] at hop'
  have hz:=nn_zero (re:=re) (by omega)
  exact .empty hop (ih ho.2.2 _ (hn.mono (by omega)))
 | @setYes most i re nx c st st' b hop hi hs h ih =>
  intro ho nx' hn
  have hr:=nn_range re
  exact .setYes hop hi hs (ih ho.2.2 _ (hn.mono (by omega)))
 | setNo hop hn=>intro ho nx' _; exact .setNo hop hn
 | @cat most i re nx c st st' b hop h ih =>
  intro ho nx' hn
  rw[nn_cat hop] at hn
  exact .cat hop (ih (okG_push ho.2.2 (okx_kids ho.2.1)) _ hn.push)
 | @alt most i re nx c st st' b hop h ih =>
  intro ho nx' hn
  have:=leastN_of (nn_range re).2 re.kids (fun k hk=>nn_any (.inl hop) hk)
  exact .alt hop (ih ⟨okx_kids ho.2.1,ho.2.2⟩ _ (hn.mono (by omega)))
 | altNil=>intro _ _ _; exact .altNil
 | @altT most i kid l nx c st st' h ih =>
  intro ho nx' hn
  simp only[leastN] at hn
  exact .altT (ih ⟨ho.1 kid (by simp),fun e=>by omega,ho.2⟩ _ (.tree rfl (hn.mono (by omega))))
 | @altF most i kid l nx c st s2 st' b h h2 ih ih2 =>
  intro ho nx' hn
  simp only[leastN] at hn
  exact .altF (ih ⟨ho.1 kid (by simp),fun e=>by omega,ho.2⟩ _ (.tree rfl (hn.mono (by omega)))) (ih2 ⟨fun k hk=>ho.1 k (by simp [hk]),ho.2⟩ _ (hn.mono (by omega)))
 | @cap most i re kid l nx c st st' b hop hkk h ih =>
  intro ho nx' hn
  have hmem:kid∈re.kids:=by rw[hkk]; simp
  have:=nn_any (.inr (.inr (.inl hop))) hmem
  exact .cap (kid:=kid.exp) (l:=l.map Re.exp) hop (by show re.kids.map Re.exp=_; rw[hkk]; rfl) (ih ⟨okx_kids ho.2.1 kid hmem,fun e=>by omega,ho.2.1,fun e=>by omega,ho.2.2⟩ _ (.tree rfl (.save rfl rfl (hn.mono (by omega)))))
 | refNone hop hx=>intro ho nx' _; exact .refNone hop hx
 | refLong hop hx hl=>intro ho nx' _; exact .refLong hop hx hl
 | @refYes most i re nx c st st' b hop hx h12 hl hs h ih =>
  intro ho nx' hn
  have hz:=nn_zero (re:=re) (by omega)
  exact .refYes hop hx h12 hl hs (ih ho.2.2 _ (hn.mono (by omega)))
 | refNo hop hx hl hs=>intro ho nx' _; exact .refNo hop hx hl hs
 | @aheadNo most i re kid l nx c st x b hop hkk h he hn ih =>
  intro ho nx' _
  have hmem:kid∈re.kids:=by rw[hkk]; simp
  exact .aheadNo (kid:=kid.exp) (l:=l.map Re.exp) hop (by show re.kids.map Re.exp=_; rw[hkk]; rfl) (ih ⟨okx_kids ho.2.1 kid hmem,fun e=>by omega,trivial⟩ _ (.tree rfl .nil)) he hn
 | @aheadNoNeg most i re kid l nx c st x st' b b' hop hkk h he hn h2 ih ih2 =>
  intro ho nx' hx
  have hmem:kid∈re.kids:=by rw[hkk]; simp
  have hz:=nn_zero (re:=re) (by omega)
  exact .aheadNoNeg (kid:=kid.exp) (l:=l.map Re.exp) hop (by show re.kids.map Re.exp=_; rw[hkk]; rfl) (ih ⟨okx_kids ho.2.1 kid hmem,fun e=>by omega,trivial⟩ _ (.tree rfl .nil)) he hn (ih2 ho.2.2 _ (hx.mono (by omega)))
 | @aheadYes most i e re kid l nx c d ld st x st' b b' hop hkk h he hn h2 ih ih2 =>
  intro ho nx' hx
  have hmem:kid∈re.kids:=by rw[hkk]; simp
  have hz:=nn_zero (re:=re) (by omega)
  exact .aheadYes (kid:=kid.exp) (l:=l.map Re.exp) hop (by show re.kids.map Re.exp=_; rw[hkk]; rfl) (ih ⟨okx_kids ho.2.1 kid hmem,fun e=>by omega,trivial⟩ _ (.tree rfl .nil)) he hn (ih2 ho.2.2 _ (hx.mono (by omega)))
 | @aheadYesNeg most i e re kid l nx c d ld st x b hop hkk h he hn ih =>
  intro ho nx' _
  have hmem:kid∈re.kids:=by rw[hkk]; simp
  exact .aheadYesNeg (kid:=kid.exp) (l:=l.map Re.exp) hop (by show re.kids.map Re.exp=_; rw[hkk]; rfl) (ih ⟨okx_kids ho.2.1 kid hmem,fun e=>by omega,trivial⟩ _ (.tree rfl .nil)) he hn
 | @behind most i re kid l nx c st st' b hop hkk h ih =>
  intro ho nx' hx
  have hz:=nn_zero (re:=re) (by omega)
  exact .behind (kid:=kid.exp) (l:=l.map Re.exp) hop (by show re.kids.map Re.exp=_; rw[hkk]; rfl) (ih ⟨okx_kids ho.2.1 kid (by rw[hkk]; simp),ho.2.2⟩ _ (hx.mono (by omega)))
 | bhNo hn=>intro ho nx' _; exact .bhNo hn
 | bhNoNeg hn h ih=>intro ho nx' hx; exact .bhNoNeg hn (ih ho.2 _ hx)
 | bhYes h he hn h2 ih ih2=>intro ho nx' hx; exact .bhYes (ih ⟨ho.1,fun e=>by omega,ok_zero,fun e=>by omega,trivial⟩ _ (.tree rfl (.here rfl .nil))) he hn (ih2 ho.2 _ hx)
 | bhYesNeg h he hn ih=>intro ho nx' _; exact .bhYesNeg (ih ⟨ho.1,fun e=>by omega,ok_zero,fun e=>by omega,trivial⟩ _ (.tree rfl (.here rfl .nil))) he hn
 | bhMore h he h2 ih ih2=>intro ho nx' hx; exact .bhMore (ih ⟨ho.1,fun e=>by omega,ok_zero,fun e=>by omega,trivial⟩ _ (.tree rfl (.here rfl .nil))) he (ih2 ho _ hx)
 | @atomNo most i re kid l nx c st x b hop hkk h he ih =>
  intro ho nx' _
  have hmem:kid∈re.kids:=by rw[hkk]; simp
  exact .atomNo (kid:=kid.exp) (l:=l.map Re.exp) hop (by show re.kids.map Re.exp=_; rw[hkk]; rfl) (ih ⟨okx_kids ho.2.1 kid hmem,fun e=>by omega,trivial⟩ _ (.tree rfl .nil)) he
 | @atomYes most i e re kid l nx c d ld st x st' b b' hop hkk h he h2 ih ih2 =>
  intro ho nx' hx
  have hmem:kid∈re.kids:=by rw[hkk]; simp
  have hok:okT (.run (.mk 0 kid 0 0 .nil) i c):=⟨okx_kids ho.2.1 kid hmem,fun e=>by omega,trivial⟩
  have h1:=(h.prog hok).first he
  have h3:=nn_any (.inr (.inr (.inr hop))) hmem
  have hz:mustG .nil=0:=rfl
  simp only[lowT,must0] at h1
  exact .atomYes (kid:=kid.exp) (l:=l.map Re.exp) hop (by show re.kids.map Re.exp=_; rw[hkk]; rfl) (ih hok _ (.tree rfl .nil)) he (ih2 ho.2.2 _ (hx.mono (by omega)))
 | @cond most i re yes no l nx c st st' b hop hkk h ih =>
  intro ho nx' hx
  have hy:yes∈re.kids:=by rw[hkk]; simp
  have hn:no∈re.kids:=by rw[hkk]; simp
  have h1:=nn_any (.inr (.inl hop)) hy
  have h2:=nn_any (.inr (.inl hop)) hn
  refine .cond (yes:=yes.exp) (no:=no.exp) (l:=l.map Re.exp) hop (by show re.kids.map Re.exp=_; rw[hkk]; rfl) ?_
  show EvR _ _ (.run (.mk 0 (if 0≤(spanR c re.n).1 then yes.exp else no.exp) 0 0 nx') i c) _ _ _
  by_cases hs:0≤(spanR c re.n).1
  ·rw[if_pos hs] at ih ⊢
   exact ih ⟨okx_kids ho.2.1 yes hy,fun e=>by omega,ho.2.2⟩ _ (.tree rfl (hx.mono (by omega)))
  ·rw[if_neg hs] at ih ⊢
   exact ih ⟨okx_kids ho.2.1 no hn,fun e=>by omega,ho.2.2⟩ _ (.tree rfl (hx.mono (by omega)))
 | @assertYes most i re nx c st st' b hop hh h ih =>
  intro ho nx' hx
  have hz:=nn_zero (re:=re) (by omega)
  exact .assertYes hop hh (ih ho.2.2 _ (hx.mono (by omega)))
 | assertNo hop hh=>intro ho nx' _; exact .assertNo hop hh
theorem exp_res {t:List Int} {F F' i:Int} {re:Re} {c:CapsL} {st st':Sst} {b b':Bool} (hok:re.every okx=true) (h1:EvI t F (-1) (.run (.mk 0 re 0 0 .nil) i c) ⟨0,false,[],[]⟩ b st) (e1:st.empty=false)
  (h2:EvI t F' (-1) (.run (.mk 0 re.exp 0 0 .nil) i c) ⟨0,false,[],[]⟩ b' st') (e2:st'.empty=false):st.res=st'.res :=
 ((((h1.toR rfl e1).expand ⟨hok,fun e=>by omega,trivial⟩) _ (.tree rfl .nil)).det (h2.toR rfl e2)).2
end Go.Proofs.Ytimnnipoaafdfaa
