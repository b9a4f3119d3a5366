/- A part of the proof (E12). -/
import Derived.Test.YtllagoeijcjpiaaSL18
set_option linter.unusedSimpArgs false
set_option linter.unusedVariables false
set_option maxRecDepth 100000
set_option maxHeartbeats 80000000
namespace Go.Proofs.Ytllagoeijcjpiaa
open Go.VL Go.Proofs.Try
structure ShT (x δ:Int) (t u:List Int):Prop where
 x0:0≤x
 dx:δ≤x
 len:(t.length:Int)=u.length + δ
 same:∀i,x≤i→tAt t i=tAt u (i - δ)
def shP (δ:Int) (q:Int × Int):Int × Int:=if q.1 < 0 then q else (q.1 - δ,q.2 - δ)
def shC (δ:Int) (c:CapsL):CapsL:=c.map (shP δ)
def shG (δ:Int):Goal→Goal
 | .nil=>.nil
 | .mk kind re k f nx=>.mk kind re k (if kind=2∨kind=3 then f - δ else f) (shG δ nx)
def shS (δ:Int) (st:Sst):Sst:=⟨st.steps,st.empty,st.ends.map (· - δ),st.caps.map (shC δ)⟩
def shK (δ:Int):Task→Task
 | .run g i c=>.run (shG δ g) (i - δ) (shC δ c)
 | .rep g i c=>.rep (shG δ g) (i - δ) (shC δ c)
 | .node g i c=>.node (shG δ g) (i - δ) (shC δ c)
def locB (r:Re):Bool:=decide (r.op≠7∧r.op≠8∧r.op≠11)
def CapX (x:Int) (c:CapsL):Prop:=∀q∈c,q=(-1,-1)∨x≤q.1
def GX (x:Int):Goal→Prop
 | .nil=>True
 | .mk kind re _ f nx=>re.every locB=true∧kind≠4∧(kind=2∨kind=3→x≤f)∧GX x nx
def KX (x:Int):Task→Prop
 | .run g i c=>GX x g∧x≤i∧CapX x c
 | .rep g i c=>GX x g∧x≤i∧CapX x c
 | .node g i c=>GX x g∧x≤i∧CapX x c
def SX (x:Int) (st:Sst):Prop:=(∀e∈st.ends,x≤e)∧∀c∈st.caps,CapX x c
theorem shC_len (δ:Int) (c:CapsL):(shC δ c).length=c.length:=List.length_map _
theorem span_sh (δ:Int) (c:CapsL) (n:Int):spanR (shC δ c) n=shP δ (spanR c n):=by
 unfold spanR
 rw[shC_len]
 split
 ·rfl
 ·unfold shC
  rw[List.getD_eq_getElem?_getD,List.getD_eq_getElem?_getD,List.getElem?_map]
  cases c[(n - 1).toNat]? with
  | none=>rfl
  | some q=>rfl
theorem span_x {x:Int} {c:CapsL} (h:CapX x c) (n:Int):spanR c n=(-1,-1)∨x≤(spanR c n).1:=by
 unfold spanR
 split
 ·exact .inl rfl
 ·rw[List.getD_eq_getElem?_getD]
  cases hq:c[(n - 1).toNat]? with
  | none=>exact .inl rfl
  | some q=>exact h q (List.mem_of_getElem? hq)
theorem with_sh (δ:Int) (c:CapsL) (n f i:Int) (hf:0≤f):withR (shC δ c) n (f - δ) (i - δ)=shC δ (withR c n f i):=by
 unfold withR
 rw[shC_len]
 split
 ·unfold shC
  rw[List.map_set]
  congr 1
  unfold shP
  rw[if_neg (by show ¬f < 0; omega)]
 ·rfl
theorem with_x {x:Int} {c:CapsL} (h:CapX x c) (n f i:Int) (hf:x≤f):CapX x (withR c n f i):=by
 unfold withR
 split
 ·intro q hq
  rcases List.mem_or_eq_of_mem_set hq with hq | rfl
  ·exact h q hq
  ·exact .inr hf
 ·exact h
theorem push_sh (δ:Int):∀(l:List Re) (nx:Goal),shG δ (pushAll l nx)=pushAll l (shG δ nx)
 | [],_=>rfl
 | k::l,nx=>by
  show Goal.mk 0 k 0 (if (0:Int)=2∨(0:Int)=3 then 0 - δ else 0) (shG δ (pushAll l nx))=Goal.mk 0 k 0 0 (pushAll l (shG δ nx))
  rw[push_sh δ l nx,if_neg (by decide)]
theorem push_x {x:Int}:∀(l:List Re) {nx:Goal},(∀k∈l,k.every locB=true)→GX x nx→GX x (pushAll l nx)
 | [],_,_,h=>h
 | k::l,nx,hl,h=>⟨hl k (by simp),by decide,(fun h=>by omega),push_x l (fun k hk=>hl k (by simp [hk])) h⟩
theorem gx0 {x:Int} {re:Re} {nx:Goal} (h:re.every locB=true) (hn:GX x nx) (k f:Int):GX x (.mk 0 re k f nx):=⟨h,by decide,(fun h=>by omega),hn⟩
theorem gx1 {x:Int} {re:Re} {nx:Goal} (h:re.every locB=true) (hn:GX x nx) (k f:Int):GX x (.mk 1 re k f nx):=⟨h,by decide,(fun h=>by omega),hn⟩
theorem gx2 {x:Int} {re:Re} {nx:Goal} (h:re.every locB=true) (hn:GX x nx) (k:Int) {f:Int} (hf:x≤f):GX x (.mk 2 re k f nx):=⟨h,by decide,(fun _=>hf),hn⟩
theorem gx3 {x:Int} {re:Re} {nx:Goal} (h:re.every locB=true) (hn:GX x nx) (k:Int) {f:Int} (hf:x≤f):GX x (.mk 3 re k f nx):=⟨h,by decide,(fun _=>hf),hn⟩
theorem loc_kids {re:Re} (h:re.every locB=true):(re.op≠7∧re.op≠8∧re.op≠11)∧∀k∈re.kids,k.every locB=true:=by
 obtain⟨h1,h2⟩:=(Re.every_iff re).1 h
 exact⟨of_decide_eq_true h1,h2⟩
theorem loc_mode {re:Re} (h:re.every locB=true) (m:Int):(re.setMode m).every locB=true:=by
 obtain⟨h1,h2⟩:=(Re.every_iff re).1 h
 exact(Re.every_iff _).2 ⟨h1,h2⟩
section loc
variable {x δ:Int} {t u:List Int} (hT:ShT x δ t u) {F:Int} {rec rec':Int→Task→Sst→Option (Bool × Sst)}
theorem sameR_sh (hT:ShT x δ t u) {a i:Int} (ha:x≤a) (hi:x≤i) (n:Nat):sameR u (a - δ) (i - δ) n=sameR t a i n:=by
 unfold sameR
 congr 1
 funext j
 rw[hT.same (a + j) (by omega),hT.same (i + j) (by omega)]
 rw[show a + (j:Int) - δ=a - δ + j by omega,show i + (j:Int) - δ=i - δ + j by omega]
variable (h:∀most task st b st',rec most task st=some (b,st')→KX x task→SX x st→SX x st'∧rec' most (shK δ task) (shS δ st)=some (b,shS δ st'))
def OrOK (x δ:Int) (st':Sst) (b:Bool) (o:Option (Bool × Sst)):Prop:=SX x st'∧o=some (b,shS δ st')
omit h hT in
theorem sl_or {s1 st':Sst} {b1 b:Bool} {a':Option (Bool × Sst)} {k k':Sst→Option (Bool × Sst)} (h1:OrOK x δ s1 b1 a') (hr:orR (some (b1,s1)) k=some (b,st')) (hk:SX x s1→k s1=some (b,st')→OrOK x δ st' b (k' (shS δ s1))):OrOK x δ st' b (orR a' k'):=by
 obtain⟨h1,rfl⟩:=h1
 cases b1 with
 | true =>
  simp only[orR,Option.some.injEq,Prod.mk.injEq] at hr
  obtain⟨rfl,rfl⟩:=hr
  exact⟨h1,rfl⟩
 | false=>exact hk h1 hr
include h
theorem sl_first {g:Goal} {i:Int} {c:CapsL} {st s2:Sst} {o:Option (Int × CapsL)} (hr:firstR rec g i c st=some (o,s2)) (hg:GX x g) (hi:x≤i) (hc:CapX x c) (hs:SX x st) :
  SX x s2∧firstR rec' (shG δ g) (i - δ) (shC δ c) (shS δ st)=some (o.map (fun p=>(p.1 - δ,shC δ p.2)),shS δ s2)∧∀e d,o=some (e,d)→x≤e∧CapX x d:=by
 unfold firstR at hr ⊢
 cases hx:rec 1 (.run g i c) ⟨st.steps,false,[],[]⟩ with
 | none=>rw[hx] at hr; cases hr
 | some y =>
  obtain⟨b,z⟩:=y
  rw[hx] at hr
  simp only at hr
  obtain⟨a1,a2⟩:=h _ _ _ _ _ hx ⟨hg,hi,hc⟩ ⟨by simp,by simp⟩
  have a2:rec' 1 (.run (shG δ g) (i - δ) (shC δ c)) ⟨(shS δ st).steps,false,[],[]⟩=some (b,shS δ z):=a2
  rw[a2]
  obtain⟨zs,ze,zends,zcaps⟩:=z
  cases ze with
  | true=>cases hr; exact⟨hs,rfl,fun e d h=>by cases h⟩
  | false =>
   match zends,zcaps,hr,a1 with
   | [],_,hr,_=>cases hr; exact⟨hs,rfl,fun e d h=>by cases h⟩
   | e::_,d::_,hr,a1 =>
    cases hr
    exact⟨hs,rfl,fun e' d' h=>by cases h; exact⟨a1.1 e (by simp),a1.2 d (by simp)⟩⟩
   | _::_,[],hr,_=>cases hr
theorem sl_alt {most:Int} {nx:Goal} {i:Int} {c:CapsL} (hn:GX x nx) (hi:x≤i) (hc:CapX x c):∀(l:List Re) (st st':Sst) (b:Bool),(∀k∈l,k.every locB=true)→SX x st→altR (fun k st=>rec most (.run (.mk 0 k 0 0 nx) i c) st) l st=some (b,st')→OrOK x δ st' b (altR (fun k st=>rec' most (.run (.mk 0 k 0 0 (shG δ nx)) (i - δ) (shC δ c)) st) l (shS δ st))
 | [],st,st',b,_,hs,hr=>by simp only[altR] at hr ⊢; cases hr; exact⟨hs,rfl⟩
 | k::l,st,st',b,hl,hs,hr=>by
  simp only[altR] at hr ⊢
  cases hx:rec most (.run (.mk 0 k 0 0 nx) i c) st with
  | none=>rw[hx] at hr; cases hr
  | some y =>
   obtain⟨b1,s1⟩:=y
   rw[hx] at hr
   exact sl_or (h _ _ _ _ _ hx ⟨gx0 (hl k (by simp)) hn 0 0,hi,hc⟩ hs) hr fun hs1 hk=>sl_alt hn hi hc l s1 st' b (fun k hk=>hl k (by simp [hk])) hs1 hk
include hT in
theorem sl_node {most:Int} {re:Re} {next:Goal} {i:Int} {c:CapsL} {st st':Sst} {b:Bool} (hre:re.every locB=true) (hn:GX x next) (hi:x≤i) (hc:CapX x c) (hs:SX x st) (hr:nodeR t rec most re next i c st=some (b,st')):OrOK x δ st' b (nodeR u rec' most re (shG δ next) (i - δ) (shC δ c) (shS δ st)):=by
 obtain⟨⟨n7,n8,n11⟩,hkids⟩:=loc_kids hre
 have hx0:=hT.x0
 have hdx:=hT.dx
 have hlen:=hT.len
 unfold nodeR at hr ⊢
 have no:∀{b:Bool} {st':Sst},some (false,st)=some (b,st')→OrOK x δ st' b (some (false,shS δ st)):=by
  intro b st' hh; cases hh; exact⟨hs,rfl⟩
 by_cases o1:re.op=1
 ·rw[if_pos o1] at hr ⊢
  by_cases q:i < t.length∧inB re.set (tAt t i)=true
  ·rw[if_pos q] at hr
   rw[if_pos (show i - δ < u.length∧inB re.set (tAt u (i - δ))=true from ⟨by omega,by rw[← hT.same i hi]; exact q.2⟩),show i - δ + 1=i + 1 - δ by omega]
   exact h _ _ _ _ _ hr ⟨hn,by omega,hc⟩ hs
  ·rw[if_neg q] at hr
   rw[if_neg (show ¬(i - δ < u.length∧inB re.set (tAt u (i - δ))=true) from fun q'=>q ⟨by omega,by rw[hT.same i hi]; exact q'.2⟩)]
   exact no hr
 rw[if_neg o1] at hr ⊢
 by_cases o2:re.op=2
 ·rw[if_pos o2] at hr ⊢
  rw[← push_sh]
  exact h _ _ _ _ _ hr ⟨push_x _ hkids hn,hi,hc⟩ hs
 rw[if_neg o2] at hr ⊢
 by_cases o3:re.op=3
 ·rw[if_pos o3] at hr ⊢
  exact sl_alt h hn hi hc re.kids st st' b hkids hs hr
 rw[if_neg o3] at hr ⊢
 by_cases o5:re.op=5
 ·rw[if_pos o5] at hr ⊢
  cases hk:re.kids with
  | nil=>rw[hk] at hr; cases hr
  | cons kid l =>
   rw[hk] at hr
   exact h _ _ _ _ _ hr ⟨gx0 (hkids kid (by rw[hk]; simp)) (gx3 hre hn 0 hi) 0 0,hi,hc⟩ hs
 rw[if_neg o5] at hr ⊢
 by_cases o6:re.op=6
 ·rw[if_pos o6] at hr ⊢
  simp only at hr ⊢
  rw[span_sh]
  by_cases q1:(spanR c re.n).1 < 0
  ·rw[if_pos q1] at hr
   rw[if_pos (show (shP δ (spanR c re.n)).1 < 0 by unfold shP; rw[if_pos q1]; exact q1)]
   exact no hr
  have hsp:x≤(spanR c re.n).1:=by
   rcases span_x hc re.n with e | e
   ·rw[e] at q1; exact absurd (by decide) q1
   ·exact e
  have e1:shP δ (spanR c re.n)=((spanR c re.n).1 - δ,(spanR c re.n).2 - δ):=by unfold shP; rw[if_neg q1]
  rw[if_neg q1] at hr
  rw[e1]
  simp only
  rw[if_neg (by omega)]
  by_cases q2:(spanR c re.n).2 < (spanR c re.n).1∨(t.length:Int) < (spanR c re.n).2
  ·rw[if_pos q2] at hr; cases hr
  rw[if_neg q2] at hr
  rw[if_neg (show ¬((spanR c re.n).2 - δ < (spanR c re.n).1 - δ∨(u.length:Int) < (spanR c re.n).2 - δ) by omega)]
  have e2:i - δ + ((spanR c re.n).2 - δ) - ((spanR c re.n).1 - δ)=i + (spanR c re.n).2 - (spanR c re.n).1 - δ:=by omega
  have e3:(spanR c re.n).2 - δ - ((spanR c re.n).1 - δ)=(spanR c re.n).2 - (spanR c re.n).1:=by omega
  rw[e2,e3,sameR_sh hT hsp hi]
  by_cases q3:t.length < i + (spanR c re.n).2 - (spanR c re.n).1
  ·rw[if_pos q3] at hr
   rw[if_pos (by omega)]
   exact no hr
  rw[if_neg q3] at hr
  rw[if_neg (by omega)]
  by_cases q4:sameR t (spanR c re.n).1 i ((spanR c re.n).2 - (spanR c re.n).1).toNat=true
  ·rw[if_pos q4] at hr ⊢
   exact h _ _ _ _ _ hr ⟨hn,by omega,hc⟩ hs
  ·rw[if_neg q4] at hr ⊢; exact no hr
 rw[if_neg o6] at hr ⊢
 rw[if_neg (by omega)] at hr ⊢
 by_cases o9:re.op=9
 ·rw[if_pos o9] at hr ⊢
  cases hk:re.kids with
  | nil=>rw[hk] at hr; cases hr
  | cons kid l =>
   rw[hk] at hr
   simp only at hr ⊢
   cases hf:firstR rec (.mk 0 kid 0 0 .nil) i c st with
   | none=>rw[hf] at hr; cases hr
   | some y =>
    obtain⟨o,s1⟩:=y
    rw[hf] at hr
    simp only at hr
    obtain⟨a1,a2,a3⟩:=sl_first h hf (gx0 (nx:=.nil) (hkids kid (by rw[hk]; simp)) trivial 0 0) hi hc hs
    have a2:firstR rec' (.mk 0 kid 0 0 .nil) (i - δ) (shC δ c) (shS δ st)=some (o.map (fun p=>(p.1 - δ,shC δ p.2)),shS δ s1):=a2
    rw[a2]
    simp only
    by_cases he1:s1.empty=true
    ·rw[if_pos he1] at hr
     rw[if_pos (show (shS δ s1).empty=true from he1)]
     cases hr; exact⟨a1,rfl⟩
    rw[if_neg he1] at hr
    rw[if_neg (show ¬(shS δ s1).empty=true from he1)]
    cases o with
    | some p =>
     obtain⟨b1,b2⟩:=a3 p.1 p.2 rfl
     exact h _ _ _ _ _ hr ⟨hn,b1,b2⟩ a1
    | none=>simp only at hr; cases hr; exact⟨a1,rfl⟩
 rw[if_neg o9] at hr ⊢
 by_cases o10:re.op=10
 ·rw[if_pos o10] at hr ⊢
  match hk:re.kids with
  | []=>rw[hk] at hr; cases hr
  | [_]=>rw[hk] at hr; cases hr
  | yes::no'::l =>
   rw[hk] at hr
   simp only at hr ⊢
   rw[span_sh]
   have e:(0≤(shP δ (spanR c re.n)).1)=(0≤(spanR c re.n).1):=by
    unfold shP
    split
    ·rfl
    ·rename_i q1
     have hsp:x≤(spanR c re.n).1:=by
      rcases span_x hc re.n with e | e
      ·rw[e] at q1; exact absurd (by decide) q1
      ·exact e
     simp only[eq_iff_iff]
     omega
   simp only[e]
   have:=h _ _ _ _ _ hr ⟨gx0 (re:=if 0≤(spanR c re.n).1 then yes else no') (by split; exact hkids yes (by rw[hk]; simp); exact hkids no' (by rw[hk]; simp)) hn 0 0,hi,hc⟩ hs
   exact this
 rw[if_neg o10] at hr ⊢
 rw[if_neg n11] at hr ⊢
 exact h _ _ _ _ _ hr ⟨hn,hi,hc⟩ hs
omit h in
theorem sh_step (st:Sst):(shS δ st).step F=shS δ (st.step F):=rfl
theorem sl_rep {most:Int} {re:Re} {k:Int} {next:Goal} {i:Int} {c:CapsL} {st st':Sst} {b:Bool} (hre:re.every locB=true) (hn:GX x next) (hi:x≤i) (hc:CapX x c) (hs:SX x st) (hr:repR F rec most re k next i c st=some (b,st')):OrOK x δ st' b (repR F rec' most re k (shG δ next) (i - δ) (shC δ c) (shS δ st)):=by
 obtain⟨_,hkids⟩:=loc_kids hre
 unfold repR at hr ⊢
 by_cases m2:re.mode=2
 ·rw[if_pos m2] at hr ⊢
  cases hf:firstR rec (.mk 1 (re.setMode 0) 0 0 .nil) i c st with
  | none=>rw[hf] at hr; cases hr
  | some y =>
   obtain⟨o,s1⟩:=y
   rw[hf] at hr
   simp only at hr
   obtain⟨a1,a2,a3⟩:=sl_first h hf (gx1 (nx:=.nil) (loc_mode hre 0) trivial 0 0) hi hc hs
   have a2:firstR rec' (.mk 1 (re.setMode 0) 0 0 .nil) (i - δ) (shC δ c) (shS δ st)=some (o.map (fun p=>(p.1 - δ,shC δ p.2)),shS δ s1):=a2
   rw[a2]
   cases o with
   | some p =>
    obtain⟨b1,b2⟩:=a3 p.1 p.2 rfl
    exact h _ _ _ _ _ hr ⟨hn,b1,b2⟩ a1
   | none=>simp only at hr; cases hr; exact⟨a1,rfl⟩
 rw[if_neg m2] at hr ⊢
 by_cases c0:st.steps < 0∨10000000000000 < st.steps
 ·rw[if_pos c0] at hr; cases hr
 rw[if_neg c0] at hr
 rw[if_neg (show ¬((shS δ st).steps < 0∨10000000000000 < (shS δ st).steps) from c0)]
 simp only[sh_step] at hr ⊢
 have hs1:SX x (st.step F):=hs
 generalize st.step F=s1 at *
 by_cases he:s1.empty=true
 ·rw[if_pos he] at hr
  rw[if_pos (show (shS δ s1).empty=true from he)]
  cases hr; exact⟨hs1,rfl⟩
 rw[if_neg he] at hr
 rw[if_neg (show ¬(shS δ s1).empty=true from he)]
 cases hkd:re.kids with
 | nil=>rw[hkd] at hr; cases hr
 | cons kid l =>
  rw[hkd] at hr
  simp only at hr ⊢
  have hko:KX x (.run (.mk 0 kid 0 0 (.mk 2 re k i next)) i c):=⟨gx0 (hkids kid (by rw[hkd]; simp)) (gx2 hre hn k hi) 0 0,hi,hc⟩
  have hkn:KX x (.run next i c):=⟨hn,hi,hc⟩
  have e1:Task.run (.mk 0 kid 0 0 (.mk 2 re k (i - δ) (shG δ next))) (i - δ) (shC δ c)=shK δ (.run (.mk 0 kid 0 0 (.mk 2 re k i next)) i c):=rfl
  have e2:Task.run (shG δ next) (i - δ) (shC δ c)=shK δ (.run next i c):=rfl
  rw[e1,e2]
  generalize Task.run (.mk 0 kid 0 0 (.mk 2 re k i next)) i c=T1 at *
  generalize Task.run next i c=T2 at *
  by_cases c2:k < re.mn
  ·rw[if_pos c2] at hr ⊢; exact h _ _ _ _ _ hr hko hs1
  rw[if_neg c2] at hr ⊢
  by_cases m1:re.mode=1
  ·rw[if_pos m1] at hr ⊢
   cases hx:rec most T2 s1 with
   | none=>rw[hx] at hr; cases hr
   | some y =>
    obtain⟨b1,s2⟩:=y
    rw[hx] at hr
    refine sl_or (h _ _ _ _ _ hx hkn hs1) hr fun hs2 hk2=>?_
    by_cases cM:re.mx=-1∨k < re.mx
    ·rw[if_pos cM] at hk2 ⊢; exact h _ _ _ _ _ hk2 hko hs2
    ·rw[if_neg cM] at hk2 ⊢; cases hk2; exact⟨hs2,rfl⟩
  ·rw[if_neg m1] at hr ⊢
   by_cases cM:re.mx=-1∨k < re.mx
   ·rw[if_pos cM] at hr ⊢
    cases hx:rec most T1 s1 with
    | none=>rw[hx] at hr; cases hr
    | some y =>
     obtain⟨b1,s2⟩:=y
     rw[hx] at hr
     exact sl_or (h _ _ _ _ _ hx hko hs1) hr fun hs2 hk2=>h _ _ _ _ _ hk2 hkn hs2
   ·rw[if_neg cM] at hr ⊢
    exact sl_or (b1:=false) (s1:=s1) ⟨hs1,rfl⟩ hr fun hs2 hk2=>h _ _ _ _ _ hk2 hkn hs2
end loc
theorem local_all {x δ:Int} {t u:List Int} (hT:ShT x δ t u) {F:Int}:∀(n:Nat) (most:Int) (task:Task) (st:Sst) (b:Bool) (st':Sst),evR t F n most task st=some (b,st')→KX x task→SX x st→SX x st'∧evR u F n most (shK δ task) (shS δ st)=some (b,shS δ st')
 | 0,_,_,_,_,_,hr,_,_=>by cases hr
 | n + 1,most,task,st,b,st',hr,hK,hs=>by
  have ih:=local_all (F:=F) hT n
  have hr:evStep t F (evR t F n) most task st=some (b,st'):=hr
  show OrOK x δ st' b (evStep u F (evR u F n) most (shK δ task) (shS δ st))
  have hx0:=hT.x0
  have hdx:=hT.dx
  have hlen:=hT.len
  cases task with
  | run g i c =>
   obtain⟨hg,hi,hc⟩:=hK
   cases g with
   | nil =>
    simp only[evStep,shK,shG] at hr ⊢
    by_cases c0:i < 0∨(t.length:Int) < i
    ·rw[if_pos c0] at hr; cases hr
    rw[if_neg c0] at hr
    rw[if_neg (by omega)]
    split at hr
    ·rename_i hcd
     cases hr
     have e:(shS δ st).ends.length=st.ends.length:=List.length_map _
     have e':(shS δ st).caps.length=st.caps.length:=List.length_map _
     rw[if_pos (by rw[e,e']; exact hcd),e]
     refine⟨⟨fun e he=>?_,fun d hd=>?_⟩,by simp [shS]⟩
     ·rcases List.mem_append.1 he with he | he
      ·exact hs.1 e he
      ·rw[List.mem_singleton.1 he]; exact hi
     ·rcases List.mem_append.1 hd with hd | hd
      ·exact hs.2 d hd
      ·rw[List.mem_singleton.1 hd]; exact hc
    ·cases hr
   | mk kind re k frm next =>
    obtain⟨hre,hk4,hf,hn⟩:=hg
    simp only[evStep,shK,shG] at hr ⊢
    by_cases c0:i < 0∨(t.length:Int) < i
    ·rw[if_pos c0] at hr; cases hr
    rw[if_neg c0] at hr
    rw[if_neg (by omega)]
    by_cases k1:kind=1
    ·rw[if_pos k1] at hr ⊢
     exact ih _ _ _ _ _ hr ⟨⟨hre,hk4,hf,hn⟩,hi,hc⟩ hs
    rw[if_neg k1] at hr ⊢
    by_cases k2:kind=2
    ·have hfx:=hf (.inl k2)
     rw[if_pos k2] at hr ⊢
     have e:(if kind=2∨kind=3 then frm - δ else frm)=frm - δ:=if_pos (.inl k2)
     simp only[e]
     by_cases q:re.mn≤k∧i=frm
     ·rw[if_pos q] at hr
      rw[if_pos (by omega)]
      cases hr; exact⟨hs,rfl⟩
     ·rw[if_neg q] at hr
      rw[if_neg (by omega)]
      by_cases q2:k < 0∨10000000000000 < k
      ·rw[if_pos q2] at hr; cases hr
      ·rw[if_neg q2] at hr ⊢
       exact ih _ _ _ _ _ hr ⟨gx1 hre hn (k + 1) 0,hi,hc⟩ hs
    rw[if_neg k2] at hr ⊢
    by_cases k3:kind=3
    ·have hfx:=hf (.inr k3)
     rw[if_pos k3] at hr ⊢
     have e:(if kind=2∨kind=3 then frm - δ else frm)=frm - δ:=if_pos (.inr k3)
     simp only[e,shC_len]
     by_cases q:1000000000 < c.length
     ·rw[if_pos q] at hr; cases hr
     ·rw[if_neg q] at hr ⊢
      rw[with_sh δ c re.n frm i (by omega)]
      exact ih _ _ _ _ _ hr ⟨hn,hi,with_x hc _ _ _ hfx⟩ hs
    rw[if_neg k3] at hr ⊢
    rw[if_neg hk4] at hr ⊢
    exact ih _ _ _ _ _ hr ⟨⟨hre,hk4,hf,hn⟩,hi,hc⟩ hs
  | rep g i c =>
   obtain⟨hg,hi,hc⟩:=hK
   cases g with
   | nil =>
    simp only[evStep] at hr
    split at hr <;> cases hr
   | mk kind re k frm next =>
    obtain⟨hre,hk4,hf,hn⟩:=hg
    simp only[evStep,shK,shG] at hr ⊢
    by_cases c0:i < 0∨(t.length:Int) < i
    ·rw[if_pos c0] at hr; cases hr
    rw[if_neg c0] at hr
    rw[if_neg (by omega)]
    exact sl_rep ih hre hn hi hc hs hr
  | node g i c =>
   obtain⟨hg,hi,hc⟩:=hK
   cases g with
   | nil =>
    simp only[evStep] at hr
    split at hr <;> cases hr
   | mk kind re k frm next =>
    obtain⟨hre,hk4,hf,hn⟩:=hg
    simp only[evStep,shK,shG] at hr ⊢
    by_cases c0:i < 0∨(t.length:Int) < i
    ·rw[if_pos c0] at hr; cases hr
    rw[if_neg c0] at hr
    rw[if_neg (by omega)]
    by_cases o4:re.op=4
    ·rw[if_pos o4] at hr ⊢
     exact ih _ _ _ _ _ hr ⟨gx1 hre hn 0 0,hi,hc⟩ hs
    rw[if_neg o4] at hr ⊢
    rw[shC_len]
    by_cases q1:1000000000 < re.set.length∨1000000000 < re.kids.length∨1000000000 < c.length
    ·rw[if_pos q1] at hr; cases hr
    rw[if_neg q1] at hr ⊢
    by_cases c1:st.steps < 0∨10000000000000 < st.steps
    ·rw[if_pos c1] at hr; cases hr
    rw[if_neg c1] at hr
    rw[if_neg (show ¬((shS δ st).steps < 0∨10000000000000 < (shS δ st).steps) from c1),sh_step]
    have hs1:SX x (st.step F):=hs
    generalize st.step F=s1 at *
    by_cases he:s1.empty=true
    ·rw[if_pos he] at hr
     rw[if_pos (show (shS δ s1).empty=true from he)]
     cases hr; exact⟨hs1,rfl⟩
    rw[if_neg he] at hr
    rw[if_neg (show ¬(shS δ s1).empty=true from he)]
    exact sl_node hT ih hre hn hi hc hs1 hr
end Go.Proofs.Ytllagoeijcjpiaa
