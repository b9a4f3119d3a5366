/- A part of the proof (MM30). -/
import Derived.Test.YtpppfpaalcbggaaML32
set_option linter.unusedSimpArgs false
set_option linter.unusedVariables false
set_option maxRecDepth 100000
set_option maxHeartbeats 80000000
namespace Go.Proofs.Ytpppfpaalcbggaa
open Go.VL
def Beg.bit (b:Beg):Option Nat :=
 if 0≤b.node∧b.node < 8∧0≤b.kind∧b.kind < 2∧b.n=0∧0≤b.at_∧b.at_ < 64∧b.stop=-1∧0≤b.env∧b.env < 128∧b.caps=0 then
  some (((b.env.toNat * 64 + b.at_.toNat) * 8 + b.node.toNat) * 2 + b.kind.toNat) else none
theorem bit_inj {a b:Beg} {i:Nat} (ha:a.bit=some i) (hb:b.bit=some i):a=b:=by
 unfold Beg.bit at ha hb
 split at ha
 case isFalse=>cases ha
 split at hb
 case isFalse=>cases hb
 rename_i h1 h2
 have e:=(Option.some.inj ha).trans (Option.some.inj hb).symm
 have h7:a.node=b.node∧a.kind=b.kind∧a.n=b.n∧a.at_=b.at_∧a.stop=b.stop∧a.env=b.env∧a.caps=b.caps:=by omega
 cases a
 cases b
 obtain⟨h1,h2,h3,h4,h5,h6,h7⟩:=h7
 cases h1; cases h2; cases h3; cases h4; cases h5; cases h6; cases h7
 rfl
def BitsOK (L:List Beg) (k:Nat):Prop:=(∀b∈L,∃i,b.bit=some i)∧∀b i,b.bit=some i→(b∈L ↔ k.testBit i=true)
theorem bits_start:BitsOK [] 0:=⟨fun b h=>(by cases h),fun b i _=>(by simp)⟩
theorem bits_add {L:List Beg} {k:Nat} (h:BitsOK L k) {b:Beg} {i:Nat} (hb:b.bit=some i):BitsOK (L++[b]) (k ||| 2 ^ i):=by
 refine⟨fun x hx=>?_,fun x j hx=>?_⟩
 ·rcases List.mem_append.1 hx with hx | hx
  ·exact h.1 x hx
  ·rw[List.mem_singleton.1 hx]; exact⟨i,hb⟩
 ·rw[List.mem_append,List.mem_singleton,h.2 x j hx,Nat.testBit_or,Nat.testBit_two_pow,Bool.or_eq_true,decide_eq_true_eq]
  constructor
  ·rintro (h1 | rfl)
   ·exact .inl h1
   ·exact .inr (Option.some.inj (hb.symm.trans hx))
  ·rintro (h1 | rfl)
   ·exact .inl h1
   ·exact .inr (bit_inj hx hb)
theorem bits_same {L:List Beg} {k:Nat} (h:BitsOK L k) {b:Beg} {i:Nat} (hb:b.bit=some i) (hm:b∈L):BitsOK L (k ||| 2 ^ i):=by
 refine⟨h.1,fun x j hx=>?_⟩
 rw[h.2 x j hx,Nat.testBit_or,Nat.testBit_two_pow,Bool.or_eq_true,decide_eq_true_eq]
 constructor
 ·exact .inl
 ·rintro (h1 | rfl)
  ·exact h1
  ·have:=bit_inj hx hb
   subst this
   exact(h.2 x i hx).1 hm
def Frm.bit (f:Frm):Option Nat :=
 if f.n=0∧0≤f.env∧f.env < 128∧0≤f.node∧f.node < 8∧-1≤f.at_∧f.at_ < 64 then
  some ((f.env.toNat * 65 + (f.at_ + 1).toNat) * 8 + f.node.toNat) else none
theorem frm_inj {a b:Frm} {i:Nat} (ha:a.bit=some i) (hb:b.bit=some i):a=b:=by
 unfold Frm.bit at ha hb
 split at ha
 case isFalse=>cases ha
 split at hb
 case isFalse=>cases hb
 rename_i h1 h2
 have e:=(Option.some.inj ha).trans (Option.some.inj hb).symm
 have h7:a.env=b.env∧a.node=b.node∧a.n=b.n∧a.at_=b.at_:=by omega
 cases a
 cases b
 obtain⟨h1,h2,h3,h4⟩:=h7
 cases h1; cases h2; cases h3; cases h4
 rfl
structure FrmOK (F:List (Frm × Int)) (g:Nat) (L:List (Nat × Int)):Prop where
 len:L.length=F.length
 bit:∀y∈F,∃i,y.1.bit=some i∧g.testBit i=true
 one:∀y∈F,∀z∈F,y.1=z.1→y.2=z.2
 lst:∀z∈L,∃y∈F,y.1.bit=some z.1∧y.2=z.2
theorem FrmOK.add {F:List (Frm × Int)} {g:Nat} {L:List (Nat × Int)} (h:FrmOK F g L) {f:Frm} {i:Nat} (hb:f.bit=some i) (hg:¬g.testBit i=true) (v:Int):FrmOK (F++[(f,v)]) (g ||| 2 ^ i) ((i,v)::L):=by
 have hno:∀y∈F,y.1≠f:=by
  intro y hy e
  obtain⟨j,hj1,hj2⟩:=h.bit y hy
  rw[e,hb] at hj1
  cases hj1
  exact hg hj2
 refine⟨by simp [h.len],fun y hy=>?_,fun y hy z hz e=>?_,fun z hz=>?_⟩
 ·rcases List.mem_append.1 hy with hy | hy
  ·obtain⟨j,hj1,hj2⟩:=h.bit y hy
   exact⟨j,hj1,by rw[Nat.testBit_or,hj2]; rfl⟩
  ·rw[List.mem_singleton.1 hy]
   exact⟨i,hb,by rw[Nat.testBit_or,Nat.testBit_two_pow_self,Bool.or_true]⟩
 ·rcases List.mem_append.1 hy with hy | hy <;> rcases List.mem_append.1 hz with hz | hz
  ·exact h.one y hy z hz e
  ·rw[List.mem_singleton.1 hz] at e
   exact absurd e (hno y hy)
  ·rw[List.mem_singleton.1 hy] at e
   exact absurd e.symm (hno z hz)
  ·rw[List.mem_singleton.1 hy,List.mem_singleton.1 hz]
 ·rcases List.mem_cons.1 hz with rfl | hz
  ·exact⟨(f,v),by simp,hb,rfl⟩
  ·obtain⟨y,h1,h2⟩:=h.lst z hz
   exact⟨y,List.mem_append_left _ h1,h2⟩
inductive KL where
 | place (p:MPl)
 | note (b:Beg) (i:Nat)
def KL.ltr:KL→Ltr
 | .place p=>.place p
 | .note b _=>.note b
def KL.ok:KL→Prop
 | .place _=>True
 | .note b i=>b.bit=some i
structure Kst where
 steps:Int
 k:Nat
 g:Nat
 L:List (Nat × Int)
 S:List KL
 d:Nat
structure KR (t:List Int) (x:Kst) (m:Mm):Prop where
 t:m.t=t
 stop:m.stop=-1
 fuel:m.fuel=1048576
 spent:m.spent=false
 dep:m.depends=false
 steps:m.steps=x.steps
 nn:0≤x.steps
 lt:x.steps≤1048576
 failed:BitsOK m.failed x.k
 frames:FrmOK m.frames x.g x.L
 stk:m.stk.take m.top=(x.S.map KL.ltr).reverse
 ok:∀y∈x.S,y.ok
 top:m.top=x.S.length
 d:x.d=x.S.length
 le:m.top≤m.stk.length
theorem KR.push {t:List Int} {x:Kst} {m:Mm} (h:KR t x m) (y:KL) (hy:y.ok):KR t { x with S:=y::x.S,d:=x.d + 1 } (m.push y.ltr):=by
 have hl:(m.stk.take m.top).length=m.top:=by rw[List.length_take]; exact Nat.min_eq_left h.le
 refine⟨h.t,h.stop,h.fuel,h.spent,h.dep,h.steps,h.nn,h.lt,h.failed,h.frames,?_,?_,?_,?_,?_⟩
 ·show (m.stk.take m.top++[y.ltr]).take (m.top + 1)=_
  rw[List.take_of_length_le (by rw[List.length_append,hl]; exact Nat.le_refl _),h.stk]
  simp
 ·intro z hz
  rcases List.mem_cons.1 hz with rfl | hz
  ·exact hy
  ·exact h.ok z hz
 ·show m.top + 1=_
  rw[h.top]; rfl
 ·show x.d + 1=_
  rw[h.d]; rfl
 ·show m.top + 1≤(m.stk.take m.top++[y.ltr]).length
  rw[List.length_append,hl]
  exact Nat.le_refl _
theorem KR.pop {t:List Int} {x:Kst} {m:Mm} {y:KL} {S:List KL} (h:KR t x m) (hS:x.S=y::S):m.stk[m.top - 1]?=some y.ltr∧¬(m.top=0)∧KR t { x with S:=S,d:=x.d - 1 } m.pop:=by
 have h1:=h.stk
 have h2:=h.top
 have h3:=h.d
 rw[hS] at h1 h2 h3
 rw[List.map_cons,List.reverse_cons] at h1
 rw[List.length_cons] at h2 h3
 have hl:(S.map KL.ltr).reverse.length=S.length:=by simp
 refine⟨?_,by omega,h.t,h.stop,h.fuel,h.spent,h.dep,h.steps,h.nn,h.lt,h.failed,h.frames,?_,?_,?_,?_,?_⟩
 ·have e:m.stk[m.top - 1]?=(m.stk.take m.top)[m.top - 1]?:=by rw[List.getElem?_take,if_pos (by omega)]
  rw[e,h1,List.getElem?_append_right (by omega),hl,h2]
  simp
 ·show m.stk.take (m.top - 1)=_
  have e:m.stk.take (m.top - 1)=(m.stk.take m.top).take (m.top - 1):=by rw[List.take_take,Nat.min_eq_left (by omega)]
  rw[e,h1,List.take_append_of_le_length (by omega),List.take_of_length_le (by omega)]
 ·intro z hz
  exact h.ok z (by rw[hS]; exact List.mem_cons_of_mem _ hz)
 ·show m.top - 1=S.length
  omega
 ·show x.d - 1=S.length
  omega
 ·show m.top - 1≤m.stk.length
  have:=h.le
  omega
def insideK (x:Kst) (f:Frm):Option (Kst × Int) :=
 match f.bit with
 | none=>none
 | some i=>if x.g.testBit i=true then (match x.L.find? (fun z=>Nat.beq z.1 i) with
   | none=>none
   | some z=>some (x,z.2))
  else if 1000000 < x.L.length then none else some ({ x with g:=x.g ||| 2 ^ i,L:=(i,(x.L.length:Int) + 1)::x.L },(x.L.length:Int) + 1)
theorem insideK_ok {t:List Int} {x x':Kst} {m:Mm} {f:Frm} {n:Int} (h:KR t x m) (hx:insideK x f=some (x',n)):∃m',m.inside f=some (m',n)∧KR t x' m':=by
 unfold insideK at hx
 cases hb:f.bit with
 | none=>rw[hb] at hx; cases hx
 | some i =>
  rw[hb] at hx
  simp only at hx
  have hF:=h.frames
  split at hx
  ·rename_i hg
   split at hx
   ·cases hx
   rename_i z hz
   cases hx
   obtain⟨y,y1,y2,y3⟩:=hF.lst z (List.mem_of_find?_eq_some hz)
   have hzb:=List.find?_some (p:=fun (z:Nat × Int)=>Nat.beq z.1 i) hz
   have hzi:z.1=i:=Nat.eq_of_beq_eq_true hzb
   rw[hzi] at y2
   have hyf:y.1=f:=frm_inj y2 hb
   refine⟨m,?_,h⟩
   unfold Mm.inside
   cases hf:m.frames.find? (fun p=>decide (p.1=f)) with
   | none =>
    rw[List.find?_eq_none] at hf
    exact absurd (decide_eq_true hyf) (hf y y1)
   | some w =>
    have w0:=List.find?_some (p:=fun (p:Frm × Int)=>decide (p.1=f)) hf
    have w1:w.1=f:=of_decide_eq_true w0
    have w2:w.2=z.2:=(hF.one w (List.mem_of_find?_eq_some hf) y y1 (w1.trans hyf.symm)).trans y3
    simp only
    rw[if_pos,w2]
    rw[List.all_eq_true]
    intro v hv
    rw[decide_eq_true_eq]
    intro e
    exact hF.one v hv w (List.mem_of_find?_eq_some hf) (e.trans w1.symm)
  rename_i hg
  split at hx
  ·cases hx
  rename_i hc
  cases hx
  have hn:m.frames.find? (fun p=>decide (p.1=f))=none:=by
   rw[List.find?_eq_none]
   intro y hy hyf
   have hyf':y.1=f:=of_decide_eq_true hyf
   obtain⟨j,hj1,hj2⟩:=hF.bit y hy
   rw[hyf',hb] at hj1
   cases hj1
   exact hg hj2
  have hl:=hF.len
  refine⟨{ m with frames:=m.frames++[(f,(m.frames.length:Int) + 1)] },?_,h.t,h.stop,h.fuel,h.spent,h.dep,h.steps,h.nn,h.lt,h.failed,?_,h.stk,h.ok,h.top,h.d,h.le⟩
  ·unfold Mm.inside
   rw[hn]
   simp only
   rw[if_neg (by omega),hl]
  ·show FrmOK (m.frames++[(f,(m.frames.length:Int) + 1)]) (x.g ||| 2 ^ i) ((i,(x.L.length:Int) + 1)::x.L)
   rw[hl]
   exact hF.add hb hg _
def enterK (x:Kst) (b:Beg):Option (Kst × Bool) :=
 match b.bit with
 | none=>none
 | some i=>if x.k.testBit i=true then some (x,false) else if 1048576≤x.steps then none else some ({ x with steps:=x.steps + 1,S:=.note b i::x.S,d:=x.d + 1 },true)
theorem enterK_ok {t:List Int} {x x':Kst} {m:Mm} {p:MPl} {b:Beg} {ok:Bool} (h:KR t x m) (hd:b.bit.isSome=true→m.describe p=some b) (hx:enterK x b=some (x',ok)):∃m',m.enter p=some (m',ok)∧KR t x' m':=by
 unfold enterK at hx
 cases hb:b.bit with
 | none=>rw[hb] at hx; cases hx
 | some i =>
  rw[hb] at hx
  simp only at hx
  unfold Mm.enter
  rw[hd (by rw[hb]; rfl)]
  simp only
  have hL:=h.failed.2 b i hb
  split at hx
  ·rename_i c
   cases hx
   rw[if_pos (hL.2 c)]
   exact⟨m,rfl,h⟩
  ·rename_i c
   rw[if_neg (fun h'=>c (hL.1 h'))]
   split at hx
   ·cases hx
   rename_i cf
   cases hx
   rw[if_neg (by rw[h.fuel,h.steps]; exact cf)]
   have h':KR t { x with steps:=x.steps + 1 } { m with steps:=m.steps + 1 } :=
    ⟨h.t,h.stop,h.fuel,h.spent,h.dep,by show m.steps + 1=_; rw[h.steps],by have:=h.nn; show 0≤x.steps + 1; omega,by show x.steps + 1≤_; omega,h.failed,h.frames,h.stk,h.ok,h.top,h.d,h.le⟩
   exact⟨_,rfl,h'.push (.note b i) hb⟩
theorem describe_bit {t:List Int} {x:Kst} {m:Mm} {pa:Int} {pc:Option CapsL} {kind:Int} {nd:Nd} {n at_ env:Int} {next:Gl} (h:KR t x m) (hb:(Beg.bit ⟨nd.id,kind,if kind=1 then countedR nd.re n else 0,pa,-1,env,0⟩).isSome=true) :
  m.describe ⟨pa,pc,.mk kind (some nd) n at_ env next⟩=some ⟨nd.id,kind,if kind=1 then countedR nd.re n else 0,pa,-1,env,0⟩:=by
 unfold Mm.describe
 rw[if_neg (by rw[h.dep]; decide),h.stop]
 simp only
 generalize (if kind=1 then countedR nd.re n else 0)=kk at *
 unfold Beg.bit at hb
 split at hb
 case isFalse=>simp at hb
 rename_i hc
 simp only at hc
 rw[if_pos]
 simp only[fit16,fit32,Bool.and_eq_true,decide_eq_true_eq]
 omega
def advK (N s:Int) (x:Kst) (p:MPl):Option (Kst × MPl × Bool) :=
 match p with
 | ⟨_,_,.nil⟩=>none
 | ⟨_,_,.mk _ none _ _ _ _⟩=>none
 | ⟨pa,pc,.mk kind (some nd) n at_ env next⟩ =>
  if pa < 0∨N < pa∨n < 0∨1000000 < n∨1000000 < x.d then none
  else match nd with
  | .mk (.mk op set kids mn mx mode _ _) id nkids loop =>
   if 2 < set.length∨2 < nkids.length then none
   else if kind=0 then
    if op=4 then (if mode=0 then some (x,⟨pa,pc,.mk 1 (some nd) 0 0 env next⟩,true) else none)
    else match enterK x ⟨id,0,0,pa,-1,env,0⟩ with
    | none=>none
    | some (x',false)=>some (x',.zero,false)
    | some (x',true) =>
     if op=1 then (match set with
      | [(a,b)]=>if pa < N∧a≤s∧s≤b then some (x',⟨pa + 1,pc,next⟩,true) else some (x',.zero,false)
      | _=>none)
     else if op=2 then (match nkids with
      | [a,b]=>some (x',⟨pa,pc,.mk 0 (some a) 0 0 env (.mk 0 (some b) 0 0 env next)⟩,true)
      | _=>none)
     else if op=3 then (match nkids with
      | [a,b]=>some ({ x' with S:=.place ⟨pa,pc,.mk 0 (some b) 0 0 env next⟩::x'.S,d:=x'.d + 1 },⟨pa,pc,.mk 0 (some a) 0 0 env next⟩,true)
      | _=>none)
     else none
   else if kind=1 then
    if ¬(op=4∧mode=0∧mn=0∧mx=-1) then none
    else match enterK x ⟨id,1,0,pa,-1,env,0⟩ with
    | none=>none
    | some (x',false)=>some (x',.zero,false)
    | some (x',true)=>match nkids with
     | [kid]=>match insideK x' ⟨env,id,0,if loop=true then pa else -1⟩ with
      | none=>none
      | some (x2,ev)=>some ({ x2 with S:=.place ⟨pa,pc,next⟩::x2.S,d:=x2.d + 1 },⟨pa,pc,.mk 0 (some kid) 0 0 ev (.mk 2 (some nd) (n + 1) pa env next)⟩,true)
     | _=>none
   else if kind=2 then
    if pa=at_ then some (x,.zero,false) else some (x,⟨pa,pc,.mk 1 (some nd) n 0 env next⟩,true)
   else none
theorem begin1 {rec:RecM} {m:Mm} {nd:Nd} {env:Int} {p:MPl} (h:nd.re.op=1):beginM rec m nd env p=some (m,setM m.t nd.re p):=by
 unfold beginM
 simp only
 rw[if_pos h]
theorem begin2 {rec:RecM} {m:Mm} {nd:Nd} {env:Int} {p:MPl} (h:nd.re.op=2):beginM rec m nd env p=some (m,{ p with todo:=pushM nd.kids env p.todo },true):=by
 unfold beginM
 simp only
 rw[if_neg (by omega),if_pos h]
theorem begin3 {rec:RecM} {m:Mm} {nd:Nd} {env:Int} {p:MPl} (h:nd.re.op=3):beginM rec m nd env p=some ((altM p env nd.kids m).1,(altM p env nd.kids m).2,true):=by
 unfold beginM
 simp only
 rw[if_neg (by omega),if_neg (by omega),if_pos h]
theorem round_star {m m1:Mm} {nd kid:Nd} {n env ev:Int} {p:MPl} (hk:nd.kids=[kid]) (h1:nd.re.mn=0) (h2:nd.re.mx=-1) (h3:nd.re.mode=0) (hn:0≤n) (hi:m.inside ⟨env,nd.id,0,if nd.loop=true then p.at_ else -1⟩=some (m1,ev)) :
  roundM m nd n env p=some (m1.push (.place p),{ p with todo:=.mk 0 (some kid) 0 0 ev (.mk 2 (some nd) (n + 1) p.at_ env p.todo) },true):=by
 have hc:countedR nd.re n=0:=by
  unfold countedR
  rw[if_pos h2,h1]
  omega
 have hl:(if nd.loop=true∧nd.re.mn≤n then p.at_ else -1)=(if nd.loop=true then p.at_ else -1):=by
  rw[h1]
  by_cases c:nd.loop=true
  ·rw[if_pos c,if_pos ⟨c,hn⟩]
  ·rw[if_neg c,if_neg (fun h=>c h.1)]
 unfold roundM
 rw[hk]
 simp only
 rw[if_neg (by omega),hc,hl,hi]
 simp only
 rw[if_neg (by omega),if_neg (by omega),if_neg (by omega)]
theorem advK_ok {t:List Int} {N s:Int} (hN:N=t.length) (hN2:N≤1000000) (hs:∀i:Int,0≤i→i < N→tAt t i=s) {rec:RecM} {x x':Kst} {m:Mm} {p q:MPl} {al:Bool} (h:KR t x m) (hx:advK N s x p=some (x',q,al)):∃m',advM rec m p=some (m',q,al)∧KR t x' m':=by
 unfold advK at hx
 split at hx
 ·cases hx
 ·cases hx
 rename_i pa pc kind nd n at_ env next
 split at hx
 ·cases hx
 rename_i hc
 split at hx
 rename_i op set kids mn mx mode nn neg id nkids loop
 have hgood:m.good ⟨pa,pc,.mk kind (some (.mk (.mk op set kids mn mx mode nn neg) id nkids loop)) n at_ env next⟩:=by
  unfold Mm.good
  have h1:=h.nn
  have h2:=h.lt
  have h3:=h.le
  have h4:=h.top
  have h5:=h.d
  rw[h.steps,h.t]
  simp only
  omega
 unfold advM
 rw[if_neg (fun hh=>hh hgood)]
 simp only[Nd.re,Re.set,Re.op,Re.kids]
 rw[if_neg (show ¬(n < 0∨10000000000000 < n) by omega)]
 split at hx
 ·cases hx
 rename_i hkl
 rw[if_neg (show ¬(1000000000 < set.length∨1000000000 < (Nd.mk (Re.mk op set kids mn mx mode nn neg) id nkids loop).kids.length) by simp only[Nd.kids]; omega)]
 split at hx
 ·rename_i c0
  subst c0
  rw[if_pos rfl]
  split at hx
  ·rename_i c4
   split at hx
   ·rename_i cm
    cases hx
    subst c4 cm
    rw[if_pos rfl]
    exact⟨m,rfl,h⟩
   ·cases hx
  ·rename_i c4
   rw[if_neg c4]
   split at hx
   ·cases hx
   ·rename_i x1 he
    cases hx
    obtain⟨m1,e1,k1⟩:=enterK_ok (p:=⟨pa,pc,.mk 0 (some (.mk (.mk op set kids mn mx mode nn neg) id nkids loop)) n at_ env next⟩) h (fun hb=>describe_bit h hb) he
    rw[e1]
    exact⟨m1,rfl,k1⟩
   ·rename_i x1 he
    obtain⟨m1,e1,k1⟩:=enterK_ok (p:=⟨pa,pc,.mk 0 (some (.mk (.mk op set kids mn mx mode nn neg) id nkids loop)) n at_ env next⟩) h (fun hb=>describe_bit h hb) he
    rw[e1]
    simp only[if_true]
    split at hx
    ·rename_i c1
     subst c1
     rw[begin1 rfl,k1.t]
     split at hx
     ·rename_i a b
      unfold setM
      simp only[Re.set,Nd.re,inB,List.any_cons,List.any_nil,Bool.or_false,Bool.and_eq_true,decide_eq_true_eq]
      split at hx
      ·rename_i cc
       cases hx
       rw[if_pos (by rw[hs pa (by omega) (by omega)]; omega)]
       exact⟨m1,rfl,k1⟩
      ·rename_i cc
       cases hx
       rw[if_neg (by intro h'; rw[hs pa (by omega) (by omega)] at h'; omega)]
       exact⟨m1,rfl,k1⟩
     ·cases hx
    split at hx
    ·rename_i c2
     subst c2
     rw[begin2 rfl]
     split at hx
     ·cases hx
      exact⟨m1,rfl,k1⟩
     ·cases hx
    split at hx
    ·rename_i c3
     subst c3
     rw[begin3 rfl]
     split at hx
     ·rename_i a b
      cases hx
      exact⟨_,rfl,k1.push (.place ⟨pa,pc,.mk 0 (some b) 0 0 env next⟩) trivial⟩
     ·cases hx
    ·cases hx
 rename_i c0
 rw[if_neg c0]
 split at hx
 ·rename_i c1
  subst c1
  rw[if_pos rfl]
  split at hx
  ·cases hx
  rename_i hr
  obtain⟨rfl,rfl,rfl,rfl⟩:op=4∧mode=0∧mn=0∧mx=-1:=Classical.byContradiction hr
  have hcnt:countedR (.mk 4 set kids 0 (-1) 0 nn neg) n=0:=by
   unfold countedR
   simp only[Re.mx,Re.mn,if_true]
   omega
  split at hx
  ·cases hx
  ·rename_i x1 he
   cases hx
   obtain⟨m1,e1,k1⟩:=enterK_ok (p:=⟨pa,pc,.mk 1 (some (.mk (.mk 4 set kids 0 (-1) 0 nn neg) id nkids loop)) n at_ env next⟩) h (fun hb=>by
    have:=describe_bit (m:=m) (pc:=pc) (at_:=at_) (next:=next) (nd:=.mk (.mk 4 set kids 0 (-1) 0 nn neg) id nkids loop) (n:=n) (kind:=1) (pa:=pa) (env:=env) h
    simp only[if_true,Nd.re,hcnt,Nd.id] at this
    exact this hb) he
   rw[e1]
   exact⟨m1,rfl,k1⟩
  ·rename_i x1 he
   obtain⟨m1,e1,k1⟩:=enterK_ok (p:=⟨pa,pc,.mk 1 (some (.mk (.mk 4 set kids 0 (-1) 0 nn neg) id nkids loop)) n at_ env next⟩) h (fun hb=>by
    have:=describe_bit (m:=m) (pc:=pc) (at_:=at_) (next:=next) (nd:=.mk (.mk 4 set kids 0 (-1) 0 nn neg) id nkids loop) (n:=n) (kind:=1) (pa:=pa) (env:=env) h
    simp only[if_true,Nd.re,hcnt,Nd.id] at this
    exact this hb) he
   rw[e1]
   simp only[if_true]
   split at hx
   ·rename_i kid
    split at hx
    ·cases hx
    ·rename_i x2 ev hi
     cases hx
     obtain⟨m2,e2,k2⟩:=insideK_ok k1 hi
     rw[round_star (kid:=kid) rfl rfl rfl rfl (by omega) e2]
     exact⟨_,rfl,k2.push (.place ⟨pa,pc,next⟩) trivial⟩
   ·cases hx
 rename_i c1
 rw[if_neg c1]
 split at hx
 ·rename_i c2
  subst c2
  rw[if_pos rfl]
  split at hx
  ·rename_i ca
   cases hx
   rw[if_pos ca]
   exact⟨m,rfl,h⟩
  ·rename_i ca
   cases hx
   rw[if_neg ca]
   exact⟨m,rfl,h⟩
 ·cases hx
def stp (N s:Int):Kst × MPl × Bool→Option (Sum (Kst × MPl × Bool) Kst)
 |(x,p,true)=>match advK N s x p with
  | none=>none
  | some y=>some (.inl y)
 |(x,p,false)=>if 1000000 < x.d then none else match x.S with
  | []=>some (.inr x)
  | .note _ i::S=>some (.inl ({ x with k:=x.k ||| 2 ^ i,S:=S,d:=x.d - 1 },p,false))
  | .place q::S=>some (.inl ({ x with S:=S,d:=x.d - 1 },q,true))
def itK (N s:Int):Nat→Kst × MPl × Bool→Option (Sum (Kst × MPl × Bool) Kst)
 | 0,y=>stp N s y
 | n + 1,y=>match itK N s n y with
  | none=>none
  | some (.inr r)=>some (.inr r)
  | some (.inl z)=>itK N s n z
theorem stp_go {t:List Int} {N s:Int} (hN:N=t.length) (hN2:N≤1000000) (hs:∀i:Int,0≤i→i < N→tAt t i=s) {x x':Kst} {m:Mm} {p p':MPl} {al al':Bool} (out:Bool) (h:KR t x m) (hx:stp N s (x,p,al)=some (.inl (x',p',al'))) (g:Nat) :
  ∃m' out',KR t x' m'∧srchM (g + 1) out m 0 p al=srchM g out' m' 0 p' al':=by
 have hsp:¬(out=true∧m.spent=true):=by rw[h.spent]; simp
 cases al with
 | true =>
  rw[stp] at hx
  cases ha:advK N s x p with
  | none=>rw[ha] at hx; cases hx
  | some y =>
   rw[ha] at hx
   cases hx
   have hgo:p.goals=true:=by
    obtain⟨pa,pc,pt⟩:=p
    cases pt with
    | nil=>cases ha
    | mk=>rfl
   obtain⟨m',k1,k2⟩:=advK_ok (rec:=fun m base p=>srchM g true m base p true) hN hN2 hs h ha
   refine⟨m',false,k2,?_⟩
   rw[srchM,if_neg hsp,if_pos ⟨rfl,hgo⟩,k1]
 | false =>
  rw[stp] at hx
  split at hx
  ·cases hx
  rename_i hd
  cases hS:x.S with
  | nil=>rw[hS] at hx; cases hx
  | cons y S =>
   rw[hS] at hx
   obtain⟨p1,p2,p3⟩:=h.pop hS
   have hb:¬(m.stk.length < m.top∨1200000000000 < m.top):=by
    have h1:=h.le
    have h2:=h.d
    have h3:=h.top
    omega
   cases y with
   | place q =>
    cases hx
    refine⟨m.pop,true,p3,?_⟩
    rw[srchM,if_neg hsp,if_neg (by simp),if_neg (by simp),if_neg (by omega),if_neg hb,p1]
    rfl
   | note b i =>
    cases hx
    have hbi:b.bit=some i:=h.ok (.note b i) (by rw[hS]; exact List.mem_cons_self)
    have hf:=h.failed
    by_cases hm:b∈m.failed
    ·have e:m.pop.fail b=m.pop:=by
      unfold Mm.fail
      rw[if_pos (show b∈m.pop.failed from hm)]
     refine⟨m.pop,false,⟨p3.t,p3.stop,p3.fuel,p3.spent,p3.dep,p3.steps,p3.nn,p3.lt,bits_same hf hbi hm,p3.frames,p3.stk,p3.ok,p3.top,p3.d,p3.le⟩,?_⟩
     rw[srchM,if_neg hsp,if_neg (by simp),if_neg (by simp),if_neg (by omega),if_neg hb,p1]
     show srchM g false (m.pop.fail b) 0 p false=_
     rw[e]
    ·have e:m.pop.fail b={ m.pop with failed:=m.pop.failed++[b] }:=by
      unfold Mm.fail
      rw[if_neg (show ¬b∈m.pop.failed from hm)]
     refine⟨{ m.pop with failed:=m.pop.failed++[b] },false,⟨p3.t,p3.stop,p3.fuel,p3.spent,p3.dep,p3.steps,p3.nn,p3.lt,bits_add hf hbi,p3.frames,p3.stk,p3.ok,p3.top,p3.d,p3.le⟩,?_⟩
     rw[srchM,if_neg hsp,if_neg (by simp),if_neg (by simp),if_neg (by omega),if_neg hb,p1]
     show srchM g false (m.pop.fail b) 0 p false=_
     rw[e]
theorem stp_end {t:List Int} {N s:Int} {x x':Kst} {m:Mm} {p:MPl} {al:Bool} (out:Bool) (h:KR t x m) (hx:stp N s (x,p,al)=some (.inr x')) :
  x'=x∧∀g,srchM (g + 1) out m 0 p al=some (m,.zero,false):=by
 have hsp:¬(out=true∧m.spent=true):=by rw[h.spent]; simp
 cases al with
 | true =>
  rw[stp] at hx
  cases ha:advK N s x p with
  | none=>rw[ha] at hx; cases hx
  | some y=>rw[ha] at hx; cases hx
 | false =>
  rw[stp] at hx
  split at hx
  ·cases hx
  cases hS:x.S with
  | cons y S=>rw[hS] at hx; cases y <;> cases hx
  | nil =>
   rw[hS] at hx
   cases hx
   have h0:=h.top
   rw[hS] at h0
   refine⟨rfl,fun g=>?_⟩
   rw[srchM,if_neg hsp,if_neg (by simp),if_neg (by simp),if_pos (by rw[h0]; exact Nat.le_refl _)]
theorem it_go {t:List Int} {N s:Int} (hN:N=t.length) (hN2:N≤1000000) (hs:∀i:Int,0≤i→i < N→tAt t i=s):∀(n:Nat) (x:Kst) (p:MPl) (al:Bool) (y:Kst × MPl × Bool),itK N s n (x,p,al)=some (.inl y) →
  ∃j,∀(m:Mm) (out:Bool),KR t x m→∀g,∃m' out',KR t y.1 m'∧srchM (g + j) out m 0 p al=srchM g out' m' 0 y.2.1 y.2.2
 | 0,x,p,al,y,hx=>⟨1,fun m out h g=>stp_go hN hN2 hs out h hx g⟩
 | n + 1,x,p,al,y,hx=>by
  rw[itK] at hx
  cases h1:itK N s n (x,p,al) with
  | none=>rw[h1] at hx; cases hx
  | some r=>cases r with
   | inr r=>rw[h1] at hx; cases hx
   | inl z =>
    rw[h1] at hx
    obtain⟨j1,k1⟩:=it_go hN hN2 hs n x p al z h1
    obtain⟨j2,k2⟩:=it_go hN hN2 hs n z.1 z.2.1 z.2.2 y hx
    refine⟨j2 + j1,fun m out h g=>?_⟩
    obtain⟨m1,o1,a1,a2⟩:=k1 m out h (g + j2)
    obtain⟨m2,o2,a3,a4⟩:=k2 m1 o1 a1 g
    exact⟨m2,o2,a3,by rw[← Nat.add_assoc,a2,a4]⟩
theorem it_end {t:List Int} {N s:Int} (hN:N=t.length) (hN2:N≤1000000) (hs:∀i:Int,0≤i→i < N→tAt t i=s):∀(n:Nat) (x:Kst) (p:MPl) (al:Bool) (y:Kst),itK N s n (x,p,al)=some (.inr y) →
  ∃j,∀(m:Mm) (out:Bool),KR t x m→∀g,∃m',KR t y m'∧srchM (g + j) out m 0 p al=some (m',.zero,false)
 | 0,x,p,al,y,hx=>⟨1,fun m out h g=>by
  obtain⟨rfl,k2⟩:=stp_end out h hx
  exact⟨m,h,k2 g⟩⟩
 | n + 1,x,p,al,y,hx=>by
  rw[itK] at hx
  cases h1:itK N s n (x,p,al) with
  | none=>rw[h1] at hx; cases hx
  | some r=>cases r with
   | inr r =>
    rw[h1] at hx
    cases hx
    exact it_end hN hN2 hs n x p al _ h1
   | inl z =>
    rw[h1] at hx
    obtain⟨j1,k1⟩:=it_go hN hN2 hs n x p al z h1
    obtain⟨j2,k2⟩:=it_end hN hN2 hs n z.1 z.2.1 z.2.2 y hx
    refine⟨j2 + j1,fun m out h g=>?_⟩
    obtain⟨m1,o1,a1,a2⟩:=k1 m out h (g + j2)
    obtain⟨m2,a3,a4⟩:=k2 m1 o1 a1 g
    exact⟨m2,a3,by rw[← Nat.add_assoc,a2,a4]⟩
def numK (N s:Int) (n:Nat) (nd:Nd):Option Int :=
 match itK N s n (⟨0,0,0,[],[],0⟩,⟨0,some caps0,.mk 0 (some nd) 0 0 0 .nil⟩,true) with
 | some (.inr x)=>some x.steps
 | _=>none
theorem numK_ok {t:List Int} {N s:Int} (hN:N=t.length) (hN2:N≤1000000) (hs:∀i:Int,0≤i→i < N→tAt t i=s) {p:Pat} {n:Nat} {k:Int} (hc:checkM p t 0 1048576=0) (hd:depB p.re=false) (hx:numK N s n (numR p.re 0).1=some k) :
  ∃j,runM j p t 0 1048576=some (none,k,0):=by
 unfold numK at hx
 split at hx
 case h_2=>cases hx
 rename_i x hi
 cases hx
 have h0:KR t ⟨0,0,0,[],[],0⟩ (freshM p t 1048576) :=
  ⟨rfl,rfl,rfl,rfl,hd,rfl,by decide,by decide,bits_start,⟨rfl,fun y hy=>(by cases hy),fun y hy=>(by cases hy),fun y hy=>(by cases hy)⟩,rfl,fun y hy=>(by cases hy),rfl,rfl,Nat.le_refl 0⟩
 obtain⟨j,k0⟩:=it_end hN hN2 hs n _ _ _ x hi
 obtain⟨m,k1,k2⟩:=k0 _ true h0 0
 refine⟨0 + j,?_⟩
 unfold runM
 rw[if_neg (by rw[hc]; simp)]
 unfold firstM
 have he:({ freshM p t 1048576 with stop:=-1 }:Mm)=freshM p t 1048576:=rfl
 have ht:(freshM p t 1048576).top=0:=rfl
 rw[he,ht]
 dsimp only
 rw[k2]
 have hle:=k1.le
 simp only
 rw[if_neg (by omega)]
 simp only
 have e1:({ m with stop:=(freshM p t 1048576).stop }:Mm).clear 0={ m with stop:=(freshM p t 1048576).stop,stk:=m.stk.take 0++(List.replicate (m.top - 0) Ltr.zero++m.stk.drop m.top),top:=0 }:=rfl
 rw[e1]
 dsimp only
 rw[if_neg (show ¬m.spent=true by rw[k1.spent]; decide),if_pos trivial,← k1.steps]
end Go.Proofs.Ytpppfpaalcbggaa
