/- A part of the proof (F85 F86). -/
import Derived.Test.YtafbdphblilenaaAB13
import Derived.Test.YtafbdphblilenaaAB23
set_option linter.unusedSimpArgs false
set_option linter.unusedVariables false
set_option maxRecDepth 100000
set_option maxHeartbeats 80000000
set_option linter.unusedSimpArgs false
set_option linter.unusedVariables false
namespace Go.Proofs.Ytafbdphblilenaa
open Go.VL Go.Proofs.Try
def zeroPat:Pat:=⟨.mk 0 [] [] 0 0 0 0 false,0,false⟩
def decR (bs:List Nat):Pat × Int :=
 let c:=rI bs 0
 let b:=rB c.2.1 c.2.2
 match rTree 24 0 b.2.1 b.2.2 with
 |(some re,_,xs,w)=>if w=0∧xs=[]∧validR ⟨re,c.1,b.1⟩=0 then (⟨re,c.1,b.1⟩,0) else (zeroPat,2)
 |(none,_)=>(zeroPat,2)
theorem rB_enc (r:Bool) (rest:List Nat):rB ([if r=true then 1 else 0]++rest) 0=(r,rest,0):=by
 cases r <;> rfl
theorem rB_dec {xs rest:List Nat} {w:Int} {r:Bool} (h:rB xs w=(r,rest,0)):w=0∧xs=[if r=true then 1 else 0]++rest:=by
 unfold rB at h
 split at h
 ·rename_i hw
  simp only[Prod.mk.injEq] at h
  exact absurd h.2.2 hw
 rename_i hw
 simp only[ne_eq,Decidable.not_not] at hw
 cases xs with
 | nil=>simp at h
 | cons b xs =>
  simp only[Prod.mk.injEq] at h
  obtain⟨h1,rfl,h3⟩:=h
  refine⟨hw,?_⟩
  have hb:b≤1:=by
   split at h3
   ·omega
   ·omega
  subst h1
  have:b=0∨b=1:=by omega
  rcases this with rfl | rfl <;> rfl
theorem valid_spec8 {p:Pat} (h:validR p=0):p.re.size≤256∧p.re.depth≤24∧0≤p.caps∧p.caps≤9∧p.re.whole p.caps (topR p.runes)=true:=by
 unfold validR at h
 split at h
 ·omega
 ·split at h
  ·omega
  ·rename_i h1 h2
   refine⟨by omega,by omega,by omega,by omega,?_⟩
   cases hw:p.re.whole p.caps (topR p.runes) with
   | true=>rfl
   | false=>exact absurd (.inr (.inr hw)) h2
theorem dec_enc {c:Nat} (hc:c≤1000000000) {p:Pat} (hv:validR p=0) (hs:p.re.every (smallB c)=true):decR (encP p)=(p,0):=by
 obtain⟨k1,k2,k3,k4,k5⟩:=valid_spec8 hv
 have h1:=rI_enc (n:=p.caps) (by unfold I64; omega) ([if p.runes=true then 1 else 0]++p.re.enc)
 have h2:=rB_enc p.runes p.re.enc
 have h3:=rTree_enc hc 24 p.re 0 [] hs k2 (by omega)
 rw[List.append_nil] at h3
 have he:encP p=uv (zz p.caps)++([if p.runes=true then 1 else 0]++p.re.enc):=by unfold encP; rw[List.append_assoc]
 unfold decR
 rw[he,h1]
 simp only
 rw[h2]
 simp only
 rw[h3]
 simp only
 rw[if_pos ⟨trivial,trivial,hv⟩]
theorem enc_dec {bs:List Nat} (hb:∀b∈bs,b < 256) {q:Pat} (h:decR bs=(q,0)):encP q=bs∧validR q=0:=by
 unfold decR at h
 simp only at h
 generalize hC:rI bs 0=C at h
 obtain⟨cn,cx,cw⟩:=C
 simp only at h
 generalize hB:rB cx cw=B at h
 obtain⟨bn,bx,bw⟩:=B
 simp only at h
 split at h
 ·rename_i re s xs w hT
  split at h
  ·rename_i hc
   obtain⟨rfl,rfl,hv⟩:=hc
   simp only[Prod.mk.injEq,and_true] at h
   subst h
   have hw:=rTree_some hT
   subst hw
   obtain⟨hw,e2⟩:=rB_dec hB
   subst hw
   obtain⟨_,e1,_,b1⟩:=rI_dec hb hC
   obtain⟨e3,_⟩:=rTree_dec _ _ _ _ _ _ (fun b hx=>b1 b (by rw[e2]; simp [hx])) hT
   refine⟨?_,hv⟩
   rw[List.append_nil] at e3
   unfold encP
   rw[List.append_assoc,e1,e2,e3]
  ·simp at h
 ·simp at h
theorem dec_cases (bs:List Nat):(decR bs).2=0∨decR bs=(zeroPat,2):=by
 unfold decR
 simp only
 split
 ·split
  ·exact .inl rfl
  ·exact .inr rfl
 ·exact .inr rfl
theorem intsB_ge (l:List Int):l.length≤(intsB l).length:=by
 have:=flat_uv_len l
 unfold intsB
 rw[List.length_append]
 omega
theorem rNode_small {xs rest:List Nat} {w:Int} {re:Re} {k:Nat} (hb:∀b∈xs,b < 256) (h:rNode xs w=(some (re,k),rest,0)) :
  (∀x∈headI re,I64 x)∧(∀x∈tailI re,I64 x)∧(headI re).length + rest.length≤xs.length:=by
 unfold rNode at h
 simp only at h
 split at h
 case h_2=>simp at h
 rename_i op sp mn mx mode n neg hh ht
 split at h
 ·simp at h
 rename_i hc
 simp only[Prod.mk.injEq,Option.some.injEq] at h
 obtain⟨⟨rfl,hk⟩,h3,h4⟩:=h
 generalize hH:rIsW xs w=H at *
 generalize hT:rIsW H.2.1 H.2.2=T at *
 generalize hK:rI T.2.1 T.2.2=K at *
 obtain⟨Hl,Hr,Hw⟩:=H
 obtain⟨Tl,Tr,Tw⟩:=T
 obtain⟨Kn,Kr,Kw⟩:=K
 simp only at hh ht hT hK hk h3 h4 hc
 subst h3 h4 hh ht
 have w2:=rI_w hK
 subst w2
 have w1:=rIsW_w hT
 subst w1
 obtain⟨w0,e1,i1,_,b1⟩:=rIsW_dec hb hH
 obtain⟨_,e2,i2,_,b2⟩:=rIsW_dec b1 hT
 obtain⟨_,e3,_,b3⟩:=rI_dec b2 hK
 have h1:headI (Re.mk op (pairsI sp) [] mn mx mode n (decide (neg=1)))=op::sp:=by
  show op::(pairsI sp).flatMap (fun s=>[s.1,s.2])=_
  rw[flat_pairsI (sp.length / 2) sp (by omega)]
 have h2:tailI (Re.mk op (pairsI sp) [] mn mx mode n (decide (neg=1)))=[mn,mx,mode,n,neg]:=by
  show [mn,mx,mode,n,digI (decide (neg=1))]=_
  have:digI (decide (neg=1))=neg:=by
   by_cases hn:neg=1
   ·subst hn; rfl
   ·have:neg=0:=by omega
    subst this; rfl
  rw[this]
 rw[h1,h2]
 refine⟨i1,i2,?_⟩
 have g1:=intsB_ge (op::sp)
 have g2:=congrArg List.length e1
 have g3:=congrArg List.length e2
 have g4:=congrArg List.length e3
 rw[List.length_append] at g2 g3 g4
 omega
theorem small_node {c:Nat} {re:Re} {l:List Re} (h1:∀x∈headI re,I64 x) (h2:∀x∈tailI re,I64 x) (h3:(headI re).length≤c) (hl:l.length≤c):smallB c (re.withKids l)=true:=by
 have hlen:=headI_len re
 have a:∀x,x∈tailI re→I64 x:=h2
 unfold smallB
 rw[Bool.and_eq_true]
 refine⟨decide_eq_true ⟨?_,hl,h1 _ (by simp [headI]; exact .inl rfl),a _ (by simp [tailI]; exact .inl rfl),a _ (by simp [tailI]; exact .inr (.inl rfl)),a _ (by simp [tailI]; exact .inr (.inr (.inl rfl))),a _ (by simp [tailI]; exact .inr (.inr (.inr (.inl rfl))))⟩,?_⟩
 ·show re.set.length≤c
  omega
 ·rw[List.all_eq_true]
  intro s hs
  have hs:s∈re.set:=hs
  refine decide_eq_true ⟨h1 _ ?_,h1 _ ?_⟩
  ·exact List.mem_cons.2 (.inr (List.mem_flatMap.2 ⟨s,hs,by simp⟩))
  ·exact List.mem_cons.2 (.inr (List.mem_flatMap.2 ⟨s,hs,by simp⟩))
theorem rKids_small {c:Nat} {f:Nat→List Nat→Int→RdT} (hf:∀s xs w re r,f s xs w=(some re,r)→w=0)
  (hd:∀s xs re s' rest,(∀b∈xs,b < 256)→xs.length≤c→f s xs 0=(some re,s',rest,0)→re.every (smallB c)=true∧rest.length≤xs.length∧∀b∈rest,b < 256) :
  ∀(n s s':Nat) (xs rest:List Nat) (l:List Re),(∀b∈xs,b < 256)→xs.length≤c→rKids f n s xs 0=(some l,s',rest,0)→(∀k∈l,k.every (smallB c)=true)∧rest.length≤xs.length
 | 0,s,s',xs,rest,l,hb,hx,h=>by
  simp [rKids] at h
  obtain⟨rfl,rfl,rfl⟩:=h
  exact⟨fun k hk=>by (cases hk),Nat.le_refl _⟩
 | n + 1,s,s',xs,rest,l,hb,hx,h=>by
  rw[rKids] at h
  split at h
  ·simp at h
  ·rename_i k s1 xs1 w1 hk
   split at h
   ·simp at h
   ·rename_i l1 r1 hl
    simp only[Prod.mk.injEq,Option.some.injEq] at h
    obtain⟨rfl,rfl⟩:=h
    have hw:=rKids_w hf hl
    subst hw
    obtain⟨e1,e2,b1⟩:=hd _ _ _ _ _ hb hx hk
    obtain⟨i1,i2⟩:=rKids_small hf hd n _ _ _ _ _ b1 (by omega) hl
    refine⟨fun x hx=>?_,by omega⟩
    rcases List.mem_cons.1 hx with rfl | hx
    ·exact e1
    ·exact i1 x hx
theorem rTree_small {c:Nat} (hc:256≤c):∀(d s s':Nat) (xs rest:List Nat) (re:Re),(∀b∈xs,b < 256)→xs.length≤c→rTree d s xs 0=(some re,s',rest,0)→re.every (smallB c)=true∧rest.length≤xs.length∧∀b∈rest,b < 256
 | 0,s,s',xs,rest,re,_,_,h=>by simp [rTree] at h
 | d + 1,s,s',xs,rest,re,hb,hx,h=>by
  have hdec:=rTree_dec (d + 1) s s' xs rest re hb h
  rw[rTree] at h
  split at h
  ·simp at h
  ·split at h
   ·simp at h
   ·rename_i re0 k xs1 w1 hn
    split at h
    ·simp at h
    ·rename_i l r1 hl
     simp only[Prod.mk.injEq,Option.some.injEq] at h
     obtain⟨rfl,rfl⟩:=h
     have hw:=rKids_w (fun _ _ _ _ _=>rTree_some) hl
     subst hw
     obtain⟨_,n1,n2,n3,n4⟩:=rNode_dec hb hn
     obtain⟨m1,m2,m3⟩:=rNode_small hb hn
     obtain⟨i0,_,_⟩:=rKids_dec (fun _ _ _ _ _=>rTree_some) (fun s xs re s' rest hb h=>rTree_dec d s s' xs rest re hb h) _ _ _ _ _ _ n4 hl
     obtain⟨i1,i2⟩:=rKids_small (c:=c) (fun _ _ _ _ _=>rTree_some) (fun s xs re s' rest hb hx h=>rTree_small hc d s s' xs rest re hb hx h) _ _ _ _ _ _ n4 (by omega) hl
     exact⟨(Re.every_iff _).2 ⟨small_node m1 m2 (by omega) (by omega),fun x hx=>i1 x hx⟩,by omega,hdec.2⟩
theorem dec_small {c:Nat} (hc:256≤c) {bs:List Nat} (hb:∀b∈bs,b < 256) (hl:bs.length≤c) {q:Pat} (h:decR bs=(q,0)):q.re.every (smallB c)=true∧I64 q.caps:=by
 unfold decR at h
 simp only at h
 generalize hC:rI bs 0=C at h
 obtain⟨cn,cx,cw⟩:=C
 simp only at h
 generalize hB:rB cx cw=B at h
 obtain⟨bn,bx,bw⟩:=B
 simp only at h
 split at h
 ·rename_i re s xs w hT
  split at h
  ·rename_i hq
   obtain⟨rfl,rfl,hv⟩:=hq
   simp only[Prod.mk.injEq,and_true] at h
   subst h
   have hw:=rTree_some hT
   subst hw
   obtain⟨hw,e2⟩:=rB_dec hB
   subst hw
   obtain⟨_,e1,e4,b1⟩:=rI_dec hb hC
   have hlen:bx.length≤c:=by
    have g1:=congrArg List.length e1
    have g2:=congrArg List.length e2
    rw[List.length_append] at g1 g2
    omega
   exact⟨(rTree_small hc _ _ _ _ _ _ (fun b hx=>b1 b (by rw[e2]; simp [hx])) hlen hT).1,e4⟩
  ·simp at h
 ·simp at h
end Go.Proofs.Ytafbdphblilenaa
