/- A part of the proof (F80 F81 F82 F83 F84). -/
import Derived.Test.YtafbdphblilenaaAB22
set_option linter.unusedSimpArgs false
set_option linter.unusedVariables false
set_option maxRecDepth 100000
set_option maxHeartbeats 80000000
set_option linter.unusedSimpArgs false
set_option linter.unusedVariables false
namespace Go.Proofs.Ytafbdphblilenaa
open Go.VL Go.Proofs.Try
def ruF:Nat→Bool→List Nat→Nat × List Nat × Int
 | 0,_,xs=>(0,xs,0)
 | _ + 1,_,[]=>(0,[],3)
 | k + 1,nf,b::xs=>if (k=0∧1 < b)∨(nf=true∧b=0) then (0,xs,2) else if b < 128 then (b,xs,0) else
   if (ruF k true xs).2.2≠0 then (0,(ruF k true xs).2.1,(ruF k true xs).2.2) else (b % 128 + 128 * (ruF k true xs).1,(ruF k true xs).2.1,0)
def rU (xs:List Nat):Nat × List Nat × Int:=ruF 10 false xs
theorem ruF_enc:∀(k f m:Nat) (nf:Bool) (rest:List Nat),k≤f→m < 2 * 128 ^ k→(nf=true→m≠0)→ruF (k + 1) nf (uvF f m++rest)=(m,rest,0)
 | 0,f,m,nf,rest,hf,hm,hn=>by
  have hm1:m≤1:=by simp at hm; omega
  have hu:uvF f m=[m]:=by
   cases f with
   | zero=>simp only[uvF]; congr 1; omega
   | succ f=>simp only[uvF]; rw[if_neg (by omega)]
  rw[hu]
  show ruF 1 nf (m::rest)=_
  have h1:¬((0=0∧1 < m)∨(nf=true∧m=0)):=by
   rintro (h | h)
   ·omega
   ·exact hn h.1 h.2
  rw[ruF,if_neg h1,if_pos (by omega)]
 | k + 1,f,m,nf,rest,hf,hm,hn=>by
  obtain⟨f,rfl⟩:∃f',f=f' + 1:=⟨f - 1,by omega⟩
  simp only[uvF]
  by_cases h:128≤m
  ·rw[if_pos h]
   have ih:=ruF_enc k f (m / 128) true rest (by omega) (by rw[Nat.pow_succ] at hm; omega) (fun _=>by omega)
   show ruF (k + 1 + 1) nf ((m % 128 + 128)::(uvF f (m / 128)++rest))=_
   have h1:¬((k + 1=0∧1 < m % 128 + 128)∨(nf=true∧m % 128 + 128=0)):=by omega
   rw[ruF,if_neg h1,if_neg (by omega),ih]
   simp only[ne_eq,not_true_eq_false,if_false]
   congr 1
   omega
  ·rw[if_neg h]
   show ruF (k + 1 + 1) nf (m::rest)=_
   have h1:¬((k + 1=0∧1 < m)∨(nf=true∧m=0)):=by
    rintro (h | h)
    ·omega
    ·exact hn h.1 h.2
   rw[ruF,if_neg h1,if_pos (by omega)]
theorem rU_enc {m:Nat} (hm:m < 18446744073709551616) (rest:List Nat):rU (uv m++rest)=(m,rest,0) :=
 ruF_enc 9 10 m false rest (by omega) (by have:(2:Nat) * 128 ^ 9=18446744073709551616:=(by decide); omega) (fun h=>by cases h)
theorem ruF_dec:∀(k f:Nat) (nf:Bool) (xs rest:List Nat) (m:Nat),k≤f→(∀b∈xs,b < 256)→ruF (k + 1) nf xs=(m,rest,0)→xs=uvF f m++rest∧m < 2 * 128 ^ k∧(nf=true→m≠0)
 | _,_,_,[],rest,m,_,_,h=>by simp [ruF] at h
 | 0,f,nf,b::xs,rest,m,hf,hb,h=>by
  rw[ruF] at h
  split at h
  ·simp at h
  ·rename_i hc
   have hb1:b≤1:=by omega
   rw[if_pos (by omega)] at h
   simp only[Prod.mk.injEq,and_true] at h
   obtain⟨rfl,rfl⟩:=h
   have hu:uvF f b=[b]:=by
    cases f with
    | zero=>simp only[uvF]; congr 1; omega
    | succ f=>simp only[uvF]; rw[if_neg (by omega)]
   exact⟨by rw[hu]; rfl,by simp; omega,fun e h0=>hc (.inr ⟨e,h0⟩)⟩
 | k + 1,f,nf,b::xs,rest,m,hf,hb,h=>by
  obtain⟨f,rfl⟩:∃f',f=f' + 1:=⟨f - 1,by omega⟩
  have hb0:=hb b (by simp)
  rw[ruF] at h
  split at h
  ·simp at h
  ·rename_i hc
   split at h
   ·rename_i hlt
    simp only[Prod.mk.injEq,and_true] at h
    obtain⟨rfl,rfl⟩:=h
    refine⟨by simp only[uvF]; rw[if_neg (by omega)]; rfl,?_,fun e h0=>hc (.inr ⟨e,h0⟩)⟩
    have:0 < 128 ^ k:=Nat.pow_pos (by omega)
    rw[Nat.pow_succ]; omega
   ·rename_i hge
    split at h
    ·rename_i he
     simp only[Prod.mk.injEq] at h
     exact absurd h.2.2 he
    ·rename_i he
     simp only[ne_eq,Decidable.not_not] at he
     simp only[Prod.mk.injEq,and_true] at h
     obtain⟨h1,h2⟩:=h
     obtain⟨i1,i2,i3⟩:=ruF_dec k f true xs rest (ruF (k + 1) true xs).1 (by omega) (fun x hx=>hb x (by simp [hx])) (by rw[← h2]; exact Prod.ext rfl (Prod.ext rfl he))
     have i3:=i3 rfl
     generalize (ruF (k + 1) true xs).1=v at *
     refine⟨?_,by rw[Nat.pow_succ]; omega,fun _=>by omega⟩
     simp only[uvF]
     rw[if_pos (by omega),show m % 128 + 128=b by omega,show m / 128=v by omega]
     rw[i1]
     rfl
theorem rU_dec {xs rest:List Nat} {m:Nat} (hb:∀b∈xs,b < 256) (h:rU xs=(m,rest,0)):xs=uv m++rest∧m < 18446744073709551616:=by
 obtain⟨h1,h2,_⟩:=ruF_dec 9 10 false xs rest m (by omega) hb h
 have:(2:Nat) * 128 ^ 9=18446744073709551616:=by decide
 exact⟨h1,by omega⟩
def unz (u:Nat):Int:=if u % 2=1 then -(u / 2:Nat) - 1 else (u / 2:Nat)
theorem unz_zz (n:Int):unz (zz n)=n:=by
 unfold unz zz
 split <;> split <;> omega
theorem zz_unz (u:Nat):zz (unz u)=u:=by
 unfold unz zz
 split <;> split <;> omega
theorem unz_I64 {u:Nat} (h:u < 18446744073709551616):I64 (unz u):=by
 unfold unz I64
 split <;> omega
def rNs:Nat→List Nat→List Int × List Nat × Int
 | 0,xs=>([],xs,0)
 | n + 1,xs=>if (rU xs).2.2≠0 then ([],(rU xs).2.1,(rU xs).2.2) else if (rNs n (rU xs).2.1).2.2≠0 then ([],(rNs n (rU xs).2.1).2.1,(rNs n (rU xs).2.1).2.2) else (unz (rU xs).1::(rNs n (rU xs).2.1).1,(rNs n (rU xs).2.1).2.1,0)
def rIs (xs:List Nat):List Int × List Nat × Int :=
 if (rU xs).2.2≠0 then ([],(rU xs).2.1,(rU xs).2.2) else if (rU xs).2.1.length < (rU xs).1 then ([],(rU xs).2.1,3) else rNs (rU xs).1 (rU xs).2.1
theorem rNs_enc:∀(l:List Int) (rest:List Nat),(∀x∈l,I64 x)→rNs l.length ((l.flatMap fun x=>uv (zz x))++rest)=(l,rest,0)
 | [],rest,_=>rfl
 | x::l,rest,h=>by
  have h1:=rU_enc (zz_lt x (h x (by simp))) ((l.flatMap fun x=>uv (zz x))++rest)
  have ih:=rNs_enc l rest (fun y hy=>h y (by simp [hy]))
  rw[List.flatMap_cons,List.append_assoc,List.length_cons,rNs,h1]
  simp only[ne_eq,not_true_eq_false,if_false,ih,unz_zz]
theorem uv_pos (m:Nat):1≤(uv m).length:=by
 unfold uv
 simp only[uvF]
 split <;> simp
theorem flat_uv_len:∀l:List Int,l.length≤(l.flatMap fun x=>uv (zz x)).length
 | []=>Nat.le_refl _
 | x::l=>by
  have:=flat_uv_len l
  have:=uv_pos (zz x)
  rw[List.flatMap_cons,List.length_append,List.length_cons]
  omega
theorem rIs_enc {l:List Int} (h:∀x∈l,I64 x) (hl:l.length < 18446744073709551616) (rest:List Nat):rIs (intsB l++rest)=(l,rest,0):=by
 unfold rIs intsB
 rw[List.append_assoc,rU_enc hl]
 simp only[ne_eq,not_true_eq_false,if_false]
 have:=flat_uv_len l
 rw[if_neg (by rw[List.length_append]; omega)]
 exact rNs_enc l rest h
theorem rNs_dec:∀(n:Nat) (xs rest:List Nat) (l:List Int),(∀b∈xs,b < 256)→rNs n xs=(l,rest,0)→xs=(l.flatMap fun x=>uv (zz x))++rest∧l.length=n∧(∀x∈l,I64 x)∧∀b∈rest,b < 256
 | 0,xs,rest,l,hb,h=>by
  rw[rNs] at h
  simp only[Prod.mk.injEq,and_true] at h
  obtain⟨rfl,rfl⟩:=h
  exact⟨rfl,rfl,fun x hx=>by (cases hx),hb⟩
 | n + 1,xs,rest,l,hb,h=>by
  rw[rNs] at h
  split at h
  ·rename_i he
   simp only[Prod.mk.injEq] at h
   exact absurd h.2.2 he
  rename_i he
  split at h
  ·rename_i he2
   simp only[Prod.mk.injEq] at h
   exact absurd h.2.2 he2
  rename_i he2
  simp only[ne_eq,Decidable.not_not] at he he2
  simp only[Prod.mk.injEq,and_true] at h
  obtain⟨h1,h2⟩:=h
  obtain⟨u1,u2⟩:=rU_dec (m:=(rU xs).1) (rest:=(rU xs).2.1) hb (Prod.ext rfl (Prod.ext rfl he))
  have hb2:∀b∈(rU xs).2.1,b < 256:=fun b hx=>hb b (by rw[u1]; simp [hx])
  obtain⟨i1,i2,i3,i4⟩:=rNs_dec n (rU xs).2.1 rest (rNs n (rU xs).2.1).1 hb2 (by rw[← h2]; exact Prod.ext rfl (Prod.ext rfl he2))
  generalize (rU xs).1=u at *
  generalize (rU xs).2.1=ys at *
  generalize (rNs n ys).1=l' at *
  subst h1
  refine⟨?_,by rw[List.length_cons,i2],fun x hx=>?_,i4⟩
  ·rw[List.flatMap_cons,zz_unz,List.append_assoc,← i1]
   exact u1
  ·rcases List.mem_cons.1 hx with rfl | hx
   ·exact unz_I64 u2
   ·exact i3 x hx
theorem rIs_dec {xs rest:List Nat} {l:List Int} (hb:∀b∈xs,b < 256) (h:rIs xs=(l,rest,0)):xs=intsB l++rest∧(∀x∈l,I64 x)∧l.length < 18446744073709551616∧∀b∈rest,b < 256:=by
 unfold rIs at h
 split at h
 ·rename_i he
  simp only[Prod.mk.injEq] at h
  exact absurd h.2.2 he
 rename_i he
 simp only[ne_eq,Decidable.not_not] at he
 split at h
 ·simp at h
 obtain⟨u1,u2⟩:=rU_dec (m:=(rU xs).1) (rest:=(rU xs).2.1) hb (Prod.ext rfl (Prod.ext rfl he))
 have hb2:∀b∈(rU xs).2.1,b < 256:=fun b hx=>hb b (by rw[u1]; simp [hx])
 obtain⟨i1,i2,i3,i4⟩:=rNs_dec _ _ _ _ hb2 h
 refine⟨?_,i3,by omega,i4⟩
 unfold intsB
 rw[i2,List.append_assoc,← i1]
 exact u1
def rI (xs:List Nat) (w:Int):Int × List Nat × Int:=if w≠0 then (0,xs,w) else if (rU xs).2.2≠0 then (0,(rU xs).2.1,(rU xs).2.2) else (unz (rU xs).1,(rU xs).2.1,0)
def rIsW (xs:List Nat) (w:Int):List Int × List Nat × Int:=if w≠0 then ([],xs,w) else rIs xs
def rB (xs:List Nat) (w:Int):Bool × List Nat × Int :=
 if w≠0 then (false,xs,w) else match xs with
  | []=>(false,[],3)
  | b::xs=>(decide (b=1),xs,if 1 < b then 2 else 0)
def pairsI:List Int→List (Int × Int)
 | a::b::l=>(a,b)::pairsI l
 | _=>[]
theorem pairsI_flat:∀l:List (Int × Int),pairsI (l.flatMap fun s=>[s.1,s.2])=l
 | []=>rfl
 |(a,b)::l=>by
  rw[List.flatMap_cons]
  show pairsI (a::b::(l.flatMap fun s=>[s.1,s.2]))=_
  rw[pairsI,pairsI_flat l]
theorem flat_pairsI:∀(n:Nat) (l:List Int),l.length=2 * n→(pairsI l).flatMap (fun s=>[s.1,s.2])=l
 | 0,l,h=>by rw[List.eq_nil_of_length_eq_zero (l:=l) (by omega)]; rfl
 | n + 1,l,h=>by
  match l,h with
  | a::b::l,h =>
   have ih:=flat_pairsI n l (by simp only[List.length_cons] at h; omega)
   rw[pairsI,List.flatMap_cons,ih]
   rfl
def rNode (xs:List Nat) (w:Int):Option (Re × Nat) × List Nat × Int :=
 let h:=rIsW xs w
 let t:=rIsW h.2.1 h.2.2
 let k:=rI t.2.1 t.2.2
 match h.1,t.1 with
 | op::sp,[mn,mx,mode,n,neg]=>if sp.length % 2≠0∨neg < 0∨1 < neg∨k.1 < 0∨256 < k.1 then (none,k.2.1,k.2.2) else (some (.mk op (pairsI sp) [] mn mx mode n (decide (neg=1)),k.1.toNat),k.2.1,k.2.2)
 | _,_=>(none,k.2.1,k.2.2)
abbrev RdT:=Option Re × Nat × List Nat × Int
def Re.withKids (re:Re) (l:List Re):Re:=.mk re.op re.set l re.mn re.mx re.mode re.n re.neg
def rKids (f:Nat→List Nat→Int→RdT):Nat→Nat→List Nat→Int→Option (List Re) × Nat × List Nat × Int
 | 0,s,xs,w=>(some [],s,xs,w)
 | n + 1,s,xs,w=>match f s xs w with
  |(none,r)=>(none,r)
  |(some k,s1,xs1,w1)=>match rKids f n s1 xs1 w1 with
   |(none,r)=>(none,r)
   |(some l,r)=>(some (k::l),r)
def rTree:Nat→Nat→List Nat→Int→RdT
 | 0,s,xs,w=>(none,s + 1,xs,w)
 | d + 1,s,xs,w=>if 256 < s + 1 then (none,s + 1,xs,w) else match rNode xs w with
  |(none,xs1,w1)=>(none,s + 1,xs1,w1)
  |(some (re,k),xs1,w1)=>match rKids (rTree d) k (s + 1) xs1 w1 with
   |(none,r)=>(none,r)
   |(some l,r)=>(some (re.withKids l),r)
theorem rI_enc {n:Int} (h:I64 n) (rest:List Nat):rI (uv (zz n)++rest) 0=(n,rest,0):=by
 unfold rI
 rw[if_neg (by simp),rU_enc (zz_lt n h)]
 simp only[ne_eq,not_true_eq_false,if_false,unz_zz]
theorem rI_dec {xs rest:List Nat} {w n:Int} (hb:∀b∈xs,b < 256) (h:rI xs w=(n,rest,0)):w=0∧xs=uv (zz n)++rest∧I64 n∧∀b∈rest,b < 256:=by
 unfold rI at h
 split at h
 ·rename_i hw
  simp only[Prod.mk.injEq] at h
  exact absurd h.2.2 hw
 rename_i hw
 split at h
 ·rename_i he
  simp only[Prod.mk.injEq] at h
  exact absurd h.2.2 he
 rename_i he
 simp only[ne_eq,Decidable.not_not] at hw he
 simp only[Prod.mk.injEq,and_true] at h
 obtain⟨h1,h2⟩:=h
 obtain⟨u1,u2⟩:=rU_dec (m:=(rU xs).1) (rest:=(rU xs).2.1) hb (Prod.ext rfl (Prod.ext rfl he))
 subst h1 h2
 exact⟨hw,by rw[zz_unz]; exact u1,unz_I64 u2,fun b hx=>hb b (by rw[u1]; simp [hx])⟩
theorem rIsW_dec {xs rest:List Nat} {w:Int} {l:List Int} (hb:∀b∈xs,b < 256) (h:rIsW xs w=(l,rest,0)):w=0∧xs=intsB l++rest∧(∀x∈l,I64 x)∧l.length < 18446744073709551616∧∀b∈rest,b < 256:=by
 unfold rIsW at h
 split at h
 ·rename_i hw
  simp only[Prod.mk.injEq] at h
  exact absurd h.2.2 hw
 rename_i hw
 simp only[ne_eq,Decidable.not_not] at hw
 exact⟨hw,rIs_dec hb h⟩
theorem rI_w {xs rest:List Nat} {w n:Int} (h:rI xs w=(n,rest,0)):w=0:=by
 unfold rI at h
 split at h
 ·rename_i hw
  simp only[Prod.mk.injEq] at h
  exact absurd h.2.2 hw
 ·rename_i hw
  simpa using hw
theorem rIsW_w {xs rest:List Nat} {w:Int} {l:List Int} (h:rIsW xs w=(l,rest,0)):w=0:=by
 unfold rIsW at h
 split at h
 ·rename_i hw
  simp only[Prod.mk.injEq] at h
  exact absurd h.2.2 hw
 ·rename_i hw
  simpa using hw
theorem withKids_self (re:Re):(re.withKids []).withKids re.kids=re:=by cases re; rfl
theorem rNode_enc {c:Nat} {re:Re} (hs:smallB c re=true) (hc:c≤1000000000) (hk:re.kids.length≤256) (rest:List Nat) :
  rNode (intsB (headI re)++(intsB (tailI re)++(uv (zz re.kids.length)++rest))) 0=(some (re.withKids [],re.kids.length),rest,0):=by
 have h1:=rIs_enc (headI_in hs) (by rw[headI_len]; have:=(smallB_iff.1 hs).1; omega) (intsB (tailI re)++(uv (zz re.kids.length)++rest))
 have h2:=rIs_enc (tailI_in hs) (by show 5 < _; omega) (uv (zz re.kids.length)++rest)
 have h3:=rI_enc (n:=(re.kids.length:Int)) (by unfold I64; omega) rest
 unfold rNode rIsW
 simp only[ne_eq,not_true_eq_false,if_false,h1,h2,h3]
 have hh:headI re=re.op::re.set.flatMap fun s=>[s.1,s.2]:=rfl
 have ht:tailI re=[re.mn,re.mx,re.mode,re.n,digI re.neg]:=rfl
 have hl:(re.set.flatMap fun s=>[s.1,s.2]).length=2 * re.set.length:=by
  have:=headI_len re
  rw[hh,List.length_cons] at this
  omega
 rw[hh,ht]
 simp only
 have hd:digI re.neg=0∨digI re.neg=1:=by unfold digI; cases re.neg <;> simp
 have hdb:decide (digI re.neg=1)=re.neg:=by unfold digI; cases re.neg <;> rfl
 rw[if_neg (by rw[hl]; omega),pairsI_flat,hdb]
 simp only[Int.toNat_natCast]
 rfl
theorem rNode_dec {xs rest:List Nat} {w:Int} {re:Re} {k:Nat} (hb:∀b∈xs,b < 256) (h:rNode xs w=(some (re,k),rest,0)) :
  w=0∧re.kids=[]∧k≤256∧(∀l:List Re,l.length=k→xs=intsB (headI (re.withKids l))++(intsB (tailI (re.withKids l))++(uv (zz k)++rest)))∧∀b∈rest,b < 256:=by
 unfold rNode at h
 simp only at h
 split at h
 case h_2=>simp at h
 rename_i op sp mn mx mode n neg hh ht
 split at h
 ·simp at h
 rename_i hc
 simp only[Prod.mk.injEq,Option.some.injEq] at h
 obtain⟨⟨rfl,hk⟩,h3,h4⟩:=h
 generalize hH:rIsW xs w=H at *
 generalize hT:rIsW H.2.1 H.2.2=T at *
 generalize hK:rI T.2.1 T.2.2=K at *
 obtain⟨Hl,Hr,Hw⟩:=H
 obtain⟨Tl,Tr,Tw⟩:=T
 obtain⟨Kn,Kr,Kw⟩:=K
 simp only at hh ht hT hK hk h3 h4 hc
 subst h3 h4 hh ht
 have w2:=rI_w hK
 subst w2
 have w1:=rIsW_w hT
 subst w1
 obtain⟨w0,e1,_,_,b1⟩:=rIsW_dec hb hH
 obtain⟨_,e2,_,_,b2⟩:=rIsW_dec b1 hT
 obtain⟨_,e3,_,b3⟩:=rI_dec b2 hK
 have hkn:Kn=k:=by omega
 refine⟨w0,rfl,by omega,fun l hl=>?_,b3⟩
 have h1:headI ((Re.mk op (pairsI sp) [] mn mx mode n (decide (neg=1))).withKids l)=op::sp:=by
  show op::(pairsI sp).flatMap (fun s=>[s.1,s.2])=_
  rw[flat_pairsI (sp.length / 2) sp (by omega)]
 have h2:tailI ((Re.mk op (pairsI sp) [] mn mx mode n (decide (neg=1))).withKids l)=[mn,mx,mode,n,neg]:=by
  show [mn,mx,mode,n,digI (decide (neg=1))]=_
  have:digI (decide (neg=1))=neg:=by
   by_cases hn:neg=1
   ·subst hn; rfl
   ·have:neg=0:=by omega
    subst this; rfl
  rw[this]
 rw[h1,h2,← hkn,← e3,← e2]
 exact e1
theorem max_le:∀(l:List Int) (a:Int),a≤l.foldl max a∧∀x∈l,x≤l.foldl max a
 | [],a=>⟨Int.le_refl _,fun x hx=>by cases hx⟩
 | y::l,a=>by
  obtain⟨h1,h2⟩:=max_le l (max a y)
  rw[List.foldl_cons]
  refine⟨by omega,fun x hx=>?_⟩
  rcases List.mem_cons.1 hx with rfl | hx
  ·omega
  ·exact h2 x hx
theorem kid_depth {re k:Re} (hk:k∈re.kids):k.depth + 1≤re.depth:=by
 rw[Re.depth_eq re]
 have h:=(max_le (re.kids.map Re.depth) 0).2 k.depth (List.mem_map.2 ⟨k,hk,rfl⟩)
 unfold maxL
 omega
theorem rTree_enc {c:Nat} (hc:c≤1000000000):∀(d:Nat) (re:Re) (s:Nat) (rest:List Nat),re.every (smallB c)=true→re.depth≤d→s + re.size≤256→rTree d s (re.enc++rest) 0=(some re,s + re.size,rest,0)
 | 0,re,s,rest,_,hd,_=>by
  have:=Re.depth_eq re
  have h0:0≤maxL (re.kids.map Re.depth):=by
   unfold maxL
   have:∀(l:List Int) (a:Int),a≤l.foldl max a:=by
    intro l
    induction l with
    | nil=>intro a; exact Int.le_refl _
    | cons y l ih=>intro a; rw[List.foldl_cons]; exact Int.le_trans (by omega) (ih _)
   exact this _ 0
  omega
 | d + 1,re,s,rest,hs,hd,hz=>by
  obtain⟨h1,h2⟩:=(Re.every_iff re).1 hs
  have hsz:=Re.size_eq re
  have hlen:=Re.len_le re.kids
  have hkids:∀(l:List Re) (s:Nat),(∀k∈l,k∈re.kids)→s + Re.sizeL l≤256→rKids (rTree d) l.length s (Re.encL l++rest) 0=(some l,s + Re.sizeL l,rest,0):=by
   intro l
   induction l with
   | nil=>intro s _ _; rfl
   | cons k l ih =>
    intro s hl hz
    have hk:=hl k (by simp)
    have hsl:Re.sizeL (k::l)=k.size + Re.sizeL l:=by simp [Re.sizeL]
    have hdk:k.depth + 1≤re.depth:=kid_depth hk
    have h1:=rTree_enc hc d k s (Re.encL l++rest) (h2 k hk) (by push_cast at hd; omega) (by omega)
    have h3:=ih (s + k.size) (fun x hx=>hl x (by simp [hx])) (by omega)
    rw[List.length_cons,rKids,Re.encL,List.append_assoc,h1]
    simp only
    rw[h3]
    simp only
    rw[hsl,Nat.add_assoc]
  have hn:=rNode_enc h1 hc (by omega) (Re.encL re.kids++rest)
  have hk:=hkids re.kids (s + 1) (fun k hk=>hk) (by omega)
  rw[rTree,if_neg (by omega),Re.enc_eq,List.append_assoc,List.append_assoc,List.append_assoc,hn]
  simp only
  rw[hk]
  simp only
  rw[withKids_self]
  congr 2
  omega
theorem rNode_some {xs:List Nat} {w:Int} {a:Re × Nat} {r:List Nat × Int} (h:rNode xs w=(some a,r)):w=0:=by
 apply Classical.byContradiction
 intro hw
 unfold rNode rIsW rI at h
 simp [hw] at h
theorem rTree_some {d s:Nat} {xs:List Nat} {w:Int} {re:Re} {r:Nat × List Nat × Int} (h:rTree d s xs w=(some re,r)):w=0:=by
 cases d with
 | zero=>simp [rTree] at h
 | succ d =>
  rw[rTree] at h
  split at h
  ·simp at h
  ·split at h
   ·simp at h
   ·rename_i re0 k xs1 w1 hn
    exact rNode_some hn
theorem rKids_w {f:Nat→List Nat→Int→RdT} (hf:∀s xs w re r,f s xs w=(some re,r)→w=0) {n s s':Nat} {xs rest:List Nat} {w:Int} {l:List Re} (h:rKids f n s xs w=(some l,s',rest,0)):w=0:=by
 cases n with
 | zero=>simp [rKids] at h; exact h.2.2.2
 | succ n =>
  rw[rKids] at h
  split at h
  ·simp at h
  ·rename_i k s1 xs1 w1 hk
   exact hf _ _ _ _ _ hk
theorem rKids_dec {f:Nat→List Nat→Int→RdT} (hf:∀s xs w re r,f s xs w=(some re,r)→w=0) (hd:∀s xs re s' rest,(∀b∈xs,b < 256)→f s xs 0=(some re,s',rest,0)→xs=re.enc++rest∧∀b∈rest,b < 256) :
  ∀(n s s':Nat) (xs rest:List Nat) (l:List Re),(∀b∈xs,b < 256)→rKids f n s xs 0=(some l,s',rest,0)→l.length=n∧xs=Re.encL l++rest∧∀b∈rest,b < 256
 | 0,s,s',xs,rest,l,hb,h=>by
  simp [rKids] at h
  obtain⟨rfl,rfl,rfl⟩:=h
  exact⟨rfl,rfl,hb⟩
 | n + 1,s,s',xs,rest,l,hb,h=>by
  rw[rKids] at h
  split at h
  ·simp at h
  ·rename_i k s1 xs1 w1 hk
   split at h
   ·simp at h
   ·rename_i l1 r1 hl
    simp only[Prod.mk.injEq,Option.some.injEq] at h
    obtain⟨rfl,rfl⟩:=h
    have hw:=rKids_w hf hl
    subst hw
    obtain⟨e1,b1⟩:=hd _ _ _ _ _ hb hk
    obtain⟨i1,i2,i3⟩:=rKids_dec hf hd n _ _ _ _ _ b1 hl
    refine⟨by rw[List.length_cons,i1],?_,i3⟩
    rw[Re.encL,List.append_assoc,← i2]
    exact e1
theorem rTree_dec:∀(d s s':Nat) (xs rest:List Nat) (re:Re),(∀b∈xs,b < 256)→rTree d s xs 0=(some re,s',rest,0)→xs=re.enc++rest∧∀b∈rest,b < 256
 | 0,s,s',xs,rest,re,_,h=>by simp [rTree] at h
 | d + 1,s,s',xs,rest,re,hb,h=>by
  rw[rTree] at h
  split at h
  ·simp at h
  ·split at h
   ·simp at h
   ·rename_i re0 k xs1 w1 hn
    split at h
    ·simp at h
    ·rename_i l r1 hl
     simp only[Prod.mk.injEq,Option.some.injEq] at h
     obtain⟨rfl,rfl⟩:=h
     have hw:=rKids_w (fun _ _ _ _ _=>rTree_some) hl
     subst hw
     obtain⟨_,n1,n2,n3,n4⟩:=rNode_dec hb hn
     obtain⟨i1,i2,i3⟩:=rKids_dec (fun _ _ _ _ _=>rTree_some) (fun s xs re s' rest hb h=>rTree_dec d s s' xs rest re hb h) _ _ _ _ _ _ n4 hl
     refine⟨?_,i3⟩
     have e:=n3 l i1
     rw[Re.enc_eq]
     have hk:(re0.withKids l).kids=l:=rfl
     rw[hk,i1,List.append_assoc,List.append_assoc,List.append_assoc,← i2]
     exact e
end Go.Proofs.Ytafbdphblilenaa
