/- A part of the proof (K97 K98 K99). -/
import Derived.Test.YtdofoappodmcoaaKP52
import Derived.Test.YtdofoappodmcoaaKP40
set_option linter.unusedSimpArgs false
set_option linter.unusedVariables false
set_option maxRecDepth 100000
set_option maxHeartbeats 80000000
namespace Go.Proofs.Ytdofoappodmcoaa
open Go.VL Go.Proofs.Try
def Seg (g:Prg) (pc:Int) (l:List Ins):Prop:=∃A B,g.ins=A++(l++B)∧pc=(A.length:Int)
theorem Seg.app {g:Prg} {pc:Int} {l l':List Ins} (h:Seg g pc (l++l')):Seg g pc l∧Seg g (pc + l.length) l':=by
 obtain⟨A,B,h1,h2⟩:=h
 exact⟨⟨A,l'++B,by rw[h1,List.append_assoc],h2⟩,⟨A++l,B,by rw[h1]; simp,by rw[List.length_append,h2]; push_cast; rfl⟩⟩
theorem Seg.cons {g:Prg} {pc:Int} {x:Ins} {l:List Ins} (h:Seg g pc (x::l)):insAt g pc=x∧Seg g (pc + 1) l:=by
 obtain⟨A,B,h1,h2⟩:=h
 refine⟨?_,⟨A++[x],B,by rw[h1]; simp,by rw[List.length_append,h2]; rfl⟩⟩
 unfold insAt
 rw[h1,h2]
 simp [List.getD_eq_getElem?_getD]
inductive Jm (g:Prg):Int→Nat→Int→Prop
 | refl {pc:Int}:Jm g pc 0 pc
 | step {pc q:Int} {j:Nat} (h:(insAt g pc).op=3) (k:Jm g (insAt g pc).x j q):Jm g pc (j + 1) q
theorem Jm.way {g:Prg} {t:List Int} {pc q a:Int} {j n:Nat} {regs:List Int} {r:Option (Int × List Int)} (h:Jm g pc j q) (w:Way g t q a regs n r):Way g t pc a regs (n + j) r:=by
 induction h with
 | refl=>exact w
 | step h k ih=>exact .jmp h (ih w)
structure FR (re:Re):Prop where
 ev:re.every kshD=true
 sz:re.csz≤9000
 co:∃a,re.comp a=true
theorem FR.kid {re k:Re} (h:FR re) (ho:re.op≠1∧re.op≠11) (hk:k∈re.kids):FR k:=by
 refine⟨((Re.every_iff re).1 h.ev).2 k hk,(csz_kid h.ev h.sz ho).2 k hk,?_⟩
 obtain⟨a,ha⟩:=h.co
 rw[Re.comp_eq] at ha
 split at ha
 ·cases ha
 ·split at ha
  ·cases ha
  ·split at ha
   ·cases ha
   ·rw[List.all_eq_true] at ha
    exact⟨_,ha k hk⟩
theorem FR.rep {re:Re} (h:FR re) (ho:re.op=4):re.mode≠2∧Re.nul1 re.kids=false:=by
 obtain⟨a,ha⟩:=h.co
 rw[Re.comp_eq] at ha
 split at ha
 ·cases ha
 ·rename_i hn
  refine⟨fun e=>hn ⟨ho,.inl e⟩,?_⟩
  cases hh:Re.nul1 re.kids with
  | false=>rfl
  | true=>exact absurd ⟨ho,.inr hh⟩ hn
theorem FR.len {re:Re} (h:FR re) (f:Int):((re.code f).length:Int)=re.csz:=code_len re h.ev h.sz f
theorem depth_kid1 {re k:Re} (hk:k∈re.kids):k.depth + 1≤re.depth:=by
 rw[Re.depth_eq re]
 have:∀(l:List Int) (a:Int),a≤l.foldl max a∧∀x∈l,x≤l.foldl max a:=by
  intro l
  induction l with
  | nil=>intro a; exact⟨Int.le_refl _,fun x hx=>by cases hx⟩
  | cons y l ih =>
   intro a
   obtain⟨h1,h2⟩:=ih (max a y)
   rw[List.foldl_cons]
   refine⟨by omega,fun x hx=>?_⟩
   rcases List.mem_cons.1 hx with rfl | hx
   ·omega
   ·exact h2 x hx
 have h:=(this (re.kids.map Re.depth) 0).2 k.depth (List.mem_map.2 ⟨k,hk,rfl⟩)
 unfold maxL
 omega
def placeR (re:Re) (b k:Int):Int:=b + min k re.mn * Re.cszL re.kids + (if re.mx=-1 then 0 else max (k - re.mn) 0 * (Re.cszL re.kids + 1))
structure RepAt (g:Prg) (re:Re) (b k pc:Int):Prop where
 hs:Seg g b (re.code b)
 hf:FR re
 ho:re.op=4
 k0:0≤k
 k1:re.mx=-1∨k≤re.mx
 hp:pc=placeR re b k
inductive CG (g:Prg):Goal→Int→Int→Prop
 | nil {pc:Int} (h:(insAt g pc).op=0):CG g .nil pc 1
 | tree {kind k f pc q d:Int} {re:Re} {nx:Goal} {j:Nat} (hk:kind=0) (hs:Seg g pc (re.code pc)) (hf:FR re) (hj:Jm g (pc + (re.code pc).length) j q) (hn:CG g nx q d) (he:re.depth + j + d≤30):CG g (.mk kind re k f nx) pc (-1)
 | save {kind k f pc q d:Int} {re:Re} {nx:Goal} {j:Nat} (hk:kind=3) (ho:(insAt g pc).op=4) (hj:Jm g (pc + 1) j q) (hn:CG g nx q d):CG g (.mk kind re k f nx) pc (1 + j + d)
 | rep {kind k f pc b q d:Int} {re:Re} {nx:Goal} {j:Nat} (hk:kind=1) (h:RepAt g re b k pc) (hj:Jm g (b + (re.code b).length) j q) (hn:CG g nx q d) (he:re.depth + j + d≤30):CG g (.mk kind re k f nx) pc (-1)
 | more {kind k f pc b q d:Int} {re:Re} {nx:Goal} {j:Nat} (hk:kind=2) (h:RepAt g re b (k + 1) pc) (hj:Jm g (b + (re.code b).length) j q) (hn:CG g nx q d) (he:re.depth + j + d≤30):CG g (.mk kind re k f nx) pc (-1)
theorem CG.lo {g:Prg} {gl:Goal} {pc d:Int} (h:CG g gl pc d):-1≤d:=by
 induction h <;> omega
def PG:Bool→Goal→Int→Prop
 | _,.nil,_=>True
 | s,.mk kind re k f nx,i=>if kind=0 then PG (s&&re.nul) nx i else if kind=2 then (if s=true then f < i else f≤i)∧PG s nx i else PG s nx i
theorem PG.mono:∀{gl:Goal} {s s':Bool} {i:Int},(s'=true→s=true)→PG s gl i→PG s' gl i
 | .nil,_,_,_,_,_=>trivial
 | .mk kind re k f nx,s,s',i,hs,h=>by
  unfold PG at h ⊢
  by_cases h0:kind=0
  ·rw[if_pos h0] at h ⊢
   exact PG.mono (fun e=>by
    simp only[Bool.and_eq_true] at e ⊢
    exact⟨hs e.1,e.2⟩) h
  rw[if_neg h0] at h ⊢
  by_cases h2:kind=2
  ·rw[if_pos h2] at h ⊢
   refine⟨?_,PG.mono hs h.2⟩
   have h1:=h.1
   cases s' with
   | true=>rw[hs rfl] at h1; exact h1
   | false =>
    rw[if_neg Bool.false_ne_true]
    split at h1 <;> omega
  rw[if_neg h2] at h ⊢
  exact PG.mono hs h
theorem PG.succ:∀{gl:Goal} {s:Bool} {i:Int},PG false gl i→PG s gl (i + 1)
 | .nil,_,_,_=>trivial
 | .mk kind re k f nx,s,i,h=>by
  unfold PG at h ⊢
  by_cases h0:kind=0
  ·rw[if_pos h0] at h ⊢
   rw[Bool.false_and] at h
   exact PG.succ h
  rw[if_neg h0] at h ⊢
  by_cases h2:kind=2
  ·rw[if_pos h2] at h ⊢
   have h1:=h.1
   rw[if_neg Bool.false_ne_true] at h1
   refine⟨by split <;> omega,PG.succ h.2⟩
  rw[if_neg h2] at h ⊢
  exact PG.succ h
theorem PG.push {nx:Goal} {i:Int}:∀{l:List Re} {s:Bool},PG (s&&Re.nulAll l) nx i→PG s (pushAll l nx) i
 | [],s,h=>by simpa [Re.nulAll,pushAll] using h
 | k::l,s,h=>by
  show PG s (.mk 0 k 0 0 (pushAll l nx)) i
  unfold PG
  rw[if_pos rfl]
  refine PG.push ?_
  rw[Re.nulAll,← Bool.and_assoc] at h
  exact h
theorem CG.push {g:Prg} {nx:Goal} {q d:Int} {j:Nat} (hn:CG g nx q d):∀{l:List Re} {pc:Int},Seg g pc (Re.codeCat l pc)→(∀k∈l,FR k∧k.depth + j + d≤30∧k.depth≤30)→Jm g (pc + (Re.codeCat l pc).length) j q→j + d≤30 →
  ∃j' q' d',Jm g pc j' q'∧CG g (pushAll l nx) q' d'∧(j':Int) + d'≤30∧(l≠[]→j'=0∧d'=-1)∧(l=[]→j'=j∧d'=d)
 | [],pc,hs,hl,hj,he=>⟨j,q,d,by simpa [Re.codeCat] using hj,hn,he,fun h=>absurd rfl h,fun _=>⟨rfl,rfl⟩⟩
 | k::l,pc,hs,hl,hj,he=>by
  rw[Re.codeCat] at hs hj
  obtain⟨h1,h2⟩:=hs.app
  rw[List.length_append] at hj
  obtain⟨j',q',d',a1,a2,a3,a4,a5⟩:=CG.push hn (l:=l) h2 (fun x hx=>hl x (by simp [hx])) (by rw[Int.add_assoc]; exact_mod_cast hj) he
  have hk:=hl k (by simp)
  refine⟨0,pc,-1,.refl,.tree rfl h1 hk.1 a1 a2 ?_,by omega,fun _=>⟨rfl,rfl⟩,fun e=>by cases e⟩
  by_cases e:l=[]
  ·have:=a5 e; omega
  ·have:=a4 e; omega
theorem seg_pre {g:Prg} {c:Int→List Ins} {n:Int} (hc:∀f,((c f).length:Int)=n) {f:Int}:∀(m:Nat),Seg g f (repPre c m f)→∀j:Nat,j < m→Seg g (f + j * n) (c (f + j * n))
 | 0,_,j,hj=>by omega
 | m + 1,h,j,hj=>by
  rw[repPre] at h
  obtain⟨h1,h2⟩:=h.app
  by_cases e:j < m
  ·exact seg_pre hc m h1 j e
  ·have:j=m:=by omega
   subst this
   rw[repPre_len hc] at h2
   exact h2
theorem seg_post {g:Prg} {c:Int→List Ins} {n:Int} (hc:∀f,((c f).length:Int)=n) {f mode fin:Int}:∀(m:Nat),Seg g f (repPost c mode fin m f)→∀j:Nat,j < m→Seg g (f + j * (n + 1)) (splI mode (f + j * (n + 1) + 1) fin::c (f + j * (n + 1) + 1))
 | 0,_,j,hj=>by omega
 | m + 1,h,j,hj=>by
  rw[repPost] at h
  obtain⟨h1,h2⟩:=h.app
  by_cases e:j < m
  ·exact seg_post hc m h1 j e
  ·have:j=m:=by omega
   subst this
   rw[repPost_len hc] at h2
   exact h2
theorem place_lo {re:Re} {b k:Int} (h:k≤re.mn):placeR re b k=b + k * Re.cszL re.kids:=by
 unfold placeR
 rw[Int.min_eq_left h,show max (k - re.mn) 0=0 by omega,Int.zero_mul]
 split <;> omega
theorem place_loop {re:Re} {b k:Int} (h:re.mn≤k) (hx:re.mx=-1):placeR re b k=b + re.mn * Re.cszL re.kids:=by
 unfold placeR
 rw[Int.min_eq_right h,if_pos hx]
 omega
theorem place_hi {re:Re} {b k:Int} (h:re.mn≤k) (hx:re.mx≠-1):placeR re b k=b + re.mn * Re.cszL re.kids + (k - re.mn) * (Re.cszL re.kids + 1):=by
 unfold placeR
 rw[Int.min_eq_right h,if_neg hx,show max (k - re.mn) 0=k - re.mn by omega]
section
variable {g:Prg} {re kid:Re} {b k pc:Int}
theorem RepAt.shape (h:RepAt g re b k pc) (hk:re.kids=[kid]):(∀f,((kid.code f).length:Int)=Re.cszL re.kids)∧FR kid∧0≤re.mn∧(re.mx=-1∨1≤re.mx∧re.mn≤re.mx)∧((re.code b).length:Int)=(if re.mx=-1 then (re.mn + 1) * Re.cszL re.kids + 2 else re.mx * Re.cszL re.kids + re.mx - re.mn)∧Seg g b (repC kid.code re.mn re.mx re.mode re.csz b):=by
 have hkid:=h.hf.kid (by have:=h.ho; omega) (k:=kid) (by rw[hk]; simp)
 have hcs:Re.cszL re.kids=kid.csz:=by rw[hk]; simp [Re.cszL]
 obtain⟨hs1,hs2⟩:=(Re.every_iff re).1 h.hf.ev
 obtain⟨hb,hmx⟩:=kshC_iff.1 (kshD_iff.1 hs1).1
 obtain⟨q1,q2,q3,q4,q5⟩:=kshB_iff.1 hb
 have hu:=csz_un h.hf.sz
 have ho:=h.ho
 rw[if_neg (by omega),if_neg (by omega),if_neg (by omega),if_pos ho] at hu
 have hs:=h.hs
 rw[Re.code_eq,if_neg (by omega),if_neg (by omega),if_neg (by omega),if_neg (by omega),if_neg (by omega),if_pos ho,code0_one hk] at hs
 exact⟨fun f=>by rw[hcs]; exact hkid.len f,hkid,by omega,hmx ho,by rw[h.hf.len]; exact hu,hs⟩
theorem RepAt.less (h:RepAt g re b k pc) (hk:re.kids=[kid]) (hlt:k < re.mn):Seg g pc (kid.code pc)∧RepAt g re b (k + 1) (pc + (kid.code pc).length):=by
 obtain⟨hc,hkid,hm0,hmx,hlen,hs⟩:=h.shape hk
 have hk0:=h.k0
 have hp:=h.hp
 rw[place_lo (by omega)] at hp
 have hpre:Seg g b (repPre kid.code re.mn.toNat b):=by
  unfold repC at hs
  simp only at hs
  split at hs
  ·exact hs.app.1
  ·exact hs.app.1
 have h1:=seg_pre hc re.mn.toNat hpre k.toNat (by omega)
 rw[Int.toNat_of_nonneg hk0,← hp] at h1
 refine⟨h1,h.hs,h.hf,h.ho,by omega,by omega,?_⟩
 rw[place_lo (by omega),hc,hp,Int.add_mul]
 omega
theorem RepAt.loop (h:RepAt g re b k pc) (hk:re.kids=[kid]) (hlt:¬k < re.mn) (hx:re.mx=-1):insAt g pc=splI re.mode (pc + 1) (b + (re.code b).length)∧Seg g (pc + 1) (kid.code (pc + 1))∧insAt g (pc + 1 + (kid.code (pc + 1)).length)=jmpI pc∧RepAt g re b (k + 1) pc:=by
 obtain⟨hc,hkid,hm0,hmx,hlen,hs⟩:=h.shape hk
 have hk0:=h.k0
 have hp:=h.hp
 rw[place_loop (by omega) hx] at hp
 rw[if_pos hx,Int.add_mul] at hlen
 unfold repC at hs
 simp only at hs
 rw[if_pos hx] at hs
 have h1:=hs.app.2
 have hpl:=repPre_len hc re.mn.toNat b
 rw[Int.toNat_of_nonneg hm0] at hpl
 rw[hpl,← hp,hc] at h1
 obtain⟨h2,h3⟩:=h1.cons
 obtain⟨h4,h5⟩:=h3.app
 refine⟨?_,h4,h5.cons.1,h.hs,h.hf,h.ho,by omega,.inl hx,?_⟩
 ·rw[h2,hlen]
  congr 1
  omega
 ·rw[place_loop (by omega) hx]; exact hp
theorem RepAt.count (h:RepAt g re b k pc) (hk:re.kids=[kid]) (hlt:¬k < re.mn) (hx:re.mx≠-1) (hlx:k < re.mx):insAt g pc=splI re.mode (pc + 1) (b + (re.code b).length)∧Seg g (pc + 1) (kid.code (pc + 1))∧RepAt g re b (k + 1) (pc + 1 + (kid.code (pc + 1)).length):=by
 obtain⟨hc,hkid,hm0,hmx,hlen,hs⟩:=h.shape hk
 have hk0:=h.k0
 have hp:=h.hp
 rw[place_hi (by omega) hx] at hp
 unfold repC at hs
 simp only at hs
 rw[if_neg hx] at hs
 have h1:=hs.app.2
 have hpl:=repPre_len hc re.mn.toNat b
 rw[Int.toNat_of_nonneg hm0] at hpl
 rw[hpl] at h1
 have h2:=seg_post hc (re.mx - re.mn).toNat h1 (k - re.mn).toNat (by omega)
 rw[Int.toNat_of_nonneg (by omega),← hp] at h2
 obtain⟨h3,h4⟩:=h2.cons
 refine⟨by rw[h3,h.hf.len],h4,h.hs,h.hf,h.ho,by omega,.inr (by omega),?_⟩
 rw[place_hi (by omega) hx,hc,hp,show k + 1 - re.mn=(k - re.mn) + 1 by omega,Int.add_mul (k - re.mn) 1]
 omega
theorem RepAt.last (h:RepAt g re b k pc) (hk:re.kids=[kid]) (hlt:¬k < re.mn) (hx:¬(re.mx=-1∨k < re.mx)):pc=b + (re.code b).length:=by
 obtain⟨hc,hkid,hm0,hmx,hlen,hs⟩:=h.shape hk
 have hk0:=h.k0
 have hk1:=h.k1
 have hp:=h.hp
 rw[place_hi (by omega) (by omega),show k=re.mx by omega] at hp
 rw[if_neg (by omega)] at hlen
 rw[hp,hlen,Int.mul_add,Int.sub_mul]
 omega
end
def WayLe (g:Prg) (t:List Int) (pc i N:Int):Prop:=∀regs,∃(n:Nat) (r:Option (Int × List Int)),Way g t pc i regs n r∧(n:Int)≤N
theorem WayLe.mono {g:Prg} {t:List Int} {pc i N M:Int} (h:WayLe g t pc i N) (hn:N≤M):WayLe g t pc i M:=fun regs =>
 let ⟨n,r,w,hw⟩:=h regs; ⟨n,r,w,Int.le_trans hw hn⟩
theorem WayLe.jm {g:Prg} {t:List Int} {pc q i N:Int} {j:Nat} (h:WayLe g t q i N) (hj:Jm g pc j q):WayLe g t pc i (N + j):=fun regs =>
 let ⟨n,r,w,hw⟩:=h regs; ⟨n + j,r,hj.way w,by omega⟩
theorem WayLe.split {g:Prg} {t:List Int} {pc i N M:Int} (ho:(insAt g pc).op=2) (h1:WayLe g t (insAt g pc).x i N) (h2:WayLe g t (insAt g pc).y i M):WayLe g t pc i (N + M + 1):=fun regs=>by
 obtain⟨n,r,w,hw⟩:=h1 regs
 obtain⟨m,r',w',hw'⟩:=h2 regs
 cases r with
 | some r=>exact⟨n + 1,_,.spl ho w,by omega⟩
 | none=>exact⟨n + m + 1,_,.spr ho w w',by omega⟩
theorem WayLe.sav {g:Prg} {t:List Int} {pc i N:Int} (ho:(insAt g pc).op=4) (h:WayLe g t (pc + 1) i N):WayLe g t pc i (N + 1):=fun regs =>
 let ⟨n,r,w,hw⟩:=h _; ⟨n + 1,r,.sav ho w,by omega⟩
theorem splI_op (mode a b:Int):(splI mode a b).op=2:=by unfold splI; split <;> rfl
theorem WayLe.rep {g:Prg} {t:List Int} {pc i N M mode a b:Int} (hi:insAt g pc=splI mode a b) (h1:WayLe g t a i N) (h2:WayLe g t b i M):WayLe g t pc i (N + M + 1):=by
 have ho:(insAt g pc).op=2:=by rw[hi,splI_op]
 by_cases hm:mode=1
 ·have hx:(insAt g pc).x=b∧(insAt g pc).y=a:=by rw[hi,splI,if_pos hm]; exact⟨rfl,rfl⟩
  exact(WayLe.split ho (hx.1 ▸ h2) (hx.2 ▸ h1)).mono (by omega)
 ·have hx:(insAt g pc).x=a∧(insAt g pc).y=b:=by rw[hi,splI,if_neg hm]; exact⟨rfl,rfl⟩
  exact WayLe.split ho (hx.1 ▸ h1) (hx.2 ▸ h2)
def Simu (g:Prg) (t:List Int) (D:Int):ETask→Prop
 | .run gl i _=>∀(pc q d:Int) (j:Nat),Jm g pc j q→CG g gl q d→PG true gl i→WayLe g t pc i (40 * D + j + d)
 | .node re nx i _=>∀(pc q d:Int) (j:Nat),Seg g pc (re.code pc)→FR re→Jm g (pc + (re.code pc).length) j q→CG g nx q d→re.depth + j + d≤30→PG re.nul nx i→WayLe g t pc i (40 * D - 1)
 | .body re nx i _=>∀(pc q d:Int) (j:Nat),re.op≠4→Seg g pc (re.code pc)→FR re→Jm g (pc + (re.code pc).length) j q→CG g nx q d→re.depth + j + d≤30→PG re.nul nx i→WayLe g t pc i (40 * D + 35)
 | .alt l nx i _=>∀(pc q d:Int) (j:Nat),l≠[]→Seg g pc (Re.codeAlt l pc)→(∀k∈l,FR k∧k.depth + 1 + j + d≤30)→Jm g (pc + (Re.codeAlt l pc).length) j q→CG g nx q d→PG (Re.nulAny l) nx i→WayLe g t pc i (40 * D - 1)
 | .rep re k nx i _=>∀(pc b q d:Int) (j:Nat),RepAt g re b k pc→Jm g (b + (re.code b).length) j q→CG g nx q d→re.depth + j + d≤30→PG (decide (re.mn≤k)) nx i→WayLe g t pc i (40 * D - 1)
 | .behind ..=>True
theorem fr_op {re:Re} (h:FR re):re.op=0∨re.op=1∨re.op=2∨re.op=3∨re.op=4∨re.op=5∨re.op=11:=(kshD_iff.1 ((Re.every_iff re).1 h.ev).1).2.1
theorem rep_one {g:Prg} {re kid:Re} {l:List Re} {b k pc:Int} (h:RepAt g re b k pc) (hk:re.kids=kid::l):re.kids=[kid]∧kid.nul=false∧FR kid∧kid.depth + 1≤re.depth∧re.mode≠2:=by
 have h1:=(kshD_iff.1 ((Re.every_iff re).1 h.hf.ev).1).2.2.1 (.inl h.ho)
 rw[hk,List.length_cons] at h1
 have hl:l=[]:=List.eq_nil_of_length_eq_zero (by omega)
 subst hl
 obtain⟨m1,m2⟩:=h.hf.rep h.ho
 rw[hk] at m2
 have hmem:kid∈re.kids:=by rw[hk]; simp
 exact⟨hk,m2,h.hf.kid (by have:=h.ho; omega) hmem,depth_kid1 hmem,m1⟩
theorem once_cg {g:Prg} {re kid:Re} {nx:Goal} {b k i q d:Int} {j:Nat} {pk:Int} {m:Nat} {p':Int} (hk:re.kids=[kid]) (hs:Seg g pk (kid.code pk)) (hf:FR kid) (hd:kid.depth + 1≤re.depth) (hn:kid.nul=false) (hm:Jm g (pk + (kid.code pk).length) m p') (hm1:m≤1) (hR:RepAt g re b (k + 1) p')
  (hj:Jm g (b + (re.code b).length) j q) (hcg:CG g nx q d) (he:re.depth + j + d≤30) (hpg:PG false nx i):CG g (.mk 0 kid 0 0 (.mk 2 re k i nx)) pk (-1)∧PG true (.mk 0 kid 0 0 (.mk 2 re k i nx)) i:=by
 have hlo:=hcg.lo
 refine⟨.tree rfl hs hf hm (.more rfl hR hj hcg he) (by omega),?_⟩
 unfold PG
 rw[if_pos rfl,hn,Bool.and_false]
 unfold PG
 rw[if_neg (by decide),if_pos rfl]
 exact⟨by rw[if_neg Bool.false_ne_true]; omega,hpg⟩
theorem rep_more {g:Prg} {t:List Int} {re kid:Re} {l:List Re} {nx:Goal} {c:CapsL} {b k i pc q d D1 D2:Int} {j:Nat} (hR:RepAt g re b k pc) (hkk:re.kids=kid::l) (hk:¬k < re.mn) (hx:re.mx=-1∨k < re.mx) (hj:Jm g (b + (re.code b).length) j q) (hc:CG g nx q d) (hd:re.depth + j + d≤30) (hp:PG true nx i)
  (h1:Simu g t D1 (.run (.mk 0 kid 0 0 (.mk 2 re k i nx)) i c)) (h2:Simu g t D2 (.run nx i c)):WayLe g t pc i (40 * D1 + (40 * D2 + j + d)):=by
 obtain⟨k1,k2,k3,k4,k5⟩:=rep_one hR hkk
 have hE:=h2 _ _ _ _ hj hc hp
 by_cases hm:re.mx=-1
 ·obtain⟨i1,s1,i2,r1⟩:=hR.loop k1 hk hm
  obtain⟨o1,o2⟩:=once_cg (i:=i) k1 s1 k3 k4 k2 (.step (by rw[i2]; rfl) (by rw[i2]; exact .refl)) (by omega) r1 hj hc hd (hp.mono (fun e=>by cases e))
  exact(WayLe.rep i1 (h1 _ _ _ 0 .refl o1 o2) hE).mono (by omega)
 ·obtain⟨i1,s1,r1⟩:=hR.count k1 hk hm (by omega)
  obtain⟨o1,o2⟩:=once_cg (i:=i) k1 s1 k3 k4 k2 .refl (by omega) r1 hj hc hd (hp.mono (fun e=>by cases e))
  exact(WayLe.rep i1 (h1 _ _ _ 0 .refl o1 o2) hE).mono (by omega)
theorem EvI.simu {g:Prg} {t:List Int} {F most:Int} {task:ETask} {st st':Sst} {b:Bool} (h:EvI t F most task st b st'):most=-1→b=false→Simu g t (st'.steps - st.steps) task:=by
 induction h with
 | found h0 h1 hl hl1 =>
  intro _ _ pc q d j hj hc hp
  cases hc with
  | nil h =>
   refine(WayLe.jm (N:=1) (fun regs=>⟨1,_,.done h,by omega⟩) hj).mono ?_
   simp only; omega
 | tree hk1 hk2 hk3 hk4 h0 h1 h ih =>
  intro hm hb pc q d j hj hc hp
  cases hc with
  | tree hk hs hf hj' hn he =>
   unfold PG at hp
   rw[if_pos hk,Bool.true_and] at hp
   exact((ih hm hb _ _ _ _ hs hf hj' hn he hp).jm hj).mono (by omega)
  | save hk=>exact absurd hk hk3
  | rep hk=>exact absurd hk hk1
  | more hk=>exact absurd hk hk2
 | goRep h0 h1 h ih =>
  intro hm hb pc q d j hj hc hp
  cases hc with
  | tree hk=>exact absurd hk (by decide)
  | save hk=>exact absurd hk (by decide)
  | rep hk hR hj' hn he =>
   unfold PG at hp
   rw[if_neg (by decide),if_neg (by decide)] at hp
   exact((ih hm hb _ _ _ _ _ hR hj' hn he (hp.mono (fun _=>rfl))).jm hj).mono (by omega)
  | more hk=>exact absurd hk (by decide)
 | stay h0 h1 hk hi =>
  intro hm hb pc q d j hj hc hp
  unfold PG at hp
  rw[if_neg (by decide),if_pos rfl,if_pos rfl] at hp
  omega
 | iter h0 h1 hk hk0 hk1 h ih =>
  intro hm hb pc q d j hj hc hp
  unfold PG at hp
  rw[if_neg (by decide),if_pos rfl,if_pos rfl] at hp
  cases hc with
  | tree hk=>exact absurd hk (by decide)
  | save hk=>exact absurd hk (by decide)
  | rep hk=>exact absurd hk (by decide)
  | more hk hR hj' hn he =>
   refine ih hm hb _ _ _ _ hj (.rep rfl hR hj' hn he) ?_
   unfold PG
   rw[if_neg (by decide),if_neg (by decide)]
   exact hp.2
 | save h0 h1 h ih =>
  intro hm hb pc q d j hj hc hp
  unfold PG at hp
  rw[if_neg (by decide),if_neg (by decide)] at hp
  cases hc with
  | tree hk=>exact absurd hk (by decide)
  | save hk ho hj' hn =>
   exact((WayLe.sav ho (ih hm hb _ _ _ _ hj' hn hp)).jm hj).mono (by omega)
  | rep hk=>exact absurd hk (by decide)
  | more hk=>exact absurd hk (by decide)
 | here h0 h1 hi h ih =>
  intro hm hb pc q d j hj hc hp
  cases hc with
  | tree hk=>exact absurd hk (by decide)
  | save hk=>exact absurd hk (by decide)
  | rep hk=>exact absurd hk (by decide)
  | more hk=>exact absurd hk (by decide)
 | gone h0 h1 hi =>
  intro hm hb pc q d j hj hc hp
  cases hc with
  | tree hk=>exact absurd hk (by decide)
  | save hk=>exact absurd hk (by decide)
  | rep hk=>exact absurd hk (by decide)
  | more hk=>exact absurd hk (by decide)
 | possOut hm'=>intro _ _ pc b q d j hR; exact absurd hm' (hR.hf.rep hR.ho).1
 | possNo hm'=>intro _ _ pc b q d j hR; exact absurd hm' (hR.hf.rep hR.ho).1
 | possYes hm'=>intro _ _ pc b q d j hR; exact absurd hm' (hR.hf.rep hR.ho).1
 | repOut=>intro _ hb; cases hb
 | @repMin most k i re kid l nx c st st' b hm' hs he hkk hk h ih =>
  intro hm hb pc b q d j hR hj hc hd hp
  obtain⟨k1,k2,k3,k4,k5⟩:=rep_one hR hkk
  obtain⟨r1,r2⟩:=hR.less k1 hk
  obtain⟨o1,o2⟩:=once_cg (i:=i) k1 r1 k3 k4 k2 .refl (by omega) r2 hj hc hd (hp.mono (fun e=>by cases e))
  refine(ih hm hb _ _ _ _ .refl o1 o2).mono ?_
  simp only[Sst.step]; omega
 | @repMax most k i re kid l nx c st st' b hm' hs he hkk hk hx h ih =>
  intro hm hb pc b q d j hR hj hc hd hp
  obtain⟨k1,k2,k3,k4,k5⟩:=rep_one hR hkk
  have hpc:=hR.last k1 hk hx
  rw[← hpc] at hj
  have hdp:=(Re.depth_le kid).1
  refine(ih hm hb _ _ _ _ hj hc (hp.mono (fun _=>decide_eq_true (by omega)))).mono ?_
  simp only[Sst.step]; omega
 | lazyT=>intro _ hb; cases hb
 | @lazyF most k i re kid l nx c st s2 st' b hm' hs he hkk hk hx h h2 ih ih2 =>
  intro hm hb pc b q d j hR hj hc hd hp
  have hdp:=(Re.depth_le re).1
  refine(rep_more hR hkk hk hx hj hc hd (hp.mono (fun _=>decide_eq_true (by omega))) (ih2 hm hb) (ih hm rfl)).mono ?_
  simp only[Sst.step]; omega
 | moreT=>intro _ hb; cases hb
 | @moreF most k i re kid l nx c st s2 st' b hm' hm1 hs he hkk hk hx h h2 ih ih2 =>
  intro hm hb pc b q d j hR hj hc hd hp
  have hdp:=(Re.depth_le re).1
  refine(rep_more hR hkk hk hx hj hc hd (hp.mono (fun _=>decide_eq_true (by omega))) (ih hm rfl) (ih2 hm hb)).mono ?_
  simp only[Sst.step]; omega
 | @nodeRep most i re nx c st st' b ho h0 h1 h ih =>
  intro hm hb pc q d j hS hf hj hc hd hp
  obtain⟨hb1,hmx⟩:=kshC_iff.1 (kshD_iff.1 ((Re.every_iff re).1 hf.ev).1).1
  obtain⟨q1,q2,q3,q4,q5⟩:=kshB_iff.1 hb1
  have hmx:=hmx ho
  refine ih hm hb pc pc q d j ⟨hS,hf,ho,Int.le_refl _,by omega,by rw[place_lo (by omega)]; omega⟩ hj hc hd ?_
  rw[Re.nul_eq,if_neg (by omega),if_neg (by omega),if_neg (by omega),if_pos ho,(hf.rep ho).2,Bool.or_false] at hp
  exact hp
 | nodeOut=>intro _ hb; cases hb
 | node ho hs he h ih =>
  intro hm hb pc q d j hS hf hj hc hd hp
  refine(ih hm hb _ _ _ _ ho hS hf hj hc hd hp).mono ?_
  simp only[Sst.step]; omega
 | @empty most i re nx c st st' b ho h ih =>
  intro hm hb pc q d j h4 hS hf hj hc hd hp
  have hdp:=(Re.depth_le re).1
  have hop:=fr_op hf
  simp only[List.mem_cons,List.not_mem_nil,or_false,not_or] at ho
  have h0:re.op=0:=by omega
  rw[Re.code_eq,if_neg (by omega),if_neg (by omega),if_neg (by omega),if_neg (by omega),if_neg (by omega),if_neg (by omega),List.length_nil] at hj
  rw[Re.nul_eq,if_neg (by omega),if_neg (by omega),if_neg (by omega),if_neg (by omega),if_neg (by omega)] at hp
  exact(ih hm hb _ _ _ _ (by simpa using hj) hc hp).mono (by omega)
 | @setYes most i re nx c st st' b ho hi hs h ih =>
  intro hm hb pc q d j h4 hS hf hj hc hd hp
  have hdp:=(Re.depth_le re).1
  rw[Re.code_eq,if_pos ho] at hj hS
  rw[Re.nul_eq,if_pos ho] at hp
  have hin:=hS.cons.1
  have hw:=ih hm hb _ _ _ _ (by simpa using hj) hc hp.succ
  intro regs
  obtain⟨n,r,w,hn⟩:=hw regs
  refine⟨n + 1,r,.sym (by rw[hin]) hi ?_ w,by omega⟩
  rw[hin]
  simpa only[hasB,inB,Bool.decide_and] using hs
 | @setNo most i re nx c st ho hn =>
  intro hm hb pc q d j h4 hS hf hj hc hd hp
  rw[Re.code_eq,if_pos ho] at hS
  have hin:=hS.cons.1
  refine fun regs=>⟨1,none,.symN (by rw[hin]) ?_,by omega⟩
  rw[hin]
  simpa only[hasB,inB,Bool.decide_and] using hn
 | @cat most i re nx c st st' b ho h ih =>
  intro hm hb pc q d j h4 hS hf hj hc hd hp
  have hlo:=hc.lo
  have hdp:=(Re.depth_le re).1
  rw[Re.code_eq,if_neg (by omega),if_neg (by omega),if_pos ho] at hS hj
  rw[Re.nul_eq,if_neg (by omega),if_pos ho] at hp
  obtain⟨j',q',d',a1,a2,a3,_,_⟩:=CG.push hc hS (fun k hk=>⟨hf.kid (by omega) hk,by have:=depth_kid1 hk; omega,by have:=depth_kid1 hk; omega⟩) hj (by omega)
  exact(ih hm hb _ _ _ _ a1 a2 (PG.push (by rw[Bool.true_and]; exact hp))).mono (by omega)
 | @alt most i re nx c st st' b ho h ih =>
  intro hm hb pc q d j h4 hS hf hj hc hd hp
  have hb1:=(kshC_iff.1 (kshD_iff.1 ((Re.every_iff re).1 hf.ev).1).1).1
  obtain⟨q1,q2,q3,q4,q5⟩:=kshB_iff.1 hb1
  rw[Re.code_eq,if_neg (by omega),if_neg (by omega),if_neg (by omega),if_pos ho] at hS hj
  rw[Re.nul_eq,if_neg (by omega),if_neg (by omega),if_pos (.inl ho)] at hp
  refine(ih hm hb _ _ _ _ (fun e=>?_) hS (fun k hk=>⟨hf.kid (by omega) hk,by have:=depth_kid1 hk; omega⟩) hj hc hp).mono (by omega)
  have h2:=q2 ho
  rw[e] at h2
  simp at h2
 | altNil=>intro _ _ pc q d j hl; exact absurd rfl hl
 | altT=>intro _ hb; cases hb
 | @altF most i kid l nx c st s2 st' b h h2 ih ih2 =>
  intro hm hb pc q d j hl hS hF hj hc hp
  obtain⟨f1,f2⟩:=hF kid (by simp)
  have hdk:=(Re.depth_le kid).1
  have hst:=h2.steps
  rw[Re.nulAny] at hp
  have hpk:PG true (.mk 0 kid 0 0 nx) i:=by
   unfold PG
   rw[if_pos rfl,Bool.true_and]
   exact hp.mono (fun e=>by rw[e,Bool.true_or])
  cases l with
  | nil =>
   simp only[Re.codeAlt] at hS hj
   exact(ih hm rfl _ _ _ 0 .refl (.tree rfl hS f1 hj hc (by omega)) hpk).mono (by omega)
  | cons k2 l2 =>
   rw[Re.codeAlt] at hS hj
   obtain⟨i1,s1⟩:=hS.cons
   obtain⟨s2',s3⟩:=s1.app
   obtain⟨i2,s4⟩:=s3.cons
   have hpos:pc + 1 + ((kid.code (pc + 1)).length:Int) + 1=pc + (kid.code (pc + 1)).length + 2:=by omega
   rw[hpos] at s4
   generalize hz:Re.codeAlt (k2::l2) (pc + (kid.code (pc + 1)).length + 2)=z at *
   simp only[List.length_cons,List.length_append] at hj
   have hj2:Jm g (pc + (kid.code (pc + 1)).length + 2 + z.length) j q:=by
    have:pc + (((kid.code (pc + 1)).length + (z.length + 1) + 1:Nat):Int)=pc + (kid.code (pc + 1)).length + 2 + z.length:=by push_cast; omega
    rw[← this]; exact hj
   have hj1:Jm g (pc + 1 + (kid.code (pc + 1)).length) (j + 1) q:=.step (by rw[i2]; rfl) (by rw[i2]; exact hj2)
   have w1:=ih hm rfl _ _ _ 0 .refl (.tree rfl s2' f1 hj1 hc (by push_cast; omega)) hpk
   have w2:=ih2 hm hb _ _ _ j (by simp) (by rw[hz]; exact s4) (fun k hk=>hF k (by simp only[List.mem_cons] at hk ⊢; exact .inr hk)) (by rw[hz]; exact hj2) hc (hp.mono (fun e=>by rw[e,Bool.or_true]))
   exact(WayLe.rep i1 w1 w2).mono (by omega)
 | @cap most i re kid l nx c st st' b ho hkk h ih =>
  intro hm hb pc q d j h4 hS hf hj hc hd hp
  have hmem:kid∈re.kids:=by rw[hkk]; simp
  have hdk:=depth_kid1 hmem
  rw[Re.code_eq,if_neg (by omega),if_neg (by omega),if_neg (by omega),if_neg (by omega),if_pos ho,hkk] at hS hj
  simp only[Re.code0] at hS hj
  rw[Re.nul_eq,if_neg (by omega),if_neg (by omega),if_neg (by omega),if_neg (by omega),if_pos (.inl ho),hkk] at hp
  simp only[Re.nul1] at hp
  obtain⟨i1,s1⟩:=hS.cons
  obtain⟨s2',s3⟩:=s1.app
  have i2:=s3.cons.1
  have hj1:Jm g (pc + 1 + (kid.code (pc + 1)).length + 1) j q:=by
   have:pc + ((savI (2 * re.n - 2)::(kid.code (pc + 1)++[savI (2 * re.n - 1)])).length:Int)=pc + 1 + (kid.code (pc + 1)).length + 1:=by simp; omega
   rw[← this]; exact hj
  refine(WayLe.sav (by rw[i1]; rfl) (ih hm hb _ _ _ 0 .refl (.tree rfl s2' (hf.kid (by omega) hmem) .refl (.save rfl (by rw[i2]; rfl) hj1 hc) (by omega)) ?_)).mono (by omega)
  unfold PG
  rw[if_pos rfl,Bool.true_and]
  unfold PG
  rw[if_neg (by decide),if_neg (by decide)]
  exact hp
 | @assertYes most i re nx c st st' b ho hh h ih =>
  intro hm hb pc q d j h4 hS hf hj hc hd hp
  have hdp:=(Re.depth_le re).1
  rw[Re.code_eq,if_neg (by omega),if_pos ho] at hj hS
  rw[Re.nul_eq,if_neg (by omega),if_neg (by omega),if_neg (by omega),if_neg (by omega),if_neg (by omega)] at hp
  have hin:=hS.cons.1
  have hw:=ih hm hb _ _ _ _ (by simpa using hj) hc hp
  intro regs
  obtain⟨n,r,w,hn⟩:=hw regs
  exact⟨n + 1,r,.ass (by rw[hin]) (by rw[hin]; exact hh) w,by omega⟩
 | @assertNo most i re nx c st ho hh =>
  intro hm hb pc q d j h4 hS hf hj hc hd hp
  rw[Re.code_eq,if_neg (by omega),if_pos ho] at hS
  have hin:=hS.cons.1
  exact fun regs=>⟨1,none,.assN (by rw[hin]) (by rw[hin]; show ¬holdsR re.n t i=true; rw[hh]; exact Bool.false_ne_true),by omega⟩
 | bhNo=>intro _ _; trivial
 | bhNoNeg=>intro _ _; trivial
 | bhOut=>intro _ _; trivial
 | bhYes=>intro _ _; trivial
 | bhYesNeg=>intro _ _; trivial
 | bhMore=>intro _ _; trivial
 | _=>rename_i ho _; intro _ _ pc q d j _ _ hf; have:=fr_op hf; omega
theorem way_ex {p:Pat} {t:List Int} (h:PlainR p t) (hc:p.re.comp []=true) (i:Int) (h0:0≤i) (h1:i≤t.length) (regs:List Int):∃(n:Nat) (r:Option (Int × List Int)),Way (compR p) t 0 i regs n r∧n < 1048576:=by
 have hg:=h.good i h0 h1
 obtain⟨hv,_,_,he⟩:=allE_valid hg
 have hst:=steps_le hg
 obtain⟨k,b,x,hx,ev⟩:=search_at (most:=-1) hv h0 h1
 unfold allN at hst
 rw[if_pos hg,hx] at hst
 rw[hx] at he
 have hev:=evI_of k _ _ _ _ _ ev
 have hb:=(hev.all rfl rfl he).1
 obtain⟨v1,v2,v3,v4,v5⟩:=validR_spec h.valid
 have hF:FR p.re:=⟨kshD_of v4 p.re v5 (by omega) [] hc,by have:=h.csz; omega,[],hc⟩
 have hS:Seg (compR p) 0 (p.re.code 0):=⟨[],[doneI],by simp [compR],rfl⟩
 have hS2:Seg (compR p) (p.re.code 0).length [doneI]:=⟨p.re.code 0,[],by simp [compR],rfl⟩
 have hd:(insAt (compR p) (0 + (p.re.code 0).length)).op=0:=by rw[Int.zero_add,hS2.cons.1]; rfl
 obtain⟨n,r,w,hn⟩:=hev.simu rfl hb 0 0 (-1) 0 .refl (.tree rfl hS hF .refl (.nil hd) (by omega)) (by unfold PG; rw[if_pos rfl]; trivial) regs
 exact⟨n,r,w,by simp only at hn hst; omega⟩
end Go.Proofs.Ytdofoappodmcoaa
