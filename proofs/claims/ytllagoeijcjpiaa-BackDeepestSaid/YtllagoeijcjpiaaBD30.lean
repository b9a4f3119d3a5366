/- A part of the proof (H17). -/
import Derived.Test.YtllagoeijcjpiaaBD29
set_option linter.unusedSimpArgs false
set_option linter.unusedVariables false
set_option maxRecDepth 100000
set_option maxHeartbeats 80000000
namespace Go.Proofs.Ytllagoeijcjpiaa
open Go.VL
theorem mF.go {t:List Int}{F:Int}{nc:Nat}{ah i:Int}{st st':aU}{w e:Int}{l:aq} (h:mF t F nc ah i st false st' w e l):st.steps≤st'.steps∧st'.empty=false∧st'.steps≤F∧w=fI ah st'∧1≤fI ah st':=by
 obtain⟨h0,h|h|h⟩:=h
 ·exact⟨h0,h.2.1,h.2.2.1,h.2.2.2.1,by rw[← h.2.2.2.1];exact h.2.2.2.2⟩
 ·cases h.1
 ·cases h.1
theorem mF.halt {t:List Int}{F:Int}{nc:Nat}{ah i:Int}{st st':aU}{w e:Int}{l:aq} (h:mF t F nc ah i st true st' w e l):w≤0∨st'.empty=true:=by
 obtain⟨h0,h|h|h⟩:=h
 ·cases h.1
 ·exact .inl (by rw[h.2.2.2.1];exact Vr _)
 ·exact .inr h.2
section walk
variable {g0:Nat}{t:List Int}{F:Int}{nc:Nat} (ht:t.length≤1000000) (Ra:F≤1200000000000) (MP:nc≤1000000)
include ht Ra MP
omit ht Ra in
theorem zA {ah i:Int}{c:aq}{st:aU}{o:Int}{re:Re} (hP:jl t F nc ah i c st o) (hv:re.every (vB nc)=true) (ho:re.op=5∨re.op=6∨re.op=10) :
  1≤re.n∧re.n≤c.length∧re.n≤1000000∧c[(re.n-1).toNat]?=some (bo c re.n):=by
 obtain⟨⟨_,_,_,_,v5,_,_⟩,_⟩:=bJ hv
 obtain⟨w1,w2⟩:=v5 ho
 have cI:=hP.cl
 have aT:(re.n-1).toNat<c.length:=by omega
 have eD:bo c re.n=c.getD (re.n-1).toNat (-1,-1):=by unfold bo;rw[if_neg (by omega)]
 refine⟨w1,by omega,by omega,?_⟩
 rw[eD,List.getD_eq_getElem?_getD,Vu aT]
 rfl
theorem PQ {ah:Int}{task:ETask}{st st':aU}{b:Bool}{o d d':Int} (h:eM t F ah task st b st' o d d'):ME g0 t F nc ah task st b st' o d d':=by
 induction h with
 |@found o d ah i c st h0 h1 hl wq =>
  intro hP hk
  have hw:=hP.want
  have hm:=hP.ah
  refine⟨fI ah st-1,i,c,?_,Ki hP.empty hw (KZ hm)⟩
  refine⟨Vr _,?_⟩
  have oK:((st.ends++[i]).length:Int)=st.ends.length+1:=by simp
  cases hb:(decide (0≤ah)&&decide (ah≤(st.ends.length:Int)+1)) with
  |true =>
   simp only[VE,decide_eq_true_eq]at hb
   unfold fI at hw ⊢
   rw[if_neg (by omega)]at hw ⊢
   exact .inr (.inl ⟨rfl,hP.empty,hP.s1,by omega,⟨hb.1,by simp only[oK];omega⟩,st.ends,st.ai,rfl,rfl,Vr _,h1,hP.ai,hP.cl,hl⟩)
  |false =>
   refine .inl ⟨rfl,hP.empty,hP.s1,?_,?_⟩
   ·unfold fI;simp only[oK];omega
   ·unfold fI at hw ⊢
    by_cases SY:ah<0
    ·rw[if_pos SY];omega
    ·rw[if_neg SY]at hw ⊢
     by_cases hle:ah≤(st.ends.length:Int)+1
     ·rw[decide_eq_true (show 0≤ah by omega),decide_eq_true hle]at hb;cases hb
     ·omega
 |tree eO yw AL L3 h0 h1 _ ih =>
  intro hP hk
  obtain⟨w,e,l,hp,hc⟩:=ih hP hk.2.2.2.2.2 (hk.1 L3) _ _ _
  exact⟨w,e,l,hp,Ie hP.empty eO yw AL L3 hc⟩
 |@Aa o d d' ah k f i re nx c st st' b h0 h1 _ ih =>
  intro hP hk
  obtain⟨k1,k2,k3,k4,k5,k6⟩:=hk
  obtain⟨o4,hm,dL⟩:=k2 (.inl rfl)
  obtain⟨w,e,l,hp,hc⟩:=ih hP k6 (k1 (by decide)) o4 dL (k3 rfl) 1 f
  exact⟨w,e,l,hp,KG hP.empty hc⟩
 |stay h0 h1 eO hi =>
  intro hP hk
  exact⟨_,_,_,.no hP 0 [],Ia hP.empty eO hi⟩
 |@iter o d d' ah k f i re nx c st st' b h0 h1 RN dL eO eT ih =>
  intro hP hk
  obtain⟨k1,k2,k3,k4,k5,k6⟩:=hk
  obtain⟨o4,hm,Rp⟩:=k2 (.inr rfl)
  have aT:=k4 rfl
  obtain⟨w,e,l,hp,hc⟩:=ih hP ⟨fun _=>k1 (by decide),fun _=>⟨o4,hm,by omega⟩,fun _=>by omega,fun h=>by omega,fun h=>by omega,k6⟩
  exact⟨w,e,l,hp,HB hP.empty RN dL eO hc⟩
 |@save o d d' ah k f i re nx c st st' b h0 h1 eT ih =>
  intro hP hk
  obtain⟨k1,k2,k3,k4,k5,k6⟩:=hk
  obtain⟨o5,f0,f1⟩:=k5 rfl
  obtain⟨w1,w2,w3,_⟩:=zA MP hP (k1 (by decide)) (.inl o5)
  have hw:jf c re.n f i=c.set (re.n-1).toNat (f,i):=by unfold jf;rw[if_pos ⟨w1,w2⟩]
  obtain⟨c1,c2⟩:=cr.with (n:=re.n) hP.ai f0 f1 h1
  rw[hw]at ih c1 c2
  obtain⟨w,e,l,hp,hc⟩:=ih (hP.at hP.i0 hP.i1 c1 (by rw[c2];exact hP.cl)) k6
  exact⟨w,e,l,hp,H3 hP.empty w1 w2 w3 (by have:=hP.cl;omega) hc⟩
 |@here o d d' ah k f i re nx c st st' b h0 h1 hi eT ih =>
  intro hP hk
  obtain⟨w,e,l,hp,hc⟩:=ih hP hk.2.2.2.2.2
  exact⟨w,e,l,hp,HF hP.empty hi hc⟩
 |gone h0 h1 hi =>
  intro hP hk
  exact⟨_,_,_,.no hP 0 [],GO hP.empty hi⟩
 |@qc o d d' ah k i re nx c st x b hm eT hx ih =>
  intro hP hk hv o4 dL eO kind bO
  obtain⟨w,e,l,hc,hs,_⟩:=iS hP hP.i0 hP.i1 (h:=.mk 1 (re.bP 0) 0 0 .nil) ⟨fun _=>iQ hv 0,fun _=>⟨o4,by simp [Re.bP,Re.mode],Vr _⟩,fun _=>hP.s0,fun h=>by omega,fun h=>by omega,trivial⟩ ih
  refine⟨fI ah st,0,[],⟨hs,.inr (.inr ⟨rfl,hx⟩)⟩,?_⟩
  by_cases hw:w>0
  ·exact DN hm hc (decide_eq_true hw)
  ·exact Hm hm hc hx (decide_eq_false hw)
 |@uz o d d' ah k i re nx c st x b hm eT hx he ih =>
  intro hP hk hv o4 dL eO kind bO
  obtain⟨w,e,l,hc,hs,hr⟩:=iS hP hP.i0 hP.i1 (h:=.mk 1 (re.bP 0) 0 0 .nil) ⟨fun _=>iQ hv 0,fun _=>⟨o4,by simp [Re.bP,Re.mode],Vr _⟩,fun _=>hP.s0,fun h=>by omega,fun h=>by omega,trivial⟩ ih
  obtain⟨hF,hr⟩:=hr hx
  refine⟨_,_,_,⟨hs,.inl ⟨rfl,hx,hF,rfl,hP.want⟩⟩,DN hm hc ?_⟩
  rcases hr with ⟨rfl,_⟩|⟨_,h,_⟩
  ·rfl
  ·rw[he]at h;cases h
 |@qZ o d d' d1 ah k i e re nx c d0 le ld st x st' b b' hm eT hx he mc pH ih gz =>
  intro hP hk hv o4 dL eO kind bO
  obtain⟨w,e1,l,hc,hs,hr⟩:=iS hP hP.i0 hP.i1 (h:=.mk 1 (re.bP 0) 0 0 .nil) ⟨fun _=>iQ hv 0,fun _=>⟨o4,by simp [Re.bP,Re.mode],Vr _⟩,fun _=>hP.s0,fun h=>by omega,fun h=>by omega,trivial⟩ ih
  obtain⟨hF,hr⟩:=hr hx
  rcases hr with ⟨_,h⟩|⟨rfl,h,h2,l1,l2,l3,l4⟩
  ·rw[he]at h;cases h
  rw[he]at h;rw[mc]at h2
  cases h;cases h2
  obtain⟨w2,e2,T5,EX,Hh⟩:=gz (hP.ib hx hs hF (by have:=hP.i0;omega) l2 l3 l4) (hk.mono l1 hs)
  exact⟨w2,e2,T5,EX.dZ l1 hs,Jd hm hc hx rfl Hh⟩
 |@uo o d ah k i re nx c st hm hs he =>
  intro hP hk hv o4 dL eO kind bO
  have h1:=hP.s1
  exact⟨_,_,_,⟨by show st.steps≤st.steps+1;omega,.inr (.inr ⟨rfl,he⟩)⟩,Jx hm hP.empty hP.s0 (by omega) he⟩
 |@ug o d d' ah k i re kid l nx c st st' b hm hs he bH uK eT ih =>
  intro hP hk hv o4 dL eO kind bO
  obtain⟨_,fJ⟩:=bJ hv
  have h1:=hP.s1
  have aH:(st.step F).steps=st.steps+1:=rfl
  obtain⟨w,e,l',hp,hc⟩:=ih (hP.step he) ⟨fun _=>fJ kid (by rw[bH];simp),fun h=>by omega,fun h=>by omega,fun h=>by omega,fun h=>by omega,fun _=>hv,fun _=>⟨o4,hm,dL⟩,fun h=>by omega,fun _=>by omega,fun h=>by omega,hk.mono (Vr _) (by omega)⟩
  exact⟨w,e,l',hp.dZ (Vr _) (by omega),Kw hm hP.empty hP.s0 (by omega) he bH uK hc⟩
 |@oV o d d' ah k i re kid l nx c st st' b hm hs he bH uK hx eT ih =>
  intro hP hk hv o4 dL eO kind bO
  obtain⟨⟨_,_,_,_,_,_,v7⟩,fJ⟩:=bJ hv
  have QY:=v7 o4
  have h1:=hP.s1
  have aH:(st.step F).steps=st.steps+1:=rfl
  obtain⟨w,e,l',hp,hc⟩:=ih (hP.step he) (hk.mono (Vr _) (by omega))
  exact⟨w,e,l',hp.dZ (Vr _) (by omega),I5 hm hP.empty hP.s0 (by omega) he bH uK (by omega) (by omega) hc⟩
 |@Ai o d d' ah k i re kid l nx c st st' ly hs he bH uK hx eT ih =>
  intro hP hk hv o4 dL eO kind bO
  have h1:=hP.s1
  have D9:=hP.o0
  have nh:=hP.o1
  have aH:(st.step F).steps=st.steps+1:=rfl
  obtain⟨w,e,l',hp,hc⟩:=Jb (hd:=(Goal.mk 0 kid 0 0 (.mk 2 re k i nx)).d) D9 (by omega) (ih ((hP.step he).up (by omega)) (hk.mono (Vr _) (by omega)))
  exact⟨w,e,l',hp.dZ (Vr _) (by omega),zB (by omega) hP.empty hP.s0 (by omega) he bH ly uK (by omega) hc⟩
 |@zj o d d' d1 ah k i re kid l nx c st s2 st' b ly hs he bH uK hx eT pH ih gz =>
  intro hP hk hv o4 dL eO kind bO
  obtain⟨_,fJ⟩:=bJ hv
  have h1:=hP.s1
  have D9:=hP.o0
  have nh:=hP.o1
  have hm:re.mode≠2:=by omega
  have aH:(st.step F).steps=st.steps+1:=rfl
  have Pw:=ih ((hP.step he).up (by omega)) (hk.mono (Vr _) (by omega))
  obtain⟨_,_,_,Fh,_⟩:=id Pw
  obtain⟨g1,g2,g3,_,g4⟩:=Fh.go
  obtain⟨w,e,l',hp,hc⟩:=KE D9 (by omega) Pw (gz ((hP.step he).on g2 g1 g3 g4) ⟨fun _=>fJ kid (by rw[bH];simp),fun h=>by omega,fun h=>by omega,fun h=>by omega,fun h=>by omega,fun _=>hv,fun _=>⟨o4,hm,dL⟩,fun h=>by omega,fun _=>by omega,fun h=>by omega,hk.mono (Vr _) (by omega)⟩)
  exact⟨w,e,l',hp.dZ (Vr _) (by omega),zB hm hP.empty hP.s0 (by omega) he bH ly uK (by omega) hc⟩
 |@ze o d d' ah k i re kid l nx c st st' hm ly hs he bH uK hx eT ih =>
  intro hP hk hv o4 dL eO kind bO
  obtain⟨_,fJ⟩:=bJ hv
  have h1:=hP.s1
  have D9:=hP.o0
  have nh:=hP.o1
  have aH:(st.step F).steps=st.steps+1:=rfl
  obtain⟨w,e,l',hp,hc⟩:=Jb (hd:=nx.d) D9 (by omega) (ih ((hP.step he).up (by omega)) ⟨fun _=>fJ kid (by rw[bH];simp),fun h=>by omega,fun h=>by omega,fun h=>by omega,fun h=>by omega,fun _=>hv,fun _=>⟨o4,hm,dL⟩,fun h=>by omega,fun _=>by omega,fun h=>by omega,hk.mono (Vr _) (by omega)⟩)
  exact⟨w,e,l',hp.dZ (Vr _) (by omega),zR hm hP.empty hP.s0 (by omega) he bH ly uK (by omega) hc⟩
 |@z7 o d d' d1 ah k i re kid l nx c st s2 st' b hm ly hs he bH uK hx eT pH ih gz =>
  intro hP hk hv o4 dL eO kind bO
  obtain⟨_,fJ⟩:=bJ hv
  have h1:=hP.s1
  have D9:=hP.o0
  have nh:=hP.o1
  have aH:(st.step F).steps=st.steps+1:=rfl
  have Pw:=ih ((hP.step he).up (by omega)) ⟨fun _=>fJ kid (by rw[bH];simp),fun h=>by omega,fun h=>by omega,fun h=>by omega,fun h=>by omega,fun _=>hv,fun _=>⟨o4,hm,dL⟩,fun h=>by omega,fun _=>by omega,fun h=>by omega,hk.mono (Vr _) (by omega)⟩
  obtain⟨_,_,_,Fh,_⟩:=id Pw
  obtain⟨g1,g2,g3,_,g4⟩:=Fh.go
  obtain⟨w,e,l',hp,hc⟩:=KE D9 (by omega) Pw (gz ((hP.step he).on g2 g1 g3 g4) (hk.mono (Vr _) (by omega)))
  exact⟨w,e,l',hp.dZ (Vr _) (by omega),zR hm hP.empty hP.s0 (by omega) he bH ly uK (by omega) hc⟩
 |@qJ o d d' ah i re nx c st st' b ho h0 h1 eT ih =>
  intro hP hk hv kind k bO
  obtain⟨w,e,l,hp,hc⟩:=ih hP hk hv ho (Vr _) hP.s0 1 0
  exact⟨w,e,l,hp,LF ho hc⟩
 |@qW o d ah i re nx c st ho hs he =>
  intro hP hk hv kind k bO
  have h1:=hP.s1
  exact⟨_,_,_,⟨by show st.steps≤st.steps+1;omega,.inr (.inr ⟨rfl,he⟩)⟩,GQ ho hP.empty hP.s0 (by omega) he⟩
 |@node o d d' ah i re nx c st st' b ho hs he eT ih =>
  intro hP hk hv kind k bO
  have h1:=hP.s1
  have nh:=hP.o1
  have aH:(st.step F).steps=st.steps+1:=rfl
  obtain⟨w,e,l,hp,hc⟩:=ih (hP.step he) (by omega) (hk.mono (Vr _) (by omega)) hv ho st rfl hP.empty hP.s0 (by omega) kind k bO
  exact⟨w,e,l,hp.dZ (Vr _) (by omega),hc⟩
 |@empty o d d' ah i re nx c st st' b ho eT ih =>
  intro hP nh hk hv o4 s0 eB kB lg kU kind k bO
  subst eB
  have ji:=hP.empty
  simp only[Wu,List.not_mem_nil,or_false,not_or]at ho
  obtain⟨w,e,l',hp,hc⟩:=ih hP hk
  exact⟨w,e,l',hp,BY (by omega) kB lg kU ji hc⟩
 |@tY o d d' ah i re nx c st st' b ho hi hs eT ih =>
  intro hP nh hk hv o4 s0 eB kB lg kU kind k bO
  subst eB
  have ji:=hP.empty
  obtain⟨⟨_,_,v3,_,_,_,_⟩,_⟩:=bJ hv
  have hi0:=hP.i0
  obtain⟨w,e,l',hp,hc⟩:=ih (hP.at (by omega) (by omega) hP.ai hP.cl) (hk.mono (by omega) (Vr _))
  exact⟨w,e,l',hp.dZ (by omega) (Vr _),K5 ho kB lg kU ji ht v3 hi0 hi hs hc⟩
 |@zf o d ah i re nx c st ho hn =>
  intro hP nh hk hv o4 s0 eB kB lg kU kind k bO
  subst eB
  have ji:=hP.empty
  obtain⟨⟨_,_,v3,_,_,_,_⟩,_⟩:=bJ hv
  refine⟨_,_,_,.no hP 0 [],?_⟩
  by_cases hi:i<t.length
  ·exact Kv ho kB lg kU ji ht v3 hP.i0 hi (by simpa [hi]using hn)
  ·exact HU ho kB lg kU ji ht hi
 |@cat o d d' ah i re nx c st st' b ho eT ih =>
  intro hP nh hk hv o4 s0 eB kB lg kU kind k bO
  subst eB
  have ji:=hP.empty
  obtain⟨⟨_,_,_,v4,_,_,_⟩,fJ⟩:=bJ hv
  obtain⟨w,e,l',hp,hc⟩:=ih hP (vZ hk re.kids fJ)
  exact⟨w,e,l',hp,Md ho kB lg kU ji v4 hc⟩
 |@alt o d d' ah i re nx c st st' b ho eT ih =>
  intro hP nh hk hv o4 s0 eB kB lg kU kind k bO
  subst eB
  have ji:=hP.empty
  obtain⟨⟨_,_,_,v4,_,_,_⟩,fJ⟩:=bJ hv
  have D9:=hP.o0
  have ga:=hP.s1
  obtain⟨w,e,l',hp,hc⟩:=ih hP nh hk fJ 0 []
  exact⟨w,e,l',hp,LA ho kB lg kU ji v4 D9 (by omega) hc⟩
 |@uB o d ah i nx c st =>
  intro hP nh hk hv e0 l0
  exact⟨_,_,_,.no hP e0 l0,.done⟩
 |@GJ o d d' ah i kid l nx c st st' eT ih =>
  intro hP nh hk hv e0 l0
  have RL:jl t F nc ah i c st (aO l o):=by
   unfold aO;split
   ·exact hP
   ·exact hP.up nh
  obtain⟨w,e,l',hp,hc⟩:=ih RL ⟨fun _=>hv kid (by simp),fun h=>by omega,fun h=>by omega,fun h=>by omega,fun h=>by omega,hk⟩
  exact⟨w,e,l',hp,.next (by have:=hP.want;omega) hP.empty hc (.stop hp.halt)⟩
 |@AE o d d' d1 ah i kid l nx c st s2 st' b eT pH ih gz =>
  intro hP nh hk hv e0 l0
  have RL:jl t F nc ah i c st (aO l o):=by
   unfold aO;split
   ·exact hP
   ·exact hP.up nh
  obtain⟨w,e,l',hp,hc⟩:=ih RL ⟨fun _=>hv kid (by simp),fun h=>by omega,fun h=>by omega,fun h=>by omega,fun h=>by omega,hk⟩
  obtain⟨g1,g2,g3,g5,g4⟩:=hp.go
  obtain⟨w2,e2,l2,EX,Hh⟩:=gz (hP.on g2 g1 g3 g4) (by omega) (hk.mono (Vr _) g1) (fun k hk=>hv k (by simp [hk])) e l'
  rw[← g5]at Hh
  exact⟨w2,e2,l2,EX.dZ (Vr _) g1,.next (by have:=hP.want;omega) hP.empty hc Hh⟩
 |@cap o d d' ah i re kid l nx c st st' b ho bH eT ih =>
  intro hP nh hk hv o4 s0 eB kB lg kU kind k bO
  subst eB
  have ji:=hP.empty
  obtain⟨_,fJ⟩:=bJ hv
  obtain⟨w,e,l',hp,hc⟩:=ih hP ⟨fun _=>fJ kid (by rw[bH];simp),fun h=>by omega,fun h=>by omega,fun h=>by omega,fun h=>by omega,fun _=>hv,fun h=>by omega,fun h=>by omega,fun h=>by omega,fun _=>⟨ho,hP.i0,Vr _⟩,hk⟩
  exact⟨w,e,l',hp,Lx ho kB lg kU ji bH hc⟩
 |@qX o d ah i re nx c st ho hx =>
  intro hP nh hk hv o4 s0 eB kB lg kU kind k bO
  subst eB
  have ji:=hP.empty
  obtain⟨w1,w2,w3,hg⟩:=zA MP hP hv (.inr (.inl ho))
  exact⟨_,_,_,.no hP 0 [],Dw ho kB lg kU ji ht hP.i0 hP.i1 w1 w2 w3 hg hx⟩
 |@qt o d ah i re nx c st ho hx bW h2 hl =>
  intro hP nh hk hv o4 s0 eB kB lg kU kind k bO
  subst eB
  have ji:=hP.empty
  obtain⟨w1,w2,w3,hg⟩:=zA MP hP hv (.inr (.inl ho))
  exact⟨_,_,_,.no hP 0 [],Cy ho kB lg kU ji ht hP.i0 hP.i1 w1 w2 w3 hg hx bW h2 hl⟩
 |@ud o d d' ah i re nx c st st' b ho hx bW h2 hl hs eT ih =>
  intro hP nh hk hv o4 s0 eB kB lg kU kind k bO
  subst eB
  have ji:=hP.empty
  obtain⟨w1,w2,w3,hg⟩:=zA MP hP hv (.inr (.inl ho))
  have hi0:=hP.i0
  obtain⟨w,e,l',hp,hc⟩:=ih (hP.at (by omega) (by omega) hP.ai hP.cl) (hk.mono (by omega) (Vr _))
  exact⟨w,e,l',hp.dZ (by omega) (Vr _),Ei ho kB lg kU ji ht hP.i0 hP.i1 w1 w2 w3 hg hx bW h2 hl hs hc⟩
 |@Ae o d ah i re nx c st ho hx bW h2 hl hs =>
  intro hP nh hk hv o4 s0 eB kB lg kU kind k bO
  subst eB
  have ji:=hP.empty
  obtain⟨w1,w2,w3,hg⟩:=zA MP hP hv (.inr (.inl ho))
  exact⟨_,_,_,.no hP 0 [],Hr ho kB lg kU ji ht hP.i0 hP.i1 w1 w2 w3 hg hx bW h2 hl hs⟩
 |@ng o d d' ah i re kid l nx c st x b ho bH eT hx ih =>
  intro hP nh hk hv o4 s0 eB kB lg kU kind k bO
  subst eB
  have ji:=hP.empty
  obtain⟨_,fJ⟩:=bJ hv
  obtain⟨wa,ea,la,vK,hs,hr⟩:=iS hP hP.i0 hP.i1 (h:=.mk 0 kid 0 0 .nil) ⟨fun _=>fJ kid (by rw[bH];simp),fun h=>by omega,fun h=>by omega,fun h=>by omega,fun h=>by omega,trivial⟩ ih
  have gR:=sw bH ho vK
  exact⟨_,_,_,⟨hs,.inr (.inr ⟨rfl,hx⟩)⟩,Fb ho kB lg kU ji gR hx⟩
 |@qa o d d' ah i re kid l nx c st x b ho bH eT hx he hn ih =>
  intro hP nh hk hv o4 s0 eB kB lg kU kind k bO
  subst eB
  have ji:=hP.empty
  obtain⟨_,fJ⟩:=bJ hv
  obtain⟨wa,ea,la,vK,hs,hr⟩:=iS hP hP.i0 hP.i1 (h:=.mk 0 kid 0 0 .nil) ⟨fun _=>fJ kid (by rw[bH];simp),fun h=>by omega,fun h=>by omega,fun h=>by omega,fun h=>by omega,trivial⟩ ih
  have gR:=sw bH ho vK
  obtain⟨hF,hr⟩:=hr hx
  rcases hr with ⟨rfl,_⟩|⟨_,h,_⟩
  case inr=>rw[he]at h;cases h
  exact⟨_,_,_,⟨hs,.inl ⟨rfl,hx,hF,rfl,hP.want⟩⟩,uZ ho kB lg kU ji gR hx (by rw[hn];rfl)⟩
 |@jN o d d' d1 ah i re kid l nx c st x st' b b' ho bH eT hx he hn pH ih gz =>
  intro hP nh hk hv o4 s0 eB kB lg kU kind k bO
  subst eB
  have ji:=hP.empty
  obtain⟨_,fJ⟩:=bJ hv
  obtain⟨wa,ea,la,vK,hs,hr⟩:=iS hP hP.i0 hP.i1 (h:=.mk 0 kid 0 0 .nil) ⟨fun _=>fJ kid (by rw[bH];simp),fun h=>by omega,fun h=>by omega,fun h=>by omega,fun h=>by omega,trivial⟩ ih
  have gR:=sw bH ho vK
  obtain⟨hF,hr⟩:=hr hx
  rcases hr with ⟨rfl,_⟩|⟨_,h,_⟩
  case inr=>rw[he]at h;cases h
  obtain⟨w,e,l',hp,hc⟩:=gz (hP.ib hx hs hF hP.i0 hP.i1 hP.ai hP.cl) (hk.mono (Vr _) hs)
  exact⟨w,e,l',hp.dZ (Vr _) hs,ED ho kB lg kU ji gR hx hn rfl hc⟩
 |@nt o d d' d1 ah i e re kid l nx c d2 le ld st x st' b b' ho bH eT hx he mc hn pH ih gz =>
  intro hP nh hk hv o4 s0 eB kB lg kU kind k bO
  subst eB
  have ji:=hP.empty
  obtain⟨_,fJ⟩:=bJ hv
  obtain⟨wa,ea,la,vK,hs,hr⟩:=iS hP hP.i0 hP.i1 (h:=.mk 0 kid 0 0 .nil) ⟨fun _=>fJ kid (by rw[bH];simp),fun h=>by omega,fun h=>by omega,fun h=>by omega,fun h=>by omega,trivial⟩ ih
  have gR:=sw bH ho vK
  obtain⟨hF,hr⟩:=hr hx
  rcases hr with ⟨_,h⟩|⟨rfl,h,h2,l1,l2,l3,l4⟩
  ·rw[he]at h;cases h
  rw[he]at h;rw[mc]at h2
  cases h;cases h2
  obtain⟨w,e,l',hp,hc⟩:=gz (hP.ib hx hs hF hP.i0 hP.i1 l3 l4) (hk.mono (Vr _) hs)
  exact⟨w,e,l',hp.dZ (Vr _) hs,ET ho kB lg kU ji gR hx hn rfl hc⟩
 |@iZ o d d' ah i e re kid l nx c d2 le ld st x b ho bH eT hx he mc hn ih =>
  intro hP nh hk hv o4 s0 eB kB lg kU kind k bO
  subst eB
  have ji:=hP.empty
  obtain⟨_,fJ⟩:=bJ hv
  obtain⟨wa,ea,la,vK,hs,hr⟩:=iS hP hP.i0 hP.i1 (h:=.mk 0 kid 0 0 .nil) ⟨fun _=>fJ kid (by rw[bH];simp),fun h=>by omega,fun h=>by omega,fun h=>by omega,fun h=>by omega,trivial⟩ ih
  have gR:=sw bH ho vK
  obtain⟨hF,hr⟩:=hr hx
  rcases hr with ⟨_,h⟩|⟨rfl,h,h2,l1,l2,l3,l4⟩
  ·rw[he]at h;cases h
  rw[he]at h;rw[mc]at h2
  cases h;cases h2
  exact⟨_,_,_,⟨hs,.inl ⟨rfl,hx,hF,rfl,hP.want⟩⟩,uZ ho kB lg kU ji gR hx (by rw[hn];rfl)⟩
 |@behind o d d' ah i re kid l nx c st st' b ho bH he eT ih =>
  intro hP nh hk hv o4 s0 eB kB lg kU kind k bO
  subst eB
  have ji:=hP.empty
  obtain⟨_,fJ⟩:=bJ hv
  have hi0:=hP.i0
  have eK:=hP.i1
  obtain⟨s2,d2,wl,el,ll,R7,hs,oK,nn⟩:=ih hP nh hk (fJ kid (by rw[bH];simp)) (by omega)
  have SI:fI ah s2=fI ah (s0.step F):=by unfold fI;rw[oK]
  have gR:=L7 bH hi0 (by omega) (by omega) R7
  rcases nn with ⟨hx,rfl,rfl,rfl⟩|⟨hx,hF,nn⟩
  ·exact⟨_,_,_,⟨hs,.inr (.inr ⟨rfl,hx⟩)⟩,EM ho kB lg kU ji gR hx⟩
  rcases nn with ⟨hw,rfl,rfl,rfl⟩|⟨hn,hw,cY⟩|⟨hn,hw,cY⟩
  ·exact⟨_,_,_,⟨hs,.inl ⟨rfl,hx,hF,SI.symm,hP.want⟩⟩,Ds ho kB lg kU ji gR hx hw⟩
  ·obtain⟨w,e,l',hp,hc⟩:=cY
   rw[SI]at hc
   exact⟨w,e,l',hp.dZ (Vr _) hs,Et ho kB lg kU ji gR hx hn hw hc⟩
  ·obtain⟨w,e,l',hp,hc⟩:=cY
   rw[SI]at hc
   exact⟨w,e,l',hp.dZ (Vr _) hs,Ed ho kB lg kU ji gR hx hn hw hc⟩
 |@Hv o d ah i re kid nx c st hn =>
  intro hP nh hk sJ hj
  exact⟨st,d,1,0,[],.none st d,Vr _,rfl,.inr ⟨hP.empty,hP.s1,.inl ⟨by rw[hn];rfl,rfl,rfl,rfl⟩⟩⟩
 |@qm o d d' ah i re kid nx c st st' b hn eT ih =>
  intro hP nh hk sJ hj
  exact⟨st,d,1,0,[],.none st d,Vr _,rfl,.inr ⟨hP.empty,hP.s1,.inr (.inl ⟨hn,rfl,ih hP hk⟩)⟩⟩
 |@zx o d d' ah i j re kid nx c st x b eT hx ih =>
  intro hP nh hk sJ hj
  have eK:=hP.i1
  obtain⟨wa,ea,la,vK,hs,hr⟩:=iS hP (q:=(j:Int)) (by omega) (by omega) (h:=.mk 0 kid 0 0 (lT i)) ⟨fun _=>sJ,fun h=>by omega,fun h=>by omega,fun h=>by omega,fun h=>by omega,fun h=>absurd rfl h,fun h=>by omega,fun h=>by omega,fun h=>by omega,fun h=>by omega,trivial⟩ ih
  exact⟨_,_,_,_,_,.QP hP.empty vK (.inr hx),hs,rfl,.inl ⟨hx,rfl,rfl,rfl⟩⟩
 |@zF o d d' d1 ah i e j re kid nx c d2 le ld st x st' b b' eT hx he mc hn pH ih gz =>
  intro hP nh hk sJ hj
  have eK:=hP.i1
  obtain⟨wa,ea,la,vK,hs,hr⟩:=iS hP (q:=(j:Int)) (by omega) (by omega) (h:=.mk 0 kid 0 0 (lT i)) ⟨fun _=>sJ,fun h=>by omega,fun h=>by omega,fun h=>by omega,fun h=>by omega,fun h=>absurd rfl h,fun h=>by omega,fun h=>by omega,fun h=>by omega,fun h=>by omega,trivial⟩ ih
  obtain⟨hF,hr⟩:=hr hx
  rcases hr with ⟨_,h⟩|⟨rfl,h,h2,l1,l2,l3,l4⟩
  ·rw[he]at h;cases h
  rw[he]at h;rw[mc]at h2
  cases h;cases h2
  exact⟨_,_,_,_,_,.QP hP.empty vK (.inl (Vr _)),hs,rfl,.inr ⟨hx,hF,.inr (.inr ⟨hn,rfl,gz (hP.ib hx hs hF hP.i0 hP.i1 l3 l4) (hk.mono (Vr _) hs)⟩)⟩⟩
 |@nk o d d' ah i e j re kid nx c d2 le ld st x b eT hx he mc hn ih =>
  intro hP nh hk sJ hj
  have eK:=hP.i1
  obtain⟨wa,ea,la,vK,hs,hr⟩:=iS hP (q:=(j:Int)) (by omega) (by omega) (h:=.mk 0 kid 0 0 (lT i)) ⟨fun _=>sJ,fun h=>by omega,fun h=>by omega,fun h=>by omega,fun h=>by omega,fun h=>absurd rfl h,fun h=>by omega,fun h=>by omega,fun h=>by omega,fun h=>by omega,trivial⟩ ih
  obtain⟨hF,hr⟩:=hr hx
  rcases hr with ⟨_,h⟩|⟨rfl,h,h2,l1,l2,l3,l4⟩
  ·rw[he]at h;cases h
  rw[he]at h;rw[mc]at h2
  cases h;cases h2
  exact⟨_,_,_,_,_,.QP hP.empty vK (.inl (Vr _)),hs,rfl,.inr ⟨hx,hF,.inl ⟨by rw[hn];rfl,rfl,rfl,rfl⟩⟩⟩
 |@uP o d d' d1 ah i j re kid nx c st x st' b b' eT hx he pH ih gz =>
  intro hP nh hk sJ hj
  have eK:=hP.i1
  obtain⟨wa,ea,la,vK,hs,hr⟩:=iS hP (q:=(j:Int)) (by omega) (by omega) (h:=.mk 0 kid 0 0 (lT i)) ⟨fun _=>sJ,fun h=>by omega,fun h=>by omega,fun h=>by omega,fun h=>by omega,fun h=>absurd rfl h,fun h=>by omega,fun h=>by omega,fun h=>by omega,fun h=>by omega,trivial⟩ ih
  obtain⟨hF,hr⟩:=hr hx
  rcases hr with ⟨rfl,_⟩|⟨_,h,_⟩
  case inr=>rw[he]at h;cases h
  obtain⟨s2,d2,wl,el,ll,R7,Nk,oK,nn⟩:=gz (hP.ib hx hs hF hP.i0 hP.i1 hP.ai hP.cl) (by show o+1≤x.steps;omega) (hk.mono (Vr _) hs) sJ (by omega)
  exact⟨s2,d2,wl,el,ll,.Qh hP.empty vK (by omega) hx R7,Int.le_trans hs Nk,oK,nn⟩
 |@pZ o d d' ah i re kid l nx c st x b ho bH eT hx ih =>
  intro hP nh hk hv o4 s0 eB kB lg kU kind k bO
  subst eB
  have ji:=hP.empty
  obtain⟨_,fJ⟩:=bJ hv
  obtain⟨wa,ea,la,vK,hs,hr⟩:=iS hP hP.i0 hP.i1 (h:=.mk 0 kid 0 0 .nil) ⟨fun _=>fJ kid (by rw[bH];simp),fun h=>by omega,fun h=>by omega,fun h=>by omega,fun h=>by omega,trivial⟩ ih
  refine⟨fI ah (s0.step F),0,[],⟨hs,.inr (.inr ⟨rfl,hx⟩)⟩,?_⟩
  by_cases hw:wa>0
  ·exact zJ ho kB lg kU ji bH vK (decide_eq_true hw)
  ·exact FJ ho kB lg kU ji bH vK hx (decide_eq_false hw)
 |@uO o d d' ah i re kid l nx c st x b ho bH eT hx he ih =>
  intro hP nh hk hv o4 s0 eB kB lg kU kind k bO
  subst eB
  have ji:=hP.empty
  obtain⟨_,fJ⟩:=bJ hv
  obtain⟨wa,ea,la,vK,hs,hr⟩:=iS hP hP.i0 hP.i1 (h:=.mk 0 kid 0 0 .nil) ⟨fun _=>fJ kid (by rw[bH];simp),fun h=>by omega,fun h=>by omega,fun h=>by omega,fun h=>by omega,trivial⟩ ih
  obtain⟨hF,hr⟩:=hr hx
  rcases hr with ⟨rfl,_⟩|⟨_,h,_⟩
  case inr=>rw[he]at h;cases h
  exact⟨_,_,_,⟨hs,.inl ⟨rfl,hx,hF,rfl,hP.want⟩⟩,zJ ho kB lg kU ji bH vK rfl⟩
 |@qQ o d d' d1 ah i e re kid l nx c d0 le ld st x st' b b' ho bH eT hx he mc pH ih gz =>
  intro hP nh hk hv o4 s0 eB kB lg kU kind k bO
  subst eB
  have ji:=hP.empty
  obtain⟨_,fJ⟩:=bJ hv
  obtain⟨wa,ea,la,vK,hs,hr⟩:=iS hP hP.i0 hP.i1 (h:=.mk 0 kid 0 0 .nil) ⟨fun _=>fJ kid (by rw[bH];simp),fun h=>by omega,fun h=>by omega,fun h=>by omega,fun h=>by omega,trivial⟩ ih
  obtain⟨hF,hr⟩:=hr hx
  rcases hr with ⟨_,h⟩|⟨rfl,h,h2,l1,l2,l3,l4⟩
  ·rw[he]at h;cases h
  rw[he]at h;rw[mc]at h2
  cases h;cases h2
  obtain⟨w,e2,l',hp,hc⟩:=gz (hP.ib hx hs hF (by have:=hP.i0;omega) l2 l3 l4) (hk.mono l1 hs)
  exact⟨w,e2,l',hp.dZ l1 hs,HQ ho kB lg kU ji bH vK hx rfl hc⟩
 |@cond o d d' ah i re yes no l nx c st st' b ho bH eT ih =>
  intro hP nh hk hv o4 s0 eB kB lg kU kind k bO
  subst eB
  have ji:=hP.empty
  obtain⟨_,fJ⟩:=bJ hv
  obtain⟨w1,w2,w3,hg⟩:=zA MP hP hv (.inr (.inr ho))
  by_cases hx:0≤(bo c re.n).1
  ·rw[if_pos hx]at ih
   obtain⟨w,e,l',hp,hc⟩:=ih hP ⟨fun _=>fJ yes (by rw[bH];simp),fun h=>by omega,fun h=>by omega,fun h=>by omega,fun h=>by omega,hk⟩
   exact⟨w,e,l',hp,H8 ho kB lg kU ji bH w1 w2 w3 hg hx hc⟩
  ·rw[if_neg hx]at ih
   obtain⟨w,e,l',hp,hc⟩:=ih hP ⟨fun _=>fJ no (by rw[bH];simp),fun h=>by omega,fun h=>by omega,fun h=>by omega,fun h=>by omega,hk⟩
   exact⟨w,e,l',hp,G2 ho kB lg kU ji bH w1 w2 w3 hg hx hc⟩
 |@lB o d d' ah i re nx c st st' b ho hh eT ih =>
  intro hP nh hk hv o4 s0 eB kB lg kU kind k bO
  subst eB
  have ji:=hP.empty
  obtain⟨w,e,l',hp,hc⟩:=ih hP hk
  exact⟨w,e,l',hp,Ih ho kB lg kU ji ht hP.i0 hP.i1 hh hc⟩
 |@ny o d ah i re nx c st ho hh =>
  intro hP nh hk hv o4 s0 eB kB lg kU kind k bO
  subst eB
  have ji:=hP.empty
  exact⟨_,_,_,.no hP 0 [],HZ ho kB lg kU ji ht hP.i0 hP.i1 hh⟩
end walk
end Go.Proofs.Ytllagoeijcjpiaa
