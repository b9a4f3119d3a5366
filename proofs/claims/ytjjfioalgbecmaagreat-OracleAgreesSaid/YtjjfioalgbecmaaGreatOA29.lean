/- A part of the proof. -/
import Derived.ProofKit
import Derived.OpenShut
import Derived.Test.YtjjfioalgbecmaaGreatOA28
set_option linter.unusedSimpArgs false
set_option linter.unusedVariables false
set_option maxRecDepth 100000
set_option maxHeartbeats 80000000
namespace Go.Proofs.YtjjfioalgbecmaaGreat
open Go.VL
variable{aJ:Re}{Bs:List (List Bool)}{fin:Nat->Bool}{kk:Nat}{t:List Int}{b:Bool}{p:fU}
theorem nC {t:List Int}{i:Int} (h0:0<=i):((i.toNat:Nat):Int)=i:=Int.toNat_of_nonneg h0
theorem tk (hf:aJ.every Sk=true) (hb:I9 t Bs aJ (kk+1)){nx:Goal} (hn:Cq t Bs (Iv aJ kk) fin nx (0+aJ.dp)):Cq t Bs (Iv aJ kk) fin (.mk 0 aJ 0 0 nx) 0 :=
 .tree rfl (nD aJ kk).1 hf hb .refl hn
theorem sM (hf:aJ.every Sk=true) (h:aJ.every (λr=>decide (r.op≠5))=true):LQ [] aJ:=by
 refine⟨hf,[],?_,λx hx=>by cases hx⟩;have:∀re:Re,re.every (λr=>decide (r.op≠5))=true->∀a,re.nest a=false:=λre=>by refine Re.ind (Q:=λre=>re.every (λr=>decide (r.op≠5))=true->∀a,re.nest a=false) (λre ih h a=>?_) re;obtain⟨h1,h2⟩:=(Re.az re).1 h;have h1:re.op≠5:=of_decide_eq_true h1;rw[Re.z7,ap (λh=>h1 h.1),List.any_eq_false];intro k hk;rw[ih k hk (h2 k hk)];simp
 exact this aJ h []
theorem tN{i:Nat}{c:aC}{x:bE} (iL:aJ.every (λr=>decide (r.op≠5))=true) (h:dv t Bs (Iv aJ kk) fin 0 i (fH c) x b) :
  (x.ends=[]/\∃n,dt t Bs (Iv aJ kk) fin 0 i (fH c) n none)\/(∃e d le ld,x.ends=e::le/\x.aj=d::ld/\d=c/\∃n v,dt t Bs (Iv aJ kk) fin 0 i (fH c) n (some v)):=by
 obtain⟨n,r,w,h|⟨_,e,d,hr,h1,h2⟩⟩:=h
 ·obtain⟨_,rfl,_,h2,_⟩:=h;exact .inl ⟨h2,n,w⟩
 ·subst hr;have hk:=w.bp (N0 iL kk) _ rfl;exact .inr ⟨_,d,_,_,h1,h2,Iu hk,n,_,w⟩
theorem eW.afm{F ai:Int}{task:ETask}{st st':bE} (h:eW t F ai task st b st'):ai=1->st.empty=false->st.ends=[]->st.aj=[]->(b=true->st'.empty=false)->afB t Bs st' b task:=by
 induction h with
 |@found ai i c st h0 h1 hl tc =>
  intro hm he hE hD hb C fin pc q hj hc hp hG;cases hc with
  |nil h hf =>
   refine dv.jm ⟨1,_,.done h (hf _),.inr ⟨?_,i.toNat,c,rfl,?_,?_⟩⟩ hj
   ·rw[hm,hE];rfl
   ·show st.ends++[i]=_;rw[hE,nC (t:=t) h0];rfl
   ·show st.aj++[c]=_;rw[hD];rfl
 |tree sY DH Ep hk4 h0 h1 h ih =>
  intro hm he hE hD hb C fin pc q hj hc hp hG;rw[dB Ep];obtain⟨g1,g2⟩:=(jt Ep hk4).1 hG;cases hc with
  |here=>exact absurd rfl hk4
  |tree hk hs hf lH VI hn =>
   unfold PG at hp;rw[be hk,al6]at hp;exact(ih hm he hE hD hb _ _ _ _ _ h0 h1 hs lH VI hn hp g1 g2).jm hj
  |save hk=>exact absurd hk Ep
  |rep hk=>exact absurd hk sY
  |more hk=>exact absurd hk DH
 |YW h0 h1 h ih =>
  intro hm he hE hD hb C fin pc q hj hc hp hG;rw[dB aF];obtain⟨g1,g2⟩:=(jt aF aF).1 hG;cases hc with
  |tree hk=>exact absurd hk aF
  |save hk=>exact absurd hk aF
  |rep hk hR lH VI hn =>
   unfold PG at hp;rw[ap aF,ap aF]at hp;exact(ih hm he hE hD hb _ _ _ _ _ _ hR lH VI hn (hp.mono (λ_=>rfl)) g1 g2).jm hj
  |more hk=>exact absurd hk aF
 |stay h0 h1 hk hi =>
  intro hm he hE hD hb C fin pc q hj hc hp hG;unfold PG at hp;rw[ap aF,be rfl,be rfl]at hp;omega
 |iter h0 h1 hk jX sY h ih =>
  intro hm he hE hD hb C fin pc q hj hc hp hG;unfold PG at hp;rw[ap aF,be rfl,be rfl]at hp;obtain⟨g1,g2⟩:=(jt aF aF).1 hG;cases hc with
  |tree hk=>exact absurd hk aF
  |save hk=>exact absurd hk aF
  |rep hk=>exact absurd hk aF
  |more hk hR lH VI hn =>
   have h2:=ih hm he hE hD hb _ _ _ _ hj (.rep rfl hR lH VI hn) (by
    unfold PG;rw[ap aF,ap aF];exact hp.2) ((jt aF aF).2 ⟨g1,g2⟩)
   rw[dB aF]at h2 ⊢;exact h2
 |@save ai k f i re nx c st st' b h0 h1 h ih =>
  intro hm he hE hD hb C fin pc q hj hc hp hG;unfold PG at hp;rw[ap aF,ap aF]at hp;obtain⟨⟨g0,g1⟩,g2⟩:=P6.1 hG;cases hc with
  |tree hk=>exact absurd hk aF
  |save hk ho hx VI hn =>
   have h2:=ih hm he hE hD hb _ _ _ _ VI hn hp g2;rw[ya g0 g2 g1]at h2;refine dv.jm (dv.yM ho ?_) hj;rw[hx,nC (t:=t) h0];exact h2
  |rep hk=>exact absurd hk aF
  |more hk=>exact absurd hk aF
 |@here ai k f i re nx c st st' b h0 h1 hi h ih =>
  intro hm he hE hD hb C fin pc q hj hc hp hG;rw[dB aF];cases hc with
  |here ho hf =>
   cases h with
   |found a0 a1 al al1 =>
    refine dv.jm ⟨1,_,.done ho (by rw[hf];exact bi (by rw[nC (t:=t) h0];exact hi)),.inr ⟨?_,i.toNat,c,rfl,?_,?_⟩⟩ hj
    ·rw[hm,hE];rfl
    ·show st.ends++[i]=_;rw[hE,nC (t:=t) h0];rfl
    ·show st.aj++[c]=_;rw[hD];rfl
  |tree hk=>exact absurd hk aF
  |save hk=>exact absurd hk aF
  |rep hk=>exact absurd hk aF
  |more hk=>exact absurd hk aF
 |@gone ai k f i re nx c st h0 h1 hi =>
  intro hm he hE hD hb C fin pc q hj hc hp hG;rw[dB aF];cases hc with
  |here ho hf =>
   exact dv.jm ⟨1,none,.uE ho (by rw[hf];exact ce (by rw[nC (t:=t) h0];exact hi)),.inl ⟨rfl,rfl,he,hE,hD⟩⟩ hj
  |tree hk=>exact absurd hk aF
  |save hk=>exact absurd hk aF
  |rep hk=>exact absurd hk aF
  |more hk=>exact absurd hk aF
 |OZ lE=>intro _ _ _ _ _ C fin pc b0 q kk hR;exact absurd lE ((rG hR.hf).1.rep hR.ho).1
 |UF lE=>intro _ _ _ _ _ C fin pc b0 q kk hR;exact absurd lE ((rG hR.hf).1.rep hR.ho).1
 |Qo lE=>intro _ _ _ _ _ C fin pc b0 q kk hR;exact absurd lE ((rG hR.hf).1.rep hR.ho).1
 |Ul lE hs oT=>intro _ _ _ _ hb;rw[hb rfl]at oT;cases oT
 |@Uj ai k i re aJ l nx c st st' b lE hs oT dw hk h ih =>
  intro hm he hE hD hb C fin pc b0 q kk hR lH hj hc hp hC hG;obtain⟨x,hx⟩:=(rG hR.hf).1.one (.inl hR.ho);have k1:re.kids=[aJ]:=by rw[dw]at hx ⊢;simp at hx ⊢;exact hx.2
  obtain⟨r1,r2⟩:=hR.less k1 hk;obtain⟨o1,o2⟩:=pY (i:=i) k1 hR.hf hR.ho lH r1 .refl r2 hj hc (hp.mono (λe=>by cases e));obtain⟨w1,w2⟩:=Af (k:=k) (i:=i) k1 hR.ho hC hG;have h2:=ih hm oT hE hD hb _ _ _ _ .refl o1 o2 w1;rw[w2]at h2;exact h2
 |@Iz ai k i re aJ l nx c st st' b lE hs oT dw hk hx h ih =>
  intro hm he hE hD hb C fin pc b0 q kk hR lH hj hc hp hC hG;obtain⟨x,yb⟩:=(rG hR.hf).1.one (.inl hR.ho);have k1:re.kids=[aJ]:=by rw[dw]at yb ⊢;simp at yb ⊢;exact yb.2
  have hpc:=hR.last k1 hk hx;rw[<- hpc]at hj;exact ih hm oT hE hD hb _ _ _ _ hj hc (hp.mono (λ_=>bi ae)) hG
 |@MZ ai k i re aJ l nx c st st' lE hs oT dw hk hx h ih =>
  intro hm he hE hD hb C fin pc b0 q kk hR lH hj hc hp hC hG;obtain⟨x,yb⟩:=(rG hR.hf).1.one (.inl hR.ho);have k1:re.kids=[aJ]:=by rw[dw]at yb ⊢;simp at yb ⊢;exact yb.2
  have hp:=hp.mono (s':=true) (λ_=>bi ae);have hX:=ih hm oT hE hD hb _ _ _ _ hj hc hp hG;by_cases Bt:re.mx=-1
  ·obtain⟨i1,_⟩:=hR.loop k1 hk Bt;exact dv.MZ i1 lE hX
  ·obtain⟨i1,_⟩:=hR.count k1 hk Bt ae;exact dv.MZ i1 lE hX
 |@KS ai k i re aJ l nx c st s2 st' b lE hs oT dw hk hx h h2 ih mN =>
  intro hm he hE hD hb C fin pc b0 q kk hR lH hj hc hp hC hG;obtain⟨x,yb⟩:=(rG hR.hf).1.one (.inl hR.ho);have k1:re.kids=[aJ]:=by rw[dw]at yb ⊢;simp at yb ⊢;exact yb.2
  have hp:=hp.mono (s':=true) (λ_=>bi ae);have hX:=ih hm oT hE hD (λe=>by cases e) _ _ _ _ hj hc hp hG;obtain⟨f1,f2,f3⟩:=hX.fresh;obtain⟨w1,w2⟩:=Af (k:=k) (i:=i) k1 hR.ho hC hG;by_cases Bt:re.mx=-1
  ·obtain⟨i1,s1,i2,r1⟩:=hR.loop k1 hk Bt;obtain⟨o1,o2⟩:=pY (i:=i) k1 hR.hf hR.ho lH s1 (.step (by rw[i2];rfl) (by rw[i2];exact .refl)) r1 hj hc (hp.mono (λe=>by cases e));exact ZcP
  ·obtain⟨i1,s1,r1⟩:=hR.count k1 hk Bt ae;obtain⟨o1,o2⟩:=pY (i:=i) k1 hR.hf hR.ho lH s1 .refl r1 hj hc (hp.mono (λe=>by cases e));exact ZcP
 |@X7 ai k i re aJ l nx c st st' lE IB hs oT dw hk hx h ih =>
  intro hm he hE hD hb C fin pc b0 q kk hR lH hj hc hp hC hG;obtain⟨x,yb⟩:=(rG hR.hf).1.one (.inl hR.ho);have k1:re.kids=[aJ]:=by rw[dw]at yb ⊢;simp at yb ⊢;exact yb.2
  have hp:=hp.mono (s':=true) (λ_=>bi ae);obtain⟨w1,w2⟩:=Af (k:=k) (i:=i) k1 hR.ho hC hG;by_cases Bt:re.mx=-1
  ·obtain⟨i1,s1,i2,r1⟩:=hR.loop k1 hk Bt;obtain⟨o1,o2⟩:=pY (i:=i) k1 hR.hf hR.ho lH s1 (.step (by rw[i2];rfl) (by rw[i2];exact .refl)) r1 hj hc (hp.mono (λe=>by cases e));exact ZcS
  ·obtain⟨i1,s1,r1⟩:=hR.count k1 hk Bt ae;obtain⟨o1,o2⟩:=pY (i:=i) k1 hR.hf hR.ho lH s1 .refl r1 hj hc (hp.mono (λe=>by cases e));exact ZcS
 |@YS ai k i re aJ l nx c st s2 st' b lE IB hs oT dw hk hx h h2 ih mN =>
  intro hm he hE hD hb C fin pc b0 q kk hR lH hj hc hp hC hG;obtain⟨x,yb⟩:=(rG hR.hf).1.one (.inl hR.ho);have k1:re.kids=[aJ]:=by rw[dw]at yb ⊢;simp at yb ⊢;exact yb.2
  have hp:=hp.mono (s':=true) (λ_=>bi ae);obtain⟨w1,w2⟩:=Af (k:=k) (i:=i) k1 hR.ho hC hG;by_cases Bt:re.mx=-1
  ·obtain⟨i1,s1,i2,r1⟩:=hR.loop k1 hk Bt;obtain⟨o1,o2⟩:=pY (i:=i) k1 hR.hf hR.ho lH s1 (.step (by rw[i2];rfl) (by rw[i2];exact .refl)) r1 hj hc (hp.mono (λe=>by cases e));exact ZbO
  ·obtain⟨i1,s1,r1⟩:=hR.count k1 hk Bt ae;obtain⟨o1,o2⟩:=pY (i:=i) k1 hR.hf hR.ho lH s1 .refl r1 hj hc (hp.mono (λe=>by cases e));exact ZbO
 |@PT ai i re nx c st st' b ho h0 h1 h ih =>
  intro hm he hE hD hb C fin pc q kk a0 a1 hS lH hj hc hp hC hG;have hN:=(rG hC.fr).1;have Sp:=hN.mx0 ho;have hmn:=hN.mn0;refine ih hm he hE hD hb C fin pc pc q kk ⟨hS,hC.fr,ho,alj _,ae,by rw[sI];simp⟩ lH hj hc ?_ hC hG;rw[Re.jr,bm,bm,bm,be ho,(hN.rep ho).2,amo]at hp;exact hp
 |Qi ho hs oT=>intro _ _ _ _ hb;rw[hb rfl]at oT;cases oT
 |node ho hs oT h ih =>
  intro hm he hE hD hb C fin pc q kk a0 a1 hS lH hj hc hp hC hG;exact ih hm oT hE hD hb _ _ _ _ _ ho a0 a1 hS lH hj hc hp hC hG
 |@empty ai i re nx c st st' b ho h ih =>
  intro hm he hE hD hb C fin pc q kk h4 a0 a1 hS lH hj hc hp hC hG;have Aq:=(rG hC.fr).1.ops;simp only[alT,amc,or_false,not_or]at ho;have h0:re.op=0:=ae;have hz:re.dp=0:=by rw[Re.ga,nW,bm,bm,bm,bm,bm]
  rw[hz,al8]at hj;rw[Re.jr,bm,bm,bm,bm,bm]at hp;exact ih hm he hE hD hb _ _ _ _ hj hc hp hG
 |@TS ai i re nx c st st' b ho hi hs h ih =>
  intro hm he hE hD hb C fin pc q kk h4 a0 a1 hS lH hj hc hp hC hG;have hz:re.dp=1:=by rw[Re.ga,nW,be (.inl ho)]
  rw[hz]at hj;rw[Re.lN,be ho]at hS;rw[Re.jr,be ho]at hp;have kK:=hS.cons.1;obtain⟨n,r,w,hw⟩:=ih hm he hE hD hb _ _ _ _ hj hc hp.succ hG;have e1:(i+1).toNat=i.toNat+1:=ae;rw[e1]at w;refine⟨n+1,r,.rd (by rw[kK];rfl) ?_ w,hw⟩;rw[kK];unfold aw.pass s9;simp only;rw[be ho,nC (t:=t) a0,hs,bi hi];rfl
 |@X9 ai i re nx c st ho hn =>
  intro hm he hE hD hb C fin pc q kk h4 a0 a1 hS lH hj hc hp hC hG;rw[Re.lN,be ho]at hS;have kK:=hS.cons.1;refine⟨1,none,.Uc (by rw[kK];rfl) ?_,.inl ⟨rfl,rfl,he,hE,hD⟩⟩;rw[kK];unfold aw.pass s9;simp only;rw[be ho,nC (t:=t) a0,alP];intro hh;rw[alo,decide_eq_true_eq]at hh;exact hn hh
 |@cat ai i re nx c st st' b ho h ih =>
  intro hm he hE hD hb C fin pc q kk h4 a0 a1 hS lH hj hc hp hC hG;obtain⟨_,iw⟩:=rG hC.fr;have hz:re.dp=Re.cC re.kids:=by rw[Re.ga,nW,bm,be ho]
  rw[hz]at hj;rw[Re.lN,bm,bm,be ho]at hS;rw[Re.jr,bm,be ho]at hp;obtain⟨q',b1,b2⟩:=Cq.push hc hS iw (lH.kids ae) hj;obtain⟨w1,_,w3⟩:=LU (l:=re.kids) (λk hk=>hC.aJ hk ae) hG;have h2:=ih hm he hE hD hb _ _ _ _ b1 b2 (PG.push (by rw[al6];exact hp)) w1;rw[w3]at h2;exact h2
 |@alt ai i re nx c st st' b ho h ih =>
  intro hm he hE hD hb C fin pc q kk h4 a0 a1 hS lH hj hc hp hC hG;have h2k:=(rG hC.fr).1.two ho;have hz:re.dp=Re.cC re.kids+2*(re.kids.length-1):=by rw[Re.ga,nW,bm,bm,be ho]
  rw[hz]at hj;rw[Re.lN,bm,bm,bm,be ho]at hS;rw[Re.jr,bm,bm,be (.inl ho)]at hp;exact ih hm he hE hD hb _ _ _ _ _ _ (λe=>by rw[e]at h2k;simp at h2k) hS rfl (lH.kids ae) hj hc hp (λk hk=>hC.aJ hk ae) hG
 |UM=>intro _ _ _ _ _ C fin pc q kk E hl;exact absurd rfl hl
 |@abU ai i aJ l nx c st st' h ih =>
  intro hm he hE hD hb C fin pc q kk E hl hS hEE lH hj hc hp hC hG;rw[Re.pt]at hp;have JQ:PG true (.mk 0 aJ 0 0 nx) i:=by unfold PG;rw[be rfl,al6];exact hp.mono (λe=>by rw[e,alE])
  have Ar:=hC aJ aq;have hgk:He (.mk 0 aJ 0 0 nx):=(jt aF aF).2 ⟨Ar,hG⟩;have er:jz (.mk 0 aJ 0 0 nx) c=jz nx c:=dB aF;cases l with
  |nil =>
   simp only[Re.Ct]at hS;simp only[Re.cC,alg,alf]at hEE;have w:=ih hm he hE hD hb _ _ _ _ .refl (.tree rfl hS Ar.fr lH.cons.1 (by rw[show pc+aJ.dp=E by omega];exact hj) hc) JQ hgk;rw[er]at w;exact w
  |cons k2 l2 =>
   rw[Re.Ct]at hS;obtain⟨i1,s1⟩:=hS.cons;obtain⟨s2',s3⟩:=s1.app;rw[Re.ml]at s3;obtain⟨i2,_⟩:=s3.cons;have hj1:Fw C (pc+1+aJ.dp) q:=.step (by rw[i2];rfl) (by rw[i2];exact hj);have w1:=ih hm he hE hD hb _ _ _ _ .refl (.tree rfl s2' Ar.fr lH.cons.1 hj1 hc) JQ hgk;rw[er]at w1;have e1:(dh ((pc:Int)+1) ((pc:Int)+aJ.dp+2)).x.toNat=pc+1:=by show ((pc:Int)+1).toNat=_;omega
   exact dv.fst (by rw[i1];rfl) (by rw[i1,e1];exact w1)
 |@Gi ai i aJ l nx c st s2 st' b h h2 ih mN =>
  intro hm he hE hD hb C fin pc q kk E hl hS hEE lH hj hc hp hC hG;rw[Re.pt]at hp;have JQ:PG true (.mk 0 aJ 0 0 nx) i:=by unfold PG;rw[be rfl,al6];exact hp.mono (λe=>by rw[e,alE])
  have Ar:=hC aJ aq;have hgk:He (.mk 0 aJ 0 0 nx):=(jt aF aF).2 ⟨Ar,hG⟩;have er:jz (.mk 0 aJ 0 0 nx) c=jz nx c:=dB aF;cases l with
  |nil =>
   simp only[Re.Ct]at hS;simp only[Re.cC,alg,alf]at hEE;have w:=ih hm he hE hD (λe=>by cases e) _ _ _ _ .refl (.tree rfl hS Ar.fr lH.cons.1 (by rw[show pc+aJ.dp=E by omega];exact hj) hc) JQ hgk;rw[er]at w;cases h2;exact w
  |cons k2 l2 =>
   rw[Re.Ct]at hS;obtain⟨i1,s1⟩:=hS.cons;obtain⟨s2',s3⟩:=s1.app;rw[Re.ml]at s3;obtain⟨i2,s4⟩:=s3.cons;have hj1:Fw C (pc+1+aJ.dp) q:=.step (by rw[i2];rfl) (by rw[i2];exact hj);have w1:=ih hm he hE hD (λe=>by cases e) _ _ _ _ .refl (.tree rfl s2' Ar.fr lH.cons.1 hj1 hc) JQ hgk;obtain⟨f1,f2,f3⟩:=w1.fresh;rw[er]at w1;have e1:(dh ((pc:Int)+1) ((pc:Int)+aJ.dp+2)).x.toNat=pc+1:=by show ((pc:Int)+1).toNat=_;omega
   have e2:(dh ((pc:Int)+1) ((pc:Int)+aJ.dp+2)).y.toNat=pc+aJ.dp+2:=by show ((pc:Int)+aJ.dp+2).toNat=_;omega
   have e4:Re.cC (aJ::k2::l2)=aJ.dp+Re.cC (k2::l2):=by rw[Re.cC]
   rw[show pc+1+aJ.dp+1=pc+aJ.dp+2 by omega]at s4;have w2:=mN hm f1 f2 f3 hb _ _ _ _ _ _ aq s4 (by rw[hEE,e4];simp only[alg];omega) lH.cons.2 hj hc (hp.mono (λe=>by rw[e,Bool.or_true])) (λk hk=>hC k (by simp only[alT]at hk ⊢;exact .inr hk)) hG;exact dv.snd (by rw[i1];rfl) (by rw[i1,e1];exact w1) (by rw[i1,e2];exact w2)
 |@cap ai i re aJ l nx c st st' b ho dw h ih =>
  intro hm he hE hD hb C fin pc q kk h4 a0 a1 hS lH hj hc hp hC hG;obtain⟨x,hx⟩:=(rG hC.fr).1.one (.inr (.inl ho));have k1:re.kids=[aJ]:=by rw[dw]at hx ⊢;simp at hx ⊢;exact hx.2
  have gZ:aJ∈re.kids:=by rw[dw];simp
  obtain⟨c1,c2,c3⟩:=hC.cap gZ ho;have hz:re.dp=aJ.dp+2:=by rw[Re.ga,nW,bm,bm,bm,be ho,kE k1]
  rw[hz]at hj;rw[Re.lN,bm,bm,bm,bm,be ho,MM k1]at hS;rw[Re.jr,bm,bm,bm,bm,be (.inl ho),k1]at hp;simp only[Re.qb]at hp;obtain⟨i1,s1⟩:=hS.cons;obtain⟨s2',s3⟩:=s1.app;rw[Re.ml]at s3;have i2:=s3.cons.1;have h2:=ih hm he hE hD hb _ _ _ _ .refl (.tree rfl s2' c1.fr (lH.one ae k1) .refl (.save rfl (by rw[i2];rfl) (by rw[i2];rfl) (by rw[show pc+1+aJ.dp+1=pc+(aJ.dp+2) by omega];exact hj) hc)) (by
   unfold PG;rw[be rfl,al6];unfold PG;rw[ap aF,ap aF];exact hp) ((jt aF aF).2 ⟨by rw[show opens (.mk 3 re 0 i nx)=re.n::opens nx from be rfl];exact c1,P6.2 ⟨⟨c2,c3⟩,hG⟩⟩)
  have er:jz (.mk 0 aJ 0 0 (.mk 3 re 0 i nx)) c=(jz nx c).set (2*re.n-2).toNat i:=by rw[dB aF];exact be rfl
  rw[er]at h2;refine dv.yM (by rw[i1];rfl) ?_;rw[i1,nC (t:=t) a0];exact h2
 |@Kn ai i re aJ l nx c st x b ho dw h hx ih=>intro _ _ _ _ hb;have:x.empty=false:=hb rfl;rw[this]at hx;cases hx
 |@OX ai i re aJ l nx c st x b ho dw h hx OB hn ih =>
  intro hm he hE hD hb C fin pc q kk h4 a0 a1 hS lH hj hc hp hC hG;obtain⟨y,hy⟩:=(rG hC.fr).1.one (.inr (.inr (.inl ho)));have k1:re.kids=[aJ]:=by rw[dw]at hy ⊢;simp at hy ⊢;exact hy.2
  have gZ:aJ∈re.kids:=by rw[dw];simp
  have iL:=(rG hC.fr).1.Z3 (.inl ho) aJ gZ;have FQ:=(rG hC.fr).2 aJ gZ;obtain⟨b1,b2,b3⟩:=lH.look (.inl ho) k1;obtain⟨_,l2,l3⟩:=nD aJ kk;have hw:=ih rfl rfl rfl rfl (λ_=>hx) _ oC 0 0 .refl (tk FQ b3 (.nil l2 (λ_=>rfl))) (by unfold PG;rw[be rfl];trivial) ((jt aF aF).2 ⟨sM FQ iL,trivial⟩);rw[dB aF]at hw;rcases tN iL hw with ⟨_,n,w⟩|⟨e,d,le,ld,e1,_⟩
  ·have hv:=wQ b2 l3 (p:=i.toNat) ae w;have tb:=nV (t:=t) (Bs:=Bs) (i:=i.toNat) (v:=false) k1 b1 (.inl ho) (by rw[be ho];exact hv);exact Zcv
  ·rw[OB]at e1;cases e1
 |@DU ai i re aJ l nx c st x st' b b' ho dw h hx OB hn h2 ih mN =>
  intro hm he hE hD hb C fin pc q kk h4 a0 a1 hS lH hj hc hp hC hG;obtain⟨y,hy⟩:=(rG hC.fr).1.one (.inr (.inr (.inl ho)));have k1:re.kids=[aJ]:=by rw[dw]at hy ⊢;simp at hy ⊢;exact hy.2
  have gZ:aJ∈re.kids:=by rw[dw];simp
  have iL:=(rG hC.fr).1.Z3 (.inl ho) aJ gZ;have FQ:=(rG hC.fr).2 aJ gZ;obtain⟨b1,b2,b3⟩:=lH.look (.inl ho) k1;obtain⟨_,l2,l3⟩:=nD aJ kk;have hw:=ih rfl rfl rfl rfl (λ_=>hx) _ oC 0 0 .refl (tk FQ b3 (.nil l2 (λ_=>rfl))) (by unfold PG;rw[be rfl];trivial) ((jt aF aF).2 ⟨sM FQ iL,trivial⟩);rw[dB aF]at hw;rcases tN iL hw with ⟨_,n,w⟩|⟨e,d,le,ld,e1,_⟩
  ·have hv:=wQ b2 l3 (p:=i.toNat) ae w;have tb:=nV (t:=t) (Bs:=Bs) (i:=i.toNat) (v:=false) k1 b1 (.inl ho) (by rw[be ho];exact hv);exact Zbq
  ·rw[OB]at e1;cases e1
 |@Li ai i e re aJ l nx c d le ld st x st' b b' ho dw h hx OB hxd hn h2 ih mN =>
  intro hm he hE hD hb C fin pc q kk h4 a0 a1 hS lH hj hc hp hC hG;obtain⟨y,hy⟩:=(rG hC.fr).1.one (.inr (.inr (.inl ho)));have k1:re.kids=[aJ]:=by rw[dw]at hy ⊢;simp at hy ⊢;exact hy.2
  have gZ:aJ∈re.kids:=by rw[dw];simp
  have iL:=(rG hC.fr).1.Z3 (.inl ho) aJ gZ;have FQ:=(rG hC.fr).2 aJ gZ;obtain⟨b1,b2,b3⟩:=lH.look (.inl ho) k1;obtain⟨_,l2,l3⟩:=nD aJ kk;have hw:=ih rfl rfl rfl rfl (λ_=>hx) _ oC 0 0 .refl (tk FQ b3 (.nil l2 (λ_=>rfl))) (by unfold PG;rw[be rfl];trivial) ((jt aF aF).2 ⟨sM FQ iL,trivial⟩);rw[dB aF]at hw;rcases tN iL hw with ⟨e1,_⟩|⟨e',d',le',ld',_,e2,e3,n,v,w⟩
  ·rw[OB]at e1;cases e1
  ·have hdc:d=c:=by rw[hxd]at e2;rw[<- e3];exact(List.cons.inj e2).1
   subst hdc;have hv:=wQ b2 l3 (p:=i.toNat) ae w;have tb:=nV (t:=t) (Bs:=Bs) (i:=i.toNat) (v:=true) k1 b1 (.inl ho) (by rw[be ho];exact hv);exact Zbq
 |@BL ai i e re aJ l nx c d le ld st x b ho dw h hx OB hxd hn ih =>
  intro hm he hE hD hb C fin pc q kk h4 a0 a1 hS lH hj hc hp hC hG;obtain⟨y,hy⟩:=(rG hC.fr).1.one (.inr (.inr (.inl ho)));have k1:re.kids=[aJ]:=by rw[dw]at hy ⊢;simp at hy ⊢;exact hy.2
  have gZ:aJ∈re.kids:=by rw[dw];simp
  have iL:=(rG hC.fr).1.Z3 (.inl ho) aJ gZ;have FQ:=(rG hC.fr).2 aJ gZ;obtain⟨b1,b2,b3⟩:=lH.look (.inl ho) k1;obtain⟨_,l2,l3⟩:=nD aJ kk;have hw:=ih rfl rfl rfl rfl (λ_=>hx) _ oC 0 0 .refl (tk FQ b3 (.nil l2 (λ_=>rfl))) (by unfold PG;rw[be rfl];trivial) ((jt aF aF).2 ⟨sM FQ iL,trivial⟩);rw[dB aF]at hw;rcases tN iL hw with ⟨e1,_⟩|⟨e',d',le',ld',_,e2,e3,n,v,w⟩
  ·rw[OB]at e1;cases e1
  ·have hv:=wQ b2 l3 (p:=i.toNat) ae w;have tb:=nV (t:=t) (Bs:=Bs) (i:=i.toNat) (v:=true) k1 b1 (.inl ho) (by rw[be ho];exact hv);exact Zcv
 |@behind ai i re aJ l nx c st st' b ho dw he0 h ih =>
  intro hm he hE hD hb C fin pc q kk h4 a0 a1 hS lH hj hc hp hC hG;obtain⟨y,hy⟩:=(rG hC.fr).1.one (.inr (.inr (.inr ho)));have k1:re.kids=[aJ]:=by rw[dw]at hy ⊢;simp at hy ⊢;exact hy.2
  have hz:re.dp=1:=by rw[Re.ga,nW,rY]
  rw[hz]at hj;rw[Re.lN,bm,rY]at hS;rw[Re.jr,bm,bm,bm,bm,bm]at hp;exact ih hm he hE hD hb C fin pc q kk hS.cons.1 ho k1 lH hj hc hp hC hG a0 a1 (ale _) (λs h1 h2=>ae)
 |@acQ ai i re aJ nx c st hn =>
  intro hm he hE hD hb C fin pc q kk kK ho k1 lH hj hc hp hC hG a0 a1 WJ bR;obtain⟨b1,b2,b3⟩:=lH.look (.inr ho) k1;obtain⟨_,l2,l3⟩:=nD aJ kk;have hv:=Ia b2 l3 (e:=i.toNat) ae (λs hs=>bR s (Nat.zero_le _) hs);have tb:=nV (t:=t) (Bs:=Bs) (i:=i.toNat) (v:=false) k1 b1 (.inr ho) (by rw[bm];exact hv);rw[hn]at tb;exact dv.vu (by rw[kK];rfl) (by rw[kK,tb];rfl) he hE hD
 |@Ph ai i re aJ nx c st st' b hn h ih =>
  intro hm he hE hD hb C fin pc q kk kK ho k1 lH hj hc hp hC hG a0 a1 WJ bR;obtain⟨b1,b2,b3⟩:=lH.look (.inr ho) k1;obtain⟨_,l2,l3⟩:=nD aJ kk;have hv:=Ia b2 l3 (e:=i.toNat) ae (λs hs=>bR s (Nat.zero_le _) hs);have tb:=nV (t:=t) (Bs:=Bs) (i:=i.toNat) (v:=false) k1 b1 (.inr ho) (by rw[bm];exact hv);rw[hn]at tb;exact dv.ask (by rw[kK];rfl) (by rw[kK,tb];rfl) (ih hm he hE hD hb _ _ _ _ hj hc hp hG)
 |@Yr ai i j re aJ nx c st x b h hx ih=>intro _ _ _ _ hb;have:x.empty=false:=hb rfl;rw[this]at hx;cases hx
 |@YC ai i e j re aJ nx c d le ld st x st' b b' h hx OB hxd hn h2 ih mN =>
  intro hm he hE hD hb C fin pc q kk kK ho k1 lH hj hc hp hC hG a0 a1 WJ bR;have gZ:aJ∈re.kids:=by rw[k1];simp
  have iL:=(rG hC.fr).1.Z3 (.inr ho) aJ gZ;have FQ:=(rG hC.fr).2 aJ gZ;obtain⟨b1,b2,b3⟩:=lH.look (.inr ho) k1;obtain⟨_,l2,l3⟩:=nD aJ kk;have hw:=ih rfl rfl rfl rfl (λ_=>hx) _ (λa=>decide (a=i.toNat)) 0 0 .refl (tk FQ b3 (.here l2 (λa=>by simp only[decide_eq_decide];omega))) (by unfold PG;rw[be rfl];unfold pV PG;rw[ap aF,ap aF];trivial) ((jt aF aF).2 ⟨sM FQ iL,by unfold pV;rw[Bm];exact⟨by rw[ap aF,be rfl];trivial,trivial⟩⟩);rw[dB aF,show pV i=.mk 4 (.mk 0 [] [] 0 0 0 0 false) 0 i .nil from rfl,dB aF]at hw;rcases tN iL hw with ⟨e1,_⟩|⟨e',d',le',ld',_,e2,e3,n,v,w⟩
  ·rw[OB]at e1;cases e1
  ·have hdc:d=c:=by rw[hxd]at e2;rw[<- e3];exact(List.cons.inj e2).1
   subst hdc;rw[ak7]at w;have hv:=ED b2 l3 (e:=i.toNat) (s:=j) ae ae w;have tb:=nV (t:=t) (Bs:=Bs) (i:=i.toNat) (v:=true) k1 b1 (.inr ho) (by rw[bm];exact hv);rw[hn]at tb;exact dv.ask (by rw[kK];rfl) (by rw[kK,tb];rfl) (mN hm hx hE hD hb _ _ _ _ hj hc hp hG)
 |@KP ai i e j re aJ nx c d le ld st x b h hx OB hxd hn ih =>
  intro hm he hE hD hb C fin pc q kk kK ho k1 lH hj hc hp hC hG a0 a1 WJ bR;have gZ:aJ∈re.kids:=by rw[k1];simp
  have iL:=(rG hC.fr).1.Z3 (.inr ho) aJ gZ;have FQ:=(rG hC.fr).2 aJ gZ;obtain⟨b1,b2,b3⟩:=lH.look (.inr ho) k1;obtain⟨_,l2,l3⟩:=nD aJ kk;have hw:=ih rfl rfl rfl rfl (λ_=>hx) _ (λa=>decide (a=i.toNat)) 0 0 .refl (tk FQ b3 (.here l2 (λa=>by simp only[decide_eq_decide];omega))) (by unfold PG;rw[be rfl];unfold pV PG;rw[ap aF,ap aF];trivial) ((jt aF aF).2 ⟨sM FQ iL,by unfold pV;rw[Bm];exact⟨by rw[ap aF,be rfl];trivial,trivial⟩⟩);rw[dB aF,show pV i=.mk 4 (.mk 0 [] [] 0 0 0 0 false) 0 i .nil from rfl,dB aF]at hw;rcases tN iL hw with ⟨e1,_⟩|⟨e',d',le',ld',_,e2,e3,n,v,w⟩
  ·rw[OB]at e1;cases e1
  ·rw[ak7]at w;have hv:=ED b2 l3 (e:=i.toNat) (s:=j) ae ae w;have tb:=nV (t:=t) (Bs:=Bs) (i:=i.toNat) (v:=true) k1 b1 (.inr ho) (by rw[bm];exact hv);rw[hn]at tb;exact dv.vu (by rw[kK];rfl) (by rw[kK,tb];rfl) hx hE hD
 |@Vx ai i j re aJ nx c st x st' b b' h hx OB h2 ih mN =>
  intro hm he hE hD hb C fin pc q kk kK ho k1 lH hj hc hp hC hG a0 a1 WJ bR;have gZ:aJ∈re.kids:=by rw[k1];simp
  have iL:=(rG hC.fr).1.Z3 (.inr ho) aJ gZ;have FQ:=(rG hC.fr).2 aJ gZ;obtain⟨b1,b2,b3⟩:=lH.look (.inr ho) k1;obtain⟨_,l2,l3⟩:=nD aJ kk;have hw:=ih rfl rfl rfl rfl (λ_=>hx) _ (λa=>decide (a=i.toNat)) 0 0 .refl (tk FQ b3 (.here l2 (λa=>by simp only[decide_eq_decide];omega))) (by unfold PG;rw[be rfl];unfold pV PG;rw[ap aF,ap aF];trivial) ((jt aF aF).2 ⟨sM FQ iL,by unfold pV;rw[Bm];exact⟨by rw[ap aF,be rfl];trivial,trivial⟩⟩);rw[dB aF,show pV i=.mk 4 (.mk 0 [] [] 0 0 0 0 false) 0 i .nil from rfl,dB aF]at hw;rcases tN iL hw with ⟨_,n,w⟩|⟨e',d',le',ld',e1,_⟩
  ·rw[ak7]at w;refine mN hm hx hE hD hb C fin pc q kk kK ho k1 lH hj hc hp hC hG a0 a1 ae (λs h1 h2=>?_);by_cases e:s=j
   ·subst e;exact⟨_,_,w⟩
   ·exact bR s ae h2
  ·rw[OB]at e1;cases e1
 |@HE ai i re nx c st st' b ho hh h ih =>
  intro hm he hE hD hb C fin pc q kk h4 a0 a1 hS lH hj hc hp hC hG;have hz:re.dp=1:=by rw[Re.ga,nW,rY]
  rw[hz]at hj;rw[Re.lN,bm,rY]at hS;have kK:=hS.cons.1;rw[Re.jr,bm,bm,bm,bm,bm]at hp;refine dv.ask (by rw[kK];rfl) ?_ (ih hm he hE hD hb _ _ _ _ hj hc hp hG);exact Zdk
 |@LP ai i re nx c st ho hh =>
  intro hm he hE hD hb C fin pc q kk h4 a0 a1 hS lH hj hc hp hC hG;rw[Re.lN,bm,rY]at hS;have kK:=hS.cons.1;refine dv.vu (by rw[kK];rfl) ?_ he hE hD;exact Zdk
 |_=>rename_i ho _;intro _ _ _ _ _ C fin pc q kk _ _ _ _ _ _ _ _ hC;have:=(rG hC.fr).1.ops;omega
theorem Cn {p q r:Re->Bool} (h:∀re,p re=true->q re=true->r re=true) (re:Re):re.every p=true->re.every q=true->re.every r=true:=by refine Re.ind (Q:=λre=>re.every p=true->re.every q=true->re.every r=true) (λre ih hp hq=>?_) re;obtain⟨h1,h2⟩:=(Re.az re).1 hp;obtain⟨k1,k2⟩:=(Re.az re).1 hq;exact(Re.az re).2 ⟨h re h1 k1,λk hk=>ih k hk (h2 k hk) (k2 k hk)⟩
theorem Ob {re:Re} (hv:∀k∈re.kids,k.every JA=true):Re.Ez re.kids=jE re.kids:=by
 cases hk:re.kids with
 |nil=>rfl
 |cons k l=>exact UG k (hv k (by rw[hk];simp))
theorem Tc (re:Re):re.every JA=true->re.every mF=true->∀(A:List Bool) (look:Bool) (a:List Int),A.length=10->(∀n:Int,1<=n->n<=9->(n∈a ↔ A.getD n.toNat false=true)) ->
  (re.eC A look=true ↔ re.every uQ=true/\re.every FX=true/\(look=true->re.every (λr=>decide (r.op≠5))=true)/\re.nest a=false):=by
 refine Re.ind (Q:=λre=>re.every JA=true->re.every mF=true->∀(A:List Bool) (look:Bool) (a:List Int),A.length=10->(∀n:Int,1<=n->n<=9->(n∈a ↔ A.getD n.toNat false=true)) ->
  (re.eC A look=true ↔ re.every uQ=true/\re.every FX=true/\(look=true->re.every (λr=>decide (r.op≠5))=true)/\re.nest a=false)) (λre ih hv ho A look a hA ha=>?_) re
 obtain⟨v1,v2⟩:=(Re.az re).1 hv;obtain⟨o1,o2⟩:=(Re.az re).1 ho;obtain⟨q1,q2,q3,q4,q5,q6,q7,q8,q9,jd,nN,Cp,q13,q14,q15⟩:=je.1 o1;have hh:=Ob v2;have hu:uQ re=true ↔ ¬(re.op=6\/re.op=10\/re.op=9)/\¬(re.op=4/\(re.mode=2\/Re.Ez re.kids=true)):=by
  unfold uQ;rw[decide_eq_true_eq,hh];constructor
  ·rintro ⟨a1,a2,a3,a4⟩;refine⟨ae,λ⟨b1,b2⟩=>?_⟩;obtain⟨c1,c2⟩:=a4 b1;rcases b2 with b2|b2
   ·exact c1 b2
   ·rw[c2]at b2;cases b2
  ·rintro ⟨a1,a2⟩;refine⟨ae,ae,ae,λb1=>⟨λb2=>a2 ⟨b1,.inl b2⟩,?_⟩⟩;cases hb:jE re.kids with
   |false=>rfl
   |true=>exact absurd ⟨b1,.inr hb⟩ a2
 have hk:∀(A:List Bool) (look:Bool) (a:List Int),A.length=10->(∀n:Int,1<=n->n<=9->(n∈a ↔ A.getD n.toNat false=true))->((re.kids.all λk=>k.eC A look)=true ↔ (∀k∈re.kids,k.every uQ=true)/\(∀k∈re.kids,k.every FX=true)/\(look=true->∀k∈re.kids,k.every (λr=>decide (r.op≠5))=true)/\∀k∈re.kids,k.nest a=false):=by
  intro A look a hA ha;rw[als];constructor
  ·intro h;have h':=λk hk=>(ih k hk (v2 k hk) (o2 k hk) A look a hA ha).1 (h k hk);exact⟨λk hk=>(h' k hk).1,λk hk=>(h' k hk).2.1,λe k hk=>(h' k hk).2.2.1 e,λk hk=>(h' k hk).2.2.2⟩
  ·rintro ⟨h1,h2,h3,h4⟩ k hk;exact(ih k hk (v2 k hk) (o2 k hk) A look a hA ha).2 ⟨h1 k hk,h2 k hk,λe=>h3 e k hk,h4 k hk⟩
 have WN:FX re=true ↔ (re.kX=true->∀k∈re.kids,k.every (λr=>decide (r.op≠5))=true):=by
  unfold FX;cases re.kX with
  |false=>simp
  |true=>simp
 have hn:∀a,re.nest a=false ↔ ¬(re.op=5/\re.n∈a)/\∀k∈re.kids,k.nest (if re.op=5 then a++[re.n] else a)=false:=by
  intro a;rw[Re.z7];by_cases hc:re.op=5/\re.n∈a
  ·rw[be hc];simp [hc]
  ·rw[ap hc,List.any_eq_false];simp [hc]
 rw[Re.az,Re.az,Re.az,hu,WN,hn,decide_eq_true_eq,Re.J9];by_cases c1:re.op=6\/re.op=10\/re.op=9
 ·rw[be c1];simp only[alk,false_iff];exact λh=>h.1.1.1 c1
 rw[ap c1];by_cases c2:re.op=4/\(re.mode=2\/Re.Ez re.kids=true)
 ·rw[be c2];simp only[alk,false_iff];exact λh=>h.1.1.2 c2
 rw[ap c2];have acK:re.kX=decide (re.op=7\/re.op=8):=rfl;by_cases o5:re.op=5
 ·have gZ:=ha re.n (nN o5) jd;by_cases c3:re.op=5/\(look=true\/A.getD re.n.toNat false=true)
  ·rw[be c3];simp only[alk,false_iff];rintro ⟨_,_,h3,h4⟩;rcases c3.2 with e|e
   ·exact(h3 e).1 o5
   ·exact h4.1 ⟨o5,gZ.2 e⟩
  rw[ap c3,be o5,be o5];have hlf:look=false:=by
   cases hb:look with
   |false=>rfl
   |true=>exact absurd ⟨o5,.inl hb⟩ c3
  have Nc:re.n ∉ a:=λh=>c3 ⟨o5,.inr (gZ.1 h)⟩;have e7:decide (re.op=7\/re.op=8)=false:=ce ae;have ek:=nN o5;rw[hk (A.set re.n.toNat true) (look||decide (re.op=7\/re.op=8)) (a++[re.n]) (by simpa using hA) (λn n0 n1=>by
   rw[alN,alm];by_cases e:n=re.n
   ·subst e;rw[nH ae];simp
   ·rw[lR ae,<- ha n n0 n1];simp [e]),hlf,e7,acK,e7]
  constructor
  ·rintro ⟨h1,h2,h3,h4⟩;exact⟨⟨⟨c1,c2⟩,h1⟩,⟨(λe=>by cases e),h2⟩,(λe=>by cases e),λh=>Nc h.2,h4⟩
  ·rintro ⟨⟨_,h1⟩,⟨_,h2⟩,_,_,h4⟩;exact⟨h1,h2,(λe=>by cases e),h4⟩
 ·rw[ap (λh=>o5 h.1),ap o5,ap o5,hk A (look||decide (re.op=7\/re.op=8)) a hA ha,acK];constructor
  ·rintro ⟨h1,h2,h3,h4⟩;exact⟨⟨⟨c1,c2⟩,h1⟩,⟨λe=>h3 (by rw[e,Bool.or_true]),h2⟩,λe=>⟨o5,h3 (by rw[e,alE])⟩,λh=>o5 h.1,h4⟩
  ·rintro ⟨⟨_,h1⟩,⟨h5,h2⟩,h3,_,h4⟩;refine⟨h1,h2,λe=>?_,h4⟩;rcases Bool.or_eq_true _ _ ▸ e with e|e
   ·exact(h3 e).2
   ·exact h5 e
theorem Zb (h:CD p=0):p.re.every Sk=true/\p.re.nest []=false:=by
 obtain⟨hv,hk,_⟩:=rF h;obtain⟨v1,v2,v3,v4,v5⟩:=cW hv;have CI:=m8 v4 p.re v5 v1;have Tt:=RA v5;obtain⟨k1,k2,_,k4⟩:=(Tc p.re Tt CI (List.replicate 10 false) false [] aq (λn n0 n1=>by
  have:(List.replicate 10 false).getD n.toNat false=false:=by rw[List.getD_eq_getElem?_getD,List.getElem?_replicate];split <;> rfl
  rw[this];simp)).1 hk
 have VP:=G6 v4 p.re v5 v1 k1;refine⟨Cn (q:=λr=>uQ r&&FX r) (λre h1 h2=>Qj.2 ⟨h1,by rw[alo]at h2;exact h2⟩) p.re VP (Cn (p:=uQ) (q:=FX) (λre h1 h2=>by rw[h1,h2];rfl) p.re k1 k2),k4⟩
theorem yr {t:List Int}{L:List (Re×Nat)}{c:Nat}:∀c',c<=c'->c'<=L.length->∀j,L.length-c<=j->(bh t L c').getD j []=(bh t L c).getD j []
 |0,h,_,j,_=>by have:c=0:=ae;subst this;rfl
 |c'+1,h,hl,j,hj=>by
  by_cases e:c=c'+1
  ·subst e;rfl
  ·rw[bh];have hp:L.length-1-c'<L.length:=ae;rw[List.getElem?_eq_getElem hp];simp only;rw[List.getD_eq_getElem?_getD,List.getElem?_set_ne ae,<- List.getD_eq_getElem?_getD];exact yr c' ae ae j hj
theorem GG {r x:Re}{i:Nat} (hk:r.kids=[x]) (hs:x.every mF=true) (t:List Int) {C6:List (List Bool)} (hR:∀j,i+1<=j->j<i+1+x.looks->Bs.getD j []=C6.getD j []):eV t Bs r i=eV t C6 r i:=by
 have he:Re.dn r.kids (i+1) []=x.emit (i+1) []:=by rw[hk,Re.dn,Re.dn]
 have hp:=λp n=>NX hs t hR p n;unfold eV;simp only[he];rw[RE hp,WK hp]
theorem Wz (h:ep p t=0):I9 t (bh t (p.re.cc 0) (p.re.cc 0).length) p.re 0:=by
 intro pr hpr;obtain⟨i,hi,hpi⟩:=List.mem_iff_getElem.1 hpr;obtain⟨r,⟨q,hr,hq⟩,ho,CI,⟨x,hx,Hh⟩,hfit⟩:=Vq h i hi;have e:pr=(r,q):=by rw[<- hpi];have:=List.getElem?_eq_getElem hi;rw[hr]at this;exact(amx this).symm
 have hqi:q=i:=ae;subst hqi;rw[e];simp only;have hys:x.every mF=true:=((Re.az r).1 CI).2 x (by rw[hx];simp);have yh:r.looks=1+x.looks:=by rw[Re.jc,be ho,hx];simp [Re.bd]
 generalize hL:p.re.cc 0=L at *;have rS:(bh t L (L.length-1-q+1)).getD q []=eV t (bh t L (L.length-1-q)) r q:=by have Ml:=fM t L (L.length-1-q);rw[bh,show L.length-1-(L.length-1-q)=q by omega,hr];simp only;rw[List.getD_eq_getElem?_getD,List.getElem?_set_self ae];rfl
 refine⟨?_,x,hx,?_⟩
 ·rw[yr (c:=L.length-1-q+1) L.length ae (ale _) q ae,rS];refine GG hx hys t (λj h1 h2=>?_);exact(yr (c:=L.length-1-q) L.length ae (ale _) j ae).symm
 ·refine vx t _ x hys (q+1) ?_ (λj h1 h2=>jL t L L.length j ae ae);unfold ed at Hh;omega
theorem Ol (n:Nat):fH (List.replicate n (-1,-1))=gu n:=by
 unfold gu;induction n with
 |zero=>rfl
 |succ n ih =>
  have e:fH (List.replicate (n+1) (-1,-1))=(-1)::(-1)::fH (List.replicate n (-1,-1)):=rfl;rw[e,ih,show 2*(n+1)=2*n+1+1 by omega,List.replicate_succ,List.replicate_succ]
theorem Ey:∀(c:aC) (j:Nat) (x:Int×Int),c[j]?=some x->(fH c).getD (2*j) 0=x.1/\(fH c).getD (2*j+1) 0=x.2
 |[],j,x,h=>by simp at h
 |p::c,0,x,h=>by simp only[List.getElem?_cons_zero,alb]at h;subst h;exact⟨rfl,rfl⟩
 |p::c,j+1,x,h=>by rw[List.getElem?_cons_succ]at h;have ih:=Ey c j x h;have e2:fH (p::c)=p.1::p.2::fH c:=rfl;rw[e2,show 2*(j+1)=2*j+1+1 by omega,show 2*j+1+1+1=(2*j+1)+1+1 by omega];simp only[alY];exact ih
theorem SN{c:aC} (h:dz t c):JU c.length (fH c)=c:=by
 apply List.ext_getElem?;intro j;unfold JU;rw[List.getElem?_map];by_cases hj:j<c.length
 ·rw[List.getElem?_range hj];obtain⟨x,hx⟩:∃x,c[j]?=some x:=cb hj;obtain⟨g1,g2⟩:=Ey c j x hx;rw[hx];simp only[ala,alb];unfold Zs;rw[g1,g2];obtain⟨x1,x2⟩:=x;rcases h.2 _ (List.mem_of_getElem? hx) with he|⟨a1,a2,a3⟩
  ·cases he;rw[be (.inl rfl)]
  ·simp only at a1 a2;rw[ap oE]
 ·rw[List.getElem?_eq_none (by simpa using hj),List.getElem?_eq_none ae];rfl
theorem Nq (h:ep p t=0) {i F:Int} (h0:0<=i) (h1:i<=t.length) (hE:iu p t i 1 F=0) :
  (il t (bh t (p.re.cc 0) (p.re.cc 0).length) (mz p) i.toNat p.aj.toNat).1=(allM p t i 1 F).head?.map λx=>⟨i,x.1,x.2⟩:=by
 obtain⟨hv,_,_,he⟩:=El hE;obtain⟨k,b,x,hx,ev⟩:=Rl (ai:=1) hv h0 h1;obtain⟨_,_,e2⟩:=lg (ai:=1) hv h0 h1;have hM:allM p t i 1 F=x.ends.zip x.aj:=by unfold allM;rw[be hE,hx]
 rw[hx]at he e2;have A1:=Ux k _ _ _ _ _ ev;obtain⟨a,_,_⟩:=qm h;obtain⟨SI,eX⟩:=Zb a;have hR:=A5 h;have jy:=hR.gF;have hB:=Wz h;generalize bh t (p.re.cc 0) (p.re.cc 0).length=Bs at *;have hco:mz p=p.re.xW 0 0++[cq]:=by unfold mz;rw[Eu];rfl
 have hs:oe (mz p) 0 (p.re.xW 0 0++[cq]):=⟨[],[],by rw[hco];simp,rfl⟩
 obtain⟨dL,jG⟩:=hs.app;rw[Re.ml]at jG;have hw:=A1.afm rfl rfl rfl rfl (λ_=>he) (mz p) oC 0 0 .refl (.tree rfl dL SI hB .refl (.nil (by rw[jG.cons.1];rfl) (λ_=>rfl))) (by unfold PG;rw[be rfl];trivial) ((jt aF aF).2 ⟨⟨SI,[],eX,λx hx=>by cases hx⟩,trivial⟩);rw[dB aF]at hw;have er:jz .nil (nR p)=gu p.aj.toNat:=Ol _;rw[er]at hw;obtain⟨n,r,w,mV⟩:=hw;rw[Kv jy hR.len ae w,hM];rcases mV with ⟨_,rfl,_,h2,_⟩|⟨_,e,d,rfl,h2,h3⟩
 ·rw[h2];rfl
 ·rw[h2,h3];obtain⟨new,tz,z1,z2,z3,z4,z5,z6⟩:=e2.more;have hdm:d∈tz:=by
   have:x.aj=tz:=by simpa using z2
   rw[<- this,h3];simp
  obtain⟨c1,c2⟩:=z6 d hdm;show some (Wm i.toNat p.aj.toNat (e,fH d))=some ⟨i,e,d⟩;have hl:p.aj.toNat=d.length:=by rw[c2];simp [nR]
  unfold Wm;rw[hl,SN c1,Int.toNat_of_nonneg h0]
end Go.Proofs.YtjjfioalgbecmaaGreat
namespace Go.VL
open Go.ChangeShapes Go.WideShapes Go.ChangeAt Go.RowKit
variable{W:World}
def Z9:Gh:=⟨λ_=>none,λ_=>False⟩
theorem adm (b:Nat):¬Own Z9 [] b:=by
 rintro (h|⟨id,o,base,h1,_⟩)
 ·exact h
 ·simp at h1
theorem LL (w:World):Inv Z9 [] w :=
 ⟨λid o h=>by simp at h,λid lL o o' b base bT h=>by simp at h,λb h=>h.elim,λid o b base h=>by simp at h⟩
theorem run_pure {P:Program}{f:FuncId}{args:List V}{r:Bool}{vals:Array Value} (h:aS P f args (.d (.sc (.bool r)))) (hv:vals.size=args.length) (hrep:∀(i:Nat) (x:V),args[i]?=some x->aD Z9 [] W x (vals.getD i undef)) :
  Calls P f vals W λe w'=>e=.returned (.bool r)/\Below W.heap.size W w':=by
 refine(h.2 Z9 W vals (LL W) hv hrep).mono λe w' ⟨u,v,σ',s',h1,h2,h3,h4,h5,h6⟩=>?_;subst h5;cases h4 with|d h4=>?_
 cases h4 with|sc _ _=>?_
 exact⟨h1,h2.os,h2.tape,h2.output,h2.size,λb hb=>h2.bp b hb (adm b)⟩
theorem Uu{a:Addr}{len cap:Nat}{zs:List Int}{k:IntKind} (hl:len<=cap) (hz:zs.length=cap) (rN:∀i,i<zs.length->W.cell? (a.add i)=some (.int k (zs.getD i 0))) :
  aD Z9 [] W (.d (.sl ((zs.take len).map λx=>[D.sc (.int k x)]))) (.slice (some a) len cap):=by
 have hlen:((zs.take len).map λx=>[D.sc (Value.int k x)]).length=len:=cV;have LK:=di.sl (O:=Own Z9 []) (w:=W) ((zs.take len).map λx=>[D.sc (.int k x)]) a cap 1 (λi _=>.int k (zs.getD i 0)) (by rw[hlen];exact hl)
  (λeX=>by
   have:0<len:=by
    rcases Nat.eq_zero_or_pos len with h|h
    ·subst h;simp at eX
    ·exact h
   have:=World.cell?_spot (rN 0 ae);simpa [Addr.add]using this)
  (λe he=>by obtain⟨x,_,rfl⟩:=List.mem_map.1 he;rfl)
  (λi j x hx=>by
   simp only[List.getElem?_map]at hx;cases hi:(zs.take len)[i]? with
   |none=>simp [hi]at hx
   |some y =>
    simp only[hi,ala,alO]at hx;have hj:j=0:=by cases j with|zero=>rfl|succ j=>simp at hx
    subst hj;have hil:i<len/\i<zs.length:=by have:=(List.getElem?_eq_some_iff.1 hi).1;simp at this;omega
    refine⟨?_,adm _⟩;have lQ:=World.cell?_spot (rN 0 ae);have hc:=rN i hil.2;obtain⟨b,off,sp⟩:=a;have afC:sp=none:=by simpa [Addr.add]using lQ
    subst afC;rw[add_plain]at hc;simpa using hc)
  (λi j x hx=>by
   simp only[List.getElem?_map]at hx;cases hi:(zs.take len)[i]? with
   |none=>simp [hi]at hx
   |some y =>
    simp only[hi,ala,alO]at hx;have hj:j=0:=by cases j with|zero=>rfl|succ j=>simp at hx
    subst hj;simp only[List.getElem?_cons_zero,alb]at hx;subst hx;have hil:i<len/\i<zs.length:=by have:=(List.getElem?_eq_some_iff.1 hi).1;simp at this;omega
    have hy:zs.getD i 0=y:=by rw[List.getElem?_take,be hil.1]at hi;simp [List.getD,hi]
    rw[hy];exact .sc _ rfl)
 rw[hlen]at LK;exact .d LK
open Go.ChangeShapes Go.WideShapes Go.ChangeAt Go.RowKit
theorem M0 {H:Type}{enc:TypeId×Value->H}{P:Program}{W:World}{t e:TypeId}{k:IntKind}{a0:Option Addr}{len cap:Nat}{d:DataW H}{ps:List MemPlace} (ht:P.underlying t=some (.slice e)) (he:P.underlying e=some (.int k)) (hc:P.cellsOf e=1)
  (h:DataW.Trod enc P W 0 (λ_=>true) true t (.slice a0 len cap) d ps) :
  ∃l:List Int,(∀x∈l,(Lit.int k x).wf=true)/\aD Z9 [] W (.d (.sl (l.map λx=>[D.sc (.int k x)]))) (.slice a0 len cap):=by
 obtain⟨ahK,hf⟩:=h;rcases open_ints ht he hc hf with ⟨n9,hx⟩|⟨a,aiA,pA,zs,n9,_,hl,hm,hz,hx,rN,hwz⟩
 ·simp [Value.cells]at n9;obtain⟨rfl,rfl,rfl⟩:=n9;exact⟨[],λx hx=>by (cases hx),.d .nil⟩
 ·simp [Value.cells]at n9;obtain⟨rfl,rfl,rfl⟩:=n9;simp only[if_true]at hz;exact⟨zs.take len,λx hx=>hwz x (alU hx),Uu hl hz rN⟩
section
variable {H:Type}{enc:TypeId×Value->H}{P:Program}{w:World}{base:Nat}{spare:Nat->Bool}{held:Bool}
end
end Go.VL
