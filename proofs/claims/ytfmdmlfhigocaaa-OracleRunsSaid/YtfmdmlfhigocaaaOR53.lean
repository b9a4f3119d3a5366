/- A part of the proof (O67 O68). -/
import Derived.Test.YtfmdmlfhigocaaaOR35
import Derived.Test.YtfmdmlfhigocaaaOR52
set_option linter.unusedSimpArgs false
set_option linter.unusedVariables false
set_option maxRecDepth 100000
set_option maxHeartbeats 80000000
namespace Go.Proofs.Ytfmdmlfhigocaaa
open Go.VL
variable{aP:Re}{Bs:List (List Bool)}{fin:Nat->Bool}{kk:Nat}{t:List Int}{b:Bool}
theorem np {t:List Int}{i:Int} (h0:0<=i):((i.toNat:Nat):Int)=i:=Int.toNat_of_nonneg h0
theorem sS (hf:aP.every RG=true) (hb:IA t Bs aP (kk+1)){nx:Goal} (hn:Ch t Bs (HV aP kk) fin nx (0+aP.dc)):Ch t Bs (HV aP kk) fin (.mk 0 aP 0 0 nx) 0 :=
 .tree rfl (nq aP kk).1 hf hb .refl hn
theorem sx (hf:aP.every RG=true) (h:aP.every (λr=>decide (r.op≠5))=true):Lo [] aP:=by
 refine⟨hf,[],?_,λx hx=>by cases hx⟩;have:∀re:Re,re.every (λr=>decide (r.op≠5))=true->∀a,re.nest a=false:=λre=>by refine Re.ind (Q:=λre=>re.every (λr=>decide (r.op≠5))=true->∀a,re.nest a=false) (λre ih h a=>?_) re;obtain⟨h1,h2⟩:=(Re.av re).1 h;have h1:re.op≠5:=of_decide_eq_true h1;rw[Re.zP,ap (λh=>h1 h.1),List.any_eq_false];intro k hk;rw[ih k hk (h2 k hk)];simp
 exact this aP h []
theorem tt{i:Nat}{c:aD}{x:bh} (jf:aP.every (λr=>decide (r.op≠5))=true) (h:dk t Bs (HV aP kk) fin 0 i (fE c) x b) :
  (x.ends=[]/\∃n,de t Bs (HV aP kk) fin 0 i (fE c) n none)\/(∃e d le ld,x.ends=e::le/\x.ai=d::ld/\d=c/\∃n v,de t Bs (HV aP kk) fin 0 i (fE c) n (some v)):=by
 obtain⟨n,r,w,h|⟨_,e,d,hr,h1,h2⟩⟩:=h
 ·obtain⟨_,rfl,_,h2,_⟩:=h;exact .inl ⟨h2,n,w⟩
 ·subst hr;have hk:=w.ba (NK jf kk) _ rfl;exact .inr ⟨_,d,_,_,h1,h2,HU hk,n,_,w⟩
theorem eB.ac6{F most:Int}{task:ETask}{st st':bh} (h:eB t F most task st b st'):most=1->st.empty=false->st.ends=[]->st.ai=[]->(b=true->st'.empty=false)->adn t Bs st' b task:=by
 induction h with
 |@found most i c st h0 h1 hl tN =>
  intro hm he hE hD hb C fin pc q hj hc hp hG;cases hc with
  |nil h hf =>
   refine dk.jm ⟨1,_,.done h (hf _),.inr ⟨?_,i.toNat,c,rfl,?_,?_⟩⟩ hj
   ·rw[hm,hE];rfl
   ·show st.ends++[i]=_;rw[hE,np (t:=t) h0];rfl
   ·show st.ai++[c]=_;rw[hD];rfl
 |tree AX Am Ew hk4 h0 h1 h ih =>
  intro hm he hE hD hb C fin pc q hj hc hp hG;rw[dw Ew];obtain⟨g1,g2⟩:=(jy Ew hk4).1 hG;cases hc with
  |here=>exact absurd rfl hk4
  |tree hk hs hf lT Uu hn =>
   unfold PG at hp;rw[be hk,ake]at hp;exact(ih hm he hE hD hb _ _ _ _ _ h0 h1 hs lT Uu hn hp g1 g2).jm hj
  |save hk=>exact absurd hk Ew
  |rep hk=>exact absurd hk AX
  |more hk=>exact absurd hk Am
 |PM h0 h1 h ih =>
  intro hm he hE hD hb C fin pc q hj hc hp hG;rw[dw aJ];obtain⟨g1,g2⟩:=(jy aJ aJ).1 hG;cases hc with
  |tree hk=>exact absurd hk aJ
  |save hk=>exact absurd hk aJ
  |rep hk hR lT Uu hn =>
   unfold PG at hp;rw[ap aJ,ap aJ]at hp;exact(ih hm he hE hD hb _ _ _ _ _ _ hR lT Uu hn (hp.mono (λ_=>rfl)) g1 g2).jm hj
  |more hk=>exact absurd hk aJ
 |stay h0 h1 hk hi =>
  intro hm he hE hD hb C fin pc q hj hc hp hG;unfold PG at hp;rw[ap aJ,be rfl,be rfl]at hp;omega
 |iter h0 h1 hk hk0 AX h ih =>
  intro hm he hE hD hb C fin pc q hj hc hp hG;unfold PG at hp;rw[ap aJ,be rfl,be rfl]at hp;obtain⟨g1,g2⟩:=(jy aJ aJ).1 hG;cases hc with
  |tree hk=>exact absurd hk aJ
  |save hk=>exact absurd hk aJ
  |rep hk=>exact absurd hk aJ
  |more hk hR lT Uu hn =>
   have h2:=ih hm he hE hD hb _ _ _ _ hj (.rep rfl hR lT Uu hn) (by
    unfold PG;rw[ap aJ,ap aJ];exact hp.2) ((jy aJ aJ).2 ⟨g1,g2⟩)
   rw[dw aJ]at h2 ⊢;exact h2
 |@save most k f i re nx c st st' b h0 h1 h ih =>
  intro hm he hE hD hb C fin pc q hj hc hp hG;unfold PG at hp;rw[ap aJ,ap aJ]at hp;obtain⟨⟨g0,g1⟩,g2⟩:=PJ.1 hG;cases hc with
  |tree hk=>exact absurd hk aJ
  |save hk ho hx Uu hn =>
   have h2:=ih hm he hE hD hb _ _ _ _ Uu hn hp g2;rw[xZ g0 g2 g1]at h2;refine dk.jm (dk.yC ho ?_) hj;rw[hx,np (t:=t) h0];exact h2
  |rep hk=>exact absurd hk aJ
  |more hk=>exact absurd hk aJ
 |@here most k f i re nx c st st' b h0 h1 hi h ih =>
  intro hm he hE hD hb C fin pc q hj hc hp hG;rw[dw aJ];cases hc with
  |here ho hf =>
   cases h with
   |found a0 a1 al al1 =>
    refine dk.jm ⟨1,_,.done ho (by rw[hf];exact bi (by rw[np (t:=t) h0];exact hi)),.inr ⟨?_,i.toNat,c,rfl,?_,?_⟩⟩ hj
    ·rw[hm,hE];rfl
    ·show st.ends++[i]=_;rw[hE,np (t:=t) h0];rfl
    ·show st.ai++[c]=_;rw[hD];rfl
  |tree hk=>exact absurd hk aJ
  |save hk=>exact absurd hk aJ
  |rep hk=>exact absurd hk aJ
  |more hk=>exact absurd hk aJ
 |@gone most k f i re nx c st h0 h1 hi =>
  intro hm he hE hD hb C fin pc q hj hc hp hG;rw[dw aJ];cases hc with
  |here ho hf =>
   exact dk.jm ⟨1,none,.uq ho (by rw[hf];exact ce (by rw[np (t:=t) h0];exact hi)),.inl ⟨rfl,rfl,he,hE,hD⟩⟩ hj
  |tree hk=>exact absurd hk aJ
  |save hk=>exact absurd hk aJ
  |rep hk=>exact absurd hk aJ
  |more hk=>exact absurd hk aJ
 |CJ mD=>intro _ _ _ _ _ C fin pc b0 q kk hR;exact absurd mD ((rC hR.hf).1.rep hR.ho).1
 |IS mD=>intro _ _ _ _ _ C fin pc b0 q kk hR;exact absurd mD ((rC hR.hf).1.rep hR.ho).1
 |Di mD=>intro _ _ _ _ _ C fin pc b0 q kk hR;exact absurd mD ((rC hR.hf).1.rep hR.ho).1
 |IK mD hs jn=>intro _ _ _ _ hb;rw[hb rfl]at jn;cases jn
 |@IJ most k i re aP l nx c st st' b mD hs jn dt hk h ih =>
  intro hm he hE hD hb C fin pc b0 q kk hR lT hj hc hp hC hG;obtain⟨x,hx⟩:=(rC hR.hf).1.one (.inl hR.ho);have k1:re.kids=[aP]:=by rw[dt]at hx ⊢;simp at hx ⊢;exact hx.2
  obtain⟨r1,r2⟩:=hR.less k1 hk;obtain⟨o1,o2⟩:=pV (i:=i) k1 hR.hf hR.ho lT r1 .refl r2 hj hc (hp.mono (λe=>by cases e));obtain⟨w1,w2⟩:=z8 (k:=k) (i:=i) k1 hR.ho hC hG;have h2:=ih hm jn hE hD hb _ _ _ _ .refl o1 o2 w1;rw[w2]at h2;exact h2
 |@Ar most k i re aP l nx c st st' b mD hs jn dt hk hx h ih =>
  intro hm he hE hD hb C fin pc b0 q kk hR lT hj hc hp hC hG;obtain⟨x,x4⟩:=(rC hR.hf).1.one (.inl hR.ho);have k1:re.kids=[aP]:=by rw[dt]at x4 ⊢;simp at x4 ⊢;exact x4.2
  have hpc:=hR.last k1 hk hx;rw[<- hpc]at hj;exact ih hm jn hE hD hb _ _ _ _ hj hc (hp.mono (λ_=>bi ae)) hG
 |@Fj most k i re aP l nx c st st' mD hs jn dt hk hx h ih =>
  intro hm he hE hD hb C fin pc b0 q kk hR lT hj hc hp hC hG;obtain⟨x,x4⟩:=(rC hR.hf).1.one (.inl hR.ho);have k1:re.kids=[aP]:=by rw[dt]at x4 ⊢;simp at x4 ⊢;exact x4.2
  have hp:=hp.mono (s':=true) (λ_=>bi ae);have hX:=ih hm jn hE hD hb _ _ _ _ hj hc hp hG;by_cases Jo:re.mx=-1
  ·obtain⟨i1,_⟩:=hR.loop k1 hk Jo;exact dk.Fj i1 mD hX
  ·obtain⟨i1,_⟩:=hR.count k1 hk Jo ae;exact dk.Fj i1 mD hX
 |@D8 most k i re aP l nx c st s2 st' b mD hs jn dt hk hx h h2 ih gy =>
  intro hm he hE hD hb C fin pc b0 q kk hR lT hj hc hp hC hG;obtain⟨x,x4⟩:=(rC hR.hf).1.one (.inl hR.ho);have k1:re.kids=[aP]:=by rw[dt]at x4 ⊢;simp at x4 ⊢;exact x4.2
  have hp:=hp.mono (s':=true) (λ_=>bi ae);have hX:=ih hm jn hE hD (λe=>by cases e) _ _ _ _ hj hc hp hG;obtain⟨f1,f2,f3⟩:=hX.fresh;obtain⟨w1,w2⟩:=z8 (k:=k) (i:=i) k1 hR.ho hC hG;by_cases Jo:re.mx=-1
  ·obtain⟨i1,s1,i2,r1⟩:=hR.loop k1 hk Jo;obtain⟨o1,o2⟩:=pV (i:=i) k1 hR.hf hR.ho lT s1 (.step (by rw[i2];rfl) (by rw[i2];exact .refl)) r1 hj hc (hp.mono (λe=>by cases e));have h3:=gy hm f1 f2 f3 hb _ _ _ _ .refl o1 o2 w1;rw[w2]at h3;exact dk.D8 i1 mD hX h3
  ·obtain⟨i1,s1,r1⟩:=hR.count k1 hk Jo ae;obtain⟨o1,o2⟩:=pV (i:=i) k1 hR.hf hR.ho lT s1 .refl r1 hj hc (hp.mono (λe=>by cases e));have h3:=gy hm f1 f2 f3 hb _ _ _ _ .refl o1 o2 w1;rw[w2]at h3;exact dk.D8 i1 mD hX h3
 |@OK most k i re aP l nx c st st' mD JH hs jn dt hk hx h ih =>
  intro hm he hE hD hb C fin pc b0 q kk hR lT hj hc hp hC hG;obtain⟨x,x4⟩:=(rC hR.hf).1.one (.inl hR.ho);have k1:re.kids=[aP]:=by rw[dt]at x4 ⊢;simp at x4 ⊢;exact x4.2
  have hp:=hp.mono (s':=true) (λ_=>bi ae);obtain⟨w1,w2⟩:=z8 (k:=k) (i:=i) k1 hR.ho hC hG;by_cases Jo:re.mx=-1
  ·obtain⟨i1,s1,i2,r1⟩:=hR.loop k1 hk Jo;obtain⟨o1,o2⟩:=pV (i:=i) k1 hR.hf hR.ho lT s1 (.step (by rw[i2];rfl) (by rw[i2];exact .refl)) r1 hj hc (hp.mono (λe=>by cases e));have h3:=ih hm jn hE hD hb _ _ _ _ .refl o1 o2 w1;rw[w2]at h3;exact dk.O7 i1 JH h3
  ·obtain⟨i1,s1,r1⟩:=hR.count k1 hk Jo ae;obtain⟨o1,o2⟩:=pV (i:=i) k1 hR.hf hR.ho lT s1 .refl r1 hj hc (hp.mono (λe=>by cases e));have h3:=ih hm jn hE hD hb _ _ _ _ .refl o1 o2 w1;rw[w2]at h3;exact dk.O7 i1 JH h3
 |@PC most k i re aP l nx c st s2 st' b mD JH hs jn dt hk hx h h2 ih gy =>
  intro hm he hE hD hb C fin pc b0 q kk hR lT hj hc hp hC hG;obtain⟨x,x4⟩:=(rC hR.hf).1.one (.inl hR.ho);have k1:re.kids=[aP]:=by rw[dt]at x4 ⊢;simp at x4 ⊢;exact x4.2
  have hp:=hp.mono (s':=true) (λ_=>bi ae);obtain⟨w1,w2⟩:=z8 (k:=k) (i:=i) k1 hR.ho hC hG;by_cases Jo:re.mx=-1
  ·obtain⟨i1,s1,i2,r1⟩:=hR.loop k1 hk Jo;obtain⟨o1,o2⟩:=pV (i:=i) k1 hR.hf hR.ho lT s1 (.step (by rw[i2];rfl) (by rw[i2];exact .refl)) r1 hj hc (hp.mono (λe=>by cases e));have h3:=ih hm jn hE hD (λe=>by cases e) _ _ _ _ .refl o1 o2 w1;obtain⟨f1,f2,f3⟩:=h3.fresh;rw[w2]at h3;exact dk.PX i1 JH h3 (gy hm f1 f2 f3 hb _ _ _ _ hj hc hp hG)
  ·obtain⟨i1,s1,r1⟩:=hR.count k1 hk Jo ae;obtain⟨o1,o2⟩:=pV (i:=i) k1 hR.hf hR.ho lT s1 .refl r1 hj hc (hp.mono (λe=>by cases e));have h3:=ih hm jn hE hD (λe=>by cases e) _ _ _ _ .refl o1 o2 w1;obtain⟨f1,f2,f3⟩:=h3.fresh;rw[w2]at h3;exact dk.PX i1 JH h3 (gy hm f1 f2 f3 hb _ _ _ _ hj hc hp hG)
 |@C5 most i re nx c st st' b ho h0 h1 h ih =>
  intro hm he hE hD hb C fin pc q kk a0 a1 hS lT hj hc hp hC hG;have hN:=(rC hC.fr).1;have SN:=hN.mx0 ho;have hmn:=hN.mn0;refine ih hm he hE hD hb C fin pc pc q kk ⟨hS,hC.fr,ho,ajs _,ae,by rw[ss];simp⟩ lT hj hc ?_ hC hG;rw[Re.jv,bd,bd,bd,be ho,(hN.rep ho).2,akq]at hp;exact hp
 |Dg ho hs jn=>intro _ _ _ _ hb;rw[hb rfl]at jn;cases jn
 |node ho hs jn h ih =>
  intro hm he hE hD hb C fin pc q kk a0 a1 hS lT hj hc hp hC hG;exact ih hm jn hE hD hb _ _ _ _ _ ho a0 a1 hS lT hj hc hp hC hG
 |@empty most i re nx c st st' b ho h ih =>
  intro hm he hE hD hb C fin pc q kk h4 a0 a1 hS lT hj hc hp hC hG;have An:=(rC hC.fr).1.ops;simp only[ajF,ajP,or_false,not_or]at ho;have h0:re.op=0:=ae;have hz:re.dc=0:=by rw[Re.gj,nK,bd,bd,bd,bd,bd]
  rw[hz,aj5]at hj;rw[Re.jv,bd,bd,bd,bd,bd]at hp;exact ih hm he hE hD hb _ _ _ _ hj hc hp hG
 |@IB most i re nx c st st' b ho hi hs h ih =>
  intro hm he hE hD hb C fin pc q kk h4 a0 a1 hS lT hj hc hp hC hG;have hz:re.dc=1:=by rw[Re.gj,nK,be (.inl ho)]
  rw[hz]at hj;rw[Re.lX,be ho]at hS;rw[Re.jv,be ho]at hp;have iU:=hS.cons.1;obtain⟨n,r,w,hw⟩:=ih hm he hE hD hb _ _ _ _ hj hc hp.succ hG;have e1:(i+1).toNat=i.toNat+1:=ae;rw[e1]at w;refine⟨n+1,r,.rd (by rw[iU];rfl) ?_ w,hw⟩;rw[iU];unfold au.pass sL;simp only;rw[be ho,np (t:=t) a0,hs,bi hi];rfl
 |@OL most i re nx c st ho hn =>
  intro hm he hE hD hb C fin pc q kk h4 a0 a1 hS lT hj hc hp hC hG;rw[Re.lX,be ho]at hS;have iU:=hS.cons.1;refine⟨1,none,.Tj (by rw[iU];rfl) ?_,.inl ⟨rfl,rfl,he,hE,hD⟩⟩;rw[iU];unfold au.pass sL;simp only;rw[be ho,np (t:=t) a0,ajO];intro hh;rw[aji,decide_eq_true_eq]at hh;exact hn hh
 |@cat most i re nx c st st' b ho h ih =>
  intro hm he hE hD hb C fin pc q kk h4 a0 a1 hS lT hj hc hp hC hG;obtain⟨_,kB⟩:=rC hC.fr;have hz:re.dc=Re.cu re.kids:=by rw[Re.gj,nK,bd,be ho]
  rw[hz]at hj;rw[Re.lX,bd,bd,be ho]at hS;rw[Re.jv,bd,be ho]at hp;obtain⟨q',b1,b2⟩:=Ch.push hc hS kB (lT.kids ae) hj;obtain⟨w1,_,w3⟩:=Lq (l:=re.kids) (λk hk=>hC.aP hk ae) hG;have h2:=ih hm he hE hD hb _ _ _ _ b1 b2 (PG.push (by rw[ake];exact hp)) w1;rw[w3]at h2;exact h2
 |@alt most i re nx c st st' b ho h ih =>
  intro hm he hE hD hb C fin pc q kk h4 a0 a1 hS lT hj hc hp hC hG;have h2k:=(rC hC.fr).1.two ho;have hz:re.dc=Re.cu re.kids+2*(re.kids.length-1):=by rw[Re.gj,nK,bd,bd,be ho]
  rw[hz]at hj;rw[Re.lX,bd,bd,bd,be ho]at hS;rw[Re.jv,bd,bd,be (.inl ho)]at hp;exact ih hm he hE hD hb _ _ _ _ _ _ (λe=>by rw[e]at h2k;simp at h2k) hS rfl (lT.kids ae) hj hc hp (λk hk=>hC.aP hk ae) hG
 |IW=>intro _ _ _ _ _ C fin pc q kk E hl;exact absurd rfl hl
 |@U2 most i aP l nx c st st' h ih =>
  intro hm he hE hD hb C fin pc q kk E hl hS Zw lT hj hc hp hC hG;rw[Re.py]at hp;have Jr:PG true (.mk 0 aP 0 0 nx) i:=by unfold PG;rw[be rfl,ake];exact hp.mono (λe=>by rw[e,ajC])
  have VZ:=hC aP aj;have hgk:GL (.mk 0 aP 0 0 nx):=(jy aJ aJ).2 ⟨VZ,hG⟩;have er:jC (.mk 0 aP 0 0 nx) c=jC nx c:=dw aJ;cases l with
  |nil =>
   simp only[Re.Ck]at hS;simp only[Re.cu,ai8,ai9]at Zw;have w:=ih hm he hE hD hb _ _ _ _ .refl (.tree rfl hS VZ.fr lT.cons.1 (by rw[show pc+aP.dc=E by omega];exact hj) hc) Jr hgk;rw[er]at w;exact w
  |cons k2 l2 =>
   rw[Re.Ck]at hS;obtain⟨i1,s1⟩:=hS.cons;obtain⟨ZX,s3⟩:=s1.app;rw[Re.mq]at s3;obtain⟨i2,_⟩:=s3.cons;have ZU:Fq C (pc+1+aP.dc) q:=.step (by rw[i2];rfl) (by rw[i2];exact hj);have w1:=ih hm he hE hD hb _ _ _ _ .refl (.tree rfl ZX VZ.fr lT.cons.1 ZU hc) Jr hgk;rw[er]at w1;have e1:(cX ((pc:Int)+1) ((pc:Int)+aP.dc+2)).x.toNat=pc+1:=by show ((pc:Int)+1).toNat=_;omega
   exact dk.fst (by rw[i1];rfl) (by rw[i1,e1];exact w1)
 |@Cp most i aP l nx c st s2 st' b h h2 ih gy =>
  intro hm he hE hD hb C fin pc q kk E hl hS Zw lT hj hc hp hC hG;rw[Re.py]at hp;have Jr:PG true (.mk 0 aP 0 0 nx) i:=by unfold PG;rw[be rfl,ake];exact hp.mono (λe=>by rw[e,ajC])
  have VZ:=hC aP aj;have hgk:GL (.mk 0 aP 0 0 nx):=(jy aJ aJ).2 ⟨VZ,hG⟩;have er:jC (.mk 0 aP 0 0 nx) c=jC nx c:=dw aJ;cases l with
  |nil =>
   simp only[Re.Ck]at hS;simp only[Re.cu,ai8,ai9]at Zw;have w:=ih hm he hE hD (λe=>by cases e) _ _ _ _ .refl (.tree rfl hS VZ.fr lT.cons.1 (by rw[show pc+aP.dc=E by omega];exact hj) hc) Jr hgk;rw[er]at w;cases h2;exact w
  |cons k2 l2 =>
   rw[Re.Ck]at hS;obtain⟨i1,s1⟩:=hS.cons;obtain⟨ZX,s3⟩:=s1.app;rw[Re.mq]at s3;obtain⟨i2,s4⟩:=s3.cons;have ZU:Fq C (pc+1+aP.dc) q:=.step (by rw[i2];rfl) (by rw[i2];exact hj);have w1:=ih hm he hE hD (λe=>by cases e) _ _ _ _ .refl (.tree rfl ZX VZ.fr lT.cons.1 ZU hc) Jr hgk;obtain⟨f1,f2,f3⟩:=w1.fresh;rw[er]at w1;have e1:(cX ((pc:Int)+1) ((pc:Int)+aP.dc+2)).x.toNat=pc+1:=by show ((pc:Int)+1).toNat=_;omega
   have e2:(cX ((pc:Int)+1) ((pc:Int)+aP.dc+2)).y.toNat=pc+aP.dc+2:=by show ((pc:Int)+aP.dc+2).toNat=_;omega
   have e4:Re.cu (aP::k2::l2)=aP.dc+Re.cu (k2::l2):=by rw[Re.cu]
   rw[show pc+1+aP.dc+1=pc+aP.dc+2 by omega]at s4;have w2:=gy hm f1 f2 f3 hb _ _ _ _ _ _ aj s4 (by rw[Zw,e4];simp only[ai8];omega) lT.cons.2 hj hc (hp.mono (λe=>by rw[e,Bool.or_true])) (λk hk=>hC k (by simp only[ajF]at hk ⊢;exact .inr hk)) hG;exact dk.snd (by rw[i1];rfl) (by rw[i1,e1];exact w1) (by rw[i1,e2];exact w2)
 |@cap most i re aP l nx c st st' b ho dt h ih =>
  intro hm he hE hD hb C fin pc q kk h4 a0 a1 hS lT hj hc hp hC hG;obtain⟨x,hx⟩:=(rC hC.fr).1.one (.inr (.inl ho));have k1:re.kids=[aP]:=by rw[dt]at hx ⊢;simp at hx ⊢;exact hx.2
  have ig:aP∈re.kids:=by rw[dt];simp
  obtain⟨c1,c2,c3⟩:=hC.cap ig ho;have hz:re.dc=aP.dc+2:=by rw[Re.gj,nK,bd,bd,bd,be ho,kP k1]
  rw[hz]at hj;rw[Re.lX,bd,bd,bd,bd,be ho,Mo k1]at hS;rw[Re.jv,bd,bd,bd,bd,be (.inl ho),k1]at hp;simp only[Re.qa]at hp;obtain⟨i1,s1⟩:=hS.cons;obtain⟨ZX,s3⟩:=s1.app;rw[Re.mq]at s3;have i2:=s3.cons.1;have h2:=ih hm he hE hD hb _ _ _ _ .refl (.tree rfl ZX c1.fr (lT.one ae k1) .refl (.save rfl (by rw[i2];rfl) (by rw[i2];rfl) (by rw[show pc+1+aP.dc+1=pc+(aP.dc+2) by omega];exact hj) hc)) (by
   unfold PG;rw[be rfl,ake];unfold PG;rw[ap aJ,ap aJ];exact hp) ((jy aJ aJ).2 ⟨by rw[show opens (.mk 3 re 0 i nx)=re.n::opens nx from be rfl];exact c1,PJ.2 ⟨⟨c2,c3⟩,hG⟩⟩)
  have er:jC (.mk 0 aP 0 0 (.mk 3 re 0 i nx)) c=(jC nx c).set (2*re.n-2).toNat i:=by rw[dw aJ];exact be rfl
  rw[er]at h2;refine dk.yC (by rw[i1];rfl) ?_;rw[i1,np (t:=t) a0];exact h2
 |@yN most i re aP l nx c st x b ho dt h hx ih=>intro _ _ _ _ hb;have:x.empty=false:=hb rfl;rw[this]at hx;cases hx
 |@CH most i re aP l nx c st x b ho dt h hx Oj hn ih =>
  intro hm he hE hD hb C fin pc q kk h4 a0 a1 hS lT hj hc hp hC hG;obtain⟨y,hy⟩:=(rC hC.fr).1.one (.inr (.inr (.inl ho)));have k1:re.kids=[aP]:=by rw[dt]at hy ⊢;simp at hy ⊢;exact hy.2
  have ig:aP∈re.kids:=by rw[dt];simp
  have jf:=(rC hC.fr).1.Yh (.inl ho) aP ig;have Db:=(rC hC.fr).2 aP ig;obtain⟨b1,b2,b3⟩:=lT.look (.inl ho) k1;obtain⟨_,l2,l3⟩:=nq aP kk;have hw:=ih rfl rfl rfl rfl (λ_=>hx) _ oE 0 0 .refl (sS Db b3 (.nil l2 (λ_=>rfl))) (by unfold PG;rw[be rfl];trivial) ((jy aJ aJ).2 ⟨sx Db jf,trivial⟩);rw[dw aJ]at hw;rcases tt jf hw with ⟨_,n,w⟩|⟨e,d,le,ld,e1,_⟩
  ·have hv:=wN b2 l3 (p:=i.toNat) ae w;have sN:=nJ (t:=t) (Bs:=Bs) (i:=i.toNat) (v:=false) k1 b1 (.inl ho) (by rw[be ho];exact hv);rw[hn]at sN;rw[Re.lX,bd,tK]at hS;have iU:=hS.cons.1;exact dk.vp (by rw[iU];rfl) (by rw[iU,sN];rfl) hx hE hD
  ·rw[Oj]at e1;cases e1
 |@sk most i re aP l nx c st x st' b b' ho dt h hx Oj hn h2 ih gy =>
  intro hm he hE hD hb C fin pc q kk h4 a0 a1 hS lT hj hc hp hC hG;obtain⟨y,hy⟩:=(rC hC.fr).1.one (.inr (.inr (.inl ho)));have k1:re.kids=[aP]:=by rw[dt]at hy ⊢;simp at hy ⊢;exact hy.2
  have ig:aP∈re.kids:=by rw[dt];simp
  have jf:=(rC hC.fr).1.Yh (.inl ho) aP ig;have Db:=(rC hC.fr).2 aP ig;obtain⟨b1,b2,b3⟩:=lT.look (.inl ho) k1;obtain⟨_,l2,l3⟩:=nq aP kk;have hw:=ih rfl rfl rfl rfl (λ_=>hx) _ oE 0 0 .refl (sS Db b3 (.nil l2 (λ_=>rfl))) (by unfold PG;rw[be rfl];trivial) ((jy aJ aJ).2 ⟨sx Db jf,trivial⟩);rw[dw aJ]at hw;rcases tt jf hw with ⟨_,n,w⟩|⟨e,d,le,ld,e1,_⟩
  ·have hv:=wN b2 l3 (p:=i.toNat) ae w;have sN:=nJ (t:=t) (Bs:=Bs) (i:=i.toNat) (v:=false) k1 b1 (.inl ho) (by rw[be ho];exact hv);rw[hn]at sN;have hz:re.dc=1:=by rw[Re.gj,nK,tK]
   rw[hz]at hj;rw[Re.lX,bd,tK]at hS;have iU:=hS.cons.1;rw[Re.jv,bd,bd,bd,bd,bd]at hp;exact dk.ask (by rw[iU];rfl) (by rw[iU,sN];rfl) (gy hm hx hE hD hb _ _ _ _ hj hc hp hG)
  ·rw[Oj]at e1;cases e1
 |@zj most i e re aP l nx c d le ld st x st' b b' ho dt h hx Oj hxd hn h2 ih gy =>
  intro hm he hE hD hb C fin pc q kk h4 a0 a1 hS lT hj hc hp hC hG;obtain⟨y,hy⟩:=(rC hC.fr).1.one (.inr (.inr (.inl ho)));have k1:re.kids=[aP]:=by rw[dt]at hy ⊢;simp at hy ⊢;exact hy.2
  have ig:aP∈re.kids:=by rw[dt];simp
  have jf:=(rC hC.fr).1.Yh (.inl ho) aP ig;have Db:=(rC hC.fr).2 aP ig;obtain⟨b1,b2,b3⟩:=lT.look (.inl ho) k1;obtain⟨_,l2,l3⟩:=nq aP kk;have hw:=ih rfl rfl rfl rfl (λ_=>hx) _ oE 0 0 .refl (sS Db b3 (.nil l2 (λ_=>rfl))) (by unfold PG;rw[be rfl];trivial) ((jy aJ aJ).2 ⟨sx Db jf,trivial⟩);rw[dw aJ]at hw;rcases tt jf hw with ⟨e1,_⟩|⟨e',d',le',ld',_,e2,e3,n,v,w⟩
  ·rw[Oj]at e1;cases e1
  ·have hdc:d=c:=by rw[hxd]at e2;rw[<- e3];exact(List.cons.inj e2).1
   subst hdc;have hv:=wN b2 l3 (p:=i.toNat) ae w;have sN:=nJ (t:=t) (Bs:=Bs) (i:=i.toNat) (v:=true) k1 b1 (.inl ho) (by rw[be ho];exact hv);rw[hn]at sN;have hz:re.dc=1:=by rw[Re.gj,nK,tK]
   rw[hz]at hj;rw[Re.lX,bd,tK]at hS;have iU:=hS.cons.1;rw[Re.jv,bd,bd,bd,bd,bd]at hp;exact dk.ask (by rw[iU];rfl) (by rw[iU,sN];rfl) (gy hm hx hE hD hb _ _ _ _ hj hc hp hG)
 |@qg most i e re aP l nx c d le ld st x b ho dt h hx Oj hxd hn ih =>
  intro hm he hE hD hb C fin pc q kk h4 a0 a1 hS lT hj hc hp hC hG;obtain⟨y,hy⟩:=(rC hC.fr).1.one (.inr (.inr (.inl ho)));have k1:re.kids=[aP]:=by rw[dt]at hy ⊢;simp at hy ⊢;exact hy.2
  have ig:aP∈re.kids:=by rw[dt];simp
  have jf:=(rC hC.fr).1.Yh (.inl ho) aP ig;have Db:=(rC hC.fr).2 aP ig;obtain⟨b1,b2,b3⟩:=lT.look (.inl ho) k1;obtain⟨_,l2,l3⟩:=nq aP kk;have hw:=ih rfl rfl rfl rfl (λ_=>hx) _ oE 0 0 .refl (sS Db b3 (.nil l2 (λ_=>rfl))) (by unfold PG;rw[be rfl];trivial) ((jy aJ aJ).2 ⟨sx Db jf,trivial⟩);rw[dw aJ]at hw;rcases tt jf hw with ⟨e1,_⟩|⟨e',d',le',ld',_,e2,e3,n,v,w⟩
  ·rw[Oj]at e1;cases e1
  ·have hv:=wN b2 l3 (p:=i.toNat) ae w;have sN:=nJ (t:=t) (Bs:=Bs) (i:=i.toNat) (v:=true) k1 b1 (.inl ho) (by rw[be ho];exact hv);rw[hn]at sN;rw[Re.lX,bd,tK]at hS;have iU:=hS.cons.1;exact dk.vp (by rw[iU];rfl) (by rw[iU,sN];rfl) hx hE hD
 |@behind most i re aP l nx c st st' b ho dt ZG h ih =>
  intro hm he hE hD hb C fin pc q kk h4 a0 a1 hS lT hj hc hp hC hG;obtain⟨y,hy⟩:=(rC hC.fr).1.one (.inr (.inr (.inr ho)));have k1:re.kids=[aP]:=by rw[dt]at hy ⊢;simp at hy ⊢;exact hy.2
  have hz:re.dc=1:=by rw[Re.gj,nK,tK]
  rw[hz]at hj;rw[Re.lX,bd,tK]at hS;rw[Re.jv,bd,bd,bd,bd,bd]at hp;exact ih hm he hE hD hb C fin pc q kk hS.cons.1 ho k1 lT hj hc hp hC hG a0 a1 (ajc _) (λs h1 h2=>ae)
 |@VI most i re aP nx c st hn =>
  intro hm he hE hD hb C fin pc q kk iU ho k1 lT hj hc hp hC hG a0 a1 QE bK;obtain⟨b1,b2,b3⟩:=lT.look (.inr ho) k1;obtain⟨_,l2,l3⟩:=nq aP kk;have hv:=HF b2 l3 (e:=i.toNat) ae (λs hs=>bK s (Nat.zero_le _) hs);have sN:=nJ (t:=t) (Bs:=Bs) (i:=i.toNat) (v:=false) k1 b1 (.inr ho) (by rw[bd];exact hv);rw[hn]at sN;exact dk.vp (by rw[iU];rfl) (by rw[iU,sN];rfl) he hE hD
 |@CN most i re aP nx c st st' b hn h ih =>
  intro hm he hE hD hb C fin pc q kk iU ho k1 lT hj hc hp hC hG a0 a1 QE bK;obtain⟨b1,b2,b3⟩:=lT.look (.inr ho) k1;obtain⟨_,l2,l3⟩:=nq aP kk;have hv:=HF b2 l3 (e:=i.toNat) ae (λs hs=>bK s (Nat.zero_le _) hs);have sN:=nJ (t:=t) (Bs:=Bs) (i:=i.toNat) (v:=false) k1 b1 (.inr ho) (by rw[bd];exact hv);rw[hn]at sN;exact dk.ask (by rw[iU];rfl) (by rw[iU,sN];rfl) (ih hm he hE hD hb _ _ _ _ hj hc hp hG)
 |@Pc most i j re aP nx c st x b h hx ih=>intro _ _ _ _ hb;have:x.empty=false:=hb rfl;rw[this]at hx;cases hx
 |@Pn most i e j re aP nx c d le ld st x st' b b' h hx Oj hxd hn h2 ih gy =>
  intro hm he hE hD hb C fin pc q kk iU ho k1 lT hj hc hp hC hG a0 a1 QE bK;have ig:aP∈re.kids:=by rw[k1];simp
  have jf:=(rC hC.fr).1.Yh (.inr ho) aP ig;have Db:=(rC hC.fr).2 aP ig;obtain⟨b1,b2,b3⟩:=lT.look (.inr ho) k1;obtain⟨_,l2,l3⟩:=nq aP kk;have hw:=ih rfl rfl rfl rfl (λ_=>hx) _ (λa=>decide (a=i.toNat)) 0 0 .refl (sS Db b3 (.here l2 (λa=>by simp only[decide_eq_decide];omega))) (by unfold PG;rw[be rfl];unfold pR PG;rw[ap aJ,ap aJ];trivial) ((jy aJ aJ).2 ⟨sx Db jf,by unfold pR;rw[Bh];exact⟨by rw[ap aJ,be rfl];trivial,trivial⟩⟩);rw[dw aJ,show pR i=.mk 4 (.mk 0 [] [] 0 0 0 0 false) 0 i .nil from rfl,dw aJ]at hw;rcases tt jf hw with ⟨e1,_⟩|⟨e',d',le',ld',_,e2,e3,n,v,w⟩
  ·rw[Oj]at e1;cases e1
  ·have hdc:d=c:=by rw[hxd]at e2;rw[<- e3];exact(List.cons.inj e2).1
   subst hdc;rw[ai1]at w;have hv:=EM b2 l3 (e:=i.toNat) (s:=j) ae ae w;have sN:=nJ (t:=t) (Bs:=Bs) (i:=i.toNat) (v:=true) k1 b1 (.inr ho) (by rw[bd];exact hv);rw[hn]at sN;exact dk.ask (by rw[iU];rfl) (by rw[iU,sN];rfl) (gy hm hx hE hD hb _ _ _ _ hj hc hp hG)
 |@y4 most i e j re aP nx c d le ld st x b h hx Oj hxd hn ih =>
  intro hm he hE hD hb C fin pc q kk iU ho k1 lT hj hc hp hC hG a0 a1 QE bK;have ig:aP∈re.kids:=by rw[k1];simp
  have jf:=(rC hC.fr).1.Yh (.inr ho) aP ig;have Db:=(rC hC.fr).2 aP ig;obtain⟨b1,b2,b3⟩:=lT.look (.inr ho) k1;obtain⟨_,l2,l3⟩:=nq aP kk;have hw:=ih rfl rfl rfl rfl (λ_=>hx) _ (λa=>decide (a=i.toNat)) 0 0 .refl (sS Db b3 (.here l2 (λa=>by simp only[decide_eq_decide];omega))) (by unfold PG;rw[be rfl];unfold pR PG;rw[ap aJ,ap aJ];trivial) ((jy aJ aJ).2 ⟨sx Db jf,by unfold pR;rw[Bh];exact⟨by rw[ap aJ,be rfl];trivial,trivial⟩⟩);rw[dw aJ,show pR i=.mk 4 (.mk 0 [] [] 0 0 0 0 false) 0 i .nil from rfl,dw aJ]at hw;rcases tt jf hw with ⟨e1,_⟩|⟨e',d',le',ld',_,e2,e3,n,v,w⟩
  ·rw[Oj]at e1;cases e1
  ·rw[ai1]at w;have hv:=EM b2 l3 (e:=i.toNat) (s:=j) ae ae w;have sN:=nJ (t:=t) (Bs:=Bs) (i:=i.toNat) (v:=true) k1 b1 (.inr ho) (by rw[bd];exact hv);rw[hn]at sN;exact dk.vp (by rw[iU];rfl) (by rw[iU,sN];rfl) hx hE hD
 |@Jd most i j re aP nx c st x st' b b' h hx Oj h2 ih gy =>
  intro hm he hE hD hb C fin pc q kk iU ho k1 lT hj hc hp hC hG a0 a1 QE bK;have ig:aP∈re.kids:=by rw[k1];simp
  have jf:=(rC hC.fr).1.Yh (.inr ho) aP ig;have Db:=(rC hC.fr).2 aP ig;obtain⟨b1,b2,b3⟩:=lT.look (.inr ho) k1;obtain⟨_,l2,l3⟩:=nq aP kk;have hw:=ih rfl rfl rfl rfl (λ_=>hx) _ (λa=>decide (a=i.toNat)) 0 0 .refl (sS Db b3 (.here l2 (λa=>by simp only[decide_eq_decide];omega))) (by unfold PG;rw[be rfl];unfold pR PG;rw[ap aJ,ap aJ];trivial) ((jy aJ aJ).2 ⟨sx Db jf,by unfold pR;rw[Bh];exact⟨by rw[ap aJ,be rfl];trivial,trivial⟩⟩);rw[dw aJ,show pR i=.mk 4 (.mk 0 [] [] 0 0 0 0 false) 0 i .nil from rfl,dw aJ]at hw;rcases tt jf hw with ⟨_,n,w⟩|⟨e',d',le',ld',e1,_⟩
  ·rw[ai1]at w;refine gy hm hx hE hD hb C fin pc q kk iU ho k1 lT hj hc hp hC hG a0 a1 ae (λs h1 h2=>?_);by_cases e:s=j
   ·subst e;exact⟨_,_,w⟩
   ·exact bK s ae h2
  ·rw[Oj]at e1;cases e1
 |@vZ most i re nx c st st' b ho hh h ih =>
  intro hm he hE hD hb C fin pc q kk h4 a0 a1 hS lT hj hc hp hC hG;have hz:re.dc=1:=by rw[Re.gj,nK,tK]
  rw[hz]at hj;rw[Re.lX,bd,tK]at hS;have iU:=hS.cons.1;rw[Re.jv,bd,bd,bd,bd,bd]at hp;refine dk.ask (by rw[iU];rfl) ?_ (ih hm he hE hD hb _ _ _ _ hj hc hp hG);rw[iU];unfold au.pass lR;simp only;rw[bd,be ho,np (t:=t) a0];exact hh
 |@zx most i re nx c st ho hh =>
  intro hm he hE hD hb C fin pc q kk h4 a0 a1 hS lT hj hc hp hC hG;rw[Re.lX,bd,tK]at hS;have iU:=hS.cons.1;refine dk.vp (by rw[iU];rfl) ?_ he hE hD;rw[iU];unfold au.pass lR;simp only;rw[bd,be ho,np (t:=t) a0];exact hh
 |_=>rename_i ho _;intro _ _ _ _ _ C fin pc q kk _ _ _ _ _ _ _ _ hC;have:=(rC hC.fr).1.ops;omega
theorem Gq {P f g:Re->Bool} (h:∀r,P r=true->f r=g r) (re:Re):re.every P=true->re.every f=re.every g:=by refine Re.ind (Q:=λre=>re.every P=true->re.every f=re.every g) (λre ih hp=>?_) re;obtain⟨h1,h2⟩:=(Re.av re).1 hp;rw[Bool.eq_iff_iff,Re.av,Re.av,h re h1];exact and_congr Iff.rfl ⟨λhh k hk=>by rw[<- ih k hk (h2 k hk)];exact hh k hk,λhh k hk=>by rw[ih k hk (h2 k hk)];exact hh k hk⟩
theorem Cf {p q r:Re->Bool} (h:∀re,p re=true->q re=true->r re=true) (re:Re):re.every p=true->re.every q=true->re.every r=true:=by refine Re.ind (Q:=λre=>re.every p=true->re.every q=true->re.every r=true) (λre ih hp hq=>?_) re;obtain⟨h1,h2⟩:=(Re.av re).1 hp;obtain⟨k1,k2⟩:=(Re.av re).1 hq;exact(Re.av re).2 ⟨h re h1 k1,λk hk=>ih k hk (h2 k hk) (k2 k hk)⟩
theorem Hz (q:Re->Bool) (re:Re):re.gz.all q=re.every (λr=>!r.iv||q r):=by
 refine Re.ind (Q:=λre=>re.gz.all q=re.every (λr=>!r.iv||q r)) (λre ih=>?_) re;have hL:∀l:List Re,(∀x∈l,x∈re.kids)->((Re.cr l).all q=true ↔ ∀x∈l,x.every (λr=>!r.iv||q r)=true):=by
  intro l;induction l with
  |nil=>intro _;simp [Re.cr]
  |cons x l D0 =>
   intro hm;rw[Re.cr,akm,aji,ih x (hm x aj),D0 λy hy=>hm y (by simp [hy])];simp
 rw[Bool.eq_iff_iff,Re.av,Re.z7,akm,aji,hL re.kids λ_ h=>h];refine and_congr ?_ Iff.rfl;unfold Re.iv;by_cases ho:re.op=7\/re.op=8
 ·rw[be ho,bi ho];simp
 ·rw[ap ho,ce ho];simp
theorem NS {re:Re} (hv:∀k∈re.kids,k.every I8=true):Re.EI re.kids=jF re.kids:=by
 cases hk:re.kids with
 |nil=>rfl
 |cons k l=>exact TB k (hv k (by rw[hk];simp))
theorem JX (re:Re):re.every I8=true->re.every l5=true->∀(A:List Bool) (look:Bool) (a:List Int),A.length=10->(∀n:Int,1<=n->n<=9->(n∈a ↔ A.getD n.toNat false=true)) ->
  (re.dW A look=true ↔ re.every uL=true/\re.every yE=true/\(look=true->re.every (λr=>decide (r.op≠5))=true)/\re.nest a=false):=by
 refine Re.ind (Q:=λre=>re.every I8=true->re.every l5=true->∀(A:List Bool) (look:Bool) (a:List Int),A.length=10->(∀n:Int,1<=n->n<=9->(n∈a ↔ A.getD n.toNat false=true)) ->
  (re.dW A look=true ↔ re.every uL=true/\re.every yE=true/\(look=true->re.every (λr=>decide (r.op≠5))=true)/\re.nest a=false)) (λre ih hv ho A look a hA ha=>?_) re
 obtain⟨v1,v2⟩:=(Re.av re).1 hv;obtain⟨o1,o2⟩:=(Re.av re).1 ho;obtain⟨q1,q2,q3,q4,q5,q6,q7,q8,q9,ji,jh,nS,Ao,q14,q15⟩:=iO.1 o1;have hh:=NS v2;have hu:uL re=true ↔ ¬(re.op=6\/re.op=10\/re.op=9)/\¬(re.op=4/\(re.mode=2\/Re.EI re.kids=true)):=by
  unfold uL;rw[decide_eq_true_eq,hh];constructor
  ·rintro ⟨a1,a2,a3,a4⟩;refine⟨ae,λ⟨b1,b2⟩=>?_⟩;obtain⟨c1,c2⟩:=a4 b1;rcases b2 with b2|b2
   ·exact c1 b2
   ·rw[c2]at b2;cases b2
  ·rintro ⟨a1,a2⟩;refine⟨ae,ae,ae,λb1=>⟨λb2=>a2 ⟨b1,.inl b2⟩,?_⟩⟩;cases hb:jF re.kids with
   |false=>rfl
   |true=>exact absurd ⟨b1,.inr hb⟩ a2
 have hk:∀(A:List Bool) (look:Bool) (a:List Int),A.length=10->(∀n:Int,1<=n->n<=9->(n∈a ↔ A.getD n.toNat false=true))->((re.kids.all λk=>k.dW A look)=true ↔ (∀k∈re.kids,k.every uL=true)/\(∀k∈re.kids,k.every yE=true)/\(look=true->∀k∈re.kids,k.every (λr=>decide (r.op≠5))=true)/\∀k∈re.kids,k.nest a=false):=by
  intro A look a hA ha;rw[ajo];constructor
  ·intro h;have h':=λk hk=>(ih k hk (v2 k hk) (o2 k hk) A look a hA ha).1 (h k hk);exact⟨λk hk=>(h' k hk).1,λk hk=>(h' k hk).2.1,λe k hk=>(h' k hk).2.2.1 e,λk hk=>(h' k hk).2.2.2⟩
  ·rintro ⟨h1,h2,h3,h4⟩ k hk;exact(ih k hk (v2 k hk) (o2 k hk) A look a hA ha).2 ⟨h1 k hk,h2 k hk,λe=>h3 e k hk,h4 k hk⟩
 have VA:yE re=true ↔ (re.iv=true->∀k∈re.kids,k.every (λr=>decide (r.op≠5))=true):=by
  unfold yE;cases re.iv with
  |false=>simp
  |true=>simp
 have hn:∀a,re.nest a=false ↔ ¬(re.op=5/\re.n∈a)/\∀k∈re.kids,k.nest (if re.op=5 then a++[re.n] else a)=false:=by
  intro a;rw[Re.zP];by_cases hc:re.op=5/\re.n∈a
  ·rw[be hc];simp [hc]
  ·rw[ap hc,List.any_eq_false];simp [hc]
 rw[Re.av,Re.av,Re.av,hu,VA,hn,decide_eq_true_eq,Re.JK];by_cases c1:re.op=6\/re.op=10\/re.op=9
 ·rw[be c1];simp only[ajf,false_iff];exact λh=>h.1.1.1 c1
 rw[ap c1];by_cases c2:re.op=4/\(re.mode=2\/Re.EI re.kids=true)
 ·rw[be c2];simp only[ajf,false_iff];exact λh=>h.1.1.2 c2
 rw[ap c2];have aaD:re.iv=decide (re.op=7\/re.op=8):=rfl;by_cases o5:re.op=5
 ·have ig:=ha re.n (jh o5) ji;by_cases c3:re.op=5/\(look=true\/A.getD re.n.toNat false=true)
  ·rw[be c3];simp only[ajf,false_iff];rintro ⟨_,_,h3,h4⟩;rcases c3.2 with e|e
   ·exact(h3 e).1 o5
   ·exact h4.1 ⟨o5,ig.2 e⟩
  rw[ap c3,be o5,be o5];have hlf:look=false:=by
   cases hb:look with
   |false=>rfl
   |true=>exact absurd ⟨o5,.inl hb⟩ c3
  have MQ:re.n ∉ a:=λh=>c3 ⟨o5,.inr (ig.1 h)⟩;have e7:decide (re.op=7\/re.op=8)=false:=ce ae;have dX:=jh o5;rw[hk (A.set re.n.toNat true) (look||decide (re.op=7\/re.op=8)) (a++[re.n]) (by simpa using hA) (λn n0 n1=>by
   rw[List.mem_append,List.mem_singleton];by_cases e:n=re.n
   ·subst e;rw[nv ae];simp
   ·rw[l6 ae,<- ha n n0 n1];simp [e]),hlf,e7,aaD,e7]
  constructor
  ·rintro ⟨h1,h2,h3,h4⟩;exact⟨⟨⟨c1,c2⟩,h1⟩,⟨(λe=>by cases e),h2⟩,(λe=>by cases e),λh=>MQ h.2,h4⟩
  ·rintro ⟨⟨_,h1⟩,⟨_,h2⟩,_,_,h4⟩;exact⟨h1,h2,(λe=>by cases e),h4⟩
 ·rw[ap (λh=>o5 h.1),ap o5,ap o5,hk A (look||decide (re.op=7\/re.op=8)) a hA ha,aaD];constructor
  ·rintro ⟨h1,h2,h3,h4⟩;exact⟨⟨⟨c1,c2⟩,h1⟩,⟨λe=>h3 (by rw[e,Bool.or_true]),h2⟩,λe=>⟨o5,h3 (by rw[e,ajC])⟩,λh=>o5 h.1,h4⟩
  ·rintro ⟨⟨_,h1⟩,⟨h5,h2⟩,h3,_,h4⟩;refine⟨h1,h2,λe=>?_,h4⟩;rcases Bool.or_eq_true _ _ ▸ e with e|e
   ·exact(h3 e).2
   ·exact h5 e
theorem z9 (p:eJ):fj p=Ct p:=by
 unfold fj Ct;by_cases hv:cz p=0
 ·have UF:¬cz p≠0:=by rw[hv];simp
  rw[ap UF,ap UF];obtain⟨v1,v2,v3,v4,v5⟩:=cT hv;have xh:=lF v4 p.re v5 v1;have FL:=Hd v5;have hki:=JX p.re FL xh (List.replicate 10 false) false [] aj (λn n0 n1=>by
   have:(List.replicate 10 false).getD n.toNat false=false:=by rw[aja,akb];split <;> rfl
   rw[this];simp)
  have rZ:=Pe p.re;have kR:(p.re.gz.any λr=>decide (iw .and .i64 r.kT 64≠0))=!(p.re.every yE):=by
   have e1:(p.re.gz.any λr=>decide (iw .and .i64 r.kT 64≠0))=!(p.re.gz.all λr=>r.every λr=>decide (r.op≠5)):=by
    rw[List.not_all_eq_any_not];congr 1;funext r;have:=Vh r;by_cases hz:iw .and .i64 r.kT 64=0
    ·rw[this.1 hz];simp [hz]
    ·have:r.every (λr=>decide (r.op≠5))=false:=by rw[ajO];exact λh=>hz (this.2 h)
     rw[this];simp [hz]
   rw[e1,Hz,Gq (P:=λ_=>true) (g:=yE) (λr _=>?_) p.re (dN (λ_ _=>rfl) p.re xh)];unfold yE;cases hl:r.iv with
   |false=>rfl
   |true =>
    have ho:r.op=7\/r.op=8:=of_decide_eq_true hl;simp only[aje,ajx];rw[Bool.eq_iff_iff,Re.av,ajo,decide_eq_true_eq];exact⟨λh=>h.2,λh=>⟨ae,h⟩⟩
  have abv:(p.re.gz.any λr=>decide (8191<dv (PH r)))=!(p.re.every Fs):=by
   have e1:(p.re.gz.any λr=>decide (8191<dv (PH r)))=!(p.re.gz.all λr=>decide (dv (PH r)<=8191)):=by
    rw[List.not_all_eq_any_not];congr 1;funext r;by_cases hz:8191<dv (PH r)
    ·rw[bi hz,ce ae];rfl
    ·rw[ce hz,bi ae];rfl
   rw[e1,Hz,Gq (P:=l5) (g:=Fs) (λr hr=>?_) p.re xh];unfold Fs;cases hl:r.iv with
   |false=>rfl
   |true =>
    have ho:r.op=7\/r.op=8:=of_decide_eq_true hl;obtain⟨x,hx⟩:∃x,r.kids=[x]:=List.length_eq_one_iff.1 ((iO.1 hr).1 ae);have hhd:PH r=x:=by unfold PH;rw[hx];rfl
    simp only[aje,ajx,hhd,hx,ajS,ajV,ajk];rw[decide_eq_decide];omega
  have hlen:(decide (8191<dv p.re)||!(p.re.every Fs))=!(nW p.re):=by
   unfold nW;by_cases hz:8191<dv p.re
   ·rw[bi hz,ce ae];rfl
   ·rw[ce hz,bi ae];simp
  rw[kR,abv,hlen];by_cases pX:p.re.dW (List.replicate 10 false) false=true
  ·obtain⟨k1,k2,_,k4⟩:=hki.1 pX;rw[ap (by rw[rZ.2 k1,k4];simp),ap (by rw[k2];simp),pX];simp only[Bool.true_eq_false,if_false];cases nW p.re <;> rfl
  ·have Db:p.re.dW (List.replicate 10 false) false=false:=by simpa using pX
   rw[be Db];by_cases c1:iw .and .i64 p.re.kT 43≠0\/p.re.nest []=true
   ·rw[be c1]
   ·rw[ap c1];by_cases c2:(!(p.re.every yE))=true
    ·rw[be c2]
    ·exfalso;apply pX;refine hki.2 ⟨rZ.1 (Decidable.not_not.1 λh=>c1 (.inl h)),by simpa using c2,(λe=>by cases e),?_⟩;rw[ajO];exact λh=>c1 (.inr h)
 ·rw[be hv,be hv]
theorem Xu {p:eJ} (h:Ct p=0):p.re.every RG=true/\p.re.nest []=false:=by
 obtain⟨hv,hk,_⟩:=mQ h;obtain⟨v1,v2,v3,v4,v5⟩:=cT hv;have xh:=lF v4 p.re v5 v1;have FL:=Hd v5;obtain⟨k1,k2,_,k4⟩:=(JX p.re FL xh (List.replicate 10 false) false [] aj (λn n0 n1=>by
  have:(List.replicate 10 false).getD n.toNat false=false:=by rw[aja,akb];split <;> rfl
  rw[this];simp)).1 hk
 have UC:=GC v4 p.re v5 v1 k1;refine⟨Cf (q:=λr=>uL r&&yE r) (λre h1 h2=>P0.2 ⟨h1,by rw[aji]at h2;exact h2⟩) p.re UC (Cf (p:=uL) (q:=yE) (λre h1 h2=>by rw[h1,h2];rfl) p.re k1 k2),k4⟩
end Go.Proofs.Ytfmdmlfhigocaaa
