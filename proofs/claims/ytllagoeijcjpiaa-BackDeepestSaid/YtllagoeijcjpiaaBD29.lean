/- A part of the proof (H15 H16). -/
import Derived.Test.YtllagoeijcjpiaaBD3
import Derived.Test.YtllagoeijcjpiaaBD22
import Derived.Test.YtllagoeijcjpiaaBD28
set_option linter.unusedSimpArgs false
set_option linter.unusedVariables false
set_option maxRecDepth 100000
set_option maxHeartbeats 80000000
namespace Go.Proofs.Ytllagoeijcjpiaa
open Go.VL
section run
variable {g0:Nat}{t:List Int}{F:Int}{kind:Int}{re:Re}{k bO:Int}{next:Goal}{i:Int}{c:aq}{n:Int}{st st':aU}{o d d' w e:Int}{l:aq} (he:st.empty=false)
include he
theorem Ki (ma:1≤n) (kv:n≤1152921504606846976):dH g0 t F 56 Goal.nil.d i c n st o d st d (n-1) i c:=by
 have mZ:Goal.nil.d=.sc (.pointer none):=rfl
 have w1:IntKind.i64.wrap (n-1)=n-1:=bR _ (by omega)
 unfold dH cW fm
 rw[he]
 refine av Try.func56 rfl Try.ntmps56 Try.results56 rfl 1 268442655 (by simp) (by simp) ?_
 simp only[zX,simprocAttr,i64,bV,iD,bD,mZ,w1]
 exact⟨_,rfl⟩
theorem KG (hc:dH g0 t F 98 (Goal.mk 1 re k bO next).d i c n st o d st' d' w e l):dH g0 t F 56 (Goal.mk 1 re k bO next).d i c n st o d st' d' w e l:=by
 unfold dH cW fm at hc ⊢
 rw[he]at hc ⊢
 simp only[Goal.aN,i64,bV,iD,bD]at hc
 refine av Try.func56 rfl Try.ntmps56 Try.results56 rfl 1 268442655 (by simp) (by simp) ?_
 simp only[zX,simprocAttr,i64,bV,Goal.aN,iD,bD]
 refine⟨⟨_,rfl⟩,?_⟩
 refine au hc rfl rfl rfl rfl rfl rfl ?_
 simp only[zX,simprocAttr,i64,bV,iD,bD]
theorem Ia (hk:re.mn≤k) (hi:i=bO):dH g0 t F 56 (Goal.mk 2 re k bO next).d i c n st o d st d n 0 []:=by
 unfold dH cW fm
 rw[he]
 refine av Try.func56 rfl Try.ntmps56 Try.results56 rfl 1 268442655 (by simp) (by simp) ?_
 simp only[zX,simprocAttr,i64,bV,Goal.aN,iD,bD]
 refine⟨⟨_,rfl⟩,?_⟩
 refine an mix [] [] (by rfl) ?_
 simp only[zX,simprocAttr,i64,bV,iD,bD,decide_eq_true (show k ≥ re.mn from hk),decide_eq_true hi,bd,VO]
theorem HB (hk:¬(re.mn≤k∧i=bO)) (dL:0≤k) (eO:k≤10000000000000) (hc:dH g0 t F 56 (Goal.mk 1 re (k+1) 0 next).d i c n st o d st' d' w e l):dH g0 t F 56 (Goal.mk 2 re k bO next).d i c n st o d st' d' w e l:=by
 have w1:IntKind.i64.wrap (k+1)=k+1:=bR _ (by omega)
 unfold dH cW fm at hc ⊢
 rw[he]at hc ⊢
 simp only[Goal.aN,i64,bV,iD,bD]at hc
 have dG:decide (k ≥ re.mn)=false∨(decide (k ≥ re.mn)=true∧decide (i=bO)=false):=by
  by_cases h:re.mn≤k
  ·exact .inr ⟨decide_eq_true h,decide_eq_false fun h'=>hk ⟨h,h'⟩⟩
  ·exact .inl (decide_eq_false h)
 rcases dG with dk|⟨dk,di⟩
 ·refine av Try.func56 rfl Try.ntmps56 Try.results56 rfl 1 268442655 (by simp) (by simp) ?_
  simp only[zX,simprocAttr,i64,bV,Goal.aN,iD,bD]
  refine⟨⟨_,rfl⟩,?_⟩
  refine an mix [] [] (by rfl) ?_
  simp only[zX,simprocAttr,i64,bV,iD,bD,dk]
  refine aK bL.aV ?_
  refine an mix [19,23] [(15,[2],[2])] (by rfl) ?_
  simp only[zX,simprocAttr,i64,bV,iD,bD,hole,Re.ae re,w1]
  refine bn (aP [2] (by simp [bk,bA,aZ.go,aZ,bQ]) (au hc rfl rfl rfl rfl rfl rfl ⟨rfl,rfl⟩)) ?_
  simp only[zX,simprocAttr,i64,bV,iD,bD]
 ·refine av Try.func56 rfl Try.ntmps56 Try.results56 rfl 1 268442655 (by simp) (by simp) ?_
  simp only[zX,simprocAttr,i64,bV,Goal.aN,iD,bD]
  refine⟨⟨_,rfl⟩,?_⟩
  refine an mix [] [] (by rfl) ?_
  simp only[zX,simprocAttr,i64,bV,iD,bD,dk,di]
  refine aK bL.aV ?_
  refine an mix [19,23] [(15,[2],[2])] (by rfl) ?_
  simp only[zX,simprocAttr,i64,bV,iD,bD,hole,Re.ae re,w1]
  refine bn (aP [2] (by simp [bk,bA,aZ.go,aZ,bQ]) (au hc rfl rfl rfl rfl rfl rfl ⟨rfl,rfl⟩)) ?_
  simp only[zX,simprocAttr,i64,bV,iD,bD]
theorem HF (hi:i=bO) (hc:dH g0 t F 56 next.d i c n st o d st' d' w e l):dH g0 t F 56 (Goal.mk 4 re k bO next).d i c n st o d st' d' w e l:=by
 unfold dH cW fm at hc ⊢
 rw[he]at hc ⊢
 simp only[i64,bV,iD,bD]at hc
 have hi':decide (i≠bO)=false:=decide_eq_false (by simpa using hi)
 refine av Try.func56 rfl Try.ntmps56 Try.results56 rfl 1 268442655 (by simp) (by simp) ?_
 simp only[zX,simprocAttr,i64,bV,Goal.aN,iD,bD,hi',decide_eq_true hi,Vs]
 refine⟨⟨_,rfl⟩,?_⟩
 refine au hc rfl rfl rfl rfl rfl rfl ?_
 simp only[zX,simprocAttr,i64,bV,iD,bD]
theorem GO (hi:i≠bO):dH g0 t F 56 (Goal.mk 4 re k bO next).d i c n st o d st d n 0 []:=by
 unfold dH cW fm
 rw[he]
 have hi':decide (i≠bO)=true:=decide_eq_true hi
 refine av Try.func56 rfl Try.ntmps56 Try.results56 rfl 1 268442655 (by simp) (by simp) ?_
 simp only[zX,simprocAttr,i64,bV,Goal.aN,iD,bD,hi',decide_eq_false hi,Vt,bd,VO]
 exact⟨_,rfl⟩
theorem Ie (k1:kind≠1) (k2:kind≠2) (k3:kind≠3) (k4:kind≠4) (hc:dH g0 t F 99 (Goal.mk kind re k bO next).d i c n st o d st' d' w e l):dH g0 t F 56 (Goal.mk kind re k bO next).d i c n st o d st' d' w e l:=by
 unfold dH cW fm at hc ⊢
 rw[he]at hc ⊢
 simp only[Goal.aN,i64,bV,iD,bD]at hc
 refine av Try.func56 rfl Try.ntmps56 Try.results56 rfl 1 268442655 (by simp) (by simp) ?_
 simp only[zX,simprocAttr,i64,bV,Goal.aN,iD,bD,decide_eq_false k1,decide_eq_false k2,decide_eq_false k3,decide_eq_false k4]
 refine⟨⟨_,rfl⟩,?_⟩
 refine au hc rfl rfl rfl rfl rfl rfl ?_
 simp only[zX,simprocAttr,i64,bV,iD,bD]
theorem H3 (n1:1≤re.n) (n2:re.n≤c.length) (n3:re.n≤1000000) (cI:c.length≤1000000000) (hc:dH g0 t F 56 next.d i (c.set (re.n-1).toNat (bO,i)) n st o d st' d' w e l):dH g0 t F 56 (Goal.mk 3 re k bO next).d i c n st o d st' d' w e l:=by
 have w1:IntKind.i64.wrap (re.n-1)=re.n-1:=bR _ (by omega)
 have aT:(re.n-1).toNat<c.length:=by omega
 have b1:0≤re.n-1:=by omega
 have b2:re.n-1<(c.length:Int):=by omega
 have Ry:c[(re.n-1).toNat]?=some c[(re.n-1).toNat]:=Vu aT
 have A2:∀e∈(c.map aM).map (fun x=>x.map V.d),e.length=2:=fun e he=>by
  obtain⟨x,hx,rfl⟩:=List.mem_map.1 he
  obtain⟨p,_,rfl⟩:=List.mem_map.1 hx
  rfl
 have cC:((c.map aM).map (fun x=>x.map V.d)).set (re.n-1).toNat [i64 bO,i64 i]=((c.set (re.n-1).toNat (bO,i)).map aM).map (fun x=>x.map V.d):=by
  rw[List.map_set,List.map_set];rfl
 unfold dH cW fm at hc ⊢
 rw[he]at hc ⊢
 simp only[i64,bV,iD,bD]at hc
 refine av Try.func56 rfl Try.ntmps56 Try.results56 rfl 1 268442655 (by simp) (by simp) ?_
 simp only[zX,simprocAttr,i64,bV,Goal.aN,iD,bD,bd]
 refine⟨⟨_,rfl⟩,A2,⟨by omega,by simp⟩,?_⟩
 refine an mix [14] [] (by rfl) ?_
 simp only[zX,simprocAttr,i64,bV,iD,bD,bd,w1,b1,b2,aT,Ry,aM,VU,Vv,VB,Wc]
 refine aP [2] (cargs:=[.rf 0 g0 0 0,.d next.d,.d (.sc (.int .i64 i)),.d (bd (c.set (re.n-1).toNat (bO,i))),.d (.sc (.int .i64 n))]) ?_ (au hc rfl rfl rfl rfl rfl rfl ?_)
 ·simp only[i64]at cC
  rw[cC]
  simp only[aZ.go]
  rw[wX (live:=false) (sz:=2) (aL:=((c.set (re.n-1).toNat (bO,i)).map aM).map (fun x=>x.map V.d)) (ds:=(c.set (re.n-1).toNat (bO,i)).map aM) rfl (by rw[Wx,VZ (by simp)]) (by simp) (.inr rfl)]
  simp [bk,bA,aZ,bQ,bd]
 simp only[zX,simprocAttr,i64,bV,iD,bD]
 rfl
end run
def LY (g0:Nat) (t:List Int) (F:Int) (nc:Nat) (neg:Bool) (nx:Goal) (i:Int) (c:aq) (ah:Int) (s2:aU) (b:Bool) (st':aU) (o d2 d' wl:Int) (ll:aq):Prop :=
 (s2.empty=true∧b=true∧st'=s2∧d'=d2)∨(s2.empty=false∧s2.steps≤F∧((decide (wl≤0)=neg∧b=false∧st'=s2∧d'=d2) ∨
  (neg=true∧decide (wl≤0)=false∧A6 g0 t F nc 56 nx.d i c ah s2 b st' o d2 d') ∨
  (neg=false∧decide (wl≤0)=true∧A6 g0 t F nc 56 nx.d i ll ah s2 b st' o d2 d')))
def ME (g0:Nat) (t:List Int) (F:Int) (nc:Nat) (ah:Int) (task:ETask) (st:aU) (b:Bool) (st':aU) (o d d':Int):Prop :=
 match task with
 |.run g i c=>jl t F nc ah i c st o→GK nc i st.steps g→A6 g0 t F nc 56 g.d i c ah st b st' o d d'
 |.rep re k nx i c=>jl t F nc ah i c st o→GK nc i st.steps nx→re.every (vB nc)=true→re.op=4→0≤k→k≤st.steps→∀kind bO,A6 g0 t F nc 98 (Goal.mk kind re k bO nx).d i c ah st b st' o d d'
 |.node re nx i c=>jl t F nc ah i c st o→GK nc i st.steps nx→re.every (vB nc)=true→∀kind k bO,A6 g0 t F nc 99 (Goal.mk kind re k bO nx).d i c ah st b st' o d d'
 |.body re nx i c=>jl t F nc ah i c st o→o+1≤st.steps→GK nc i st.steps nx→re.every (vB nc)=true→re.op≠4→∀s0:aU,s0.step F=st→s0.empty=false→0≤s0.steps→s0.steps≤10000000000000→∀kind k bO,
   ∃w e l,mF t F nc ah i st b st' w e l∧dH g0 t F 99 (Goal.mk kind re k bO nx).d i c (fI ah st) s0 o d st' d' w e l
 |.alt l nx i c=>jl t F nc ah i c st o→o+1≤st.steps→GK nc i st.steps nx→(∀k∈l,k.every (vB nc)=true)→∀e0 l0,
   ∃w e l',mF t F nc ah i st b st' w e l'∧vM g0 t F nx i c o l st (fI ah st) d e0 l0 st' d' w e l'
 |.behind re kid nx i c j=>jl t F nc ah i c st o→o+1≤st.steps→GK nc i st.steps nx→kid.every (vB nc)=true→(j:Int)≤i+1 →
   ∃s2 d2 wl el ll,Fe g0 t F (Goal.mk 0 kid 0 0 (lT i)).d c o j st d s2 d2 wl el ll∧st.steps≤s2.steps∧s2.ends=st.ends∧LY g0 t F nc re.neg nx i c ah s2 b st' o d2 d' wl ll
section pre
variable {t:List Int}{F:Int}{nc:Nat}{ah i:Int}{c:aq}{st:aU}{o:Int}
theorem jl.step (h:jl t F nc ah i c st o) (he:(st.step F).empty=false):jl t F nc ah i c (st.step F) o:=by
 have h1:st.steps<F:=by
  simp only[aU.step,Bool.or_eq_false_iff,decide_eq_false_iff_not]at he
  omega
 have:=h.s0
 have:=h.o1
 exact⟨he,by show 0≤st.steps+1;omega,by show st.steps+1≤F;omega,h.want,h.ah,h.i0,h.i1,h.ai,h.cl,h.o0,by show o≤st.steps+1;omega⟩
theorem jl.sub (h:jl t F nc ah i c st o) {q:Int} (h0:0≤q) (h1:q≤t.length):jl t F nc 1 q c st.sub o :=
 ⟨rfl,h.s0,h.s1,by rw[zP];omega,by omega,h0,h1,h.ai,h.cl,h.o0,h.o1⟩
theorem jl.ib {x:aU} (h:jl t F nc ah i c st o) (hx:x.empty=false) (hs:st.steps≤x.steps) (hF:x.steps≤F) {e:Int}{d:aq} (h0:0≤e) (h1:e≤t.length) (hd:cr t d) (Bm:d.length=nc):jl t F nc ah e d (st.ib x) o :=
 ⟨hx,by show 0≤x.steps;have:=h.s0;omega,hF,h.want,h.ah,h0,h1,hd,Bm,h.o0,by show o≤x.steps;have:=h.o1;omega⟩
theorem jl.on {s2:aU} (h:jl t F nc ah i c st o) (he:s2.empty=false) (hs:st.steps≤s2.steps) (hF:s2.steps≤F) (hw:1≤fI ah s2):jl t F nc ah i c s2 o :=
 ⟨he,by have:=h.s0;omega,hF,hw,h.ah,h.i0,h.i1,h.ai,h.cl,h.o0,by have:=h.o1;omega⟩
theorem jl.at {e:Int}{d:aq} (h:jl t F nc ah i c st o) (h0:0≤e) (h1:e≤t.length) (hd:cr t d) (Bm:d.length=nc):jl t F nc ah e d st o :=
 ⟨h.empty,h.s0,h.s1,h.want,h.ah,h0,h1,hd,Bm,h.o0,h.o1⟩
theorem jl.up (h:jl t F nc ah i c st o) (ho:o+1≤st.steps):jl t F nc ah i c st (o+1) :=
 ⟨h.empty,h.s0,h.s1,h.want,h.ah,h.i0,h.i1,h.ai,h.cl,by have:=h.o0;omega,ho⟩
theorem mF.no (h:jl t F nc ah i c st o) (e:Int) (l:aq):mF t F nc ah i st false st (fI ah st) e l :=
 ⟨Vr _,.inl ⟨rfl,h.empty,h.s1,rfl,h.want⟩⟩
end pre
section walk
variable {g0:Nat}{t:List Int}{F:Int}{nc:Nat} (ht:t.length≤1000000) (Ra:F≤1200000000000) (MP:nc≤1000000)
theorem iS {ah i q:Int}{c:aq}{st x:aU}{b:Bool}{o d d':Int}{h:Goal} (hP:jl t F nc ah i c st o) (h0:0≤q) (h1:q≤t.length) (hk:GK nc q st.steps h) (ih:ME g0 t F nc 1 (.run h q c) st.sub b x o d d') :
  ∃w e l,gy g0 t F h.d q c st (st.ib x) o d d' w e l∧st.steps≤x.steps∧(x.empty=false→x.steps≤F∧((w=1∧x.ends=[])∨(w=0∧x.ends=[e]∧x.ai=[l]∧q≤e∧e≤t.length∧cr t l∧l.length=nc))):=by
 obtain⟨w,e,l,hp,hw,hc⟩:=LV hP.empty (ih (hP.sub h0 h1) hk)
 refine⟨w,e,l,hc,hp.1,fun hx=>?_⟩
 obtain⟨_,hp|hp|hp⟩:=hp
 ·refine⟨hp.2.2.1,?_⟩
  rcases hw hx with h|h
  ·exact .inl h
  ·have h1:=hp.2.2.2.2
   have h2:=h.1
   omega
 ·obtain⟨_,_,hF,Rf,_,es,cs,_,_,l1,l2,l3,l4,_⟩:=hp
  refine⟨hF,?_⟩
  rcases hw hx with h|h
  ·have h2:=h.1;omega
  ·exact .inr ⟨h.1,h.2.1,h.2.2,l1,l2,l3,l4⟩
 ·rw[hx]at hp;cases hp.2
end walk
end Go.Proofs.Ytllagoeijcjpiaa
