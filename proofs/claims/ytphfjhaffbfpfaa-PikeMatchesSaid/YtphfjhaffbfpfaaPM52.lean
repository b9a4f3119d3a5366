/- A part of the proof (K38 K43 K44 K48 K49 K50 K51). -/
import Derived.Test.YtphfjhaffbfpfaaPM3
import Derived.Test.YtphfjhaffbfpfaaPM15
import Derived.Test.YtphfjhaffbfpfaaPM50
import Derived.Test.YtphfjhaffbfpfaaPM51
import Derived.Test.YtphfjhaffbfpfaaPM37
set_option linter.all false
set_option maxRecDepth 100000
set_option maxHeartbeats 80000000
namespace Go.Proofs.Ytphfjhaffbfpfaa
open Go.VL Go.Proofs.Try
variable{s:List VL.Obj}
theorem L6 (g:cJ) (x:bR) (hl:x.set.length<=1000000000) (hg:g.ins.length<=1000000000) (KG:0<=g.ah) (x0:g.ah<=9):ba prog 58 [qP g,.d (.el x.cells)] (bV (iw g.ins.length g.ah g.aK x)):=by
 by_cases o0:x.op=0
 ·exact N3 g x hl o0
 by_cases o1:x.op=1
 ·exact NP g x hl o1
 by_cases o2:x.op=2
 ·exact PR g x hl hg o2
 by_cases o3:x.op=3
 ·exact Ns g x hl hg o3
 by_cases o4:x.op=4
 ·exact Oj g x hl KG x0 o4
 by_cases o5:x.op=5
 ·exact Pp g x hl o5
 exact O1 g x o0 o1 o2 o3 o4 o5
theorem Nh {α:Type}{p:α->Bool}{l:List α}{i:Nat}{x:α} (hx:l[i]?=some x) (h:(l.take i).all p=true) (hp:p x=true):(l.take (i+1)).all p=true:=by rw[cy hx,List.all_append,h];simp [hp]
theorem vl (g:cJ) (hs:g.ins.length<=1000000000) (hl:∀x∈g.ins,x.set.length<=1000000000):ba prog 43 [qP g] (i64 (gV g)):=by
 have Z0:(⟨0,true,3,[[.d (.sl (g.ins.map bR.cells)),.d (.sc (.int .i64 g.ah)),.d (.sc (.bool g.aK))]]⟩:VL.Obj)=jf g:=rfl;unfold gV;refine ar func43 rfl ntmps43 results43 rfl 0 52776608464911 (by simp) (by simp) ?_;by_cases c1:8192<g.ins.length
 ·have zr:(8192:Int)<g.ins.length:=by omega
  rw[ap c1];simp only[zX,simprocAttr,i64,bV,iD,bD,aM,zr,ado]
 rw[am c1];have zr:¬(8192:Int)<g.ins.length:=by omega
 by_cases c2:g.ins.length=0\/g.ah<0\/9<g.ah
 ·rw[ap c2];by_cases d1:g.ah<0
  ·simp only[zX,simprocAttr,i64,bV,iD,bD,aM,zr,d1,ado]
  ·by_cases d2:9<g.ah
   ·simp only[zX,simprocAttr,i64,bV,iD,bD,aM,zr,d1,d2,ado]
   ·have d3:=eq_true (show (g.ins.length:Int)=0 by omega);simp only[zX,simprocAttr,i64,bV,iD,bD,aM,zr,d1,d2,d3,ado]
 rw[am c2];have d1:¬g.ah<0:=by omega
 have d2:¬9<g.ah:=by omega
 have d3:¬(g.ins.length:Int)=0:=by omega
 simp only[zX,simprocAttr,i64,bV,iD,bD,aM,zr,d1,d2,d3,ado];refine aJ (λn e s=>∃i:Nat,n=g.ins.length-i/\i<=g.ins.length/\e 1=.rf 0 0 0 0/\e 24=i64 g.ins.length/\e 25=i64 i/\(g.ins.take i).all (iw g.ins.length g.ah g.aK)=true/\s=[jf g])
  ⟨_,_,_,cU.refl,0,rfl,by omega,rfl,rfl,rfl,rfl,rfl⟩ ?_
 rintro n e s ⟨i,rfl,hi,h1,Vd,VA,dg,rfl⟩;rcases adV i g.ins.length with aH|iP
 ·obtain⟨x,hx⟩:∃x,g.ins[i]?=some x:=⟨_,adn aH⟩
  have bo:(i:Int)<g.ins.length:=by omega
  have hp:=L6 g x (hl x (adw hx)) hs (by omega) (by omega);simp only[aM,i64,bV,iD,bD]at hp;simp only[zX,simprocAttr,i64,bV,iD,bD,jf,h1,Vd,VA,bo,hx,ado];refine ao mix [] [] (by rfl) ?_;simp only[zX,simprocAttr,i64,bV,iD,bD,jf,h1,Vd,VA,bo,hx,ado];refine⟨rfl,bY hp rfl rfl ?_⟩;cases hB:iw g.ins.length g.ah g.aK x with
  |true =>
   simp only[zX,simprocAttr,i64,bV,iD,bD,jf,h1,Vd,VA,bo,hx,ado];refine⟨g.ins.length-(i+1),_,_,by omega,cU.refl,i+1,rfl,aH,?_,?_,?_,Nh hx dg hB,rfl⟩ <;> (try simp only[zU,Nat.reduceBEq,Nat.reduceShiftRight,Nat.reduceMod,Nat.reduceEqDiff,reduceIte])
   ·exact h1
   ·exact Vd
   ·rw[bM _ (by omega)];rfl
  |false =>
   have hn:¬g.ins.all (iw g.ins.length g.ah g.aK)=true:=λh=>by have:=List.all_eq_true.1 h x (adw hx);rw[hB]at this;cases this
   rw[am hn];simp only[zX,simprocAttr,i64,bV,iD,bD,jf,h1,Vd,VA,bo,hx,ado]
 ·have fy:i=g.ins.length:=by omega
  subst fy;rw[adZ]at dg;rw[ap dg];have bo:¬(g.ins.length:Int)<g.ins.length:=by omega
  have w1:IntKind.i64.wrap ((g.ins.length:Int)-1)=((g.ins.length-1:Nat):Int):=by rw[bM _ (by omega)];omega
  have hb:((g.ins.length-1:Nat):Int)<g.ins.length:=by omega
  obtain⟨x,hx⟩:∃x,g.ins[g.ins.length-1]?=some x:=⟨_,adn (by omega)⟩
  have hlo:pK g=x.op:=by unfold pK;rw[hx]
  rw[hlo];simp only[zX,simprocAttr,i64,bV,iD,bD,jf,h1,Vd,VA,bo,w1,hb,hx,bR.cells,ado];have Pb:=List.all_eq_true.1 dg x (adw hx);by_cases o0:x.op=0
  ·rw[am (by omega)];have Xi:=eq_true o0;simp only[zX,simprocAttr,i64,bV,iD,bD,Xi]
  by_cases o2:x.op=2
  ·rw[am (by omega)];have o2':=eq_true o2;simp only[zX,simprocAttr,i64,bV,iD,bD,o0,o2']
  by_cases o3:x.op=3
  ·rw[am (by omega)];have PX:=eq_true o3;simp only[zX,simprocAttr,i64,bV,iD,bD,o0,o2,PX]
  have e7:x.op=1\/4<=x.op:=by
   by_cases o1:x.op=1
   ·exact .inl o1
   by_cases o4:x.op=4
   ·exact .inr (by omega)
   by_cases o5:x.op=5
   ·exact .inr (by omega)
   unfold iw mV at Pb;simp [o0,o1,o2,o3,o4,o5]at Pb
  rw[ap e7];simp only[zX,simprocAttr,i64,bV,iD,bD,o0,o2,o3]
theorem BG (g:cJ) (t:List Int) (hs:g.ins.length<=1000000000) (hl:∀x∈g.ins,x.set.length<=1000000000) (h:gV g≠0\/65536<t.length):ba prog 18 [qP g,.d (av t)] (.tu [.d (.sc (.pointer none)),i64 (if gV g≠0 then gV g else 4)]):=by
 have hv:=vl g hs hl;generalize gV g=E at *;simp only[aM,i64,iD,bD]at hv;by_cases he:E=0
 ·have lu:=eq_true he;have ht:(65536:Int)<t.length:=by omega
  rw[am (λh=>h he)];refine ar func18 rfl ntmps18 results18 rfl 0 119 (by simp) (by simp) ?_;simp only[zX,simprocAttr,i64,bV,iD,bD,aM];refine az hv rfl rfl ?_;simp only[zX,simprocAttr,i64,bV,iD,bD,aM,lu,ht,av,ado,ne_eq,aeh,decide_false]
 ·rw[ap he];refine ar func18 rfl ntmps18 results18 rfl 0 119 (by simp) (by simp) ?_;simp only[zX,simprocAttr,i64,bV,iD,bD,aM];refine az hv rfl rfl ?_;simp only[zX,simprocAttr,i64,bV,iD,bD,aM,he,ne_eq,not_false_eq_true,decide_true]
theorem MK (g:cJ) (t:List Int) (hg:g.bW) (hl:∀x∈g.ins,x.set.length<=1000000000) (h:gV g=0) (ht:t.length<=65536):au prog 18 [qP g,.d (av t)] [] λv s=>v=.tu [.rf 0 1 0 0,i64 0]/\s=[gy g t,jJ (List.replicate g.ins.length 0)]:=by
 have Xr:=hg.CI;have hv:=vl g (by omega) hl;rw[h]at hv;simp only[aM,i64,iD,bD]at hv;have ZU:¬(65536:Int)<t.length:=by omega
 refine IU func18 rfl ntmps18 results18 rfl 0 119 (by simp) (by simp) ?_;simp only[zX,simprocAttr,i64,bV,iD,bD,aM];refine az hv rfl rfl ?_;simp only[zX,simprocAttr,i64,bV,iD,bD,aM,ZU,av,ado,ne_eq,aeh,decide_false];refine aS ca.bh ?_;refine aS ca.bh ?_;refine ao mix [] [(5,[1],[1]),(7,[2],[2])] (by rfl) ?_;simp only[zX,simprocAttr,i64,bV,iD,bD,aM,ZU,av,ado,hole,QE,Qz,JV];refine⟨⟨by omega,by omega,by omega⟩,[2,1],by decide,rfl,?_⟩;simp [ur,fh,dS.go,dS,List.idxOf?,List.findIdx?_cons,gy,jJ,i64,bV,av,iD]
theorem AG {g:cJ}{t:List Int} (hg:g.bW) (hl:∀x∈g.ins,x.set.length<=1000000000) (h:gV g=0) (ht:t.length<=65536){K:V->List VL.Obj->Prop}
  (hk:K (.tu [.rf s.length 1 0 0,i64 0]) (s++[b6 g t (s.length+1) (cQ g),jJ (List.replicate g.ins.length 0)])):au prog 18 [qP g,.d (av t)] s K:=by
 refine mS (MK g t hg hl h ht) [] rfl (by simp) (λk o h=>by simp at h) (by simp [aM,aX,aX.go,i64,bV]) (by simp [aM,ak,ak.go,i64,bV]) rfl ?_;rintro v s' ⟨rfl,rfl⟩ _;have e1:aX (qv [] s [] [gy g t,jJ (List.replicate g.ins.length 0)]) (.tu [.rf 0 1 0 0,i64 0])=.tu [.rf s.length 1 0 0,i64 0]:=by simp [qv,aX,aX.go,i64]
 have e2:bp (qv [] s [] [gy g t,jJ (List.replicate g.ins.length 0)]) (gy g t)=b6 g t (s.length+1) (cQ g):=by simp [qv,bp,gy,b6,cQ,aX,aX.go,i64,bV]
 have e3:bp (qv [] s [] [gy g t,jJ (List.replicate g.ins.length 0)]) (jJ (List.replicate g.ins.length 0))=jJ (List.replicate g.ins.length 0):=by simp [bp,jJ,aX,aX.go,i64]
 rw[e1];simp only[adF,List.take_zero,List.drop_zero,adP,adG,e2,e3,aZ];exact hk
theorem IF (g:cJ) (hg:g.bW) (t:List Int) (ht:t.length<=65536) (at_:Int) (ha0:0<=at_) (B7:at_<=t.length){K:V->List VL.Obj->Prop} (h2:s[2]?=some (b6 g t 3 (cQ g))) (h3:s[3]?=some (jJ (List.replicate g.ins.length 0)))
  (hk:∀m:List Int,K (.tu [(Et (Dz g t at_)).v,bV (Dz g t at_).isSome]) ((s.set 2 (b6 g t 3 (cQ g))).set 3 (jJ m))):au prog 19 [.rf 2 1 0 0,i64 at_,i64 at_] s K:=by
 have h:=Lm g hg t ht at_ at_ ha0 B7 B7 (List.replicate g.ins.length 0) (by simp);rw[Ll g hg t at_ ha0]at h;have e0:bp [2,3] (gy g t)=b6 g t 3 (cQ g):=by simp [bp,gy,b6,cQ,aX,aX.go,i64,bV]
 have e1:∀m,bp [2,3] (jJ m)=jJ m:=λm=>by simp [bp,jJ,aX,aX.go,i64]
 have oa:∀m,bJ 2 (jJ m)=true:=λm=>by unfold bJ;rw[adE];intro e he;obtain⟨c,hc,rfl⟩:=List.mem_map.1 he;rfl
 have Pe:bJ 2 (gy g t)=true:=by simp [bJ,gy,ak,i64,bV]
 refine gx [2,3] h (by decide) (by rfl) ?_ (by rfl) (by rfl) ?_ (r':=.tu [(Et (Dz g t at_)).v,bV (Dz g t at_).isSome]) ?_ ?_
 ·simp only[adG,adP,h2,h3,e0,e1]
 ·simp only[List.all_cons,List.all_nil,adA,adF,adI,Nat.reduceAdd,Pe,oa,Bool.and_true]
 ·simp [aX,aX.go,ra.v,i64,bV]
 ·simp only[adG,adP,e0,e1];exact hk _
theorem zb (g:cJ) (hs:g.ins.length<=1000000000) (hl:∀x∈g.ins,x.set.length<=1000000000) (t:List Int) (ht:t.length<=1000000000) (at_:Int):ba prog 7 [qP g,.d (av t),i64 at_] (.tu [(Et (wk g t at_).1).v,bV (wk g t at_).1.isSome,i64 (wk g t at_).2]):=by
 by_cases hE:gV g≠0\/65536<t.length
 ·have ni:=BG g t hs hl hE;have hr:wk g t at_=(none,if gV g≠0 then gV g else 4):=by
   unfold wk Bb;by_cases h0:gV g≠0
   ·rw[ap h0,am h0];try rw[ap h0]
   ·rw[am h0,am h0,ap (hE.resolve_left h0)];rfl
  rw[hr];have fG:(if gV g≠0 then gV g else 4)≠0:=by split <;> omega
  generalize (if gV g≠0 then gV g else 4)=E at *;simp only[aM,i64,iD,bD]at ni;refine ar func7 rfl ntmps7 results7 rfl 0 8143 (by simp) (by simp) ?_;simp only[zX,simprocAttr,i64,bV,iD,bD,aM];refine az ni rfl rfl ?_;simp only[zX,simprocAttr,i64,bV,iD,bD,aM,fG,ne_eq,not_false_eq_true,decide_true];rfl
 ·have Cj:gV g=0:=by
   by_cases h:gV g=0
   ·exact h
   ·exact(hE (.inl h)).elim
  have Wm:t.length<=65536:=by omega
  have hg:g.bW:=CE Cj;have s7:Bb g t at_=if at_<0\/(t.length:Int)<at_ then 5 else 0:=by unfold Bb;rw[am (λh=>h Cj),am (by omega)]
  refine ar func7 rfl ntmps7 results7 rfl 0 8143 (by simp) (by simp) ?_;simp only[zX,simprocAttr,i64,bV,iD,bD,aM];refine AG hg hl Cj Wm ?_;simp only[adA,adF,adr,adt,adI,Nat.reduceAdd];by_cases a0:at_<0
  ·have hr:wk g t at_=(none,5):=by
    have IT:Bb g t at_=5:=by rw[s7,ap (.inl a0)]
    unfold wk;rw[IT,am (by decide)]
   rw[hr];simp only[zX,simprocAttr,i64,bV,iD,bD,aM,a0,ne_eq,aeh,decide_false];rfl
  by_cases a1:(t.length:Int)<at_
  ·have hr:wk g t at_=(none,5):=by
    have IT:Bb g t at_=5:=by rw[s7,ap (.inr a1)]
    unfold wk;rw[IT,am (by decide)]
   rw[hr];simp only[zX,simprocAttr,i64,bV,iD,bD,aM,a0,a1,av,ado,ne_eq,aeh,decide_false];rfl
  have hr:wk g t at_=(Dz g t at_,0):=by
   have IT:Bb g t at_=0:=by rw[s7,am (by omega)]
   unfold wk;rw[ap IT]
  rw[hr];simp only[zX,simprocAttr,i64,bV,iD,bD,aM,a0,a1,av,ado,ne_eq,aeh,decide_false];refine IF g hg t Wm at_ (by omega) (by omega) rfl rfl ?_;intro m;simp only[zX,simprocAttr,i64,bV,iD,bD,aM,ra.v]
def pM (en:Int):VL.Obj:=⟨0,true,1,[[i64 en]]⟩
def tc (σ:List Int):VL.Obj:=⟨0,true,1,[[.so 4 σ.length 0 σ.length]]⟩
def pH (σ:List Int):VL.Obj:=⟨σ.length,true,1,σ.map λx=>[i64 x]⟩
theorem vz (n:Nat) (σ:List Int):bJ n (pH σ)=true:=by unfold bJ pH;rw[adE];intro e he;obtain⟨c,hc,rfl⟩:=List.mem_map.1 he;rfl
theorem vC (n:Nat) (g:cJ):bJ n (jf g)=true:=by simp [bJ,jf,ak,i64,bV]
theorem wG (n:Nat) (h:2<=n) (g:cJ) (t:List Int) (st:eG):bJ n (b6 g t 1 st)=true:=by simp [bJ,b6,ak,i64,bV];omega
theorem JG (n:Nat) (h:5<=n) (σ:List Int):bJ n (tc σ)=true:=by simp [bJ,tc,ak];omega
theorem QG (n:Nat) (en:Int):bJ n (pM en)=true:=by simp [bJ,pM,ak,i64]
theorem Sh {n:Nat} (h:5<=n) (g:cJ) (t:List Int) (st:eG) (σ:List Int):(((b6 g t 1 st).aI.all λe=>e.all (ak n))&&(((bK st).aI.all λe=>e.all (ak n))&&(((tc σ).aI.all λe=>e.all (ak n))&&(((pH σ).aI.all λe=>e.all (ak n))&&(((jf g).aI.all λe=>e.all (ak n))&&(dD st).aI.all λe=>e.all (ak n))))))=true:=by have h1:=wG n (by omega) g t st;have h2:=kQ n st;have h3:=sQ n st;have h4:=vC n g;have h5:=vz n σ;have h6:=JG n h σ;unfold bJ at h1 h2 h3 h4 h5 h6;rw[h1,h2,h3,h4,h5,h6];rfl
theorem Rm (g:cJ) (t:List Int) (en i:Int) (st:eG) (aU:st.ok g) (hn:st.n<=100000) :
  au prog 48 [i64 i,.so 6 st.gen 0 st.n,.rf 2 0 0 0,.rf 3 0 0 0] [b6 g t 1 st,bK st,pM en,tc [],pH [],jf g,dD st] λv s =>
   v=bV (decide (i<en))/\s=[b6 g t 1 st,bK st,pM en,tc (if i<en then [] else st.list.map jK.gZ),pH (if i<en then [] else st.list.map jK.gZ),jf g,dD st]:=by
 have Mj:(dD st).g=st.gen:=rfl;have Xl:(dD st).sz=3:=rfl;have RP:=aU.n;have hM:=wG 7 (by omega) g t st;have hK:=kQ 7 st;have hA:=sQ 7 st;have hB:=vC 7 g;have hT:=λσ=>vz 7 σ;unfold bJ at hM hK hA hB hT;by_cases c:i<en
 ·rw[ap c];refine ar func48 rfl ntmps48 results48 rfl 7 29007 (by simp) (by simp) ?_;simp only[zX,simprocAttr,i64,bV,pM,c];exact Sh (by omega) g t st []
 ·rw[am c];obtain⟨L,hL⟩:∃L,L=st.list.map jK.gZ:=⟨_,rfl⟩
  have hLl:L.length=st.n:=by rw[hL];unfold eG.list;simp;omega
  rw[<- hL];refine ar func48 rfl ntmps48 results48 rfl 7 29007 (by simp) (by simp) ?_;simp only[zX,simprocAttr,i64,bV,pM,c,Mj];refine aJ (λn e s=>∃j:Nat,n=st.n-j/\j<=st.n/\e 3=.rf 3 0 0 0/\e 12=.so 6 st.gen 0 st.n/\e 13=i64 st.n/\e 14=i64 j /\
   s=[b6 g t 1 st,bK st,pM en,tc (L.take j),pH (L.take j),jf g,dD st]) ⟨_,_,_,cU.refl,0,rfl,by omega,rfl,rfl,rfl,rfl,rfl⟩ ?_
  rintro n e s ⟨j,rfl,hj,h3,dZ,eB,e7,rfl⟩;rcases adV j st.n with aH|iP
  ·have bo:(j:Int)<st.n:=by omega
   obtain⟨x,hx⟩:∃x,st.arr[j]?=some x:=⟨_,adn (by omega)⟩
   have B4:(dD st).aI[j]?=some [V.d (iD x.gZ),V.d (iD x.from_),V.d (av x.aE)]:=by simp [dD,hx,jK.cells]
   have hLx:L[j]?=some x.gZ:=by rw[hL,adL];unfold eG.list;rw[ad1,ap aH,hx];rfl
   have SC:(L.take j).length=j:=by rw[ad5];omega
   have MQ:(L.take (j+1)).length=j+1:=by rw[ad5];omega
   simp only[zX,simprocAttr,i64,bV,iD,bD,h3,dZ,eB,e7,bo,Mj,Xl,B4,tc,pH,SC,adI,ado];have hT3:=λ(n:Nat) (h:5<=n)=>JG n h (L.take (j+1));refine⟨λe he=>by rw[List.mem_singleton.1 he];rfl,⟨by omega,by omega⟩,st.n-(j+1),_,_,by omega,cU.cut (s':=[b6 g t 1 st,bK st,pM en,tc (L.take (j+1)),pH (L.take (j+1)),jf g,dD st]) 7 (by omega) ?_ ?_ [3,12,13,14] ?_,j+1,rfl,aH,?_,?_,?_,?_,rfl⟩ <;> (try simp only[zU,Nat.reduceBEq,Nat.reduceShiftRight,Nat.reduceMod,Nat.reduceEqDiff,reduceIte])
   ·simp only[List.take_succ_cons,List.take_zero,tc,pH,MQ];rw[cy hLx,adT (by simp;omega)];simp [pM,i64]
   ·simp only[List.all_cons,List.all_nil,vz,vC,kQ,sQ,wG 7 (by omega),hT3 7 (by omega),QG,Bool.and_true]
   ·simp [cB,br,ak,h3,dZ,eB,i64]
   ·exact h3
   ·exact dZ
   ·exact eB
   ·rw[bM _ (by omega)];rfl
  ·have Nx:j=st.n:=by omega
   subst Nx;have bo:¬(st.n:Int)<st.n:=by omega
   have tG:L.take st.n=L:=adT (by omega);simp only[zX,simprocAttr,i64,bV,h3,dZ,eB,e7,bo,tG];exact⟨Sh (by omega) g t st L,rfl⟩
def ow (g:cJ) (en:Int):qx (List Int) where
 T2:=λ_=>pM en
 T3:=tc
 T4:=pH
 T5:=λ_=>jf g
 f:=48
 ah:=[.rf 2 0 0 0,.rf 3 0 0 0]
 F:=λσ i l=>if i<en then σ else σ++l.map jK.gZ
 B:=λ_ i _=>decide (i<en)
theorem AD (σ:List Int) (f:VL.Obj->VL.Obj) (hf:∀(gg:Nat) (b:Bool) (z:Nat) (l:List (List D)),f ⟨gg,b,z,l.map λc=>c.map V.d⟩=⟨gg,b,z,l.map λc=>c.map V.d⟩):f (pH σ)=pH σ:=by
 have e:pH σ=⟨σ.length,true,1,(σ.map λx=>[iD x]).map λc=>c.map V.d⟩:=by simp [pH,iD,i64]
 rw[e];exact hf _ _ _ _
theorem Co (ρ:List Nat) (gg:Nat) (b:Bool) (z:Nat) (l:List (List D)):bp ρ ⟨gg,b,z,l.map λc=>c.map V.d⟩=⟨gg,b,z,l.map λc=>c.map V.d⟩:=by unfold bp;rw[List.map_map];congr 1;exact aei λc _=>pU _ c
theorem Jt (ρ:List Nat) (gg:Nat) (b:Bool) (z:Nat) (l:List (List D)):fh ρ ⟨gg,b,z,l.map λc=>c.map V.d⟩=⟨gg,b,z,l.map λc=>c.map V.d⟩:=by unfold fh;rw[List.map_map];congr 1;exact aei λc _=>n8 _ c
theorem Mp (g:cJ) (t:List Int) (en:Int):(ow g en).ok g t (λσ=>σ=[]):=by
 refine⟨λσ a=>?_,λσ n hn=>?_,λn hn=>?_,λσ=>?_,by rfl,λa=>by rfl,λσ i l h hB=>?_,λσ i st h h0 h1 aU P4 hn=>?_⟩
 ·have e:=AD σ (bp [0,1,2,3,4,5,a]) (Co _);simp only[qx.aB,ow,adG,adP,e];simp [bp,aX.go,aX,pM,tc,jf,i64,bV]
 ·simp only[qx.aB,ow,List.all_cons,List.all_nil,vz,vC,Bool.and_true];simp [bJ,pM,tc,ak,i64];omega
 ·simp [ow,ak.go,ak];omega
 ·have e:=AD σ (fh [0,1,2,3,4,5,6,7,8,9,10,12,11]) (Jt _);simp only[qx.aB,ow,adG,adP,e];simp [fh,dS.go,dS,pM,tc,jf,i64,bV,List.idxOf?,List.findIdx?_cons]
 ·subst h;have:i<en:=of_decide_eq_true hB;show (if i<en then [] else _)=[]
  rw[ap this]
 ·subst h;have:=Rm g t en i st aU hn;simpa [qx.aB,ow]using this
def IS (g:cJ) (t:List Int) (at_ en:Int):List Int×List Int:=qo (ow g en) g t at_ (t.length+1) at_ false (cQ g) ([],0) []
theorem OO (g:cJ) (hg:g.bW) (t:List Int) (ht:t.length<=65536) (at_ en:Int) (ha0:0<=at_) (B7:at_<=t.length) {K:V->List VL.Obj->Prop}
  (hk:∀m:List Int,K (.tu []) [jf g,pM en,b6 g t 3 (cQ g),jJ m,⟨0,true,1,[[.so 5 (IS g t at_ en).2.length 0 (IS g t at_ en).2.length]]⟩,pH (IS g t at_ en).2]) :
  au prog 44 [.rf 2 1 0 0,i64 at_,i64 at_,.cl (.func 48) [] [.rf 1 0 0 0,.rf 4 0 0 0]] [jf g,pM en,b6 g t 3 (cQ g),jJ (List.replicate g.ins.length 0),⟨0,true,1,[[.so 5 0 0 0]]⟩,⟨0,true,1,[]⟩] K:=by
 have h:=JX (ow g en) g hg t ht (λσ=>σ=[]) (Mp g t en) at_ at_ ha0 B7 B7 [] rfl (List.replicate g.ins.length 0) (by simp);have e0:bp [2,3,1,4,5,0] (gy g t)=b6 g t 3 (cQ g):=by simp [bp,gy,b6,cQ,aX,aX.go,i64,bV]
 have e1:∀m,bp [2,3,1,4,5,0] (jJ m)=jJ m:=λm=>by simp [bp,jJ,aX,aX.go,i64]
 have e3:∀σ:List Int,bp [2,3,1,4,5,0] (tc σ)=⟨0,true,1,[[.so 5 σ.length 0 σ.length]]⟩:=λσ=>by simp [bp,tc,aX,aX.go]
 have e4:∀σ:List Int,bp [2,3,1,4,5,0] (pH σ)=pH σ:=λσ=>AD σ (bp _) (Co _);have e2:bp [2,3,1,4,5,0] (pM en)=pM en:=by simp [bp,pM,aX,aX.go,i64]
 have e5:bp [2,3,1,4,5,0] (jf g)=jf g:=by simp [bp,jf,aX,aX.go,i64,bV]
 have oa:∀m,bJ 6 (jJ m)=true:=λm=>by unfold bJ;rw[adE];intro e he;obtain⟨c,hc,rfl⟩:=List.mem_map.1 he;rfl
 have Pe:bJ 6 (gy g t)=true:=by simp [bJ,gy,ak,i64,bV]
 unfold IS at hk;generalize qo (ow g en) g t at_ (t.length+1) at_ false (cQ g) ([],0) []=R at *;obtain⟨mk,σ⟩:=R;simp only[qx.aB,ow]at h;refine gx [2,3,1,4,5,0] h (by decide) (by rfl) ?_ ?_ ?_ ?_ (r':=.tu []) ?_ ?_
 ·simp only[adG,adP,e0,e1,e2,e3,e4,e5];simp [pH]
 ·simp [aX,aX.go,i64]
 ·simp [ak,ak.go,i64]
 ·simp only[List.all_cons,List.all_nil,adA,adF,adI,Nat.reduceAdd,Pe,oa,vz,vC,Bool.and_true,Bool.true_and];simp [bJ,pM,tc,ak,i64]
 ·simp [aX,aX.go]
 ·simp only[adG,adP,e0,e1,e2,e3,e4,e5];exact hk mk
def Hq (g:cJ) (t:List Int) (at_ en:Int):List Int×Int :=
 if gV g≠0 then ([],gV g) else if 65536<t.length then ([],4) else if at_<0\/en<at_\/(t.length:Int)<en then ([],5) else ((IS g t at_ en).2,0)
theorem xE (g:cJ) (hs:g.ins.length<=1000000000) (hl:∀x∈g.ins,x.set.length<=1000000000) (t:List Int) (ht:t.length<=1000000000) (at_ en:Int):ba prog 25 [qP g,.d (av t),i64 at_,i64 en] (.tu [.d (av (Hq g t at_ en).1),i64 (Hq g t at_ en).2]):=by
 by_cases hE:gV g≠0\/65536<t.length
 ·have ni:=BG g t hs hl hE;have hr:Hq g t at_ en=([],if gV g≠0 then gV g else 4):=by
   unfold Hq;by_cases h0:gV g≠0
   ·rw[ap h0,ap h0]
   ·rw[am h0,am h0,ap (hE.resolve_left h0)]
  rw[hr];have fG:(if gV g≠0 then gV g else 4)≠0:=by split <;> omega
  generalize (if gV g≠0 then gV g else 4)=E at *;simp only[aM,i64,iD,bD]at ni;refine ar func25 rfl ntmps25 results25 rfl 0 8095 (by simp) (by simp) ?_;simp only[zX,simprocAttr,i64,bV,iD,bD,aM];refine az ni rfl rfl ?_;simp only[zX,simprocAttr,i64,bV,iD,bD,aM,fG,ne_eq,not_false_eq_true,decide_true];all_goals first|exact⟨rfl,rfl⟩|exact⟨rfl,trivial⟩|rfl|trivial|(rw[aq];rfl)
 ·have Cj:gV g=0:=by
   by_cases h:gV g=0
   ·exact h
   ·exact(hE (.inl h)).elim
  have Wm:t.length<=65536:=by omega
  have hg:g.bW:=CE Cj;have s7:Hq g t at_ en=if at_<0\/en<at_\/(t.length:Int)<en then ([],5) else ((IS g t at_ en).2,0):=by unfold Hq;rw[am (λh=>h Cj),am (by omega)]
  refine ar func25 rfl ntmps25 results25 rfl 0 8095 (by simp) (by simp) ?_;simp only[zX,simprocAttr,i64,bV,iD,bD,aM];refine AG hg hl Cj Wm ?_;simp only[adA,adF,adr,adt,adI,Nat.reduceAdd];by_cases a0:at_<0
  ·rw[s7,ap (.inl a0)];simp only[zX,simprocAttr,i64,bV,iD,bD,aM,a0,ne_eq,aeh,decide_false];all_goals first|exact⟨rfl,rfl⟩|exact⟨rfl,trivial⟩|rfl|trivial|(rw[aq];rfl)
  by_cases a1:en<at_
  ·rw[s7,ap (.inr (.inl a1))];simp only[zX,simprocAttr,i64,bV,iD,bD,aM,a0,a1,ne_eq,aeh,decide_false,gt_iff_lt];all_goals first|exact⟨rfl,rfl⟩|exact⟨rfl,trivial⟩|rfl|trivial|(rw[aq];rfl)
  by_cases a2:(t.length:Int)<en
  ·rw[s7,ap (.inr (.inr a2))];simp only[zX,simprocAttr,i64,bV,iD,bD,aM,a0,a1,a2,av,ado,ne_eq,aeh,decide_false,gt_iff_lt];all_goals first|exact⟨rfl,rfl⟩|exact⟨rfl,trivial⟩|rfl|trivial|(rw[aq];rfl)
  rw[s7,am (by omega)];have KC:=λK hk=>OO g hg t Wm at_ en (by omega) (by omega) (K:=K) hk;simp only[zX,simprocAttr,i64,bV,iD,bD,aM,a0,a1,a2,av,ado,ne_eq,aeh,decide_false,gt_iff_lt];refine iL (pre:=[]) (post:=[]) 4 1 rfl rfl rfl ?_;simp only[ad0,ad6,adA,adF,adr,adt,adI,Nat.reduceAdd];refine KC _ (λm=>?_);generalize (IS g t at_ en).2=A;simp only[zX,simprocAttr,i64,bV,iD,bD,pH];have hA:(A.map λx=>[V.d (.sc (.int .i64 x))])=(A.map λx=>[D.sc (.int .i64 x)]).map λc=>c.map V.d:=by simp
  rw[hA,lB 7 0 _ _ _ (by simp),ap (by omega)];rfl
end Go.Proofs.Ytphfjhaffbfpfaa
namespace Go.Proofs.Ytphfjhaffbfpfaa
open Go.VL Go.Proofs.Try
def qq:cJ:=⟨[⟨2,1,3,0,[]⟩,⟨1,0,0,0,[(97,97)]⟩,⟨3,5,0,0,[]⟩,⟨1,0,0,0,[(97,97)]⟩,⟨1,0,0,0,[(98,98)]⟩,⟨0,0,0,0,[]⟩],0,false⟩
theorem Mx:Hq qq [97,98] 0 0=([1,3],0):=by decide +kernel
theorem Lf:Hq qq [97,98] 0 1=([5],0):=by decide +kernel
theorem Ol:wk qq [97,98] 0=(some ⟨0,1,[]⟩,0):=by decide +kernel
theorem Il:ba prog 10 [] (bV true):=by
 have MO:∀x∈qq.ins,x.set.length<=1000000000:=by intro x hx;simp only[qq,aeg,List.not_mem_nil,or_false]at hx;rcases hx with rfl|rfl|rfl|rfl|rfl|rfl <;> simp
 have h1:=xE qq (by simp [qq]) MO [97,98] (by simp) 0 0;have h2:=xE qq (by simp [qq]) MO [97,98] (by simp) 0 1;have h3:=zb qq (by simp [qq]) MO [97,98] (by simp) 0;have s1:=xj [1,3] [1,3] (by simp);have s2:=xj [5] [5] (by simp);rw[Mx]at h1;rw[Lf]at h2;rw[Ol]at h3;rw[adu rfl]at s1 s2;simp only[aM,qq,adG,adP,bR.cells,aN,iD,bD,i64,bV,av,Et,ra.v,Option.getD_some,Option.isSome_some,bQ]at h1 h2 h3 s1 s2;refine ar func10 rfl ntmps10 results10 rfl 0 2047 (by simp) (by simp) ?_;simp only[zX,simprocAttr,i64,bV,iD,bD];refine aY [] (by rfl) (az h1 rfl rfl ?_);simp only[zX,simprocAttr,bg,i64,bV,iD,bD];refine aY [] (by rfl) (az h2 rfl rfl ?_);simp only[zX,simprocAttr,bg,i64,bV,iD,bD];refine aY [] (by rfl) (az h3 rfl rfl ?_);simp only[zX,simprocAttr,bg,i64,bV,iD,bD];refine aY [] (by rfl) (az s1 rfl rfl ?_);simp only[zX,simprocAttr,bg,i64,bV,iD,bD];refine aY [] (by rfl) (az s2 rfl rfl ?_);simp only[zX,simprocAttr,bg,i64,bV,iD,bD]
end Go.Proofs.Ytphfjhaffbfpfaa
