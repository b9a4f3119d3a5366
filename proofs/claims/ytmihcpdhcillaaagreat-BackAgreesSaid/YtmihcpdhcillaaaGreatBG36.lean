/- A part of the proof (S30 S31 S32 S33). -/
import Derived.Test.YtmihcpdhcillaaaGreatBG3
import Derived.Test.YtmihcpdhcillaaaGreatBG35
import Derived.Test.YtmihcpdhcillaaaGreatBG6
import Derived.Test.YtmihcpdhcillaaaGreatBG19
import Derived.Test.YtmihcpdhcillaaaGreatBG28
set_option linter.unusedSimpArgs false
set_option linter.unusedVariables false
set_option maxRecDepth 100000
set_option maxHeartbeats 80000000
namespace Go.Proofs.YtmihcpdhcillaaaGreat
open Go.VL Go.Proofs.Tryz
theorem HG (x top:Int):br prog 56 [i64 x,.bx (i64 top)] (bV (decide (x<0)||decide (top<x))):=by
 refine aw func56 rfl ntmps56 results56 rfl 0 11 (by simp) (by simp) ?_
 by_cases c:x<0
 ·simp only[zX,simprocAttr,i64,bV,iD,bc,c,decide_true,Xq]
 ·simp only[zX,simprocAttr,i64,bV,iD,bc,c,gt_iff_lt,decide_false,Xj]
def vp (top:Int):D:=.cl (.func 56) [] [.el [iD top]]
def nu (top x:Int):Bool:=decide (x<0)||decide (top<x)
theorem JB (t:List Int) (top:Int) (ht:t.length≤1000000000):br prog 85 [.d (aB t),.d (vp top)] (i64 (match t.findIdx? (nu top) with|some i=>(i:Int)|none=>-1)):=by
 refine aw func85 rfl ntmps85 results85 rfl 0 435 (by simp) (by simp) ?_
 simp only[zX,simprocAttr,i64,iD,aB,vp,W1]
 refine aX (fun n e s=>∃i:Nat,n=t.length-i∧i≤t.length∧e 0=.d (aB t)∧e 1=.d (vp top)∧e 7=i64 t.length∧e 8=i64 i∧s=[]∧(t.take i).any (nu top)=false)
  ⟨_,_,_,dw.refl,0,rfl,by omega,rfl,rfl,rfl,rfl,rfl,rfl⟩ ?_
 rintro n e s ⟨i,rfl,hi,h0,h1,h7,h8,rfl,jk⟩
 simp only[vp,aB]at h0 h1
 rcases Xw i t.length with aS|lW
 ·obtain⟨x,hx⟩:∃x,t[i]?=some x:=⟨_,WZ aS⟩
  have cG:(i:Int)<t.length:=by omega
  have hs:=HG x top
  simp only[i64,bV]at hs
  simp only[zX,simprocAttr,i64,iD,h0,h1,h7,h8,cG,aS,hx]
  refine aD hs rfl rfl ?_
  by_cases c:(decide (x<0)||decide (top<x))=true
  ·have Lh:t.findIdx? (nu top)=some i:=by
    rw[List.findIdx?_eq_some_iff_getElem]
    refine⟨aS,?_,fun j hj=>?_⟩
    ·rw[(List.getElem?_eq_some_iff.1 hx).2];exact c
    ·intro hc
     have hm:t[j]∈t.take i:=by
      rw[List.mem_take_iff_getElem]
      exact⟨j,by omega,rfl⟩
     have:(t.take i).any (nu top)=true:=List.any_eq_true.2 ⟨t[j],hm,hc⟩
     rw[jk]at this;cases this
   rw[Lh]
   simp only[zX,simprocAttr,i64,iD,h0,h1,h7,h8,c]
  ·have c:(decide (x<0)||decide (top<x))=false:=by simpa using c
   simp only[zX,simprocAttr,i64,iD,h0,h1,h7,h8,c,W2]
   refine⟨t.length-(i+1),_,_,by omega,dw.refl,i+1,rfl,aS,?_,?_,?_,?_,rfl,?_⟩ <;> (try simp only[zU,Nat.reduceBEq,Nat.reduceShiftRight,Nat.reduceMod,Nat.reduceEqDiff,reduceIte])
   ·exact h0
   ·exact h1
   ·exact h7
   ·rw[bU _ (by omega)];rfl
   ·rw[dZ hx,List.any_append,jk]
    simp [nu,c]
 ·have iQ:i=t.length:=by omega
  subst iQ
  rw[XA]at jk
  have Lh:t.findIdx? (nu top)=none:=by
   rw[List.findIdx?_eq_none_iff]
   intro x hx
   exact Bool.eq_false_iff.2 fun h=>by
    have:t.any (nu top)=true:=List.any_eq_true.2 ⟨x,hx,h⟩
    rw[jk]at this;cases this
  have cG:¬(t.length:Int)<t.length:=by omega
  rw[Lh]
  simp only[zX,simprocAttr,i64,iD,h0,h1,h7,h8,cG]
theorem LN (t:List Int) (top:Int):decide (0≤(match t.findIdx? (nu top) with|some i=>(i:Int)|none=>-1))=t.any (nu top):=by
 cases h:t.findIdx? (nu top) with
 |none =>
  rw[List.findIdx?_eq_none_iff]at h
  have:t.any (nu top)=false:=by
   rw[Xz];intro hc
   obtain⟨x,hx,h1⟩:=List.any_eq_true.1 hc
   rw[h x hx]at h1;cases h1
  rw[this];rfl
 |some i =>
  rw[List.findIdx?_eq_some_iff_getElem]at h
  obtain⟨h1,h2,_⟩:=h
  have:t.any (nu top)=true:=List.any_eq_true.2 ⟨t[i],List.getElem_mem h1,h2⟩
  rw[this]
  exact decide_eq_true (by show 0≤(i:Int);omega)
theorem DN (t:List Int) (top:Int) (ht:t.length≤1000000000):br prog 55 [.d (aB t),.d (vp top)] (bV (t.any (nu top))):=by
 have h1:=JB t top ht
 rw[← LN t top]
 simp only[i64,vp,iD]at h1
 generalize (match t.findIdx? (nu top) with|some i=>(i:Int)|none=>-1)=r at *
 refine aw func55 rfl ntmps55 results55 rfl 0 19 (by simp) (by simp) ?_
 simp only[zX,simprocAttr,i64,iD,vp]
 refine aD h1 rfl rfl ?_
 simp only[zX,simprocAttr,i64,iD,ge_iff_le,bV]
def Fq (p:fj) (t:List Int):Int:=if t.any (nu (eG p.bk))=true then 1 else 0
theorem E8 (p:fj) (t:List Int) (ht:t.length≤1000000000):br prog 37 [.ag ((jy p).map .d),.d (aB t)] (i64 (Fq p t)):=by
 have h1:=DN t (eG p.bk) ht
 unfold Fq
 generalize t.any (nu (eG p.bk))=r at *
 cases p with
 |mk re ak bk =>
 simp only[i64,vp,iD,bV,eG]at h1
 simp only[jy,Re.ae re,WU,WV,WR,WS,i64,iD,bD,bV]
 refine aw func37 rfl ntmps37 results37 rfl 0 55 (by simp) (by simp) ?_
 cases bk with
 |true =>
  simp only[if_true]at h1
  simp only[zX,simprocAttr,i64,bV,iD,bD]
  refine aO [1] (by simp [aM,bf,aR.go,aR,bN];rfl) ?_
  refine aD h1 rfl rfl ?_
  cases r with
  |true=>simp only[zX,simprocAttr,i64,bV,iD,bD]
  |false=>simp only[zX,simprocAttr,i64,bV,iD,bD,W2]
 |false =>
  simp only[W2,if_false]at h1
  simp only[zX,simprocAttr,i64,bV,iD,bD,W2]
  refine aO [1] (by simp [aM,bf,aR.go,aR,bN];rfl) ?_
  refine aD h1 rfl rfl ?_
  cases r with
  |true=>simp only[zX,simprocAttr,i64,bV,iD,bD]
  |false=>simp only[zX,simprocAttr,i64,bV,iD,bD,W2]
def w8 (ps:List fj) (t:List Int) (fuel:Int):Int :=
 match ps.find? (fun p=>decide (df p≠0)) with
 |some p=>df p
 |none=>if 65536<t.length then 4 else match ps.find? (fun p=>decide (Fq p t≠0)) with
  |some p=>Fq p t
  |none=>if fuel<0∨1099511627776<fuel then 1 else 0
theorem zI {α:Type}{P:α→Bool}{l:List α}{i:Nat}{x:α} (hx:l[i]?=some x) (h:(l.take i).find? P=none) (hp:P x=true):l.find? P=some x:=by
 conv=>lhs;rw[← List.take_append_drop i l]
 rw[List.find?_append,h]
 obtain⟨aS,he⟩:=List.getElem?_eq_some_iff.1 hx
 rw[XV aS,he,List.find?_cons_of_pos hp]
 rfl
theorem z8 {α:Type}{P:α→Bool}{l:List α}{i:Nat}{x:α} (hx:l[i]?=some x) (h:(l.take i).find? P=none) (hp:P x=false):(l.take (i+1)).find? P=none:=by
 rw[dZ hx,List.find?_append,h]
 simp [hp]
theorem vb (ps:List fj) (t:List Int) (fuel:Int) (Ue:ps.length≤1000000) (hf:∀p∈ps,p.re.fA=true) (ht:t.length≤1000000000):br prog 16 [.d (aB t),i64 fuel,.d (.sl (ps.map jy))] (i64 (w8 ps t fuel)):=by
 refine aw func16 rfl ntmps16 results16 rfl 0 1879112519 (by simp) (by simp) ?_
 simp only[zX,simprocAttr,i64,iD,bD,aB,W1]
 refine aX (fun n e s=>∃i:Nat,n=ps.length-i∧i≤ps.length∧e 0=.d (aB t)∧e 1=i64 fuel∧e 2=.d (.sl (ps.map jy))∧e 13=.d (.sl (ps.map jy))∧e 14=i64 ps.length∧e 15=i64 i∧s=[]∧(ps.take i).find? (fun p=>decide (df p≠0))=none)
  ⟨_,_,_,dw.refl,0,rfl,by omega,rfl,rfl,rfl,rfl,rfl,rfl,rfl,rfl⟩ ?_
 rintro n e s ⟨i,rfl,hi,h0,h1,h2,fh,eV,jB,rfl,jk⟩
 simp only[aB]at h0
 rcases Xw i ps.length with aS|lW
 ·obtain⟨p,hp⟩:∃p,ps[i]?=some p:=⟨_,WZ aS⟩
  have cG:(i:Int)<ps.length:=by omega
  have hv:=wX p (hf p (W6 hp))
  have yH:jy p=p.re.cells++[iD p.ak,bD p.bk]:=rfl
  rw[yH,Re.ae p.re]at hv
  simp only[i64,iD,bD,WU,WV,WR,WS]at hv
  simp only[zX,simprocAttr,i64,iD,bD,h0,h1,h2,fh,eV,jB,cG,aS,hp,yH,Re.ae p.re,WR,WS,WU,WV,W3,Xa]
  refine aD hv rfl rfl ?_
  by_cases c:df p=0
  ·simp only[zX,simprocAttr,i64,iD,bD,h0,h1,h2,fh,eV,jB,c,ne_eq,not_true_eq_false]
   refine⟨ps.length-(i+1),_,_,by omega,dw.cut (s':=[]) 0 (W4 _) rfl rfl [0,1,2,13,14,15] (by simp [bW,ba,ao,i64,h0,h1,h2,fh,eV,jB]),i+1,rfl,aS,?_,?_,?_,?_,?_,?_,rfl,z8 hp jk (by simp [c])⟩ <;> (try simp only[zU,Nat.reduceBEq,Nat.reduceShiftRight,Nat.reduceMod,Nat.reduceEqDiff,reduceIte])
   ·exact h0
   ·exact h1
   ·exact h2
   ·exact fh
   ·exact eV
   ·rw[bU _ (by omega)];rfl
  ·have Lh:=zI hp jk (by simpa using c)
   unfold w8
   rw[Lh]
   simp only[zX,simprocAttr,i64,iD,bD,h0,h1,h2,fh,eV,jB,c,ne_eq,not_false_eq_true]
 ·have iQ:i=ps.length:=by omega
  subst iQ
  rw[XA]at jk
  have cG:¬(ps.length:Int)<ps.length:=by omega
  unfold w8
  rw[jk]
  simp only
  by_cases cl:65536<t.length
  ·have TA:(65536:Int)<(t.length:Int):=by omega
   rw[if_pos cl]
   simp only[zX,simprocAttr,i64,iD,h0,h1,h2,fh,eV,jB,cG,gt_iff_lt,W1,TA]
  have TA:¬(65536:Int)<(t.length:Int):=by omega
  rw[if_neg cl]
  simp only[zX,simprocAttr,i64,iD,h0,h1,h2,fh,eV,jB,cG,gt_iff_lt,W1,TA]
  refine aX (fun n e s=>∃i:Nat,n=ps.length-i∧i≤ps.length∧e 0=.d (aB t)∧e 1=i64 fuel∧e 28=.d (.sl (ps.map jy))∧e 29=i64 ps.length∧e 30=i64 i∧s=[]∧(ps.take i).find? (fun p=>decide (Fq p t≠0))=none)
   ⟨_,_,_,dw.refl,0,rfl,by omega,?_,?_,rfl,rfl,rfl,rfl,rfl⟩ ?_ <;> (try simp only[zU,Nat.reduceBEq,Nat.reduceShiftRight,Nat.reduceMod,Nat.reduceEqDiff,reduceIte])
  ·exact h0
  ·exact h1
  clear h0 h1 h2 fh eV jB cG hi jk
  rintro n e s ⟨i,rfl,hi,h0,h1,M9,Nd,Pg,rfl,jk⟩
  simp only[aB]at h0
  rcases Xw i ps.length with aS|lW
  ·obtain⟨p,hp⟩:∃p,ps[i]?=some p:=⟨_,WZ aS⟩
   have cG:(i:Int)<ps.length:=by omega
   have hv:=E8 p t ht
   have yH:jy p=p.re.cells++[iD p.ak,bD p.bk]:=rfl
   rw[yH,Re.ae p.re]at hv
   simp only[i64,iD,bD,aB,WU,WV,WR,WS]at hv
   simp only[zX,simprocAttr,i64,iD,bD,h0,h1,M9,Nd,Pg,cG,aS,hp,yH,Re.ae p.re,WR,WS,WU,WV,W3,Xa]
   refine aD hv rfl rfl ?_
   by_cases c:Fq p t=0
   ·simp only[zX,simprocAttr,i64,iD,bD,h0,h1,M9,Nd,Pg,c,ne_eq,not_true_eq_false]
    refine⟨ps.length-(i+1),_,_,by omega,dw.cut (s':=[]) 0 (W4 _) rfl rfl [0,1,28,29,30] (by simp [bW,ba,ao,i64,h0,h1,M9,Nd,Pg]),i+1,rfl,aS,?_,?_,?_,?_,?_,rfl,z8 hp jk (by simp [c])⟩ <;> (try simp only[zU,Nat.reduceBEq,Nat.reduceShiftRight,Nat.reduceMod,Nat.reduceEqDiff,reduceIte])
    ·exact h0
    ·exact h1
    ·exact M9
    ·exact Nd
    ·rw[bU _ (by omega)];rfl
   ·have Lh:=zI hp jk (by simpa using c)
    rw[Lh]
    simp only[zX,simprocAttr,i64,iD,bD,h0,h1,M9,Nd,Pg,c,ne_eq,not_false_eq_true]
  ·have iQ:i=ps.length:=by omega
   subst iQ
   rw[XA]at jk
   have cG:¬(ps.length:Int)<ps.length:=by omega
   rw[jk]
   simp only
   by_cases c1:fuel<0
   ·rw[if_pos (.inl c1)]
    simp only[zX,simprocAttr,i64,iD,bD,h0,h1,M9,Nd,Pg,cG,c1]
   by_cases c2:1099511627776<fuel
   ·rw[if_pos (.inr c2)]
    simp only[zX,simprocAttr,i64,iD,bD,h0,h1,M9,Nd,Pg,cG,c1,c2,gt_iff_lt]
   ·rw[if_neg (by omega)]
    simp only[zX,simprocAttr,i64,iD,bD,h0,h1,M9,Nd,Pg,cG,c1,c2,gt_iff_lt]
theorem uv (p:fj) (t:List Int) (fuel:Int):w8 [p] t fuel=cc p t fuel:=by
 unfold w8 cc Fq
 have hb:t.any (nu (eG p.bk))=!(t.all (kr p.bk)):=by
  rw[Bool.eq_iff_iff]
  simp only[List.any_eq_true,Bool.not_eq_true',Xz,ne_eq,Xn,nu,kr,Bool.or_eq_true,W7,decide_eq_true_eq]
  constructor
  ·rintro ⟨x,hx,h⟩ hc
   have:=hc x hx
   omega
  ·intro h
   apply Classical.byContradiction
   intro hc
   apply h
   intro x hx
   apply Classical.byContradiction
   intro h2
   exact hc ⟨x,hx,by omega⟩
 have he:(if t.any (nu (eG p.bk))=true then (1:Int) else 0)=if t.all (kr p.bk)=false then 1 else 0:=by
  rw[hb];cases t.all (kr p.bk) <;> rfl
 by_cases h:df p=0
 ·simp only[List.find?,h,ne_eq,not_true_eq_false,decide_false,if_false,he]
  by_cases h2:65536<t.length
  ·simp [h2]
  ·cases hs:t.all (kr p.bk) with
   |true=>simp [h2]
   |false =>
    have ha:t.any (nu (eG p.bk))=true:=by rw[hb,hs];rfl
    obtain⟨x,hx⟩:=List.any_eq_true.1 ha
    simp [h2]
    exact⟨x,hx⟩
 ·simp [List.find?,h]
def jJ (p:fj) (t:List Int) (fuel:Int):bp:=⟨p,t,[],0,0,0,0,fuel,false⟩
def P5 (p:fj) (t:List Int) (fuel:Int):VL.Obj:=⟨0,true,8,[[.d (.el (jy p)),.d (aB t),.mp 1 0,.fu [],i64 0,i64 0,i64 fuel,bV false]]⟩
theorem yb (p:fj) (t:List Int) (fuel:Int):av prog 17 [.d (.el (jy p)),.d (aB t),i64 fuel] [] fun v s=>v=.rf 0 0 0 0∧s=[P5 p t fuel,⟨0,true,2,E9⟩]:=by
 refine Em func17 rfl ntmps17 results17 rfl 0 71 (by simp) (by simp) ?_
 simp only[zX,simprocAttr,i64,bV]
 refine aj MT (fun v s' hv=>?_);obtain⟨rfl,rfl⟩:=hv
 simp only[zX,simprocAttr,i64,bV,iD,Mh,GN]
 exact⟨[1,0],by decide,rfl,rfl⟩
def v8 (Y Z:Nat) (m:bp):VL.Obj:=⟨0,true,8,[[.d (.el (jy m.p)),.d (aB m.t),.mp Y 0,.so Z m.gen 0 m.top,i64 m.start,i64 m.steps,i64 m.fuel,bV m.aK]]⟩
def Ed:VL.Obj:=⟨0,true,2,E9⟩
def Ic (b a:Nat) (m:bp):VL.Obj:=⟨m.gen,true,3,m.cO.map fun p=>(p.cells b a).map .d⟩
theorem Af (X Y Z b a:Nat) (m:bp):(m.au 0 b a).map (bX [X,Y,Z])=[v8 Y Z m,Ed,Ic b a m]:=by
 unfold bp.au v8 Ed Ic
 simp only[WU,WV,X4,and_true]
 refine⟨?_,?_,?_⟩
 ·unfold bX
  simp [bF.go,bF,i64,bV]
  rfl
 ·rfl
 ·unfold bX
  simp only[XS]
  congr 1
theorem qq {f:FuncId}{cargs args:List V}{r r':V}{m m':bp}{X Y Z b a:Nat}{s:List VL.Obj}{K:V→List VL.Obj→Prop} (h:av prog f cargs (m.au 0 b a) fun v s=>v=r∧s=m'.au 0 b a)
  (hnd:[X,Y,Z].Nodup) (hX:s[X]?=some (v8 Y Z m)) (hY:s[Y]?=some Ed) (hZ:s[Z]?=some (Ic b a m)) (ha:args=cargs.map (bF [X,Y,Z])) (td:ao.go 3 cargs=true) (hr:bF [X,Y,Z] r=r')
  (hk:K r' (((s.set X (v8 Y Z m')).set Y Ed).set Z (Ic b a m'))):av prog f args s K:=by
 refine jt [X,Y,Z] h hnd (by rfl) ?_ ha td (la 0 b a m 3 (W4 _)) hr ?_
 ·have e:(m.au 0 b a).map (fun o=>some (bX [X,Y,Z] o))=((m.au 0 b a).map (bX [X,Y,Z])).map some:=by rw[XS];rfl
  rw[e,Af]
  simp only[WU,WV,hX,hY,hZ]
 ·rw[Af]
  exact hk
def m7 (p:fj) (t:List Int) (Y:Nat):List V:=[.d (.el (jy p)),.d (aB t),.mp Y 0]
def kv (fuel:Int):List V:=[i64 0,i64 0,i64 fuel,bV false]
theorem AD {p:fj}{t:List Int}{fuel:Int}{s:List VL.Obj}{K:V→List VL.Obj→Prop}
  (hk:∀b a:Nat,K (.pp s.length 0 0 0 b a) (s++[v8 (s.length+1) (s.length+2) (jJ p t fuel),Ed,Ic b a (jJ p t fuel)])):av prog 17 [.d (.el (jy p)),.d (aB t),i64 fuel] s K:=by
 have h1:av prog 17 [.d (.el (jy p)),.d (aB t),i64 fuel] s fun v s1=>v=.rf s.length 0 0 0∧s1=s++[⟨0,true,8,[m7 p t (s.length+1)++.fu []::kv fuel]⟩,Ed]:=by
  refine po (yb p t fuel) [] rfl (by simp) (fun k o h=>by simp at h) rfl rfl rfl ?_
  rintro v s' ⟨rfl,rfl⟩ _
  refine⟨?_,?_⟩
  ·simp [xB,bF,bF.go,i64]
  ·simp only[List.take,List.drop,Xa,WV,aZ,WU]
   congr 1
 refine vn h1 ?_
 rintro v s1 ⟨rfl,rfl⟩ σ w u hI hu
 have hX:(s++[(⟨0,true,8,[m7 p t (s.length+1)++.fu []::kv fuel]⟩:VL.Obj),Ed])[s.length]?=some ⟨0,true,8,[m7 p t (s.length+1)++.fu []::kv fuel]⟩:=by simp
 obtain⟨b,a,BH⟩:=aI.NH hX rfl hu
 obtain⟨σ1,e1,i1⟩:=rY hI s.length 3 hX (pre:=m7 p t (s.length+1)) (post:=kv fuel) rfl rfl
 have gy:(s++[(⟨0,true,8,[m7 p t (s.length+1)++.fu []::kv fuel]⟩:VL.Obj),Ed]).set s.length ⟨0,true,8,[m7 p t (s.length+1)++V.so (s++[(⟨0,true,8,[m7 p t (s.length+1)++.fu []::kv fuel]⟩:VL.Obj),Ed]).length 0 0 0::kv fuel]⟩++[⟨0,true,3,[]⟩]
   = s++[v8 (s.length+1) (s.length+2) (jJ p t fuel),Ed,Ic b a (jJ p t fuel)]:=by
  rw[List.set_append_right _ _ (W4 _),X3,W5]
  simp [v8,Ic,jJ,m7,kv]
 rw[gy]at e1 i1
 exact⟨σ1,_,_,e1,i1,BH.bS e1,hk b a⟩
def bp.By (m:bp) (at_:Int):ai:=⟨at_,some (List.replicate 9 (-1,-1)),.tree m.p.re [iD m.p.ak,bD m.p.bk] .nil⟩
def bp.begin (m:bp) (at_:Int):bp:={ m with cO:=[m.By at_],top:=1,gen:=m.gen+1,start:=at_ }
def DO (i:Nat):ar:=List.replicate i (-1,-1)++List.replicate (9-i) (0,0)
theorem Lc {i:Nat} (h:i<9):(DO i).set i (-1,-1)=DO (i+1):=by
 have:i=0∨i=1∨i=2∨i=3∨i=4∨i=5∨i=6∨i=7∨i=8:=by omega
 rcases this with rfl|rfl|rfl|rfl|rfl|rfl|rfl|rfl|rfl <;> rfl
theorem CX {i:Nat} (h:i≤9):(DO i).length=9:=by unfold DO;rw[W5,XD,XD];omega
theorem QG (g b a:Nat) (m:bp) (re:Re) (ex:List D) (next:aF) {ext:List VL.Obj}{K:V→List VL.Obj→Prop} (hk:K (.d ((aF.tree re ex next).d b a)) (m.au g b a++ext)) :
  mq prog [0,1,2] [] 39 [.pp 0 g 0 0 b a,.d (di re ex),.d (next.d b a)] (m.au g b a++ext) K:=by
 refine⟨.d ((aF.tree re ex next).d b a),[],rfl,fun s' hl hr=>?_,hk⟩
 have e:=Eh hl hr
 have hp:=dX (iV g b a m re ex next) rfl rfl rfl (s'.drop 3)
 rw[← e]at hp
 exact hp
theorem Aq (g b a:Nat) (m:bp) (at_:Int) (TM:m.top≤m.cO.length):av prog 18 [.pp 0 g 0 0 b a,i64 at_] (m.au g b a) fun v s=>v=.tu []∧s=(m.begin at_).au g b a:=by
 have hM:=b9 (m.begin at_) b a 3
 unfold bp.au
 refine aw func18 rfl ntmps18 results18 rfl 3 307 (by simp) (by simp) ?_
 simp only[zX,Nat.reduceShiftRight,Nat.reduceMod,Nat.reduceLT,Nat.reduceMul,Nat.reduceSub,Int.reduceToNat,Int.reduceNeg,Int.reduceLT,Int.reduceLE,Int.reduceEq,Nat.reduceEqDiff,Nat.reduceAdd,Nat.reduceLeDiff,reduceIte,reduceCtorEq,Nat.reduceBEq,i64,bV,iD]
 refine aX (fun n e s=>∃i:Nat,n=9-i∧i≤9∧e 0=.pp 0 g 0 0 b a∧e 1=i64 at_∧e 4=.rf 3 0 0 0∧e 8=i64 i∧s=m.au g b a++[⟨0,true,18,[((DO i).flatMap fun p=>[iD p.1,iD p.2]).map .d]⟩])
  ⟨_,_,_,dw.refl,0,rfl,by omega,rfl,rfl,rfl,rfl,rfl⟩ ?_
 rintro n e s ⟨i,rfl,hi,h0,h1,h4,h8,rfl⟩
 unfold bp.au at *
 rcases Xw i 9 with aS|lW
 ·have hput:=C8 (c:=DO i) (k:=i) (by rw[CX hi];exact aS) (-1,-1)
  rw[Lc aS]at hput
  have cK:=xI (CX hi)
  generalize ((DO i).flatMap fun p=>[iD p.1,iD p.2])=C at *
  have n0:(0:Int)≤(i:Int):=by omega
  have n9:(i:Int)<((9:Nat):Int):=by omega
  have St:i*2≤16:=by omega
  have cG:(i:Int)<9:=by omega
  unfold eE at hput
  simp only[iD,W3,Xa,Xi,Nat.reduceAdd]at hput
  simp only[zX,Nat.reduceShiftRight,Nat.reduceMod,Nat.reduceLT,Nat.reduceMul,Nat.reduceSub,Int.reduceToNat,Int.reduceNeg,Int.reduceLT,Int.reduceLE,Int.reduceEq,Nat.reduceEqDiff,Nat.reduceAdd,Nat.reduceLeDiff,reduceIte,reduceCtorEq,Nat.reduceBEq,i64,bV,iD,h0,h1,h4,h8,WR,WS,cG,W1,cK,n0,n9,St,Xp,Xi,hput]
  refine⟨9-(i+1),_,_,by omega,dw.refl,i+1,rfl,aS,?_,?_,?_,?_,rfl⟩ <;> (try simp only[zU,Nat.reduceBEq,Nat.reduceShiftRight,Nat.reduceMod,Nat.reduceEqDiff,reduceIte])
  ·exact h0
  ·exact h1
  ·exact h4
  ·rw[bU _ (by omega)];rfl
 ·have iQ:i=9:=by omega
  subst iQ
  have h8:e 8=i64 9:=h8
  have AU:((DO 9).flatMap fun p=>[iD p.1,iD p.2])=((List.replicate 9 ((-1,-1):Int×Int)).flatMap fun p=>[iD p.1,iD p.2]):=rfl
  rw[AU]
  have hput:=fun ext K=>QG g b a { m with start:=at_ } m.p.re [iD m.p.ak,bD m.p.bk] .nil (ext:=ext) (K:=K)
  have fC:dK (some (List.replicate 9 ((-1,-1):Int×Int)))=.el ((List.replicate 9 ((-1,-1):Int×Int)).flatMap fun p=>[iD p.1,iD p.2]):=rfl
  generalize ((List.replicate 9 ((-1,-1):Int×Int)).flatMap fun p=>[iD p.1,iD p.2])=C at *
  have hz:=fun (cE:Nat) (s:List VL.Obj)=>ln 6 cE s C
  unfold bp.au at hput
  simp only[i64,bV,iD,bD,WU,WV,ai.cells,di,aF.d,Xk,WR,WS]at hput
  have yH:bp.au.JU m.p=m.p.re.cells++[iD m.p.ak,bD m.p.bk]:=rfl
  simp only[zX,Nat.reduceShiftRight,Nat.reduceMod,Nat.reduceLT,Nat.reduceMul,Nat.reduceSub,Int.reduceToNat,Int.reduceNeg,Int.reduceLT,Int.reduceLE,Int.reduceEq,Nat.reduceEqDiff,Nat.reduceAdd,Nat.reduceLeDiff,reduceIte,reduceCtorEq,Nat.reduceBEq,i64,bV,iD,bD,h0,h1,h4,h8,WR,WS,Int.lt_irrefl]
  refine aH (bM.BP [3] 4 (v:=.d (.el C)) (by simp [bW,aM,bf,aR,h4,ba,bN,-List.mapM_map,ln])) ?_
  simp only[aM,bf,W9,Xy,Xl,Xh]
  refine aq mix [] [(2,[0],[]),(3,[0],[]),(4,[0],[]),(5,[2],[]),(10,[0],[]),(11,[0],[]),(12,[0],[]),(15,[0,1,2],[]),(18,[2],[2]),(19,[0],[]),(20,[0],[]),(21,[0],[0])] (by rfl) ?_
  simp only[zX,Nat.reduceShiftRight,Nat.reduceMod,Nat.reduceLT,Nat.reduceMul,Nat.reduceSub,Int.reduceToNat,Int.reduceNeg,Int.reduceLT,Int.reduceLE,Int.reduceEq,Nat.reduceEqDiff,Nat.reduceAdd,Nat.reduceLeDiff,reduceIte,reduceCtorEq,Nat.reduceBEq,i64,bV,iD,bD,h0,h1,h4,h8,WR,WS,Xi,TM,yH,Xu,W1]
  simp only[yH,iD,bD]at hput
  refine hput _ _ ?_
  simp only[zX,Nat.reduceShiftRight,Nat.reduceMod,Nat.reduceLT,Nat.reduceMul,Nat.reduceSub,Int.reduceToNat,Int.reduceNeg,Int.reduceLT,Int.reduceLE,Int.reduceEq,Nat.reduceEqDiff,Nat.reduceAdd,Nat.reduceLeDiff,reduceIte,reduceCtorEq,Nat.reduceBEq,i64,bV,iD,bD,h0,h1,h4,h8,WR,WS,W1,Xi]
  simp only[Int.sub_self,Int.toNat_zero,List.take_zero,WS]
  refine⟨rfl,by simp,⟨by omega,by omega⟩,?_,?_⟩
  ·rfl
  ·unfold bp.begin bp.By
   simp only[WU,WV,ai.cells,fC,aF.d,di,iD,bD,yH,Xi]
theorem FX (c:ar):∀(l n:Nat),l+n≤c.length→lP (c.flatMap fun p=>[iD p.1,iD p.2]) 2 l n=((c.drop l).take n).map aT:=by
 intro l n
 induction n generalizing l with
 |zero=>intro _;simp [lP]
 |succ n ih =>
  intro h
  have hx:c[l]?=some (c[l]'(by omega)):=WZ (by omega)
  have h1:=ih (l+1) (by omega)
  unfold lP at h1 ⊢
  have Q2:c.drop l=c[l]'(by omega)::c.drop (l+1):=XV (by omega)
  rw[List.range_succ_eq_map,WU,XS,Q2,List.take_succ_cons,WU,← h1]
  congr 1
  ·obtain⟨tl,hd⟩:=wL hx
   rw[Nat.mul_comm]at hd
   rw[Nat.add_zero,hd]
   rfl
  ·refine XM fun i _=>?_
   simp only[Function.comp_apply]
   rw[show l+(i+1)=l+1+i by omega]
theorem G4 (g b a:Nat) {m m':bp}{r:ai} (h:cY.wp g b a m m' r false (.search 0)):av prog 19 [.pp 0 g 0 0 b a] (m.au g b a) fun v s=>v=.tu [.ag [i64 0,i64 0,.d (.sl [])],bV false]∧s=m'.au g b a:=by
 have hs:=fun ex=>eY.ext h rfl rfl ex
 have hM:=b9 m' b a 3
 unfold bp.au at *
 simp only[i64,bV,iD,dH,ai.v,ai.cells,WU,WV]at hs
 refine aw func19 rfl ntmps19 results19 rfl 3 125 (by simp) (by simp) ?_
 simp only[zX,Nat.reduceShiftRight,Nat.reduceMod,Nat.reduceLT,Nat.reduceMul,Nat.reduceSub,Int.reduceToNat,Int.reduceNeg,Int.reduceLT,Int.reduceLE,Int.reduceEq,Nat.reduceEqDiff,Nat.reduceAdd,Nat.reduceLeDiff,reduceIte,reduceCtorEq,Nat.reduceBEq,i64,bV,iD]
 refine aj (hs _) (fun v s' hv=>?_);obtain⟨rfl,rfl⟩:=hv
 simp only[zX,Nat.reduceShiftRight,Nat.reduceMod,Nat.reduceLT,Nat.reduceMul,Nat.reduceSub,Int.reduceToNat,Int.reduceNeg,Int.reduceLT,Int.reduceLE,Int.reduceEq,Nat.reduceEqDiff,Nat.reduceAdd,Nat.reduceLeDiff,reduceIte,reduceCtorEq,Nat.reduceBEq,i64,bV,iD,WR,WS,W0]
 first|exact hM|exact⟨hM,rfl⟩
theorem C2 (g b a:Nat) {m m':bp}{r:ai}{c:ar} (h:cY.wp g b a m m' r true (.search 0)) (hc:r.ak=some c) (hl:c.length=9) (h0:0≤m'.p.ak) (h1:m'.p.ak≤9):av prog 19 [.pp 0 g 0 0 b a] (m.au g b a) fun v s=>v=.tu [.ag [i64 m'.start,i64 r.at_,.d (bH (c.take m'.p.ak.toNat))],bV true]∧s=m'.au g b a:=by
 have hs:=fun ex=>eY.ext h rfl rfl ex
 have hM:=b9 m' b a 3
 have cK:=tE (c.take m'.p.ak.toNat) (by rw[Xu];omega)
 have T5:=FX c 0 m'.p.ak.toNat (by omega)
 rw[X1]at T5
 have AU:dK r.ak=.el (c.flatMap fun p=>[iD p.1,iD p.2]):=by rw[hc];rfl
 have Vn:=xI hl
 generalize (c.flatMap fun p=>[iD p.1,iD p.2])=C at *
 have yH:bp.au.JU m'.p=[iD m'.p.re.op,.sl (m'.p.re.set.map aT),.sl (m'.p.re.kids.map Re.cells),iD m'.p.re.mn,iD m'.p.re.mx,iD m'.p.re.mode,iD m'.p.re.n,bD m'.p.re.neg,iD m'.p.ak,bD m'.p.bk]:=by
  show m'.p.re.cells++_=_
  rw[Re.ae];rfl
 have h9:m'.p.ak≤((9:Nat):Int):=by omega
 unfold bp.au at *
 simp only[i64,bV,iD,dH,ai.v,ai.cells,WU,WV,AU]at hs
 refine aw func19 rfl ntmps19 results19 rfl 3 125 (by simp) (by simp) ?_
 simp only[zX,Nat.reduceShiftRight,Nat.reduceMod,Nat.reduceLT,Nat.reduceMul,Nat.reduceSub,Int.reduceToNat,Int.reduceNeg,Int.reduceLT,Int.reduceLE,Int.reduceEq,Nat.reduceEqDiff,Nat.reduceAdd,Nat.reduceLeDiff,reduceIte,reduceCtorEq,Nat.reduceBEq,i64,bV,iD]
 refine aj (hs _) (fun v s' hv=>?_);obtain⟨rfl,rfl⟩:=hv
 simp only[zX,Nat.reduceShiftRight,Nat.reduceMod,Nat.reduceLT,Nat.reduceMul,Nat.reduceSub,Int.reduceToNat,Int.reduceNeg,Int.reduceLT,Int.reduceLE,Int.reduceEq,Nat.reduceEqDiff,Nat.reduceAdd,Nat.reduceLeDiff,reduceIte,reduceCtorEq,Nat.reduceBEq,i64,bV,iD,WR,WS,WY]
 refine aq mix [] [] (by rfl) ?_
 simp only[zX,Nat.reduceShiftRight,Nat.reduceMod,Nat.reduceLT,Nat.reduceMul,Nat.reduceSub,Int.reduceToNat,Int.reduceNeg,Int.reduceLT,Int.reduceLE,Int.reduceEq,Nat.reduceEqDiff,Nat.reduceAdd,Nat.reduceLeDiff,reduceIte,reduceCtorEq,Nat.reduceBEq,i64,bV,iD,bD,WR,WS,yH]
 refine⟨⟨⟨h0,h9⟩,Vn⟩,?_⟩
 rw[Int.sub_zero,T5]
 unfold bH at cK
 refine cP cK rfl rfl ?_
 simp only[zX,Nat.reduceShiftRight,Nat.reduceMod,Nat.reduceLT,Nat.reduceMul,Nat.reduceSub,Int.reduceToNat,Int.reduceNeg,Int.reduceLT,Int.reduceLE,Int.reduceEq,Nat.reduceEqDiff,Nat.reduceAdd,Nat.reduceLeDiff,reduceIte,reduceCtorEq,Nat.reduceBEq,i64,bV,iD,bD,WR,WS]
 refine aq mix [] [(3,[0],[]),(5,[4],[]),(8,[3],[3])] (by rfl) ?_
 simp only[zX,Nat.reduceShiftRight,Nat.reduceMod,Nat.reduceLT,Nat.reduceMul,Nat.reduceSub,Int.reduceToNat,Int.reduceNeg,Int.reduceLT,Int.reduceLE,Int.reduceEq,Nat.reduceEqDiff,Nat.reduceAdd,Nat.reduceLeDiff,reduceIte,reduceCtorEq,Nat.reduceBEq,i64,bV,iD,bD,WR,WS,bH]
 exact⟨hM,rfl⟩
inductive EY:Nat→bp→bp→Prop where
 |stop {n k:Nat}{m m':bp}{r:ai} (h:fG k (.search 0) m m' r false):EY n m m'
 |more {n n' k:Nat}{m m1 m':bp}{r:ai} (hn:n'<n) (h:fG k (.search 0) m m1 r true) (h2:EY n' m1 m'):EY n m m'
end Go.Proofs.YtmihcpdhcillaaaGreat
