/- A part of the proof (F110 F111 F113). -/
import Derived.Test.YtfmdmlfhigocaaaON20
import Derived.Test.YtfmdmlfhigocaaaON25
import Derived.Test.YtfmdmlfhigocaaaON29
set_option linter.unusedSimpArgs false
set_option linter.unusedVariables false
open Nat renaming reduceShiftRight → cQ, reduceMod → dx, reduceEqDiff → eI, reduceBEq → gj
set_option maxRecDepth 100000
set_option maxHeartbeats 80000000
namespace Go.Proofs.Ytfmdmlfhigocaaa
open Go.VL Go.Proofs.Try
variable{p:List Int}{re:Re}{k:Re}{b:Nat}{s:List VL.Obj}{lim:Nat}
def cy:VL.Obj:=⟨0,true,8,[]⟩
def oX (re:Re) (v:V):List V:=[.d (iD re.op),.d (.sl (re.set.map aV)),v,.d (iD re.mn),.d (iD re.mx),.d (iD re.mode),.d (iD re.n),.d (bD re.neg)]
def ft (b:Nat) (c:List V) (re:Re):List Int->List V
 |[]=>c
 |_::_=>oX re (.so b (re.kids.length+1) 0 re.kids.length)
def jF (c:List V):Nat->Re->List Int->List VL.Obj
 |_,_,[]=>[]
 |b,re,h::p=>match re.kids[h.toNat]? with
  |none=>[]
  |some k=>⟨re.kids.length+1,true,8,(re.kids.map λx=>x.cells.map V.d).set h.toNat (ft (b+1) c k p)⟩::jF c (b+1) k p
def qm:Re->List Int->Prop
 |_,[]=>True
 |re,h::p=>0<=h/\∃k,re.kids[h.toNat]?=some k/\qm k p
theorem AZ (re:Re):qm re []:=by cases re;trivial
theorem cd{h:Int}:qm re (h::p) ↔ 0<=h/\∃k,re.kids[h.toNat]?=some k/\qm k p:=by cases re;exact Iff.rfl
theorem kd (re:Re):re.atR []=(re,0):=by cases re;rfl
theorem oe (re x:Re):re.dO [] x=(x,0):=by cases re;rfl
theorem oJ (c:List V) (b:Nat) (re:Re):jF c b re []=[]:=by cases re;rfl
theorem QM{h:Int} (h0:0<=h) (hk:re.kids[h.toNat]?=some k):¬(h<0\/(re.kids.length:Int)<=h):=by have:=(List.getElem?_eq_some_iff.1 hk).1;omega
theorem jd{h:Int} (h0:0<=h) (hk:re.kids[h.toNat]?=some k):re.atR (h::p)=k.atR p:=by rw[Re.atR,ap (QM h0 hk),hk]
theorem gN{h:Int}{c:List V} (hk:re.kids[h.toNat]?=some k) :
  jF c b re (h::p)=⟨re.kids.length+1,true,8,(re.kids.map λx=>x.cells.map V.d).set h.toNat (ft (b+1) c k p)⟩::jF c (b+1) k p:=by
 rw[jF,hk]
theorem GI:∀(p:List Int) (re:Re),qm re p->(re.atR p).2=0
 |[],re,_=>by rw[kd]
 |h::p,re,ho=>by obtain⟨h0,k,hk,ho⟩:=cd.1 ho;rw[jd h0 hk];exact GI p k ho
theorem FO:∀(p:List Int) (re:Re),¬qm re p->re.atR p=(pK,7)
 |[],re,h=>(h (AZ re)).elim
 |h::p,re,ho=>by
  rw[Re.atR];split
  ·rfl
  ·rename_i hb;split
   ·rename_i k hk;exact FO p k λh'=>ho (cd.2 ⟨by omega,k,hk,h'⟩)
   ·rfl
theorem EE{h:Int} (x:Re) (h0:0<=h) (hk:re.kids[h.toNat]?=some k) :
  re.dO (h::p) x=if (k.dO p x).2≠0 then (pK,(k.dO p x).2) else (re.iI (re.kids.take h.toNat++(k.dO p x).1::re.kids.drop (h.toNat+1)),0):=by
 rw[Re.dO,ap (QM h0 hk),hk]
theorem nk (x:Re):∀(p:List Int) (re:Re),qm re p->(re.dO p x).2=0
 |[],re,_=>by rw[oe]
 |h::p,re,ho=>by obtain⟨h0,k,hk,ho⟩:=cd.1 ho;rw[EE x h0 hk,ap (by simp [nk x p k ho])]
theorem JF (x:Re):∀(p:List Int) (re:Re),¬qm re p->re.dO p x=(pK,7)
 |[],re,h=>(h (AZ re)).elim
 |h::p,re,ho=>by
  rw[Re.dO];split
  ·rfl
  ·rename_i hb;split
   ·rename_i k hk;rw[JF x p k λh'=>ho (cd.2 ⟨by omega,k,hk,h'⟩)];rfl
   ·rfl
theorem ig (x:Re){h:Int} (h0:0<=h) (hk:re.kids[h.toNat]?=some k) (ho:qm k p):(re.dO (h::p) x).1=re.iI (re.kids.set h.toNat (k.dO p x).1):=by rw[EE x h0 hk,ap (by simp [nk x p k ho])];have:=(List.getElem?_eq_some_iff.1 hk).1;rw[List.set_eq_take_append_cons_drop,be this]
theorem Re.eo (re:Re) (l:List Re):(re.iI l).kids=l:=by cases re;rfl
theorem Re.nT (re:Re) (l:List Re):(re.iI l).cells=[iD re.op,.sl (re.set.map aV),.sl (l.map Re.cells),iD re.mn,iD re.mx,iD re.mode,iD re.n,bD re.neg]:=by
 cases re;rw[Re.ae];rfl
theorem fi (c:List V):∀(p:List Int) (b:Nat) (re:Re),qm re p->(jF c b re p).length=p.length
 |[],b,re,_=>by rw[oJ];rfl
 |h::p,b,re,ho=>by obtain⟨h0,k,hk,ho⟩:=cd.1 ho;rw[gN hk,afZ,afZ,fi c p _ k ho]
theorem D6 (ρ:List Nat) (c:List D):aL.go ρ (c.map V.d)=c.map V.d:=by rw[g7,agy];exact agC λx _=>rfl
theorem fG {ρ:List Nat}{b':Nat} (c:List D) (re:Re) (p:List Int) (h:p≠[]->ρ.getD b 0=b'):aL.go ρ (ft b (c.map V.d) re p)=ft b' (c.map V.d) re p:=by
 cases p with
 |nil=>exact D6 ρ c
 |cons x p=>simp only[ft,oX,aL.go,aL,h (by simp)]
theorem fE {ρ:List Nat} (c:List D):∀(p:List Int) (b b':Nat) (re:Re),(∀j,0<j->j<p.length->ρ.getD (b+j) 0=b'+j)->(jF (c.map V.d) b re p).map (aT ρ)=jF (c.map V.d) b' re p
 |[],b,b',re,_=>by rw[oJ,oJ];rfl
 |h::p,b,b',re,hρ=>by
  cases hk:re.kids[h.toNat]? with
  |none=>rw[jF,jF,hk];rfl
  |some k =>
   rw[gN hk,gN hk,afR,fE c p (b+1) (b'+1) k (λj h1 h2=>by have:=hρ (j+1) (by omega) (by simp;omega);rw[show b+1+j=b+(j+1) by omega,this];omega)];congr 1;unfold aT;simp only[VL.Obj.mk.injEq,true_and];rw[ahg,agy,fG (b':=b'+1) c k p (λcB=>hρ 1 (by omega) (by have:=List.length_pos_iff.2 cB;simp;omega))];congr 1;exact agC λx _=>D6 ρ _
theorem dz (lim:Nat) (c:List D):(c.map V.d).all (ah lim)=true:=by rw[af8];intro x hx;obtain⟨d,_,rfl⟩:=List.mem_map.1 hx;rfl
theorem cc (lim b:Nat) (c:List D) (re:Re) (p:List Int) (h:p≠[]->b<lim):(ft b (c.map V.d) re p).all (ah lim)=true:=by
 cases p with
 |nil=>exact dz lim c
 |cons x p=>simp [ft,oX,ah,h (by simp)]
theorem fD (lim:Nat) (c:List D):∀(p:List Int) (b:Nat) (re:Re),b+p.length<=lim->(jF (c.map V.d) b re p).all (aG lim)=true
 |[],b,re,_=>by rw[oJ];rfl
 |h::p,b,re,hl=>by
  simp only[afZ]at hl;cases hk:re.kids[h.toNat]? with
  |none=>rw[jF,hk];rfl
  |some k =>
   rw[gN hk,agq,fD lim c p (b+1) k (by omega),af5];unfold aG;rw[af8];intro e he;rcases agU he with he|rfl
   ·obtain⟨x,_,rfl⟩:=List.mem_map.1 he;exact dz lim _
   ·exact cc lim (b+1) c k p λcB=>by have:=List.length_pos_iff.2 cB;omega
theorem JN {α β:Type}{f:α->Option β}:∀{l:List α}{r:List β}{i:Nat}{x:α}{y:β},l.mapM f=some r->f x=some y->(l.set i x).mapM f=some (r.set i y)
 |[],r,i,x,y,h,_=>by simp at h;subst h;simp
 |a::l,r,i,x,y,h,hx=>by
  simp only[agS,ahl,Option.pure_def]at h;cases ha:f a with
  |none=>rw[ha]at h;simp at h
  |some b =>
   rw[ha]at h;cases hl:l.mapM f with
   |none=>rw[hl]at h;simp at h
   |some bs =>
    rw[hl]at h;simp only[agE,afY]at h;subst h;cases i with
    |zero=>simp [hx,hl]
    |succ i=>simp [ha,JN (i:=i) hl hx]
theorem QS {x:Re}{lim:Nat}{s:List VL.Obj}:∀(p:List Int) (n b:Nat) (re:Re),qm re p->p.length<=n->lim<=b->(∀t o,(jF (x.cells.map V.d) b re p)[t]?=some o->s[b+t]?=some o) ->
  (ft b (x.cells.map V.d) re p).mapM (cj n lim s)=some (re.dO p x).1.cells
 |[],n,b,re,_,_,_,_=>by rw[oe];exact uH n lim s _
 |h::p,n,b,re,ho,hn,hl,hs=>by
  obtain⟨h0,k,hk,ho⟩:=cd.1 ho;rw[gN hk]at hs;simp only[afZ]at hn;obtain⟨n,rfl⟩:∃m,n=m+1:=⟨n-1,by omega⟩
  have ih:=QS (lim:=lim) p n (b+1) k ho (by omega) (by omega) λt o ht=>by have:=hs (t+1) o (by simpa using ht);rwa [show b+(t+1)=b+1+t by omega]at this
  have qj:=hs 0 _ rfl;rw[ag0]at qj;rw[ig x h0 hk ho,Re.nT];have hd:=pR n lim s (re.kids.map Re.cells);rw[agy]at hd;have hm:=JN (i:=h.toNat) hd ih;have Sr:cj (n+1) lim s (.so b (re.kids.length+1) 0 re.kids.length)=some (.sl ((re.kids.set h.toNat (k.dO p x).1).map Re.cells)):=by simp only[cj,qj,true_and];rw[be ⟨by simp,.inl hl⟩,agH,af1 (by simp)];rw[show (re.kids.map λx=>x.cells.map V.d)=re.kids.map ((λc=>c.map V.d) ∘ Re.cells) from rfl,hm,ahg];rfl
  simp only[ft,oX,agS,List.mapM_nil,CR,Sr];rfl
theorem Ew {x:Re}{h:Int}{n:Nat} (ho:qm re (h::p)) (hn:p.length<=n) (hl:lim<=b) (hs:∀t o,(jF (x.cells.map V.d) b re (h::p))[t]?=some o->s[b+t]?=some o) :
  cj (n+1) lim s (.so b (re.kids.length+1) 0 re.kids.length)=some (.sl ((re.dO (h::p) x).1.kids.map Re.cells)):=by
 have hf:=QS (x:=x) (h::p) (n+1) b re ho (by simp only[afZ];omega) hl hs;obtain⟨h0,k,hk,fO⟩:=cd.1 ho;rw[ig x h0 hk fO,Re.nT]at hf;rw[ig x h0 hk fO,Re.eo];simp only[ft,oX,agS,List.mapM_nil,CR,ahl,agE,Option.pure_def]at hf;cases hd:cj (n+1) lim s (.so b (re.kids.length+1) 0 re.kids.length) with
 |none=>rw[hd]at hf;cases hf
 |some y =>
  rw[hd]at hf;simp only[agE,afY,List.cons.injEq,and_true,true_and]at hf;rw[hf]
theorem wP {x:Re} (ho:qm re p) (hn:p.length<=8) (hs:∀t o,(jF (x.cells.map V.d) b re p)[t]?=some o->s[b+t]?=some o) :
  ba.go 0 s (ft b (x.cells.map V.d) re p)=some ((re.dO p x).1.cells.map V.d):=by
 cases p with
 |nil=>rw[oe];exact za 0 s _
 |cons h p =>
  have Sr:=Ew (n:=7) (lim:=0) ho (by simp only[afZ]at hn;omega) (ahn _) hs;obtain⟨h0,k,hk,fO⟩:=cd.1 ho;rw[ig x h0 hk fO,Re.eo]at Sr;rw[ig x h0 hk fO,Re.nT];simp only[ft,oX,ba.go,ba,Sr];rfl
def ze:V->Nat->Re->List Int->V
 |cur,_,_,[]=>cur
 |cur,b,re,h::p=>match re.kids[h.toNat]? with
  |none=>cur
  |some k=>ze (.rf b (re.kids.length+1) h.toNat 0) (b+1) k p
theorem sq (cur:V) (b:Nat) (re:Re):ze cur b re []=cur:=by cases re;rfl
theorem qd {cur:V}{h:Int} (hk:re.kids[h.toNat]?=some k):ze cur b re (h::p)=ze (.rf b (re.kids.length+1) h.toNat 0) (b+1) k p:=by rw[ze,hk]
theorem oq {ρ:List Nat}:∀(p:List Int) (cur:V) (b b':Nat) (re:Re),(∀j,j<p.length->ρ.getD (b+j) 0=b'+j)->aL ρ (ze cur b re p)=ze (aL ρ cur) b' re p
 |[],cur,b,b',re,_=>by rw[sq,sq]
 |h::p,cur,b,b',re,hρ=>by
  cases hk:re.kids[h.toNat]? with
  |none=>rw[ze,ze,hk]
  |some k =>
   rw[qd hk,qd hk,oq p _ (b+1) (b'+1) k (λj hj=>by have:=hρ (j+1) (by simp;omega);rw[show b+1+j=b+(j+1) by omega,this];omega)];have h0:=hρ 0 (by simp);simp only[aL];rw[show ρ.getD b 0=b' from h0]
theorem qf:∀(p:List Int) (b:Nat) (re:Re),qm re p->p≠[]->∃(pre:List VL.Obj) (g h:Nat) (aw:List (List V)),pre.length+1=p.length/\h<aw.length/\(∀cur,ze cur b re p=.rf (b+pre.length) g h 0) /\
  ∀c,jF c b re p=pre++[⟨g,true,8,aw.set h c⟩]
 |[],b,re,_,cB=>(cB rfl).elim
 |h::p,b,re,ho,_=>by
  obtain⟨h0,k,hk,ho⟩:=cd.1 ho;have az:=(List.getElem?_eq_some_iff.1 hk).1;by_cases hp:p=[]
  ·subst hp;exact⟨[],re.kids.length+1,h.toNat,re.kids.map λx=>x.cells.map V.d,rfl,by rw[afN];exact az,λcur=>by rw[qd hk,sq];rfl,λc=>by rw[gN hk,oJ];rfl⟩
  ·obtain⟨pre,g,i,aw,h1,h2,h3,h4⟩:=qf p (b+1) k ho hp;obtain⟨a,q,rfl⟩:∃a q,p=a::q:=by
    cases p with
    |nil=>exact(hp rfl).elim
    |cons a q=>exact⟨a,q,rfl⟩
   refine⟨⟨re.kids.length+1,true,8,(re.kids.map λx=>x.cells.map V.d).set h.toNat (oX k (.so (b+1) (k.kids.length+1) 0 k.kids.length))⟩::pre,g,i,aw,by simp only[afZ]at h1 ⊢;omega,h2,λcur=>?_,λc=>?_⟩
   ·rw[qd hk,h3,afZ,show b+1+pre.length=b+(pre.length+1) by omega]
   ·rw[gN hk,h4 c];rfl
def zr (re:Re) (p:List Int):V:=if (re.atR p).2=0 then .d (.el (re.atR p).1.cells) else .d (.sc (.pointer none))
theorem n9 (ho:qm re p):zr re p=.d (.el (re.atR p).1.cells):=by rw[zr,be (GI p re ho)]
theorem D5 (ho:¬qm re p):zr re p=.d (.sc (.pointer none)):=by rw[zr,FO p re ho];rfl
theorem px (p:List Int) (re:Re) (hf:re.bC=true) (hp:p.length<=1000000):aO prog 41 [.d (.el re.cells),.d (al p)] (zr re p):=by
 refine an func41 rfl ntmps41 results41 rfl 0 979 (by simp) (by simp) ?_;simp only[zX,simprocAttr,i64,al,afN];refine au (λn e s=>∃(r:Re) (q:List Int) (j:Nat),n=q.length/\j+q.length=p.length/\p.drop j=q/\r.bC=true/\re.atR p=r.atR q/\e 0=.d (.el r.cells)/\e 7=.d (al p)/\e 8=i64 p.length/\e 9=i64 j/\s=[])
  ⟨_,_,_,br.refl,re,p,0,rfl,by omega,rfl,hf,rfl,rfl,rfl,rfl,rfl,rfl⟩ ?_
 rintro n e s ⟨r,q,j,rfl,hj,hd,Tx,GO,h0,h7,h8,h9,rfl⟩;obtain⟨ie,hlen,rQ⟩:=Re.cA Tx;cases q with
 |nil =>
  have SE:¬(j:Int)<p.length:=by simp only[af0]at hj;omega
  rw[zr,GO,kd];simp only[zX,simprocAttr,i64,iD,h0,h7,h8,h9,SE]
 |cons a q =>
  simp only[afZ]at hj;have PD:j<p.length:=by omega
  have SE:(j:Int)<p.length:=by omega
  have WI:p[j]?=some a:=by have:=congrArg (λl=>l[0]?) hd;simpa using this
  have Zv:p.drop (j+1)=q:=by have:=congrArg (List.drop 1) hd;simpa [List.drop_drop]using this
  by_cases kK:a<0\/r.kids.length<=a
  ·have hz:zr re p=.d (.sc (.pointer none)):=by rw[zr,GO,Re.atR,be kK];rfl
   rw[hz];have Xs:a<0\/(¬a<0/\(r.kids.length:Int)<=a):=by omega
   rcases Xs with c1|⟨c1,c2⟩
   ·simp only[zX,simprocAttr,i64,iD,bD,al,h0,h7,h8,h9,SE,PD,WI,Re.ae r,c1,afN]
   ·simp only[zX,simprocAttr,i64,iD,bD,al,h0,h7,h8,h9,SE,PD,WI,Re.ae r,c1,c2,afN]
  ·have c1:¬a<0:=λh=>kK (.inl h);have c2:¬(r.kids.length:Int)<=a:=λh=>kK (.inr h);have az:a.toNat<r.kids.length:=by omega
   have q0:0<=a:=by omega
   have q1:a<r.kids.length:=by omega
   obtain⟨k,hk⟩:∃k,r.kids[a.toNat]?=some k:=⟨_,afP az⟩
   simp only[zX,simprocAttr,i64,iD,bD,al,h0,h7,h8,h9,SE,PD,WI,Re.ae r,c1,c2,q0,q1,hk,afN];refine⟨q.length,_,_,by simp,br.refl,k,q,j+1,rfl,by omega,Zv,rQ k (afW hk),?_,?_,?_,?_,?_,rfl⟩ <;> (try simp only[zU,gj,cQ,dx,eI,reduceIte])
   ·rw[GO,jd q0 hk]
   ·exact h7
   ·exact h8
   ·rw[bd _ (by omega)];rfl
theorem XI (p:List Int) (re:Re) (hf:re.bC=true) (hp:p.length<=1000000):aO prog 22 [fv re,.d (al p)] (.tu [fv (re.atR p).1,i64 (re.atR p).2]):=by
 have wA:=px p re hf hp;rw[Re.ae re]at wA;by_cases ho:qm re p
 ·have fK:=gQ (re.atR p).1 (by
   have:∀(p:List Int) (re:Re),re.bC=true->qm re p->(re.atR p).1.bC=true:=by
    intro p;induction p with
    |nil=>intro re h _;rw[kd];exact h
    |cons h p ih =>
     intro re hf ho;obtain⟨h0,k,hk,ho⟩:=cd.1 ho;rw[jd h0 hk];exact ih k ((Re.cA hf).2.2 k (afW hk)) ho
   exact this p re hf ho)
  rw[n9 ho]at wA;rw[GI p re ho];generalize (re.atR p).1=x at *;refine an func22 rfl ntmps22 results22 rfl 0 119 (by simp) (by simp) ?_;simp only[zX,simprocAttr,i64,ai re,iD,bD];refine bc [0] rfl ?_;refine aj wA rfl rfl ?_;simp only[zX,simprocAttr,i64,iD,bD,Re.ae x,bE,bM,agd,agf];rw[ai x]at fK;refine⟨⟨_,rfl⟩,?_⟩;refine aj fK (by simp [ah,ah.go,iD,bD]) (by simp [ah,ah.go]) ?_;simp only[zX,simprocAttr,i64,iD,bD,ai x,bE,bM,agd,agf]
 ·rw[D5 ho]at wA;rw[FO p re ho];refine an func22 rfl ntmps22 results22 rfl 0 119 (by simp) (by simp) ?_;simp only[zX,simprocAttr,i64,ai re,iD,bD];refine bc [0] rfl ?_;refine aj wA rfl rfl ?_;simp only[zX,simprocAttr,i64,iD,bD,H5,bE,bM,agd,agf];exact⟨_,rfl⟩
theorem I0 {id g i off:Nat}{o:VL.Obj} (ho:s[id]?=some o) (hl:o.live=true) (az:id<lim):ba lim s (.rf id g i off)=some (.rf id g i off):=by
 have:¬(lim<=id\/o.live=false):=by rw[hl];simp;omega
 simp only[ba,cj,ho];rw[ap (λh=>this h.2)];simp only[az,if_true]
theorem tL (c:List D) (p:List Int) (re:Re) (hf:re.bC=true) (hp:p.length<=1000000) (ho:qm re p) :
  aq prog 41 [.rf 0 0 0 0,.d (al p)] (⟨0,true,8,[ft 1 (c.map V.d) re p]⟩::jF (c.map V.d) 1 re p) λv s=>v=ze (.rf 0 0 0 0) 1 re p/\s=⟨0,true,8,[ft 1 (c.map V.d) re p]⟩::jF (c.map V.d) 1 re p:=by
 obtain⟨S,hS⟩:∃S:List VL.Obj,S=⟨0,true,8,[ft 1 (c.map V.d) re p]⟩::jF (c.map V.d) 1 re p:=⟨_,rfl⟩
 have hSl:S.length=1+p.length:=by rw[hS,afZ,fi _ p 1 re ho];omega
 have hSo:S.all (aG S.length)=true:=by rw[hSl,hS,agq,fD (1+p.length) c p 1 re (by omega),af5];simp only[aG,agq,agA,af5];exact cc (1+p.length) 1 c re p (λcB=>by have:=List.length_pos_iff.2 cB;omega)
 have hS0:S[0]?=some ⟨0,true,8,[ft 1 (c.map V.d) re p]⟩:=by rw[hS];rfl
 have hSt:∀t o,(jF (c.map V.d) 1 re p)[t]?=some o->S[1+t]?=some o:=by intro t o h;rw[hS,Nat.add_comm];exact h
 rw[<- hS];clear hS;refine an func41 rfl ntmps41 results41 rfl S.length 979 (af3 _) (by simp) ?_;simp only[zX,simprocAttr,i64,al,afN];refine au (λn e s=>∃(r:Re) (q:List Int) (j id g i:Nat) (ob:VL.Obj),n=q.length/\j+q.length=p.length/\p.drop j=q/\r.bC=true/\qm r q/\e 0=.rf id g i 0/\S[id]?=some ob/\ob.g=g/\ob.live=true/\ob.sz=8/\id<S.length /\
   ob.aw[i]?=some (ft (id+1) (c.map V.d) r q)/\(∀t o,(jF (c.map V.d) (id+1) r q)[t]?=some o->S[id+1+t]?=some o)/\ze (.rf id g i 0) (id+1) r q=ze (.rf 0 0 0 0) 1 re p /\
   e 7=.d (al p)/\e 8=i64 p.length/\e 9=i64 j/\s=S)
  ⟨_,_,_,br.refl,re,p,0,0,0,0,_,rfl,by omega,rfl,hf,ho,rfl,hS0,rfl,rfl,rfl,by omega,rfl,hSt,rfl,rfl,rfl,rfl,rfl⟩ ?_
 rintro n e s ⟨r,q,j,id,g,i,ob,rfl,hj,hd,Tx,fO,h0,xH,S2,Fv,Wc,cS,qX,Ru,mR,h7,h8,h9,rfl⟩;obtain⟨ie,hlen,rQ⟩:=Re.cA Tx;cases q with
 |nil =>
  have SE:¬(j:Int)<p.length:=by simp only[af0]at hj;omega
  rw[sq]at mR;have hfr:=I0 (g:=g) (i:=i) (off:=0) xH Fv cS;simp only[zX,simprocAttr,i64,iD,h0,h7,h8,h9,SE,agj,hSo,hfr,true_and];exact mR
 |cons a q =>
  simp only[afZ]at hj;have PD:j<p.length:=by omega
  have SE:(j:Int)<p.length:=by omega
  have WI:p[j]?=some a:=by have:=congrArg (λl=>l[0]?) hd;simpa using this
  have Zv:p.drop (j+1)=q:=by have:=congrArg (List.drop 1) hd;simpa [List.drop_drop]using this
  obtain⟨q0,k,hk,ZF⟩:=cd.1 fO;have az:=(List.getElem?_eq_some_iff.1 hk).1;have c1:¬a<0:=by omega
  have c2:¬(r.kids.length:Int)<=a:=by omega
  have q1:a<r.kids.length:=by omega
  rw[gN hk]at Ru;have SG:=Ru 0 _ rfl;rw[ag0]at SG;have Z6:((r.kids.map λx=>x.cells.map V.d).set a.toNat (ft (id+1+1) (c.map V.d) k q))[a.toNat]?=some (ft (id+1+1) (c.map V.d) k q):=agc (by rw[afN];exact az);have W4:∀t o,(jF (c.map V.d) (id+1+1) k q)[t]?=some o->s[id+1+1+t]?=some o:=by intro t o h;have:=Ru (t+1) o (by simpa using h);rwa [show id+1+(t+1)=id+1+1+t by omega]at this
  simp only[ft,oX]at qX;rw[qd hk]at mR;have Z4:id+1<s.length:=(List.getElem?_eq_some_iff.1 SG).1;simp only[zX,simprocAttr,i64,iD,bD,al,h0,h7,h8,h9,SE,PD,WI,c1,c2,q0,q1,xH,S2,qX,SG,afN];refine⟨q.length,_,_,Nat.lt_succ_self _,br.refl,k,q,j+1,id+1,r.kids.length+1,0+a.toNat,_,rfl,by omega,Zv,rQ k (afW hk),ZF,?_,SG,rfl,rfl,rfl,Z4,?_,W4,?_,?_,?_,?_,rfl⟩ <;> (try simp only[zU,gj,cQ,dx,eI,reduceIte])
  ·rw[afX];exact Z6
  ·rw[afX];exact mR
  ·exact h7
  ·exact h8
  ·rw[bd _ (by omega)];rfl
end Go.Proofs.Ytfmdmlfhigocaaa
