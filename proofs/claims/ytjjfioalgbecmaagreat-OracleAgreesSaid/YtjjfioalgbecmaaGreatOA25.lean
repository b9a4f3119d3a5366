/- A part of the proof. -/
import Derived.Test.YtjjfioalgbecmaaGreatOA24
set_option linter.unusedSimpArgs false
set_option linter.unusedVariables false
open Nat renaming reduceShiftRight → qa, reduceMod → qe, reduceEqDiff → Fp, reduceAdd → Fq, reduceBEq → Ft
open Int renaming reduceNatCast' → FF
set_option maxRecDepth 100000
set_option maxHeartbeats 80000000
namespace Go.Proofs.YtjjfioalgbecmaaGreat
open Go.VL Go.Proofs.Tryz
variable{g:Nat}{s:List VL.Obj}{K:V->List VL.Obj->Prop}{f:FuncId}{P:Program}{m:Nat}{l:List Bool}{Bs:List (List Bool)}{root:D}{bg:Nat}{nb:Nat}{C:List aw}{parts:D}{t:List Int}{p:fU}{y:Bool}{neg:Bool}{e:VL.Env}{ai:Int}{i:Int}
theorem Xe{args:List V}{sz k n:Nat}{l:List (List D)}{ob:VL.Obj}
  (h1:av P f args s λv s1=>v=.so s.length g 0 n/\s1=s++[⟨g,true,sz,l.map λc=>c.map V.d⟩]) (hs:s[k]?=some ob)
  (hk:K (.so k (ob.g+1) 0 n) (s.set k ⟨ob.g+1,true,sz,l.map λc=>c.map V.d⟩)):av P f args s K:=by
 refine⟨h1.1,λσ w vals hI hl hv=>(h1.2 σ w vals hI hl hv).mono λe w' ⟨u,v,σ',s',k1,k2,k3,k4,k5,k6⟩=>?_⟩;exact ZaY
theorem SV (q:Nat) (l:List Bool):cF q l=⟨q,true,1,(l.map λb=>[bD b]).map λc=>c.map V.d⟩:=by unfold cF;rw[alH];rfl
theorem RN{b a:Nat}
  (h:av Tryz.prog f [.rf 0 0 0 0,.so 2 g 0 C.length] [dV t root parts bg nb,fW bg Bs,db g b a C] λv s=>v=.so 3 0 0 m/\s=[dV t root parts bg nb,fW bg Bs,db g b a C,cF 0 l])
  (h0:s[0]?=some (dV t root parts bg nb)) (h1:s[1]?=some (fW bg Bs)) (h2:s[2]?=some (db g b a C)) (h3:s[3]?=some hole)
  (hk:K (.so 3 1 0 m) (s.set 3 (cF 1 l))):av Tryz.prog f [.rf 0 0 0 0,.so 2 g 0 C.length] s K:=by
 refine Xe (k:=3) (ob:=hole) (g:=0) (sz:=1) (n:=m) (l:=l.map λb=>[bD b]) ?_ h3 (by rw[<- SV];exact hk);have hm:∀ρ,ba (0::1::ρ) (dV t root parts bg nb)=dV t root parts bg nb:=λρ=>rfl;refine iG h [0,1,2] rfl aF (λj o ho=>?_) rfl (by simp [ak,ak.go]) ?_ ?_
 ·match j with
  |0=>cases ho;rw[hm];exact h0
  |1=>cases ho;rw[fQ];exact h1
  |2=>cases ho;rw[kL];exact h2
  |j+3=>simp at ho
 ·have hb:=hU 3 bg Bs;simp only[alR,alW,alg,alf,alc,Fq,kR 3 _ _ _ ae,alp];simp [aY,dV,ak,hb]
 rintro v s' ⟨rfl,rfl⟩ _;rw[<- SV];have e1:uO [0,1,2] s [dV t root parts bg nb,fW bg Bs,db g b a C] [dV t root parts bg nb,fW bg Bs,db g b a C,cF 0 l]=[0,1,2,s.length]:=rfl;rw[e1];have e5:aI [0,1,2,s.length] (.so 3 0 0 m)=.so s.length 0 0 m:=rfl;rw[e5];simp only[alg,alf,alc,Fq,al9,amj,List.drop_succ_cons,alV,ak8,ak9,hm,fQ,kL,zV,aT];have s0:s.set 0 (dV t root parts bg nb)=s:=by
  exact Zee
 have s1:s.set 1 (fW bg Bs)=s:=by
  exact Zef
 have s2:s.set 2 (db g b a C)=s:=by
  apply List.ext_getElem?;intro j;by_cases hj:j=2
  ·subst hj;rw[List.getElem?_set_self (List.getElem?_eq_some_iff.1 h2).1,h2]
  ·exact Zbu
 rw[s0,s1,s2];first|exact⟨rfl,rfl⟩|exact⟨trivial,rfl⟩
theorem tO{b a:Nat}
  (h:av Tryz.prog f [.rf 0 0 0 0,.so 2 g 0 C.length] [dV t root parts bg nb,fW bg Bs,db g b a C] λv s=>v=.so 3 0 0 m/\s=[dV t root parts bg nb,fW bg Bs,db g b a C,cF 0 l])
  (hk:K (.so 3 1 0 m) [dV t root parts bg nb,fW bg Bs,db g b a C,cF 1 l]):EH Tryz.prog [0,1,2,3] [3] f [.rf 0 0 0 0,.so 2 g 0 C.length] [dV t root parts bg nb,fW bg Bs,db g b a C,hole] K:=by
 refine⟨.so 3 1 0 m,[cF 1 l],rfl,λs' _ jT=>?_,hk⟩;exact RN h (jT 0 aq) (jT 1 aq) (jT 2 aq) (jT 3 aq) ⟨rfl,rfl⟩
theorem AT{re:Re} (hs:re.every OR=true) (hz:re.dp<=1000000) (k:Nat)
  (hk:∀b a,K (.so 2 (re.emit k []++[cq]).length 0 (re.emit k []++[cq]).length) [dV t root parts bg nb,fW bg Bs,db (re.emit k []++[cq]).length b a (re.emit k []++[cq])]) :
  av Tryz.prog 30 [.rf 0 0 0 0,.d (re.bA k)] [dV t root parts bg nb,fW bg Bs] K:=by
 refine Q2 (ok:=dV t root parts bg nb) (g:=0) 0 0 rfl rfl rfl (λb a=>?_);refine an (T7 t root parts bg nb Bs b a re hs hz k) ?_;rintro v s ⟨rfl,rfl⟩;exact hk b a
def ep (p:fU) (t:List Int):Int:=if CD p≠0 then CD p else if 65536<t.length then 4 else if t.all (eM p.aM)=false then 1 else 0
theorem vq (p:fU) (t:List Int) (hf:p.re.df=true) (h:ep p t≠0) (hl:t.length<=1000000):aS Tryz.prog 29 [bk p,.d (ar t)] (.tu [.d (.sc (.pointer none)),i64 (ep p t)]):=by
 have h1:=uR p hf;unfold ep at h ⊢;generalize CD p=ac at *;cases p with
 |mk re aj aM =>
 simp only[bk,Re.ah,ak8,ak9,ak5,ak6,i64,iD,bD,bV]at h1;simp only at h ⊢;by_cases Sb:ac=0
 ·subst Sb;rw[ap aq]at h ⊢;by_cases hlen:65536<t.length
  ·rw[be hlen];have En:(65536:Int)<(t.length:Int):=ae;refine br Tryz.func29 Tryz.ntmps29 Tryz.results29 0 62307562302417931542365956185554679 ?_;simp only[zI,simprocAttr,bk,Re.ah,bV,iD,bD,ar];refine dk h1 ?_;simp only[zI,simprocAttr,bk,Re.ah,bV,iD,bD,ne_eq,not_true_eq_false,ak4,En,gt_iff_lt];all_goals rfl
  ·rw[ap hlen]at h ⊢;have En:¬(65536:Int)<(t.length:Int):=ae;have Pb:t.all (eM aM)=false:=by
    cases hq:t.all (eM aM) with
    |false=>rfl
    |true=>rw[hq]at h;exact absurd rfl h
   rw[be Pb];have jw:=Pb;obtain⟨ru,wK⟩:∃ru,aM=ru:=⟨_,rfl⟩
   cases ru with
   |true =>
    exact Zag
   |false =>
    exact Zag
 ·rw[be Sb];refine br Tryz.func29 Tryz.ntmps29 Tryz.results29 0 62307562302417931542365956185554679 ?_;simp only[zI,simprocAttr,bk,Re.ah,bV,iD,bD,ar];refine dk h1 ?_;simp only[zI,simprocAttr,bk,Re.ah,bV,iD,bD,ne_eq,Sb,not_false_eq_true];all_goals rfl
def eG (L:List (Re×Nat)):D:=.sl (L.map λp=>[p.1.bA p.2])
theorem rF (h:CD p=0):cI p=0/\p.re.eC (List.replicate 10 false) false=true/\sL p.re=true:=by
 unfold CD at h;split at h
 ·rename_i h1;exact absurd h h1
 ·rename_i h1;split at h
  ·cases h
  ·rename_i h2;split at h
   ·cases h
   ·rename_i h3;exact⟨by simpa using h1,by simpa using h2,by simpa using h3⟩
theorem qm (h:ep p t=0):CD p=0/\t.length<=65536/\t.all (eM p.aM)=true:=by
 unfold ep at h;split at h
 ·rename_i h1;exact absurd h h1
 ·rename_i h1;split at h
  ·cases h
  ·rename_i h2;split at h
   ·cases h
   ·rename_i h3;exact⟨by simpa using h1,ae,by simpa using h3⟩
theorem yJ (re:Re):re.looks<=re.size:=by
 refine Re.ind (Q:=λre=>re.looks<=re.size) (λre ih=>?_) re;have hL:∀l:List Re,(∀x∈l,x∈re.kids)->Re.bd l<=Re.da l:=by
  intro l;induction l with
  |nil=>intro _;simp [Re.bd,Re.da]
  |cons x l Gb =>
   intro hm;have h1:=ih x (hm x aq);have h2:=Gb (λy hy=>hm y (by simp [hy]));simp only[Re.bd,Re.da];omega
 have:=hL re.kids (λ_ h=>h);rw[Re.jc,Re.size_eq];split <;> omega
theorem P3 (bM:Nat) (s:List VL.Obj) (d:D):gi bM s (.d d)=.d d:=rfl
theorem Lc (t:List Int) (fK:D) (L:List (Re×Nat)) (pb:VL.Obj) :
  mH [1,3] (kT 4 (bI [pb,⟨0,true,4,[[.d (.sl (t.map λx=>[D.sc (Value.int IntKind.i64 x)])),.d fK,.so 2 L.length 0 L.length,.so 3 0 0 L.length]]⟩,fN L.length (L.map λp=>p.1.bA p.2),⟨0,true,1,List.replicate L.length [.fu []]⟩] [2])) =
   [dV t fK (eG L) 0 L.length,fW 0 (List.replicate L.length [])]:=by
 have hk:bI [pb,⟨0,true,4,[[.d (.sl (t.map λx=>[D.sc (Value.int IntKind.i64 x)])),.d fK,.so 2 L.length 0 L.length,.so 3 0 0 L.length]]⟩,fN L.length (L.map λp=>p.1.bA p.2),⟨0,true,1,List.replicate L.length [.fu []]⟩] [2] =
   [pb,⟨0,true,4,[[.d (.sl (t.map λx=>[D.sc (Value.int IntKind.i64 x)])),.d fK,.so 2 L.length 0 L.length,.so 3 0 0 L.length]]⟩,⟨L.length,false,1,(L.map λp=>p.1.bA p.2).map λd=>[.d d]⟩,⟨0,true,1,List.replicate L.length [.fu []]⟩]:=rfl
 rw[hk];generalize hS:[pb,(⟨0,true,4,[[.d (.sl (t.map λx=>[D.sc (Value.int IntKind.i64 x)])),.d fK,.so 2 L.length 0 L.length,.so 3 0 0 L.length]]⟩:VL.Obj),⟨L.length,false,1,(L.map λp=>p.1.bA p.2).map λd=>[.d d]⟩,⟨0,true,1,List.replicate L.length [.fu []]⟩]=S;have s2:S[2]?=some ⟨L.length,false,1,(L.map λp=>p.1.bA p.2).map λd=>[.d d]⟩:=by rw[<- hS];rfl
 have s3:S[3]?=some ⟨0,true,1,List.replicate L.length [.fu []]⟩:=by rw[<- hS];rfl
 have c2:gi 4 S (.so 2 L.length 0 L.length)=.d (eG L):=by have:=rE (bM:=4) (s:=S) (id:=2) (g:=L.length) (lo:=0) (n:=L.length) (sz:=1) (live:=false) (ds:=L.map λp=>[p.1.bA p.2]) s2 (by rw[alV,aln aq];simp) aq (.inr rfl);rw[gi,this];rfl
 have c3:gi 4 S (.so 3 0 0 L.length)=.so 3 0 0 L.length:=by rw[gi,bq,cJ,s3];simp
 have hc:kT 4 S=[⟨pb.g,pb.live,pb.sz,pb.aA.map λc=>c.map (gi 4 S)⟩,⟨0,true,4,[[.d (.sl (t.map λx=>[D.sc (Value.int IntKind.i64 x)])),.d fK,.d (eG L),.so 3 0 0 L.length]]⟩,⟨L.length,false,1,((L.map λp=>p.1.bA p.2).map λd=>[V.d d]).map λc=>c.map (gi 4 S)⟩,⟨0,true,1,List.replicate L.length [.d (.sl [])]⟩]:=by unfold kT;rw[show S.take 4=[pb,(⟨0,true,4,[[.d (.sl (t.map λx=>[D.sc (Value.int IntKind.i64 x)])),.d fK,.so 2 L.length 0 L.length,.so 3 0 0 L.length]]⟩:VL.Obj),⟨L.length,false,1,(L.map λp=>p.1.bA p.2).map λd=>[.d d]⟩,⟨0,true,1,List.replicate L.length [.fu []]⟩] by rw[<- hS];rfl];simp only[ak8,ak9,P3,c2,c3,List.map_replicate];rfl
 rw[hc];simp only[mH,ak8,ak9,alY,ama];have e4:fZ [1,3] ⟨0,true,1,List.replicate L.length [V.d (.sl [])]⟩=fW 0 (List.replicate L.length []):=by simp [fZ,fe.go,fe,fW]
 rw[e4];rfl
theorem Pm (t:List Int) (fK HI:D) (n i m:Nat) (Bs:List (List Bool)) (l:List Bool) (hl:l.length=m) (x:VL.Obj) :
  kT 2 [dV t fK HI 0 n,⟨0,true,1,(Bs.map λl=>[V.d (.sl (l.map λb=>[bD b]))]).set i [.so 3 1 0 m]⟩,x,cF 1 l]=[dV t fK HI 0 n,fW 0 (Bs.set i l)]:=by
 generalize hS:[dV t fK HI 0 n,⟨0,true,1,(Bs.map λl=>[V.d (.sl (l.map λb=>[bD b]))]).set i [.so 3 1 0 m]⟩,x,cF 1 l]=S;have s3:S[3]?=some (cF 1 l):=by rw[<- hS];rfl
 have s1:S[1]?=some ⟨0,true,1,(Bs.map λl=>[V.d (.sl (l.map λb=>[bD b]))]).set i [.so 3 1 0 m]⟩:=by rw[<- hS];rfl
 have c3:gi 2 S (.so 3 1 0 m)=.d (.sl (l.map λb=>[bD b])):=by have:=rE (bM:=2) (s:=S) (id:=3) (g:=1) (lo:=0) (n:=m) (sz:=1) (live:=true) (aA:=l.map λb=>[bV b]) (ds:=l.map λb=>[bD b]) s3 (by rw[alV,aln (by simp [hl]),alH];rfl) (by simp [hl]) (.inl ae);rw[gi,this];rfl
 have c1:gi 2 S (.so 1 0 0 n)=.so 1 0 0 n:=by rw[gi,bq,cJ,s1];simp
 have e1:kT 2 S=[{ dV t fK HI 0 n with aA:=(dV t fK HI 0 n).aA.map λc=>c.map (gi 2 S) },⟨0,true,1,((Bs.map λl=>[V.d (.sl (l.map λb=>[bD b]))]).set i [.so 3 1 0 m]).map λc=>c.map (gi 2 S)⟩]:=by
  unfold kT
  conv=>lhs;rw[show S.take 2=[dV t fK HI 0 n,⟨0,true,1,(Bs.map λl=>[V.d (.sl (l.map λb=>[bD b]))]).set i [.so 3 1 0 m]⟩] by rw[<- hS];rfl]
  rfl
 rw[e1];simp only[dV,ak8,ak9,P3,c1,ams,c3,alH];unfold fW;rw[ams];rfl
def iY (neg:Bool) (m:Nat) (l:List Bool):List Bool:=(l.take m).map (λb=>b != neg)++l.drop m
theorem HQ (neg:Bool) (l:List Bool):iY neg 0 l=l:=by simp [iY]
theorem L6 (neg:Bool) (l:List Bool):iY neg l.length l=l.map λb=>b != neg:=by simp [iY]
theorem KL (neg:Bool) (m:Nat) (l:List Bool):(iY neg m l).length=l.length:=by simp [iY];omega
theorem Kz (h:l[m]?=some y):(iY neg m l)[m]?=some y:=by have hm:=(List.getElem?_eq_some_iff.1 h).1;unfold iY;rw[List.getElem?_append_right cV];simp only[ak4,alM,Nat.min_eq_left (Nat.le_of_lt hm),ame,List.getElem?_drop,al8];exact h
theorem HG (h:l[m]?=some y):(iY neg m l).set m (y != neg)=iY neg (m+1) l:=by have hm:=(List.getElem?_eq_some_iff.1 h).1;unfold iY;rw[al0 _ _ cV];simp only[ak4,alM,Nat.min_eq_left (Nat.le_of_lt hm),ame];rw[List.drop_eq_getElem_cons hm,alA,bn h,amp,alx];rfl
theorem tI {bM:Nat}{bp:List Nat}{t:Nat} (h:bp.contains t=true):A3 bM s bp e t=gi bM s (e t):=by unfold A3;rw[be h]
theorem DI{N L M:Nat}{a b:Code}{R:VL.Env->List VL.Obj->Prop}{Q:Exit->VL.Env->List VL.Obj->Prop}{p:Prop} [Decidable p] (J:VL.Env->List VL.Obj->Prop)
  (h1:p->∀(B:VL.Env->List VL.Obj->Prop) (Q:Exit->VL.Env->List VL.Obj->Prop),(∀e s,J e s->B e s)->codeWp P N L M a (E5 B Q) e s)
  (h2:¬p->∀(B:VL.Env->List VL.Obj->Prop) (Q:Exit->VL.Env->List VL.Obj->Prop),(∀e s,J e s->B e s)->codeWp P N L M b (E5 B Q) e s)
  (h3:∀e s,J e s->R e s):ow (.d (.sc (.bool (decide p)))) (codeWp P N L M a (E5 R Q)) (codeWp P N L M b (E5 R Q)) e s :=
 lq (λh=>h1 h _ _ h3) (λh=>h2 h _ _ h3)
theorem Rv (p:fU) (t:List Int) (hf:p.re.df=true) (h:ep p t=0) :
  av Tryz.prog 29 [bk p,.d (ar t)] [] λv s=>v=.tu [.rf 0 0 0 0,i64 0]/\s=[dV t (p.re.bA 0) (eG (p.re.cc 0)) 0 (p.re.cc 0).length,fW 0 (bh t (p.re.cc 0) (p.re.cc 0).length)]:=by
 obtain⟨a1,a2,a3⟩:=qm h;obtain⟨b1,b2,b3⟩:=rF a1;obtain⟨v1,v2,v3,v4,v5⟩:=cW b1;have CI:=m8 v4 p.re v5 v1;have hsh:p.re.every JP=true:=by unfold sL at b3;exact(Bool.and_eq_true_iff.1 b3).2
 have yh:=yJ p.re;have h1:=uR p hf;rw[a1]at h1;have J7:=OW p.re CI hsh 0;have xh:=Vf t (.sc (.pointer none)) p.re CI 0 [] cV;have hLl:=Re.vV p.re 0;have hdP:=Re.IG p.re 0;rw[alf,ak6,alc,hdP,ak4]at xh;clear CI hsh b2 b3 hdP v2 v3 v5 b1 a1 h;cases p with
 |mk re aj aM =>
 simp only at *;generalize re.cc 0=L at *;rw[<- hLl]at J7 yh xh;generalize re.bA 0=fK at *;simp only[bk,Re.ah,ak8,ak9,ak5,ak6,i64,iD,bD,bV]at h1;have En:¬(65536:Int)<(t.length:Int):=ae;have jw:=a3;obtain⟨ru,wK⟩:∃ru,aM=ru:=⟨_,rfl⟩
 cases ru with
 |true =>
  exact Zaa
 |false =>
  exact Zaa
def J0 (p:fU) (t:List Int):List (List Bool):=if ep p t=0 then bh t (p.re.cc 0) (p.re.cc 0).length else []
def uW (Bs:List (List Bool)):V:=.d (.sl (Bs.map λl=>[.sl (l.map λb=>[bD b])]))
def Nf (t:List Int) (root parts:D) (Y nb:Nat):VL.Obj:=⟨0,true,4,[[.d (ar t),.d root,.d parts,.so Y 0 0 nb]]⟩
theorem uM (hf:p.re.df=true) (h:ep p t=0)
  (hk:K (.tu [.rf s.length 0 0 0,i64 0]) (s++[Nf t (p.re.bA 0) (eG (p.re.cc 0)) (s.length+1) (p.re.cc 0).length,fW 0 (bh t (p.re.cc 0) (p.re.cc 0).length)])) :
  av Tryz.prog 29 [bk p,.d (ar t)] s K:=by
 refine iG (Rv p t hf h) [] rfl aq (λk o h=>by simp at h) (by cases p;simp [bk,aI,aI.go,Re.ah,i64,bV,iD,bD]) (by cases p;simp [bk,ak,ak.go,Re.ah,i64,bV]) rfl ?_;rintro v s' ⟨rfl,rfl⟩ _;have e1:uO [] s [] [dV t (p.re.bA 0) (eG (p.re.cc 0)) 0 (p.re.cc 0).length,fW 0 (bh t (p.re.cc 0) (p.re.cc 0).length)]=[s.length,s.length+1]:=rfl;rw[e1];have e5:aI [s.length,s.length+1] (.tu [.rf 0 0 0 0,i64 0])=.tu [.rf s.length 0 0 0,i64 0]:=rfl;have e6:∀n a b,ba [s.length,s.length+1] (dV t a b 0 n)=Nf t a b (s.length+1) n:=λn a b=>rfl;rw[e5];simp only[alf,amj,alV,ak9,ak8,e6,fQ,aT];exact hk
theorem MC (p:fU) (t:List Int) (hf:p.re.df=true) (hl:t.length<=1000000):aS Tryz.prog 17 [bk p,.d (ar t)] (.tu [uW (J0 p t),i64 (ep p t)]):=by
 by_cases h:ep p t=0
 ·have hb:J0 p t=bh t (p.re.cc 0) (p.re.cc 0).length:=be h;rw[hb,h];have bL:=λs K hk=>uM hf h (s:=s) (K:=K) hk;have Ml:=fM t (p.re.cc 0) (p.re.cc 0).length;generalize bh t (p.re.cc 0) (p.re.cc 0).length=Bs at *;generalize (p.re.cc 0).length=n at *;generalize p.re.bA 0=rd at *;generalize eG (p.re.cc 0)=pd at *;clear h hf hb;cases p with
  |mk re aj aM =>
  unfold bk at bL;simp only[Re.ah,ak8,ak9,ak5,ak6,i64,iD,bD,bV,ar]at bL;refine br Tryz.func17 Tryz.ntmps17 Tryz.results17 0 247 ?_;simp only[zI,simprocAttr,bk,Re.ah,bV,iD,bD,ar,uW];refine bL _ _ ?_;simp only[zQ,simprocAttr,ar,uW,Nf,alg,alf,alc,ak5,ak6,ne_eq,not_true_eq_false];have hg:(fW 0 Bs).g=0:=rfl;have he:(fW 0 Bs).aA=(Bs.map λl=>[D.sl (l.map λb=>[D.sc (Value.bool b)])]).map λc=>c.map V.d:=by rw[alH];rfl
  have uj:(fW 0 Bs).aA.length=n:=by rw[he];simpa using Ml
  rw[uj,be ⟨hg,ale _⟩,he,fI 7 0 _ _ _ cV];rfl
 ·have hb:J0 p t=[]:=ap h;rw[hb];have he:=vq p t hf h hl;generalize ep p t=se at *;clear hf hb;cases p with
  |mk re aj aM =>
  unfold bk at he;simp only[Re.ah,ak8,ak9,ak5,ak6,i64,iD,bD,bV,ar]at he;refine br Tryz.func17 Tryz.ntmps17 Tryz.results17 0 247 ?_;simp only[zI,simprocAttr,bk,Re.ah,bV,iD,bD,ar,uW];refine dk he ?_;simp only[zQ,simprocAttr,ar,uW,ne_eq,h,not_false_eq_true];all_goals rfl
def Pfx (N:Nat) (st':bE) (o:Option (Bool×bE)):Prop :=
 (st'.ends.length<N/\o=some (false,st'))\/(N<=st'.ends.length/\∃s2,o=some (true,s2)/\s2.empty=false/\s2.steps<=st'.steps/\s2.ends=st'.ends.take N/\s2.aj=st'.aj.take N)
theorem El{f:Int} (h:iu p t i ai f=0):e9 p t f=0/\0<=i/\i<=t.length/\(ef p t i ai f).2.empty=false:=by
 unfold iu at h;by_cases c1:e9 p t f≠0
 ·rw[be c1]at h;exact absurd h c1
 rw[ap c1]at h;have c1:e9 p t f=0:=by simpa using c1
 by_cases c2:i<0\/(t.length:Int)<i
 ·rw[be c2]at h;omega
 rw[ap c2]at h;by_cases c3:(ef p t i ai f).2.empty=true
 ·rw[be c3]at h;omega
 ·exact⟨c1,ae,ae,by simpa using c3⟩
theorem HJ{f:Int} (hv:e9 p t f=0) (h0:0<=i) (h1:i<=t.length) (he:(ef p t i ai f).2.empty=false):iu p t i ai f=0:=by unfold iu;rw[ap (by rw[hv];simp),bm,ap (by rw[he];simp)]
theorem Rl{f:Int} (hv:e9 p t f=0) (h0:0<=i) (h1:i<=t.length):∃n b x,ef p t i ai f=(b,x)/\eK t f n ai (.run (.mk 0 p.re 0 0 .nil) i (nR p)) ⟨0,false,[],[]⟩=some (b,x):=by obtain⟨n,e,_⟩:=lg (ai:=ai) hv h0 h1;exact⟨n,_,_,rfl,e⟩
theorem B4 (aj:Int) (h0:0<=aj) (h1:aj<=9):cI ⟨.mk 0 [] [] 0 0 0 0 false,aj,false⟩=0:=by
 have hw:Re.whole (.mk 0 [] [] 0 0 0 0 false) aj (e8 false)=true:=by rw[Re.whole,Re.az];refine⟨?_,λk hk=>by simp [Re.kids]at hk⟩;simp [bX,Re.op,Re.kids,Re.set,Re.mn,Re.mx,Re.mode,Re.n,Re.neg,cE]
 have hs:Re.size (.mk 0 [] [] 0 0 0 0 false)=1:=eh;have hd:Re.depth (.mk 0 [] [] 0 0 0 0 false)=1:=eh;unfold cI;rw[ap (by show ¬(256<Re.size (.mk 0 [] [] 0 0 0 0 false)\/24<Re.depth (.mk 0 [] [] 0 0 0 0 false));rw[hs,hd];omega),ap];show ¬(aj<0\/9<aj\/Re.whole (.mk 0 [] [] 0 0 0 0 false) aj (e8 false)=false);rw[hw];simp;omega
theorem OP (aj:Int) (h0:0<=aj) (h1:aj<=9) (F:Int) (hF0:1<=F) (hF1:F<=1099511627776):iu ⟨.mk 0 [] [] 0 0 0 0 false,aj,false⟩ [] 0 (-1) F=0:=by
 have VO:e9 ⟨.mk 0 [] [] 0 0 0 0 false,aj,false⟩ [] F=0:=by unfold e9;rw[ap (by rw[B4 aj h0 h1];simp),ap aq,ap aq,bm]
 refine HJ VO (alj _) aq ?_;obtain⟨n,e1,e2⟩:=lg (ai:=-1) VO (alj 0) aq;have hlen:(nR ⟨.mk 0 [] [] 0 0 0 0 false,aj,false⟩).length<=9:=by unfold nR;rw[alQ];show aj.toNat<=9;omega
 have A1:eK [] F 3 (-1) (.run (.mk 0 (.mk 0 [] [] 0 0 0 0 false) 0 0 .nil) 0 (nR ⟨.mk 0 [] [] 0 0 0 0 false,aj,false⟩)) ⟨0,false,[],[]⟩=some (false,⟨1,false,[0],[nR ⟨.mk 0 [] [] 0 0 0 0 false,aj,false⟩]⟩):=by
  generalize nR ⟨.mk 0 [] [] 0 0 0 0 false,aj,false⟩=c at *;show cw [] F (eK [] F 2) (-1) (.run (.mk 0 (.mk 0 [] [] 0 0 0 0 false) 0 0 .nil) 0 c) ⟨0,false,[],[]⟩=_;have bL:(bE.step F ⟨0,false,[],[]⟩)=⟨1,false,[],[]⟩:=by simp only[bE.step,alB];congr 1;exact ce ae
  simp only[cw];rw[ap aq,ap aF,ap aF,ap aF,ap aF];show cw [] F (eK [] F 1) (-1) (.node (.mk 0 (.mk 0 [] [] 0 0 0 0 false) 0 0 .nil) 0 c) ⟨0,false,[],[]⟩=_;simp only[cw];rw[ap aq,ap (by simp [Re.op]),ap (by simp [Re.set,Re.kids];omega),ap aq,bL,ap aq];unfold fA;rw[ap (show ¬(Re.mk 0 [] [] 0 0 0 0 false).op=1 by decide),ap (show ¬(Re.mk 0 [] [] 0 0 0 0 false).op=2 by decide),ap (show ¬(Re.mk 0 [] [] 0 0 0 0 false).op=3 by decide),ap (show ¬(Re.mk 0 [] [] 0 0 0 0 false).op=5 by decide),ap (show ¬(Re.mk 0 [] [] 0 0 0 0 false).op=6 by decide),ap (show ¬((Re.mk 0 [] [] 0 0 0 0 false).op=7\/(Re.mk 0 [] [] 0 0 0 0 false).op=8) by decide),ap (show ¬(Re.mk 0 [] [] 0 0 0 0 false).op=9 by decide),ap (show ¬(Re.mk 0 [] [] 0 0 0 0 false).op=10 by decide),ap (show ¬(Re.mk 0 [] [] 0 0 0 0 false).op=11 by decide)];show cw [] F (eK [] F 0) (-1) (.run .nil 0 c) ⟨1,false,[],[]⟩=_;simp only[cw];rw[ap aq,be aq];simp
 have hX:ef ⟨.mk 0 [] [] 0 0 0 0 false,aj,false⟩ [] 0 (-1) F=_:=Up A1;rw[hX]
theorem G3 {p:fU}{t:List Int}{F:Int} (hv:cI p=0) (hf:p.re.df=true) (hF0:1<=F) (hF1:F<=1099511627776):∀n,n<=t.length+1->(∀i:Int,0<=i->i<=(dC p t F n).2.length->iu (dC p t F n).1 (dC p t F n).2 i (-1) F=0)/\(dC p t F n).1.re.df=true/\(dC p t F n).2.length<=t.length
 |0,_=>by
  obtain⟨_,_,k3,k4,_⟩:=cW hv;refine⟨λi h0 h1=>?_,eh,Nat.zero_le _⟩;have h1:i<=0:=by simpa [dC]using h1
  have:i=0:=ae;subst this;exact OP p.aj k3 k4 F hF0 hF1
 |n+1,hn=>by
  simp only[dC];by_cases c:(List.range (n+1)).all (yf p t n F)=true
  ·rw[be c];refine⟨λi h0 h1=>?_,hf,by rw[alM];omega⟩;have hl:(t.take n).length=n:=by rw[alM];omega
   have h1:i<=((t.take n).length:Int):=h1;rw[hl]at h1;have:=List.all_eq_true.1 c i.toNat (List.mem_range.2 ae);unfold yf at this;have:=of_decide_eq_true this;rwa [show ((i.toNat:Nat):Int)=i by omega]at this
  ·rw[ap c];exact G3 hv hf hF0 hF1 n ae
structure aeS (p:fU) (t:List Int):Prop where
 gF:∀i:Int,0<=i->i<=t.length->iu p t i (-1) 3000=0
 valid:cI p=0
 df:p.re.df=true
 aio:0<=p.re.kx
 kx:p.re.kx<=4000
 len:t.length<=12
 aM:p.aM=false
theorem PD (p:fU) (t:List Int) (F:Int):∀n,(dC p t F n).1=p\/(dC p t F n).1=⟨.mk 0 [] [] 0 0 0 0 false,p.aj,false⟩
 |0=>.inr rfl
 |n+1=>by
  rw[dC];split
  ·exact .inl rfl
  ·exact PD p t F n
theorem LS (p:fU) (t:List Int) (F:Int):∀n,∀x∈(dC p t F n).2,x∈t
 |0=>λx hx=>by cases hx
 |n+1=>by
  rw[dC];split
  ·exact λx hx=>alU hx
  ·exact LS p t F n
end Go.Proofs.YtjjfioalgbecmaaGreat
namespace Go.Proofs.YtjjfioalgbecmaaGreat
open Go.VL Go.Proofs.Tryz
def afg (l:List (Int×Int)):Int:=if sy 1114111 (-2) l=true then (if 64<l.length then 4 else 0) else 1
structure RTh where
 pc:Int
 aR:List Int
structure RSt where
 added:List Bool
 ths:List RTh
def Yn (g:Nj) (n:Int):kz:=g.ins.getD n.toNat ⟨0,0,0,0,[]⟩
structure Nj.gF (g:Nj):Prop where
 aaZ:1<=g.ins.length
 aar:g.ins.length<=8192
 X2:0<=g.aj
 agY:g.aj<=9
 ajd:∀x∈g.ins,x.set.length<=64
 split:∀(i:Nat) (x:kz),g.ins[i]?=some x->x.op=2->0<=x.x/\x.x<g.ins.length/\0<=x.y/\x.y<g.ins.length
 jump:∀(i:Nat) (x:kz),g.ins[i]?=some x->x.op=3->0<=x.x/\x.x<g.ins.length
 save:∀(i:Nat) (x:kz),g.ins[i]?=some x->x.op=4->0<=x.n/\x.n<2*g.aj
 assert:∀(i:Nat) (x:kz),g.ins[i]?=some x->x.op=5->0<=x.n/\x.n<=5
 next:∀(i:Nat) (x:kz),g.ins[i]?=some x->(x.op=1\/4<=x.op)->i+1<g.ins.length
 ops:∀x∈g.ins,0<=x.op/\x.op<=5
structure ahe where
 at_:Int
 st:RSt
structure RTh.ok (g:Nj) (x:RTh):Prop where
 p0:0<=x.pc
 p1:x.pc<g.ins.length
 aR:x.aR.length=(2*g.aj).toNat
 op:(Yn g x.pc).op=0\/(Yn g x.pc).op=1
end Go.Proofs.YtjjfioalgbecmaaGreat
namespace Go.Proofs.YtjjfioalgbecmaaGreat
open Go.VL Go.Proofs.Tryz
def hiB (aM:Bool) (l:List (Int×Int)):Bool:=aM||(match l[l.length-1]? with|none=>true|some s=>decide (s.2<=255))
def XE (x:kz):Bool:=decide ((x.op≠1->x.set.length=0)/\(x.op≠2->x.y=0)/\(x.op≠2->x.op≠3->x.x=0)/\(x.op≠4->x.op≠5->x.n=0))
end Go.Proofs.YtjjfioalgbecmaaGreat
namespace Go.Proofs.YtjjfioalgbecmaaGreat
open Go.VL Go.Proofs.Tryz
end Go.Proofs.YtjjfioalgbecmaaGreat
namespace Go.Proofs.YtjjfioalgbecmaaGreat
open Go.VL Go.Proofs.Tryz
end Go.Proofs.YtjjfioalgbecmaaGreat
namespace Go.Proofs.YtjjfioalgbecmaaGreat
open Go.VL Go.Proofs.Tryz
structure ahv (lo hi aj:Int) (aM:Bool) (x:kz):Prop where
 un:XE x=true
 op:x.op=0\/(x.op=1/\afg x.set=0/\hiB aM x.set=true)\/(x.op=2/\lo<=x.x/\x.x<=hi/\lo<=x.y/\x.y<=hi)\/(x.op=3/\lo<=x.x/\x.x<=hi)\/(x.op=4/\0<=x.n/\x.n<2*aj)\/(x.op=5/\0<=x.n/\x.n<=5)
end Go.Proofs.YtjjfioalgbecmaaGreat
