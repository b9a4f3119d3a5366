/- A part of the proof (K74 K75 K76 K77 K78). -/
import Derived.Test.YtjjfioalgbecmaaGreatOQ51
set_option linter.unusedSimpArgs false
set_option linter.unusedVariables false
open Nat renaming reduceShiftRight → jN, reduceMod → oN, reduceEqDiff → oV, reduceBEq → pZ
open Int renaming reduceNatCast' → D7
set_option maxRecDepth 100000
set_option maxHeartbeats 80000000
namespace Go.Proofs.YtjjfioalgbecmaaGreat
open Go.VL Go.Proofs.Tryz
variable{s:List VL.Obj}{e:VL.Env}{C:List bM}
def xOf (E:Int) (y:bM):bM:=⟨y.op,E,y.y,y.n,y.set⟩
def tq (E:Int) (C:List bM) (a:Int):List bM:=C.set a.toNat (xOf E (C.getD a.toNat Kw))
def cG (E:Int):List Re->Int->List bM
 |[],_=>[]
 |k::l,f=>wN 0 (f+1) (f+(k.code (f+1)).length+2)::(k.code (f+1)++sC E::cG E l (f+(k.code (f+1)).length+2))
def iv:List Re->Int->List Int
 |[],_=>[]
 |k::l,f=>(f+(k.code (f+1)).length+1)::iv l (f+(k.code (f+1)).length+2)
theorem KU (E E':Int):∀(l:List Re) (f:Int),(cG E l f).length=(cG E' l f).length
 |[],_=>rfl
 |k::l,f=>by simp only[cG,ajW,ajQ,KU E E' l]
theorem GG (E:Int):∀(l:List Re) (k:Re) (f:Int),cG E (l++[k]) f=cG E l f++cG E [k] (f+(cG E l f).length)
 |[],k,f=>by simp [cG]
 |x::l,k,f=>by simp only[ajN,cG,GG E l k,aj7,ajW,ajQ];congr 3;simp only[cG,akC,alh,true_and];have e:f+((x.code (f+1)).length:Int)+2+((cG E l (f+(x.code (f+1)).length+2)).length:Int)=f+(((x.code (f+1)).length:Int)+(((cG E l (f+(x.code (f+1)).length+2)).length:Int)+((1:Nat):Int))+((1:Nat):Int)):=ae;rw[e]
theorem DS (E:Int):∀(l:List Re) (k:Re) (f:Int),iv (l++[k]) f=iv l f++iv [k] (f+(cG E l f).length)
 |[],k,f=>by simp [iv,cG]
 |x::l,k,f=>by simp only[ajN,iv,DS E l k,cG,ajW,ajQ];simp only[iv,akC,alh,true_and];have e:f+((x.code (f+1)).length:Int)+2+((cG E l (f+(x.code (f+1)).length+2)).length:Int)=f+(((x.code (f+1)).length:Int)+(((cG E l (f+(x.code (f+1)).length+2)).length:Int)+((1:Nat):Int))+((1:Nat):Int)):=ae;rw[e]
theorem Oy (E:Int):∀(l:List Re) (base rest:List bM),(iv l base.length).foldl (tq E) (base++cG 0 l base.length++rest)=base++cG E l base.length++rest
 |[],base,rest=>by simp [iv,cG]
 |k::l,base,rest=>by
  simp only[iv,cG,akY];generalize hK:k.code (base.length+1)=K;generalize hS:wN 0 (base.length+1) (base.length+K.length+2)=S;have ih:=Oy E l (base++S::(K++[sC E])) rest;have hl:(((base++S::(K++[sC E])).length:Nat):Int)=base.length+K.length+2:=cC;rw[hl]at ih;have e1:tq E (base++S::(K++sC 0::cG 0 l (base.length+K.length+2))++rest) (base.length+K.length+1)=base++S::(K++[sC E])++cG 0 l (base.length+K.length+2)++rest:=by unfold tq;have hn:((base.length:Int)+K.length+1).toNat=(base++S::K).length:=cC;rw[hn];have hA:base++S::(K++sC 0::cG 0 l (base.length+K.length+2))++rest=(base++S::K)++sC 0::(cG 0 l (base.length+K.length+2)++rest):=ak;rw[hA,List.getD_eq_getElem?_getD,List.getElem?_append_right (ajZ _),akQ,akI _ _ (ajZ _),akQ];simp [xOf,sC]
  rw[e1,ih];simp
theorem CT:∀(l:List Re) (k:Re) (f:Int),Re.dJ (l++[k]) f=cG (f+(cG 0 l f).length+(k.code (f+(cG 0 l f).length)).length) l f++k.code (f+(cG 0 l f).length)
 |[],k,f=>by simp [Re.dJ,cG]
 |x::l,k,f=>by
  have ih:=CT l k (f+(x.code (f+1)).length+2);obtain⟨y,l',hl⟩:∃y l',l++[k]=y::l':=by
   cases l with
   |nil=>exact⟨k,[],rfl⟩
   |cons a l=>exact⟨a,l++[k],rfl⟩
  rw[ajN,hl,Re.dJ,<- hl]
  ·rw[ih];simp only[cG,ajW,ajQ,akC];generalize hA:cG 0 l (f+(x.code (f+1)).length+2)=A at *;have e:f+(((x.code (f+1)).length:Int)+((A.length:Int)+((1:Nat):Int))+((1:Nat):Int))=f+((x.code (f+1)).length:Int)+2+(A.length:Int):=ae;rw[e];generalize hB:k.code (f+((x.code (f+1)).length:Int)+2+(A.length:Int))=B at *;generalize hE:f+((x.code (f+1)).length:Int)+2+(A.length:Int)+(B.length:Int)=E at *;have BL:((cG E l (f+(x.code (f+1)).length+2)).length:Int)=A.length:=by rw[KU E 0,hA]
   have e2:f+((x.code (f+1)).length:Int)+2+(((cG E l (f+(x.code (f+1)).length+2)).length:Int)+(B.length:Int))=E:=ae;rw[e2];simp
theorem Td{o:VL.Obj} (k:Nat) (els':List (List V)) (ho:s[k]?=some o) (hl:o.live=true) (hlen:∀c∈els',c.length=o.sz) (hn:els'.length=o.au.length) (hfu:∃c∈o.au,∃l,V.fu l∈c)
  (hw:∀(i j:Nat) (x':V),(els'[i]?.bind (·[j]?))=some x'->∃x,(o.au[i]?.bind (·[j]?))=some x/\(x'=x\/∃l,x=.fu l/\x'=.d (.sl l))):bW e s e (s.set k { o with au:=els' }):=by
 intro σ0 s0 w0 σ w N a hE hI hR;have h:=lQ (p:=σ k) (o':={ o with au:=els' }) (w':=w) hI ho hl rfl rfl rfl (ajZ _) (λ_ _ _=>rfl) (λ_ _ bR _ _ hh=>⟨bR,hh,rfl⟩) (λ_ _ _ hm=>hm) (ajZ _) (λ_=>⟨rfl,rfl⟩)
  (λb base he=>.inl ⟨base,he⟩) (λnE=>by
   rcases hI.content k o ho with h0|⟨b,base,arr,E,h1,h2,h3,h4,h5⟩
   ·rcases h0 with ⟨h1,h2⟩|h1
    ·have:els'=[]:=akj (by rw[hn,h2];rfl);exact .inl (.inl ⟨h1,this⟩)
    ·obtain⟨b,es,c,h1,h2,h3⟩:=h1;exfalso;obtain⟨c,hc,l,hl⟩:=hfu;rw[h3]at hc;obtain⟨e,_,rfl⟩:=List.mem_map.1 hc;simp at hl
   ·refine .inr ⟨b,base,arr,E,h1,h2,hlen,by show base+els'.length*o.sz<=_;rw[hn];exact h4,λi j x' hx=>?_⟩;obtain⟨x,BR,hx2⟩:=hw i j x' hx;obtain⟨u,u1,u2,u3⟩:=h5 i j x BR;refine⟨u,u1,u2,?_⟩;rcases hx2 with rfl|⟨l,rfl,rfl⟩
    ·exact u3.aR nE
    ·have:=u3.aR nE;cases this with|fu h'=>exact .d h')
 exact⟨_,hE.trans h.1,h.2,hR.aR h.1⟩
theorem SQ{g n:Nat}{a b c d:Int} (k:Nat) (hn:n<C.length) (ho:s[k]?=some ⟨g,true,5,((C.map bM.cells).map λc=>c.map V.d).set n [i64 a,i64 b,i64 c,i64 d,.fu []]⟩):bW e s e (s.set k ⟨g,true,5,((C.set n ⟨a,b,c,d,[]⟩).map bM.cells).map λc=>c.map V.d⟩):=by
 refine Td k (((C.set n ⟨a,b,c,d,[]⟩).map bM.cells).map λc=>c.map V.d) ho rfl ?_ ak ⟨_,List.mem_set (by simpa using hn) _,[],ak⟩ ?_
 ·intro c hc;obtain⟨c',Rl,rfl⟩:=List.mem_map.1 hc;obtain⟨x,_,rfl⟩:=List.mem_map.1 Rl;rfl
 ·intro i j x' hx;by_cases hi:n=i
  ·subst hi;rw[akT,akT,List.getElem?_set_self (by simpa using hn)]at hx;rw[List.getElem?_set_self (by simpa using hn)]
   match j with
   |0=>exact⟨_,rfl,.inl (Option.some.inj hx).symm⟩
   |1=>exact⟨_,rfl,.inl (Option.some.inj hx).symm⟩
   |2=>exact⟨_,rfl,.inl (Option.some.inj hx).symm⟩
   |3=>exact⟨_,rfl,.inl (Option.some.inj hx).symm⟩
   |4=>exact⟨_,rfl,.inr ⟨[],rfl,(Option.some.inj hx).symm⟩⟩
   |j+5=>simp [bM.cells]at hx
  ·rw[akT,akT,List.getElem?_set_ne hi]at hx;rw[List.getElem?_set_ne hi];exact⟨x',hx,.inl rfl⟩
theorem KY {l:List Re} (E:Int) (h:∀k∈l,∀f,((k.code f).length:Int)=k.fh):∀f,((cG E l f).length:Int)=Re.cF l+2*l.length:=by
 induction l with
 |nil=>intro f;simp [cG,Re.cF]
 |cons k l ih =>
  intro f;have h1:=h k ak (f+1);have h2:=ih (λx hx=>h x (by simp [hx])) (f+(k.code (f+1)).length+2);simp only[cG,Re.cF,ajW,ajQ]
  push_cast
  omega
theorem WS {a b z:Nat} (h:b<=20000000) (h2:a+100000000*z+100000000<=1000000000000):a+b+100000000*z+70000000<=1000000000000:=ae
theorem QM (C1:List bM) (k:Re) (f:Int):C1++cG 0 [k] f=(C1++[(⟨0,0,0,0,[]⟩:bM)]++k.code (f+1)++[(⟨3,0,0,0,[]⟩:bM)]).set C1.length ⟨2,f+1,f+(k.code (f+1)).length+2,0,[]⟩:=by simp [cG,wN,sC]
theorem zF:∀(l:List Re) (f:Int),(iv l f).length=l.length
 |[],_=>rfl
 |k::l,f=>by simp only[iv,ajW,zF l]
def aSt (C:List bM) (l:List Re) (i g:Nat):List VL.Obj:=bt (C++cG 0 (l.take i) C.length)++[dL g (iv (l.take i) C.length)]
theorem Sw (E:Int) (C:List bM) (a:Int):(tq E C a).length=C.length:=by simp [tq]
theorem G4 (E:Int):∀(J:List Int) (C:List bM),(J.foldl (tq E) C).length=C.length
 |[],_=>rfl
 |a::J,C=>by rw[akY,G4 E J,Sw]
theorem WD {E:Int}{a:Int}{y:bM} (h:C[0+a.toNat]?=some y):tq E C a=C.set (0+a.toNat) (xOf E y):=by rw[ajT]at *;rw[tq,List.getD_eq_getElem?_getD,h];rfl
theorem La:∀(l:List Re) (f x:Int),x∈iv l f->f<=x/\x<f+(cG 0 l f).length
 |[],_,_,h=>by simp [iv]at h
 |k::l,f,x,h=>by
  simp only[iv,akD]at h;simp only[cG,ajW,ajQ,akC];rcases h with rfl|h
  ·omega
  ·have:=La l _ x h;omega
def ZH (C:List bM) (g:Nat) (J:List Int):List VL.Obj:=bt C++[dL g J]
theorem VK (l:List Re) (kz:Re) (hW:∀k∈l++[kz],XY k) (hn:l.length<=1000) (hl:∀k∈l++[kz],∀f,((k.code f).length:Int)=k.fh) (hz:∀k∈l++[kz],0<=k.fh/\k.fh<=9000):AOK (l++[kz]):=by
 intro C hC;have hCb:C.length+100000000<=1000000000000:=by have:=hC kz (List.mem_append_right _ (List.mem_singleton.2 rfl));omega
 have hw0:IntKind.i64.wrap (((l++[kz]).length:Int)-1)=l.length:=by have e:((l++[kz]).length:Int)-1=l.length:=ak;rw[e,bG _ ae]
 refine lr func81 rfl ntmps81 results81 rfl 6 3940649674048239 (ajZ 6) (by first|decide|(simp [mR,sq,sX];done)) ?_;simp only[zQ,simprocAttr,-D7,sX,bt,ajM,hw0];refine⟨cC,?_⟩;refine aw (λn e s=>∃(i g:Nat),n=l.length-i/\i<=l.length/\e 0=.d (.sl ((l++[kz]).map Re.cells))/\e 1=.rf 1 0 0 0/\e 2=.rf 2 0 0 0/\e 3=.rf 0 0 0 0/\e 5=.so 6 g 0 i/\e 15=i64 l.length/\e 16=i64 i/\s=aSt C l i g)
  ⟨_,_,_,.K4 (fW 5 1 rfl),0,0,rfl,ae,rfl,rfl,rfl,rfl,rfl,by (try simp only[zU,pZ,jN,oN,oV,reduceIte]);simp [i64],rfl,by simp [aSt,cG,iv,dL,bt]⟩ ?_
 rintro n e s ⟨i,g,rfl,hi,h0,h1,h2,h3,h5,ji,ka,rfl⟩;rcases akd i l.length with az|gx
 ·obtain⟨k,hk⟩:∃k,l[i]?=some k:=cc az;have hm:k∈l++[kz]:=List.mem_append_left _ (List.mem_of_getElem? hk);have aA:(i:Int)<(l.length:Int):=ae;have hi0:(0:Int)<=(i:Int):=ae;have hli:i<(l++[kz]).length:=cC;have hki:(l++[kz])[i]?=some k:=by rw[List.getElem?_append_left az];exact hk
  have hCk:=hC k hm;have vj:∀j,((cG 0 (l.take j) C.length).length:Int)<=20000000:=λj=>by rw[KY 0 (λx hx=>hl x (List.mem_append_left _ (akv hx))) C.length];have:=(jl (l:=l.take j) (λx hx=>by have:=hz x (List.mem_append_left _ (akv hx));omega)).2;rw[akH]at *;omega
  have iC:=vj i;have hb2:=vj (i+1);have BK:=GG 0 (l.take i) k C.length;have jO:=DS 0 (l.take i) k C.length;rw[<- bm hk]at BK jO;have oT:(((C++cG 0 (l.take i) C.length).length:Nat):Int)=C.length+(cG 0 (l.take i) C.length).length:=ak;have jB:(C++cG 0 (l.take i) C.length).length+100000000*k.size+70000000<=1000000000000:=by rw[ajQ];exact WS ae hCk
  have NF:(iv (l.take i) C.length).length=i:=by rw[zF,akH];omega
  rw[show aSt C l i g=bt (C++cG 0 (l.take i) C.length)++[dL g (iv (l.take i) C.length)] from rfl];have hCn:C++cG 0 (l.take (i+1)) C.length=(C++cG 0 (l.take i) C.length++[(⟨0,0,0,0,[]⟩:bM)]++k.code ((C++cG 0 (l.take i) C.length).length+1)++[(⟨3,0,0,0,[]⟩:bM)]).set (C++cG 0 (l.take i) C.length).length ⟨2,(C++cG 0 (l.take i) C.length).length+1,(C++cG 0 (l.take i) C.length).length+(k.code ((C++cG 0 (l.take i) C.length).length+1)).length+2,0,[]⟩:=by rw[BK,<- aj7,oT];exact QM _ _ _
  rw[<- oT]at jO;clear BK oT;generalize hD1:C++cG 0 (l.take i) C.length=C1 at *;generalize hJ1:iv (l.take i) C.length=J at *;have hw:=hW k hm (C1++[⟨0,0,0,0,[]⟩]) (by rw[ajQ,aki];omega);have uG:=hl k hm;simp only[zQ,simprocAttr,-D7,h0,h1,h2,h3,h5,ji,ka,bt,fy,ajN,ajO,akh,aA];refine mv C1 ae 0 0 0 0 (tl:=[dL g J]) ?_;have Pm:=uG (C1++[(⟨0,0,0,0,[]⟩:bM)]).length;have ahu:(C1++[(⟨0,0,0,0,[]⟩:bM)]).length=C1.length+1:=ak;generalize WB:C1++[(⟨0,0,0,0,[]⟩:bM)]=C2 at *;have e1:((C2.length:Nat):Int)=(C1.length:Int)+1:=ae;rw[<- e1]at hCn;simp only[zQ,simprocAttr,-D7,h0,h1,h2,h3,h5,ji,ka,bt,fy,ajN,ajO,akh];refine cu mix [4] [] ?_;simp only[zQ,simprocAttr,-D7,h0,h1,h2,h3,h5,ji,ka,bt,fy,ajN,ajO,akh,hi0,ajM,hli,ajP,hki];refine ct (rK hw cB cB (tl:=[dL g J]) ⟨rfl,rfl⟩) ?_;have aiO:(C2++k.code C2.length).length=C2.length+(k.code C2.length).length:=ak;have Rp:=hz k hm;generalize hC3:C2++k.code C2.length=C3 at *;simp only[zQ,simprocAttr,-D7,h0,h1,h2,h3,h5,ji,ka,bt,fy,ajN,ajO,akh];refine mv C3 ae 3 0 0 0 (tl:=[dL g J]) ?_;have Yx:(C3++[(⟨3,0,0,0,[]⟩:bM)]).length=C3.length+1:=ak;generalize hC4:C3++[(⟨3,0,0,0,[]⟩:bM)]=C4 at *;have e2:((C4.length:Nat):Int)=(C1.length:Int)+(k.code C2.length).length+2:=ae;rw[<- e2,e1]at hCn;have dO:C4[0+C1.length]?=some ⟨0,0,0,0,[]⟩:=by rw[<- hC4,<- hC3,<- WB,ajT];simp
  have hg:(lW C4).g=C4.length:=rfl;have eZ:(lW C4).sz=5:=rfl;have he:(lW C4).au=(C4.map bM.cells).map λc=>c.map V.d:=rfl;have Gi:(lW C4).live=true:=rfl;have w1:IntKind.i64.wrap ((C1.length:Int)+1)=(C1.length:Int)+1:=bG _ ae;simp only[zQ,simprocAttr,-D7,h0,h1,h2,h3,h5,ji,ka,bt,fy,ajN,ajO,akh,dL,hg,eZ,he,Gi,w1,ajM,dO,ajS];refine⟨λe he=>by rw[List.mem_singleton.1 he];rfl,⟨by rw[NF];omega,ae⟩,ae,aU,l.length-(i+1),_,_,ae,.K4 (SQ (C:=C4) (n:=C1.length) (g:=C4.length) (a:=2) (b:=C1.length+1) (c:=C4.length) (d:=0) 5 ae ?_),i+1,g+1,rfl,az,?_,?_,?_,?_,?_,?_,?_,?_⟩ <;> (try simp only[zU,pZ,jN,oN,oV,reduceIte])
  ·rw[ajT];rfl
  ·exact h0
  ·exact h1
  ·exact h2
  ·exact h3
  ·exact ji
  ·rw[bG _ ae];rfl
  ·have hT:List.take i (J.map λx=>[V.d (D.sc (Value.int IntKind.i64 x))])=J.map λx=>[V.d (D.sc (Value.int IntKind.i64 x))]:=akb (by rw[ajM];omega);have e3:((C3.length:Nat):Int)=(C1.length:Int)+(k.code (C1.length+1)).length+1:=by rw[<- e1];omega
   rw[hT,e3];show _=bt (C++cG 0 (l.take (i+1)) C.length)++[dL (g+1) (iv (l.take (i+1)) C.length)]
   rw[hCn,jO];simp only[bt,fy,lW,aj8,dL,akF,akf,aj9,ajN,ajO,iv,ajR,ajV,i64]
 ·have dX:i=l.length:=by omega
  subst dX;have hm:kz∈l++[kz]:=List.mem_append_right _ (List.mem_singleton.2 rfl);have hCk:=hC kz hm;have vj:((cG 0 l C.length).length:Int)<=20000000:=by rw[KY 0 (λx hx=>hl x (List.mem_append_left _ hx)) C.length];have:=(jl (l:=l) (λx hx=>by have:=hz x (List.mem_append_left _ hx);omega)).2;omega
  have jB:(C++cG 0 l C.length).length+100000000*kz.size+70000000<=1000000000000:=by rw[ajQ];exact WS ae hCk
  have hw:=hW kz hm (C++cG 0 l C.length) ae;have uG:=hl kz hm (C++cG 0 l C.length).length;have Rp:=hz kz hm;have abn:=λE=>Oy E l C (kz.code (C++cG 0 l C.length).length);have mM:=CT l kz C.length;have oT:(((C++cG 0 l C.length).length:Nat):Int)=C.length+(cG 0 l C.length).length:=ak;rw[<- oT]at mM;have NF:=zF l C.length;have YC:∀x∈iv l C.length,0<=x/\x<(C++cG 0 l C.length).length:=λx hx=>by have:=La l C.length x hx;omega
  rw[show aSt C l l.length g=bt (C++cG 0 (l.take l.length) C.length)++[dL g (iv (l.take l.length) C.length)] from rfl,akg,mM];have Ca:C++(cG ((C++cG 0 l C.length).length+(kz.code (C++cG 0 l C.length).length).length) l C.length++kz.code (C++cG 0 l C.length).length)=(iv l C.length).foldl (tq ((C++cG 0 l C.length).length+(kz.code (C++cG 0 l C.length).length).length)) (C++cG 0 l C.length++kz.code (C++cG 0 l C.length).length):=by rw[abn,aj7]
  rw[Ca];clear Ca abn mM oT;have Ro:(((C++cG 0 l C.length)++kz.code (C++cG 0 l C.length).length).length:Int)=(C++cG 0 l C.length).length+(kz.code (C++cG 0 l C.length).length).length:=by rw[ajQ];simp
  rw[<- Ro];generalize C++cG 0 l C.length=C1 at *;generalize iv l C.length=J at *;generalize kz.code C1.length=K at *;generalize C1++K=C2 at *;have hlz:(l++[kz])[l.length]?=some kz:=ak;have ad9:l.length<(l++[kz]).length:=ak;simp only[zQ,simprocAttr,-D7,h0,h1,h2,h3,h5,ji,ka,aku,bt,fy,ajN,ajO,akh];refine cu mix [6] [] ?_;simp only[zQ,simprocAttr,-D7,h0,h1,h2,h3,h5,ji,ka,bt,fy,ajN,ajO,akh,ajM,hw0,ajP,hlz,ad9];refine ct (rK hw cB cB (tl:=[dL g J]) ⟨rfl,rfl⟩) ?_;have ah8:C2.length<=1000000000000:=ae;have hJC:∀x∈J,0<=x/\x<C2.length:=λx hx=>by have:=YC x hx;omega
  clear hw uG YC Ro jB;simp only[zQ,simprocAttr,-D7,h0,h1,h2,h3,h5,ji,ka,bt,fy,ajN,ajO,akh];refine aw (λn e s=>∃(j:Nat),n=J.length-j/\j<=J.length/\e 3=.rf 0 0 0 0/\e 49=.so 6 g 0 J.length/\e 50=i64 J.length/\e 51=i64 j/\s=ZH ((J.take j).foldl (tq C2.length) C2) g J)
   ⟨_,_,_,bA.refl,0,cB,ae,h3,by rw[NF];rfl,by rw[NF];rfl,rfl,rfl⟩ ?_
  clear h0 h1 h2 h3 h5 ji ka;rintro n e s ⟨j,rfl,hj,h3,h49,h50,Pj,rfl⟩;rcases akd j J.length with az|gx
  ·obtain⟨x,hx⟩:∃x,J[j]?=some x:=cc az;have Ys:=hJC x (List.mem_of_getElem? hx);have jR:J[0+j]?=some x:=by rw[ajT];exact hx
   have aA:(j:Int)<(J.length:Int):=ae;have L8:(0:Int)<=(j:Int):=ae;have BK:(J.take (j+1)).foldl (tq C2.length) C2=tq C2.length ((J.take j).foldl (tq C2.length) C2) x:=by rw[bm hx,ak7];rfl
   have S9:((J.take j).foldl (tq C2.length) C2).length=C2.length:=G4 _ _ _;rw[show ZH ((J.take j).foldl (tq C2.length) C2) g J=bt ((J.take j).foldl (tq C2.length) C2)++[dL g J] from rfl];generalize (J.take j).foldl (tq C2.length) C2=Dc at *;have hg:(lW Dc).g=Dc.length:=rfl;have eZ:(lW Dc).sz=5:=rfl;have he:(lW Dc).au=(Dc.map bM.cells).map λc=>c.map V.d:=rfl;have Gi:(lW Dc).live=true:=rfl;obtain⟨y,hy⟩:∃y,Dc[0+x.toNat]?=some y:=cc;have Mo:x.toNat<Dc.length:=ae;have BR:x<(Dc.length:Int):=ae;simp only[zQ,simprocAttr,-D7,h3,h49,h50,Pj,bt,fy,ajN,ajO,akh,dL,aA,L8,az,ajP,jR,ajS,hg,eZ,he,Gi,ajM,Ys.1,Mo,BR,hy,bM.cells];refine⟨J.length-(j+1),_,_,ae,bA.refl,j+1,rfl,az,?_,?_,?_,?_,?_⟩ <;> (try simp only[zU,pZ,jN,oN,oV,reduceIte])
   ·exact h3
   ·exact h49
   ·exact h50
   ·rw[bG _ ae];rfl
   ·rw[BK,WD hy,S9];simp only[ZH,bt,fy,lW,dL,i64,aj8,akT,S9,ajN,ajO,xOf,bM.cells,iD,ajR,ajV]
  ·have Ks:j=J.length:=by omega
   subst Ks;rw[akg];simp only[zQ,simprocAttr,-D7,h3,h49,h50,Pj,aku];exact⟨jr _,rfl⟩
def hZ (c:Int->List bM):Nat->Int->List bM
 |0,_=>[]
 |k+1,f=>hZ c k f++Kw::c (f+(hZ c k f).length+1)
def im (c:Int->List bM):Nat->Int->List Int
 |0,_=>[]
 |k+1,f=>im c k f++[f+(hZ c k f).length]
theorem tK (c:Int->List bM) (mode E:Int):∀(k:Nat) (f:Int),(c8 c mode E k f).length=(hZ c k f).length
 |0,_=>rfl
 |k+1,f=>by simp only[hZ,c8,ajQ,ajW,tK c mode E k f]
theorem zp (c:Int->List bM):∀(k:Nat) (f:Int),(im c k f).length=k
 |0,_=>rfl
 |k+1,f=>by simp only[im,ajQ,ajW,ajX,zp c k f]
theorem LW (c:Int->List bM):∀(k:Nat) (f x:Int),x∈im c k f->f<=x/\x<f+(hZ c k f).length
 |0,_,_,h=>by simp [im]at h
 |k+1,f,x,h=>by
  simp only[im,akm,aj1]at h;simp only[hZ,ajW,ajQ,akC];rcases h with h|rfl
  ·have:=LW c k f x h;omega
  ·omega
def wy (mode E:Int) (C:List bM) (a:Int):List bM:=C.set a.toNat (wN mode (a+1) E)
theorem UC (mode E:Int) (C:List bM) (a:Int):(wy mode E C a).length=C.length:=by simp [wy]
theorem GD (mode E:Int):∀(J:List Int) (C:List bM),(J.foldl (wy mode E) C).length=C.length
 |[],_=>rfl
 |a::J,C=>by rw[akY,GD mode E J,UC]
theorem Oq (c:Int->List bM) (mode E:Int):∀(k:Nat) (base rest:List bM),(im c k base.length).foldl (wy mode E) (base++hZ c k base.length++rest)=base++c8 c mode E k base.length++rest
 |0,base,rest=>by simp [im,hZ,c8]
 |k+1,base,rest=>by
  have ih:=Oq c mode E k base (Kw::(c (base.length+(hZ c k base.length).length+1)++rest));have e1:base++hZ c (k+1) base.length++rest=base++hZ c k base.length++Kw::(c (base.length+(hZ c k base.length).length+1)++rest):=by simp [hZ]
  have e2:((base.length:Int)+(hZ c k base.length).length).toNat=(base++c8 c mode E k base.length).length:=by rw[ajQ,tK];omega
  rw[e1,im,ak7,ih,akY,List.foldl_nil,wy,e2,akI _ _ (ajZ _),akQ];simp only[aj9,c8,tK,aj7,ajN]
def FD (mx f:Int):List bM:=if mx=-1 then [sC f] else []
def wK (mn mx:Int):Nat:=if mx=-1 then 1 else (mx-mn).toNat
theorem VV (c:Int->List bM) (mn mx mode sz f:Int) (h:mx=-1\/sz=(bB c mn.toNat f).length+(hZ c (mx-mn).toNat (f+(bB c mn.toNat f).length)).length) :
  Ai c mn mx mode sz f=bB c mn.toNat f++c8 c mode (f+(bB c mn.toNat f).length+(hZ c (wK mn mx) (f+(bB c mn.toNat f).length)).length+(FD mx (f+(bB c mn.toNat f).length)).length) (wK mn mx) (f+(bB c mn.toNat f).length)++FD mx (f+(bB c mn.toNat f).length):=by
 unfold Ai FD wK;by_cases hm:mx=-1
 ·simp only[be hm,c8,hZ,ajO,ajX,ajW,aj7,ajN];have e:f+((bB c mn.toNat f).length:Int)+((0:Nat):Int)+1=f+(bB c mn.toNat f).length+1:=ae;rw[e];congr 3;omega
 ·rw[ap hm,ap hm,ap hm,akh];congr 2;rcases h with h|h
  ·exact absurd h hm
  ·rw[h];simp;omega
theorem PI (a b mode:Int):aM prog 80 [i64 a,i64 b,i64 mode] (LN (wN mode a b)):=by
 unfold wN;by_cases hm:mode=1
 ·rw[be hm];refine bo func80 ntmps80 results80 0 71 ?_;simp only[zQ,simprocAttr,-D7,hm];rfl
 ·rw[ap hm];refine bo func80 ntmps80 results80 0 71 ?_;simp only[zQ,simprocAttr,-D7,hm];rfl
theorem DU {P:Program}{N L M:Nat}{a b:Code}{R:VL.Env->List VL.Obj->Prop}{Q:Exit->VL.Env->List VL.Obj->Prop}{p:Prop} [Decidable p] (J:VL.Env->List VL.Obj->Prop)
  (h1:p->∀(B:VL.Env->List VL.Obj->Prop) (Q:Exit->VL.Env->List VL.Obj->Prop),(∀e s,J e s->B e s)->codeWp P N L M a (qI B Q) e s)
  (h2:¬p->∀(B:VL.Env->List VL.Obj->Prop) (Q:Exit->VL.Env->List VL.Obj->Prop),(∀e s,J e s->B e s)->codeWp P N L M b (qI B Q) e s)
  (h3:∀e s,J e s->R e s):mb (.d (.sc (.bool (decide p)))) (codeWp P N L M a (qI R Q)) (codeWp P N L M b (qI R Q)) e s :=
 jQ (λh=>h1 h _ _ h3) (λh=>h2 h _ _ h3)
def ZN (C:List bM) (J:List Int) (g:Nat):List VL.Obj:=bt C++[dL g J]
theorem Mv (re k:Re) (hs:re.every ll=true) (hz:re.fh<=8500) (o4:re.op=4) (hk:re.kids=[k]) (hW:XY k):ROK re:=by
 intro C hC;obtain⟨dM,jA⟩:=(Re.aD re).1 hs;obtain⟨qf,wH,IL,m7⟩:=gY.1 dM;obtain⟨hb,Oc⟩:=ga.1 qf;obtain⟨q1,q2,q3,q4,q5,q6,q7,q8,q9,jc⟩:=fU.1 hb;have hlen:=kd re hs ae C.length;have Rp:=(vu hs ae ⟨ae,ae⟩).2 k (by rw[hk];simp);have uG:=kd k (jA k (by rw[hk];simp)) Rp;have VF:=fw k (jh (jA k (by rw[hk];simp)));have Kl:re.kids[0]?=some k:=by rw[hk];rfl
 have fm:(0:Int)<(re.kids.length:Int):=by rw[hk];simp
 have abi:0<re.kids.length:=by rw[hk];simp
 have UF:k.size+1<=re.size:=Re.de (by rw[hk];simp);have oZ:∀i:Nat,((bB k.code i C.length).length:Int)=i*k.fh:=λi=>wU uG i C.length;have MO:∀i:Nat,(i:Int)<=re.mn->(bB k.code i C.length).length<=300000:=λi hi=>by have h1:=oZ i;have h2:(i:Int)*k.fh<=32*9000:=Int.mul_le_mul ae Rp VF.1 ae;omega
 have eZ:re.mx=-1\/re.fh=(bB k.code re.mn.toNat C.length).length+(hZ k.code (re.mx-re.mn).toNat (C.length+(bB k.code re.mn.toNat C.length).length)).length:=by
  rcases Int.decEq re.mx (-1) with h|h
  ·refine .inr ?_;rw[Re.lg,bd,bd,bd,bd,bd,be o4,uK hk,Ai,ap h,ajQ,tK]at hlen;omega
  ·exact .inl h
 have KK:=VV k.code re.mn re.mx re.mode re.fh C.length eZ;have oT:(((C++bB k.code re.mn.toNat C.length).length:Nat):Int)=C.length+(bB k.code re.mn.toNat C.length).length:=ak;rw[<- oT]at KK;have aht:wK re.mn re.mx<=32:=by unfold wK;split <;> omega
 have hHb:∀i f,i<=wK re.mn re.mx->(hZ k.code i f).length<=300000:=λi f hi=>by have h1:=tp uG 0 0 i f;rw[tK]at h1;have h2:(i:Int)*(k.fh+1)<=32*9001:=Int.mul_le_mul ae ae ae ae;omega
 have Ca:C++Ai k.code re.mn re.mx re.mode re.fh C.length=(im k.code (wK re.mn re.mx) (C++bB k.code re.mn.toNat C.length).length).foldl (wy re.mode (((C++bB k.code re.mn.toNat C.length)++hZ k.code (wK re.mn re.mx) (C++bB k.code re.mn.toNat C.length).length++FD re.mx (C++bB k.code re.mn.toNat C.length).length).length)) ((C++bB k.code re.mn.toNat C.length)++hZ k.code (wK re.mn re.mx) (C++bB k.code re.mn.toNat C.length).length++FD re.mx (C++bB k.code re.mn.toNat C.length).length):=by rw[Oq,KK];simp only[ajQ,aj7,akC,Int.add_assoc]
 rw[uK hk,Ca];clear KK Ca eZ hlen oT;refine lr func79 rfl ntmps79 results79 rfl 6 258254417444250595695 (ajZ 6) (by first|decide|(simp [mR,sq,sX];done)) ?_;simp only[zQ,simprocAttr,-D7,sq,Re.ah re,ajM];refine aw (λn e s=>∃i:Nat,n=re.mn.toNat-i/\(i:Int)<=re.mn/\e 0=.d (.el re.cells)/\e 1=.rf 2 0 0 0/\e 2=.rf 1 0 0 0/\e 3=.rf 0 0 0 0/\e 12=i64 re.mn/\e 13=i64 i/\s=Xd (C++bB k.code i C.length))
  ⟨_,_,_,bA.refl,0,rfl,q5,by rw[Re.ah re];rfl,rfl,rfl,rfl,rfl,rfl,by simp [bB,Xd]⟩ ?_
 rintro n e s ⟨i,rfl,hi,h0,h1,h2,h3,dV,gr,rfl⟩;by_cases az:(i:Int)<re.mn
 ·have hw:=hW (C++bB k.code i C.length) (by have:=MO i hi;rw[ajQ];omega);have RU:C++bB k.code i C.length++k.code (C++bB k.code i C.length).length=C++bB k.code (i+1) C.length:=by simp only[bB,aj7,ajQ,akC]
  rw[RU]at hw;generalize C++bB k.code i C.length=C1 at *;generalize WB:C++bB k.code (i+1) C.length=C2 at *;rw[show Xd C1=bt C1 from rfl];simp only[zQ,simprocAttr,-D7,h0,h1,h2,h3,dV,gr,Re.ah re,az];refine cu mix [6] [] ?_;simp only[zQ,simprocAttr,-D7,bt,fy,h0,h1,h2,h3,dV,gr,Re.ah re,az,fm,abi,ajP,Kl,ajM,ajN,ajO,akh];refine ct (rK hw cB cB (tl:=[]) ⟨rfl,rfl⟩) ?_;simp only[zQ,simprocAttr,-D7,h0,h1,h2,h3,dV,gr,akh];refine⟨re.mn.toNat-(i+1),_,_,ae,bA.refl,i+1,ae,ae,?_,?_,?_,?_,?_,?_,by rw[WB];rfl⟩ <;> (try simp only[zU,pZ,jN,oN,oV,reduceIte])
  ·rw[h0,Re.ah re];rfl
  ·exact h1
  ·exact h2
  ·exact h3
  ·exact dV
  ·rw[bG _ ae];rfl
 ·have dX:i=re.mn.toNat:=by omega
  subst dX;have hwx:IntKind.i64.wrap (re.mx-re.mn)=re.mx-re.mn:=bG _ ae;simp only[zQ,simprocAttr,-D7,h0,h1,h2,h3,dV,gr,az];refine cu mix [] [] ?_;simp only[zQ,simprocAttr,-D7,h0,h1,h2,h3,dV,gr,Re.ah re,hwx];have NX:=MO re.mn.toNat hi;have jB:(C++bB k.code re.mn.toNat C.length).length+100000000*k.size+99600000<=1000000000000:=by rw[ajQ];omega
  clear MO oZ;generalize C++bB k.code re.mn.toNat C.length=C1 at *;refine DU (λe s=>e 0=.d (.el re.cells)/\e 1=.rf 2 0 0 0/\e 2=.rf 1 0 0 0/\e 3=.rf 0 0 0 0/\e 5=i64 (wK re.mn re.mx)/\s=Xd C1) ?_ ?_ ?_
  ·intro hm B Q hB;simp only[zQ,simprocAttr,-D7,h0,h1,h2,h3,dV,gr];refine hB _ _ ⟨?_,?_,?_,?_,?_,?_⟩ <;> (try simp only[zU,pZ,jN,oN,oV,reduceIte])
   all_goals (first|exact h0|exact h1|exact h2|exact h3|rfl|(rw[wK,be hm];rfl))
  ·intro hm B Q hB;simp only[zQ,simprocAttr,-D7,h0,h1,h2,h3,dV,gr];refine hB _ _ ⟨?_,?_,?_,?_,?_,?_⟩ <;> (try simp only[zU,pZ,jN,oN,oV,reduceIte])
   all_goals (first|exact h0|exact h1|exact h2|exact h3|rfl|(rw[wK,ap hm,show (((re.mx-re.mn).toNat:Nat):Int)=re.mx-re.mn by omega];rfl))
  clear h0 h1 h2 h3 dV gr;rintro e s ⟨h0,h1,h2,h3,h5,rfl⟩;simp only[zQ,simprocAttr,-D7,h0,h1,h2,h3,h5];generalize hM:wK re.mn re.mx=m at *;refine aw (λn e s=>∃(i g:Nat),n=m-i/\i<=m/\e 0=.d (.el re.cells)/\e 1=.rf 2 0 0 0/\e 2=.rf 1 0 0 0/\e 3=.rf 0 0 0 0/\e 6=.so 6 g 0 i/\e 37=i64 m/\e 38=i64 i/\s=ZN (C1++hZ k.code i C1.length) (im k.code i C1.length) g)
   ⟨_,_,_,.K4 (fW 6 1 rfl),0,0,rfl,ae,h0,h1,h2,h3,rfl,rfl,rfl,by simp [ZN,hZ,im,dL,Xd,bt]⟩ ?_
  clear h0 h1 h2 h3 h5;rintro n e s ⟨i,g,rfl,hi,h0,h1,h2,h3,h6,uJ,UE,rfl⟩;rcases akd i m with az|gx
  ·have aA:(i:Int)<(m:Int):=by omega
   have iC:=hHb i C1.length hi;have NF:=zp k.code i C1.length;have BK:C1++hZ k.code (i+1) C1.length=C1++hZ k.code i C1.length++[(⟨0,0,0,0,[]⟩:bM)]++k.code (C1++hZ k.code i C1.length++[(⟨0,0,0,0,[]⟩:bM)]).length:=by simp only[hZ,Kw,aj7,ajN,ajO,ajQ,ajW,ajX,akC,Int.add_assoc];rfl
   have jO:im k.code (i+1) C1.length=im k.code i C1.length++[((C1++hZ k.code i C1.length).length:Int)]:=by simp only[im,ajQ,akC]
   have hw:=hW (C1++hZ k.code i C1.length++[(⟨0,0,0,0,[]⟩:bM)]) (by rw[ajQ,ajQ,aki];omega);rw[<- BK]at hw;have hD1:(C1++hZ k.code i C1.length).length<=1000000000000:=by rw[ajQ];omega
   rw[show ZN (C1++hZ k.code i C1.length) (im k.code i C1.length) g=bt (C1++hZ k.code i C1.length)++[dL g (im k.code i C1.length)] from rfl];clear BK;generalize C1++hZ k.code i C1.length=D1 at *;generalize hD3:C1++hZ k.code (i+1) C1.length=D3 at *;generalize im k.code i C1.length=J at *;simp only[zQ,simprocAttr,-D7,h0,h1,h2,h3,h6,uJ,UE,bt,fy,ajN,ajO,akh,aA];refine mv D1 hD1 0 0 0 0 (tl:=[dL g J]) ?_;generalize D1++[(⟨0,0,0,0,[]⟩:bM)]=D2 at *;simp only[zQ,simprocAttr,-D7,h0,h1,h2,h3,h6,uJ,UE,bt,fy,ajN,ajO,akh,dL,ajM];refine⟨λe he=>by rw[List.mem_singleton.1 he];rfl,⟨ae,ae⟩,?_⟩;have hT:List.take i (J.map λx=>[V.d (D.sc (Value.int IntKind.i64 x))])=J.map λx=>[V.d (D.sc (Value.int IntKind.i64 x))]:=akb (by rw[ajM];omega);have hJ2:(⟨g+1,true,1,(J.map λx=>[V.d (D.sc (Value.int IntKind.i64 x))])++[[V.d (D.sc (Value.int IntKind.i64 D1.length))]]⟩:VL.Obj)=dL (g+1) (im k.code (i+1) C1.length):=by rw[jO];simp [dL,i64]
   rw[hT,hJ2];clear hT hJ2 jO;generalize hJ3:im k.code (i+1) C1.length=J2 at *;refine cu mix [6] [] ?_;simp only[zQ,simprocAttr,-D7,h0,h1,h2,h3,h6,uJ,UE,bt,fy,ajN,ajO,akh,Re.ah re,ajM,fm,abi,ajP,Kl];refine ct (rK hw cB cB (tl:=[dL (g+1) J2]) ⟨rfl,rfl⟩) ?_;simp only[zQ,simprocAttr,-D7,h0,h1,h2,h3,h6,uJ,UE,bt,fy,ajN,ajO,akh];refine⟨m-(i+1),_,_,ae,bA.refl,i+1,g+1,rfl,az,?_,?_,?_,?_,?_,?_,?_,by rw[hD3,hJ3];rfl⟩ <;> (try simp only[zU,pZ,jN,oN,oV,reduceIte])
   ·rw[h0,Re.ah re];rfl
   ·exact h1
   ·exact h2
   ·exact h3
   ·exact uJ
   ·rw[bG _ ae];rfl
  ·have dX:i=m:=by omega
   subst dX;have hH:=hHb i C1.length (ajZ _);have NF:=zp k.code i C1.length;have YC:∀x∈im k.code i C1.length,0<=x/\x<(C1++hZ k.code i C1.length).length:=λx hx=>by have:=LW k.code i C1.length x hx;rw[ajQ];omega
   have hD1:(C1++hZ k.code i C1.length).length+10<=1000000000000:=by rw[ajQ];omega
   have hJ0:re.mx=-1->(im k.code i C1.length)[0+0]?=some (C1.length:Int):=λh=>by rw[wK,be h]at hM;rw[<- hM];simp [im,hZ]
   rw[show ZN (C1++hZ k.code i C1.length) (im k.code i C1.length) g=bt (C1++hZ k.code i C1.length)++[dL g (im k.code i C1.length)] from rfl];have hTl:(FD re.mx C1.length).length<=1:=by unfold FD;split <;> simp
   have hTn:re.mx≠-1->FD re.mx C1.length=[]:=λh=>ap h;have hTp:re.mx=-1->FD re.mx C1.length=[(⟨3,C1.length,0,0,[]⟩:bM)]:=λh=>be h;have n7:re.mx=-1->i=1:=λh=>by rw[<- hM,wK,be h]
   generalize FD re.mx C1.length=T at *;generalize C1++hZ k.code i C1.length=D1 at *;generalize im k.code i C1.length=J at *;simp only[zQ,simprocAttr,-D7,h0,h1,h2,h3,h6,uJ,UE,aku,bt,fy,ajN,ajO,akh,Re.ah re];refine DU (λe s=>e 0=.d (.el re.cells)/\e 3=.rf 0 0 0 0/\e 6=.so 6 g 0 i/\s=ZN (D1++T) J g) ?_ ?_ ?_
   ·intro hm B Q hB;have hi':=n7 hm;have hj:=hJ0 hm;have hg0:(dL g J).g=g:=rfl;rw[hTp hm]at hB;simp only[zQ,simprocAttr,-D7,h0,h1,h2,h3,h6,uJ,UE];refine cu mix [5] [] ?_;simp only[zQ,simprocAttr,-D7,h0,h1,h2,h3,h6,uJ,UE,bt,fy,ajN,ajO,akh,dL,hi',ajM,ajS,hj,Int.reduceToNat];refine⟨aU,?_⟩;refine ct (mv D1 ae 3 C1.length 0 0 (tl:=[dL g J]) ⟨rfl,rfl⟩) ?_;generalize D1++[(⟨3,C1.length,0,0,[]⟩:bM)]=D2 at *;simp only[zQ,simprocAttr,-D7,h0,h1,h2,h3,h6,uJ,UE,bt,fy,ajN,ajO,akh];refine hB _ _ ⟨?_,?_,?_,?_⟩ <;> (try simp only[zU,pZ,jN,oN,oV,reduceIte])
    all_goals (first|exact h3|exact h6|(rw[h0,Re.ah re];done)|rfl)
   ·intro hm B Q hB;rw[hTn hm,akh]at hB;simp only[zQ,simprocAttr,-D7,h0,h1,h2,h3,h6,uJ,UE];refine hB _ _ ⟨?_,?_,?_,?_⟩ <;> (try simp only[zU,pZ,jN,oN,oV,reduceIte])
    all_goals (first|exact h3|exact h6|(rw[h0,Re.ah re];done)|rfl)
   clear h0 h1 h2 h3 h6 uJ UE;rintro e s ⟨h0,h3,h6,rfl⟩;have hg0:(dL g J).g=g:=rfl;have hD2:(D1++T).length<=1000000000000:=by rw[ajQ];omega
   have hJC:∀x∈J,0<=x/\x<(D1++T).length:=λx hx=>by have:=YC x hx;rw[ajQ];omega
   clear hJ0 hTl hTn hTp n7 YC hD1;generalize D1++T=D2 at *;rw[show ZN D2 J g=bt D2++[dL g J] from rfl];simp only[zQ,simprocAttr,-D7,h0,h3,h6,bt,fy,ajN,ajO,akh,hg0];refine aw (λn e s=>∃(j:Nat),n=J.length-j/\j<=J.length/\e 0=.d (.el re.cells)/\e 3=.rf 0 0 0 0/\e 65=.so 6 g 0 J.length/\e 66=i64 J.length/\e 67=i64 j/\s=ZH ((J.take j).foldl (wy re.mode D2.length) D2) g J)
    ⟨_,_,_,bA.refl,0,cB,ae,by exact h0,by exact h3,by rw[NF];rfl,by rw[NF];rfl,rfl,rfl⟩ ?_
   clear h0 h3 h6;rintro n e s ⟨j,rfl,hj,h0,h3,Z3,h66,h67,rfl⟩;rcases akd j J.length with az|gx
   ·obtain⟨x,hx⟩:∃x,J[j]?=some x:=cc az;have Ys:=hJC x (List.mem_of_getElem? hx);have jR:J[0+j]?=some x:=by rw[ajT];exact hx
    have aA:(j:Int)<(J.length:Int):=ae;have L8:(0:Int)<=(j:Int):=ae;have BK:(J.take (j+1)).foldl (wy re.mode D2.length) D2=wy re.mode D2.length ((J.take j).foldl (wy re.mode D2.length) D2) x:=by rw[bm hx,ak7];rfl
    have S9:((J.take j).foldl (wy re.mode D2.length) D2).length=D2.length:=GD _ _ _ _;rw[show ZH ((J.take j).foldl (wy re.mode D2.length) D2) g J=bt ((J.take j).foldl (wy re.mode D2.length) D2)++[dL g J] from rfl];generalize (J.take j).foldl (wy re.mode D2.length) D2=Dc at *;have hg:(lW Dc).g=Dc.length:=rfl;have eZ:(lW Dc).sz=5:=rfl;have he:(lW Dc).au=(Dc.map bM.cells).map λc=>c.map V.d:=rfl;have Gi:(lW Dc).live=true:=rfl;obtain⟨y,hy⟩:∃y,Dc[0+x.toNat]?=some y:=cc;have Mo:x.toNat<Dc.length:=ae;have BR:x<(Dc.length:Int):=ae;have w1:IntKind.i64.wrap (x+1)=x+1:=bG _ ae;have jO:=PI (x+1) Dc.length re.mode;unfold LN at jO;simp only[i64]at jO;simp only[zQ,simprocAttr,-D7,h0,h3,Z3,h66,h67,bt,fy,ajN,ajO,akh,dL,aA,L8,az,ajP,jR,ajS,hg,eZ,he,Gi,ajM,Ys.1,Mo,BR,hy,bM.cells];refine cu mix [] [(5,[5],[]),(11,[5],[]),(12,[5],[5])] ?_;simp only[zQ,simprocAttr,-D7,h0,h3,Z3,h66,h67,bt,fy,ajN,ajO,akh,dL,aA,L8,az,ajP,jR,ajS,hg,eZ,he,Gi,ajM,Ys.1,Mo,BR,hy,bM.cells,Re.ah re,w1];refine Fk jO ?_;simp only[zQ,simprocAttr,-D7,h0,h3,Z3,h66,h67,bt,fy,ajN,ajO,akh,dL,aA,L8,az,ajP,jR,ajS,hg,eZ,he,Gi,ajM,Ys.1,Mo,BR,hy,bM.cells,Re.ah re,w1];refine⟨J.length-(j+1),_,_,ae,bA.refl,j+1,rfl,az,?_,?_,?_,?_,?_,?_⟩ <;> (try simp only[zU,pZ,jN,oN,oV,reduceIte])
    ·rw[h0,Re.ah re];rfl
    ·exact h3
    ·exact Z3
    ·exact h66
    ·rw[bG _ ae];rfl
    ·rw[BK,wy,S9];simp only[ZH,bt,fy,lW,dL,i64,aj8,akT,S9,ajN,ajO,bM.cells,iD,ajR,ajV,ajT]
   ·have Ks:j=J.length:=by omega
    subst Ks;rw[akg];simp only[zQ,simprocAttr,-D7,h0,h3,Z3,h66,h67,aku];exact⟨jr _,rfl⟩
end Go.Proofs.YtjjfioalgbecmaaGreat
