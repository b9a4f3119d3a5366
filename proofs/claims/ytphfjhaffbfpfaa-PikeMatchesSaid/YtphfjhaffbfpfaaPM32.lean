/- A part of the proof (K74 K75 K76 K77 K78). -/
import Derived.Test.YtphfjhaffbfpfaaPM19
import Derived.Test.YtphfjhaffbfpfaaPM31
set_option linter.all false
set_option maxRecDepth 100000
set_option maxHeartbeats 80000000
namespace Go.Proofs.Ytphfjhaffbfpfaa
open Go.VL Go.Proofs.Try
variable{e:VL.Env}{s:List VL.Obj}{C:List bR}
def Xh (E:Int) (y:bR):bR:=⟨y.op,E,y.y,y.n,y.set⟩
def qL (E:Int) (C:List bR) (a:Int):List bR:=C.set a.toNat (Xh E (C.getD a.toNat EM))
def cW (E:Int):List Re->Int->List bR
 |[],_=>[]
 |k::l,f=>n6 0 (f+1) (f+(k.code (f+1)).length+2)::(k.code (f+1)++s8 E::cW E l (f+(k.code (f+1)).length+2))
def gG:List Re->Int->List Int
 |[],_=>[]
 |k::l,f=>(f+(k.code (f+1)).length+1)::gG l (f+(k.code (f+1)).length+2)
theorem FZ (E E':Int):∀(l:List Re) (f:Int),(cW E l f).length=(cW E' l f).length
 |[],_=>rfl
 |k::l,f=>by simp only[cW,adA,adx,FZ E E' l]
theorem Ct (E:Int):∀(l:List Re) (k:Re) (f:Int),cW E (l++[k]) f=cW E l f++cW E [k] (f+(cW E l f).length)
 |[],k,f=>by simp [cW]
 |x::l,k,f=>by
  simp only[adr,cW,Ct E l k,adX,adA,adx];congr 3;simp only[cW,aef,List.cons.injEq,true_and];have e:f+((x.code (f+1)).length:Int)+2+((cW E l (f+(x.code (f+1)).length+2)).length:Int)=f+(((x.code (f+1)).length:Int)+(((cW E l (f+(x.code (f+1)).length+2)).length:Int)+((1:Nat):Int))+((1:Nat):Int)):=by omega
  rw[e]
theorem yZ (E:Int):∀(l:List Re) (k:Re) (f:Int),gG (l++[k]) f=gG l f++gG [k] (f+(cW E l f).length)
 |[],k,f=>by simp [gG,cW]
 |x::l,k,f=>by
  simp only[adr,gG,yZ E l k,cW,adA,adx];simp only[gG,aef,List.cons.injEq,true_and];have e:f+((x.code (f+1)).length:Int)+2+((cW E l (f+(x.code (f+1)).length+2)).length:Int)=f+(((x.code (f+1)).length:Int)+(((cW E l (f+(x.code (f+1)).length+2)).length:Int)+((1:Nat):Int))+((1:Nat):Int)):=by omega
  rw[e]
theorem JU (E:Int):∀(l:List Re) (base rest:List bR),(gG l base.length).foldl (qL E) (base++cW 0 l base.length++rest)=base++cW E l base.length++rest
 |[],base,rest=>by simp [gG,cW]
 |k::l,base,rest=>by
  simp only[gG,cW,List.foldl_cons];generalize hK:k.code (base.length+1)=K;generalize hS:n6 0 (base.length+1) (base.length+K.length+2)=S;have ih:=JU E l (base++S::(K++[s8 E])) rest;have hl:(((base++S::(K++[s8 E])).length:Nat):Int)=base.length+K.length+2:=by simp;omega
  rw[hl]at ih;have e1:qL E (base++S::(K++s8 0::cW 0 l (base.length+K.length+2))++rest) (base.length+K.length+1)=base++S::(K++[s8 E])++cW 0 l (base.length+K.length+2)++rest:=by
   unfold qL;have hn:((base.length:Int)+K.length+1).toNat=(base++S::K).length:=by simp;omega
   rw[hn];have hA:base++S::(K++s8 0::cW 0 l (base.length+K.length+2))++rest=(base++S::K)++s8 0::(cW 0 l (base.length+K.length+2)++rest):=by simp
   rw[hA,List.getD_eq_getElem?_getD,adN (adB _),Nat.sub_self,List.set_append_right _ _ (adB _),Nat.sub_self];simp [Xh,s8]
  rw[e1,ih];simp
theorem y7:∀(l:List Re) (k:Re) (f:Int),Re.dA (l++[k]) f=cW (f+(cW 0 l f).length+(k.code (f+(cW 0 l f).length)).length) l f++k.code (f+(cW 0 l f).length)
 |[],k,f=>by simp [Re.dA,cW]
 |x::l,k,f=>by
  have ih:=y7 l k (f+(x.code (f+1)).length+2);obtain⟨y,l',hl⟩:∃y l',l++[k]=y::l':=by
   cases l with
   |nil=>exact⟨k,[],rfl⟩
   |cons a l=>exact⟨a,l++[k],rfl⟩
  rw[adr,hl,Re.dA,<- hl]
  ·rw[ih];simp only[cW,adA,adx,aef];generalize hA:cW 0 l (f+(x.code (f+1)).length+2)=A at *;have e:f+(((x.code (f+1)).length:Int)+((A.length:Int)+((1:Nat):Int))+((1:Nat):Int))=f+((x.code (f+1)).length:Int)+2+(A.length:Int):=by omega
   rw[e];generalize hB:k.code (f+((x.code (f+1)).length:Int)+2+(A.length:Int))=B at *;generalize hE:f+((x.code (f+1)).length:Int)+2+(A.length:Int)+(B.length:Int)=E at *;have MQ:((cW E l (f+(x.code (f+1)).length+2)).length:Int)=A.length:=by rw[FZ E 0,hA]
   have e2:f+((x.code (f+1)).length:Int)+2+(((cW E l (f+(x.code (f+1)).length+2)).length:Int)+(B.length:Int))=E:=by omega
   rw[e2];simp
theorem Ng{o:VL.Obj} (k:Nat) (els':List (List V)) (ho:s[k]?=some o) (hl:o.live=true) (hlen:∀c∈els',c.length=o.sz) (hn:els'.length=o.aI.length) (V9:∃c∈o.aI,∃l,V.fu l∈c)
  (hw:∀(i j:Nat) (x':V),(els'[i]?.bind (·[j]?))=some x'->∃x,(o.aI[i]?.bind (·[j]?))=some x/\(x'=x\/∃l,x=.fu l/\x'=.d (.sl l))):ca e s e (s.set k { o with aI:=els' }):=by
 intro σ0 s0 w0 σ w N a hE hI hR;have h:=la (p:=σ k) (o':={ o with aI:=els' }) (w':=w) hI ho hl rfl rfl rfl (adB _) (λ_ _ _=>rfl) (λ_ _ cH _ _ hh=>⟨cH,hh,rfl⟩) (λ_ _ _ hm=>hm) (adB _) (λ_=>⟨rfl,rfl⟩)
  (λb base he=>.inl ⟨base,he⟩) (λoI=>by
   rcases hI.content k o ho with h0|⟨b,base,arr,E,h1,h2,h3,h4,h5⟩
   ·rcases h0 with ⟨h1,h2⟩|h1
    ·have:els'=[]:=adJ (by rw[hn,h2];rfl);exact .inl (.inl ⟨h1,this⟩)
    ·obtain⟨b,es,c,h1,h2,h3⟩:=h1;exfalso;obtain⟨c,hc,l,hl⟩:=V9;rw[h3]at hc;obtain⟨e,_,rfl⟩:=List.mem_map.1 hc;simp at hl
   ·refine .inr ⟨b,base,arr,E,h1,h2,hlen,by show base+els'.length*o.sz<=_;rw[hn];exact h4,λi j x' hx=>?_⟩;obtain⟨x,Ps,MV⟩:=hw i j x' hx;obtain⟨u,u1,u2,u3⟩:=h5 i j x Ps;refine⟨u,u1,u2,?_⟩;rcases MV with rfl|⟨l,rfl,rfl⟩
    ·exact u3.bF oI
    ·have:=u3.bF oI;cases this with|fu h'=>exact .d h')
 exact⟨_,hE.trans h.1,h.2,hR.bF h.1⟩
theorem Nr{g n:Nat}{a b c d:Int} (k:Nat) (hn:n<C.length) (ho:s[k]?=some ⟨g,true,5,((C.map bR.cells).map λc=>c.map V.d).set n [i64 a,i64 b,i64 c,i64 d,.fu []]⟩):ca e s e (s.set k ⟨g,true,5,((C.set n ⟨a,b,c,d,[]⟩).map bR.cells).map λc=>c.map V.d⟩):=by
 refine Ng k (((C.set n ⟨a,b,c,d,[]⟩).map bR.cells).map λc=>c.map V.d) ho rfl ?_ (by simp) ⟨_,List.mem_set (by simpa using hn) _,[],by simp⟩ ?_
 ·intro c hc;obtain⟨c',UJ,rfl⟩:=List.mem_map.1 hc;obtain⟨x,_,rfl⟩:=List.mem_map.1 UJ;rfl
 ·intro i j x' hx;by_cases hi:n=i
  ·subst hi;rw[List.map_set,List.map_set,List.getElem?_set_self (by simpa using hn)]at hx;rw[List.getElem?_set_self (by simpa using hn)]
   match j with
   |0=>exact⟨_,rfl,.inl (Option.some.inj hx).symm⟩
   |1=>exact⟨_,rfl,.inl (Option.some.inj hx).symm⟩
   |2=>exact⟨_,rfl,.inl (Option.some.inj hx).symm⟩
   |3=>exact⟨_,rfl,.inl (Option.some.inj hx).symm⟩
   |4=>exact⟨_,rfl,.inr ⟨[],rfl,(Option.some.inj hx).symm⟩⟩
   |j+5=>simp [bR.cells]at hx
  ·rw[List.map_set,List.map_set,List.getElem?_set_ne hi]at hx;rw[List.getElem?_set_ne hi];exact⟨x',hx,.inl rfl⟩
theorem EL {l:List Re} (E:Int) (h:∀k∈l,∀f,((k.code f).length:Int)=k.fw):∀f,((cW E l f).length:Int)=Re.cA l+2*l.length:=by
 induction l with
 |nil=>intro f;simp [cW,Re.cA]
 |cons k l ih =>
  intro f;have h1:=h k (by simp) (f+1);have h2:=ih (λx hx=>h x (by simp [hx])) (f+(k.code (f+1)).length+2);simp only[cW,Re.cA,adA,adx]
  push_cast
  omega
theorem Sm {a b z:Nat} (h:b<=20000000) (h2:a+100000000*z+100000000<=1000000000000):a+b+100000000*z+70000000<=1000000000000:=by omega
theorem LW (C1:List bR) (k:Re) (f:Int):C1++cW 0 [k] f=(C1++[(⟨0,0,0,0,[]⟩:bR)]++k.code (f+1)++[(⟨3,0,0,0,[]⟩:bR)]).set C1.length ⟨2,f+1,f+(k.code (f+1)).length+2,0,[]⟩:=by simp [cW,n6,s8]
theorem xc:∀(l:List Re) (f:Int),(gG l f).length=l.length
 |[],_=>rfl
 |k::l,f=>by simp only[gG,adA,xc l]
def XH (C:List bR) (l:List Re) (i g:Nat):List VL.Obj:=bI (C++cW 0 (l.take i) C.length)++[dQ g (gG (l.take i) C.length)]
theorem NI (E:Int) (C:List bR) (a:Int):(qL E C a).length=C.length:=by simp [qL]
theorem BN (E:Int):∀(J:List Int) (C:List bR),(J.foldl (qL E) C).length=C.length
 |[],_=>rfl
 |a::J,C=>by rw[List.foldl_cons,BN E J,NI]
theorem RI {E:Int}{a:Int}{y:bR} (h:C[0+a.toNat]?=some y):qL E C a=C.set (0+a.toNat) (Xh E y):=by rw[adI]at *;rw[qL,List.getD_eq_getElem?_getD,h];rfl
theorem Em:∀(l:List Re) (f x:Int),x∈gG l f->f<=x/\x<f+(cW 0 l f).length
 |[],_,_,h=>by simp [gG]at h
 |k::l,f,x,h=>by
  simp only[gG,aeg]at h;simp only[cW,adA,adx,aef];rcases h with rfl|h
  ·omega
  ·have:=Em l _ x h;omega
def U1 (C:List bR) (g:Nat) (J:List Int):List VL.Obj:=bI C++[dQ g J]
theorem Q9 (l:List Re) (kz:Re) (hW:∀k∈l++[kz],Ug k) (hn:l.length<=1000) (hl:∀k∈l++[kz],∀f,((k.code f).length:Int)=k.fw) (hz:∀k∈l++[kz],0<=k.fw/\k.fw<=9000):AOK (l++[kz]):=by
 intro C hC;have hCb:C.length+100000000<=1000000000000:=by have:=hC kz (List.mem_append_right _ (List.mem_singleton.2 rfl));omega
 have ZO:IntKind.i64.wrap (((l++[kz]).length:Int)-1)=l.length:=by
  have e:((l++[kz]).length:Int)-1=l.length:=by simp
  rw[e,bM _ (by omega)]
 refine ar func40 rfl ntmps40 results40 rfl 6 3940649674048239 (adB 6) (by first|decide|(simp [lN,qt,rJ];done)) ?_;simp only[zX,simprocAttr,-Int.reduceNatCast',i64,bV,iD,bD,rJ,bI,ado,ZO];refine⟨by simp;omega,?_⟩;refine aJ (λn e s=>∃(i g:Nat),n=l.length-i/\i<=l.length/\e 0=.d (.sl ((l++[kz]).map Re.cells))/\e 1=.rf 1 0 0 0/\e 2=.rf 2 0 0 0/\e 3=.rf 0 0 0 0/\e 5=.so 6 g 0 i/\e 15=i64 l.length/\e 16=i64 i/\s=XH C l i g)
  ⟨_,_,_,.WG (nw 5 1 rfl),0,0,rfl,by omega,rfl,rfl,rfl,rfl,rfl,by (try simp only[zU,Nat.reduceBEq,Nat.reduceShiftRight,Nat.reduceMod,Nat.reduceEqDiff,reduceIte]);simp [i64],rfl,by simp [XH,cW,gG,dQ,bI]⟩ ?_
 rintro n e s ⟨i,g,rfl,hi,h0,h1,h2,h3,h5,pf,zG,rfl⟩;rcases adV i l.length with aH|iP
 ·obtain⟨k,hk⟩:∃k,l[i]?=some k:=⟨_,adn aH⟩
  have hm:k∈l++[kz]:=List.mem_append_left _ (adw hk);have bo:(i:Int)<(l.length:Int):=by omega
  have hi0:(0:Int)<=(i:Int):=by omega
  have UR:i<(l++[kz]).length:=by simp;omega
  have hki:(l++[kz])[i]?=some k:=by rw[adM aH];exact hk
  have Zm:=hC k hm;have sO:∀j,((cW 0 (l.take j) C.length).length:Int)<=20000000:=λj=>by rw[EL 0 (λx hx=>hl x (List.mem_append_left _ (List.mem_of_mem_take hx))) C.length];have:=(iz (l:=l.take j) (λx hx=>by have:=hz x (List.mem_append_left _ (List.mem_of_mem_take hx));omega)).2;rw[ad5]at *;omega
  have rm:=sO i;have NV:=sO (i+1);have HX:=Ct 0 (l.take i) k C.length;have du:=yZ 0 (l.take i) k C.length;rw[<- cy hk]at HX du;have oV:(((C++cW 0 (l.take i) C.length).length:Nat):Int)=C.length+(cW 0 (l.take i) C.length).length:=by simp
  have Za:(C++cW 0 (l.take i) C.length).length+100000000*k.size+70000000<=1000000000000:=by rw[adx];exact Sm (by omega) Zm
  have RO:(gG (l.take i) C.length).length=i:=by rw[xc,ad5];omega
  rw[show XH C l i g=bI (C++cW 0 (l.take i) C.length)++[dQ g (gG (l.take i) C.length)] from rfl];have XV:C++cW 0 (l.take (i+1)) C.length=(C++cW 0 (l.take i) C.length++[(⟨0,0,0,0,[]⟩:bR)]++k.code ((C++cW 0 (l.take i) C.length).length+1)++[(⟨3,0,0,0,[]⟩:bR)]).set (C++cW 0 (l.take i) C.length).length ⟨2,(C++cW 0 (l.take i) C.length).length+1,(C++cW 0 (l.take i) C.length).length+(k.code ((C++cW 0 (l.take i) C.length).length+1)).length+2,0,[]⟩:=by rw[HX,<- adX,oV];exact LW _ _ _
  rw[<- oV]at du;clear HX oV;generalize Xk:C++cW 0 (l.take i) C.length=C1 at *;generalize hJ1:gG (l.take i) C.length=J at *;have hw:=hW k hm (C1++[⟨0,0,0,0,[]⟩]) (by rw[adx,List.length_singleton];omega);have AZ:=hl k hm;simp only[zX,simprocAttr,-Int.reduceNatCast',i64,bV,iD,bD,h0,h1,h2,h3,h5,pf,zG,bI,fq,adr,adt,adS,bo];refine kR C1 (by omega) 0 0 0 0 (tl:=[dQ g J]) ?_;have JZ:=AZ (C1++[(⟨0,0,0,0,[]⟩:bR)]).length;have acw:(C1++[(⟨0,0,0,0,[]⟩:bR)]).length=C1.length+1:=by simp
  generalize VU:C1++[(⟨0,0,0,0,[]⟩:bR)]=C2 at *;have e1:((C2.length:Nat):Int)=(C1.length:Int)+1:=by omega
  rw[<- e1]at XV;simp only[zX,simprocAttr,-Int.reduceNatCast',i64,bV,iD,bD,h0,h1,h2,h3,h5,pf,zG,bI,fq,adr,adt,adS];refine ao mix [4] [] (by rfl) ?_;simp only[zX,simprocAttr,-Int.reduceNatCast',i64,bV,iD,bD,h0,h1,h2,h3,h5,pf,zG,bI,fq,adr,adt,adS,hi0,ado,UR,adR,hki];refine bj (pN hw (by rfl) (by rfl) (tl:=[dQ g J]) ⟨rfl,rfl⟩) ?_;have acB:(C2++k.code C2.length).length=C2.length+(k.code C2.length).length:=by simp
  have Q6:=hz k hm;generalize hC3:C2++k.code C2.length=C3 at *;simp only[zX,simprocAttr,-Int.reduceNatCast',i64,bV,iD,bD,h0,h1,h2,h3,h5,pf,zG,bI,fq,adr,adt,adS];refine kR C3 (by omega) 3 0 0 0 (tl:=[dQ g J]) ?_;have aa0:(C3++[(⟨3,0,0,0,[]⟩:bR)]).length=C3.length+1:=by simp
  generalize hC4:C3++[(⟨3,0,0,0,[]⟩:bR)]=C4 at *;have e2:((C4.length:Nat):Int)=(C1.length:Int)+(k.code C2.length).length+2:=by omega
  rw[<- e2,e1]at XV;have kK:C4[0+C1.length]?=some ⟨0,0,0,0,[]⟩:=by rw[<- hC4,<- hC3,<- VU,adI];simp
  have hg:(ks C4).g=C4.length:=rfl;have gf:(ks C4).sz=5:=rfl;have he:(ks C4).aI=(C4.map bR.cells).map λc=>c.map V.d:=rfl;have P3:(ks C4).live=true:=rfl;have w1:IntKind.i64.wrap ((C1.length:Int)+1)=(C1.length:Int)+1:=bM _ (by omega);simp only[zX,simprocAttr,-Int.reduceNatCast',i64,bV,iD,bD,h0,h1,h2,h3,h5,pf,zG,bI,fq,adr,adt,adS,dQ,hg,gf,he,P3,w1,ado,kK,ad9];refine⟨λe he=>by rw[List.mem_singleton.1 he];rfl,⟨by rw[RO];omega,by omega⟩,by omega,by decide,l.length-(i+1),_,_,by omega,.WG (Nr (C:=C4) (n:=C1.length) (g:=C4.length) (a:=2) (b:=C1.length+1) (c:=C4.length) (d:=0) 5 (by omega) ?_),i+1,g+1,rfl,aH,?_,?_,?_,?_,?_,?_,?_,?_⟩ <;> (try simp only[zU,Nat.reduceBEq,Nat.reduceShiftRight,Nat.reduceMod,Nat.reduceEqDiff,reduceIte])
  ·rw[adI];rfl
  ·exact h0
  ·exact h1
  ·exact h2
  ·exact h3
  ·exact pf
  ·rw[bM _ (by omega)];rfl
  ·have hT:List.take i (J.map λx=>[V.d (D.sc (Value.int IntKind.i64 x))])=J.map λx=>[V.d (D.sc (Value.int IntKind.i64 x))]:=adT (by rw[ado];omega);have e3:((C3.length:Nat):Int)=(C1.length:Int)+(k.code (C1.length+1)).length+1:=by rw[<- e1];omega
   rw[hT,e3];show _=bI (C++cW 0 (l.take (i+1)) C.length)++[dQ (g+1) (gG (l.take (i+1)) C.length)]
   rw[XV,du];simp only[bI,fq,ks,List.length_set,dQ,List.map_append,ad6,ad0,adr,adt,gG,adG,adP,i64]
 ·have fy:i=l.length:=by omega
  subst fy;have hm:kz∈l++[kz]:=List.mem_append_right _ (List.mem_singleton.2 rfl);have Zm:=hC kz hm;have sO:((cW 0 l C.length).length:Int)<=20000000:=by rw[EL 0 (λx hx=>hl x (List.mem_append_left _ hx)) C.length];have:=(iz (l:=l) (λx hx=>by have:=hz x (List.mem_append_left _ hx);omega)).2;omega
  have Za:(C++cW 0 l C.length).length+100000000*kz.size+70000000<=1000000000000:=by rw[adx];exact Sm (by omega) Zm
  have hw:=hW kz hm (C++cW 0 l C.length) (by omega);have AZ:=hl kz hm (C++cW 0 l C.length).length;have Q6:=hz kz hm;have WL:=λE=>JU E l C (kz.code (C++cW 0 l C.length).length);have Oc:=y7 l kz C.length;have oV:(((C++cW 0 l C.length).length:Nat):Int)=C.length+(cW 0 l C.length).length:=by simp
  rw[<- oV]at Oc;have RO:=xc l C.length;have W2:∀x∈gG l C.length,0<=x/\x<(C++cW 0 l C.length).length:=λx hx=>by have:=Em l C.length x hx;omega
  rw[show XH C l l.length g=bI (C++cW 0 (l.take l.length) C.length)++[dQ g (gG (l.take l.length) C.length)] from rfl,adZ,Oc];have AL:C++(cW ((C++cW 0 l C.length).length+(kz.code (C++cW 0 l C.length).length).length) l C.length++kz.code (C++cW 0 l C.length).length)=(gG l C.length).foldl (qL ((C++cW 0 l C.length).length+(kz.code (C++cW 0 l C.length).length).length)) (C++cW 0 l C.length++kz.code (C++cW 0 l C.length).length):=by rw[WL,adX]
  rw[AL];clear AL WL Oc oV;have Zp:(((C++cW 0 l C.length)++kz.code (C++cW 0 l C.length).length).length:Int)=(C++cW 0 l C.length).length+(kz.code (C++cW 0 l C.length).length).length:=by rw[adx];simp
  rw[<- Zp];generalize C++cW 0 l C.length=C1 at *;generalize gG l C.length=J at *;generalize kz.code C1.length=K at *;generalize C1++K=C2 at *;have hlz:(l++[kz])[l.length]?=some kz:=by simp
  have X3:l.length<(l++[kz]).length:=by simp
  simp only[zX,simprocAttr,-Int.reduceNatCast',i64,bV,iD,bD,h0,h1,h2,h3,h5,pf,zG,Int.lt_irrefl,bI,fq,adr,adt,adS];refine ao mix [6] [] (by rfl) ?_;simp only[zX,simprocAttr,-Int.reduceNatCast',i64,bV,iD,bD,h0,h1,h2,h3,h5,pf,zG,bI,fq,adr,adt,adS,ado,ZO,adR,hlz,X3];refine bj (pN hw (by rfl) (by rfl) (tl:=[dQ g J]) ⟨rfl,rfl⟩) ?_;have acu:C2.length<=1000000000000:=by omega
  have Y8:∀x∈J,0<=x/\x<C2.length:=λx hx=>by have:=W2 x hx;omega
  clear hw AZ W2 Zp Za;simp only[zX,simprocAttr,-Int.reduceNatCast',i64,bV,iD,bD,h0,h1,h2,h3,h5,pf,zG,bI,fq,adr,adt,adS];refine⟨rfl,?_⟩;refine aJ (λn e s=>∃(j:Nat),n=J.length-j/\j<=J.length/\e 3=.rf 0 0 0 0/\e 49=.so 6 g 0 J.length/\e 50=i64 J.length/\e 51=i64 j/\s=U1 ((J.take j).foldl (qL C2.length) C2) g J)
   ⟨_,_,_,cU.refl,0,by rfl,by omega,h3,by rw[RO];rfl,by rw[RO];rfl,rfl,rfl⟩ ?_
  clear h0 h1 h2 h3 h5 pf zG;rintro n e s ⟨j,rfl,hj,h3,YT,Ya,Ko,rfl⟩;rcases adV j J.length with aH|iP
  ·obtain⟨x,hx⟩:∃x,J[j]?=some x:=⟨_,adn aH⟩
   have WD:=Y8 x (adw hx);have nK:J[0+j]?=some x:=by rw[adI];exact hx
   have bo:(j:Int)<(J.length:Int):=by omega
   have TL:(0:Int)<=(j:Int):=by omega
   have HX:(J.take (j+1)).foldl (qL C2.length) C2=qL C2.length ((J.take j).foldl (qL C2.length) C2) x:=by rw[cy hx,List.foldl_append];rfl
   have Vq:((J.take j).foldl (qL C2.length) C2).length=C2.length:=BN _ _ _;rw[show U1 ((J.take j).foldl (qL C2.length) C2) g J=bI ((J.take j).foldl (qL C2.length) C2)++[dQ g J] from rfl];generalize (J.take j).foldl (qL C2.length) C2=Dc at *;have hg:(ks Dc).g=Dc.length:=rfl;have gf:(ks Dc).sz=5:=rfl;have he:(ks Dc).aI=(Dc.map bR.cells).map λc=>c.map V.d:=rfl;have P3:(ks Dc).live=true:=rfl;obtain⟨y,hy⟩:∃y,Dc[0+x.toNat]?=some y:=⟨_,adn (by omega)⟩
   have WN:x.toNat<Dc.length:=by omega
   have Ps:x<(Dc.length:Int):=by omega
   simp only[zX,simprocAttr,-Int.reduceNatCast',i64,bV,iD,bD,h3,YT,Ya,Ko,bI,fq,adr,adt,adS,dQ,bo,TL,aH,adR,nK,ad9,hg,gf,he,P3,ado,WD.1,WN,Ps,hy,bR.cells];refine⟨J.length-(j+1),_,_,by omega,cU.refl,j+1,rfl,aH,?_,?_,?_,?_,?_⟩ <;> (try simp only[zU,Nat.reduceBEq,Nat.reduceShiftRight,Nat.reduceMod,Nat.reduceEqDiff,reduceIte])
   ·exact h3
   ·exact YT
   ·exact Ya
   ·rw[bM _ (by omega)];rfl
   ·rw[HX,RI hy,Vq];simp only[U1,bI,fq,ks,dQ,i64,List.length_set,List.map_set,Vq,adr,adt,Xh,bR.cells,iD,adG,adP]
  ·have Nx:j=J.length:=by omega
   subst Nx;rw[adZ];simp only[zX,simprocAttr,-Int.reduceNatCast',i64,bV,iD,bD,h3,YT,Ya,Ko,Int.lt_irrefl];exact⟨ir _,rfl⟩
def gn (c:Int->List bR):Nat->Int->List bR
 |0,_=>[]
 |k+1,f=>gn c k f++EM::c (f+(gn c k f).length+1)
def gI (c:Int->List bR):Nat->Int->List Int
 |0,_=>[]
 |k+1,f=>gI c k f++[f+(gn c k f).length]
theorem rh (c:Int->List bR) (mode E:Int):∀(k:Nat) (f:Int),(dU c mode E k f).length=(gn c k f).length
 |0,_=>rfl
 |k+1,f=>by simp only[gn,dU,adx,adA,rh c mode E k f]
theorem wh (c:Int->List bR):∀(k:Nat) (f:Int),(gI c k f).length=k
 |0,_=>rfl
 |k+1,f=>by simp only[gI,adx,adA,adF,wh c k f]
theorem GX (c:Int->List bR):∀(k:Nat) (f x:Int),x∈gI c k f->f<=x/\x<f+(gn c k f).length
 |0,_,_,h=>by simp [gI]at h
 |k+1,f,x,h=>by
  simp only[gI,List.mem_append,adW]at h;simp only[gn,adA,adx,aef];rcases h with h|rfl
  ·have:=GX c k f x h;omega
  ·omega
def uw (mode E:Int) (C:List bR) (a:Int):List bR:=C.set a.toNat (n6 mode (a+1) E)
theorem N6 (mode E:Int) (C:List bR) (a:Int):(uw mode E C a).length=C.length:=by simp [uw]
theorem Cc (mode E:Int):∀(J:List Int) (C:List bR),(J.foldl (uw mode E) C).length=C.length
 |[],_=>rfl
 |a::J,C=>by rw[List.foldl_cons,Cc mode E J,N6]
theorem JW (c:Int->List bR) (mode E:Int):∀(k:Nat) (base rest:List bR),(gI c k base.length).foldl (uw mode E) (base++gn c k base.length++rest)=base++dU c mode E k base.length++rest
 |0,base,rest=>by simp [gI,gn,dU]
 |k+1,base,rest=>by
  have ih:=JW c mode E k base (EM::(c (base.length+(gn c k base.length).length+1)++rest));have e1:base++gn c (k+1) base.length++rest=base++gn c k base.length++EM::(c (base.length+(gn c k base.length).length+1)++rest):=by simp [gn]
  have e2:((base.length:Int)+(gn c k base.length).length).toNat=(base++dU c mode E k base.length).length:=by rw[adx,rh];omega
  rw[e1,gI,List.foldl_append,ih,List.foldl_cons,List.foldl_nil,uw,e2,List.set_append_right _ _ (adB _),Nat.sub_self];simp only[ad0,dU,rh,adX,adr]
def Bo (mx f:Int):List bR:=if mx=-1 then [s8 f] else []
def uH (mn mx:Int):Nat:=if mx=-1 then 1 else (mx-mn).toNat
theorem QW (c:Int->List bR) (mn mx mode sz f:Int) (h:mx=-1\/sz=(bZ c mn.toNat f).length+(gn c (mx-mn).toNat (f+(bZ c mn.toNat f).length)).length) :
  tg c mn mx mode sz f=bZ c mn.toNat f++dU c mode (f+(bZ c mn.toNat f).length+(gn c (uH mn mx) (f+(bZ c mn.toNat f).length)).length+(Bo mx (f+(bZ c mn.toNat f).length)).length) (uH mn mx) (f+(bZ c mn.toNat f).length)++Bo mx (f+(bZ c mn.toNat f).length):=by
 unfold tg Bo uH;by_cases hm:mx=-1
 ·simp only[ap hm,dU,gn,adt,adF,adA,adX,adr];have e:f+((bZ c mn.toNat f).length:Int)+((0:Nat):Int)+1=f+(bZ c mn.toNat f).length+1:=by omega
  rw[e];congr 3;omega
 ·rw[am hm,am hm,am hm,adS];congr 2;rcases h with h|h
  ·exact absurd h hm
  ·rw[h];simp;omega
theorem L7 (a b mode:Int):ba prog 39 [i64 a,i64 b,i64 mode] (Ej (n6 mode a b)):=by
 unfold n6;by_cases hm:mode=1
 ·rw[ap hm];refine ar func39 rfl ntmps39 results39 rfl 0 71 (by simp) (by simp) ?_;simp only[zX,simprocAttr,-Int.reduceNatCast',i64,bV,iD,bD,hm];rfl
 ·rw[am hm];refine ar func39 rfl ntmps39 results39 rfl 0 71 (by simp) (by simp) ?_;simp only[zX,simprocAttr,-Int.reduceNatCast',i64,bV,iD,bD,hm];rfl
theorem zk {P:Program}{N L M:Nat}{a b:Code}{R:VL.Env->List VL.Obj->Prop}{Q:Exit->VL.Env->List VL.Obj->Prop}{p:Prop} [Decidable p] (J:VL.Env->List VL.Obj->Prop)
  (h1:p->∀(B:VL.Env->List VL.Obj->Prop) (Q:Exit->VL.Env->List VL.Obj->Prop),(∀e s,J e s->B e s)->codeWp P N L M a (sY B Q) e s)
  (h2:¬p->∀(B:VL.Env->List VL.Obj->Prop) (Q:Exit->VL.Env->List VL.Obj->Prop),(∀e s,J e s->B e s)->codeWp P N L M b (sY B Q) e s)
  (h3:∀e s,J e s->R e s):lz (.d (.sc (.bool (decide p)))) (codeWp P N L M a (sY R Q)) (codeWp P N L M b (sY R Q)) e s :=
 jh (λh=>h1 h _ _ h3) (λh=>h2 h _ _ h3)
def U3 (C:List bR) (J:List Int) (g:Nat):List VL.Obj:=bI C++[dQ g J]
theorem HT (re k:Re) (hs:re.every pZ=true) (hz:re.fw<=8500) (o4:re.op=4) (hk:re.kids=[k]) (hW:Ug k):ZV re:=by
 intro C hC;obtain⟨eC,lP⟩:=(Re.aQ re).1 hs;obtain⟨vZ,xV,Ig,hk0⟩:=eY.1 eC;obtain⟨hb,AV⟩:=eU.1 vZ;obtain⟨q1,q2,q3,q4,q5,q6,q7,q8,q9,SD⟩:=eW.1 hb;have hlen:=jY re hs (by omega) C.length;have Q6:=(rS hs (by omega) ⟨by omega,by omega⟩).2 k (by rw[hk];simp);have AZ:=jY k (lP k (by rw[hk];simp)) Q6;have Qf:=fo k (iB (lP k (by rw[hk];simp)));have ZS:re.kids[0]?=some k:=by rw[hk];rfl
 have jl:(0:Int)<(re.kids.length:Int):=by rw[hk];simp
 have W3:0<re.kids.length:=by rw[hk];simp
 have Mu:k.size+1<=re.size:=Re.dr (by rw[hk];simp);have tW:∀i:Nat,((bZ k.code i C.length).length:Int)=i*k.fw:=λi=>kL AZ i C.length;have Vu:∀i:Nat,(i:Int)<=re.mn->(bZ k.code i C.length).length<=300000:=λi hi=>by have h1:=tW i;have h2:(i:Int)*k.fw<=32*9000:=Int.mul_le_mul (by omega) Q6 Qf.1 (by omega);omega
 have gf:re.mx=-1\/re.fw=(bZ k.code re.mn.toNat C.length).length+(gn k.code (re.mx-re.mn).toNat (C.length+(bZ k.code re.mn.toNat C.length).length)).length:=by
  rcases Int.decEq re.mx (-1) with h|h
  ·refine .inr ?_;rw[Re.fe,am (by omega),am (by omega),am (by omega),am (by omega),am (by omega),ap o4,oF hk,tg,am h,adx,rh]at hlen;omega
  ·exact .inl h
 have YY:=QW k.code re.mn re.mx re.mode re.fw C.length gf;have oV:(((C++bZ k.code re.mn.toNat C.length).length:Nat):Int)=C.length+(bZ k.code re.mn.toNat C.length).length:=by simp
 rw[<- oV]at YY;have acL:uH re.mn re.mx<=32:=by unfold uH;split <;> omega
 have hHb:∀i f,i<=uH re.mn re.mx->(gn k.code i f).length<=300000:=λi f hi=>by have h1:=nR AZ 0 0 i f;rw[rh]at h1;have h2:(i:Int)*(k.fw+1)<=32*9001:=Int.mul_le_mul (by omega) (by omega) (by omega) (by omega);omega
 have AL:C++tg k.code re.mn re.mx re.mode re.fw C.length=(gI k.code (uH re.mn re.mx) (C++bZ k.code re.mn.toNat C.length).length).foldl (uw re.mode (((C++bZ k.code re.mn.toNat C.length)++gn k.code (uH re.mn re.mx) (C++bZ k.code re.mn.toNat C.length).length++Bo re.mx (C++bZ k.code re.mn.toNat C.length).length).length)) ((C++bZ k.code re.mn.toNat C.length)++gn k.code (uH re.mn re.mx) (C++bZ k.code re.mn.toNat C.length).length++Bo re.mx (C++bZ k.code re.mn.toNat C.length).length):=by rw[JW,YY];simp only[adx,adX,aef,Int.add_assoc]
 rw[oF hk,AL];clear YY AL gf hlen oV;refine ar func38 rfl ntmps38 results38 rfl 6 258254417444250595695 (adB 6) (by first|decide|(simp [lN,qt,rJ];done)) ?_;simp only[zX,simprocAttr,-Int.reduceNatCast',i64,bV,iD,bD,qt,Re.ae re,ado];refine aJ (λn e s=>∃i:Nat,n=re.mn.toNat-i/\(i:Int)<=re.mn/\e 0=.d (.el re.cells)/\e 1=.rf 2 0 0 0/\e 2=.rf 1 0 0 0/\e 3=.rf 0 0 0 0/\e 12=i64 re.mn/\e 13=i64 i/\s=Sg (C++bZ k.code i C.length))
  ⟨_,_,_,cU.refl,0,rfl,q5,by rw[Re.ae re];rfl,rfl,rfl,rfl,rfl,rfl,by simp [bZ,Sg]⟩ ?_
 rintro n e s ⟨i,rfl,hi,h0,h1,h2,h3,dZ,eB,rfl⟩;by_cases aH:(i:Int)<re.mn
 ·have hw:=hW (C++bZ k.code i C.length) (by have:=Vu i hi;rw[adx];omega);have No:C++bZ k.code i C.length++k.code (C++bZ k.code i C.length).length=C++bZ k.code (i+1) C.length:=by simp only[bZ,adX,adx,aef]
  rw[No]at hw;generalize C++bZ k.code i C.length=C1 at *;generalize VU:C++bZ k.code (i+1) C.length=C2 at *;rw[show Sg C1=bI C1 from rfl];simp only[zX,simprocAttr,-Int.reduceNatCast',i64,bV,iD,bD,h0,h1,h2,h3,dZ,eB,Re.ae re,aH];refine ao mix [6] [] (by rfl) ?_;simp only[zX,simprocAttr,-Int.reduceNatCast',i64,bV,iD,bD,bI,fq,h0,h1,h2,h3,dZ,eB,Re.ae re,aH,jl,W3,adR,ZS,ado,adr,adt,adS];refine bj (pN hw (by rfl) (by rfl) (tl:=[]) ⟨rfl,rfl⟩) ?_;simp only[zX,simprocAttr,-Int.reduceNatCast',i64,bV,iD,bD,h0,h1,h2,h3,dZ,eB,adS];refine⟨re.mn.toNat-(i+1),_,_,by omega,cU.refl,i+1,by omega,by omega,?_,?_,?_,?_,?_,?_,by rw[VU];rfl⟩ <;> (try simp only[zU,Nat.reduceBEq,Nat.reduceShiftRight,Nat.reduceMod,Nat.reduceEqDiff,reduceIte])
  ·rw[h0,Re.ae re];rfl
  ·exact h1
  ·exact h2
  ·exact h3
  ·exact dZ
  ·rw[bM _ (by omega)];rfl
 ·have fy:i=re.mn.toNat:=by omega
  subst fy;have hwx:IntKind.i64.wrap (re.mx-re.mn)=re.mx-re.mn:=bM _ (by omega);simp only[zX,simprocAttr,-Int.reduceNatCast',i64,bV,iD,bD,h0,h1,h2,h3,dZ,eB,aH];refine ao mix [] [] (by rfl) ?_;simp only[zX,simprocAttr,-Int.reduceNatCast',i64,bV,iD,bD,h0,h1,h2,h3,dZ,eB,Re.ae re,hwx];have Cj:=Vu re.mn.toNat hi;have Za:(C++bZ k.code re.mn.toNat C.length).length+100000000*k.size+99600000<=1000000000000:=by rw[adx];omega
  clear Vu tW;generalize C++bZ k.code re.mn.toNat C.length=C1 at *;refine zk (λe s=>e 0=.d (.el re.cells)/\e 1=.rf 2 0 0 0/\e 2=.rf 1 0 0 0/\e 3=.rf 0 0 0 0/\e 5=i64 (uH re.mn re.mx)/\s=Sg C1) ?_ ?_ ?_
  ·intro hm B Q hB;simp only[zX,simprocAttr,-Int.reduceNatCast',i64,bV,iD,bD,h0,h1,h2,h3,dZ,eB];refine hB _ _ ⟨?_,?_,?_,?_,?_,?_⟩ <;> (try simp only[zU,Nat.reduceBEq,Nat.reduceShiftRight,Nat.reduceMod,Nat.reduceEqDiff,reduceIte])
   all_goals (first|exact h0|exact h1|exact h2|exact h3|rfl|(rw[uH,ap hm];rfl))
  ·intro hm B Q hB;simp only[zX,simprocAttr,-Int.reduceNatCast',i64,bV,iD,bD,h0,h1,h2,h3,dZ,eB];refine hB _ _ ⟨?_,?_,?_,?_,?_,?_⟩ <;> (try simp only[zU,Nat.reduceBEq,Nat.reduceShiftRight,Nat.reduceMod,Nat.reduceEqDiff,reduceIte])
   all_goals (first|exact h0|exact h1|exact h2|exact h3|rfl|(rw[uH,am hm,show (((re.mx-re.mn).toNat:Nat):Int)=re.mx-re.mn by omega];rfl))
  clear h0 h1 h2 h3 dZ eB;rintro e s ⟨h0,h1,h2,h3,h5,rfl⟩;simp only[zX,simprocAttr,-Int.reduceNatCast',i64,bV,iD,bD,h0,h1,h2,h3,h5];generalize hM:uH re.mn re.mx=m at *;refine aJ (λn e s=>∃(i g:Nat),n=m-i/\i<=m/\e 0=.d (.el re.cells)/\e 1=.rf 2 0 0 0/\e 2=.rf 1 0 0 0/\e 3=.rf 0 0 0 0/\e 6=.so 6 g 0 i/\e 37=i64 m/\e 38=i64 i/\s=U3 (C1++gn k.code i C1.length) (gI k.code i C1.length) g)
   ⟨_,_,_,.WG (nw 6 1 rfl),0,0,rfl,by omega,h0,h1,h2,h3,rfl,rfl,rfl,by simp [U3,gn,gI,dQ,Sg,bI]⟩ ?_
  clear h0 h1 h2 h3 h5;rintro n e s ⟨i,g,rfl,hi,h0,h1,h2,h3,h6,HK,PZ,rfl⟩;rcases adV i m with aH|iP
  ·have bo:(i:Int)<(m:Int):=by omega
   have rm:=hHb i C1.length hi;have RO:=wh k.code i C1.length;have HX:C1++gn k.code (i+1) C1.length=C1++gn k.code i C1.length++[(⟨0,0,0,0,[]⟩:bR)]++k.code (C1++gn k.code i C1.length++[(⟨0,0,0,0,[]⟩:bR)]).length:=by simp only[gn,EM,adX,adr,adt,adx,adA,adF,aef,Int.add_assoc];rfl
   have du:gI k.code (i+1) C1.length=gI k.code i C1.length++[((C1++gn k.code i C1.length).length:Int)]:=by simp only[gI,adx,aef]
   have hw:=hW (C1++gn k.code i C1.length++[(⟨0,0,0,0,[]⟩:bR)]) (by rw[adx,adx,List.length_singleton];omega);rw[<- HX]at hw;have Xk:(C1++gn k.code i C1.length).length<=1000000000000:=by rw[adx];omega
   rw[show U3 (C1++gn k.code i C1.length) (gI k.code i C1.length) g=bI (C1++gn k.code i C1.length)++[dQ g (gI k.code i C1.length)] from rfl];clear HX;generalize C1++gn k.code i C1.length=D1 at *;generalize hD3:C1++gn k.code (i+1) C1.length=D3 at *;generalize gI k.code i C1.length=J at *;simp only[zX,simprocAttr,-Int.reduceNatCast',i64,bV,iD,bD,h0,h1,h2,h3,h6,HK,PZ,bI,fq,adr,adt,adS,bo];refine kR D1 Xk 0 0 0 0 (tl:=[dQ g J]) ?_;generalize D1++[(⟨0,0,0,0,[]⟩:bR)]=D2 at *;simp only[zX,simprocAttr,-Int.reduceNatCast',i64,bV,iD,bD,h0,h1,h2,h3,h6,HK,PZ,bI,fq,adr,adt,adS,dQ,ado];refine⟨λe he=>by rw[List.mem_singleton.1 he];rfl,⟨by omega,by omega⟩,?_⟩;have hT:List.take i (J.map λx=>[V.d (D.sc (Value.int IntKind.i64 x))])=J.map λx=>[V.d (D.sc (Value.int IntKind.i64 x))]:=adT (by rw[ado];omega);have ZL:(⟨g+1,true,1,(J.map λx=>[V.d (D.sc (Value.int IntKind.i64 x))])++[[V.d (D.sc (Value.int IntKind.i64 D1.length))]]⟩:VL.Obj)=dQ (g+1) (gI k.code (i+1) C1.length):=by rw[du];simp [dQ,i64]
   rw[hT,ZL];clear hT ZL du;generalize hJ3:gI k.code (i+1) C1.length=J2 at *;refine ao mix [6] [] (by rfl) ?_;simp only[zX,simprocAttr,-Int.reduceNatCast',i64,bV,iD,bD,h0,h1,h2,h3,h6,HK,PZ,bI,fq,adr,adt,adS,Re.ae re,ado,jl,W3,adR,ZS];refine bj (pN hw (by rfl) (by rfl) (tl:=[dQ (g+1) J2]) ⟨rfl,rfl⟩) ?_;simp only[zX,simprocAttr,-Int.reduceNatCast',i64,bV,iD,bD,h0,h1,h2,h3,h6,HK,PZ,bI,fq,adr,adt,adS];refine⟨m-(i+1),_,_,by omega,cU.refl,i+1,g+1,rfl,aH,?_,?_,?_,?_,?_,?_,?_,by rw[hD3,hJ3];rfl⟩ <;> (try simp only[zU,Nat.reduceBEq,Nat.reduceShiftRight,Nat.reduceMod,Nat.reduceEqDiff,reduceIte])
   ·rw[h0,Re.ae re];rfl
   ·exact h1
   ·exact h2
   ·exact h3
   ·exact HK
   ·rw[bM _ (by omega)];rfl
  ·have fy:i=m:=by omega
   subst fy;have hH:=hHb i C1.length (adB _);have RO:=wh k.code i C1.length;have W2:∀x∈gI k.code i C1.length,0<=x/\x<(C1++gn k.code i C1.length).length:=λx hx=>by have:=GX k.code i C1.length x hx;rw[adx];omega
   have Xk:(C1++gn k.code i C1.length).length+10<=1000000000000:=by rw[adx];omega
   have hJ0:re.mx=-1->(gI k.code i C1.length)[0+0]?=some (C1.length:Int):=λh=>by rw[uH,ap h]at hM;rw[<- hM];simp [gI,gn]
   rw[show U3 (C1++gn k.code i C1.length) (gI k.code i C1.length) g=bI (C1++gn k.code i C1.length)++[dQ g (gI k.code i C1.length)] from rfl];have hTl:(Bo re.mx C1.length).length<=1:=by unfold Bo;split <;> simp
   have ZP:re.mx≠-1->Bo re.mx C1.length=[]:=λh=>am h;have ZY:re.mx=-1->Bo re.mx C1.length=[(⟨3,C1.length,0,0,[]⟩:bR)]:=λh=>ap h;have fD:re.mx=-1->i=1:=λh=>by rw[<- hM,uH,ap h]
   generalize Bo re.mx C1.length=T at *;generalize C1++gn k.code i C1.length=D1 at *;generalize gI k.code i C1.length=J at *;simp only[zX,simprocAttr,-Int.reduceNatCast',i64,bV,iD,bD,h0,h1,h2,h3,h6,HK,PZ,Int.lt_irrefl,bI,fq,adr,adt,adS,Re.ae re];refine zk (λe s=>e 0=.d (.el re.cells)/\e 3=.rf 0 0 0 0/\e 6=.so 6 g 0 i/\s=U3 (D1++T) J g) ?_ ?_ ?_
   ·intro hm B Q hB;have hi':=fD hm;have hj:=hJ0 hm;have AU:(dQ g J).g=g:=rfl;rw[ZY hm]at hB;simp only[zX,simprocAttr,-Int.reduceNatCast',i64,bV,iD,bD,h0,h1,h2,h3,h6,HK,PZ];refine ao mix [5] [] (by rfl) ?_;simp only[zX,simprocAttr,-Int.reduceNatCast',i64,bV,iD,bD,h0,h1,h2,h3,h6,HK,PZ,bI,fq,adr,adt,adS,dQ,hi',ado,ad9,hj,Int.reduceToNat];refine⟨by decide,?_⟩;refine bj (kR D1 (by omega) 3 C1.length 0 0 (tl:=[dQ g J]) ⟨rfl,rfl⟩) ?_;generalize D1++[(⟨3,C1.length,0,0,[]⟩:bR)]=D2 at *;simp only[zX,simprocAttr,-Int.reduceNatCast',i64,bV,iD,bD,h0,h1,h2,h3,h6,HK,PZ,bI,fq,adr,adt,adS];refine hB _ _ ⟨?_,?_,?_,?_⟩ <;> (try simp only[zU,Nat.reduceBEq,Nat.reduceShiftRight,Nat.reduceMod,Nat.reduceEqDiff,reduceIte])
    all_goals (first|exact h3|exact h6|(rw[h0,Re.ae re];done)|rfl)
   ·intro hm B Q hB;rw[ZP hm,adS]at hB;simp only[zX,simprocAttr,-Int.reduceNatCast',i64,bV,iD,bD,h0,h1,h2,h3,h6,HK,PZ];refine hB _ _ ⟨?_,?_,?_,?_⟩ <;> (try simp only[zU,Nat.reduceBEq,Nat.reduceShiftRight,Nat.reduceMod,Nat.reduceEqDiff,reduceIte])
    all_goals (first|exact h3|exact h6|(rw[h0,Re.ae re];done)|rfl)
   clear h0 h1 h2 h3 h6 HK PZ;rintro e s ⟨h0,h3,h6,rfl⟩;have AU:(dQ g J).g=g:=rfl;have hD2:(D1++T).length<=1000000000000:=by rw[adx];omega
   have Y8:∀x∈J,0<=x/\x<(D1++T).length:=λx hx=>by have:=W2 x hx;rw[adx];omega
   clear hJ0 hTl ZP ZY fD W2 Xk;generalize D1++T=D2 at *;rw[show U3 D2 J g=bI D2++[dQ g J] from rfl];simp only[zX,simprocAttr,-Int.reduceNatCast',i64,bV,iD,bD,h0,h3,h6,bI,fq,adr,adt,adS,AU];refine aJ (λn e s=>∃(j:Nat),n=J.length-j/\j<=J.length/\e 0=.d (.el re.cells)/\e 3=.rf 0 0 0 0/\e 65=.so 6 g 0 J.length/\e 66=i64 J.length/\e 67=i64 j/\s=U1 ((J.take j).foldl (uw re.mode D2.length) D2) g J)
    ⟨_,_,_,cU.refl,0,by rfl,by omega,by exact h0,by exact h3,by rw[RO];rfl,by rw[RO];rfl,rfl,rfl⟩ ?_
   clear h0 h3 h6;rintro n e s ⟨j,rfl,hj,h0,h3,Vy,VE,XK,rfl⟩;rcases adV j J.length with aH|iP
   ·obtain⟨x,hx⟩:∃x,J[j]?=some x:=⟨_,adn aH⟩
    have WD:=Y8 x (adw hx);have nK:J[0+j]?=some x:=by rw[adI];exact hx
    have bo:(j:Int)<(J.length:Int):=by omega
    have TL:(0:Int)<=(j:Int):=by omega
    have HX:(J.take (j+1)).foldl (uw re.mode D2.length) D2=uw re.mode D2.length ((J.take j).foldl (uw re.mode D2.length) D2) x:=by rw[cy hx,List.foldl_append];rfl
    have Vq:((J.take j).foldl (uw re.mode D2.length) D2).length=D2.length:=Cc _ _ _ _;rw[show U1 ((J.take j).foldl (uw re.mode D2.length) D2) g J=bI ((J.take j).foldl (uw re.mode D2.length) D2)++[dQ g J] from rfl];generalize (J.take j).foldl (uw re.mode D2.length) D2=Dc at *;have hg:(ks Dc).g=Dc.length:=rfl;have gf:(ks Dc).sz=5:=rfl;have he:(ks Dc).aI=(Dc.map bR.cells).map λc=>c.map V.d:=rfl;have P3:(ks Dc).live=true:=rfl;obtain⟨y,hy⟩:∃y,Dc[0+x.toNat]?=some y:=⟨_,adn (by omega)⟩
    have WN:x.toNat<Dc.length:=by omega
    have Ps:x<(Dc.length:Int):=by omega
    have w1:IntKind.i64.wrap (x+1)=x+1:=bM _ (by omega);have du:=L7 (x+1) Dc.length re.mode;unfold Ej at du;simp only[i64]at du;simp only[zX,simprocAttr,-Int.reduceNatCast',i64,bV,iD,bD,h0,h3,Vy,VE,XK,bI,fq,adr,adt,adS,dQ,bo,TL,aH,adR,nK,ad9,hg,gf,he,P3,ado,WD.1,WN,Ps,hy,bR.cells];refine ao mix [] [(5,[5],[]),(11,[5],[]),(12,[5],[5])] (by rfl) ?_;simp only[zX,simprocAttr,-Int.reduceNatCast',i64,bV,iD,bD,h0,h3,Vy,VE,XK,bI,fq,adr,adt,adS,dQ,bo,TL,aH,adR,nK,ad9,hg,gf,he,P3,ado,WD.1,WN,Ps,hy,bR.cells,Re.ae re,w1];refine bY du rfl rfl ?_;simp only[zX,simprocAttr,-Int.reduceNatCast',i64,bV,iD,bD,h0,h3,Vy,VE,XK,bI,fq,adr,adt,adS,dQ,bo,TL,aH,adR,nK,ad9,hg,gf,he,P3,ado,WD.1,WN,Ps,hy,bR.cells,Re.ae re,w1];refine⟨J.length-(j+1),_,_,by omega,cU.refl,j+1,rfl,aH,?_,?_,?_,?_,?_,?_⟩ <;> (try simp only[zU,Nat.reduceBEq,Nat.reduceShiftRight,Nat.reduceMod,Nat.reduceEqDiff,reduceIte])
    ·rw[h0,Re.ae re];rfl
    ·exact h3
    ·exact Vy
    ·exact VE
    ·rw[bM _ (by omega)];rfl
    ·rw[HX,uw,Vq];simp only[U1,bI,fq,ks,dQ,i64,List.length_set,List.map_set,Vq,adr,adt,bR.cells,iD,adG,adP,adI]
   ·have Nx:j=J.length:=by omega
    subst Nx;rw[adZ];simp only[zX,simprocAttr,-Int.reduceNatCast',i64,bV,iD,bD,h0,h3,Vy,VE,XK,Int.lt_irrefl];exact⟨ir _,rfl⟩
end Go.Proofs.Ytphfjhaffbfpfaa
