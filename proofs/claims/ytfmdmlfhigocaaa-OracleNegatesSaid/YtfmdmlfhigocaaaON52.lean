/- A part of the proof (K7 K8 K9 K10 G54 G55 E1). -/
import Derived.Test.YtfmdmlfhigocaaaON21
import Derived.Test.YtfmdmlfhigocaaaON25
import Derived.Test.YtfmdmlfhigocaaaON26
import Derived.Test.YtfmdmlfhigocaaaON51
set_option linter.unusedSimpArgs false
set_option linter.unusedVariables false
set_option maxRecDepth 100000
set_option maxHeartbeats 80000000
namespace Go.Proofs.Ytfmdmlfhigocaaa
open Go.VL Go.Proofs.Try
variable{re:Re}{ak:Int}{top:Int}
def sR (re:Re):Prop:=re.op=0\/re.op=1\/re.op=11
theorem El (re:Re) (hs:re.every rP=true) (hl:sR re) (f:Int):aO prog 77 [fv re,i64 f] (.fu ((re.code f).map jM.cells)):=by
 obtain⟨ez,iO⟩:=(Re.aB re).1 hs;obtain⟨zF,J5,S5,eL⟩:=gG.1 ez;rcases hl with o|o|o
 ·have hc:re.code f=[]:=by rw[Re.ng,ap (by omega),ap (by omega),ap (by omega),ap (by omega),ap (by omega),ap (by omega)]
  rw[hc];refine FW func77 rfl ntmps77 results77 rfl 0 3063 (by simp) (by simp) ?_;simp only[zX,simprocAttr,i64,ai re,iD,bD,o,yF,BP,ah,ah.go];all_goals first|exact⟨rfl,rfl⟩|exact⟨rfl,trivial⟩|rfl|trivial|(rw[ai];rfl)
 ·have hc:re.code f=[⟨1,0,0,0,re.set⟩]:=by rw[Re.ng,be o]
  rw[hc];refine FW func77 rfl ntmps77 results77 rfl 0 3063 (by simp) (by simp) ?_;simp only[zX,simprocAttr,i64,ai re,iD,bD,o,yF,BP,ah,ah.go];all_goals first|exact⟨rfl,rfl⟩|exact⟨rfl,trivial⟩|rfl|trivial|(rw[ai];rfl)
 ·have hc:re.code f=[⟨5,0,0,re.n,[]⟩]:=by rw[Re.ng,ap (by omega),be o]
  rw[hc];refine FW func77 rfl ntmps77 results77 rfl 0 3063 (by simp) (by simp) ?_;simp only[zX,simprocAttr,i64,ai re,iD,bD,o,yF,BP,ah,ah.go];all_goals first|exact⟨rfl,rfl⟩|exact⟨rfl,trivial⟩|rfl|trivial|(rw[ai];rfl)
theorem Qt (re:Re) (hs:re.every rP=true) (hz:re.jL<=8500) (o:re.op=2) (hc:∀k∈re.kids,sJ k) (f:Int) (h0:0<=f) (h1:f<=1000000000000000000-100000000*re.size):kG prog 77 [fv re,i64 f] 5 ((re.code f).map jM.cells):=by
 obtain⟨ez,iO⟩:=(Re.aB re).1 hs;obtain⟨q1,q2,q3,_⟩:=eW.1 (fZ.1 (gG.1 ez).1).1;have Rf:=ye hs (by omega) ⟨by omega,by omega⟩;have wF:∀k∈re.kids,∀f,((k.code f).length:Int)=k.jL:=λk hk=>n8 k (iO k hk) (Rf.2 k hk);have Ja:re.code f=Re.dI re.kids f:=by rw[Re.ng,ap (by omega),ap (by omega),be o]
 have fK:∀i,((Re.dI (re.kids.take i) f).length:Int)<=10000000:=λi=>by rw[Ab (λk hk=>wF k (agJ hk)) f];have:=(qH (l:=re.kids.take i) (λk hk=>iu k (mu (iO k (agJ hk))))).2;rw[agN]at this;omega
 rw[Ja];unfold kG;refine pJ func77 rfl ntmps77 results77 rfl 0 3063 (by simp) (by simp) ?_;simp only[zX,simprocAttr,i64,ai re,iD,bD,o];refine au (λn e s=>∃(i g:Nat),n=re.kids.length-i/\i<=re.kids.length/\e 1=i64 f/\e 2=.rf 0 0 0 0/\e 5=.so 1 g 0 (Re.dI (re.kids.take i) f).length/\e 6=i64 i/\s=[av re,ir g (Re.dI (re.kids.take i) f)])
  ⟨_,_,_,.DD (eE 5 5 rfl),0,0,rfl,by omega,rfl,rfl,rfl,rfl,by simp [av,Re.ae re,iD,bD,o,ir,Re.dI]⟩ ?_
 rintro n e s ⟨i,g,rfl,hi,zS,h2,h5,h6,rfl⟩;rcases agi i re.kids.length with az|fI
 ·obtain⟨k,hk⟩:∃k,re.kids[i]?=some k:=⟨_,afP az⟩
  have hm:=afW hk;have aC:(i:Int)<re.kids.length:=by omega
  have hb:=fK i;have Gy:k.size<re.size:=Re.bL hm;have dR:=hc k hm (f+(Re.dI (re.kids.take i) f).length) (by omega) (by omega);have U8:=wF k hm (f+(Re.dI (re.kids.take i) f).length);have aeP:=Rf.2 k hm;have Bh:Re.dI (re.kids.take (i+1)) f=Re.dI (re.kids.take i) f++k.code (f+(Re.dI (re.kids.take i) f).length):=by rw[aR hk,Re.xY]
  generalize k.code (f+(Re.dI (re.kids.take i) f).length)=kid at *;generalize Re.dI (re.kids.take i) f=out at *;have w1:IntKind.i64.wrap (f+(out.length:Int))=f+(out.length:Int):=bd _ (by omega);simp only[i64]at dR;simp only[zX,simprocAttr,i64,av,Re.ae re,afR,afU,iD,bD,zS,h2,h5,h6,aC,ir,hk,w1];refine aj dR (by simp [ah,ah.go,ai]) (by simp [ah,ah.go,ai,i64,bV,aM]) ?_;simp only[zX,simprocAttr,i64,av,Re.ae re,afR,afU,iD,bD,zS,h2,h5,h6,ir];refine⟨lz _,⟨by simp,by omega⟩,re.kids.length-(i+1),_,_,by omega,br.refl,i+1,g+1,rfl,by omega,?_,?_,?_,?_,?_⟩ <;> (try simp only[zU,Nat.reduceBEq,Nat.reduceShiftRight,Nat.reduceMod,Nat.reduceEqDiff,reduceIte])
  ·exact zS
  ·exact h2
  ·rw[Bh];simp
  ·rw[bd _ (by omega)];rfl
  ·rw[nQ _ _ (af3 _),Bh];simp [av,ir,Re.ae re,iD,bD]
 ·have cV:i=re.kids.length:=by omega
  subst cV;have aC:¬(re.kids.length:Int)<re.kids.length:=by omega
  rw[agj]at h5;rw[agj];simp only[zX,simprocAttr,i64,av,Re.ae re,afR,afU,iD,bD,zS,h2,h5,h6,aC,ir,sg];exact mJ (id:=1) (by rfl) (by rfl) (by simp)
theorem Rq (re k:Re) (hs:re.every rP=true) (hz:re.jL<=8500) (o:re.op=5) (hk:re.kids=[k]) (hc:sJ k) (f:Int) (h0:0<=f) (h1:f<=1000000000000000000-100000000*re.size):kG prog 77 [fv re,i64 f] 5 ((re.code f).map jM.cells):=by
 obtain⟨ez,iO⟩:=(Re.aB re).1 hs;obtain⟨q1,q2,q3,q4,q5,q6,q7,q8,q9,iF⟩:=eW.1 (fZ.1 (gG.1 ez).1).1;have hm:k∈re.kids:=by rw[hk];simp
 have Rf:=(ye hs (by omega) ⟨by omega,by omega⟩).2 k hm;have wF:=n8 k (iO k hm) Rf (f+1);have uY:re.kids[0]?=some k:=by rw[hk];rfl
 have cU:(0:Int)<(re.kids.length:Int):=by rw[hk];simp
 have Gy:k.size<re.size:=Re.bL hm;have dR:=hc (f+1) (by omega) (by omega);have Ja:re.code f=Fp (2*re.n-2)::(k.code (f+1)++[Fp (2*re.n-1)]):=by rw[Re.ng,ap (by omega),ap (by omega),ap (by omega),ap (by omega),be o,hk];rfl
 rw[Ja];generalize k.code (f+1)=kid at *;have w1:IntKind.i64.wrap (f+1)=f+1:=bd _ (by omega);have w2:IntKind.i64.wrap (2*re.n)=2*re.n:=bd _ (by omega);have w3:IntKind.i64.wrap (2*re.n-2)=2*re.n-2:=bd _ (by omega);have w4:IntKind.i64.wrap (2*re.n-1)=2*re.n-1:=bd _ (by omega);simp only[i64]at dR;generalize hR:List.map jM.cells (Fp (2*re.n-2)::(kid++[Fp (2*re.n-1)]))=R;unfold kG;refine pJ func77 rfl ntmps77 results77 rfl 0 3063 (by simp) (by simp) ?_;simp only[zX,simprocAttr,i64,ai re,iD,bD,o];refine aS (eE 5 5 rfl) ?_;refine ar mix [] [(7,[1],[1]),(15,[1],[1])] (by rfl) ?_;simp only[zX,simprocAttr,i64,ai re,iD,bD,o,uY,cU,w1,w2,w3];refine⟨rfl,λe he=>by rw[List.mem_singleton.1 he];rfl,?_⟩;refine bp dR (by simp [ah,ah.go,ai]) (by simp [ah,ah.go,ai,i64,bV,aM]) ?_;simp only[zX,simprocAttr,i64,ai re,iD,bD,o,w2,w4];refine⟨rfl,lz _,by omega,λe he=>by rw[List.mem_singleton.1 he];rfl,⟨by omega,by omega⟩,?_⟩;simp only[zX,simprocAttr,i64,ai re,iD,bD,o,w2,w4,sg];refine mJ (id:=1) (by rfl) ?_ ?_
 ·rw[af1 (by simp;omega),<- hR];simp [Fp,jM.cells,iD]
 ·rw[<- hR];simp;omega
theorem QJ (re k k2:Re) (l:List Re) (hs:re.every rP=true) (hz:re.jL<=8500) (o:re.op=3) (hk:re.kids=k::k2::l) (hc:sJ k) (su:sJ k2) (hc3:l≠[]->sJ (qp (k2::l))) (f:Int) (h0:0<=f) (h1:f<=1000000000000000000-100000000*re.size):kG prog 77 [fv re,i64 f] 5 ((re.code f).map jM.cells):=by
 obtain⟨ez,iO⟩:=(Re.aB re).1 hs;obtain⟨q1,q2,q3,q4,q5,q6,q7,q8,q9,iF⟩:=eW.1 (fZ.1 (gG.1 ez).1).1;have hm:k∈re.kids:=by rw[hk];simp
 have V6:k2∈re.kids:=by rw[hk];simp
 have Rf:=ye hs (by omega) ⟨by omega,by omega⟩;have wF:=n8 k (iO k hm) (Rf.2 k hm) (f+1);have adw:=Rf.2 k hm;have aez:=Rf.2 k2 V6;have uY:re.kids[0]?=some k:=by rw[hk];rfl
 have Ti:re.kids[1]?=some k2:=by rw[hk];rfl
 have cU:(0:Int)<(re.kids.length:Int):=by rw[hk];simp;omega
 have SS:(1:Int)<(re.kids.length:Int):=by rw[hk];simp;omega
 have Gy:k.size<re.size:=Re.bL hm;have ae9:k2.size<re.size:=Re.bL V6;have dR:=hc (f+1) (by omega) (by omega);have hlen:=n8 re hs (by omega) f;have Ja:re.code f=Re.er (k::k2::l) f:=by rw[Re.ng,ap (by omega),ap (by omega),ap (by omega),be o,hk]
 have Ap:Re.er (k::k2::l) f=xC 0 (f+1) (f+(k.code (f+1)).length+2)::(k.code (f+1)++IN (f+(k.code (f+1)).length+2+(Re.er (k2::l) (f+(k.code (f+1)).length+2)).length)::Re.er (k2::l) (f+(k.code (f+1)).length+2)):=by rw[Re.er]
 rw[Ja,Ap]at hlen ⊢;generalize k.code (f+1)=fst at *
 -- WC later Sk
 obtain⟨rest,XS,hrv,PA,hrz,C6⟩:∃rest:Re,rest.code (f+fst.length+2)=Re.er (k2::l) (f+fst.length+2)/\(l=[]->rest=k2)/\(l≠[]->rest=qp (k2::l))/\((Re.er (k2::l) (f+fst.length+2)).length:Int)<=9000/\aO prog 77 [fv rest,i64 (f+fst.length+2)] (.d (.sl ((Re.er (k2::l) (f+fst.length+2)).map jM.cells))):=by
  have hb:((Re.er (k2::l) (f+fst.length+2)).length:Int)<=9000:=by simp only[afZ,af7]at hlen;omega
  by_cases hl:l=[]
  ·have e:k2.code (f+fst.length+2)=Re.er (k2::l) (f+fst.length+2):=by rw[hl,Re.er]
   refine⟨k2,e,λ_=>rfl,λh=>absurd hl h,hb,?_⟩;rw[<- e];exact su _ (by omega) (by omega)
  ·have e:(qp (k2::l)).code (f+fst.length+2)=Re.er (k2::l) (f+fst.length+2):=by rw[Re.ng];rfl
   refine⟨qp (k2::l),e,λh=>absurd h hl,λ_=>rfl,hb,?_⟩;rw[<- e];have fF:(qp (k2::l)).size<re.size:=by
    have e1:(qp (k2::l)).size=1+Re.bZ (k2::l):=Re.size_eq _;have e2:re.size=1+Re.bZ (k::k2::l):=by rw[<- hk];exact Re.size_eq _
    have:=k.size_pos;rw[e1,e2];simp only[Re.bZ];omega
   exact hc3 hl _ (by omega) (by omega)
 have w1:IntKind.i64.wrap (f+1)=f+1:=bd _ (by omega);have w2:IntKind.i64.wrap (f+(fst.length:Int))=f+fst.length:=bd _ (by omega);have w3:IntKind.i64.wrap (f+(fst.length:Int)+2)=f+fst.length+2:=bd _ (by omega);clear XS hlen Ja Ap;generalize Re.er (k2::l) (f+fst.length+2)=snd at *;have w4:IntKind.i64.wrap (f+(fst.length:Int)+2+(snd.length:Int))=f+fst.length+2+snd.length:=bd _ (by omega);generalize hR:List.map jM.cells (xC 0 (f+1) (f+fst.length+2)::(fst++IN (f+fst.length+2+snd.length)::snd))=R;simp only[i64]at dR C6;unfold kG;by_cases hl:l=[]
 ·have Co:¬(2:Int)<(re.kids.length:Int):=by rw[hk,hl];simp
  rw[hrv hl,ai k2]at C6;simp only[iD,bD]at C6;refine pJ func77 rfl ntmps77 results77 rfl 0 3063 (by simp) (by simp) ?_;simp only[zX,simprocAttr,i64,ai re,iD,bD,o,uY,Ti,cU,SS,w1];refine aj dR (by simp [ah,ah.go,ai]) (by simp [ah,ah.go,ai,i64,bV,aM]) ?_;simp only[zX,simprocAttr,i64,ai re,ai k2,Re.ae k2,iD,bD,o,uY,Ti,SS,w1,w2,w3,Co,gt_iff_lt];refine aj C6 (by simp [ah,ah.go,ai,i64,bV,aM]) (by simp [ah,ah.go,ai,i64,bV,aM]) ?_;simp only[zX,simprocAttr,i64,ai re,iD,bD,o,w1,w2,w3,w4];refine⟨λe he=>by rw[List.mem_singleton.1 he];rfl,λe he=>by (cases he),lz _,by omega,λe he=>by rw[List.mem_singleton.1 he];rfl,⟨by omega,by omega⟩,lz _,⟨by simp;omega,by omega⟩,?_⟩;simp only[zX,simprocAttr,sg];refine mJ (id:=2) (by rfl) ?_ ?_
  ·rw[<- hR];rw[af1 (i:=1+fst.length) (by simp;omega),af1 (by simp;omega)];simp [xC,IN,jM.cells,iD]
  ·rw[<- hR];simp;omega
 ·have Co:(2:Int)<(re.kids.length:Int):=by rw[hk];have:0<l.length:=List.length_pos_iff.2 hl;simp;omega
  rw[PA hl]at C6;have hdr:List.take ((re.kids.length:Int)-1).toNat (List.drop 1 (re.kids.map Re.cells))=(k2::l).map Re.cells:=by rw[hk,af1 (by simp)];rfl
  have halt:fv (qp (k2::l))=.ag [.d (iD 3),.d (.sl []),.d (.sl ((k2::l).map Re.cells)),.d (iD 0),.d (iD 0),.d (iD 0),.d (iD 0),.d (bD false)]:=by rw[ai];rfl
  rw[halt,<- hdr]at C6;simp only[iD,bD]at C6;refine pJ func77 rfl ntmps77 results77 rfl 0 3063 (by simp) (by simp) ?_;simp only[zX,simprocAttr,i64,ai re,iD,bD,o,uY,Ti,cU,SS,w1];refine aj dR (by simp [ah,ah.go,ai]) (by simp [ah,ah.go,ai,i64,bV,aM]) ?_;simp only[zX,simprocAttr,i64,ai re,ai k2,Re.ae k2,iD,bD,o,uY,Ti,SS,w1,w2,w3,Co,gt_iff_lt];refine⟨⟨by omega,agn _⟩,λe he=>by obtain⟨x,_,rfl⟩:=List.mem_map.1 he;exact x.bG,?_⟩;refine bc [] (by rfl) ?_;refine aj C6 (by simp [ah,ah.go,ai,i64,bV,aM]) (by simp [ah,ah.go,ai,i64,bV,aM]) ?_;simp only[bE];simp only[zX,simprocAttr,i64,ai re,iD,bD,o,w1,w2,w3,w4];refine⟨λe he=>by rw[List.mem_singleton.1 he];rfl,λe he=>by (cases he),lz _,by omega,λe he=>by rw[List.mem_singleton.1 he];rfl,⟨by omega,by omega⟩,lz _,⟨by simp;omega,by omega⟩,?_⟩;simp only[zX,simprocAttr,sg];refine mJ (id:=2) (by rfl) ?_ ?_
  ·rw[<- hR];rw[af1 (i:=1+fst.length) (by simp;omega),af1 (by simp;omega)];simp [xC,IN,jM.cells,iD]
  ·rw[<- hR];simp;omega
theorem aO.FY {P:Program}{f:FuncId}{args:List V}{l:List (List D)} (h:aO P f args (.fu l)):aO P f args (.d (.sl l)):=by
 refine⟨h.1,λσ w vals hI hl hv=>(h.2 σ w vals hI hl hv).mono λe w' ⟨u,v,σ',s',h1,h2,h3,h4,h5,h6⟩=>?_⟩;subst h5 h6;cases h4 with|fu hx=>?_
 exact⟨_,_,σ',[],h1,h2,h3,.d hx,rfl,rfl⟩
theorem UN (hs:re.every rP=true) (h:re.jL<=8500) (ho:¬sR re):Re.fJ re.kids<=8500:=by
 obtain⟨ez,iO⟩:=(Re.aB re).1 hs;obtain⟨hc,J5,S5,h0⟩:=gG.1 ez;obtain⟨hb,Sv⟩:=fZ.1 hc;obtain⟨q1,q2,q3,q4,q5,q6,q7,q8,q9,iF⟩:=eW.1 hb;have hz:=(qH (l:=re.kids) (λk hk=>iu k (mu (iO k hk)))).1;have hu:=Gq (re:=re) (by omega);unfold sR at ho;generalize Re.fJ re.kids=z at *;rw[ap (by omega)]at hu;by_cases o3:re.op=3
 ·rw[be o3]at hu;have:=q2 o3;omega
 rw[ap o3]at hu;by_cases o5:re.op=5
 ·rw[be o5]at hu;omega
 rw[ap o5]at hu;by_cases o4:re.op=4
 ·rw[be o4]at hu;by_cases om:re.mx=-1
  ·rw[be om]at hu;have:1*z<=(re.mn+1)*z:=agB (by omega) (by omega);omega
  ·rw[ap om]at hu;have hm:=(Sv o4).resolve_left om;have:1*z<=re.mx*z:=agB (by omega) (by omega);omega
 ·rw[ap o4]at hu;omega
theorem PM (hs:re.every rP=true) (h:re.jL<=8500) (ho:¬sR re):∀k∈re.kids,k.jL<=8500:=λk hk =>
 aho (B8 (λx hx=>(iu x (mu (((Re.aB re).1 hs).2 x hx))).1) hk) (UN hs h ho)
theorem QC {k k2:Re}{l:List Re} (hs:re.every rP=true) (hz:re.jL<=8500) (o:re.op=3) (hk:re.kids=k::k2::l) (cB:l≠[]):(qp (k2::l)).every rP=true/\(qp (k2::l)).jL<=8500/\(qp (k2::l)).size<=re.size-1:=by
 obtain⟨ez,iO⟩:=(Re.aB re).1 hs;obtain⟨q1,q2,q3,q4,q5,q6,q7,q8,q9,iF⟩:=eW.1 (fZ.1 (gG.1 ez).1).1;have hl:1<=l.length:=by cases l with|nil=>exact absurd rfl cB|cons a l=>simp
 have FF:∀x∈k2::l,x∈re.kids:=λx hx=>by rw[hk];exact List.mem_cons_of_mem _ hx
 have hr:(qp (k2::l)).every rP=true:=by
  have e0:(qp (k2::l)).op=3:=rfl;have e1:(qp (k2::l)).mn=0:=rfl;have e2:(qp (k2::l)).mx=0:=rfl;have e3:(qp (k2::l)).n=0:=rfl;have e4:(qp (k2::l)).kids=k2::l:=rfl;have e5:(qp (k2::l)).set=[]:=rfl;rw[hk]at q3;refine(Re.aB _).2 ⟨gG.2 ⟨fZ.2 ⟨eW.2 ?_,?_⟩,?_⟩,λx hx=>iO x (FF x hx)⟩ <;> rw[e0] <;> simp only[e1,e2,e3,e4,e5]
  ·simp only[afZ]at q3 ⊢;exact⟨λh=>by omega,λ_=>by omega,by omega,ahn _,by omega,by omega,by omega,by omega,by omega,by decide,by omega,by omega⟩
  ·omega
  ·exact⟨by decide,λh=>absurd h (by decide),λh=>absurd h (by decide)⟩
 have hu:=Gq (re:=re) (by omega);rw[o,ap (by omega),be rfl,hk]at hu;have eL:=(iu k (mu (iO k (by rw[hk];simp)))).1;refine⟨hr,?_,?_⟩
 ·have:(qp (k2::l)).jL=min (Re.fJ (k2::l)+2*((k2::l).length:Int)-2) 10000:=by rw[Re.FN];rfl
  rw[this];simp only[Re.fJ,afZ]at hu ⊢
  push_cast at hu ⊢
  omega
 ·have e1:(qp (k2::l)).size=1+Re.bZ (k2::l):=Re.size_eq _;have e2:re.size=1+Re.bZ (k::k2::l):=by rw[<- hk];exact Re.size_eq _
  rw[e1,e2];have:=k.size_pos;simp only[Re.bZ];omega
theorem O7 (re:Re) (o:re.op=4) (f:Int) (hrep:kG prog 97 [fv re,i64 f] 5 ((re.code f).map jM.cells)):kG prog 77 [fv re,i64 f] 5 ((re.code f).map jM.cells):=by generalize List.map jM.cells (re.code f)=R at *;simp only[ai re,i64,iD,bD,o]at hrep;show aq _ _ _ _ _;refine pJ func77 rfl ntmps77 results77 rfl 0 3063 (by simp) (by simp) ?_;simp only[zX,simprocAttr,i64,ai re,iD,bD,o];refine kG.call hrep rfl rfl λg=>?_;simp only[zX,simprocAttr,i64,ai re,iD,bD,o,sg];exact mJ (id:=1) (by rfl) (by rfl) rfl
theorem A6:∀(n:Nat) (re:Re),re.size<=n->re.every rP=true->re.jL<=8500->sJ re/\(¬sR re->∀f:Int,0<=f->f<=1000000000000000000-100000000*re.size->kG prog 77 [fv re,i64 f] 5 ((re.code f).map jM.cells))
 |0,re,h,_,_=>by have:=re.size_pos;omega
 |n+1,re,h,hs,hz=>by
  obtain⟨ez,iO⟩:=(Re.aB re).1 hs;obtain⟨zF,J5,S5,eL⟩:=gG.1 ez;obtain⟨q1,q2,q3,q4,q5,q6,q7,q8,q9,iF⟩:=eW.1 (fZ.1 zF).1;by_cases hl:sR re
  ·refine⟨λf _ _=>?_,λh=>absurd hl h⟩;exact aO.FY (El re hs hl f)
  have Gb:re.op=2\/re.op=3\/re.op=4\/re.op=5:=by unfold sR at hl;omega
  have hck:=PM hs hz hl;have Ak:∀k∈re.kids,sJ k:=λk hk=>(A6 n k (by have:=Re.bL hk;omega) (iO k hk) (hck k hk)).1;have own:∀f:Int,0<=f->f<=1000000000000000000-100000000*re.size->kG prog 77 [fv re,i64 f] 5 ((re.code f).map jM.cells):=by
   intro f h0 h1;rcases Gb with o|o|o|o
   ·exact Qt re hs hz o Ak f h0 h1
   ·have h2:=q2 o;obtain⟨k,k2,l,hk⟩:∃k k2 l,re.kids=k::k2::l:=by
     match hm:re.kids with
     |[]=>rw[hm]at h2;simp at h2
     |[_]=>rw[hm]at h2;simp at h2
     |k::k2::l=>exact⟨k,k2,l,rfl⟩
    refine QJ re k k2 l hs hz o hk (Ak k (by rw[hk];simp)) (Ak k2 (by rw[hk];simp)) (λcB=>?_) f h0 h1;obtain⟨a1,a2,a3⟩:=QC hs hz o hk cB;exact(A6 n (qp (k2::l)) (by omega) a1 a2).1
   ·obtain⟨k,hk⟩:=List.length_eq_one_iff.1 (S5 (.inl o));have hrep:=Te re k hs hz o hk (Ak k (by rw[hk];simp)) f h0 h1;exact O7 re o f hrep
   ·obtain⟨k,hk⟩:=List.length_eq_one_iff.1 (S5 (.inr o));exact Rq re k hs hz o hk (Ak k (by rw[hk];simp)) f h0 h1
  exact⟨λf h0 h1=>(own f h0 h1).pure,λ_=>own⟩
theorem HB (hc:ak<=9) (hn:bK re ak top=true) (hk:re.kids.length<=1000):sO re=true:=by
 obtain⟨⟨a1,a2,a3,a4⟩,b,c,d,e⟩:=fz.1 hn;have fx:re.set.length<=64:=by
  split at b
  ·unfold gZ at b;rw[agb]at b;exact of_decide_eq_true b.1
  ·omega
 have hnn:0<=re.n/\re.n<=9:=by
  split at d
  ·omega
  ·split at d <;> omega
 have di:(re.op=4\/re.op=5->1<=re.kids.length)/\(re.op=3->2<=re.kids.length):=by
  unfold cr at a3;refine⟨λh=>?_,λh=>?_⟩
  ·rw[ap (by omega),be (by omega)]at a3;simp only at a3;omega
  ·rw[be (by omega)]at a3;simp only at a3;omega
 have hm:0<=re.mn/\re.mn<=32/\-1<=re.mx/\re.mx<=32/\(re.mx=-1\/re.mx=0\/re.mn<=re.mx)/\(re.op=4->re.mx=-1\/1<=re.mx/\re.mn<=re.mx):=by
  split at c
  ·omega
  ·omega
 exact fZ.2 ⟨eW.2 ⟨di.1,di.2,hk,by omega,hm.1,hm.2.1,hm.2.2.1,hm.2.2.2.1,hm.2.2.2.2.1,by unfold jC;omega,by omega,by omega⟩,hm.2.2.2.2.2⟩
theorem LM (hc:ak<=9) (re:Re) (hw:re.whole ak top=true) (hz:re.size<=1000):re.every sO=true:=by revert hw hz;refine Re.ind (Q:=λre=>re.whole ak top=true->re.size<=1000->re.every sO=true) (λre ih hw hz=>?_) re;obtain⟨h1,h2⟩:=(Re.aB re).1 hw;have hl:=Re.lO re.kids;have hs:=Re.size_eq re;exact(Re.aB re).2 ⟨HB hc h1 (by omega),λk hk=>ih k hk (h2 k hk) (by have:=Re.bL hk;omega)⟩
theorem Tl (hc:ak<=9) (re:Re) (hw:re.whole ak top=true) (hz:re.size<=1000):∀a,re.comp a=true->re.every rP=true:=by
 revert hw hz;refine Re.ind (Q:=λre=>re.whole ak top=true->re.size<=1000->∀a,re.comp a=true->re.every rP=true) (λre ih hw hz a ha=>?_) re;obtain⟨h1,h2⟩:=(Re.aB re).1 hw;have hl:=Re.lO re.kids;have hs:=Re.size_eq re;have hsh:=HB hc h1 (by omega);obtain⟨⟨a1,a2,a3,a4⟩,_⟩:=fz.1 h1;rw[Re.uq]at ha;split at ha
 ·cases ha
 ·split at ha
  ·cases ha
  ·split at ha
   ·cases ha
   ·rename_i c1 c2 c3;rw[af8]at ha;refine(Re.aB re).2 ⟨gG.2 ⟨hsh,by omega,λh=>?_,λh=>?_⟩,λk hk=>ih k hk (h2 k hk) (by have:=Re.bL hk;omega) _ (ha k hk)⟩
    ·unfold cr at a3 a4;rw[ap (by omega),be (by omega)]at a3 a4;simp only at a3 a4;omega
    ·unfold cr at a4;rw[ap (by omega),ap (by omega),ap (by omega)]at a4;simp only at a4;exact ago (by omega)
def BQ:jM:=⟨0,0,0,0,[]⟩
def Uo (p:ic):J9:=⟨p.re.code 0++[BQ],p.ak,p.aN⟩
theorem JH (p:ic) (hv:cC p=0) (hc:p.re.comp []=true) (hz:p.re.jL<=8191):aO prog 39 [aZ p] (.tu [Lu (Uo p),i64 0]):=by
 obtain⟨v1,v2,v3,v4,v5⟩:=db hv;have hC:=LM v4 p.re v5 (by omega);have hD:=Tl v4 p.re v5 (by omega) [] hc;have hf:p.re.bC=true:=by
  have:∀re:Re,re.every sO=true->re.bC=true:=λre=>Re.ind (Q:=λre=>re.every sO=true->re.bC=true) (λre ih h=>by
   obtain⟨h1,h2⟩:=(Re.aB re).1 h;obtain⟨q1,q2,q3,q4,_⟩:=eW.1 (fZ.1 h1).1;exact(Re.mC re).2 ⟨by omega,by omega,λk hk=>ih k hk (h2 k hk)⟩) re
  exact this p.re hC
 have h1:=oH p hf (by omega);have h2:=MA p.re [] (Hj hC) (by omega) (by simp;omega);have h3:=Lm p.re hC;have h4:=A6 p.re.size p.re (af3 _) hD (by omega);have wL:=iu p.re hC;have Uf:=n8 p.re hD (by omega) 0;have w1:IntKind.i64.wrap (p.re.jL+1)=p.re.jL+1:=bd _ (by omega);have c1:¬8192<p.re.jL+1:=by omega
 have rL:=El p.re hD;rw[hv]at h1;rw[hc]at h2;unfold Uo Lu;cases p with
 |mk re ak aN =>
 have ac4:re.code 0++[BQ]=re.code 0++[BQ]:=rfl;simp only at *;have xr:=λh=>h4.2 h 0 (agn _) (by omega);have PY:=λh=>rL h 0;generalize re.code 0=L at *;simp only[aZ,Re.ae re,afR,afU,afQ,afS,ai re,i64,iD,bD,bV]at h1 h2 h3 xr PY;clear rL h4;by_cases hl:sR re
 ·have dR:=PY hl;refine an func39 rfl ntmps39 results39 rfl 0 31 (by simp) (by simp) ?_;simp only[zX,simprocAttr,i64,aZ,Re.ae,bV,iD,bD];refine aj h1 rfl rfl ?_;simp only[zX,simprocAttr,i64,aZ,Re.ae,bV,iD,bD,ne_eq,not_true_eq_false];refine bc [] (by rfl) (aj h2 rfl rfl ?_);simp only[zX,simprocAttr,bE,i64,aZ,Re.ae,bV,iD,bD,aga,age];refine aj h3 rfl rfl ?_;simp only[zX,simprocAttr,i64,aZ,Re.ae,bV,iD,bD,w1,c1,gt_iff_lt];refine aS bO.bf ?_;refine ar mix [] [(5,[2],[2]),(11,[1],[1])] (by rfl) ?_;simp only[zX,simprocAttr,i64,aZ,Re.ae,bV,iD,bD];refine bp dR rfl rfl ?_;simp only[zX,simprocAttr,i64,aZ,Re.ae,bV,iD,bD,O3];refine⟨⟨by omega,QD _,λe he=>by rw[List.mem_singleton.1 he];rfl⟩,?_⟩;rw[eH 7 0 _ _ _ (by simp),be (by simp)];simp [J9.cells,jM.cells,BQ,iD,bD]
 ·have dR:=xr hl;refine an func39 rfl ntmps39 results39 rfl 0 31 (by simp) (by simp) ?_;simp only[zX,simprocAttr,i64,aZ,Re.ae,bV,iD,bD];refine aj h1 rfl rfl ?_;simp only[zX,simprocAttr,i64,aZ,Re.ae,bV,iD,bD,ne_eq,not_true_eq_false];refine bc [] (by rfl) (aj h2 rfl rfl ?_);simp only[zX,simprocAttr,bE,i64,aZ,Re.ae,bV,iD,bD,aga,age];refine aj h3 rfl rfl ?_;simp only[zX,simprocAttr,i64,aZ,Re.ae,bV,iD,bD,w1,c1,gt_iff_lt];refine aS bO.bf ?_;refine ar mix [] [(2,[2],[2]),(5,[2],[2]),(11,[1],[1])] (by rfl) ?_;simp only[zX,simprocAttr,i64,aZ,Re.ae,bV,iD,bD];refine⟨_,[_],rfl,λs' ez iO=>kG.hole (k:=2) (ob:=hole) dR rfl rfl (by rw[iO 2 (by simp)];rfl) ⟨rfl,rfl⟩,?_⟩;simp only[zX,simprocAttr,i64,aZ,Re.ae,bV,iD,bD,aE,hole];refine⟨rfl,λe he=>by rw[List.mem_singleton.1 he];rfl,⟨by omega,by omega⟩,?_⟩;have hk:(List.map (λc=>List.map V.d c) (List.map jM.cells L))++[[V.d (D.sc (Value.int IntKind.i64 0)),V.d (D.sc (Value.int IntKind.i64 0)),V.d (D.sc (Value.int IntKind.i64 0)),V.d (D.sc (Value.int IntKind.i64 0)),V.d (D.sl [])]]=List.map (λc=>List.map V.d c) (List.map jM.cells (L++[BQ])):=by simp [jM.cells,BQ,iD]
  rw[nQ _ _ (af3 _),hk,eH 7 0 _ _ _ (by simp),be (by simp)];simp [J9.cells,jM.cells,BQ,iD,bD]
end Go.Proofs.Ytfmdmlfhigocaaa
namespace Go.Proofs.Ytfmdmlfhigocaaa
open Go.VL Go.Proofs.Try
def FA (F F':Int) (st st':bJ) (b:Bool) (o:Option (Bool×bJ)):Prop :=
 st.steps<=st'.steps/\(st'.empty=true->b=true/\F<st'.steps)/\(st.steps<=F'->(st'.steps<=F'->o=some (b,st'))/\(F'<st'.steps->∃s2,o=some (true,s2)/\s2.empty=true))
inductive ETask where
 |run (g:Goal) (i:Int) (c:aK)
 |rep (re:Re) (k:Int) (nx:Goal) (i:Int) (c:aK)
 |node (re:Re) (nx:Goal) (i:Int) (c:aK)
 |body (re:Re) (nx:Goal) (i:Int) (c:aK)
 |alt (l:List Re) (nx:Goal) (i:Int) (c:aK)
 |behind (re kid:Re) (nx:Goal) (i:Int) (c:aK) (j:Nat)
def bJ.sub (st:bJ):bJ:=⟨st.steps,false,[],[]⟩
def bJ.Lf (st x:bJ):bJ:={ st with steps:=x.steps,empty:=x.empty }
def Mu (i:Int):Goal:=.mk 4 (.mk 0 [] [] 0 0 0 0 false) 0 i .nil
inductive eU (t:List Int) (F:Int):Int->ETask->bJ->Bool->bJ->Prop where
 |found {most:Int}{i:Int}{c:aK}{st:bJ} (h0:0<=i) (h1:i<=t.length) (hl:st.ak.length=st.ends.length) (vu:st.ends.length<2000000000000):eU t F most (.run .nil i c) st (decide (0<=most)&&decide (most<=(st.ends.length:Int)+1)) { st with ends:=st.ends++[i],ak:=st.ak++[c] }
 |tree {most kind k f i:Int}{re:Re}{nx:Goal}{c:aK}{st st':bJ}{b:Bool} (Cd:kind≠1) (FF:kind≠2) (F5:kind≠3) (hk4:kind≠4) (h0:0<=i) (h1:i<=t.length) (h:eU t F most (.node re nx i c) st b st'):eU t F most (.run (.mk kind re k f nx) i c) st b st'
 |acA {most k f i:Int}{re:Re}{nx:Goal}{c:aK}{st st':bJ}{b:Bool} (h0:0<=i) (h1:i<=t.length) (h:eU t F most (.rep re k nx i c) st b st'):eU t F most (.run (.mk 1 re k f nx) i c) st b st'
 |stay {most k f i:Int}{re:Re}{nx:Goal}{c:aK}{st:bJ} (h0:0<=i) (h1:i<=t.length) (hk:re.mn<=k) (hi:i=f):eU t F most (.run (.mk 2 re k f nx) i c) st false st
 |iter {most k f i:Int}{re:Re}{nx:Goal}{c:aK}{st st':bJ}{b:Bool} (h0:0<=i) (h1:i<=t.length) (hk:¬(re.mn<=k/\i=f)) (eL:0<=k) (Cd:k<=10000000000000) (h:eU t F most (.run (.mk 1 re (k+1) 0 nx) i c) st b st'):eU t F most (.run (.mk 2 re k f nx) i c) st b st'
 |save {most k f i:Int}{re:Re}{nx:Goal}{c:aK}{st st':bJ}{b:Bool} (h0:0<=i) (h1:i<=t.length) (h:eU t F most (.run nx i (ql c re.n f i)) st b st'):eU t F most (.run (.mk 3 re k f nx) i c) st b st'
 |here {most k f i:Int}{re:Re}{nx:Goal}{c:aK}{st st':bJ}{b:Bool} (h0:0<=i) (h1:i<=t.length) (hi:i=f) (h:eU t F most (.run nx i c) st b st'):eU t F most (.run (.mk 4 re k f nx) i c) st b st'
 |gone {most k f i:Int}{re:Re}{nx:Goal}{c:aK}{st:bJ} (h0:0<=i) (h1:i<=t.length) (hi:i≠f):eU t F most (.run (.mk 4 re k f nx) i c) st false st
 |YF {most k i:Int}{re:Re}{nx:Goal}{c:aK}{st x:bJ}{b:Bool} (hm:re.mode=2) (h:eU t F 1 (.run (.mk 1 (re.ff 0) 0 0 .nil) i c) st.sub b x) (hx:x.empty=true):eU t F most (.rep re k nx i c) st true (st.Lf x)
 |aaB {most k i:Int}{re:Re}{nx:Goal}{c:aK}{st x:bJ}{b:Bool} (hm:re.mode=2) (h:eU t F 1 (.run (.mk 1 (re.ff 0) 0 0 .nil) i c) st.sub b x) (hx:x.empty=false) (he:x.ends=[]):eU t F most (.rep re k nx i c) st false (st.Lf x)
 |Zj {most k i e:Int}{re:Re}{nx:Goal}{c d:aK}{le:List Int}{ld:List aK}{st x st':bJ}{b b':Bool} (hm:re.mode=2) (h:eU t F 1 (.run (.mk 1 (re.ff 0) 0 0 .nil) i c) st.sub b x) (hx:x.empty=false) (he:x.ends=e::le) (hd:x.ak=d::ld) (h2:eU t F most (.run nx e d) (st.Lf x) b' st'):eU t F most (.rep re k nx i c) st b' st'
 |aap {most k i:Int}{re:Re}{nx:Goal}{c:aK}{st:bJ} (hm:re.mode≠2) (hs:0<=st.steps) (he:(st.step F).empty=true):eU t F most (.rep re k nx i c) st true (st.step F)
 |aao {most k i:Int}{re kid:Re}{l:List Re}{nx:Goal}{c:aK}{st st':bJ}{b:Bool} (hm:re.mode≠2) (hs:0<=st.steps) (he:(st.step F).empty=false) (di:re.kids=kid::l) (hk:k<re.mn) (h:eU t F most (.run (.mk 0 kid 0 0 (.mk 2 re k i nx)) i c) (st.step F) b st'):eU t F most (.rep re k nx i c) st b st'
 |Zp {most k i:Int}{re kid:Re}{l:List Re}{nx:Goal}{c:aK}{st st':bJ}{b:Bool} (hm:re.mode≠2) (hs:0<=st.steps) (he:(st.step F).empty=false) (di:re.kids=kid::l) (hk:¬k<re.mn) (hx:¬(re.mx=-1\/k<re.mx)) (h:eU t F most (.run nx i c) (st.step F) b st'):eU t F most (.rep re k nx i c) st b st'
 |acJ {most k i:Int}{re kid:Re}{l:List Re}{nx:Goal}{c:aK}{st st':bJ} (hm:re.mode=1) (hs:0<=st.steps) (he:(st.step F).empty=false) (di:re.kids=kid::l) (hk:¬k<re.mn) (hx:re.mx=-1\/k<re.mx) (h:eU t F most (.run nx i c) (st.step F) true st'):eU t F most (.rep re k nx i c) st true st'
 |abU {most k i:Int}{re kid:Re}{l:List Re}{nx:Goal}{c:aK}{st s2 st':bJ}{b:Bool} (hm:re.mode=1) (hs:0<=st.steps) (he:(st.step F).empty=false) (di:re.kids=kid::l) (hk:¬k<re.mn) (hx:re.mx=-1\/k<re.mx) (h:eU t F most (.run nx i c) (st.step F) false s2)
   (h2:eU t F most (.run (.mk 0 kid 0 0 (.mk 2 re k i nx)) i c) s2 b st'):eU t F most (.rep re k nx i c) st b st'
 |abJ {most k i:Int}{re kid:Re}{l:List Re}{nx:Goal}{c:aK}{st st':bJ} (hm:re.mode≠2) (RC:re.mode≠1) (hs:0<=st.steps) (he:(st.step F).empty=false) (di:re.kids=kid::l) (hk:¬k<re.mn) (hx:re.mx=-1\/k<re.mx) (h:eU t F most (.run (.mk 0 kid 0 0 (.mk 2 re k i nx)) i c) (st.step F) true st'):eU t F most (.rep re k nx i c) st true st'
 |acx {most k i:Int}{re kid:Re}{l:List Re}{nx:Goal}{c:aK}{st s2 st':bJ}{b:Bool} (hm:re.mode≠2) (RC:re.mode≠1) (hs:0<=st.steps) (he:(st.step F).empty=false) (di:re.kids=kid::l) (hk:¬k<re.mn) (hx:re.mx=-1\/k<re.mx) (h:eU t F most (.run (.mk 0 kid 0 0 (.mk 2 re k i nx)) i c) (st.step F) false s2)
   (h2:eU t F most (.run nx i c) s2 b st'):eU t F most (.rep re k nx i c) st b st'
 |Y4 {most i:Int}{re:Re}{nx:Goal}{c:aK}{st st':bJ}{b:Bool} (ho:re.op=4) (h0:0<=i) (h1:i<=t.length) (h:eU t F most (.rep re 0 nx i c) st b st'):eU t F most (.node re nx i c) st b st'
 |Zg {most i:Int}{re:Re}{nx:Goal}{c:aK}{st:bJ} (ho:re.op≠4) (hs:0<=st.steps) (he:(st.step F).empty=true):eU t F most (.node re nx i c) st true (st.step F)
 |node {most i:Int}{re:Re}{nx:Goal}{c:aK}{st st':bJ}{b:Bool} (ho:re.op≠4) (hs:0<=st.steps) (he:(st.step F).empty=false) (h:eU t F most (.body re nx i c) (st.step F) b st'):eU t F most (.node re nx i c) st b st'
 |empty {most i:Int}{re:Re}{nx:Goal}{c:aK}{st st':bJ}{b:Bool} (ho:re.op ∉ ([1,2,3,5,6,7,8,9,10,11]:List Int)) (h:eU t F most (.run nx i c) st b st'):eU t F most (.body re nx i c) st b st'
 |Z9 {most i:Int}{re:Re}{nx:Goal}{c:aK}{st st':bJ}{b:Bool} (ho:re.op=1) (hi:i<t.length) (hs:E3 re.set (n7 t i)=true) (h:eU t F most (.run nx (i+1) c) st b st'):eU t F most (.body re nx i c) st b st'
 |abL {most i:Int}{re:Re}{nx:Goal}{c:aK}{st:bJ} (ho:re.op=1) (hn:¬(i<t.length/\E3 re.set (n7 t i)=true)):eU t F most (.body re nx i c) st false st
 |cat {most i:Int}{re:Re}{nx:Goal}{c:aK}{st st':bJ}{b:Bool} (ho:re.op=2) (h:eU t F most (.run (qN re.kids nx) i c) st b st'):eU t F most (.body re nx i c) st b st'
 |alt {most i:Int}{re:Re}{nx:Goal}{c:aK}{st st':bJ}{b:Bool} (ho:re.op=3) (h:eU t F most (.alt re.kids nx i c) st b st'):eU t F most (.body re nx i c) st b st'
 |aaH {most i:Int}{nx:Goal}{c:aK}{st:bJ}:eU t F most (.alt [] nx i c) st false st
 |acS {most i:Int}{kid:Re}{l:List Re}{nx:Goal}{c:aK}{st st':bJ} (h:eU t F most (.run (.mk 0 kid 0 0 nx) i c) st true st'):eU t F most (.alt (kid::l) nx i c) st true st'
 |U0 {most i:Int}{kid:Re}{l:List Re}{nx:Goal}{c:aK}{st s2 st':bJ}{b:Bool} (h:eU t F most (.run (.mk 0 kid 0 0 nx) i c) st false s2) (h2:eU t F most (.alt l nx i c) s2 b st'):eU t F most (.alt (kid::l) nx i c) st b st'
 |cap {most i:Int}{re kid:Re}{l:List Re}{nx:Goal}{c:aK}{st st':bJ}{b:Bool} (ho:re.op=5) (di:re.kids=kid::l) (h:eU t F most (.run (.mk 0 kid 0 0 (.mk 3 re 0 i nx)) i c) st b st'):eU t F most (.body re nx i c) st b st'
 |Zh {most i:Int}{re:Re}{nx:Goal}{c:aK}{st:bJ} (ho:re.op=6) (hx:(cE c re.n).1<0):eU t F most (.body re nx i c) st false st
 |YK {most i:Int}{re:Re}{nx:Goal}{c:aK}{st:bJ} (ho:re.op=6) (hx:¬(cE c re.n).1<0) (jn:¬(cE c re.n).2<(cE c re.n).1) (h2:(cE c re.n).2<=t.length) (hl:t.length<i+(cE c re.n).2-(cE c re.n).1):eU t F most (.body re nx i c) st false st
 |aad {most i:Int}{re:Re}{nx:Goal}{c:aK}{st st':bJ}{b:Bool} (ho:re.op=6) (hx:¬(cE c re.n).1<0) (jn:¬(cE c re.n).2<(cE c re.n).1) (h2:(cE c re.n).2<=t.length) (hl:¬t.length<i+(cE c re.n).2-(cE c re.n).1) (hs:rF t (cE c re.n).1 i ((cE c re.n).2-(cE c re.n).1).toNat=true)
   (h:eU t F most (.run nx (i+(cE c re.n).2-(cE c re.n).1) c) st b st'):eU t F most (.body re nx i c) st b st'
 |acF {most i:Int}{re:Re}{nx:Goal}{c:aK}{st:bJ} (ho:re.op=6) (hx:¬(cE c re.n).1<0) (jn:¬(cE c re.n).2<(cE c re.n).1) (h2:(cE c re.n).2<=t.length) (hl:¬t.length<i+(cE c re.n).2-(cE c re.n).1) (hs:rF t (cE c re.n).1 i ((cE c re.n).2-(cE c re.n).1).toNat=false):eU t F most (.body re nx i c) st false st
 |WX {most i:Int}{re kid:Re}{l:List Re}{nx:Goal}{c:aK}{st x:bJ}{b:Bool} (ho:re.op=7) (di:re.kids=kid::l) (h:eU t F 1 (.run (.mk 0 kid 0 0 .nil) i c) st.sub b x) (hx:x.empty=true):eU t F most (.body re nx i c) st true (st.Lf x)
 |YE {most i:Int}{re kid:Re}{l:List Re}{nx:Goal}{c:aK}{st x:bJ}{b:Bool} (ho:re.op=7) (di:re.kids=kid::l) (h:eU t F 1 (.run (.mk 0 kid 0 0 .nil) i c) st.sub b x) (hx:x.empty=false) (he:x.ends=[]) (hn:re.neg=false):eU t F most (.body re nx i c) st false (st.Lf x)
 |UO {most i:Int}{re kid:Re}{l:List Re}{nx:Goal}{c:aK}{st x st':bJ}{b b':Bool} (ho:re.op=7) (di:re.kids=kid::l) (h:eU t F 1 (.run (.mk 0 kid 0 0 .nil) i c) st.sub b x) (hx:x.empty=false) (he:x.ends=[]) (hn:re.neg=true) (h2:eU t F most (.run nx i c) (st.Lf x) b' st'):eU t F most (.body re nx i c) st b' st'
 |Xr {most i e:Int}{re kid:Re}{l:List Re}{nx:Goal}{c d:aK}{le:List Int}{ld:List aK}{st x st':bJ}{b b':Bool} (ho:re.op=7) (di:re.kids=kid::l) (h:eU t F 1 (.run (.mk 0 kid 0 0 .nil) i c) st.sub b x) (hx:x.empty=false) (he:x.ends=e::le) (hd:x.ak=d::ld) (hn:re.neg=false) (h2:eU t F most (.run nx i d) (st.Lf x) b' st'):eU t F most (.body re nx i c) st b' st'
 |TD {most i e:Int}{re kid:Re}{l:List Re}{nx:Goal}{c d:aK}{le:List Int}{ld:List aK}{st x:bJ}{b:Bool} (ho:re.op=7) (di:re.kids=kid::l) (h:eU t F 1 (.run (.mk 0 kid 0 0 .nil) i c) st.sub b x) (hx:x.empty=false) (he:x.ends=e::le) (hd:x.ak=d::ld) (hn:re.neg=true):eU t F most (.body re nx i c) st false (st.Lf x)
 |behind {most i:Int}{re kid:Re}{l:List Re}{nx:Goal}{c:aK}{st st':bJ}{b:Bool} (ho:re.op=8) (di:re.kids=kid::l) (he:st.empty=false) (h:eU t F most (.behind re kid nx i c (i.toNat+1)) st b st'):eU t F most (.body re nx i c) st b st'
 |adW {most i:Int}{re kid:Re}{nx:Goal}{c:aK}{st:bJ} (hn:re.neg=false):eU t F most (.behind re kid nx i c 0) st false st
 |YH {most i:Int}{re kid:Re}{nx:Goal}{c:aK}{st st':bJ}{b:Bool} (hn:re.neg=true) (h:eU t F most (.run nx i c) st b st'):eU t F most (.behind re kid nx i c 0) st b st'
 |ab7 {most i:Int}{j:Nat}{re kid:Re}{nx:Goal}{c:aK}{st x:bJ}{b:Bool} (h:eU t F 1 (.run (.mk 0 kid 0 0 (Mu i)) j c) st.sub b x) (hx:x.empty=true):eU t F most (.behind re kid nx i c (j+1)) st true (st.Lf x)
 |acj {most i e:Int}{j:Nat}{re kid:Re}{nx:Goal}{c d:aK}{le:List Int}{ld:List aK}{st x st':bJ}{b b':Bool} (h:eU t F 1 (.run (.mk 0 kid 0 0 (Mu i)) j c) st.sub b x) (hx:x.empty=false) (he:x.ends=e::le) (hd:x.ak=d::ld) (hn:re.neg=false) (h2:eU t F most (.run nx i d) (st.Lf x) b' st'):eU t F most (.behind re kid nx i c (j+1)) st b' st'
 |Xb {most i e:Int}{j:Nat}{re kid:Re}{nx:Goal}{c d:aK}{le:List Int}{ld:List aK}{st x:bJ}{b:Bool} (h:eU t F 1 (.run (.mk 0 kid 0 0 (Mu i)) j c) st.sub b x) (hx:x.empty=false) (he:x.ends=e::le) (hd:x.ak=d::ld) (hn:re.neg=true):eU t F most (.behind re kid nx i c (j+1)) st false (st.Lf x)
 |aa8 {most i:Int}{j:Nat}{re kid:Re}{nx:Goal}{c:aK}{st x st':bJ}{b b':Bool} (h:eU t F 1 (.run (.mk 0 kid 0 0 (Mu i)) j c) st.sub b x) (hx:x.empty=false) (he:x.ends=[]) (h2:eU t F most (.behind re kid nx i c j) (st.Lf x) b' st'):eU t F most (.behind re kid nx i c (j+1)) st b' st'
 |YC {most i:Int}{re kid:Re}{l:List Re}{nx:Goal}{c:aK}{st x:bJ}{b:Bool} (ho:re.op=9) (di:re.kids=kid::l) (h:eU t F 1 (.run (.mk 0 kid 0 0 .nil) i c) st.sub b x) (hx:x.empty=true):eU t F most (.body re nx i c) st true (st.Lf x)
 |aa6 {most i:Int}{re kid:Re}{l:List Re}{nx:Goal}{c:aK}{st x:bJ}{b:Bool} (ho:re.op=9) (di:re.kids=kid::l) (h:eU t F 1 (.run (.mk 0 kid 0 0 .nil) i c) st.sub b x) (hx:x.empty=false) (he:x.ends=[]):eU t F most (.body re nx i c) st false (st.Lf x)
 |Za {most i e:Int}{re kid:Re}{l:List Re}{nx:Goal}{c d:aK}{le:List Int}{ld:List aK}{st x st':bJ}{b b':Bool} (ho:re.op=9) (di:re.kids=kid::l) (h:eU t F 1 (.run (.mk 0 kid 0 0 .nil) i c) st.sub b x) (hx:x.empty=false) (he:x.ends=e::le) (hd:x.ak=d::ld) (h2:eU t F most (.run nx e d) (st.Lf x) b' st'):eU t F most (.body re nx i c) st b' st'
 |cond {most i:Int}{re yes no:Re}{l:List Re}{nx:Goal}{c:aK}{st st':bJ}{b:Bool} (ho:re.op=10) (di:re.kids=yes::no::l) (h:eU t F most (.run (.mk 0 (if 0<=(cE c re.n).1 then yes else no) 0 0 nx) i c) st b st'):eU t F most (.body re nx i c) st b st'
 |Wm {most i:Int}{re:Re}{nx:Goal}{c:aK}{st st':bJ}{b:Bool} (ho:re.op=11) (hh:bX re.n t i=true) (h:eU t F most (.run nx i c) st b st'):eU t F most (.body re nx i c) st b st'
 |XL {most i:Int}{re:Re}{nx:Goal}{c:aK}{st:bJ} (ho:re.op=11) (hh:bX re.n t i=false):eU t F most (.body re nx i c) st false st
def Task.e:Task->ETask
 |.run g i c=>.run g i c
 |.rep (.mk _ re k _ nx) i c=>.rep re k nx i c
 |.rep .nil i c=>.alt [] .nil i c
 |.node (.mk _ re _ _ nx) i c=>.node re nx i c
 |.node .nil i c=>.alt [] .nil i c
end Go.Proofs.Ytfmdmlfhigocaaa
