/- A part of the proof (F48 F49). -/
import Derived.Test.YtphfjhaffbfpfaaPM24
import Derived.Test.YtphfjhaffbfpfaaPM25
import Derived.Test.YtphfjhaffbfpfaaPM26
set_option linter.all false
set_option maxRecDepth 100000
set_option maxHeartbeats 80000000
namespace Go.Proofs.Ytphfjhaffbfpfaa
open Go.VL Go.Proofs.Try
theorem MF (re:Re) (hf:re.eN=true) (ah top:Int) (ht:top<=1114111):ba prog 34 [bP re,i64 ah,i64 top] (bV (b9 re ah top)):=by
 have hc:(re.op=0\/re.op=2\/re.op=3)\/(re.op=5\/re.op=6\/re.op=7)\/(re.op=8\/re.op=9)\/(re.op=10\/re.op=11)\/(re.op=1\/re.op=4\/(¬re.op=0/\¬re.op=1/\¬re.op=2/\¬re.op=3/\¬re.op=4/\¬re.op=5/\¬re.op=6/\¬re.op=7/\¬re.op=8/\¬re.op=9/\¬re.op=10/\¬re.op=11)):=by omega
 rcases hc with h|h|h|h|h
 ·exact Pt re hf ah top ht h
 ·exact PH re hf ah top ht h
 ·exact M8 re hf ah top ht h
 ·exact NR re hf ah top ht h
 ·exact Pd re hf ah top ht h
mutual
def Re.vw (ah top:Int):Re->Int->Int->Bool->Bool×Int×Bool
 |.mk op set kids mn mx mode n neg,d,sz,g =>
  if 256<sz+1\/24<d then (false,sz+1,g) else Re.qp ah top kids (d+1) (sz+1) (g&&b9 (.mk op set kids mn mx mode n neg) ah top)
def Re.qp (ah top:Int):List Re->Int->Int->Bool->Bool×Int×Bool
 |[],_,sz,g=>(true,sz,g)
 |k::l,d,sz,g=>if (Re.vw ah top k d sz g).1=true then Re.qp ah top l d (Re.vw ah top k d sz g).2.1 (Re.vw ah top k d sz g).2.2 else Re.vw ah top k d sz g
end
theorem Re.Sd (ah top:Int) (re:Re) (d sz:Int) (g:Bool):re.vw ah top d sz g=if 256<sz+1\/24<d then (false,sz+1,g) else Re.qp ah top re.kids (d+1) (sz+1) (g&&b9 re ah top):=by
 cases re;simp [Re.vw,Re.kids]
theorem Re.tL (ah top:Int):∀(a b:List Re) (d sz:Int) (g:Bool),Re.qp ah top (a++b) d sz g=if (Re.qp ah top a d sz g).1=true then Re.qp ah top b d (Re.qp ah top a d sz g).2.1 (Re.qp ah top a d sz g).2.2 else Re.qp ah top a d sz g
 |[],b,d,sz,g=>by simp [Re.qp]
 |k::a,b,d,sz,g=>by
  simp only[adr,Re.qp];split
  ·exact Re.tL ah top a b d _ _
  ·rename_i h;first|rfl|rw[am h]
theorem Re.Nd (ah top:Int) (a:List Re) (k:Re) (d sz:Int) (g:Bool) (h:(Re.qp ah top a d sz g).1=true):Re.qp ah top (a++[k]) d sz g=k.vw ah top d (Re.qp ah top a d sz g).2.1 (Re.qp ah top a d sz g).2.2:=by
 rw[Re.tL,ap h];simp only[Re.qp];split
 ·rename_i hk;exact Prod.ext hk.symm rfl
 ·rfl
def TV (ah top:Int) (re:Re):Prop:=∀(d sz:Int) (g:Bool),0<=sz->sz<=256 ->
 ((re.vw ah top d sz g).1=true ↔ (sz+re.size<=256/\d+re.depth-1<=24))/\0<=(re.vw ah top d sz g).2.1/\(re.vw ah top d sz g).2.1<=257 /\
 ((re.vw ah top d sz g).1=true->(re.vw ah top d sz g).2.1=sz+re.size/\(re.vw ah top d sz g).2.2=(g&&re.whole ah top))
theorem Ip (ah top:Int):∀(l:List Re),(∀k∈l,TV ah top k)->∀(d sz:Int) (g:Bool),0<=sz->sz<=256 ->
  ((Re.qp ah top l d sz g).1=true ↔ (sz+Re.dT l<=256/\∀k∈l,d+k.depth-1<=24))/\0<=(Re.qp ah top l d sz g).2.1/\(Re.qp ah top l d sz g).2.1<=257 /\
  ((Re.qp ah top l d sz g).1=true->(Re.qp ah top l d sz g).2.1=sz+Re.dT l/\(Re.qp ah top l d sz g).2.2=(g&&l.all λk=>k.whole ah top))
 |[],_,d,sz,g,h0,h1=>by simp only[Re.qp,Re.dT];exact⟨⟨λ_=>⟨by omega,λk hk=>by cases hk⟩,λ_=>trivial⟩,h0,by omega,λ_=>⟨by omega,by simp⟩⟩
 |k::l,hk,d,sz,g,h0,h1=>by
  obtain⟨a1,a2,a3,a4⟩:=hk k (by simp) d sz g h0 h1;simp only[Re.qp,Re.dT];split
  ·rename_i ht;obtain⟨b1,b2⟩:=a4 ht;obtain⟨c1,c2⟩:=a1.1 ht;obtain⟨e1,e2,e3,e4⟩:=Ip ah top l (λx hx=>hk x (by simp [hx])) d (k.vw ah top d sz g).2.1 (k.vw ah top d sz g).2.2 a2 (by omega);refine⟨?_,e2,e3,λh=>?_⟩
   ·rw[e1,b1];constructor
    ·rintro ⟨f1,f2⟩;refine⟨by omega,λx hx=>?_⟩;rcases List.mem_cons.1 hx with rfl|hx
     ·exact c2
     ·exact f2 x hx
    ·rintro ⟨f1,f2⟩;exact⟨by omega,λx hx=>f2 x (by simp [hx])⟩
   ·obtain⟨f1,f2⟩:=e4 h;refine⟨by omega,?_⟩;rw[f2,b2,List.all_cons,Bool.and_assoc]
  ·rename_i ht;refine⟨⟨λh=>absurd h ht,λ⟨f1,f2⟩=>absurd (a1.2 ⟨by omega,f2 k (by simp)⟩) ht⟩,a2,a3,λh=>absurd h ht⟩
theorem DG (re:Re) (b:Int) (hb:0<=b):re.depth-1<=b ↔ ∀k∈re.kids,k.depth<=b:=by
 rw[Re.oN];constructor
 ·intro h k hk;have:∀(l:List Int) (a x:Int),x∈l->x<=l.foldl max a:=by
   intro l;induction l with
   |nil=>intro a x hx;cases hx
   |cons y l ih =>
    intro a x hx;rcases List.mem_cons.1 hx with rfl|hx
    ·exact Int.le_trans (by omega) (mg l (max a x))
    ·exact ih (max a y) x hx
  have:=this (re.kids.map Re.depth) 0 k.depth (List.mem_map.2 ⟨k,hk,rfl⟩);unfold s6 at h;omega
 ·intro h;have:=mm (b:=b) (re.kids.map Re.depth) 0 hb (λx hx=>by obtain⟨k,hk,rfl⟩:=List.mem_map.1 hx;exact h k hk);unfold s6;omega
theorem SI (ah top:Int) (re:Re):TV ah top re:=by
 refine Re.ind (Q:=TV ah top) (λre ih=>?_) re;intro d sz g h0 h1;have hd:=Re.vO re;have hp:=re.size_pos;rw[Re.Sd,Re.size_eq];split
 ·rename_i hc;simp only;refine⟨⟨λh=>(by cases h),λh=>?_⟩,by omega,by omega,λh=>(by cases h)⟩;have hdp:1<=re.depth:=by rw[Re.oN];have:=mg (re.kids.map Re.depth) 0;unfold s6;omega
  omega
 ·rename_i hc;obtain⟨a1,a2,a3,a4⟩:=Ip ah top re.kids ih (d+1) (sz+1) (g&&b9 re ah top) (by omega) (by omega);refine⟨?_,a2,a3,λh=>?_⟩
  ·rw[a1];have Pg:=DG re (24-d) (by omega);constructor
   ·rintro ⟨f1,f2⟩;have:=Pg.2 (λk hk=>by have:=f2 k hk;omega);omega
   ·rintro ⟨f1,f2⟩;have:=Pg.1 (by omega);exact⟨by omega,λk hk=>by have:=this k hk;omega⟩
  ·obtain⟨f1,f2⟩:=a4 h;refine⟨by omega,?_⟩;rw[f2,Bool.and_assoc];congr 1;unfold Re.whole;rw[Bool.eq_iff_iff,adD,Re.aQ,adE]
def gO (g:Bool):VL.Obj:=⟨0,true,1,[[bV g]]⟩
def oS (lv:Bool) (p:iF):VL.Obj:=⟨0,lv,10,[(Ac p).map .d]⟩
def ig (f:FuncId):VL.Obj:=⟨0,true,1,[[.cl (.func f) [] [.rf 0 0 0 0,.rf 1 0 0 0,.rf 2 0 0 0,.rf 3 0 0 0,.rf 4 0 0 0]]]⟩
def Sz (p:iF) (top:Int) (re:Re):Prop:=∀(d sz:Int) (g lv:Bool) (pv:V),(pv=.rf 2 0 0 0\/pv=.d (.el (Ac p)))->0<=d->d<=25->0<=sz->sz<=256 ->
 au prog 33 [bP re,i64 d,.rf 0 0 0 0,.rf 1 0 0 0,pv,.rf 3 0 0 0,.rf 4 0 0 0] [m5 sz,gO g,oS lv p,m5 top,ig 33]
  λv s=>v=bV (re.vw p.ah top d sz g).1/\s=[m5 (re.vw p.ah top d sz g).2.1,gO (re.vw p.ah top d sz g).2.2,oS lv p,m5 top,ig 33]
theorem Mc (p:iF) (top:Int) (ht:top<=1114111) (re:Re) (hf:re.eN=true):Sz p top re:=by
 revert hf;refine Re.ind (Q:=λre=>re.eN=true->Sz p top re) (λre ih hf=>?_) re;obtain⟨nV,hlen,A4⟩:=Re.fC hf;have KM:=MF re hf p.ah top ht;rw[bP,Re.ae]at KM;simp only[i64,iD,bD]at KM;intro d sz g lv pv LV eR uf fW eC;have w1:IntKind.i64.wrap (sz+1)=sz+1:=bM _ (by omega);have w2:IntKind.i64.wrap (d+1)=d+1:=bM _ (by omega);rw[Re.Sd];by_cases hc:256<sz+1\/24<d
 ·rw[ap hc];have zJ:256<sz+1\/(¬256<sz+1/\24<d):=by omega
  refine ar func33 rfl ntmps33 results33 rfl 5 6442452607 (by simp) (by simp) ?_;rcases zJ with c1|⟨c1,c2⟩
  ·simp only[zX,simprocAttr,i64,bP,Re.ae re,iD,bD,m5,gO,oS,ib p,ig,bV,w1,c1];all_goals first|exact⟨rfl,rfl⟩|exact⟨rfl,trivial⟩|rfl|trivial|(rw[aq];rfl)
  ·simp only[zX,simprocAttr,i64,bP,Re.ae re,iD,bD,m5,gO,oS,ib p,ig,bV,w1,c1,c2];all_goals first|exact⟨rfl,rfl⟩|exact⟨rfl,trivial⟩|rfl|trivial|(rw[aq];rfl)
 rw[am hc];have c1:¬256<sz+1:=λh=>hc (.inl h);have c2:¬24<d:=λh=>hc (.inr h);generalize hG:(g&&b9 re p.ah top)=G;rcases LV with rfl|rfl;all_goals
  cases g;all_goals
   refine ar func33 rfl ntmps33 results33 rfl 5 6442452607 (by simp) (by simp) ?_;simp only[zX,simprocAttr,i64,bP,Re.ae re,iD,bD,m5,gO,oS,ib p,ig,bV,w1,c1,c2];try
    rw[Bool.true_and]at hG;rw[hG]at KM;refine az KM (by simp [ak,ak.go,aq,i64,bV,bP]) (by simp [ak,ak.go,aq,i64,bV,bP]) ?_;simp only[zX,simprocAttr,i64,iD,bD,bV]
   refine aJ (λn e s=>∃i:Nat,n=re.kids.length-i/\i<=re.kids.length/\e 0=bP re/\e 1=i64 d/\e 6=.rf 4 0 0 0/\e 31=i64 re.kids.length/\e 32=i64 i /\
     (Re.qp p.ah top (re.kids.take i) (d+1) (sz+1) G).1=true /\
     s=[m5 (Re.qp p.ah top (re.kids.take i) (d+1) (sz+1) G).2.1,gO (Re.qp p.ah top (re.kids.take i) (d+1) (sz+1) G).2.2,oS lv p,m5 top,ig 33])
    ⟨_,_,_,cU.refl,0,rfl,by omega,by simp [bP,Re.ae re,iD,bD];rfl,rfl,rfl,rfl,rfl,rfl,by simp only[List.take_zero,Re.qp,m5,gO,oS,ib p,ig,i64,bV,iD,bD,adG,adP,<- hG,Bool.false_and]⟩ ?_
   rintro n e s ⟨i,rfl,hi,h0,h1,h6,nf,jI,dg,rfl⟩;have Un:=Ip p.ah top (re.kids.take i) (λk _=>SI p.ah top k) (d+1) (sz+1) G (by omega) (by omega);obtain⟨b1,b2⟩:=Un.2.2.2 dg;have b3:=(Un.1.1 dg).1;have b4:=Un.2.1;rcases adV i re.kids.length with aH|iP
   ·obtain⟨k,hk⟩:∃k,re.kids[i]?=some k:=⟨_,adn aH⟩
    have hm:=adw hk;have HX:=Re.Nd p.ah top (re.kids.take i) k (d+1) (sz+1) G dg;rw[<- cy hk]at HX;have Vn:Re.qp p.ah top re.kids (d+1) (sz+1) G=if (Re.qp p.ah top (re.kids.take (i+1)) (d+1) (sz+1) G).1=true then Re.qp p.ah top (re.kids.drop (i+1)) (d+1) (Re.qp p.ah top (re.kids.take (i+1)) (d+1) (sz+1) G).2.1 (Re.qp p.ah top (re.kids.take (i+1)) (d+1) (sz+1) G).2.2 else Re.qp p.ah top (re.kids.take (i+1)) (d+1) (sz+1) G:=by rw[<- Re.tL,List.take_append_drop]
    have dp:=ih k hm (A4 k hm) (d+1) (Re.qp p.ah top (re.kids.take i) (d+1) (sz+1) G).2.1 (Re.qp p.ah top (re.kids.take i) (d+1) (sz+1) G).2.2 lv (.rf 2 0 0 0) (.inl rfl) (by omega) (by omega) b4 (by omega);rw[<- HX]at dp;simp only[oS,ib p,iD,bD,adG,adP]at dp;generalize Re.qp p.ah top (re.kids.take i) (d+1) (sz+1) G=A at *;generalize hB:Re.qp p.ah top (re.kids.take (i+1)) (d+1) (sz+1) G=B at *;obtain⟨B1,B2,B3⟩:=B;simp only[zX,simprocAttr,i64,m5,gO,oS,ib p,ig,bV,h0,h1,h6,nf,jI,aH];refine ao mix [] [(0,[4],[]),(9,[0,1,2,3,4],[0,1,2,3,4])] (by rfl) ?_;simp only[zX,simprocAttr,i64,m5,gO,oS,ib p,ig,bV,bP,Re.ae re,iD,bD,h0,h1,h6,nf,jI,aH,hk,w2];refine EO dp (by intro j hj;simp only[adA,adF]at hj;simp only[aeg,List.not_mem_nil,or_false];omega) rfl rfl ?_;cases B1 with
    |false =>
     simp only[adq,if_false]at Vn;rw[Vn];simp only[zX,simprocAttr,i64,m5,gO,oS,ib p,ig,bV,h0,h1,h6,nf,jI];all_goals first|exact⟨rfl,rfl⟩|exact⟨rfl,trivial⟩|rfl|trivial|(rw[aq];rfl)
    |true =>
     simp only[zX,simprocAttr,i64,m5,gO,bV,h0,h1,h6,nf,jI];refine⟨re.kids.length-(i+1),_,_,by omega,cU.refl,i+1,rfl,aH,?_,?_,?_,?_,?_,by rw[hB],?_⟩ <;> (try simp only[zU,Nat.reduceBEq,Nat.reduceShiftRight,Nat.reduceMod,Nat.reduceEqDiff,reduceIte])
     ·simpa [bP,Re.ae re,iD,bD]using h0
     ·exact h1
     ·exact h6
     ·exact nf
     ·rw[bM _ (by omega)];rfl
     ·rw[hB];simp only[oS,ib p,iD,bD,adG,adP];rfl
   ·have fy:i=re.kids.length:=by omega
    subst fy;rw[adZ]at *;simp only[zX,simprocAttr,i64,m5,gO,oS,ib p,ig,bV,h0,h1,h6,nf,jI,Nat.lt_irrefl];rw[dg];all_goals first|exact⟨rfl,rfl⟩|exact⟨rfl,trivial⟩|rfl|trivial|(rw[aq];rfl)
theorem DP (p:iF) (g:Bool) (hg:g=(decide (0<=p.ah)&&decide (p.ah<=9))) :
  (if (p.re.vw p.ah (fi p.aK) 1 0 g).1=true then (if (p.re.vw p.ah (fi p.aK) 1 0 g).2.2=true then (0:Int) else 1) else 4)=dR p:=by
 obtain⟨a1,_,_,a4⟩:=SI p.ah (fi p.aK) p.re 1 0 g (by omega) (by omega);by_cases h:(p.re.vw p.ah (fi p.aK) 1 0 g).1=true
 ·have h1:=a1.1 h;have hv:dR p=if p.ah<0\/9<p.ah\/p.re.whole p.ah (fi p.aK)=false then 1 else 0:=by unfold dR;rw[am (by omega)]
  rw[ap h,hv,(a4 h).2,hg];cases hw:p.re.whole p.ah (fi p.aK)
  ·rw[am (by simp),ap (.inr (.inr rfl))]
  ·by_cases hc:p.ah<0\/9<p.ah
   ·rw[am (by simp only[Bool.and_true,adD,adC];omega),ap (by omega)]
   ·rw[ap (by simp only[Bool.and_true,adD,adC];omega),am (by rintro (h'|h'|h') <;> first|omega|cases h')]
 ·have hh:¬(0+(p.re.size:Int)<=256/\1+p.re.depth-1<=24):=λhh=>h (a1.2 hh);have hv:dR p=4:=by unfold dR;rw[ap (by omega)]
  rw[am h,hv]
theorem zV (p:iF) (hf:p.re.eN=true):ba prog 13 [.ag ((Ac p).map .d)] (i64 (dR p)):=by
 have ZH:=Pa p.aK;have htt:fi p.aK<=1114111:=by unfold fi;split <;> omega
 have hk:∀g:Bool,g=(decide (0<=p.ah)&&decide (p.ah<=9))->au prog 33 [.d (.el (Ac p)),i64 1,.rf 0 0 0 0,.rf 1 0 0 0,.d (.el (Ac p)),.rf 3 0 0 0,.rf 4 0 0 0] [m5 0,gO g,oS false p,m5 (fi p.aK),ig 33]
   λv s=>v=bV (p.re.vw p.ah (fi p.aK) 1 0 g).1/\s=[m5 (p.re.vw p.ah (fi p.aK) 1 0 g).2.1,gO (p.re.vw p.ah (fi p.aK) 1 0 g).2.2,oS false p,m5 (fi p.aK),ig 33]:=by
  intro g _;have:=Mc p (fi p.aK) htt p.re hf 1 0 g false (.d (.el (Ac p))) (.inr rfl) (by omega) (by omega) (by omega) (by omega);exact sj (ex:=[iD p.ah,bD p.aK]) this
 have fin:=λg hg=>DP p g hg;generalize hG:(decide (0<=p.ah)&&decide (p.ah<=9))=G at hk fin;have hk:=hk G rfl;have fin:=fin G rfl;generalize p.re.vw p.ah (fi p.aK) 1 0 G=R at hk fin;obtain⟨R1,R2,R3⟩:=R;simp only at fin;rw[<- fin];simp only[oS,ib p,iD,bD,bV,i64,adG,adP]at hk ZH ⊢;refine ar func13 rfl ntmps13 results13 rfl 0 127 (by simp) (by simp) ?_;simp only[zX,simprocAttr,i64,iD,bD,adG,adP];by_cases g1:0<=p.ah;all_goals
  try (by_cases g2:p.ah<=9)
 all_goals
  first
   |(have Vo:G=true:=by rw[<- hG,adu g1,adu g2];rfl
     subst Vo;simp only[zX,simprocAttr,i64,iD,bD,g1,g2])
   |(have Vo:G=false:=by rw[<- hG,adu g1,adl g2];rfl
     subst Vo;simp only[zX,simprocAttr,i64,iD,bD,g1,g2])
   |(have Vo:G=false:=by rw[<- hG,adl g1];rfl
     subst Vo;simp only[zX,simprocAttr,i64,iD,bD,g1])
  refine az ZH rfl rfl ?_;simp only[zX,simprocAttr,i64,iD,bD];refine aY [0] rfl ?_;refine gx [1,2,0,3,4] hk (by decide) rfl rfl rfl (by simp [ak,ak.go]) (by simp [bJ,m5,gO,oS,ig,ak,ak.go,i64,bV]) rfl ?_;cases R1
  ·simp only[zX,simprocAttr,i64,bg,bT,bp,aX,aX.go,m5,gO,oS,ib p,ig,bV,aZ,iD,bD];all_goals first|exact⟨rfl,rfl⟩|exact⟨rfl,trivial⟩|rfl|trivial|(rw[aq];rfl)
  ·cases R3
   ·simp only[zX,simprocAttr,i64,bg,bT,bp,aX,aX.go,m5,gO,oS,ib p,ig,bV,aZ,iD,bD];all_goals first|exact⟨rfl,rfl⟩|exact⟨rfl,trivial⟩|rfl|trivial|(rw[aq];rfl)
   ·simp only[zX,simprocAttr,i64,bg,bT,bp,aX,aX.go,m5,gO,oS,ib p,ig,bV,aZ,iD,bD];all_goals first|exact⟨rfl,rfl⟩|exact⟨rfl,trivial⟩|rfl|trivial|(rw[aq];rfl)
end Go.Proofs.Ytphfjhaffbfpfaa
