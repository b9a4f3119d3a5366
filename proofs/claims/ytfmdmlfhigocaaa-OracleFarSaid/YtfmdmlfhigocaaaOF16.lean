/- A part of the proof (F4 F5 F13 F15 F16 G5). -/
import Derived.Test.YtfmdmlfhigocaaaOF13
import Derived.Test.YtfmdmlfhigocaaaOF15
set_option linter.unusedSimpArgs false
set_option linter.unusedVariables false
set_option maxRecDepth 100000
set_option maxHeartbeats 80000000
set_option linter.unusedSimpArgs false
set_option linter.unusedVariables false
namespace Go.Proofs.Ytfmdmlfhigocaaa
open Go.VL Go.Proofs.Try
structure Mk where
 l:List Int
 pos:Int
 bu:Int
 left:Int
 ai:Int
def bE (m:Mk):VL.Obj:=⟨0,true,5,[[.d (ao m.l),i64 m.pos,i64 m.bu,i64 m.left,i64 m.ai]]⟩
def bX:V:=.rf 0 0 0 0
structure Mk.ok (m:Mk):Prop where
 l:∀x∈m.l,lA x
 pos:0<=m.pos/\m.pos<=1000000000
 left:-1000000000<=m.left/\m.left<=1000000000
 ai:0<=m.ai/\m.ai<=1000000000
def Mk.next (m:Mk) (n:Int):Int×Mk:=(pick m.l m.pos n,{ m with pos:=m.pos+1 })
theorem bJ (m:Mk) (hl:∀x∈m.l,lA x) (hp:0<=m.pos/\m.pos<=1000000000) (n:Int) (hn:1<=n):aq prog 87 [bX,i64 n] [bE m] fun v s=>v=i64 (m.next n).1/\s=[bE (m.next n).2]:=by
 have w1:IntKind.i64.wrap (m.pos+1)=m.pos+1:=br _ (by omega)
 have w2:IntKind.i64.wrap (m.pos+1-1)=m.pos:=by rw[br _ (by omega)];omega
 refine an func87 rfl ntmps87 results87 rfl 1 19 (by simp) (by simp) ?_
 simp only[zW,simprocAttr,i64,bX,bE,w1,w2]
 refine ar mix [] [] (by rfl) ?_
 simp only[zW,simprocAttr,i64,bX,bE,w1,w2]
 refine fg (HD m.l hl m.pos n hn) rfl rfl ?_
 simp only[zW,simprocAttr,i64,bX,bE,w1,w2,Mk.next]
def nE:List (List (Int×Int)):=[[(97,97)],[(98,98)],[(97,98)],[(99,99)],[(97,99)],[(0,96),(98,255)],[(10,10),(97,97)],[]]
def Re.LM (set:List (Int×Int)):Re:=.mk 1 set [] 0 0 0 0 false
def Mk.set (m:Mk):Re×Mk :=
 let (k,m1):=m.next 15
 (Re.LM ((nE[(k / 2).toNat]?).getD []),m1)
theorem bO (l:List Int) (i m:Int) (hm:1<=m):0<=pick l i m/\pick l i m<m:=by
 unfold pick nj
 split
 ·omega
 ·split
  ·rename_i h
   have h1:0<=-(l[i.toNat]?.getD 0+1):=by omega
   exact⟨Int.tmod_nonneg _ h1,Int.tmod_lt_of_pos _ (by omega)⟩
  ·rename_i h
   exact⟨Int.tmod_nonneg _ (by omega),Int.tmod_lt_of_pos _ (by omega)⟩
theorem iq (m:Mk) (hl:∀x∈m.l,lA x) (hp:0<=m.pos/\m.pos<=1000000000):aq prog 88 [bX] [bE m] fun v s=>v=jW m.set.1/\s=[bE m.set.2]:=by
 have hk:=bO m.l m.pos 15 (by omega)
 have hd:(pick m.l m.pos 15).tdiv 2=pick m.l m.pos 15 / 2:=by rw[Int.tdiv_eq_ediv_of_nonneg hk.1]
 have w1:IntKind.i64.wrap (pick m.l m.pos 15 / 2)=pick m.l m.pos 15 / 2:=br _ (by omega)
 refine an func88 rfl ntmps88 results88 rfl 1 13 (by simp) (by simp) ?_
 simp only[zW,simprocAttr,i64,bX]
 refine aC (bJ m hl hp 15 (by omega)) rfl rfl rfl rfl rfl rfl ?_
 have hc:pick m.l m.pos 15 / 2=0\/pick m.l m.pos 15 / 2=1\/pick m.l m.pos 15 / 2=2\/pick m.l m.pos 15 / 2=3\/pick m.l m.pos 15 / 2=4\/pick m.l m.pos 15 / 2=5\/pick m.l m.pos 15 / 2=6\/pick m.l m.pos 15 / 2=7:=by omega
 simp only[zW,simprocAttr,i64,bX,Mk.next,hd,w1]
 rcases hc with hc|hc|hc|hc|hc|hc|hc|hc <;> (simp only[zW,simprocAttr,hc,Mk.set,Mk.next,nE,Re.LM,Int.toNat_zero,jW,Re.cells];first|exact⟨by omega,rfl,rfl⟩|exact⟨rfl,rfl⟩|rfl)
mutual
def Re.tT:Re->Bool
 |.mk op _ kids mn _ _ _ _=>if op=1 then false else if op=2 then Re.tb kids else if op=3\/op=10 then Re.pJ kids else if op=4 then decide (mn<=0)||Re.vk kids else if op=5\/op=9 then Re.vk kids else true
def Re.tb:List Re->Bool
 |[]=>true
 |k::l=>k.tT&&Re.tb l
def Re.pJ:List Re->Bool
 |[]=>false
 |k::l=>k.tT||Re.pJ l
def Re.vk:List Re->Bool
 |[]=>false
 |k::_=>k.tT
end
theorem Re.sO (re:Re):re.tT=if re.op=1 then false else if re.op=2 then Re.tb re.kids else if re.op=3\/re.op=10 then Re.pJ re.kids else if re.op=4 then decide (re.mn<=0)||Re.vk re.kids else if re.op=5\/re.op=9 then Re.vk re.kids else true:=by
 cases re;simp only[Re.tT,Re.op,Re.kids,Re.mn];rfl
theorem Re.sM:∀l:List Re,Re.tb l=l.all Re.tT
 |[]=>rfl
 |k::l=>by simp [Re.tb,Re.sM l]
theorem Re.sH:∀l:List Re,Re.pJ l=l.any Re.tT
 |[]=>rfl
 |k::l=>by simp [Re.pJ,Re.sH l]
theorem b6 {α:Type}{l:List α}{i:Nat}{k x:α} (h:l[i]?=some k) (hx:x∈l.take (i+1)):x∈l.take i\/x=k:=by
 rw[bt h]at hx
 simpa using hx
theorem l5 (re:Re):re.size<=1000000000->ba prog 95 [jW re] (bV re.tT):=by
 induction re using Re.ind with
 |h re ih =>
 intro hs
 have hlen:=Re.sw re.kids
 have fo:=Re.size_eq re
 refine an func95 rfl ntmps95 results95 rfl 0 576460752336978015 (by simp) (by simp) ?_
 by_cases o1:re.op=1
 ·simp only[zW,simprocAttr,aj re,iD,bD,bV,o1,Re.sO re]
 by_cases o2:re.op=2
 ·simp only[zW,simprocAttr,aj re,iD,bD,bV,o2]
  refine ay (fun n e s=>∃i:Nat,n=re.kids.length-i/\i<=re.kids.length/\e 1=.rf 0 0 0 0/\e 3=i64 i/\(∀x∈re.kids.take i,x.tT=true)/\s=[⟨0,true,8,[re.cells.map .d]⟩]) ⟨_,_,_,bI.refl,0,rfl,by simp,rfl,rfl,by simp,by simp [Re.ae re,iD,bD,o2]⟩ ?_
  rintro n e s ⟨i,rfl,hi,h1,h3,hn,rfl⟩
  rcases Nat.lt_or_ge i re.kids.length with az|ib
  ·obtain⟨k,hk⟩:∃k,re.kids[i]?=some k:=⟨_,List.getElem?_eq_getElem az⟩
   have hm:=List.mem_of_getElem? hk
   have MR:=Re.iv hm
   simp only[zW,simprocAttr,Re.ae re,iD,bD,h1,h3,i64,az,hk]
   refine al (ih k hm (by omega)) (by simp [ah,ah.go,aj,i64,bV,bm]) (by simp [ah,ah.go,aj,i64,bV,bm]) ?_
   cases eN:k.tT with
   |false =>
    simp only[zW,simprocAttr,bV,eN]
    have:Re.tb re.kids=false:=by rw[Re.sM,List.all_eq_false];exact⟨k,hm,by simp [eN]⟩
    simp [Re.sO re,o2,this]
   |true =>
    simp only[zW,simprocAttr,bV,eN,h3,i64]
    refine⟨_,_,_,?_,bI.refl,i+1,rfl,az,?_⟩
    ·omega
    simp only[bB,Nat.reduceEqDiff,if_true,if_false]
    refine⟨h1,?_,fun x hx=>?_,by simp [Re.ae re,iD,bD]⟩
    ·rw[br _ (by omega)];rfl
    ·rcases b6 hk hx with h|rfl
     ·exact hn x h
     ·exact eN
  ·have eQ:i=re.kids.length:=by omega
   subst eQ
   simp only[zW,simprocAttr,Re.ae re,iD,bD,h1,h3,i64,Nat.lt_irrefl,bV]
   have:Re.tb re.kids=true:=by rw[Re.sM,List.all_eq_true];simpa using hn
   simp [Re.sO re,o2,this]
 by_cases o3:re.op=3\/re.op=10
 ·have hr:re.tT=Re.pJ re.kids:=by simp [Re.sO re,o1,o2,o3]
  rcases o3 with o3|o3
  all_goals
   simp only[zW,simprocAttr,aj re,iD,bD,bV,o1,o2,o3]
   refine ay (fun n e s=>∃i:Nat,n=re.kids.length-i/\i<=re.kids.length/\e 1=.rf 0 0 0 0/\e 4=i64 i/\(∀x∈re.kids.take i,x.tT=false)/\s=[⟨0,true,8,[re.cells.map .d]⟩]) ⟨_,_,_,bI.refl,0,rfl,by simp,rfl,rfl,by simp,by simp [Re.ae re,iD,bD,o3]⟩ ?_
   rintro n e s ⟨i,rfl,hi,h1,h3,hn,rfl⟩
   rcases Nat.lt_or_ge i re.kids.length with az|ib
   ·obtain⟨k,hk⟩:∃k,re.kids[i]?=some k:=⟨_,List.getElem?_eq_getElem az⟩
    have hm:=List.mem_of_getElem? hk
    have MR:=Re.iv hm
    simp only[zW,simprocAttr,Re.ae re,iD,bD,h1,h3,i64,az,hk]
    refine al (ih k hm (by omega)) (by simp [ah,ah.go,aj,i64,bV,bm]) (by simp [ah,ah.go,aj,i64,bV,bm]) ?_
    cases eN:k.tT with
    |true =>
     simp only[zW,simprocAttr,bV,eN]
     have:Re.pJ re.kids=true:=by rw[Re.sH,List.any_eq_true];exact⟨k,hm,by simp [eN]⟩
     simp [hr,this]
    |false =>
     simp only[zW,simprocAttr,bV,eN,h3,i64]
     refine⟨_,_,_,?_,bI.refl,i+1,rfl,az,?_⟩
     ·omega
     simp only[bB,Nat.reduceEqDiff,if_true,if_false]
     refine⟨h1,?_,fun x hx=>?_,by simp [Re.ae re,iD,bD]⟩
     ·rw[br _ (by omega)];rfl
     ·rcases b6 hk hx with h|rfl
      ·exact hn x h
      ·exact eN
   ·have eQ:i=re.kids.length:=by omega
    subst eQ
    simp only[zW,simprocAttr,Re.ae re,iD,bD,h1,h3,i64,Nat.lt_irrefl,bV]
    have:Re.pJ re.kids=false:=by rw[Re.sH,List.any_eq_false];simpa using hn
    simp [hr,this]
 have QU:¬re.op=3:=fun h=>o3 (.inl h)
 have FD:¬re.op=10:=fun h=>o3 (.inr h)
 by_cases o4:re.op=4
 ·have hr:re.tT=(decide (re.mn<=0)||Re.vk re.kids):=by simp [Re.sO re,o4]
  by_cases hmn:re.mn<=0
  ·simp only[zW,simprocAttr,aj re,iD,bD,bV,o1,o2,QU,FD,o4,hmn]
   simp [hr,hmn]
  cases hk:re.kids with
  |nil =>
   simp only[zW,simprocAttr,aj re,iD,bD,bV,o1,o2,QU,FD,o4,hmn,hk,List.map_nil]
   simp [hr,hmn,hk,Re.vk]
  |cons k l =>
   have hm:k∈re.kids:=by simp [hk]
   have MR:=Re.iv hm
   have cG:(0:Int)<((l.length+1:Nat):Int):=by omega
   simp only[zW,simprocAttr,aj re,iD,bD,bV,o1,o2,QU,FD,o4,hmn,hk,List.map_cons,cG]
   refine al (ih k hm (by omega)) (by simp [ah,ah.go,aj,i64,bV,bm]) (by simp [ah,ah.go,aj,i64,bV,bm]) ?_
   cases eN:k.tT with
   |true =>
    simp only[zW,simprocAttr,bV,eN]
    simp [hr,hmn,hk,Re.vk,eN]
   |false =>
    simp only[zW,simprocAttr,bV,eN]
    simp [hr,hmn,hk,Re.vk,eN]
 by_cases o5:re.op=5\/re.op=9
 ·have hr:re.tT=Re.vk re.kids:=by simp [Re.sO re,o1,o2,o3,o4,o5]
  rcases o5 with o5|o5
  all_goals
   cases hk:re.kids with
   |nil =>
    simp only[zW,simprocAttr,aj re,iD,bD,bV,o1,o2,QU,FD,o4,o5,hk,List.map_nil]
    simp [hr,hk,Re.vk]
   |cons k l =>
    have hm:k∈re.kids:=by simp [hk]
    have MR:=Re.iv hm
    have cG:(0:Int)<((l.length+1:Nat):Int):=by omega
    simp only[zW,simprocAttr,aj re,iD,bD,bV,o1,o2,QU,FD,o4,o5,hk,List.map_cons,cG]
    refine al (ih k hm (by omega)) (by simp [ah,ah.go,aj,i64,bV,bm]) (by simp [ah,ah.go,aj,i64,bV,bm]) ?_
    cases eN:k.tT with
    |true =>
     simp only[zW,simprocAttr,bV,eN]
     simp [hr,hk,Re.vk,eN]
    |false =>
     simp only[zW,simprocAttr,bV,eN]
     simp [hr,hk,Re.vk,eN]
 have YU:¬re.op=5:=fun h=>o5 (.inl h)
 have o9:¬re.op=9:=fun h=>o5 (.inr h)
 simp only[zW,simprocAttr,aj re,iD,bD,bV,o1,o2,QU,FD,o4,YU,o9]
 simp [Re.sO re,o1,o2,o3,o4,o5]
def N4 (a b:Int):Int:=if a<0\/b<0 then -1 else min (IntKind.i64.wrap (a+b)) 1000000
def KJ (a b:Int):Int:=if a<0\/b<0 then -1 else max a b
def LB (a b:Int):Int:=if a=0\/b=0 then 0 else if a<0\/b<0 then -1 else min (IntKind.i64.wrap (a*b)) 1000000
def V3 (l:List (Int×Int)):Int×Int:=l.foldl (fun a k=>(N4 a.1 k.1,N4 a.2 k.2)) (0,0)
def PA (a k:Int×Int):Int×Int:=(min a.1 k.1,KJ a.2 k.2)
def Qk:List (Int×Int)->Int×Int
 |[]=>(0,0)
 |k::l=>l.foldl PA (PA k k)
def Ps (op mn mx:Int) (l:List (Int×Int)):Int×Int :=
 if op=1 then (1,1)
 else if op=6 then (0,-1)
 else if op=2 then V3 l
 else if op=3\/op=10\/op=4\/op=5\/op=9 then
  (if op=4 then (LB (Qk l).1 mn,LB (Qk l).2 mx) else Qk l)
 else (0,0)
mutual
def Re.lens:Re->Int×Int
 |.mk op _ kids mn mx _ _ _=>Ps op mn mx (Re.Fk kids)
def Re.Fk:List Re->List (Int×Int)
 |[]=>[]
 |k::l=>k.lens::Re.Fk l
end
theorem Re.Mo:∀l:List Re,Re.Fk l=l.map Re.lens
 |[]=>by simp [Re.Fk]
 |k::l=>by simp [Re.Fk,Re.Mo l]
def jT (f:FuncId):VL.Obj:=⟨0,true,1,[[.cl (.func f) [] [.rf 0 0 0 0]]]⟩
mutual
def Re.dG:Re->Bool
 |.mk _ set kids _ _ _ _ _=>decide (set.length<=1000000000)&&(decide (kids.length<=1000000000)&&Re.Ax kids)
def Re.Ax:List Re->Bool
 |[]=>true
 |k::l=>k.dG&&Re.Ax l
end
theorem Re.A4:∀l:List Re,Re.Ax l=l.all Re.dG
 |[]=>rfl
 |k::l=>by simp [Re.Ax,Re.A4 l]
theorem Re.Dt (re:Re):re.dG=true ↔ re.set.length<=1000000000/\re.kids.length<=1000000000/\∀k∈re.kids,k.dG=true:=by
 cases re with
 |mk op set kids mn mx mode n neg=>simp only[Re.dG,Bool.and_eq_true,decide_eq_true_eq,Re.A4,List.all_eq_true,Re.set,Re.kids]
theorem Re.fr {re:Re} (h:re.dG=true):re.set.length<=1000000000/\re.kids.length<=1000000000/\∀k∈re.kids,k.dG=true:=(Re.Dt re).1 h
def y3 (op mn:Int) (l:List Bool):Bool :=
 if op=0\/op=6\/op=7\/op=8\/op=11 then true
 else if op=2 then l.all id
 else if op=4 then (if mn=0 then true else l.any id)
 else if op=3\/op=10\/op=5\/op=9 then l.any id
 else false
mutual
def Re.kN:Re->Bool
 |.mk op _ kids mn _ _ _ _=>y3 op mn (Re.Fx kids)
def Re.Fx:List Re->List Bool
 |[]=>[]
 |k::l=>k.kN::Re.Fx l
end
theorem Re.Dg:∀l:List Re,Re.Fx l=l.map Re.kN
 |[]=>by simp [Re.Fx]
 |k::l=>by simp [Re.Fx,Re.Dg l]
theorem Re.tv (re:Re):re.kN=y3 re.op re.mn (re.kids.map Re.kN):=by
 cases re;simp [Re.kN,Re.Dg,Re.op,Re.mn,Re.kids]
def rZ (re:Re):Prop:=aq prog 94 [bm re,.rf 0 0 0 0] [jT 94] fun v s=>v=bV re.kN/\s=[jT 94]
theorem NB (re:Re) (ih:∀k∈re.kids,k.dG=true->rZ k) (hs:re.dG=true) (o2:re.op=2):rZ re:=by
 obtain⟨pq,hlen,FK⟩:=Re.fr hs
 have hle:re.kN=(re.kids.map Re.kN).all id:=by rw[Re.tv,o2];rfl
 unfold rZ
 rw[hle]
 refine an func94 rfl ntmps94 results94 rfl 1 13519594987718203 (by simp) (by simp) ?_
 simp only[zW,simprocAttr,i64,bm,Re.ae re,iD,bD,o2,jT]
 refine ay (fun n e s=>∃i:Nat,n=re.kids.length-i/\i<=re.kids.length/\e 0=bm re/\e 1=.rf 0 0 0 0/\(∀x∈re.kids.take i,x.kN=true)/\e 22=i64 re.kids.length/\e 23=i64 i/\s=[jT 94])
  ⟨_,_,_,bI.refl,0,rfl,by omega,by simp [bm,Re.ae re,iD,bD,o2];rfl,rfl,by simp,rfl,rfl,rfl⟩ ?_
 rintro n e s ⟨i,rfl,hi,h0,h1,bM,IM,Lv,rfl⟩
 rcases Nat.lt_or_ge i re.kids.length with az|ib
 ·obtain⟨k,hk⟩:∃k,re.kids[i]?=some k:=⟨_,List.getElem?_eq_getElem az⟩
  have hm:=List.mem_of_getElem? hk
  have MR:=FK k hm
  simp only[zW,simprocAttr,h0,h1,IM,Lv,i64,az,jT]
  refine ar mix [] [(0,[0],[]),(7,[0],[0])] (by rfl) ?_
  simp only[zW,simprocAttr,h0,h1,IM,Lv,i64,az,hk,bm,Re.ae re,iD,bD]
  refine qx (ih k hm MR) rfl rfl rfl rfl rfl rfl ?_
  cases eN:k.kN with
  |true =>
   simp only[zW,simprocAttr,h0,h1,IM,Lv,i64,jT,bV,eN]
   refine⟨re.kids.length-(i+1),_,_,by omega,bI.refl,i+1,rfl,az,?_,?_,?_,?_,?_,rfl⟩ <;> (try simp only[zU,Nat.reduceBEq,Nat.reduceShiftRight,Nat.reduceMod,Nat.reduceEqDiff,reduceIte])
   ·simpa [bm,Re.ae re,iD,bD]using h0
   ·exact h1
   ·intro x hx
    rw[bt hk]at hx
    rcases List.mem_append.1 hx with hx|hx
    ·exact bM x hx
    ·rw[List.mem_singleton.1 hx];exact eN
   ·exact IM
   ·rw[br _ (by omega)];rfl
  |false =>
   simp only[zW,simprocAttr,h0,h1,IM,Lv,i64,jT,bV,eN]
   have:(re.kids.map Re.kN).all id=false:=by rw[List.all_eq_false];exact⟨false,List.mem_map.2 ⟨k,hm,eN⟩,by simp⟩
   rw[this]
   all_goals first|exact⟨rfl,rfl⟩|exact⟨rfl,trivial⟩|rfl|trivial|(rw[aj];rfl)
 ·have eQ:i=re.kids.length:=by omega
  subst eQ
  rw[List.take_length]at bM
  have:(re.kids.map Re.kN).all id=true:=by rw[List.all_eq_true];intro x hx;obtain⟨y,hy,rfl⟩:=List.mem_map.1 hx;exact bM y hy
  rw[this]
  simp only[zW,simprocAttr,h0,h1,IM,Lv,i64,jT,Nat.lt_irrefl,bV]
  all_goals first|exact⟨rfl,rfl⟩|exact⟨rfl,trivial⟩|rfl|trivial|(rw[aj];rfl)
theorem MY (re:Re) (ih:∀k∈re.kids,k.dG=true->rZ k) (hs:re.dG=true) (o:(re.op=4/\¬re.mn=0)\/re.op=3\/re.op=10\/re.op=5\/re.op=9):rZ re:=by
 obtain⟨pq,hlen,FK⟩:=Re.fr hs
 have hle:re.kN=(re.kids.map Re.kN).any id:=by
  rw[Re.tv];rcases o with ⟨o,om⟩|o|o|o|o <;> rw[o]
  ·simp [y3,om]
  all_goals rfl
 unfold rZ
 rw[hle]
 obtain⟨o2,om⟩:(re.op=4\/re.op=3\/re.op=10\/re.op=5\/re.op=9)/\(re.op=4->¬re.mn=0):=by
  rcases o with ⟨o,om⟩|o|o|o|o <;> simp [o] <;> exact om
 rcases o2 with o2|o2|o2|o2|o2
 all_goals
  refine an func94 rfl ntmps94 results94 rfl 1 13519594987718203 (by simp) (by simp) ?_
  simp only[zW,simprocAttr,i64,bm,Re.ae re,iD,bD,o2,om,jT]
  refine ay (fun n e s=>∃i:Nat,n=re.kids.length-i/\i<=re.kids.length/\e 0=bm re/\e 1=.rf 0 0 0 0/\(∀x∈re.kids.take i,x.kN=false)/\e 52=i64 re.kids.length/\e 53=i64 i/\s=[jT 94])
   ⟨_,_,_,bI.refl,0,rfl,by omega,by simp [bm,Re.ae re,iD,bD,o2];rfl,rfl,by simp,rfl,rfl,rfl⟩ ?_
  rintro n e s ⟨i,rfl,hi,h0,h1,bM,IM,Lv,rfl⟩
  rcases Nat.lt_or_ge i re.kids.length with az|ib
  ·obtain⟨k,hk⟩:∃k,re.kids[i]?=some k:=⟨_,List.getElem?_eq_getElem az⟩
   have hm:=List.mem_of_getElem? hk
   have MR:=FK k hm
   simp only[zW,simprocAttr,h0,h1,IM,Lv,i64,az,jT]
   refine ar mix [] [(0,[0],[]),(7,[0],[0])] (by rfl) ?_
   simp only[zW,simprocAttr,h0,h1,IM,Lv,i64,az,hk,bm,Re.ae re,iD,bD]
   refine qx (ih k hm MR) rfl rfl rfl rfl rfl rfl ?_
   cases eN:k.kN with
   |false =>
    simp only[zW,simprocAttr,h0,h1,IM,Lv,i64,jT,bV,eN]
    refine⟨re.kids.length-(i+1),_,_,by omega,bI.refl,i+1,rfl,az,?_,?_,?_,?_,?_,rfl⟩ <;> (try simp only[zU,Nat.reduceBEq,Nat.reduceShiftRight,Nat.reduceMod,Nat.reduceEqDiff,reduceIte])
    ·simpa [bm,Re.ae re,iD,bD,o2]using h0
    ·exact h1
    ·intro x hx
     rw[bt hk]at hx
     rcases List.mem_append.1 hx with hx|hx
     ·exact bM x hx
     ·rw[List.mem_singleton.1 hx];exact eN
    ·exact IM
    ·rw[br _ (by omega)];rfl
   |true =>
    simp only[zW,simprocAttr,h0,h1,IM,Lv,i64,jT,bV,eN]
    have:(re.kids.map Re.kN).any id=true:=by rw[List.any_eq_true];exact⟨true,List.mem_map.2 ⟨k,hm,eN⟩,by simp⟩
    rw[this]
    all_goals first|exact⟨rfl,rfl⟩|exact⟨rfl,trivial⟩|rfl|trivial|(rw[aj];rfl)
  ·have eQ:i=re.kids.length:=by omega
   subst eQ
   rw[List.take_length]at bM
   have:(re.kids.map Re.kN).any id=false:=by rw[List.any_eq_false];intro x hx;obtain⟨y,hy,rfl⟩:=List.mem_map.1 hx;simp [bM y hy]
   rw[this]
   simp only[zW,simprocAttr,h0,h1,IM,Lv,i64,jT,Nat.lt_irrefl,bV]
   all_goals first|exact⟨rfl,rfl⟩|exact⟨rfl,trivial⟩|rfl|trivial|(rw[aj];rfl)
theorem Lg (re:Re) (o1:¬re.op=2) (o2:¬re.op=3) (o3:¬re.op=10) (o4:re.op=4->re.mn=0) (o5:¬re.op=5) (o6:¬re.op=9):rZ re:=by
 unfold rZ
 by_cases p4:re.op=4
 ·have hle:re.kN=true:=by rw[Re.tv,p4,o4 p4];rfl
  rw[hle]
  have pm:=o4 p4
  refine an func94 rfl ntmps94 results94 rfl 1 13519594987718203 (by simp) (by simp) ?_
  simp only[zW,simprocAttr,i64,bm,Re.ae re,iD,bD,p4,pm,jT,bV]
  all_goals first|exact⟨rfl,rfl⟩|exact⟨rfl,trivial⟩|rfl|trivial|(rw[aj];rfl)
 by_cases p:re.op=0\/re.op=6\/re.op=7\/re.op=8\/re.op=11
 ·have hle:re.kN=true:=by rw[Re.tv];simp [y3,p]
  rw[hle]
  rcases p with p|p|p|p|p
  all_goals
   refine an func94 rfl ntmps94 results94 rfl 1 13519594987718203 (by simp) (by simp) ?_
   simp only[zW,simprocAttr,i64,bm,Re.ae re,iD,bD,p,jT,bV]
   all_goals first|exact⟨rfl,rfl⟩|exact⟨rfl,trivial⟩|rfl|trivial|(rw[aj];rfl)
 have hle:re.kN=false:=by rw[Re.tv];simp [y3,p,o1,o2,o3,p4,o5,o6]
 rw[hle]
 have p0:¬re.op=0:=fun h=>p (.inl h)
 have p6:¬re.op=6:=fun h=>p (.inr (.inl h))
 have p7:¬re.op=7:=fun h=>p (.inr (.inr (.inl h)))
 have p8:¬re.op=8:=fun h=>p (.inr (.inr (.inr (.inl h))))
 have SV:¬re.op=11:=fun h=>p (.inr (.inr (.inr (.inr h))))
 refine an func94 rfl ntmps94 results94 rfl 1 13519594987718203 (by simp) (by simp) ?_
 simp only[zW,simprocAttr,i64,bm,Re.ae re,iD,bD,o1,o2,o3,p4,o5,o6,p0,p6,p7,p8,SV,jT,bV]
 all_goals first|exact⟨rfl,rfl⟩|exact⟨rfl,trivial⟩|rfl|trivial|(rw[aj];rfl)
theorem NX (re:Re) (hs:re.dG=true):rZ re:=by
 revert hs
 refine Re.ind (Q:=fun re=>re.dG=true->rZ re) (fun re ih hs=>?_) re
 by_cases o2:re.op=2
 ·exact NB re ih hs o2
 by_cases o:(re.op=4/\¬re.mn=0)\/re.op=3\/re.op=10\/re.op=5\/re.op=9
 ·exact MY re ih hs o
 ·exact Lg re o2 (fun h=>o (.inr (.inl h))) (fun h=>o (.inr (.inr (.inl h)))) (fun h=>by by_cases hm:re.mn=0;exact hm;exact absurd (.inl ⟨h,hm⟩) o) (fun h=>o (.inr (.inr (.inr (.inl h))))) (fun h=>o (.inr (.inr (.inr (.inr h)))))
theorem Dx (re:Re) (hs:re.dG=true):ba prog 69 [jW re] (bV re.kN):=by
 refine an func69 rfl ntmps69 results69 rfl 0 15 (by simp) (by simp) ?_
 simp only[zW,simprocAttr,i64,aj re,iD,bD]
 refine bA [0] rfl ?_
 refine H5 (r':=bV re.kN) 1 (NX re hs) (by rw[bm,Re.ae];rfl) rfl rfl rfl rfl ?_
 simp only[zW,simprocAttr,i64,ca,bS,aP,aJ,aJ.go,jT,bV]
 all_goals first|exact⟨rfl,rfl⟩|exact⟨rfl,trivial⟩|rfl|trivial|(rw[aj];rfl)
theorem kK (n lim:Nat) (s:List VL.Obj) (ds:List (List D)) (k:Nat) (hk:ds.length<=k):((ds.map fun c=>c.map V.d).take k).mapM (fun (e:List V)=>e.mapM (cA n lim s))=some ds:=by
 rw[List.take_of_length_le (by simpa using hk),qu]
theorem HQ (c:aE) (n:Int) (hc:c.length<=1000000000):ba prog 103 [.d (cy c),i64 n] (.ag [i64 (ck c n).1,i64 (ck c n).2]):=by
 by_cases c1:n<1
 ·have hs:ck c n=(-1,-1):=by simp [ck,c1]
  rw[hs]
  refine an func103 rfl ntmps103 results103 rfl 0 19 (by simp) (by simp) ?_
  simp only[zX,simprocAttr,i64,iD,cy,aV,c1]
 ·by_cases c2:(c.length:Int)<n
  ·have hs:ck c n=(-1,-1):=by simp [ck,c2]
   rw[hs]
   refine an func103 rfl ntmps103 results103 rfl 0 19 (by simp) (by simp) ?_
   simp only[zX,simprocAttr,i64,iD,cy,aV,c1,c2,gt_iff_lt]
  ·have hs:ck c n=c.getD (n-1).toNat (-1,-1):=by rw[ck,if_neg (by omega)]
   have w1:IntKind.i64.wrap (n-1)=n-1:=br _ (by omega)
   have az:(n-1).toNat<c.length:=by omega
   have hg:c[(n-1).toNat]?=some c[(n-1).toNat]:=List.getElem?_eq_getElem az
   have b1:0<=n-1:=by omega
   have b2:n-1<(c.length:Int):=by omega
   rw[hs,List.getD,hg,Option.getD_some]
   refine an func103 rfl ntmps103 results103 rfl 0 19 (by simp) (by simp) ?_
   simp only[zX,simprocAttr,i64,iD,cy,aV,c1,c2,gt_iff_lt,w1,hg,b1,b2]
theorem Nz (c:aE) (n eA to:Int) (hc:c.length<=1000000000):ba prog 81 [.d (cy c),i64 n,i64 eA,i64 to] (.d (cy (nM c n eA to))):=by
 have vO:∀e∈(c.map aV).map (fun x=>x.map V.d),e.length=2:=fun e he=>by
  obtain⟨x,hx,rfl⟩:=List.mem_map.1 he
  obtain⟨p,_,rfl⟩:=List.mem_map.1 hx
  rfl
 refine an func81 rfl ntmps81 results81 rfl 0 783 (by simp) (by simp) ?_
 simp only[zX,simprocAttr,i64,cy]
 refine⟨vO,⟨by omega,by simp⟩,?_⟩
 by_cases c1:1<=n
 ·by_cases c2:n<=(c.length:Int)
  ·have w1:IntKind.i64.wrap (n-1)=n-1:=br _ (by omega)
   have az:(n-1).toNat<c.length:=by omega
   have b1:0<=n-1:=by omega
   have b2:n-1<(c.length:Int):=by omega
   have hw:nM c n eA to=c.set (n-1).toNat (eA,to):=by rw[nM,if_pos ⟨c1,c2⟩]
   have eO:((c.map aV).map (fun x=>x.map V.d)).set (n-1).toNat [i64 eA,i64 to]=((c.set (n-1).toNat (eA,to)).map aV).map (fun x=>x.map V.d):=by
    rw[List.map_set,List.map_set];rfl
   have XD:c[(n-1).toNat]?=some c[(n-1).toNat]:=List.getElem?_eq_getElem az
   rw[hw]
   simp only[zX,simprocAttr,i64,Nat.zero_add,c1,c2,w1,az,b1,b2,XD,aV]
   simp only[i64]at eO
   rw[eO,kK 7 0 _ _ _ (by simp),if_pos (by simp)]
   rfl
  ·have hw:nM c n eA to=c:=by rw[nM,if_neg (by omega)]
   rw[hw]
   simp only[zX,simprocAttr,i64,Nat.zero_add,c1,c2]
   rw[kK 7 0 _ _ _ (by simp),if_pos (by simp)]
   rfl
 ·have hw:nM c n eA to=c:=by rw[nM,if_neg (by omega)]
  rw[hw]
  simp only[zX,simprocAttr,i64,Nat.zero_add,c1]
  rw[kK 7 0 _ _ _ (by simp),if_pos (by simp)]
  rfl
theorem No (n:Int) (hn:n<=1000000):ba prog 51 [i64 n] (.d (cy (List.replicate n.toNat (-1,-1)))):=by
 refine an func51 rfl ntmps51 results51 rfl 0 29 (by simp) (by simp) ?_
 simp only[CC,zK,zL,simprocAttr,nF,i64]
 refine ay (fun m e s=>∃i:Nat,m=n.toNat-i/\i<=n.toNat/\e 0=i64 n/\e 4=i64 i/\Acc [] 2 (e 3) s ((List.replicate i (-1,-1)).map aV))
  ⟨_,_,_,bI.refl,0,rfl,by omega,rfl,rfl,.inl ⟨rfl,rfl⟩⟩ ?_
 rintro m e s ⟨i,rfl,hi,h0,h4,mj⟩
 rcases Nat.lt_or_ge i n.toNat with az|ib
 ·have aK:(i:Int)<n:=by omega
  simp only[CC,zK,zL,simprocAttr,nF,i64,h0,h4,aK]
  refine mj.append Pc rfl (by decide) (by decide) (by intro y hy;obtain⟨z,_,rfl⟩:=List.mem_map.1 hy;rfl) (by simp) (by simp) (by simp only[List.length_map,List.length_replicate,List.length_cons,List.length_nil];omega) (fun v' s' CY=>?_)
  simp only[CC,zK,zL,simprocAttr,nF,i64,h0,h4]
  refine⟨n.toNat-(i+1),_,_,by omega,bI.refl,i+1,rfl,az,?_,?_,?_⟩ <;> (try simp only[zU,Nat.reduceBEq,Nat.reduceShiftRight,Nat.reduceMod,Nat.reduceEqDiff,reduceIte])
  ·exact h0
  ·rw[br _ (by omega)];rfl
  ·rw[List.replicate_succ',List.map_append];exact CY
 ·have eQ:i=n.toNat:=by omega
  subst eQ
  have aK:¬(n.toNat:Int)<n:=by omega
  simp only[CC,zK,zL,simprocAttr,nF,i64,h0,h4,aK]
  rw[mj.RB (by simp)]
  rfl
theorem qd {α:Type} (l:List α) (f:α->D) (n:Nat):((l.map fun x=>[V.d (f x)]).all fun e=>e.all (ah n))=true:=by
 rw[List.all_eq_true]
 intro e he
 obtain⟨x,_,rfl⟩:=List.mem_map.1 he
 rfl
def cW (g0:Nat) (t:List Int) (most F:Int) (st:bq):VL.Obj :=
 ⟨g0,true,7,[[.d (ao t),i64 most,i64 F,i64 st.steps,bV st.empty,.so 1 st.ends.length 0 st.ends.length,.so 2 st.ends.length 0 st.ai.length]]⟩
def bF (g0:Nat) (t:List Int) (most F:Int) (st:bq):List VL.Obj :=
 [cW g0 t most F st,⟨st.ends.length,true,1,st.ends.map fun x=>[V.d (iD x)]⟩,⟨st.ends.length,true,1,st.ai.map fun c=>[V.d (cy c)]⟩]
theorem NR (g0:Nat) (t:List Int) (most F:Int) (st:bq) (h0:0<=st.steps) (h1:st.steps<=10000000000000) :
  aq prog 101 [.rf 0 g0 0 0] (bF g0 t most F st) fun v s=>v=bV (!(st.step F).empty)/\s=bF g0 t most F (st.step F):=by
 have w1:IntKind.i64.wrap (st.steps+1)=st.steps+1:=br _ (by omega)
 unfold bF cW bq.step
 by_cases c:F<st.steps+1
 ·refine an func101 rfl ntmps101 results101 rfl 3 5 (by simp) (by simp) ?_
  simp only[zX,simprocAttr,i64,bV,w1]
  refine ar mix [] [] (by rfl) ?_
  simp only[zX,simprocAttr,i64,bV,w1,gt_iff_lt,c,Bool.or_true]
  simp only[qd,Bool.and_self]
 ·refine an func101 rfl ntmps101 results101 rfl 3 5 (by simp) (by simp) ?_
  simp only[zX,simprocAttr,i64,bV,w1]
  refine ar mix [] [] (by rfl) ?_
  simp only[zX,simprocAttr,i64,bV,w1,gt_iff_lt,c,decide_eq_false c,Bool.or_false]
  simp only[qd,Bool.and_self]
end Go.Proofs.Ytfmdmlfhigocaaa
