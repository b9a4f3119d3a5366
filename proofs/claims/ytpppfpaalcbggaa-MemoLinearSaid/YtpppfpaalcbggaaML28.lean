/- A part of the proof (G18 G19). -/
import Derived.Test.YtpppfpaalcbggaaML22
import Derived.Test.YtpppfpaalcbggaaML27
set_option linter.unusedSimpArgs false
set_option linter.unusedVariables false
set_option maxRecDepth 100000
set_option maxHeartbeats 80000000
namespace Go.Proofs.Ytpppfpaalcbggaa
open Go.VL Go.Proofs.Try
def symB (runes:Bool) (x:Int):Bool:=decide (0≤x)&&decide (x≤topR runes)
def valid7 (p:Pat) (t:List Int) (fuel:Int):Int :=
 if validR p≠0 then validR p else if 65536 < t.length then 4 else if t.all (symB p.runes)=false then 1 else if fuel < 0∨1099511627776 < fuel then 1 else 0
def matchD (at_:Int) (x:Int × CapsL):List D:=[iD at_,iD x.1,capD x.2]
def cap0 (p:Pat):CapsL:=List.replicate p.caps.toNat (-1,-1)
open Classical in
noncomputable def evX (t:List Int) (F most:Int) (task:Task) (st:Sst):Bool × Sst:=if h:∃n r,evR t F n most task st=some r then (Classical.choose_spec h).choose else (false,st)
theorem evX_eq {t:List Int} {F most:Int} {task:Task} {st:Sst} {n:Nat} {r:Bool × Sst} (h:evR t F n most task st=some r):evX t F most task st=r:=by
 unfold evX
 rw[dif_pos ⟨n,r,h⟩]
 exact evR_det (Classical.choose_spec (Classical.choose_spec (⟨n,r,h⟩:∃n r,evR t F n most task st=some r))) h
theorem shape_of_ok {re:Re} {caps top:Int} (h:nodeOk re caps top=true) (hk:re.kids.length≤1000000000):shapeB re=true:=by
 obtain⟨h1,h2,h3,h4,h5⟩:=nodeOk_iff.1 h
 have hset:re.set.length≤64:=by
  split at h2
  ·simp only[spansR,Bool.and_eq_true,decide_eq_true_eq] at h2
   exact h2.1
  ·omega
 refine decide_eq_true ⟨fun ho hn=>?_,fun ho=>?_,by omega,hk⟩
 ·have:=h1.2.2.1
  rw[hn] at this
  simp only[List.length_nil,Int.natCast_zero] at this
  rcases ho with o | o | o | o | o <;> rw[o] at this <;> simp [kidsR] at this
 ·have:=h1.2.2.1
  rw[ho] at this
  simp [kidsR] at this
  omega
theorem shape_every {caps top:Int} (re:Re) (h:re.whole caps top=true) (hs:re.size≤1000000):re.every shapeB=true:=by
 revert h hs
 refine Re.ind (Q:=fun re=>re.whole caps top=true→re.size≤1000000→re.every shapeB=true) (fun re ih h hs=>?_) re
 obtain⟨a1,a2⟩:=(Re.every_iff re).1 h
 have:=Re.len_le re.kids
 have:=Re.size_eq re
 exact(Re.every_iff re).2 ⟨shape_of_ok a1 (by omega),fun k hk=>ih k hk (a2 k hk) (by have:=Re.size_kid hk; omega)⟩
noncomputable def searchX (p:Pat) (t:List Int) (at_ most fuel:Int):Bool × Sst:=evX t fuel most (.run (.mk 0 p.re 0 0 .nil) at_ (cap0 p)) ⟨0,false,[],[]⟩
theorem valid7_spec {p:Pat} {t:List Int} {fuel:Int} (h:valid7 p t fuel=0):validR p=0∧t.length≤65536∧t.all (symB p.runes)=true∧0≤fuel∧fuel≤1099511627776:=by
 unfold valid7 at h
 split at h
 ·omega
 ·split at h
  ·omega
  ·split at h
   ·omega
   ·split at h
    ·omega
    ·refine⟨by omega,by omega,by simp_all,by omega,by omega⟩
theorem validR_spec {p:Pat} (h:validR p=0):p.re.size≤256∧p.re.depth≤24∧0≤p.caps∧p.caps≤9∧p.re.whole p.caps (topR p.runes)=true:=by
 unfold validR at h
 split at h
 ·omega
 ·split at h
  ·omega
  ·rename_i h1 h2
   refine⟨by omega,by omega,by omega,by omega,?_⟩
   cases hw:p.re.whole p.caps (topR p.runes) with
   | true=>rfl
   | false=>exact absurd (.inr (.inr hw)) h2
theorem search_ends {p:Pat} {t:List Int} {at_ most fuel:Int} (hv:valid7 p t fuel=0) (a0:0≤at_) (a1:at_≤t.length) :
  ∃n,evR t fuel n most (.run (.mk 0 p.re 0 0 .nil) at_ (cap0 p)) ⟨0,false,[],[]⟩=some (searchX p t at_ most fuel)∧PostG t fuel 0 at_ (cap0 p).length ⟨0,false,[],[]⟩ (searchX p t at_ most fuel).1 (searchX p t at_ most fuel).2:=by
 obtain⟨h1,h2,h3,h4,h5⟩:=valid7_spec hv
 obtain⟨k1,k2,k3,k4,k5⟩:=validR_spec h1
 have hcl:(cap0 p).length≤9:=by unfold cap0; rw[List.length_replicate]; omega
 obtain⟨n,b,s',e1,e2,_⟩:=ends_all (t:=t) (F:=fuel) (by omega) _ _ most (.run (.mk 0 p.re 0 0 .nil) at_ (cap0 p)) ⟨0,false,[],[]⟩ (Nat.le_refl _) (Nat.le_refl _)
  ⟨by omega,shape_every _ k5 (by omega),by intro h; omega,by intro h; omega,by intro h; omega,by intro h; omega,trivial⟩
  ⟨a0,a1,⟨by show (cap0 p).length≤_; omega,fun q hq=>.inl (List.eq_of_mem_replicate hq)⟩,rfl,Int.le_refl _,h4,by simp [Task.slack,slackG],rfl⟩
 have hx:searchX p t at_ most fuel=(b,s'):=evX_eq e1
 rw[hx]
 exact⟨n,e1,e2⟩
noncomputable def allE (p:Pat) (t:List Int) (at_ most fuel:Int):Int:=if valid7 p t fuel≠0 then valid7 p t fuel else if at_ < 0∨(t.length:Int) < at_ then 5 else if (searchX p t at_ most fuel).2.empty=true then 11 else 0
noncomputable def allM (p:Pat) (t:List Int) (at_ most fuel:Int):List (Int × CapsL):=if allE p t at_ most fuel=0 then (searchX p t at_ most fuel).2.ends.zip (searchX p t at_ most fuel).2.caps else []
noncomputable def allN (p:Pat) (t:List Int) (at_ most fuel:Int):Int:=if allE p t at_ most fuel=0 then (searchX p t at_ most fuel).2.steps else 0
end Go.Proofs.Ytpppfpaalcbggaa
