/- A part of the proof (S40 S41 S42 S43). -/
import Derived.Test.YtmihcpdhcillaaaGreatBG37
import Derived.Test.YtmihcpdhcillaaaGreatBG50
set_option linter.unusedSimpArgs false
set_option linter.unusedVariables false
set_option maxRecDepth 100000
set_option maxHeartbeats 80000000
namespace Go.Proofs.YtmihcpdhcillaaaGreat
open Go.VL Go.Proofs.Tryz
def Pe (m:FV):List D:=[iD m.s,iD m.e,bH m.c]
theorem Ds {p:fj}{t:List Int}{F0:Int} (PH:F0≤50000000) (eI:∀i:Int,0≤i→i≤t.length→cV p t i (-1) F0=0) {i f:Int} (h0:0≤i) (h1:i≤t.length) (hv:cc p t f=0) :
  (bj p t i (-1) f).2.steps≤100000000∧∀n:Nat,1≤n→(bj p t i n f).2.steps≤100000000:=by
 obtain⟨_,_,_,v4,v5⟩:=du hv
 by_cases hf:f≤50000000
 ·have key:∀ah:Int,(bj p t i ah f).2.steps≤100000000:=fun ah=>by
   obtain⟨_,_,e2⟩:=dV (ah:=ah) hv h0 h1
   have:=e2.s1
   omega
  exact⟨key _,fun n _=>key _⟩
 ·have hg:=eI i h0 h1
  have hle:=lN hg
  obtain⟨g1,_,g3,g4⟩:=nS (f':=f) hg (by omega) v5
  have Vk:=lN g1
  have hN:dT p t i (-1) f=(bj p t i (-1) f).2.steps:=by unfold dT;rw[if_pos g1]
  refine⟨by omega,fun n hn=>?_⟩
  obtain⟨q1,_,q3⟩:=rU hn g1
  have Vr:dT p t i n f=(bj p t i n f).2.steps:=by unfold dT;rw[if_pos q1]
  omega
end Go.Proofs.YtmihcpdhcillaaaGreat
namespace Go.Proofs.YtmihcpdhcillaaaGreat
open Go.VL Go.Proofs.Tryz
def zG (i:Int) (L:List (Int×ar)):List FV:=L.map fun x=>⟨i,x.1,x.2⟩
theorem M4 (i:Int) (L:List (Int×ar)):L.map (lB i)=(zG i L).map Pe:=by unfold zG;rw[XS];rfl
theorem HU {p:fj}{t:List Int}{i n f:Int}:∀m∈zG i (allM p t i n f),m.c.length≤1000000000:=by
 intro m hm
 obtain⟨x,hx,rfl⟩:=List.mem_map.1 hm
 by_cases h:cV p t i n f=0
 ·obtain⟨Ph,h0,h1,he⟩:=jS h
  obtain⟨_,_,e2⟩:=dV (ah:=n) Ph h0 h1
  obtain⟨new,mg,z1,z2,z3,z4,z5,z6⟩:=e2.more
  unfold allM at hx
  rw[if_pos h]at hx
  have hd:=(List.of_mem_zip hx).2
  rw[z2]at hd
  exact(z6 _ (by simpa using hd)).1.1
 ·unfold allM at hx;rw[if_neg h]at hx;cases hx
theorem Fj {p:fj}{t:List Int} (hf:p.re.fA=true) (ht:t.length≤12) {F0:Int} (PH:F0≤50000000) (eI:∀i:Int,0≤i→i≤t.length→cV p t i (-1) F0=0) (x f:Int) {n:Nat} (hn:1≤n) :
  br prog 8 [cN p,.d (aB t),i64 x,i64 (n:Nat),i64 f] (.tu [.d (.sl ((zG x (allM p t x n f)).map Pe)),i64 (dT p t x n f),i64 (cV p t x n f)]):=by
 have h:=Hc p t x n f hf (by omega) (by omega) (fun hv h0 h1=>(Ds PH eI h0 h1 hv).2 n hn)
 rw[M4]at h
 exact h
end Go.Proofs.YtmihcpdhcillaaaGreat
