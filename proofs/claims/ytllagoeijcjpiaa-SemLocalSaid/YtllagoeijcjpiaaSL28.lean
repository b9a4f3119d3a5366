/- A part of the proof (K0). -/
import Derived.Test.YtllagoeijcjpiaaSL2
import Derived.Test.YtllagoeijcjpiaaSL3
set_option linter.unusedSimpArgs false
set_option linter.unusedVariables false
set_option maxRecDepth 100000
set_option maxHeartbeats 80000000
namespace Go.Proofs.Ytllagoeijcjpiaa
open Go.VL Go.Proofs.Try
theorem frz_ownK {lim id g lo n sz:Nat} {live:Bool} {s:List VL.Obj} {els:List (List V)} {ds:List (List D)} (ho:s[id]?=some ⟨g,live,sz,els⟩) (he:(els.drop lo).take n=ds.map (fun c=>c.map V.d)) (hn:lo + n≤els.length) (hl:lim≤id∨live=false) :
  frzV lim s (.so id g lo n)=some (.d (.sl ds)):=by
 simp only[frzV,frzD,ho,true_and]
 rw[if_pos ⟨hn,hl⟩,he,mapM_frzE]
 rfl
theorem reserveSlot {e:Env} {s:List VL.Obj} (t sz:Nat) (h:e t=.fu []):Cln0 e s (updE e t (.so s.length 0 0 0)) (s++[⟨0,true,sz,[]⟩]):=by
 intro σ0 s0 w0 σ w N a hE hI hR
 have hp:=push_obj (p:=none) (o':=⟨0,true,sz,[]⟩) (w':=w) hI rfl rfl rfl (Nat.le_refl _) (fun _ _=>rfl) (fun _ _ h'=>by cases h') (fun _=>.inl (.inl ⟨rfl,rfl⟩))
 refine⟨_,hE.trans hp.1,hp.2,hR.1,hR.2.1,fun k=>?_⟩
 by_cases hk:k=t
 ·subst hk
  have hu:=(hR.2.2 k).evolve hp.1
  rw[h] at hu
  rw[updE,if_pos rfl]
  generalize a.tmps.getD k undef=u at hu
  cases hu with | fu hx=>?_
  exact .so ⟨0,true,sz,[]⟩ (by simp) (Nat.le_refl _) rfl (fun _=>.inl ⟨updG_same _ _ _,⟨_,rfl⟩,rfl,rfl⟩)
 ·rw[updE,if_neg hk]
  exact(hR.2.2 k).evolve hp.1
end Go.Proofs.Ytllagoeijcjpiaa
