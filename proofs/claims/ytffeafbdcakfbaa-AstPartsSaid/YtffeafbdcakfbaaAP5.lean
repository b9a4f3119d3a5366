/- A part of the proof (F38 F37). -/
import Derived.Test.YtffeafbdcakfbaaAP2
import Derived.Test.YtffeafbdcakfbaaAP3
set_option linter.unusedSimpArgs false
set_option linter.unusedVariables false
set_option maxRecDepth 100000
set_option maxHeartbeats 80000000
set_option linter.unusedSimpArgs false
set_option linter.unusedVariables false
namespace Go.Proofs.Ytffeafbdcakfbaa
open Go.VL Go.Proofs.Try
def zeroRe:Re:=.mk 0 [] [] 0 0 0 0 false
def Re.atR:Re→List Int→Re × Int
 | re,[]=>(re,0)
 | re,i::p=>if i < 0∨re.kids.length≤i then (zeroRe,7) else match re.kids[i.toNat]? with
  | some k=>k.atR p
  | none=>(zeroRe,7)
def Re.setKids:Re→List Re→Re
 | .mk op set _ mn mx mode n neg,l=>.mk op set l mn mx mode n neg
def Re.putR:Re→List Int→Re→Re × Int
 | _,[],x=>(x,0)
 | re,i::p,x=>if i < 0∨re.kids.length≤i then (zeroRe,7) else match re.kids[i.toNat]? with
  | some k=>if (k.putR p x).2≠0 then (zeroRe,(k.putR p x).2) else (re.setKids (re.kids.take i.toNat++(k.putR p x).1::re.kids.drop (i.toNat + 1)),0)
  | none=>(zeroRe,7)
theorem reV_zero:reV zeroRe=.ag [.d (iD 0),.d (.sl []),.d (.sl []),.d (iD 0),.d (iD 0),.d (iD 0),.d (iD 0),.d (bD false)]:=by
 rw[reV_eq]; rfl
mutual
def Re.paths:Re→List (List Int)
 | .mk _ _ kids _ _ _ _ _=>[]::Re.pathsL kids 0
def Re.pathsL:List Re→Int→List (List Int)
 | [],_=>[]
 | k::l,i=>k.paths.map (fun p=>i::p)++Re.pathsL l (i + 1)
end
theorem Re.paths_eq (re:Re):re.paths=[]::Re.pathsL re.kids 0:=by cases re; simp [Re.paths,Re.kids]
theorem Re.pathsL_snoc:∀(l:List Re) (k:Re) (i:Int),Re.pathsL (l++[k]) i=Re.pathsL l i++k.paths.map (fun p=>(i + l.length)::p)
 | [],k,i=>by simp [Re.pathsL]
 | x::l,k,i=>by
  simp only[List.cons_append,Re.pathsL,Re.pathsL_snoc l k,List.append_assoc,List.length_cons]
  congr 2
  apply List.map_congr_left
  intro p _
  congr 1
  omega
theorem Re.pathsL_len_aux {l:List Re} (h:∀k∈l,k.paths.length=k.size):∀i,(Re.pathsL l i).length=Re.sizeL l:=by
 induction l with
 | nil=>intro i; simp [Re.pathsL,Re.sizeL]
 | cons k l ih=>intro i; simp [Re.pathsL,Re.sizeL,ih (fun x hx=>h x (by simp [hx])),h k (by simp)]
theorem Re.paths_len (re:Re):re.paths.length=re.size:=by
 refine Re.ind (Q:=fun re=>re.paths.length=re.size) (fun re ih=>?_) re
 rw[Re.paths_eq,Re.size_eq,List.length_cons,Re.pathsL_len_aux ih]
 omega
theorem Re.pathsL_len (l:List Re) (i:Int):(Re.pathsL l i).length=Re.sizeL l:=Re.pathsL_len_aux (fun k _=>k.paths_len) i
def pathD (p:List Int):List D:=[intsD p]
def pathsD (l:List (List Int)):D:=.sl (l.map pathD)
end Go.Proofs.Ytffeafbdcakfbaa
