/- A part of the proof (K74 K75 K76). -/
import Derived.Test.YtdofoappodmcoaaKP8
import Derived.Test.YtdofoappodmcoaaKP23
set_option linter.unusedSimpArgs false
set_option linter.unusedVariables false
set_option maxRecDepth 100000
set_option maxHeartbeats 80000000
namespace Go.Proofs.Ytdofoappodmcoaa
open Go.VL Go.Proofs.Try
def xOf (E:Int) (y:Ins):Ins:=⟨y.op,E,y.y,y.n,y.set⟩
def setX (E:Int) (C:List Ins) (a:Int):List Ins:=C.set a.toNat (xOf E (C.getD a.toNat zeroI))
def altA (E:Int):List Re→Int→List Ins
 | [],_=>[]
 | k::l,f=>splI 0 (f + 1) (f + (k.code (f + 1)).length + 2)::(k.code (f + 1)++jmpI E::altA E l (f + (k.code (f + 1)).length + 2))
def altP2:List Re→Int→List Int
 | [],_=>[]
 | k::l,f=>(f + (k.code (f + 1)).length + 1)::altP2 l (f + (k.code (f + 1)).length + 2)
theorem altA_len (E E':Int):∀(l:List Re) (f:Int),(altA E l f).length=(altA E' l f).length
 | [],_=>rfl
 | k::l,f=>by simp only[altA,List.length_cons,List.length_append,altA_len E E' l]
theorem altA_snoc (E:Int):∀(l:List Re) (k:Re) (f:Int),altA E (l++[k]) f=altA E l f++altA E [k] (f + (altA E l f).length)
 | [],k,f=>by simp [altA]
 | x::l,k,f=>by
  simp only[List.cons_append,altA,altA_snoc E l k,List.append_assoc,List.length_cons,List.length_append]
  congr 3
  simp only[altA,Int.natCast_add,List.cons.injEq,true_and]
  have e:f + ((x.code (f + 1)).length:Int) + 2 + ((altA E l (f + (x.code (f + 1)).length + 2)).length:Int)=f + (((x.code (f + 1)).length:Int) + (((altA E l (f + (x.code (f + 1)).length + 2)).length:Int) + ((1:Nat):Int)) + ((1:Nat):Int)):=by omega
  rw[e]
theorem altP2_snoc (E:Int):∀(l:List Re) (k:Re) (f:Int),altP2 (l++[k]) f=altP2 l f++altP2 [k] (f + (altA E l f).length)
 | [],k,f=>by simp [altP2,altA]
 | x::l,k,f=>by
  simp only[List.cons_append,altP2,altP2_snoc E l k,altA,List.length_cons,List.length_append]
  simp only[altP2,Int.natCast_add,List.cons.injEq,true_and]
  have e:f + ((x.code (f + 1)).length:Int) + 2 + ((altA E l (f + (x.code (f + 1)).length + 2)).length:Int)=f + (((x.code (f + 1)).length:Int) + (((altA E l (f + (x.code (f + 1)).length + 2)).length:Int) + ((1:Nat):Int)) + ((1:Nat):Int)):=by omega
  rw[e]
theorem fix_alt (E:Int):∀(l:List Re) (base rest:List Ins),(altP2 l base.length).foldl (setX E) (base++altA 0 l base.length++rest)=base++altA E l base.length++rest
 | [],base,rest=>by simp [altP2,altA]
 | k::l,base,rest=>by
  simp only[altP2,altA,List.foldl_cons]
  generalize hK:k.code (base.length + 1)=K
  generalize hS:splI 0 (base.length + 1) (base.length + K.length + 2)=S
  have ih:=fix_alt E l (base++S::(K++[jmpI E])) rest
  have hl:(((base++S::(K++[jmpI E])).length:Nat):Int)=base.length + K.length + 2:=by simp; omega
  rw[hl] at ih
  have e1:setX E (base++S::(K++jmpI 0::altA 0 l (base.length + K.length + 2))++rest) (base.length + K.length + 1)=base++S::(K++[jmpI E])++altA 0 l (base.length + K.length + 2)++rest:=by
   unfold setX
   have hn:((base.length:Int) + K.length + 1).toNat=(base++S::K).length:=by simp; omega
   rw[hn]
   have hA:base++S::(K++jmpI 0::altA 0 l (base.length + K.length + 2))++rest=(base++S::K)++jmpI 0::(altA 0 l (base.length + K.length + 2)++rest):=by simp
   rw[hA,List.getD_eq_getElem?_getD,List.getElem?_append_right (Nat.le_refl _),Nat.sub_self,List.set_append_right _ _ (Nat.le_refl _),Nat.sub_self]
   simp [xOf,jmpI]
  rw[e1,ih]
  simp
theorem codeAlt_eq:∀(l:List Re) (k:Re) (f:Int),Re.codeAlt (l++[k]) f=altA (f + (altA 0 l f).length + (k.code (f + (altA 0 l f).length)).length) l f++k.code (f + (altA 0 l f).length)
 | [],k,f=>by simp [Re.codeAlt,altA]
 | x::l,k,f=>by
  have ih:=codeAlt_eq l k (f + (x.code (f + 1)).length + 2)
  obtain⟨y,l',hl⟩:∃y l',l++[k]=y::l':=by
   cases l with
   | nil=>exact⟨k,[],rfl⟩
   | cons a l=>exact⟨a,l++[k],rfl⟩
  rw[List.cons_append,hl,Re.codeAlt,← hl]
  ·rw[ih]
   simp only[altA,List.length_cons,List.length_append,Int.natCast_add]
   generalize hA:altA 0 l (f + (x.code (f + 1)).length + 2)=A at *
   have e:f + (((x.code (f + 1)).length:Int) + ((A.length:Int) + ((1:Nat):Int)) + ((1:Nat):Int))=f + ((x.code (f + 1)).length:Int) + 2 + (A.length:Int):=by omega
   rw[e]
   generalize hB:k.code (f + ((x.code (f + 1)).length:Int) + 2 + (A.length:Int))=B at *
   generalize hE:f + ((x.code (f + 1)).length:Int) + 2 + (A.length:Int) + (B.length:Int)=E at *
   have hl2:((altA E l (f + (x.code (f + 1)).length + 2)).length:Int)=A.length:=by rw[altA_len E 0,hA]
   have e2:f + ((x.code (f + 1)).length:Int) + 2 + (((altA E l (f + (x.code (f + 1)).length + 2)).length:Int) + (B.length:Int))=E:=by omega
   rw[e2]
   simp
theorem tell_obj {e:VL.Env} {s:List VL.Obj} {o:VL.Obj} (k:Nat) (els':List (List V)) (ho:s[k]?=some o) (hl:o.live=true) (hlen:∀c∈els',c.length=o.sz) (hn:els'.length=o.els.length) (hfu:∃c∈o.els,∃l,V.fu l∈c)
  (hw:∀(i j:Nat) (x':V),(els'[i]?.bind (·[j]?))=some x'→∃x,(o.els[i]?.bind (·[j]?))=some x∧(x'=x∨∃l,x=.fu l∧x'=.d (.sl l))):Cln0 e s e (s.set k { o with els:=els' }):=by
 intro σ0 s0 w0 σ w N a hE hI hR
 have h:=set_obj (p:=σ k) (o':={ o with els:=els' }) (w':=w) hI ho hl rfl rfl rfl (Nat.le_refl _) (fun _ _ _=>rfl) (fun _ _ arr' _ _ hh=>⟨arr',hh,rfl⟩) (fun _ _ _ hm=>hm) (Nat.le_refl _) (fun _=>⟨rfl,rfl⟩)
  (fun b base he=>.inl ⟨base,he⟩) (fun hE'=>by
   rcases hI.content k o ho with h0 | ⟨b,base,arr,E,h1,h2,h3,h4,h5⟩
   ·rcases h0 with ⟨h1,h2⟩ | h1
    ·have:els'=[]:=List.eq_nil_of_length_eq_zero (by rw[hn,h2]; rfl)
     exact .inl (.inl ⟨h1,this⟩)
    ·obtain⟨b,es,c,h1,h2,h3⟩:=h1
     exfalso
     obtain⟨c,hc,l,hl⟩:=hfu
     rw[h3] at hc
     obtain⟨e,_,rfl⟩:=List.mem_map.1 hc
     simp at hl
   ·refine .inr ⟨b,base,arr,E,h1,h2,hlen,by show base + els'.length * o.sz≤_; rw[hn]; exact h4,fun i j x' hx=>?_⟩
    obtain⟨x,hx1,hx2⟩:=hw i j x' hx
    obtain⟨u,u1,u2,u3⟩:=h5 i j x hx1
    refine⟨u,u1,u2,?_⟩
    rcases hx2 with rfl | ⟨l,rfl,rfl⟩
    ·exact u3.evolve hE'
    ·have:=u3.evolve hE'
     cases this with | fu h'=>exact .d h')
 exact⟨_,hE.trans h.1,h.2,hR.evolve h.1⟩
theorem tell_ins {e:VL.Env} {s:List VL.Obj} {C:List Ins} {g n:Nat} {a b c d:Int} (k:Nat) (hn:n < C.length) (ho:s[k]?=some ⟨g,true,5,((C.map Ins.cells).map fun c=>c.map V.d).set n [i64 a,i64 b,i64 c,i64 d,.fu []]⟩):Cln0 e s e (s.set k ⟨g,true,5,((C.set n ⟨a,b,c,d,[]⟩).map Ins.cells).map fun c=>c.map V.d⟩):=by
 refine tell_obj k (((C.set n ⟨a,b,c,d,[]⟩).map Ins.cells).map fun c=>c.map V.d) ho rfl ?_ (by simp) ⟨_,List.mem_set (by simpa using hn) _,[],by simp⟩ ?_
 ·intro c hc
  obtain⟨c',hc',rfl⟩:=List.mem_map.1 hc
  obtain⟨x,_,rfl⟩:=List.mem_map.1 hc'
  rfl
 ·intro i j x' hx
  by_cases hi:n=i
  ·subst hi
   rw[List.map_set,List.map_set,List.getElem?_set_self (by simpa using hn)] at hx
   rw[List.getElem?_set_self (by simpa using hn)]
   match j with
   | 0=>exact⟨_,rfl,.inl (Option.some.inj hx).symm⟩
   | 1=>exact⟨_,rfl,.inl (Option.some.inj hx).symm⟩
   | 2=>exact⟨_,rfl,.inl (Option.some.inj hx).symm⟩
   | 3=>exact⟨_,rfl,.inl (Option.some.inj hx).symm⟩
   | 4=>exact⟨_,rfl,.inr ⟨[],rfl,(Option.some.inj hx).symm⟩⟩
   | j + 5=>simp [Ins.cells] at hx
  ·rw[List.map_set,List.map_set,List.getElem?_set_ne hi] at hx
   rw[List.getElem?_set_ne hi]
   exact⟨x',hx,.inl rfl⟩
theorem altA_csz {l:List Re} (E:Int) (h:∀k∈l,∀f,((k.code f).length:Int)=k.csz):∀f,((altA E l f).length:Int)=Re.cszL l + 2 * l.length:=by
 induction l with
 | nil=>intro f; simp [altA,Re.cszL]
 | cons k l ih =>
  intro f
  have h1:=h k (by simp) (f + 1)
  have h2:=ih (fun x hx=>h x (by simp [hx])) (f + (k.code (f + 1)).length + 2)
  simp only[altA,Re.cszL,List.length_cons,List.length_append]
  push_cast
  omega
theorem aux76 {a b z:Nat} (h:b≤20000000) (h2:a + 100000000 * z + 100000000≤1000000000000):a + b + 100000000 * z + 70000000≤1000000000000:=by omega
theorem alt_round (C1:List Ins) (k:Re) (f:Int):C1++altA 0 [k] f=(C1++[(⟨0,0,0,0,[]⟩:Ins)]++k.code (f + 1)++[(⟨3,0,0,0,[]⟩:Ins)]).set C1.length ⟨2,f + 1,f + (k.code (f + 1)).length + 2,0,[]⟩:=by
 simp [altA,splI,jmpI]
theorem altP2_len:∀(l:List Re) (f:Int),(altP2 l f).length=l.length
 | [],_=>rfl
 | k::l,f=>by simp only[altP2,List.length_cons,altP2_len l]
def aSt (C:List Ins) (l:List Re) (i g:Nat):List VL.Obj:=wCode (C++altA 0 (l.take i) C.length)++[insO g (altP2 (l.take i) C.length)]
theorem setX_len (E:Int) (C:List Ins) (a:Int):(setX E C a).length=C.length:=by simp [setX]
theorem setXs_len (E:Int):∀(J:List Int) (C:List Ins),(J.foldl (setX E) C).length=C.length
 | [],_=>rfl
 | a::J,C=>by rw[List.foldl_cons,setXs_len E J,setX_len]
theorem setX_at {E:Int} {C:List Ins} {a:Int} {y:Ins} (h:C[0 + a.toNat]?=some y):setX E C a=C.set (0 + a.toNat) (xOf E y):=by
 rw[Nat.zero_add] at *
 rw[setX,List.getD_eq_getElem?_getD,h]; rfl
theorem altP2_in:∀(l:List Re) (f x:Int),x∈altP2 l f→f≤x∧x < f + (altA 0 l f).length
 | [],_,_,h=>by simp [altP2] at h
 | k::l,f,x,h=>by
  simp only[altP2,List.mem_cons] at h
  simp only[altA,List.length_cons,List.length_append,Int.natCast_add]
  rcases h with rfl | h
  ·omega
  ·have:=altP2_in l _ x h
   omega
def bSt (C:List Ins) (g:Nat) (J:List Int):List VL.Obj:=wCode C++[insO g J]
theorem alts_ok (l:List Re) (kz:Re) (hW:∀k∈l++[kz],WOK k) (hn:l.length≤1000) (hl:∀k∈l++[kz],∀f,((k.code f).length:Int)=k.csz) (hz:∀k∈l++[kz],0≤k.csz∧k.csz≤9000):AOK (l++[kz]):=by
 intro C hC
 have hCb:C.length + 100000000≤1000000000000:=by have:=hC kz (List.mem_append_right _ (List.mem_singleton.2 rfl)); omega
 have hw0:IntKind.i64.wrap (((l++[kz]).length:Int) - 1)=l.length:=by
  have e:((l++[kz]).length:Int) - 1=l.length:=by simp
  rw[e,w64 _ (by omega)]
 refine fn_ok func83 rfl ntmps83 results83 rfl 6 3940649674048239 (Nat.le_refl 6) (by first | decide | (simp [wArgs,rArgs,aArgs]; done)) ?_
 simp only[zX,Nat.reduceShiftRight,Nat.reduceMod,Nat.reduceLT,Nat.reduceMul,Nat.reduceSub,Int.reduceToNat,Int.reduceNeg,Int.reduceLT,Int.reduceLE,Int.reduceEq,Nat.reduceEqDiff,Nat.reduceAdd,Nat.reduceLeDiff,reduceIte,reduceCtorEq,Nat.reduceBEq,i64,bV,iD,bD,aArgs,wCode,List.length_map,hw0]
 refine⟨by simp; omega,?_⟩
 refine loop_rule (fun n e s=>∃(i g:Nat),n=l.length - i∧i≤l.length∧e 0=.d (.sl ((l++[kz]).map Re.cells))∧e 1=.rf 1 0 0 0∧e 2=.rf 2 0 0 0∧e 3=.rf 0 0 0 0∧e 5=.so 6 g 0 i∧e 15=i64 l.length∧e 16=i64 i∧s=aSt C l i g)
  ⟨_,_,_,.of0 (reserveSlot 5 1 rfl),0,0,rfl,by omega,rfl,rfl,rfl,rfl,rfl,by (try simp only[zU,Nat.reduceBEq,Nat.reduceShiftRight,Nat.reduceMod,Nat.reduceEqDiff,reduceIte]); simp [i64],rfl,by simp [aSt,altA,altP2,insO,wCode]⟩ ?_
 rintro n e s ⟨i,g,rfl,hi,h0,h1,h2,h3,h5,h15,h16,rfl⟩
 rcases Nat.lt_or_ge i l.length with hlt | hge
 ·obtain⟨k,hk⟩:∃k,l[i]?=some k:=⟨_,List.getElem?_eq_getElem hlt⟩
  have hm:k∈l++[kz]:=List.mem_append_left _ (List.mem_of_getElem? hk)
  have hlt':(i:Int) < (l.length:Int):=by omega
  have hi0:(0:Int)≤(i:Int):=by omega
  have hli:i < (l++[kz]).length:=by simp; omega
  have hki:(l++[kz])[i]?=some k:=by rw[List.getElem?_append_left hlt]; exact hk
  have hCk:=hC k hm
  have hsl:∀j,((altA 0 (l.take j) C.length).length:Int)≤20000000:=fun j=>by
   rw[altA_csz 0 (fun x hx=>hl x (List.mem_append_left _ (List.mem_of_mem_take hx))) C.length]
   have:=(cszL_range (l:=l.take j) (fun x hx=>by have:=hz x (List.mem_append_left _ (List.mem_of_mem_take hx)); omega)).2
   rw[List.length_take] at *
   omega
  have hb1:=hsl i
  have hb2:=hsl (i + 1)
  have hsn:=altA_snoc 0 (l.take i) k C.length
  have hsp:=altP2_snoc 0 (l.take i) k C.length
  rw[← take_get hk] at hsn hsp
  have hl1:(((C++altA 0 (l.take i) C.length).length:Nat):Int)=C.length + (altA 0 (l.take i) C.length).length:=by simp
  have hC1:(C++altA 0 (l.take i) C.length).length + 100000000 * k.size + 70000000≤1000000000000:=by rw[List.length_append]; exact aux76 (by omega) hCk
  have hJl:(altP2 (l.take i) C.length).length=i:=by rw[altP2_len,List.length_take]; omega
  rw[show aSt C l i g=wCode (C++altA 0 (l.take i) C.length)++[insO g (altP2 (l.take i) C.length)] from rfl]
  have hCn:C++altA 0 (l.take (i + 1)) C.length=(C++altA 0 (l.take i) C.length++[(⟨0,0,0,0,[]⟩:Ins)]++k.code ((C++altA 0 (l.take i) C.length).length + 1)++[(⟨3,0,0,0,[]⟩:Ins)]).set (C++altA 0 (l.take i) C.length).length ⟨2,(C++altA 0 (l.take i) C.length).length + 1,(C++altA 0 (l.take i) C.length).length + (k.code ((C++altA 0 (l.take i) C.length).length + 1)).length + 2,0,[]⟩:=by
   rw[hsn,← List.append_assoc,hl1]
   exact alt_round _ _ _
  rw[← hl1] at hsp
  clear hsn hl1
  generalize hD1:C++altA 0 (l.take i) C.length=C1 at *
  generalize hJ1:altP2 (l.take i) C.length=J at *
  have hw:=hW k hm (C1++[⟨0,0,0,0,[]⟩]) (by rw[List.length_append,List.length_singleton]; omega)
  have hkl:=hl k hm
  simp only[zX,Nat.reduceShiftRight,Nat.reduceMod,Nat.reduceLT,Nat.reduceMul,Nat.reduceSub,Int.reduceToNat,Int.reduceNeg,Int.reduceLT,Int.reduceLE,Int.reduceEq,Nat.reduceEqDiff,Nat.reduceAdd,Nat.reduceLeDiff,reduceIte,reduceCtorEq,Nat.reduceBEq,i64,bV,iD,bD,h0,h1,h2,h3,h5,h15,h16,wCode,cVar,List.cons_append,List.nil_append,List.append_nil,hlt']
  refine call_put0 C1 (by omega) 0 0 0 0 (tl:=[insO g J]) ?_
  have hkc:=hkl (C1++[(⟨0,0,0,0,[]⟩:Ins)]).length
  have hC2l:(C1++[(⟨0,0,0,0,[]⟩:Ins)]).length=C1.length + 1:=by simp
  generalize hC2:C1++[(⟨0,0,0,0,[]⟩:Ins)]=C2 at *
  have e1:((C2.length:Nat):Int)=(C1.length:Int) + 1:=by omega
  rw[← e1] at hCn
  simp only[zX,Nat.reduceShiftRight,Nat.reduceMod,Nat.reduceLT,Nat.reduceMul,Nat.reduceSub,Int.reduceToNat,Int.reduceNeg,Int.reduceLT,Int.reduceLE,Int.reduceEq,Nat.reduceEqDiff,Nat.reduceAdd,Nat.reduceLeDiff,reduceIte,reduceCtorEq,Nat.reduceBEq,i64,bV,iD,bD,h0,h1,h2,h3,h5,h15,h16,wCode,cVar,List.cons_append,List.nil_append,List.append_nil]
  refine draw_c mix [4] [] (by rfl) ?_
  simp only[zX,Nat.reduceShiftRight,Nat.reduceMod,Nat.reduceLT,Nat.reduceMul,Nat.reduceSub,Int.reduceToNat,Int.reduceNeg,Int.reduceLT,Int.reduceLE,Int.reduceEq,Nat.reduceEqDiff,Nat.reduceAdd,Nat.reduceLeDiff,reduceIte,reduceCtorEq,Nat.reduceBEq,i64,bV,iD,bD,h0,h1,h2,h3,h5,h15,h16,wCode,cVar,List.cons_append,List.nil_append,List.append_nil,hi0,List.length_map,hli,Int.toNat_natCast,hki]
  refine callD_of (call_w hw (by rfl) (by rfl) (tl:=[insO g J]) ⟨rfl,rfl⟩) ?_
  have hC3l:(C2++k.code C2.length).length=C2.length + (k.code C2.length).length:=by simp
  have hkz:=hz k hm
  generalize hC3:C2++k.code C2.length=C3 at *
  simp only[zX,Nat.reduceShiftRight,Nat.reduceMod,Nat.reduceLT,Nat.reduceMul,Nat.reduceSub,Int.reduceToNat,Int.reduceNeg,Int.reduceLT,Int.reduceLE,Int.reduceEq,Nat.reduceEqDiff,Nat.reduceAdd,Nat.reduceLeDiff,reduceIte,reduceCtorEq,Nat.reduceBEq,i64,bV,iD,bD,h0,h1,h2,h3,h5,h15,h16,wCode,cVar,List.cons_append,List.nil_append,List.append_nil]
  refine call_put0 C3 (by omega) 3 0 0 0 (tl:=[insO g J]) ?_
  have hC4l:(C3++[(⟨3,0,0,0,[]⟩:Ins)]).length=C3.length + 1:=by simp
  generalize hC4:C3++[(⟨3,0,0,0,[]⟩:Ins)]=C4 at *
  have e2:((C4.length:Nat):Int)=(C1.length:Int) + (k.code C2.length).length + 2:=by omega
  rw[← e2,e1] at hCn
  have hget:C4[0 + C1.length]?=some ⟨0,0,0,0,[]⟩:=by rw[← hC4,← hC3,← hC2,Nat.zero_add]; simp
  have hg:(cArr C4).g=C4.length:=rfl
  have hsz:(cArr C4).sz=5:=rfl
  have he:(cArr C4).els=(C4.map Ins.cells).map fun c=>c.map V.d:=rfl
  have hlv:(cArr C4).live=true:=rfl
  have w1:IntKind.i64.wrap ((C1.length:Int) + 1)=(C1.length:Int) + 1:=w64 _ (by omega)
  simp only[zX,Nat.reduceShiftRight,Nat.reduceMod,Nat.reduceLT,Nat.reduceMul,Nat.reduceSub,Int.reduceToNat,Int.reduceNeg,Int.reduceLT,Int.reduceLE,Int.reduceEq,Nat.reduceEqDiff,Nat.reduceAdd,Nat.reduceLeDiff,reduceIte,reduceCtorEq,Nat.reduceBEq,i64,bV,iD,bD,h0,h1,h2,h3,h5,h15,h16,wCode,cVar,List.cons_append,List.nil_append,List.append_nil,insO,hg,hsz,he,hlv,w1,List.length_map,hget,Option.map_some]
  refine⟨fun e he=>by rw[List.mem_singleton.1 he]; rfl,⟨by rw[hJl]; omega,by omega⟩,by omega,by decide,l.length - (i + 1),_,_,by omega,.of0 (tell_ins (C:=C4) (n:=C1.length) (g:=C4.length) (a:=2) (b:=C1.length + 1) (c:=C4.length) (d:=0) 5 (by omega) ?_),i + 1,g + 1,rfl,hlt,?_,?_,?_,?_,?_,?_,?_,?_⟩ <;> (try simp only[zU,Nat.reduceBEq,Nat.reduceShiftRight,Nat.reduceMod,Nat.reduceEqDiff,reduceIte])
  ·rw[Nat.zero_add]; rfl
  ·exact h0
  ·exact h1
  ·exact h2
  ·exact h3
  ·exact h15
  ·rw[w64 _ (by omega)]; rfl
  ·have hT:List.take i (J.map fun x=>[V.d (D.sc (Value.int IntKind.i64 x))])=J.map fun x=>[V.d (D.sc (Value.int IntKind.i64 x))]:=List.take_of_length_le (by rw[List.length_map]; omega)
   have e3:((C3.length:Nat):Int)=(C1.length:Int) + (k.code (C1.length + 1)).length + 1:=by rw[← e1]; omega
   rw[hT,e3]
   show _=wCode (C++altA 0 (l.take (i + 1)) C.length)++[insO (g + 1) (altP2 (l.take (i + 1)) C.length)]
   rw[hCn,hsp]
   simp only[wCode,cVar,cArr,List.length_set,insO,List.map_append,List.set_cons_succ,List.set_cons_zero,List.cons_append,List.nil_append,altP2,List.map_cons,List.map_nil,i64]
 ·have hie:i=l.length:=by omega
  subst hie
  have hm:kz∈l++[kz]:=List.mem_append_right _ (List.mem_singleton.2 rfl)
  have hCk:=hC kz hm
  have hsl:((altA 0 l C.length).length:Int)≤20000000:=by
   rw[altA_csz 0 (fun x hx=>hl x (List.mem_append_left _ hx)) C.length]
   have:=(cszL_range (l:=l) (fun x hx=>by have:=hz x (List.mem_append_left _ hx); omega)).2
   omega
  have hC1:(C++altA 0 l C.length).length + 100000000 * kz.size + 70000000≤1000000000000:=by rw[List.length_append]; exact aux76 (by omega) hCk
  have hw:=hW kz hm (C++altA 0 l C.length) (by omega)
  have hkl:=hl kz hm (C++altA 0 l C.length).length
  have hkz:=hz kz hm
  have hfix:=fun E=>fix_alt E l C (kz.code (C++altA 0 l C.length).length)
  have hcode:=codeAlt_eq l kz C.length
  have hl1:(((C++altA 0 l C.length).length:Nat):Int)=C.length + (altA 0 l C.length).length:=by simp
  rw[← hl1] at hcode
  have hJl:=altP2_len l C.length
  have hJb:∀x∈altP2 l C.length,0≤x∧x < (C++altA 0 l C.length).length:=fun x hx=>by have:=altP2_in l C.length x hx; omega
  rw[show aSt C l l.length g=wCode (C++altA 0 (l.take l.length) C.length)++[insO g (altP2 (l.take l.length) C.length)] from rfl,List.take_length,hcode]
  have hfin:C++(altA ((C++altA 0 l C.length).length + (kz.code (C++altA 0 l C.length).length).length) l C.length++kz.code (C++altA 0 l C.length).length)=(altP2 l C.length).foldl (setX ((C++altA 0 l C.length).length + (kz.code (C++altA 0 l C.length).length).length)) (C++altA 0 l C.length++kz.code (C++altA 0 l C.length).length):=by
   rw[hfix,List.append_assoc]
  rw[hfin]
  clear hfin hfix hcode hl1
  have hl3:(((C++altA 0 l C.length)++kz.code (C++altA 0 l C.length).length).length:Int)=(C++altA 0 l C.length).length + (kz.code (C++altA 0 l C.length).length).length:=by rw[List.length_append]; simp
  rw[← hl3]
  generalize C++altA 0 l C.length=C1 at *
  generalize altP2 l C.length=J at *
  generalize kz.code C1.length=K at *
  generalize C1++K=C2 at *
  have hlz:(l++[kz])[l.length]?=some kz:=by simp
  have hlz2:l.length < (l++[kz]).length:=by simp
  simp only[zX,Nat.reduceShiftRight,Nat.reduceMod,Nat.reduceLT,Nat.reduceMul,Nat.reduceSub,Int.reduceToNat,Int.reduceNeg,Int.reduceLT,Int.reduceLE,Int.reduceEq,Nat.reduceEqDiff,Nat.reduceAdd,Nat.reduceLeDiff,reduceIte,reduceCtorEq,Nat.reduceBEq,i64,bV,iD,bD,h0,h1,h2,h3,h5,h15,h16,Int.lt_irrefl,wCode,cVar,List.cons_append,List.nil_append,List.append_nil]
  refine draw_c mix [6] [] (by rfl) ?_
  simp only[zX,Nat.reduceShiftRight,Nat.reduceMod,Nat.reduceLT,Nat.reduceMul,Nat.reduceSub,Int.reduceToNat,Int.reduceNeg,Int.reduceLT,Int.reduceLE,Int.reduceEq,Nat.reduceEqDiff,Nat.reduceAdd,Nat.reduceLeDiff,reduceIte,reduceCtorEq,Nat.reduceBEq,i64,bV,iD,bD,h0,h1,h2,h3,h5,h15,h16,wCode,cVar,List.cons_append,List.nil_append,List.append_nil,List.length_map,hw0,Int.toNat_natCast,hlz,hlz2]
  refine callD_of (call_w hw (by rfl) (by rfl) (tl:=[insO g J]) ⟨rfl,rfl⟩) ?_
  have hC2b:C2.length≤1000000000000:=by omega
  have hJC:∀x∈J,0≤x∧x < C2.length:=fun x hx=>by have:=hJb x hx; omega
  clear hw hkl hJb hl3 hC1
  simp only[zX,Nat.reduceShiftRight,Nat.reduceMod,Nat.reduceLT,Nat.reduceMul,Nat.reduceSub,Int.reduceToNat,Int.reduceNeg,Int.reduceLT,Int.reduceLE,Int.reduceEq,Nat.reduceEqDiff,Nat.reduceAdd,Nat.reduceLeDiff,reduceIte,reduceCtorEq,Nat.reduceBEq,i64,bV,iD,bD,h0,h1,h2,h3,h5,h15,h16,wCode,cVar,List.cons_append,List.nil_append,List.append_nil]
  refine⟨rfl,?_⟩
  refine loop_rule (fun n e s=>∃(j:Nat),n=J.length - j∧j≤J.length∧e 3=.rf 0 0 0 0∧e 49=.so 6 g 0 J.length∧e 50=i64 J.length∧e 51=i64 j∧s=bSt ((J.take j).foldl (setX C2.length) C2) g J)
   ⟨_,_,_,Cln.refl,0,by rfl,by omega,h3,by rw[hJl]; rfl,by rw[hJl]; rfl,rfl,rfl⟩ ?_
  clear h0 h1 h2 h3 h5 h15 h16
  rintro n e s ⟨j,rfl,hj,h3,h49,h50,h51,rfl⟩
  rcases Nat.lt_or_ge j J.length with hlt | hge
  ·obtain⟨x,hx⟩:∃x,J[j]?=some x:=⟨_,List.getElem?_eq_getElem hlt⟩
   have hxb:=hJC x (List.mem_of_getElem? hx)
   have hx':J[0 + j]?=some x:=by rw[Nat.zero_add]; exact hx
   have hlt':(j:Int) < (J.length:Int):=by omega
   have hj0:(0:Int)≤(j:Int):=by omega
   have hsn:(J.take (j + 1)).foldl (setX C2.length) C2=setX C2.length ((J.take j).foldl (setX C2.length) C2) x:=by
    rw[take_get hx,List.foldl_append]; rfl
   have hDl:((J.take j).foldl (setX C2.length) C2).length=C2.length:=setXs_len _ _ _
   rw[show bSt ((J.take j).foldl (setX C2.length) C2) g J=wCode ((J.take j).foldl (setX C2.length) C2)++[insO g J] from rfl]
   generalize (J.take j).foldl (setX C2.length) C2=Dc at *
   have hg:(cArr Dc).g=Dc.length:=rfl
   have hsz:(cArr Dc).sz=5:=rfl
   have he:(cArr Dc).els=(Dc.map Ins.cells).map fun c=>c.map V.d:=rfl
   have hlv:(cArr Dc).live=true:=rfl
   obtain⟨y,hy⟩:∃y,Dc[0 + x.toNat]?=some y:=⟨_,List.getElem?_eq_getElem (by omega)⟩
   have hx0:x.toNat < Dc.length:=by omega
   have hx1:x < (Dc.length:Int):=by omega
   simp only[zX,Nat.reduceShiftRight,Nat.reduceMod,Nat.reduceLT,Nat.reduceMul,Nat.reduceSub,Int.reduceToNat,Int.reduceNeg,Int.reduceLT,Int.reduceLE,Int.reduceEq,Nat.reduceEqDiff,Nat.reduceAdd,Nat.reduceLeDiff,reduceIte,reduceCtorEq,Nat.reduceBEq,i64,bV,iD,bD,h3,h49,h50,h51,wCode,cVar,List.cons_append,List.nil_append,List.append_nil,insO,hlt',hj0,hlt,Int.toNat_natCast,hx',Option.map_some,hg,hsz,he,hlv,List.length_map,hxb.1,hx0,hx1,hy,Ins.cells]
   refine⟨J.length - (j + 1),_,_,by omega,Cln.refl,j + 1,rfl,hlt,?_,?_,?_,?_,?_⟩ <;> (try simp only[zU,Nat.reduceBEq,Nat.reduceShiftRight,Nat.reduceMod,Nat.reduceEqDiff,reduceIte])
   ·exact h3
   ·exact h49
   ·exact h50
   ·rw[w64 _ (by omega)]; rfl
   ·rw[hsn,setX_at hy,hDl]
    simp only[bSt,wCode,cVar,cArr,insO,i64,List.length_set,List.map_set,hDl,List.cons_append,List.nil_append,xOf,Ins.cells,iD,List.map_cons,List.map_nil]
  ·have hje:j=J.length:=by omega
   subst hje
   rw[List.take_length]
   simp only[zX,Nat.reduceShiftRight,Nat.reduceMod,Nat.reduceLT,Nat.reduceMul,Nat.reduceSub,Int.reduceToNat,Int.reduceNeg,Int.reduceLT,Int.reduceLE,Int.reduceEq,Nat.reduceEqDiff,Nat.reduceAdd,Nat.reduceLeDiff,reduceIte,reduceCtorEq,Nat.reduceBEq,i64,bV,iD,bD,h3,h49,h50,h51,Int.lt_irrefl]
   exact⟨wCode_ok _,rfl⟩
end Go.Proofs.Ytdofoappodmcoaa
