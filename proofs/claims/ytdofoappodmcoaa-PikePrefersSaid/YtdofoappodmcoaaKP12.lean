/- A part of the proof (Vzs). -/
import Derived.Test.YtdofoappodmcoaaKP2
set_option linter.unusedSimpArgs false
set_option linter.unusedVariables false
set_option maxRecDepth 100000
set_option maxHeartbeats 80000000
namespace Go.VL
def append2Wp (P:Program) (t:TypeId) (a x:V) (s:List Obj) (K:V→List Obj→Prop):Prop :=
 match slTy P t with
 | none=>False
 | some (_,i)=>match elsV s x with
  | none=>False
  | some ns=>((∀e∈ns,e.length=i.sz)∧0 < i.sz∧0 < i.byt∧0 < ns.length)∧match a with
   | .so id g lo n=>atG s id g fun o=>(o.live=true∧o.sz=i.sz∧lo + n≤o.els.length∧(n + ns.length) * i.byt≤140737488355328) ∧
     K (.so id g lo (n + ns.length)) (s.set id ⟨g,true,i.sz,o.els.take (lo + n)++ns++o.els.drop (lo + n + ns.length)⟩) ∧
     K (.so s.length 0 0 (n + ns.length)) (s++[⟨0,true,i.sz,(o.els.drop lo).take n++ns⟩])
   | _=>False
theorem append2_sound {P:Program} {t ty:TypeId} {a x:V} {ua ux:Value} {σ:Gh} {s:List Obj} {w:World} {K:V→List Obj→Prop} (hI:Inv σ s w) (ha:RepV σ s w a ua) (hx:RepV σ s w x ux)
  (h:append2Wp P t a x s K):∃v r σ' s' w',(Builtin.append_ #[t,t] ty #[ua,ux]).run P w=.ok r w'∧Evolve σ s w σ' s' w'∧Inv σ' s' w'∧RepV σ' s' w' v r∧K v s':=by
 unfold append2Wp at h
 split at h
 ·exact h.elim
 rename_i e i hti
 obtain⟨hu,hi⟩:=slTy_spec hti
 split at h
 ·exact h.elim
 rename_i ns hns
 obtain⟨⟨hz,hpos,hbp,hnp⟩,h⟩:=h
 obtain⟨ti,d,z,k1,k2,k3,k4,k5,k6,k7,k8,k9⟩:=tyI_spec hi
 obtain⟨ax,capx,rfl,xnone,xcap,news,n1,n2,n3,n4⟩:=elsV_spec hI hx hns hz
 have hzsz:z.cells.size=i.sz:=by rw[← Array.length_toList,k6,k7]
 have hsrc:Src P ti.size t (.slice ax ns.length capx) ns.length news w:=by
  rw[k4]
  cases ax with
  | none =>
   have:ns=[]:=xnone rfl
   subst this
   simp at hnp
  | some ad=>exact Src.ofSlice w hu ad ns.length capx news n1 (n3 ad rfl) n2
 obtain⟨hEd,hId⟩:=drew_obj hI
 split at h
 case h_2=>exact h.elim
 rename_i id g lo n
 obtain⟨o,ho,hg,⟨hlive,hosz,hlo,hb⟩,hA,hB⟩:=atG_spec h
 have hels:elsV s (.so id g lo n)=some ((o.els.drop lo).take n):=by simp [elsV,ho,hg,hlo]
 have hesl:((o.els.drop lo).take n).length=n:=by simp; omega
 have hoz:∀e∈o.els,e.length=i.sz:=by
  intro e he'
  rcases hI.content _ o ho with h0 | ⟨b,base,arr,E,h1,h2,h3,h4,h5⟩
  ·cases ha with | so o' ho' hg' hu' hk=>?_
   rw[ho] at ho'; cases ho'
   rcases hk hg with ⟨hs0,_⟩ | ⟨b,bs,cp,E,arr,hs1,hh,_⟩
   ·rw[h0.els_nil hs0] at he'; cases he'
   ·exact(h0.notC hs1 ⟨arr,E,hh⟩).elim
  ·rw[← hosz]; exact h3 e he'
 have hez:∀e∈(o.els.drop lo).take n,e.length=i.sz:=fun e he=>hoz e (List.mem_of_mem_drop (List.mem_of_mem_take he))
 obtain⟨base,cap,hua,a1,a2,olds,o1,o2,o3,o4⟩:=elsV_spec hI ha hels hez
 rw[hesl] at hua a2
 cases ha with | so o' ho' hg' hu' hk=>?_
 rw[ho] at ho'; cases ho'
 have hk':=hk hg
 by_cases hcap:cap < n + ns.length
 ·
  have hold:(Builtin.firstCells ti.size n (.slice base n cap)).run P w.drew=.ok olds.toArray w.drew:=by
   rw[k4]
   cases base with
   | none =>
    have he:(o.els.drop lo).take n=[]:=a1 rfl
    rw[he] at o1 hesl
    have hn0:n=0:=by simpa using hesl.symm
    have hn:olds=[]:=List.eq_nil_of_length_eq_zero (by simpa using o1)
    subst hn0 hn
    exact run_firstCells_none w.drew i.sz 0 0 cap
   | some ad=>exact run_firstCells_some w.drew i.sz n ad n cap olds (by rw[o1,hesl]) (by simpa using o3 ad rfl)
  have hle:n + ns.length≤(n + ns.length) * i.byt:=Nat.le_mul_of_pos_right _ hbp
  have hrun:=run_append_grow_src (P:=P) w t t ty e ti z hu k1 k3 base n cap olds hold (.slice ax ns.length capx) ns.length news hsrc hcap (by omega) (growslice_fits hcap (by rw[k5]; exact hb))
  have hge:=grownCap_ge w (n + ns.length) cap e
  subst hua
  generalize grownCap w (n + ns.length) cap e=cap' at *
  have hsz:((olds++news).toArray++Builtin.zeroCells z.cells (cap' - (n + ns.length))).size=cap' * i.sz:=by
   simp only[Array.size_append,List.size_toArray,size_zeroCells,List.length_append,o1,n1,hzsz,hesl]
   rw[← Nat.add_mul,← Nat.add_mul]
   congr 1
   omega
  have hget:∀(i' j:Nat) (y:V),(((o.els.drop lo).take n++ns)[i']?.bind (·[j]?))=some y→∃c,((olds++news).toArray++Builtin.zeroCells z.cells (cap' - (n + ns.length)))[i' * i.sz + j]?=some c∧c.oneCell'=true∧RepV σ s w y c:=by
   intro i' j y hy
   obtain⟨c,c1,c2,c3⟩:=app_content o1 o4 n4 i' j y hy
   exact⟨c,toArr_get c1,c2,c3⟩
  generalize (olds++news).toArray++Builtin.zeroCells z.cells (cap' - (n + ns.length))=arr at *
  have:=new_obj (els:=(o.els.drop lo).take n++ns) (sz:=i.sz) (arr:=arr) hId e (fun e he=>(List.mem_append.1 he).elim (hez e) (hz e)) (by rw[hsz,List.length_append,hesl]; exact Nat.mul_le_mul_right _ hge)
   (fun i' j y hy=>let ⟨c,c1,c2,c3⟩:=hget i' j y hy; ⟨c,c1,c2,c3.evolve hEd⟩)
  refine⟨_,_,_,_,_,hrun,hEd.trans this.1,this.2,?_,hB⟩
  exact .so ⟨0,true,i.sz,(o.els.drop lo).take n++ns⟩ (by simp) (Nat.le_refl _) rfl (fun _=>.inr ⟨w.heap.size,0,cap',e,arr,updG_same _ _ _,heap_alloc_new w.drew _,by simp,hge,by simp [hsz]⟩)
 ·
  have hroom:n + ns.length≤cap:=by omega
  rcases hk' with ⟨hs0,⟨aa,hua'⟩,rfl,rfl⟩ | ⟨b,bs,cp,E,arr,hs1,hh,hua',hcp,hfit⟩
  ·rw[hua] at hua'
   simp only[Value.slice.injEq] at hua'
   omega
  rw[hua] at hua'
  simp only[Value.slice.injEq] at hua'
  obtain⟨rfl,_,rfl⟩:=hua'
  subst hua
  generalize i.sz=Z at *
  subst hosz
  obtain⟨bb,bs',arr2,E2,q1,q2,q3,q4,q5⟩:∃b base arr E,σ id=some (b,base)∧w.heap[b]?=some (.cells arr E (0,0))∧(∀e∈o.els,e.length=o.sz)∧base + o.els.length * o.sz≤arr.size ∧
    ∀i j x,(o.els[i]?.bind (·[j]?))=some x→∃u,arr[base + i * o.sz + j]?=some u∧u.oneCell'=true∧RepV σ s w x u:=by
   rcases hI.content _ o ho with h0 | h0
   ·exact(h0.notC hs1 ⟨arr,E,hh⟩).elim
   ·exact h0
  rw[hs1] at q1
  simp only[Option.some.injEq,Prod.mk.injEq] at q1
  obtain⟨rfl,rfl⟩:=q1
  rw[hh] at q2
  simp only[Option.some.injEq,Go.Obj.cells.injEq] at q2
  obtain⟨rfl,rfl,_⟩:=q2
  generalize hS:bs + (lo + n) * o.sz=S at *
  have hSlo:bs + lo * o.sz + n * o.sz=S:=by rw[← hS,Nat.add_mul]; omega
  have hq:S + news.length≤arr.size:=by
   rw[n1,← hS]
   have e1:(lo + cap) * o.sz=lo * o.sz + cap * o.sz:=Nat.add_mul _ _ _
   have e2:=Nat.mul_le_mul_right o.sz hroom
   rw[Nat.add_mul] at e2
   rw[Nat.add_mul]
   omega
  have hst:=run_storeCells_at P b S E news 0 arr w hh (by omega) n2
  simp only[Nat.add_zero] at hst
  generalize harr':(arr.toList.take S++news++arr.toList.drop (S + news.length)).toArray=arr' at hst
  have hsize:arr'.size=arr.size:=by rw[← harr']; simp; omega
  have hlS:(arr.toList.take S).length=S:=by simp; omega
  have hlt:∀p,p < S→arr'[p]?=arr[p]?:=by
   intro p hp
   rw[← harr',List.getElem?_toArray,List.append_assoc,List.getElem?_append_left (by simp; omega),List.getElem?_take,if_pos hp,Array.getElem?_toList]
  have hin:∀q,q < news.length→arr'[S + q]?=news[q]?:=by
   intro q hq'
   rw[← harr',List.getElem?_toArray,List.append_assoc,List.getElem?_append_right (by omega),hlS,List.getElem?_append_left (by omega)]
   congr 1
   omega
  have hgt:∀p,S + news.length≤p→arr'[p]?=arr[p]?:=by
   intro p hp
   rw[← harr',List.getElem?_toArray,List.append_assoc,List.getElem?_append_right (by omega),hlS,List.getElem?_append_right (by omega),List.getElem?_drop,Array.getElem?_toList]
   congr 1
   omega
  have hEl:∀e∈o.els.take (lo + n)++ns++o.els.drop (lo + n + ns.length),e.length=o.sz:=by
   intro e he
   rcases List.mem_append.1 he with he | he
   ·rcases List.mem_append.1 he with he | he
    ·exact hoz e (List.mem_of_mem_take he)
    ·exact hz e he
   ·exact hoz e (List.mem_of_mem_drop he)
  have hEn:bs + (o.els.take (lo + n)++ns++o.els.drop (lo + n + ns.length)).length * o.sz≤arr.size:=by
   have hl:(o.els.take (lo + n)++ns++o.els.drop (lo + n + ns.length)).length=max (lo + n + ns.length) o.els.length:=by
    simp only[List.length_append,List.length_take,List.length_drop]; omega
   rw[hl]
   rcases Nat.le_total (lo + n + ns.length) o.els.length with h' | h'
   ·rw[Nat.max_eq_right h']; exact q4
   ·rw[Nat.max_eq_left h']
    have e3:(lo + n + ns.length) * o.sz≤(lo + cap) * o.sz:=Nat.mul_le_mul_right _ (by omega)
    omega
  have:=set_obj (p:=some (b,bs)) (o':=⟨g,true,o.sz,o.els.take (lo + n)++ns++o.els.drop (lo + n + ns.length)⟩) (w':=w.setRow b arr') hI ho hlive rfl rfl rfl (by simp)
   (fun b1 _ hne=>setRow_other w b b1 arr' (fun e=>hne bs (by rw[hs1,e])))
   (fun b1 base1 arr1 E1 he hh'=>by
    rw[hs1] at he; cases he
    rw[hh] at hh'; cases hh'
    exact⟨arr',setRow_heap w b arr arr' E (0,0) hh,hsize⟩)
   (fun b1 base1 he hm=>by
    rw[hs1] at he; cases he
    exact(IsC.notM ⟨arr,E,hh⟩ hm).elim)
   (by simp only; omega) (fun _=>⟨rfl,hs1.symm⟩) (fun b1 base1 he=>by cases he; exact .inl ⟨bs,hs1⟩)
   (fun hE=>.inr ⟨b,bs,arr',E,rfl,setRow_heap w b arr arr' E (0,0) hh,hEl,by rw[hsize]; exact hEn,fun i' j y hy=>by
    simp only at hy ⊢
    obtain⟨el,hel,hj⟩:∃el,(o.els.take (lo + n)++ns++o.els.drop (lo + n + ns.length))[i']?=some el∧el[j]?=some y:=by
     cases hq':(o.els.take (lo + n)++ns++o.els.drop (lo + n + ns.length))[i']? with
     | none=>rw[hq'] at hy; cases hy
     | some el=>rw[hq'] at hy; exact⟨el,rfl,hy⟩
    have hjl:j < o.sz:=by
     have:=(List.getElem?_eq_some_iff.1 hj).1
     rwa [hEl el (List.mem_of_getElem? hel)] at this
    have htl:(o.els.take (lo + n)).length=lo + n:=by simp; omega
    by_cases c1:i' < lo + n
    ·rw[List.append_assoc,List.getElem?_append_left (by omega),List.getElem?_take,if_pos c1] at hel
     obtain⟨u,u1,u2,u3⟩:=q5 i' j y (by rw[hel]; exact hj)
     have hb1:(i' + 1) * o.sz≤(lo + n) * o.sz:=Nat.mul_le_mul_right _ (by omega)
     rw[Nat.add_mul,Nat.one_mul] at hb1
     exact⟨u,by rw[hlt _ (by omega)]; exact u1,u2,u3.evolve hE⟩
    ·by_cases c2:i' < lo + n + ns.length
     ·rw[List.append_assoc,List.getElem?_append_right (by omega),htl,List.getElem?_append_left (by omega)] at hel
      obtain⟨c,d1,d2,d3⟩:=n4 (i' - (lo + n)) j y (by rw[hel]; exact hj)
      have hql:=(List.getElem?_eq_some_iff.1 d1).1
      have hix:bs + i' * o.sz + j=S + ((i' - (lo + n)) * o.sz + j):=by
       rw[← hS,Nat.add_assoc bs,← Nat.add_assoc bs,Nat.add_assoc,Nat.add_assoc]
       have:i' * o.sz=(lo + n) * o.sz + (i' - (lo + n)) * o.sz:=by rw[← Nat.add_mul]; congr 1; omega
       omega
      exact⟨c,by rw[hix,hin _ hql]; exact d1,d2,d3.evolve hE⟩
     ·rw[List.getElem?_append_right (by simp only[List.length_append,htl]; omega),List.getElem?_drop] at hel
      have he2:o.els[i']?=some el:=by
       rw[← hel]; congr 1; simp only[List.length_append,htl]; omega
      obtain⟨u,u1,u2,u3⟩:=q5 i' j y (by rw[he2]; exact hj)
      have hb1:(lo + n + ns.length) * o.sz≤i' * o.sz:=Nat.mul_le_mul_right _ (by omega)
      rw[Nat.add_mul] at hb1
      exact⟨u,by rw[hgt _ (by rw[n1]; omega)]; exact u1,u2,u3.evolve hE⟩⟩)
  have hup:updG σ id (some (b,bs)) id=some (b,bs):=updG_same _ _ _
  refine⟨_,.slice (some ⟨b,bs + lo * o.sz,none⟩) (n + ns.length) cap,_,_,w.setRow b arr',?_,this.1,this.2,?_,hA⟩
  ·have hcells:=hsrc.cells
   rw[k4] at hcells
   rw[← hSlo] at hst
   simp [Builtin.append_,run_underlying hu,sizeOf,typeInfo,k1,Builtin.lenOf,hroom,hcells,k4,Addr.add_lit,hst]
  ·exact .so ⟨g,true,o.sz,o.els.take (lo + n)++ns++o.els.drop (lo + n + ns.length)⟩ (by simp [(List.getElem?_eq_some_iff.1 ho).1]) (Nat.le_refl _) rfl
    (fun _=>.inr ⟨b,bs,cap,E,arr',hup,setRow_heap w b arr arr' E (0,0) hh,rfl,hroom,by rw[hsize]; exact hfit⟩)
def op2Wp (P:Program) (o:Oper) (e:Env) (s:List Obj) (K:V→List Obj→Prop):Prop :=
 match o.op with
 | .call c=>match c.callee,c.args.toList,c.argTypes.toList with
  | .builtin .append,[a,x],[t,t']=>t=t'∧append2Wp P t (ev e a) (ev e x) s K
  | _,_,_=>opWp P o e s K
 | _=>opWp P o e s K
theorem op2Wp_sound {P:Program} {N:Nat} {o:Oper} {σ:Gh} {s:List Obj} {w:World} {e:Nat→V} {a:Act} {K:V→List Obj→Prop} (hI:Inv σ s w) (hR:RepE σ s w N e a) (h:op2Wp P o e s K):TriOp P o σ s w a K:=by
 unfold op2Wp at h
 split at h
 ·rename_i c hc
  split at h
  ·rename_i x y t t' h0 h1 h2
   obtain⟨dst,op,ty,pos,after,guard⟩:=o
   simp only at hc
   subst hc
   obtain⟨callee,args,argTypes⟩:=c
   simp only at h0 h1 h2
   subst h0
   have e1:args=#[x,y]:=by rw[← h1]
   have e2:argTypes=#[t,t']:=by rw[← h2]
   subst e1 e2
   obtain⟨rfl,h⟩:=h
   obtain⟨v,r,σ',s',w',k1,k2,k3,k4,k5⟩:=append2_sound (ty:=ty) hI (hR.ev x) (hR.ev y) h
   exact tri_value (by simp [execOp,resolve,invoke,builtin,k1]) k2 k3 k4 k5
  ·exact opWp_sound hI hR h
 ·exact opWp_sound hI hR h
def ops2Wp (P:Program) (N:Nat) (full:List Oper):List Oper→Env→List Obj→(Env→List Obj→Prop)→Prop
 | [],e,s,K=>K e s
 | o::rest,e,s,K=>dstOk N o.dst∧match o.guard with
  | none=>op2Wp P o e s fun v s'=>ops2Wp P N full rest (updO e o.dst v) s' K
  | some (g,want)=>guardWp (gslot full g) e want (fun e=>op2Wp P o e s fun v s'=>ops2Wp P N full rest (updO e o.dst v) s' K) (fun e=>ops2Wp P N full rest (updO e o.dst .un) s K)
theorem ops2Wp_sound {P:Program} {N:Nat} {full:List Oper} {σ0:Gh} {s0:List Obj} {w0:World} {Q:Exit→Env→List Obj→Prop}:∀(l:List Oper) (e:Env) (s:List Obj) (σ:Gh) (w:World) (a:Act),
  Evolve σ0 s0 w0 σ s w→Inv σ s w→RepE σ s w N e a→ops2Wp P N full l e s (fun e s=>Q .normal e s)→wpList P full.toArray (QX σ0 s0 w0 N Q) l a w
 | [],e,s,σ,w,a,hE,hI,hR,h=>⟨e,σ,s,hE,hI,hR,h⟩
 | o::rest,e,s,σ,w,a,hE,hI,hR,h=>by
  obtain⟨hd,h⟩:=h
  have run:∀e,RepE σ s w N e a→(op2Wp P o e s fun v s'=>ops2Wp P N full rest (updO e o.dst v) s' fun e s=>Q .normal e s)→o.wp P a w (wpList P full.toArray (QX σ0 s0 w0 N Q) rest) (QX σ0 s0 w0 N Q):=by
   intro e hR h
   refine Oper.wp_mono (fun a' w' ⟨u,v,σ',s',ha,hE',hI',hR',hK⟩=>?_) (Oper.wp_sure (op2Wp_sound hI hR h))
   subst ha
   exact ops2Wp_sound rest _ s' σ' w' _ (hE.trans hE') hI' ((hR.evolve hE').put hd hR') hK
  unfold wpList
  split at h
  ·rename_i hg
   rw[if_pos (by simp [Region.wanted,hg])]
   exact .inl (run e hR h)
  ·rename_i g want hg
   obtain⟨e',hR',⟨h1,h2⟩ | ⟨h1,h2⟩⟩:=guard_spec hR hg h
   ·rw[if_pos h1]; exact .inl (run e' hR' h2)
   ·rw[if_neg (by rw[h1]; decide)]
    exact ops2Wp_sound rest _ s σ w _ hE hI (hR'.put hd .un) h2
def code2Wp (P:Program) (N L M:Nat) (R:List Nat):Code→(Exit→Env→List Obj→Prop)→Env→List Obj→Prop
 | .skip,Q,e,s=>Q .normal e s
 | .region id ops draw,Q,e,s=>match draw with
  | false=>if R.contains id=true then ops2Wp P N ops.toList ops.toList e s fun e s=>Q .normal e s else opsWp P N ops.toList ops.toList e s fun e s=>Q .normal e s
  | true=>drawWp P N ops.toList e s fun e s=>Q .normal e s
 | .seq a b,Q,e,s=>code2Wp P N L M R a (Qseq (code2Wp P N L M R b Q) Q) e s
 | .cond c a b,Q,e,s=>condWp (ev e c) (code2Wp P N L M R a Q (trimE M e) s) (code2Wp P N L M R b Q (trimE M e) s)
 | .block id c,Q,e,s=>code2Wp P N L M R c (Qblk id Q) e s
 | .loop c,Q,e,s=>loopWp L (code2Wp P N L M R c) Q e s
 | .exit id,Q,e,s=>Q (.exit id) e s
 | .ret,Q,e,s=>Q .ret e s
 | _,_,_,_=>False
def cont2 (P:Program) (N:Nat) (full rest:List Oper) (e:Env) (d:Option Nat) (K:Env→List Obj→Prop) (v:V) (s:List Obj):Prop:=ops2Wp P N full rest (updO e d v) s K
theorem cont2_app {P:Program} {N:Nat} {full rest:List Oper} {e:Env} {d:Option Nat} {K:Env→List Obj→Prop} {v:V} {s:List Obj}:cont2 P N full rest e d K v s=ops2Wp P N full rest (updO e d v) s K:=(rfl)
theorem ops2_nil {P:Program} {N:Nat} {full:List Oper} {e:Env} {s:List Obj} {K:Env→List Obj→Prop}:ops2Wp P N full [] e s K=K e s:=(rfl)
theorem ops2_none {P:Program} {N:Nat} {full rest:List Oper} {d:Option Nat} {op:Op} {ty:TypeId} {pos:String} {af:Array Edge} {e:Env} {s:List Obj} {K:Env→List Obj→Prop}:ops2Wp P N full (⟨d,op,ty,pos,af,none⟩::rest) e s K=(dstOk N d∧op2Wp P ⟨d,op,ty,pos,af,none⟩ e s (cont2 P N full rest e d K)):=(rfl)
theorem code2_skip {P:Program} {N L M:Nat} {R:List Nat} {Q:Exit→Env→List Obj→Prop} {e:Env} {s:List Obj}:code2Wp P N L M R .skip Q e s=Q .normal e s:=(rfl)
theorem code2_region {P:Program} {N L M:Nat} {R:List Nat} {Q:Exit→Env→List Obj→Prop} {e:Env} {s:List Obj} {id:Nat} {ops:Array Oper}:code2Wp P N L M R (.region id ops false) Q e s=(if R.contains id=true then ops2Wp P N ops.toList ops.toList e s (Qn Q) else opsWp P N ops.toList ops.toList e s (Qn Q)):=(rfl)
theorem code2_draw {P:Program} {N L M:Nat} {R:List Nat} {Q:Exit→Env→List Obj→Prop} {e:Env} {s:List Obj} {id:Nat} {ops:Array Oper}:code2Wp P N L M R (.region id ops true) Q e s=drawWp P N ops.toList e s (Qn Q):=(rfl)
theorem code2_seq {P:Program} {N L M:Nat} {R:List Nat} {Q:Exit→Env→List Obj→Prop} {e:Env} {s:List Obj} {a b:Code}:code2Wp P N L M R (.seq a b) Q e s=code2Wp P N L M R a (Qseq (code2Wp P N L M R b Q) Q) e s:=(rfl)
theorem code2_cond {P:Program} {N L M:Nat} {R:List Nat} {Q:Exit→Env→List Obj→Prop} {e:Env} {s:List Obj} {c:Operand} {a b:Code}:code2Wp P N L M R (.cond c a b) Q e s=condF (ev e c) (code2Wp P N L M R a Q) (code2Wp P N L M R b Q) (trimE M e) s:=(rfl)
theorem code2_block {P:Program} {N L M:Nat} {R:List Nat} {Q:Exit→Env→List Obj→Prop} {e:Env} {s:List Obj} {id:Nat} {c:Code}:code2Wp P N L M R (.block id c) Q e s=code2Wp P N L M R c (Qblk id Q) e s:=(rfl)
theorem code2_exit {P:Program} {N L M:Nat} {R:List Nat} {Q:Exit→Env→List Obj→Prop} {e:Env} {s:List Obj} {id:Nat}:code2Wp P N L M R (.exit id) Q e s=Q (.exit id) e s:=(rfl)
theorem code2_ret {P:Program} {N L M:Nat} {R:List Nat} {Q:Exit→Env→List Obj→Prop} {e:Env} {s:List Obj}:code2Wp P N L M R .ret Q e s=Q .ret e s:=(rfl)
theorem op2_move {P:Program} {d:Option Nat} {ty:TypeId} {pos:String} {af:Array Edge} {g:Option (Nat × Bool)} {e:Nat→V} {s:List Obj} {K:V→List Obj→Prop} {x:Operand}:op2Wp P ⟨d,.move x,ty,pos,af,g⟩ e s K=opWp P ⟨d,.move x,ty,pos,af,g⟩ e s K:=(rfl)
theorem op2_assign {P:Program} {d:Option Nat} {ty:TypeId} {pos:String} {af:Array Edge} {g:Option (Nat × Bool)} {e:Nat→V} {s:List Obj} {K:V→List Obj→Prop} {x:Operand}:op2Wp P ⟨d,.assign x,ty,pos,af,g⟩ e s K=opWp P ⟨d,.assign x,ty,pos,af,g⟩ e s K:=(rfl)
theorem op2_nil {P:Program} {d:Option Nat} {ty:TypeId} {pos:String} {af:Array Edge} {g:Option (Nat × Bool)} {e:Nat→V} {s:List Obj} {K:V→List Obj→Prop} {x:Operand}:op2Wp P ⟨d,.nilCheck x,ty,pos,af,g⟩ e s K=opWp P ⟨d,.nilCheck x,ty,pos,af,g⟩ e s K:=(rfl)
theorem op2_fieldAddr {P:Program} {d:Option Nat} {ty:TypeId} {pos:String} {af:Array Edge} {g:Option (Nat × Bool)} {e:Nat→V} {s:List Obj} {K:V→List Obj→Prop} {t:TypeId} {x:Operand} {f:Nat}:op2Wp P ⟨d,.fieldAddr t x f,ty,pos,af,g⟩ e s K=opWp P ⟨d,.fieldAddr t x f,ty,pos,af,g⟩ e s K:=(rfl)
theorem op2_load {P:Program} {d:Option Nat} {ty:TypeId} {pos:String} {af:Array Edge} {g:Option (Nat × Bool)} {e:Nat→V} {s:List Obj} {K:V→List Obj→Prop} {t:TypeId} {a:Operand}:op2Wp P ⟨d,.load t a,ty,pos,af,g⟩ e s K=opWp P ⟨d,.load t a,ty,pos,af,g⟩ e s K:=(rfl)
theorem op2_buildSlice {P:Program} {d:Option Nat} {ty:TypeId} {pos:String} {af:Array Edge} {g:Option (Nat × Bool)} {e:Nat→V} {s:List Obj} {K:V→List Obj→Prop} {t:TypeId} {n:Nat} {parts:Array (Nat × Operand)}:op2Wp P ⟨d,.buildSlice t n parts,ty,pos,af,g⟩ e s K=opWp P ⟨d,.buildSlice t n parts,ty,pos,af,g⟩ e s K:=(rfl)
theorem op2_indexAddr {P:Program} {d:Option Nat} {ty:TypeId} {pos:String} {af:Array Edge} {g:Option (Nat × Bool)} {e:Nat→V} {s:List Obj} {K:V→List Obj→Prop} {t:TypeId} {x i:Operand}:op2Wp P ⟨d,.indexAddr t x i,ty,pos,af,g⟩ e s K=opWp P ⟨d,.indexAddr t x i,ty,pos,af,g⟩ e s K:=(rfl)
theorem op2_bin {P:Program} {d:Option Nat} {ty:TypeId} {pos:String} {af:Array Edge} {g:Option (Nat × Bool)} {e:Nat→V} {s:List Obj} {K:V→List Obj→Prop} {op:BinOp} {t t':TypeId} {x y:Operand}:op2Wp P ⟨d,.binOp op t x y t',ty,pos,af,g⟩ e s K=opWp P ⟨d,.binOp op t x y t',ty,pos,af,g⟩ e s K:=(rfl)
theorem op2_unop {P:Program} {d:Option Nat} {ty:TypeId} {pos:String} {af:Array Edge} {g:Option (Nat × Bool)} {e:Nat→V} {s:List Obj} {K:V→List Obj→Prop} {op:UnOp} {t:TypeId} {x:Operand}:op2Wp P ⟨d,.unOp op t x,ty,pos,af,g⟩ e s K=opWp P ⟨d,.unOp op t x,ty,pos,af,g⟩ e s K:=(rfl)
theorem op2_store {P:Program} {d:Option Nat} {ty:TypeId} {pos:String} {af:Array Edge} {g:Option (Nat × Bool)} {e:Nat→V} {s:List Obj} {K:V→List Obj→Prop} {t:TypeId} {a x:Operand}:op2Wp P ⟨d,.store t a x,ty,pos,af,g⟩ e s K=opWp P ⟨d,.store t a x,ty,pos,af,g⟩ e s K:=(rfl)
theorem op2_call {P:Program} {d:Option Nat} {ty:TypeId} {pos:String} {af:Array Edge} {g:Option (Nat × Bool)} {e:Nat→V} {s:List Obj} {K:V→List Obj→Prop} {f:Operand} {args:Array Operand} {tys:Array TypeId}:op2Wp P ⟨d,.call ⟨.value f,args,tys⟩,ty,pos,af,g⟩ e s K=opWp P ⟨d,.call ⟨.value f,args,tys⟩,ty,pos,af,g⟩ e s K:=(rfl)
theorem op2_len {P:Program} {d:Option Nat} {ty:TypeId} {pos:String} {af:Array Edge} {g:Option (Nat × Bool)} {e:Nat→V} {s:List Obj} {K:V→List Obj→Prop} {x:Operand} {t:TypeId}:op2Wp P ⟨d,.call ⟨.builtin .len,#[x],#[t]⟩,ty,pos,af,g⟩ e s K=opWp P ⟨d,.call ⟨.builtin .len,#[x],#[t]⟩,ty,pos,af,g⟩ e s K:=(rfl)
theorem op2_append {P:Program} {d:Option Nat} {ty:TypeId} {pos:String} {af:Array Edge} {g:Option (Nat × Bool)} {e:Nat→V} {s:List Obj} {K:V→List Obj→Prop} {a x:Operand} {t t':TypeId}:op2Wp P ⟨d,.call ⟨.builtin .append,#[a,x],#[t,t']⟩,ty,pos,af,g⟩ e s K=(t=t'∧append2Wp P t (ev e a) (ev e x) s K):=(rfl)
theorem c2L:type_of% (And.intro @cont2_app<|And.intro @ops2_nil<|And.intro @ops2_none<|And.intro @code2_skip<|And.intro @code2_region<|And.intro @code2_draw<|And.intro @code2_seq<|And.intro @code2_cond<|And.intro @code2_block<|And.intro @code2_exit<|And.intro @code2_ret<|And.intro @op2_move<|And.intro @op2_assign<|And.intro @op2_nil<|And.intro @op2_fieldAddr<|And.intro @op2_load<|And.intro @op2_buildSlice<|And.intro @op2_indexAddr<|And.intro @op2_bin<|And.intro @op2_unop<|And.intro @op2_store<|And.intro @op2_call<|And.intro @op2_len @op2_append):=(And.intro @cont2_app<|And.intro @ops2_nil<|And.intro @ops2_none<|And.intro @code2_skip<|And.intro @code2_region<|And.intro @code2_draw<|And.intro @code2_seq<|And.intro @code2_cond<|And.intro @code2_block<|And.intro @code2_exit<|And.intro @code2_ret<|And.intro @op2_move<|And.intro @op2_assign<|And.intro @op2_nil<|And.intro @op2_fieldAddr<|And.intro @op2_load<|And.intro @op2_buildSlice<|And.intro @op2_indexAddr<|And.intro @op2_bin<|And.intro @op2_unop<|And.intro @op2_store<|And.intro @op2_call<|And.intro @op2_len @op2_append)
theorem seq_join3 {P:Program} {N L M:Nat} {R:List Nat} {a b:Code} {Q:Exit→Env→List Obj→Prop} {e:Env} {s:List Obj} (J:Env→List Obj→Prop) (h1:∀(B:Env→List Obj→Prop),(∀e s,J e s→B e s)→code2Wp P N L M R a (Qseq B Q) e s) (h2:∀e s,J e s→code2Wp P N L M R b Q e s):code2Wp P N L M R (.seq a b) Q e s:=h1 _ h2
theorem loop2_rule {P:Program} {N L M:Nat} {R:List Nat} {c:Code} {Q:Exit→Env→List Obj→Prop} {e:Env} {s:List Obj} (I:Nat→Env→List Obj→Prop) (h0:∃n e1 s1,Cln L e s e1 s1∧I n e1 s1) (h:∀n e s,I n e s→code2Wp P N L M R c (Qseq (Lnext L I n) Q) e s) :
  code2Wp P N L M R (.loop c) Q e s:=⟨I,h0,h⟩
theorem code2Wp_sound {P:Program} {N L M:Nat} {R:List Nat} {σ0:Gh} {s0:List Obj} {w0:World} (hL:s0.length≤L):∀(c:Code) (Q:Exit→Env→List Obj→Prop) (e:Env) (s:List Obj) (σ:Gh) (w:World) (a:Act),
  Evolve σ0 s0 w0 σ s w→Inv σ s w→RepE σ s w N e a→code2Wp P N L M R c Q e s→c.wp P (QX σ0 s0 w0 N Q) a w
 | .skip,Q,e,s,σ,w,a,hE,hI,hR,h=>wp_skip ⟨e,σ,s,hE,hI,hR,h⟩
 | .region id ops false,Q,e,s,σ,w,a,hE,hI,hR,h=>by
  refine wp_region_list ?_
  simp only[code2Wp] at h
  split at h
  ·have:=ops2Wp_sound (Q:=Q) ops.toList e s σ w a hE hI hR h
   simpa using this
  ·have:=opsWp_sound (Q:=Q) ops.toList e s σ w a hE hI hR h
   simpa using this
 | .region id ops true,Q,e,s,σ,w,a,hE,hI,hR,h=>by
  have:=h σ0 s0 w0 Q (fun _ _ h=>h) σ w a id hE hI hR
  simpa using this
 | .seq x y,Q,e,s,σ,w,a,hE,hI,hR,h=>by
  refine wp_seq (wp_mono (code2Wp_sound hL x _ e s σ w a hE hI hR h) fun ex a' w' ⟨e',σ',s',hE',hI',hR',hq⟩=>?_)
  cases ex with
  | normal=>exact code2Wp_sound hL y Q e' s' σ' w' a' hE' hI' hR' hq
  | _=>exact⟨e',σ',s',hE',hI',hR',hq⟩
 | .cond c x y,Q,e,s,σ,w,a,hE,hI,hR,h=>by
  simp only[code2Wp,condWp] at h
  split at h
  ·rename_i hb
   have hc:=hR.ev c
   rw[hb] at hc
   generalize hcv:a.eval c=cv' at hc
   cases hc with | d hc=>?_
   cases hc with | ub b=>?_
   refine wp_cond_split hcv (fun ht=>?_) (fun hf=>?_)
   ·exact code2Wp_sound hL x Q _ s σ w a hE hI hR.trim h.1
   ·exact code2Wp_sound hL y Q _ s σ w a hE hI hR.trim h.2
  unfold boolWp at h
  split at h
  ·rename_i b hb
   have hc:=hR.ev c
   rw[hb] at hc
   generalize hcv:a.eval c=cv' at hc
   cases hc with | d hc=>?_
   cases hc with | sc _ _=>?_
   refine wp_cond_split hcv (fun ht=>?_) (fun hf=>?_)
   ·exact code2Wp_sound hL x Q _ s σ w a hE hI hR.trim (h.1 ht)
   ·exact code2Wp_sound hL y Q _ s σ w a hE hI hR.trim (h.2 hf)
  ·exact h.elim
 | .block id c,Q,e,s,σ,w,a,hE,hI,hR,h=>by
  refine wp_block (wp_mono (code2Wp_sound hL c _ e s σ w a hE hI hR h) fun ex a' w' ⟨e',σ',s',hE',hI',hR',hq⟩=>?_)
  cases ex with
  | exit i =>
   simp only[Exit.inBlock]
   simp only[Qblk] at hq
   split
   ·rename_i hi; rw[if_pos hi] at hq; exact⟨e',σ',s',hE',hI',hR',hq⟩
   ·rename_i hi; rw[if_neg hi] at hq; exact⟨e',σ',s',hE',hI',hR',hq⟩
  | _=>exact⟨e',σ',s',hE',hI',hR',hq⟩
 | .loop c,Q,e,s,σ,w,a,hE,hI,hR,h=>by
  obtain⟨I,⟨n0,e0,s0',hc0,h0⟩,hstep⟩:=h
  obtain⟨σ,hE,hI,hR⟩:=hc0 σ0 s0 w0 σ w N a hL hE hI hR
  let J:Nat→Act→World→Prop:=fun n a w=>∃e σ s,Evolve σ0 s0 w0 σ s w∧Inv σ s w∧RepE σ s w N e a∧I n e s
  have least:∀a w,(∃n,J n a w)→∃n,J n a w∧∀m,J m a w→n≤m:=by
   intro a w ⟨n,hn⟩
   induction n using Nat.strongRecOn with
   | _ n ih =>
    by_cases hm:∃m,m < n∧J m a w
    ·obtain⟨m,hm1,hm2⟩:=hm; exact ih m hm1 hm2
    ·exact⟨n,hn,fun m hj=>by
      rcases Nat.lt_or_ge m n with h' | h'
      ·exact absurd ⟨m,h',hj⟩ hm
      ·exact h'⟩
  classical
  let μ:Act→World→Nat:=fun a w=>if h:∃n,J n a w then Classical.choose (least a w h) else 0
  have hμ:∀a w,(∃n,J n a w)→J (μ a w) a w∧∀m,J m a w→μ a w≤m:=by
   intro a w h
   simp only[μ,dif_pos h]
   exact Classical.choose_spec (least a w h)
  refine wp_loop (fun a w=>∃n,J n a w) μ ⟨n0,e0,σ,s0',hE,hI,hR,h0⟩ fun a w hJ=>?_
  obtain⟨⟨e1,σ1,s1,hE1,hI1,hR1,hi⟩,_⟩:=hμ a w hJ
  refine wp_mono (code2Wp_sound hL c _ e1 s1 σ1 w a hE1 hI1 hR1 (hstep _ _ _ hi)) fun ex a' w' ⟨e',σ',s',hE',hI',hR',hq⟩=>?_
  cases ex with
  | normal =>
   obtain⟨m,e2,s2,hm,hc,hi'⟩:=hq
   obtain⟨σ',hE',hI',hR'⟩:=hc σ0 s0 w0 σ' w' N a' hL hE' hI' hR'
   have hj:J m a' w':=⟨e2,σ',s2,hE',hI',hR',hi'⟩
   exact⟨⟨m,hj⟩,Nat.lt_of_le_of_lt ((hμ a' w' ⟨m,hj⟩).2 m hj) hm⟩
  | _=>exact⟨e',σ',s',hE',hI',hR',hq⟩
 | .exit id,Q,e,s,σ,w,a,hE,hI,hR,h=>wp_exit ⟨e,σ,s,hE,hI,hR,h⟩
 | .ret,Q,e,s,σ,w,a,hE,hI,hR,h=>wp_ret ⟨e,σ,s,hE,hI,hR,h⟩
 | .rangeFunc ..,_,_,_,_,_,_,_,_,_,h=>h.elim
 | .scope _,_,_,_,_,_,_,_,_,_,h=>h.elim
 | .label _,_,_,_,_,_,_,_,_,_,h=>h.elim
 | .goto _,_,_,_,_,_,_,_,_,_,h=>h.elim
 | .refuse _,_,_,_,_,_,_,_,_,_,h=>h.elim
theorem fn_ok2 {P : Program} {f : FuncId} {fn : Func} {c : Code} {args : List V} {exts : List Obj} {K : V → List Obj → Prop} (hf : P.funcs[f]? = some fn) (hb : fn.body = some c) {N : Nat} (hN : fn.ntmps = N) {rs : Array ResultVar} (hrs : fn.results = rs) (hn : (fn.name != "runtime.NumGoroutine") = true)
  (lim M:Nat) (R:List Nat) (hl:exts.length≤lim) (ha:args.length≤N)
  (h:code2Wp P N lim M R c (Qfin P rs.toList lim K) (envOf args) exts):callWp P f args exts K:=by
 subst hN; subst hrs
 refine⟨by simp only[okFn,hf,hn,hb,Option.isSome_some,Bool.and_self],fun σ w vals hI hvl hv=>?_⟩
 refine calls_of_wp hf hb ?_
 have hR:RepE σ exts w fn.ntmps (envOf args) { tmps:=vals++Array.replicate (fn.ntmps - vals.size) undef,defers:=[] }:=by
  refine⟨rfl,by simp; omega,fun t=>?_⟩
  rw[envOf_get]
  by_cases ht:t < args.length
  ·have h1:=hv t args[t] (by simp [ht])
   have:(vals++Array.replicate (fn.ntmps - vals.size) undef).getD t undef=vals.getD t undef:=by
    rw[Array.getD_eq_getD_getElem?,Array.getElem?_append_left (by omega),Array.getD_eq_getD_getElem?]
   rw[this]
   simpa [ht] using h1
  ·have:(vals++Array.replicate (fn.ntmps - vals.size) undef).getD t undef=undef:=by
    rw[Array.getD_eq_getD_getElem?,Array.getElem?_append_right (by omega),Array.getElem?_replicate]
    split <;> rfl
   rw[this]
   simp [ht]
   exact .un
 refine wp_mono (code2Wp_sound hl c _ (envOf args) exts σ w _ (Evolve.refl _ _ _) hI hR h) fun ex a' w' ⟨e',σ',s',hE,hI',hR',hex,hq⟩=>?_
 obtain⟨v,u,k1,k2,k3⟩:=resWp_sound hI' hR' hq
 obtain⟨h1,h2⟩:=k3
 have fin:a'.defers=[]∧∃v,(results fn a'.tmps).run P w'=.ok v w'∧∃u v_1 σ'_1 s'_1,Ending.returned v=.returned u∧Evolve σ exts w σ'_1 s'_1 w'∧Inv σ'_1 s'_1 w'∧RepV σ'_1 s'_1 w' v_1 u∧K v_1 s'_1:=by
  refine⟨hR'.1,u,k1,?_⟩
  split at h2
  ·rename_i r' hr'
   exact⟨u,r',σ',s'.take lim,rfl,hE.take hl,hI'.take h1,frzV_spec hI' k2 hr',h2⟩
  ·exact h2.elim
 rcases Qend_spec hex with rfl | rfl
 ·exact fin
 ·exact fin
end Go.VL
