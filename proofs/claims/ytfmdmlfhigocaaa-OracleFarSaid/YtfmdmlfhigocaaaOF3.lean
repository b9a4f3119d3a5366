/- A part of the proof (Vg Vh). -/
import Derived.Test.YtfmdmlfhigocaaaOF2
set_option linter.unusedSimpArgs false
set_option linter.unusedVariables false
set_option maxRecDepth 100000
set_option maxHeartbeats 80000000
namespace Go.VL
def EW:V->Option Int
 |.d (.sc (.int _ n))=>some n
 |_=>none
theorem AJ {σ:Gh}{s:List Obj}{w:World}{x:V}{u:Value}{n:Int} (hr:aw σ s w x u) (h:EW x=some n):∃k,u=.int k n:=by
 unfold EW at h
 split at h
 ·simp only[Option.some.injEq]at h
  subst h
  cases hr with|d hr=>?_
  cases hr with|sc _ _=>exact⟨_,rfl⟩
 ·cases h
def fV (s:List Obj):V->Option (List (List V))
 |.d (.sl au)=>some (au.map (·.map .d))
 |.fu au=>some (au.map (·.map .d))
 |.so id g lo n=>match s[id]? with
  |some o=>if o.g=g/\lo+n<=o.au.length then some ((o.au.drop lo).take n) else none
  |none=>none
 |_=>none
theorem J3 {au:List (List D)}{i j:Nat}{x:V} (h:((au.map (·.map V.d))[i]?.bind (·[j]?))=some x):∃y,x=.d y/\(au[i]?.bind (·[j]?))=some y:=by
 rw[List.getElem?_map]at h
 cases he:au[i]? with
 |none=>rw[he]at h;cases h
 |some e =>
  rw[he]at h
  simp only[Option.map_some,Option.bind_some,List.getElem?_map]at h
  obtain⟨y,hy,rfl⟩:=Option.map_eq_some_iff.1 h
  exact⟨y,rfl,hy⟩
theorem g8 {σ:Gh}{s:List Obj}{w:World} (hI:Inv σ s w) {x:V}{u:Value}{es:List (List V)} (hr:aw σ s w x u) (h:fV s x=some es) {z:Nat} (hz:∀e∈es,e.length=z) :
  ∃a cap,u=.slice a es.length cap/\(a=none->es=[])/\es.length<=cap/\∃news:List Value,news.length=es.length*z/\(∀c∈news,c.oneCell'=true) /\
   (∀ad,a=some ad->∀(j:Nat) (c:Value),news[j]?=some c->w.cell? (ad.add j)=some c) /\
   ∀(i j:Nat) (y:V),(es[i]?.bind (·[j]?))=some y->∃c,news[i*z+j]?=some c/\c.oneCell'=true/\aw σ s w y c:=by
 -- from cells T4 Zq there
 have key:∀(a:Option Addr) (cap:Nat),(a=none->es=[])->es.length<=cap->(es≠[]->∃ad,a=some ad/\ad.spot=none/\∀(i j:Nat) (y:V),(es[i]?.bind (·[j]?))=some y ->
    ∃c,w.cell? ⟨ad.block,ad.off+i*z+j,none⟩=some c/\c.oneCell'=true/\aw σ s w y c) ->
   ∃a' lY,Value.slice a es.length cap=.slice a' es.length lY/\(a'=none->es=[])/\es.length<=lY/\∃news:List Value,news.length=es.length*z/\(∀c∈news,c.oneCell'=true) /\
    (∀ad,a'=some ad->∀(j:Nat) (c:Value),news[j]?=some c->w.cell? (ad.add j)=some c) /\
    ∀(i j:Nat) (y:V),(es[i]?.bind (·[j]?))=some y->∃c,news[i*z+j]?=some c/\c.oneCell'=true/\aw σ s w y c:=by
  intro a cap h1 h2 h3
  refine⟨a,cap,rfl,h1,h2,?_⟩
  by_cases eF:es=[]
  ·subst eF
   exact⟨[],by simp,by simp,by simp,by simp⟩
  ·obtain⟨ad,rfl,mm,hc⟩:=h3 eF
   have hdiv:∀p,p<es.length*z->0<z/\p / z<es.length/\p / z*z+p % z=p/\p % z<z:=by
    intro p hp
    have VP:0<z:=by
     rcases Nat.eq_zero_or_pos z with h'|h'
     ·subst h';simp at hp
     ·exact h'
    refine⟨VP,?_,by rw[Nat.mul_comm];exact Nat.div_add_mod p z,Nat.mod_lt _ VP⟩
    rw[Nat.div_lt_iff_lt_mul VP];exact hp
   have QP:∀p,p<es.length*z->∃y,(es[p / z]?.bind (·[p % z]?))=some y:=by
    intro p hp
    obtain⟨g1,g2,g3,g4⟩:=hdiv p hp
    have vO:(es[p / z]'g2).length=z:=hz _ (List.getElem_mem g2)
    exact⟨(es[p / z]'g2)[p % z]'(by omega),by simp [g2,vO,g4]⟩
   have nL:∀p,p<es.length*z->∃c,w.cell? ⟨ad.block,ad.off+p,none⟩=some c/\c.oneCell'=true:=by
    intro p hp
    obtain⟨y,hy⟩:=QP p hp
    obtain⟨c,k1,k2,_⟩:=hc _ _ y hy
    exact⟨c,by rw[<- k1,Nat.add_assoc,(hdiv p hp).2.2.1],k2⟩
   refine⟨(List.range (es.length*z)).map fun p=>(w.cell? ⟨ad.block,ad.off+p,none⟩).getD undef,by simp,?_,?_,?_⟩
   ·intro c HS
    obtain⟨p,hp,rfl⟩:=List.mem_map.1 HS
    obtain⟨c,k1,k2⟩:=nL p (by simpa using hp)
    rw[k1];exact k2
   ·intro Zx Mv j c hj
    cases Mv
    rw[List.getElem?_map]at hj
    obtain⟨p,hp,rfl⟩:=Option.map_eq_some_iff.1 hj
    have az:j<es.length*z:=by simpa using (List.getElem?_eq_some_iff.1 hp).1
    obtain rfl:p=j:=by
     have:=(List.getElem?_eq_some_iff.1 hp).2
     simpa using this.symm
    obtain⟨c,k1,_⟩:=nL p az
    rw[e8 mm,k1];rfl
   ·intro i j y hy
    obtain⟨c,k1,k2,k3⟩:=hc i j y hy
    refine⟨c,?_,k2,k3⟩
    have QJ:i*z+j<es.length*z:=by
     cases he:es[i]? with
     |none=>rw[he]at hy;cases hy
     |some e =>
      rw[he]at hy
      have hj:=(List.getElem?_eq_some_iff.1 hy).1
      rw[hz e (List.mem_of_getElem? he)]at hj
      have:=Nat.mul_le_mul_right z (show i+1<=es.length from (List.getElem?_eq_some_iff.1 he).1)
      rw[Nat.add_mul,Nat.one_mul]at this
      omega
    rw[List.getElem?_map,List.getElem?_range QJ]
    simp only[Option.map_some]
    rw[<- Nat.add_assoc,k1]
    rfl
 have AF:∀(au:List (List D)) (a:Option Addr) (n cap:Nat),cu (Own σ s) w (.sl au) (.slice a n cap)->es=au.map (·.map .d)->n=es.length/\(a=none->es=[])/\es.length<=cap /\
   (es≠[]->∃ad,a=some ad/\ad.spot=none/\∀(i j:Nat) (y:V),(es[i]?.bind (·[j]?))=some y ->
    ∃c,w.cell? ⟨ad.block,ad.off+i*z+j,none⟩=some c/\c.oneCell'=true/\aw σ s w y c):=by
  intro au a n cap hd he
  subst he
  cases hd with
  |nil=>simp
  |sl _ ad _ sz f h1 h2 h3 h4 h5 =>
   refine⟨by simp,by simp,by simpa using h1,fun eF=>⟨ad,rfl,h2 (by intro h';subst h';simp at eF),fun i j y hy=>?_⟩⟩
   obtain⟨y',rfl,Pf⟩:=J3 hy
   have fo:sz=z:=by
    cases yM:au[i]? with
    |none=>rw[yM]at Pf;cases Pf
    |some e =>
     have:=h3 e (List.mem_of_getElem? yM)
     have OM:=hz (e.map .d) (List.mem_map.2 ⟨e,List.mem_of_getElem? yM,rfl⟩)
     simp at OM
     omega
   subst fo
   exact⟨f i j,(h4 i j y' Pf).1,(h5 i j y' Pf).one,.d (h5 i j y' Pf)⟩
 unfold fV at h
 split at h
 ·simp only[Option.some.injEq]at h
  cases hr with|d hr=>?_
  have hu:∃a n cap,u=.slice a n cap:=by cases hr <;> exact⟨_,_,_,rfl⟩
  obtain⟨a,n,cap,rfl⟩:=hu
  obtain⟨rfl,e2,e3,e4⟩:=AF _ a n cap hr h.symm
  exact key a cap e2 e3 e4
 ·simp only[Option.some.injEq]at h
  cases hr with|fu hr=>?_
  obtain⟨e1,e2,e3,e4⟩:=AF _ _ _ _ hr h.symm
  rw[e1]
  exact key _ _ e2 (by omega) e4
 ·rename_i id g lo n
  split at h
  case h_2=>cases h
  rename_i o ho
  split at h
  case isFalse=>cases h
  rename_i hc
  simp only[Option.some.injEq]at h
  subst h
  have hlen:((o.au.drop lo).take n).length=n:=by simp;omega
  cases hr with|so o' gE hg hu hk=>?_
  rw[ho]at gE;cases gE
  rcases hk hc.1 with ⟨_,⟨a,rfl⟩,rfl,rfl⟩|⟨b,base,cap,E,arr,g1,g2,rfl,g4,g5⟩
  ·have:=key a 0 (by simp) (by simp) (by simp)
   simp only[List.take_zero]at this ⊢
   exact this
  ·have:=key (some ⟨b,base+lo*o.sz,none⟩) cap (by simp) (by omega) (fun eF=>⟨_,rfl,rfl,fun i j y hy=>?_⟩)
   ·rw[hlen]at this ⊢;exact this
   ·have hi:i<n/\(o.au[lo+i]?.bind (·[j]?))=some y:=by
     rw[List.getElem?_take]at hy
     split at hy
     ·rw[List.getElem?_drop]at hy;exact⟨by assumption,hy⟩
     ·cases hy
    rcases hI.content _ o ho with h1|⟨b',bp,b9,E',h1,h2,h3,h4,h5⟩
    ·exact(h1.xr g1 ⟨arr,E,g2⟩).elim
    ·rw[g1]at h1;cases h1
     rw[g2]at h2;cases h2
     have fo:o.sz=z:=by
      cases yM:o.au[lo+i]? with
      |none=>rw[yM]at hi;cases hi.2
      |some e =>
       have e1:=h3 e (List.mem_of_getElem? yM)
       have e2:=hz e (List.mem_of_getElem? (i:=i) (by rw[List.getElem?_take,if_pos hi.1,List.getElem?_drop];exact yM))
       omega
     subst fo
     obtain⟨c,k1,k2,k3⟩:=h5 (lo+i) j y hi.2
     refine⟨c,?_,k2,k3⟩
     simp only[World.cell?,g2]
     rw[Nat.add_mul]at k1
     simpa [Nat.add_assoc]using k1
 ·cases h
def cP (P:Program) (t:TypeId) (a x:V) (s:List Obj) (K:V->List Obj->Prop):Prop :=
 match gm P t with
 |none=>False
 |some (_,i)=>match fV s x with
  |none=>False
  |some ns=>((∀e∈ns,e.length=i.sz)/\0<i.sz/\0<i.yW)/\match a with
   |.fu au=>match au,x with
    |_::_,.d (.sl ds)=>((au.length+ds.length)*i.yW<=140737488355328/\∀e∈au,e.length=i.sz)/\K (.d (.sl (au++ds))) s
    |_,_=>((au=[]\/0<ns.length)/\(au.length+ns.length)*i.yW<=140737488355328/\∀e∈au,e.length=i.sz) /\
      K (.so s.length 0 0 (au.length+ns.length)) (s++[⟨0,true,i.sz,au.map (·.map .d)++ns⟩])
   |.so id g lo n=>rj s id g fun o=>(o.live=true/\o.sz=i.sz/\lo+n<=o.au.length/\(n+ns.length)*i.yW<=140737488355328) /\
     K (.so id (g+1) 0 (n+ns.length)) (s.set id ⟨g+1,true,i.sz,(o.au.drop lo).take n++ns⟩)
   |_=>False
theorem qe {σ:Gh}{s:List Obj}{w:World}{z:Nat}{es ns:List (List V)}{jP news:List Value} (ho:jP.length=es.length*z)
  (h1:∀(i j:Nat) (y:V),(es[i]?.bind (·[j]?))=some y->∃c,jP[i*z+j]?=some c/\c.oneCell'=true/\aw σ s w y c)
  (h2:∀(i j:Nat) (y:V),(ns[i]?.bind (·[j]?))=some y->∃c,news[i*z+j]?=some c/\c.oneCell'=true/\aw σ s w y c) :
  ∀(i j:Nat) (y:V),((es++ns)[i]?.bind (·[j]?))=some y->∃c,(jP++news)[i*z+j]?=some c/\c.oneCell'=true/\aw σ s w y c:=by
 intro i j y hy
 by_cases hi:i<es.length
 ·rw[List.getElem?_append_left hi]at hy
  obtain⟨c,k1,k2,k3⟩:=h1 i j y hy
  refine⟨c,?_,k2,k3⟩
  rw[List.getElem?_append_left (by
   have:=(List.getElem?_eq_some_iff.1 k1).1
   exact this)]
  exact k1
 ·rw[List.getElem?_append_right (by omega)]at hy
  obtain⟨c,k1,k2,k3⟩:=h2 _ j y hy
  refine⟨c,?_,k2,k3⟩
  have hmul:i*z=es.length*z+(i-es.length)*z:=by
   rw[<- Nat.add_mul];congr 1;omega
  rw[List.getElem?_append_right (by rw[ho,hmul];omega),<- k1]
  congr 1
  rw[ho,hmul]
  omega
theorem A0 {l:List Value}{arr:Array Value}{p:Nat}{c:Value} (h:l[p]?=some c):(l.toArray++arr)[p]?=some c:=by
 have az:=(List.getElem?_eq_some_iff.1 h).1
 rw[Array.getElem?_append_left (by simpa using az)]
 simpa using h
theorem kT {P:Program}{t ty e:TypeId}{ti:TypeInfo} (hu:P.underlying t=some (.slice e)) (hi:P.info? e=some ti) {w:World}{ux:Value} (hs:Src P ti.size t ux 0 [] w)
  (base:Option Addr) (n cap:Nat) (h:n<=cap):(Builtin.append_ #[t,t] ty #[.slice base n cap,ux]).run P w=.ok (.slice base n cap) w:=by
 cases base <;> simp [Builtin.append_,run_underlying hu,sizeOf,typeInfo,hi,hs.len,h,hs.cells,storeCells]
theorem Cj {P:Program}{t ty:TypeId}{a x:V}{ua ux:Value}{σ:Gh}{s:List Obj}{w:World}{K:V->List Obj->Prop} (hI:Inv σ s w) (ha:aw σ s w a ua) (hx:aw σ s w x ux)
  (h:cP P t a x s K):∃v r σ' s' w',(Builtin.append_ #[t,t] ty #[ua,ux]).run P w=.ok r w'/\aA σ s w σ' s' w'/\Inv σ' s' w'/\aw σ' s' w' v r/\K v s':=by
 unfold cP at h
 split at h
 ·exact h.elim
 rename_i e i hti
 obtain⟨hu,hi⟩:=iZ hti
 split at h
 ·exact h.elim
 rename_i ns sy
 obtain⟨⟨hz,cG,SQ⟩,h⟩:=h
 obtain⟨ti,d,z,k1,k2,k3,k4,k5,k6,k7,k8,k9⟩:=fA hi
 obtain⟨ax,sB,rfl,zd,PR,news,n1,n2,n3,n4⟩:=g8 hI hx sy hz
 have Ga:z.cells.size=i.sz:=by rw[<- Array.length_toList,k6,k7]
 have rU:Src P ti.size t (.slice ax ns.length sB) ns.length news w:=by
  rw[k4]
  cases ax with
  |none =>
   have:ns=[]:=zd rfl
   subst this
   have hn:news=[]:=List.eq_nil_of_length_eq_zero (by simpa using n1)
   subst hn
   exact Src.ofNil w hu sB
  |some ad=>exact Src.ofSlice w hu ad ns.length sB news n1 (n3 ad rfl) n2
 -- it SL
 have grow:∀(es:List (List V)) (base:Option Addr) (cap:Nat) (jP:List Value),jP.length=es.length*i.sz->(base=none->es=[])->(∀e∈es,e.length=i.sz) ->
   (∀ad,base=some ad->∀(j:Nat) (c:Value),jP[j]?=some c->w.cell? (ad.add j)=some c) ->
   (∀(i' j:Nat) (y:V),(es[i']?.bind (·[j]?))=some y->∃c,jP[i'*i.sz+j]?=some c/\c.oneCell'=true/\aw σ s w y c) ->
   cap<es.length+ns.length->(es.length+ns.length)*i.yW<=140737488355328 ->
   ∃(arr:Array Value) (lY:Nat),(Builtin.append_ #[t,t] ty #[.slice base es.length cap,.slice ax ns.length sB]).run P w=.ok (.slice (some ⟨w.heap.size,0,none⟩) (es.length+ns.length) lY) (w.drew.alloc (.cells arr e)) /\
    es.length+ns.length<=lY/\arr.size=lY*i.sz /\
    ∀(i' j:Nat) (y:V),((es++ns)[i']?.bind (·[j]?))=some y->∃c,arr[i'*i.sz+j]?=some c/\c.oneCell'=true/\aw σ s w y c:=by
  intro es base cap jP o1 o2 o3 o4 o5 xp Ve
  have hold:(Builtin.firstCells ti.size es.length (.slice base es.length cap)).run P w.drew=.ok jP.toArray w.drew:=by
   rw[k4]
   cases base with
   |none =>
    have:es=[]:=o2 rfl
    subst this
    have hn:jP=[]:=List.eq_nil_of_length_eq_zero (by simpa using o1)
    subst hn
    exact run_firstCells_none w.drew i.sz 0 0 cap
   |some ad=>exact run_firstCells_some w.drew i.sz es.length ad es.length cap jP o1 (by simpa using o4 ad rfl)
  have hle:es.length+ns.length<=(es.length+ns.length)*i.yW:=Nat.le_mul_of_pos_right _ SQ
  have dI:=run_append_grow_src (P:=P) w t t ty e ti z hu k1 k3 base es.length cap jP hold (.slice ax ns.length sB) ns.length news rU xp (by omega) (growslice_fits xp (by rw[k5];exact Ve))
  have ib:=grownCap_ge w (es.length+ns.length) cap e
  refine⟨_,_,dI,ib,?_,?_⟩
  ·simp only[Array.size_append,List.size_toArray,size_zeroCells,List.length_append,o1,n1,Ga]
   rw[<- Nat.add_mul,<- Nat.add_mul]
   congr 1
   omega
  ·intro i' j y hy
   obtain⟨c,c1,c2,c3⟩:=qe o1 o5 n4 i' j y hy
   exact⟨c,A0 c1,c2,c3⟩
 have LI:∀(es:List (List V)),(∀e∈es,e.length=i.sz)->∀e∈es++ns,e.length=i.sz:=by
  intro es Ay e he
  rcases List.mem_append.1 he with h'|h'
  ·exact Ay e h'
  ·exact hz e h'
 obtain⟨Mc,ON⟩:=mc hI
 split at h
 ·
  rename_i au
  have fv:fV s (.fu au)=some (au.map (·.map .d)):=rfl
  have Rd:(∀e∈au,e.length=i.sz)->∀e∈au.map (·.map V.d),e.length=i.sz:=by
   intro hh e he
   obtain⟨e',wN,rfl⟩:=List.mem_map.1 he
   simpa using hh e' wN
  split at h
  ·
   rename_i d0 uK ds
   obtain⟨⟨hb,hl⟩,h⟩:=h
   have I7:ns=ds.map (·.map .d):=by simpa [fV]using sy.symm
   obtain⟨base,cap,zr,a1,a2,jP,o1,o2,o3,o4⟩:=g8 hI ha fv (Rd hl)
   have FW:cap=(d0::uK).length:=by
    cases ha with|fu ha=>?_
    simp only[Value.slice.injEq]at zr
    omega
   subst zr
   have kY:((d0::uK).map (·.map V.d)).length=(d0::uK).length:=by simp
   by_cases hm:ns.length=0
   ·have Rx:ds=[]:=by
     rw[I7]at hm
     simpa using hm
    subst Rx
    have fl:ns=[]:=by simpa using I7
    subst fl
    have xf:news=[]:=List.eq_nil_of_length_eq_zero (by simpa using n1)
    subst xf
    cases base with
    |none=>simp at a1
    |some ad =>
     refine⟨_,.slice (some ad) ((d0::uK).map (·.map V.d)).length cap,σ,s,w,kT hu k1 rU _ _ _ (by simp [FW]),aA.refl _ _ _,hI,?_,h⟩
     ·rw[List.append_nil]
      exact .d (lZ ha rfl)
   ·obtain⟨arr,lY,g1,g2,g3,g4⟩:=grow ((d0::uK).map (·.map .d)) base cap jP o1 a1 (Rd hl) o3 o4 (by rw[kY];omega) (by rw[kY,I7];simpa using hb)
    obtain⟨hE,im⟩:=AD ON (.cells arr e)
    refine⟨_,_,σ,s,_,g1,Mc.trans hE,im,?_,h⟩
    have hlen:((d0::uK).map (·.map V.d)).length+ns.length=((d0::uK)++ds).length:=by rw[I7];simp;omega
    rw[hlen]
    refine .d (cu.F0 (sz:=i.sz) (by rw[<- hlen];exact g2) (fun x hx=>?_) (fun ho=>by have:=yK ON ho;simp at this) (fun a j y hy=>?_))
    ·rcases List.mem_append.1 hx with h'|h'
     ·exact hl x h'
     ·have:=hz (x.map .d) (by rw[I7];exact List.mem_map.2 ⟨x,h',rfl⟩)
      simpa using this
    ·have Pf:(((d0::uK).map (·.map V.d)++ns)[a]?.bind (·[j]?))=some (.d y):=by
      rw[I7,<- List.map_append,List.getElem?_map]
      cases Q4:((d0::uK)++ds)[a]? with
      |none=>rw[Q4]at hy;cases hy
      |some ea =>
       rw[Q4]at hy
       simp only[Option.map_some,Option.bind_some,List.getElem?_map]
       rw[show ea[j]?=some y from hy]
       rfl
     obtain⟨c,c1,c2,c3⟩:=g4 a j _ Pf
     refine⟨c,by
      show (w.drew.alloc (.cells arr e)).cell? ⟨w.drew.heap.size,0+a*i.sz+j,none⟩=some c
      rw[World.cell?_alloc_new];simpa using c1,?_⟩
     have:=(c3.aO Mc).aO hE
     cases this with|d h'=>exact h'
  ·
   obtain⟨⟨eF,hb,hl⟩,h⟩:=h
   obtain⟨base,cap,zr,a1,a2,jP,o1,o2,o3,o4⟩:=g8 hI ha fv (Rd hl)
   have FW:cap=au.length:=by
    cases ha with|fu ha=>?_
    simp only[Value.slice.injEq]at zr
    omega
   subst zr
   have kY:(au.map (·.map V.d)).length=au.length:=by simp
   by_cases hm:ns.length=0
   ·have Xd:au=[]:=eF.resolve_right (by omega)
    subst Xd
    have fl:ns=[]:=List.eq_nil_of_length_eq_zero hm
    subst fl
    have xf:news=[]:=List.eq_nil_of_length_eq_zero (by simpa using n1)
    subst xf
    have:=l9 (p:=none) (o':=⟨0,true,i.sz,[]⟩) (w':=w) hI rfl rfl rfl (Nat.le_refl _) (fun _ _=>rfl) (fun _ _ h'=>by cases h') (fun _=>.inl (.inl ⟨rfl,rfl⟩))
    refine⟨_,.slice base 0 cap,_,_,w,kT hu k1 rU _ _ _ (Nat.zero_le _),this.1,this.2,?_,h⟩
    ·subst FW
     exact .so ⟨0,true,i.sz,[]⟩ (by simp) (Nat.le_refl _) ⟨_,_,rfl⟩ (fun _=>.inl ⟨bH _ _ _,⟨base,rfl⟩,rfl,rfl⟩)
   ·obtain⟨arr,lY,g1,g2,g3,g4⟩:=grow (au.map (·.map .d)) base cap jP o1 a1 (Rd hl) o3 o4 (by rw[kY];omega) (by rw[kY];exact hb)
    have:=oH (au:=au.map (·.map .d)++ns) (sz:=i.sz) (arr:=arr) ON e (LI _ (Rd hl)) (by rw[g3];exact Nat.mul_le_mul_right _ (by simpa using g2))
     (fun i' j y hy=>let ⟨c,c1,c2,c3⟩:=g4 i' j y hy;⟨c,c1,c2,c3.aO Mc⟩)
    refine⟨_,_,_,_,_,g1,Mc.trans this.1,this.2,?_,h⟩
    rw[kY]
    refine .so ⟨0,true,i.sz,au.map (·.map .d)++ns⟩ (by simp) (Nat.le_refl _) ⟨_,_,rfl⟩ (fun _=>.inr ⟨w.heap.size,0,lY,e,arr,bH _ _ _,heap_alloc_new w.drew _,by simp,by rw[kY]at g2;exact g2,by simp [g3]⟩)
 ·
  rename_i id g lo n
  obtain⟨o,ho,hg,⟨pX,D4,hlo,hb⟩,h⟩:=dA h
  have fv:fV s (.so id g lo n)=some ((o.au.drop lo).take n):=by simp [fV,ho,hg,hlo]
  have kY:((o.au.drop lo).take n).length=n:=by simp;omega
  have Nx:∀e∈(o.au.drop lo).take n,e.length=i.sz:=by
   intro e he
   have wN:e∈o.au:=List.mem_of_mem_drop (List.mem_of_mem_take he)
   rcases hI.content _ o ho with h0|⟨b,base,arr,E,h1,h2,h3,h4,h5⟩
   ·cases ha with|so o' gE zP JQ hk=>?_
    rw[ho]at gE;cases gE
    rcases hk hg with ⟨pk,_⟩|⟨b,bs,cp,E,arr,gX,hh,_⟩
    ·rw[h0.Cu pk]at wN;cases wN
    ·exact(h0.xr gX ⟨arr,E,hh⟩).elim
   ·rw[<- D4];exact h3 e wN
  obtain⟨base,cap,zr,a1,a2,jP,o1,o2,o3,o4⟩:=g8 hI ha fv Nx
  rw[kY]at zr a2
  cases ha with|so o' gE zP JQ hk=>?_
  rw[ho]at gE;cases gE
  have tk:=hk hg
  by_cases xp:cap<n+ns.length
  ·
   obtain⟨arr,lY,g1,g2,g3,g4⟩:=grow _ base cap jP o1 a1 Nx o3 o4 (by rw[kY];exact xp) (by rw[kY];exact hb)
   rw[kY]at g1 g2
   subst zr
   have:=lC (p:=some (w.heap.size,0)) (o':=⟨g+1,true,i.sz,(o.au.drop lo).take n++ns⟩) (w':=w.drew.alloc (.cells arr e)) hI ho pX rfl rfl rfl (by simp)
    (fun b JT _=>Go.RowKit.Below.heap_alloc w.drew _ b JT)
    (fun b bp b9 E' he hh=>⟨b9,by rw[Go.RowKit.Below.heap_alloc w.drew _ b (by exact de hh)];exact hh,rfl⟩)
    (fun b bp he hm=>let ⟨es,c,hh⟩:=hm;⟨es,c,by rw[Go.RowKit.Below.heap_alloc w.drew _ b (by exact de hh)];exact hh⟩)
    (by simp only;omega) (fun h'=>by simp only at h';omega) (fun b bp he=>by cases he;exact .inr (Nat.le_refl _))
    (fun hE=>.inr ⟨w.heap.size,0,arr,e,rfl,heap_alloc_new w.drew _,LI _ Nx,by simp only[List.length_append,kY,g3];rw[Nat.zero_add];exact Nat.mul_le_mul_right _ g2,fun i' j y hy=>by
     obtain⟨c,c1,c2,c3⟩:=g4 i' j y hy
     exact⟨c,by simpa using c1,c2,c3.aO hE⟩⟩)
   refine⟨_,_,_,_,_,g1,this.1,this.2,?_,h⟩
   exact .so ⟨g+1,true,i.sz,(o.au.drop lo).take n++ns⟩ (by simp [(List.getElem?_eq_some_iff.1 ho).1]) (Nat.le_refl _) ⟨_,_,rfl⟩ (fun _=>.inr ⟨w.heap.size,0,lY,e,arr,bH _ _ _,heap_alloc_new w.drew _,by simp,g2,by simp [g3]⟩)
  ·
   have zm:n+ns.length<=cap:=by omega
   rcases tk with ⟨pk,⟨aa,tI⟩,rfl,rfl⟩|⟨b,bs,cp,E,arr,gX,hh,tI,tq,hfit⟩
   ·
    rw[zr]at tI
    simp only[Value.slice.injEq]at tI
    obtain⟨rfl,_,rfl⟩:=tI
    have fl:ns=[]:=List.eq_nil_of_length_eq_zero (by omega)
    subst fl
    have xf:news=[]:=List.eq_nil_of_length_eq_zero (by simpa using n1)
    subst xf
    subst zr
    have:=lC (p:=none) (o':=⟨g+1,true,i.sz,(o.au.drop 0).take 0++[]⟩) (w':=w) hI ho pX rfl rfl rfl (Nat.le_refl _) (fun _ _ _=>rfl)
     (fun _ _ b9 _ _ hh=>⟨b9,hh,rfl⟩) (fun _ _ _ hm=>hm) (by simp only;omega) (fun h'=>by simp only at h';omega) (fun _ _ he=>by cases he) (fun _=>.inl (.inl ⟨rfl,by simp⟩))
    refine⟨_,.slice base 0 0,_,_,w,kT hu k1 rU _ _ _ (Nat.le_refl _),this.1,this.2,?_,h⟩
    ·exact .so ⟨g+1,true,i.sz,(o.au.drop 0).take 0++[]⟩ (by simp [(List.getElem?_eq_some_iff.1 ho).1]) (Nat.le_refl _) ⟨_,_,rfl⟩ (fun _=>.inl ⟨bH _ _ _,⟨base,rfl⟩,rfl,rfl⟩)
   ·rw[zr]at tI
    simp only[Value.slice.injEq]at tI
    obtain⟨rfl,_,rfl⟩:=tI
    subst zr
    have hq:bs+lo*o.sz+n*i.sz+news.length<=arr.size:=by
     rw[n1,<- D4]
     have e1:(lo+cap)*o.sz=lo*o.sz+cap*o.sz:=Nat.add_mul _ _ _
     have e2:=Nat.mul_le_mul_right o.sz zm
     rw[Nat.add_mul]at e2
     omega
    have ct:=run_storeCells_at P b (bs+lo*o.sz+n*i.sz) E news 0 arr w hh (by omega) n2
    simp only[Nat.add_zero]at ct
    generalize mV:(arr.toList.take (bs+lo*o.sz+n*i.sz)++news++arr.toList.drop (bs+lo*o.sz+n*i.sz+news.length)).toArray=b9 at ct
    have gV:b9.size=arr.size:=by rw[<- mV];simp;omega
    have az:∀p,p<bs+lo*o.sz+n*i.sz->b9[p]?=arr[p]?:=by
     intro p hp
     rw[<- mV,List.getElem?_toArray,List.append_assoc,List.getElem?_append_left (by simp;omega),List.getElem?_take,if_pos hp,Array.getElem?_toList]
    have xD:∀q,q<news.length->b9[bs+lo*o.sz+n*i.sz+q]?=news[q]?:=by
     intro q TI
     have hl:(arr.toList.take (bs+lo*o.sz+n*i.sz)).length=bs+lo*o.sz+n*i.sz:=by simp;omega
     rw[<- mV,List.getElem?_toArray,List.append_assoc,List.getElem?_append_right (by omega),hl,List.getElem?_append_left (by omega)]
     congr 1
     omega
    have:=lC (p:=some (b,bs+lo*o.sz)) (o':=⟨g+1,true,i.sz,(o.au.drop lo).take n++ns⟩) (w':=w.setRow b b9) hI ho pX rfl rfl rfl (by simp)
     (fun b1 _ eF=>setRow_other w b b1 b9 (fun e=>eF bs (by rw[gX,e])))
     (fun b1 iC Pk E1 he O7=>by
      rw[gX]at he;cases he
      rw[hh]at O7;cases O7
      exact⟨b9,setRow_heap w b arr b9 E (0,0) hh,gV⟩)
     (fun b1 iC he hm=>by
      rw[gX]at he;cases he
      exact(Bp.notM ⟨arr,E,hh⟩ hm).elim)
     (by simp only;omega) (fun h'=>by simp only at h';omega) (fun b1 iC he=>by cases he;exact .inl ⟨bs,gX⟩)
     (fun hE=>.inr ⟨b,bs+lo*o.sz,b9,E,rfl,setRow_heap w b arr b9 E (0,0) hh,LI _ Nx,(by
      simp only[List.length_append,kY,Nat.add_mul]
      rw[gV]
      omega),fun i' j y hy=>by
      obtain⟨c,c1,c2,c3⟩:=qe (z:=i.sz) o1 o4 n4 i' j y hy
      refine⟨c,?_,c2,c3.aO hE⟩
      simp only
      by_cases QJ:i'*i.sz+j<jP.length
      ·rw[List.getElem?_append_left QJ]at c1
       rw[az _ (by rw[o1,kY]at QJ;omega)]
       have hc:=o3 ⟨b,bs+lo*o.sz,none⟩ rfl _ c c1
       rw[e8 rfl]at hc
       simp only[World.cell?,hh]at hc
       simpa [Nat.add_assoc]using hc
      ·rw[List.getElem?_append_right (by omega)]at c1
       have aK:=(List.getElem?_eq_some_iff.1 c1).1
       have:=xD _ aK
       rw[c1]at this
       rw[<- this]
       congr 1
       rw[o1,kY]at *
       omega⟩)
    refine⟨_,.slice (some ⟨b,bs+lo*o.sz,none⟩) (n+ns.length) cap,_,_,w.setRow b b9,?_,this.1,this.2,?_,h⟩
    ·have j0:=rU.cells
     rw[k4]at j0
     simp [Builtin.append_,run_underlying hu,sizeOf,typeInfo,k1,Builtin.lenOf,zm,j0,k4,Addr.add_lit,ct]
    ·exact .so ⟨g+1,true,i.sz,(o.au.drop lo).take n++ns⟩ (by simp [(List.getElem?_eq_some_iff.1 ho).1]) (Nat.le_refl _) ⟨_,_,rfl⟩
      (fun _=>.inr ⟨b,bs+lo*o.sz,cap,E,b9,bH _ _ _,setRow_heap w b arr b9 E (0,0) hh,by simp,zm,by rw[gV];simp only[Nat.zero_add];rw[<- D4,Nat.add_mul]at *;omega⟩)
 ·exact h.elim
theorem oS {P:Program} (w:World) (t tn ty e:TypeId) (i:TypeInfo) (z:Value) (k kn:IntKind) (ht:P.underlying t=some (.slice e)) (YE:P.underlying tn=some (.int kn)) (hi:P.info? e=some i) (hz:i.zero=some z)
  (base:Option Addr) (n:Nat) (h0:0<n) (hs:0<i.size) (zA:(n:Int)<=9223372036854775807) (QO:n*i.bytes<=281474976710656) :
  (Builtin.append_ #[t,tn] ty #[.slice base 0 0,.int k n]).run P w =
   .ok (.slice (some ⟨w.heap.size,0,none⟩) n (grownCap w n 0 e)) (w.drew.alloc (.cells (Builtin.zeroCells z.cells n++Builtin.zeroCells z.cells (grownCap w n 0 e-n)) e)):=by
 have hn:n≠0:=by omega
 have hw:IntKind.i64.wrap (n:Int)=n:=by rw[IntKind.wrap_i64];omega
 have Vg:¬(9223372036854775807<(n:Int)):=by omega
 have V6:¬(281474976710656<Builtin.nextslicecap n 0*i.bytes):=by rw[nextslicecap_zero h0];omega
 have Vz:¬(281474976710656<(n:Int)*(i.bytes:Int)):=by
  rw[<- Int.natCast_mul]
  omega
 have dJ:¬((n:Int)<0):=by omega
 have sy:¬(n*i.size=0):=Nat.mul_ne_zero hn (by omega)
 have hold:∀w:World,(Builtin.firstCells i.size 0 (.slice base 0 0)).run P w=.ok #[] w:=by
  intro w
  cases base with
  |none=>exact run_firstCells_none w i.size 0 0 0
  |some ad=>exact run_firstCells_some w i.size 0 ad 0 0 [] (by simp) (by simp)
 simp [Builtin.append_,run_underlying ht,run_underlying YE,sizeOf,typeInfo,zeroValue,hi,hz,asInt,asIntOf,hw,hn,dJ,sy,Vg,V6,Vz,Question.forced,hold,newRow,grownCap]
def jd (P:Program) (t t':TypeId) (a x:V) (s:List Obj) (K:V->List Obj->Prop):Prop :=
 match gm P t with
 |none=>False
 |some (_,i)=>match P.underlying t' with
  |some (.int _)=>match a,x with
   |.fu au,.d (.sc (.int _ n))=>(au=[]/\0<n/\(i.yW:Int)*n<=140737488355328/\n<=140737488355328/\0<i.sz) /\
     K (.so s.length 0 0 n.toNat) (s++[⟨0,true,i.sz,List.replicate n.toNat (i.zero.map cv)⟩])
   |_,_=>False
  |_=>False
theorem zO {P:Program}{t t' ty:TypeId}{a x:V}{ua ux:Value}{σ:Gh}{s:List Obj}{w:World}{K:V->List Obj->Prop} (hI:Inv σ s w) (ha:aw σ s w a ua) (hx:aw σ s w x ux)
  (h:jd P t t' a x s K):∃v r σ' s' w',(Builtin.append_ #[t,t'] ty #[ua,ux]).run P w=.ok r w'/\aA σ s w σ' s' w'/\Inv σ' s' w'/\aw σ' s' w' v r/\K v s':=by
 unfold jd at h
 split at h
 ·exact h.elim
 rename_i e i hti
 obtain⟨hu,hi⟩:=iZ hti
 split at h
 case h_2=>exact h.elim
 rename_i kn YR
 split at h
 case h_2=>exact h.elim
 rename_i au k n
 obtain⟨⟨rfl,h1,h2,h3,h4⟩,h⟩:=h
 cases hx with|d hx=>?_
 cases hx with|sc _ _=>?_
 cases ha with|fu ha=>?_
 rename_i base
 obtain⟨ti,d,z,k1,k2,k3,k4,k5,k6,k7,k8,k9⟩:=fA hi
 have Ga:z.cells.size=i.sz:=by rw[<- Array.length_toList,k6,k7]
 obtain⟨N,rfl⟩:=Int.eq_ofNat_of_zero_le (show 0<=n by omega)
 have QO:N*ti.bytes<=281474976710656:=by
  rw[k5,Nat.mul_comm]
  have:((i.yW*N:Nat):Int)<=140737488355328:=by rw[Int.natCast_mul];exact h2
  omega
 have dI:=oS (P:=P) w t t' ty e ti z k kn hu YR k1 k3 base N (by omega) (by rw[k4];exact h4) (by omega) QO
 have ib:=grownCap_ge w N 0 e
 generalize grownCap w N 0 e=cap at dI ib
 obtain⟨Mc,ON⟩:=mc hI
 have fo:(Builtin.zeroCells z.cells N++Builtin.zeroCells z.cells (cap-N)).size=cap*i.sz:=by
  simp only[Array.size_append,size_zeroCells,Ga]
  rw[<- Nat.add_mul]
  congr 1
  omega
 obtain⟨r1,r2,r3⟩:=xM hi σ s w N z k6
 have TR:Builtin.zeroCells z.cells N=(Array.range (N*i.sz)).map (z.cells[· % z.cells.size]!):=by
  unfold Builtin.zeroCells
  rw[Ga]
 have fm:∀(a j:Nat) (x:V),((List.replicate N (i.zero.map cv))[a]?.bind (·[j]?))=some x->∃c,(Builtin.zeroCells z.cells N++Builtin.zeroCells z.cells (cap-N))[a*i.sz+j]?=some c/\c.oneCell'=true/\aw σ s w x c:=by
  intro a j x hx
  obtain⟨c,c1,c2,c3⟩:=r3 a j x hx
  refine⟨c,?_,c2,c3⟩
  rw[<- TR]at c1
  have az:=(Array.getElem?_eq_some_iff.1 c1).1
  rw[Array.getElem?_append_left az]
  exact c1
 generalize Builtin.zeroCells z.cells N++Builtin.zeroCells z.cells (cap-N)=arr at *
 have:=oH (au:=List.replicate N (i.zero.map cv)) (sz:=i.sz) (arr:=arr) ON e (fun x hx=>by rw[List.eq_of_mem_replicate hx];simp [k7])
  (by rw[fo,List.length_replicate];exact Nat.mul_le_mul_right _ ib) (fun a j x hx=>let ⟨c,c1,c2,c3⟩:=fm a j x hx;⟨c,c1,c2,c3.aO Mc⟩)
 refine⟨_,_,_,_,_,dI,Mc.trans this.1,this.2,?_,h⟩
 exact .so ⟨0,true,i.sz,List.replicate N (i.zero.map cv)⟩ (by simp) (Nat.le_refl _) ⟨_,_,rfl⟩ (fun _=>.inr ⟨w.heap.size,0,cap,e,arr,bH _ _ _,heap_alloc_new w.drew _,by simp,ib,by simp [fo]⟩)
def xt (x:Option V) (MQ:Int):Option Int :=
 match x with
 |none=>some MQ
 |some v=>EW v
def pP (cs:List D) (z l n:Nat):List (List D):=(List.range n).map fun i=>(cs.drop ((l+i)*z)).take z
def jX (P:Program) (t:TypeId) (x:V) (lo hi mx:Option V) (K:V->Prop):Prop :=
 match Ow P t with
 |none=>False
 |some (len,z)=>match x,xt lo 0,xt hi len,mx with
  |.d (.el cs),some l,some h,none=>((0<=l/\l<=h/\h<=len)/\cs.length=len*z)/\K (.d (.sl (pP cs z l.toNat (h-l).toNat)))
  |_,_,_,_=>False
def jw (P:Program) (t:TypeId) (x:V) (lo hi mx:Option V) (s:List Obj) (K:V->Prop):Prop :=
 match zy P t with
 |none=>jX P t x lo hi mx K
 |some z=>match fV s x with
  |none=>False
  |some es=>match xt lo 0,xt hi es.length with
   |some l,some h=>(0<=l/\l<=h/\h<=es.length)/\match x,mx with
    |.d (.sl au),none=>(l=0\/∀e∈au,e.length=z)/\K (.d (.sl ((au.drop l.toNat).take (h-l).toNat)))
    |.fu au,none=>(l=0\/∀e∈au,e.length=z)/\K (bif au.isEmpty then .fu [] else .d (.sl ((au.drop l.toNat).take (h-l).toNat)))
    |.d (.sl au),some m=>hi.isSome=true/\EW m=some h/\(l=0\/∀e∈au,e.length=z)/\K (.fu ((au.drop l.toNat).take (h-l).toNat))
    |.so id g Pl _,none=>rj s id g fun o=>o.sz=z/\if l=0\/l<h then K (.so id g (Pl+l.toNat) (h-l).toNat) else K (.d (.sl []))
    |_,_=>False
   |_,_=>False
theorem cu.sub {O:Nat->Prop}{w:World}{au:List (List D)}{a:Option Addr}{n cap l h m z:Nat} (hr:cu O w (.sl au) (.slice a n cap)) (hl:l<=h) (hh:h<=au.length) (hm:h<=m) (ud:m<=cap)
  (hz:l=0\/∀e∈au,e.length=z):cu O w (.sl ((au.drop l).take (h-l))) (.slice (if m=l then a else a.map (·.add (l*z))) (h-l) (m-l)):=by
 have hlen:((au.drop l).take (h-l)).length=h-l:=by simp;omega
 cases hr with
 |nil =>
  simp only[List.length_nil]at hh
  obtain rfl:h=0:=by omega
  obtain rfl:l=0:=by omega
  obtain rfl:m=0:=by omega
  exact .nil
 |sl _ ad _ sz f h1 h2 h3 h4 h5 =>
  by_cases WC:m=l
  ·rw[if_pos WC]
   have e0:(au.drop l).take (h-l)=[]:=List.eq_nil_of_length_eq_zero (by rw[hlen];omega)
   have:=cu.sl (O:=O) (w:=w) [] ad (m-l) sz f (by simp) (by simp) (by simp) (by simp) (by simp)
   rw[e0,show h-l=0 by omega]
   exact this
  ·rw[if_neg WC]
   simp only[Option.map_some]
   have fm:∀(i:Nat) (e:List D),((au.drop l).take (h-l))[i]?=some e->au[l+i]?=some e:=by
    intro i e he
    rw[List.getElem?_take]at he
    split at he
    ·rw[List.getElem?_drop]at he;exact he
    ·cases he
   have Uk:∀e∈(au.drop l).take (h-l),e.length=sz:=fun e he=>h3 e (List.mem_of_mem_drop (List.mem_of_mem_take he))
   have hmul:∀(i j:Nat) (x:D),(((au.drop l).take (h-l))[i]?.bind (·[j]?))=some x->(au[l+i]?.bind (·[j]?))=some x/\ad.add (l*z)=⟨ad.block,ad.off+l*sz,none⟩:=by
    intro i j x hx
    cases he:((au.drop l).take (h-l))[i]? with
    |none=>rw[he]at hx;cases hx
    |some e =>
     rw[he]at hx
     have wN:=fm i e he
     refine⟨by rw[wN];exact hx,?_⟩
     have eF:au≠[]:=by intro h';subst h';simp at wN
     rw[e8 (h2 eF)]
     rcases hz with rfl|hz
     ·simp
     ·have:=hz e (List.mem_of_getElem? wN)
      have:=h3 e (List.mem_of_getElem? wN)
      rw[show z=sz by omega]
   have:=cu.sl (O:=O) (w:=w) ((au.drop l).take (h-l)) (ad.add (l*z)) (m-l) sz (fun i j=>f (l+i) j) (by rw[hlen];omega)
    (fun eF=>by
     have VM:au≠[]:=by intro h';subst h';simp at eF
     rw[e8 (h2 VM)]) Uk
    (fun i j x hx=>by
     obtain⟨g1,g2⟩:=hmul i j x hx
     have:=h4 (l+i) j x g1
     rw[g2]
     simpa [Nat.add_mul,Nat.add_assoc]using this)
    (fun i j x hx=>h5 (l+i) j x (hmul i j x hx).1)
   rw[hlen]at this
   exact this
theorem tJ {σ:Gh}{s:List Obj}{w:World}{x:Option V}{u:Option Value}{MQ n:Int} (hr:∀v,x=some v->∃c,u=some c/\aw σ s w v c) (hn:x=none->u=none) (h:xt x MQ=some n) :
  (u=none/\n=MQ)\/∃k,u=some (.int k n):=by
 cases x with
 |none=>simp only[xt,Option.some.injEq]at h;exact .inl ⟨hn rfl,h.symm⟩
 |some v =>
  obtain⟨c,rfl,hc⟩:=hr v rfl
  obtain⟨k,rfl⟩:=AJ hc h
  exact .inr ⟨k,rfl⟩
theorem vV {P:Program}{t e:TypeId}{ti:TypeInfo} (hu:P.underlying t=some (.slice e)) (hi:P.info? e=some ti) {a:Option Addr}{n cap:Nat}{lo hi' mx:Option Value}{l h m:Nat}
  (hlo:(lo=none/\l=0)\/∃k,lo=some (.int k l)) (Y3:(hi'=none/\h=n)\/∃k,hi'=some (.int k h)) (XX:(mx=none/\m=cap)\/(hi'≠none/\∃k,mx=some (.int k m)))
  (hlh:l<=h) (XF:h<=m) (X5:m<=cap) (w:World) :
  (Instr.sliceAt t (.slice a n cap) lo hi' mx).run P w=.ok (.slice (if m=l then a else a.map (·.add (l*ti.size))) (h-l) (m-l)) w:=by
 have b:∀(k:IntKind) (i y:Nat) (c:BoundsCode),i<=y->(Instr.sliceBound (.int k i) y c).run P w=.ok i w:=by
  intro k i y c hh
  simp [Instr.sliceBound,asIntOf,hh]
 rcases hlo with ⟨rfl,rfl⟩|⟨kl,rfl⟩ <;> rcases Y3 with ⟨rfl,rfl⟩|⟨kh,rfl⟩ <;> rcases XX with ⟨rfl,rfl⟩|⟨eF,km,rfl⟩ <;>
  first
   |(exact absurd rfl eF)
   |simp [Instr.sliceAt,Instr.slice,run_underlying hu,Instr.sliceBounds,b,hlh,XF,X5,sizeOf,typeInfo,hi]
theorem cu.chunk {O:Nat->Prop}{w:World}{cs:List D}{a:Addr}{len z l n:Nat} (hr:cu O w (.el cs) (.pointer (some a))) (hlen:cs.length=len*z) (hn:l+n<=len) :
  cu O w (.sl (pP cs z l n)) (.slice (some (if len=l then a else a.add (l*z))) n (len-l)):=by
 cases hr with
 |el _ _ f h1 h2 h3 =>
  have hl:(pP cs z l n).length=n:=by simp [pP]
  by_cases fl:n=0
  ·subst fl
   exact cu.sl [] _ (len-l) 0 (fun _ _=>undef) (by simp) (by simp) (by simp) (by simp) (by simp)
  ·rw[if_neg (by omega),e8 h1]
   have fm:∀(i j:Nat) (x:D),((pP cs z l n)[i]?.bind (·[j]?))=some x->cs[(l+i)*z+j]?=some x:=by
    intro i j x hx
    unfold pP at hx
    rw[List.getElem?_map]at hx
    cases hi:(List.range n)[i]? with
    |none=>rw[hi]at hx;cases hx
    |some k =>
     have hk:k=i:=by
      have:=List.getElem?_eq_some_iff.1 hi
      obtain⟨h1,h2⟩:=this
      simpa using h2.symm
     subst hk
     rw[hi]at hx
     simp only[Option.map_some,Option.bind_some]at hx
     rw[List.getElem?_take]at hx
     split at hx
     ·rwa [List.getElem?_drop]at hx
     ·cases hx
   have:=cu.sl (O:=O) (w:=w) (pP cs z l n) ⟨a.block,a.off+l*z,none⟩ (len-l) z (fun i j=>f ((l+i)*z+j)) (by omega) (fun _=>rfl)
    (fun e he=>by
     unfold pP at he
     obtain⟨i,hi,rfl⟩:=List.mem_map.1 he
     have hi:=List.mem_range.1 hi
     have:=Nat.mul_le_mul_right z (show l+i+1<=len by omega)
     rw[Nat.add_mul,Nat.one_mul]at this
     rw[List.length_take,List.length_drop]
     omega)
    (fun i j x hx=>by
     have:=h2 _ x (fm i j x hx)
     have e:a.off+((l+i)*z+j)=a.off+l*z+i*z+j:=by rw[Nat.add_mul];omega
     rw[e]at this
     exact this)
    (fun i j x hx=>h3 _ x (fm i j x hx))
   rw[hl]at this
   exact this
theorem Af {P:Program}{t:TypeId}{x:V}{ux:Value}{lo hi mx:Option V}{ul uh um:Option Value}{σ:Gh}{s:List Obj}{w:World}{K:V->Prop} (hx:aw σ s w x ux)
  (hl:∀v,lo=some v->∃c,ul=some c/\aw σ s w v c) (Ty:lo=none->ul=none) (hh:∀v,hi=some v->∃c,uh=some c/\aw σ s w v c) (Tk:hi=none->uh=none)
  (hmn:mx=none->um=none) (h:jX P t x lo hi mx K) :
  ∃v c,(Instr.sliceAt t ux ul uh um).run P w=.ok c w/\aw σ s w v c/\K v:=by
 unfold jX at h
 split at h
 ·exact h.elim
 rename_i len z hz
 obtain⟨e,ti,e1,e2,e3⟩:=yY hz
 split at h
 case h_2=>exact h.elim
 rename_i cs l h' ph Ux
 obtain⟨⟨⟨b1,b2,b3⟩,hlen⟩,hK⟩:=h
 obtain⟨L,rfl⟩:=Int.eq_ofNat_of_zero_le b1
 obtain⟨H,rfl⟩:=Int.eq_ofNat_of_zero_le (show 0<=h' by omega)
 have zw:=tJ hl Ty ph
 have Mp:=tJ hh Tk Ux
 have MO:=hmn rfl
 subst MO
 cases hx with|d hx=>?_
 have R4:=hx
 cases hx with|el _ a f h1 h2 h3=>?_
 have hr:=cu.chunk (l:=L) (n:=H-L) R4 hlen (by omega)
 rw[<- e3]at hr
 refine⟨_,_,?_,.d hr,by rw[show ((H:Int)-L).toNat=H-L by omega,Int.toNat_natCast,<- e3]at hK;exact hK⟩
 have b:∀(k:IntKind) (i y:Nat) (c:BoundsCode),i<=y->(Instr.sliceBound (.int k i) y c).run P w=.ok i w:=by
  intro k i y c hh
  simp [Instr.sliceBound,asIntOf,hh]
 have hL:L<=H:=by omega
 have hH:H<=len:=by omega
 rcases zw with ⟨rfl,zw⟩|⟨kl,rfl⟩ <;> rcases Mp with ⟨rfl,Mp⟩|⟨kh,rfl⟩
 ·obtain rfl:L=0:=by omega
  obtain rfl:H=len:=by omega
  simp [Instr.sliceAt,run_underlying e1,Instr.sureAddr,Instr.sliceBounds,sizeOf,typeInfo,e2]
 ·obtain rfl:L=0:=by omega
  simp [Instr.sliceAt,run_underlying e1,Instr.sureAddr,Instr.sliceBounds,b,hH,sizeOf,typeInfo,e2]
 ·obtain rfl:H=len:=by omega
  simp [Instr.sliceAt,run_underlying e1,Instr.sureAddr,Instr.sliceBounds,b,hL,sizeOf,typeInfo,e2]
 ·simp [Instr.sliceAt,run_underlying e1,Instr.sureAddr,Instr.sliceBounds,b,hL,hH,sizeOf,typeInfo,e2]
theorem EC {P:Program}{t:TypeId}{x:V}{ux:Value}{lo hi mx:Option V}{ul uh um:Option Value}{σ:Gh}{s:List Obj}{w:World}{K:V->Prop} (hx:aw σ s w x ux)
  (hl:∀v,lo=some v->∃c,ul=some c/\aw σ s w v c) (Ty:lo=none->ul=none) (hh:∀v,hi=some v->∃c,uh=some c/\aw σ s w v c) (Tk:hi=none->uh=none)
  (hm:∀v,mx=some v->∃c,um=some c/\aw σ s w v c) (hmn:mx=none->um=none) (h:jw P t x lo hi mx s K) :
  ∃v c,(Instr.sliceAt t ux ul uh um).run P w=.ok c w/\aw σ s w v c/\K v:=by
 unfold jw at h
 split at h
 ·exact Af hx hl Ty hh Tk hmn h
 rename_i z hz
 obtain⟨e,ti,e1,e2,e3⟩:=EJ hz
 split at h
 ·exact h.elim
 rename_i es Ay
 split at h
 case h_2=>exact h.elim
 rename_i l h' ph Ux
 obtain⟨⟨b1,b2,b3⟩,h⟩:=h
 obtain⟨L,rfl⟩:=Int.eq_ofNat_of_zero_le b1
 obtain⟨H,rfl⟩:=Int.eq_ofNat_of_zero_le (show 0<=h' by omega)
 have zw:=tJ hl Ty ph
 have Mp:=tJ hh Tk Ux
 have AE:(ul=none/\L=0)\/∃k,ul=some (.int k (L:Int)):=zw.imp (fun h=>⟨h.1,by omega⟩) id
 have e4:((H:Int)-L).toNat=H-L:=by omega
 simp only[Int.toNat_natCast,e4]at h
 have data:∀(au:List (List D)),cu (Own σ s) w (.sl au) ux->es.length=au.length->(L=0\/∀e∈au,e.length=z)->∀(M:Nat),H<=M->(∀a n cap,ux=.slice a n cap->M<=cap/\((um=none/\M=cap)\/(uh≠none/\∃k,um=some (.int k (M:Int))))) ->
   ∃c a cap,ux=.slice a au.length cap/\(Instr.sliceAt t ux ul uh um).run P w=.ok c w/\cu (Own σ s) w (.sl ((au.drop L).take (H-L))) c/\c=.slice (if M=L then a else a.map (·.add (L*z))) (H-L) (M-L):=by
  intro au hd hlen VO M hM xZ
  have hu:∃a n cap,ux=.slice a n cap:=by cases hd <;> exact⟨_,_,_,rfl⟩
  obtain⟨a,n,cap,rfl⟩:=hu
  have hn:n=au.length/\au.length<=cap:=by cases hd <;> simp_all
  obtain⟨rfl,xp⟩:=hn
  obtain⟨c1,c2⟩:=xZ a _ cap rfl
  have dI:=vV (P:=P) e1 e2 (a:=a) (n:=au.length) (cap:=cap) (lo:=ul) (hi':=uh) (mx:=um) (l:=L) (h:=H) (m:=M) AE (Mp.imp (fun h=>⟨h.1,by omega⟩) id) c2 (by omega) hM c1 w
  rw[e3]at dI
  exact⟨_,a,cap,rfl,dI,cu.sub hd (by omega) (by omega) hM c1 VO,rfl⟩
 split at h
 ·
  rename_i au
  have hd:cu (Own σ s) w (.sl au) ux:=lZ hx rfl
  have hlen:es.length=au.length:=by simp only[fV,Option.some.injEq]at Ay;rw[<- Ay];simp
  have hu:∃a n cap,ux=.slice a n cap:=by cases hd <;> exact⟨_,_,_,rfl⟩
  obtain⟨a,n,cap,rfl⟩:=hu
  have hn:n=au.length/\au.length<=cap:=by cases hd <;> simp_all
  obtain⟨c,_,_,_,r1,r2,_⟩:=data au hd hlen (h.1.imp (by omega) id) cap (by omega) (fun a' n' lY he=>by cases he;exact⟨Nat.le_refl _,.inl ⟨hmn rfl,rfl⟩⟩)
  exact⟨_,c,r1,.d r2,h.2⟩
 ·rename_i au
  have hd:cu (Own σ s) w (.sl au) ux:=lZ hx rfl
  have hlen:es.length=au.length:=by simp only[fV,Option.some.injEq]at Ay;rw[<- Ay];simp
  have hu:∃a n cap,ux=.slice a n cap:=by cases hd <;> exact⟨_,_,_,rfl⟩
  obtain⟨a,n,cap,rfl⟩:=hu
  have hn:n=au.length/\au.length<=cap:=by cases hd <;> simp_all
  have iJ:cap=au.length:=by
   cases hx with|fu _=>rfl
  obtain⟨c,a',lY,hq,r1,r2,r3⟩:=data au hd hlen (h.1.imp (by omega) id) cap (by omega) (fun a' n' lY he=>by cases he;exact⟨Nat.le_refl _,.inl ⟨hmn rfl,rfl⟩⟩)
  cases au with
  |nil =>
   have hL:L=0:=by simp only[List.length_nil]at hlen;omega
   have hH:H=0:=by simp only[List.length_nil]at hlen;omega
   subst hL;subst hH;subst iJ
   refine⟨_,c,r1,?_,h.2⟩
   rw[r3]at r2 ⊢
   exact .fu (au:=[]) r2
  |cons x xs=>exact⟨_,c,r1,.d r2,h.2⟩
 ·rename_i au m
  obtain⟨h1,h2,h3,h⟩:=h
  have hd:cu (Own σ s) w (.sl au) ux:=lZ hx rfl
  have hlen:es.length=au.length:=by simp only[fV,Option.some.injEq]at Ay;rw[<- Ay];simp
  obtain⟨cm,O8,PS⟩:=hm m rfl
  obtain⟨km,rfl⟩:=AJ PS h2
  have Uq:uh≠none:=by
   cases hi with
   |none=>simp at h1
   |some v=>obtain⟨c,rfl,_⟩:=hh v rfl;simp
  have hu:∃a n cap,ux=.slice a n cap:=by cases hd <;> exact⟨_,_,_,rfl⟩
  obtain⟨a,n,cap,rfl⟩:=hu
  have hn:n=au.length/\au.length<=cap:=by cases hd <;> simp_all
  obtain⟨c,a',lY,_,r1,r2,r3⟩:=data au hd hlen (h3.imp (by omega) id) H (Nat.le_refl _) (fun a' n' lY he=>by cases he;exact⟨by omega,.inr ⟨Uq,km,O8⟩⟩)
  refine⟨_,c,r1,?_,h⟩
  have zq:((au.drop L).take (H-L)).length=H-L:=by simp;omega
  rw[r3]at r2 ⊢
  have:aw σ s w (.fu ((au.drop L).take (H-L))) (.slice (if H=L then a' else a'.map (·.add (L*z))) ((au.drop L).take (H-L)).length ((au.drop L).take (H-L)).length):=.fu (by rw[zq];exact r2)
  rw[zq]at this
  exact this
 ·rename_i ZM g Pl n
  obtain⟨o,ho,hg,Q5,hK⟩:=dA h
  clear h
  cases hx with|so o' gE zP JQ hk=>?_
  rw[ho]at gE;cases gE
  have hn:es.length=n:=by
   simp only[fV,ho,hg]at Ay
   split at Ay
   ·simp only[Option.some.injEq]at Ay;rw[<- Ay];simp;omega
   ·cases Ay
  rcases hk hg with ⟨pk,⟨aa,rfl⟩,rfl,rfl⟩|⟨b,bs,cp,E,arr,gX,Yy,rfl,tq,hfit⟩
  ·obtain rfl:L=0:=by omega
   obtain rfl:H=0:=by omega
   have dI:=vV (P:=P) e1 e2 (a:=aa) (n:=0) (cap:=0) (lo:=ul) (hi':=uh) (mx:=um) (l:=0) (h:=0) (m:=0) AE (Mp.imp (fun h=>⟨h.1,rfl⟩) id) (.inl ⟨hmn rfl,rfl⟩) (by omega) (by omega) (by omega) w
   rw[if_pos (.inl rfl)]at hK
   refine⟨_,_,dI,?_,hK⟩
   exact .so o ho zP ⟨_,_,rfl⟩ (fun _=>.inl ⟨pk,⟨aa,by simp⟩,rfl,rfl⟩)
  ·have dI:=vV (P:=P) e1 e2 (a:=some ⟨b,bs+Pl*o.sz,none⟩) (n:=n) (cap:=cp) (lo:=ul) (hi':=uh) (mx:=um) (l:=L) (h:=H) (m:=cp) AE (Mp.imp (fun h=>⟨h.1,by omega⟩) id) (.inl ⟨hmn rfl,rfl⟩) (by omega) (by omega) (by omega) w
   by_cases az:(L:Int)=0\/(L:Int)<(H:Int)
   case neg =>
    rw[if_neg az]at hK
    obtain rfl:H=L:=by omega
    refine⟨_,_,dI,.d ?_,hK⟩
    have KI:∃a',(if cp=H then some (⟨b,bs+Pl*o.sz,none⟩:Addr) else (some (⟨b,bs+Pl*o.sz,none⟩:Addr)).map (·.add (H*ti.size)))=some a':=by split <;> exact⟨_,rfl⟩
    obtain⟨a',Ln⟩:=KI
    rw[Ln,Nat.sub_self]
    exact cu.sl [] a' _ 0 (fun _ _=>undef) (by simp) (by simp) (by simp) (by simp) (by simp)
   rw[if_pos az]at hK
   refine⟨_,_,dI,?_,hK⟩
   refine .so o ho zP ⟨_,_,rfl⟩ (fun _=>.inr ⟨b,bs,cp-L,E,arr,gX,Yy,?_,by omega,?_⟩)
   ·rcases az with h0|h0
    ·obtain rfl:L=0:=by omega
     simp [Addr.add]
    ·rw[if_neg (by omega)]
     simp only[Option.map_some]
     rw[e8 rfl,e3,Q5,Nat.add_mul]
     simp [Nat.add_assoc]
   ·rw[show Pl+L+(cp-L)=Pl+cp by omega];exact hfit
 ·exact h.elim
def Fe (P:Program) (t:TypeId) (x:V) (K:V->Prop):Prop :=
 match P.underlying t with
 |some (.slice _)=>match x with
  |.fu au=>K (.d (.sc (.int .i64 au.length)))
  |_=>False
 |_=>False
theorem Ju {P:Program}{t ty:TypeId}{x:V}{ux:Value}{σ:Gh}{s:List Obj}{w:World}{K:V->Prop} (hx:aw σ s w x ux) (h:Fe P t x K) :
  ∃v c,(Builtin.cap_ #[t] ty #[ux]).run P w=.ok c w/\aw σ s w v c/\K v:=by
 unfold Fe at h
 split at h
 ·rename_i e hu
  split at h
  ·rename_i au
   cases hx with|fu _=>?_
   exact⟨_,.int .i64 au.length,by simp [Builtin.cap_,run_underlying hu,goInt],.d (.sc _ rfl),h⟩
  ·exact h.elim
 ·exact h.elim
def jG (P:Program) (t:TypeId) (x:V) (s:List Obj) (K:V->Prop):Prop :=
 match P.underlying t with
 |some (.slice _)=>match x with
  |.d (.sl au)=>K (.d (.sc (.int .i64 au.length)))
  |.fu au=>K (.d (.sc (.int .i64 au.length)))
  |.so _ _ _ n=>K (.d (.sc (.int .i64 n)))
  |_=>False
 |some .string=>match x with
  |.d (.sc (.string b))=>K (.d (.sc (.int .i64 b.size)))
  |_=>False
 |_=>False
theorem Iz {P:Program}{t ty:TypeId}{x:V}{ux:Value}{σ:Gh}{s:List Obj}{w:World}{K:V->Prop} (hx:aw σ s w x ux) (h:jG P t x s K) :
  ∃v c,(Builtin.len_ #[t] ty #[ux]).run P w=.ok c w/\aw σ s w v c/\K v:=by
 unfold jG at h
 split at h
 ·rename_i e hu
  have fin:∀(a:Option Addr) (n cap:Nat),ux=.slice a n cap->K (.d (.sc (.int .i64 n)))->∃v c,(Builtin.len_ #[t] ty #[ux]).run P w=.ok c w/\aw σ s w v c/\K v:=by
   rintro a n cap rfl hk
   exact⟨_,.int .i64 n,by simp [Builtin.len_,run_underlying hu,goInt],.d (.sc _ rfl),hk⟩
  split at h
  ·have hd:=lZ hx rfl
   cases hd <;> exact fin _ _ _ rfl h
  ·have hd:=lZ hx rfl
   cases hd <;> exact fin _ _ _ rfl h
  ·cases hx with|so o' gE zP JQ hk=>?_
   obtain⟨aa,cp,rfl⟩:=JQ
   exact fin _ _ _ rfl h
  ·exact h.elim
 ·rename_i hu
  split at h
  ·cases hx with|d hx=>?_
   cases hx with|sc _ _=>?_
   exact⟨_,_,by simp [Builtin.len_,run_underlying hu,goInt],.d (.sc _ rfl),h⟩
  ·exact h.elim
 ·exact h.elim
end Go.VL
