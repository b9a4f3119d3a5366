/- A part of the proof. -/
import Derived.ChangeMaps5
import Derived.MapKept
import Derived.Test.YtjjfioalgbecmaaGreatOA2
set_option linter.unusedSimpArgs false
set_option linter.unusedVariables false
set_option maxRecDepth 100000
set_option maxHeartbeats 80000000
namespace Go.VL
variable{n:Nat}{σ:Gh}{w:World}{u:Value}{s:List Obj}{x:V}{aA:List (List D)}{z:Nat}{es:List (List V)}{ux:Value}{e:TypeId}{t:TypeId}{ty:TypeId}{P:Program}{a:Option Addr}{K:V->Prop}{ua:Value}{O:Nat->Prop}{l:Nat}{cap:Nat}{uh:Option Value}{lo:Option V}{hi:Option V}{um:Option Value}{ul:Option Value}{mx:Option V}
def Mq:V->Option Int
 |.d (.sc (.int _ n))=>some n
 |_=>none
theorem Hy{n:Int} (hr:aD σ s w x u) (h:Mq x=some n):∃k,u=.int k n:=by
 unfold Mq at h;split at h
 ·simp only[alb]at h;subst h;cases hr with|d hr=>?_
  cases hr with|sc _ _=>exact⟨_,rfl⟩
 ·cases h
def jl (s:List Obj):V->Option (List (List V))
 |.d (.sl aA)=>some (aA.map (·.map .d))
 |.fu aA=>some (aA.map (·.map .d))
 |.so id g lo n=>match s[id]? with
  |some o=>if o.g=g/\lo+n<=o.aA.length then some ((o.aA.drop lo).take n) else none
  |none=>none
 |_=>none
theorem SF{i j:Nat} (h:((aA.map (·.map V.d))[i]?.bind (·[j]?))=some x):∃y,x=.d y/\(aA[i]?.bind (·[j]?))=some y:=by
 rw[List.getElem?_map]at h;cases he:aA[i]? with
 |none=>rw[he]at h;cases h
 |some e =>
  rw[he]at h;simp only[ala,alO,List.getElem?_map]at h;obtain⟨y,hy,rfl⟩:=Option.map_eq_some_iff.1 h;exact⟨y,rfl,hy⟩
theorem jV (hI:Inv σ s w) (hr:aD σ s w x u) (h:jl s x=some es) (hz:∀e∈es,e.length=z) :
  ∃a cap,u=.slice a es.length cap/\(a=none->es=[])/\es.length<=cap/\∃news:List Value,news.length=es.length*z/\(∀c∈news,c.oneCell'=true) /\
   (∀ad,a=some ad->∀(j:Nat) (c:Value),news[j]?=some c->w.cell? (ad.add j)=some c) /\
   ∀(i j:Nat) (y:V),(es[i]?.bind (·[j]?))=some y->∃c,news[i*z+j]?=some c/\c.oneCell'=true/\aD σ s w y c:=by
 have key:∀(a:Option Addr) (cap:Nat),(a=none->es=[])->es.length<=cap->(es≠[]->∃ad,a=some ad/\ad.spot=none/\∀(i j:Nat) (y:V),(es[i]?.bind (·[j]?))=some y ->
    ∃c,w.cell? ⟨ad.block,ad.off+i*z+j,none⟩=some c/\c.oneCell'=true/\aD σ s w y c) ->
   ∃a' pA,Value.slice a es.length cap=.slice a' es.length pA/\(a'=none->es=[])/\es.length<=pA/\∃news:List Value,news.length=es.length*z/\(∀c∈news,c.oneCell'=true) /\
    (∀ad,a'=some ad->∀(j:Nat) (c:Value),news[j]?=some c->w.cell? (ad.add j)=some c) /\
    ∀(i j:Nat) (y:V),(es[i]?.bind (·[j]?))=some y->∃c,news[i*z+j]?=some c/\c.oneCell'=true/\aD σ s w y c:=by
  intro a cap h1 h2 h3;refine⟨a,cap,rfl,h1,h2,?_⟩;by_cases eX:es=[]
  ·subst eX;exact⟨[],aq,aq,aq,aq⟩
  ·obtain⟨ad,rfl,lQ,hc⟩:=h3 eX;have hdiv:∀p,p<es.length*z->0<z/\p / z<es.length/\p / z*z+p % z=p/\p % z<z:=by
    intro p hp;have hzp:0<z:=by
     rcases Nat.eq_zero_or_pos z with h'|h'
     ·subst h';simp at hp
     ·exact h'
    refine⟨hzp,?_,by rw[Nat.mul_comm];exact Nat.div_add_mod p z,Nat.mod_lt _ hzp⟩;rw[Nat.div_lt_iff_lt_mul hzp];exact hp
   have NS:∀p,p<es.length*z->∃y,(es[p / z]?.bind (·[p % z]?))=some y:=by intro p hp;obtain⟨g1,g2,g3,g4⟩:=hdiv p hp;have uj:(es[p / z]'g2).length=z:=hz _ (List.getElem_mem g2);exact⟨(es[p / z]'g2)[p % z]' ae,by simp [g2,uj,g4]⟩
   have rN:∀p,p<es.length*z->∃c,w.cell? ⟨ad.block,ad.off+p,none⟩=some c/\c.oneCell'=true:=by intro p hp;obtain⟨y,hy⟩:=NS p hp;obtain⟨c,k1,k2,_⟩:=hc _ _ y hy;exact⟨c,by rw[<- k1,alL,(hdiv p hp).2.2.1],k2⟩
   refine⟨(List.range (es.length*z)).map λp=>(w.cell? ⟨ad.block,ad.off+p,none⟩).getD undef,aq,?_,?_,?_⟩
   ·intro c Nh;obtain⟨p,hp,rfl⟩:=List.mem_map.1 Nh;obtain⟨c,k1,k2⟩:=rN p (by simpa using hp);rw[k1];exact k2
   ·intro ad' VV j c hj;cases VV;rw[List.getElem?_map]at hj;obtain⟨p,hp,rfl⟩:=Option.map_eq_some_iff.1 hj;have aE:j<es.length*z:=by simpa using (List.getElem?_eq_some_iff.1 hp).1
    obtain rfl:p=j:=by have:=(List.getElem?_eq_some_iff.1 hp).2;simpa using this.symm
    obtain⟨c,k1,_⟩:=rN p aE;rw[gW lQ,k1];rfl
   ·intro i j y hy;obtain⟨c,k1,k2,k3⟩:=hc i j y hy;refine⟨c,?_,k2,k3⟩;have hij:i*z+j<es.length*z:=by
     cases he:es[i]? with
     |none=>rw[he]at hy;cases hy
     |some e =>
      rw[he]at hy;have hj:=(List.getElem?_eq_some_iff.1 hy).1;rw[hz e (List.mem_of_getElem? he)]at hj;have:=alF z (show i+1<=es.length from (List.getElem?_eq_some_iff.1 he).1);exact ZcF
    rw[List.getElem?_map,List.getElem?_range hij];simp only[ala];rw[<- alL,k1];rfl
 have Hr:∀(aA:List (List D)) (a:Option Addr) (n cap:Nat),di (Own σ s) w (.sl aA) (.slice a n cap)->es=aA.map (·.map .d)->n=es.length/\(a=none->es=[])/\es.length<=cap /\
   (es≠[]->∃ad,a=some ad/\ad.spot=none/\∀(i j:Nat) (y:V),(es[i]?.bind (·[j]?))=some y ->
    ∃c,w.cell? ⟨ad.block,ad.off+i*z+j,none⟩=some c/\c.oneCell'=true/\aD σ s w y c):=by
  intro aA a n cap hd he;subst he;cases hd with
  |nil=>simp
  |sl _ ad _ sz f h1 h2 h3 h4 h5 =>
   refine⟨aq,aq,by simpa using h1,λeX=>⟨ad,rfl,h2 (by intro h';subst h';simp at eX),λi j y hy=>?_⟩⟩;obtain⟨y',rfl,Zu⟩:=SF hy;have gr:sz=z:=by
    cases Ex:aA[i]? with
    |none=>rw[Ex]at Zu;cases Zu
    |some e =>
     have:=h3 e (List.mem_of_getElem? Ex);have YP:=hz (e.map .d) (List.mem_map.2 ⟨e,List.mem_of_getElem? Ex,rfl⟩);simp at YP;omega
   subst gr;exact⟨f i j,(h4 i j y' Zu).1,(h5 i j y' Zu).one,.d (h5 i j y' Zu)⟩
 unfold jl at h;split at h
 ·simp only[alb]at h;cases hr with|d hr=>?_
  have hu:∃a n cap,u=.slice a n cap:=by cases hr <;> exact⟨_,_,_,rfl⟩
  obtain⟨a,n,cap,rfl⟩:=hu;obtain⟨rfl,e2,e3,e4⟩:=Hr _ a n cap hr h.symm;exact key a cap e2 e3 e4
 ·simp only[alb]at h;cases hr with|fu hr=>?_
  obtain⟨e1,e2,e3,e4⟩:=Hr _ _ _ _ hr h.symm;rw[e1];exact key _ _ e2 ae e4
 ·rename_i id g lo n;split at h
  case h_2=>cases h
  rename_i o ho;split at h
  case isFalse=>cases h
  rename_i hc;simp only[alb]at h;subst h;have hlen:((o.aA.drop lo).take n).length=n:=cV;cases hr with|so o' jb hg hu hk=>?_
  rw[ho]at jb;cases jb;rcases hk hc.1 with ⟨_,⟨a,rfl⟩,rfl,rfl⟩|⟨b,base,cap,E,arr,g1,g2,rfl,g4,g5⟩
  ·have:=key a 0 aq aq aq;simp only[amj]at this ⊢;exact this
  ·have:=key (some ⟨b,base+lo*o.sz,none⟩) cap aq ae (λeX=>⟨_,rfl,rfl,λi j y hy=>?_⟩)
   ·rw[hlen]at this ⊢;exact this
   ·have hi:i<n/\(o.aA[lo+i]?.bind (·[j]?))=some y:=by
     rw[List.getElem?_take]at hy;split at hy
     ·rw[List.getElem?_drop]at hy;exact⟨by assumption,hy⟩
     ·cases hy
    rcases hI.content _ o ho with h1|⟨b',bT,cN,E',h1,h2,h3,h4,h5⟩
    ·exact(h1.CH g1 ⟨arr,E,g2⟩).elim
    ·rw[g1]at h1;cases h1;rw[g2]at h2;cases h2;have gr:o.sz=z:=by
      cases Ex:o.aA[lo+i]? with
      |none=>rw[Ex]at hi;cases hi.2
      |some e =>
       have e1:=h3 e (List.mem_of_getElem? Ex);have e2:=hz e (List.mem_of_getElem? (i:=i) (by rw[List.getElem?_take,be hi.1,List.getElem?_drop];exact Ex));omega
     subst gr;obtain⟨c,k1,k2,k3⟩:=h5 (lo+i) j y hi.2;refine⟨c,?_,k2,k3⟩;simp only[World.cell?,g2];rw[alS]at k1;simpa [alL]using k1
 ·cases h
def dN (P:Program) (t:TypeId) (a x:V) (s:List Obj) (K:V->List Obj->Prop):Prop :=
 match jn P t with
 |none=>False
 |some (_,i)=>match jl s x with
  |none=>False
  |some ns=>((∀e∈ns,e.length=i.sz)/\0<i.sz/\0<i.EP)/\match a with
   |.fu aA=>match aA,x with
    |_::_,.d (.sl ds)=>((aA.length+ds.length)*i.EP<=140737488355328/\∀e∈aA,e.length=i.sz)/\K (.d (.sl (aA++ds))) s
    |_,_=>((aA=[]\/0<ns.length)/\(aA.length+ns.length)*i.EP<=140737488355328/\∀e∈aA,e.length=i.sz) /\
      K (.so s.length 0 0 (aA.length+ns.length)) (s++[⟨0,true,i.sz,aA.map (·.map .d)++ns⟩])
   |.so id g lo n=>wq s id g λo=>(o.live=true/\o.sz=i.sz/\lo+n<=o.aA.length/\(n+ns.length)*i.EP<=140737488355328) /\
     K (.so id (g+1) 0 (n+ns.length)) (s.set id ⟨g+1,true,i.sz,(o.aA.drop lo).take n++ns⟩)
   |_=>False
theorem vg{ns:List (List V)}{mJ news:List Value} (ho:mJ.length=es.length*z)
  (h1:∀(i j:Nat) (y:V),(es[i]?.bind (·[j]?))=some y->∃c,mJ[i*z+j]?=some c/\c.oneCell'=true/\aD σ s w y c)
  (h2:∀(i j:Nat) (y:V),(ns[i]?.bind (·[j]?))=some y->∃c,news[i*z+j]?=some c/\c.oneCell'=true/\aD σ s w y c) :
  ∀(i j:Nat) (y:V),((es++ns)[i]?.bind (·[j]?))=some y->∃c,(mJ++news)[i*z+j]?=some c/\c.oneCell'=true/\aD σ s w y c:=by
 intro i j y hy;by_cases hi:i<es.length
 ·rw[List.getElem?_append_left hi]at hy;obtain⟨c,k1,k2,k3⟩:=h1 i j y hy;refine⟨c,?_,k2,k3⟩;rw[List.getElem?_append_left (by
   have:=(List.getElem?_eq_some_iff.1 k1).1;exact this)]
  exact k1
 ·rw[List.getElem?_append_right ae]at hy;obtain⟨c,k1,k2,k3⟩:=h2 _ j y hy;refine⟨c,?_,k2,k3⟩;have hmul:i*z=es.length*z+(i-es.length)*z:=by rw[<- alS];congr 1;omega
  rw[List.getElem?_append_right (by rw[ho,hmul];omega),<- k1];congr 1;rw[ho,hmul];omega
theorem HT {l:List Value}{arr:Array Value}{p:Nat}{c:Value} (h:l[p]?=some c):(l.toArray++arr)[p]?=some c:=by have aE:=(List.getElem?_eq_some_iff.1 h).1;rw[Array.getElem?_append_left (by simpa using aE)];simpa using h
theorem n7{ti:TypeInfo} (hu:P.underlying t=some (.slice e)) (hi:P.info? e=some ti) (hs:Src P ti.size t ux 0 [] w)
  (base:Option Addr) (n cap:Nat) (h:n<=cap):(Builtin.append_ #[t,t] ty #[.slice base n cap,ux]).run P w=.ok (.slice base n cap) w:=by
 cases base <;> simp [Builtin.append_,run_underlying hu,sizeOf,typeInfo,hi,hs.len,h,hs.cells,storeCells]
theorem Jw{a:V}{K:V->List Obj->Prop} (hI:Inv σ s w) (ha:aD σ s w a ua) (hx:aD σ s w x ux)
  (h:dN P t a x s K):∃v r σ' s' w',(Builtin.append_ #[t,t] ty #[ua,ux]).run P w=.ok r w'/\aK σ s w σ' s' w'/\Inv σ' s' w'/\aD σ' s' w' v r/\K v s':=by
 unfold dN at h;split at h
 ·exact h.elim
 rename_i e i hti;obtain⟨hu,hi⟩:=ln hti;split at h
 ·exact h.elim
 rename_i ns yS;obtain⟨⟨hz,mb,hbp⟩,h⟩:=h;obtain⟨ti,d,z,k1,k2,k3,k4,k5,k6,k7,k8,k9⟩:=iI hi;obtain⟨ax,xR,rfl,E9,aad,news,n1,n2,n3,n4⟩:=jV hI hx yS hz;have Nx:z.cells.size=i.sz:=by rw[<- amu,k6,k7]
 have xk:Src P ti.size t (.slice ax ns.length xR) ns.length news w:=by
  rw[k4];exact Zbt
 have grow:∀(es:List (List V)) (base:Option Addr) (cap:Nat) (mJ:List Value),mJ.length=es.length*i.sz->(base=none->es=[])->(∀e∈es,e.length=i.sz) ->
   (∀ad,base=some ad->∀(j:Nat) (c:Value),mJ[j]?=some c->w.cell? (ad.add j)=some c) ->
   (∀(i' j:Nat) (y:V),(es[i']?.bind (·[j]?))=some y->∃c,mJ[i'*i.sz+j]?=some c/\c.oneCell'=true/\aD σ s w y c) ->
   cap<es.length+ns.length->(es.length+ns.length)*i.EP<=140737488355328 ->
   ∃(arr:Array Value) (pA:Nat),(Builtin.append_ #[t,t] ty #[.slice base es.length cap,.slice ax ns.length xR]).run P w=.ok (.slice (some ⟨w.heap.size,0,none⟩) (es.length+ns.length) pA) (w.drew.alloc (.cells arr e)) /\
    es.length+ns.length<=pA/\arr.size=pA*i.sz /\
    ∀(i' j:Nat) (y:V),((es++ns)[i']?.bind (·[j]?))=some y->∃c,arr[i'*i.sz+j]?=some c/\c.oneCell'=true/\aD σ s w y c:=by
  intro es base cap mJ o1 o2 o3 o4 o5 qf aga;have hold:(Builtin.firstCells ti.size es.length (.slice base es.length cap)).run P w.drew=.ok mJ.toArray w.drew:=by
   rw[k4];cases base with
   |none =>
    have:es=[]:=o2 rfl;subst this;have hn:mJ=[]:=alz (by simpa using o1);subst hn;exact run_firstCells_none w.drew i.sz 0 0 cap
   |some ad=>exact run_firstCells_some w.drew i.sz es.length ad es.length cap mJ o1 (by simpa using o4 ad rfl)
  have hle:es.length+ns.length<=(es.length+ns.length)*i.EP:=Nat.le_mul_of_pos_right _ hbp;have dU:=run_append_grow_src (P:=P) w t t ty e ti z hu k1 k3 base es.length cap mJ hold (.slice ax ns.length xR) ns.length news xk qf ae (growslice_fits qf (by rw[k5];exact aga));have gE:=grownCap_ge w (es.length+ns.length) cap e;refine⟨_,_,dU,gE,?_,?_⟩
  ·simp only[Array.size_append,List.size_toArray,size_zeroCells,ald,o1,n1,Nx];rw[<- alS,<- alS];congr 1;omega
  ·intro i' j y hy;obtain⟨c,c1,c2,c3⟩:=vg o1 o5 n4 i' j y hy;exact⟨c,HT c1,c2,c3⟩
 have U4:∀(es:List (List V)),(∀e∈es,e.length=i.sz)->∀e∈es++ns,e.length=i.sz:=by
  intro es Hl e he;rcases List.mem_append.1 he with h'|h'
  ·exact Hl e h'
  ·exact hz e h'
 obtain⟨Vs,YU⟩:=pT hI;split at h
 ·
  rename_i aA;have iy:jl s (.fu aA)=some (aA.map (·.map .d)):=rfl;have fuz:(∀e∈aA,e.length=i.sz)->∀e∈aA.map (·.map V.d),e.length=i.sz:=by intro hh e he;obtain⟨e',oT,rfl⟩:=List.mem_map.1 he;simpa using hh e' oT
  split at h
  ·
   rename_i d0 z9 ds;obtain⟨⟨hb,hl⟩,h⟩:=h;have Rt:ns=ds.map (·.map .d):=by simpa [jl]using yS.symm
   obtain⟨base,cap,Fv,a1,a2,mJ,o1,o2,o3,o4⟩:=jV hI ha iy (fuz hl);have Nm:cap=(d0::z9).length:=by
    exact Zdi
   subst Fv;have od:((d0::z9).map (·.map V.d)).length=(d0::z9).length:=aq;by_cases hm:ns.length=0
   ·have hds:ds=[]:=by rw[Rt]at hm;simpa using hm
    subst hds;have fS:ns=[]:=by simpa using Rt
    subst fS;have uv:news=[]:=alz (by simpa using n1);subst uv;cases base with
    |none=>simp at a1
    |some ad =>
     refine⟨_,.slice (some ad) ((d0::z9).map (·.map V.d)).length cap,σ,s,w,n7 hu k1 xk _ _ _ (by simp [Nm]),aK.refl _ _ _,hI,?_,h⟩
     ·rw[amv];exact .d (pC ha rfl)
   ·obtain⟨arr,pA,g1,g2,g3,g4⟩:=grow ((d0::z9).map (·.map .d)) base cap mJ o1 a1 (fuz hl) o3 o4 (by rw[od];omega) (by rw[od,Rt];simpa using hb);obtain⟨hE,jR⟩:=Hp YU (.cells arr e);refine⟨_,_,σ,s,_,g1,Vs.trans hE,jR,?_,h⟩;have hlen:((d0::z9).map (·.map V.d)).length+ns.length=((d0::z9)++ds).length:=by rw[Rt];simp;omega
    rw[hlen];refine .d (di.Nr (sz:=i.sz) (by rw[<- hlen];exact g2) (λx hx=>?_) (λho=>by have:=AU YU ho;simp at this) (λa j y hy=>?_))
    ·rcases List.mem_append.1 hx with h'|h'
     ·exact hl x h'
     ·have:=hz (x.map .d) (by rw[Rt];exact List.mem_map.2 ⟨x,h',rfl⟩);simpa using this
    ·have Zu:(((d0::z9).map (·.map V.d)++ns)[a]?.bind (·[j]?))=some (.d y):=by
      rw[Rt,<- amp,List.getElem?_map];cases hea:((d0::z9)++ds)[a]? with
      |none=>rw[hea]at hy;cases hy
      |some ea =>
       rw[hea]at hy;simp only[ala,alO,List.getElem?_map];rw[show ea[j]?=some y from hy];rfl
     obtain⟨c,c1,c2,c3⟩:=g4 a j _ Zu;refine⟨c,by
      show (w.drew.alloc (.cells arr e)).cell? ⟨w.drew.heap.size,0+a*i.sz+j,none⟩=some c;rw[World.cell?_alloc_new];simpa using c1,?_⟩
     have:=(c3.bj Vs).bj hE;cases this with|d h'=>exact h'
  ·
   obtain⟨⟨eX,hb,hl⟩,h⟩:=h;obtain⟨base,cap,Fv,a1,a2,mJ,o1,o2,o3,o4⟩:=jV hI ha iy (fuz hl);have Nm:cap=aA.length:=by
    exact Zdi
   subst Fv;have od:(aA.map (·.map V.d)).length=aA.length:=aq;by_cases hm:ns.length=0
   ·have he0:aA=[]:=eX.resolve_right ae;subst he0;have fS:ns=[]:=alz hm;subst fS;have uv:news=[]:=alz (by simpa using n1);subst uv;have:=pP (p:=none) (o':=⟨0,true,i.sz,[]⟩) (w':=w) hI rfl rfl rfl (ale _) (λ_ _=>rfl) (λ_ _ h'=>by cases h') (λ_=>.inl (.inl ⟨rfl,rfl⟩));refine⟨_,.slice base 0 cap,_,_,w,n7 hu k1 xk _ _ _ (Nat.zero_le _),this.1,this.2,?_,h⟩
    ·subst Nm;exact .so ⟨0,true,i.sz,[]⟩ aq (ale _) ⟨_,_,rfl⟩ (λ_=>.inl ⟨cy _ _ _,⟨base,rfl⟩,rfl,rfl⟩)
   ·obtain⟨arr,pA,g1,g2,g3,g4⟩:=grow (aA.map (·.map .d)) base cap mJ o1 a1 (fuz hl) o3 o4 (by rw[od];omega) (by rw[od];exact hb);have:=tg (aA:=aA.map (·.map .d)++ns) (sz:=i.sz) (arr:=arr) YU e (U4 _ (fuz hl)) (by rw[g3];exact alF _ (by simpa using g2))
     (λi' j y hy=>let ⟨c,c1,c2,c3⟩:=g4 i' j y hy;⟨c,c1,c2,c3.bj Vs⟩)
    refine⟨_,_,_,_,_,g1,Vs.trans this.1,this.2,?_,h⟩;rw[od];refine .so ⟨0,true,i.sz,aA.map (·.map .d)++ns⟩ aq (ale _) ⟨_,_,rfl⟩ (λ_=>.inr ⟨w.heap.size,0,pA,e,arr,cy _ _ _,heap_alloc_new w.drew _,aq,by rw[od]at g2;exact g2,by simp [g3]⟩)
 ·
  rename_i id g lo n;obtain⟨o,ho,hg,⟨uX,Lj,hlo,hb⟩,h⟩:=eT h;have iy:jl s (.so id g lo n)=some ((o.aA.drop lo).take n):=by simp [jl,ho,hg,hlo]
  have od:((o.aA.drop lo).take n).length=n:=cV;have Xg:∀e∈(o.aA.drop lo).take n,e.length=i.sz:=by
   intro e he;have oT:e∈o.aA:=List.mem_of_mem_drop (alU he);exact ZaE
  obtain⟨base,cap,Fv,a1,a2,mJ,o1,o2,o3,o4⟩:=jV hI ha iy Xg;rw[od]at Fv a2;cases ha with|so o' jb D4 Sn hk=>?_
  rw[ho]at jb;cases jb;have vD:=hk hg;by_cases qf:cap<n+ns.length
  ·
   obtain⟨arr,pA,g1,g2,g3,g4⟩:=grow _ base cap mJ o1 a1 Xg o3 o4 (by rw[od];exact qf) (by rw[od];exact hb);rw[od]at g1 g2;subst Fv;have:=oM (p:=some (w.heap.size,0)) (o':=⟨g+1,true,i.sz,(o.aA.drop lo).take n++ns⟩) (w':=w.drew.alloc (.cells arr e)) hI ho uX rfl rfl rfl aq
    (λb St _=>amd w.drew _ b St)
    (λb bT cN E' he hh=>⟨cN,by rw[amd w.drew _ b (by exact eo hh)];exact hh,rfl⟩)
    (λb bT he hm=>let ⟨es,c,hh⟩:=hm;⟨es,c,by rw[amd w.drew _ b (by exact eo hh)];exact hh⟩)
    oE (λh'=>by simp only at h';omega) (λb bT he=>by cases he;exact .inr (ale _))
    (λhE=>.inr ⟨w.heap.size,0,arr,e,rfl,heap_alloc_new w.drew _,U4 _ Xg,by simp only[ald,od,g3];rw[alc];exact alF _ g2,λi' j y hy=>by
     obtain⟨c,c1,c2,c3⟩:=g4 i' j y hy;exact⟨c,by simpa using c1,c2,c3.bj hE⟩⟩)
   refine⟨_,_,_,_,_,g1,this.1,this.2,?_,h⟩;exact .so ⟨g+1,true,i.sz,(o.aA.drop lo).take n++ns⟩ (by simp [(List.getElem?_eq_some_iff.1 ho).1]) (ale _) ⟨_,_,rfl⟩ (λ_=>.inr ⟨w.heap.size,0,pA,e,arr,cy _ _ _,heap_alloc_new w.drew _,aq,g2,by simp [g3]⟩)
  ·
   have vt:n+ns.length<=cap:=ae;rcases vD with ⟨jW,⟨aa,za⟩,rfl,rfl⟩|⟨b,bs,cp,E,arr,dL,hh,za,Bp,hfit⟩
   ·
    rw[Fv]at za;simp only[Value.slice.injEq]at za;obtain⟨rfl,_,rfl⟩:=za;have fS:ns=[]:=alz ae;subst fS;have uv:news=[]:=alz (by simpa using n1);subst uv;subst Fv;have:=oM (p:=none) (o':=⟨g+1,true,i.sz,(o.aA.drop 0).take 0++[]⟩) (w':=w) hI ho uX rfl rfl rfl (ale _) (λ_ _ _=>rfl)
     (λ_ _ cN _ _ hh=>⟨cN,hh,rfl⟩) (λ_ _ _ hm=>hm) oE (λh'=>by simp only at h';omega) (λ_ _ he=>by cases he) (λ_=>.inl (.inl ⟨rfl,aq⟩))
    refine⟨_,.slice base 0 0,_,_,w,n7 hu k1 xk _ _ _ (ale _),this.1,this.2,?_,h⟩
    ·exact .so ⟨g+1,true,i.sz,(o.aA.drop 0).take 0++[]⟩ (by simp [(List.getElem?_eq_some_iff.1 ho).1]) (ale _) ⟨_,_,rfl⟩ (λ_=>.inl ⟨cy _ _ _,⟨base,rfl⟩,rfl,rfl⟩)
   ·rw[Fv]at za;simp only[Value.slice.injEq]at za;obtain⟨rfl,_,rfl⟩:=za;subst Fv;have hq:bs+lo*o.sz+n*i.sz+news.length<=arr.size:=by rw[n1,<- Lj];have e1:(lo+cap)*o.sz=lo*o.sz+cap*o.sz:=alS _ _ _;have e2:=alF o.sz vt;rw[alS]at e2;omega
    have bL:=run_storeCells_at P b (bs+lo*o.sz+n*i.sz) E news 0 arr w hh ae n2;simp only[al8]at bL;generalize qI:(arr.toList.take (bs+lo*o.sz+n*i.sz)++news++arr.toList.drop (bs+lo*o.sz+n*i.sz+news.length)).toArray=cN at bL;have jS:cN.size=arr.size:=by rw[<- qI];simp;omega
    have aE:∀p,p<bs+lo*o.sz+n*i.sz->cN[p]?=arr[p]?:=by intro p hp;rw[<- qI,List.getElem?_toArray,alx,List.getElem?_append_left cV,List.getElem?_take,be hp,Array.getElem?_toList]
    have kK:∀q,q<news.length->cN[bs+lo*o.sz+n*i.sz+q]?=news[q]?:=by intro q Cf;have hl:(arr.toList.take (bs+lo*o.sz+n*i.sz)).length=bs+lo*o.sz+n*i.sz:=cV;rw[<- qI,List.getElem?_toArray,alx,List.getElem?_append_right ae,hl,List.getElem?_append_left ae];congr 1;omega
    have:=oM (p:=some (b,bs+lo*o.sz)) (o':=⟨g+1,true,i.sz,(o.aA.drop lo).take n++ns⟩) (w':=w.setRow b cN) hI ho uX rfl rfl rfl aq
     (λb1 _ eX=>setRow_other w b b1 cN (λe=>eX bs (by rw[dL,e])))
     (λb1 kI ZA E1 he Zn=>by
      rw[dL]at he;cases he;rw[hh]at Zn;cases Zn;exact⟨cN,setRow_heap w b arr cN E (0,0) hh,jS⟩)
     (λb1 kI he hm=>by
      rw[dL]at he;cases he;exact(IA.notM ⟨arr,E,hh⟩ hm).elim)
     oE (λh'=>by simp only at h';omega) (λb1 kI he=>by cases he;exact .inl ⟨bs,dL⟩)
     (λhE=>.inr ⟨b,bs+lo*o.sz,cN,E,rfl,setRow_heap w b arr cN E (0,0) hh,U4 _ Xg,(by
      simp only[ald,od,alS];rw[jS];omega),λi' j y hy=>by
      obtain⟨c,c1,c2,c3⟩:=vg (z:=i.sz) o1 o4 n4 i' j y hy;refine⟨c,?_,c2,c3.bj hE⟩;simp only;by_cases hij:i'*i.sz+j<mJ.length
      ·rw[List.getElem?_append_left hij]at c1;rw[aE _ (by rw[o1,od]at hij;omega)];have hc:=o3 ⟨b,bs+lo*o.sz,none⟩ rfl _ c c1;rw[gW rfl]at hc;simp only[World.cell?,hh]at hc;simpa [alL]using hc
      ·rw[List.getElem?_append_right ae]at c1;have aH:=(List.getElem?_eq_some_iff.1 c1).1;have:=kK _ aH;rw[c1]at this;rw[<- this];congr 1;rw[o1,od]at *;omega⟩)
    refine⟨_,.slice (some ⟨b,bs+lo*o.sz,none⟩) (n+ns.length) cap,_,_,w.setRow b cN,?_,this.1,this.2,?_,h⟩
    ·have nf:=xk.cells;rw[k4]at nf;exact ZcG
    ·exact .so ⟨g+1,true,i.sz,(o.aA.drop lo).take n++ns⟩ (by simp [(List.getElem?_eq_some_iff.1 ho).1]) (ale _) ⟨_,_,rfl⟩
      (λ_=>.inr ⟨b,bs+lo*o.sz,cap,E,cN,cy _ _ _,setRow_heap w b arr cN E (0,0) hh,aq,vt,by rw[jS];simp only[alc];rw[<- Lj,alS]at *;omega⟩)
 ·exact h.elim
theorem tK (w:World) (t tn ty e:TypeId) (i:TypeInfo) (z:Value) (k kn:IntKind) (ht:P.underlying t=some (.slice e)) (htn:P.underlying tn=some (.int kn)) (hi:P.info? e=some i) (hz:i.zero=some z)
  (base:Option Addr) (n:Nat) (h0:0<n) (hs:0<i.size) (FU:(n:Int)<=9223372036854775807) (h48:n*i.bytes<=281474976710656) :
  (Builtin.append_ #[t,tn] ty #[.slice base 0 0,.int k n]).run P w =
   .ok (.slice (some ⟨w.heap.size,0,none⟩) n (grownCap w n 0 e)) (w.drew.alloc (.cells (Builtin.zeroCells z.cells n++Builtin.zeroCells z.cells (grownCap w n 0 e-n)) e)):=by
 have hn:n≠0:=ae;have hw:IntKind.i64.wrap (n:Int)=n:=by rw[IntKind.wrap_i64];omega
 have agb:¬(9223372036854775807<(n:Int)):=ae;have agX:¬(281474976710656<Builtin.nextslicecap n 0*i.bytes):=by rw[nextslicecap_zero h0];omega
 have ags:¬(281474976710656<(n:Int)*(i.bytes:Int)):=by rw[<- Int.natCast_mul];omega
 have dQ:¬((n:Int)<0):=ae;have yS:¬(n*i.size=0):=Nat.mul_ne_zero hn ae;have hold:∀w:World,(Builtin.firstCells i.size 0 (.slice base 0 0)).run P w=.ok #[] w:=by
  intro w;cases base with
  |none=>exact run_firstCells_none w i.size 0 0 0
  |some ad=>exact run_firstCells_some w i.size 0 ad 0 0 [] aq aq
 simp [Builtin.append_,run_underlying ht,run_underlying htn,sizeOf,typeInfo,zeroValue,hi,hz,asInt,asIntOf,hw,hn,dQ,yS,agb,agX,ags,Question.forced,hold,newRow,grownCap]
def lr (P:Program) (t t':TypeId) (a x:V) (s:List Obj) (K:V->List Obj->Prop):Prop :=
 match jn P t with
 |none=>False
 |some (_,i)=>match P.underlying t' with
  |some (.int _)=>match a,x with
   |.fu aA,.d (.sc (.int _ n))=>(aA=[]/\0<n/\(i.EP:Int)*n<=140737488355328/\n<=140737488355328/\0<i.sz) /\
     K (.so s.length 0 0 n.toNat) (s++[⟨0,true,i.sz,List.replicate n.toNat (i.zero.map cv)⟩])
   |_,_=>False
  |_=>False
theorem Gc{t':TypeId}{a:V}{K:V->List Obj->Prop} (hI:Inv σ s w) (ha:aD σ s w a ua) (hx:aD σ s w x ux)
  (h:lr P t t' a x s K):∃v r σ' s' w',(Builtin.append_ #[t,t'] ty #[ua,ux]).run P w=.ok r w'/\aK σ s w σ' s' w'/\Inv σ' s' w'/\aD σ' s' w' v r/\K v s':=by
 unfold lr at h;split at h
 ·exact h.elim
 rename_i e i hti;obtain⟨hu,hi⟩:=ln hti;split at h
 case h_2=>exact h.elim
 rename_i kn hun;split at h
 case h_2=>exact h.elim
 rename_i aA k n;obtain⟨⟨rfl,h1,h2,h3,h4⟩,h⟩:=h;cases hx with|d hx=>?_
 cases hx with|sc _ _=>?_
 cases ha with|fu ha=>?_
 rename_i base;obtain⟨ti,d,z,k1,k2,k3,k4,k5,k6,k7,k8,k9⟩:=iI hi;have Nx:z.cells.size=i.sz:=by rw[<- amu,k6,k7]
 obtain⟨N,rfl⟩:=amg (show 0<=n by omega);have h48:N*ti.bytes<=281474976710656:=by
  rw[k5,Nat.mul_comm];have:((i.EP*N:Nat):Int)<=140737488355328:=by rw[Int.natCast_mul];exact h2
  omega
 have dU:=tK (P:=P) w t t' ty e ti z k kn hu hun k1 k3 base N ae (by rw[k4];exact h4) ae h48;have gE:=grownCap_ge w N 0 e;generalize grownCap w N 0 e=cap at dU gE;obtain⟨Vs,YU⟩:=pT hI;have gr:(Builtin.zeroCells z.cells N++Builtin.zeroCells z.cells (cap-N)).size=cap*i.sz:=by simp only[Array.size_append,size_zeroCells,Nx];rw[<- alS];congr 1;omega
 obtain⟨r1,r2,r3⟩:=Df hi σ s w N z k6;have hzc:Builtin.zeroCells z.cells N=(Array.range (N*i.sz)).map (z.cells[· % z.cells.size]!):=by unfold Builtin.zeroCells;rw[Nx]
 have ig:∀(a j:Nat) (x:V),((List.replicate N (i.zero.map cv))[a]?.bind (·[j]?))=some x->∃c,(Builtin.zeroCells z.cells N++Builtin.zeroCells z.cells (cap-N))[a*i.sz+j]?=some c/\c.oneCell'=true/\aD σ s w x c:=by intro a j x hx;obtain⟨c,c1,c2,c3⟩:=r3 a j x hx;refine⟨c,?_,c2,c3⟩;rw[<- hzc]at c1;have aE:=(Array.getElem?_eq_some_iff.1 c1).1;rw[Array.getElem?_append_left aE];exact c1
 generalize Builtin.zeroCells z.cells N++Builtin.zeroCells z.cells (cap-N)=arr at *;have:=tg (aA:=List.replicate N (i.zero.map cv)) (sz:=i.sz) (arr:=arr) YU e (λx hx=>by rw[List.eq_of_mem_replicate hx];simp [k7])
  (by rw[gr,alQ];exact alF _ gE) (λa j x hx=>let ⟨c,c1,c2,c3⟩:=ig a j x hx;⟨c,c1,c2,c3.bj Vs⟩)
 refine⟨_,_,_,_,_,dU,Vs.trans this.1,this.2,?_,h⟩;exact .so ⟨0,true,i.sz,List.replicate N (i.zero.map cv)⟩ aq (ale _) ⟨_,_,rfl⟩ (λ_=>.inr ⟨w.heap.size,0,cap,e,arr,cy _ _ _,heap_alloc_new w.drew _,aq,gE,by simp [gr]⟩)
def CJ (x:Option V) (Wc:Int):Option Int :=
 match x with
 |none=>some Wc
 |some v=>Mq v
def uJ (cs:List D) (z l n:Nat):List (List D):=(List.range n).map λi=>(cs.drop ((l+i)*z)).take z
def m6 (P:Program) (t:TypeId) (x:V) (lo hi mx:Option V) (K:V->Prop):Prop :=
 match Yv P t with
 |none=>False
 |some (len,z)=>match x,CJ lo 0,CJ hi len,mx with
  |.d (.el cs),some l,some h,none=>((0<=l/\l<=h/\h<=len)/\cs.length=len*z)/\K (.d (.sl (uJ cs z l.toNat (h-l).toNat)))
  |_,_,_,_=>False
def lX (P:Program) (t:TypeId) (x:V) (lo hi mx:Option V) (s:List Obj) (K:V->Prop):Prop :=
 match EN P t with
 |none=>m6 P t x lo hi mx K
 |some z=>match jl s x with
  |none=>False
  |some es=>match CJ lo 0,CJ hi es.length with
   |some l,some h=>(0<=l/\l<=h/\h<=es.length)/\match x,mx with
    |.d (.sl aA),none=>(l=0\/∀e∈aA,e.length=z)/\K (.d (.sl ((aA.drop l.toNat).take (h-l).toNat)))
    |.fu aA,none=>(l=0\/∀e∈aA,e.length=z)/\K (bif aA.isEmpty then .fu [] else .d (.sl ((aA.drop l.toNat).take (h-l).toNat)))
    |.d (.sl aA),some m=>hi.isSome=true/\Mq m=some h/\(l=0\/∀e∈aA,e.length=z)/\K (.fu ((aA.drop l.toNat).take (h-l).toNat))
    |.so id g ZC _,none=>wq s id g λo=>o.sz=z/\if l=0\/l<h then K (.so id g (ZC+l.toNat) (h-l).toNat) else K (.d (.sl []))
    |_,_=>False
   |_,_=>False
theorem di.sub{h m:Nat} (hr:di O w (.sl aA) (.slice a n cap)) (hl:l<=h) (hh:h<=aA.length) (hm:h<=m) (lE:m<=cap)
  (hz:l=0\/∀e∈aA,e.length=z):di O w (.sl ((aA.drop l).take (h-l))) (.slice (if m=l then a else a.map (·.add (l*z))) (h-l) (m-l)):=by
 have hlen:((aA.drop l).take (h-l)).length=h-l:=cV;cases hr with
 |nil =>
  simp only[alf]at hh;obtain rfl:h=0:=ae;obtain rfl:l=0:=ae;obtain rfl:m=0:=ae;exact .nil
 |sl _ ad _ sz f h1 h2 h3 h4 h5 =>
  by_cases hml:m=l
  ·rw[be hml];have e0:(aA.drop l).take (h-l)=[]:=alz (by rw[hlen];omega);have:=di.sl (O:=O) (w:=w) [] ad (m-l) sz f aq aq aq aq aq;rw[e0,show h-l=0 by omega];exact this
  ·rw[ap hml];simp only[ala];have ig:∀(i:Nat) (e:List D),((aA.drop l).take (h-l))[i]?=some e->aA[l+i]?=some e:=by
    intro i e he;rw[List.getElem?_take]at he;split at he
    ·rw[List.getElem?_drop]at he;exact he
    ·cases he
   have ae9:∀e∈(aA.drop l).take (h-l),e.length=sz:=λe he=>h3 e (List.mem_of_mem_drop (alU he));have hmul:∀(i j:Nat) (x:D),(((aA.drop l).take (h-l))[i]?.bind (·[j]?))=some x->(aA[l+i]?.bind (·[j]?))=some x/\ad.add (l*z)=⟨ad.block,ad.off+l*sz,none⟩:=by
    intro i j x hx;cases he:((aA.drop l).take (h-l))[i]? with
    |none=>rw[he]at hx;cases hx
    |some e =>
     rw[he]at hx;have oT:=ig i e he;refine⟨by rw[oT];exact hx,?_⟩;have eX:aA≠[]:=by intro h';subst h';simp at oT
     rw[gW (h2 eX)];rcases hz with rfl|hz
     ·simp
     ·have:=hz e (List.mem_of_getElem? oT);have:=h3 e (List.mem_of_getElem? oT);rw[show z=sz by omega]
   have:=di.sl (O:=O) (w:=w) ((aA.drop l).take (h-l)) (ad.add (l*z)) (m-l) sz (λi j=>f (l+i) j) (by rw[hlen];omega)
    (λeX=>by
     have agI:aA≠[]:=by intro h';subst h';simp at eX
     rw[gW (h2 agI)]) ae9
    (λi j x hx=>by
     obtain⟨g1,g2⟩:=hmul i j x hx;have:=h4 (l+i) j x g1;rw[g2];simpa [alS,alL]using this)
    (λi j x hx=>h5 (l+i) j x (hmul i j x hx).1)
   rw[hlen]at this;exact this
theorem zb{x:Option V}{u:Option Value}{Wc n:Int} (hr:∀v,x=some v->∃c,u=some c/\aD σ s w v c) (hn:x=none->u=none) (h:CJ x Wc=some n) :
  (u=none/\n=Wc)\/∃k,u=some (.int k n):=by
 cases x with
 |none=>simp only[CJ,alb]at h;exact .inl ⟨hn rfl,h.symm⟩
 |some v =>
  obtain⟨c,rfl,hc⟩:=hr v rfl;obtain⟨k,rfl⟩:=Hy hc h;exact .inr ⟨k,rfl⟩
theorem Bf{ti:TypeInfo} (hu:P.underlying t=some (.slice e)) (hi:P.info? e=some ti){lo hi' mx:Option Value}{h m:Nat}
  (hlo:(lo=none/\l=0)\/∃k,lo=some (.int k l)) (hhi:(hi'=none/\h=n)\/∃k,hi'=some (.int k h)) (Sp:(mx=none/\m=cap)\/(hi'≠none/\∃k,mx=some (.int k m)))
  (hlh:l<=h) (hhm:h<=m) (hmc:m<=cap) (w:World) :
  (Instr.sliceAt t (.slice a n cap) lo hi' mx).run P w=.ok (.slice (if m=l then a else a.map (·.add (l*ti.size))) (h-l) (m-l)) w:=by
 have b:∀(k:IntKind) (i y:Nat) (c:BoundsCode),i<=y->(Instr.sliceBound (.int k i) y c).run P w=.ok i w:=by intro k i y c hh;simp [Instr.sliceBound,asIntOf,hh]
 rcases hlo with ⟨rfl,rfl⟩|⟨kl,rfl⟩ <;> rcases hhi with ⟨rfl,rfl⟩|⟨kh,rfl⟩ <;> rcases Sp with ⟨rfl,rfl⟩|⟨eX,km,rfl⟩ <;>
  first
   |(exact absurd rfl eX)
   |simp [Instr.sliceAt,Instr.slice,run_underlying hu,Instr.sliceBounds,b,hlh,hhm,hmc,sizeOf,typeInfo,hi]
theorem di.chunk{cs:List D}{a:Addr}{len:Nat} (hr:di O w (.el cs) (.pointer (some a))) (hlen:cs.length=len*z) (hn:l+n<=len) :
  di O w (.sl (uJ cs z l n)) (.slice (some (if len=l then a else a.add (l*z))) n (len-l)):=by
 cases hr with
 |el _ _ f h1 h2 h3 =>
  have hl:(uJ cs z l n).length=n:=by simp [uJ]
  by_cases fS:n=0
  ·subst fS;exact di.sl [] _ (len-l) 0 (λ_ _=>undef) aq aq aq aq aq
  ·rw[bm,gW h1];have ig:∀(i j:Nat) (x:D),((uJ cs z l n)[i]?.bind (·[j]?))=some x->cs[(l+i)*z+j]?=some x:=by
    intro i j x hx;unfold uJ at hx;rw[List.getElem?_map]at hx;cases hi:(List.range n)[i]? with
    |none=>rw[hi]at hx;cases hx
    |some k =>
     have hk:k=i:=by have:=List.getElem?_eq_some_iff.1 hi;obtain⟨h1,h2⟩:=this;simpa using h2.symm
     subst hk;rw[hi]at hx;simp only[ala,alO]at hx;rw[List.getElem?_take]at hx;split at hx
     ·rwa [List.getElem?_drop]at hx
     ·cases hx
   have:=di.sl (O:=O) (w:=w) (uJ cs z l n) ⟨a.block,a.off+l*z,none⟩ (len-l) z (λi j=>f ((l+i)*z+j)) ae (λ_=>rfl)
    (λe he=>by
     unfold uJ at he;obtain⟨i,hi,rfl⟩:=List.mem_map.1 he;have hi:=List.mem_range.1 hi;have:=alF z (show l+i+1<=len by omega);rw[alS,Nat.one_mul]at this;rw[alM,List.length_drop];omega)
    (λi j x hx=>by
     have:=h2 _ x (ig i j x hx);have e:a.off+((l+i)*z+j)=a.off+l*z+i*z+j:=by rw[alS];omega
     rw[e]at this;exact this)
    (λi j x hx=>h3 _ x (ig i j x hx))
   rw[hl]at this;exact this
theorem GM (hx:aD σ s w x ux)
  (hl:∀v,lo=some v->∃c,ul=some c/\aD σ s w v c) (Ni:lo=none->ul=none) (hh:∀v,hi=some v->∃c,uh=some c/\aD σ s w v c) (hhn:hi=none->uh=none)
  (hmn:mx=none->um=none) (h:m6 P t x lo hi mx K) :
  ∃v c,(Instr.sliceAt t ux ul uh um).run P w=.ok c w/\aD σ s w v c/\K v:=by
 unfold m6 at h;split at h
 ·exact h.elim
 rename_i len z hz;obtain⟨e,ti,e1,e2,e3⟩:=ES hz;split at h
 case h_2=>exact h.elim
 rename_i cs l h' mY hh0;obtain⟨⟨⟨b1,b2,b3⟩,hlen⟩,hK⟩:=h;obtain⟨L,rfl⟩:=amg b1;obtain⟨H,rfl⟩:=amg (show 0<=h' by omega);have tc:=zb hl Ni mY;have VN:=zb hh hhn hh0;have IB:=hmn rfl;subst IB;cases hx with|d hx=>?_
 have hxx:=hx;cases hx with|el _ a f h1 h2 h3=>?_
 have hr:=di.chunk (l:=L) (n:=H-L) hxx hlen ae;rw[<- e3]at hr;refine⟨_,_,?_,.d hr,by rw[show ((H:Int)-L).toNat=H-L by omega,ak7,<- e3]at hK;exact hK⟩;have b:∀(k:IntKind) (i y:Nat) (c:BoundsCode),i<=y->(Instr.sliceBound (.int k i) y c).run P w=.ok i w:=by intro k i y c hh;simp [Instr.sliceBound,asIntOf,hh]
 have hL:L<=H:=ae;have hH:H<=len:=ae;rcases tc with ⟨rfl,tc⟩|⟨kl,rfl⟩ <;> rcases VN with ⟨rfl,VN⟩|⟨kh,rfl⟩
 ·obtain rfl:L=0:=by omega
  obtain rfl:H=len:=ae;simp [Instr.sliceAt,run_underlying e1,Instr.sureAddr,Instr.sliceBounds,sizeOf,typeInfo,e2]
 ·obtain rfl:L=0:=by omega
  simp [Instr.sliceAt,run_underlying e1,Instr.sureAddr,Instr.sliceBounds,b,hH,sizeOf,typeInfo,e2]
 ·obtain rfl:H=len:=by omega
  simp [Instr.sliceAt,run_underlying e1,Instr.sureAddr,Instr.sliceBounds,b,hL,sizeOf,typeInfo,e2]
 ·simp [Instr.sliceAt,run_underlying e1,Instr.sureAddr,Instr.sliceBounds,b,hL,hH,sizeOf,typeInfo,e2]
theorem L4 (hx:aD σ s w x ux)
  (hl:∀v,lo=some v->∃c,ul=some c/\aD σ s w v c) (Ni:lo=none->ul=none) (hh:∀v,hi=some v->∃c,uh=some c/\aD σ s w v c) (hhn:hi=none->uh=none)
  (hm:∀v,mx=some v->∃c,um=some c/\aD σ s w v c) (hmn:mx=none->um=none) (h:lX P t x lo hi mx s K) :
  ∃v c,(Instr.sliceAt t ux ul uh um).run P w=.ok c w/\aD σ s w v c/\K v:=by
 unfold lX at h;split at h
 ·exact GM hx hl Ni hh hhn hmn h
 rename_i z hz;obtain⟨e,ti,e1,e2,e3⟩:=L9 hz;split at h
 ·exact h.elim
 rename_i es Hl;split at h
 case h_2=>exact h.elim
 rename_i l h' mY hh0;obtain⟨⟨b1,b2,b3⟩,h⟩:=h;obtain⟨L,rfl⟩:=amg b1;obtain⟨H,rfl⟩:=amg (show 0<=h' by omega);have tc:=zb hl Ni mY;have VN:=zb hh hhn hh0;have BT:(ul=none/\L=0)\/∃k,ul=some (.int k (L:Int)):=tc.imp (λh=>⟨h.1,ae⟩) id;have e4:((H:Int)-L).toNat=H-L:=ae;simp only[ak7,e4]at h;have data:∀(aA:List (List D)),di (Own σ s) w (.sl aA) ux->es.length=aA.length->(L=0\/∀e∈aA,e.length=z)->∀(M:Nat),H<=M->(∀a n cap,ux=.slice a n cap->M<=cap/\((um=none/\M=cap)\/(uh≠none/\∃k,um=some (.int k (M:Int))))) ->
   ∃c a cap,ux=.slice a aA.length cap/\(Instr.sliceAt t ux ul uh um).run P w=.ok c w/\di (Own σ s) w (.sl ((aA.drop L).take (H-L))) c/\c=.slice (if M=L then a else a.map (·.add (L*z))) (H-L) (M-L):=by
  intro aA hd hlen hzz M hM Dw;have hu:∃a n cap,ux=.slice a n cap:=by cases hd <;> exact⟨_,_,_,rfl⟩
  obtain⟨a,n,cap,rfl⟩:=hu;have hn:n=aA.length/\aA.length<=cap:=by cases hd <;> simp_all
  obtain⟨rfl,qf⟩:=hn;obtain⟨c1,c2⟩:=Dw a _ cap rfl;have dU:=Bf (P:=P) e1 e2 (a:=a) (n:=aA.length) (cap:=cap) (lo:=ul) (hi':=uh) (mx:=um) (l:=L) (h:=H) (m:=M) BT (VN.imp (λh=>⟨h.1,ae⟩) id) c2 ae hM c1 w;rw[e3]at dU;exact⟨_,a,cap,rfl,dU,di.sub hd ae ae hM c1 hzz,rfl⟩
 split at h
 ·
  rename_i aA;have hd:di (Own σ s) w (.sl aA) ux:=pC hx rfl;have hlen:es.length=aA.length:=by simp only[jl,alb]at Hl;rw[<- Hl];simp
  have hu:∃a n cap,ux=.slice a n cap:=by cases hd <;> exact⟨_,_,_,rfl⟩
  obtain⟨a,n,cap,rfl⟩:=hu;have hn:n=aA.length/\aA.length<=cap:=by cases hd <;> simp_all
  obtain⟨c,_,_,_,r1,r2,_⟩:=data aA hd hlen (h.1.imp ae id) cap ae (λa' n' pA he=>by cases he;exact⟨ale _,.inl ⟨hmn rfl,rfl⟩⟩);exact⟨_,c,r1,.d r2,h.2⟩
 ·rename_i aA;have hd:di (Own σ s) w (.sl aA) ux:=pC hx rfl;have hlen:es.length=aA.length:=by simp only[jl,alb]at Hl;rw[<- Hl];simp
  have hu:∃a n cap,ux=.slice a n cap:=by cases hd <;> exact⟨_,_,_,rfl⟩
  obtain⟨a,n,cap,rfl⟩:=hu;have hn:n=aA.length/\aA.length<=cap:=by cases hd <;> simp_all
  have cQ:cap=aA.length:=by
   cases hx with|fu _=>rfl
  obtain⟨c,a',pA,hq,r1,r2,r3⟩:=data aA hd hlen (h.1.imp ae id) cap ae (λa' n' pA he=>by cases he;exact⟨ale _,.inl ⟨hmn rfl,rfl⟩⟩);cases aA with
  |nil =>
   have hL:L=0:=by simp only[alf]at hlen;omega
   have hH:H=0:=by simp only[alf]at hlen;omega
   subst hL;subst hH;subst cQ;refine⟨_,c,r1,?_,h.2⟩;rw[r3]at r2 ⊢;exact .fu (aA:=[]) r2
  |cons x xs=>exact⟨_,c,r1,.d r2,h.2⟩
 ·rename_i aA m;obtain⟨h1,h2,h3,h⟩:=h;have hd:di (Own σ s) w (.sl aA) ux:=pC hx rfl;have hlen:es.length=aA.length:=by simp only[jl,alb]at Hl;rw[<- Hl];simp
  obtain⟨cm,Zo,hrm⟩:=hm m rfl;obtain⟨km,rfl⟩:=Hy hrm h2;have afh:uh≠none:=by
   cases hi with
   |none=>simp at h1
   |some v=>obtain⟨c,rfl,_⟩:=hh v rfl;simp
  have hu:∃a n cap,ux=.slice a n cap:=by cases hd <;> exact⟨_,_,_,rfl⟩
  obtain⟨a,n,cap,rfl⟩:=hu;have hn:n=aA.length/\aA.length<=cap:=by cases hd <;> simp_all
  obtain⟨c,a',pA,_,r1,r2,r3⟩:=data aA hd hlen (h3.imp ae id) H (ale _) (λa' n' pA he=>by cases he;exact⟨ae,.inr ⟨afh,km,Zo⟩⟩);refine⟨_,c,r1,?_,h⟩;have Cu:((aA.drop L).take (H-L)).length=H-L:=cV;rw[r3]at r2 ⊢;have:aD σ s w (.fu ((aA.drop L).take (H-L))) (.slice (if H=L then a' else a'.map (·.add (L*z))) ((aA.drop L).take (H-L)).length ((aA.drop L).take (H-L)).length):=.fu (by rw[Cu];exact r2);rw[Cu]at this;exact this
 ·rename_i oid g ZC n;obtain⟨o,ho,hg,YZ,hK⟩:=eT h;clear h;cases hx with|so o' jb D4 Sn hk=>?_
  rw[ho]at jb;cases jb;have hn:es.length=n:=by
   simp only[jl,ho,hg]at Hl;split at Hl
   ·simp only[alb]at Hl;rw[<- Hl];simp;omega
   ·cases Hl
  rcases hk hg with ⟨jW,⟨aa,rfl⟩,rfl,rfl⟩|⟨b,bs,cp,E,arr,dL,hhp,rfl,Bp,hfit⟩
  ·obtain rfl:L=0:=by omega
   obtain rfl:H=0:=ae;have dU:=Bf (P:=P) e1 e2 (a:=aa) (n:=0) (cap:=0) (lo:=ul) (hi':=uh) (mx:=um) (l:=0) (h:=0) (m:=0) BT (VN.imp (λh=>⟨h.1,rfl⟩) id) (.inl ⟨hmn rfl,rfl⟩) ae ae ae w;rw[be (.inl rfl)]at hK;refine⟨_,_,dU,?_,hK⟩;exact .so o ho D4 ⟨_,_,rfl⟩ (λ_=>.inl ⟨jW,⟨aa,aq⟩,rfl,rfl⟩)
  ·have dU:=Bf (P:=P) e1 e2 (a:=some ⟨b,bs+ZC*o.sz,none⟩) (n:=n) (cap:=cp) (lo:=ul) (hi':=uh) (mx:=um) (l:=L) (h:=H) (m:=cp) BT (VN.imp (λh=>⟨h.1,ae⟩) id) (.inl ⟨hmn rfl,rfl⟩) ae ae ae w;by_cases aE:(L:Int)=0\/(L:Int)<(H:Int)
   case neg =>
    rw[ap aE]at hK;obtain rfl:H=L:=ae;refine⟨_,_,dU,.d ?_,hK⟩;have BS:∃a',(if cp=H then some (⟨b,bs+ZC*o.sz,none⟩:Addr) else (some (⟨b,bs+ZC*o.sz,none⟩:Addr)).map (·.add (H*ti.size)))=some a':=by split <;> exact⟨_,rfl⟩
    obtain⟨a',RC⟩:=BS;rw[RC,ame];exact di.sl [] a' _ 0 (λ_ _=>undef) aq aq aq aq aq
   rw[be aE]at hK;refine⟨_,_,dU,?_,hK⟩;refine .so o ho D4 ⟨_,_,rfl⟩ (λ_=>.inr ⟨b,bs,cp-L,E,arr,dL,hhp,?_,ae,?_⟩)
   ·rcases aE with h0|h0
    ·obtain rfl:L=0:=by omega
     simp [Addr.add]
    ·rw[bm];simp only[ala];rw[gW rfl,e3,YZ,alS];simp [alL]
   ·rw[show ZC+L+(cp-L)=ZC+cp by omega];exact hfit
 ·exact h.elim
def MH (P:Program) (t:TypeId) (x:V) (K:V->Prop):Prop :=
 match P.underlying t with
 |some (.slice _)=>match x with
  |.fu aA=>K (.d (.sc (.int .i64 aA.length)))
  |_=>False
 |_=>False
theorem RQ (hx:aD σ s w x ux) (h:MH P t x K) :
  ∃v c,(Builtin.cap_ #[t] ty #[ux]).run P w=.ok c w/\aD σ s w v c/\K v:=by
 unfold MH at h;split at h
 ·rename_i e hu;split at h
  ·rename_i aA;cases hx with|fu _=>?_
   exact⟨_,.int .i64 aA.length,by simp [Builtin.cap_,run_underlying hu,goInt],.d (.sc _ rfl),h⟩
  ·exact h.elim
 ·exact h.elim
def mj (P:Program) (t:TypeId) (x:V) (s:List Obj) (K:V->Prop):Prop :=
 match P.underlying t with
 |some (.slice _)=>match x with
  |.d (.sl aA)=>K (.d (.sc (.int .i64 aA.length)))
  |.fu aA=>K (.d (.sc (.int .i64 aA.length)))
  |.so _ _ _ n=>K (.d (.sc (.int .i64 n)))
  |_=>False
 |some .string=>match x with
  |.d (.sc (.string b))=>K (.d (.sc (.int .i64 b.size)))
  |_=>False
 |_=>False
theorem QN (hx:aD σ s w x ux) (h:mj P t x s K) :
  ∃v c,(Builtin.len_ #[t] ty #[ux]).run P w=.ok c w/\aD σ s w v c/\K v:=by
 unfold mj at h;split at h
 ·rename_i e hu;have fin:∀(a:Option Addr) (n cap:Nat),ux=.slice a n cap->K (.d (.sc (.int .i64 n)))->∃v c,(Builtin.len_ #[t] ty #[ux]).run P w=.ok c w/\aD σ s w v c/\K v:=by rintro a n cap rfl hk;exact⟨_,.int .i64 n,by simp [Builtin.len_,run_underlying hu,goInt],.d (.sc _ rfl),hk⟩
  split at h
  ·have hd:=pC hx rfl;cases hd <;> exact fin _ _ _ rfl h
  ·have hd:=pC hx rfl;cases hd <;> exact fin _ _ _ rfl h
  ·cases hx with|so o' jb D4 Sn hk=>?_
   obtain⟨aa,cp,rfl⟩:=Sn;exact fin _ _ _ rfl h
  ·exact h.elim
 ·rename_i hu;split at h
  ·cases hx with|d hx=>?_
   cases hx with|sc _ _=>?_
   exact⟨_,_,by simp [Builtin.len_,run_underlying hu,goInt],.d (.sc _ rfl),h⟩
  ·exact h.elim
 ·exact h.elim
open Go.ChangeMaps (setBlock)
variable{k:IntKind}{v:Value}{rest:List (List V)}{a:Value}{P:Program}{t:TypeId}{σ:Gh}{w:World}{id:Nat}{s:List Obj}{K:V->List Obj->Prop}{m:V}{uk:Value}{um:Value}{ux:Value}{x:V}{ns:List (List V)}{ty:TypeId}
def M9 (k:IntKind):List (List V)->Option (List (Int×Bool))
 |[]=>some []
 |[.d (.sc (.int k' n)),.d (.sc (.bool b))]::rest=>if k'=k then (M9 k rest).map ((n,b)::·) else none
 |_::_=>none
theorem Tg{l:List (Int×Bool)} (h:M9 k ([V.d (.sc a),V.d (.sc v)]::rest)=some l):∃n b l',a=.int k n/\v=.bool b/\l=(n,b)::l'/\M9 k rest=some l':=by
 unfold M9 at h;exact Zbb
def Ji (l:List (Int×Bool)) (n:Int):Option Bool:=(l.find? λp=>n == p.1).map (·.2)
def KW (P:Program) (t:TypeId):Option IntKind :=
 match P.underlying t with
 |some (.map key elem)=>match P.underlying key,(P.info? elem).bind (·.zero) with
  |some (.int k),some (.bool false)=>some k
  |_,_=>none
 |_=>none
theorem Ee (h:KW P t=some k):∃key elem ti,P.underlying t=some (.map key elem)/\P.underlying key=some (.int k)/\P.info? elem=some ti/\ti.zero=some (.bool false):=by
 unfold KW at h;split at h
 ·rename_i key elem hu;split at h
  ·rename_i k' h1 h2;cases h;obtain⟨ti,h3,h4⟩:=Option.bind_eq_some_iff.1 h2;exact⟨key,elem,ti,hu,h1,h3,h4⟩
  ·cases h
 ·cases h
theorem vj {k k0:IntKind}{n:Int}:∀(es:List MapEntry) (l:List (Int×Bool)) (i:Nat),M9 k (es.map λe=>[V.d (.sc e.key),V.d (.sc e.val)])=some l ->
  (Ji l n=none/\Instr.findNow (.int k0) (.int k n) es i=some none)\/∃b j,Ji l n=some b/\Instr.findNow (.int k0) (.int k n) es i=some (some (j,.bool b))
 |[],l,i,h=>by simp only[ak9,M9,alb]at h;subst h;exact .inl ⟨rfl,rfl⟩
 |e::es,l,i,h=>by
  rw[ak8]at h;obtain⟨m,b,l',h1,h2,rfl,h4⟩:=Tg h;unfold Instr.findNow;rw[h1];simp only[Instr.sameNow,if_true];by_cases Nc:n=m
  ·subst Nc;refine .inr ⟨b,i,by simp [Ji],?_⟩;simp [h2]
  ·have hb:(n == m)=false:=by simpa using Nc
   rw[hb];simp only;have hg:Ji ((m,b)::l') n=Ji l' n:=by simp [Ji,hb]
   rw[hg];exact vj es l' (i+1) h4
theorem run_checkKey (hu:P.underlying t=some (.int k)) (b:Bool) (n:Int) (w:World):(Instr.checkKey b 10000 t (.int k n)).run P w=.ok () w:=by
 have h:∀d:Nat,(Instr.checkKey b (d+1) t (.int k n)).run P w=.ok () w:=λd=>by simp [Instr.checkKey,run_underlying hu]
 exact h 9999
theorem C7 (hI:Inv σ s w) {g:Nat}{u:Value}{o:Obj} (hm:aD σ s w (.mp id g) u) (ho:s[id]?=some o) (hg:o.g=g) :
  ∃b es c,σ id=some (b,0)/\w.heap[b]?=some (.map es c)/\o.aA=fX es/\u=.map (some b):=by
 cases hm with
 |mp o' jb D4 hu hk =>
  rw[ho]at jb;cases jb;obtain⟨b,h1,hM,h2⟩:=hk hg;rcases hI.content _ o ho with (⟨h3,_⟩|⟨b',es,c,h3,h4,h5⟩)|⟨b',base,arr,E,h3,h4,_⟩
  ·rw[h1]at h3;cases h3
  ·rw[h1]at h3;cases h3;exact⟨b,es,c,h1,h4,h5,h2⟩
  ·rw[h1]at h3;cases h3;exact(IA.notM ⟨arr,E,h4⟩ hM).elim
def B6 (k:IntKind):List (List V)->Option (List (Int×Fn))
 |[]=>some []
 |[.d (.sc (.int k' n)),.d (.sc (.func fn ⟨[]⟩ ⟨[]⟩))]::rest=>if k'=k then (B6 k rest).map ((n,fn)::·) else none
 |_::_=>none
theorem QQ{l:List (Int×Fn)} (h:B6 k ([V.d (.sc a),V.d (.sc v)]::rest)=some l):∃n fn l',a=.int k n/\v=.func fn #[] #[]/\l=(n,fn)::l'/\B6 k rest=some l':=by
 unfold B6 at h;exact Zbb
def BK (l:List (Int×Fn)) (n:Int):Option Fn:=(l.find? λp=>n == p.1).map (·.2)
def D9 (P:Program) (t:TypeId):Option IntKind :=
 match P.underlying t with
 |some (.map key elem)=>match P.underlying key,(P.info? elem).bind (·.zero) with
  |some (.int k),some .nilFunc=>some k
  |_,_=>none
 |_=>none
theorem BM (h:D9 P t=some k):∃key elem,P.underlying t=some (.map key elem)/\P.underlying key=some (.int k):=by
 unfold D9 at h;split at h
 ·rename_i key elem hu;split at h
  ·rename_i k' h1 h2;cases h;exact⟨key,elem,hu,h1⟩
  ·cases h
 ·cases h
theorem sB {k k0:IntKind}{n:Int}:∀(es:List MapEntry) (l:List (Int×Fn)) (i:Nat),B6 k (es.map λe=>[V.d (.sc e.key),V.d (.sc e.val)])=some l ->
  (BK l n=none/\Instr.findNow (.int k0) (.int k n) es i=some none)\/∃b j,BK l n=some b/\Instr.findNow (.int k0) (.int k n) es i=some (some (j,.func b #[] #[]))
 |[],l,i,h=>by simp only[ak9,B6,alb]at h;subst h;exact .inl ⟨rfl,rfl⟩
 |e::es,l,i,h=>by
  rw[ak8]at h;obtain⟨m,b,l',h1,h2,rfl,h4⟩:=QQ h;unfold Instr.findNow;rw[h1];simp only[Instr.sameNow,if_true];by_cases Nc:n=m
  ·subst Nc;refine .inr ⟨b,i,by simp [BK],?_⟩;simp [h2]
  ·have hb:(n == m)=false:=by simpa using Nc
   rw[hb];simp only;have hg:BK ((m,b)::l') n=BK l' n:=by simp [BK,hb]
   rw[hg];exact sB es l' (i+1) h4
def qH (P:Program) (t:TypeId) (s:List Obj) (m k:V) (K:V->Prop):Prop :=
 match D9 P t with
 |none=>False
 |some ik=>match m with
  |.mp id g=>match k with
   |.d (.sc (.int k' n))=>wq s id g λo=>k'=ik/\match (B6 ik o.aA).bind λl=>BK l n with
    |none=>False
    |some fn=>K (.cl fn [] [])
   |_=>False
  |_=>False
theorem M3{k:V}{K:V->Prop} (hI:Inv σ s w) (hm:aD σ s w m um) (hk:aD σ s w k uk) (h:qH P t s m k K) :
  ∃v c,(Instr.lookup t um uk false).run P w=.ok c w/\aD σ s w v c/\K v:=by
 unfold qH at h;split at h
 ·exact h.elim
 rename_i ik T5;obtain⟨key,elem,t1,t2⟩:=BM T5;split at h
 case h_2=>exact h.elim
 rename_i id g;split at h
 case h_2=>exact h.elim
 rename_i k' n;obtain⟨o,ho,hg,rfl,h⟩:=eT h;split at h
 ·exact h.elim
 rename_i fn hfn;obtain⟨l,hl,hgn⟩:=Option.bind_eq_some_iff.1 hfn;obtain⟨b,es,c,h1,h2,h3,rfl⟩:=C7 hI hm ho hg;cases hk with|d hk=>?_
 cases hk with|sc _ _=>?_
 rw[h3]at hl;refine⟨_,.func fn #[] #[],?_,.cl rfl (λi x hx=>by simp at hx) rfl (λi x hx=>by simp at hx),h⟩;rcases sB (k0:=k') (n:=n) es.toList l 0 hl with ⟨g1,g2⟩|⟨b',j,g1,g2⟩
 ·rw[hgn]at g1;cases g1
 ·rw[hgn]at g1;cases g1;simp [Instr.lookup,run_underlying t1,run_underlying t2,MapKept.run_getObj_map h2,run_checkKey t2,Instr.findKey,g2]
def DV (P:Program) (t:TypeId) (s:List Obj) (m k x:V) (K:List Obj->Prop):Prop :=
 match D9 P t with
 |none=>False
 |some ik=>match m with
  |.mp id g=>match k with
   |.d (.sc (.int k' n))=>match x with
    |.cl fn [] []=>wq s id g λo=>(o.live=true/\k'=ik)/\match B6 ik o.aA with
     |none=>False
     |some l=>BK l n=none/\K (s.set id { o with aA:=o.aA++[[.d (.sc (.int k' n)),.d (.sc (.func fn ⟨[]⟩ ⟨[]⟩))]] })
    |_=>False
   |_=>False
  |_=>False
theorem NO{k:V}{K:List Obj->Prop} (hI:Inv σ s w) (hm:aD σ s w m um) (hk:aD σ s w k uk) (hx:aD σ s w x ux) (h:DV P t s m k x K) :
  ∃s' w',(Instr.mapUpdate t um uk ux).run P w=.ok () w'/\aK σ s w σ s' w'/\Inv σ s' w'/\K s':=by
 unfold DV at h;split at h
 ·exact h.elim
 rename_i ik T5;obtain⟨key,elem,t1,t2⟩:=BM T5;split at h
 case h_2=>exact h.elim
 rename_i id g;split at h
 case h_2=>exact h.elim
 rename_i k' n;split at h
 case h_2=>exact h.elim
 rename_i fn;obtain⟨o,ho,hg,⟨uX,rfl⟩,h⟩:=eT h;split at h
 ·exact h.elim
 rename_i l hl;obtain⟨hn,h⟩:=h;obtain⟨b,es,c,h1,h2,h3,rfl⟩:=C7 hI hm ho hg;cases hk with|d hk=>?_
 cases hk with|sc _ _=>?_
 cases hx with|@cl _ _ _ f' c' q1 _ q2 _=>?_
 obtain rfl:f'=#[]:=Array.eq_empty_of_size_eq_zero (by simpa using q1);obtain rfl:c'=#[]:=Array.eq_empty_of_size_eq_zero (by simpa using q2);rw[h3]at hl;have hfn:Instr.findNow (.int k') (.int k' n) es.toList 0=some none:=by
  rcases sB (k0:=k') (n:=n) es.toList l 0 hl with ⟨g1,g2⟩|⟨b',j,g1,g2⟩
  ·exact g2
  ·rw[hn]at g1;cases g1
 have fB:(setObj b (.map (es.push { key:=.int k' n,val:=.func fn #[] #[],born:=c }) (c+1))).run P w=.ok () (setBlock w b (.map (es.push { key:=.int k' n,val:=.func fn #[] #[],born:=c }) (c+1))):=by simp [setObj,Sem.run,h2,setBlock]
 have dU:(Instr.mapUpdate t (.map (some b)) (.int k' n) (.func fn #[] #[])).run P w=.ok () (setBlock w b (.map (es.push { key:=.int k' n,val:=.func fn #[] #[],born:=c }) (c+1))):=by simp [Instr.mapUpdate,run_underlying t1,run_underlying t2,MapKept.run_getObj_map h2,run_checkKey t2,Instr.findKey,hfn,fB]
 have:=oM (p:=σ id) (w':=setBlock w b (.map (es.push { key:=.int k' n,val:=.func fn #[] #[],born:=c }) (c+1))) (o':={ o with aA:=o.aA++[[.d (.sc (.int k' n)),.d (.sc (.func fn ⟨[]⟩ ⟨[]⟩))]] }) hI ho uX rfl rfl rfl (by simp [setBlock])
  (λb1 _ eX=>Go.ChangeMaps.heap_setBlock_other h2 _ (λe=>eX 0 (by rw[h1,e])))
  (λb1 kI arr E he hh=>by
   rw[h1]at he;cases he;rw[h2]at hh;cases hh)
  (λb1 kI he hm=>by
   rw[h1]at he;cases he;exact⟨_,_,Go.ChangeMaps.heap_setBlock_same h2 _⟩)
  (ale _) (λ_=>⟨rfl,rfl⟩) (λb1 kI he=>.inl ⟨kI,he⟩)
  (λhE=>.inl (.inr ⟨b,_,_,h1,Go.ChangeMaps.heap_setBlock_same h2 _,by simp [h3,fX]⟩))
 rw[wh]at this;exact⟨_,_,dU,this.1,this.2,h⟩
def jP (P:Program) (t:TypeId) (s:List Obj) (m k:V) (K:V->Prop):Prop :=
 match KW P t with
 |none=>qH P t s m k K
 |some ik=>match m with
  |.mp id g=>match k with
   |.d (.sc (.int k' n))=>wq s id g λo=>k'=ik/\match M9 ik o.aA with
    |none=>False
    |some l=>K (.d (.sc (.bool ((Ji l n).getD false))))
   |_=>False
  |_=>False
theorem Jb{k:V}{K:V->Prop} (hI:Inv σ s w) (hm:aD σ s w m um) (hk:aD σ s w k uk) (h:jP P t s m k K) :
  ∃v c,(Instr.lookup t um uk false).run P w=.ok c w/\aD σ s w v c/\K v:=by
 unfold jP at h;split at h
 ·exact M3 hI hm hk h
 rename_i ik T5;obtain⟨key,elem,ti,t1,t2,t3,t4⟩:=Ee T5;split at h
 case h_2=>exact h.elim
 rename_i id g;split at h
 case h_2=>exact h.elim
 rename_i k' n;obtain⟨o,ho,hg,rfl,h⟩:=eT h;split at h
 ·exact h.elim
 rename_i l hl;obtain⟨b,es,c,h1,h2,h3,rfl⟩:=C7 hI hm ho hg;cases hk with|d hk=>?_
 cases hk with|sc _ _=>?_
 rw[h3]at hl;refine⟨_,.bool ((Ji l n).getD false),?_,.d (.sc _ rfl),h⟩;rcases vj (k0:=k') (n:=n) es.toList l 0 hl with ⟨g1,g2⟩|⟨b',j,g1,g2⟩
 ·simp [Instr.lookup,run_underlying t1,run_underlying t2,MapKept.run_getObj_map h2,run_checkKey t2,Instr.findKey,g1,g2,zeroValue,typeInfo,t3,t4]
 ·simp [Instr.lookup,run_underlying t1,run_underlying t2,MapKept.run_getObj_map h2,run_checkKey t2,Instr.findKey,g1,g2]
def xC (P:Program) (t:TypeId) (s:List Obj) (m k x:V) (K:List Obj->Prop):Prop :=
 match KW P t with
 |none=>DV P t s m k x K
 |some ik=>match m with
  |.mp id g=>match k with
   |.d (.sc (.int k' n))=>match x with
    |.d (.sc (.bool b))=>wq s id g λo=>(o.live=true/\k'=ik)/\match M9 ik o.aA with
     |none=>False
     |some l=>Ji l n=none/\K (s.set id { o with aA:=o.aA++[[.d (.sc (.int k' n)),.d (.sc (.bool b))]] })
    |_=>False
   |_=>False
  |_=>False
theorem Hu{k:V}{K:List Obj->Prop} (hI:Inv σ s w) (hm:aD σ s w m um) (hk:aD σ s w k uk) (hx:aD σ s w x ux) (h:xC P t s m k x K) :
  ∃s' w',(Instr.mapUpdate t um uk ux).run P w=.ok () w'/\aK σ s w σ s' w'/\Inv σ s' w'/\K s':=by
 unfold xC at h;split at h
 ·exact NO hI hm hk hx h
 rename_i ik T5;obtain⟨key,elem,ti,t1,t2,t3,t4⟩:=Ee T5;split at h
 case h_2=>exact h.elim
 rename_i id g;split at h
 case h_2=>exact h.elim
 rename_i k' n;split at h
 case h_2=>exact h.elim
 rename_i bv;obtain⟨o,ho,hg,⟨uX,rfl⟩,h⟩:=eT h;split at h
 ·exact h.elim
 rename_i l hl;obtain⟨hn,h⟩:=h;obtain⟨b,es,c,h1,h2,h3,rfl⟩:=C7 hI hm ho hg;cases hk with|d hk=>?_
 cases hk with|sc _ _=>?_
 cases hx with|d hx=>?_
 cases hx with|sc _ _=>?_
 rw[h3]at hl;have hfn:Instr.findNow (.int k') (.int k' n) es.toList 0=some none:=by
  rcases vj (k0:=k') (n:=n) es.toList l 0 hl with ⟨g1,g2⟩|⟨b',j,g1,g2⟩
  ·exact g2
  ·rw[hn]at g1;cases g1
 have fB:(setObj b (.map (es.push { key:=.int k' n,val:=.bool bv,born:=c }) (c+1))).run P w=.ok () (setBlock w b (.map (es.push { key:=.int k' n,val:=.bool bv,born:=c }) (c+1))):=by simp [setObj,Sem.run,h2,setBlock]
 have dU:(Instr.mapUpdate t (.map (some b)) (.int k' n) (.bool bv)).run P w=.ok () (setBlock w b (.map (es.push { key:=.int k' n,val:=.bool bv,born:=c }) (c+1))):=by simp [Instr.mapUpdate,run_underlying t1,run_underlying t2,MapKept.run_getObj_map h2,run_checkKey t2,Instr.findKey,hfn,fB]
 have:=oM (p:=σ id) (w':=setBlock w b (.map (es.push { key:=.int k' n,val:=.bool bv,born:=c }) (c+1))) (o':={ o with aA:=o.aA++[[.d (.sc (.int k' n)),.d (.sc (.bool bv))]] }) hI ho uX rfl rfl rfl (by simp [setBlock])
  (λb1 _ eX=>Go.ChangeMaps.heap_setBlock_other h2 _ (λe=>eX 0 (by rw[h1,e])))
  (λb1 kI arr E he hh=>by
   rw[h1]at he;cases he;rw[h2]at hh;cases hh)
  (λb1 kI he hm=>by
   rw[h1]at he;cases he;exact⟨_,_,Go.ChangeMaps.heap_setBlock_same h2 _⟩)
  (ale _) (λ_=>⟨rfl,rfl⟩) (λb1 kI he=>.inl ⟨kI,he⟩)
  (λhE=>.inl (.inr ⟨b,_,_,h1,Go.ChangeMaps.heap_setBlock_same h2 _,by simp [h3,fX]⟩))
 rw[wh]at this;exact⟨_,_,dU,this.1,this.2,h⟩
def oR (P:Program) (t:TypeId) (r:Option Operand) (s:List Obj) (K:V->List Obj->Prop):Prop :=
 r=none/\K (.mp s.length 0) (s++[⟨0,true,2,[]⟩])
theorem F0{r:Option Operand} (hI:Inv σ s w) (h:oR P t r s K) :
  ∃v c σ' s' w',(Instr.makeMap t none).run P w=.ok c w'/\aK σ s w σ' s' w'/\Inv σ' s' w'/\aD σ' s' w' v c/\K v s':=by
 have:=pP (p:=some (w.heap.size,0)) (o':=⟨0,true,2,[]⟩) (w':=w.alloc (.map #[] 0)) hI rfl rfl rfl aq (λb hb=>amd w _ b hb) (λb base h=>by cases h;exact ale _)
  (λhE=>.inl (.inr ⟨w.heap.size,#[],0,rfl,heap_alloc_new w _,rfl⟩))
 refine⟨_,.map (some w.heap.size),_,_,_,?_,this.1,this.2,.mp ⟨0,true,2,[]⟩ aq (ale _) rfl (λ_=>⟨w.heap.size,cy _ _ _,⟨_,_,heap_alloc_new w _⟩,rfl⟩),h.2⟩;simp [Instr.makeMap]
def ib (es:List (List V)) (lo:Nat) (ns:List (List V)):List (List V):=es.take lo++ns++es.drop (lo+ns.length)
theorem CL (es:List (List V)) (lo:Nat) (ns:List (List V)) (h:lo+ns.length<=es.length) (j:Nat) :
  (ib es lo ns)[j]?=if lo<=j/\j<lo+ns.length then ns[j-lo]? else es[j]?:=by
 have hl:(es.take lo).length=lo:=cV;unfold ib;by_cases h1:j<lo
 ·exact Zdr
 ·by_cases h2:j<lo+ns.length
  ·exact Zby
  ·exact ZcZ
theorem Gj (es:List (List V)) (lo:Nat) (ns:List (List V)) (h:lo+ns.length<=es.length):(ib es lo ns).length=es.length:=by simp [ib];omega
theorem GV (hI:Inv σ s w){o:Obj} (ho:s[id]?=some o) (hl:o.live=true) {lo:Nat} (hfit:lo+ns.length<=o.aA.length) (hz:∀e∈ns,e.length=o.sz)
  {b base:Nat} (hs:σ id=some (b,base)) (hC:IA w b) {us:List Value} (Ze:us.length=ns.length*o.sz)
  (hrep:∀(i j:Nat) (y:V),(ns[i]?.bind (·[j]?))=some y->∃c,us[i*o.sz+j]?=some c/\c.oneCell'=true/\aD σ s w y c) (Q3:∀u∈us,u.oneCell'=true) (P:Program) :
  ∃w',(storeCells ⟨b,base+lo*o.sz,none⟩ us).run P w=.ok () w'/\aK σ s w σ (s.set id { o with aA:=ib o.aA lo ns }) w' /\
   Inv σ (s.set id { o with aA:=ib o.aA lo ns }) w':=by
 rcases hI.content _ o ho with h1|⟨b',bT,arr,E,h1,h2,h3,h4,h5⟩
 ·exact(h1.CH hs hC).elim
 rw[hs]at h1;cases h1;have af8:lo*o.sz+ns.length*o.sz<=o.aA.length*o.sz:=by rw[<- alS];exact alF _ hfit
 have dU:=run_storeCells_at P b (base+lo*o.sz) E us 0 arr w h2 (by rw[Ze];omega) Q3;simp only[al8]at dU;generalize qI:(arr.toList.take (base+lo*o.sz)++us++arr.toList.drop (base+lo*o.sz+us.length)).toArray=cN at dU;have jS:cN.size=arr.size:=by rw[<- qI];simp;omega
 have ig:∀p,cN[p]?=if base+lo*o.sz<=p/\p<base+lo*o.sz+us.length then us[p-(base+lo*o.sz)]? else arr[p]?:=by
  intro p;have hl:(arr.toList.take (base+lo*o.sz)).length=base+lo*o.sz:=cV;rw[<- qI,List.getElem?_toArray];by_cases g1:p<base+lo*o.sz
  ·exact ZcN
  ·by_cases g2:p<base+lo*o.sz+us.length
   ·exact Zby
   ·exact ZcI
 refine⟨_,dU,?_⟩;have:=oM (p:=σ id) (w':=w.setRow b cN) (o':={ o with aA:=ib o.aA lo ns }) hI ho hl rfl rfl rfl aq
  (λb1 _ eX=>setRow_other w b b1 cN (λe=>eX base (by rw[hs,e])))
  (λb1 kI ZA E1 he hh=>by
   rw[hs]at he;cases he;rw[h2]at hh;cases hh;exact⟨cN,setRow_heap w b arr cN E (0,0) h2,jS⟩)
  (λb1 kI he hm=>by
   rw[hs]at he;cases he;exact(hC.notM hm).elim)
  (ale _) (λ_=>⟨rfl,rfl⟩) (λb1 kI he=>.inl ⟨kI,he⟩)
  (λhE=>.inr ⟨b,base,cN,E,hs,setRow_heap w b arr cN E (0,0) h2,(by
   intro e he;simp only at he;unfold ib at he;rcases List.mem_append.1 he with he|he
   ·rcases List.mem_append.1 he with he|he
    ·exact h3 e (alU he)
    ·exact hz e he
   ·exact h3 e (List.mem_of_mem_drop he)),(by simp only[Gj _ _ _ hfit];omega),(by
   intro i j x hx;simp only at hx ⊢;rw[wh]at hE ⊢;rw[CL _ _ _ hfit]at hx;split at hx
   ·rename_i kK;obtain⟨c,k1,k2,k3⟩:=hrep _ j x hx;refine⟨c,?_,k2,k3.bj hE⟩;have aE:=(List.getElem?_eq_some_iff.1 k1).1;have hmul:i*o.sz=lo*o.sz+(i-lo)*o.sz:=by rw[<- alS];congr 1;omega
    rw[ig,rY,<- k1];congr 1;omega
   ·rename_i kK;obtain⟨c,k1,k2,k3⟩:=h5 i j x hx;refine⟨c,?_,k2,k3.bj hE⟩;rw[ig,ap ?_]
    ·exact k1
    ·have WJ:j<o.sz:=by
      exact Zbw
     rw[Ze];rcases alw i lo with aE|gE
     ·have:=alF o.sz (show i+1<=lo from aE);exact ZcF
     ·have:=alF o.sz (show lo+ns.length<=i by omega);rw[alS]at this;omega)⟩)
 rw[wh]at this;exact this
def xN (P:Program) (t:TypeId) (a x:V) (s:List Obj) (K:V->List Obj->Prop):Prop :=
 match jn P t with
 |none=>False
 |some (_,i)=>match jl s x with
  |none=>False
  |some ns=>(∀e∈ns,e.length=i.sz)/\match a with
   |.so id g lo n=>wq s id g λo=>(o.live=true/\o.sz=i.sz/\lo+n<=o.aA.length/\ns.length<=n)/\K (.d (.sc (.int .i64 ns.length))) (s.set id { o with aA:=ib o.aA lo ns })
   |_=>False
theorem Zq{e:TypeId}{z:Nat} (hu:P.underlying t=some (.slice e)) (hI:Inv σ s w) (hx:aD σ s w x ux) (yS:jl s x=some ns) (hz:∀e∈ns,e.length=z) :
  ∃news,Src P z t ux ns.length news w/\∀(i j:Nat) (y:V),(ns[i]?.bind (·[j]?))=some y->∃c,news[i*z+j]?=some c/\c.oneCell'=true/\aD σ s w y c:=by
 obtain⟨ax,xR,rfl,E9,aad,news,n1,n2,n3,n4⟩:=jV hI hx yS hz;refine⟨news,?_,n4⟩;exact Zbt
theorem EJ (es:List (List V)) (lo:Nat):ib es lo []=es:=by simp [ib]
theorem NM{a:V}{ua:Value} (hI:Inv σ s w) (ha:aD σ s w a ua) (hx:aD σ s w x ux)
  (h:xN P t a x s K):∃v r s' w',(Builtin.copy_ #[t,t] ty #[ua,ux]).run P w=.ok r w'/\aK σ s w σ s' w'/\Inv σ s' w'/\aD σ s' w' v r/\K v s':=by
 unfold xN at h;split at h
 ·exact h.elim
 rename_i e i hti;obtain⟨hu,hi⟩:=ln hti;split at h
 ·exact h.elim
 rename_i ns yS;obtain⟨hz,h⟩:=h;obtain⟨ti,d,z,k1,k2,k3,k4,k5,k6,k7,k8,k9⟩:=iI hi;obtain⟨news,xk,n4⟩:=Zq hu hI hx yS hz;split at h
 case h_2=>exact h.elim
 rename_i id g lo n;obtain⟨o,ho,hg,⟨hl,gr,hfit,hle⟩,hK⟩:=eT h;have yH:Nat.min ns.length n=ns.length:=Nat.min_eq_left hle;have nf:=xk.cells;cases ha with|so o' jb D4 Sn hk=>?_
 rw[ho]at jb;cases jb;rcases hk hg with ⟨hs,⟨ad,rfl⟩,rfl,rfl⟩|⟨b,base,cap,E,arr,hs,hh,rfl,qf,hbd⟩
 ·have hn:ns=[]:=alz ae;subst hn;have adu:news=[]:=alz (by simpa using xk.newsLen);subst adu;have fB:s.set id { o with aA:=ib o.aA 0 [] }=s:=by
   rw[EJ];exact ZdY
  rw[fB]at hK;refine⟨_,.int .i64 0,s,w,?_,aK.refl _ _ _,hI,.d (.sc _ rfl),hK⟩;have hlen:=xk.len w;simp only[alf]at hlen nf;cases ad <;> simp [Builtin.copy_,run_underlying hu,sizeOf,typeInfo,k1,k4,hlen,nf,goInt,storeCells]
 ·obtain⟨w',r1,r2,r3⟩:=GV hI ho hl (lo:=lo) (ns:=ns) ae (by rw[gr];exact hz) hs ⟨arr,E,hh⟩ (us:=news) (by rw[gr];exact xk.newsLen) (by rw[gr];exact n4) xk.one P;refine⟨_,.int .i64 ns.length,_,w',?_,r2,r3,.d (.sc _ rfl),hK⟩;have hlen:=xk.len w;simp [Builtin.copy_,run_underlying hu,sizeOf,typeInfo,k1,k4,hlen,yH,nf,goInt,r1]
def lW (P:Program) (t:TypeId) (x:V) (s:List Obj) (K:V->List Obj->Prop):Prop :=
 match jn P t with
 |none=>False
 |some (_,i)=>match x with
  |.so id g lo n=>wq s id g λo=>(o.live=true/\o.sz=i.sz/\lo+n<=o.aA.length)/\K (.tu []) (s.set id { o with aA:=ib o.aA lo (List.replicate n (i.zero.map cv)) })
  |.d (.sl [])=>K (.tu []) s
  |_=>False
theorem Vg{o:Obj} (ho:s[id]?=some o):s.set id o=s:=by
 exact ZdY
theorem Ma (hI:Inv σ s w) (hx:aD σ s w x ux)
  (h:lW P t x s K):∃v r s' w',(Builtin.clear_ #[t] ty #[ux]).run P w=.ok r w'/\aK σ s w σ s' w'/\Inv σ s' w'/\aD σ s' w' v r/\K v s':=by
 unfold lW at h;split at h
 ·exact h.elim
 rename_i e i hti;obtain⟨hu,hi⟩:=ln hti;split at h
 case h_3=>exact h.elim
 case h_2 =>
  refine⟨_,.tuple #[],s,w,?_,aK.refl _ _ _,hI,.tu rfl (λi x hx=>by simp at hx),h⟩;cases hx with|d hd=>?_
  cases hd with
  |nil=>simp [Builtin.clear_,run_underlying hu]
  |sl _ ad _ sz f h1 h2 h3 h4 h5=>simp [Builtin.clear_,run_underlying hu]
 rename_i id g lo n;obtain⟨o,ho,hg,⟨hl,gr,hfit⟩,hK⟩:=eT h;obtain⟨ti,d,z,k1,k2,k3,k4,k5,k6,k7,k8,k9⟩:=iI hi;have hz:∀w,(zeroValue e).run P w=.ok z w:=λw=>by simp [zeroValue,typeInfo,k1,k3]
 have tup:∀(s':List Obj) (w':World),aD σ s' w' (.tu []) (.tuple #[]):=λs' w'=>.tu rfl (λi x hx=>by simp at hx);have zero:n=0->∃v r s' w',(Result.ok (Value.tuple #[]) w:Result Value)=.ok r w'/\aK σ s w σ s' w'/\Inv σ s' w'/\aD σ s' w' v r/\K v s':=by rintro rfl;refine⟨_,_,s,w,rfl,aK.refl _ _ _,hI,tup _ _,?_⟩;rw[List.replicate_zero,EJ,Vg ho]at hK;exact hK
 cases hx with|so o' jb D4 Sn hk=>?_
 rw[ho]at jb;cases jb;rcases hk hg with ⟨hs,⟨ad,rfl⟩,rfl,rfl⟩|⟨b,base,cap,E,arr,hs,hh,rfl,qf,hbd⟩
 ·obtain⟨v,r,s',w',e1,e2⟩:=zero rfl;refine⟨v,r,s',w',?_,e2⟩;rw[<- e1];cases ad <;> simp [Builtin.clear_,run_underlying hu]
 ·rcases Nat.eq_zero_or_pos n with h0|h0
  ·obtain⟨v,r,s',w',e1,e2⟩:=zero h0;refine⟨v,r,s',w',?_,e2⟩;rw[<- e1];subst h0;simp [Builtin.clear_,run_underlying hu]
  ·have hzl:z.cells.size=i.sz:=by rw[<- amu,k6,k7]
   have hzc:Builtin.zeroCells z.cells n=(Array.range (n*i.sz)).map (z.cells[· % z.cells.size]!):=by unfold Builtin.zeroCells;rw[<- hzl]
   have age:=Df hi σ s w n z k6;obtain⟨r1,r2,r3⟩:=age;obtain⟨w',q1,q2,q3⟩:=GV hI ho hl (lo:=lo) (ns:=List.replicate n (i.zero.map cv)) (by rw[alQ];omega) (λe he=>by rw[List.eq_of_mem_replicate he,ak4,gr,k7]) hs ⟨arr,E,hh⟩ (us:=(Builtin.zeroCells z.cells n).toList)
    (by rw[alQ,gr,amu,size_zeroCells,hzl])
    (λa j y hy=>by
     rw[gr];obtain⟨c,c1,c2,c3⟩:=r3 a j y hy;refine⟨c,?_,c2,c3⟩;rw[Array.getElem?_toList,hzc];exact c1)
    (λu hu=>by
     rw[hzc,Array.toList_map,aly]at hu;obtain⟨k,hk,rfl⟩:=hu;have vD:k<n*i.sz:=by simpa using hk
     have hp:0<z.cells.size:=by
      rw[hzl];rcases Nat.eq_zero_or_pos i.sz with h'|h'
      ·rw[h']at vD;simp at vD
      ·exact h'
     have hm:=Nat.mod_lt k hp;have ig:z.cells[k % z.cells.size]! = z.cells[k % z.cells.size]:=by simp [hm]
     rw[ig];exact k8 _ (by rw[<- k6];exact Array.getElem_mem_toList hm)) P
   refine⟨_,_,_,w',?_,q2,q3,tup _ _,hK⟩;obtain⟨m,rfl⟩:∃m,n=m+1:=⟨n-1,ae⟩
   simp [Builtin.clear_,run_underlying hu,hz,q1]
end Go.VL
