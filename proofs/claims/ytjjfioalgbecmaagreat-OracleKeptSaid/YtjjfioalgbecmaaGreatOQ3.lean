/- A part of the proof (Vg Vh). -/
import Derived.Test.YtjjfioalgbecmaaGreatOQ2
set_option linter.unusedSimpArgs false
set_option linter.unusedVariables false
set_option maxRecDepth 100000
set_option maxHeartbeats 80000000
namespace Go.VL
variable{n:Nat}{σ:Gh}{w:World}{u:Value}{s:List Obj}{x:V}{au:List (List D)}{z:Nat}{es:List (List V)}{ux:Value}{e:TypeId}{t:TypeId}{ty:TypeId}{P:Program}{a:Option Addr}{K:V->Prop}{ua:Value}{O:Nat->Prop}{l:Nat}{cap:Nat}{uh:Option Value}{lo:Option V}{hi:Option V}{um:Option Value}{ul:Option Value}{mx:Option V}
def Ln:V->Option Int
 |.d (.sc (.int _ n))=>some n
 |_=>none
theorem Gq{n:Int} (hr:ay σ s w x u) (h:Ln x=some n):∃k,u=.int k n:=by
 unfold Ln at h;split at h
 ·simp only[ajU]at h;subst h;cases hr with|d hr=>?_
  cases hr with|sc _ _=>exact⟨_,rfl⟩
 ·cases h
def il (s:List Obj):V->Option (List (List V))
 |.d (.sl au)=>some (au.map (·.map .d))
 |.fu au=>some (au.map (·.map .d))
 |.so id g lo n=>match s[id]? with
  |some o=>if o.g=g/\lo+n<=o.au.length then some ((o.au.drop lo).take n) else none
  |none=>none
 |_=>none
theorem Rz{i j:Nat} (h:((au.map (·.map V.d))[i]?.bind (·[j]?))=some x):∃y,x=.d y/\(au[i]?.bind (·[j]?))=some y:=by
 rw[List.getElem?_map]at h;cases he:au[i]? with
 |none=>rw[he]at h;cases h
 |some e =>
  rw[he]at h;simp only[ajS,akA,List.getElem?_map]at h;obtain⟨y,hy,rfl⟩:=Option.map_eq_some_iff.1 h;exact⟨y,rfl,hy⟩
theorem hU (hI:Inv σ s w) (hr:ay σ s w x u) (h:il s x=some es) (hz:∀e∈es,e.length=z) :
  ∃a cap,u=.slice a es.length cap/\(a=none->es=[])/\es.length<=cap/\∃news:List Value,news.length=es.length*z/\(∀c∈news,c.oneCell'=true) /\
   (∀ad,a=some ad->∀(j:Nat) (c:Value),news[j]?=some c->w.cell? (ad.add j)=some c) /\
   ∀(i j:Nat) (y:V),(es[i]?.bind (·[j]?))=some y->∃c,news[i*z+j]?=some c/\c.oneCell'=true/\ay σ s w y c:=by
 have key:∀(a:Option Addr) (cap:Nat),(a=none->es=[])->es.length<=cap->(es≠[]->∃ad,a=some ad/\ad.spot=none/\∀(i j:Nat) (y:V),(es[i]?.bind (·[j]?))=some y ->
    ∃c,w.cell? ⟨ad.block,ad.off+i*z+j,none⟩=some c/\c.oneCell'=true/\ay σ s w y c) ->
   ∃a' lA,Value.slice a es.length cap=.slice a' es.length lA/\(a'=none->es=[])/\es.length<=lA/\∃news:List Value,news.length=es.length*z/\(∀c∈news,c.oneCell'=true) /\
    (∀ad,a'=some ad->∀(j:Nat) (c:Value),news[j]?=some c->w.cell? (ad.add j)=some c) /\
    ∀(i j:Nat) (y:V),(es[i]?.bind (·[j]?))=some y->∃c,news[i*z+j]?=some c/\c.oneCell'=true/\ay σ s w y c:=by
  intro a cap h1 h2 h3;refine⟨a,cap,rfl,h1,h2,?_⟩;by_cases eU:es=[]
  ·subst eU;exact⟨[],ak,ak,ak,ak⟩
  ·obtain⟨ad,rfl,jO,hc⟩:=h3 eU;have hdiv:∀p,p<es.length*z->0<z/\p / z<es.length/\p / z*z+p % z=p/\p % z<z:=by
    intro p hp;have hzp:0<z:=by
     rcases Nat.eq_zero_or_pos z with h'|h'
     ·subst h';simp at hp
     ·exact h'
    refine⟨hzp,?_,by rw[Nat.mul_comm];exact Nat.div_add_mod p z,Nat.mod_lt _ hzp⟩;rw[Nat.div_lt_iff_lt_mul hzp];exact hp
   have ZL:∀p,p<es.length*z->∃y,(es[p / z]?.bind (·[p % z]?))=some y:=by intro p hp;obtain⟨g1,g2,g3,g4⟩:=hdiv p hp;have sE:(es[p / z]'g2).length=z:=hz _ (List.getElem_mem g2);exact⟨(es[p / z]'g2)[p % z]' ae,by simp [g2,sE,g4]⟩
   have qx:∀p,p<es.length*z->∃c,w.cell? ⟨ad.block,ad.off+p,none⟩=some c/\c.oneCell'=true:=by intro p hp;obtain⟨y,hy⟩:=ZL p hp;obtain⟨c,k1,k2,_⟩:=hc _ _ y hy;exact⟨c,by rw[<- k1,aky,(hdiv p hp).2.2.1],k2⟩
   refine⟨(List.range (es.length*z)).map λp=>(w.cell? ⟨ad.block,ad.off+p,none⟩).getD undef,ak,?_,?_,?_⟩
   ·intro c Rl;obtain⟨p,hp,rfl⟩:=List.mem_map.1 Rl;obtain⟨c,k1,k2⟩:=qx p (by simpa using hp);rw[k1];exact k2
   ·intro ad' UN j c hj;cases UN;rw[List.getElem?_map]at hj;obtain⟨p,hp,rfl⟩:=Option.map_eq_some_iff.1 hj;have az:j<es.length*z:=by simpa using (List.getElem?_eq_some_iff.1 hp).1
    obtain rfl:p=j:=by have:=(List.getElem?_eq_some_iff.1 hp).2;simpa using this.symm
    obtain⟨c,k1,_⟩:=qx p az;rw[gk jO,k1];rfl
   ·intro i j y hy;obtain⟨c,k1,k2,k3⟩:=hc i j y hy;refine⟨c,?_,k2,k3⟩;have ZA:i*z+j<es.length*z:=by
     cases he:es[i]? with
     |none=>rw[he]at hy;cases hy
     |some e =>
      rw[he]at hy;have hj:=(List.getElem?_eq_some_iff.1 hy).1;rw[hz e (List.mem_of_getElem? he)]at hj;have:=akk z (show i+1<=es.length from (List.getElem?_eq_some_iff.1 he).1);rw[akx,Nat.one_mul]at this;omega
    rw[List.getElem?_map,List.getElem?_range ZA];simp only[ajS];rw[<- aky,k1];rfl
 have Gj:∀(au:List (List D)) (a:Option Addr) (n cap:Nat),cU (Own σ s) w (.sl au) (.slice a n cap)->es=au.map (·.map .d)->n=es.length/\(a=none->es=[])/\es.length<=cap /\
   (es≠[]->∃ad,a=some ad/\ad.spot=none/\∀(i j:Nat) (y:V),(es[i]?.bind (·[j]?))=some y ->
    ∃c,w.cell? ⟨ad.block,ad.off+i*z+j,none⟩=some c/\c.oneCell'=true/\ay σ s w y c):=by
  intro au a n cap hd he;subst he;cases hd with
  |nil=>simp
  |sl _ ad _ sz f h1 h2 h3 h4 h5 =>
   refine⟨ak,ak,by simpa using h1,λeU=>⟨ad,rfl,h2 (by intro h';subst h';simp at eU),λi j y hy=>?_⟩⟩;obtain⟨y',rfl,X9⟩:=Rz hy;have eZ:sz=z:=by
    cases Df:au[i]? with
    |none=>rw[Df]at X9;cases X9
    |some e =>
     have:=h3 e (List.mem_of_getElem? Df);have Wo:=hz (e.map .d) (List.mem_map.2 ⟨e,List.mem_of_getElem? Df,rfl⟩);simp at Wo;omega
   subst eZ;exact⟨f i j,(h4 i j y' X9).1,(h5 i j y' X9).one,.d (h5 i j y' X9)⟩
 unfold il at h;split at h
 ·simp only[ajU]at h;cases hr with|d hr=>?_
  have hu:∃a n cap,u=.slice a n cap:=by cases hr <;> exact⟨_,_,_,rfl⟩
  obtain⟨a,n,cap,rfl⟩:=hu;obtain⟨rfl,e2,e3,e4⟩:=Gj _ a n cap hr h.symm;exact key a cap e2 e3 e4
 ·simp only[ajU]at h;cases hr with|fu hr=>?_
  obtain⟨e1,e2,e3,e4⟩:=Gj _ _ _ _ hr h.symm;rw[e1];exact key _ _ e2 ae e4
 ·rename_i id g lo n;split at h
  case h_2=>cases h
  rename_i o ho;split at h
  case isFalse=>cases h
  rename_i hc;simp only[ajU]at h;subst h;have hlen:((o.au.drop lo).take n).length=n:=cC;cases hr with|so o' g7 hg hu hk=>?_
  rw[ho]at g7;cases g7;rcases hk hc.1 with ⟨_,⟨a,rfl⟩,rfl,rfl⟩|⟨b,base,cap,E,arr,g1,g2,rfl,g4,g5⟩
  ·have:=key a 0 ak ak ak;simp only[akW]at this ⊢;exact this
  ·have:=key (some ⟨b,base+lo*o.sz,none⟩) cap ak ae (λeU=>⟨_,rfl,rfl,λi j y hy=>?_⟩)
   ·rw[hlen]at this ⊢;exact this
   ·have hi:i<n/\(o.au[lo+i]?.bind (·[j]?))=some y:=by
     rw[List.getElem?_take]at hy;split at hy
     ·rw[List.getElem?_drop]at hy;exact⟨by assumption,hy⟩
     ·cases hy
    rcases hI.content _ o ho with h1|⟨b',bN,bR,E',h1,h2,h3,h4,h5⟩
    ·exact(h1.yF g1 ⟨arr,E,g2⟩).elim
    ·rw[g1]at h1;cases h1;rw[g2]at h2;cases h2;have eZ:o.sz=z:=by
      cases Df:o.au[lo+i]? with
      |none=>rw[Df]at hi;cases hi.2
      |some e =>
       have e1:=h3 e (List.mem_of_getElem? Df);have e2:=hz e (List.mem_of_getElem? (i:=i) (by rw[List.getElem?_take,be hi.1,List.getElem?_drop];exact Df));omega
     subst eZ;obtain⟨c,k1,k2,k3⟩:=h5 (lo+i) j y hi.2;refine⟨c,?_,k2,k3⟩;simp only[World.cell?,g2];rw[akx]at k1;simpa [aky]using k1
 ·cases h
def dt (P:Program) (t:TypeId) (a x:V) (s:List Obj) (K:V->List Obj->Prop):Prop :=
 match iL P t with
 |none=>False
 |some (_,i)=>match il s x with
  |none=>False
  |some ns=>((∀e∈ns,e.length=i.sz)/\0<i.sz/\0<i.A3)/\match a with
   |.fu au=>match au,x with
    |_::_,.d (.sl ds)=>((au.length+ds.length)*i.A3<=140737488355328/\∀e∈au,e.length=i.sz)/\K (.d (.sl (au++ds))) s
    |_,_=>((au=[]\/0<ns.length)/\(au.length+ns.length)*i.A3<=140737488355328/\∀e∈au,e.length=i.sz) /\
      K (.so s.length 0 0 (au.length+ns.length)) (s++[⟨0,true,i.sz,au.map (·.map .d)++ns⟩])
   |.so id g lo n=>tE s id g λo=>(o.live=true/\o.sz=i.sz/\lo+n<=o.au.length/\(n+ns.length)*i.A3<=140737488355328) /\
     K (.so id (g+1) 0 (n+ns.length)) (s.set id ⟨g+1,true,i.sz,(o.au.drop lo).take n++ns⟩)
   |_=>False
theorem pH{ns:List (List V)}{je news:List Value} (ho:je.length=es.length*z)
  (h1:∀(i j:Nat) (y:V),(es[i]?.bind (·[j]?))=some y->∃c,je[i*z+j]?=some c/\c.oneCell'=true/\ay σ s w y c)
  (h2:∀(i j:Nat) (y:V),(ns[i]?.bind (·[j]?))=some y->∃c,news[i*z+j]?=some c/\c.oneCell'=true/\ay σ s w y c) :
  ∀(i j:Nat) (y:V),((es++ns)[i]?.bind (·[j]?))=some y->∃c,(je++news)[i*z+j]?=some c/\c.oneCell'=true/\ay σ s w y c:=by
 intro i j y hy;by_cases hi:i<es.length
 ·rw[List.getElem?_append_left hi]at hy;obtain⟨c,k1,k2,k3⟩:=h1 i j y hy;refine⟨c,?_,k2,k3⟩;rw[List.getElem?_append_left (by
   have:=(List.getElem?_eq_some_iff.1 k1).1;exact this)]
  exact k1
 ·rw[List.getElem?_append_right ae]at hy;obtain⟨c,k1,k2,k3⟩:=h2 _ j y hy;refine⟨c,?_,k2,k3⟩;have hmul:i*z=es.length*z+(i-es.length)*z:=by rw[<- akx];congr 1;omega
  rw[List.getElem?_append_right (by rw[ho,hmul];omega),<- k1];congr 1;rw[ho,hmul];omega
theorem zY {l:List Value}{arr:Array Value}{p:Nat}{c:Value} (h:l[p]?=some c):(l.toArray++arr)[p]?=some c:=by have az:=(List.getElem?_eq_some_iff.1 h).1;rw[Array.getElem?_append_left (by simpa using az)];simpa using h
theorem m6{ti:TypeInfo} (hu:P.underlying t=some (.slice e)) (hi:P.info? e=some ti) (hs:Src P ti.size t ux 0 [] w)
  (base:Option Addr) (n cap:Nat) (h:n<=cap):(Builtin.append_ #[t,t] ty #[.slice base n cap,ux]).run P w=.ok (.slice base n cap) w:=by
 cases base <;> simp [Builtin.append_,run_underlying hu,sizeOf,typeInfo,hi,hs.len,h,hs.cells,storeCells]
theorem Il{a:V}{K:V->List Obj->Prop} (hI:Inv σ s w) (ha:ay σ s w a ua) (hx:ay σ s w x ux)
  (h:dt P t a x s K):∃v r σ' s' w',(Builtin.append_ #[t,t] ty #[ua,ux]).run P w=.ok r w'/\aC σ s w σ' s' w'/\Inv σ' s' w'/\ay σ' s' w' v r/\K v s':=by
 unfold dt at h;split at h
 ·exact h.elim
 rename_i e i hti;obtain⟨hu,hi⟩:=jD hti;split at h
 ·exact h.elim
 rename_i ns uu;obtain⟨⟨hz,lX,Zs⟩,h⟩:=h;obtain⟨ti,d,z,k1,k2,k3,k4,k5,k6,k7,k8,k9⟩:=gj hi;obtain⟨ax,qV,rfl,yC,V8,news,n1,n2,n3,n4⟩:=hU hI hx uu hz;have HC:z.cells.size=i.sz:=by rw[<- ala,k6,k7]
 have sg:Src P ti.size t (.slice ax ns.length qV) ns.length news w:=by
  rw[k4];cases ax with
  |none =>
   have:ns=[]:=yC rfl;subst this;have hn:news=[]:=akj (by simpa using n1);subst hn;exact Src.ofNil w hu qV
  |some ad=>exact Src.ofSlice w hu ad ns.length qV news n1 (n3 ad rfl) n2
 have grow:∀(es:List (List V)) (base:Option Addr) (cap:Nat) (je:List Value),je.length=es.length*i.sz->(base=none->es=[])->(∀e∈es,e.length=i.sz) ->
   (∀ad,base=some ad->∀(j:Nat) (c:Value),je[j]?=some c->w.cell? (ad.add j)=some c) ->
   (∀(i' j:Nat) (y:V),(es[i']?.bind (·[j]?))=some y->∃c,je[i'*i.sz+j]?=some c/\c.oneCell'=true/\ay σ s w y c) ->
   cap<es.length+ns.length->(es.length+ns.length)*i.A3<=140737488355328 ->
   ∃(arr:Array Value) (lA:Nat),(Builtin.append_ #[t,t] ty #[.slice base es.length cap,.slice ax ns.length qV]).run P w=.ok (.slice (some ⟨w.heap.size,0,none⟩) (es.length+ns.length) lA) (w.drew.alloc (.cells arr e)) /\
    es.length+ns.length<=lA/\arr.size=lA*i.sz /\
    ∀(i' j:Nat) (y:V),((es++ns)[i']?.bind (·[j]?))=some y->∃c,arr[i'*i.sz+j]?=some c/\c.oneCell'=true/\ay σ s w y c:=by
  intro es base cap je o1 o2 o3 o4 o5 oU aeE;have hold:(Builtin.firstCells ti.size es.length (.slice base es.length cap)).run P w.drew=.ok je.toArray w.drew:=by
   rw[k4];cases base with
   |none =>
    have:es=[]:=o2 rfl;subst this;have hn:je=[]:=akj (by simpa using o1);subst hn;exact run_firstCells_none w.drew i.sz 0 0 cap
   |some ad=>exact run_firstCells_some w.drew i.sz es.length ad es.length cap je o1 (by simpa using o4 ad rfl)
  have hle:es.length+ns.length<=(es.length+ns.length)*i.A3:=Nat.le_mul_of_pos_right _ Zs;have dZ:=run_append_grow_src (P:=P) w t t ty e ti z hu k1 k3 base es.length cap je hold (.slice ax ns.length qV) ns.length news sg oU ae (growslice_fits oU (by rw[k5];exact aeE));have gx:=grownCap_ge w (es.length+ns.length) cap e;refine⟨_,_,dZ,gx,?_,?_⟩
  ·simp only[Array.size_append,List.size_toArray,size_zeroCells,ajQ,o1,n1,HC];rw[<- akx,<- akx];congr 1;omega
  ·intro i' j y hy;obtain⟨c,c1,c2,c3⟩:=pH o1 o5 n4 i' j y hy;exact⟨c,zY c1,c2,c3⟩
 have TO:∀(es:List (List V)),(∀e∈es,e.length=i.sz)->∀e∈es++ns,e.length=i.sz:=by
  intro es Gb e he;rcases List.mem_append.1 he with h'|h'
  ·exact Gb e h'
  ·exact hz e h'
 obtain⟨Pb,UX⟩:=mW hI;split at h
 ·
  rename_i au;have gD:il s (.fu au)=some (au.map (·.map .d)):=rfl;have Z0:(∀e∈au,e.length=i.sz)->∀e∈au.map (·.map V.d),e.length=i.sz:=by intro hh e he;obtain⟨e',vV,rfl⟩:=List.mem_map.1 he;simpa using hh e' vV
  split at h
  ·
   rename_i d0 yz ds;obtain⟨⟨hb,hl⟩,h⟩:=h;have Qg:ns=ds.map (·.map .d):=by simpa [il]using uu.symm
   obtain⟨base,cap,yS,a1,a2,je,o1,o2,o3,o4⟩:=hU hI ha gD (Z0 hl);have Mg:cap=(d0::yz).length:=by
    cases ha with|fu ha=>?_
    simp only[Value.slice.injEq]at yS;omega
   subst yS;have ke:((d0::yz).map (·.map V.d)).length=(d0::yz).length:=ak;by_cases hm:ns.length=0
   ·have hds:ds=[]:=by rw[Qg]at hm;simpa using hm
    subst hds;have gp:ns=[]:=by simpa using Qg
    subst gp;have Bh:news=[]:=akj (by simpa using n1);subst Bh;cases base with
    |none=>simp at a1
    |some ad =>
     refine⟨_,.slice (some ad) ((d0::yz).map (·.map V.d)).length cap,σ,s,w,m6 hu k1 sg _ _ _ (by simp [Mg]),aC.refl _ _ _,hI,?_,h⟩
     ·rw[akh];exact .d (oe ha rfl)
   ·obtain⟨arr,lA,g1,g2,g3,g4⟩:=grow ((d0::yz).map (·.map .d)) base cap je o1 a1 (Z0 hl) o3 o4 (by rw[ke];omega) (by rw[ke,Qg];simpa using hb);obtain⟨hE,fS⟩:=Gg UX (.cells arr e);refine⟨_,_,σ,s,_,g1,Pb.trans hE,fS,?_,h⟩;have hlen:((d0::yz).map (·.map V.d)).length+ns.length=((d0::yz)++ds).length:=by rw[Qg];simp;omega
    rw[hlen];refine .d (cU.Mn (sz:=i.sz) (by rw[<- hlen];exact g2) (λx hx=>?_) (λho=>by have:=wP UX ho;simp at this) (λa j y hy=>?_))
    ·rcases List.mem_append.1 hx with h'|h'
     ·exact hl x h'
     ·have:=hz (x.map .d) (by rw[Qg];exact List.mem_map.2 ⟨x,h',rfl⟩);simpa using this
    ·have X9:(((d0::yz).map (·.map V.d)++ns)[a]?.bind (·[j]?))=some (.d y):=by
      rw[Qg,<- akF,List.getElem?_map];cases ZZ:((d0::yz)++ds)[a]? with
      |none=>rw[ZZ]at hy;cases hy
      |some ea =>
       rw[ZZ]at hy;simp only[ajS,akA,List.getElem?_map];rw[show ea[j]?=some y from hy];rfl
     obtain⟨c,c1,c2,c3⟩:=g4 a j _ X9;refine⟨c,by
      show (w.drew.alloc (.cells arr e)).cell? ⟨w.drew.heap.size,0+a*i.sz+j,none⟩=some c;rw[World.cell?_alloc_new];simpa using c1,?_⟩
     have:=(c3.aR Pb).aR hE;cases this with|d h'=>exact h'
  ·
   obtain⟨⟨eU,hb,hl⟩,h⟩:=h;obtain⟨base,cap,yS,a1,a2,je,o1,o2,o3,o4⟩:=hU hI ha gD (Z0 hl);have Mg:cap=au.length:=by
    cases ha with|fu ha=>?_
    simp only[Value.slice.injEq]at yS;omega
   subst yS;have ke:(au.map (·.map V.d)).length=au.length:=ak;by_cases hm:ns.length=0
   ·have he0:au=[]:=eU.resolve_right ae;subst he0;have gp:ns=[]:=akj hm;subst gp;have Bh:news=[]:=akj (by simpa using n1);subst Bh;have:=mV (p:=none) (o':=⟨0,true,i.sz,[]⟩) (w':=w) hI rfl rfl rfl (ajZ _) (λ_ _=>rfl) (λ_ _ h'=>by cases h') (λ_=>.inl (.inl ⟨rfl,rfl⟩));refine⟨_,.slice base 0 cap,_,_,w,m6 hu k1 sg _ _ _ (alf _),this.1,this.2,?_,h⟩
    ·subst Mg;exact .so ⟨0,true,i.sz,[]⟩ ak (ajZ _) ⟨_,_,rfl⟩ (λ_=>.inl ⟨bP _ _ _,⟨base,rfl⟩,rfl,rfl⟩)
   ·obtain⟨arr,lA,g1,g2,g3,g4⟩:=grow (au.map (·.map .d)) base cap je o1 a1 (Z0 hl) o3 o4 (by rw[ke];omega) (by rw[ke];exact hb);have:=pG (au:=au.map (·.map .d)++ns) (sz:=i.sz) (arr:=arr) UX e (TO _ (Z0 hl)) (by rw[g3];exact akk _ (by simpa using g2))
     (λi' j y hy=>let ⟨c,c1,c2,c3⟩:=g4 i' j y hy;⟨c,c1,c2,c3.aR Pb⟩)
    refine⟨_,_,_,_,_,g1,Pb.trans this.1,this.2,?_,h⟩;rw[ke];refine .so ⟨0,true,i.sz,au.map (·.map .d)++ns⟩ ak (ajZ _) ⟨_,_,rfl⟩ (λ_=>.inr ⟨w.heap.size,0,lA,e,arr,bP _ _ _,heap_alloc_new w.drew _,ak,by rw[ke]at g2;exact g2,by simp [g3]⟩)
 ·
  rename_i id g lo n;obtain⟨o,ho,hg,⟨qB,CY,hlo,hb⟩,h⟩:=dS h;have gD:il s (.so id g lo n)=some ((o.au.drop lo).take n):=by simp [il,ho,hg,hlo]
  have ke:((o.au.drop lo).take n).length=n:=cC;have Rm:∀e∈(o.au.drop lo).take n,e.length=i.sz:=by
   intro e he;have vV:e∈o.au:=ak1 (akv he);rcases hI.content _ o ho with h0|⟨b,base,arr,E,h1,h2,h3,h4,h5⟩
   ·cases ha with|so o' g7 CK JC hk=>?_
    rw[ho]at g7;cases g7;rcases hk hg with ⟨kA,_⟩|⟨b,bs,cp,E,arr,dM,hh,_⟩
    ·rw[h0.B0 kA]at vV;cases vV
    ·exact(h0.yF dM ⟨arr,E,hh⟩).elim
   ·rw[<- CY];exact h3 e vV
  obtain⟨base,cap,yS,a1,a2,je,o1,o2,o3,o4⟩:=hU hI ha gD Rm;rw[ke]at yS a2;cases ha with|so o' g7 CK JC hk=>?_
  rw[ho]at g7;cases g7;have sT:=hk hg;by_cases oU:cap<n+ns.length
  ·
   obtain⟨arr,lA,g1,g2,g3,g4⟩:=grow _ base cap je o1 a1 Rm o3 o4 (by rw[ke];exact oU) (by rw[ke];exact hb);rw[ke]at g1 g2;subst yS;have:=lQ (p:=some (w.heap.size,0)) (o':=⟨g+1,true,i.sz,(o.au.drop lo).take n++ns⟩) (w':=w.drew.alloc (.cells arr e)) hI ho qB rfl rfl rfl ak
    (λb IJ _=>akU w.drew _ b IJ)
    (λb bN bR E' he hh=>⟨bR,by rw[akU w.drew _ b (by exact dN hh)];exact hh,rfl⟩)
    (λb bN he hm=>let ⟨es,c,hh⟩:=hm;⟨es,c,by rw[akU w.drew _ b (by exact dN hh)];exact hh⟩)
    n6 (λh'=>by simp only at h';omega) (λb bN he=>by cases he;exact .inr (ajZ _))
    (λhE=>.inr ⟨w.heap.size,0,arr,e,rfl,heap_alloc_new w.drew _,TO _ Rm,by simp only[ajQ,ke,g3];rw[ajT];exact akk _ g2,λi' j y hy=>by
     obtain⟨c,c1,c2,c3⟩:=g4 i' j y hy;exact⟨c,by simpa using c1,c2,c3.aR hE⟩⟩)
   refine⟨_,_,_,_,_,g1,this.1,this.2,?_,h⟩;exact .so ⟨g+1,true,i.sz,(o.au.drop lo).take n++ns⟩ (by simp [(List.getElem?_eq_some_iff.1 ho).1]) (ajZ _) ⟨_,_,rfl⟩ (λ_=>.inr ⟨w.heap.size,0,lA,e,arr,bP _ _ _,heap_alloc_new w.drew _,ak,g2,by simp [g3]⟩)
  ·
   have ud:n+ns.length<=cap:=ae;rcases sT with ⟨kA,⟨aa,pW⟩,rfl,rfl⟩|⟨b,bs,cp,E,arr,dM,hh,pW,yT,hfit⟩
   ·
    rw[yS]at pW;simp only[Value.slice.injEq]at pW;obtain⟨rfl,_,rfl⟩:=pW;have gp:ns=[]:=akj ae;subst gp;have Bh:news=[]:=akj (by simpa using n1);subst Bh;subst yS;have:=lQ (p:=none) (o':=⟨g+1,true,i.sz,(o.au.drop 0).take 0++[]⟩) (w':=w) hI ho qB rfl rfl rfl (ajZ _) (λ_ _ _=>rfl)
     (λ_ _ bR _ _ hh=>⟨bR,hh,rfl⟩) (λ_ _ _ hm=>hm) n6 (λh'=>by simp only at h';omega) (λ_ _ he=>by cases he) (λ_=>.inl (.inl ⟨rfl,ak⟩))
    refine⟨_,.slice base 0 0,_,_,w,m6 hu k1 sg _ _ _ (ajZ _),this.1,this.2,?_,h⟩
    ·exact .so ⟨g+1,true,i.sz,(o.au.drop 0).take 0++[]⟩ (by simp [(List.getElem?_eq_some_iff.1 ho).1]) (ajZ _) ⟨_,_,rfl⟩ (λ_=>.inl ⟨bP _ _ _,⟨base,rfl⟩,rfl,rfl⟩)
   ·rw[yS]at pW;simp only[Value.slice.injEq]at pW;obtain⟨rfl,_,rfl⟩:=pW;subst yS;have hq:bs+lo*o.sz+n*i.sz+news.length<=arr.size:=by rw[n1,<- CY];have e1:(lo+cap)*o.sz=lo*o.sz+cap*o.sz:=akx _ _ _;have e2:=akk o.sz ud;rw[akx]at e2;omega
    have bH:=run_storeCells_at P b (bs+lo*o.sz+n*i.sz) E news 0 arr w hh ae n2;simp only[ak0]at bH;generalize lG:(arr.toList.take (bs+lo*o.sz+n*i.sz)++news++arr.toList.drop (bs+lo*o.sz+n*i.sz+news.length)).toArray=bR at bH;have ie:bR.size=arr.size:=by rw[<- lG];simp;omega
    have az:∀p,p<bs+lo*o.sz+n*i.sz->bR[p]?=arr[p]?:=by intro p hp;rw[<- lG,List.getElem?_toArray,aj7,List.getElem?_append_left cC,List.getElem?_take,be hp,Array.getElem?_toList]
    have wF:∀q,q<news.length->bR[bs+lo*o.sz+n*i.sz+q]?=news[q]?:=by intro q XJ;have hl:(arr.toList.take (bs+lo*o.sz+n*i.sz)).length=bs+lo*o.sz+n*i.sz:=cC;rw[<- lG,List.getElem?_toArray,aj7,List.getElem?_append_right ae,hl,List.getElem?_append_left ae];congr 1;omega
    have:=lQ (p:=some (b,bs+lo*o.sz)) (o':=⟨g+1,true,i.sz,(o.au.drop lo).take n++ns⟩) (w':=w.setRow b bR) hI ho qB rfl rfl rfl ak
     (λb1 _ eU=>setRow_other w b b1 bR (λe=>eU bs (by rw[dM,e])))
     (λb1 jb Vt E1 he Mm=>by
      rw[dM]at he;cases he;rw[hh]at Mm;cases Mm;exact⟨bR,setRow_heap w b arr bR E (0,0) hh,ie⟩)
     (λb1 jb he hm=>by
      rw[dM]at he;cases he;exact(FM.notM ⟨arr,E,hh⟩ hm).elim)
     n6 (λh'=>by simp only at h';omega) (λb1 jb he=>by cases he;exact .inl ⟨bs,dM⟩)
     (λhE=>.inr ⟨b,bs+lo*o.sz,bR,E,rfl,setRow_heap w b arr bR E (0,0) hh,TO _ Rm,(by
      simp only[ajQ,ke,akx];rw[ie];omega),λi' j y hy=>by
      obtain⟨c,c1,c2,c3⟩:=pH (z:=i.sz) o1 o4 n4 i' j y hy;refine⟨c,?_,c2,c3.aR hE⟩;simp only;by_cases ZA:i'*i.sz+j<je.length
      ·rw[List.getElem?_append_left ZA]at c1;rw[az _ (by rw[o1,ke]at ZA;omega)];have hc:=o3 ⟨b,bs+lo*o.sz,none⟩ rfl _ c c1;rw[gk rfl]at hc;simp only[World.cell?,hh]at hc;simpa [aky]using hc
      ·rw[List.getElem?_append_right ae]at c1;have aA:=(List.getElem?_eq_some_iff.1 c1).1;have:=wF _ aA;rw[c1]at this;rw[<- this];congr 1;rw[o1,ke]at *;omega⟩)
    refine⟨_,.slice (some ⟨b,bs+lo*o.sz,none⟩) (n+ns.length) cap,_,_,w.setRow b bR,?_,this.1,this.2,?_,h⟩
    ·have jV:=sg.cells;rw[k4]at jV;simp [Builtin.append_,run_underlying hu,sizeOf,typeInfo,k1,Builtin.lenOf,ud,jV,k4,Addr.add_lit,bH]
    ·exact .so ⟨g+1,true,i.sz,(o.au.drop lo).take n++ns⟩ (by simp [(List.getElem?_eq_some_iff.1 ho).1]) (ajZ _) ⟨_,_,rfl⟩
      (λ_=>.inr ⟨b,bs+lo*o.sz,cap,E,bR,bP _ _ _,setRow_heap w b arr bR E (0,0) hh,ak,ud,by rw[ie];simp only[ajT];rw[<- CY,akx]at *;omega⟩)
 ·exact h.elim
theorem sf (w:World) (t tn ty e:TypeId) (i:TypeInfo) (z:Value) (k kn:IntKind) (ht:P.underlying t=some (.slice e)) (htn:P.underlying tn=some (.int kn)) (hi:P.info? e=some i) (hz:i.zero=some z)
  (base:Option Addr) (n:Nat) (h0:0<n) (hs:0<i.size) (EN:(n:Int)<=9223372036854775807) (ZK:n*i.bytes<=281474976710656) :
  (Builtin.append_ #[t,tn] ty #[.slice base 0 0,.int k n]).run P w =
   .ok (.slice (some ⟨w.heap.size,0,none⟩) n (grownCap w n 0 e)) (w.drew.alloc (.cells (Builtin.zeroCells z.cells n++Builtin.zeroCells z.cells (grownCap w n 0 e-n)) e)):=by
 have hn:n≠0:=ae;have hw:IntKind.i64.wrap (n:Int)=n:=by rw[IntKind.wrap_i64];omega
 have aeG:¬(9223372036854775807<(n:Int)):=ae;have afz:¬(281474976710656<Builtin.nextslicecap n 0*i.bytes):=by rw[nextslicecap_zero h0];omega
 have ae4:¬(281474976710656<(n:Int)*(i.bytes:Int)):=by rw[<- Int.natCast_mul];omega
 have eM:¬((n:Int)<0):=ae;have uu:¬(n*i.size=0):=Nat.mul_ne_zero hn ae;have hold:∀w:World,(Builtin.firstCells i.size 0 (.slice base 0 0)).run P w=.ok #[] w:=by
  intro w;cases base with
  |none=>exact run_firstCells_none w i.size 0 0 0
  |some ad=>exact run_firstCells_some w i.size 0 ad 0 0 [] ak ak
 simp [Builtin.append_,run_underlying ht,run_underlying htn,sizeOf,typeInfo,zeroValue,hi,hz,asInt,asIntOf,hw,hn,eM,uu,aeG,afz,ae4,Question.forced,hold,newRow,grownCap]
def kN (P:Program) (t t':TypeId) (a x:V) (s:List Obj) (K:V->List Obj->Prop):Prop :=
 match iL P t with
 |none=>False
 |some (_,i)=>match P.underlying t' with
  |some (.int _)=>match a,x with
   |.fu au,.d (.sc (.int _ n))=>(au=[]/\0<n/\(i.A3:Int)*n<=140737488355328/\n<=140737488355328/\0<i.sz) /\
     K (.so s.length 0 0 n.toNat) (s++[⟨0,true,i.sz,List.replicate n.toNat (i.zero.map cv)⟩])
   |_,_=>False
  |_=>False
theorem E9{t':TypeId}{a:V}{K:V->List Obj->Prop} (hI:Inv σ s w) (ha:ay σ s w a ua) (hx:ay σ s w x ux)
  (h:kN P t t' a x s K):∃v r σ' s' w',(Builtin.append_ #[t,t'] ty #[ua,ux]).run P w=.ok r w'/\aC σ s w σ' s' w'/\Inv σ' s' w'/\ay σ' s' w' v r/\K v s':=by
 unfold kN at h;split at h
 ·exact h.elim
 rename_i e i hti;obtain⟨hu,hi⟩:=jD hti;split at h
 case h_2=>exact h.elim
 rename_i kn IN;split at h
 case h_2=>exact h.elim
 rename_i au k n;obtain⟨⟨rfl,h1,h2,h3,h4⟩,h⟩:=h;cases hx with|d hx=>?_
 cases hx with|sc _ _=>?_
 cases ha with|fu ha=>?_
 rename_i base;obtain⟨ti,d,z,k1,k2,k3,k4,k5,k6,k7,k8,k9⟩:=gj hi;have HC:z.cells.size=i.sz:=by rw[<- ala,k6,k7]
 obtain⟨N,rfl⟩:=Int.eq_ofNat_of_zero_le (show 0<=n by omega);have ZK:N*ti.bytes<=281474976710656:=by
  rw[k5,Nat.mul_comm];have:((i.A3*N:Nat):Int)<=140737488355328:=by rw[Int.natCast_mul];exact h2
  omega
 have dZ:=sf (P:=P) w t t' ty e ti z k kn hu IN k1 k3 base N ae (by rw[k4];exact h4) ae ZK;have gx:=grownCap_ge w N 0 e;generalize grownCap w N 0 e=cap at dZ gx;obtain⟨Pb,UX⟩:=mW hI;have eZ:(Builtin.zeroCells z.cells N++Builtin.zeroCells z.cells (cap-N)).size=cap*i.sz:=by simp only[Array.size_append,size_zeroCells,HC];rw[<- akx];congr 1;omega
 obtain⟨r1,r2,r3⟩:=BX hi σ s w N z k6;have hzc:Builtin.zeroCells z.cells N=(Array.range (N*i.sz)).map (z.cells[· % z.cells.size]!):=by unfold Builtin.zeroCells;rw[HC]
 have dO:∀(a j:Nat) (x:V),((List.replicate N (i.zero.map cv))[a]?.bind (·[j]?))=some x->∃c,(Builtin.zeroCells z.cells N++Builtin.zeroCells z.cells (cap-N))[a*i.sz+j]?=some c/\c.oneCell'=true/\ay σ s w x c:=by intro a j x hx;obtain⟨c,c1,c2,c3⟩:=r3 a j x hx;refine⟨c,?_,c2,c3⟩;rw[<- hzc]at c1;have az:=(Array.getElem?_eq_some_iff.1 c1).1;rw[Array.getElem?_append_left az];exact c1
 generalize Builtin.zeroCells z.cells N++Builtin.zeroCells z.cells (cap-N)=arr at *;have:=pG (au:=List.replicate N (i.zero.map cv)) (sz:=i.sz) (arr:=arr) UX e (λx hx=>by rw[List.eq_of_mem_replicate hx];simp [k7])
  (by rw[eZ,akK];exact akk _ gx) (λa j x hx=>let ⟨c,c1,c2,c3⟩:=dO a j x hx;⟨c,c1,c2,c3.aR Pb⟩)
 refine⟨_,_,_,_,_,dZ,Pb.trans this.1,this.2,?_,h⟩;exact .so ⟨0,true,i.sz,List.replicate N (i.zero.map cv)⟩ ak (ajZ _) ⟨_,_,rfl⟩ (λ_=>.inr ⟨w.heap.size,0,cap,e,arr,bP _ _ _,heap_alloc_new w.drew _,ak,gx,by simp [eZ]⟩)
def BB (x:Option V) (Vc:Int):Option Int :=
 match x with
 |none=>some Vc
 |some v=>Ln v
def tj (cs:List D) (z l n:Nat):List (List D):=(List.range n).map λi=>(cs.drop ((l+i)*z)).take z
def me (P:Program) (t:TypeId) (x:V) (lo hi mx:Option V) (K:V->Prop):Prop :=
 match Xt P t with
 |none=>False
 |some (len,z)=>match x,BB lo 0,BB hi len,mx with
  |.d (.el cs),some l,some h,none=>((0<=l/\l<=h/\h<=len)/\cs.length=len*z)/\K (.d (.sl (tj cs z l.toNat (h-l).toNat)))
  |_,_,_,_=>False
def ly (P:Program) (t:TypeId) (x:V) (lo hi mx:Option V) (s:List Obj) (K:V->Prop):Prop :=
 match Dz P t with
 |none=>me P t x lo hi mx K
 |some z=>match il s x with
  |none=>False
  |some es=>match BB lo 0,BB hi es.length with
   |some l,some h=>(0<=l/\l<=h/\h<=es.length)/\match x,mx with
    |.d (.sl au),none=>(l=0\/∀e∈au,e.length=z)/\K (.d (.sl ((au.drop l.toNat).take (h-l).toNat)))
    |.fu au,none=>(l=0\/∀e∈au,e.length=z)/\K (bif au.isEmpty then .fu [] else .d (.sl ((au.drop l.toNat).take (h-l).toNat)))
    |.d (.sl au),some m=>hi.isSome=true/\Ln m=some h/\(l=0\/∀e∈au,e.length=z)/\K (.fu ((au.drop l.toNat).take (h-l).toNat))
    |.so id g UJ _,none=>tE s id g λo=>o.sz=z/\if l=0\/l<h then K (.so id g (UJ+l.toNat) (h-l).toNat) else K (.d (.sl []))
    |_,_=>False
   |_,_=>False
theorem cU.sub{h m:Nat} (hr:cU O w (.sl au) (.slice a n cap)) (hl:l<=h) (hh:h<=au.length) (hm:h<=m) (vT:m<=cap)
  (hz:l=0\/∀e∈au,e.length=z):cU O w (.sl ((au.drop l).take (h-l))) (.slice (if m=l then a else a.map (·.add (l*z))) (h-l) (m-l)):=by
 have hlen:((au.drop l).take (h-l)).length=h-l:=cC;cases hr with
 |nil =>
  simp only[ajX]at hh;obtain rfl:h=0:=ae;obtain rfl:l=0:=ae;obtain rfl:m=0:=ae;exact .nil
 |sl _ ad _ sz f h1 h2 h3 h4 h5 =>
  by_cases UM:m=l
  ·rw[be UM];have e0:(au.drop l).take (h-l)=[]:=akj (by rw[hlen];omega);have:=cU.sl (O:=O) (w:=w) [] ad (m-l) sz f ak ak ak ak ak;rw[e0,show h-l=0 by omega];exact this
  ·rw[ap UM];simp only[ajS];have dO:∀(i:Nat) (e:List D),((au.drop l).take (h-l))[i]?=some e->au[l+i]?=some e:=by
    intro i e he;rw[List.getElem?_take]at he;split at he
    ·rw[List.getElem?_drop]at he;exact he
    ·cases he
   have adz:∀e∈(au.drop l).take (h-l),e.length=sz:=λe he=>h3 e (ak1 (akv he));have hmul:∀(i j:Nat) (x:D),(((au.drop l).take (h-l))[i]?.bind (·[j]?))=some x->(au[l+i]?.bind (·[j]?))=some x/\ad.add (l*z)=⟨ad.block,ad.off+l*sz,none⟩:=by
    intro i j x hx;cases he:((au.drop l).take (h-l))[i]? with
    |none=>rw[he]at hx;cases hx
    |some e =>
     rw[he]at hx;have vV:=dO i e he;refine⟨by rw[vV];exact hx,?_⟩;have eU:au≠[]:=by intro h';subst h';simp at vV
     rw[gk (h2 eU)];rcases hz with rfl|hz
     ·simp
     ·have:=hz e (List.mem_of_getElem? vV);have:=h3 e (List.mem_of_getElem? vV);rw[show z=sz by omega]
   have:=cU.sl (O:=O) (w:=w) ((au.drop l).take (h-l)) (ad.add (l*z)) (m-l) sz (λi j=>f (l+i) j) (by rw[hlen];omega)
    (λeU=>by
     have afe:au≠[]:=by intro h';subst h';simp at eU
     rw[gk (h2 afe)]) adz
    (λi j x hx=>by
     obtain⟨g1,g2⟩:=hmul i j x hx;have:=h4 (l+i) j x g1;rw[g2];simpa [akx,aky]using this)
    (λi j x hx=>h5 (l+i) j x (hmul i j x hx).1)
   rw[hlen]at this;exact this
theorem xS{x:Option V}{u:Option Value}{Vc n:Int} (hr:∀v,x=some v->∃c,u=some c/\ay σ s w v c) (hn:x=none->u=none) (h:BB x Vc=some n) :
  (u=none/\n=Vc)\/∃k,u=some (.int k n):=by
 cases x with
 |none=>simp only[BB,ajU]at h;exact .inl ⟨hn rfl,h.symm⟩
 |some v =>
  obtain⟨c,rfl,hc⟩:=hr v rfl;obtain⟨k,rfl⟩:=Gq hc h;exact .inr ⟨k,rfl⟩
theorem Ac{ti:TypeInfo} (hu:P.underlying t=some (.slice e)) (hi:P.info? e=some ti){lo hi' mx:Option Value}{h m:Nat}
  (hlo:(lo=none/\l=0)\/∃k,lo=some (.int k l)) (hhi:(hi'=none/\h=n)\/∃k,hi'=some (.int k h)) (Oc:(mx=none/\m=cap)\/(hi'≠none/\∃k,mx=some (.int k m)))
  (hlh:l<=h) (hhm:h<=m) (hmc:m<=cap) (w:World) :
  (Instr.sliceAt t (.slice a n cap) lo hi' mx).run P w=.ok (.slice (if m=l then a else a.map (·.add (l*ti.size))) (h-l) (m-l)) w:=by
 have b:∀(k:IntKind) (i y:Nat) (c:BoundsCode),i<=y->(Instr.sliceBound (.int k i) y c).run P w=.ok i w:=by intro k i y c hh;simp [Instr.sliceBound,asIntOf,hh]
 rcases hlo with ⟨rfl,rfl⟩|⟨kl,rfl⟩ <;> rcases hhi with ⟨rfl,rfl⟩|⟨kh,rfl⟩ <;> rcases Oc with ⟨rfl,rfl⟩|⟨eU,km,rfl⟩ <;>
  first
   |(exact absurd rfl eU)
   |simp [Instr.sliceAt,Instr.slice,run_underlying hu,Instr.sliceBounds,b,hlh,hhm,hmc,sizeOf,typeInfo,hi]
theorem cU.chunk{cs:List D}{a:Addr}{len:Nat} (hr:cU O w (.el cs) (.pointer (some a))) (hlen:cs.length=len*z) (hn:l+n<=len) :
  cU O w (.sl (tj cs z l n)) (.slice (some (if len=l then a else a.add (l*z))) n (len-l)):=by
 cases hr with
 |el _ _ f h1 h2 h3 =>
  have hl:(tj cs z l n).length=n:=by simp [tj]
  by_cases gp:n=0
  ·subst gp;exact cU.sl [] _ (len-l) 0 (λ_ _=>undef) ak ak ak ak ak
  ·rw[bd,gk h1];have dO:∀(i j:Nat) (x:D),((tj cs z l n)[i]?.bind (·[j]?))=some x->cs[(l+i)*z+j]?=some x:=by
    intro i j x hx;unfold tj at hx;rw[List.getElem?_map]at hx;cases hi:(List.range n)[i]? with
    |none=>rw[hi]at hx;cases hx
    |some k =>
     have hk:k=i:=by have:=List.getElem?_eq_some_iff.1 hi;obtain⟨h1,h2⟩:=this;simpa using h2.symm
     subst hk;rw[hi]at hx;simp only[ajS,akA]at hx;rw[List.getElem?_take]at hx;split at hx
     ·rwa [List.getElem?_drop]at hx
     ·cases hx
   have:=cU.sl (O:=O) (w:=w) (tj cs z l n) ⟨a.block,a.off+l*z,none⟩ (len-l) z (λi j=>f ((l+i)*z+j)) ae (λ_=>rfl)
    (λe he=>by
     unfold tj at he;obtain⟨i,hi,rfl⟩:=List.mem_map.1 he;have hi:=List.mem_range.1 hi;have:=akk z (show l+i+1<=len by omega);rw[akx,Nat.one_mul]at this;rw[akH,List.length_drop];omega)
    (λi j x hx=>by
     have:=h2 _ x (dO i j x hx);have e:a.off+((l+i)*z+j)=a.off+l*z+i*z+j:=by rw[akx];omega
     rw[e]at this;exact this)
    (λi j x hx=>h3 _ x (dO i j x hx))
   rw[hl]at this;exact this
theorem FF (hx:ay σ s w x ux)
  (hl:∀v,lo=some v->∃c,ul=some c/\ay σ s w v c) (YR:lo=none->ul=none) (hh:∀v,hi=some v->∃c,uh=some c/\ay σ s w v c) (hhn:hi=none->uh=none)
  (hmn:mx=none->um=none) (h:me P t x lo hi mx K) :
  ∃v c,(Instr.sliceAt t ux ul uh um).run P w=.ok c w/\ay σ s w v c/\K v:=by
 unfold me at h;split at h
 ·exact h.elim
 rename_i len z hz;obtain⟨e,ti,e1,e2,e3⟩:=DC hz;split at h
 case h_2=>exact h.elim
 rename_i cs l h' pU hh0;obtain⟨⟨⟨b1,b2,b3⟩,hlen⟩,hK⟩:=h;obtain⟨L,rfl⟩:=Int.eq_ofNat_of_zero_le b1;obtain⟨H,rfl⟩:=Int.eq_ofNat_of_zero_le (show 0<=h' by omega);have oT:=xS hl YR pU;have UD:=xS hh hhn hh0;have I5:=hmn rfl;subst I5;cases hx with|d hx=>?_
 have Xo:=hx;cases hx with|el _ a f h1 h2 h3=>?_
 have hr:=cU.chunk (l:=L) (n:=H-L) Xo hlen ae;rw[<- e3]at hr;refine⟨_,_,?_,.d hr,by rw[show ((H:Int)-L).toNat=H-L by omega,ajP,<- e3]at hK;exact hK⟩;have b:∀(k:IntKind) (i y:Nat) (c:BoundsCode),i<=y->(Instr.sliceBound (.int k i) y c).run P w=.ok i w:=by intro k i y c hh;simp [Instr.sliceBound,asIntOf,hh]
 have hL:L<=H:=ae;have hH:H<=len:=ae;rcases oT with ⟨rfl,oT⟩|⟨kl,rfl⟩ <;> rcases UD with ⟨rfl,UD⟩|⟨kh,rfl⟩
 ·obtain rfl:L=0:=by omega
  obtain rfl:H=len:=ae;simp [Instr.sliceAt,run_underlying e1,Instr.sureAddr,Instr.sliceBounds,sizeOf,typeInfo,e2]
 ·obtain rfl:L=0:=by omega
  simp [Instr.sliceAt,run_underlying e1,Instr.sureAddr,Instr.sliceBounds,b,hH,sizeOf,typeInfo,e2]
 ·obtain rfl:H=len:=by omega
  simp [Instr.sliceAt,run_underlying e1,Instr.sureAddr,Instr.sliceBounds,b,hL,sizeOf,typeInfo,e2]
 ·simp [Instr.sliceAt,run_underlying e1,Instr.sureAddr,Instr.sliceBounds,b,hL,hH,sizeOf,typeInfo,e2]
theorem KZ (hx:ay σ s w x ux)
  (hl:∀v,lo=some v->∃c,ul=some c/\ay σ s w v c) (YR:lo=none->ul=none) (hh:∀v,hi=some v->∃c,uh=some c/\ay σ s w v c) (hhn:hi=none->uh=none)
  (hm:∀v,mx=some v->∃c,um=some c/\ay σ s w v c) (hmn:mx=none->um=none) (h:ly P t x lo hi mx s K) :
  ∃v c,(Instr.sliceAt t ux ul uh um).run P w=.ok c w/\ay σ s w v c/\K v:=by
 unfold ly at h;split at h
 ·exact FF hx hl YR hh hhn hmn h
 rename_i z hz;obtain⟨e,ti,e1,e2,e3⟩:=K8 hz;split at h
 ·exact h.elim
 rename_i es Gb;split at h
 case h_2=>exact h.elim
 rename_i l h' pU hh0;obtain⟨⟨b1,b2,b3⟩,h⟩:=h;obtain⟨L,rfl⟩:=Int.eq_ofNat_of_zero_le b1;obtain⟨H,rfl⟩:=Int.eq_ofNat_of_zero_le (show 0<=h' by omega);have oT:=xS hl YR pU;have UD:=xS hh hhn hh0;have BL:(ul=none/\L=0)\/∃k,ul=some (.int k (L:Int)):=oT.imp (λh=>⟨h.1,ae⟩) id;have e4:((H:Int)-L).toNat=H-L:=ae;simp only[ajP,e4]at h;have data:∀(au:List (List D)),cU (Own σ s) w (.sl au) ux->es.length=au.length->(L=0\/∀e∈au,e.length=z)->∀(M:Nat),H<=M->(∀a n cap,ux=.slice a n cap->M<=cap/\((um=none/\M=cap)\/(uh≠none/\∃k,um=some (.int k (M:Int))))) ->
   ∃c a cap,ux=.slice a au.length cap/\(Instr.sliceAt t ux ul uh um).run P w=.ok c w/\cU (Own σ s) w (.sl ((au.drop L).take (H-L))) c/\c=.slice (if M=L then a else a.map (·.add (L*z))) (H-L) (M-L):=by
  intro au hd hlen hzz M hM Ci;have hu:∃a n cap,ux=.slice a n cap:=by cases hd <;> exact⟨_,_,_,rfl⟩
  obtain⟨a,n,cap,rfl⟩:=hu;have hn:n=au.length/\au.length<=cap:=by cases hd <;> simp_all
  obtain⟨rfl,oU⟩:=hn;obtain⟨c1,c2⟩:=Ci a _ cap rfl;have dZ:=Ac (P:=P) e1 e2 (a:=a) (n:=au.length) (cap:=cap) (lo:=ul) (hi':=uh) (mx:=um) (l:=L) (h:=H) (m:=M) BL (UD.imp (λh=>⟨h.1,ae⟩) id) c2 ae hM c1 w;rw[e3]at dZ;exact⟨_,a,cap,rfl,dZ,cU.sub hd ae ae hM c1 hzz,rfl⟩
 split at h
 ·
  rename_i au;have hd:cU (Own σ s) w (.sl au) ux:=oe hx rfl;have hlen:es.length=au.length:=by simp only[il,ajU]at Gb;rw[<- Gb];simp
  have hu:∃a n cap,ux=.slice a n cap:=by cases hd <;> exact⟨_,_,_,rfl⟩
  obtain⟨a,n,cap,rfl⟩:=hu;have hn:n=au.length/\au.length<=cap:=by cases hd <;> simp_all
  obtain⟨c,_,_,_,r1,r2,_⟩:=data au hd hlen (h.1.imp ae id) cap ae (λa' n' lA he=>by cases he;exact⟨ajZ _,.inl ⟨hmn rfl,rfl⟩⟩);exact⟨_,c,r1,.d r2,h.2⟩
 ·rename_i au;have hd:cU (Own σ s) w (.sl au) ux:=oe hx rfl;have hlen:es.length=au.length:=by simp only[il,ajU]at Gb;rw[<- Gb];simp
  have hu:∃a n cap,ux=.slice a n cap:=by cases hd <;> exact⟨_,_,_,rfl⟩
  obtain⟨a,n,cap,rfl⟩:=hu;have hn:n=au.length/\au.length<=cap:=by cases hd <;> simp_all
  have ia:cap=au.length:=by
   cases hx with|fu _=>rfl
  obtain⟨c,a',lA,hq,r1,r2,r3⟩:=data au hd hlen (h.1.imp ae id) cap ae (λa' n' lA he=>by cases he;exact⟨ajZ _,.inl ⟨hmn rfl,rfl⟩⟩);cases au with
  |nil =>
   have hL:L=0:=by simp only[ajX]at hlen;omega
   have hH:H=0:=by simp only[ajX]at hlen;omega
   subst hL;subst hH;subst ia;refine⟨_,c,r1,?_,h.2⟩;rw[r3]at r2 ⊢;exact .fu (au:=[]) r2
  |cons x xs=>exact⟨_,c,r1,.d r2,h.2⟩
 ·rename_i au m;obtain⟨h1,h2,h3,h⟩:=h;have hd:cU (Own σ s) w (.sl au) ux:=oe hx rfl;have hlen:es.length=au.length:=by simp only[il,ajU]at Gb;rw[<- Gb];simp
  obtain⟨cm,X3,YJ⟩:=hm m rfl;obtain⟨km,rfl⟩:=Gq YJ h2;have adH:uh≠none:=by
   cases hi with
   |none=>simp at h1
   |some v=>obtain⟨c,rfl,_⟩:=hh v rfl;simp
  have hu:∃a n cap,ux=.slice a n cap:=by cases hd <;> exact⟨_,_,_,rfl⟩
  obtain⟨a,n,cap,rfl⟩:=hu;have hn:n=au.length/\au.length<=cap:=by cases hd <;> simp_all
  obtain⟨c,a',lA,_,r1,r2,r3⟩:=data au hd hlen (h3.imp ae id) H (ajZ _) (λa' n' lA he=>by cases he;exact⟨ae,.inr ⟨adH,km,X3⟩⟩);refine⟨_,c,r1,?_,h⟩;have D8:((au.drop L).take (H-L)).length=H-L:=cC;rw[r3]at r2 ⊢;have:ay σ s w (.fu ((au.drop L).take (H-L))) (.slice (if H=L then a' else a'.map (·.add (L*z))) ((au.drop L).take (H-L)).length ((au.drop L).take (H-L)).length):=.fu (by rw[D8];exact r2);rw[D8]at this;exact this
 ·rename_i oid g UJ n;obtain⟨o,ho,hg,XN,hK⟩:=dS h;clear h;cases hx with|so o' g7 CK JC hk=>?_
  rw[ho]at g7;cases g7;have hn:es.length=n:=by
   simp only[il,ho,hg]at Gb;split at Gb
   ·simp only[ajU]at Gb;rw[<- Gb];simp;omega
   ·cases Gb
  rcases hk hg with ⟨kA,⟨aa,rfl⟩,rfl,rfl⟩|⟨b,bs,cp,E,arr,dM,hhp,rfl,yT,hfit⟩
  ·obtain rfl:L=0:=by omega
   obtain rfl:H=0:=ae;have dZ:=Ac (P:=P) e1 e2 (a:=aa) (n:=0) (cap:=0) (lo:=ul) (hi':=uh) (mx:=um) (l:=0) (h:=0) (m:=0) BL (UD.imp (λh=>⟨h.1,rfl⟩) id) (.inl ⟨hmn rfl,rfl⟩) ae ae ae w;rw[be (.inl rfl)]at hK;refine⟨_,_,dZ,?_,hK⟩;exact .so o ho CK ⟨_,_,rfl⟩ (λ_=>.inl ⟨kA,⟨aa,ak⟩,rfl,rfl⟩)
  ·have dZ:=Ac (P:=P) e1 e2 (a:=some ⟨b,bs+UJ*o.sz,none⟩) (n:=n) (cap:=cp) (lo:=ul) (hi':=uh) (mx:=um) (l:=L) (h:=H) (m:=cp) BL (UD.imp (λh=>⟨h.1,ae⟩) id) (.inl ⟨hmn rfl,rfl⟩) ae ae ae w;by_cases az:(L:Int)=0\/(L:Int)<(H:Int)
   case neg =>
    rw[ap az]at hK;obtain rfl:H=L:=ae;refine⟨_,_,dZ,.d ?_,hK⟩;have Sz:∃a',(if cp=H then some (⟨b,bs+UJ*o.sz,none⟩:Addr) else (some (⟨b,bs+UJ*o.sz,none⟩:Addr)).map (·.add (H*ti.size)))=some a':=by split <;> exact⟨_,rfl⟩
    obtain⟨a',KN⟩:=Sz;rw[KN,akQ];exact cU.sl [] a' _ 0 (λ_ _=>undef) ak ak ak ak ak
   rw[be az]at hK;refine⟨_,_,dZ,?_,hK⟩;refine .so o ho CK ⟨_,_,rfl⟩ (λ_=>.inr ⟨b,bs,cp-L,E,arr,dM,hhp,?_,ae,?_⟩)
   ·rcases az with h0|h0
    ·obtain rfl:L=0:=by omega
     simp [Addr.add]
    ·rw[bd];simp only[ajS];rw[gk rfl,e3,XN,akx];simp [aky]
   ·rw[show UJ+L+(cp-L)=UJ+cp by omega];exact hfit
 ·exact h.elim
def LF (P:Program) (t:TypeId) (x:V) (K:V->Prop):Prop :=
 match P.underlying t with
 |some (.slice _)=>match x with
  |.fu au=>K (.d (.sc (.int .i64 au.length)))
  |_=>False
 |_=>False
theorem QD (hx:ay σ s w x ux) (h:LF P t x K) :
  ∃v c,(Builtin.cap_ #[t] ty #[ux]).run P w=.ok c w/\ay σ s w v c/\K v:=by
 unfold LF at h;split at h
 ·rename_i e hu;split at h
  ·rename_i au;cases hx with|fu _=>?_
   exact⟨_,.int .i64 au.length,by simp [Builtin.cap_,run_underlying hu,goInt],.d (.sc _ rfl),h⟩
  ·exact h.elim
 ·exact h.elim
def lK (P:Program) (t:TypeId) (x:V) (s:List Obj) (K:V->Prop):Prop :=
 match P.underlying t with
 |some (.slice _)=>match x with
  |.d (.sl au)=>K (.d (.sc (.int .i64 au.length)))
  |.fu au=>K (.d (.sc (.int .i64 au.length)))
  |.so _ _ _ n=>K (.d (.sc (.int .i64 n)))
  |_=>False
 |some .string=>match x with
  |.d (.sc (.string b))=>K (.d (.sc (.int .i64 b.size)))
  |_=>False
 |_=>False
theorem PG (hx:ay σ s w x ux) (h:lK P t x s K) :
  ∃v c,(Builtin.len_ #[t] ty #[ux]).run P w=.ok c w/\ay σ s w v c/\K v:=by
 unfold lK at h;split at h
 ·rename_i e hu;have fin:∀(a:Option Addr) (n cap:Nat),ux=.slice a n cap->K (.d (.sc (.int .i64 n)))->∃v c,(Builtin.len_ #[t] ty #[ux]).run P w=.ok c w/\ay σ s w v c/\K v:=by rintro a n cap rfl hk;exact⟨_,.int .i64 n,by simp [Builtin.len_,run_underlying hu,goInt],.d (.sc _ rfl),hk⟩
  split at h
  ·have hd:=oe hx rfl;cases hd <;> exact fin _ _ _ rfl h
  ·have hd:=oe hx rfl;cases hd <;> exact fin _ _ _ rfl h
  ·cases hx with|so o' g7 CK JC hk=>?_
   obtain⟨aa,cp,rfl⟩:=JC;exact fin _ _ _ rfl h
  ·exact h.elim
 ·rename_i hu;split at h
  ·cases hx with|d hx=>?_
   cases hx with|sc _ _=>?_
   exact⟨_,_,by simp [Builtin.len_,run_underlying hu,goInt],.d (.sc _ rfl),h⟩
  ·exact h.elim
 ·exact h.elim
end Go.VL
