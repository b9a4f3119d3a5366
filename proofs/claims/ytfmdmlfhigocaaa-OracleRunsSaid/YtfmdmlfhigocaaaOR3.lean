/- A part of the proof (Vg Vh). -/
import Derived.Test.YtfmdmlfhigocaaaOR2
set_option linter.unusedSimpArgs false
set_option linter.unusedVariables false
set_option maxRecDepth 100000
set_option maxHeartbeats 80000000
namespace Go.VL
variable{n:Nat}{σ:Gh}{w:World}{u:Value}{s:List Obj}{x:V}{aw:List (List D)}{z:Nat}{es:List (List V)}{ux:Value}{e:TypeId}{t:TypeId}{ty:TypeId}{P:Program}{a:Option Addr}{K:V->Prop}{ua:Value}{O:Nat->Prop}{l:Nat}{cap:Nat}{uh:Option Value}{lo:Option V}{hi:Option V}{um:Option Value}{ul:Option Value}{mx:Option V}
def LY:V->Option Int
 |.d (.sc (.int _ n))=>some n
 |_=>none
theorem G4{n:Int} (hr:aC σ s w x u) (h:LY x=some n):∃k,u=.int k n:=by
 unfold LY at h;split at h
 ·simp only[ai5]at h;subst h;cases hr with|d hr=>?_
  cases hr with|sc _ _=>exact⟨_,rfl⟩
 ·cases h
def jj (s:List Obj):V->Option (List (List V))
 |.d (.sl aw)=>some (aw.map (·.map .d))
 |.fu aw=>some (aw.map (·.map .d))
 |.so id g lo n=>match s[id]? with
  |some o=>if o.g=g/\lo+n<=o.aw.length then some ((o.aw.drop lo).take n) else none
  |none=>none
 |_=>none
theorem R0{i j:Nat} (h:((aw.map (·.map V.d))[i]?.bind (·[j]?))=some x):∃y,x=.d y/\(aw[i]?.bind (·[j]?))=some y:=by
 rw[aiY]at h;cases he:aw[i]? with
 |none=>rw[he]at h;cases h
 |some e =>
  rw[he]at h;simp only[ai3,ajM,aiY]at h;obtain⟨y,hy,rfl⟩:=Option.map_eq_some_iff.1 h;exact⟨y,rfl,hy⟩
theorem ks (hI:Inv σ s w) (hr:aC σ s w x u) (h:jj s x=some es) (hz:∀e∈es,e.length=z) :
  ∃a cap,u=.slice a es.length cap/\(a=none->es=[])/\es.length<=cap/\∃news:List Value,news.length=es.length*z/\(∀c∈news,c.oneCell'=true) /\
   (∀ad,a=some ad->∀(j:Nat) (c:Value),news[j]?=some c->w.cell? (ad.add j)=some c) /\
   ∀(i j:Nat) (y:V),(es[i]?.bind (·[j]?))=some y->∃c,news[i*z+j]?=some c/\c.oneCell'=true/\aC σ s w y c:=by
 have key:∀(a:Option Addr) (cap:Nat),(a=none->es=[])->es.length<=cap->(es≠[]->∃ad,a=some ad/\ad.spot=none/\∀(i j:Nat) (y:V),(es[i]?.bind (·[j]?))=some y ->
    ∃c,w.cell? ⟨ad.block,ad.off+i*z+j,none⟩=some c/\c.oneCell'=true/\aC σ s w y c) ->
   ∃a' pD,Value.slice a es.length cap=.slice a' es.length pD/\(a'=none->es=[])/\es.length<=pD/\∃news:List Value,news.length=es.length*z/\(∀c∈news,c.oneCell'=true) /\
    (∀ad,a'=some ad->∀(j:Nat) (c:Value),news[j]?=some c->w.cell? (ad.add j)=some c) /\
    ∀(i j:Nat) (y:V),(es[i]?.bind (·[j]?))=some y->∃c,news[i*z+j]?=some c/\c.oneCell'=true/\aC σ s w y c:=by
  intro a cap h1 h2 h3;refine⟨a,cap,rfl,h1,h2,?_⟩;by_cases dP:es=[]
  ·subst dP;exact⟨[],aj,aj,aj,aj⟩
  ·obtain⟨ad,rfl,pZ,hc⟩:=h3 dP;have hdiv:∀p,p<es.length*z->0<z/\p / z<es.length/\p / z*z+p % z=p/\p % z<z:=by
    intro p hp;have hzp:0<z:=by
     rcases Nat.eq_zero_or_pos z with h'|h'
     ·subst h';simp at hp
     ·exact h'
    refine⟨hzp,?_,by rw[Nat.mul_comm];exact Nat.div_add_mod p z,Nat.mod_lt _ hzp⟩;rw[Nat.div_lt_iff_lt_mul hzp];exact hp
   have wZ:∀p,p<es.length*z->∃y,(es[p / z]?.bind (·[p % z]?))=some y:=by intro p hp;obtain⟨g1,g2,g3,g4⟩:=hdiv p hp;have tO:(es[p / z]'g2).length=z:=hz _ (List.getElem_mem g2);exact⟨(es[p / z]'g2)[p % z]' ae,by simp [g2,tO,g4]⟩
   have rG:∀p,p<es.length*z->∃c,w.cell? ⟨ad.block,ad.off+p,none⟩=some c/\c.oneCell'=true:=by intro p hp;obtain⟨y,hy⟩:=wZ p hp;obtain⟨c,k1,k2,_⟩:=hc _ _ y hy;exact⟨c,by rw[<- k1,ajI,(hdiv p hp).2.2.1],k2⟩
   refine⟨(List.range (es.length*z)).map λp=>(w.cell? ⟨ad.block,ad.off+p,none⟩).getD undef,aj,?_,?_,?_⟩
   ·intro c MT;obtain⟨p,hp,rfl⟩:=List.mem_map.1 MT;obtain⟨c,k1,k2⟩:=rG p (by simpa using hp);rw[k1];exact k2
   ·intro ad' UG j c hj;cases UG;rw[aiY]at hj;obtain⟨p,hp,rfl⟩:=Option.map_eq_some_iff.1 hj;have aB:j<es.length*z:=by simpa using (List.getElem?_eq_some_iff.1 hp).1
    obtain rfl:p=j:=by have:=(List.getElem?_eq_some_iff.1 hp).2;simpa using this.symm
    obtain⟨c,k1,_⟩:=rG p aB;rw[ia pZ,k1];rfl
   ·intro i j y hy;obtain⟨c,k1,k2,k3⟩:=hc i j y hy;refine⟨c,?_,k2,k3⟩;have Zi:i*z+j<es.length*z:=by
     cases he:es[i]? with
     |none=>rw[he]at hy;cases hy
     |some e =>
      rw[he]at hy;have hj:=(List.getElem?_eq_some_iff.1 hy).1;rw[hz e (ai4 he)]at hj;have:=ajD z (show i+1<=es.length from (List.getElem?_eq_some_iff.1 he).1);rw[ajR,Nat.one_mul]at this;omega
    rw[aiY,List.getElem?_range Zi];simp only[ai3];rw[<- ajI,k1];rfl
 have GW:∀(aw:List (List D)) (a:Option Addr) (n cap:Nat),cY (Own σ s) w (.sl aw) (.slice a n cap)->es=aw.map (·.map .d)->n=es.length/\(a=none->es=[])/\es.length<=cap /\
   (es≠[]->∃ad,a=some ad/\ad.spot=none/\∀(i j:Nat) (y:V),(es[i]?.bind (·[j]?))=some y ->
    ∃c,w.cell? ⟨ad.block,ad.off+i*z+j,none⟩=some c/\c.oneCell'=true/\aC σ s w y c):=by
  intro aw a n cap hd he;subst he;cases hd with
  |nil=>simp
  |sl _ ad _ sz f h1 h2 h3 h4 h5 =>
   refine⟨aj,aj,by simpa using h1,λdP=>⟨ad,rfl,h2 (by intro h';subst h';simp at dP),λi j y hy=>?_⟩⟩;obtain⟨y',rfl,XN⟩:=R0 hy;have fY:sz=z:=by
    cases EG:aw[i]? with
    |none=>rw[EG]at XN;cases XN
    |some e =>
     have:=h3 e (ai4 EG);have Xh:=hz (e.map .d) (List.mem_map.2 ⟨e,ai4 EG,rfl⟩);simp at Xh;omega
   subst fY;exact⟨f i j,(h4 i j y' XN).1,(h5 i j y' XN).one,.d (h5 i j y' XN)⟩
 unfold jj at h;split at h
 ·simp only[ai5]at h;cases hr with|d hr=>?_
  have hu:∃a n cap,u=.slice a n cap:=by cases hr <;> exact⟨_,_,_,rfl⟩
  obtain⟨a,n,cap,rfl⟩:=hu;obtain⟨rfl,e2,e3,e4⟩:=GW _ a n cap hr h.symm;exact key a cap e2 e3 e4
 ·simp only[ai5]at h;cases hr with|fu hr=>?_
  obtain⟨e1,e2,e3,e4⟩:=GW _ _ _ _ hr h.symm;rw[e1];exact key _ _ e2 ae e4
 ·rename_i id g lo n;split at h
  case h_2=>cases h
  rename_i o ho;split at h
  case isFalse=>cases h
  rename_i hc;simp only[ai5]at h;subst h;have hlen:((o.aw.drop lo).take n).length=n:=cG;cases hr with|so o' jV hg hu hk=>?_
  rw[ho]at jV;cases jV;rcases hk hc.1 with ⟨_,⟨a,rfl⟩,rfl,rfl⟩|⟨b,base,cap,E,arr,g1,g2,rfl,g4,g5⟩
  ·have:=key a 0 aj aj aj;simp only[akc]at this ⊢;exact this
  ·have:=key (some ⟨b,base+lo*o.sz,none⟩) cap aj ae (λdP=>⟨_,rfl,rfl,λi j y hy=>?_⟩)
   ·rw[hlen]at this ⊢;exact this
   ·have hi:i<n/\(o.aw[lo+i]?.bind (·[j]?))=some y:=by
     rw[ajA]at hy;split at hy
     ·rw[ajU]at hy;exact⟨by assumption,hy⟩
     ·cases hy
    rcases hI.content _ o ho with h1|⟨b',bQ,cE,E',h1,h2,h3,h4,h5⟩
    ·exact(h1.Cz g1 ⟨arr,E,g2⟩).elim
    ·rw[g1]at h1;cases h1;rw[g2]at h2;cases h2;have fY:o.sz=z:=by
      cases EG:o.aw[lo+i]? with
      |none=>rw[EG]at hi;cases hi.2
      |some e =>
       have e1:=h3 e (ai4 EG);have e2:=hz e (ai4 (i:=i) (by rw[ajA,be hi.1,ajU];exact EG));omega
     subst fY;obtain⟨c,k1,k2,k3⟩:=h5 (lo+i) j y hi.2;refine⟨c,?_,k2,k3⟩;simp only[World.cell?,g2];rw[ajR]at k1;simpa [ajI]using k1
 ·cases h
def dj (P:Program) (t:TypeId) (a x:V) (s:List Obj) (K:V->List Obj->Prop):Prop :=
 match jk P t with
 |none=>False
 |some (_,i)=>match jj s x with
  |none=>False
  |some ns=>((∀e∈ns,e.length=i.sz)/\0<i.sz/\0<i.Cx)/\match a with
   |.fu aw=>match aw,x with
    |_::_,.d (.sl ds)=>((aw.length+ds.length)*i.Cx<=140737488355328/\∀e∈aw,e.length=i.sz)/\K (.d (.sl (aw++ds))) s
    |_,_=>((aw=[]\/0<ns.length)/\(aw.length+ns.length)*i.Cx<=140737488355328/\∀e∈aw,e.length=i.sz) /\
      K (.so s.length 0 0 (aw.length+ns.length)) (s++[⟨0,true,i.sz,aw.map (·.map .d)++ns⟩])
   |.so id g lo n=>wo s id g λo=>(o.live=true/\o.sz=i.sz/\lo+n<=o.aw.length/\(n+ns.length)*i.Cx<=140737488355328) /\
     K (.so id (g+1) 0 (n+ns.length)) (s.set id ⟨g+1,true,i.sz,(o.aw.drop lo).take n++ns⟩)
   |_=>False
theorem u7{ns:List (List V)}{mH news:List Value} (ho:mH.length=es.length*z)
  (h1:∀(i j:Nat) (y:V),(es[i]?.bind (·[j]?))=some y->∃c,mH[i*z+j]?=some c/\c.oneCell'=true/\aC σ s w y c)
  (h2:∀(i j:Nat) (y:V),(ns[i]?.bind (·[j]?))=some y->∃c,news[i*z+j]?=some c/\c.oneCell'=true/\aC σ s w y c) :
  ∀(i j:Nat) (y:V),((es++ns)[i]?.bind (·[j]?))=some y->∃c,(mH++news)[i*z+j]?=some c/\c.oneCell'=true/\aC σ s w y c:=by
 intro i j y hy;by_cases hi:i<es.length
 ·rw[ajj hi]at hy;obtain⟨c,k1,k2,k3⟩:=h1 i j y hy;refine⟨c,?_,k2,k3⟩;rw[ajj (by
   have:=(List.getElem?_eq_some_iff.1 k1).1;exact this)]
  exact k1
 ·rw[ajh ae]at hy;obtain⟨c,k1,k2,k3⟩:=h2 _ j y hy;refine⟨c,?_,k2,k3⟩;have hmul:i*z=es.length*z+(i-es.length)*z:=by rw[<- ajR];congr 1;omega
  rw[ajh (by rw[ho,hmul];omega),<- k1];congr 1;rw[ho,hmul];omega
theorem Ho {l:List Value}{arr:Array Value}{p:Nat}{c:Value} (h:l[p]?=some c):(l.toArray++arr)[p]?=some c:=by have aB:=(List.getElem?_eq_some_iff.1 h).1;rw[aj8 (by simpa using aB)];simpa using h
theorem nV{ti:TypeInfo} (hu:P.underlying t=some (.slice e)) (hi:P.info? e=some ti) (hs:Src P ti.size t ux 0 [] w)
  (base:Option Addr) (n cap:Nat) (h:n<=cap):(Builtin.append_ #[t,t] ty #[.slice base n cap,ux]).run P w=.ok (.slice base n cap) w:=by
 cases base <;> simp [Builtin.append_,run_underlying hu,sizeOf,typeInfo,hi,hs.len,h,hs.cells,storeCells]
theorem I4{a:V}{K:V->List Obj->Prop} (hI:Inv σ s w) (ha:aC σ s w a ua) (hx:aC σ s w x ux)
  (h:dj P t a x s K):∃v r σ' s' w',(Builtin.append_ #[t,t] ty #[ua,ux]).run P w=.ok r w'/\aG σ s w σ' s' w'/\Inv σ' s' w'/\aC σ' s' w' v r/\K v s':=by
 unfold dj at h;split at h
 ·exact h.elim
 rename_i e i hti;obtain⟨hu,hi⟩:=lE hti;split at h
 ·exact h.elim
 rename_i ns yH;obtain⟨⟨hz,lQ,hbp⟩,h⟩:=h;obtain⟨ti,d,z,k1,k2,k3,k4,k5,k6,k7,k8,k9⟩:=iN hi;obtain⟨ax,xK,rfl,Fc,Yp,news,n1,n2,n3,n4⟩:=ks hI hx yH hz;have Nd:z.cells.size=i.sz:=by rw[<- akt,k6,k7]
 have xi:Src P ti.size t (.slice ax ns.length xK) ns.length news w:=by
  rw[k4];cases ax with
  |none =>
   have:ns=[]:=Fc rfl;subst this;have hn:news=[]:=ajB (by simpa using n1);subst hn;exact Src.ofNil w hu xK
  |some ad=>exact Src.ofSlice w hu ad ns.length xK news n1 (n3 ad rfl) n2
 have grow:∀(es:List (List V)) (base:Option Addr) (cap:Nat) (mH:List Value),mH.length=es.length*i.sz->(base=none->es=[])->(∀e∈es,e.length=i.sz) ->
   (∀ad,base=some ad->∀(j:Nat) (c:Value),mH[j]?=some c->w.cell? (ad.add j)=some c) ->
   (∀(i' j:Nat) (y:V),(es[i']?.bind (·[j]?))=some y->∃c,mH[i'*i.sz+j]?=some c/\c.oneCell'=true/\aC σ s w y c) ->
   cap<es.length+ns.length->(es.length+ns.length)*i.Cx<=140737488355328 ->
   ∃(arr:Array Value) (pD:Nat),(Builtin.append_ #[t,t] ty #[.slice base es.length cap,.slice ax ns.length xK]).run P w=.ok (.slice (some ⟨w.heap.size,0,none⟩) (es.length+ns.length) pD) (w.drew.alloc (.cells arr e)) /\
    es.length+ns.length<=pD/\arr.size=pD*i.sz /\
    ∀(i' j:Nat) (y:V),((es++ns)[i']?.bind (·[j]?))=some y->∃c,arr[i'*i.sz+j]?=some c/\c.oneCell'=true/\aC σ s w y c:=by
  intro es base cap mH o1 o2 o3 o4 o5 tJ adR;have hold:(Builtin.firstCells ti.size es.length (.slice base es.length cap)).run P w.drew=.ok mH.toArray w.drew:=by
   rw[k4];cases base with
   |none =>
    have:es=[]:=o2 rfl;subst this;have hn:mH=[]:=ajB (by simpa using o1);subst hn;exact run_firstCells_none w.drew i.sz 0 0 cap
   |some ad=>exact run_firstCells_some w.drew i.sz es.length ad es.length cap mH o1 (by simpa using o4 ad rfl)
  have hle:es.length+ns.length<=(es.length+ns.length)*i.Cx:=Nat.le_mul_of_pos_right _ hbp;have eZ:=run_append_grow_src (P:=P) w t t ty e ti z hu k1 k3 base es.length cap mH hold (.slice ax ns.length xK) ns.length news xi tJ ae (growslice_fits tJ (by rw[k5];exact adR));have iA:=grownCap_ge w (es.length+ns.length) cap e;refine⟨_,_,eZ,iA,?_,?_⟩
  ·simp only[Array.size_append,List.size_toArray,size_zeroCells,ai6,o1,n1,Nd];rw[<- ajR,<- ajR];congr 1;omega
  ·intro i' j y hy;obtain⟨c,c1,c2,c3⟩:=u7 o1 o5 n4 i' j y hy;exact⟨c,Ho c1,c2,c3⟩
 have TS:∀(es:List (List V)),(∀e∈es,e.length=i.sz)->∀e∈es++ns,e.length=i.sz:=by
  intro es GQ e he;rcases List.mem_append.1 he with h'|h'
  ·exact GQ e h'
  ·exact hz e h'
 obtain⟨Uh,Xj⟩:=pP hI;split at h
 ·
  rename_i aw;have iG:jj s (.fu aw)=some (aw.map (·.map .d)):=rfl;have ZP:(∀e∈aw,e.length=i.sz)->∀e∈aw.map (·.map V.d),e.length=i.sz:=by intro hh e he;obtain⟨e',jn,rfl⟩:=List.mem_map.1 he;simpa using hh e' jn
  split at h
  ·
   rename_i d0 zS ds;obtain⟨⟨hb,hl⟩,h⟩:=h;have Q1:ns=ds.map (·.map .d):=by simpa [jj]using yH.symm
   obtain⟨base,cap,Fp,a1,a2,mH,o1,o2,o3,o4⟩:=ks hI ha iG (ZP hl);have M3:cap=(d0::zS).length:=by
    cases ha with|fu ha=>?_
    simp only[Value.slice.injEq]at Fp;omega
   subst Fp;have m7:((d0::zS).map (·.map V.d)).length=(d0::zS).length:=aj;by_cases hm:ns.length=0
   ·have hds:ds=[]:=by rw[Q1]at hm;simpa using hm
    subst hds;have ie:ns=[]:=by simpa using Q1
    subst ie;have Ci:news=[]:=ajB (by simpa using n1);subst Ci;cases base with
    |none=>simp at a1
    |some ad =>
     refine⟨_,.slice (some ad) ((d0::zS).map (·.map V.d)).length cap,σ,s,w,nV hu k1 xi _ _ _ (by simp [M3]),aG.refl _ _ _,hI,?_,h⟩
     ·rw[List.append_nil];exact .d (pE ha rfl)
   ·obtain⟨arr,pD,g1,g2,g3,g4⟩:=grow ((d0::zS).map (·.map .d)) base cap mH o1 a1 (ZP hl) o3 o4 (by rw[m7];omega) (by rw[m7,Q1];simpa using hb);obtain⟨hE,ko⟩:=GV Xj (.cells arr e);refine⟨_,_,σ,s,_,g1,Uh.trans hE,ko,?_,h⟩;have hlen:((d0::zS).map (·.map V.d)).length+ns.length=((d0::zS)++ds).length:=by rw[Q1];simp;omega
    rw[hlen];refine .d (cY.M7 (sz:=i.sz) (by rw[<- hlen];exact g2) (λx hx=>?_) (λho=>by have:=EA Xj ho;simp at this) (λa j y hy=>?_))
    ·rcases List.mem_append.1 hx with h'|h'
     ·exact hl x h'
     ·have:=hz (x.map .d) (by rw[Q1];exact List.mem_map.2 ⟨x,h',rfl⟩);simpa using this
    ·have XN:(((d0::zS).map (·.map V.d)++ns)[a]?.bind (·[j]?))=some (.d y):=by
      rw[Q1,<- akf,aiY];cases ZF:((d0::zS)++ds)[a]? with
      |none=>rw[ZF]at hy;cases hy
      |some ea =>
       rw[ZF]at hy;simp only[ai3,ajM,aiY];rw[show ea[j]?=some y from hy];rfl
     obtain⟨c,c1,c2,c3⟩:=g4 a j _ XN;refine⟨c,by
      show (w.drew.alloc (.cells arr e)).cell? ⟨w.drew.heap.size,0+a*i.sz+j,none⟩=some c;rw[World.cell?_alloc_new];simpa using c1,?_⟩
     have:=(c3.aZ Uh).aZ hE;cases this with|d h'=>exact h'
  ·
   obtain⟨⟨dP,hb,hl⟩,h⟩:=h;obtain⟨base,cap,Fp,a1,a2,mH,o1,o2,o3,o4⟩:=ks hI ha iG (ZP hl);have M3:cap=aw.length:=by
    cases ha with|fu ha=>?_
    simp only[Value.slice.injEq]at Fp;omega
   subst Fp;have m7:(aw.map (·.map V.d)).length=aw.length:=aj;by_cases hm:ns.length=0
   ·have ZG:aw=[]:=dP.resolve_right ae;subst ZG;have ie:ns=[]:=ajB hm;subst ie;have Ci:news=[]:=ajB (by simpa using n1);subst Ci;have:=pM (p:=none) (o':=⟨0,true,i.sz,[]⟩) (w':=w) hI rfl rfl rfl (ajc _) (λ_ _=>rfl) (λ_ _ h'=>by cases h') (λ_=>.inl (.inl ⟨rfl,rfl⟩));refine⟨_,.slice base 0 cap,_,_,w,nV hu k1 xi _ _ _ (Nat.zero_le _),this.1,this.2,?_,h⟩
    ·subst M3;exact .so ⟨0,true,i.sz,[]⟩ aj (ajc _) ⟨_,_,rfl⟩ (λ_=>.inl ⟨cc _ _ _,⟨base,rfl⟩,rfl,rfl⟩)
   ·obtain⟨arr,pD,g1,g2,g3,g4⟩:=grow (aw.map (·.map .d)) base cap mH o1 a1 (ZP hl) o3 o4 (by rw[m7];omega) (by rw[m7];exact hb);have:=sQ (aw:=aw.map (·.map .d)++ns) (sz:=i.sz) (arr:=arr) Xj e (TS _ (ZP hl)) (by rw[g3];exact ajD _ (by simpa using g2))
     (λi' j y hy=>let ⟨c,c1,c2,c3⟩:=g4 i' j y hy;⟨c,c1,c2,c3.aZ Uh⟩)
    refine⟨_,_,_,_,_,g1,Uh.trans this.1,this.2,?_,h⟩;rw[m7];refine .so ⟨0,true,i.sz,aw.map (·.map .d)++ns⟩ aj (ajc _) ⟨_,_,rfl⟩ (λ_=>.inr ⟨w.heap.size,0,pD,e,arr,cc _ _ _,heap_alloc_new w.drew _,aj,by rw[m7]at g2;exact g2,by simp [g3]⟩)
 ·
  rename_i id g lo n;obtain⟨o,ho,hg,⟨uT,KX,hlo,hb⟩,h⟩:=eQ h;have iG:jj s (.so id g lo n)=some ((o.aw.drop lo).take n):=by simp [jj,ho,hg,hlo]
  have m7:((o.aw.drop lo).take n).length=n:=cG;have VW:∀e∈(o.aw.drop lo).take n,e.length=i.sz:=by
   intro e he;have jn:e∈o.aw:=akk (ajT he);rcases hI.content _ o ho with h0|⟨b,base,arr,E,h1,h2,h3,h4,h5⟩
   ·cases ha with|so o' jV FO RI hk=>?_
    rw[ho]at jV;cases jV;rcases hk hg with ⟨nR,_⟩|⟨b,bs,cp,E,arr,ef,hh,_⟩
    ·rw[h0.Ji nR]at jn;cases jn
    ·exact(h0.Cz ef ⟨arr,E,hh⟩).elim
   ·rw[<- KX];exact h3 e jn
  obtain⟨base,cap,Fp,a1,a2,mH,o1,o2,o3,o4⟩:=ks hI ha iG VW;rw[m7]at Fp a2;cases ha with|so o' jV FO RI hk=>?_
  rw[ho]at jV;cases jV;have tz:=hk hg;by_cases tJ:cap<n+ns.length
  ·
   obtain⟨arr,pD,g1,g2,g3,g4⟩:=grow _ base cap mH o1 a1 VW o3 o4 (by rw[m7];exact tJ) (by rw[m7];exact hb);rw[m7]at g1 g2;subst Fp;have:=oO (p:=some (w.heap.size,0)) (o':=⟨g+1,true,i.sz,(o.aw.drop lo).take n++ns⟩) (w':=w.drew.alloc (.cells arr e)) hI ho uT rfl rfl rfl aj
    (λb RP _=>Go.RowKit.Below.heap_alloc w.drew _ b RP)
    (λb bQ cE E' he hh=>⟨cE,by rw[Go.RowKit.Below.heap_alloc w.drew _ b (by exact eg hh)];exact hh,rfl⟩)
    (λb bQ he hm=>let ⟨es,c,hh⟩:=hm;⟨es,c,by rw[Go.RowKit.Below.heap_alloc w.drew _ b (by exact eg hh)];exact hh⟩)
    oG (λh'=>by simp only at h';omega) (λb bQ he=>by cases he;exact .inr (ajc _))
    (λhE=>.inr ⟨w.heap.size,0,arr,e,rfl,heap_alloc_new w.drew _,TS _ VW,by simp only[ai6,m7,g3];rw[ai7];exact ajD _ g2,λi' j y hy=>by
     obtain⟨c,c1,c2,c3⟩:=g4 i' j y hy;exact⟨c,by simpa using c1,c2,c3.aZ hE⟩⟩)
   refine⟨_,_,_,_,_,g1,this.1,this.2,?_,h⟩;exact .so ⟨g+1,true,i.sz,(o.aw.drop lo).take n++ns⟩ (by simp [(List.getElem?_eq_some_iff.1 ho).1]) (ajc _) ⟨_,_,rfl⟩ (λ_=>.inr ⟨w.heap.size,0,pD,e,arr,cc _ _ _,heap_alloc_new w.drew _,aj,g2,by simp [g3]⟩)
  ·
   have Fm:n+ns.length<=cap:=ae;rcases tz with ⟨nR,⟨aa,yZ⟩,rfl,rfl⟩|⟨b,bs,cp,E,arr,ef,hh,yZ,Bj,hfit⟩
   ·
    rw[Fp]at yZ;simp only[Value.slice.injEq]at yZ;obtain⟨rfl,_,rfl⟩:=yZ;have ie:ns=[]:=ajB ae;subst ie;have Ci:news=[]:=ajB (by simpa using n1);subst Ci;subst Fp;have:=oO (p:=none) (o':=⟨g+1,true,i.sz,(o.aw.drop 0).take 0++[]⟩) (w':=w) hI ho uT rfl rfl rfl (ajc _) (λ_ _ _=>rfl)
     (λ_ _ cE _ _ hh=>⟨cE,hh,rfl⟩) (λ_ _ _ hm=>hm) oG (λh'=>by simp only at h';omega) (λ_ _ he=>by cases he) (λ_=>.inl (.inl ⟨rfl,aj⟩))
    refine⟨_,.slice base 0 0,_,_,w,nV hu k1 xi _ _ _ (ajc _),this.1,this.2,?_,h⟩
    ·exact .so ⟨g+1,true,i.sz,(o.aw.drop 0).take 0++[]⟩ (by simp [(List.getElem?_eq_some_iff.1 ho).1]) (ajc _) ⟨_,_,rfl⟩ (λ_=>.inl ⟨cc _ _ _,⟨base,rfl⟩,rfl,rfl⟩)
   ·rw[Fp]at yZ;simp only[Value.slice.injEq]at yZ;obtain⟨rfl,_,rfl⟩:=yZ;subst Fp;have hq:bs+lo*o.sz+n*i.sz+news.length<=arr.size:=by rw[n1,<- KX];have e1:(lo+cap)*o.sz=lo*o.sz+cap*o.sz:=ajR _ _ _;have e2:=ajD o.sz Fm;rw[ajR]at e2;omega
    have ck:=run_storeCells_at P b (bs+lo*o.sz+n*i.sz) E news 0 arr w hh ae n2;simp only[aj5]at ck;generalize qE:(arr.toList.take (bs+lo*o.sz+n*i.sz)++news++arr.toList.drop (bs+lo*o.sz+n*i.sz+news.length)).toArray=cE at ck;have kg:cE.size=arr.size:=by rw[<- qE];simp;omega
    have aB:∀p,p<bs+lo*o.sz+n*i.sz->cE[p]?=arr[p]?:=by intro p hp;rw[<- qE,List.getElem?_toArray,ajq,ajj cG,ajA,be hp,ajN]
    have iU:∀q,q<news.length->cE[bs+lo*o.sz+n*i.sz+q]?=news[q]?:=by intro q Fx;have hl:(arr.toList.take (bs+lo*o.sz+n*i.sz)).length=bs+lo*o.sz+n*i.sz:=cG;rw[<- qE,List.getElem?_toArray,ajq,ajh ae,hl,ajj ae];congr 1;omega
    have:=oO (p:=some (b,bs+lo*o.sz)) (o':=⟨g+1,true,i.sz,(o.aw.drop lo).take n++ns⟩) (w':=w.setRow b cE) hI ho uT rfl rfl rfl aj
     (λb1 _ dP=>setRow_other w b b1 cE (λe=>dP bs (by rw[ef,e])))
     (λb1 kW XT E1 he XD=>by
      rw[ef]at he;cases he;rw[hh]at XD;cases XD;exact⟨cE,setRow_heap w b arr cE E (0,0) hh,kg⟩)
     (λb1 kW he hm=>by
      rw[ef]at he;cases he;exact(HZ.notM ⟨arr,E,hh⟩ hm).elim)
     oG (λh'=>by simp only at h';omega) (λb1 kW he=>by cases he;exact .inl ⟨bs,ef⟩)
     (λhE=>.inr ⟨b,bs+lo*o.sz,cE,E,rfl,setRow_heap w b arr cE E (0,0) hh,TS _ VW,(by
      simp only[ai6,m7,ajR];rw[kg];omega),λi' j y hy=>by
      obtain⟨c,c1,c2,c3⟩:=u7 (z:=i.sz) o1 o4 n4 i' j y hy;refine⟨c,?_,c2,c3.aZ hE⟩;simp only;by_cases Zi:i'*i.sz+j<mH.length
      ·rw[ajj Zi]at c1;rw[aB _ (by rw[o1,m7]at Zi;omega)];have hc:=o3 ⟨b,bs+lo*o.sz,none⟩ rfl _ c c1;rw[ia rfl]at hc;simp only[World.cell?,hh]at hc;simpa [ajI]using hc
      ·rw[ajh ae]at c1;have aH:=(List.getElem?_eq_some_iff.1 c1).1;have:=iU _ aH;rw[c1]at this;rw[<- this];congr 1;rw[o1,m7]at *;omega⟩)
    refine⟨_,.slice (some ⟨b,bs+lo*o.sz,none⟩) (n+ns.length) cap,_,_,w.setRow b cE,?_,this.1,this.2,?_,h⟩
    ·have mW:=xi.cells;rw[k4]at mW;simp [Builtin.append_,run_underlying hu,sizeOf,typeInfo,k1,Builtin.lenOf,Fm,mW,k4,Addr.add_lit,ck]
    ·exact .so ⟨g+1,true,i.sz,(o.aw.drop lo).take n++ns⟩ (by simp [(List.getElem?_eq_some_iff.1 ho).1]) (ajc _) ⟨_,_,rfl⟩
      (λ_=>.inr ⟨b,bs+lo*o.sz,cap,E,cE,cc _ _ _,setRow_heap w b arr cE E (0,0) hh,aj,Fm,by rw[kg];simp only[ai7];rw[<- KX,ajR]at *;omega⟩)
 ·exact h.elim
theorem tk (w:World) (t tn ty e:TypeId) (i:TypeInfo) (z:Value) (k kn:IntKind) (ht:P.underlying t=some (.slice e)) (htn:P.underlying tn=some (.int kn)) (hi:P.info? e=some i) (hz:i.zero=some z)
  (base:Option Addr) (n:Nat) (h0:0<n) (hs:0<i.size) (Fy:(n:Int)<=9223372036854775807) (Zt:n*i.bytes<=281474976710656) :
  (Builtin.append_ #[t,tn] ty #[.slice base 0 0,.int k n]).run P w =
   .ok (.slice (some ⟨w.heap.size,0,none⟩) n (grownCap w n 0 e)) (w.drew.alloc (.cells (Builtin.zeroCells z.cells n++Builtin.zeroCells z.cells (grownCap w n 0 e-n)) e)):=by
 have hn:n≠0:=ae;have hw:IntKind.i64.wrap (n:Int)=n:=by rw[IntKind.wrap_i64];omega
 have adS:¬(9223372036854775807<(n:Int)):=ae;have aeA:¬(281474976710656<Builtin.nextslicecap n 0*i.bytes):=by rw[nextslicecap_zero h0];omega
 have aea:¬(281474976710656<(n:Int)*(i.bytes:Int)):=by rw[<- Int.natCast_mul];omega
 have e8:¬((n:Int)<0):=ae;have yH:¬(n*i.size=0):=Nat.mul_ne_zero hn ae;have hold:∀w:World,(Builtin.firstCells i.size 0 (.slice base 0 0)).run P w=.ok #[] w:=by
  intro w;cases base with
  |none=>exact run_firstCells_none w i.size 0 0 0
  |some ad=>exact run_firstCells_some w i.size 0 ad 0 0 [] aj aj
 simp [Builtin.append_,run_underlying ht,run_underlying htn,sizeOf,typeInfo,zeroValue,hi,hz,asInt,asIntOf,hw,hn,e8,yH,adS,aeA,aea,Question.forced,hold,newRow,grownCap]
def lJ (P:Program) (t t':TypeId) (a x:V) (s:List Obj) (K:V->List Obj->Prop):Prop :=
 match jk P t with
 |none=>False
 |some (_,i)=>match P.underlying t' with
  |some (.int _)=>match a,x with
   |.fu aw,.d (.sc (.int _ n))=>(aw=[]/\0<n/\(i.Cx:Int)*n<=140737488355328/\n<=140737488355328/\0<i.sz) /\
     K (.so s.length 0 0 n.toNat) (s++[⟨0,true,i.sz,List.replicate n.toNat (i.zero.map cv)⟩])
   |_,_=>False
  |_=>False
theorem FN{t':TypeId}{a:V}{K:V->List Obj->Prop} (hI:Inv σ s w) (ha:aC σ s w a ua) (hx:aC σ s w x ux)
  (h:lJ P t t' a x s K):∃v r σ' s' w',(Builtin.append_ #[t,t'] ty #[ua,ux]).run P w=.ok r w'/\aG σ s w σ' s' w'/\Inv σ' s' w'/\aC σ' s' w' v r/\K v s':=by
 unfold lJ at h;split at h
 ·exact h.elim
 rename_i e i hti;obtain⟨hu,hi⟩:=lE hti;split at h
 case h_2=>exact h.elim
 rename_i kn hun;split at h
 case h_2=>exact h.elim
 rename_i aw k n;obtain⟨⟨rfl,h1,h2,h3,h4⟩,h⟩:=h;cases hx with|d hx=>?_
 cases hx with|sc _ _=>?_
 cases ha with|fu ha=>?_
 rename_i base;obtain⟨ti,d,z,k1,k2,k3,k4,k5,k6,k7,k8,k9⟩:=iN hi;have Nd:z.cells.size=i.sz:=by rw[<- akt,k6,k7]
 obtain⟨N,rfl⟩:=Int.eq_ofNat_of_zero_le (show 0<=n by omega);have Zt:N*ti.bytes<=281474976710656:=by
  rw[k5,Nat.mul_comm];have:((i.Cx*N:Nat):Int)<=140737488355328:=by rw[Int.natCast_mul];exact h2
  omega
 have eZ:=tk (P:=P) w t t' ty e ti z k kn hu hun k1 k3 base N ae (by rw[k4];exact h4) ae Zt;have iA:=grownCap_ge w N 0 e;generalize grownCap w N 0 e=cap at eZ iA;obtain⟨Uh,Xj⟩:=pP hI;have fY:(Builtin.zeroCells z.cells N++Builtin.zeroCells z.cells (cap-N)).size=cap*i.sz:=by simp only[Array.size_append,size_zeroCells,Nd];rw[<- ajR];congr 1;omega
 obtain⟨r1,r2,r3⟩:=Da hi σ s w N z k6;have hzc:Builtin.zeroCells z.cells N=(Array.range (N*i.sz)).map (z.cells[· % z.cells.size]!):=by unfold Builtin.zeroCells;rw[Nd]
 have ir:∀(a j:Nat) (x:V),((List.replicate N (i.zero.map cv))[a]?.bind (·[j]?))=some x->∃c,(Builtin.zeroCells z.cells N++Builtin.zeroCells z.cells (cap-N))[a*i.sz+j]?=some c/\c.oneCell'=true/\aC σ s w x c:=by intro a j x hx;obtain⟨c,c1,c2,c3⟩:=r3 a j x hx;refine⟨c,?_,c2,c3⟩;rw[<- hzc]at c1;have aB:=(Array.getElem?_eq_some_iff.1 c1).1;rw[aj8 aB];exact c1
 generalize Builtin.zeroCells z.cells N++Builtin.zeroCells z.cells (cap-N)=arr at *;have:=sQ (aw:=List.replicate N (i.zero.map cv)) (sz:=i.sz) (arr:=arr) Xj e (λx hx=>by rw[List.eq_of_mem_replicate hx];simp [k7])
  (by rw[fY,aj6];exact ajD _ iA) (λa j x hx=>let ⟨c,c1,c2,c3⟩:=ir a j x hx;⟨c,c1,c2,c3.aZ Uh⟩)
 refine⟨_,_,_,_,_,eZ,Uh.trans this.1,this.2,?_,h⟩;exact .so ⟨0,true,i.sz,List.replicate N (i.zero.map cv)⟩ aj (ajc _) ⟨_,_,rfl⟩ (λ_=>.inr ⟨w.heap.size,0,cap,e,arr,cc _ _ _,heap_alloc_new w.drew _,aj,iA,by simp [fY]⟩)
def CA (x:Option V) (U4:Int):Option Int :=
 match x with
 |none=>some U4
 |some v=>LY v
def uD (cs:List D) (z l n:Nat):List (List D):=(List.range n).map λi=>(cs.drop ((l+i)*z)).take z
def mS (P:Program) (t:TypeId) (x:V) (lo hi mx:Option V) (K:V->Prop):Prop :=
 match WY P t with
 |none=>False
 |some (len,z)=>match x,CA lo 0,CA hi len,mx with
  |.d (.el cs),some l,some h,none=>((0<=l/\l<=h/\h<=len)/\cs.length=len*z)/\K (.d (.sl (uD cs z l.toNat (h-l).toNat)))
  |_,_,_,_=>False
def ma (P:Program) (t:TypeId) (x:V) (lo hi mx:Option V) (s:List Obj) (K:V->Prop):Prop :=
 match Fw P t with
 |none=>mS P t x lo hi mx K
 |some z=>match jj s x with
  |none=>False
  |some es=>match CA lo 0,CA hi es.length with
   |some l,some h=>(0<=l/\l<=h/\h<=es.length)/\match x,mx with
    |.d (.sl aw),none=>(l=0\/∀e∈aw,e.length=z)/\K (.d (.sl ((aw.drop l.toNat).take (h-l).toNat)))
    |.fu aw,none=>(l=0\/∀e∈aw,e.length=z)/\K (bif aw.isEmpty then .fu [] else .d (.sl ((aw.drop l.toNat).take (h-l).toNat)))
    |.d (.sl aw),some m=>hi.isSome=true/\LY m=some h/\(l=0\/∀e∈aw,e.length=z)/\K (.fu ((aw.drop l.toNat).take (h-l).toNat))
    |.so id g XU _,none=>wo s id g λo=>o.sz=z/\if l=0\/l<h then K (.so id g (XU+l.toNat) (h-l).toNat) else K (.d (.sl []))
    |_,_=>False
   |_,_=>False
theorem cY.sub{h m:Nat} (hr:cY O w (.sl aw) (.slice a n cap)) (hl:l<=h) (hh:h<=aw.length) (hm:h<=m) (mD:m<=cap)
  (hz:l=0\/∀e∈aw,e.length=z):cY O w (.sl ((aw.drop l).take (h-l))) (.slice (if m=l then a else a.map (·.add (l*z))) (h-l) (m-l)):=by
 have hlen:((aw.drop l).take (h-l)).length=h-l:=cG;cases hr with
 |nil =>
  simp only[ai9]at hh;obtain rfl:h=0:=ae;obtain rfl:l=0:=ae;obtain rfl:m=0:=ae;exact .nil
 |sl _ ad _ sz f h1 h2 h3 h4 h5 =>
  by_cases hml:m=l
  ·rw[be hml];have e0:(aw.drop l).take (h-l)=[]:=ajB (by rw[hlen];omega);have:=cY.sl (O:=O) (w:=w) [] ad (m-l) sz f aj aj aj aj aj;rw[e0,show h-l=0 by omega];exact this
  ·rw[ap hml];simp only[ai3];have ir:∀(i:Nat) (e:List D),((aw.drop l).take (h-l))[i]?=some e->aw[l+i]?=some e:=by
    intro i e he;rw[ajA]at he;split at he
    ·rw[ajU]at he;exact he
    ·cases he
   have acW:∀e∈(aw.drop l).take (h-l),e.length=sz:=λe he=>h3 e (akk (ajT he));have hmul:∀(i j:Nat) (x:D),(((aw.drop l).take (h-l))[i]?.bind (·[j]?))=some x->(aw[l+i]?.bind (·[j]?))=some x/\ad.add (l*z)=⟨ad.block,ad.off+l*sz,none⟩:=by
    intro i j x hx;cases he:((aw.drop l).take (h-l))[i]? with
    |none=>rw[he]at hx;cases hx
    |some e =>
     rw[he]at hx;have jn:=ir i e he;refine⟨by rw[jn];exact hx,?_⟩;have dP:aw≠[]:=by intro h';subst h';simp at jn
     rw[ia (h2 dP)];rcases hz with rfl|hz
     ·simp
     ·have:=hz e (ai4 jn);have:=h3 e (ai4 jn);rw[show z=sz by omega]
   have:=cY.sl (O:=O) (w:=w) ((aw.drop l).take (h-l)) (ad.add (l*z)) (m-l) sz (λi j=>f (l+i) j) (by rw[hlen];omega)
    (λdP=>by
     have ael:aw≠[]:=by intro h';subst h';simp at dP
     rw[ia (h2 ael)]) acW
    (λi j x hx=>by
     obtain⟨g1,g2⟩:=hmul i j x hx;have:=h4 (l+i) j x g1;rw[g2];simpa [ajR,ajI]using this)
    (λi j x hx=>h5 (l+i) j x (hmul i j x hx).1)
   rw[hlen]at this;exact this
theorem y3{x:Option V}{u:Option Value}{U4 n:Int} (hr:∀v,x=some v->∃c,u=some c/\aC σ s w v c) (hn:x=none->u=none) (h:CA x U4=some n) :
  (u=none/\n=U4)\/∃k,u=some (.int k n):=by
 cases x with
 |none=>simp only[CA,ai5]at h;exact .inl ⟨hn rfl,h.symm⟩
 |some v =>
  obtain⟨c,rfl,hc⟩:=hr v rfl;obtain⟨k,rfl⟩:=G4 hc h;exact .inr ⟨k,rfl⟩
theorem Bb{ti:TypeInfo} (hu:P.underlying t=some (.slice e)) (hi:P.info? e=some ti){lo hi' mx:Option Value}{h m:Nat}
  (hlo:(lo=none/\l=0)\/∃k,lo=some (.int k l)) (hhi:(hi'=none/\h=n)\/∃k,hi'=some (.int k h)) (SN:(mx=none/\m=cap)\/(hi'≠none/\∃k,mx=some (.int k m)))
  (hlh:l<=h) (hhm:h<=m) (hmc:m<=cap) (w:World) :
  (Instr.sliceAt t (.slice a n cap) lo hi' mx).run P w=.ok (.slice (if m=l then a else a.map (·.add (l*ti.size))) (h-l) (m-l)) w:=by
 have b:∀(k:IntKind) (i y:Nat) (c:BoundsCode),i<=y->(Instr.sliceBound (.int k i) y c).run P w=.ok i w:=by intro k i y c hh;simp [Instr.sliceBound,asIntOf,hh]
 rcases hlo with ⟨rfl,rfl⟩|⟨kl,rfl⟩ <;> rcases hhi with ⟨rfl,rfl⟩|⟨kh,rfl⟩ <;> rcases SN with ⟨rfl,rfl⟩|⟨dP,km,rfl⟩ <;>
  first
   |(exact absurd rfl dP)
   |simp [Instr.sliceAt,Instr.slice,run_underlying hu,Instr.sliceBounds,b,hlh,hhm,hmc,sizeOf,typeInfo,hi]
theorem cY.chunk{cs:List D}{a:Addr}{len:Nat} (hr:cY O w (.el cs) (.pointer (some a))) (hlen:cs.length=len*z) (hn:l+n<=len) :
  cY O w (.sl (uD cs z l n)) (.slice (some (if len=l then a else a.add (l*z))) n (len-l)):=by
 cases hr with
 |el _ _ f h1 h2 h3 =>
  have hl:(uD cs z l n).length=n:=by simp [uD]
  by_cases ie:n=0
  ·subst ie;exact cY.sl [] _ (len-l) 0 (λ_ _=>undef) aj aj aj aj aj
  ·rw[bd,ia h1];have ir:∀(i j:Nat) (x:D),((uD cs z l n)[i]?.bind (·[j]?))=some x->cs[(l+i)*z+j]?=some x:=by
    intro i j x hx;unfold uD at hx;rw[aiY]at hx;cases hi:(List.range n)[i]? with
    |none=>rw[hi]at hx;cases hx
    |some k =>
     have hk:k=i:=by have:=List.getElem?_eq_some_iff.1 hi;obtain⟨h1,h2⟩:=this;simpa using h2.symm
     subst hk;rw[hi]at hx;simp only[ai3,ajM]at hx;rw[ajA]at hx;split at hx
     ·rwa [ajU]at hx
     ·cases hx
   have:=cY.sl (O:=O) (w:=w) (uD cs z l n) ⟨a.block,a.off+l*z,none⟩ (len-l) z (λi j=>f ((l+i)*z+j)) ae (λ_=>rfl)
    (λe he=>by
     unfold uD at he;obtain⟨i,hi,rfl⟩:=List.mem_map.1 he;have hi:=List.mem_range.1 hi;have:=ajD z (show l+i+1<=len by omega);rw[ajR,Nat.one_mul]at this;rw[aj3,List.length_drop];omega)
    (λi j x hx=>by
     have:=h2 _ x (ir i j x hx);have e:a.off+((l+i)*z+j)=a.off+l*z+i*z+j:=by rw[ajR];omega
     rw[e]at this;exact this)
    (λi j x hx=>h3 _ x (ir i j x hx))
   rw[hl]at this;exact this
theorem Gj (hx:aC σ s w x ux)
  (hl:∀v,lo=some v->∃c,ul=some c/\aC σ s w v c) (MW:lo=none->ul=none) (hh:∀v,hi=some v->∃c,uh=some c/\aC σ s w v c) (hhn:hi=none->uh=none)
  (hmn:mx=none->um=none) (h:mS P t x lo hi mx K) :
  ∃v c,(Instr.sliceAt t ux ul uh um).run P w=.ok c w/\aC σ s w v c/\K v:=by
 unfold mS at h;split at h
 ·exact h.elim
 rename_i len z hz;obtain⟨e,ti,e1,e2,e3⟩:=EY hz;split at h
 case h_2=>exact h.elim
 rename_i cs l h' tL hh0;obtain⟨⟨⟨b1,b2,b3⟩,hlen⟩,hK⟩:=h;obtain⟨L,rfl⟩:=Int.eq_ofNat_of_zero_le b1;obtain⟨H,rfl⟩:=Int.eq_ofNat_of_zero_le (show 0<=h' by omega);have tN:=y3 hl MW tL;have UA:=y3 hh hhn hh0;have JH:=hmn rfl;subst JH;cases hx with|d hx=>?_
 have hxx:=hx;cases hx with|el _ a f h1 h2 h3=>?_
 have hr:=cY.chunk (l:=L) (n:=H-L) hxx hlen ae;rw[<- e3]at hr;refine⟨_,_,?_,.d hr,by rw[show ((H:Int)-L).toNat=H-L by omega,ai1,<- e3]at hK;exact hK⟩;have b:∀(k:IntKind) (i y:Nat) (c:BoundsCode),i<=y->(Instr.sliceBound (.int k i) y c).run P w=.ok i w:=by intro k i y c hh;simp [Instr.sliceBound,asIntOf,hh]
 have hL:L<=H:=ae;have hH:H<=len:=ae;rcases tN with ⟨rfl,tN⟩|⟨kl,rfl⟩ <;> rcases UA with ⟨rfl,UA⟩|⟨kh,rfl⟩
 ·obtain rfl:L=0:=by omega
  obtain rfl:H=len:=ae;simp [Instr.sliceAt,run_underlying e1,Instr.sureAddr,Instr.sliceBounds,sizeOf,typeInfo,e2]
 ·obtain rfl:L=0:=by omega
  simp [Instr.sliceAt,run_underlying e1,Instr.sureAddr,Instr.sliceBounds,b,hH,sizeOf,typeInfo,e2]
 ·obtain rfl:H=len:=by omega
  simp [Instr.sliceAt,run_underlying e1,Instr.sureAddr,Instr.sliceBounds,b,hL,sizeOf,typeInfo,e2]
 ·simp [Instr.sliceAt,run_underlying e1,Instr.sureAddr,Instr.sliceBounds,b,hL,hH,sizeOf,typeInfo,e2]
theorem LA (hx:aC σ s w x ux)
  (hl:∀v,lo=some v->∃c,ul=some c/\aC σ s w v c) (MW:lo=none->ul=none) (hh:∀v,hi=some v->∃c,uh=some c/\aC σ s w v c) (hhn:hi=none->uh=none)
  (hm:∀v,mx=some v->∃c,um=some c/\aC σ s w v c) (hmn:mx=none->um=none) (h:ma P t x lo hi mx s K) :
  ∃v c,(Instr.sliceAt t ux ul uh um).run P w=.ok c w/\aC σ s w v c/\K v:=by
 unfold ma at h;split at h
 ·exact Gj hx hl MW hh hhn hmn h
 rename_i z hz;obtain⟨e,ti,e1,e2,e3⟩:=LI hz;split at h
 ·exact h.elim
 rename_i es GQ;split at h
 case h_2=>exact h.elim
 rename_i l h' tL hh0;obtain⟨⟨b1,b2,b3⟩,h⟩:=h;obtain⟨L,rfl⟩:=Int.eq_ofNat_of_zero_le b1;obtain⟨H,rfl⟩:=Int.eq_ofNat_of_zero_le (show 0<=h' by omega);have tN:=y3 hl MW tL;have UA:=y3 hh hhn hh0;have y9:(ul=none/\L=0)\/∃k,ul=some (.int k (L:Int)):=tN.imp (λh=>⟨h.1,ae⟩) id;have e4:((H:Int)-L).toNat=H-L:=ae;simp only[ai1,e4]at h;have data:∀(aw:List (List D)),cY (Own σ s) w (.sl aw) ux->es.length=aw.length->(L=0\/∀e∈aw,e.length=z)->∀(M:Nat),H<=M->(∀a n cap,ux=.slice a n cap->M<=cap/\((um=none/\M=cap)\/(uh≠none/\∃k,um=some (.int k (M:Int))))) ->
   ∃c a cap,ux=.slice a aw.length cap/\(Instr.sliceAt t ux ul uh um).run P w=.ok c w/\cY (Own σ s) w (.sl ((aw.drop L).take (H-L))) c/\c=.slice (if M=L then a else a.map (·.add (L*z))) (H-L) (M-L):=by
  intro aw hd hlen hzz M hM Dx;have hu:∃a n cap,ux=.slice a n cap:=by cases hd <;> exact⟨_,_,_,rfl⟩
  obtain⟨a,n,cap,rfl⟩:=hu;have hn:n=aw.length/\aw.length<=cap:=by cases hd <;> simp_all
  obtain⟨rfl,tJ⟩:=hn;obtain⟨c1,c2⟩:=Dx a _ cap rfl;have eZ:=Bb (P:=P) e1 e2 (a:=a) (n:=aw.length) (cap:=cap) (lo:=ul) (hi':=uh) (mx:=um) (l:=L) (h:=H) (m:=M) y9 (UA.imp (λh=>⟨h.1,ae⟩) id) c2 ae hM c1 w;rw[e3]at eZ;exact⟨_,a,cap,rfl,eZ,cY.sub hd ae ae hM c1 hzz,rfl⟩
 split at h
 ·
  rename_i aw;have hd:cY (Own σ s) w (.sl aw) ux:=pE hx rfl;have hlen:es.length=aw.length:=by simp only[jj,ai5]at GQ;rw[<- GQ];simp
  have hu:∃a n cap,ux=.slice a n cap:=by cases hd <;> exact⟨_,_,_,rfl⟩
  obtain⟨a,n,cap,rfl⟩:=hu;have hn:n=aw.length/\aw.length<=cap:=by cases hd <;> simp_all
  obtain⟨c,_,_,_,r1,r2,_⟩:=data aw hd hlen (h.1.imp ae id) cap ae (λa' n' pD he=>by cases he;exact⟨ajc _,.inl ⟨hmn rfl,rfl⟩⟩);exact⟨_,c,r1,.d r2,h.2⟩
 ·rename_i aw;have hd:cY (Own σ s) w (.sl aw) ux:=pE hx rfl;have hlen:es.length=aw.length:=by simp only[jj,ai5]at GQ;rw[<- GQ];simp
  have hu:∃a n cap,ux=.slice a n cap:=by cases hd <;> exact⟨_,_,_,rfl⟩
  obtain⟨a,n,cap,rfl⟩:=hu;have hn:n=aw.length/\aw.length<=cap:=by cases hd <;> simp_all
  have iy:cap=aw.length:=by
   cases hx with|fu _=>rfl
  obtain⟨c,a',pD,hq,r1,r2,r3⟩:=data aw hd hlen (h.1.imp ae id) cap ae (λa' n' pD he=>by cases he;exact⟨ajc _,.inl ⟨hmn rfl,rfl⟩⟩);cases aw with
  |nil =>
   have hL:L=0:=by simp only[ai9]at hlen;omega
   have hH:H=0:=by simp only[ai9]at hlen;omega
   subst hL;subst hH;subst iy;refine⟨_,c,r1,?_,h.2⟩;rw[r3]at r2 ⊢;exact .fu (aw:=[]) r2
  |cons x xs=>exact⟨_,c,r1,.d r2,h.2⟩
 ·rename_i aw m;obtain⟨h1,h2,h3,h⟩:=h;have hd:cY (Own σ s) w (.sl aw) ux:=pE hx rfl;have hlen:es.length=aw.length:=by simp only[jj,ai5]at GQ;rw[<- GQ];simp
  obtain⟨cm,XE,Yq⟩:=hm m rfl;obtain⟨km,rfl⟩:=G4 Yq h2;have ac3:uh≠none:=by
   cases hi with
   |none=>simp at h1
   |some v=>obtain⟨c,rfl,_⟩:=hh v rfl;simp
  have hu:∃a n cap,ux=.slice a n cap:=by cases hd <;> exact⟨_,_,_,rfl⟩
  obtain⟨a,n,cap,rfl⟩:=hu;have hn:n=aw.length/\aw.length<=cap:=by cases hd <;> simp_all
  obtain⟨c,a',pD,_,r1,r2,r3⟩:=data aw hd hlen (h3.imp ae id) H (ajc _) (λa' n' pD he=>by cases he;exact⟨ae,.inr ⟨ac3,km,XE⟩⟩);refine⟨_,c,r1,?_,h⟩;have Cm:((aw.drop L).take (H-L)).length=H-L:=cG;rw[r3]at r2 ⊢;have:aC σ s w (.fu ((aw.drop L).take (H-L))) (.slice (if H=L then a' else a'.map (·.add (L*z))) ((aw.drop L).take (H-L)).length ((aw.drop L).take (H-L)).length):=.fu (by rw[Cm];exact r2);rw[Cm]at this;exact this
 ·rename_i oid g XU n;obtain⟨o,ho,hg,Xn,hK⟩:=eQ h;clear h;cases hx with|so o' jV FO RI hk=>?_
  rw[ho]at jV;cases jV;have hn:es.length=n:=by
   simp only[jj,ho,hg]at GQ;split at GQ
   ·simp only[ai5]at GQ;rw[<- GQ];simp;omega
   ·cases GQ
  rcases hk hg with ⟨nR,⟨aa,rfl⟩,rfl,rfl⟩|⟨b,bs,cp,E,arr,ef,hhp,rfl,Bj,hfit⟩
  ·obtain rfl:L=0:=by omega
   obtain rfl:H=0:=ae;have eZ:=Bb (P:=P) e1 e2 (a:=aa) (n:=0) (cap:=0) (lo:=ul) (hi':=uh) (mx:=um) (l:=0) (h:=0) (m:=0) y9 (UA.imp (λh=>⟨h.1,rfl⟩) id) (.inl ⟨hmn rfl,rfl⟩) ae ae ae w;rw[be (.inl rfl)]at hK;refine⟨_,_,eZ,?_,hK⟩;exact .so o ho FO ⟨_,_,rfl⟩ (λ_=>.inl ⟨nR,⟨aa,aj⟩,rfl,rfl⟩)
  ·have eZ:=Bb (P:=P) e1 e2 (a:=some ⟨b,bs+XU*o.sz,none⟩) (n:=n) (cap:=cp) (lo:=ul) (hi':=uh) (mx:=um) (l:=L) (h:=H) (m:=cp) y9 (UA.imp (λh=>⟨h.1,ae⟩) id) (.inl ⟨hmn rfl,rfl⟩) ae ae ae w;by_cases aB:(L:Int)=0\/(L:Int)<(H:Int)
   case neg =>
    rw[ap aB]at hK;obtain rfl:H=L:=ae;refine⟨_,_,eZ,.d ?_,hK⟩;have D7:∃a',(if cp=H then some (⟨b,bs+XU*o.sz,none⟩:Addr) else (some (⟨b,bs+XU*o.sz,none⟩:Addr)).map (·.add (H*ti.size)))=some a':=by split <;> exact⟨_,rfl⟩
    obtain⟨a',Q5⟩:=D7;rw[Q5,akp];exact cY.sl [] a' _ 0 (λ_ _=>undef) aj aj aj aj aj
   rw[be aB]at hK;refine⟨_,_,eZ,?_,hK⟩;refine .so o ho FO ⟨_,_,rfl⟩ (λ_=>.inr ⟨b,bs,cp-L,E,arr,ef,hhp,?_,ae,?_⟩)
   ·rcases aB with h0|h0
    ·obtain rfl:L=0:=by omega
     simp [Addr.add]
    ·rw[bd];simp only[ai3];rw[ia rfl,e3,Xn,ajR];simp [ajI]
   ·rw[show XU+L+(cp-L)=XU+cp by omega];exact hfit
 ·exact h.elim
def Mi (P:Program) (t:TypeId) (x:V) (K:V->Prop):Prop :=
 match P.underlying t with
 |some (.slice _)=>match x with
  |.fu aw=>K (.d (.sc (.int .i64 aw.length)))
  |_=>False
 |_=>False
theorem Rh (hx:aC σ s w x ux) (h:Mi P t x K) :
  ∃v c,(Builtin.cap_ #[t] ty #[ux]).run P w=.ok c w/\aC σ s w v c/\K v:=by
 unfold Mi at h;split at h
 ·rename_i e hu;split at h
  ·rename_i aw;cases hx with|fu _=>?_
   exact⟨_,.int .i64 aw.length,by simp [Builtin.cap_,run_underlying hu,goInt],.d (.sc _ rfl),h⟩
  ·exact h.elim
 ·exact h.elim
def mo (P:Program) (t:TypeId) (x:V) (s:List Obj) (K:V->Prop):Prop :=
 match P.underlying t with
 |some (.slice _)=>match x with
  |.d (.sl aw)=>K (.d (.sc (.int .i64 aw.length)))
  |.fu aw=>K (.d (.sc (.int .i64 aw.length)))
  |.so _ _ _ n=>K (.d (.sc (.int .i64 n)))
  |_=>False
 |some .string=>match x with
  |.d (.sc (.string b))=>K (.d (.sc (.int .i64 b.size)))
  |_=>False
 |_=>False
theorem Qp (hx:aC σ s w x ux) (h:mo P t x s K) :
  ∃v c,(Builtin.len_ #[t] ty #[ux]).run P w=.ok c w/\aC σ s w v c/\K v:=by
 unfold mo at h;split at h
 ·rename_i e hu;have fin:∀(a:Option Addr) (n cap:Nat),ux=.slice a n cap->K (.d (.sc (.int .i64 n)))->∃v c,(Builtin.len_ #[t] ty #[ux]).run P w=.ok c w/\aC σ s w v c/\K v:=by rintro a n cap rfl hk;exact⟨_,.int .i64 n,by simp [Builtin.len_,run_underlying hu,goInt],.d (.sc _ rfl),hk⟩
  split at h
  ·have hd:=pE hx rfl;cases hd <;> exact fin _ _ _ rfl h
  ·have hd:=pE hx rfl;cases hd <;> exact fin _ _ _ rfl h
  ·cases hx with|so o' jV FO RI hk=>?_
   obtain⟨aa,cp,rfl⟩:=RI;exact fin _ _ _ rfl h
  ·exact h.elim
 ·rename_i hu;split at h
  ·cases hx with|d hx=>?_
   cases hx with|sc _ _=>?_
   exact⟨_,_,by simp [Builtin.len_,run_underlying hu,goInt],.d (.sc _ rfl),h⟩
  ·exact h.elim
 ·exact h.elim
end Go.VL
