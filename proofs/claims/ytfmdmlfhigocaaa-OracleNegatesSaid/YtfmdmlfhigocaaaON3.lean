/- A part of the proof (Vg Vh). -/
import Derived.Test.YtfmdmlfhigocaaaON2
set_option linter.unusedSimpArgs false
set_option linter.unusedVariables false
set_option maxRecDepth 100000
set_option maxHeartbeats 80000000
namespace Go.VL
variable{n:Nat}{σ:Gh}{w:World}{u:Value}{s:List Obj}{x:V}{aw:List (List D)}{z:Nat}{es:List (List V)}{ux:Value}{e:TypeId}{t:TypeId}{ty:TypeId}{P:Program}{a:Option Addr}{K:V->Prop}{ua:Value}{O:Nat->Prop}{l:Nat}{cap:Nat}{uh:Option Value}{lo:Option V}{hi:Option V}{um:Option Value}{ul:Option Value}{mx:Option V}
def Je:V->Option Int
 |.d (.sc (.int _ n))=>some n
 |_=>none
theorem Es{n:Int} (hr:aA σ s w x u) (h:Je x=some n):∃k,u=.int k n:=by
 unfold Je at h;split at h
 ·simp only[afY]at h;subst h;cases hr with|d hr=>?_
  cases hr with|sc _ _=>exact⟨_,rfl⟩
 ·cases h
def iy (s:List Obj):V->Option (List (List V))
 |.d (.sl aw)=>some (aw.map (·.map .d))
 |.fu aw=>some (aw.map (·.map .d))
 |.so id g lo n=>match s[id]? with
  |some o=>if o.g=g/\lo+n<=o.aw.length then some ((o.aw.drop lo).take n) else none
  |none=>none
 |_=>none
theorem OP{i j:Nat} (h:((aw.map (·.map V.d))[i]?.bind (·[j]?))=some x):∃y,x=.d y/\(aw[i]?.bind (·[j]?))=some y:=by
 rw[afO]at h;cases he:aw[i]? with
 |none=>rw[he]at h;cases h
 |some e =>
  rw[he]at h;simp only[afV,agE,afO]at h;obtain⟨y,hy,rfl⟩:=Option.map_eq_some_iff.1 h;exact⟨y,rfl,hy⟩
theorem jr (hI:Inv σ s w) (hr:aA σ s w x u) (h:iy s x=some es) (hz:∀e∈es,e.length=z) :
  ∃a cap,u=.slice a es.length cap/\(a=none->es=[])/\es.length<=cap/\∃news:List Value,news.length=es.length*z/\(∀c∈news,c.oneCell'=true) /\
   (∀ad,a=some ad->∀(j:Nat) (c:Value),news[j]?=some c->w.cell? (ad.add j)=some c) /\
   ∀(i j:Nat) (y:V),(es[i]?.bind (·[j]?))=some y->∃c,news[i*z+j]?=some c/\c.oneCell'=true/\aA σ s w y c:=by
 -- from cells Zq are there
 have key:∀(a:Option Addr) (cap:Nat),(a=none->es=[])->es.length<=cap->(es≠[]->∃ad,a=some ad/\ad.spot=none/\∀(i j:Nat) (y:V),(es[i]?.bind (·[j]?))=some y ->
    ∃c,w.cell? ⟨ad.block,ad.off+i*z+j,none⟩=some c/\c.oneCell'=true/\aA σ s w y c) ->
   ∃a' nW,Value.slice a es.length cap=.slice a' es.length nW/\(a'=none->es=[])/\es.length<=nW/\∃news:List Value,news.length=es.length*z/\(∀c∈news,c.oneCell'=true) /\
    (∀ad,a'=some ad->∀(j:Nat) (c:Value),news[j]?=some c->w.cell? (ad.add j)=some c) /\
    ∀(i j:Nat) (y:V),(es[i]?.bind (·[j]?))=some y->∃c,news[i*z+j]?=some c/\c.oneCell'=true/\aA σ s w y c:=by
  intro a cap h1 h2 h3;refine⟨a,cap,rfl,h1,h2,?_⟩;by_cases cB:es=[]
  ·subst cB;exact⟨[],by simp,by simp,by simp,by simp⟩
  ·obtain⟨ad,rfl,oz,hc⟩:=h3 cB;have hdiv:∀p,p<es.length*z->0<z/\p / z<es.length/\p / z*z+p % z=p/\p % z<z:=by
    intro p hp;have hzp:0<z:=by
     rcases Nat.eq_zero_or_pos z with h'|h'
     ·subst h';simp at hp
     ·exact h'
    refine⟨hzp,?_,by rw[Nat.mul_comm];exact Nat.div_add_mod p z,Nat.mod_lt _ hzp⟩;rw[Nat.div_lt_iff_lt_mul hzp];exact hp
   have GO:∀p,p<es.length*z->∃y,(es[p / z]?.bind (·[p % z]?))=some y:=by intro p hp;obtain⟨g1,g2,g3,g4⟩:=hdiv p hp;have qX:(es[p / z]'g2).length=z:=hz _ (List.getElem_mem g2);exact⟨(es[p / z]'g2)[p % z]'(by omega),by simp [g2,qX,g4]⟩
   have qh:∀p,p<es.length*z->∃c,w.cell? ⟨ad.block,ad.off+p,none⟩=some c/\c.oneCell'=true:=by intro p hp;obtain⟨y,hy⟩:=GO p hp;obtain⟨c,k1,k2,_⟩:=hc _ _ y hy;exact⟨c,by rw[<- k1,agM,(hdiv p hp).2.2.1],k2⟩
   refine⟨(List.range (es.length*z)).map λp=>(w.cell? ⟨ad.block,ad.off+p,none⟩).getD undef,by simp,?_,?_,?_⟩
   ·intro c T8;obtain⟨p,hp,rfl⟩:=List.mem_map.1 T8;obtain⟨c,k1,k2⟩:=qh p (by simpa using hp);rw[k1];exact k2
   ·intro ad' RH j c hj;cases RH;rw[afO]at hj;obtain⟨p,hp,rfl⟩:=Option.map_eq_some_iff.1 hj;have az:j<es.length*z:=by simpa using (List.getElem?_eq_some_iff.1 hp).1
    obtain rfl:p=j:=by have:=(List.getElem?_eq_some_iff.1 hp).2;simpa using this.symm
    obtain⟨c,k1,_⟩:=qh p az;rw[gk oz,k1];rfl
   ·intro i j y hy;obtain⟨c,k1,k2,k3⟩:=hc i j y hy;refine⟨c,?_,k2,k3⟩;have Wb:i*z+j<es.length*z:=by
     cases he:es[i]? with
     |none=>rw[he]at hy;cases hy
     |some e =>
      rw[he]at hy;have hj:=(List.getElem?_eq_some_iff.1 hy).1;rw[hz e (afW he)]at hj;have:=agw z (show i+1<=es.length from (List.getElem?_eq_some_iff.1 he).1);rw[agL,Nat.one_mul]at this;omega
    rw[afO,List.getElem?_range Wb];simp only[afV];rw[<- agM,k1];rfl
 have Ej:∀(aw:List (List D)) (a:Option Addr) (n cap:Nat),cJ (Own σ s) w (.sl aw) (.slice a n cap)->es=aw.map (·.map .d)->n=es.length/\(a=none->es=[])/\es.length<=cap /\
   (es≠[]->∃ad,a=some ad/\ad.spot=none/\∀(i j:Nat) (y:V),(es[i]?.bind (·[j]?))=some y ->
    ∃c,w.cell? ⟨ad.block,ad.off+i*z+j,none⟩=some c/\c.oneCell'=true/\aA σ s w y c):=by
  intro aw a n cap hd he;subst he;cases hd with
  |nil=>simp
  |sl _ ad _ sz f h1 h2 h3 h4 h5 =>
   refine⟨by simp,by simp,by simpa using h1,λcB=>⟨ad,rfl,h2 (by intro h';subst h';simp at cB),λi j y hy=>?_⟩⟩;obtain⟨y',rfl,UH⟩:=OP hy;have fF:sz=z:=by
    cases Cc:aw[i]? with
    |none=>rw[Cc]at UH;cases UH
    |some e =>
     have:=h3 e (afW Cc);have Ui:=hz (e.map .d) (List.mem_map.2 ⟨e,afW Cc,rfl⟩);simp at Ui;omega
   subst fF;exact⟨f i j,(h4 i j y' UH).1,(h5 i j y' UH).one,.d (h5 i j y' UH)⟩
 unfold iy at h;split at h
 ·simp only[afY]at h;cases hr with|d hr=>?_
  have hu:∃a n cap,u=.slice a n cap:=by cases hr <;> exact⟨_,_,_,rfl⟩
  obtain⟨a,n,cap,rfl⟩:=hu;obtain⟨rfl,e2,e3,e4⟩:=Ej _ a n cap hr h.symm;exact key a cap e2 e3 e4
 ·simp only[afY]at h;cases hr with|fu hr=>?_
  obtain⟨e1,e2,e3,e4⟩:=Ej _ _ _ _ hr h.symm;rw[e1];exact key _ _ e2 (by omega) e4
 ·rename_i id g lo n;split at h
  case h_2=>cases h
  rename_i o ho;split at h
  case isFalse=>cases h
  rename_i hc;simp only[afY]at h;subst h;have hlen:((o.aw.drop lo).take n).length=n:=by simp;omega
  cases hr with|so o' iY hg hu hk=>?_
  rw[ho]at iY;cases iY;rcases hk hc.1 with ⟨_,⟨a,rfl⟩,rfl,rfl⟩|⟨b,base,cap,E,arr,g1,g2,rfl,g4,g5⟩
  ·have:=key a 0 (by simp) (by simp) (by simp);simp only[agD]at this ⊢;exact this
  ·have:=key (some ⟨b,base+lo*o.sz,none⟩) cap (by simp) (by omega) (λcB=>⟨_,rfl,rfl,λi j y hy=>?_⟩)
   ·rw[hlen]at this ⊢;exact this
   ·have hi:i<n/\(o.aw[lo+i]?.bind (·[j]?))=some y:=by
     rw[agt]at hy;split at hy
     ·rw[agR]at hy;exact⟨by assumption,hy⟩
     ·cases hy
    rcases hI.content _ o ho with h1|⟨b',bI,cf,E',h1,h2,h3,h4,h5⟩
    ·exact(h1.Ax g1 ⟨arr,E,g2⟩).elim
    ·rw[g1]at h1;cases h1;rw[g2]at h2;cases h2;have fF:o.sz=z:=by
      cases Cc:o.aw[lo+i]? with
      |none=>rw[Cc]at hi;cases hi.2
      |some e =>
       have e1:=h3 e (afW Cc);have e2:=hz e (afW (i:=i) (by rw[agt,be hi.1,agR];exact Cc));omega
     subst fF;obtain⟨c,k1,k2,k3⟩:=h5 (lo+i) j y hi.2;refine⟨c,?_,k2,k3⟩;simp only[World.cell?,g2];rw[agL]at k1;simpa [agM]using k1
 ·cases h
def df (P:Program) (t:TypeId) (a x:V) (s:List Obj) (K:V->List Obj->Prop):Prop :=
 match iN P t with
 |none=>False
 |some (_,i)=>match iy s x with
  |none=>False
  |some ns=>((∀e∈ns,e.length=i.sz)/\0<i.sz/\0<i.Cs)/\match a with
   |.fu aw=>match aw,x with
    |_::_,.d (.sl ds)=>((aw.length+ds.length)*i.Cs<=140737488355328/\∀e∈aw,e.length=i.sz)/\K (.d (.sl (aw++ds))) s
    |_,_=>((aw=[]\/0<ns.length)/\(aw.length+ns.length)*i.Cs<=140737488355328/\∀e∈aw,e.length=i.sz) /\
      K (.so s.length 0 0 (aw.length+ns.length)) (s++[⟨0,true,i.sz,aw.map (·.map .d)++ns⟩])
   |.so id g lo n=>uo s id g λo=>(o.live=true/\o.sz=i.sz/\lo+n<=o.aw.length/\(n+ns.length)*i.Cs<=140737488355328) /\
     K (.so id (g+1) 0 (n+ns.length)) (s.set id ⟨g+1,true,i.sz,(o.aw.drop lo).take n++ns⟩)
   |_=>False
theorem sZ{ns:List (List V)}{lG news:List Value} (ho:lG.length=es.length*z)
  (h1:∀(i j:Nat) (y:V),(es[i]?.bind (·[j]?))=some y->∃c,lG[i*z+j]?=some c/\c.oneCell'=true/\aA σ s w y c)
  (h2:∀(i j:Nat) (y:V),(ns[i]?.bind (·[j]?))=some y->∃c,news[i*z+j]?=some c/\c.oneCell'=true/\aA σ s w y c) :
  ∀(i j:Nat) (y:V),((es++ns)[i]?.bind (·[j]?))=some y->∃c,(lG++news)[i*z+j]?=some c/\c.oneCell'=true/\aA σ s w y c:=by
 intro i j y hy;by_cases hi:i<es.length
 ·rw[af2 hi]at hy;obtain⟨c,k1,k2,k3⟩:=h1 i j y hy;refine⟨c,?_,k2,k3⟩;rw[af2 (by
   have:=(List.getElem?_eq_some_iff.1 k1).1;exact this)]
  exact k1
 ·rw[af6 (by omega)]at hy;obtain⟨c,k1,k2,k3⟩:=h2 _ j y hy;refine⟨c,?_,k2,k3⟩;have hmul:i*z=es.length*z+(i-es.length)*z:=by rw[<- agL];congr 1;omega
  rw[af6 (by rw[ho,hmul];omega),<- k1];congr 1;rw[ho,hmul];omega
theorem EP {l:List Value}{arr:Array Value}{p:Nat}{c:Value} (h:l[p]?=some c):(l.toArray++arr)[p]?=some c:=by have az:=(List.getElem?_eq_some_iff.1 h).1;rw[ag1 (by simpa using az)];simpa using h
theorem mP{ti:TypeInfo} (hu:P.underlying t=some (.slice e)) (hi:P.info? e=some ti) (hs:Src P ti.size t ux 0 [] w)
  (base:Option Addr) (n cap:Nat) (h:n<=cap):(Builtin.append_ #[t,t] ty #[.slice base n cap,ux]).run P w=.ok (.slice base n cap) w:=by
 cases base <;> simp [Builtin.append_,run_underlying hu,sizeOf,typeInfo,hi,hs.len,h,hs.cells,storeCells]
theorem Gp{a:V}{K:V->List Obj->Prop} (hI:Inv σ s w) (ha:aA σ s w a ua) (hx:aA σ s w x ux)
  (h:df P t a x s K):∃v r σ' s' w',(Builtin.append_ #[t,t] ty #[ua,ux]).run P w=.ok r w'/\aF σ s w σ' s' w'/\Inv σ' s' w'/\aA σ' s' w' v r/\K v s':=by
 unfold df at h;split at h
 ·exact h.elim
 rename_i e i hti;obtain⟨hu,hi⟩:=kz hti;split at h
 ·exact h.elim
 rename_i ns wK;obtain⟨⟨hz,cY,Yp⟩,h⟩:=h;obtain⟨ti,d,z,k1,k2,k3,k4,k5,k6,k7,k8,k9⟩:=gL hi;obtain⟨ax,vE,rfl,CI,Vj,news,n1,n2,n3,n4⟩:=jr hI hx wK hz;have Kv:z.cells.size=i.sz:=by rw[<- ahj,k6,k7]
 have vd:Src P ti.size t (.slice ax ns.length vE) ns.length news w:=by
  rw[k4];cases ax with
  |none =>
   have:ns=[]:=CI rfl;subst this;have hn:news=[]:=ago (by simpa using n1);subst hn;exact Src.ofNil w hu vE
  |some ad=>exact Src.ofSlice w hu ad ns.length vE news n1 (n3 ad rfl) n2
 -- it Yk
 have grow:∀(es:List (List V)) (base:Option Addr) (cap:Nat) (lG:List Value),lG.length=es.length*i.sz->(base=none->es=[])->(∀e∈es,e.length=i.sz) ->
   (∀ad,base=some ad->∀(j:Nat) (c:Value),lG[j]?=some c->w.cell? (ad.add j)=some c) ->
   (∀(i' j:Nat) (y:V),(es[i']?.bind (·[j]?))=some y->∃c,lG[i'*i.sz+j]?=some c/\c.oneCell'=true/\aA σ s w y c) ->
   cap<es.length+ns.length->(es.length+ns.length)*i.Cs<=140737488355328 ->
   ∃(arr:Array Value) (nW:Nat),(Builtin.append_ #[t,t] ty #[.slice base es.length cap,.slice ax ns.length vE]).run P w=.ok (.slice (some ⟨w.heap.size,0,none⟩) (es.length+ns.length) nW) (w.drew.alloc (.cells arr e)) /\
    es.length+ns.length<=nW/\arr.size=nW*i.sz /\
    ∀(i' j:Nat) (y:V),((es++ns)[i']?.bind (·[j]?))=some y->∃c,arr[i'*i.sz+j]?=some c/\c.oneCell'=true/\aA σ s w y c:=by
  intro es base cap lG o1 o2 o3 o4 o5 Av aaC;have hold:(Builtin.firstCells ti.size es.length (.slice base es.length cap)).run P w.drew=.ok lG.toArray w.drew:=by
   rw[k4];cases base with
   |none =>
    have:es=[]:=o2 rfl;subst this;have hn:lG=[]:=ago (by simpa using o1);subst hn;exact run_firstCells_none w.drew i.sz 0 0 cap
   |some ad=>exact run_firstCells_some w.drew i.sz es.length ad es.length cap lG o1 (by simpa using o4 ad rfl)
  have hle:es.length+ns.length<=(es.length+ns.length)*i.Cs:=Nat.le_mul_of_pos_right _ Yp;have eu:=run_append_grow_src (P:=P) w t t ty e ti z hu k1 k3 base es.length cap lG hold (.slice ax ns.length vE) ns.length news vd Av (by omega) (growslice_fits Av (by rw[k5];exact aaC));have fI:=grownCap_ge w (es.length+ns.length) cap e;refine⟨_,_,eu,fI,?_,?_⟩
  ·simp only[Array.size_append,List.size_toArray,size_zeroCells,af7,o1,n1,Kv];rw[<- agL,<- agL];congr 1;omega
  ·intro i' j y hy;obtain⟨c,c1,c2,c3⟩:=sZ o1 o5 n4 i' j y hy;exact⟨c,EP c1,c2,c3⟩
 have QQ:∀(es:List (List V)),(∀e∈es,e.length=i.sz)->∀e∈es++ns,e.length=i.sz:=by
  intro es Eb e he;rcases List.mem_append.1 he with h'|h'
  ·exact Eb e h'
  ·exact hz e h'
 obtain⟨Rl,Uk⟩:=ot hI;split at h
 ·
  rename_i aw;have fP:iy s (.fu aw)=some (aw.map (·.map .d)):=rfl;have WE:(∀e∈aw,e.length=i.sz)->∀e∈aw.map (·.map V.d),e.length=i.sz:=by intro hh e he;obtain⟨e',zO,rfl⟩:=List.mem_map.1 he;simpa using hh e' zO
  split at h
  ·
   rename_i d0 x5 ds;obtain⟨⟨hb,hl⟩,h⟩:=h;have NJ:ns=ds.map (·.map .d):=by simpa [iy]using wK.symm
   obtain⟨base,cap,CX,a1,a2,lG,o1,o2,o3,o4⟩:=jr hI ha fP (WE hl);have Kj:cap=(d0::x5).length:=by
    cases ha with|fu ha=>?_
    simp only[Value.slice.injEq]at CX;omega
   subst CX;have mX:((d0::x5).map (·.map V.d)).length=(d0::x5).length:=by simp
   by_cases hm:ns.length=0
   ·have W0:ds=[]:=by rw[NJ]at hm;simpa using hm
    subst W0;have gp:ns=[]:=by simpa using NJ
    subst gp;have Ah:news=[]:=ago (by simpa using n1);subst Ah;cases base with
    |none=>simp at a1
    |some ad =>
     refine⟨_,.slice (some ad) ((d0::x5).map (·.map V.d)).length cap,σ,s,w,mP hu k1 vd _ _ _ (by simp [Kj]),aF.refl _ _ _,hI,?_,h⟩
     ·rw[List.append_nil];exact .d (nX ha rfl)
   ·obtain⟨arr,nW,g1,g2,g3,g4⟩:=grow ((d0::x5).map (·.map .d)) base cap lG o1 a1 (WE hl) o3 o4 (by rw[mX];omega) (by rw[mX,NJ];simpa using hb);obtain⟨hE,jo⟩:=Eg Uk (.cells arr e);refine⟨_,_,σ,s,_,g1,Rl.trans hE,jo,?_,h⟩;have hlen:((d0::x5).map (·.map V.d)).length+ns.length=((d0::x5)++ds).length:=by rw[NJ];simp;omega
    rw[hlen];refine .d (cJ.Kn (sz:=i.sz) (by rw[<- hlen];exact g2) (λx hx=>?_) (λho=>by have:=B7 Uk ho;simp at this) (λa j y hy=>?_))
    ·rcases List.mem_append.1 hx with h'|h'
     ·exact hl x h'
     ·have:=hz (x.map .d) (by rw[NJ];exact List.mem_map.2 ⟨x,h',rfl⟩);simpa using this
    ·have UH:(((d0::x5).map (·.map V.d)++ns)[a]?.bind (·[j]?))=some (.d y):=by
      rw[NJ,<- aha,afO];cases Ww:((d0::x5)++ds)[a]? with
      |none=>rw[Ww]at hy;cases hy
      |some ea =>
       rw[Ww]at hy;simp only[afV,agE,afO];rw[show ea[j]?=some y from hy];rfl
     obtain⟨c,c1,c2,c3⟩:=g4 a j _ UH;refine⟨c,by
      show (w.drew.alloc (.cells arr e)).cell? ⟨w.drew.heap.size,0+a*i.sz+j,none⟩=some c;rw[World.cell?_alloc_new];simpa using c1,?_⟩
     have:=(c3.aX Rl).aX hE;cases this with|d h'=>exact h'
  ·
   obtain⟨⟨cB,hb,hl⟩,h⟩:=h;obtain⟨base,cap,CX,a1,a2,lG,o1,o2,o3,o4⟩:=jr hI ha fP (WE hl);have Kj:cap=aw.length:=by
    cases ha with|fu ha=>?_
    simp only[Value.slice.injEq]at CX;omega
   subst CX;have mX:(aw.map (·.map V.d)).length=aw.length:=by simp
   by_cases hm:ns.length=0
   ·have he0:aw=[]:=cB.resolve_right (by omega);subst he0;have gp:ns=[]:=ago hm;subst gp;have Ah:news=[]:=ago (by simpa using n1);subst Ah;have:=mK (p:=none) (o':=⟨0,true,i.sz,[]⟩) (w':=w) hI rfl rfl rfl (af3 _) (λ_ _=>rfl) (λ_ _ h'=>by cases h') (λ_=>.inl (.inl ⟨rfl,rfl⟩));refine⟨_,.slice base 0 cap,_,_,w,mP hu k1 vd _ _ _ (ahn _),this.1,this.2,?_,h⟩
    ·subst Kj;exact .so ⟨0,true,i.sz,[]⟩ (by simp) (af3 _) ⟨_,_,rfl⟩ (λ_=>.inl ⟨bQ _ _ _,⟨base,rfl⟩,rfl,rfl⟩)
   ·obtain⟨arr,nW,g1,g2,g3,g4⟩:=grow (aw.map (·.map .d)) base cap lG o1 a1 (WE hl) o3 o4 (by rw[mX];omega) (by rw[mX];exact hb);have:=qZ (aw:=aw.map (·.map .d)++ns) (sz:=i.sz) (arr:=arr) Uk e (QQ _ (WE hl)) (by rw[g3];exact agw _ (by simpa using g2))
     (λi' j y hy=>let ⟨c,c1,c2,c3⟩:=g4 i' j y hy;⟨c,c1,c2,c3.aX Rl⟩)
    refine⟨_,_,_,_,_,g1,Rl.trans this.1,this.2,?_,h⟩;rw[mX];refine .so ⟨0,true,i.sz,aw.map (·.map .d)++ns⟩ (by simp) (af3 _) ⟨_,_,rfl⟩ (λ_=>.inr ⟨w.heap.size,0,nW,e,arr,bQ _ _ _,heap_alloc_new w.drew _,by simp,by rw[mX]at g2;exact g2,by simp [g3]⟩)
 ·
  rename_i id g lo n;obtain⟨o,ho,hg,⟨sT,Im,hlo,hb⟩,h⟩:=dZ h;have fP:iy s (.so id g lo n)=some ((o.aw.drop lo).take n):=by simp [iy,ho,hg,hlo]
  have mX:((o.aw.drop lo).take n).length=n:=by simp;omega
  have SY:∀e∈(o.aw.drop lo).take n,e.length=i.sz:=by
   intro e he;have zO:e∈o.aw:=List.mem_of_mem_drop (agJ he);rcases hI.content _ o ho with h0|⟨b,base,arr,E,h1,h2,h3,h4,h5⟩
   ·cases ha with|so o' iY Dr Oy hk=>?_
    rw[ho]at iY;cases iY;rcases hk hg with ⟨qj,_⟩|⟨b,bs,cp,E,arr,ez,hh,_⟩
    ·rw[h0.GC qj]at zO;cases zO
    ·exact(h0.Ax ez ⟨arr,E,hh⟩).elim
   ·rw[<- Im];exact h3 e zO
  obtain⟨base,cap,CX,a1,a2,lG,o1,o2,o3,o4⟩:=jr hI ha fP SY;rw[mX]at CX a2;cases ha with|so o' iY Dr Oy hk=>?_
  rw[ho]at iY;cases iY;have wB:=hk hg;by_cases Av:cap<n+ns.length
  ·
   obtain⟨arr,nW,g1,g2,g3,g4⟩:=grow _ base cap lG o1 a1 SY o3 o4 (by rw[mX];exact Av) (by rw[mX];exact hb);rw[mX]at g1 g2;subst CX;have:=ml (p:=some (w.heap.size,0)) (o':=⟨g+1,true,i.sz,(o.aw.drop lo).take n++ns⟩) (w':=w.drew.alloc (.cells arr e)) hI ho sT rfl rfl rfl (by simp)
    (λb OF _=>Go.RowKit.Below.heap_alloc w.drew _ b OF)
    (λb bI cf E' he hh=>⟨cf,by rw[Go.RowKit.Below.heap_alloc w.drew _ b (by exact dF hh)];exact hh,rfl⟩)
    (λb bI he hm=>let ⟨es,c,hh⟩:=hm;⟨es,c,by rw[Go.RowKit.Below.heap_alloc w.drew _ b (by exact dF hh)];exact hh⟩)
    (by simp only;omega) (λh'=>by simp only at h';omega) (λb bI he=>by cases he;exact .inr (af3 _))
    (λhE=>.inr ⟨w.heap.size,0,arr,e,rfl,heap_alloc_new w.drew _,QQ _ SY,by simp only[af7,mX,g3];rw[afX];exact agw _ g2,λi' j y hy=>by
     obtain⟨c,c1,c2,c3⟩:=g4 i' j y hy;exact⟨c,by simpa using c1,c2,c3.aX hE⟩⟩)
   refine⟨_,_,_,_,_,g1,this.1,this.2,?_,h⟩;exact .so ⟨g+1,true,i.sz,(o.aw.drop lo).take n++ns⟩ (by simp [(List.getElem?_eq_some_iff.1 ho).1]) (af3 _) ⟨_,_,rfl⟩ (λ_=>.inr ⟨w.heap.size,0,nW,e,arr,bQ _ _ _,heap_alloc_new w.drew _,by simp,g2,by simp [g3]⟩)
  ·
   have CT:n+ns.length<=cap:=by omega
   rcases wB with ⟨qj,⟨aa,xf⟩,rfl,rfl⟩|⟨b,bs,cp,E,arr,ez,hh,xf,wH,hfit⟩
   ·
    rw[CX]at xf;simp only[Value.slice.injEq]at xf;obtain⟨rfl,_,rfl⟩:=xf;have gp:ns=[]:=ago (by omega);subst gp;have Ah:news=[]:=ago (by simpa using n1);subst Ah;subst CX;have:=ml (p:=none) (o':=⟨g+1,true,i.sz,(o.aw.drop 0).take 0++[]⟩) (w':=w) hI ho sT rfl rfl rfl (af3 _) (λ_ _ _=>rfl)
     (λ_ _ cf _ _ hh=>⟨cf,hh,rfl⟩) (λ_ _ _ hm=>hm) (by simp only;omega) (λh'=>by simp only at h';omega) (λ_ _ he=>by cases he) (λ_=>.inl (.inl ⟨rfl,by simp⟩))
    refine⟨_,.slice base 0 0,_,_,w,mP hu k1 vd _ _ _ (af3 _),this.1,this.2,?_,h⟩
    ·exact .so ⟨g+1,true,i.sz,(o.aw.drop 0).take 0++[]⟩ (by simp [(List.getElem?_eq_some_iff.1 ho).1]) (af3 _) ⟨_,_,rfl⟩ (λ_=>.inl ⟨bQ _ _ _,⟨base,rfl⟩,rfl,rfl⟩)
   ·rw[CX]at xf;simp only[Value.slice.injEq]at xf;obtain⟨rfl,_,rfl⟩:=xf;subst CX;have hq:bs+lo*o.sz+n*i.sz+news.length<=arr.size:=by rw[n1,<- Im];have e1:(lo+cap)*o.sz=lo*o.sz+cap*o.sz:=agL _ _ _;have e2:=agw o.sz CT;rw[agL]at e2;omega
    have cI:=run_storeCells_at P b (bs+lo*o.sz+n*i.sz) E news 0 arr w hh (by omega) n2;simp only[ag0]at cI;generalize po:(arr.toList.take (bs+lo*o.sz+n*i.sz)++news++arr.toList.drop (bs+lo*o.sz+n*i.sz+news.length)).toArray=cf at cI;have jm:cf.size=arr.size:=by rw[<- po];simp;omega
    have az:∀p,p<bs+lo*o.sz+n*i.sz->cf[p]?=arr[p]?:=by intro p hp;rw[<- po,List.getElem?_toArray,agu,af2 (by simp;omega),agt,be hp,agI]
    have zH:∀q,q<news.length->cf[bs+lo*o.sz+n*i.sz+q]?=news[q]?:=by
     intro q Y9;have hl:(arr.toList.take (bs+lo*o.sz+n*i.sz)).length=bs+lo*o.sz+n*i.sz:=by simp;omega
     rw[<- po,List.getElem?_toArray,agu,af6 (by omega),hl,af2 (by omega)];congr 1;omega
    have:=ml (p:=some (b,bs+lo*o.sz)) (o':=⟨g+1,true,i.sz,(o.aw.drop lo).take n++ns⟩) (w':=w.setRow b cf) hI ho sT rfl rfl rfl (by simp)
     (λb1 _ cB=>setRow_other w b b1 cf (λe=>cB bs (by rw[ez,e])))
     (λb1 jU UK E1 he UA=>by
      rw[ez]at he;cases he;rw[hh]at UA;cases UA;exact⟨cf,setRow_heap w b arr cf E (0,0) hh,jm⟩)
     (λb1 jU he hm=>by
      rw[ez]at he;cases he;exact(Fs.notM ⟨arr,E,hh⟩ hm).elim)
     (by simp only;omega) (λh'=>by simp only at h';omega) (λb1 jU he=>by cases he;exact .inl ⟨bs,ez⟩)
     (λhE=>.inr ⟨b,bs+lo*o.sz,cf,E,rfl,setRow_heap w b arr cf E (0,0) hh,QQ _ SY,(by
      simp only[af7,mX,agL];rw[jm];omega),λi' j y hy=>by
      obtain⟨c,c1,c2,c3⟩:=sZ (z:=i.sz) o1 o4 n4 i' j y hy;refine⟨c,?_,c2,c3.aX hE⟩;simp only;by_cases Wb:i'*i.sz+j<lG.length
      ·rw[af2 Wb]at c1;rw[az _ (by rw[o1,mX]at Wb;omega)];have hc:=o3 ⟨b,bs+lo*o.sz,none⟩ rfl _ c c1;rw[gk rfl]at hc;simp only[World.cell?,hh]at hc;simpa [agM]using hc
      ·rw[af6 (by omega)]at c1;have aC:=(List.getElem?_eq_some_iff.1 c1).1;have:=zH _ aC;rw[c1]at this;rw[<- this];congr 1;rw[o1,mX]at *;omega⟩)
    refine⟨_,.slice (some ⟨b,bs+lo*o.sz,none⟩) (n+ns.length) cap,_,_,w.setRow b cf,?_,this.1,this.2,?_,h⟩
    ·have lU:=vd.cells;rw[k4]at lU;simp [Builtin.append_,run_underlying hu,sizeOf,typeInfo,k1,Builtin.lenOf,CT,lU,k4,Addr.add_lit,cI]
    ·exact .so ⟨g+1,true,i.sz,(o.aw.drop lo).take n++ns⟩ (by simp [(List.getElem?_eq_some_iff.1 ho).1]) (af3 _) ⟨_,_,rfl⟩
      (λ_=>.inr ⟨b,bs+lo*o.sz,cap,E,cf,bQ _ _ _,setRow_heap w b arr cf E (0,0) hh,by simp,CT,by rw[jm];simp only[afX];rw[<- Im,agL]at *;omega⟩)
 ·exact h.elim
theorem rA (w:World) (t tn ty e:TypeId) (i:TypeInfo) (z:Value) (k kn:IntKind) (ht:P.underlying t=some (.slice e)) (htn:P.underlying tn=some (.int kn)) (hi:P.info? e=some i) (hz:i.zero=some z)
  (base:Option Addr) (n:Nat) (h0:0<n) (hs:0<i.size) (Da:(n:Int)<=9223372036854775807) (Wk:n*i.bytes<=281474976710656) :
  (Builtin.append_ #[t,tn] ty #[.slice base 0 0,.int k n]).run P w =
   .ok (.slice (some ⟨w.heap.size,0,none⟩) n (grownCap w n 0 e)) (w.drew.alloc (.cells (Builtin.zeroCells z.cells n++Builtin.zeroCells z.cells (grownCap w n 0 e-n)) e)):=by
 have hn:n≠0:=by omega
 have hw:IntKind.i64.wrap (n:Int)=n:=by rw[IntKind.wrap_i64];omega
 have aaD:¬(9223372036854775807<(n:Int)):=by omega
 have abu:¬(281474976710656<Builtin.nextslicecap n 0*i.bytes):=by rw[nextslicecap_zero h0];omega
 have aaY:¬(281474976710656<(n:Int)*(i.bytes:Int)):=by rw[<- Int.natCast_mul];omega
 have dA:¬((n:Int)<0):=by omega
 have wK:¬(n*i.size=0):=Nat.mul_ne_zero hn (by omega);have hold:∀w:World,(Builtin.firstCells i.size 0 (.slice base 0 0)).run P w=.ok #[] w:=by
  intro w;cases base with
  |none=>exact run_firstCells_none w i.size 0 0 0
  |some ad=>exact run_firstCells_some w i.size 0 ad 0 0 [] (by simp) (by simp)
 simp [Builtin.append_,run_underlying ht,run_underlying htn,sizeOf,typeInfo,zeroValue,hi,hz,asInt,asIntOf,hw,hn,dA,wK,aaD,abu,aaY,Question.forced,hold,newRow,grownCap]
def kD (P:Program) (t t':TypeId) (a x:V) (s:List Obj) (K:V->List Obj->Prop):Prop :=
 match iN P t with
 |none=>False
 |some (_,i)=>match P.underlying t' with
  |some (.int _)=>match a,x with
   |.fu aw,.d (.sc (.int _ n))=>(aw=[]/\0<n/\(i.Cs:Int)*n<=140737488355328/\n<=140737488355328/\0<i.sz) /\
     K (.so s.length 0 0 n.toNat) (s++[⟨0,true,i.sz,List.replicate n.toNat (i.zero.map cv)⟩])
   |_,_=>False
  |_=>False
theorem Dq{t':TypeId}{a:V}{K:V->List Obj->Prop} (hI:Inv σ s w) (ha:aA σ s w a ua) (hx:aA σ s w x ux)
  (h:kD P t t' a x s K):∃v r σ' s' w',(Builtin.append_ #[t,t'] ty #[ua,ux]).run P w=.ok r w'/\aF σ s w σ' s' w'/\Inv σ' s' w'/\aA σ' s' w' v r/\K v s':=by
 unfold kD at h;split at h
 ·exact h.elim
 rename_i e i hti;obtain⟨hu,hi⟩:=kz hti;split at h
 case h_2=>exact h.elim
 rename_i kn hun;split at h
 case h_2=>exact h.elim
 rename_i aw k n;obtain⟨⟨rfl,h1,h2,h3,h4⟩,h⟩:=h;cases hx with|d hx=>?_
 cases hx with|sc _ _=>?_
 cases ha with|fu ha=>?_
 rename_i base;obtain⟨ti,d,z,k1,k2,k3,k4,k5,k6,k7,k8,k9⟩:=gL hi;have Kv:z.cells.size=i.sz:=by rw[<- ahj,k6,k7]
 obtain⟨N,rfl⟩:=Int.eq_ofNat_of_zero_le (show 0<=n by omega);have Wk:N*ti.bytes<=281474976710656:=by
  rw[k5,Nat.mul_comm];have:((i.Cs*N:Nat):Int)<=140737488355328:=by rw[Int.natCast_mul];exact h2
  omega
 have eu:=rA (P:=P) w t t' ty e ti z k kn hu hun k1 k3 base N (by omega) (by rw[k4];exact h4) (by omega) Wk;have fI:=grownCap_ge w N 0 e;generalize grownCap w N 0 e=cap at eu fI;obtain⟨Rl,Uk⟩:=ot hI;have fF:(Builtin.zeroCells z.cells N++Builtin.zeroCells z.cells (cap-N)).size=cap*i.sz:=by simp only[Array.size_append,size_zeroCells,Kv];rw[<- agL];congr 1;omega
 obtain⟨r1,r2,r3⟩:=AV hi σ s w N z k6;have Zf:Builtin.zeroCells z.cells N=(Array.range (N*i.sz)).map (z.cells[· % z.cells.size]!):=by unfold Builtin.zeroCells;rw[Kv]
 have ep:∀(a j:Nat) (x:V),((List.replicate N (i.zero.map cv))[a]?.bind (·[j]?))=some x->∃c,(Builtin.zeroCells z.cells N++Builtin.zeroCells z.cells (cap-N))[a*i.sz+j]?=some c/\c.oneCell'=true/\aA σ s w x c:=by intro a j x hx;obtain⟨c,c1,c2,c3⟩:=r3 a j x hx;refine⟨c,?_,c2,c3⟩;rw[<- Zf]at c1;have az:=(Array.getElem?_eq_some_iff.1 c1).1;rw[ag1 az];exact c1
 generalize Builtin.zeroCells z.cells N++Builtin.zeroCells z.cells (cap-N)=arr at *;have:=qZ (aw:=List.replicate N (i.zero.map cv)) (sz:=i.sz) (arr:=arr) Uk e (λx hx=>by rw[List.eq_of_mem_replicate hx];simp [k7])
  (by rw[fF,ahe];exact agw _ fI) (λa j x hx=>let ⟨c,c1,c2,c3⟩:=ep a j x hx;⟨c,c1,c2,c3.aX Rl⟩)
 refine⟨_,_,_,_,_,eu,Rl.trans this.1,this.2,?_,h⟩;exact .so ⟨0,true,i.sz,List.replicate N (i.zero.map cv)⟩ (by simp) (af3 _) ⟨_,_,rfl⟩ (λ_=>.inr ⟨w.heap.size,0,cap,e,arr,bQ _ _ _,heap_alloc_new w.drew _,by simp,fI,by simp [fF]⟩)
def Ay (x:Option V) (RZ:Int):Option Int :=
 match x with
 |none=>some RZ
 |some v=>Je v
def sC (cs:List D) (z l n:Nat):List (List D):=(List.range n).map λi=>(cs.drop ((l+i)*z)).take z
def lQ (P:Program) (t:TypeId) (x:V) (lo hi mx:Option V) (K:V->Prop):Prop :=
 match TZ P t with
 |none=>False
 |some (len,z)=>match x,Ay lo 0,Ay hi len,mx with
  |.d (.el cs),some l,some h,none=>((0<=l/\l<=h/\h<=len)/\cs.length=len*z)/\K (.d (.sl (sC cs z l.toNat (h-l).toNat)))
  |_,_,_,_=>False
def kU (P:Program) (t:TypeId) (x:V) (lo hi mx:Option V) (s:List Obj) (K:V->Prop):Prop :=
 match C9 P t with
 |none=>lQ P t x lo hi mx K
 |some z=>match iy s x with
  |none=>False
  |some es=>match Ay lo 0,Ay hi es.length with
   |some l,some h=>(0<=l/\l<=h/\h<=es.length)/\match x,mx with
    |.d (.sl aw),none=>(l=0\/∀e∈aw,e.length=z)/\K (.d (.sl ((aw.drop l.toNat).take (h-l).toNat)))
    |.fu aw,none=>(l=0\/∀e∈aw,e.length=z)/\K (bif aw.isEmpty then .fu [] else .d (.sl ((aw.drop l.toNat).take (h-l).toNat)))
    |.d (.sl aw),some m=>hi.isSome=true/\Je m=some h/\(l=0\/∀e∈aw,e.length=z)/\K (.fu ((aw.drop l.toNat).take (h-l).toNat))
    |.so id g UL _,none=>uo s id g λo=>o.sz=z/\if l=0\/l<h then K (.so id g (UL+l.toNat) (h-l).toNat) else K (.d (.sl []))
    |_,_=>False
   |_,_=>False
theorem cJ.sub{h m:Nat} (hr:cJ O w (.sl aw) (.slice a n cap)) (hl:l<=h) (hh:h<=aw.length) (hm:h<=m) (u5:m<=cap)
  (hz:l=0\/∀e∈aw,e.length=z):cJ O w (.sl ((aw.drop l).take (h-l))) (.slice (if m=l then a else a.map (·.add (l*z))) (h-l) (m-l)):=by
 have hlen:((aw.drop l).take (h-l)).length=h-l:=by simp;omega
 cases hr with
 |nil =>
  simp only[af0]at hh;obtain rfl:h=0:=by omega
  obtain rfl:l=0:=by omega
  obtain rfl:m=0:=by omega
  exact .nil
 |sl _ ad _ sz f h1 h2 h3 h4 h5 =>
  by_cases hml:m=l
  ·rw[be hml];have e0:(aw.drop l).take (h-l)=[]:=ago (by rw[hlen];omega);have:=cJ.sl (O:=O) (w:=w) [] ad (m-l) sz f (by simp) (by simp) (by simp) (by simp) (by simp);rw[e0,show h-l=0 by omega];exact this
  ·rw[ap hml];simp only[afV];have ep:∀(i:Nat) (e:List D),((aw.drop l).take (h-l))[i]?=some e->aw[l+i]?=some e:=by
    intro i e he;rw[agt]at he;split at he
    ·rw[agR]at he;exact he
    ·cases he
   have ZJ:∀e∈(aw.drop l).take (h-l),e.length=sz:=λe he=>h3 e (List.mem_of_mem_drop (agJ he));have hmul:∀(i j:Nat) (x:D),(((aw.drop l).take (h-l))[i]?.bind (·[j]?))=some x->(aw[l+i]?.bind (·[j]?))=some x/\ad.add (l*z)=⟨ad.block,ad.off+l*sz,none⟩:=by
    intro i j x hx;cases he:((aw.drop l).take (h-l))[i]? with
    |none=>rw[he]at hx;cases hx
    |some e =>
     rw[he]at hx;have zO:=ep i e he;refine⟨by rw[zO];exact hx,?_⟩;have cB:aw≠[]:=by intro h';subst h';simp at zO
     rw[gk (h2 cB)];rcases hz with rfl|hz
     ·simp
     ·have:=hz e (afW zO);have:=h3 e (afW zO);rw[show z=sz by omega]
   have:=cJ.sl (O:=O) (w:=w) ((aw.drop l).take (h-l)) (ad.add (l*z)) (m-l) sz (λi j=>f (l+i) j) (by rw[hlen];omega)
    (λcB=>by
     have abc:aw≠[]:=by intro h';subst h';simp at cB
     rw[gk (h2 abc)]) ZJ
    (λi j x hx=>by
     obtain⟨g1,g2⟩:=hmul i j x hx;have:=h4 (l+i) j x g1;rw[g2];simpa [agL,agM]using this)
    (λi j x hx=>h5 (l+i) j x (hmul i j x hx).1)
   rw[hlen]at this;exact this
theorem xg{x:Option V}{u:Option Value}{RZ n:Int} (hr:∀v,x=some v->∃c,u=some c/\aA σ s w v c) (hn:x=none->u=none) (h:Ay x RZ=some n) :
  (u=none/\n=RZ)\/∃k,u=some (.int k n):=by
 cases x with
 |none=>simp only[Ay,afY]at h;exact .inl ⟨hn rfl,h.symm⟩
 |some v =>
  obtain⟨c,rfl,hc⟩:=hr v rfl;obtain⟨k,rfl⟩:=Es hc h;exact .inr ⟨k,rfl⟩
theorem zb{ti:TypeInfo} (hu:P.underlying t=some (.slice e)) (hi:P.info? e=some ti){lo hi' mx:Option Value}{h m:Nat}
  (hlo:(lo=none/\l=0)\/∃k,lo=some (.int k l)) (hhi:(hi'=none/\h=n)\/∃k,hi'=some (.int k h)) (Sv:(mx=none/\m=cap)\/(hi'≠none/\∃k,mx=some (.int k m)))
  (hlh:l<=h) (hhm:h<=m) (hmc:m<=cap) (w:World) :
  (Instr.sliceAt t (.slice a n cap) lo hi' mx).run P w=.ok (.slice (if m=l then a else a.map (·.add (l*ti.size))) (h-l) (m-l)) w:=by
 have b:∀(k:IntKind) (i y:Nat) (c:BoundsCode),i<=y->(Instr.sliceBound (.int k i) y c).run P w=.ok i w:=by intro k i y c hh;simp [Instr.sliceBound,asIntOf,hh]
 rcases hlo with ⟨rfl,rfl⟩|⟨kl,rfl⟩ <;> rcases hhi with ⟨rfl,rfl⟩|⟨kh,rfl⟩ <;> rcases Sv with ⟨rfl,rfl⟩|⟨cB,km,rfl⟩ <;>
  first
   |(exact absurd rfl cB)
   |simp [Instr.sliceAt,Instr.slice,run_underlying hu,Instr.sliceBounds,b,hlh,hhm,hmc,sizeOf,typeInfo,hi]
theorem cJ.chunk{cs:List D}{a:Addr}{len:Nat} (hr:cJ O w (.el cs) (.pointer (some a))) (hlen:cs.length=len*z) (hn:l+n<=len) :
  cJ O w (.sl (sC cs z l n)) (.slice (some (if len=l then a else a.add (l*z))) n (len-l)):=by
 cases hr with
 |el _ _ f h1 h2 h3 =>
  have hl:(sC cs z l n).length=n:=by simp [sC]
  by_cases gp:n=0
  ·subst gp;exact cJ.sl [] _ (len-l) 0 (λ_ _=>undef) (by simp) (by simp) (by simp) (by simp) (by simp)
  ·rw[ap (by omega),gk h1];have ep:∀(i j:Nat) (x:D),((sC cs z l n)[i]?.bind (·[j]?))=some x->cs[(l+i)*z+j]?=some x:=by
    intro i j x hx;unfold sC at hx;rw[afO]at hx;cases hi:(List.range n)[i]? with
    |none=>rw[hi]at hx;cases hx
    |some k =>
     have hk:k=i:=by have:=List.getElem?_eq_some_iff.1 hi;obtain⟨h1,h2⟩:=this;simpa using h2.symm
     subst hk;rw[hi]at hx;simp only[afV,agE]at hx;rw[agt]at hx;split at hx
     ·rwa [agR]at hx
     ·cases hx
   have:=cJ.sl (O:=O) (w:=w) (sC cs z l n) ⟨a.block,a.off+l*z,none⟩ (len-l) z (λi j=>f ((l+i)*z+j)) (by omega) (λ_=>rfl)
    (λe he=>by
     unfold sC at he;obtain⟨i,hi,rfl⟩:=List.mem_map.1 he;have hi:=List.mem_range.1 hi;have:=agw z (show l+i+1<=len by omega);rw[agL,Nat.one_mul]at this;rw[agN,List.length_drop];omega)
    (λi j x hx=>by
     have:=h2 _ x (ep i j x hx);have e:a.off+((l+i)*z+j)=a.off+l*z+i*z+j:=by rw[agL];omega
     rw[e]at this;exact this)
    (λi j x hx=>h3 _ x (ep i j x hx))
   rw[hl]at this;exact this
theorem DN (hx:aA σ s w x ux)
  (hl:∀v,lo=some v->∃c,ul=some c/\aA σ s w v c) (Uf:lo=none->ul=none) (hh:∀v,hi=some v->∃c,uh=some c/\aA σ s w v c) (YN:hi=none->uh=none)
  (hmn:mx=none->um=none) (h:lQ P t x lo hi mx K) :
  ∃v c,(Instr.sliceAt t ux ul uh um).run P w=.ok c w/\aA σ s w v c/\K v:=by
 unfold lQ at h;split at h
 ·exact h.elim
 rename_i len z hz;obtain⟨e,ti,e1,e2,e3⟩:=Cu hz;split at h
 case h_2=>exact h.elim
 rename_i cs l h' rT Oz;obtain⟨⟨⟨b1,b2,b3⟩,hlen⟩,hK⟩:=h;obtain⟨L,rfl⟩:=Int.eq_ofNat_of_zero_le b1;obtain⟨H,rfl⟩:=Int.eq_ofNat_of_zero_le (show 0<=h' by omega);have vu:=xg hl Uf rT;have RB:=xg hh YN Oz;have RC:=hmn rfl;subst RC;cases hx with|d hx=>?_
 have Xx:=hx;cases hx with|el _ a f h1 h2 h3=>?_
 have hr:=cJ.chunk (l:=L) (n:=H-L) Xx hlen (by omega);rw[<- e3]at hr;refine⟨_,_,?_,.d hr,by rw[show ((H:Int)-L).toNat=H-L by omega,afT,<- e3]at hK;exact hK⟩;have b:∀(k:IntKind) (i y:Nat) (c:BoundsCode),i<=y->(Instr.sliceBound (.int k i) y c).run P w=.ok i w:=by intro k i y c hh;simp [Instr.sliceBound,asIntOf,hh]
 have hL:L<=H:=by omega
 have hH:H<=len:=by omega
 rcases vu with ⟨rfl,vu⟩|⟨kl,rfl⟩ <;> rcases RB with ⟨rfl,RB⟩|⟨kh,rfl⟩
 ·obtain rfl:L=0:=by omega
  obtain rfl:H=len:=by omega
  simp [Instr.sliceAt,run_underlying e1,Instr.sureAddr,Instr.sliceBounds,sizeOf,typeInfo,e2]
 ·obtain rfl:L=0:=by omega
  simp [Instr.sliceAt,run_underlying e1,Instr.sureAddr,Instr.sliceBounds,b,hH,sizeOf,typeInfo,e2]
 ·obtain rfl:H=len:=by omega
  simp [Instr.sliceAt,run_underlying e1,Instr.sureAddr,Instr.sliceBounds,b,hL,sizeOf,typeInfo,e2]
 ·simp [Instr.sliceAt,run_underlying e1,Instr.sureAddr,Instr.sliceBounds,b,hL,hH,sizeOf,typeInfo,e2]
theorem IX (hx:aA σ s w x ux)
  (hl:∀v,lo=some v->∃c,ul=some c/\aA σ s w v c) (Uf:lo=none->ul=none) (hh:∀v,hi=some v->∃c,uh=some c/\aA σ s w v c) (YN:hi=none->uh=none)
  (hm:∀v,mx=some v->∃c,um=some c/\aA σ s w v c) (hmn:mx=none->um=none) (h:kU P t x lo hi mx s K) :
  ∃v c,(Instr.sliceAt t ux ul uh um).run P w=.ok c w/\aA σ s w v c/\K v:=by
 unfold kU at h;split at h
 ·exact DN hx hl Uf hh YN hmn h
 rename_i z hz;obtain⟨e,ti,e1,e2,e3⟩:=I2 hz;split at h
 ·exact h.elim
 rename_i es Eb;split at h
 case h_2=>exact h.elim
 rename_i l h' rT Oz;obtain⟨⟨b1,b2,b3⟩,h⟩:=h;obtain⟨L,rfl⟩:=Int.eq_ofNat_of_zero_le b1;obtain⟨H,rfl⟩:=Int.eq_ofNat_of_zero_le (show 0<=h' by omega);have vu:=xg hl Uf rT;have RB:=xg hh YN Oz;have CZ:(ul=none/\L=0)\/∃k,ul=some (.int k (L:Int)):=vu.imp (λh=>⟨h.1,by omega⟩) id;have e4:((H:Int)-L).toNat=H-L:=by omega
 simp only[afT,e4]at h;have data:∀(aw:List (List D)),cJ (Own σ s) w (.sl aw) ux->es.length=aw.length->(L=0\/∀e∈aw,e.length=z)->∀(M:Nat),H<=M->(∀a n cap,ux=.slice a n cap->M<=cap/\((um=none/\M=cap)\/(uh≠none/\∃k,um=some (.int k (M:Int))))) ->
   ∃c a cap,ux=.slice a aw.length cap/\(Instr.sliceAt t ux ul uh um).run P w=.ok c w/\cJ (Own σ s) w (.sl ((aw.drop L).take (H-L))) c/\c=.slice (if M=L then a else a.map (·.add (L*z))) (H-L) (M-L):=by
  intro aw hd hlen hzz M hM Bc;have hu:∃a n cap,ux=.slice a n cap:=by cases hd <;> exact⟨_,_,_,rfl⟩
  obtain⟨a,n,cap,rfl⟩:=hu;have hn:n=aw.length/\aw.length<=cap:=by cases hd <;> simp_all
  obtain⟨rfl,Av⟩:=hn;obtain⟨c1,c2⟩:=Bc a _ cap rfl;have eu:=zb (P:=P) e1 e2 (a:=a) (n:=aw.length) (cap:=cap) (lo:=ul) (hi':=uh) (mx:=um) (l:=L) (h:=H) (m:=M) CZ (RB.imp (λh=>⟨h.1,by omega⟩) id) c2 (by omega) hM c1 w;rw[e3]at eu;exact⟨_,a,cap,rfl,eu,cJ.sub hd (by omega) (by omega) hM c1 hzz,rfl⟩
 split at h
 ·
  rename_i aw;have hd:cJ (Own σ s) w (.sl aw) ux:=nX hx rfl;have hlen:es.length=aw.length:=by simp only[iy,afY]at Eb;rw[<- Eb];simp
  have hu:∃a n cap,ux=.slice a n cap:=by cases hd <;> exact⟨_,_,_,rfl⟩
  obtain⟨a,n,cap,rfl⟩:=hu;have hn:n=aw.length/\aw.length<=cap:=by cases hd <;> simp_all
  obtain⟨c,_,_,_,r1,r2,_⟩:=data aw hd hlen (h.1.imp (by omega) id) cap (by omega) (λa' n' nW he=>by cases he;exact⟨af3 _,.inl ⟨hmn rfl,rfl⟩⟩);exact⟨_,c,r1,.d r2,h.2⟩
 ·rename_i aw;have hd:cJ (Own σ s) w (.sl aw) ux:=nX hx rfl;have hlen:es.length=aw.length:=by simp only[iy,afY]at Eb;rw[<- Eb];simp
  have hu:∃a n cap,ux=.slice a n cap:=by cases hd <;> exact⟨_,_,_,rfl⟩
  obtain⟨a,n,cap,rfl⟩:=hu;have hn:n=aw.length/\aw.length<=cap:=by cases hd <;> simp_all
  have fK:cap=aw.length:=by
   cases hx with|fu _=>rfl
  obtain⟨c,a',nW,hq,r1,r2,r3⟩:=data aw hd hlen (h.1.imp (by omega) id) cap (by omega) (λa' n' nW he=>by cases he;exact⟨af3 _,.inl ⟨hmn rfl,rfl⟩⟩);cases aw with
  |nil =>
   have hL:L=0:=by simp only[af0]at hlen;omega
   have hH:H=0:=by simp only[af0]at hlen;omega
   subst hL;subst hH;subst fK;refine⟨_,c,r1,?_,h.2⟩;rw[r3]at r2 ⊢;exact .fu (aw:=[]) r2
  |cons x xs=>exact⟨_,c,r1,.d r2,h.2⟩
 ·rename_i aw m;obtain⟨h1,h2,h3,h⟩:=h;have hd:cJ (Own σ s) w (.sl aw) ux:=nX hx rfl;have hlen:es.length=aw.length:=by simp only[iy,afY]at Eb;rw[<- Eb];simp
  obtain⟨cm,UB,Vk⟩:=hm m rfl;obtain⟨km,rfl⟩:=Es Vk h2;have ZP:uh≠none:=by
   cases hi with
   |none=>simp at h1
   |some v=>obtain⟨c,rfl,_⟩:=hh v rfl;simp
  have hu:∃a n cap,ux=.slice a n cap:=by cases hd <;> exact⟨_,_,_,rfl⟩
  obtain⟨a,n,cap,rfl⟩:=hu;have hn:n=aw.length/\aw.length<=cap:=by cases hd <;> simp_all
  obtain⟨c,a',nW,_,r1,r2,r3⟩:=data aw hd hlen (h3.imp (by omega) id) H (af3 _) (λa' n' nW he=>by cases he;exact⟨by omega,.inr ⟨ZP,km,UB⟩⟩);refine⟨_,c,r1,?_,h⟩;have CW:((aw.drop L).take (H-L)).length=H-L:=by simp;omega
  rw[r3]at r2 ⊢;have:aA σ s w (.fu ((aw.drop L).take (H-L))) (.slice (if H=L then a' else a'.map (·.add (L*z))) ((aw.drop L).take (H-L)).length ((aw.drop L).take (H-L)).length):=.fu (by rw[CW];exact r2);rw[CW]at this;exact this
 ·rename_i oid g UL n;obtain⟨o,ho,hg,Wx,hK⟩:=dZ h;clear h;cases hx with|so o' iY Dr Oy hk=>?_
  rw[ho]at iY;cases iY;have hn:es.length=n:=by
   simp only[iy,ho,hg]at Eb;split at Eb
   ·simp only[afY]at Eb;rw[<- Eb];simp;omega
   ·cases Eb
  rcases hk hg with ⟨qj,⟨aa,rfl⟩,rfl,rfl⟩|⟨b,bs,cp,E,arr,ez,hhp,rfl,wH,hfit⟩
  ·obtain rfl:L=0:=by omega
   obtain rfl:H=0:=by omega
   have eu:=zb (P:=P) e1 e2 (a:=aa) (n:=0) (cap:=0) (lo:=ul) (hi':=uh) (mx:=um) (l:=0) (h:=0) (m:=0) CZ (RB.imp (λh=>⟨h.1,rfl⟩) id) (.inl ⟨hmn rfl,rfl⟩) (by omega) (by omega) (by omega) w;rw[be (.inl rfl)]at hK;refine⟨_,_,eu,?_,hK⟩;exact .so o ho Dr ⟨_,_,rfl⟩ (λ_=>.inl ⟨qj,⟨aa,by simp⟩,rfl,rfl⟩)
  ·have eu:=zb (P:=P) e1 e2 (a:=some ⟨b,bs+UL*o.sz,none⟩) (n:=n) (cap:=cp) (lo:=ul) (hi':=uh) (mx:=um) (l:=L) (h:=H) (m:=cp) CZ (RB.imp (λh=>⟨h.1,by omega⟩) id) (.inl ⟨hmn rfl,rfl⟩) (by omega) (by omega) (by omega) w;by_cases az:(L:Int)=0\/(L:Int)<(H:Int)
   case neg =>
    rw[ap az]at hK;obtain rfl:H=L:=by omega
    refine⟨_,_,eu,.d ?_,hK⟩;have xi:∃a',(if cp=H then some (⟨b,bs+UL*o.sz,none⟩:Addr) else (some (⟨b,bs+UL*o.sz,none⟩:Addr)).map (·.add (H*ti.size)))=some a':=by split <;> exact⟨_,rfl⟩
    obtain⟨a',NP⟩:=xi;rw[NP,ahi];exact cJ.sl [] a' _ 0 (λ_ _=>undef) (by simp) (by simp) (by simp) (by simp) (by simp)
   rw[be az]at hK;refine⟨_,_,eu,?_,hK⟩;refine .so o ho Dr ⟨_,_,rfl⟩ (λ_=>.inr ⟨b,bs,cp-L,E,arr,ez,hhp,?_,by omega,?_⟩)
   ·rcases az with h0|h0
    ·obtain rfl:L=0:=by omega
     simp [Addr.add]
    ·rw[ap (by omega)];simp only[afV];rw[gk rfl,e3,Wx,agL];simp [agM]
   ·rw[show UL+L+(cp-L)=UL+cp by omega];exact hfit
 ·exact h.elim
def Jx (P:Program) (t:TypeId) (x:V) (K:V->Prop):Prop :=
 match P.underlying t with
 |some (.slice _)=>match x with
  |.fu aw=>K (.d (.sc (.int .i64 aw.length)))
  |_=>False
 |_=>False
theorem N8 (hx:aA σ s w x ux) (h:Jx P t x K) :
  ∃v c,(Builtin.cap_ #[t] ty #[ux]).run P w=.ok c w/\aA σ s w v c/\K v:=by
 unfold Jx at h;split at h
 ·rename_i e hu;split at h
  ·rename_i aw;cases hx with|fu _=>?_
   exact⟨_,.int .i64 aw.length,by simp [Builtin.cap_,run_underlying hu,goInt],.d (.sc _ rfl),h⟩
  ·exact h.elim
 ·exact h.elim
def lq (P:Program) (t:TypeId) (x:V) (s:List Obj) (K:V->Prop):Prop :=
 match P.underlying t with
 |some (.slice _)=>match x with
  |.d (.sl aw)=>K (.d (.sc (.int .i64 aw.length)))
  |.fu aw=>K (.d (.sc (.int .i64 aw.length)))
  |.so _ _ _ n=>K (.d (.sc (.int .i64 n)))
  |_=>False
 |some .string=>match x with
  |.d (.sc (.string b))=>K (.d (.sc (.int .i64 b.size)))
  |_=>False
 |_=>False
theorem M6 (hx:aA σ s w x ux) (h:lq P t x s K) :
  ∃v c,(Builtin.len_ #[t] ty #[ux]).run P w=.ok c w/\aA σ s w v c/\K v:=by
 unfold lq at h;split at h
 ·rename_i e hu;have fin:∀(a:Option Addr) (n cap:Nat),ux=.slice a n cap->K (.d (.sc (.int .i64 n)))->∃v c,(Builtin.len_ #[t] ty #[ux]).run P w=.ok c w/\aA σ s w v c/\K v:=by rintro a n cap rfl hk;exact⟨_,.int .i64 n,by simp [Builtin.len_,run_underlying hu,goInt],.d (.sc _ rfl),hk⟩
  split at h
  ·have hd:=nX hx rfl;cases hd <;> exact fin _ _ _ rfl h
  ·have hd:=nX hx rfl;cases hd <;> exact fin _ _ _ rfl h
  ·cases hx with|so o' iY Dr Oy hk=>?_
   obtain⟨aa,cp,rfl⟩:=Oy;exact fin _ _ _ rfl h
  ·exact h.elim
 ·rename_i hu;split at h
  ·cases hx with|d hx=>?_
   cases hx with|sc _ _=>?_
   exact⟨_,_,by simp [Builtin.len_,run_underlying hu,goInt],.d (.sc _ rfl),h⟩
  ·exact h.elim
 ·exact h.elim
end Go.VL
