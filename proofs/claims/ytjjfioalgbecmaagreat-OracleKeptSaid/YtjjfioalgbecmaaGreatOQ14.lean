/- A part of the proof (Vz Vza Vzb Vzc Vzd Vze). -/
import Derived.Test.YtjjfioalgbecmaaGreatOQ13
set_option linter.unusedSimpArgs false
set_option linter.unusedVariables false
set_option maxRecDepth 100000
set_option maxHeartbeats 80000000
namespace Go.VL
variable{cargs:List V}{f:FuncId}{s:List Obj}{P:Program}{args:List V}{K:V->List Obj->Prop}{w:World}{u:Value}{cs:List D}{ex:List D}{c:Value}{s':List Obj}
theorem cV (ρ:List Nat){exts Au:List Obj}{r r':V} (h:ar P f cargs exts λv s'=>v=r/\s'=Au) (hnd:ρ.Nodup) (hl:Au.length=exts.length)
  (hs:ρ.map (λi=>s[i]?)=exts.map (λo=>some (aN ρ o))) (ha:args=cargs.map (aE ρ)) (wY:aj.go exts.length cargs=true) (xA:exts.all (aK exts.length)=true) (hr:aE ρ r=r') (hk:K r' (aJ s ρ (Au.map (aN ρ)))):ar P f args s K:=by
 have hρ:ρ.length=exts.length:=by simpa using congrArg List.length hs
 refine rE h ρ hρ hnd (λk o ho=>?_) ha wY xA λv s' hv=>?_
 ·have h1:=congrArg (λl=>l[k]?) hs;simp only[List.getElem?_map,ho,ajS]at h1;have hk:k<ρ.length:=by rw[hρ];exact(List.getElem?_eq_some_iff.1 ho).1
  rw[List.getElem?_eq_getElem hk]at h1;simp only[ajS,ajU]at h1;simpa [List.getD,List.getElem?_eq_getElem hk]using h1
 ·obtain⟨rfl,rfl⟩:=hv;exact⟨hl,by rw[hr];exact hk⟩
theorem LU{s1:List Obj}{r:V}{rd wr:List Nat} (h:ar P f args s λv s'=>v=r/\s'=s1) (U3:∀i,i<s.length->i∈rd) (hwl:s1.length=wr.length)
  (hwr:aJ s wr s1=s1) (hk:K r s1):GO P rd wr f args s K:=by
 refine⟨r,s1,hwl,λs' hl hs=>?_,by rw[hwr];exact hk⟩;have e:s'=s:=by
  apply List.ext_getElem?;intro i;rcases akd i s.length with hi|hi
  ·exact hs i (U3 i hi)
  ·rw[List.getElem?_eq_none ae,List.getElem?_eq_none hi]
 subst e;rw[hwr];exact h
theorem cU.Vs {O:Nat->Prop} (h:cU O w (.el (cs++ex)) u):cU O w (.el cs) u:=by
 generalize hd:D.el (cs++ex)=x at h;cases h with
 |el ZM a f h1 h2 h3 =>
  cases hd;exact .el cs a f h1 (λj x hx=>h2 j x (by rw[List.getElem?_append_left (List.getElem?_eq_some_iff.1 hx).1];exact hx)) (λj x hx=>h3 j x (by rw[List.getElem?_append_left (List.getElem?_eq_some_iff.1 hx).1];exact hx))
 |_=>cases hd
theorem uM (h:ar P f (.d (.el cs)::args) s K):ar P f (.d (.el (cs++ex))::args) s K:=by
 refine⟨h.1,λσ w vals hI hl hv=>h.2 σ w vals hI (by simpa using hl) λi x hx=>?_⟩;cases i with
 |zero =>
  simp at hx;subst hx;have:=hv 0 _ rfl;generalize vals.getD 0 undef=u at this ⊢;cases this with|d hd=>exact .d hd.Vs
 |succ i=>exact hv (i+1) x (by simpa using hx)
theorem CB {σ:Gh} (hI:Inv σ s w) {k:Nat}{o:Obj}{els':List (List V)} (ho:s[k]?=some o) (hlen:∀e∈els',e.length=o.sz) (Ec:els'.length=o.au.length) (R4:∀es,o.au≠fz es)
  (h:∀(i j:Nat) (x':V),(els'[i]?.bind (·[j]?))=some x'->∃x,(o.au[i]?.bind (·[j]?))=some x/\∀u,ay σ s w x u->ay σ s w x' u) :
  aC σ s w σ (s.set k { o with au:=els' }) w/\Inv σ (s.set k { o with au:=els' }) w:=by
 have hk:=(List.getElem?_eq_some_iff.1 ho).1;have get:∀(id:Nat) (o':Obj),(s.set k { o with au:=els' })[id]?=some o'->∃o1,s[id]?=some o1/\o1.live=o'.live/\o1.g=o'.g/\o1.sz=o'.sz:=by
  intro id o' h';rw[List.getElem?_set]at h';split at h'
  ·rename_i he;subst he;try rw[be hk]at h'
   simp only[ajU]at h';subst h';exact⟨o,ho,rfl,rfl,rfl⟩
  ·exact⟨o',h',rfl,rfl,rfl⟩
 have put:∀(id:Nat) (o1:Obj),s[id]?=some o1->∃o',(s.set k { o with au:=els' })[id]?=some o'/\o'.g=o1.g/\o'.sz=o1.sz/\o'.live=o1.live:=by
  intro id o1 h';rw[List.getElem?_set];split
  ·rename_i he;subst he;rw[ho]at h';simp only[ajU]at h';subst h';first|exact⟨_,rfl,rfl,rfl,rfl⟩|exact⟨_,by rw[be hk],rfl,rfl,rfl⟩
  ·exact⟨o1,h',rfl,rfl,rfl⟩
 have hE:aC σ s w σ (s.set k { o with au:=els' }) w:=by
  refine⟨rfl,rfl,rfl,ajZ _,λ_ _ _=>rfl,λ_ arr _ _ h=>⟨arr,h,rfl⟩,λ_ _ h=>h,?_,?_,rfl,λ_ _ _=>rfl⟩
  ·rintro b (hb|⟨id,o',base,h1,h2,h3⟩)
   ·exact .inl (.inl hb)
   ·obtain⟨o1,k1,k2,_⟩:=get id o' h1;exact .inl (.inr ⟨id,o1,base,k1,by rw[k2];exact h2,h3⟩)
  ·intro id o1 h1;obtain⟨o',k1,k2,k3,_⟩:=put id o1 h1;exact⟨o',k1,ae,λ_=>⟨k3,rfl⟩⟩
 refine⟨hE,⟨?_,?_,hI.low,?_⟩⟩
 ·intro id o' h1;by_cases he:id=k
  ·subst he;rw[List.getElem?_set_self hk]at h1;simp only[ajU]at h1;subst h1;rcases hI.content id o ho with (⟨c1,c2⟩|⟨b,es,c,c1,c2,c3⟩)|⟨b,base,arr,E,c1,c2,c3,c4,c5⟩
   ·left;exact .inl ⟨c1,akj (by show els'.length=0;rw[Ec,c2];rfl)⟩
   ·exact(R4 es c3).elim
   ·right;refine⟨b,base,arr,E,c1,c2,hlen,by show base+els'.length*o.sz<=arr.size;rw[Ec];exact c4,λi j x' hx=>?_⟩;obtain⟨x,y1,y2⟩:=h i j x' hx;obtain⟨u,z1,z2,z3⟩:=c5 i j x y1;exact⟨u,z1,z2,(y2 u z3).aR hE⟩
  ·rw[List.getElem?_set_ne (Ne.symm he)]at h1;rcases hI.content id o' h1 with c|⟨b,base,arr,E,c1,c2,c3,c4,c5⟩
   ·exact .inl c
   ·right;refine⟨b,base,arr,E,c1,c2,c3,c4,λi j x hx=>?_⟩;obtain⟨u,z1,z2,z3⟩:=c5 i j x hx;exact⟨u,z1,z2,z3.aR hE⟩
 ·intro id kX o1 o2 b base bN h1 h2 h3 h4 h5;obtain⟨p1,q1,q2,_⟩:=get id o1 h1;obtain⟨p2,r1,_⟩:=get kX o2 h2;exact hI.inj id kX p1 p2 b base bN q1 r1 (by rw[q2];exact h3) h4 h5
 ·intro id o1 b base h1 h2;obtain⟨p1,q1,_⟩:=get id o1 h1;exact hI.apart id p1 b base q1 h2
theorem fX{o:Obj}{pre post:List V} (k sz:Nat) (ho:s[k]?=some o) (gD:o.au=[pre++.fu []::post]) (eZ:pre.length+1+post.length=o.sz)
  (h:ar P f args (s.set k { o with au:=[pre++.so s.length 0 0 0::post] }++[⟨0,true,sz,[]⟩]) K):ar P f args s K:=by
 refine⟨h.1,λσ w vals hI hl hv=>?_⟩;have hk:=(List.getElem?_eq_some_iff.1 ho).1;have hp:=mV (p:=none) (o':=⟨0,true,sz,[]⟩) (w':=w) hI rfl rfl rfl (ajZ _) (λ_ _=>rfl) (λ_ _ h'=>by cases h') (λ_=>.inl (.inl ⟨rfl,rfl⟩));have SB:(s++[(⟨0,true,sz,[]⟩:Obj)])[k]?=some o:=by rw[List.getElem?_append_left hk];exact ho
 have hr:=CB hp.2 (els':=[pre++.so s.length 0 0 0::post]) SB (by intro e he;rw[List.mem_singleton.1 he];simp;omega) (by rw[gD];rfl) (by
  intro es he;rw[gD]at he;have hm:(pre++.fu []::post)∈fz es:=by rw[<- he];exact List.mem_singleton.2 rfl
  unfold fz at hm;obtain⟨x,_,hx⟩:=List.mem_map.1 hm;have hf:V.fu []∈[V.d (.sc x.key),V.d (.sc x.val)]:=by rw[hx];simp
  simp at hf) (λi j x' hx=>by
  rw[gD];cases i with
  |succ i=>simp at hx
  |zero =>
   simp only[List.getElem?_cons_zero,akA]at hx ⊢;by_cases hj:j=pre.length
   ·subst hj;rw[List.getElem?_append_right (ajZ _),akQ]at hx ⊢;simp only[List.getElem?_cons_zero,ajU]at hx ⊢;subst hx;refine⟨_,rfl,λu hu=>?_⟩;cases hu with|fu hx=>?_
    exact .so ⟨0,true,sz,[]⟩ ak (ajZ _) ⟨_,_,rfl⟩ (λ_=>.inl ⟨bP _ _ _,⟨_,rfl⟩,rfl,rfl⟩)
   ·refine⟨x',?_,λu hu=>hu⟩;rcases akd j pre.length with az|gx
    ·rw[List.getElem?_append_left az]at hx ⊢;exact hx
    ·rw[List.getElem?_append_right gx]at hx ⊢;cases hm:j-pre.length with
     |zero=>omega
     |succ m=>rw[hm]at hx;simpa using hx)
 have eO:(s++[(⟨0,true,sz,[]⟩:Obj)]).set k { o with au:=[pre++.so s.length 0 0 0::post] }=s.set k { o with au:=[pre++.so s.length 0 0 0::post] }++[⟨0,true,sz,[]⟩]:=by rw[List.set_append_left _ _ hk]
 rw[eO]at hr;have hE:=hp.1.trans hr.1;exact(h.2 _ w vals hr.2 hl (λi x hx=>(hv i x hx).aR hE)).mono λ_ _ ⟨u,v,σ',s',a,b,c,d,e⟩=>⟨u,v,σ',s',a,hE.trans b,c,d,e⟩
theorem ay.aaJ {σ σ':Gh}{w':World} (h:ay σ s w (.d (.sc c)) u):ay σ' s' w' (.d (.sc c)) u:=by
 cases h with|d h=>?_
 cases h with|sc _ hc=>exact .d (.sc _ hc)
theorem zR (ids:List Nat) (h:aM P f cargs (.d (.sc c)))
  (hc:bc.go (br s ids).length (br s ids) args=some cargs) (wY:aj.go 0 cargs=true) (hk:K (.d (.sc c)) s):ar P f args s K:=by
 refine⟨h.1,λσ w vals hI hl hv=>?_⟩;obtain⟨hE0,Vw⟩:=oE ids s hI;obtain⟨k1,k2⟩:=rb hc;have e1:∀b,Own ⟨λ_=>none,Own σ (br s ids)⟩ [] b->Own σ (br s ids) b:=by
  rintro b (h|⟨id,o,base,h1,_⟩)
  ·exact h
  ·simp at h1
 refine(h.2 ⟨λ_=>none,Own σ (br s ids)⟩ w vals ⟨λid o ho=>by simp at ho,λid _ o _ _ _ _ ho=>by simp at ho,λb hb=>wP Vw hb,λid o _ _ ho=>by simp at ho⟩ ae
  (λi x hx=>by
   obtain⟨y,hy,hf⟩:=k2 i x hx;have:=iO Vw ((hv i y hy).aR hE0) hf;rw[akg]at this;exact this.move (du wY i x hx) e1)).mono λe w' ⟨u,v,σ',s',he,hE,fS,hR,hv',jz⟩=>?_
 subst hv';subst jz;have same:=tv (w':=w') hI hE.os hE.tape hE.output hE.size λb hb=>by
  by_cases ho:Own σ (br s ids) b
  ·exact hE.fj b hb ho
  ·exact hE.aZ b hb λh'=>ho (e1 b h')
 exact⟨u,_,σ,s,he,same.1,same.2,hR.aaJ,hk⟩
theorem bA.K4 {L:Nat}{e e':Env} (h:bW e s e' s'):bA L e s e' s':=λσ0 s0 w0 σ w N a _ hE hI hR=>h σ0 s0 w0 σ w N a hE hI hR
theorem bA.freeze {L:Nat}{e:Env} (ids kI:List Nat):bA L e s (jE (br s ids) kI e) (br s ids):=.K4 (.freeze ids kI)
def cJ (aZ:List Nat):V->V
 |.so id g lo n=>match aZ.idxOf? id with|some k=>.so k g lo n|none=>.any
 |.rf id g i off=>match aZ.idxOf? id with|some k=>.rf k g i off|none=>.any
 |.pp id g i off b a=>match aZ.idxOf? id with|some k=>.pp k g i off b a|none=>.any
 |.mp id g=>match aZ.idxOf? id with|some k=>.mp k g|none=>.any
 |.ag cs=>.ag (go cs)
 |.tu cs=>.tu (go cs)
 |.bx v=>.bx (cJ aZ v)
 |.cap lo hi v=>.cap lo hi (cJ aZ v)
 |.cl fn first ai=>.cl fn (go first) (go ai)
 |.d x=>.d x
 |.fu au=>.fu au
 |.un=>.un
 |.any=>.any
where go:List V->List V
 |[]=>[]
 |v::vs=>cJ aZ v::go vs
theorem ov (aZ:List Nat):∀(l:List V),cJ.go aZ l=l.map (cJ aZ)
 |[]=>rfl
 |v::vs=>by simp [cJ.go,ov aZ vs]
def di (aZ:List Nat) (o:Obj):Obj:={ o with au:=o.au.map (cJ.go aZ) }
def kx (aZ:List Nat) (s:List Obj):List Obj:=aZ.map λid=>di aZ (s.getD id hole)
def SS (aZ:List Nat) (σ:Gh):Gh:=⟨λk=>match aZ[k]? with|some id=>σ id|none=>none,σ.base⟩
section Dv
variable {σ:Gh}{s:List Obj}{w:World}{aZ:List Nat}
variable{k:Nat}{id:Nat}
theorem Jt{o:Obj} (h:(kx aZ s)[k]?=some o):∃id,aZ[k]?=some id/\o=di aZ (s.getD id hole):=by unfold kx at h;rw[List.getElem?_map]at h;obtain⟨id,h1,h2⟩:=Option.map_eq_some_iff.1 h;exact⟨id,h1,h2.symm⟩
theorem xG{o:Obj} (h:aZ[k]?=some id) (ho:s[id]?=some o):(kx aZ s)[k]?=some (di aZ o):=by unfold kx;rw[List.getElem?_map,h];simp [List.getD,ho]
theorem mC (h:aZ[k]?=some id):SS aZ σ k=σ id:=by show (match aZ[k]? with|some id=>σ id|none=>none)=σ id;rw[h]
theorem BJ (az:∀id∈aZ,id<s.length) {b:Nat} (h:Own (SS aZ σ) (kx aZ s) b):Own σ s b:=by
 rcases h with h|⟨k,o,base,h1,h2,h3⟩
 ·exact .inl h
 ·obtain⟨id,k1,rfl⟩:=Jt h1;have hi:=az id (List.mem_of_getElem? k1);rw[mC k1]at h3;have hg:s.getD id hole=s[id]:=by simp [List.getD,List.getElem?_eq_getElem hi]
  rw[hg]at h2;exact .inr ⟨id,s[id],base,by simp [hi],h2,h3⟩
theorem vy (h:aZ.idxOf? id=some k):aZ[k]?=some id:=by rw[List.idxOf?_eq_some_iff]at h;obtain⟨h1,h2,_⟩:=h;rw[List.getElem?_eq_getElem h1];simpa using h2
theorem ay.Dv (az:∀id∈aZ,id<s.length) {x:V}{u:Value} (hr:ay σ s w x u):ay (SS aZ σ) (kx aZ s) w (cJ aZ x) u:=by
 have g:∀(cs:List V) (i:Nat) (y:V),(cs.map (cJ aZ))[i]?=some y->∃x,cs[i]?=some x/\cJ aZ x=y:=λcs i y hy=>by rw[List.getElem?_map]at hy;exact Option.map_eq_some_iff.1 hy
 induction hr with
 |d hx=>exact .d (hx.own λb hb=>BJ az hb)
 |fu hx=>exact .fu (hx.own λb hb=>BJ az hb)
 |un=>exact .un
 |any=>exact .any
 |ag h1 h2 _ ih =>
  simp only[cJ,ov];refine .ag (by simpa using h1) (λi y hy=>?_) (λi y hy=>?_)
  ·obtain⟨x,hx,rfl⟩:=g _ i y hy;exact h2 i x hx
  ·obtain⟨x,hx,rfl⟩:=g _ i y hy;exact ih i x hx
 |tu h1 _ ih =>
  simp only[cJ,ov];refine .tu (by simpa using h1) (λi y hy=>?_);obtain⟨x,hx,rfl⟩:=g _ i y hy;exact ih i x hx
 |bx h1 h2 h3 hu _ ih=>simp only[cJ];exact .bx h1 h2 (λh'=>h3 (BJ az h')) hu ih
 |cap h1 _ ih=>simp only[cJ];exact .cap h1 ih
 |cl h1 _ h3 _ sM xr =>
  simp only[cJ,ov];refine .cl (by simpa using h1) (λi y hy=>?_) (by simpa using h3) (λi y hy=>?_)
  ·obtain⟨x,hx,rfl⟩:=g _ i y hy;exact sM i x hx
  ·obtain⟨x,hx,rfl⟩:=g _ i y hy;exact xr i x hx
 |so o ho hg hu hk =>
  simp only[cJ];split
  ·rename_i k fJ;have fJ:=vy fJ;refine .so (di aZ o) (xG fJ ho) hg hu λwG=>?_;have:=hk wG;unfold zq at this ⊢;rw[mC fJ];exact this
  ·exact .any
 |rf o ho hg hu hk =>
  simp only[cJ];split
  ·rename_i k fJ;have fJ:=vy fJ;refine .rf (di aZ o) (xG fJ ho) hg hu λwG=>?_;rw[mC fJ];exact hk wG
  ·exact .any
 |pp o ho hg hk =>
  simp only[cJ];split
  ·rename_i k fJ;have fJ:=vy fJ;refine .pp (di aZ o) (xG fJ ho) hg λwG=>?_;rw[mC fJ];exact hk wG
  ·exact .any
 |mp o ho hg hu hk =>
  simp only[cJ];split
  ·rename_i k fJ;have fJ:=vy fJ;refine .mp (di aZ o) (xG fJ ho) hg hu λwG=>?_;rw[mC fJ];exact hk wG
  ·exact .any
theorem Inv.Dv (hI:Inv σ s w) (az:∀id∈aZ,id<s.length) (hnd:aZ.Nodup):Inv (SS aZ σ) (kx aZ s) w:=by
 have get:∀(k:Nat) (o:Obj),(kx aZ s)[k]?=some o->∃id o',aZ[k]?=some id/\s[id]?=some o'/\o=di aZ o':=by intro k o h;obtain⟨id,k1,rfl⟩:=Jt h;have hi:=az id (List.mem_of_getElem? k1);exact⟨id,s[id],k1,by simp [hi],by simp [List.getD,List.getElem?_eq_getElem hi]⟩
 refine⟨λk o ho=>?_,λk k' o o' b base bN h1 h2 h3 h4 h5=>?_,hI.low,λk o b base h1 h2=>?_⟩
 ·obtain⟨id,o',k1,k2,rfl⟩:=get k o ho;rw[mC k1];rcases hI.content id o' k2 with (⟨h1,h2⟩|⟨b,es,c,h1,h2,h3⟩)|⟨b,base,arr,E,h1,h2,h3,h4,h5⟩
  ·exact .inl (.inl ⟨h1,by simp [di,h2]⟩)
  ·refine .inl (.inr ⟨b,es,c,h1,h2,?_⟩);simp only[di,h3,fz,akq];apply akz;intro e _;rfl
  ·refine .inr ⟨b,base,arr,E,h1,h2,λc hc=>?_,by simpa [di]using h4,λi j x hx=>?_⟩
   ·obtain⟨c',Rl,rfl⟩:=List.mem_map.1 hc;rw[ov];simpa [di]using h3 c' Rl
   ·simp only[di,List.getElem?_map]at hx;cases hi:o'.au[i]? with
    |none=>simp [hi]at hx
    |some c =>
     simp only[hi,ajS,akA,ov,List.getElem?_map]at hx;obtain⟨y,hy,rfl⟩:=Option.map_eq_some_iff.1 hx;obtain⟨u,g1,g2,g3⟩:=h5 i j y (by simp [hi,hy]);exact⟨u,g1,g2,g3.Dv az⟩
 ·obtain⟨id,p,k1,k2,rfl⟩:=get k o h1;obtain⟨kX,p',l1,l2,rfl⟩:=get k' o' h2;rw[mC k1]at h4;rw[mC l1]at h5;have e:=hI.inj id kX p p' b base bN k2 l2 h3 h4 h5;subst e;obtain⟨a1,a2⟩:=List.getElem?_eq_some_iff.1 k1;obtain⟨b1,b2⟩:=List.getElem?_eq_some_iff.1 l1;exact(List.getElem_inj hnd).1 (a2.trans b2.symm)
 ·obtain⟨id,p,k1,k2,rfl⟩:=get k o h1;rw[mC k1]at h2;exact hI.apart id p b base k2 h2
theorem aC.Dv {σ0:Gh}{s0:List Obj}{w0:World} (hE:aC σ0 s0 w0 σ s w) (az:∀id∈aZ,id<s.length) (Um:∀id,id<s0.length->aZ[id]?=some id):aC σ0 s0 w0 (SS aZ σ) (kx aZ s) w:=by refine⟨hE.os,hE.tape,hE.output,hE.size,hE.aZ,hE.shape,hE.qc,λb hb=>hE.own b (BJ az hb),λid o ho=>?_,hE.base,hE.fj⟩;obtain⟨o',h1,h2,h3⟩:=hE.iN id o ho;have hk:=Um id (List.getElem?_eq_some_iff.1 ho).1;exact⟨di aZ o',xG hk h1,h2,λhe=>⟨(h3 he).1,by rw[mC hk];exact(h3 he).2⟩⟩
end Dv
variable{aZ:List Nat}{s:List Obj}{lim:Nat}
def An (L:Nat) (aZ:List Nat) (n:Nat):Bool:=aZ.Nodup&&aZ.all (λid=>decide (id<n))&&((List.range L).all λid=>aZ[id]? == some id)
theorem tL {L n:Nat} (h:An L aZ n=true):aZ.Nodup/\(∀id∈aZ,id<n)/\∀id,id<L->aZ[id]?=some id:=by unfold An at h;simp only[aj5,decide_eq_true_eq,aj3,beq_iff_eq,List.mem_range]at h;exact⟨h.1.1,h.1.2,h.2⟩
def Na (aZ kI:List Nat) (e:Env):Env:=λt=>if kI.contains t then cJ aZ (e t) else .any
theorem xQ {kI:List Nat}{e:Env}{t:Nat}:Na aZ kI e t=if kI.contains t then cJ aZ (e t) else .any:=(rfl)
theorem bA.Dv {L:Nat}{e:Env} (aZ kI:List Nat) (h:An L aZ s.length=true):bA L e s (Na aZ kI e) (kx aZ s):=by
 intro σ0 s0 w0 σ w N a kA hE hI hR;obtain⟨h1,h2,h3⟩:=tL h;refine⟨_,hE.Dv h2 (λid dc=>h3 id ae),hI.Dv h2 h1,hR.1,hR.2.1,λt=>?_⟩;unfold Na;split
 ·exact(hR.2.2 t).Dv h2
 ·exact .any
def v7 (L:Nat) (s:List Obj) (r:V) (K:V->List Obj->Prop):Prop:=∃aZ,An L aZ s.length=true/\K (cJ aZ r) (kx aZ s)
def Cl (P:Program) (rs:List ResultVar) (L:Nat) (K:V->List Obj->Prop) (ex:Exit) (e:Env) (s:List Obj):Prop:=Bx ex/\CS P rs e s λr=>v7 L s r K
theorem zE {P : Program} {f : FuncId} {fn : Func} {c : Code} {args : List V} {exts : List Obj} {K : V → List Obj → Prop} (hf : P.funcs[f]? = some fn) (hb : fn.body = some c) {N : Nat} (hN : fn.ntmps = N) {rs : Array ResultVar} (St : fn.results = rs) (hn : (fn.name != "runtime.NumGoroutine") = true)
  (lim M:Nat) (hl:exts.length<=lim) (ha:args.length<=N)
  (h:codeWp P N lim M c (Cl P rs.toList lim K) (iB args) exts):ar P f args exts K:=by
 subst hN;subst St;refine⟨by simp only[LH,hf,hn,hb,Option.isSome_some,akV],λσ w vals hI XD hv=>?_⟩;refine calls_of_wp hf hb ?_;have hR:dC σ exts w fn.ntmps (iB args) { tmps:=vals++Array.replicate (fn.ntmps-vals.size) undef,defers:=[] }:=by
  refine⟨rfl,cC,λt=>?_⟩;rw[nR];by_cases ht:t<args.length
  ·have h1:=hv t args[t] (by simp [ht]);have:(vals++Array.replicate (fn.ntmps-vals.size) undef).getD t undef=vals.getD t undef:=by rw[Array.getD_eq_getD_getElem?,Array.getElem?_append_left ae,Array.getD_eq_getD_getElem?]
   rw[this];simpa [ht]using h1
  ·have:(vals++Array.replicate (fn.ntmps-vals.size) undef).getD t undef=undef:=by rw[Array.getD_eq_getD_getElem?,Array.getElem?_append_right ae,Array.getElem?_replicate];split <;> rfl
   rw[this];simp [ht];exact .un
 refine wp_mono (nt hl c _ (iB args) exts σ w _ (aC.refl _ _ _) hI hR h) λex a' w' ⟨e',σ',s',hE,fS,iY,hex,hq⟩=>?_;obtain⟨v,u,k1,k2,k3⟩:=mP fS iY hq;obtain⟨aZ,h0,hK⟩:=k3;obtain⟨h1,h2,h3⟩:=tL h0;have fin:a'.defers=[]/\∃v,(results fn a'.tmps).run P w'=.ok v w'/\∃u Tg wm rR,Ending.returned v=.returned u/\aC σ exts w wm rR w'/\Inv wm rR w'/\ay wm rR w' Tg u/\K Tg rR:=by refine⟨iY.1,u,k1,?_⟩;exact⟨u,_,_,_,rfl,hE.Dv h2 (λid dc=>h3 id ae),fS.Dv h2 h1,k2.Dv h2,hK⟩
 rcases qM hex with rfl|rfl
 ·exact fin
 ·exact fin
def pY (ρ:List Nat) (s exts s':List Obj):List Nat:=ρ++List.range' s.length (s'.length-exts.length)
theorem tk:∀(ρ ρ':List Nat) (A B:List Obj) (s:List Obj),A.length=ρ.length->aJ s (ρ++ρ') (A++B)=aJ (aJ s ρ A) ρ' B
 |[],ρ',[],B,s,_=>by simp [aJ]
 |[],_,_::_,_,_,h=>by simp at h
 |_::_,_,[],_,_,h=>by simp at h
 |r::ρ,ρ',a::A,B,s,h=>by simp only[ajN,aJ];exact tk ρ ρ' A B _ (by simpa using h)
theorem xY:∀(ρ:List Nat) (A:List Obj) (s t:List Obj),(∀id∈ρ,id<s.length)->aJ (s++t) ρ A=aJ s ρ A++t
 |[],_,s,t,_=>by simp [aJ]
 |r::ρ,[],s,t,_=>by simp [aJ]
 |r::ρ,a::A,s,t,h=>by simp only[aJ];rw[List.set_append_left _ _ (h r ak)];exact xY ρ A _ t (λid dc=>by simpa using h id (by simp [dc]))
theorem Aw:∀(m:Nat) (B s:List Obj),B.length=m->aJ (s++List.replicate m hole) (List.range' s.length m) B=s++B
 |0,B,s,h=>by have:B=[]:=akj h;subst this;simp [aJ]
 |m+1,[],s,h=>by simp at h
 |m+1,b::B,s,h=>by rw[List.range'_succ,ale];simp only[aJ];rw[akI _ _ (ajZ _),akQ,aj9];have:=Aw m B (s++[b]) (by simpa using h);simpa using this
theorem g9 {P:Program}{f:FuncId}{cargs args:List V}{exts:List Obj}{Kc K:V->List Obj->Prop} (h:ar P f cargs exts Kc) (ρ:List Nat) (hρ:ρ.length=exts.length) (hnd:ρ.Nodup)
  (hs:∀(k:Nat) (o:Obj),exts[k]?=some o->s[ρ.getD k 0]?=some (aN ρ o)) (kj:args=cargs.map (aE ρ)) (wY:aj.go exts.length cargs=true) (xA:exts.all (aK exts.length)=true)
  (hk:∀v s',Kc v s'->exts.length<=s'.length->K (aE (pY ρ s exts s') v) (aJ s ρ ((s'.take exts.length).map (aN (pY ρ s exts s')))++(s'.drop exts.length).map (aN (pY ρ s exts s')))):ar P f args s K:=by
 refine⟨h.1,λσ w vals hI hl hv=>?_⟩;have W5:∀k,k<exts.length->ρ[k]?=some (ρ.getD k 0):=λk hk=>by simp [List.getD,show k<ρ.length by omega]
 have hρi:∀k k',k<exts.length->k'<exts.length->ρ.getD k 0=ρ.getD k' 0->k=k':=by intro k k' h1 h2 he;have e1:=W5 k h1;have e2:=W5 k' h2;rw[he]at e1;obtain⟨l1,g1⟩:=List.getElem?_eq_some_iff.1 e1;obtain⟨l2,g2⟩:=List.getElem?_eq_some_iff.1 e2;exact(List.getElem_inj hnd).1 (g1.trans g2.symm)
 have IP:∀k,(hk:k<exts.length)->s[ρ.getD k 0]?=some (aN ρ exts[k]):=λk hk=>hs k exts[k] (by simp [hk]);let sR:Nat->Prop:=λb=>∃k base,k<exts.length/\σ (ρ.getD k 0)=some (b,base);let σc:Gh:=⟨λk=>if k<exts.length then σ (ρ.getD k 0) else none,λb=>Own σ s b/\¬sR b⟩
 have H9:∀k,k<exts.length->σc k=σ (ρ.getD k 0):=λk hk=>be hk;have zP:∀b,Own σc exts b->Own σ s b:=by
  rintro b (hb|⟨k,o,base,h1,h2,h3⟩)
  ·exact hb.1
  ·have az:=(List.getElem?_eq_some_iff.1 h1).1;rw[H9 k az]at h3;exact .inr ⟨ρ.getD k 0,aN ρ o,base,hs k o h1,h2,h3⟩
 have Rv:∀b,Own σ s b->Own σc exts b:=by
  intro b hb;by_cases he:sR b
  ·obtain⟨k,base,az,h3⟩:=he;refine .inr ⟨k,exts[k],base,by simp [az],?_,by rw[H9 k az];exact h3⟩;rcases hb with hb|⟨id,o,bN,g1,g2,g3⟩
   ·exact absurd hb (hI.apart _ _ b base (IP k az) h3)
   ·have:=hI.inj id _ o _ b bN base g1 (IP k az) g2 g3 h3;subst this;rw[IP k az]at g1;cases g1;exact g2
  ·exact .inl ⟨hb,he⟩
 have hIc:Inv σc exts w:=by
  refine⟨λk o ho=>?_,λk k' o o' b base bN h1 h2 h3 h4 h5=>?_,λb hb=>wP hI hb.1,λk o b base h1 h2 hb=>?_⟩
  ·have az:=(List.getElem?_eq_some_iff.1 ho).1;rw[H9 k az];rcases hI.content _ _ (hs k o ho) with g1|⟨b,base,arr,E,g1,g2,g3,g4,g5⟩
   ·exact .inl g1.down
   ·refine .inr ⟨b,base,arr,E,g1,g2,λe he=>?_,by simpa [aN]using g4,λi j x hx=>?_⟩
    ·have:=g3 (aE.go ρ e) (List.mem_map.2 ⟨e,he,rfl⟩);rw[iX]at this;simpa [aN]using this
    ·obtain⟨u,k1,k2,k3⟩:=g5 i j _ (Hd hx);refine⟨u,k1,k2,xF zP hs H9 k3 rfl ?_⟩;have hobj:=List.all_eq_true.1 xA o (List.mem_of_getElem? ho);cases Df:o.au[i]? with
     |none=>rw[Df]at hx;cases hx
     |some e =>
      rw[Df]at hx;exact List.all_eq_true.1 (List.all_eq_true.1 hobj e (List.mem_of_getElem? Df)) x (List.mem_of_getElem? hx)
  ·have l1:=(List.getElem?_eq_some_iff.1 h1).1;have l2:=(List.getElem?_eq_some_iff.1 h2).1;rw[H9 k l1]at h4;rw[H9 k' l2]at h5;exact hρi k k' l1 l2 (hI.inj _ _ _ _ b base bN (hs k o h1) (hs k' o' h2) h3 h4 h5)
  ·have l1:=(List.getElem?_eq_some_iff.1 h1).1;rw[H9 k l1]at h2;exact hb.2 ⟨k,base,l1,h2⟩
 refine(h.2 σc w vals hIc (by rw[hl,kj];simp) (λi x hx=>xF zP hs H9 (hv i _ (by rw[kj,List.getElem?_map,hx];rfl)) rfl (du wY i x hx))).mono λe w' ⟨u,v,σ',s',he,hE,fS,hR,hK⟩=>?_;have hle:exts.length<=s'.length:=by
  rcases Nat.eq_zero_or_pos exts.length with h0|h0
  ·omega
  ·obtain⟨o',g1,_⟩:=hE.iN (exts.length-1) exts[exts.length-1] (List.getElem?_eq_getElem ae);have:=(List.getElem?_eq_some_iff.1 g1).1;omega
 have hK:=hk v s' hK hle;have aa4:∀id∈ρ,id<s.length:=by
  intro id dc;obtain⟨k,hk⟩:=List.mem_iff_getElem?.1 dc;have az:k<exts.length:=by have:=(List.getElem?_eq_some_iff.1 hk).1;omega
  have h1:=(List.getElem?_eq_some_iff.1 (IP k az)).1;have:ρ.getD k 0=id:=by simp [List.getD,hk]
  omega
 obtain⟨R,XA⟩:∃R,R=pY ρ s exts s':=⟨_,rfl⟩
 rw[<- XA]at hK;have Z2:R.length=s'.length:=by rw[XA];simp [pY];omega
 have hRn:R.Nodup:=by rw[XA];unfold pY;rw[List.nodup_append];refine⟨hnd,List.nodup_range',λa ha b hb he=>?_⟩;subst he;have h1:=aa4 a ha;have h2:=List.mem_range'.1 hb;omega
 have Rx:∀k,k<exts.length->R.getD k 0=ρ.getD k 0:=λk hk=>by rw[XA];unfold pY;simp only[List.getD];rw[List.getElem?_append_left ae]
 have Y2:∀k,exts.length<=k->k<s'.length->R.getD k 0=s.length+(k-exts.length):=λk h1 h2=>by rw[XA];unfold pY;simp only[List.getD];rw[List.getElem?_append_right ae,List.getElem?_range' ae];simp;omega
 have hRk:∀k,k<s'.length->R[k]?=some (R.getD k 0):=λk hk=>by simp [List.getD,show k<R.length by omega]
 have aew:∀k,k<s'.length->R.getD k 0<s.length+(s'.length-exts.length):=λk hk=>by
  rcases akd k exts.length with h1|h1
  ·rw[Rx k h1];have:=(List.getElem?_eq_some_iff.1 (IP k h1)).1;omega
  ·rw[Y2 k h1 hk];omega
 have Xu:aJ s ρ ((s'.take exts.length).map (aN R))++(s'.drop exts.length).map (aN R)=aJ (s++List.replicate (s'.length-exts.length) hole) R (s'.map (aN R)):=by
  have jO:s'.map (aN R)=(s'.take exts.length).map (aN R)++(s'.drop exts.length).map (aN R):=by rw[<- akF,List.take_append_drop]
  rw[jO,XA];unfold pY;generalize aN (ρ++List.range' s.length (s'.length-exts.length))=F;rw[tk _ _ _ _ _ cC,xY _ _ _ _ aa4];have BL:(aJ s ρ ((s'.take exts.length).map F)).length=s.length:=n8 _ _ _;generalize aJ s ρ ((s'.take exts.length).map F)=T at *;rw[<- BL,Aw (s'.length-exts.length) _ T ak]
 rw[Xu]at hK;clear Xu;let σn:Gh:=⟨λid=>match R.idxOf? id with|some k=>σ' k|none=>σ id,σ.base⟩
 have YF:∀k,k<s'.length->R.idxOf? (R.getD k 0)=some k:=by
  intro k hk;have e1:=hRk k hk;obtain⟨l1,g1⟩:=List.getElem?_eq_some_iff.1 e1;rw[List.idxOf?_eq_some_iff];refine⟨l1,by simp [g1],λj hj=>?_⟩;have hj':j<R.length:=ae;intro hb;have IJ:R[j]=R.getD k 0:=by simpa using hb
  have:=(List.getElem_inj hRn).1 (IJ.trans g1.symm);omega
 have HY:∀k,k<s'.length->σn (R.getD k 0)=σ' k:=λk hk=>by show (match R.idxOf? (R.getD k 0) with|some k=>σ' k|none=>σ (R.getD k 0))=σ' k;rw[YF k hk]
 have Jn:∀id,id ∉ R->σn id=σ id:=λid dc=>by show (match R.idxOf? id with|some k=>σ' k|none=>σ id)=σ id;rw[List.idxOf?_eq_none_iff.2 dc]
 have sQ:∀id,id∈R->∃k,k<s'.length/\id=R.getD k 0:=by intro id dc;obtain⟨k,hk⟩:=List.mem_iff_getElem?.1 dc;have az:=(List.getElem?_eq_some_iff.1 hk).1;exact⟨k,ae,by simp [List.getD,hk]⟩
 have vj:(s++List.replicate (s'.length-exts.length) hole).length=s.length+(s'.length-exts.length):=ak;have Mp:∀(k:Nat) (o:Obj),s'[k]?=some o->(aJ (s++List.replicate (s'.length-exts.length) hole) R (s'.map (aN R)))[R.getD k 0]?=some (aN R o):=by intro k o ho;have az:k<s'.length:=(List.getElem?_eq_some_iff.1 ho).1;exact xq R _ _ k _ _ hRn (hRk k az) (by rw[List.getElem?_map,ho];rfl) (by rw[vj];exact aew k az)
 have tU:∀id,id ∉ R->(aJ (s++List.replicate (s'.length-exts.length) hole) R (s'.map (aN R)))[id]?=s[id]?:=λid dc=>by
  rw[gG R _ _ id dc];rcases akd id s.length with h1|h1
  ·rw[List.getElem?_append_left h1]
  ·rw[List.getElem?_eq_none h1];refine List.getElem?_eq_none ?_;rw[vj];rcases akd id (s.length+(s'.length-exts.length)) with h2|h2
   ·exfalso;apply dc;have e1:=Y2 (exts.length+(id-s.length)) ae ae;have e2:=hRk (exts.length+(id-s.length)) ae;rw[e1]at e2;have e3:s.length+(exts.length+(id-s.length)-exts.length)=id:=ae;rw[e3]at e2;exact List.mem_of_getElem? e2
   ·exact h2
 have Zo:∀id o,id∈R->s[id]?=some o->∃k,k<exts.length/\id=R.getD k 0/\id=ρ.getD k 0:=by
  intro id o dc ho;obtain⟨k,hk,rfl⟩:=sQ id dc;rcases akd k exts.length with h1|h1
  ·exact⟨k,h1,rfl,Rx k h1⟩
  ·rw[Y2 k h1 hk]at ho;have:=(List.getElem?_eq_some_iff.1 ho).1;omega
 have wE:∀(k:Nat) (o:Obj),k<s'.length->(aJ (s++List.replicate (s'.length-exts.length) hole) R (s'.map (aN R)))[R.getD k 0]?=some o->∃o',s'[k]?=some o'/\o=aN R o':=by intro k o az ho;have aA:k<s'.length:=ae;have:=Mp k s'[k] (by simp [aA]);rw[ho]at this;exact⟨s'[k],by simp [aA],by simpa using this⟩
 have fj:∀b,b<w.heap.size->Own σ s b->¬sR b->w'.heap[b]?=w.heap[b]?:=λb hb h1 h2=>hE.fj b hb ⟨h1,h2⟩;have Cp:∀b,σ.base b->¬sR b:=by rintro b hb ⟨k,base,az,h3⟩;exact hI.apart _ _ b base (IP k az) h3 hb
 have qZ:∀id o b base,id ∉ R->s[id]?=some o->σ id=some (b,base)->o.live=true->¬sR b:=by rintro id o b base dc ho h1 D8 ⟨k,bN,az,h3⟩;have:=hI.inj id _ o _ b base bN ho (IP k az) D8 h1 h3;exact dc (by rw[this,<- Rx k az];exact List.mem_of_getElem? (hRk k ae))
 have S4:∀b,Own σn (aJ (s++List.replicate (s'.length-exts.length) hole) R (s'.map (aN R))) b->Own σ' s' b:=by
  rintro b (hb|⟨id,o,base,h1,h2,h3⟩)
  ·left;rw[hE.base];exact⟨.inl hb,Cp b hb⟩
  ·by_cases dc:id∈R
   ·obtain⟨k,az,rfl⟩:=sQ id dc;obtain⟨o',g1,rfl⟩:=wE k o az h1;rw[HY k az]at h3;exact .inr ⟨k,o',base,g1,h2,h3⟩
   ·rw[tU id dc]at h1;rw[Jn id dc]at h3;left;rw[hE.base];exact⟨.inr ⟨id,o,base,h1,h2,h3⟩,qZ id o b base dc h1 h3 h2⟩
 have VQ:aC σ s w σn (aJ (s++List.replicate (s'.length-exts.length) hole) R (s'.map (aN R))) w':=by
  refine⟨hE.os,hE.tape,hE.output,hE.size,λb hb ho=>hE.aZ b hb λh'=>ho (zP b h'),λb arr E ho hh=>hE.shape b arr E (Rv b ho) hh,λb ho hm=>hE.qc b (Rv b ho) hm,λb hb=>?_,λid o ho=>?_,rfl,
   λb hb hf=>fj b hb (.inl hf) (Cp b hf)⟩
  ·rcases hE.own b (S4 b hb) with h'|h'
   ·exact .inl (zP b h')
   ·exact .inr h'
  ·by_cases dc:id∈R
   ·obtain⟨k,az,vd,FX⟩:=Zo id o dc ho;rw[FX,IP k az]at ho;simp only[ajU]at ho;subst ho;obtain⟨o',g1,g2,g3⟩:=hE.iN k exts[k] (by simp [az]);refine⟨aN R o',by rw[vd];exact Mp k o' g1,g2,λhe=>?_⟩;obtain⟨e1,e2⟩:=g3 he;refine⟨e1,?_⟩;have e3:σn id=σ' k:=by rw[vd];exact HY k ae
    rw[e3,e2,H9 k az,FX]
   ·exact⟨o,by rw[tU id dc];exact ho,ajZ _,λ_=>⟨rfl,Jn id dc⟩⟩
 have up:∀{x:V}{u:Value},ay σ' s' w' x u->ay σn (aJ (s++List.replicate (s'.length-exts.length) hole) R (s'.map (aN R))) w' (aE R x) u:=λhr =>
  Tz S4 Mp (λk hk=>HY k ae) hr
 have hIn:Inv σn (aJ (s++List.replicate (s'.length-exts.length) hole) R (s'.map (aN R))) w':=by
  refine⟨λid o ho=>?_,λid kX o o' b base bN h1 h2 h3 h4 h5=>?_,λb hb=>ak8 (hI.low b hb) hE.size,λid o b base h1 h2 hb=>?_⟩
  ·by_cases dc:id∈R
   ·obtain⟨k,az,rfl⟩:=sQ id dc;obtain⟨o',g1,rfl⟩:=wE k o az ho;rw[HY k az];rcases fS.content k o' g1 with c1|⟨b,base,arr,E,c1,c2,c3,c4,c5⟩
    ·exact .inl c1.up
    ·refine .inr ⟨b,base,arr,E,c1,c2,λe he=>?_,by simpa [aN]using c4,λi j y hy=>?_⟩
     ·obtain⟨e',vV,rfl⟩:=List.mem_map.1 he;rw[iX];simpa [aN]using c3 e' vV
     ·obtain⟨x,hx,rfl⟩:=Jb hy;obtain⟨u,k1,k2,k3⟩:=c5 i j x hx;exact⟨u,k1,k2,up k3⟩
   ·rw[tU id dc]at ho;rw[Jn id dc];refine vI.aR (p:=σ id) VQ (λb base hb=>?_) (hI.content id o ho);have az:=hI.lt ho hb;by_cases hO:Own σ s b
    ·by_cases D8:o.live=true
     ·exact fj b az hO (qZ id o b base dc ho hb D8)
     ·exfalso;rcases hO with hO|⟨kX,o',bN,g1,g2,g3⟩
      ·exact hI.apart id o b base ho hb hO
      ·have:=hI.inj kX id o' o b bN base g1 ho g2 g3 hb;subst this;rw[ho]at g1;cases g1;exact D8 g2
    ·exact hE.aZ b az λh'=>hO (zP b h')
  ·by_cases dc:id∈R <;> by_cases xl:kX∈R
   ·obtain⟨k,az,rfl⟩:=sQ id dc;obtain⟨k',aA,rfl⟩:=sQ kX xl;obtain⟨p,g1,rfl⟩:=wE k o az h1;obtain⟨p',Yn,rfl⟩:=wE k' o' aA h2;rw[HY k az]at h4;rw[HY k' aA]at h5;rw[fS.inj k k' p p' b base bN g1 Yn h3 h4 h5]
   ·exfalso;obtain⟨k,az,rfl⟩:=sQ id dc;obtain⟨p,g1,rfl⟩:=wE k o az h1;rw[HY k az]at h4;rw[tU kX xl]at h2;rw[Jn kX xl]at h5;have SI:=hI.lt h2 h5;have hO:Own σ s b:=by
     rcases hE.own b (.inr ⟨k,p,base,g1,h3,h4⟩) with h'|h'
     ·exact zP b h'
     ·omega
    by_cases D8:o'.live=true
    ·exact fS.apart k p b base g1 h4 (by rw[hE.base];exact⟨hO,qZ kX o' b bN xl h2 h5 D8⟩)
    ·rcases hO with hO|⟨id2,o2,A4,q1,q2,q3⟩
     ·exact hI.apart kX o' b bN h2 h5 hO
     ·have:=hI.inj id2 kX o2 o' b A4 bN q1 h2 q2 q3 h5;subst this;rw[h2]at q1;cases q1;exact D8 q2
   ·exfalso;obtain⟨k',aA,rfl⟩:=sQ kX xl;obtain⟨p',Yn,rfl⟩:=wE k' o' aA h2;rw[HY k' aA]at h5;rw[tU id dc]at h1;rw[Jn id dc]at h4;exact fS.apart k' p' b bN Yn h5 (by rw[hE.base];exact⟨.inr ⟨id,o,base,h1,h3,h4⟩,qZ id o b base dc h1 h4 h3⟩)
   ·rw[tU id dc]at h1;rw[tU kX xl]at h2;rw[Jn id dc]at h4;rw[Jn kX xl]at h5;exact hI.inj id kX o o' b base bN h1 h2 h3 h4 h5
  ·by_cases dc:id∈R
   ·obtain⟨k,az,rfl⟩:=sQ id dc;obtain⟨p,g1,rfl⟩:=wE k o az h1;rw[HY k az]at h2;exact fS.apart k p b base g1 h2 (by rw[hE.base];exact⟨.inl hb,Cp b hb⟩)
   ·rw[tU id dc]at h1;rw[Jn id dc]at h2;exact hI.apart id o b base h1 h2 hb
 exact⟨u,aE R v,σn,_,he,VQ,hIn,up hR,hK⟩
def kU (lim:Nat) (s:List Obj) (o:Obj):Option Obj:=(o.au.mapM (bc.go lim s)).map λau=>{ o with au:=au }
theorem zt {α β:Type}{f:α->Option β}:∀{l:List α}{r:List β},l.mapM f=some r->r.length=l.length/\(∀(i:Nat) (y:β),r[i]?=some y->∃x,l[i]?=some x/\f x=some y)/\∀(i:Nat) (x:α),l[i]?=some x->∃y,r[i]?=some y/\f x=some y
 |[],r,h=>by simp at h;subst h;simp
 |a::l,r,h=>by
  simp only[akR,Option.bind_eq_bind,Option.pure_def]at h;cases ha:f a with
  |none=>rw[ha]at h;simp at h
  |some b =>
   rw[ha]at h;cases hl:l.mapM f with
   |none=>rw[hl]at h;simp at h
   |some bs =>
    rw[hl]at h;simp only[akA,ajU]at h;subst h;obtain⟨k1,k2,k3⟩:=zt hl;refine⟨by simp [k1],λi y hy=>?_,λi x hx=>?_⟩
    ·cases i with
     |zero=>simp at hy;subst hy;exact⟨a,rfl,ha⟩
     |succ i=>simpa using k2 i y (by simpa using hy)
    ·cases i with
     |zero=>simp at hx;subst hx;exact⟨b,rfl,ha⟩
     |succ i=>simpa using k3 i x (by simpa using hx)
theorem vo{o o':Obj} (h:kU lim s o=some o'):o'.g=o.g/\o'.live=o.live/\o'.sz=o.sz/\o.au.mapM (bc.go lim s)=some o'.au:=by unfold kU at h;obtain⟨au,h1,rfl⟩:=Option.map_eq_some_iff.1 h;exact⟨rfl,rfl,rfl,h1⟩
theorem Tj {σ:Gh}{sF:List Obj}{w:World} (hI:Inv σ s w) (h:(s.take lim).mapM (kU lim s)=some sF):aC σ (s.take lim) w σ sF w/\Inv σ sF w:=by
 obtain⟨m1,m2,m3⟩:=zt h;have CU:∀b,Own σ sF b->Own σ (s.take lim) b:=by
  rintro b (hb|⟨id,o,base,h1,h2,h3⟩)
  ·exact .inl hb
  ·obtain⟨o0,k1,k2⟩:=m2 id o h1;obtain⟨_,e2,_,_⟩:=vo k2;exact .inr ⟨id,o0,base,k1,by rw[<- e2];exact h2,h3⟩
 have hE:aC σ (s.take lim) w σ sF w:=by refine⟨rfl,rfl,rfl,ajZ _,λ_ _ _=>rfl,λ_ arr _ _ h=>⟨arr,h,rfl⟩,λ_ _ h=>h,λb hb=>.inl (CU b hb),λid o ho=>?_,rfl,λ_ _ _=>rfl⟩;obtain⟨o',k1,k2⟩:=m3 id o ho;obtain⟨e1,_,e3,_⟩:=vo k2;exact⟨o',k1,ae,λ_=>⟨e3,rfl⟩⟩
 have get:∀(id:Nat) (o:Obj),(s.take lim)[id]?=some o->s[id]?=some o:=by
  intro id o hh;rw[List.getElem?_take]at hh;split at hh
  ·exact hh
  ·cases hh
 refine⟨hE,λid o ho=>?_,λid kX o o' b base bN h1 h2 h3 h4 h5=>?_,hI.low,λid o b base h1 h2=>?_⟩
 ·obtain⟨o0,k1,k2⟩:=m2 id o ho;obtain⟨e1,e2,e3,e4⟩:=vo k2;obtain⟨n1,n2,n3⟩:=zt e4;rcases hI.content id o0 (get _ _ k1) with (⟨h1,h2⟩|⟨b,es,c,h1,h2,h3⟩)|⟨b,base,arr,E,h1,h2,h3,h4,h5⟩
  ·exact .inl (.inl ⟨h1,akj (by rw[n1,h2];rfl)⟩)
  ·refine .inl (.inr ⟨b,es,c,h1,h2,?_⟩);rw[<- h3];refine List.ext_getElem? λi=>?_;cases hi:o0.au[i]? with
   |none =>
    have:=List.getElem?_eq_none_iff.1 hi;exact List.getElem?_eq_none ae
   |some x =>
    obtain⟨y,y1,y2⟩:=n3 i x hi;rw[y1];have hx:=hi;rw[h3]at hx;unfold fz at hx;rw[List.getElem?_map]at hx;obtain⟨en,_,rfl⟩:=Option.map_eq_some_iff.1 hx;simp only[bc.go,bc,ajU]at y2;rw[<- y2]
  ·refine .inr ⟨b,base,arr,E,h1,h2,λe he=>?_,by rw[n1,e3];exact h4,λi j y hy=>?_⟩
   ·obtain⟨i,hi⟩:=List.mem_iff_getElem?.1 he;obtain⟨x,x1,x2⟩:=n2 i e hi;rw[(rb x2).1,e3];exact h3 x (List.mem_of_getElem? x1)
   ·cases Df:o.au[i]? with
    |none=>rw[Df]at hy;cases hy
    |some e =>
     rw[Df]at hy;obtain⟨x,x1,x2⟩:=n2 i e Df;obtain⟨v,v1,v2⟩:=(rb x2).2 j y hy;obtain⟨u,u1,u2,u3⟩:=h5 i j v (by rw[x1];exact v1);exact⟨u,by rw[e3];exact u1,u2,(iO hI u3 v2).aR hE⟩
 ·obtain⟨a,k1,k2⟩:=m2 id o h1;obtain⟨a',k1',k2'⟩:=m2 kX o' h2;exact hI.inj id kX a a' b base bN (get _ _ k1) (get _ _ k1') (by rw[<- (vo k2).2.1];exact h3) h4 h5
 ·obtain⟨a,k1,k2⟩:=m2 id o h1;exact hI.apart id a b base (get _ _ k1) h2
def tH (lim:Nat) (s:List Obj) (r:V) (K:V->List Obj->Prop):Prop :=
 match (s.take lim).mapM (kU lim s),bc lim s r with
 |some sF,some r'=>K r' sF
 |_,_=>False
def tA (P:Program) (rs:List ResultVar) (lim:Nat) (K:V->List Obj->Prop) (ex:Exit) (e:Env) (s:List Obj):Prop:=Bx ex/\CS P rs e s λr=>tH lim s r K
theorem zi {P : Program} {f : FuncId} {fn : Func} {c : Code} {args : List V} {exts : List Obj} {K : V → List Obj → Prop} (hf : P.funcs[f]? = some fn) (hb : fn.body = some c) {N : Nat} (hN : fn.ntmps = N) {rs : Array ResultVar} (St : fn.results = rs) (hn : (fn.name != "runtime.NumGoroutine") = true)
  (lim M:Nat) (hl:exts.length<=lim) (ha:args.length<=N)
  (h:codeWp P N lim M c (tA P rs.toList lim K) (iB args) exts):ar P f args exts K:=by
 subst hN;subst St;refine⟨by simp only[LH,hf,hn,hb,Option.isSome_some,akV],λσ w vals hI XD hv=>?_⟩;refine calls_of_wp hf hb ?_;have hR:dC σ exts w fn.ntmps (iB args) { tmps:=vals++Array.replicate (fn.ntmps-vals.size) undef,defers:=[] }:=by
  refine⟨rfl,cC,λt=>?_⟩;rw[nR];by_cases ht:t<args.length
  ·have h1:=hv t args[t] (by simp [ht]);have:(vals++Array.replicate (fn.ntmps-vals.size) undef).getD t undef=vals.getD t undef:=by rw[Array.getD_eq_getD_getElem?,Array.getElem?_append_left ae,Array.getD_eq_getD_getElem?]
   rw[this];simpa [ht]using h1
  ·have:(vals++Array.replicate (fn.ntmps-vals.size) undef).getD t undef=undef:=by rw[Array.getD_eq_getD_getElem?,Array.getElem?_append_right ae,Array.getElem?_replicate];split <;> rfl
   rw[this];simp [ht];exact .un
 refine wp_mono (nt hl c _ (iB args) exts σ w _ (aC.refl _ _ _) hI hR h) λex a' w' ⟨e',σ',s',hE,fS,iY,hex,hq⟩=>?_;obtain⟨v,u,k1,k2,k3⟩:=mP fS iY hq;unfold tH at k3;have fin:a'.defers=[]/\∃v,(results fn a'.tmps).run P w'=.ok v w'/\∃u Tg wm rR,Ending.returned v=.returned u/\aC σ exts w wm rR w'/\Inv wm rR w'/\ay wm rR w' Tg u/\K Tg rR:=by
  refine⟨iY.1,u,k1,?_⟩;split at k3
  ·rename_i sF r' hsF TW;obtain⟨q1,q2⟩:=Tj fS hsF;exact⟨u,r',σ',sF,rfl,(hE.take hl).trans q1,q2,(iO fS k2 TW).aR q1,k3⟩
  ·exact k3.elim
 rcases qM hex with rfl|rfl
 ·exact fin
 ·exact fin
end Go.VL
