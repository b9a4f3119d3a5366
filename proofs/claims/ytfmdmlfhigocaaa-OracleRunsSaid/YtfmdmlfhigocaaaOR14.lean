/- A part of the proof (Vz Vza Vzb Vzc Vzd Vze). -/
import Derived.Test.YtfmdmlfhigocaaaOR13
set_option linter.unusedSimpArgs false
set_option linter.unusedVariables false
set_option maxRecDepth 100000
set_option maxHeartbeats 80000000
namespace Go.VL
variable{f:FuncId}{s:List Obj}{P:Program}{args:List V}{K:V->List Obj->Prop}{w:World}{cs:List D}{ex:List D}
theorem ew (ρ:List Nat) {cargs:List V}{exts Bx:List Obj}{r r':V} (h:az P f cargs exts λv s'=>v=r/\s'=Bx) (zF:ρ.Nodup) (hl:Bx.length=exts.length)
  (hs:ρ.map (λi=>s[i]?)=exts.map (λo=>some (bf ρ o))) (ha:args=cargs.map (aS ρ)) (F6:ak.go exts.length cargs=true) (Al:exts.all (bc exts.length)=true) (hr:aS ρ r=r') (hk:K r' (aO s ρ (Bx.map (bf ρ)))):az P f args s K:=by
 have hρ:ρ.length=exts.length:=by simpa using congrArg List.length hs
 refine xX h ρ hρ zF (λk o ho=>?_) ha F6 Al λv s' hv=>?_
 ·have h1:=congrArg (λl=>l[k]?) hs;simp only[aiY,ho,ai3]at h1;have hk:k<ρ.length:=by rw[hρ];exact(List.getElem?_eq_some_iff.1 ho).1
  rw[ajg hk]at h1;simp only[ai3,ai5]at h1;simpa [List.getD,ajg hk]using h1
 ·obtain⟨rfl,rfl⟩:=hv;exact⟨hl,by rw[hr];exact hk⟩
theorem Mw{s1:List Obj}{r:V}{rd wr:List Nat} (h:az P f args s λv s'=>v=r/\s'=s1) (Jt:∀i,i<s.length->i∈rd) (hwl:s1.length=wr.length)
  (hwr:aO s wr s1=s1) (hk:K r s1):LC P rd wr f args s K:=by
 refine⟨r,s1,hwl,λs' hl hs=>?_,by rw[hwr];exact hk⟩;have e:s'=s:=by
  apply ajX;intro i;rcases ajr i s.length with hi|hi
  ·exact hs i (Jt i hi)
  ·rw[ajH ae,ajH hi]
 subst e;rw[hwr];exact h
theorem cY.Vk {O:Nat->Prop}{u:Value} (h:cY O w (.el (cs++ex)) u):cY O w (.el cs) u:=by
 generalize hd:D.el (cs++ex)=x at h;cases h with
 |el Zu a f h1 h2 h3 =>
  cases hd;exact .el cs a f h1 (λj x hx=>h2 j x (by rw[ajj (List.getElem?_eq_some_iff.1 hx).1];exact hx)) (λj x hx=>h3 j x (by rw[ajj (List.getElem?_eq_some_iff.1 hx).1];exact hx))
 |_=>cases hd
theorem QK (h:az P f (.d (.el cs)::args) s K):az P f (.d (.el (cs++ex))::args) s K:=by
 refine⟨h.1,λσ w vals hI hl hv=>h.2 σ w vals hI (by simpa using hl) λi x hx=>?_⟩;cases i with
 |zero =>
  simp at hx;subst hx;have:=hv 0 _ rfl;generalize vals.getD 0 undef=u at this ⊢;cases this with|d hd=>exact .d hd.Vk
 |succ i=>exact hv (i+1) x (by simpa using hx)
theorem DW {σ:Gh} (hI:Inv σ s w) {k:Nat}{o:Obj}{els':List (List V)} (ho:s[k]?=some o) (hlen:∀e∈els',e.length=o.sz) (Ip:els'.length=o.aw.length) (MQ:∀es,o.aw≠fZ es)
  (h:∀(i j:Nat) (x':V),(els'[i]?.bind (·[j]?))=some x'->∃x,(o.aw[i]?.bind (·[j]?))=some x/\∀u,aC σ s w x u->aC σ s w x' u) :
  aG σ s w σ (s.set k { o with aw:=els' }) w/\Inv σ (s.set k { o with aw:=els' }) w:=by
 have hk:=(List.getElem?_eq_some_iff.1 ho).1;have get:∀(id:Nat) (o':Obj),(s.set k { o with aw:=els' })[id]?=some o'->∃o1,s[id]?=some o1/\o1.live=o'.live/\o1.g=o'.g/\o1.sz=o'.sz:=by
  intro id o' h';rw[List.getElem?_set]at h';split at h'
  ·rename_i he;subst he;try rw[be hk]at h'
   simp only[ai5]at h';subst h';exact⟨o,ho,rfl,rfl,rfl⟩
  ·exact⟨o',h',rfl,rfl,rfl⟩
 have put:∀(id:Nat) (o1:Obj),s[id]?=some o1->∃o',(s.set k { o with aw:=els' })[id]?=some o'/\o'.g=o1.g/\o'.sz=o1.sz/\o'.live=o1.live:=by
  intro id o1 h';rw[List.getElem?_set];split
  ·rename_i he;subst he;rw[ho]at h';simp only[ai5]at h';subst h';first|exact⟨_,rfl,rfl,rfl,rfl⟩|exact⟨_,by rw[be hk],rfl,rfl,rfl⟩
  ·exact⟨o1,h',rfl,rfl,rfl⟩
 have hE:aG σ s w σ (s.set k { o with aw:=els' }) w:=by
  refine⟨rfl,rfl,rfl,ajc _,λ_ _ _=>rfl,λ_ arr _ _ h=>⟨arr,h,rfl⟩,λ_ _ h=>h,?_,?_,rfl,λ_ _ _=>rfl⟩
  ·rintro b (hb|⟨id,o',base,h1,h2,h3⟩)
   ·exact .inl (.inl hb)
   ·obtain⟨o1,k1,k2,_⟩:=get id o' h1;exact .inl (.inr ⟨id,o1,base,k1,by rw[k2];exact h2,h3⟩)
  ·intro id o1 h1;obtain⟨o',k1,k2,k3,_⟩:=put id o1 h1;exact⟨o',k1,ae,λ_=>⟨k3,rfl⟩⟩
 refine⟨hE,⟨?_,?_,hI.low,?_⟩⟩
 ·intro id o' h1;by_cases he:id=k
  ·subst he;rw[ajm hk]at h1;simp only[ai5]at h1;subst h1;rcases hI.content id o ho with (⟨c1,c2⟩|⟨b,es,c,c1,c2,c3⟩)|⟨b,base,arr,E,c1,c2,c3,c4,c5⟩
   ·left;exact .inl ⟨c1,ajB (by show els'.length=0;rw[Ip,c2];rfl)⟩
   ·exact(MQ es c3).elim
   ·right;refine⟨b,base,arr,E,c1,c2,hlen,by show base+els'.length*o.sz<=arr.size;rw[Ip];exact c4,λi j x' hx=>?_⟩;obtain⟨x,y1,y2⟩:=h i j x' hx;obtain⟨u,z1,z2,z3⟩:=c5 i j x y1;exact⟨u,z1,z2,(y2 u z3).aZ hE⟩
  ·rw[ajy (Ne.symm he)]at h1;rcases hI.content id o' h1 with c|⟨b,base,arr,E,c1,c2,c3,c4,c5⟩
   ·exact .inl c
   ·right;refine⟨b,base,arr,E,c1,c2,c3,c4,λi j x hx=>?_⟩;obtain⟨u,z1,z2,z3⟩:=c5 i j x hx;exact⟨u,z1,z2,z3.aZ hE⟩
 ·intro id lV o1 o2 b base bQ h1 h2 h3 h4 h5;obtain⟨p1,q1,q2,_⟩:=get id o1 h1;obtain⟨p2,r1,_⟩:=get lV o2 h2;exact hI.inj id lV p1 p2 b base bQ q1 r1 (by rw[q2];exact h3) h4 h5
 ·intro id o1 b base h1 h2;obtain⟨p1,q1,_⟩:=get id o1 h1;exact hI.apart id p1 b base q1 h2
theorem jb{o:Obj}{pre post:List V} (k sz:Nat) (ho:s[k]?=some o) (iG:o.aw=[pre++.fu []::post]) (fY:pre.length+1+post.length=o.sz)
  (h:az P f args (s.set k { o with aw:=[pre++.so s.length 0 0 0::post] }++[⟨0,true,sz,[]⟩]) K):az P f args s K:=by
 refine⟨h.1,λσ w vals hI hl hv=>?_⟩;have hk:=(List.getElem?_eq_some_iff.1 ho).1;have hp:=pM (p:=none) (o':=⟨0,true,sz,[]⟩) (w':=w) hI rfl rfl rfl (ajc _) (λ_ _=>rfl) (λ_ _ h'=>by cases h') (λ_=>.inl (.inl ⟨rfl,rfl⟩));have SQ:(s++[(⟨0,true,sz,[]⟩:Obj)])[k]?=some o:=by rw[ajj hk];exact ho
 have hr:=DW hp.2 (els':=[pre++.so s.length 0 0 0::post]) SQ (by intro e he;rw[List.mem_singleton.1 he];simp;omega) (by rw[iG];rfl) (by
  intro es he;rw[iG]at he;have hm:(pre++.fu []::post)∈fZ es:=by rw[<- he];exact List.mem_singleton.2 rfl
  unfold fZ at hm;obtain⟨x,_,hx⟩:=List.mem_map.1 hm;have hf:V.fu []∈[V.d (.sc x.key),V.d (.sc x.val)]:=by rw[hx];simp
  simp at hf) (λi j x' hx=>by
  rw[iG];cases i with
  |succ i=>simp at hx
  |zero =>
   simp only[ajv,ajM]at hx ⊢;by_cases hj:j=pre.length
   ·subst hj;rw[ajh (ajc _),akp]at hx ⊢;simp only[ajv,ai5]at hx ⊢;subst hx;refine⟨_,rfl,λu hu=>?_⟩;cases hu with|fu hx=>?_
    exact .so ⟨0,true,sz,[]⟩ aj (ajc _) ⟨_,_,rfl⟩ (λ_=>.inl ⟨cc _ _ _,⟨_,rfl⟩,rfl,rfl⟩)
   ·refine⟨x',?_,λu hu=>hu⟩;rcases ajr j pre.length with aB|iA
    ·rw[ajj aB]at hx ⊢;exact hx
    ·rw[ajh iA]at hx ⊢;cases hm:j-pre.length with
     |zero=>omega
     |succ m=>rw[hm]at hx;simpa using hx)
 have gD:(s++[(⟨0,true,sz,[]⟩:Obj)]).set k { o with aw:=[pre++.so s.length 0 0 0::post] }=s.set k { o with aw:=[pre++.so s.length 0 0 0::post] }++[⟨0,true,sz,[]⟩]:=by rw[List.set_append_left _ _ hk]
 rw[gD]at hr;have hE:=hp.1.trans hr.1;exact(h.2 _ w vals hr.2 hl (λi x hx=>(hv i x hx).aZ hE)).mono λ_ _ ⟨u,v,σ',s',a,b,c,d,e⟩=>⟨u,v,σ',s',a,hE.trans b,c,d,e⟩
end Go.VL
namespace Go.VL
theorem bJ.MX {L:Nat}{e e':Env}{s s':List Obj} (h:ct e s e' s'):bJ L e s e' s':=λσ0 s0 w0 σ w N a _ hE hI hR=>h σ0 s0 w0 σ w N a hE hI hR
theorem bJ.freeze {L:Nat}{e:Env}{s:List Obj} (ids lC:List Nat):bJ L e s (me (bA s ids) lC e) (bA s ids):=.MX (.freeze ids lC)
def eV (ba:List Nat):V->V
 |.so id g lo n=>match ba.idxOf? id with|some k=>.so k g lo n|none=>.any
 |.rf id g i off=>match ba.idxOf? id with|some k=>.rf k g i off|none=>.any
 |.pp id g i off b a=>match ba.idxOf? id with|some k=>.pp k g i off b a|none=>.any
 |.mp id g=>match ba.idxOf? id with|some k=>.mp k g|none=>.any
 |.ag cs=>.ag (go cs)
 |.tu cs=>.tu (go cs)
 |.bx v=>.bx (eV ba v)
 |.cap lo hi v=>.cap lo hi (eV ba v)
 |.cl fn first ai=>.cl fn (go first) (go ai)
 |.d x=>.d x
 |.fu aw=>.fu aw
 |.un=>.un
 |.any=>.any
where go:List V->List V
 |[]=>[]
 |v::vs=>eV ba v::go vs
theorem pL (ba:List Nat):∀(l:List V),eV.go ba l=l.map (eV ba)
 |[]=>rfl
 |v::vs=>by simp [eV.go,pL ba vs]
def ga (ba:List Nat) (o:Obj):Obj:={ o with aw:=o.aw.map (eV.go ba) }
def mF (ba:List Nat) (s:List Obj):List Obj:=ba.map λid=>ga ba (s.getD id hole)
def S8 (ba:List Nat) (σ:Gh):Gh:=⟨λk=>match ba[k]? with|some id=>σ id|none=>none,σ.base⟩
section Fv
variable {σ:Gh}{s:List Obj}{w:World}{ba:List Nat}
variable{k:Nat}{id:Nat}
theorem Kb{o:Obj} (h:(mF ba s)[k]?=some o):∃id,ba[k]?=some id/\o=ga ba (s.getD id hole):=by unfold mF at h;rw[aiY]at h;obtain⟨id,h1,h2⟩:=Option.map_eq_some_iff.1 h;exact⟨id,h1,h2.symm⟩
theorem yO{o:Obj} (h:ba[k]?=some id) (ho:s[id]?=some o):(mF ba s)[k]?=some (ga ba o):=by unfold mF;rw[aiY,h];simp [List.getD,ho]
theorem nh (h:ba[k]?=some id):S8 ba σ k=σ id:=by show (match ba[k]? with|some id=>σ id|none=>none)=σ id;rw[h]
theorem CL (aB:∀id∈ba,id<s.length) {b:Nat} (h:Own (S8 ba σ) (mF ba s) b):Own σ s b:=by
 rcases h with h|⟨k,o,base,h1,h2,h3⟩
 ·exact .inl h
 ·obtain⟨id,k1,rfl⟩:=Kb h1;have hi:=aB id (ai4 k1);rw[nh k1]at h3;have hg:s.getD id hole=s[id]:=by simp [List.getD,ajg hi]
  rw[hg]at h2;exact .inr ⟨id,s[id],base,by simp [hi],h2,h3⟩
theorem wP (h:ba.idxOf? id=some k):ba[k]?=some id:=by rw[List.idxOf?_eq_some_iff]at h;obtain⟨h1,h2,_⟩:=h;rw[ajg h1];simpa using h2
theorem aC.Fv (aB:∀id∈ba,id<s.length) {x:V}{u:Value} (hr:aC σ s w x u):aC (S8 ba σ) (mF ba s) w (eV ba x) u:=by
 have g:∀(cs:List V) (i:Nat) (y:V),(cs.map (eV ba))[i]?=some y->∃x,cs[i]?=some x/\eV ba x=y:=λcs i y hy=>by rw[aiY]at hy;exact Option.map_eq_some_iff.1 hy
 induction hr with
 |d hx=>exact .d (hx.own λb hb=>CL aB hb)
 |fu hx=>exact .fu (hx.own λb hb=>CL aB hb)
 |un=>exact .un
 |any=>exact .any
 |ag h1 h2 _ ih =>
  simp only[eV,pL];refine .ag (by simpa using h1) (λi y hy=>?_) (λi y hy=>?_)
  ·obtain⟨x,hx,rfl⟩:=g _ i y hy;exact h2 i x hx
  ·obtain⟨x,hx,rfl⟩:=g _ i y hy;exact ih i x hx
 |tu h1 _ ih =>
  simp only[eV,pL];refine .tu (by simpa using h1) (λi y hy=>?_);obtain⟨x,hx,rfl⟩:=g _ i y hy;exact ih i x hx
 |bx h1 h2 h3 hu _ ih=>simp only[eV];exact .bx h1 h2 (λh'=>h3 (CL aB h')) hu ih
 |cap h1 _ ih=>simp only[eV];exact .cap h1 ih
 |cl h1 _ h3 _ Aq gy =>
  simp only[eV,pL];refine .cl (by simpa using h1) (λi y hy=>?_) (by simpa using h3) (λi y hy=>?_)
  ·obtain⟨x,hx,rfl⟩:=g _ i y hy;exact Aq i x hx
  ·obtain⟨x,hx,rfl⟩:=g _ i y hy;exact gy i x hx
 |so o ho hg hu hk =>
  simp only[eV];split
  ·rename_i k dt;have dt:=wP dt;refine .so (ga ba o) (yO dt ho) hg hu λxT=>?_;have:=hk xT;unfold AI at this ⊢;rw[nh dt];exact this
  ·exact .any
 |rf o ho hg hu hk =>
  simp only[eV];split
  ·rename_i k dt;have dt:=wP dt;refine .rf (ga ba o) (yO dt ho) hg hu λxT=>?_;rw[nh dt];exact hk xT
  ·exact .any
 |pp o ho hg hk =>
  simp only[eV];split
  ·rename_i k dt;have dt:=wP dt;refine .pp (ga ba o) (yO dt ho) hg λxT=>?_;rw[nh dt];exact hk xT
  ·exact .any
 |mp o ho hg hu hk =>
  simp only[eV];split
  ·rename_i k dt;have dt:=wP dt;refine .mp (ga ba o) (yO dt ho) hg hu λxT=>?_;rw[nh dt];exact hk xT
  ·exact .any
theorem Inv.Fv (hI:Inv σ s w) (aB:∀id∈ba,id<s.length) (zF:ba.Nodup):Inv (S8 ba σ) (mF ba s) w:=by
 have get:∀(k:Nat) (o:Obj),(mF ba s)[k]?=some o->∃id o',ba[k]?=some id/\s[id]?=some o'/\o=ga ba o':=by intro k o h;obtain⟨id,k1,rfl⟩:=Kb h;have hi:=aB id (ai4 k1);exact⟨id,s[id],k1,by simp [hi],by simp [List.getD,ajg hi]⟩
 refine⟨λk o ho=>?_,λk k' o o' b base bQ h1 h2 h3 h4 h5=>?_,hI.low,λk o b base h1 h2=>?_⟩
 ·obtain⟨id,o',k1,k2,rfl⟩:=get k o ho;rw[nh k1];rcases hI.content id o' k2 with (⟨h1,h2⟩|⟨b,es,c,h1,h2,h3⟩)|⟨b,base,arr,E,h1,h2,h3,h4,h5⟩
  ·exact .inl (.inl ⟨h1,by simp [ga,h2]⟩)
  ·refine .inl (.inr ⟨b,es,c,h1,h2,?_⟩);simp only[ga,h3,fZ,ajL];apply ajK;intro e _;rfl
  ·refine .inr ⟨b,base,arr,E,h1,h2,λc hc=>?_,by simpa [ga]using h4,λi j x hx=>?_⟩
   ·obtain⟨c',MT,rfl⟩:=List.mem_map.1 hc;rw[pL];simpa [ga]using h3 c' MT
   ·simp only[ga,aiY]at hx;cases hi:o'.aw[i]? with
    |none=>simp [hi]at hx
    |some c =>
     simp only[hi,ai3,ajM,pL,aiY]at hx;obtain⟨y,hy,rfl⟩:=Option.map_eq_some_iff.1 hx;obtain⟨u,g1,g2,g3⟩:=h5 i j y (by simp [hi,hy]);exact⟨u,g1,g2,g3.Fv aB⟩
 ·obtain⟨id,p,k1,k2,rfl⟩:=get k o h1;obtain⟨lV,p',l1,l2,rfl⟩:=get k' o' h2;rw[nh k1]at h4;rw[nh l1]at h5;have e:=hI.inj id lV p p' b base bQ k2 l2 h3 h4 h5;subst e;obtain⟨a1,a2⟩:=List.getElem?_eq_some_iff.1 k1;obtain⟨b1,b2⟩:=List.getElem?_eq_some_iff.1 l1;exact(List.getElem_inj zF).1 (a2.trans b2.symm)
 ·obtain⟨id,p,k1,k2,rfl⟩:=get k o h1;rw[nh k1]at h2;exact hI.apart id p b base k2 h2
theorem aG.Fv {σ0:Gh}{s0:List Obj}{w0:World} (hE:aG σ0 s0 w0 σ s w) (aB:∀id∈ba,id<s.length) (Mm:∀id,id<s0.length->ba[id]?=some id):aG σ0 s0 w0 (S8 ba σ) (mF ba s) w:=by refine⟨hE.os,hE.tape,hE.output,hE.size,hE.ba,hE.shape,hE.qY,λb hb=>hE.own b (CL aB hb),λid o ho=>?_,hE.base,hE.gW⟩;obtain⟨o',h1,h2,h3⟩:=hE.Aj id o ho;have hk:=Mm id (List.getElem?_eq_some_iff.1 ho).1;exact⟨ga ba o',yO hk h1,h2,λhe=>⟨(h3 he).1,by rw[nh hk];exact(h3 he).2⟩⟩
end Fv
variable{ba:List Nat}{s:List Obj}{lim:Nat}
def Bn (L:Nat) (ba:List Nat) (n:Nat):Bool:=ba.Nodup&&ba.all (λid=>decide (id<n))&&((List.range L).all λid=>ba[id]? == some id)
theorem u5 {L n:Nat} (h:Bn L ba n=true):ba.Nodup/\(∀id∈ba,id<n)/\∀id,id<L->ba[id]?=some id:=by unfold Bn at h;simp only[aji,decide_eq_true_eq,ajo,beq_iff_eq,List.mem_range]at h;exact⟨h.1.1,h.1.2,h.2⟩
def NZ (ba lC:List Nat) (e:Env):Env:=λt=>if lC.contains t then eV ba (e t) else .any
theorem DM {lC:List Nat}{e:Env}{t:Nat}:NZ ba lC e t=if lC.contains t then eV ba (e t) else .any:=(rfl)
theorem bJ.Fv {L:Nat}{e:Env} (ba lC:List Nat) (h:Bn L ba s.length=true):bJ L e s (NZ ba lC e) (mF ba s):=by
 intro σ0 s0 w0 σ w N a nR hE hI hR;obtain⟨h1,h2,h3⟩:=u5 h;refine⟨_,hE.Fv h2 (λid du=>h3 id ae),hI.Fv h2 h1,hR.1,hR.2.1,λt=>?_⟩;unfold NZ;split
 ·exact(hR.2.2 t).Fv h2
 ·exact .any
def zG (L:Nat) (s:List Obj) (r:V) (K:V->List Obj->Prop):Prop:=∃ba,Bn L ba s.length=true/\K (eV ba r) (mF ba s)
def tY (P:Program) (rs:List ResultVar) (L:Nat) (K:V->List Obj->Prop) (ex:Exit) (e:Env) (s:List Obj):Prop:=zK ex/\ze P rs e s λr=>zG L s r K
theorem qV {P : Program} {f : FuncId} {fn : Func} {c : Code} {args : List V} {exts : List Obj} {K : V → List Obj → Prop} (hf : P.funcs[f]? = some fn) (hb : fn.body = some c) {N : Nat} (hN : fn.ntmps = N) {rs : Array ResultVar} (Qt : fn.results = rs) (hn : (fn.name != "runtime.NumGoroutine") = true)
  (lim M:Nat) (hl:exts.length<=lim) (ha:args.length<=N)
  (h:codeWp P N lim M c (tY P rs.toList lim K) (iX args) exts):az P f args exts K:=by
 subst hN;subst Qt;refine⟨by simp only[Ml,hf,hn,hb,Option.isSome_some,aka],λσ w vals hI Xb hv=>?_⟩;refine calls_of_wp hf hb ?_;have hR:eC σ exts w fn.ntmps (iX args) { tmps:=vals++Array.replicate (fn.ntmps-vals.size) undef,defers:=[] }:=by
  refine⟨rfl,cG,λt=>?_⟩;rw[oZ];by_cases ht:t<args.length
  ·have h1:=hv t args[t] (by simp [ht]);have:(vals++Array.replicate (fn.ntmps-vals.size) undef).getD t undef=vals.getD t undef:=by rw[ajl,aj8 ae,ajl]
   rw[this];simpa [ht]using h1
  ·have:(vals++Array.replicate (fn.ntmps-vals.size) undef).getD t undef=undef:=by rw[ajl,akd ae,Array.getElem?_replicate];split <;> rfl
   rw[this];simp [ht];exact .un
 refine wp_mono (oH hl c _ (iX args) exts σ w _ (aG.refl _ _ _) hI hR h) λex a' w' ⟨e',σ',s',hE,ko,qp,hex,hq⟩=>?_;obtain⟨v,u,k1,k2,k3⟩:=nG ko qp hq;obtain⟨ba,h0,hK⟩:=k3;obtain⟨h1,h2,h3⟩:=u5 h0;have fin:a'.defers=[]/\∃v,(results fn a'.tmps).run P w'=.ok v w'/\∃u Ts xH sT,Ending.returned v=.returned u/\aG σ exts w xH sT w'/\Inv xH sT w'/\aC xH sT w' Ts u/\K Ts sT:=by refine⟨qp.1,u,k1,?_⟩;exact⟨u,_,_,_,rfl,hE.Fv h2 (λid du=>h3 id ae),ko.Fv h2 h1,k2.Fv h2,hK⟩
 rcases rQ hex with rfl|rfl
 ·exact fin
 ·exact fin
def xa (ρ:List Nat) (s exts s':List Obj):List Nat:=ρ++List.range' s.length (s'.length-exts.length)
theorem uE:∀(ρ ρ':List Nat) (A B:List Obj) (s:List Obj),A.length=ρ.length->aO s (ρ++ρ') (A++B)=aO (aO s ρ A) ρ' B
 |[],ρ',[],B,s,_=>by simp [aO]
 |[],_,_::_,_,_,h=>by simp at h
 |_::_,_,[],_,_,h=>by simp at h
 |r::ρ,ρ',a::A,B,s,h=>by simp only[aiX,aO];exact uE ρ ρ' A B _ (by simpa using h)
theorem za:∀(ρ:List Nat) (A:List Obj) (s t:List Obj),(∀id∈ρ,id<s.length)->aO (s++t) ρ A=aO s ρ A++t
 |[],_,s,t,_=>by simp [aO]
 |r::ρ,[],s,t,_=>by simp [aO]
 |r::ρ,a::A,s,t,h=>by simp only[aO];rw[List.set_append_left _ _ (h r aj)];exact za ρ A _ t (λid du=>by simpa using h id (by simp [du]))
theorem Bz:∀(m:Nat) (B s:List Obj),B.length=m->aO (s++List.replicate m hole) (List.range' s.length m) B=s++B
 |0,B,s,h=>by have:B=[]:=ajB h;subst this;simp [aO]
 |m+1,[],s,h=>by simp at h
 |m+1,b::B,s,h=>by rw[List.range'_succ,List.replicate_succ];simp only[aO];rw[akh _ _ (ajc _),akp,aju];have:=Bz m B (s++[b]) (by simpa using h);simpa using this
theorem jX {P:Program}{f:FuncId}{cargs args:List V}{exts:List Obj}{Kc K:V->List Obj->Prop} (h:az P f cargs exts Kc) (ρ:List Nat) (hρ:ρ.length=exts.length) (zF:ρ.Nodup)
  (hs:∀(k:Nat) (o:Obj),exts[k]?=some o->s[ρ.getD k 0]?=some (bf ρ o)) (kF:args=cargs.map (aS ρ)) (F6:ak.go exts.length cargs=true) (Al:exts.all (bc exts.length)=true)
  (hk:∀v s',Kc v s'->exts.length<=s'.length->K (aS (xa ρ s exts s') v) (aO s ρ ((s'.take exts.length).map (bf (xa ρ s exts s')))++(s'.drop exts.length).map (bf (xa ρ s exts s')))):az P f args s K:=by
 refine⟨h.1,λσ w vals hI hl hv=>?_⟩;have WC:∀k,k<exts.length->ρ[k]?=some (ρ.getD k 0):=λk hk=>by simp [List.getD,show k<ρ.length by omega]
 have hρi:∀k k',k<exts.length->k'<exts.length->ρ.getD k 0=ρ.getD k' 0->k=k':=by intro k k' h1 h2 he;have e1:=WC k h1;have e2:=WC k' h2;rw[he]at e1;obtain⟨l1,g1⟩:=List.getElem?_eq_some_iff.1 e1;obtain⟨l2,g2⟩:=List.getElem?_eq_some_iff.1 e2;exact(List.getElem_inj zF).1 (g1.trans g2.symm)
 have Jf:∀k,(hk:k<exts.length)->s[ρ.getD k 0]?=some (bf ρ exts[k]):=λk hk=>hs k exts[k] (by simp [hk]);let tR:Nat->Prop:=λb=>∃k base,k<exts.length/\σ (ρ.getD k 0)=some (b,base);let σc:Gh:=⟨λk=>if k<exts.length then σ (ρ.getD k 0) else none,λb=>Own σ s b/\¬tR b⟩
 have IT:∀k,k<exts.length->σc k=σ (ρ.getD k 0):=λk hk=>be hk;have AY:∀b,Own σc exts b->Own σ s b:=by
  rintro b (hb|⟨k,o,base,h1,h2,h3⟩)
  ·exact hb.1
  ·have aB:=(List.getElem?_eq_some_iff.1 h1).1;rw[IT k aB]at h3;exact .inr ⟨ρ.getD k 0,bf ρ o,base,hs k o h1,h2,h3⟩
 have RW:∀b,Own σ s b->Own σc exts b:=by
  intro b hb;by_cases he:tR b
  ·obtain⟨k,base,aB,h3⟩:=he;refine .inr ⟨k,exts[k],base,by simp [aB],?_,by rw[IT k aB];exact h3⟩;rcases hb with hb|⟨id,o,bQ,g1,g2,g3⟩
   ·exact absurd hb (hI.apart _ _ b base (Jf k aB) h3)
   ·have:=hI.inj id _ o _ b bQ base g1 (Jf k aB) g2 g3 h3;subst this;rw[Jf k aB]at g1;cases g1;exact g2
  ·exact .inl ⟨hb,he⟩
 have hIc:Inv σc exts w:=by
  refine⟨λk o ho=>?_,λk k' o o' b base bQ h1 h2 h3 h4 h5=>?_,λb hb=>EA hI hb.1,λk o b base h1 h2 hb=>?_⟩
  ·have aB:=(List.getElem?_eq_some_iff.1 ho).1;rw[IT k aB];rcases hI.content _ _ (hs k o ho) with g1|⟨b,base,arr,E,g1,g2,g3,g4,g5⟩
   ·exact .inl g1.down
   ·refine .inr ⟨b,base,arr,E,g1,g2,λe he=>?_,by simpa [bf]using g4,λi j x hx=>?_⟩
    ·have:=g3 (aS.go ρ e) (List.mem_map.2 ⟨e,he,rfl⟩);rw[jD]at this;simpa [bf]using this
    ·obtain⟨u,k1,k2,k3⟩:=g5 i j _ (HE hx);refine⟨u,k1,k2,yM AY hs IT k3 rfl ?_⟩;have hobj:=List.all_eq_true.1 Al o (ai4 ho);cases EG:o.aw[i]? with
     |none=>rw[EG]at hx;cases hx
     |some e =>
      rw[EG]at hx;exact List.all_eq_true.1 (List.all_eq_true.1 hobj e (ai4 EG)) x (ai4 hx)
  ·have l1:=(List.getElem?_eq_some_iff.1 h1).1;have l2:=(List.getElem?_eq_some_iff.1 h2).1;rw[IT k l1]at h4;rw[IT k' l2]at h5;exact hρi k k' l1 l2 (hI.inj _ _ _ _ b base bQ (hs k o h1) (hs k' o' h2) h3 h4 h5)
  ·have l1:=(List.getElem?_eq_some_iff.1 h1).1;rw[IT k l1]at h2;exact hb.2 ⟨k,base,l1,h2⟩
 refine(h.2 σc w vals hIc (by rw[hl,kF];simp) (λi x hx=>yM AY hs IT (hv i _ (by rw[kF,aiY,hx];rfl)) rfl (dR F6 i x hx))).mono λe w' ⟨u,v,σ',s',he,hE,ko,hR,hK⟩=>?_;have hle:exts.length<=s'.length:=by
  rcases Nat.eq_zero_or_pos exts.length with h0|h0
  ·omega
  ·obtain⟨o',g1,_⟩:=hE.Aj (exts.length-1) exts[exts.length-1] (ajg ae);have:=(List.getElem?_eq_some_iff.1 g1).1;omega
 have hK:=hk v s' hK hle;have aaA:∀id∈ρ,id<s.length:=by
  intro id du;obtain⟨k,hk⟩:=List.mem_iff_getElem?.1 du;have aB:k<exts.length:=by have:=(List.getElem?_eq_some_iff.1 hk).1;omega
  have h1:=(List.getElem?_eq_some_iff.1 (Jf k aB)).1;have:ρ.getD k 0=id:=by simp [List.getD,hk]
  omega
 obtain⟨R,W6⟩:∃R,R=xa ρ s exts s':=⟨_,rfl⟩
 rw[<- W6]at hK;have ZR:R.length=s'.length:=by rw[W6];simp [xa];omega
 have hRn:R.Nodup:=by rw[W6];unfold xa;rw[List.nodup_append];refine⟨zF,List.nodup_range',λa ha b hb he=>?_⟩;subst he;have h1:=aaA a ha;have h2:=List.mem_range'.1 hb;omega
 have RY:∀k,k<exts.length->R.getD k 0=ρ.getD k 0:=λk hk=>by rw[W6];unfold xa;simp only[List.getD];rw[ajj ae]
 have YI:∀k,exts.length<=k->k<s'.length->R.getD k 0=s.length+(k-exts.length):=λk h1 h2=>by rw[W6];unfold xa;simp only[List.getD];rw[ajh ae,List.getElem?_range' ae];simp;omega
 have hRk:∀k,k<s'.length->R[k]?=some (R.getD k 0):=λk hk=>by simp [List.getD,show k<R.length by omega]
 have adN:∀k,k<s'.length->R.getD k 0<s.length+(s'.length-exts.length):=λk hk=>by
  rcases ajr k exts.length with h1|h1
  ·rw[RY k h1];have:=(List.getElem?_eq_some_iff.1 (Jf k h1)).1;omega
  ·rw[YI k h1 hk];omega
 have WZ:aO s ρ ((s'.take exts.length).map (bf R))++(s'.drop exts.length).map (bf R)=aO (s++List.replicate (s'.length-exts.length) hole) R (s'.map (bf R)):=by
  have pZ:s'.map (bf R)=(s'.take exts.length).map (bf R)++(s'.drop exts.length).map (bf R):=by rw[<- akf,aku]
  rw[pZ,W6];unfold xa;generalize bf (ρ++List.range' s.length (s'.length-exts.length))=F;rw[uE _ _ _ _ _ cG,za _ _ _ _ aaA];have y9:(aO s ρ ((s'.take exts.length).map F)).length=s.length:=pz _ _ _;generalize aO s ρ ((s'.take exts.length).map F)=T at *;rw[<- y9,Bz (s'.length-exts.length) _ T aj]
 rw[WZ]at hK;clear WZ;let σn:Gh:=⟨λid=>match R.idxOf? id with|some k=>σ' k|none=>σ id,σ.base⟩
 have oK:∀k,k<s'.length->R.idxOf? (R.getD k 0)=some k:=by
  intro k hk;have e1:=hRk k hk;obtain⟨l1,g1⟩:=List.getElem?_eq_some_iff.1 e1;rw[List.idxOf?_eq_some_iff];refine⟨l1,by simp [g1],λj hj=>?_⟩;have Uu:j<R.length:=ae;intro hb;have RP:R[j]=R.getD k 0:=by simpa using hb
  have:=(List.getElem_inj hRn).1 (RP.trans g1.symm);omega
 have II:∀k,k<s'.length->σn (R.getD k 0)=σ' k:=λk hk=>by show (match R.idxOf? (R.getD k 0) with|some k=>σ' k|none=>σ (R.getD k 0))=σ' k;rw[oK k hk]
 have J0:∀id,id ∉ R->σn id=σ id:=λid du=>by show (match R.idxOf? id with|some k=>σ' k|none=>σ id)=σ id;rw[List.idxOf?_eq_none_iff.2 du]
 have ig:∀id,id∈R->∃k,k<s'.length/\id=R.getD k 0:=by intro id du;obtain⟨k,hk⟩:=List.mem_iff_getElem?.1 du;have aB:=(List.getElem?_eq_some_iff.1 hk).1;exact⟨k,ae,by simp [List.getD,hk]⟩
 have yf:(s++List.replicate (s'.length-exts.length) hole).length=s.length+(s'.length-exts.length):=aj;have M8:∀(k:Nat) (o:Obj),s'[k]?=some o->(aO (s++List.replicate (s'.length-exts.length) hole) R (s'.map (bf R)))[R.getD k 0]?=some (bf R o):=by intro k o ho;have aB:k<s'.length:=(List.getElem?_eq_some_iff.1 ho).1;exact yB R _ _ k _ _ hRn (hRk k aB) (by rw[aiY,ho];rfl) (by rw[yf];exact adN k aB)
 have vi:∀id,id ∉ R->(aO (s++List.replicate (s'.length-exts.length) hole) R (s'.map (bf R)))[id]?=s[id]?:=λid du=>by
  rw[iu R _ _ id du];rcases ajr id s.length with h1|h1
  ·rw[ajj h1]
  ·rw[ajH h1];refine ajH ?_;rw[yf];rcases ajr id (s.length+(s'.length-exts.length)) with h2|h2
   ·exfalso;apply du;have e1:=YI (exts.length+(id-s.length)) ae ae;have e2:=hRk (exts.length+(id-s.length)) ae;rw[e1]at e2;have e3:s.length+(exts.length+(id-s.length)-exts.length)=id:=ae;rw[e3]at e2;exact ai4 e2
   ·exact h2
 have Za:∀id o,id∈R->s[id]?=some o->∃k,k<exts.length/\id=R.getD k 0/\id=ρ.getD k 0:=by
  intro id o du ho;obtain⟨k,hk,rfl⟩:=ig id du;rcases ajr k exts.length with h1|h1
  ·exact⟨k,h1,rfl,RY k h1⟩
  ·rw[YI k h1 hk]at ho;have:=(List.getElem?_eq_some_iff.1 ho).1;omega
 have xS:∀(k:Nat) (o:Obj),k<s'.length->(aO (s++List.replicate (s'.length-exts.length) hole) R (s'.map (bf R)))[R.getD k 0]?=some o->∃o',s'[k]?=some o'/\o=bf R o':=by intro k o aB ho;have aH:k<s'.length:=ae;have:=M8 k s'[k] (by simp [aH]);rw[ho]at this;exact⟨s'[k],by simp [aH],by simpa using this⟩
 have gW:∀b,b<w.heap.size->Own σ s b->¬tR b->w'.heap[b]?=w.heap[b]?:=λb hb h1 h2=>hE.gW b hb ⟨h1,h2⟩;have DJ:∀b,σ.base b->¬tR b:=by rintro b hb ⟨k,base,aB,h3⟩;exact hI.apart _ _ b base (Jf k aB) h3 hb
 have sd:∀id o b base,id ∉ R->s[id]?=some o->σ id=some (b,base)->o.live=true->¬tR b:=by rintro id o b base du ho h1 Cm ⟨k,bQ,aB,h3⟩;have:=hI.inj id _ o _ b base bQ ho (Jf k aB) Cm h1 h3;exact du (by rw[this,<- RY k aB];exact ai4 (hRk k ae))
 have Tk:∀b,Own σn (aO (s++List.replicate (s'.length-exts.length) hole) R (s'.map (bf R))) b->Own σ' s' b:=by
  rintro b (hb|⟨id,o,base,h1,h2,h3⟩)
  ·left;rw[hE.base];exact⟨.inl hb,DJ b hb⟩
  ·by_cases du:id∈R
   ·obtain⟨k,aB,rfl⟩:=ig id du;obtain⟨o',g1,rfl⟩:=xS k o aB h1;rw[II k aB]at h3;exact .inr ⟨k,o',base,g1,h2,h3⟩
   ·rw[vi id du]at h1;rw[J0 id du]at h3;left;rw[hE.base];exact⟨.inr ⟨id,o,base,h1,h2,h3⟩,sd id o b base du h1 h3 h2⟩
 have X8:aG σ s w σn (aO (s++List.replicate (s'.length-exts.length) hole) R (s'.map (bf R))) w':=by
  refine⟨hE.os,hE.tape,hE.output,hE.size,λb hb ho=>hE.ba b hb λh'=>ho (AY b h'),λb arr E ho hh=>hE.shape b arr E (RW b ho) hh,λb ho hm=>hE.qY b (RW b ho) hm,λb hb=>?_,λid o ho=>?_,rfl,
   λb hb hf=>gW b hb (.inl hf) (DJ b hf)⟩
  ·rcases hE.own b (Tk b hb) with h'|h'
   ·exact .inl (AY b h')
   ·exact .inr h'
  ·by_cases du:id∈R
   ·obtain⟨k,aB,AX,Am⟩:=Za id o du ho;rw[Am,Jf k aB]at ho;simp only[ai5]at ho;subst ho;obtain⟨o',g1,g2,g3⟩:=hE.Aj k exts[k] (by simp [aB]);refine⟨bf R o',by rw[AX];exact M8 k o' g1,g2,λhe=>?_⟩;obtain⟨e1,e2⟩:=g3 he;refine⟨e1,?_⟩;have e3:σn id=σ' k:=by rw[AX];exact II k ae
    rw[e3,e2,IT k aB,Am]
   ·exact⟨o,by rw[vi id du];exact ho,ajc _,λ_=>⟨rfl,J0 id du⟩⟩
 have up:∀{x:V}{u:Value},aC σ' s' w' x u->aC σn (aO (s++List.replicate (s'.length-exts.length) hole) R (s'.map (bf R))) w' (aS R x) u:=λhr =>
  TI Tk M8 (λk hk=>II k ae) hr
 have hIn:Inv σn (aO (s++List.replicate (s'.length-exts.length) hole) R (s'.map (bf R))) w':=by
  refine⟨λid o ho=>?_,λid lV o o' b base bQ h1 h2 h3 h4 h5=>?_,λb hb=>ako (hI.low b hb) hE.size,λid o b base h1 h2 hb=>?_⟩
  ·by_cases du:id∈R
   ·obtain⟨k,aB,rfl⟩:=ig id du;obtain⟨o',g1,rfl⟩:=xS k o aB ho;rw[II k aB];rcases ko.content k o' g1 with c1|⟨b,base,arr,E,c1,c2,c3,c4,c5⟩
    ·exact .inl c1.up
    ·refine .inr ⟨b,base,arr,E,c1,c2,λe he=>?_,by simpa [bf]using c4,λi j y hy=>?_⟩
     ·obtain⟨e',jn,rfl⟩:=List.mem_map.1 he;rw[jD];simpa [bf]using c3 e' jn
     ·obtain⟨x,hx,rfl⟩:=JO hy;obtain⟨u,k1,k2,k3⟩:=c5 i j x hx;exact⟨u,k1,k2,up k3⟩
   ·rw[vi id du]at ho;rw[J0 id du];refine xk.aZ (p:=σ id) X8 (λb base hb=>?_) (hI.content id o ho);have aB:=hI.lt ho hb;by_cases hO:Own σ s b
    ·by_cases Cm:o.live=true
     ·exact gW b aB hO (sd id o b base du ho hb Cm)
     ·exfalso;rcases hO with hO|⟨lV,o',bQ,g1,g2,g3⟩
      ·exact hI.apart id o b base ho hb hO
      ·have:=hI.inj lV id o' o b bQ base g1 ho g2 g3 hb;subst this;rw[ho]at g1;cases g1;exact Cm g2
    ·exact hE.ba b aB λh'=>hO (AY b h')
  ·by_cases du:id∈R <;> by_cases yw:lV∈R
   ·obtain⟨k,aB,rfl⟩:=ig id du;obtain⟨k',aH,rfl⟩:=ig lV yw;obtain⟨p,g1,rfl⟩:=xS k o aB h1;obtain⟨p',XZ,rfl⟩:=xS k' o' aH h2;rw[II k aB]at h4;rw[II k' aH]at h5;rw[ko.inj k k' p p' b base bQ g1 XZ h3 h4 h5]
   ·exfalso;obtain⟨k,aB,rfl⟩:=ig id du;obtain⟨p,g1,rfl⟩:=xS k o aB h1;rw[II k aB]at h4;rw[vi lV yw]at h2;rw[J0 lV yw]at h5;have SY:=hI.lt h2 h5;have hO:Own σ s b:=by
     rcases hE.own b (.inr ⟨k,p,base,g1,h3,h4⟩) with h'|h'
     ·exact AY b h'
     ·omega
    by_cases Cm:o'.live=true
    ·exact ko.apart k p b base g1 h4 (by rw[hE.base];exact⟨hO,sd lV o' b bQ yw h2 h5 Cm⟩)
    ·rcases hO with hO|⟨id2,o2,B6,q1,q2,q3⟩
     ·exact hI.apart lV o' b bQ h2 h5 hO
     ·have:=hI.inj id2 lV o2 o' b B6 bQ q1 h2 q2 q3 h5;subst this;rw[h2]at q1;cases q1;exact Cm q2
   ·exfalso;obtain⟨k',aH,rfl⟩:=ig lV yw;obtain⟨p',XZ,rfl⟩:=xS k' o' aH h2;rw[II k' aH]at h5;rw[vi id du]at h1;rw[J0 id du]at h4;exact ko.apart k' p' b bQ XZ h5 (by rw[hE.base];exact⟨.inr ⟨id,o,base,h1,h3,h4⟩,sd id o b base du h1 h4 h3⟩)
   ·rw[vi id du]at h1;rw[vi lV yw]at h2;rw[J0 id du]at h4;rw[J0 lV yw]at h5;exact hI.inj id lV o o' b base bQ h1 h2 h3 h4 h5
  ·by_cases du:id∈R
   ·obtain⟨k,aB,rfl⟩:=ig id du;obtain⟨p,g1,rfl⟩:=xS k o aB h1;rw[II k aB]at h2;exact ko.apart k p b base g1 h2 (by rw[hE.base];exact⟨.inl hb,DJ b hb⟩)
   ·rw[vi id du]at h1;rw[J0 id du]at h2;exact hI.apart id o b base h1 h2 hb
 exact⟨u,aS R v,σn,_,he,X8,hIn,up hR,hK⟩
def zA (lim:Nat) (s:List Obj) (o:Obj):Option Obj:=(o.aw.mapM (bm.go lim s)).map λaw=>{ o with aw:=aw }
theorem AK {α β:Type}{f:α->Option β}:∀{l:List α}{r:List β},l.mapM f=some r->r.length=l.length/\(∀(i:Nat) (y:β),r[i]?=some y->∃x,l[i]?=some x/\f x=some y)/\∀(i:Nat) (x:α),l[i]?=some x->∃y,r[i]?=some y/\f x=some y
 |[],r,h=>by simp at h;subst h;simp
 |a::l,r,h=>by
  simp only[aki,Option.bind_eq_bind,Option.pure_def]at h;cases ha:f a with
  |none=>rw[ha]at h;simp at h
  |some b =>
   rw[ha]at h;cases hl:l.mapM f with
   |none=>rw[hl]at h;simp at h
   |some bs =>
    rw[hl]at h;simp only[ajM,ai5]at h;subst h;obtain⟨k1,k2,k3⟩:=AK hl;refine⟨by simp [k1],λi y hy=>?_,λi x hx=>?_⟩
    ·cases i with
     |zero=>simp at hy;subst hy;exact⟨a,rfl,ha⟩
     |succ i=>simpa using k2 i y (by simpa using hy)
    ·cases i with
     |zero=>simp at hx;subst hx;exact⟨b,rfl,ha⟩
     |succ i=>simpa using k3 i x (by simpa using hx)
theorem wH{o o':Obj} (h:zA lim s o=some o'):o'.g=o.g/\o'.live=o.live/\o'.sz=o.sz/\o.aw.mapM (bm.go lim s)=some o'.aw:=by unfold zA at h;obtain⟨aw,h1,rfl⟩:=Option.map_eq_some_iff.1 h;exact⟨rfl,rfl,rfl,h1⟩
theorem Tv {σ:Gh}{sF:List Obj}{w:World} (hI:Inv σ s w) (h:(s.take lim).mapM (zA lim s)=some sF):aG σ (s.take lim) w σ sF w/\Inv σ sF w:=by
 obtain⟨m1,m2,m3⟩:=AK h;have im:∀b,Own σ sF b->Own σ (s.take lim) b:=by
  rintro b (hb|⟨id,o,base,h1,h2,h3⟩)
  ·exact .inl hb
  ·obtain⟨o0,k1,k2⟩:=m2 id o h1;obtain⟨_,e2,_,_⟩:=wH k2;exact .inr ⟨id,o0,base,k1,by rw[<- e2];exact h2,h3⟩
 have hE:aG σ (s.take lim) w σ sF w:=by refine⟨rfl,rfl,rfl,ajc _,λ_ _ _=>rfl,λ_ arr _ _ h=>⟨arr,h,rfl⟩,λ_ _ h=>h,λb hb=>.inl (im b hb),λid o ho=>?_,rfl,λ_ _ _=>rfl⟩;obtain⟨o',k1,k2⟩:=m3 id o ho;obtain⟨e1,_,e3,_⟩:=wH k2;exact⟨o',k1,ae,λ_=>⟨e3,rfl⟩⟩
 have get:∀(id:Nat) (o:Obj),(s.take lim)[id]?=some o->s[id]?=some o:=by
  intro id o hh;rw[ajA]at hh;split at hh
  ·exact hh
  ·cases hh
 refine⟨hE,λid o ho=>?_,λid lV o o' b base bQ h1 h2 h3 h4 h5=>?_,hI.low,λid o b base h1 h2=>?_⟩
 ·obtain⟨o0,k1,k2⟩:=m2 id o ho;obtain⟨e1,e2,e3,e4⟩:=wH k2;obtain⟨n1,n2,n3⟩:=AK e4;rcases hI.content id o0 (get _ _ k1) with (⟨h1,h2⟩|⟨b,es,c,h1,h2,h3⟩)|⟨b,base,arr,E,h1,h2,h3,h4,h5⟩
  ·exact .inl (.inl ⟨h1,ajB (by rw[n1,h2];rfl)⟩)
  ·refine .inl (.inr ⟨b,es,c,h1,h2,?_⟩);rw[<- h3];refine ajX λi=>?_;cases hi:o0.aw[i]? with
   |none =>
    have:=List.getElem?_eq_none_iff.1 hi;exact ajH ae
   |some x =>
    obtain⟨y,y1,y2⟩:=n3 i x hi;rw[y1];have hx:=hi;rw[h3]at hx;unfold fZ at hx;rw[aiY]at hx;obtain⟨en,_,rfl⟩:=Option.map_eq_some_iff.1 hx;simp only[bm.go,bm,ai5]at y2;rw[<- y2]
  ·refine .inr ⟨b,base,arr,E,h1,h2,λe he=>?_,by rw[n1,e3];exact h4,λi j y hy=>?_⟩
   ·obtain⟨i,hi⟩:=List.mem_iff_getElem?.1 he;obtain⟨x,x1,x2⟩:=n2 i e hi;rw[(vz x2).1,e3];exact h3 x (ai4 x1)
   ·cases EG:o.aw[i]? with
    |none=>rw[EG]at hy;cases hy
    |some e =>
     rw[EG]at hy;obtain⟨x,x1,x2⟩:=n2 i e EG;obtain⟨v,v1,v2⟩:=(vz x2).2 j y hy;obtain⟨u,u1,u2,u3⟩:=h5 i j v (by rw[x1];exact v1);exact⟨u,by rw[e3];exact u1,u2,(mR hI u3 v2).aZ hE⟩
 ·obtain⟨a,k1,k2⟩:=m2 id o h1;obtain⟨a',k1',k2'⟩:=m2 lV o' h2;exact hI.inj id lV a a' b base bQ (get _ _ k1) (get _ _ k1') (by rw[<- (wH k2).2.1];exact h3) h4 h5
 ·obtain⟨a,k1,k2⟩:=m2 id o h1;exact hI.apart id a b base (get _ _ k1) h2
def AZ (lim:Nat) (s:List Obj) (r:V) (K:V->List Obj->Prop):Prop :=
 match (s.take lim).mapM (zA lim s),bm lim s r with
 |some sF,some r'=>K r' sF
 |_,_=>False
def Pg (P:Program) (rs:List ResultVar) (lim:Nat) (K:V->List Obj->Prop) (ex:Exit) (e:Env) (s:List Obj):Prop:=zK ex/\ze P rs e s λr=>AZ lim s r K
theorem Nm {P : Program} {f : FuncId} {fn : Func} {c : Code} {args : List V} {exts : List Obj} {K : V → List Obj → Prop} (hf : P.funcs[f]? = some fn) (hb : fn.body = some c) {N : Nat} (hN : fn.ntmps = N) {rs : Array ResultVar} (Qt : fn.results = rs) (hn : (fn.name != "runtime.NumGoroutine") = true)
  (lim M:Nat) (hl:exts.length<=lim) (ha:args.length<=N)
  (h:codeWp P N lim M c (Pg P rs.toList lim K) (iX args) exts):az P f args exts K:=by
 subst hN;subst Qt;refine⟨by simp only[Ml,hf,hn,hb,Option.isSome_some,aka],λσ w vals hI Xb hv=>?_⟩;refine calls_of_wp hf hb ?_;have hR:eC σ exts w fn.ntmps (iX args) { tmps:=vals++Array.replicate (fn.ntmps-vals.size) undef,defers:=[] }:=by
  refine⟨rfl,cG,λt=>?_⟩;rw[oZ];by_cases ht:t<args.length
  ·have h1:=hv t args[t] (by simp [ht]);have:(vals++Array.replicate (fn.ntmps-vals.size) undef).getD t undef=vals.getD t undef:=by rw[ajl,aj8 ae,ajl]
   rw[this];simpa [ht]using h1
  ·have:(vals++Array.replicate (fn.ntmps-vals.size) undef).getD t undef=undef:=by rw[ajl,akd ae,Array.getElem?_replicate];split <;> rfl
   rw[this];simp [ht];exact .un
 refine wp_mono (oH hl c _ (iX args) exts σ w _ (aG.refl _ _ _) hI hR h) λex a' w' ⟨e',σ',s',hE,ko,qp,hex,hq⟩=>?_;obtain⟨v,u,k1,k2,k3⟩:=nG ko qp hq;unfold AZ at k3;have fin:a'.defers=[]/\∃v,(results fn a'.tmps).run P w'=.ok v w'/\∃u Ts xH sT,Ending.returned v=.returned u/\aG σ exts w xH sT w'/\Inv xH sT w'/\aC xH sT w' Ts u/\K Ts sT:=by
  refine⟨qp.1,u,k1,?_⟩;split at k3
  ·rename_i sF r' hsF V6;obtain⟨q1,q2⟩:=Tv ko hsF;exact⟨u,r',σ',sF,rfl,(hE.take hl).trans q1,q2,(mR ko k2 V6).aZ q1,k3⟩
  ·exact k3.elim
 rcases rQ hex with rfl|rfl
 ·exact fin
 ·exact fin
end Go.VL
