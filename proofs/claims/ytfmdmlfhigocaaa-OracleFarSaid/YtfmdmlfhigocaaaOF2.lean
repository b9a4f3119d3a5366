/- A part of the proof (Vd Ve Vf). -/
import Derived.Test.YtfmdmlfhigocaaaOF1
set_option linter.unusedSimpArgs false
set_option linter.unusedVariables false
set_option maxRecDepth 100000
set_option maxHeartbeats 80000000
namespace Go.VL
def aZ (P:Program) (t:TypeId) (f:Nat):Option Nat :=
 match P.underlying t with
 |some (.struct fields)=>match fields[f]? with
  |some fd=>match P.info? fd.type with
   |some i=>if i.size=0 then none else some fd.offset
   |none=>none
  |none=>none
 |_=>none
theorem JK {P:Program}{t f off} (h:aZ P t f=some off):∃fields fd,P.underlying t=some (.struct fields)/\fields[f]?=some fd/\fd.offset=off /\
  ∀(a:Addr) (w:World),(fieldPlace a fd).run P w=.ok (a.add off) w:=by
 unfold aZ at h
 split at h
 ·rename_i fields hu
  split at h
  ·rename_i fd hf
   split at h
   ·rename_i i hi
    split at h
    ·cases h
    ·rename_i eF
     simp only[Option.some.injEq]at h
     exact⟨fields,fd,hu,hf,h,fun a w=>by simp [fieldPlace,sizeOf,typeInfo,hi,eF,h]⟩
   ·cases h
  ·cases h
 ·cases h
def rj (s:List Obj) (id g:Nat) (K:Obj->Prop):Prop :=
 match s[id]? with
 |none=>False
 |some o=>o.g=g/\K o
theorem dA {s:List Obj}{id g:Nat}{K:Obj->Prop} (h:rj s id g K):∃o,s[id]?=some o/\o.g=g/\K o:=by
 unfold rj at h
 split at h
 ·exact h.elim
 ·rename_i o ho;exact⟨o,ho,h.1,h.2⟩
def dN (P:Program) (t:TypeId) (s:List Obj) (p:V) (f:Nat) (K:V->Prop):Prop :=
 match aZ P t f with
 |none=>False
 |some d=>match p with
  |.d (.el cs)=>K (.d (.el (cs.drop d)))
  |.rf id g k off=>rj s id g fun _=>K (.rf id g k (off+d))
  |.pp id g k off b a=>rj s id g fun _=>K (.pp id g k (off+d) b (a+d))
  |.d (.sc (.pointer (some ⟨b,a,none⟩)))=>K (.d (.sc (.pointer (some ⟨b,a+d,none⟩))))
  |_=>False
theorem GY {σ:Gh}{s:List Obj}{w:World}{id g k off:Nat}{u:Value} (hp:aw σ s w (.rf id g k off) u) {o:Obj} (ho:s[id]?=some o) (hg:o.g=g) :
  ∃b base,σ id=some (b,base)/\Bp w b/\u=.pointer (some ⟨b,base+k*o.sz+off,none⟩):=by
 cases hp with
 |rf o' gE zP hu hk =>
  rw[ho]at gE;cases gE
  exact hk hg
theorem cu.drop {O:Nat->Prop}{w:World}{cs:List D}{a:Addr} (h:cu O w (.el cs) (.pointer (some a))) (d:Nat):cu O w (.el (cs.drop d)) (.pointer (some (a.add d))):=by
 cases h with
 |el _ _ f h1 h2 h3 =>
  rw[e8 h1]
  refine .el _ _ (fun j=>f (d+j)) rfl (fun j x hx=>?_) (fun j x hx=>?_)
  ·rw[List.getElem?_drop]at hx
   have:=h2 (d+j) x hx
   simpa [Nat.add_assoc]using this
  ·rw[List.getElem?_drop]at hx
   exact h3 (d+j) x hx
theorem xu {P:Program}{t:TypeId}{σ:Gh}{s:List Obj}{w:World}{p:V}{u:Value}{f:Nat}{K:V->Prop} (hp:aw σ s w p u) (h:dN P t s p f K) :
  ∃v c,(Instr.fieldAt t u f).run P w=.ok c w/\aw σ s w v c/\K v:=by
 unfold dN at h
 split at h
 ·exact h.elim
 ·rename_i d hd
  obtain⟨fields,fd,h1,h2,h3,h4⟩:=JK hd
  have dI:∀a:Addr,(Instr.fieldAt t (.pointer (some a)) f).run P w=.ok (.pointer (some (a.add d))) w:=fun a=>by
   simp [Instr.fieldAt,run_underlying h1,h2,Instr.sureAddr,h4]
  cases hp with
  |d hx =>
   cases hx with
   |el cs a f' k1 k2 k3=>exact⟨_,_,dI a,.d (cu.drop (.el cs a f' k1 k2 k3) d),h⟩
   |sc v hv =>
    split at h
    case h_4 =>
     rename_i b a he
     simp only[V.d.injEq,D.sc.injEq]at he
     subst he
     refine⟨_,_,dI _,?_,h⟩
     rw[e8 rfl]
     exact .d (.sc _ rfl)
    all_goals first|exact h.elim|(rename_i he;cases he)
   |_=>exact h.elim
  |rf o ho hg hu hk =>
   obtain⟨o',e1,e2,e3⟩:=dA h
   rw[ho]at e1;cases e1
   obtain⟨b,base,k1,kC,rfl⟩:=hk e2
   refine⟨_,_,dI _,.rf o ho hg rfl (fun _=>⟨b,base,k1,kC,?_⟩),e3⟩
   rw[e8 rfl]
   simp [Nat.add_assoc]
  |pp o ho hg hk =>
   obtain⟨o',e1,e2,e3⟩:=dA h
   rw[ho]at e1;cases e1
   refine⟨_,_,dI _,?_,e3⟩
   rw[e8 rfl]
   exact .pp o ho hg fun he=>let ⟨base,h1,h2,h3⟩:=hk he;⟨base,h1,h2,by rw[h3];simp [Nat.add_assoc]⟩
  |_=>exact h.elim
def zy (P:Program) (t:TypeId):Option Nat :=
 match P.underlying t with
 |some (.slice e)=>(P.info? e).map (·.size)
 |_=>none
def Ow (P:Program) (t:TypeId):Option (Nat×Nat) :=
 match P.underlying t with
 |some (.array n e)=>(P.info? e).map fun i=>(n,i.size)
 |_=>none
theorem EJ {P:Program}{t z} (h:zy P t=some z):∃e i,P.underlying t=some (.slice e)/\P.info? e=some i/\i.size=z:=by
 unfold zy at h
 split at h
 ·rename_i e hu
  obtain⟨i,h1,h2⟩:=Option.map_eq_some_iff.1 h
  exact⟨e,i,hu,h1,h2⟩
 ·cases h
theorem yY {P:Program}{t n z} (h:Ow P t=some (n,z)):∃e i,P.underlying t=some (.array n e)/\P.info? e=some i/\i.size=z:=by
 unfold Ow at h
 split at h
 ·rename_i m e hu
  obtain⟨i,h1,h2⟩:=Option.map_eq_some_iff.1 h
  simp only[Prod.mk.injEq]at h2
  obtain⟨rfl,h2⟩:=h2
  exact⟨e,i,hu,h1,h2⟩
 ·cases h
def OK (au:List (List D)) (i z:Nat) (K:V->Prop):Prop :=
 match au[i]? with
 |none=>False
 |some cs=>cs.length=z/\K (.d (.el cs))
def c7 (P:Program) (t:TypeId) (s:List Obj) (x i:V) (K:V->Prop):Prop :=
 match i with
 |.d (.sc (.int _ n))=>match zy P t with
  |some z=>match x with
   |.d (.sl au)=>0<=n/\n<au.length/\OK au n.toNat z K
   |.fu au=>0<=n/\n<au.length/\OK au n.toNat z K
   |.so id g lo m=>rj s id g fun o=>0<=n/\n<m/\o.sz=z/\K (.rf id g (lo+n.toNat) 0)
   |_=>False
  |none=>match Ow P t with
   |some (len,z)=>match x with
    |.d (.el cs)=>0<=n/\n<len/\K (.d (.el (cs.drop (n.toNat*z))))
    |.rf id g k off=>rj s id g fun _=>0<=n/\n<len/\K (.rf id g k (off+n.toNat*z))
    |_=>False
   |none=>False
 |_=>False
theorem cu.elem {O:Nat->Prop}{w:World}{au:List (List D)}{a:Option Addr}{n cap:Nat} (h:cu O w (.sl au) (.slice a n cap)) {i:Nat}{cs:List D} (mL:au[i]?=some cs) {z:Nat} (hz:cs.length=z) :
  ∃ad,a=some ad/\n=au.length/\cu O w (.el cs) (.pointer (some (ad.add (i*z)))):=by
 have az:=(List.getElem?_eq_some_iff.1 mL).1
 cases h with
 |nil=>simp at az
 |sl _ ad _ sz f h1 h2 h3 h4 h5 =>
  have eF:au≠[]:=by intro e;rw[e]at az;simp at az
  have fo:sz=z:=by rw[<- hz];exact(h3 cs (List.mem_of_getElem? mL)).symm
  subst fo
  refine⟨ad,rfl,rfl,?_⟩
  rw[e8 (h2 eF)]
  exact .el _ _ (f i) rfl (fun j x hx=>h4 i j x (by rw[mL];exact hx)) (fun j x hx=>h5 i j x (by rw[mL];exact hx))
theorem xg {P:Program}{t:TypeId}{σ:Gh}{s:List Obj}{w:World}{x i:V}{u ui:Value}{K:V->Prop} (hx:aw σ s w x u) (hi:aw σ s w i ui) (h:c7 P t s x i K) :
  ∃v c,(Instr.indexAt t u ui).run P w=.ok c w/\aw σ s w v c/\K v:=by
 unfold c7 at h
 split at h
 case h_2=>exact h.elim
 rename_i k n
 cases hi with|d hi=>?_
 cases hi with|sc _ _=>?_
 split at h
 ·rename_i z hz
  obtain⟨e,ti,h1,h2,h3⟩:=EJ hz
  have dI:∀(ad:Addr) (len cap:Nat),0<=n->n<len->(Instr.indexAt t (.slice (some ad) len cap) (.int k n)).run P w=.ok (.pointer (some (ad.add (n.toNat*z)))) w:=by
   intro ad len cap g1 g2
   simp [Instr.indexAt,asIntOf,run_underlying h1,g1,g2,sizeOf,typeInfo,h2,h3]
  have AF:∀(au:List (List D)) (a:Option Addr) (m cap:Nat),cu (Own σ s) w (.sl au) (.slice a m cap)->0<=n/\n<au.length/\OK au n.toNat z K ->
    ∃v c,(Instr.indexAt t (.slice a m cap) (.int k n)).run P w=.ok c w/\aw σ s w v c/\K v:=by
   intro au a m cap hr ⟨g1,g2,g3⟩
   unfold OK at g3
   split at g3
   ·exact g3.elim
   ·rename_i cs mL
    obtain⟨ad,rfl,rfl,vO⟩:=hr.elem mL g3.1
    exact⟨_,_,dI ad _ cap g1 g2,.d vO,g3.2⟩
  cases hx with
  |d hx =>
   cases hx with
   |nil=>exact AF _ _ _ _ .nil h
   |sl au a cap sz f k1 k2 k3 k4 k5=>exact AF _ _ _ _ (.sl au a cap sz f k1 k2 k3 k4 k5) h
   |_=>exact h.elim
  |fu hx=>exact AF _ _ _ _ hx h
  |so o ho hg hu hk =>
   obtain⟨o',e1,e2,e3,e4,e5,e6⟩:=dA h
   rw[ho]at e1;cases e1
   rcases hk e2 with ⟨_,⟨a,rfl⟩,_,rfl⟩|⟨b,base,cap,E,arr,g1,g2,rfl,g4,g5⟩
   ·omega
   ·refine⟨_,_,dI _ _ _ e3 e4,.rf o ho hg rfl (fun _=>⟨b,base,g1,⟨arr,E,g2⟩,?_⟩),e6⟩
    rw[e8 rfl,e5,Nat.add_mul]
    simp [Nat.add_assoc]
  |_=>exact h.elim
 ·split at h
  ·rename_i uD len z hz
   obtain⟨e,ti,h1,h2,h3⟩:=yY hz
   have dI:∀(ad:Addr),0<=n->n<len->(Instr.indexAt t (.pointer (some ad)) (.int k n)).run P w=.ok (.pointer (some (ad.add (n.toNat*z)))) w:=by
    intro ad g1 g2
    simp [Instr.indexAt,asIntOf,run_underlying h1,Instr.sureAddr,g1,g2,sizeOf,typeInfo,h2,h3]
   cases hx with
   |d hx =>
    cases hx with
    |el cs a f k1 k2 k3=>exact⟨_,_,dI a h.1 h.2.1,.d (cu.drop (.el cs a f k1 k2 k3) _),h.2.2⟩
    |_=>exact h.elim
   |rf o ho hg hu hk =>
    obtain⟨o',e1,e2,e3,e4,e5⟩:=dA h
    rw[ho]at e1;cases e1
    obtain⟨b,base,k1,kC,rfl⟩:=hk e2
    refine⟨_,_,dI _ e3 e4,.rf o ho hg rfl (fun _=>⟨b,base,k1,kC,?_⟩),e5⟩
    rw[e8 rfl]
    simp [Nat.add_assoc]
   |_=>exact h.elim
  ·exact h.elim
def pC (P:Program) (t:TypeId) (cs:List V) (off:Nat) (K:V->Prop):Prop :=
 match cb P t with
 |none=>False
 |some i=>match i.agg with
  |true=>off+i.sz<=cs.length/\K (.ag ((cs.drop off).take i.sz))
  |false=>match cs[off]? with
   |none=>False
   |some v=>K v
theorem yh {P:Program}{t:TypeId}{σ:Gh}{s:List Obj}{w:World}{cs:List V}{arr:Array Value}{off:Nat}{K:V->Prop} (hx:aw σ s w (.ag cs) (.agg arr)) (h:pC P t cs off K) :
  ∃v c,(part t arr off).run P w=.ok c w/\aw σ s w v c/\K v:=by
 unfold pC at h
 cases hx with|ag h1 h2 h3=>?_
 split at h
 ·exact h.elim
 ·rename_i i hi
  obtain⟨ti,d,z,k1,k2,k3,k4,k5,k6,k7,k8,k9⟩:=fA hi
  have fo:∀w,(sizeOf t).run P w=.ok i.sz w:=fun w=>by simp [sizeOf,typeInfo,k1,k4]
  split at h
  ·rename_i vq
   rw[vq]at k9
   refine⟨_,.agg (arr.extract off (off+i.sz)),by simp [part,k9,fo],?_,h.2⟩
   have e:∀(j:Nat) (x:V),((cs.drop off).take i.sz)[j]?=some x->cs[off+j]?=some x/\(arr.extract off (off+i.sz)).getD j undef=arr.getD (off+j) undef:=by
    intro j x hx
    rw[List.getElem?_take]at hx
    split at hx
    ·rename_i hj
     rw[List.getElem?_drop]at hx
     refine⟨hx,?_⟩
     have e2:(arr.extract off (off+i.sz))[j]?=arr[off+j]?:=by
      rw[Array.getElem?_extract,if_pos (by rw[h1];omega)]
     rw[Array.getD_eq_getD_getElem?,Array.getD_eq_getD_getElem?,e2]
    ·cases hx
   refine .ag (by simp [h1];omega) (fun j x hx=>?_) (fun j x hx=>?_)
   ·rw[(e j x hx).2];exact h2 _ _ (e j x hx).1
   ·rw[(e j x hx).2];exact h3 _ _ (e j x hx).1
  ·rename_i vq
   rw[vq]at k9
   split at h
   ·exact h.elim
   ·rename_i v hv
    have az:=(List.getElem?_eq_some_iff.1 hv).1
    obtain⟨c,hc⟩:∃c,arr[off]?=some c:=⟨arr[off]'(by omega),by rw[Array.getElem?_eq_getElem]⟩
    have hd:arr.getD off undef=c:=by rw[Array.getD_eq_getD_getElem?,hc];rfl
    exact⟨v,c,by simp [part,k9,hc],by rw[<- hd];exact h3 _ _ hv,h⟩
def kz (P:Program) (t:TypeId) (x:V) (f:Nat) (K:V->Prop):Prop :=
 match x with
 |.ag cs=>match P.underlying t with
  |some (.struct fields)=>match fields[f]? with
   |some fd=>pC P fd.type cs fd.offset K
   |none=>False
  |_=>False
 |_=>False
theorem DN {P:Program}{t:TypeId}{σ:Gh}{s:List Obj}{w:World}{x:V}{u:Value}{f:Nat}{K:V->Prop} (hx:aw σ s w x u) (h:kz P t x f K) :
  ∃v c,(Instr.field t u f).run P w=.ok c w/\aw σ s w v c/\K v:=by
 unfold kz at h
 split at h
 case h_2=>exact h.elim
 split at h
 case h_2=>exact h.elim
 split at h
 case h_2=>exact h.elim
 rename_i hu _ fd YT
 cases hx with|ag h1 h2 h3=>?_
 obtain⟨v,c,r1,r2,r3⟩:=yh (.ag h1 h2 h3) h
 exact⟨v,c,by simp [Instr.field,run_underlying hu,YT,asAgg,r1],r2,r3⟩
def iL (P:Program) (t:TypeId) (x i:V) (K:V->Prop):Prop :=
 match i with
 |.d (.sc (.int _ n))=>match x with
  |.ag cs=>match P.underlying t with
   |some (.array len e)=>match (P.info? e).map (·.size) with
    |some z=>0<=n/\n<len/\pC P e cs (n.toNat*z) K
    |none=>False
   |_=>False
  |_=>False
 |_=>False
theorem Ds {P:Program}{t:TypeId}{σ:Gh}{s:List Obj}{w:World}{x i:V}{u ui:Value}{K:V->Prop} (hx:aw σ s w x u) (hi:aw σ s w i ui) (h:iL P t x i K) :
  ∃v c,(Instr.index t u ui).run P w=.ok c w/\aw σ s w v c/\K v:=by
 unfold iL at h
 split at h
 case h_2=>exact h.elim
 rename_i k n
 cases hi with|d hi=>?_
 cases hi with|sc _ _=>?_
 split at h
 case h_2=>exact h.elim
 split at h
 case h_2=>exact h.elim
 rename_i hu
 split at h
 case h_2=>exact h.elim
 rename_i z hz
 obtain⟨ti,h1,h2⟩:=Option.map_eq_some_iff.1 hz
 cases hx with|ag k1 k2 k3=>?_
 obtain⟨v,c,r1,r2,r3⟩:=yh (.ag k1 k2 k3) h.2.2
 refine⟨v,c,?_,r2,r3⟩
 simp [Instr.index,asIntOf,run_underlying hu,h.1,h.2.1,sizeOf,typeInfo,h1,h2,r1]
def tx (σ:Gh) (s:List Obj) (w:World) (cs:List V) (arr:Array Value):Prop :=
 arr.size=cs.length/\∀(i:Nat) (x:V),cs[i]?=some x->∃c,arr[i]?=some c/\c.oneCell'=true/\aw σ s w x c
theorem tx.ag {σ s w cs arr} (h:tx σ s w cs arr):aw σ s w (.ag cs) (.agg arr):=by
 have e:∀(i:Nat) (x:V),cs[i]?=some x->(arr.getD i undef).oneCell'=true/\aw σ s w x (arr.getD i undef):=by
  intro i x hx
  obtain⟨c,h1,h2,h3⟩:=h.2 i x hx
  rw[Array.getD_eq_getD_getElem?,h1]
  exact⟨h2,h3⟩
 exact .ag h.1 (fun i x hx=>(e i x hx).1) (fun i x hx=>(e i x hx).2)
theorem vy {P:Program}{t:TypeId}{i:Kh} (ht:cb P t=some i) (σ:Gh) (s:List Obj) (w:World):∃z,(∀w,(zeroValue t).run P w=.ok z w)/\tx σ s w (i.zero.map cv) z.cells/\z.cells.size=i.sz/\z.cells.toList=i.zero:=by
 obtain⟨ti,d,z,k1,k2,k3,k4,k5,k6,k7,k8,k9⟩:=fA ht
 refine⟨z,fun w=>by simp [zeroValue,typeInfo,k1,k3],⟨by rw[<- Array.length_toList,k6];simp,fun j x hx=>?_⟩,by rw[<- Array.length_toList,k6,k7],k6⟩
 rw[List.getElem?_map]at hx
 obtain⟨v,hv,rfl⟩:=Option.map_eq_some_iff.1 hx
 exact⟨v,by rw[<- Array.getElem?_toList,k6];exact hv,k8 v (List.mem_of_getElem? hv),B7 v⟩
theorem vm (off:Nat):∀(l:List Value) (k:Nat) (cells:Array Value),off+k+l.length<=cells.size ->
  ((l.zipIdx k).foldl (fun cs (x:Value×Nat)=>cs.setIfInBounds (off+x.2) x.1) cells).size=cells.size /\
  ∀p,((l.zipIdx k).foldl (fun cs (x:Value×Nat)=>cs.setIfInBounds (off+x.2) x.1) cells)[p]?=if off+k<=p/\p<off+k+l.length then l[p-(off+k)]? else cells[p]?
 |[],k,cells,_=>by simp;intro p h1 h2;omega
 |v::l,k,cells,h=>by
  simp only[List.length_cons]at h
  simp only[List.zipIdx_cons,List.foldl_cons]
  obtain⟨h1,h2⟩:=vm off l (k+1) (cells.setIfInBounds (off+k) v) (by simp;omega)
  refine⟨by rw[h1];simp,fun p=>?_⟩
  rw[h2 p]
  by_cases hp:p=off+k
  ·subst hp
   rw[if_neg (by omega),if_pos (by simp),Array.getElem?_setIfInBounds_self_of_lt (by omega)]
   simp
  ·rw[Array.getElem?_setIfInBounds_ne (by omega)]
   by_cases hq:off+(k+1)<=p/\p<off+(k+1)+l.length
   ·rw[if_pos hq,if_pos (by simp only[List.length_cons];omega)]
    rw[show p-(off+k)=(p-(off+(k+1)))+1 by omega]
    simp
   ·rw[if_neg hq,if_neg (by simp only[List.length_cons];omega)]
def sh (place:Nat->Option (Nat×Nat)) (cs:List V):List (Nat×V)->Option (List V)
 |[]=>some cs
 |(i,v)::rest=>match place i with
  |none=>none
  |some (off,size)=>match du v with
   |none=>none
   |some ns=>if ns.length=size/\off+ns.length<=cs.length then sh place (fy cs off ns) rest else none
theorem sC {σ:Gh}{s:List Obj}{w:World}{place:Nat->Option (Nat×Nat)}:∀(parts:List (Nat×V)) (ps:List (Nat×Value)) (cs:List V) (arr:Array Value) (QQ:List V),tx σ s w cs arr ->
  ps.length=parts.length->(∀(j:Nat) i x,parts[j]?=some (i,x)->∃u,ps[j]?=some (i,u)/\aw σ s w x u)->sh place cs parts=some QQ ->
  ∃b9,Instr.fill place arr ps=some b9/\tx σ s w QQ b9
 |[],[],cs,arr,QQ,hr,_,_,h=>by
  simp only[sh,Option.some.injEq]at h
  subst h
  exact⟨arr,rfl,hr⟩
 |[],p::ps,_,_,_,_,hl,_,_=>by simp at hl
 |_::_,[],_,_,_,_,hl,_,_=>by simp at hl
 |(i,v)::parts,(i',u)::ps,cs,arr,QQ,hr,hl,hp,h=>by
  obtain⟨u',hu,uQ⟩:=hp 0 i v rfl
  simp only[List.getElem?_cons_zero,Option.some.injEq,Prod.mk.injEq]at hu
  obtain⟨rfl,rfl⟩:=hu
  simp only[sh]at h
  split at h
  ·cases h
  ·rename_i off size Bo
   split at h
   ·cases h
   ·rename_i ns sy
    split at h
    ·rename_i hc
     obtain⟨h1,h2⟩:=kB uQ sy
     have hrep:=vm off u.cells.toList 0 arr (by simp;rw[hr.1,h1];exact hc.2)
     have e:u.cells.zipIdx.foldl (fun cs (x:Value×Nat)=>cs.setIfInBounds (off+x.2) x.1) arr=(u.cells.toList.zipIdx 0).foldl (fun cs (x:Value×Nat)=>cs.setIfInBounds (off+x.2) x.1) arr:=by
      rw[<- Array.foldl_toList];simp
     have NH:tx σ s w (fy cs off ns) ((u.cells.toList.zipIdx 0).foldl (fun cs (x:Value×Nat)=>cs.setIfInBounds (off+x.2) x.1) arr):=by
      refine⟨by rw[hrep.1,hr.1,pa _ _ _ hc.2],fun j x hx=>?_⟩
      rw[mT _ _ _ hc.2]at hx
      rw[hrep.2]
      split at hx
      ·rename_i hj
       rw[if_pos (by simp;omega)]
       obtain⟨c,k1,k2,k3⟩:=h2 _ x hx
       exact⟨c,by rw[Array.getElem?_toList];simpa using k1,k2,k3⟩
      ·rename_i hj
       rw[if_neg (by simp;omega)]
       exact hr.2 j x hx
     obtain⟨b9,k1,k2⟩:=sC parts ps _ _ QQ NH (by simpa using hl) (fun j i x hx=>hp (j+1) i x (by simpa using hx)) h
     refine⟨b9,?_,k2⟩
     simp only[Instr.fill,Bo]
     rw[if_neg (by simp [h1,hc.1,hr.1];omega)]
     rw[<- e]at k1
     exact k1
    ·cases h
def bo (P:Program) (t:TypeId):Option (List (Nat×Nat)) :=
 match P.underlying t with
 |some (.struct fields)=>fields.toList.mapM fun f=>(P.info? f.type).map fun i=>(f.offset,i.size)
 |_=>none
def mX (P:Program) (t:TypeId) (parts:List (Nat×V)) (K:V->Prop):Prop :=
 match cb P t with
 |none=>False
 |some i=>match bo P t with
  |some pl=>match sh (pl[·]?) (i.zero.map cv) parts with
   |some cs=>K (.ag cs)
   |none=>False
  |none=>match Ow P t with
   |some (_,z)=>match sh (fun j=>some (j*z,z)) (i.zero.map cv) parts with
    |some cs=>K (.ag cs)
    |none=>False
   |none=>False
theorem rW {P:Program}{α β:Type} (f:α->Sem β) (g:α->Option β) (QW:∀a b,g a=some b->∀w,(f a).run P w=.ok b w) (w:World):∀(l:List α) (r:List β),l.mapM g=some r->(l.mapM f).run P w=.ok r w
 |[],r,h=>by
  simp at h;subst h
  simp [List.mapM_nil]
 |a::l,r,h=>by
  rw[List.mapM_cons]at h
  cases ha:g a with
  |none=>simp [ha]at h
  |some b =>
   cases hl:l.mapM g with
   |none=>simp [ha,hl]at h
   |some r' =>
    simp [ha,hl]at h
    subst h
    rw[List.mapM_cons]
    simp [QW a b ha w,rW f g QW w l r' hl]
theorem DP {P:Program}{t:TypeId}{σ:Gh}{s:List Obj}{w:World}{parts:List (Nat×V)}{ps:List (Nat×Value)}{K:V->Prop}
  (hl:ps.length=parts.length) (hp:∀(j:Nat) i x,parts[j]?=some (i,x)->∃u,ps[j]?=some (i,u)/\aw σ s w x u) (h:mX P t parts K) :
  ∃v c,(Instr.build t ps.toArray).run P w=.ok c w/\aw σ s w v c/\K v:=by
 unfold mX at h
 split at h
 ·exact h.elim
 ·rename_i i hi
  obtain⟨z,hz,Wt,_,_⟩:=vy hi σ s w
  split at h
  ·rename_i pl Bo
   unfold bo at Bo
   split at Bo
   ·rename_i fields hu
    split at h
    ·rename_i cs mL
     obtain⟨b9,k1,k2⟩:=sC parts ps _ _ cs Wt hl hp mL
     refine⟨_,_,?_,k2.ag,h⟩
     have hm:(fields.mapM (fun f=>do pure (f.offset,<- sizeOf f.type):Field->Sem (Nat×Nat))).run P w=.ok pl.toArray w:=by
      have:=rW (P:=P) (fun f=>do pure (f.offset,<- sizeOf f.type):Field->Sem (Nat×Nat)) (fun f=>(P.info? f.type).map fun i=>(f.offset,i.size))
       (fun f b hb w=>by
        obtain⟨ti,e1,rfl⟩:=Option.map_eq_some_iff.1 hb
        simp [sizeOf,typeInfo,e1]) w fields.toList pl Bo
      rw[<- Array.toArray_toList (xs:=fields)]
      rw[List.mapM_toArray,Sem.run_map,this]
      rfl
     have U4:(fun x:Nat=>pl.toArray[x]?)=(fun x:Nat=>pl[x]?):=by funext x;simp
     simp only[Instr.build,Sem.run_bind,hz,Result.andThen_ok,run_underlying hu,hm,U4,k1,Sem.run_pure]
    ·exact h.elim
   ·cases Bo
  ·split at h
   ·rename_i len zz VO
    obtain⟨e,ti,h1,h2,h3⟩:=yY VO
    split at h
    ·rename_i cs mL
     obtain⟨b9,k1,k2⟩:=sC parts ps _ _ cs Wt hl hp mL
     refine⟨_,_,?_,k2.ag,h⟩
     have fo:(sizeOf e).run P w=.ok zz w:=by simp [sizeOf,typeInfo,h2,h3]
     simp only[Instr.build,Sem.run_bind,hz,Result.andThen_ok,run_underlying h1,fo,k1,Sem.run_pure]
    ·exact h.elim
   ·exact h.elim
theorem oH {σ:Gh}{s:List Obj}{w:World} (hI:Inv σ s w) {sz:Nat}{au:List (List V)}{arr:Array Value} (E:TypeId) (hl:∀e∈au,e.length=sz) (hs:au.length*sz<=arr.size)
  (hc:∀(i j:Nat) (x:V),(au[i]?.bind (·[j]?))=some x->∃u,arr[i*sz+j]?=some u/\u.oneCell'=true/\aw σ s w x u) :
  aA σ s w (l8 σ s.length (some (w.heap.size,0))) (s++[⟨0,true,sz,au⟩]) (w.alloc (.cells arr E)) /\
  Inv (l8 σ s.length (some (w.heap.size,0))) (s++[⟨0,true,sz,au⟩]) (w.alloc (.cells arr E)):=by
 refine l9 (p:=some (w.heap.size,0)) hI rfl rfl rfl (by simp) (fun b hb=>Go.RowKit.Below.heap_alloc w _ b hb) (fun b base h=>by cases h;exact Nat.le_refl _)
  (fun hE=>.inr ⟨w.heap.size,0,arr,E,rfl,heap_alloc_new w _,hl,by simpa using hs,fun i j x hx=>?_⟩)
 obtain⟨u,h1,h2,h3⟩:=hc i j x hx
 exact⟨u,by simpa using h1,h2,h3.aO hE⟩
theorem J7 {σ:Gh}{s:List Obj}{w:World}{o:Obj}{b base:Nat} (hC:Bp w b):aw (l8 σ s.length (some (b,base))) (s++[o]) w (.rf s.length o.g 0 0) (.pointer (some ⟨b,base,none⟩)) :=
 .rf o (by simp) (Nat.le_refl _) rfl (fun _=>⟨b,base,bH _ _ _,hC,by simp⟩)
def mW (P:Program) (t:TypeId) (s:List Obj) (K:V->List Obj->Prop):Prop :=
 match cb P t with
 |none=>False
 |some i=>K (.rf s.length 0 0 0) (s++[⟨0,true,i.sz,[i.zero.map cv]⟩])
theorem rJ {cs:List V}{arr:Array Value}{σ:Gh}{s:List Obj}{w:World} (h:tx σ s w cs arr) (sz:Nat) :
  ∀(i j:Nat) (x:V),(([cs]:List (List V))[i]?.bind (·[j]?))=some x->∃u,arr[i*sz+j]?=some u/\u.oneCell'=true/\aw σ s w x u:=by
 intro i j x hx
 cases i with
 |zero=>simp at hx;simpa using h.2 j x hx
 |succ n=>simp at hx
theorem EV {P:Program}{t:TypeId}{σ:Gh}{s:List Obj}{w:World}{K:V->List Obj->Prop} (hI:Inv σ s w) (h:mW P t s K) :
  ∃v c σ' s' w',(Instr.alloc t true (.tuple #[])).run P w=.ok c w'/\aA σ s w σ' s' w'/\Inv σ' s' w'/\aw σ' s' w' v c/\K v s':=by
 unfold mW at h
 split at h
 ·exact h.elim
 ·rename_i i hi
  obtain⟨z,hz,hr,hs,hl⟩:=vy hi σ s w
  have:=oH (au:=[i.zero.map cv]) (sz:=i.sz) (arr:=z.cells) hI t (by simp;rw[<- hl];simpa using hs) (by simp [hs]) (rJ hr i.sz)
  refine⟨_,.pointer (some ⟨w.heap.size,0,none⟩),_,_,w.alloc (.cells z.cells t),?_,this.1,this.2,J7 (o:=⟨0,true,i.sz,[i.zero.map cv]⟩) ⟨_,_,heap_alloc_new w _⟩,h⟩
  simp [Instr.alloc,hz,newVar,newRow]
def wR (s:List Obj) (x:V) (K:V->List Obj->Prop):Prop :=
 match du x with
 |none=>False
 |some cs=>K (.rf s.length 0 0 0) (s++[⟨0,true,cs.length,[cs]⟩])
theorem I5 {P:Program}{t:TypeId}{σ:Gh}{s:List Obj}{w:World}{x:V}{u:Value}{K:V->List Obj->Prop} (hI:Inv σ s w) (hx:aw σ s w x u) (h:wR s x K) :
  ∃v c σ' s' w',(Instr.box t u).run P w=.ok c w'/\aA σ s w σ' s' w'/\Inv σ' s' w'/\aw σ' s' w' v c/\K v s':=by
 unfold wR at h
 split at h
 ·exact h.elim
 ·rename_i cs mL
  have hr:tx σ s w cs u.cells:=kB hx mL
  have:=oH (au:=[cs]) (sz:=cs.length) (arr:=u.cells) hI t (by simp) (by simp [hr.1]) (rJ hr _)
  refine⟨_,.pointer (some ⟨w.heap.size,0,none⟩),_,_,w.alloc (.cells u.cells t),?_,this.1,this.2,J7 (o:=⟨0,true,cs.length,[cs]⟩) ⟨_,_,heap_alloc_new w _⟩,h⟩
  simp [Instr.box,newVar,newRow]
def Hl (σ:Gh) (s:List Obj) (w:World) (sz:Nat) (au:List (List V)) (arr:Array Value):Prop :=
 (∀e∈au,e.length=sz)/\arr.size=au.length*sz /\
 ∀(i j:Nat) (x:V),(au[i]?.bind (·[j]?))=some x->∃c,arr[i*sz+j]?=some c/\c.oneCell'=true/\aw σ s w x c
def pU (sz:Nat) (au:List (List V)):List (Nat×V)->Option (List (List V))
 |[]=>some au
 |(i,v)::rest=>match du v with
  |none=>none
  |some ns=>if i<au.length/\ns.length=sz then pU sz (au.set i ns) rest else none
theorem w9 {σ:Gh}{s:List Obj}{w:World}{sz:Nat}:∀(parts:List (Nat×V)) (ps:List (Nat×Value)) (au:List (List V)) (arr:Array Value) (els':List (List V)),Hl σ s w sz au arr ->
  ps.length=parts.length->(∀(j:Nat) i x,parts[j]?=some (i,x)->∃u,ps[j]?=some (i,u)/\aw σ s w x u)->pU sz au parts=some els' ->
  ∃b9,Instr.fill (fun i=>some (i*sz,sz)) arr ps=some b9/\Hl σ s w sz els' b9/\els'.length=au.length
 |[],[],au,arr,els',hr,_,_,h=>by
  simp only[pU,Option.some.injEq]at h
  subst h
  exact⟨arr,rfl,hr,rfl⟩
 |[],p::ps,_,_,_,_,hl,_,_=>by simp at hl
 |_::_,[],_,_,_,_,hl,_,_=>by simp at hl
 |(i,v)::parts,(i',u)::ps,au,arr,els',hr,hl,hp,h=>by
  obtain⟨u',hu,uQ⟩:=hp 0 i v rfl
  simp only[List.getElem?_cons_zero,Option.some.injEq,Prod.mk.injEq]at hu
  obtain⟨rfl,rfl⟩:=hu
  simp only[pU]at h
  split at h
  ·cases h
  ·rename_i ns sy
   split at h
   ·rename_i hc
    obtain⟨zu,rQ⟩:=hc
    obtain⟨h1,h2⟩:=kB uQ sy
    obtain⟨r1,r2,r3⟩:=hr
    have hb:=Nat.mul_le_mul_right sz (show i'+1<=au.length from zu)
    rw[Nat.add_mul,Nat.one_mul]at hb
    have hrep:=vm (i'*sz) u.cells.toList 0 arr (by simp;rw[h1];omega)
    have e:u.cells.zipIdx.foldl (fun cs (x:Value×Nat)=>cs.setIfInBounds (i'*sz+x.2) x.1) arr=(u.cells.toList.zipIdx 0).foldl (fun cs (x:Value×Nat)=>cs.setIfInBounds (i'*sz+x.2) x.1) arr:=by
     rw[<- Array.foldl_toList];simp
    have NH:Hl σ s w sz (au.set i' ns) ((u.cells.toList.zipIdx 0).foldl (fun cs (x:Value×Nat)=>cs.setIfInBounds (i'*sz+x.2) x.1) arr):=by
     refine⟨fun e he=>?_,by rw[hrep.1,r2,List.length_set],fun k j x hx=>?_⟩
     ·rcases List.mem_or_eq_of_mem_set he with h'|h'
      ·exact r1 e h'
      ·rw[h'];exact rQ
     ·rw[hrep.2]
      have gV:u.cells.toList.length=sz:=by simp [h1,rQ]
      by_cases hk:k=i'
      ·subst hk
       rw[List.getElem?_set_self zu]at hx
       simp only[Option.bind_some]at hx
       have hj:=(List.getElem?_eq_some_iff.1 hx).1
       rw[if_pos (by rw[gV];omega)]
       obtain⟨c,k1,k2,k3⟩:=h2 _ x hx
       refine⟨c,?_,k2,k3⟩
       rw[Array.getElem?_toList,<- k1]
       congr 1
       omega
      ·rw[List.getElem?_set_ne (Ne.symm hk)]at hx
       have hj:j<sz:=by
        cases he:au[k]? with
        |none=>rw[he]at hx;cases hx
        |some e =>
         rw[he]at hx
         have:=(List.getElem?_eq_some_iff.1 hx).1
         rw[r1 e (List.mem_of_getElem? he)]at this
         exact this
       rw[if_neg ?_]
       ·exact r3 k j x hx
       ·rw[gV]
        rcases Nat.lt_or_gt_of_ne hk with az|az
        ·have:=Nat.mul_le_mul_right sz (show k+1<=i' from az)
         rw[Nat.add_mul,Nat.one_mul]at this
         omega
        ·have:=Nat.mul_le_mul_right sz (show i'+1<=k from az)
         rw[Nat.add_mul,Nat.one_mul]at this
         omega
    obtain⟨b9,k1,k2,k3⟩:=w9 parts ps _ _ els' NH (by simpa using hl) (fun j i x hx=>hp (j+1) i x (by simpa using hx)) h
    refine⟨b9,?_,k2,by simpa using k3⟩
    simp only[Instr.fill]
    rw[if_neg (by simp [h1,rQ,r2];omega)]
    rw[<- e]at k1
    exact k1
   ·cases h
def Il:V->Option D
 |.d x=>some x
 |.fu au=>some (.sl au)
 |_=>none
theorem lZ {σ:Gh}{s:List Obj}{w:World}{x:V}{u:Value}{y:D} (hr:aw σ s w x u) (h:Il x=some y):cu (Own σ s) w y u:=by
 cases hr <;> simp only[Il,Option.some.injEq]at h <;> first|(cases h;done)|(subst h;assumption)
def qd (au:List (List V)):Option (List (List D)):=au.mapM fun e=>e.mapM Il
theorem ir {α β:Type}{f:α->Option β}:∀{l:List α}{r:List β},l.mapM f=some r->r.length=l.length/\∀(i:Nat) (y:β),r[i]?=some y->∃x,l[i]?=some x/\f x=some y
 |[],r,h=>by simp at h;subst h;simp
 |a::l,r,h=>by
  rw[List.mapM_cons]at h
  cases ha:f a with
  |none=>simp [ha]at h
  |some b =>
   cases hl:l.mapM f with
   |none=>simp [ha,hl]at h
   |some r' =>
    simp [ha,hl]at h
    subst h
    obtain⟨h1,h2⟩:=ir hl
    refine⟨by simp [h1],fun i y hy=>?_⟩
    cases i with
    |zero=>simp at hy;subst hy;exact⟨a,rfl,ha⟩
    |succ i=>simpa using h2 i y (by simpa using hy)
theorem IL {au:List (List V)}{ds:List (List D)} (h:qd au=some ds):ds.length=au.length /\
  (∀(i:Nat) (e:List D),ds[i]?=some e->∃e',au[i]?=some e'/\e.length=e'.length) /\
  ∀(i j:Nat) (y:D),(ds[i]?.bind (·[j]?))=some y->∃x,(au[i]?.bind (·[j]?))=some x/\Il x=some y:=by
 obtain⟨h1,h2⟩:=ir h
 refine⟨h1,fun i e he=>?_,fun i j y hy=>?_⟩
 ·obtain⟨e',k1,k2⟩:=h2 i e he
  exact⟨e',k1,(ir k2).1⟩
 ·cases he:ds[i]? with
  |none=>rw[he]at hy;cases hy
  |some e =>
   rw[he]at hy
   obtain⟨e',k1,k2⟩:=h2 i e he
   obtain⟨x,k3,k4⟩:=(ir k2).2 j y hy
   exact⟨x,by rw[k1];exact k3,k4⟩
theorem cu.F0 {O:Nat->Prop}{w:World}{au:List (List D)}{b base cap sz:Nat} (xp:au.length<=cap) (fo:∀e∈au,e.length=sz) (hO:¬O b)
  (h:∀(i j:Nat) (x:D),(au[i]?.bind (·[j]?))=some x->∃u,w.cell? ⟨b,base+i*sz+j,none⟩=some u/\cu O w x u):cu O w (.sl au) (.slice (some ⟨b,base,none⟩) au.length cap):=by
 refine .sl au ⟨b,base,none⟩ cap sz (fun i j=>(w.cell? ⟨b,base+i*sz+j,none⟩).getD undef) xp (fun _=>rfl) fo (fun i j x hx=>?_) (fun i j x hx=>?_)
 ·obtain⟨u,h1,h2⟩:=h i j x hx
  simp only[h1,Option.getD_some]
  exact⟨trivial,hO⟩
 ·obtain⟨u,h1,h2⟩:=h i j x hx
  simpa only[h1,Option.getD_some]using h2
theorem yK {σ:Gh}{s:List Obj}{w:World} (hI:Inv σ s w) {b:Nat} (h:Own σ s b):b<w.heap.size:=by
 rcases h with h|⟨id,o,base,h1,_,h3⟩
 ·exact hI.low b h
 ·exact hI.lt h1 h3
def gm (P:Program) (t:TypeId):Option (TypeId×Kh) :=
 match P.underlying t with
 |some (.slice e)=>(cb P e).map fun i=>(e,i)
 |_=>none
theorem iZ {P:Program}{t e:TypeId}{i:Kh} (h:gm P t=some (e,i)):P.underlying t=some (.slice e)/\cb P e=some i:=by
 unfold gm at h
 split at h
 ·rename_i e' hu
  obtain⟨i',h1,h2⟩:=Option.map_eq_some_iff.1 h
  simp only[Prod.mk.injEq]at h2
  obtain⟨rfl,rfl⟩:=h2
  exact⟨hu,h1⟩
 ·cases h
def dK (P:Program) (t:TypeId) (len:Nat) (parts:List (Nat×V)) (s:List Obj) (K:V->List Obj->Prop):Prop :=
 match gm P t with
 |none=>False
 |some (_,i)=>(len*i.sz<=16777216/\0<i.sz)/\match pU i.sz (List.replicate len (i.zero.map cv)) parts with
  |none=>False
  |some au=>match qd au with
   |some ds=>K (.fu ds) s
   |none=>K (.so s.length 0 0 len) (s++[⟨0,true,i.sz,au⟩])
theorem xM {P:Program}{t:TypeId}{i:Kh} (ht:cb P t=some i) (σ:Gh) (s:List Obj) (w:World) (n:Nat) (z:Value) (hz:z.cells.toList=i.zero) :
  Hl σ s w i.sz (List.replicate n (i.zero.map cv)) ((Array.range (n*i.sz)).map (z.cells[· % z.cells.size]!)):=by
 obtain⟨ti,d,z',k1,k2,k3,k4,k5,k6,k7,k8,k9⟩:=fA ht
 have XK:z.cells.size=i.sz:=by rw[<- Array.length_toList,hz,k7]
 refine⟨fun e he=>by rw[List.eq_of_mem_replicate he];simp [k7],by simp,fun a j x hx=>?_⟩
 have ha:a<n:=by
  cases he:(List.replicate n (i.zero.map cv))[a]? with
  |none=>rw[he]at hx;cases hx
  |some e=>simpa using (List.getElem?_eq_some_iff.1 he).1
 simp only[List.getElem?_replicate,ha,if_true,Option.bind_some,List.getElem?_map]at hx
 obtain⟨v,hv,rfl⟩:=Option.map_eq_some_iff.1 hx
 have hj:j<i.sz:=by rw[<- k7];exact(List.getElem?_eq_some_iff.1 hv).1
 have hb:=Nat.mul_le_mul_right i.sz (show a+1<=n from ha)
 rw[Nat.add_mul,Nat.one_mul]at hb
 refine⟨v,?_,k8 v (List.mem_of_getElem? hv),B7 v⟩
 have VX:(a*i.sz+j) % z.cells.size=j:=by rw[XK,Nat.mul_add_mod_self_right,Nat.mod_eq_of_lt hj]
 have fm:z.cells[j]! = v:=by
  rw[getElem!_def,<- Array.getElem?_toList,hz,hv]
 simp [show a*i.sz+j<n*i.sz by omega,VX,fm]
theorem vP {P:Program}{t:TypeId}{len:Nat}{σ:Gh}{s:List Obj}{w:World}{parts:List (Nat×V)}{ps:List (Nat×Value)}{K:V->List Obj->Prop} (hI:Inv σ s w)
  (hl:ps.length=parts.length) (hp:∀(j:Nat) i x,parts[j]?=some (i,x)->∃u,ps[j]?=some (i,u)/\aw σ s w x u) (h:dK P t len parts s K) :
  ∃v c σ' s' w',(Instr.buildSlice t len ps.toArray).run P w=.ok c w'/\aA σ s w σ' s' w'/\Inv σ' s' w'/\aw σ' s' w' v c/\K v s':=by
 unfold dK at h
 split at h
 ·exact h.elim
 rename_i e i hti
 obtain⟨hu,hi⟩:=iZ hti
 obtain⟨⟨hb,cG⟩,h⟩:=h
 split at h
 ·exact h.elim
 rename_i au fv
 obtain⟨ti,d,z,k1,k2,k3,k4,k5,k6,k7,k8,k9⟩:=fA hi
 have hz:∀w,(zeroValue e).run P w=.ok z w:=fun w=>by simp [zeroValue,typeInfo,k1,k3]
 have fo:∀w,(sizeOf e).run P w=.ok i.sz w:=fun w=>by simp [sizeOf,typeInfo,k1,k4]
 obtain⟨b9,f1,f2,f3⟩:=w9 parts ps _ _ au (xM hi σ s w len z k6) hl hp fv
 have hlen:au.length=len:=by simpa using f3
 have dI:(Instr.buildSlice t len ps.toArray).run P w=.ok (.slice (some ⟨w.heap.size,0,none⟩) len len) (w.alloc (.cells b9 e)):=by
  have JT:¬(len*i.sz>2 ^ 24):=by omega
  by_cases h0:len=0
  ·subst h0
   have Q8:∀g:Nat->Value,(Array.range 0).map g=#[]:=fun g=>by apply Array.ext' ;simp
   rw[Nat.zero_mul,Q8]at f1
   simp only[Instr.buildSlice,Sem.run_bind,run_underlying hu,fo,Result.andThen_ok,Nat.zero_mul,Q8,f1]
   simp [newRow]
  ·have Yz:¬(len*i.sz=0):=by
    have:=Nat.mul_pos (Nat.pos_of_ne_zero h0) cG;omega
   simp only[Instr.buildSlice,Sem.run_bind,run_underlying hu,fo,Result.andThen_ok,if_neg JT,if_neg Yz,hz,f1,Sem.run_pure]
   simp [newRow]
 obtain⟨r1,r2,r3⟩:=f2
 split at h
 ·rename_i ds Rx
  obtain⟨d1,d2,d3⟩:=IL Rx
  obtain⟨hE,im⟩:=AD hI (.cells b9 e)
  refine⟨_,_,σ,s,_,dI,hE,im,?_,h⟩
  have hd:cu (Own σ s) (w.alloc (.cells b9 e)) (.sl ds) (.slice (some ⟨w.heap.size,0,none⟩) ds.length ds.length):=by
   refine cu.F0 (sz:=i.sz) (Nat.le_refl _) (fun x hx=>?_) (fun ho=>by have:=yK hI ho;omega) (fun a j y hy=>?_)
   ·obtain⟨a,ha⟩:=List.mem_iff_getElem?.1 hx
    obtain⟨e',g1,g2⟩:=d2 a x ha
    rw[g2];exact r1 e' (List.mem_of_getElem? g1)
   ·obtain⟨x,g1,g2⟩:=d3 a j y hy
    obtain⟨c,c1,c2,c3⟩:=r3 a j x g1
    exact⟨c,by simpa using c1,(lZ c3 g2).aO hE⟩
  rw[show len=ds.length by omega]
  exact .fu hd
 ·have:=oH (au:=au) (sz:=i.sz) (arr:=b9) hI e r1 (by omega) r3
  refine⟨_,_,_,_,_,dI,this.1,this.2,?_,h⟩
  refine .so ⟨0,true,i.sz,au⟩ (by simp) (Nat.le_refl _) ⟨_,_,rfl⟩ (fun _=>.inr ⟨w.heap.size,0,len,e,b9,bH _ _ _,heap_alloc_new w _,by simp,Nat.le_refl _,by simp [r2,hlen]⟩)
def eV (P:Program) (t:TypeId) (l c:V) (s:List Obj) (K:V->List Obj->Prop):Prop :=
 match gm P t with
 |none=>False
 |some (_,i)=>match l,c with
  |.d (.sc (.int _ n)),.d (.sc (.int _ m))=>(0<=n/\n<=m/\i.yW*m<=140737488355328/\m<=9223372036854775807/\0<i.sz) /\
    K (.so s.length 0 0 n.toNat) (s++[⟨0,true,i.sz,List.replicate n.toNat (i.zero.map cv)⟩])
  |_,_=>False
theorem xj {P:Program}{t:TypeId}{l c:V}{ul uc:Value}{σ:Gh}{s:List Obj}{w:World}{K:V->List Obj->Prop} (hI:Inv σ s w) (hl:aw σ s w l ul) (hc:aw σ s w c uc)
  (h:eV P t l c s K):∃v r σ' s' w',(Instr.makeSlice t ul uc).run P w=.ok r w'/\aA σ s w σ' s' w'/\Inv σ' s' w'/\aw σ' s' w' v r/\K v s':=by
 unfold eV at h
 split at h
 ·exact h.elim
 rename_i e i hti
 obtain⟨hu,hi⟩:=iZ hti
 split at h
 case h_2=>exact h.elim
 rename_i kl n kc m
 obtain⟨⟨h1,h2,h3,h4,h5⟩,h⟩:=h
 cases hl with|d hl=>?_
 cases hl with|sc _ _=>?_
 cases hc with|d hc=>?_
 cases hc with|sc _ _=>?_
 obtain⟨ti,d,z,k1,k2,k3,k4,k5,k6,k7,k8,k9⟩:=fA hi
 have hz:∀w,(zeroValue e).run P w=.ok z w:=fun w=>by simp [zeroValue,typeInfo,k1,k3]
 have fo:∀w,(sizeOf e).run P w=.ok i.sz w:=fun w=>by simp [sizeOf,typeInfo,k1,k4]
 obtain⟨N,rfl⟩:=Int.eq_ofNat_of_zero_le h1
 obtain⟨M,rfl⟩:=Int.eq_ofNat_of_zero_le (show 0<=m by omega)
 have w1:IntKind.i64.wrap (N:Int)=N:=IntWalk.i64_in _ (by omega)
 have w2:IntKind.i64.wrap (M:Int)=M:=IntWalk.i64_in _ (by omega)
 have Yk:¬((i.yW:Int)*(M:Int)>2 ^ 48):=by omega
 obtain⟨r1,r2,r3⟩:=xM hi σ s w M z k6
 have dI:(Instr.makeSlice t (.int kl N) (.int kc M)).run P w=.ok (.slice (some ⟨w.heap.size,0,none⟩) N M) (w.alloc (.cells ((Array.range (M*i.sz)).map (z.cells[· % z.cells.size]!)) e)):=by
  have Q8:∀g:Nat->Value,(Array.range 0).map g=#[]:=fun g=>by apply Array.ext' ;simp
  have c1:¬((M:Int)<0):=by omega
  have c2:¬((N:Int)<0):=by omega
  have c3:¬((N:Int)>M):=by omega
  by_cases h0:M*i.sz=0
  ·simp only[Instr.makeSlice,run_underlying hu,asInt,asIntOf,typeInfo,k1,k5,w1,w2,Sem.run_bind,Result.andThen_ok,run_program,Sem.run_pure,Int.toNat_natCast,h0,Q8]
   simp [c1,c2,c3,fo,newRow,h0,Q8]
   intro hx;exfalso;omega
  ·simp only[Instr.makeSlice,run_underlying hu,asInt,asIntOf,typeInfo,k1,k5,w1,w2,Sem.run_bind,Result.andThen_ok,run_program,Sem.run_pure,Int.toNat_natCast]
   simp [c1,c2,c3,fo,newRow,h0,hz]
   intro hx;exfalso;omega
 have:=oH (au:=List.replicate N (i.zero.map cv)) (sz:=i.sz) (arr:=(Array.range (M*i.sz)).map (z.cells[· % z.cells.size]!)) hI e (fun x hx=>by rw[List.eq_of_mem_replicate hx];simp [k7])
  (by simp;exact Nat.mul_le_mul_right _ (by omega)) (fun a j x hx=>by
   refine r3 a j x ?_
   rw[List.getElem?_replicate]at hx ⊢
   split at hx
   ·rw[if_pos (by omega)];exact hx
   ·cases hx)
 refine⟨_,_,_,_,_,dI,this.1,this.2,?_,h⟩
 refine .so ⟨0,true,i.sz,List.replicate N (i.zero.map cv)⟩ (by simp) (Nat.le_refl _) ⟨_,_,rfl⟩ (fun _=>.inr ⟨w.heap.size,0,M,e,(Array.range (M*i.sz)).map (z.cells[· % z.cells.size]!),bH _ _ _,heap_alloc_new w _,by simp,by omega,by simp⟩)
end Go.VL
