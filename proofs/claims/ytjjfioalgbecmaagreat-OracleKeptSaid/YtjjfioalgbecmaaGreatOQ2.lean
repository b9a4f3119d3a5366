/- A part of the proof (Vd Ve Vf). -/
import Derived.Test.YtjjfioalgbecmaaGreatOQ1
set_option linter.unusedSimpArgs false
set_option linter.unusedVariables false
set_option maxRecDepth 100000
set_option maxHeartbeats 80000000
namespace Go.VL
variable{P:Program}{id:Nat}{s:List Obj}{σ:Gh}{w:World}{u:Value}{off:Nat}{O:Nat->Prop}{cs:List D}{K:V->List Obj->Prop}{t:TypeId}{au:List (List D)}{cap:Nat}{ui:Value}{x:V}{i:RW}{arr:Array Value}{ps:List (Nat×Value)}{parts:List (Nat×V)}{sz:Nat}{b:Nat}{base:Nat}
def aI (P:Program) (t:TypeId) (f:Nat):Option Nat :=
 match P.underlying t with
 |some (.struct fields)=>match fields[f]? with
  |some fd=>match P.info? fd.type with
   |some i=>if i.size=0 then none else some fd.offset
   |none=>none
  |none=>none
 |_=>none
theorem Q7{t f off} (h:aI P t f=some off):∃fields fd,P.underlying t=some (.struct fields)/\fields[f]?=some fd/\fd.offset=off /\
  ∀(a:Addr) (w:World),(fieldPlace a fd).run P w=.ok (a.add off) w:=by
 unfold aI at h;split at h
 ·rename_i fields hu;split at h
  ·rename_i fd hf;split at h
   ·rename_i i hi;split at h
    ·cases h
    ·rename_i eU;simp only[ajU]at h;exact⟨fields,fd,hu,hf,h,λa w=>by simp [fieldPlace,sizeOf,typeInfo,hi,eU,h]⟩
   ·cases h
  ·cases h
 ·cases h
def tE (s:List Obj) (id g:Nat) (K:Obj->Prop):Prop :=
 match s[id]? with
 |none=>False
 |some o=>o.g=g/\K o
theorem dS{g:Nat}{K:Obj->Prop} (h:tE s id g K):∃o,s[id]?=some o/\o.g=g/\K o:=by
 unfold tE at h;split at h
 ·exact h.elim
 ·rename_i o ho;exact⟨o,ho,h.1,h.2⟩
def eR (P:Program) (t:TypeId) (s:List Obj) (p:V) (f:Nat) (K:V->Prop):Prop :=
 match aI P t f with
 |none=>False
 |some d=>match p with
  |.d (.el cs)=>K (.d (.el (cs.drop d)))
  |.rf id g k off=>tE s id g λ_=>K (.rf id g k (off+d))
  |.pp id g k off b a=>tE s id g λ_=>K (.pp id g k (off+d) b (a+d))
  |.d (.sc (.pointer (some ⟨b,a,none⟩)))=>K (.d (.sc (.pointer (some ⟨b,a+d,none⟩))))
  |_=>False
theorem Nt{g k:Nat} (hp:ay σ s w (.rf id g k off) u) {o:Obj} (ho:s[id]?=some o) (hg:o.g=g) :
  ∃b base,σ id=some (b,base)/\FM w b/\u=.pointer (some ⟨b,base+k*o.sz+off,none⟩):=by
 cases hp with
 |rf o' g7 CK hu hk =>
  rw[ho]at g7;cases g7;exact hk hg
theorem cU.drop{a:Addr} (h:cU O w (.el cs) (.pointer (some a))) (d:Nat):cU O w (.el (cs.drop d)) (.pointer (some (a.add d))):=by
 cases h with
 |el _ _ f h1 h2 h3 =>
  rw[gk h1];refine .el _ _ (λj=>f (d+j)) rfl (λj x hx=>?_) (λj x hx=>?_)
  ·rw[List.getElem?_drop]at hx;have:=h2 (d+j) x hx;simpa [aky]using this
  ·rw[List.getElem?_drop]at hx;exact h3 (d+j) x hx
theorem BC{p:V}{f:Nat}{K:V->Prop} (hp:ay σ s w p u) (h:eR P t s p f K) :
  ∃v c,(Instr.fieldAt t u f).run P w=.ok c w/\ay σ s w v c/\K v:=by
 unfold eR at h;split at h
 ·exact h.elim
 ·rename_i d hd;obtain⟨fields,fd,h1,h2,h3,h4⟩:=Q7 hd;have dZ:∀a:Addr,(Instr.fieldAt t (.pointer (some a)) f).run P w=.ok (.pointer (some (a.add d))) w:=λa=>by simp [Instr.fieldAt,run_underlying h1,h2,Instr.sureAddr,h4]
  cases hp with
  |d hx =>
   cases hx with
   |el cs a f' k1 k2 k3=>exact⟨_,_,dZ a,.d (cU.drop (.el cs a f' k1 k2 k3) d),h⟩
   |sc v hv =>
    split at h
    case h_4 =>
     rename_i b a he;simp only[V.d.injEq,D.sc.injEq]at he;subst he;refine⟨_,_,dZ _,?_,h⟩;rw[gk rfl];exact .d (.sc _ rfl)
    all_goals first|exact h.elim|(rename_i he;cases he)
   |_=>exact h.elim
  |rf o ho hg hu hk =>
   obtain⟨o',e1,e2,e3⟩:=dS h;rw[ho]at e1;cases e1;obtain⟨b,base,k1,kC,rfl⟩:=hk e2;refine⟨_,_,dZ _,.rf o ho hg rfl (λ_=>⟨b,base,k1,kC,?_⟩),e3⟩;rw[gk rfl];simp [aky]
  |pp o ho hg hk =>
   obtain⟨o',e1,e2,e3⟩:=dS h;rw[ho]at e1;cases e1;refine⟨_,_,dZ _,?_,e3⟩;rw[gk rfl];exact .pp o ho hg λhe=>let ⟨base,h1,h2,h3⟩:=hk he;⟨base,h1,h2,by rw[h3];simp [aky]⟩
  |_=>exact h.elim
def Dz (P:Program) (t:TypeId):Option Nat :=
 match P.underlying t with
 |some (.slice e)=>(P.info? e).map (·.size)
 |_=>none
def Xt (P:Program) (t:TypeId):Option (Nat×Nat) :=
 match P.underlying t with
 |some (.array n e)=>(P.info? e).map λi=>(n,i.size)
 |_=>none
theorem K8{t z} (h:Dz P t=some z):∃e i,P.underlying t=some (.slice e)/\P.info? e=some i/\i.size=z:=by
 unfold Dz at h;split at h
 ·rename_i e hu;obtain⟨i,h1,h2⟩:=Option.map_eq_some_iff.1 h;exact⟨e,i,hu,h1,h2⟩
 ·cases h
theorem DC{t n z} (h:Xt P t=some (n,z)):∃e i,P.underlying t=some (.array n e)/\P.info? e=some i/\i.size=z:=by
 unfold Xt at h;split at h
 ·rename_i m e hu;obtain⟨i,h1,h2⟩:=Option.map_eq_some_iff.1 h;simp only[akn]at h2;obtain⟨rfl,h2⟩:=h2;exact⟨e,i,hu,h1,h2⟩
 ·cases h
def XF (au:List (List D)) (i z:Nat) (K:V->Prop):Prop :=
 match au[i]? with
 |none=>False
 |some cs=>cs.length=z/\K (.d (.el cs))
def dG (P:Program) (t:TypeId) (s:List Obj) (x i:V) (K:V->Prop):Prop :=
 match i with
 |.d (.sc (.int _ n))=>match Dz P t with
  |some z=>match x with
   |.d (.sl au)=>0<=n/\n<au.length/\XF au n.toNat z K
   |.fu au=>0<=n/\n<au.length/\XF au n.toNat z K
   |.so id g lo m=>tE s id g λo=>0<=n/\n<m/\o.sz=z/\K (.rf id g (lo+n.toNat) 0)
   |_=>False
  |none=>match Xt P t with
   |some (len,z)=>match x with
    |.d (.el cs)=>0<=n/\n<len/\K (.d (.el (cs.drop (n.toNat*z))))
    |.rf id g k off=>tE s id g λ_=>0<=n/\n<len/\K (.rf id g k (off+n.toNat*z))
    |_=>False
   |none=>False
 |_=>False
theorem cU.elem{a:Option Addr}{n:Nat} (h:cU O w (.sl au) (.slice a n cap)) {i:Nat} (oL:au[i]?=some cs) {z:Nat} (hz:cs.length=z) :
  ∃ad,a=some ad/\n=au.length/\cU O w (.el cs) (.pointer (some (ad.add (i*z)))):=by
 have az:=(List.getElem?_eq_some_iff.1 oL).1;cases h with
 |nil=>simp at az
 |sl _ ad _ sz f h1 h2 h3 h4 h5 =>
  have eU:au≠[]:=by intro e;rw[e]at az;simp at az
  have eZ:sz=z:=by rw[<- hz];exact(h3 cs (List.mem_of_getElem? oL)).symm
  subst eZ;refine⟨ad,rfl,rfl,?_⟩;rw[gk (h2 eU)];exact .el _ _ (f i) rfl (λj x hx=>h4 i j x (by rw[oL];exact hx)) (λj x hx=>h5 i j x (by rw[oL];exact hx))
theorem Bj{i:V}{K:V->Prop} (hx:ay σ s w x u) (hi:ay σ s w i ui) (h:dG P t s x i K) :
  ∃v c,(Instr.indexAt t u ui).run P w=.ok c w/\ay σ s w v c/\K v:=by
 unfold dG at h;split at h
 case h_2=>exact h.elim
 rename_i k n;cases hi with|d hi=>?_
 cases hi with|sc _ _=>?_
 split at h
 ·rename_i z hz;obtain⟨e,ti,h1,h2,h3⟩:=K8 hz;have dZ:∀(ad:Addr) (len cap:Nat),0<=n->n<len->(Instr.indexAt t (.slice (some ad) len cap) (.int k n)).run P w=.ok (.pointer (some (ad.add (n.toNat*z)))) w:=by intro ad len cap g1 g2;simp [Instr.indexAt,asIntOf,run_underlying h1,g1,g2,sizeOf,typeInfo,h2,h3]
  have Gj:∀(au:List (List D)) (a:Option Addr) (m cap:Nat),cU (Own σ s) w (.sl au) (.slice a m cap)->0<=n/\n<au.length/\XF au n.toNat z K ->
    ∃v c,(Instr.indexAt t (.slice a m cap) (.int k n)).run P w=.ok c w/\ay σ s w v c/\K v:=by
   intro au a m cap hr ⟨g1,g2,g3⟩;unfold XF at g3;split at g3
   ·exact g3.elim
   ·rename_i cs oL;obtain⟨ad,rfl,rfl,sE⟩:=hr.elem oL g3.1;exact⟨_,_,dZ ad _ cap g1 g2,.d sE,g3.2⟩
  cases hx with
  |d hx =>
   cases hx with
   |nil=>exact Gj _ _ _ _ .nil h
   |sl au a cap sz f k1 k2 k3 k4 k5=>exact Gj _ _ _ _ (.sl au a cap sz f k1 k2 k3 k4 k5) h
   |_=>exact h.elim
  |fu hx=>exact Gj _ _ _ _ hx h
  |so o ho hg hu hk =>
   obtain⟨o',e1,e2,e3,e4,e5,e6⟩:=dS h;rw[ho]at e1;cases e1;rcases hk e2 with ⟨_,⟨a,rfl⟩,_,rfl⟩|⟨b,base,cap,E,arr,g1,g2,rfl,g4,g5⟩
   ·omega
   ·refine⟨_,_,dZ _ _ _ e3 e4,.rf o ho hg rfl (λ_=>⟨b,base,g1,⟨arr,E,g2⟩,?_⟩),e6⟩;rw[gk rfl,e5,akx];simp [aky]
  |_=>exact h.elim
 ·split at h
  ·rename_i vj len z hz;obtain⟨e,ti,h1,h2,h3⟩:=DC hz;have dZ:∀(ad:Addr),0<=n->n<len->(Instr.indexAt t (.pointer (some ad)) (.int k n)).run P w=.ok (.pointer (some (ad.add (n.toNat*z)))) w:=by intro ad g1 g2;simp [Instr.indexAt,asIntOf,run_underlying h1,Instr.sureAddr,g1,g2,sizeOf,typeInfo,h2,h3]
   cases hx with
   |d hx =>
    cases hx with
    |el cs a f k1 k2 k3=>exact⟨_,_,dZ a h.1 h.2.1,.d (cU.drop (.el cs a f k1 k2 k3) _),h.2.2⟩
    |_=>exact h.elim
   |rf o ho hg hu hk =>
    obtain⟨o',e1,e2,e3,e4,e5⟩:=dS h;rw[ho]at e1;cases e1;obtain⟨b,base,k1,kC,rfl⟩:=hk e2;refine⟨_,_,dZ _ e3 e4,.rf o ho hg rfl (λ_=>⟨b,base,k1,kC,?_⟩),e5⟩;rw[gk rfl];simp [aky]
   |_=>exact h.elim
  ·exact h.elim
def sV (P:Program) (t:TypeId) (cs:List V) (off:Nat) (K:V->Prop):Prop :=
 match bQ P t with
 |none=>False
 |some i=>match i.agg with
  |true=>off+i.sz<=cs.length/\K (.ag ((cs.drop off).take i.sz))
  |false=>match cs[off]? with
   |none=>False
   |some v=>K v
theorem Cy{cs:List V}{K:V->Prop} (hx:ay σ s w (.ag cs) (.agg arr)) (h:sV P t cs off K) :
  ∃v c,(part t arr off).run P w=.ok c w/\ay σ s w v c/\K v:=by
 unfold sV at h;cases hx with|ag h1 h2 h3=>?_
 split at h
 ·exact h.elim
 ·rename_i i hi;obtain⟨ti,d,z,k1,k2,k3,k4,k5,k6,k7,k8,k9⟩:=gj hi;have eZ:∀w,(sizeOf t).run P w=.ok i.sz w:=λw=>by simp [sizeOf,typeInfo,k1,k4]
  split at h
  ·rename_i zo;rw[zo]at k9;refine⟨_,.agg (arr.extract off (off+i.sz)),by simp [part,k9,eZ],?_,h.2⟩;have e:∀(j:Nat) (x:V),((cs.drop off).take i.sz)[j]?=some x->cs[off+j]?=some x/\(arr.extract off (off+i.sz)).getD j undef=arr.getD (off+j) undef:=by
    intro j x hx;rw[List.getElem?_take]at hx;split at hx
    ·rename_i hj;rw[List.getElem?_drop]at hx;refine⟨hx,?_⟩;have e2:(arr.extract off (off+i.sz))[j]?=arr[off+j]?:=by rw[Array.getElem?_extract,be (by rw[h1];omega)]
     rw[Array.getD_eq_getD_getElem?,Array.getD_eq_getD_getElem?,e2]
    ·cases hx
   refine .ag (by simp [h1];omega) (λj x hx=>?_) (λj x hx=>?_)
   ·rw[(e j x hx).2];exact h2 _ _ (e j x hx).1
   ·rw[(e j x hx).2];exact h3 _ _ (e j x hx).1
  ·rename_i zo;rw[zo]at k9;split at h
   ·exact h.elim
   ·rename_i v hv;have az:=(List.getElem?_eq_some_iff.1 hv).1;obtain⟨c,hc⟩:∃c,arr[off]?=some c:=⟨arr[off]' ae,by rw[Array.getElem?_eq_getElem]⟩
    have hd:arr.getD off undef=c:=by rw[Array.getD_eq_getD_getElem?,hc];rfl
    exact⟨v,c,by simp [part,k9,hc],by rw[<- hd];exact h3 _ _ hv,h⟩
def mK (P:Program) (t:TypeId) (x:V) (f:Nat) (K:V->Prop):Prop :=
 match x with
 |.ag cs=>match P.underlying t with
  |some (.struct fields)=>match fields[f]? with
   |some fd=>sV P fd.type cs fd.offset K
   |none=>False
  |_=>False
 |_=>False
theorem JV{f:Nat}{K:V->Prop} (hx:ay σ s w x u) (h:mK P t x f K) :
  ∃v c,(Instr.field t u f).run P w=.ok c w/\ay σ s w v c/\K v:=by
 unfold mK at h;split at h
 case h_2=>exact h.elim
 split at h
 case h_2=>exact h.elim
 split at h
 case h_2=>exact h.elim
 rename_i hu _ fd hfd;cases hx with|ag h1 h2 h3=>?_
 obtain⟨v,c,r1,r2,r3⟩:=Cy (.ag h1 h2 h3) h;exact⟨v,c,by simp [Instr.field,run_underlying hu,hfd,asAgg,r1],r2,r3⟩
def ks (P:Program) (t:TypeId) (x i:V) (K:V->Prop):Prop :=
 match i with
 |.d (.sc (.int _ n))=>match x with
  |.ag cs=>match P.underlying t with
   |some (.array len e)=>match (P.info? e).map (·.size) with
    |some z=>0<=n/\n<len/\sV P e cs (n.toNat*z) K
    |none=>False
   |_=>False
  |_=>False
 |_=>False
theorem Jx{i:V}{K:V->Prop} (hx:ay σ s w x u) (hi:ay σ s w i ui) (h:ks P t x i K) :
  ∃v c,(Instr.index t u ui).run P w=.ok c w/\ay σ s w v c/\K v:=by
 unfold ks at h;split at h
 case h_2=>exact h.elim
 rename_i k n;cases hi with|d hi=>?_
 cases hi with|sc _ _=>?_
 split at h
 case h_2=>exact h.elim
 split at h
 case h_2=>exact h.elim
 rename_i hu;split at h
 case h_2=>exact h.elim
 rename_i z hz;obtain⟨ti,h1,h2⟩:=Option.map_eq_some_iff.1 hz;cases hx with|ag k1 k2 k3=>?_
 obtain⟨v,c,r1,r2,r3⟩:=Cy (.ag k1 k2 k3) h.2.2;refine⟨v,c,?_,r2,r3⟩;simp [Instr.index,asIntOf,run_underlying hu,h.1,h.2.1,sizeOf,typeInfo,h1,h2,r1]
def xB (σ:Gh) (s:List Obj) (w:World) (cs:List V) (arr:Array Value):Prop :=
 arr.size=cs.length/\∀(i:Nat) (x:V),cs[i]?=some x->∃c,arr[i]?=some c/\c.oneCell'=true/\ay σ s w x c
theorem xB.ag {σ s w cs arr} (h:xB σ s w cs arr):ay σ s w (.ag cs) (.agg arr):=by
 have e:∀(i:Nat) (x:V),cs[i]?=some x->(arr.getD i undef).oneCell'=true/\ay σ s w x (arr.getD i undef):=by intro i x hx;obtain⟨c,h1,h2,h3⟩:=h.2 i x hx;rw[Array.getD_eq_getD_getElem?,h1];exact⟨h2,h3⟩
 exact .ag h.1 (λi x hx=>(e i x hx).1) (λi x hx=>(e i x hx).2)
theorem zu (ht:bQ P t=some i) (σ:Gh) (s:List Obj) (w:World):∃z,(∀w,(zeroValue t).run P w=.ok z w)/\xB σ s w (i.zero.map cv) z.cells/\z.cells.size=i.sz/\z.cells.toList=i.zero:=by obtain⟨ti,d,z,k1,k2,k3,k4,k5,k6,k7,k8,k9⟩:=gj ht;refine⟨z,λw=>by simp [zeroValue,typeInfo,k1,k3],⟨by rw[<- ala,k6];simp,λj x hx=>?_⟩,by rw[<- ala,k6,k7],k6⟩;rw[List.getElem?_map]at hx;obtain⟨v,hv,rfl⟩:=Option.map_eq_some_iff.1 hx;exact⟨v,by rw[<- Array.getElem?_toList,k6];exact hv,k8 v (List.mem_of_getElem? hv),H0 v⟩
theorem zc (off:Nat):∀(l:List Value) (k:Nat) (cells:Array Value),off+k+l.length<=cells.size ->
  ((l.zipIdx k).foldl (λcs (x:Value×Nat)=>cs.setIfInBounds (off+x.2) x.1) cells).size=cells.size /\
  ∀p,((l.zipIdx k).foldl (λcs (x:Value×Nat)=>cs.setIfInBounds (off+x.2) x.1) cells)[p]?=if off+k<=p/\p<off+k+l.length then l[p-(off+k)]? else cells[p]?
 |[],k,cells,_=>by simp;intro p h1 h2;omega
 |v::l,k,cells,h=>by
  simp only[ajW]at h;simp only[List.zipIdx_cons,akY];obtain⟨h1,h2⟩:=zc off l (k+1) (cells.setIfInBounds (off+k) v) cC;refine⟨by rw[h1];simp,λp=>?_⟩;rw[h2 p];by_cases hp:p=off+k
  ·subst hp;rw[bd,be ak,Array.getElem?_setIfInBounds_self_of_lt ae];simp
  ·rw[Array.getElem?_setIfInBounds_ne ae];by_cases hq:off+(k+1)<=p/\p<off+(k+1)+l.length
   ·rw[be hq,be (by simp only[ajW];omega)];rw[show p-(off+k)=(p-(off+(k+1)))+1 by omega];simp
   ·rw[ap hq,ap (by simp only[ajW];omega)]
def vX (place:Nat->Option (Nat×Nat)) (cs:List V):List (Nat×V)->Option (List V)
 |[]=>some cs
 |(i,v)::rest=>match place i with
  |none=>none
  |some (off,size)=>match eg v with
   |none=>none
   |some ns=>if ns.length=size/\off+ns.length<=cs.length then vX place (g8 cs off ns) rest else none
theorem wz {σ:Gh}{s:List Obj}{w:World}{place:Nat->Option (Nat×Nat)}:∀(parts:List (Nat×V)) (ps:List (Nat×Value)) (cs:List V) (arr:Array Value) (ZM:List V),xB σ s w cs arr ->
  ps.length=parts.length->(∀(j:Nat) i x,parts[j]?=some (i,x)->∃u,ps[j]?=some (i,u)/\ay σ s w x u)->vX place cs parts=some ZM ->
  ∃bR,Instr.fill place arr ps=some bR/\xB σ s w ZM bR
 |[],[],cs,arr,ZM,hr,_,_,h=>by simp only[vX,ajU]at h;subst h;exact⟨arr,rfl,hr⟩
 |[],p::ps,_,_,_,_,hl,_,_=>by simp at hl
 |_::_,[],_,_,_,_,hl,_,_=>by simp at hl
 |(i,v)::parts,(i',u)::ps,cs,arr,ZM,hr,hl,hp,h=>by
  obtain⟨u',hu,yI⟩:=hp 0 i v rfl;simp only[List.getElem?_cons_zero,ajU,akn]at hu;obtain⟨rfl,rfl⟩:=hu;simp only[vX]at h;split at h
  ·cases h
  ·rename_i off size oZ;split at h
   ·cases h
   ·rename_i ns uu;split at h
    ·rename_i hc;obtain⟨h1,h2⟩:=mN yI uu;have hrep:=zc off u.cells.toList 0 arr (by simp;rw[hr.1,h1];exact hc.2);have e:u.cells.zipIdx.foldl (λcs (x:Value×Nat)=>cs.setIfInBounds (off+x.2) x.1) arr=(u.cells.toList.zipIdx 0).foldl (λcs (x:Value×Nat)=>cs.setIfInBounds (off+x.2) x.1) arr:=by rw[<- Array.foldl_toList];simp
     have TW:xB σ s w (g8 cs off ns) ((u.cells.toList.zipIdx 0).foldl (λcs (x:Value×Nat)=>cs.setIfInBounds (off+x.2) x.1) arr):=by
      refine⟨by rw[hrep.1,hr.1,sx _ _ _ hc.2],λj x hx=>?_⟩;rw[pD _ _ _ hc.2]at hx;rw[hrep.2];split at hx
      ·rename_i hj;rw[be cC];obtain⟨c,k1,k2,k3⟩:=h2 _ x hx;exact⟨c,by rw[Array.getElem?_toList];simpa using k1,k2,k3⟩
      ·rename_i hj;rw[ap cC];exact hr.2 j x hx
     obtain⟨bR,k1,k2⟩:=wz parts ps _ _ ZM TW (by simpa using hl) (λj i x hx=>hp (j+1) i x (by simpa using hx)) h;refine⟨bR,?_,k2⟩;simp only[Instr.fill,oZ];rw[ap (by simp [h1,hc.1,hr.1];omega)];rw[<- e]at k1;exact k1
    ·cases h
def aV (P:Program) (t:TypeId):Option (List (Nat×Nat)) :=
 match P.underlying t with
 |some (.struct fields)=>fields.toList.mapM λf=>(P.info? f.type).map λi=>(f.offset,i.size)
 |_=>none
def pI (P:Program) (t:TypeId) (parts:List (Nat×V)) (K:V->Prop):Prop :=
 match bQ P t with
 |none=>False
 |some i=>match aV P t with
  |some pl=>match vX (pl[·]?) (i.zero.map cv) parts with
   |some cs=>K (.ag cs)
   |none=>False
  |none=>match Xt P t with
   |some (_,z)=>match vX (λj=>some (j*z,z)) (i.zero.map cv) parts with
    |some cs=>K (.ag cs)
    |none=>False
   |none=>False
theorem vJ {P:Program}{α β:Type} (f:α->Sem β) (g:α->Option β) (ZS:∀a b,g a=some b->∀w,(f a).run P w=.ok b w) (w:World):∀(l:List α) (r:List β),l.mapM g=some r->(l.mapM f).run P w=.ok r w
 |[],r,h=>by simp at h;subst h;simp [List.mapM_nil]
 |a::l,r,h=>by
  rw[akR]at h;cases ha:g a with
  |none=>simp [ha]at h
  |some b =>
   cases hl:l.mapM g with
   |none=>simp [ha,hl]at h
   |some r' =>
    simp [ha,hl]at h;subst h;rw[akR];simp [ZS a b ha w,vJ f g ZS w l r' hl]
theorem JY{K:V->Prop}
  (hl:ps.length=parts.length) (hp:∀(j:Nat) i x,parts[j]?=some (i,x)->∃u,ps[j]?=some (i,u)/\ay σ s w x u) (h:pI P t parts K) :
  ∃v c,(Instr.build t ps.toArray).run P w=.ok c w/\ay σ s w v c/\K v:=by
 unfold pI at h;split at h
 ·exact h.elim
 ·rename_i i hi;obtain⟨z,hz,hzr,_,_⟩:=zu hi σ s w;split at h
  ·rename_i pl oZ;unfold aV at oZ;split at oZ
   ·rename_i fields hu;split at h
    ·rename_i cs oL;obtain⟨bR,k1,k2⟩:=wz parts ps _ _ cs hzr hl hp oL;refine⟨_,_,?_,k2.ag,h⟩;have hm:(fields.mapM (λf=>do pure (f.offset,<- sizeOf f.type):Field->Sem (Nat×Nat))).run P w=.ok pl.toArray w:=by
      have:=vJ (P:=P) (λf=>do pure (f.offset,<- sizeOf f.type):Field->Sem (Nat×Nat)) (λf=>(P.info? f.type).map λi=>(f.offset,i.size))
       (λf b hb w=>by
        obtain⟨ti,e1,rfl⟩:=Option.map_eq_some_iff.1 hb;simp [sizeOf,typeInfo,e1]) w fields.toList pl oZ
      rw[<- Array.toArray_toList (xs:=fields)];rw[List.mapM_toArray,Sem.run_map,this];rfl
     have aes:(λx:Nat=>pl.toArray[x]?)=(λx:Nat=>pl[x]?):=by funext x;simp
     simp only[Instr.build,Sem.run_bind,hz,Result.andThen_ok,run_underlying hu,hm,aes,k1,Sem.run_pure]
    ·exact h.elim
   ·cases oZ
  ·split at h
   ·rename_i len zz hzz;obtain⟨e,ti,h1,h2,h3⟩:=DC hzz;split at h
    ·rename_i cs oL;obtain⟨bR,k1,k2⟩:=wz parts ps _ _ cs hzr hl hp oL;refine⟨_,_,?_,k2.ag,h⟩;have eZ:(sizeOf e).run P w=.ok zz w:=by simp [sizeOf,typeInfo,h2,h3]
     simp only[Instr.build,Sem.run_bind,hz,Result.andThen_ok,run_underlying h1,eZ,k1,Sem.run_pure]
    ·exact h.elim
   ·exact h.elim
theorem pG (hI:Inv σ s w){au:List (List V)} (E:TypeId) (hl:∀e∈au,e.length=sz) (hs:au.length*sz<=arr.size)
  (hc:∀(i j:Nat) (x:V),(au[i]?.bind (·[j]?))=some x->∃u,arr[i*sz+j]?=some u/\u.oneCell'=true/\ay σ s w x u) :
  aC σ s w (nA σ s.length (some (w.heap.size,0))) (s++[⟨0,true,sz,au⟩]) (w.alloc (.cells arr E)) /\
  Inv (nA σ s.length (some (w.heap.size,0))) (s++[⟨0,true,sz,au⟩]) (w.alloc (.cells arr E)):=by
 refine mV (p:=some (w.heap.size,0)) hI rfl rfl rfl ak (λb hb=>akU w _ b hb) (λb base h=>by cases h;exact ajZ _)
  (λhE=>.inr ⟨w.heap.size,0,arr,E,rfl,heap_alloc_new w _,hl,by simpa using hs,λi j x hx=>?_⟩)
 obtain⟨u,h1,h2,h3⟩:=hc i j x hx;exact⟨u,by simpa using h1,h2,h3.aR hE⟩
theorem RH{o:Obj} (hC:FM w b):ay (nA σ s.length (some (b,base))) (s++[o]) w (.rf s.length o.g 0 0) (.pointer (some ⟨b,base,none⟩)) :=
 .rf o ak (ajZ _) rfl (λ_=>⟨b,base,bP _ _ _,hC,ak⟩)
def pF (P:Program) (t:TypeId) (s:List Obj) (K:V->List Obj->Prop):Prop :=
 match bQ P t with
 |none=>False
 |some i=>K (.rf s.length 0 0 0) (s++[⟨0,true,i.sz,[i.zero.map cv]⟩])
theorem vz {cs:List V} (h:xB σ s w cs arr) (sz:Nat) :
  ∀(i j:Nat) (x:V),(([cs]:List (List V))[i]?.bind (·[j]?))=some x->∃u,arr[i*sz+j]?=some u/\u.oneCell'=true/\ay σ s w x u:=by
 intro i j x hx;cases i with
 |zero=>simp at hx;simpa using h.2 j x hx
 |succ n=>simp at hx
theorem Lm (hI:Inv σ s w) (h:pF P t s K) :
  ∃v c σ' s' w',(Instr.alloc t true (.tuple #[])).run P w=.ok c w'/\aC σ s w σ' s' w'/\Inv σ' s' w'/\ay σ' s' w' v c/\K v s':=by
 unfold pF at h;split at h
 ·exact h.elim
 ·rename_i i hi;obtain⟨z,hz,hr,hs,hl⟩:=zu hi σ s w;have:=pG (au:=[i.zero.map cv]) (sz:=i.sz) (arr:=z.cells) hI t (by simp;rw[<- hl];simpa using hs) (by simp [hs]) (vz hr i.sz);refine⟨_,.pointer (some ⟨w.heap.size,0,none⟩),_,_,w.alloc (.cells z.cells t),?_,this.1,this.2,RH (o:=⟨0,true,i.sz,[i.zero.map cv]⟩) ⟨_,_,heap_alloc_new w _⟩,h⟩;simp [Instr.alloc,hz,newVar,newRow]
def AX (s:List Obj) (x:V) (K:V->List Obj->Prop):Prop :=
 match eg x with
 |none=>False
 |some cs=>K (.rf s.length 0 0 0) (s++[⟨0,true,cs.length,[cs]⟩])
theorem Qe (hI:Inv σ s w) (hx:ay σ s w x u) (h:AX s x K) :
  ∃v c σ' s' w',(Instr.box t u).run P w=.ok c w'/\aC σ s w σ' s' w'/\Inv σ' s' w'/\ay σ' s' w' v c/\K v s':=by
 unfold AX at h;split at h
 ·exact h.elim
 ·rename_i cs oL;have hr:xB σ s w cs u.cells:=mN hx oL;have:=pG (au:=[cs]) (sz:=cs.length) (arr:=u.cells) hI t ak (by simp [hr.1]) (vz hr _);refine⟨_,.pointer (some ⟨w.heap.size,0,none⟩),_,_,w.alloc (.cells u.cells t),?_,this.1,this.2,RH (o:=⟨0,true,cs.length,[cs]⟩) ⟨_,_,heap_alloc_new w _⟩,h⟩;simp [Instr.box,newVar,newRow]
def N5 (σ:Gh) (s:List Obj) (w:World) (sz:Nat) (au:List (List V)) (arr:Array Value):Prop :=
 (∀e∈au,e.length=sz)/\arr.size=au.length*sz /\
 ∀(i j:Nat) (x:V),(au[i]?.bind (·[j]?))=some x->∃c,arr[i*sz+j]?=some c/\c.oneCell'=true/\ay σ s w x c
def tC (sz:Nat) (au:List (List V)):List (Nat×V)->Option (List (List V))
 |[]=>some au
 |(i,v)::rest=>match eg v with
  |none=>none
  |some ns=>if i<au.length/\ns.length=sz then tC sz (au.set i ns) rest else none
theorem Bd {σ:Gh}{s:List Obj}{w:World}{sz:Nat}:∀(parts:List (Nat×V)) (ps:List (Nat×Value)) (au:List (List V)) (arr:Array Value) (els':List (List V)),N5 σ s w sz au arr ->
  ps.length=parts.length->(∀(j:Nat) i x,parts[j]?=some (i,x)->∃u,ps[j]?=some (i,u)/\ay σ s w x u)->tC sz au parts=some els' ->
  ∃bR,Instr.fill (λi=>some (i*sz,sz)) arr ps=some bR/\N5 σ s w sz els' bR/\els'.length=au.length
 |[],[],au,arr,els',hr,_,_,h=>by simp only[tC,ajU]at h;subst h;exact⟨arr,rfl,hr,rfl⟩
 |[],p::ps,_,_,_,_,hl,_,_=>by simp at hl
 |_::_,[],_,_,_,_,hl,_,_=>by simp at hl
 |(i,v)::parts,(i',u)::ps,au,arr,els',hr,hl,hp,h=>by
  obtain⟨u',hu,yI⟩:=hp 0 i v rfl;simp only[List.getElem?_cons_zero,ajU,akn]at hu;obtain⟨rfl,rfl⟩:=hu;simp only[tC]at h;split at h
  ·cases h
  ·rename_i ns uu;split at h
   ·rename_i hc;obtain⟨wJ,nO⟩:=hc;obtain⟨h1,h2⟩:=mN yI uu;obtain⟨r1,r2,r3⟩:=hr;have hb:=akk sz (show i'+1<=au.length from wJ);rw[akx,Nat.one_mul]at hb;have hrep:=zc (i'*sz) u.cells.toList 0 arr (by simp;rw[h1];omega);have e:u.cells.zipIdx.foldl (λcs (x:Value×Nat)=>cs.setIfInBounds (i'*sz+x.2) x.1) arr=(u.cells.toList.zipIdx 0).foldl (λcs (x:Value×Nat)=>cs.setIfInBounds (i'*sz+x.2) x.1) arr:=by rw[<- Array.foldl_toList];simp
    have TW:N5 σ s w sz (au.set i' ns) ((u.cells.toList.zipIdx 0).foldl (λcs (x:Value×Nat)=>cs.setIfInBounds (i'*sz+x.2) x.1) arr):=by
     refine⟨λe he=>?_,by rw[hrep.1,r2,aj8],λk j x hx=>?_⟩
     ·rcases akL he with h'|h'
      ·exact r1 e h'
      ·rw[h'];exact nO
     ·rw[hrep.2];have ie:u.cells.toList.length=sz:=by simp [h1,nO]
      by_cases hk:k=i'
      ·subst hk;rw[List.getElem?_set_self wJ]at hx;simp only[akA]at hx;have hj:=(List.getElem?_eq_some_iff.1 hx).1;rw[be (by rw[ie];omega)];obtain⟨c,k1,k2,k3⟩:=h2 _ x hx;refine⟨c,?_,k2,k3⟩;rw[Array.getElem?_toList,<- k1];congr 1;omega
      ·rw[List.getElem?_set_ne (Ne.symm hk)]at hx;have hj:j<sz:=by
        cases he:au[k]? with
        |none=>rw[he]at hx;cases hx
        |some e =>
         rw[he]at hx;have:=(List.getElem?_eq_some_iff.1 hx).1;rw[r1 e (List.mem_of_getElem? he)]at this;exact this
       rw[ap ?_]
       ·exact r3 k j x hx
       ·rw[ie];rcases Nat.lt_or_gt_of_ne hk with az|az
        ·have:=akk sz (show k+1<=i' from az);rw[akx,Nat.one_mul]at this;omega
        ·have:=akk sz (show i'+1<=k from az);rw[akx,Nat.one_mul]at this;omega
    obtain⟨bR,k1,k2,k3⟩:=Bd parts ps _ _ els' TW (by simpa using hl) (λj i x hx=>hp (j+1) i x (by simpa using hx)) h;refine⟨bR,?_,k2,by simpa using k3⟩;simp only[Instr.fill];rw[ap (by simp [h1,nO,r2];omega)];rw[<- e]at k1;exact k1
   ·cases h
def Pn:V->Option D
 |.d x=>some x
 |.fu au=>some (.sl au)
 |_=>none
theorem oe{y:D} (hr:ay σ s w x u) (h:Pn x=some y):cU (Own σ s) w y u:=by
 cases hr <;> simp only[Pn,ajU]at h <;> first|(cases h;done)|(subst h;assumption)
def tM (au:List (List V)):Option (List (List D)):=au.mapM λe=>e.mapM Pn
theorem jY {α β:Type}{f:α->Option β}:∀{l:List α}{r:List β},l.mapM f=some r->r.length=l.length/\∀(i:Nat) (y:β),r[i]?=some y->∃x,l[i]?=some x/\f x=some y
 |[],r,h=>by simp at h;subst h;simp
 |a::l,r,h=>by
  rw[akR]at h;cases ha:f a with
  |none=>simp [ha]at h
  |some b =>
   cases hl:l.mapM f with
   |none=>simp [ha,hl]at h
   |some r' =>
    simp [ha,hl]at h;subst h;obtain⟨h1,h2⟩:=jY hl;refine⟨by simp [h1],λi y hy=>?_⟩;cases i with
    |zero=>simp at hy;subst hy;exact⟨a,rfl,ha⟩
    |succ i=>simpa using h2 i y (by simpa using hy)
theorem PR {au:List (List V)}{ds:List (List D)} (h:tM au=some ds):ds.length=au.length /\
  (∀(i:Nat) (e:List D),ds[i]?=some e->∃e',au[i]?=some e'/\e.length=e'.length) /\
  ∀(i j:Nat) (y:D),(ds[i]?.bind (·[j]?))=some y->∃x,(au[i]?.bind (·[j]?))=some x/\Pn x=some y:=by
 obtain⟨h1,h2⟩:=jY h;refine⟨h1,λi e he=>?_,λi j y hy=>?_⟩
 ·obtain⟨e',k1,k2⟩:=h2 i e he;exact⟨e',k1,(jY k2).1⟩
 ·cases he:ds[i]? with
  |none=>rw[he]at hy;cases hy
  |some e =>
   rw[he]at hy;obtain⟨e',k1,k2⟩:=h2 i e he;obtain⟨x,k3,k4⟩:=(jY k2).2 j y hy;exact⟨x,by rw[k1];exact k3,k4⟩
theorem cU.Mn (oU:au.length<=cap) (eZ:∀e∈au,e.length=sz) (hO:¬O b)
  (h:∀(i j:Nat) (x:D),(au[i]?.bind (·[j]?))=some x->∃u,w.cell? ⟨b,base+i*sz+j,none⟩=some u/\cU O w x u):cU O w (.sl au) (.slice (some ⟨b,base,none⟩) au.length cap):=by
 refine .sl au ⟨b,base,none⟩ cap sz (λi j=>(w.cell? ⟨b,base+i*sz+j,none⟩).getD undef) oU (λ_=>rfl) eZ (λi j x hx=>?_) (λi j x hx=>?_)
 ·obtain⟨u,h1,h2⟩:=h i j x hx;simp only[h1,ak2];exact⟨trivial,hO⟩
 ·obtain⟨u,h1,h2⟩:=h i j x hx;simpa only[h1,ak2]using h2
theorem wP (hI:Inv σ s w) (h:Own σ s b):b<w.heap.size:=by
 rcases h with h|⟨id,o,base,h1,_,h3⟩
 ·exact hI.low b h
 ·exact hI.lt h1 h3
def iL (P:Program) (t:TypeId):Option (TypeId×RW) :=
 match P.underlying t with
 |some (.slice e)=>(bQ P e).map λi=>(e,i)
 |_=>none
theorem jD{e:TypeId} (h:iL P t=some (e,i)):P.underlying t=some (.slice e)/\bQ P e=some i:=by
 unfold iL at h;split at h
 ·rename_i e' hu;obtain⟨i',h1,h2⟩:=Option.map_eq_some_iff.1 h;simp only[akn]at h2;obtain⟨rfl,rfl⟩:=h2;exact⟨hu,h1⟩
 ·cases h
def eN (P:Program) (t:TypeId) (len:Nat) (parts:List (Nat×V)) (s:List Obj) (K:V->List Obj->Prop):Prop :=
 match iL P t with
 |none=>False
 |some (_,i)=>(len*i.sz<=16777216/\0<i.sz)/\match tC i.sz (List.replicate len (i.zero.map cv)) parts with
  |none=>False
  |some au=>match tM au with
   |some ds=>K (.fu ds) s
   |none=>K (.so s.length 0 0 len) (s++[⟨0,true,i.sz,au⟩])
theorem BX (ht:bQ P t=some i) (σ:Gh) (s:List Obj) (w:World) (n:Nat) (z:Value) (hz:z.cells.toList=i.zero) :
  N5 σ s w i.sz (List.replicate n (i.zero.map cv)) ((Array.range (n*i.sz)).map (z.cells[· % z.cells.size]!)):=by
 obtain⟨ti,d,z',k1,k2,k3,k4,k5,k6,k7,k8,k9⟩:=gj ht;have hzs:z.cells.size=i.sz:=by rw[<- ala,hz,k7]
 refine⟨λe he=>by rw[List.eq_of_mem_replicate he];simp [k7],ak,λa j x hx=>?_⟩;have ha:a<n:=by
  cases he:(List.replicate n (i.zero.map cv))[a]? with
  |none=>rw[he]at hx;cases hx
  |some e=>simpa using (List.getElem?_eq_some_iff.1 he).1
 simp only[List.getElem?_replicate,ha,if_true,akA,List.getElem?_map]at hx;obtain⟨v,hv,rfl⟩:=Option.map_eq_some_iff.1 hx;have hj:j<i.sz:=by rw[<- k7];exact(List.getElem?_eq_some_iff.1 hv).1
 have hb:=akk i.sz (show a+1<=n from ha);rw[akx,Nat.one_mul]at hb;refine⟨v,?_,k8 v (List.mem_of_getElem? hv),H0 v⟩;have afp:(a*i.sz+j) % z.cells.size=j:=by rw[hzs,Nat.mul_add_mod_self_right,Nat.mod_eq_of_lt hj]
 have dO:z.cells[j]! = v:=by rw[getElem!_def,<- Array.getElem?_toList,hz,hv]
 simp [show a*i.sz+j<n*i.sz by omega,afp,dO]
theorem zZ{len:Nat} (hI:Inv σ s w)
  (hl:ps.length=parts.length) (hp:∀(j:Nat) i x,parts[j]?=some (i,x)->∃u,ps[j]?=some (i,u)/\ay σ s w x u) (h:eN P t len parts s K) :
  ∃v c σ' s' w',(Instr.buildSlice t len ps.toArray).run P w=.ok c w'/\aC σ s w σ' s' w'/\Inv σ' s' w'/\ay σ' s' w' v c/\K v s':=by
 unfold eN at h;split at h
 ·exact h.elim
 rename_i e i hti;obtain⟨hu,hi⟩:=jD hti;obtain⟨⟨hb,lX⟩,h⟩:=h;split at h
 ·exact h.elim
 rename_i au gD;obtain⟨ti,d,z,k1,k2,k3,k4,k5,k6,k7,k8,k9⟩:=gj hi;have hz:∀w,(zeroValue e).run P w=.ok z w:=λw=>by simp [zeroValue,typeInfo,k1,k3]
 have eZ:∀w,(sizeOf e).run P w=.ok i.sz w:=λw=>by simp [sizeOf,typeInfo,k1,k4]
 obtain⟨bR,f1,f2,f3⟩:=Bd parts ps _ _ au (BX hi σ s w len z k6) hl hp gD;have hlen:au.length=len:=by simpa using f3
 have dZ:(Instr.buildSlice t len ps.toArray).run P w=.ok (.slice (some ⟨w.heap.size,0,none⟩) len len) (w.alloc (.cells bR e)):=by
  have IJ:¬(len*i.sz>2 ^ 24):=ae;by_cases h0:len=0
  ·subst h0;have XO:∀g:Nat->Value,(Array.range 0).map g=#[]:=λg=>by apply Array.ext' ;simp
   rw[Nat.zero_mul,XO]at f1;simp only[Instr.buildSlice,Sem.run_bind,run_underlying hu,eZ,Result.andThen_ok,Nat.zero_mul,XO,f1];simp [newRow]
  ·have h0':¬(len*i.sz=0):=by have:=Nat.mul_pos (Nat.pos_of_ne_zero h0) lX;omega
   simp only[Instr.buildSlice,Sem.run_bind,run_underlying hu,eZ,Result.andThen_ok,ap IJ,ap h0',hz,f1,Sem.run_pure];simp [newRow]
 obtain⟨r1,r2,r3⟩:=f2;split at h
 ·rename_i ds hds;obtain⟨d1,d2,d3⟩:=PR hds;obtain⟨hE,fS⟩:=Gg hI (.cells bR e);refine⟨_,_,σ,s,_,dZ,hE,fS,?_,h⟩;have hd:cU (Own σ s) (w.alloc (.cells bR e)) (.sl ds) (.slice (some ⟨w.heap.size,0,none⟩) ds.length ds.length):=by
   refine cU.Mn (sz:=i.sz) (ajZ _) (λx hx=>?_) (λho=>by have:=wP hI ho;omega) (λa j y hy=>?_)
   ·obtain⟨a,ha⟩:=List.mem_iff_getElem?.1 hx;obtain⟨e',g1,g2⟩:=d2 a x ha;rw[g2];exact r1 e' (List.mem_of_getElem? g1)
   ·obtain⟨x,g1,g2⟩:=d3 a j y hy;obtain⟨c,c1,c2,c3⟩:=r3 a j x g1;exact⟨c,by simpa using c1,(oe c3 g2).aR hE⟩
  rw[show len=ds.length by omega];exact .fu hd
 ·have:=pG (au:=au) (sz:=i.sz) (arr:=bR) hI e r1 ae r3;refine⟨_,_,_,_,_,dZ,this.1,this.2,?_,h⟩;refine .so ⟨0,true,i.sz,au⟩ ak (ajZ _) ⟨_,_,rfl⟩ (λ_=>.inr ⟨w.heap.size,0,len,e,bR,bP _ _ _,heap_alloc_new w _,ak,ajZ _,by simp [r2,hlen]⟩)
def fY (P:Program) (t:TypeId) (l c:V) (s:List Obj) (K:V->List Obj->Prop):Prop :=
 match iL P t with
 |none=>False
 |some (_,i)=>match l,c with
  |.d (.sc (.int _ n)),.d (.sc (.int _ m))=>(0<=n/\n<=m/\i.A3*m<=140737488355328/\m<=9223372036854775807/\0<i.sz) /\
    K (.so s.length 0 0 n.toNat) (s++[⟨0,true,i.sz,List.replicate n.toNat (i.zero.map cv)⟩])
  |_,_=>False
theorem Bo{l c:V}{ul uc:Value} (hI:Inv σ s w) (hl:ay σ s w l ul) (hc:ay σ s w c uc)
  (h:fY P t l c s K):∃v r σ' s' w',(Instr.makeSlice t ul uc).run P w=.ok r w'/\aC σ s w σ' s' w'/\Inv σ' s' w'/\ay σ' s' w' v r/\K v s':=by
 unfold fY at h;split at h
 ·exact h.elim
 rename_i e i hti;obtain⟨hu,hi⟩:=jD hti;split at h
 case h_2=>exact h.elim
 rename_i kl n kc m;obtain⟨⟨h1,h2,h3,h4,h5⟩,h⟩:=h;cases hl with|d hl=>?_
 cases hl with|sc _ _=>?_
 cases hc with|d hc=>?_
 cases hc with|sc _ _=>?_
 obtain⟨ti,d,z,k1,k2,k3,k4,k5,k6,k7,k8,k9⟩:=gj hi;have hz:∀w,(zeroValue e).run P w=.ok z w:=λw=>by simp [zeroValue,typeInfo,k1,k3]
 have eZ:∀w,(sizeOf e).run P w=.ok i.sz w:=λw=>by simp [sizeOf,typeInfo,k1,k4]
 obtain⟨N,rfl⟩:=Int.eq_ofNat_of_zero_le h1;obtain⟨M,rfl⟩:=Int.eq_ofNat_of_zero_le (show 0<=m by omega);have w1:IntKind.i64.wrap (N:Int)=N:=IntWalk.i64_in _ ae;have w2:IntKind.i64.wrap (M:Int)=M:=IntWalk.i64_in _ ae;have ah9:¬((i.A3:Int)*(M:Int)>2 ^ 48):=ae;obtain⟨r1,r2,r3⟩:=BX hi σ s w M z k6;have dZ:(Instr.makeSlice t (.int kl N) (.int kc M)).run P w=.ok (.slice (some ⟨w.heap.size,0,none⟩) N M) (w.alloc (.cells ((Array.range (M*i.sz)).map (z.cells[· % z.cells.size]!)) e)):=by
  have XO:∀g:Nat->Value,(Array.range 0).map g=#[]:=λg=>by apply Array.ext' ;simp
  have c1:¬((M:Int)<0):=ae;have c2:¬((N:Int)<0):=ae;have c3:¬((N:Int)>M):=ae;by_cases h0:M*i.sz=0
  ·simp only[Instr.makeSlice,run_underlying hu,asInt,asIntOf,typeInfo,k1,k5,w1,w2,Sem.run_bind,Result.andThen_ok,run_program,Sem.run_pure,ajP,h0,XO];simp [c1,c2,c3,eZ,newRow,h0,XO];intro hx;exfalso;omega
  ·simp only[Instr.makeSlice,run_underlying hu,asInt,asIntOf,typeInfo,k1,k5,w1,w2,Sem.run_bind,Result.andThen_ok,run_program,Sem.run_pure,ajP];simp [c1,c2,c3,eZ,newRow,h0,hz];intro hx;exfalso;omega
 have:=pG (au:=List.replicate N (i.zero.map cv)) (sz:=i.sz) (arr:=(Array.range (M*i.sz)).map (z.cells[· % z.cells.size]!)) hI e (λx hx=>by rw[List.eq_of_mem_replicate hx];simp [k7])
  (by simp;exact akk _ ae) (λa j x hx=>by
   refine r3 a j x ?_;rw[List.getElem?_replicate]at hx ⊢;split at hx
   ·rw[sP];exact hx
   ·cases hx)
 refine⟨_,_,_,_,_,dZ,this.1,this.2,?_,h⟩;refine .so ⟨0,true,i.sz,List.replicate N (i.zero.map cv)⟩ ak (ajZ _) ⟨_,_,rfl⟩ (λ_=>.inr ⟨w.heap.size,0,M,e,(Array.range (M*i.sz)).map (z.cells[· % z.cells.size]!),bP _ _ _,heap_alloc_new w _,ak,ae,ak⟩)
end Go.VL
