/- A part of the proof (Vd Ve Vf). -/
import Derived.Test.YtfmdmlfhigocaaaOR1
set_option linter.unusedSimpArgs false
set_option linter.unusedVariables false
set_option maxRecDepth 100000
set_option maxHeartbeats 80000000
namespace Go.VL
variable{P:Program}{id:Nat}{s:List Obj}{σ:Gh}{w:World}{u:Value}{off:Nat}{O:Nat->Prop}{cs:List D}{K:V->List Obj->Prop}{t:TypeId}{cap:Nat}{aw:List (List D)}{ui:Value}{x:V}{i:RF}{arr:Array Value}{ps:List (Nat×Value)}{parts:List (Nat×V)}{sz:Nat}{b:Nat}{base:Nat}
def br (P:Program) (t:TypeId) (f:Nat):Option Nat :=
 match P.underlying t with
 |some (.struct fields)=>match fields[f]? with
  |some fd=>match P.info? fd.type with
   |some i=>if i.size=0 then none else some fd.offset
   |none=>none
  |none=>none
 |_=>none
theorem RA{t f off} (h:br P t f=some off):∃fields fd,P.underlying t=some (.struct fields)/\fields[f]?=some fd/\fd.offset=off /\
  ∀(a:Addr) (w:World),(fieldPlace a fd).run P w=.ok (a.add off) w:=by
 unfold br at h;split at h
 ·rename_i fields hu;split at h
  ·rename_i fd hf;split at h
   ·rename_i i hi;split at h
    ·cases h
    ·rename_i dP;simp only[ai5]at h;exact⟨fields,fd,hu,hf,h,λa w=>by simp [fieldPlace,sizeOf,typeInfo,hi,dP,h]⟩
   ·cases h
  ·cases h
 ·cases h
def wo (s:List Obj) (id g:Nat) (K:Obj->Prop):Prop :=
 match s[id]? with
 |none=>False
 |some o=>o.g=g/\K o
theorem eQ{g:Nat}{K:Obj->Prop} (h:wo s id g K):∃o,s[id]?=some o/\o.g=g/\K o:=by
 unfold wo at h;split at h
 ·exact h.elim
 ·rename_i o ho;exact⟨o,ho,h.1,h.2⟩
def fh (P:Program) (t:TypeId) (s:List Obj) (p:V) (f:Nat) (K:V->Prop):Prop :=
 match br P t f with
 |none=>False
 |some d=>match p with
  |.d (.el cs)=>K (.d (.el (cs.drop d)))
  |.rf id g k off=>wo s id g λ_=>K (.rf id g k (off+d))
  |.pp id g k off b a=>wo s id g λ_=>K (.pp id g k (off+d) b (a+d))
  |.d (.sc (.pointer (some ⟨b,a,none⟩)))=>K (.d (.sc (.pointer (some ⟨b,a+d,none⟩))))
  |_=>False
theorem Of{g k:Nat} (hp:aC σ s w (.rf id g k off) u) {o:Obj} (ho:s[id]?=some o) (hg:o.g=g) :
  ∃b base,σ id=some (b,base)/\HZ w b/\u=.pointer (some ⟨b,base+k*o.sz+off,none⟩):=by
 cases hp with
 |rf o' jV FO hu hk =>
  rw[ho]at jV;cases jV;exact hk hg
theorem cY.drop{a:Addr} (h:cY O w (.el cs) (.pointer (some a))) (d:Nat):cY O w (.el (cs.drop d)) (.pointer (some (a.add d))):=by
 cases h with
 |el _ _ f h1 h2 h3 =>
  rw[ia h1];refine .el _ _ (λj=>f (d+j)) rfl (λj x hx=>?_) (λj x hx=>?_)
  ·rw[ajU]at hx;have:=h2 (d+j) x hx;simpa [ajI]using this
  ·rw[ajU]at hx;exact h3 (d+j) x hx
theorem CB{p:V}{f:Nat}{K:V->Prop} (hp:aC σ s w p u) (h:fh P t s p f K) :
  ∃v c,(Instr.fieldAt t u f).run P w=.ok c w/\aC σ s w v c/\K v:=by
 unfold fh at h;split at h
 ·exact h.elim
 ·rename_i d hd;obtain⟨fields,fd,h1,h2,h3,h4⟩:=RA hd;have eZ:∀a:Addr,(Instr.fieldAt t (.pointer (some a)) f).run P w=.ok (.pointer (some (a.add d))) w:=λa=>by simp [Instr.fieldAt,run_underlying h1,h2,Instr.sureAddr,h4]
  cases hp with
  |d hx =>
   cases hx with
   |el cs a f' k1 k2 k3=>exact⟨_,_,eZ a,.d (cY.drop (.el cs a f' k1 k2 k3) d),h⟩
   |sc v hv =>
    split at h
    case h_4 =>
     rename_i b a he;simp only[V.d.injEq,D.sc.injEq]at he;subst he;refine⟨_,_,eZ _,?_,h⟩;rw[ia rfl];exact .d (.sc _ rfl)
    all_goals first|exact h.elim|(rename_i he;cases he)
   |_=>exact h.elim
  |rf o ho hg hu hk =>
   obtain⟨o',e1,e2,e3⟩:=eQ h;rw[ho]at e1;cases e1;obtain⟨b,base,k1,kC,rfl⟩:=hk e2;refine⟨_,_,eZ _,.rf o ho hg rfl (λ_=>⟨b,base,k1,kC,?_⟩),e3⟩;rw[ia rfl];simp [ajI]
  |pp o ho hg hk =>
   obtain⟨o',e1,e2,e3⟩:=eQ h;rw[ho]at e1;cases e1;refine⟨_,_,eZ _,?_,e3⟩;rw[ia rfl];exact .pp o ho hg λhe=>let ⟨base,h1,h2,h3⟩:=hk he;⟨base,h1,h2,by rw[h3];simp [ajI]⟩
  |_=>exact h.elim
def Fw (P:Program) (t:TypeId):Option Nat :=
 match P.underlying t with
 |some (.slice e)=>(P.info? e).map (·.size)
 |_=>none
def WY (P:Program) (t:TypeId):Option (Nat×Nat) :=
 match P.underlying t with
 |some (.array n e)=>(P.info? e).map λi=>(n,i.size)
 |_=>none
theorem LI{t z} (h:Fw P t=some z):∃e i,P.underlying t=some (.slice e)/\P.info? e=some i/\i.size=z:=by
 unfold Fw at h;split at h
 ·rename_i e hu;obtain⟨i,h1,h2⟩:=Option.map_eq_some_iff.1 h;exact⟨e,i,hu,h1,h2⟩
 ·cases h
theorem EY{t n z} (h:WY P t=some (n,z)):∃e i,P.underlying t=some (.array n e)/\P.info? e=some i/\i.size=z:=by
 unfold WY at h;split at h
 ·rename_i m e hu;obtain⟨i,h1,h2⟩:=Option.map_eq_some_iff.1 h;simp only[ajE]at h2;obtain⟨rfl,h2⟩:=h2;exact⟨e,i,hu,h1,h2⟩
 ·cases h
def Xe (aw:List (List D)) (i z:Nat) (K:V->Prop):Prop :=
 match aw[i]? with
 |none=>False
 |some cs=>cs.length=z/\K (.d (.el cs))
def dT (P:Program) (t:TypeId) (s:List Obj) (x i:V) (K:V->Prop):Prop :=
 match i with
 |.d (.sc (.int _ n))=>match Fw P t with
  |some z=>match x with
   |.d (.sl aw)=>0<=n/\n<aw.length/\Xe aw n.toNat z K
   |.fu aw=>0<=n/\n<aw.length/\Xe aw n.toNat z K
   |.so id g lo m=>wo s id g λo=>0<=n/\n<m/\o.sz=z/\K (.rf id g (lo+n.toNat) 0)
   |_=>False
  |none=>match WY P t with
   |some (len,z)=>match x with
    |.d (.el cs)=>0<=n/\n<len/\K (.d (.el (cs.drop (n.toNat*z))))
    |.rf id g k off=>wo s id g λ_=>0<=n/\n<len/\K (.rf id g k (off+n.toNat*z))
    |_=>False
   |none=>False
 |_=>False
theorem cY.elem{a:Option Addr}{n:Nat} (h:cY O w (.sl aw) (.slice a n cap)) {i:Nat} (oq:aw[i]?=some cs) {z:Nat} (hz:cs.length=z) :
  ∃ad,a=some ad/\n=aw.length/\cY O w (.el cs) (.pointer (some (ad.add (i*z)))):=by
 have aB:=(List.getElem?_eq_some_iff.1 oq).1;cases h with
 |nil=>simp at aB
 |sl _ ad _ sz f h1 h2 h3 h4 h5 =>
  have dP:aw≠[]:=by intro e;rw[e]at aB;simp at aB
  have fY:sz=z:=by rw[<- hz];exact(h3 cs (ai4 oq)).symm
  subst fY;refine⟨ad,rfl,rfl,?_⟩;rw[ia (h2 dP)];exact .el _ _ (f i) rfl (λj x hx=>h4 i j x (by rw[oq];exact hx)) (λj x hx=>h5 i j x (by rw[oq];exact hx))
theorem Cj{i:V}{K:V->Prop} (hx:aC σ s w x u) (hi:aC σ s w i ui) (h:dT P t s x i K) :
  ∃v c,(Instr.indexAt t u ui).run P w=.ok c w/\aC σ s w v c/\K v:=by
 unfold dT at h;split at h
 case h_2=>exact h.elim
 rename_i k n;cases hi with|d hi=>?_
 cases hi with|sc _ _=>?_
 split at h
 ·rename_i z hz;obtain⟨e,ti,h1,h2,h3⟩:=LI hz;have eZ:∀(ad:Addr) (len cap:Nat),0<=n->n<len->(Instr.indexAt t (.slice (some ad) len cap) (.int k n)).run P w=.ok (.pointer (some (ad.add (n.toNat*z)))) w:=by intro ad len cap g1 g2;simp [Instr.indexAt,asIntOf,run_underlying h1,g1,g2,sizeOf,typeInfo,h2,h3]
  have GW:∀(aw:List (List D)) (a:Option Addr) (m cap:Nat),cY (Own σ s) w (.sl aw) (.slice a m cap)->0<=n/\n<aw.length/\Xe aw n.toNat z K ->
    ∃v c,(Instr.indexAt t (.slice a m cap) (.int k n)).run P w=.ok c w/\aC σ s w v c/\K v:=by
   intro aw a m cap hr ⟨g1,g2,g3⟩;unfold Xe at g3;split at g3
   ·exact g3.elim
   ·rename_i cs oq;obtain⟨ad,rfl,rfl,tO⟩:=hr.elem oq g3.1;exact⟨_,_,eZ ad _ cap g1 g2,.d tO,g3.2⟩
  cases hx with
  |d hx =>
   cases hx with
   |nil=>exact GW _ _ _ _ .nil h
   |sl aw a cap sz f k1 k2 k3 k4 k5=>exact GW _ _ _ _ (.sl aw a cap sz f k1 k2 k3 k4 k5) h
   |_=>exact h.elim
  |fu hx=>exact GW _ _ _ _ hx h
  |so o ho hg hu hk =>
   obtain⟨o',e1,e2,e3,e4,e5,e6⟩:=eQ h;rw[ho]at e1;cases e1;rcases hk e2 with ⟨_,⟨a,rfl⟩,_,rfl⟩|⟨b,base,cap,E,arr,g1,g2,rfl,g4,g5⟩
   ·omega
   ·refine⟨_,_,eZ _ _ _ e3 e4,.rf o ho hg rfl (λ_=>⟨b,base,g1,⟨arr,E,g2⟩,?_⟩),e6⟩;rw[ia rfl,e5,ajR];simp [ajI]
  |_=>exact h.elim
 ·split at h
  ·rename_i yf len z hz;obtain⟨e,ti,h1,h2,h3⟩:=EY hz;have eZ:∀(ad:Addr),0<=n->n<len->(Instr.indexAt t (.pointer (some ad)) (.int k n)).run P w=.ok (.pointer (some (ad.add (n.toNat*z)))) w:=by intro ad g1 g2;simp [Instr.indexAt,asIntOf,run_underlying h1,Instr.sureAddr,g1,g2,sizeOf,typeInfo,h2,h3]
   cases hx with
   |d hx =>
    cases hx with
    |el cs a f k1 k2 k3=>exact⟨_,_,eZ a h.1 h.2.1,.d (cY.drop (.el cs a f k1 k2 k3) _),h.2.2⟩
    |_=>exact h.elim
   |rf o ho hg hu hk =>
    obtain⟨o',e1,e2,e3,e4,e5⟩:=eQ h;rw[ho]at e1;cases e1;obtain⟨b,base,k1,kC,rfl⟩:=hk e2;refine⟨_,_,eZ _ e3 e4,.rf o ho hg rfl (λ_=>⟨b,base,k1,kC,?_⟩),e5⟩;rw[ia rfl];simp [ajI]
   |_=>exact h.elim
  ·exact h.elim
def tW (P:Program) (t:TypeId) (cs:List V) (off:Nat) (K:V->Prop):Prop :=
 match cH P t with
 |none=>False
 |some i=>match i.agg with
  |true=>off+i.sz<=cs.length/\K (.ag ((cs.drop off).take i.sz))
  |false=>match cs[off]? with
   |none=>False
   |some v=>K v
theorem DS{cs:List V}{K:V->Prop} (hx:aC σ s w (.ag cs) (.agg arr)) (h:tW P t cs off K) :
  ∃v c,(part t arr off).run P w=.ok c w/\aC σ s w v c/\K v:=by
 unfold tW at h;cases hx with|ag h1 h2 h3=>?_
 split at h
 ·exact h.elim
 ·rename_i i hi;obtain⟨ti,d,z,k1,k2,k3,k4,k5,k6,k7,k8,k9⟩:=iN hi;have fY:∀w,(sizeOf t).run P w=.ok i.sz w:=λw=>by simp [sizeOf,typeInfo,k1,k4]
  split at h
  ·rename_i AH;rw[AH]at k9;refine⟨_,.agg (arr.extract off (off+i.sz)),by simp [part,k9,fY],?_,h.2⟩;have e:∀(j:Nat) (x:V),((cs.drop off).take i.sz)[j]?=some x->cs[off+j]?=some x/\(arr.extract off (off+i.sz)).getD j undef=arr.getD (off+j) undef:=by
    intro j x hx;rw[ajA]at hx;split at hx
    ·rename_i hj;rw[ajU]at hx;refine⟨hx,?_⟩;have e2:(arr.extract off (off+i.sz))[j]?=arr[off+j]?:=by rw[Array.getElem?_extract,be (by rw[h1];omega)]
     rw[ajl,ajl,e2]
    ·cases hx
   refine .ag (by simp [h1];omega) (λj x hx=>?_) (λj x hx=>?_)
   ·rw[(e j x hx).2];exact h2 _ _ (e j x hx).1
   ·rw[(e j x hx).2];exact h3 _ _ (e j x hx).1
  ·rename_i AH;rw[AH]at k9;split at h
   ·exact h.elim
   ·rename_i v hv;have aB:=(List.getElem?_eq_some_iff.1 hv).1;obtain⟨c,hc⟩:∃c,arr[off]?=some c:=⟨arr[off]' ae,by rw[Array.getElem?_eq_getElem]⟩
    have hd:arr.getD off undef=c:=by rw[ajl,hc];rfl
    exact⟨v,c,by simp [part,k9,hc],by rw[<- hd];exact h3 _ _ hv,h⟩
def ny (P:Program) (t:TypeId) (x:V) (f:Nat) (K:V->Prop):Prop :=
 match x with
 |.ag cs=>match P.underlying t with
  |some (.struct fields)=>match fields[f]? with
   |some fd=>tW P fd.type cs fd.offset K
   |none=>False
  |_=>False
 |_=>False
theorem KD{f:Nat}{K:V->Prop} (hx:aC σ s w x u) (h:ny P t x f K) :
  ∃v c,(Instr.field t u f).run P w=.ok c w/\aC σ s w v c/\K v:=by
 unfold ny at h;split at h
 case h_2=>exact h.elim
 split at h
 case h_2=>exact h.elim
 split at h
 case h_2=>exact h.elim
 rename_i hu _ fd hfd;cases hx with|ag h1 h2 h3=>?_
 obtain⟨v,c,r1,r2,r3⟩:=DS (.ag h1 h2 h3) h;exact⟨v,c,by simp [Instr.field,run_underlying hu,hfd,asAgg,r1],r2,r3⟩
def lj (P:Program) (t:TypeId) (x i:V) (K:V->Prop):Prop :=
 match i with
 |.d (.sc (.int _ n))=>match x with
  |.ag cs=>match P.underlying t with
   |some (.array len e)=>match (P.info? e).map (·.size) with
    |some z=>0<=n/\n<len/\tW P e cs (n.toNat*z) K
    |none=>False
   |_=>False
  |_=>False
 |_=>False
theorem Ke{i:V}{K:V->Prop} (hx:aC σ s w x u) (hi:aC σ s w i ui) (h:lj P t x i K) :
  ∃v c,(Instr.index t u ui).run P w=.ok c w/\aC σ s w v c/\K v:=by
 unfold lj at h;split at h
 case h_2=>exact h.elim
 rename_i k n;cases hi with|d hi=>?_
 cases hi with|sc _ _=>?_
 split at h
 case h_2=>exact h.elim
 split at h
 case h_2=>exact h.elim
 rename_i hu;split at h
 case h_2=>exact h.elim
 rename_i z hz;obtain⟨ti,h1,h2⟩:=Option.map_eq_some_iff.1 hz;cases hx with|ag k1 k2 k3=>?_
 obtain⟨v,c,r1,r2,r3⟩:=DS (.ag k1 k2 k3) h.2.2;refine⟨v,c,?_,r2,r3⟩;simp [Instr.index,asIntOf,run_underlying hu,h.1,h.2.1,sizeOf,typeInfo,h1,h2,r1]
def yI (σ:Gh) (s:List Obj) (w:World) (cs:List V) (arr:Array Value):Prop :=
 arr.size=cs.length/\∀(i:Nat) (x:V),cs[i]?=some x->∃c,arr[i]?=some c/\c.oneCell'=true/\aC σ s w x c
theorem yI.ag {σ s w cs arr} (h:yI σ s w cs arr):aC σ s w (.ag cs) (.agg arr):=by
 have e:∀(i:Nat) (x:V),cs[i]?=some x->(arr.getD i undef).oneCell'=true/\aC σ s w x (arr.getD i undef):=by intro i x hx;obtain⟨c,h1,h2,h3⟩:=h.2 i x hx;rw[ajl,h1];exact⟨h2,h3⟩
 exact .ag h.1 (λi x hx=>(e i x hx).1) (λi x hx=>(e i x hx).2)
theorem AM (ht:cH P t=some i) (σ:Gh) (s:List Obj) (w:World):∃z,(∀w,(zeroValue t).run P w=.ok z w)/\yI σ s w (i.zero.map cv) z.cells/\z.cells.size=i.sz/\z.cells.toList=i.zero:=by obtain⟨ti,d,z,k1,k2,k3,k4,k5,k6,k7,k8,k9⟩:=iN ht;refine⟨z,λw=>by simp [zeroValue,typeInfo,k1,k3],⟨by rw[<- akt,k6];simp,λj x hx=>?_⟩,by rw[<- akt,k6,k7],k6⟩;rw[aiY]at hx;obtain⟨v,hv,rfl⟩:=Option.map_eq_some_iff.1 hx;exact⟨v,by rw[<- ajN,k6];exact hv,k8 v (ai4 hv),IM v⟩
theorem AB (off:Nat):∀(l:List Value) (k:Nat) (cells:Array Value),off+k+l.length<=cells.size ->
  ((l.zipIdx k).foldl (λcs (x:Value×Nat)=>cs.setIfInBounds (off+x.2) x.1) cells).size=cells.size /\
  ∀p,((l.zipIdx k).foldl (λcs (x:Value×Nat)=>cs.setIfInBounds (off+x.2) x.1) cells)[p]?=if off+k<=p/\p<off+k+l.length then l[p-(off+k)]? else cells[p]?
 |[],k,cells,_=>by simp;intro p h1 h2;omega
 |v::l,k,cells,h=>by
  simp only[ai8]at h;simp only[List.zipIdx_cons,akg];obtain⟨h1,h2⟩:=AB off l (k+1) (cells.setIfInBounds (off+k) v) cG;refine⟨by rw[h1];simp,λp=>?_⟩;rw[h2 p];by_cases hp:p=off+k
  ·subst hp;rw[bd,be aj,Array.getElem?_setIfInBounds_self_of_lt ae];simp
  ·rw[Array.getElem?_setIfInBounds_ne ae];by_cases hq:off+(k+1)<=p/\p<off+(k+1)+l.length
   ·rw[be hq,be (by simp only[ai8];omega)];rw[show p-(off+k)=(p-(off+(k+1)))+1 by omega];simp
   ·rw[ap hq,ap (by simp only[ai8];omega)]
def xz (place:Nat->Option (Nat×Nat)) (cs:List V):List (Nat×V)->Option (List V)
 |[]=>some cs
 |(i,v)::rest=>match place i with
  |none=>none
  |some (off,size)=>match eH v with
   |none=>none
   |some ns=>if ns.length=size/\off+ns.length<=cs.length then xz place (iK cs off ns) rest else none
theorem xP {σ:Gh}{s:List Obj}{w:World}{place:Nat->Option (Nat×Nat)}:∀(parts:List (Nat×V)) (ps:List (Nat×Value)) (cs:List V) (arr:Array Value) (Zu:List V),yI σ s w cs arr ->
  ps.length=parts.length->(∀(j:Nat) i x,parts[j]?=some (i,x)->∃u,ps[j]?=some (i,u)/\aC σ s w x u)->xz place cs parts=some Zu ->
  ∃cE,Instr.fill place arr ps=some cE/\yI σ s w Zu cE
 |[],[],cs,arr,Zu,hr,_,_,h=>by simp only[xz,ai5]at h;subst h;exact⟨arr,rfl,hr⟩
 |[],p::ps,_,_,_,_,hl,_,_=>by simp at hl
 |_::_,[],_,_,_,_,hl,_,_=>by simp at hl
 |(i,v)::parts,(i',u)::ps,cs,arr,Zu,hr,hl,hp,h=>by
  obtain⟨u',hu,tE⟩:=hp 0 i v rfl;simp only[ajv,ai5,ajE]at hu;obtain⟨rfl,rfl⟩:=hu;simp only[xz]at h;split at h
  ·cases h
  ·rename_i off size ki;split at h
   ·cases h
   ·rename_i ns yH;split at h
    ·rename_i hc;obtain⟨h1,h2⟩:=nC tE yH;have hrep:=AB off u.cells.toList 0 arr (by simp;rw[hr.1,h1];exact hc.2);have e:u.cells.zipIdx.foldl (λcs (x:Value×Nat)=>cs.setIfInBounds (off+x.2) x.1) arr=(u.cells.toList.zipIdx 0).foldl (λcs (x:Value×Nat)=>cs.setIfInBounds (off+x.2) x.1) arr:=by rw[<- Array.foldl_toList];simp
     have V6:yI σ s w (iK cs off ns) ((u.cells.toList.zipIdx 0).foldl (λcs (x:Value×Nat)=>cs.setIfInBounds (off+x.2) x.1) arr):=by
      refine⟨by rw[hrep.1,hr.1,tC _ _ _ hc.2],λj x hx=>?_⟩;rw[qA _ _ _ hc.2]at hx;rw[hrep.2];split at hx
      ·rename_i hj;rw[be cG];obtain⟨c,k1,k2,k3⟩:=h2 _ x hx;exact⟨c,by rw[ajN];simpa using k1,k2,k3⟩
      ·rename_i hj;rw[ap cG];exact hr.2 j x hx
     obtain⟨cE,k1,k2⟩:=xP parts ps _ _ Zu V6 (by simpa using hl) (λj i x hx=>hp (j+1) i x (by simpa using hx)) h;refine⟨cE,?_,k2⟩;simp only[Instr.fill,ki];rw[ap (by simp [h1,hc.1,hr.1];omega)];rw[<- e]at k1;exact k1
    ·cases h
def bM (P:Program) (t:TypeId):Option (List (Nat×Nat)) :=
 match P.underlying t with
 |some (.struct fields)=>fields.toList.mapM λf=>(P.info? f.type).map λi=>(f.offset,i.size)
 |_=>none
def qG (P:Program) (t:TypeId) (parts:List (Nat×V)) (K:V->Prop):Prop :=
 match cH P t with
 |none=>False
 |some i=>match bM P t with
  |some pl=>match xz (pl[·]?) (i.zero.map cv) parts with
   |some cs=>K (.ag cs)
   |none=>False
  |none=>match WY P t with
   |some (_,z)=>match xz (λj=>some (j*z,z)) (i.zero.map cv) parts with
    |some cs=>K (.ag cs)
    |none=>False
   |none=>False
theorem xl {P:Program}{α β:Type} (f:α->Sem β) (g:α->Option β) (Zy:∀a b,g a=some b->∀w,(f a).run P w=.ok b w) (w:World):∀(l:List α) (r:List β),l.mapM g=some r->(l.mapM f).run P w=.ok r w
 |[],r,h=>by simp at h;subst h;simp [List.mapM_nil]
 |a::l,r,h=>by
  rw[aki]at h;cases ha:g a with
  |none=>simp [ha]at h
  |some b =>
   cases hl:l.mapM g with
   |none=>simp [ha,hl]at h
   |some r' =>
    simp [ha,hl]at h;subst h;rw[aki];simp [Zy a b ha w,xl f g Zy w l r' hl]
theorem KG{K:V->Prop}
  (hl:ps.length=parts.length) (hp:∀(j:Nat) i x,parts[j]?=some (i,x)->∃u,ps[j]?=some (i,u)/\aC σ s w x u) (h:qG P t parts K) :
  ∃v c,(Instr.build t ps.toArray).run P w=.ok c w/\aC σ s w v c/\K v:=by
 unfold qG at h;split at h
 ·exact h.elim
 ·rename_i i hi;obtain⟨z,hz,hzr,_,_⟩:=AM hi σ s w;split at h
  ·rename_i pl ki;unfold bM at ki;split at ki
   ·rename_i fields hu;split at h
    ·rename_i cs oq;obtain⟨cE,k1,k2⟩:=xP parts ps _ _ cs hzr hl hp oq;refine⟨_,_,?_,k2.ag,h⟩;have hm:(fields.mapM (λf=>do pure (f.offset,<- sizeOf f.type):Field->Sem (Nat×Nat))).run P w=.ok pl.toArray w:=by
      have:=xl (P:=P) (λf=>do pure (f.offset,<- sizeOf f.type):Field->Sem (Nat×Nat)) (λf=>(P.info? f.type).map λi=>(f.offset,i.size))
       (λf b hb w=>by
        obtain⟨ti,e1,rfl⟩:=Option.map_eq_some_iff.1 hb;simp [sizeOf,typeInfo,e1]) w fields.toList pl ki
      rw[<- Array.toArray_toList (xs:=fields)];rw[List.mapM_toArray,Sem.run_map,this];rfl
     have adJ:(λx:Nat=>pl.toArray[x]?)=(λx:Nat=>pl[x]?):=by funext x;simp
     simp only[Instr.build,Sem.run_bind,hz,Result.andThen_ok,run_underlying hu,hm,adJ,k1,Sem.run_pure]
    ·exact h.elim
   ·cases ki
  ·split at h
   ·rename_i len zz hzz;obtain⟨e,ti,h1,h2,h3⟩:=EY hzz;split at h
    ·rename_i cs oq;obtain⟨cE,k1,k2⟩:=xP parts ps _ _ cs hzr hl hp oq;refine⟨_,_,?_,k2.ag,h⟩;have fY:(sizeOf e).run P w=.ok zz w:=by simp [sizeOf,typeInfo,h2,h3]
     simp only[Instr.build,Sem.run_bind,hz,Result.andThen_ok,run_underlying h1,fY,k1,Sem.run_pure]
    ·exact h.elim
   ·exact h.elim
theorem sQ (hI:Inv σ s w){aw:List (List V)} (E:TypeId) (hl:∀e∈aw,e.length=sz) (hs:aw.length*sz<=arr.size)
  (hc:∀(i j:Nat) (x:V),(aw[i]?.bind (·[j]?))=some x->∃u,arr[i*sz+j]?=some u/\u.oneCell'=true/\aC σ s w x u) :
  aG σ s w (pK σ s.length (some (w.heap.size,0))) (s++[⟨0,true,sz,aw⟩]) (w.alloc (.cells arr E)) /\
  Inv (pK σ s.length (some (w.heap.size,0))) (s++[⟨0,true,sz,aw⟩]) (w.alloc (.cells arr E)):=by
 refine pM (p:=some (w.heap.size,0)) hI rfl rfl rfl aj (λb hb=>Go.RowKit.Below.heap_alloc w _ b hb) (λb base h=>by cases h;exact ajc _)
  (λhE=>.inr ⟨w.heap.size,0,arr,E,rfl,heap_alloc_new w _,hl,by simpa using hs,λi j x hx=>?_⟩)
 obtain⟨u,h1,h2,h3⟩:=hc i j x hx;exact⟨u,by simpa using h1,h2,h3.aZ hE⟩
theorem Sb{o:Obj} (hC:HZ w b):aC (pK σ s.length (some (b,base))) (s++[o]) w (.rf s.length o.g 0 0) (.pointer (some ⟨b,base,none⟩)) :=
 .rf o aj (ajc _) rfl (λ_=>⟨b,base,cc _ _ _,hC,aj⟩)
def qF (P:Program) (t:TypeId) (s:List Obj) (K:V->List Obj->Prop):Prop :=
 match cH P t with
 |none=>False
 |some i=>K (.rf s.length 0 0 0) (s++[⟨0,true,i.sz,[i.zero.map cv]⟩])
theorem wQ {cs:List V} (h:yI σ s w cs arr) (sz:Nat) :
  ∀(i j:Nat) (x:V),(([cs]:List (List V))[i]?.bind (·[j]?))=some x->∃u,arr[i*sz+j]?=some u/\u.oneCell'=true/\aC σ s w x u:=by
 intro i j x hx;cases i with
 |zero=>simp at hx;simpa using h.2 j x hx
 |succ n=>simp at hx
theorem LX (hI:Inv σ s w) (h:qF P t s K) :
  ∃v c σ' s' w',(Instr.alloc t true (.tuple #[])).run P w=.ok c w'/\aG σ s w σ' s' w'/\Inv σ' s' w'/\aC σ' s' w' v c/\K v s':=by
 unfold qF at h;split at h
 ·exact h.elim
 ·rename_i i hi;obtain⟨z,hz,hr,hs,hl⟩:=AM hi σ s w;have:=sQ (aw:=[i.zero.map cv]) (sz:=i.sz) (arr:=z.cells) hI t (by simp;rw[<- hl];simpa using hs) (by simp [hs]) (wQ hr i.sz);refine⟨_,.pointer (some ⟨w.heap.size,0,none⟩),_,_,w.alloc (.cells z.cells t),?_,this.1,this.2,Sb (o:=⟨0,true,i.sz,[i.zero.map cv]⟩) ⟨_,_,heap_alloc_new w _⟩,h⟩;simp [Instr.alloc,hz,newVar,newRow]
def BZ (s:List Obj) (x:V) (K:V->List Obj->Prop):Prop :=
 match eH x with
 |none=>False
 |some cs=>K (.rf s.length 0 0 0) (s++[⟨0,true,cs.length,[cs]⟩])
theorem QZ (hI:Inv σ s w) (hx:aC σ s w x u) (h:BZ s x K) :
  ∃v c σ' s' w',(Instr.box t u).run P w=.ok c w'/\aG σ s w σ' s' w'/\Inv σ' s' w'/\aC σ' s' w' v c/\K v s':=by
 unfold BZ at h;split at h
 ·exact h.elim
 ·rename_i cs oq;have hr:yI σ s w cs u.cells:=nC hx oq;have:=sQ (aw:=[cs]) (sz:=cs.length) (arr:=u.cells) hI t aj (by simp [hr.1]) (wQ hr _);refine⟨_,.pointer (some ⟨w.heap.size,0,none⟩),_,_,w.alloc (.cells u.cells t),?_,this.1,this.2,Sb (o:=⟨0,true,cs.length,[cs]⟩) ⟨_,_,heap_alloc_new w _⟩,h⟩;simp [Instr.box,newVar,newRow]
def OP (σ:Gh) (s:List Obj) (w:World) (sz:Nat) (aw:List (List V)) (arr:Array Value):Prop :=
 (∀e∈aw,e.length=sz)/\arr.size=aw.length*sz /\
 ∀(i j:Nat) (x:V),(aw[i]?.bind (·[j]?))=some x->∃c,arr[i*sz+j]?=some c/\c.oneCell'=true/\aC σ s w x c
def uO (sz:Nat) (aw:List (List V)):List (Nat×V)->Option (List (List V))
 |[]=>some aw
 |(i,v)::rest=>match eH v with
  |none=>none
  |some ns=>if i<aw.length/\ns.length=sz then uO sz (aw.set i ns) rest else none
theorem Cd {σ:Gh}{s:List Obj}{w:World}{sz:Nat}:∀(parts:List (Nat×V)) (ps:List (Nat×Value)) (aw:List (List V)) (arr:Array Value) (els':List (List V)),OP σ s w sz aw arr ->
  ps.length=parts.length->(∀(j:Nat) i x,parts[j]?=some (i,x)->∃u,ps[j]?=some (i,u)/\aC σ s w x u)->uO sz aw parts=some els' ->
  ∃cE,Instr.fill (λi=>some (i*sz,sz)) arr ps=some cE/\OP σ s w sz els' cE/\els'.length=aw.length
 |[],[],aw,arr,els',hr,_,_,h=>by simp only[uO,ai5]at h;subst h;exact⟨arr,rfl,hr,rfl⟩
 |[],p::ps,_,_,_,_,hl,_,_=>by simp at hl
 |_::_,[],_,_,_,_,hl,_,_=>by simp at hl
 |(i,v)::parts,(i',u)::ps,aw,arr,els',hr,hl,hp,h=>by
  obtain⟨u',hu,tE⟩:=hp 0 i v rfl;simp only[ajv,ai5,ajE]at hu;obtain⟨rfl,rfl⟩:=hu;simp only[uO]at h;split at h
  ·cases h
  ·rename_i ns yH;split at h
   ·rename_i hc;obtain⟨vO,uz⟩:=hc;obtain⟨h1,h2⟩:=nC tE yH;obtain⟨r1,r2,r3⟩:=hr;have hb:=ajD sz (show i'+1<=aw.length from vO);rw[ajR,Nat.one_mul]at hb;have hrep:=AB (i'*sz) u.cells.toList 0 arr (by simp;rw[h1];omega);have e:u.cells.zipIdx.foldl (λcs (x:Value×Nat)=>cs.setIfInBounds (i'*sz+x.2) x.1) arr=(u.cells.toList.zipIdx 0).foldl (λcs (x:Value×Nat)=>cs.setIfInBounds (i'*sz+x.2) x.1) arr:=by rw[<- Array.foldl_toList];simp
    have V6:OP σ s w sz (aw.set i' ns) ((u.cells.toList.zipIdx 0).foldl (λcs (x:Value×Nat)=>cs.setIfInBounds (i'*sz+x.2) x.1) arr):=by
     refine⟨λe he=>?_,by rw[hrep.1,r2,ajp],λk j x hx=>?_⟩
     ·rcases aj4 he with h'|h'
      ·exact r1 e h'
      ·rw[h'];exact uz
     ·rw[hrep.2];have kg:u.cells.toList.length=sz:=by simp [h1,uz]
      by_cases hk:k=i'
      ·subst hk;rw[ajm vO]at hx;simp only[ajM]at hx;have hj:=(List.getElem?_eq_some_iff.1 hx).1;rw[be (by rw[kg];omega)];obtain⟨c,k1,k2,k3⟩:=h2 _ x hx;refine⟨c,?_,k2,k3⟩;rw[ajN,<- k1];congr 1;omega
      ·rw[ajy (Ne.symm hk)]at hx;have hj:j<sz:=by
        cases he:aw[k]? with
        |none=>rw[he]at hx;cases hx
        |some e =>
         rw[he]at hx;have:=(List.getElem?_eq_some_iff.1 hx).1;rw[r1 e (ai4 he)]at this;exact this
       rw[ap ?_]
       ·exact r3 k j x hx
       ·rw[kg];rcases Nat.lt_or_gt_of_ne hk with aB|aB
        ·have:=ajD sz (show k+1<=i' from aB);rw[ajR,Nat.one_mul]at this;omega
        ·have:=ajD sz (show i'+1<=k from aB);rw[ajR,Nat.one_mul]at this;omega
    obtain⟨cE,k1,k2,k3⟩:=Cd parts ps _ _ els' V6 (by simpa using hl) (λj i x hx=>hp (j+1) i x (by simpa using hx)) h;refine⟨cE,?_,k2,by simpa using k3⟩;simp only[Instr.fill];rw[ap (by simp [h1,uz,r2];omega)];rw[<- e]at k1;exact k1
   ·cases h
def P4:V->Option D
 |.d x=>some x
 |.fu aw=>some (.sl aw)
 |_=>none
theorem pE{y:D} (hr:aC σ s w x u) (h:P4 x=some y):cY (Own σ s) w y u:=by
 cases hr <;> simp only[P4,ai5]at h <;> first|(cases h;done)|(subst h;assumption)
def u6 (aw:List (List V)):Option (List (List D)):=aw.mapM λe=>e.mapM P4
theorem kM {α β:Type}{f:α->Option β}:∀{l:List α}{r:List β},l.mapM f=some r->r.length=l.length/\∀(i:Nat) (y:β),r[i]?=some y->∃x,l[i]?=some x/\f x=some y
 |[],r,h=>by simp at h;subst h;simp
 |a::l,r,h=>by
  rw[aki]at h;cases ha:f a with
  |none=>simp [ha]at h
  |some b =>
   cases hl:l.mapM f with
   |none=>simp [ha,hl]at h
   |some r' =>
    simp [ha,hl]at h;subst h;obtain⟨h1,h2⟩:=kM hl;refine⟨by simp [h1],λi y hy=>?_⟩;cases i with
    |zero=>simp at hy;subst hy;exact⟨a,rfl,ha⟩
    |succ i=>simpa using h2 i y (by simpa using hy)
theorem QA {aw:List (List V)}{ds:List (List D)} (h:u6 aw=some ds):ds.length=aw.length /\
  (∀(i:Nat) (e:List D),ds[i]?=some e->∃e',aw[i]?=some e'/\e.length=e'.length) /\
  ∀(i j:Nat) (y:D),(ds[i]?.bind (·[j]?))=some y->∃x,(aw[i]?.bind (·[j]?))=some x/\P4 x=some y:=by
 obtain⟨h1,h2⟩:=kM h;refine⟨h1,λi e he=>?_,λi j y hy=>?_⟩
 ·obtain⟨e',k1,k2⟩:=h2 i e he;exact⟨e',k1,(kM k2).1⟩
 ·cases he:ds[i]? with
  |none=>rw[he]at hy;cases hy
  |some e =>
   rw[he]at hy;obtain⟨e',k1,k2⟩:=h2 i e he;obtain⟨x,k3,k4⟩:=(kM k2).2 j y hy;exact⟨x,by rw[k1];exact k3,k4⟩
theorem cY.M7 (tJ:aw.length<=cap) (fY:∀e∈aw,e.length=sz) (hO:¬O b)
  (h:∀(i j:Nat) (x:D),(aw[i]?.bind (·[j]?))=some x->∃u,w.cell? ⟨b,base+i*sz+j,none⟩=some u/\cY O w x u):cY O w (.sl aw) (.slice (some ⟨b,base,none⟩) aw.length cap):=by
 refine .sl aw ⟨b,base,none⟩ cap sz (λi j=>(w.cell? ⟨b,base+i*sz+j,none⟩).getD undef) tJ (λ_=>rfl) fY (λi j x hx=>?_) (λi j x hx=>?_)
 ·obtain⟨u,h1,h2⟩:=h i j x hx;simp only[h1,akl];exact⟨trivial,hO⟩
 ·obtain⟨u,h1,h2⟩:=h i j x hx;simpa only[h1,akl]using h2
theorem EA (hI:Inv σ s w) (h:Own σ s b):b<w.heap.size:=by
 rcases h with h|⟨id,o,base,h1,_,h3⟩
 ·exact hI.low b h
 ·exact hI.lt h1 h3
def jk (P:Program) (t:TypeId):Option (TypeId×RF) :=
 match P.underlying t with
 |some (.slice e)=>(cH P e).map λi=>(e,i)
 |_=>none
theorem lE{e:TypeId} (h:jk P t=some (e,i)):P.underlying t=some (.slice e)/\cH P e=some i:=by
 unfold jk at h;split at h
 ·rename_i e' hu;obtain⟨i',h1,h2⟩:=Option.map_eq_some_iff.1 h;simp only[ajE]at h2;obtain⟨rfl,rfl⟩:=h2;exact⟨hu,h1⟩
 ·cases h
def e9 (P:Program) (t:TypeId) (len:Nat) (parts:List (Nat×V)) (s:List Obj) (K:V->List Obj->Prop):Prop :=
 match jk P t with
 |none=>False
 |some (_,i)=>(len*i.sz<=16777216/\0<i.sz)/\match uO i.sz (List.replicate len (i.zero.map cv)) parts with
  |none=>False
  |some aw=>match u6 aw with
   |some ds=>K (.fu ds) s
   |none=>K (.so s.length 0 0 len) (s++[⟨0,true,i.sz,aw⟩])
theorem Da (ht:cH P t=some i) (σ:Gh) (s:List Obj) (w:World) (n:Nat) (z:Value) (hz:z.cells.toList=i.zero) :
  OP σ s w i.sz (List.replicate n (i.zero.map cv)) ((Array.range (n*i.sz)).map (z.cells[· % z.cells.size]!)):=by
 obtain⟨ti,d,z',k1,k2,k3,k4,k5,k6,k7,k8,k9⟩:=iN ht;have hzs:z.cells.size=i.sz:=by rw[<- akt,hz,k7]
 refine⟨λe he=>by rw[List.eq_of_mem_replicate he];simp [k7],aj,λa j x hx=>?_⟩;have ha:a<n:=by
  cases he:(List.replicate n (i.zero.map cv))[a]? with
  |none=>rw[he]at hx;cases hx
  |some e=>simpa using (List.getElem?_eq_some_iff.1 he).1
 simp only[akb,ha,if_true,ajM,aiY]at hx;obtain⟨v,hv,rfl⟩:=Option.map_eq_some_iff.1 hx;have hj:j<i.sz:=by rw[<- k7];exact(List.getElem?_eq_some_iff.1 hv).1
 have hb:=ajD i.sz (show a+1<=n from ha);rw[ajR,Nat.one_mul]at hb;refine⟨v,?_,k8 v (ai4 hv),IM v⟩;have aev:(a*i.sz+j) % z.cells.size=j:=by rw[hzs,Nat.mul_add_mod_self_right,Nat.mod_eq_of_lt hj]
 have ir:z.cells[j]! = v:=by rw[getElem!_def,<- ajN,hz,hv]
 simp [show a*i.sz+j<n*i.sz by omega,aev,ir]
theorem A4{len:Nat} (hI:Inv σ s w)
  (hl:ps.length=parts.length) (hp:∀(j:Nat) i x,parts[j]?=some (i,x)->∃u,ps[j]?=some (i,u)/\aC σ s w x u) (h:e9 P t len parts s K) :
  ∃v c σ' s' w',(Instr.buildSlice t len ps.toArray).run P w=.ok c w'/\aG σ s w σ' s' w'/\Inv σ' s' w'/\aC σ' s' w' v c/\K v s':=by
 unfold e9 at h;split at h
 ·exact h.elim
 rename_i e i hti;obtain⟨hu,hi⟩:=lE hti;obtain⟨⟨hb,lQ⟩,h⟩:=h;split at h
 ·exact h.elim
 rename_i aw iG;obtain⟨ti,d,z,k1,k2,k3,k4,k5,k6,k7,k8,k9⟩:=iN hi;have hz:∀w,(zeroValue e).run P w=.ok z w:=λw=>by simp [zeroValue,typeInfo,k1,k3]
 have fY:∀w,(sizeOf e).run P w=.ok i.sz w:=λw=>by simp [sizeOf,typeInfo,k1,k4]
 obtain⟨cE,f1,f2,f3⟩:=Cd parts ps _ _ aw (Da hi σ s w len z k6) hl hp iG;have hlen:aw.length=len:=by simpa using f3
 have eZ:(Instr.buildSlice t len ps.toArray).run P w=.ok (.slice (some ⟨w.heap.size,0,none⟩) len len) (w.alloc (.cells cE e)):=by
  have RP:¬(len*i.sz>2 ^ 24):=ae;by_cases h0:len=0
  ·subst h0;have Y7:∀g:Nat->Value,(Array.range 0).map g=#[]:=λg=>by apply Array.ext' ;simp
   rw[Nat.zero_mul,Y7]at f1;simp only[Instr.buildSlice,Sem.run_bind,run_underlying hu,fY,Result.andThen_ok,Nat.zero_mul,Y7,f1];simp [newRow]
  ·have h0':¬(len*i.sz=0):=by have:=Nat.mul_pos (Nat.pos_of_ne_zero h0) lQ;omega
   simp only[Instr.buildSlice,Sem.run_bind,run_underlying hu,fY,Result.andThen_ok,ap RP,ap h0',hz,f1,Sem.run_pure];simp [newRow]
 obtain⟨r1,r2,r3⟩:=f2;split at h
 ·rename_i ds hds;obtain⟨d1,d2,d3⟩:=QA hds;obtain⟨hE,ko⟩:=GV hI (.cells cE e);refine⟨_,_,σ,s,_,eZ,hE,ko,?_,h⟩;have hd:cY (Own σ s) (w.alloc (.cells cE e)) (.sl ds) (.slice (some ⟨w.heap.size,0,none⟩) ds.length ds.length):=by
   refine cY.M7 (sz:=i.sz) (ajc _) (λx hx=>?_) (λho=>by have:=EA hI ho;omega) (λa j y hy=>?_)
   ·obtain⟨a,ha⟩:=List.mem_iff_getElem?.1 hx;obtain⟨e',g1,g2⟩:=d2 a x ha;rw[g2];exact r1 e' (ai4 g1)
   ·obtain⟨x,g1,g2⟩:=d3 a j y hy;obtain⟨c,c1,c2,c3⟩:=r3 a j x g1;exact⟨c,by simpa using c1,(pE c3 g2).aZ hE⟩
  rw[show len=ds.length by omega];exact .fu hd
 ·have:=sQ (aw:=aw) (sz:=i.sz) (arr:=cE) hI e r1 ae r3;refine⟨_,_,_,_,_,eZ,this.1,this.2,?_,h⟩;refine .so ⟨0,true,i.sz,aw⟩ aj (ajc _) ⟨_,_,rfl⟩ (λ_=>.inr ⟨w.heap.size,0,len,e,cE,cc _ _ _,heap_alloc_new w _,aj,ajc _,by simp [r2,hlen]⟩)
def gY (P:Program) (t:TypeId) (l c:V) (s:List Obj) (K:V->List Obj->Prop):Prop :=
 match jk P t with
 |none=>False
 |some (_,i)=>match l,c with
  |.d (.sc (.int _ n)),.d (.sc (.int _ m))=>(0<=n/\n<=m/\i.Cx*m<=140737488355328/\m<=9223372036854775807/\0<i.sz) /\
    K (.so s.length 0 0 n.toNat) (s++[⟨0,true,i.sz,List.replicate n.toNat (i.zero.map cv)⟩])
  |_,_=>False
theorem Cq{l c:V}{ul uc:Value} (hI:Inv σ s w) (hl:aC σ s w l ul) (hc:aC σ s w c uc)
  (h:gY P t l c s K):∃v r σ' s' w',(Instr.makeSlice t ul uc).run P w=.ok r w'/\aG σ s w σ' s' w'/\Inv σ' s' w'/\aC σ' s' w' v r/\K v s':=by
 unfold gY at h;split at h
 ·exact h.elim
 rename_i e i hti;obtain⟨hu,hi⟩:=lE hti;split at h
 case h_2=>exact h.elim
 rename_i kl n kc m;obtain⟨⟨h1,h2,h3,h4,h5⟩,h⟩:=h;cases hl with|d hl=>?_
 cases hl with|sc _ _=>?_
 cases hc with|d hc=>?_
 cases hc with|sc _ _=>?_
 obtain⟨ti,d,z,k1,k2,k3,k4,k5,k6,k7,k8,k9⟩:=iN hi;have hz:∀w,(zeroValue e).run P w=.ok z w:=λw=>by simp [zeroValue,typeInfo,k1,k3]
 have fY:∀w,(sizeOf e).run P w=.ok i.sz w:=λw=>by simp [sizeOf,typeInfo,k1,k4]
 obtain⟨N,rfl⟩:=Int.eq_ofNat_of_zero_le h1;obtain⟨M,rfl⟩:=Int.eq_ofNat_of_zero_le (show 0<=m by omega);have w1:IntKind.i64.wrap (N:Int)=N:=IntWalk.i64_in _ ae;have w2:IntKind.i64.wrap (M:Int)=M:=IntWalk.i64_in _ ae;have agZ:¬((i.Cx:Int)*(M:Int)>2 ^ 48):=ae;obtain⟨r1,r2,r3⟩:=Da hi σ s w M z k6;have eZ:(Instr.makeSlice t (.int kl N) (.int kc M)).run P w=.ok (.slice (some ⟨w.heap.size,0,none⟩) N M) (w.alloc (.cells ((Array.range (M*i.sz)).map (z.cells[· % z.cells.size]!)) e)):=by
  have Y7:∀g:Nat->Value,(Array.range 0).map g=#[]:=λg=>by apply Array.ext' ;simp
  have c1:¬((M:Int)<0):=ae;have c2:¬((N:Int)<0):=ae;have c3:¬((N:Int)>M):=ae;by_cases h0:M*i.sz=0
  ·simp only[Instr.makeSlice,run_underlying hu,asInt,asIntOf,typeInfo,k1,k5,w1,w2,Sem.run_bind,Result.andThen_ok,run_program,Sem.run_pure,ai1,h0,Y7];simp [c1,c2,c3,fY,newRow,h0,Y7];intro hx;exfalso;omega
  ·simp only[Instr.makeSlice,run_underlying hu,asInt,asIntOf,typeInfo,k1,k5,w1,w2,Sem.run_bind,Result.andThen_ok,run_program,Sem.run_pure,ai1];simp [c1,c2,c3,fY,newRow,h0,hz];intro hx;exfalso;omega
 have:=sQ (aw:=List.replicate N (i.zero.map cv)) (sz:=i.sz) (arr:=(Array.range (M*i.sz)).map (z.cells[· % z.cells.size]!)) hI e (λx hx=>by rw[List.eq_of_mem_replicate hx];simp [k7])
  (by simp;exact ajD _ ae) (λa j x hx=>by
   refine r3 a j x ?_;rw[akb]at hx ⊢;split at hx
   ·rw[tK];exact hx
   ·cases hx)
 refine⟨_,_,_,_,_,eZ,this.1,this.2,?_,h⟩;refine .so ⟨0,true,i.sz,List.replicate N (i.zero.map cv)⟩ aj (ajc _) ⟨_,_,rfl⟩ (λ_=>.inr ⟨w.heap.size,0,M,e,(Array.range (M*i.sz)).map (z.cells[· % z.cells.size]!),cc _ _ _,heap_alloc_new w _,aj,ae,aj⟩)
end Go.VL
