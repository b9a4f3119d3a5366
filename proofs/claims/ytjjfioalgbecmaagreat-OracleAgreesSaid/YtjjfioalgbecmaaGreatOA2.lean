/- A part of the proof. -/
import Derived.Test.YtjjfioalgbecmaaGreatOA1
set_option linter.unusedSimpArgs false
set_option linter.unusedVariables false
set_option maxRecDepth 100000
set_option maxHeartbeats 80000000
namespace Go.VL
variable{P:Program}{id:Nat}{s:List Obj}{σ:Gh}{w:World}{u:Value}{off:Nat}{O:Nat->Prop}{cs:List D}{K:V->List Obj->Prop}{t:TypeId}{cap:Nat}{aA:List (List D)}{ui:Value}{x:V}{i:S4}{arr:Array Value}{ps:List (Nat×Value)}{parts:List (Nat×V)}{sz:Nat}{b:Nat}{base:Nat}
def aO (P:Program) (t:TypeId) (f:Nat):Option Nat :=
 match P.underlying t with
 |some (.struct fields)=>match fields[f]? with
  |some fd=>match P.info? fd.type with
   |some i=>if i.size=0 then none else some fd.offset
   |none=>none
  |none=>none
 |_=>none
theorem Sf{t f off} (h:aO P t f=some off):∃fields fd,P.underlying t=some (.struct fields)/\fields[f]?=some fd/\fd.offset=off /\
  ∀(a:Addr) (w:World),(fieldPlace a fd).run P w=.ok (a.add off) w:=by
 unfold aO at h;split at h
 ·rename_i fields hu;split at h
  ·rename_i fd hf;split at h
   ·rename_i i hi;split at h
    ·cases h
    ·rename_i eX;simp only[alb]at h;exact⟨fields,fd,hu,hf,h,λa w=>by simp [fieldPlace,sizeOf,typeInfo,hi,eX,h]⟩
   ·cases h
  ·cases h
 ·cases h
def wq (s:List Obj) (id g:Nat) (K:Obj->Prop):Prop :=
 match s[id]? with
 |none=>False
 |some o=>o.g=g/\K o
theorem eT{g:Nat}{K:Obj->Prop} (h:wq s id g K):∃o,s[id]?=some o/\o.g=g/\K o:=by
 unfold wq at h;split at h
 ·exact h.elim
 ·rename_i o ho;exact⟨o,ho,h.1,h.2⟩
def fm (P:Program) (t:TypeId) (s:List Obj) (p:V) (f:Nat) (K:V->Prop):Prop :=
 match aO P t f with
 |none=>False
 |some d=>match p with
  |.d (.el cs)=>K (.d (.el (cs.drop d)))
  |.rf id g k off=>wq s id g λ_=>K (.rf id g k (off+d))
  |.pp id g k off b a=>wq s id g λ_=>K (.pp id g k (off+d) b (a+d))
  |.d (.sc (.pointer (some ⟨b,a,none⟩)))=>K (.d (.sc (.pointer (some ⟨b,a+d,none⟩))))
  |_=>False
theorem Ow{g k:Nat} (hp:aD σ s w (.rf id g k off) u) {o:Obj} (ho:s[id]?=some o) (hg:o.g=g) :
  ∃b base,σ id=some (b,base)/\IA w b/\u=.pointer (some ⟨b,base+k*o.sz+off,none⟩):=by
 cases hp with
 |rf o' jb D4 hu hk =>
  rw[ho]at jb;cases jb;exact hk hg
theorem di.drop{a:Addr} (h:di O w (.el cs) (.pointer (some a))) (d:Nat):di O w (.el (cs.drop d)) (.pointer (some (a.add d))):=by
 cases h with
 |el _ _ f h1 h2 h3 =>
  rw[gW h1];refine .el _ _ (λj=>f (d+j)) rfl (λj x hx=>?_) (λj x hx=>?_)
  ·rw[List.getElem?_drop]at hx;have:=h2 (d+j) x hx;simpa [alL]using this
  ·rw[List.getElem?_drop]at hx;exact h3 (d+j) x hx
theorem CK{p:V}{f:Nat}{K:V->Prop} (hp:aD σ s w p u) (h:fm P t s p f K) :
  ∃v c,(Instr.fieldAt t u f).run P w=.ok c w/\aD σ s w v c/\K v:=by
 unfold fm at h;split at h
 ·exact h.elim
 ·rename_i d hd;obtain⟨fields,fd,h1,h2,h3,h4⟩:=Sf hd;have dU:∀a:Addr,(Instr.fieldAt t (.pointer (some a)) f).run P w=.ok (.pointer (some (a.add d))) w:=λa=>by simp [Instr.fieldAt,run_underlying h1,h2,Instr.sureAddr,h4]
  cases hp with
  |d hx =>
   cases hx with
   |el cs a f' k1 k2 k3=>exact⟨_,_,dU a,.d (di.drop (.el cs a f' k1 k2 k3) d),h⟩
   |sc v hv =>
    split at h
    case h_4 =>
     rename_i b a he;simp only[V.d.injEq,D.sc.injEq]at he;subst he;refine⟨_,_,dU _,?_,h⟩;rw[gW rfl];exact .d (.sc _ rfl)
    all_goals first|exact h.elim|(rename_i he;cases he)
   |_=>exact h.elim
  |rf o ho hg hu hk =>
   obtain⟨o',e1,e2,e3⟩:=eT h;rw[ho]at e1;cases e1;obtain⟨b,base,k1,kC,rfl⟩:=hk e2;refine⟨_,_,dU _,.rf o ho hg rfl (λ_=>⟨b,base,k1,kC,?_⟩),e3⟩;rw[gW rfl];simp [alL]
  |pp o ho hg hk =>
   obtain⟨o',e1,e2,e3⟩:=eT h;rw[ho]at e1;cases e1;refine⟨_,_,dU _,?_,e3⟩;rw[gW rfl];exact .pp o ho hg λhe=>let ⟨base,h1,h2,h3⟩:=hk he;⟨base,h1,h2,by rw[h3];simp [alL]⟩
  |_=>exact h.elim
def EN (P:Program) (t:TypeId):Option Nat :=
 match P.underlying t with
 |some (.slice e)=>(P.info? e).map (·.size)
 |_=>none
def Yv (P:Program) (t:TypeId):Option (Nat×Nat) :=
 match P.underlying t with
 |some (.array n e)=>(P.info? e).map λi=>(n,i.size)
 |_=>none
theorem L9{t z} (h:EN P t=some z):∃e i,P.underlying t=some (.slice e)/\P.info? e=some i/\i.size=z:=by
 unfold EN at h;split at h
 ·rename_i e hu;obtain⟨i,h1,h2⟩:=Option.map_eq_some_iff.1 h;exact⟨e,i,hu,h1,h2⟩
 ·cases h
theorem ES{t n z} (h:Yv P t=some (n,z)):∃e i,P.underlying t=some (.array n e)/\P.info? e=some i/\i.size=z:=by
 unfold Yv at h;split at h
 ·rename_i m e hu;obtain⟨i,h1,h2⟩:=Option.map_eq_some_iff.1 h;simp only[alG]at h2;obtain⟨rfl,h2⟩:=h2;exact⟨e,i,hu,h1,h2⟩
 ·cases h
def YL (aA:List (List D)) (i z:Nat) (K:V->Prop):Prop :=
 match aA[i]? with
 |none=>False
 |some cs=>cs.length=z/\K (.d (.el cs))
def dZ (P:Program) (t:TypeId) (s:List Obj) (x i:V) (K:V->Prop):Prop :=
 match i with
 |.d (.sc (.int _ n))=>match EN P t with
  |some z=>match x with
   |.d (.sl aA)=>0<=n/\n<aA.length/\YL aA n.toNat z K
   |.fu aA=>0<=n/\n<aA.length/\YL aA n.toNat z K
   |.so id g lo m=>wq s id g λo=>0<=n/\n<m/\o.sz=z/\K (.rf id g (lo+n.toNat) 0)
   |_=>False
  |none=>match Yv P t with
   |some (len,z)=>match x with
    |.d (.el cs)=>0<=n/\n<len/\K (.d (.el (cs.drop (n.toNat*z))))
    |.rf id g k off=>wq s id g λ_=>0<=n/\n<len/\K (.rf id g k (off+n.toNat*z))
    |_=>False
   |none=>False
 |_=>False
theorem di.elem{a:Option Addr}{n:Nat} (h:di O w (.sl aA) (.slice a n cap)) {i:Nat} (n9:aA[i]?=some cs) {z:Nat} (hz:cs.length=z) :
  ∃ad,a=some ad/\n=aA.length/\di O w (.el cs) (.pointer (some (ad.add (i*z)))):=by
 have aE:=(List.getElem?_eq_some_iff.1 n9).1;cases h with
 |nil=>simp at aE
 |sl _ ad _ sz f h1 h2 h3 h4 h5 =>
  have eX:aA≠[]:=by intro e;rw[e]at aE;simp at aE
  have gr:sz=z:=by rw[<- hz];exact(h3 cs (List.mem_of_getElem? n9)).symm
  subst gr;refine⟨ad,rfl,rfl,?_⟩;rw[gW (h2 eX)];exact .el _ _ (f i) rfl (λj x hx=>h4 i j x (by rw[n9];exact hx)) (λj x hx=>h5 i j x (by rw[n9];exact hx))
theorem Cs{i:V}{K:V->Prop} (hx:aD σ s w x u) (hi:aD σ s w i ui) (h:dZ P t s x i K) :
  ∃v c,(Instr.indexAt t u ui).run P w=.ok c w/\aD σ s w v c/\K v:=by
 unfold dZ at h;split at h
 case h_2=>exact h.elim
 rename_i k n;cases hi with|d hi=>?_
 cases hi with|sc _ _=>?_
 split at h
 ·rename_i z hz;obtain⟨e,ti,h1,h2,h3⟩:=L9 hz;have dU:∀(ad:Addr) (len cap:Nat),0<=n->n<len->(Instr.indexAt t (.slice (some ad) len cap) (.int k n)).run P w=.ok (.pointer (some (ad.add (n.toNat*z)))) w:=by intro ad len cap g1 g2;simp [Instr.indexAt,asIntOf,run_underlying h1,g1,g2,sizeOf,typeInfo,h2,h3]
  have Hr:∀(aA:List (List D)) (a:Option Addr) (m cap:Nat),di (Own σ s) w (.sl aA) (.slice a m cap)->0<=n/\n<aA.length/\YL aA n.toNat z K ->
    ∃v c,(Instr.indexAt t (.slice a m cap) (.int k n)).run P w=.ok c w/\aD σ s w v c/\K v:=by
   intro aA a m cap hr ⟨g1,g2,g3⟩;unfold YL at g3;split at g3
   ·exact g3.elim
   ·rename_i cs n9;obtain⟨ad,rfl,rfl,uj⟩:=hr.elem n9 g3.1;exact⟨_,_,dU ad _ cap g1 g2,.d uj,g3.2⟩
  cases hx with
  |d hx =>
   cases hx with
   |nil=>exact Hr _ _ _ _ .nil h
   |sl aA a cap sz f k1 k2 k3 k4 k5=>exact Hr _ _ _ _ (.sl aA a cap sz f k1 k2 k3 k4 k5) h
   |_=>exact h.elim
  |fu hx=>exact Hr _ _ _ _ hx h
  |so o ho hg hu hk =>
   obtain⟨o',e1,e2,e3,e4,e5,e6⟩:=eT h;rw[ho]at e1;cases e1;rcases hk e2 with ⟨_,⟨a,rfl⟩,_,rfl⟩|⟨b,base,cap,E,arr,g1,g2,rfl,g4,g5⟩
   ·omega
   ·refine⟨_,_,dU _ _ _ e3 e4,.rf o ho hg rfl (λ_=>⟨b,base,g1,⟨arr,E,g2⟩,?_⟩),e6⟩;rw[gW rfl,e5,alS];simp [alL]
  |_=>exact h.elim
 ·split at h
  ·rename_i yp len z hz;obtain⟨e,ti,h1,h2,h3⟩:=ES hz;have dU:∀(ad:Addr),0<=n->n<len->(Instr.indexAt t (.pointer (some ad)) (.int k n)).run P w=.ok (.pointer (some (ad.add (n.toNat*z)))) w:=by intro ad g1 g2;simp [Instr.indexAt,asIntOf,run_underlying h1,Instr.sureAddr,g1,g2,sizeOf,typeInfo,h2,h3]
   cases hx with
   |d hx =>
    cases hx with
    |el cs a f k1 k2 k3=>exact⟨_,_,dU a h.1 h.2.1,.d (di.drop (.el cs a f k1 k2 k3) _),h.2.2⟩
    |_=>exact h.elim
   |rf o ho hg hu hk =>
    obtain⟨o',e1,e2,e3,e4,e5⟩:=eT h;rw[ho]at e1;cases e1;obtain⟨b,base,k1,kC,rfl⟩:=hk e2;refine⟨_,_,dU _ e3 e4,.rf o ho hg rfl (λ_=>⟨b,base,k1,kC,?_⟩),e5⟩;rw[gW rfl];simp [alL]
   |_=>exact h.elim
  ·exact h.elim
def uA (P:Program) (t:TypeId) (cs:List V) (off:Nat) (K:V->Prop):Prop :=
 match bW P t with
 |none=>False
 |some i=>match i.agg with
  |true=>off+i.sz<=cs.length/\K (.ag ((cs.drop off).take i.sz))
  |false=>match cs[off]? with
   |none=>False
   |some v=>K v
theorem DS{cs:List V}{K:V->Prop} (hx:aD σ s w (.ag cs) (.agg arr)) (h:uA P t cs off K) :
  ∃v c,(part t arr off).run P w=.ok c w/\aD σ s w v c/\K v:=by
 unfold uA at h;cases hx with|ag h1 h2 h3=>?_
 split at h
 ·exact h.elim
 ·rename_i i hi;obtain⟨ti,d,z,k1,k2,k3,k4,k5,k6,k7,k8,k9⟩:=iI hi;have gr:∀w,(sizeOf t).run P w=.ok i.sz w:=λw=>by simp [sizeOf,typeInfo,k1,k4]
  split at h
  ·rename_i AJ;rw[AJ]at k9;refine⟨_,.agg (arr.extract off (off+i.sz)),by simp [part,k9,gr],?_,h.2⟩;have e:∀(j:Nat) (x:V),((cs.drop off).take i.sz)[j]?=some x->cs[off+j]?=some x/\(arr.extract off (off+i.sz)).getD j undef=arr.getD (off+j) undef:=by
    intro j x hx;rw[List.getElem?_take]at hx;split at hx
    ·rename_i hj;rw[List.getElem?_drop]at hx;refine⟨hx,?_⟩;have e2:(arr.extract off (off+i.sz))[j]?=arr[off+j]?:=by rw[Array.getElem?_extract,be (by rw[h1];omega)]
     rw[Array.getD_eq_getD_getElem?,Array.getD_eq_getD_getElem?,e2]
    ·cases hx
   refine .ag (by simp [h1];omega) (λj x hx=>?_) (λj x hx=>?_)
   ·rw[(e j x hx).2];exact h2 _ _ (e j x hx).1
   ·rw[(e j x hx).2];exact h3 _ _ (e j x hx).1
  ·rename_i AJ;rw[AJ]at k9;split at h
   ·exact h.elim
   ·rename_i v hv;have aE:=(List.getElem?_eq_some_iff.1 hv).1;obtain⟨c,hc⟩:∃c,arr[off]?=some c:=⟨arr[off]' ae,by rw[Array.getElem?_eq_getElem]⟩
    have hd:arr.getD off undef=c:=by rw[Array.getD_eq_getD_getElem?,hc];rfl
    exact⟨v,c,by simp [part,k9,hc],by rw[<- hd];exact h3 _ _ hv,h⟩
def nJ (P:Program) (t:TypeId) (x:V) (f:Nat) (K:V->Prop):Prop :=
 match x with
 |.ag cs=>match P.underlying t with
  |some (.struct fields)=>match fields[f]? with
   |some fd=>uA P fd.type cs fd.offset K
   |none=>False
  |_=>False
 |_=>False
theorem K0{f:Nat}{K:V->Prop} (hx:aD σ s w x u) (h:nJ P t x f K) :
  ∃v c,(Instr.field t u f).run P w=.ok c w/\aD σ s w v c/\K v:=by
 unfold nJ at h;split at h
 case h_2=>exact h.elim
 split at h
 case h_2=>exact h.elim
 split at h
 case h_2=>exact h.elim
 rename_i hu _ fd hfd;cases hx with|ag h1 h2 h3=>?_
 obtain⟨v,c,r1,r2,r3⟩:=DS (.ag h1 h2 h3) h;exact⟨v,c,by simp [Instr.field,run_underlying hu,hfd,asAgg,r1],r2,r3⟩
def kP (P:Program) (t:TypeId) (x i:V) (K:V->Prop):Prop :=
 match i with
 |.d (.sc (.int _ n))=>match x with
  |.ag cs=>match P.underlying t with
   |some (.array len e)=>match (P.info? e).map (·.size) with
    |some z=>0<=n/\n<len/\uA P e cs (n.toNat*z) K
    |none=>False
   |_=>False
  |_=>False
 |_=>False
theorem KD{i:V}{K:V->Prop} (hx:aD σ s w x u) (hi:aD σ s w i ui) (h:kP P t x i K) :
  ∃v c,(Instr.index t u ui).run P w=.ok c w/\aD σ s w v c/\K v:=by
 unfold kP at h;split at h
 case h_2=>exact h.elim
 rename_i k n;cases hi with|d hi=>?_
 cases hi with|sc _ _=>?_
 split at h
 case h_2=>exact h.elim
 split at h
 case h_2=>exact h.elim
 rename_i hu;split at h
 case h_2=>exact h.elim
 rename_i z hz;obtain⟨ti,h1,h2⟩:=Option.map_eq_some_iff.1 hz;cases hx with|ag k1 k2 k3=>?_
 obtain⟨v,c,r1,r2,r3⟩:=DS (.ag k1 k2 k3) h.2.2;refine⟨v,c,?_,r2,r3⟩;simp [Instr.index,asIntOf,run_underlying hu,h.1,h.2.1,sizeOf,typeInfo,h1,h2,r1]
def yU (σ:Gh) (s:List Obj) (w:World) (cs:List V) (arr:Array Value):Prop :=
 arr.size=cs.length/\∀(i:Nat) (x:V),cs[i]?=some x->∃c,arr[i]?=some c/\c.oneCell'=true/\aD σ s w x c
theorem yU.ag {σ s w cs arr} (h:yU σ s w cs arr):aD σ s w (.ag cs) (.agg arr):=by
 have e:∀(i:Nat) (x:V),cs[i]?=some x->(arr.getD i undef).oneCell'=true/\aD σ s w x (arr.getD i undef):=by intro i x hx;obtain⟨c,h1,h2,h3⟩:=h.2 i x hx;rw[Array.getD_eq_getD_getElem?,h1];exact⟨h2,h3⟩
 exact .ag h.1 (λi x hx=>(e i x hx).1) (λi x hx=>(e i x hx).2)
theorem AM (ht:bW P t=some i) (σ:Gh) (s:List Obj) (w:World):∃z,(∀w,(zeroValue t).run P w=.ok z w)/\yU σ s w (i.zero.map cv) z.cells/\z.cells.size=i.sz/\z.cells.toList=i.zero:=by obtain⟨ti,d,z,k1,k2,k3,k4,k5,k6,k7,k8,k9⟩:=iI ht;refine⟨z,λw=>by simp [zeroValue,typeInfo,k1,k3],⟨by rw[<- amu,k6];simp,λj x hx=>?_⟩,by rw[<- amu,k6,k7],k6⟩;rw[List.getElem?_map]at hx;obtain⟨v,hv,rfl⟩:=Option.map_eq_some_iff.1 hx;exact⟨v,by rw[<- Array.getElem?_toList,k6];exact hv,k8 v (List.mem_of_getElem? hv),Jh v⟩
theorem AD (off:Nat):∀(l:List Value) (k:Nat) (cells:Array Value),off+k+l.length<=cells.size ->
  ((l.zipIdx k).foldl (λcs (x:Value×Nat)=>cs.setIfInBounds (off+x.2) x.1) cells).size=cells.size /\
  ∀p,((l.zipIdx k).foldl (λcs (x:Value×Nat)=>cs.setIfInBounds (off+x.2) x.1) cells)[p]?=if off+k<=p/\p<off+k+l.length then l[p-(off+k)]? else cells[p]?
 |[],k,cells,_=>by simp;intro p h1 h2;omega
 |v::l,k,cells,h=>by
  simp only[alg]at h;simp only[List.zipIdx_cons,aml];obtain⟨h1,h2⟩:=AD off l (k+1) (cells.setIfInBounds (off+k) v) cV;refine⟨by rw[h1];simp,λp=>?_⟩;rw[h2 p];by_cases hp:p=off+k
  ·subst hp;rw[bm,be aq,Array.getElem?_setIfInBounds_self_of_lt ae];simp
  ·rw[Array.getElem?_setIfInBounds_ne ae];by_cases hq:off+(k+1)<=p/\p<off+(k+1)+l.length
   ·rw[be hq,be (by simp only[alg];omega)];rw[show p-(off+k)=(p-(off+(k+1)))+1 by omega];simp
   ·rw[ap hq,ap (by simp only[alg];omega)]
def xB (place:Nat->Option (Nat×Nat)) (cs:List V):List (Nat×V)->Option (List V)
 |[]=>some cs
 |(i,v)::rest=>match place i with
  |none=>none
  |some (off,size)=>match eI v with
   |none=>none
   |some ns=>if ns.length=size/\off+ns.length<=cs.length then xB place (iE cs off ns) rest else none
theorem xX {σ:Gh}{s:List Obj}{w:World}{place:Nat->Option (Nat×Nat)}:∀(parts:List (Nat×V)) (ps:List (Nat×Value)) (cs:List V) (arr:Array Value) (cs':List V),yU σ s w cs arr ->
  ps.length=parts.length->(∀(j:Nat) i x,parts[j]?=some (i,x)->∃u,ps[j]?=some (i,u)/\aD σ s w x u)->xB place cs parts=some cs' ->
  ∃cN,Instr.fill place arr ps=some cN/\yU σ s w cs' cN
 |[],[],cs,arr,cs',hr,_,_,h=>by simp only[xB,alb]at h;subst h;exact⟨arr,rfl,hr⟩
 |[],p::ps,_,_,_,_,hl,_,_=>by simp at hl
 |_::_,[],_,_,_,_,hl,_,_=>by simp at hl
 |(i,v)::parts,(i',u)::ps,cs,arr,cs',hr,hl,hp,h=>by
  obtain⟨u',hu,wK⟩:=hp 0 i v rfl;simp only[List.getElem?_cons_zero,alb,alG]at hu;obtain⟨rfl,rfl⟩:=hu;simp only[xB]at h;split at h
  ·cases h
  ·rename_i off size r9;split at h
   ·cases h
   ·rename_i ns yS;split at h
    ·rename_i hc;obtain⟨h1,h2⟩:=nO wK yS;have hrep:=AD off u.cells.toList 0 arr (by simp;rw[hr.1,h1];exact hc.2);have e:u.cells.zipIdx.foldl (λcs (x:Value×Nat)=>cs.setIfInBounds (off+x.2) x.1) arr=(u.cells.toList.zipIdx 0).foldl (λcs (x:Value×Nat)=>cs.setIfInBounds (off+x.2) x.1) arr:=by rw[<- Array.foldl_toList];simp
     have Xr:yU σ s w (iE cs off ns) ((u.cells.toList.zipIdx 0).foldl (λcs (x:Value×Nat)=>cs.setIfInBounds (off+x.2) x.1) arr):=by
      refine⟨by rw[hrep.1,hr.1,tT _ _ _ hc.2],λj x hx=>?_⟩;rw[qE _ _ _ hc.2]at hx;rw[hrep.2];split at hx
      ·rename_i hj;rw[be cV];obtain⟨c,k1,k2,k3⟩:=h2 _ x hx;exact⟨c,by rw[Array.getElem?_toList];simpa using k1,k2,k3⟩
      ·rename_i hj;rw[ap cV];exact hr.2 j x hx
     obtain⟨cN,k1,k2⟩:=xX parts ps _ _ cs' Xr (by simpa using hl) (λj i x hx=>hp (j+1) i x (by simpa using hx)) h;refine⟨cN,?_,k2⟩;simp only[Instr.fill,r9];rw[ap (by simp [h1,hc.1,hr.1];omega)];rw[<- e]at k1;exact k1
    ·cases h
def bc (P:Program) (t:TypeId):Option (List (Nat×Nat)) :=
 match P.underlying t with
 |some (.struct fields)=>fields.toList.mapM λf=>(P.info? f.type).map λi=>(f.offset,i.size)
 |_=>none
def qK (P:Program) (t:TypeId) (parts:List (Nat×V)) (K:V->Prop):Prop :=
 match bW P t with
 |none=>False
 |some i=>match bc P t with
  |some pl=>match xB (pl[·]?) (i.zero.map cv) parts with
   |some cs=>K (.ag cs)
   |none=>False
  |none=>match Yv P t with
   |some (_,z)=>match xB (λj=>some (j*z,z)) (i.zero.map cv) parts with
    |some cs=>K (.ag cs)
    |none=>False
   |none=>False
theorem xn {P:Program}{α β:Type} (f:α->Sem β) (g:α->Option β) (hfg:∀a b,g a=some b->∀w,(f a).run P w=.ok b w) (w:World):∀(l:List α) (r:List β),l.mapM g=some r->(l.mapM f).run P w=.ok r w
 |[],r,h=>by simp at h;subst h;simp [List.mapM_nil]
 |a::l,r,h=>by
  rw[ami]at h;cases ha:g a with
  |none=>simp [ha]at h
  |some b =>
   cases hl:l.mapM g with
   |none=>simp [ha,hl]at h
   |some r' =>
    simp [ha,hl]at h;subst h;rw[ami];simp [hfg a b ha w,xn f g hfg w l r' hl]
theorem K3{K:V->Prop}
  (hl:ps.length=parts.length) (hp:∀(j:Nat) i x,parts[j]?=some (i,x)->∃u,ps[j]?=some (i,u)/\aD σ s w x u) (h:qK P t parts K) :
  ∃v c,(Instr.build t ps.toArray).run P w=.ok c w/\aD σ s w v c/\K v:=by
 unfold qK at h;split at h
 ·exact h.elim
 ·rename_i i hi;obtain⟨z,hz,hzr,_,_⟩:=AM hi σ s w;split at h
  ·rename_i pl r9;unfold bc at r9;split at r9
   ·rename_i fields hu;split at h
    ·rename_i cs n9;obtain⟨cN,k1,k2⟩:=xX parts ps _ _ cs hzr hl hp n9;refine⟨_,_,?_,k2.ag,h⟩;have hm:(fields.mapM (λf=>do pure (f.offset,<- sizeOf f.type):Field->Sem (Nat×Nat))).run P w=.ok pl.toArray w:=by
      have:=xn (P:=P) (λf=>do pure (f.offset,<- sizeOf f.type):Field->Sem (Nat×Nat)) (λf=>(P.info? f.type).map λi=>(f.offset,i.size))
       (λf b hb w=>by
        obtain⟨ti,e1,rfl⟩:=Option.map_eq_some_iff.1 hb;simp [sizeOf,typeInfo,e1]) w fields.toList pl r9
      rw[<- Array.toArray_toList (xs:=fields)];rw[List.mapM_toArray,Sem.run_map,this];rfl
     have af0:(λx:Nat=>pl.toArray[x]?)=(λx:Nat=>pl[x]?):=by funext x;simp
     simp only[Instr.build,Sem.run_bind,hz,Result.andThen_ok,run_underlying hu,hm,af0,k1,Sem.run_pure]
    ·exact h.elim
   ·cases r9
  ·split at h
   ·rename_i len zz hzz;obtain⟨e,ti,h1,h2,h3⟩:=ES hzz;split at h
    ·rename_i cs n9;obtain⟨cN,k1,k2⟩:=xX parts ps _ _ cs hzr hl hp n9;refine⟨_,_,?_,k2.ag,h⟩;have gr:(sizeOf e).run P w=.ok zz w:=by simp [sizeOf,typeInfo,h2,h3]
     simp only[Instr.build,Sem.run_bind,hz,Result.andThen_ok,run_underlying h1,gr,k1,Sem.run_pure]
    ·exact h.elim
   ·exact h.elim
theorem tg (hI:Inv σ s w){aA:List (List V)} (E:TypeId) (hl:∀e∈aA,e.length=sz) (hs:aA.length*sz<=arr.size)
  (hc:∀(i j:Nat) (x:V),(aA[i]?.bind (·[j]?))=some x->∃u,arr[i*sz+j]?=some u/\u.oneCell'=true/\aD σ s w x u) :
  aK σ s w (pM σ s.length (some (w.heap.size,0))) (s++[⟨0,true,sz,aA⟩]) (w.alloc (.cells arr E)) /\
  Inv (pM σ s.length (some (w.heap.size,0))) (s++[⟨0,true,sz,aA⟩]) (w.alloc (.cells arr E)):=by
 refine pP (p:=some (w.heap.size,0)) hI rfl rfl rfl aq (λb hb=>amd w _ b hb) (λb base h=>by cases h;exact ale _)
  (λhE=>.inr ⟨w.heap.size,0,arr,E,rfl,heap_alloc_new w _,hl,by simpa using hs,λi j x hx=>?_⟩)
 exact ZcY
theorem SQ{o:Obj} (hC:IA w b):aD (pM σ s.length (some (b,base))) (s++[o]) w (.rf s.length o.g 0 0) (.pointer (some ⟨b,base,none⟩)) :=
 .rf o aq (ale _) rfl (λ_=>⟨b,base,cy _ _ _,hC,aq⟩)
def qJ (P:Program) (t:TypeId) (s:List Obj) (K:V->List Obj->Prop):Prop :=
 match bW P t with
 |none=>False
 |some i=>K (.rf s.length 0 0 0) (s++[⟨0,true,i.sz,[i.zero.map cv]⟩])
theorem wT {cs:List V} (h:yU σ s w cs arr) (sz:Nat) :
  ∀(i j:Nat) (x:V),(([cs]:List (List V))[i]?.bind (·[j]?))=some x->∃u,arr[i*sz+j]?=some u/\u.oneCell'=true/\aD σ s w x u:=by
 intro i j x hx;cases i with
 |zero=>simp at hx;simpa using h.2 j x hx
 |succ n=>simp at hx
theorem Mo (hI:Inv σ s w) (h:qJ P t s K) :
  ∃v c σ' s' w',(Instr.alloc t true (.tuple #[])).run P w=.ok c w'/\aK σ s w σ' s' w'/\Inv σ' s' w'/\aD σ' s' w' v c/\K v s':=by
 unfold qJ at h;split at h
 ·exact h.elim
 ·rename_i i hi;obtain⟨z,hz,hr,hs,hl⟩:=AM hi σ s w;have:=tg (aA:=[i.zero.map cv]) (sz:=i.sz) (arr:=z.cells) hI t (by simp;rw[<- hl];simpa using hs) (by simp [hs]) (wT hr i.sz);refine⟨_,.pointer (some ⟨w.heap.size,0,none⟩),_,_,w.alloc (.cells z.cells t),?_,this.1,this.2,SQ (o:=⟨0,true,i.sz,[i.zero.map cv]⟩) ⟨_,_,heap_alloc_new w _⟩,h⟩;simp [Instr.alloc,hz,newVar,newRow]
def B9 (s:List Obj) (x:V) (K:V->List Obj->Prop):Prop :=
 match eI x with
 |none=>False
 |some cs=>K (.rf s.length 0 0 0) (s++[⟨0,true,cs.length,[cs]⟩])
theorem Rq (hI:Inv σ s w) (hx:aD σ s w x u) (h:B9 s x K) :
  ∃v c σ' s' w',(Instr.box t u).run P w=.ok c w'/\aK σ s w σ' s' w'/\Inv σ' s' w'/\aD σ' s' w' v c/\K v s':=by
 unfold B9 at h;split at h
 ·exact h.elim
 ·rename_i cs n9;have hr:yU σ s w cs u.cells:=nO hx n9;have:=tg (aA:=[cs]) (sz:=cs.length) (arr:=u.cells) hI t aq (by simp [hr.1]) (wT hr _);refine⟨_,.pointer (some ⟨w.heap.size,0,none⟩),_,_,w.alloc (.cells u.cells t),?_,this.1,this.2,SQ (o:=⟨0,true,cs.length,[cs]⟩) ⟨_,_,heap_alloc_new w _⟩,h⟩;simp [Instr.box,newVar,newRow]
def O6 (σ:Gh) (s:List Obj) (w:World) (sz:Nat) (aA:List (List V)) (arr:Array Value):Prop :=
 (∀e∈aA,e.length=sz)/\arr.size=aA.length*sz /\
 ∀(i j:Nat) (x:V),(aA[i]?.bind (·[j]?))=some x->∃c,arr[i*sz+j]?=some c/\c.oneCell'=true/\aD σ s w x c
def uT (sz:Nat) (aA:List (List V)):List (Nat×V)->Option (List (List V))
 |[]=>some aA
 |(i,v)::rest=>match eI v with
  |none=>none
  |some ns=>if i<aA.length/\ns.length=sz then uT sz (aA.set i ns) rest else none
theorem Cl {σ:Gh}{s:List Obj}{w:World}{sz:Nat}:∀(parts:List (Nat×V)) (ps:List (Nat×Value)) (aA:List (List V)) (arr:Array Value) (els':List (List V)),O6 σ s w sz aA arr ->
  ps.length=parts.length->(∀(j:Nat) i x,parts[j]?=some (i,x)->∃u,ps[j]?=some (i,u)/\aD σ s w x u)->uT sz aA parts=some els' ->
  ∃cN,Instr.fill (λi=>some (i*sz,sz)) arr ps=some cN/\O6 σ s w sz els' cN/\els'.length=aA.length
 |[],[],aA,arr,els',hr,_,_,h=>by simp only[uT,alb]at h;subst h;exact⟨arr,rfl,hr,rfl⟩
 |[],p::ps,_,_,_,_,hl,_,_=>by simp at hl
 |_::_,[],_,_,_,_,hl,_,_=>by simp at hl
 |(i,v)::parts,(i',u)::ps,aA,arr,els',hr,hl,hp,h=>by
  obtain⟨u',hu,wK⟩:=hp 0 i v rfl;simp only[List.getElem?_cons_zero,alb,alG]at hu;obtain⟨rfl,rfl⟩:=hu;simp only[uT]at h;split at h
  ·cases h
  ·rename_i ns yS;split at h
   ·rename_i hc;obtain⟨CA,ud⟩:=hc;obtain⟨h1,h2⟩:=nO wK yS;obtain⟨r1,r2,r3⟩:=hr;have hb:=alF sz (show i'+1<=aA.length from CA);rw[alS,Nat.one_mul]at hb;have hrep:=AD (i'*sz) u.cells.toList 0 arr (by simp;rw[h1];omega);have e:u.cells.zipIdx.foldl (λcs (x:Value×Nat)=>cs.setIfInBounds (i'*sz+x.2) x.1) arr=(u.cells.toList.zipIdx 0).foldl (λcs (x:Value×Nat)=>cs.setIfInBounds (i'*sz+x.2) x.1) arr:=by rw[<- Array.foldl_toList];simp
    have Xr:O6 σ s w sz (aA.set i' ns) ((u.cells.toList.zipIdx 0).foldl (λcs (x:Value×Nat)=>cs.setIfInBounds (i'*sz+x.2) x.1) arr):=by
     refine⟨λe he=>?_,by rw[hrep.1,r2,alu],λk j x hx=>?_⟩
     ·rcases amb he with h'|h'
      ·exact r1 e h'
      ·rw[h'];exact ud
     ·rw[hrep.2];have jS:u.cells.toList.length=sz:=by simp [h1,ud]
      by_cases hk:k=i'
      ·subst hk;rw[List.getElem?_set_self CA]at hx;simp only[alO]at hx;have hj:=(List.getElem?_eq_some_iff.1 hx).1;rw[be (by rw[jS];omega)];obtain⟨c,k1,k2,k3⟩:=h2 _ x hx;refine⟨c,?_,k2,k3⟩;rw[Array.getElem?_toList,<- k1];congr 1;omega
      ·rw[List.getElem?_set_ne (Ne.symm hk)]at hx;have hj:j<sz:=by
        cases he:aA[k]? with
        |none=>rw[he]at hx;cases hx
        |some e =>
         rw[he]at hx;have:=(List.getElem?_eq_some_iff.1 hx).1;rw[r1 e (List.mem_of_getElem? he)]at this;exact this
       rw[ap ?_]
       ·exact r3 k j x hx
       ·rw[jS];rcases Nat.lt_or_gt_of_ne hk with aE|aE
        ·have:=alF sz (show k+1<=i' from aE);exact ZcF
        ·have:=alF sz (show i'+1<=k from aE);exact ZcF
    obtain⟨cN,k1,k2,k3⟩:=Cl parts ps _ _ els' Xr (by simpa using hl) (λj i x hx=>hp (j+1) i x (by simpa using hx)) h;refine⟨cN,?_,k2,by simpa using k3⟩;simp only[Instr.fill];rw[ap (by simp [h1,ud,r2];omega)];rw[<- e]at k1;exact k1
   ·cases h
def Ql:V->Option D
 |.d x=>some x
 |.fu aA=>some (.sl aA)
 |_=>none
theorem pC{y:D} (hr:aD σ s w x u) (h:Ql x=some y):di (Own σ s) w y u:=by
 cases hr <;> simp only[Ql,alb]at h <;> first|(cases h;done)|(subst h;assumption)
def rb (aA:List (List V)):Option (List (List D)):=aA.mapM λe=>e.mapM Ql
theorem kA {α β:Type}{f:α->Option β}:∀{l:List α}{r:List β},l.mapM f=some r->r.length=l.length/\∀(i:Nat) (y:β),r[i]?=some y->∃x,l[i]?=some x/\f x=some y
 |[],r,h=>by simp at h;subst h;simp
 |a::l,r,h=>by
  rw[ami]at h;cases ha:f a with
  |none=>simp [ha]at h
  |some b =>
   cases hl:l.mapM f with
   |none=>simp [ha,hl]at h
   |some r' =>
    simp [ha,hl]at h;subst h;obtain⟨h1,h2⟩:=kA hl;refine⟨by simp [h1],λi y hy=>?_⟩;cases i with
    |zero=>simp at hy;subst hy;exact⟨a,rfl,ha⟩
    |succ i=>simpa using h2 i y (by simpa using hy)
theorem Q0 {aA:List (List V)}{ds:List (List D)} (h:rb aA=some ds):ds.length=aA.length /\
  (∀(i:Nat) (e:List D),ds[i]?=some e->∃e',aA[i]?=some e'/\e.length=e'.length) /\
  ∀(i j:Nat) (y:D),(ds[i]?.bind (·[j]?))=some y->∃x,(aA[i]?.bind (·[j]?))=some x/\Ql x=some y:=by
 obtain⟨h1,h2⟩:=kA h;refine⟨h1,λi e he=>?_,λi j y hy=>?_⟩
 ·obtain⟨e',k1,k2⟩:=h2 i e he;exact⟨e',k1,(kA k2).1⟩
 ·cases he:ds[i]? with
  |none=>rw[he]at hy;cases hy
  |some e =>
   rw[he]at hy;obtain⟨e',k1,k2⟩:=h2 i e he;obtain⟨x,k3,k4⟩:=(kA k2).2 j y hy;exact⟨x,by rw[k1];exact k3,k4⟩
theorem di.Nr (qf:aA.length<=cap) (gr:∀e∈aA,e.length=sz) (hO:¬O b)
  (h:∀(i j:Nat) (x:D),(aA[i]?.bind (·[j]?))=some x->∃u,w.cell? ⟨b,base+i*sz+j,none⟩=some u/\di O w x u):di O w (.sl aA) (.slice (some ⟨b,base,none⟩) aA.length cap):=by
 refine .sl aA ⟨b,base,none⟩ cap sz (λi j=>(w.cell? ⟨b,base+i*sz+j,none⟩).getD undef) qf (λ_=>rfl) gr (λi j x hx=>?_) (λi j x hx=>?_)
 ·obtain⟨u,h1,h2⟩:=h i j x hx;simp only[h1,amk];exact⟨trivial,hO⟩
 ·obtain⟨u,h1,h2⟩:=h i j x hx;simpa only[h1,amk]using h2
theorem AU (hI:Inv σ s w) (h:Own σ s b):b<w.heap.size:=by
 rcases h with h|⟨id,o,base,h1,_,h3⟩
 ·exact hI.low b h
 ·exact hI.lt h1 h3
def jn (P:Program) (t:TypeId):Option (TypeId×S4) :=
 match P.underlying t with
 |some (.slice e)=>(bW P e).map λi=>(e,i)
 |_=>none
theorem ln{e:TypeId} (h:jn P t=some (e,i)):P.underlying t=some (.slice e)/\bW P e=some i:=by
 unfold jn at h;split at h
 ·rename_i e' hu;obtain⟨i',h1,h2⟩:=Option.map_eq_some_iff.1 h;simp only[alG]at h2;obtain⟨rfl,rfl⟩:=h2;exact⟨hu,h1⟩
 ·cases h
def fh (P:Program) (t:TypeId) (len:Nat) (parts:List (Nat×V)) (s:List Obj) (K:V->List Obj->Prop):Prop :=
 match jn P t with
 |none=>False
 |some (_,i)=>(len*i.sz<=16777216/\0<i.sz)/\match uT i.sz (List.replicate len (i.zero.map cv)) parts with
  |none=>False
  |some aA=>match rb aA with
   |some ds=>K (.fu ds) s
   |none=>K (.so s.length 0 0 len) (s++[⟨0,true,i.sz,aA⟩])
theorem Df (ht:bW P t=some i) (σ:Gh) (s:List Obj) (w:World) (n:Nat) (z:Value) (hz:z.cells.toList=i.zero) :
  O6 σ s w i.sz (List.replicate n (i.zero.map cv)) ((Array.range (n*i.sz)).map (z.cells[· % z.cells.size]!)):=by
 obtain⟨ti,d,z',k1,k2,k3,k4,k5,k6,k7,k8,k9⟩:=iI ht;have hzs:z.cells.size=i.sz:=by rw[<- amu,hz,k7]
 refine⟨λe he=>by rw[List.eq_of_mem_replicate he];simp [k7],aq,λa j x hx=>?_⟩;have ha:a<n:=by
  cases he:(List.replicate n (i.zero.map cv))[a]? with
  |none=>rw[he]at hx;cases hx
  |some e=>simpa using (List.getElem?_eq_some_iff.1 he).1
 simp only[List.getElem?_replicate,ha,if_true,alO,List.getElem?_map]at hx;obtain⟨v,hv,rfl⟩:=Option.map_eq_some_iff.1 hx;have hj:j<i.sz:=by rw[<- k7];exact(List.getElem?_eq_some_iff.1 hv).1
 have hb:=alF i.sz (show a+1<=n from ha);rw[alS,Nat.one_mul]at hb;refine⟨v,?_,k8 v (List.mem_of_getElem? hv),Jh v⟩;have agT:(a*i.sz+j) % z.cells.size=j:=by rw[hzs,Nat.mul_add_mod_self_right,Nat.mod_eq_of_lt hj]
 have ig:z.cells[j]! = v:=by rw[getElem!_def,<- Array.getElem?_toList,hz,hv]
 simp [show a*i.sz+j<n*i.sz by omega,agT,ig]
theorem A7{len:Nat} (hI:Inv σ s w)
  (hl:ps.length=parts.length) (hp:∀(j:Nat) i x,parts[j]?=some (i,x)->∃u,ps[j]?=some (i,u)/\aD σ s w x u) (h:fh P t len parts s K) :
  ∃v c σ' s' w',(Instr.buildSlice t len ps.toArray).run P w=.ok c w'/\aK σ s w σ' s' w'/\Inv σ' s' w'/\aD σ' s' w' v c/\K v s':=by
 unfold fh at h;split at h
 ·exact h.elim
 rename_i e i hti;obtain⟨hu,hi⟩:=ln hti;obtain⟨⟨hb,mb⟩,h⟩:=h;split at h
 ·exact h.elim
 rename_i aA iy;obtain⟨ti,d,z,k1,k2,k3,k4,k5,k6,k7,k8,k9⟩:=iI hi;have hz:∀w,(zeroValue e).run P w=.ok z w:=λw=>by simp [zeroValue,typeInfo,k1,k3]
 have gr:∀w,(sizeOf e).run P w=.ok i.sz w:=λw=>by simp [sizeOf,typeInfo,k1,k4]
 obtain⟨cN,f1,f2,f3⟩:=Cl parts ps _ _ aA (Df hi σ s w len z k6) hl hp iy;have hlen:aA.length=len:=by simpa using f3
 have dU:(Instr.buildSlice t len ps.toArray).run P w=.ok (.slice (some ⟨w.heap.size,0,none⟩) len len) (w.alloc (.cells cN e)):=by
  have St:¬(len*i.sz>2 ^ 24):=ae;by_cases h0:len=0
  ·subst h0;have lu:∀g:Nat->Value,(Array.range 0).map g=#[]:=λg=>by apply Array.ext' ;simp
   rw[Nat.zero_mul,lu]at f1;simp only[Instr.buildSlice,Sem.run_bind,run_underlying hu,gr,Result.andThen_ok,Nat.zero_mul,lu,f1];simp [newRow]
  ·have h0':¬(len*i.sz=0):=by have:=Nat.mul_pos (Nat.pos_of_ne_zero h0) mb;omega
   simp only[Instr.buildSlice,Sem.run_bind,run_underlying hu,gr,Result.andThen_ok,ap St,ap h0',hz,f1,Sem.run_pure];simp [newRow]
 obtain⟨r1,r2,r3⟩:=f2;split at h
 ·rename_i ds hds;obtain⟨d1,d2,d3⟩:=Q0 hds;obtain⟨hE,jR⟩:=Hp hI (.cells cN e);refine⟨_,_,σ,s,_,dU,hE,jR,?_,h⟩;have hd:di (Own σ s) (w.alloc (.cells cN e)) (.sl ds) (.slice (some ⟨w.heap.size,0,none⟩) ds.length ds.length):=by
   refine di.Nr (sz:=i.sz) (ale _) (λx hx=>?_) (λho=>by have:=AU hI ho;omega) (λa j y hy=>?_)
   ·obtain⟨a,ha⟩:=List.mem_iff_getElem?.1 hx;obtain⟨e',g1,g2⟩:=d2 a x ha;rw[g2];exact r1 e' (List.mem_of_getElem? g1)
   ·obtain⟨x,g1,g2⟩:=d3 a j y hy;obtain⟨c,c1,c2,c3⟩:=r3 a j x g1;exact⟨c,by simpa using c1,(pC c3 g2).bj hE⟩
  rw[show len=ds.length by omega];exact .fu hd
 ·have:=tg (aA:=aA) (sz:=i.sz) (arr:=cN) hI e r1 ae r3;refine⟨_,_,_,_,_,dU,this.1,this.2,?_,h⟩;refine .so ⟨0,true,i.sz,aA⟩ aq (ale _) ⟨_,_,rfl⟩ (λ_=>.inr ⟨w.heap.size,0,len,e,cN,cy _ _ _,heap_alloc_new w _,aq,ale _,by simp [r2,hlen]⟩)
def gR (P:Program) (t:TypeId) (l c:V) (s:List Obj) (K:V->List Obj->Prop):Prop :=
 match jn P t with
 |none=>False
 |some (_,i)=>match l,c with
  |.d (.sc (.int _ n)),.d (.sc (.int _ m))=>(0<=n/\n<=m/\i.EP*m<=140737488355328/\m<=9223372036854775807/\0<i.sz) /\
    K (.so s.length 0 0 n.toNat) (s++[⟨0,true,i.sz,List.replicate n.toNat (i.zero.map cv)⟩])
  |_,_=>False
theorem Cy{l c:V}{ul uc:Value} (hI:Inv σ s w) (hl:aD σ s w l ul) (hc:aD σ s w c uc)
  (h:gR P t l c s K):∃v r σ' s' w',(Instr.makeSlice t ul uc).run P w=.ok r w'/\aK σ s w σ' s' w'/\Inv σ' s' w'/\aD σ' s' w' v r/\K v s':=by
 unfold gR at h;split at h
 ·exact h.elim
 rename_i e i hti;obtain⟨hu,hi⟩:=ln hti;split at h
 case h_2=>exact h.elim
 rename_i kl n kc m;obtain⟨⟨h1,h2,h3,h4,h5⟩,h⟩:=h;cases hl with|d hl=>?_
 cases hl with|sc _ _=>?_
 cases hc with|d hc=>?_
 cases hc with|sc _ _=>?_
 obtain⟨ti,d,z,k1,k2,k3,k4,k5,k6,k7,k8,k9⟩:=iI hi;have hz:∀w,(zeroValue e).run P w=.ok z w:=λw=>by simp [zeroValue,typeInfo,k1,k3]
 have gr:∀w,(sizeOf e).run P w=.ok i.sz w:=λw=>by simp [sizeOf,typeInfo,k1,k4]
 obtain⟨N,rfl⟩:=amg h1;obtain⟨M,rfl⟩:=amg (show 0<=m by omega);have w1:IntKind.i64.wrap (N:Int)=N:=IntWalk.i64_in _ ae;have w2:IntKind.i64.wrap (M:Int)=M:=IntWalk.i64_in _ ae;have ajr:¬((i.EP:Int)*(M:Int)>2 ^ 48):=ae;obtain⟨r1,r2,r3⟩:=Df hi σ s w M z k6;have dU:(Instr.makeSlice t (.int kl N) (.int kc M)).run P w=.ok (.slice (some ⟨w.heap.size,0,none⟩) N M) (w.alloc (.cells ((Array.range (M*i.sz)).map (z.cells[· % z.cells.size]!)) e)):=by
  have lu:∀g:Nat->Value,(Array.range 0).map g=#[]:=λg=>by apply Array.ext' ;simp
  have c1:¬((M:Int)<0):=ae;have c2:¬((N:Int)<0):=ae;have c3:¬((N:Int)>M):=ae;by_cases h0:M*i.sz=0
  ·simp only[Instr.makeSlice,run_underlying hu,asInt,asIntOf,typeInfo,k1,k5,w1,w2,Sem.run_bind,Result.andThen_ok,run_program,Sem.run_pure,ak7,h0,lu];simp [c1,c2,c3,gr,newRow,h0,lu];intro hx;exfalso;omega
  ·simp only[Instr.makeSlice,run_underlying hu,asInt,asIntOf,typeInfo,k1,k5,w1,w2,Sem.run_bind,Result.andThen_ok,run_program,Sem.run_pure,ak7];simp [c1,c2,c3,gr,newRow,h0,hz];intro hx;exfalso;omega
 have:=tg (aA:=List.replicate N (i.zero.map cv)) (sz:=i.sz) (arr:=(Array.range (M*i.sz)).map (z.cells[· % z.cells.size]!)) hI e (λx hx=>by rw[List.eq_of_mem_replicate hx];simp [k7])
  (by simp;exact alF _ ae) (λa j x hx=>by
   refine r3 a j x ?_;rw[List.getElem?_replicate]at hx ⊢;split at hx
   ·rw[rY];exact hx
   ·cases hx)
 refine⟨_,_,_,_,_,dU,this.1,this.2,?_,h⟩;refine .so ⟨0,true,i.sz,List.replicate N (i.zero.map cv)⟩ aq (ale _) ⟨_,_,rfl⟩ (λ_=>.inr ⟨w.heap.size,0,M,e,(Array.range (M*i.sz)).map (z.cells[· % z.cells.size]!),cy _ _ _,heap_alloc_new w _,aq,ae,aq⟩)
end Go.VL
