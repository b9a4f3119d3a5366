/- A part of the proof (Vd Ve Vf). -/
import Derived.Test.YtfmdmlfhigocaaaON1
set_option linter.unusedSimpArgs false
set_option linter.unusedVariables false
set_option maxRecDepth 100000
set_option maxHeartbeats 80000000
namespace Go.VL
variable{P:Program}{id:Nat}{s:List Obj}{σ:Gh}{w:World}{u:Value}{off:Nat}{O:Nat->Prop}{cs:List D}{K:V->List Obj->Prop}{t:TypeId}{cap:Nat}{aw:List (List D)}{ui:Value}{x:V}{i:O9}{arr:Array Value}{ps:List (Nat×Value)}{parts:List (Nat×V)}{sz:Nat}{b:Nat}{base:Nat}
def bk (P:Program) (t:TypeId) (f:Nat):Option Nat :=
 match P.underlying t with
 |some (.struct fields)=>match fields[f]? with
  |some fd=>match P.info? fd.type with
   |some i=>if i.size=0 then none else some fd.offset
   |none=>none
  |none=>none
 |_=>none
theorem Oo{t f off} (h:bk P t f=some off):∃fields fd,P.underlying t=some (.struct fields)/\fields[f]?=some fd/\fd.offset=off /\
  ∀(a:Addr) (w:World),(fieldPlace a fd).run P w=.ok (a.add off) w:=by
 unfold bk at h;split at h
 ·rename_i fields hu;split at h
  ·rename_i fd hf;split at h
   ·rename_i i hi;split at h
    ·cases h
    ·rename_i cB;simp only[afY]at h;exact⟨fields,fd,hu,hf,h,λa w=>by simp [fieldPlace,sizeOf,typeInfo,hi,cB,h]⟩
   ·cases h
  ·cases h
 ·cases h
def uo (s:List Obj) (id g:Nat) (K:Obj->Prop):Prop :=
 match s[id]? with
 |none=>False
 |some o=>o.g=g/\K o
theorem dZ{g:Nat}{K:Obj->Prop} (h:uo s id g K):∃o,s[id]?=some o/\o.g=g/\K o:=by
 unfold uo at h;split at h
 ·exact h.elim
 ·rename_i o ho;exact⟨o,ho,h.1,h.2⟩
def eD (P:Program) (t:TypeId) (s:List Obj) (p:V) (f:Nat) (K:V->Prop):Prop :=
 match bk P t f with
 |none=>False
 |some d=>match p with
  |.d (.el cs)=>K (.d (.el (cs.drop d)))
  |.rf id g k off=>uo s id g λ_=>K (.rf id g k (off+d))
  |.pp id g k off b a=>uo s id g λ_=>K (.pp id g k (off+d) b (a+d))
  |.d (.sc (.pointer (some ⟨b,a,none⟩)))=>K (.d (.sc (.pointer (some ⟨b,a+d,none⟩))))
  |_=>False
theorem Lg{g k:Nat} (hp:aA σ s w (.rf id g k off) u) {o:Obj} (ho:s[id]?=some o) (hg:o.g=g) :
  ∃b base,σ id=some (b,base)/\Fs w b/\u=.pointer (some ⟨b,base+k*o.sz+off,none⟩):=by
 cases hp with
 |rf o' iY Dr hu hk =>
  rw[ho]at iY;cases iY;exact hk hg
theorem cJ.drop{a:Addr} (h:cJ O w (.el cs) (.pointer (some a))) (d:Nat):cJ O w (.el (cs.drop d)) (.pointer (some (a.add d))):=by
 cases h with
 |el _ _ f h1 h2 h3 =>
  rw[gk h1];refine .el _ _ (λj=>f (d+j)) rfl (λj x hx=>?_) (λj x hx=>?_)
  ·rw[agR]at hx;have:=h2 (d+j) x hx;simpa [agM]using this
  ·rw[agR]at hx;exact h3 (d+j) x hx
theorem Az{p:V}{f:Nat}{K:V->Prop} (hp:aA σ s w p u) (h:eD P t s p f K) :
  ∃v c,(Instr.fieldAt t u f).run P w=.ok c w/\aA σ s w v c/\K v:=by
 unfold eD at h;split at h
 ·exact h.elim
 ·rename_i d hd;obtain⟨fields,fd,h1,h2,h3,h4⟩:=Oo hd;have eu:∀a:Addr,(Instr.fieldAt t (.pointer (some a)) f).run P w=.ok (.pointer (some (a.add d))) w:=λa=>by simp [Instr.fieldAt,run_underlying h1,h2,Instr.sureAddr,h4]
  cases hp with
  |d hx =>
   cases hx with
   |el cs a f' k1 k2 k3=>exact⟨_,_,eu a,.d (cJ.drop (.el cs a f' k1 k2 k3) d),h⟩
   |sc v hv =>
    split at h
    case h_4 =>
     rename_i b a he;simp only[V.d.injEq,D.sc.injEq]at he;subst he;refine⟨_,_,eu _,?_,h⟩;rw[gk rfl];exact .d (.sc _ rfl)
    all_goals first|exact h.elim|(rename_i he;cases he)
   |_=>exact h.elim
  |rf o ho hg hu hk =>
   obtain⟨o',e1,e2,e3⟩:=dZ h;rw[ho]at e1;cases e1;obtain⟨b,base,k1,kC,rfl⟩:=hk e2;refine⟨_,_,eu _,.rf o ho hg rfl (λ_=>⟨b,base,k1,kC,?_⟩),e3⟩;rw[gk rfl];simp [agM]
  |pp o ho hg hk =>
   obtain⟨o',e1,e2,e3⟩:=dZ h;rw[ho]at e1;cases e1;refine⟨_,_,eu _,?_,e3⟩;rw[gk rfl];exact .pp o ho hg λhe=>let ⟨base,h1,h2,h3⟩:=hk he;⟨base,h1,h2,by rw[h3];simp [agM]⟩
  |_=>exact h.elim
def C9 (P:Program) (t:TypeId):Option Nat :=
 match P.underlying t with
 |some (.slice e)=>(P.info? e).map (·.size)
 |_=>none
def TZ (P:Program) (t:TypeId):Option (Nat×Nat) :=
 match P.underlying t with
 |some (.array n e)=>(P.info? e).map λi=>(n,i.size)
 |_=>none
theorem I2{t z} (h:C9 P t=some z):∃e i,P.underlying t=some (.slice e)/\P.info? e=some i/\i.size=z:=by
 unfold C9 at h;split at h
 ·rename_i e hu;obtain⟨i,h1,h2⟩:=Option.map_eq_some_iff.1 h;exact⟨e,i,hu,h1,h2⟩
 ·cases h
theorem Cu{t n z} (h:TZ P t=some (n,z)):∃e i,P.underlying t=some (.array n e)/\P.info? e=some i/\i.size=z:=by
 unfold TZ at h;split at h
 ·rename_i m e hu;obtain⟨i,h1,h2⟩:=Option.map_eq_some_iff.1 h;simp only[agx]at h2;obtain⟨rfl,h2⟩:=h2;exact⟨e,i,hu,h1,h2⟩
 ·cases h
def Ue (aw:List (List D)) (i z:Nat) (K:V->Prop):Prop :=
 match aw[i]? with
 |none=>False
 |some cs=>cs.length=z/\K (.d (.el cs))
def dy (P:Program) (t:TypeId) (s:List Obj) (x i:V) (K:V->Prop):Prop :=
 match i with
 |.d (.sc (.int _ n))=>match C9 P t with
  |some z=>match x with
   |.d (.sl aw)=>0<=n/\n<aw.length/\Ue aw n.toNat z K
   |.fu aw=>0<=n/\n<aw.length/\Ue aw n.toNat z K
   |.so id g lo m=>uo s id g λo=>0<=n/\n<m/\o.sz=z/\K (.rf id g (lo+n.toNat) 0)
   |_=>False
  |none=>match TZ P t with
   |some (len,z)=>match x with
    |.d (.el cs)=>0<=n/\n<len/\K (.d (.el (cs.drop (n.toNat*z))))
    |.rf id g k off=>uo s id g λ_=>0<=n/\n<len/\K (.rf id g k (off+n.toNat*z))
    |_=>False
   |none=>False
 |_=>False
theorem cJ.elem{a:Option Addr}{n:Nat} (h:cJ O w (.sl aw) (.slice a n cap)) {i:Nat} (mZ:aw[i]?=some cs) {z:Nat} (hz:cs.length=z) :
  ∃ad,a=some ad/\n=aw.length/\cJ O w (.el cs) (.pointer (some (ad.add (i*z)))):=by
 have az:=(List.getElem?_eq_some_iff.1 mZ).1;cases h with
 |nil=>simp at az
 |sl _ ad _ sz f h1 h2 h3 h4 h5 =>
  have cB:aw≠[]:=by intro e;rw[e]at az;simp at az
  have fF:sz=z:=by rw[<- hz];exact(h3 cs (afW mZ)).symm
  subst fF;refine⟨ad,rfl,rfl,?_⟩;rw[gk (h2 cB)];exact .el _ _ (f i) rfl (λj x hx=>h4 i j x (by rw[mZ];exact hx)) (λj x hx=>h5 i j x (by rw[mZ];exact hx))
theorem Ai{i:V}{K:V->Prop} (hx:aA σ s w x u) (hi:aA σ s w i ui) (h:dy P t s x i K) :
  ∃v c,(Instr.indexAt t u ui).run P w=.ok c w/\aA σ s w v c/\K v:=by
 unfold dy at h;split at h
 case h_2=>exact h.elim
 rename_i k n;cases hi with|d hi=>?_
 cases hi with|sc _ _=>?_
 split at h
 ·rename_i z hz;obtain⟨e,ti,h1,h2,h3⟩:=I2 hz;have eu:∀(ad:Addr) (len cap:Nat),0<=n->n<len->(Instr.indexAt t (.slice (some ad) len cap) (.int k n)).run P w=.ok (.pointer (some (ad.add (n.toNat*z)))) w:=by intro ad len cap g1 g2;simp [Instr.indexAt,asIntOf,run_underlying h1,g1,g2,sizeOf,typeInfo,h2,h3]
  have Ej:∀(aw:List (List D)) (a:Option Addr) (m cap:Nat),cJ (Own σ s) w (.sl aw) (.slice a m cap)->0<=n/\n<aw.length/\Ue aw n.toNat z K ->
    ∃v c,(Instr.indexAt t (.slice a m cap) (.int k n)).run P w=.ok c w/\aA σ s w v c/\K v:=by
   intro aw a m cap hr ⟨g1,g2,g3⟩;unfold Ue at g3;split at g3
   ·exact g3.elim
   ·rename_i cs mZ;obtain⟨ad,rfl,rfl,qX⟩:=hr.elem mZ g3.1;exact⟨_,_,eu ad _ cap g1 g2,.d qX,g3.2⟩
  cases hx with
  |d hx =>
   cases hx with
   |nil=>exact Ej _ _ _ _ .nil h
   |sl aw a cap sz f k1 k2 k3 k4 k5=>exact Ej _ _ _ _ (.sl aw a cap sz f k1 k2 k3 k4 k5) h
   |_=>exact h.elim
  |fu hx=>exact Ej _ _ _ _ hx h
  |so o ho hg hu hk =>
   obtain⟨o',e1,e2,e3,e4,e5,e6⟩:=dZ h;rw[ho]at e1;cases e1;rcases hk e2 with ⟨_,⟨a,rfl⟩,_,rfl⟩|⟨b,base,cap,E,arr,g1,g2,rfl,g4,g5⟩
   ·omega
   ·refine⟨_,_,eu _ _ _ e3 e4,.rf o ho hg rfl (λ_=>⟨b,base,g1,⟨arr,E,g2⟩,?_⟩),e6⟩;rw[gk rfl,e5,agL];simp [agM]
  |_=>exact h.elim
 ·split at h
  ·rename_i u7 len z hz;obtain⟨e,ti,h1,h2,h3⟩:=Cu hz;have eu:∀(ad:Addr),0<=n->n<len->(Instr.indexAt t (.pointer (some ad)) (.int k n)).run P w=.ok (.pointer (some (ad.add (n.toNat*z)))) w:=by intro ad g1 g2;simp [Instr.indexAt,asIntOf,run_underlying h1,Instr.sureAddr,g1,g2,sizeOf,typeInfo,h2,h3]
   cases hx with
   |d hx =>
    cases hx with
    |el cs a f k1 k2 k3=>exact⟨_,_,eu a h.1 h.2.1,.d (cJ.drop (.el cs a f k1 k2 k3) _),h.2.2⟩
    |_=>exact h.elim
   |rf o ho hg hu hk =>
    obtain⟨o',e1,e2,e3,e4,e5⟩:=dZ h;rw[ho]at e1;cases e1;obtain⟨b,base,k1,kC,rfl⟩:=hk e2;refine⟨_,_,eu _ e3 e4,.rf o ho hg rfl (λ_=>⟨b,base,k1,kC,?_⟩),e5⟩;rw[gk rfl];simp [agM]
   |_=>exact h.elim
  ·exact h.elim
def sd (P:Program) (t:TypeId) (cs:List V) (off:Nat) (K:V->Prop):Prop :=
 match cw P t with
 |none=>False
 |some i=>match i.agg with
  |true=>off+i.sz<=cs.length/\K (.ag ((cs.drop off).take i.sz))
  |false=>match cs[off]? with
   |none=>False
   |some v=>K v
theorem Bx{cs:List V}{K:V->Prop} (hx:aA σ s w (.ag cs) (.agg arr)) (h:sd P t cs off K) :
  ∃v c,(part t arr off).run P w=.ok c w/\aA σ s w v c/\K v:=by
 unfold sd at h;cases hx with|ag h1 h2 h3=>?_
 split at h
 ·exact h.elim
 ·rename_i i hi;obtain⟨ti,d,z,k1,k2,k3,k4,k5,k6,k7,k8,k9⟩:=gL hi;have fF:∀w,(sizeOf t).run P w=.ok i.sz w:=λw=>by simp [sizeOf,typeInfo,k1,k4]
  split at h
  ·rename_i yL;rw[yL]at k9;refine⟨_,.agg (arr.extract off (off+i.sz)),by simp [part,k9,fF],?_,h.2⟩;have e:∀(j:Nat) (x:V),((cs.drop off).take i.sz)[j]?=some x->cs[off+j]?=some x/\(arr.extract off (off+i.sz)).getD j undef=arr.getD (off+j) undef:=by
    intro j x hx;rw[agt]at hx;split at hx
    ·rename_i hj;rw[agR]at hx;refine⟨hx,?_⟩;have e2:(arr.extract off (off+i.sz))[j]?=arr[off+j]?:=by rw[Array.getElem?_extract,be (by rw[h1];omega)]
     rw[agh,agh,e2]
    ·cases hx
   refine .ag (by simp [h1];omega) (λj x hx=>?_) (λj x hx=>?_)
   ·rw[(e j x hx).2];exact h2 _ _ (e j x hx).1
   ·rw[(e j x hx).2];exact h3 _ _ (e j x hx).1
  ·rename_i yL;rw[yL]at k9;split at h
   ·exact h.elim
   ·rename_i v hv;have az:=(List.getElem?_eq_some_iff.1 hv).1;obtain⟨c,hc⟩:∃c,arr[off]?=some c:=⟨arr[off]'(by omega),by rw[Array.getElem?_eq_getElem]⟩
    have hd:arr.getD off undef=c:=by rw[agh,hc];rfl
    exact⟨v,c,by simp [part,k9,hc],by rw[<- hd];exact h3 _ _ hv,h⟩
def mj (P:Program) (t:TypeId) (x:V) (f:Nat) (K:V->Prop):Prop :=
 match x with
 |.ag cs=>match P.underlying t with
  |some (.struct fields)=>match fields[f]? with
   |some fd=>sd P fd.type cs fd.offset K
   |none=>False
  |_=>False
 |_=>False
theorem HX{f:Nat}{K:V->Prop} (hx:aA σ s w x u) (h:mj P t x f K) :
  ∃v c,(Instr.field t u f).run P w=.ok c w/\aA σ s w v c/\K v:=by
 unfold mj at h;split at h
 case h_2=>exact h.elim
 split at h
 case h_2=>exact h.elim
 split at h
 case h_2=>exact h.elim
 rename_i hu _ fd hfd;cases hx with|ag h1 h2 h3=>?_
 obtain⟨v,c,r1,r2,r3⟩:=Bx (.ag h1 h2 h3) h;exact⟨v,c,by simp [Instr.field,run_underlying hu,hfd,asAgg,r1],r2,r3⟩
def ka (P:Program) (t:TypeId) (x i:V) (K:V->Prop):Prop :=
 match i with
 |.d (.sc (.int _ n))=>match x with
  |.ag cs=>match P.underlying t with
   |some (.array len e)=>match (P.info? e).map (·.size) with
    |some z=>0<=n/\n<len/\sd P e cs (n.toNat*z) K
    |none=>False
   |_=>False
  |_=>False
 |_=>False
theorem HD{i:V}{K:V->Prop} (hx:aA σ s w x u) (hi:aA σ s w i ui) (h:ka P t x i K) :
  ∃v c,(Instr.index t u ui).run P w=.ok c w/\aA σ s w v c/\K v:=by
 unfold ka at h;split at h
 case h_2=>exact h.elim
 rename_i k n;cases hi with|d hi=>?_
 cases hi with|sc _ _=>?_
 split at h
 case h_2=>exact h.elim
 split at h
 case h_2=>exact h.elim
 rename_i hu;split at h
 case h_2=>exact h.elim
 rename_i z hz;obtain⟨ti,h1,h2⟩:=Option.map_eq_some_iff.1 hz;cases hx with|ag k1 k2 k3=>?_
 obtain⟨v,c,r1,r2,r3⟩:=Bx (.ag k1 k2 k3) h.2.2;refine⟨v,c,?_,r2,r3⟩;simp [Instr.index,asIntOf,run_underlying hu,h.1,h.2.1,sizeOf,typeInfo,h1,h2,r1]
def wM (σ:Gh) (s:List Obj) (w:World) (cs:List V) (arr:Array Value):Prop :=
 arr.size=cs.length/\∀(i:Nat) (x:V),cs[i]?=some x->∃c,arr[i]?=some c/\c.oneCell'=true/\aA σ s w x c
theorem wM.ag {σ s w cs arr} (h:wM σ s w cs arr):aA σ s w (.ag cs) (.agg arr):=by
 have e:∀(i:Nat) (x:V),cs[i]?=some x->(arr.getD i undef).oneCell'=true/\aA σ s w x (arr.getD i undef):=by intro i x hx;obtain⟨c,h1,h2,h3⟩:=h.2 i x hx;rw[agh,h1];exact⟨h2,h3⟩
 exact .ag h.1 (λi x hx=>(e i x hx).1) (λi x hx=>(e i x hx).2)
theorem yP (ht:cw P t=some i) (σ:Gh) (s:List Obj) (w:World):∃z,(∀w,(zeroValue t).run P w=.ok z w)/\wM σ s w (i.zero.map cv) z.cells/\z.cells.size=i.sz/\z.cells.toList=i.zero:=by obtain⟨ti,d,z,k1,k2,k3,k4,k5,k6,k7,k8,k9⟩:=gL ht;refine⟨z,λw=>by simp [zeroValue,typeInfo,k1,k3],⟨by rw[<- ahj,k6];simp,λj x hx=>?_⟩,by rw[<- ahj,k6,k7],k6⟩;rw[afO]at hx;obtain⟨v,hv,rfl⟩:=Option.map_eq_some_iff.1 hx;exact⟨v,by rw[<- agI,k6];exact hv,k8 v (afW hv),F9 v⟩
theorem yE (off:Nat):∀(l:List Value) (k:Nat) (cells:Array Value),off+k+l.length<=cells.size ->
  ((l.zipIdx k).foldl (λcs (x:Value×Nat)=>cs.setIfInBounds (off+x.2) x.1) cells).size=cells.size /\
  ∀p,((l.zipIdx k).foldl (λcs (x:Value×Nat)=>cs.setIfInBounds (off+x.2) x.1) cells)[p]?=if off+k<=p/\p<off+k+l.length then l[p-(off+k)]? else cells[p]?
 |[],k,cells,_=>by simp;intro p h1 h2;omega
 |v::l,k,cells,h=>by
  simp only[afZ]at h;simp only[List.zipIdx_cons,List.foldl_cons];obtain⟨h1,h2⟩:=yE off l (k+1) (cells.setIfInBounds (off+k) v) (by simp;omega);refine⟨by rw[h1];simp,λp=>?_⟩;rw[h2 p];by_cases hp:p=off+k
  ·subst hp;rw[ap (by omega),be (by simp),Array.getElem?_setIfInBounds_self_of_lt (by omega)];simp
  ·rw[Array.getElem?_setIfInBounds_ne (by omega)];by_cases hq:off+(k+1)<=p/\p<off+(k+1)+l.length
   ·rw[be hq,be (by simp only[afZ];omega)];rw[show p-(off+k)=(p-(off+(k+1)))+1 by omega];simp
   ·rw[ap hq,ap (by simp only[afZ];omega)]
def vp (place:Nat->Option (Nat×Nat)) (cs:List V):List (Nat×V)->Option (List V)
 |[]=>some cs
 |(i,v)::rest=>match place i with
  |none=>none
  |some (off,size)=>match dT v with
   |none=>none
   |some ns=>if ns.length=size/\off+ns.length<=cs.length then vp place (gI cs off ns) rest else none
theorem vG {σ:Gh}{s:List Obj}{w:World}{place:Nat->Option (Nat×Nat)}:∀(parts:List (Nat×V)) (ps:List (Nat×Value)) (cs:List V) (arr:Array Value) (Wl:List V),wM σ s w cs arr ->
  ps.length=parts.length->(∀(j:Nat) i x,parts[j]?=some (i,x)->∃u,ps[j]?=some (i,u)/\aA σ s w x u)->vp place cs parts=some Wl ->
  ∃cf,Instr.fill place arr ps=some cf/\wM σ s w Wl cf
 |[],[],cs,arr,Wl,hr,_,_,h=>by simp only[vp,afY]at h;subst h;exact⟨arr,rfl,hr⟩
 |[],p::ps,_,_,_,_,hl,_,_=>by simp at hl
 |_::_,[],_,_,_,_,hl,_,_=>by simp at hl
 |(i,v)::parts,(i',u)::ps,cs,arr,Wl,hr,hl,hp,h=>by
  obtain⟨u',hu,uF⟩:=hp 0 i v rfl;simp only[agm,afY,agx]at hu;obtain⟨rfl,rfl⟩:=hu;simp only[vp]at h;split at h
  ·cases h
  ·rename_i off size yr;split at h
   ·cases h
   ·rename_i ns wK;split at h
    ·rename_i hc;obtain⟨h1,h2⟩:=mq uF wK;have hrep:=yE off u.cells.toList 0 arr (by simp;rw[hr.1,h1];exact hc.2);have e:u.cells.zipIdx.foldl (λcs (x:Value×Nat)=>cs.setIfInBounds (off+x.2) x.1) arr=(u.cells.toList.zipIdx 0).foldl (λcs (x:Value×Nat)=>cs.setIfInBounds (off+x.2) x.1) arr:=by rw[<- Array.foldl_toList];simp
     have S7:wM σ s w (gI cs off ns) ((u.cells.toList.zipIdx 0).foldl (λcs (x:Value×Nat)=>cs.setIfInBounds (off+x.2) x.1) arr):=by
      refine⟨by rw[hrep.1,hr.1,rK _ _ _ hc.2],λj x hx=>?_⟩;rw[ph _ _ _ hc.2]at hx;rw[hrep.2];split at hx
      ·rename_i hj;rw[be (by simp;omega)];obtain⟨c,k1,k2,k3⟩:=h2 _ x hx;exact⟨c,by rw[agI];simpa using k1,k2,k3⟩
      ·rename_i hj;rw[ap (by simp;omega)];exact hr.2 j x hx
     obtain⟨cf,k1,k2⟩:=vG parts ps _ _ Wl S7 (by simpa using hl) (λj i x hx=>hp (j+1) i x (by simpa using hx)) h;refine⟨cf,?_,k2⟩;simp only[Instr.fill,yr];rw[ap (by simp [h1,hc.1,hr.1];omega)];rw[<- e]at k1;exact k1
    ·cases h
def bF (P:Program) (t:TypeId):Option (List (Nat×Nat)) :=
 match P.underlying t with
 |some (.struct fields)=>fields.toList.mapM λf=>(P.info? f.type).map λi=>(f.offset,i.size)
 |_=>none
def pr (P:Program) (t:TypeId) (parts:List (Nat×V)) (K:V->Prop):Prop :=
 match cw P t with
 |none=>False
 |some i=>match bF P t with
  |some pl=>match vp (pl[·]?) (i.zero.map cv) parts with
   |some cs=>K (.ag cs)
   |none=>False
  |none=>match TZ P t with
   |some (_,z)=>match vp (λj=>some (j*z,z)) (i.zero.map cv) parts with
    |some cs=>K (.ag cs)
    |none=>False
   |none=>False
theorem vf {P:Program}{α β:Type} (f:α->Sem β) (g:α->Option β) (Wo:∀a b,g a=some b->∀w,(f a).run P w=.ok b w) (w:World):∀(l:List α) (r:List β),l.mapM g=some r->(l.mapM f).run P w=.ok r w
 |[],r,h=>by simp at h;subst h;simp [List.mapM_nil]
 |a::l,r,h=>by
  rw[agS]at h;cases ha:g a with
  |none=>simp [ha]at h
  |some b =>
   cases hl:l.mapM g with
   |none=>simp [ha,hl]at h
   |some r' =>
    simp [ha,hl]at h;subst h;rw[agS];simp [Wo a b ha w,vf f g Wo w l r' hl]
theorem H3{K:V->Prop}
  (hl:ps.length=parts.length) (hp:∀(j:Nat) i x,parts[j]?=some (i,x)->∃u,ps[j]?=some (i,u)/\aA σ s w x u) (h:pr P t parts K) :
  ∃v c,(Instr.build t ps.toArray).run P w=.ok c w/\aA σ s w v c/\K v:=by
 unfold pr at h;split at h
 ·exact h.elim
 ·rename_i i hi;obtain⟨z,hz,hzr,_,_⟩:=yP hi σ s w;split at h
  ·rename_i pl yr;unfold bF at yr;split at yr
   ·rename_i fields hu;split at h
    ·rename_i cs mZ;obtain⟨cf,k1,k2⟩:=vG parts ps _ _ cs hzr hl hp mZ;refine⟨_,_,?_,k2.ag,h⟩;have hm:(fields.mapM (λf=>do pure (f.offset,<- sizeOf f.type):Field->Sem (Nat×Nat))).run P w=.ok pl.toArray w:=by
      have:=vf (P:=P) (λf=>do pure (f.offset,<- sizeOf f.type):Field->Sem (Nat×Nat)) (λf=>(P.info? f.type).map λi=>(f.offset,i.size))
       (λf b hb w=>by
        obtain⟨ti,e1,rfl⟩:=Option.map_eq_some_iff.1 hb;simp [sizeOf,typeInfo,e1]) w fields.toList pl yr
      rw[<- Array.toArray_toList (xs:=fields)];rw[List.mapM_toArray,Sem.run_map,this];rfl
     have aau:(λx:Nat=>pl.toArray[x]?)=(λx:Nat=>pl[x]?):=by funext x;simp
     simp only[Instr.build,Sem.run_bind,hz,Result.andThen_ok,run_underlying hu,hm,aau,k1,Sem.run_pure]
    ·exact h.elim
   ·cases yr
  ·split at h
   ·rename_i len zz hzz;obtain⟨e,ti,h1,h2,h3⟩:=Cu hzz;split at h
    ·rename_i cs mZ;obtain⟨cf,k1,k2⟩:=vG parts ps _ _ cs hzr hl hp mZ;refine⟨_,_,?_,k2.ag,h⟩;have fF:(sizeOf e).run P w=.ok zz w:=by simp [sizeOf,typeInfo,h2,h3]
     simp only[Instr.build,Sem.run_bind,hz,Result.andThen_ok,run_underlying h1,fF,k1,Sem.run_pure]
    ·exact h.elim
   ·exact h.elim
theorem qZ (hI:Inv σ s w){aw:List (List V)} (E:TypeId) (hl:∀e∈aw,e.length=sz) (hs:aw.length*sz<=arr.size)
  (hc:∀(i j:Nat) (x:V),(aw[i]?.bind (·[j]?))=some x->∃u,arr[i*sz+j]?=some u/\u.oneCell'=true/\aA σ s w x u) :
  aF σ s w (mV σ s.length (some (w.heap.size,0))) (s++[⟨0,true,sz,aw⟩]) (w.alloc (.cells arr E)) /\
  Inv (mV σ s.length (some (w.heap.size,0))) (s++[⟨0,true,sz,aw⟩]) (w.alloc (.cells arr E)):=by
 refine mK (p:=some (w.heap.size,0)) hI rfl rfl rfl (by simp) (λb hb=>Go.RowKit.Below.heap_alloc w _ b hb) (λb base h=>by cases h;exact af3 _)
  (λhE=>.inr ⟨w.heap.size,0,arr,E,rfl,heap_alloc_new w _,hl,by simpa using hs,λi j x hx=>?_⟩)
 obtain⟨u,h1,h2,h3⟩:=hc i j x hx;exact⟨u,by simpa using h1,h2,h3.aX hE⟩
theorem OV{o:Obj} (hC:Fs w b):aA (mV σ s.length (some (b,base))) (s++[o]) w (.rf s.length o.g 0 0) (.pointer (some ⟨b,base,none⟩)) :=
 .rf o (by simp) (af3 _) rfl (λ_=>⟨b,base,bQ _ _ _,hC,by simp⟩)
def pq (P:Program) (t:TypeId) (s:List Obj) (K:V->List Obj->Prop):Prop :=
 match cw P t with
 |none=>False
 |some i=>K (.rf s.length 0 0 0) (s++[⟨0,true,i.sz,[i.zero.map cv]⟩])
theorem uN {cs:List V} (h:wM σ s w cs arr) (sz:Nat) :
  ∀(i j:Nat) (x:V),(([cs]:List (List V))[i]?.bind (·[j]?))=some x->∃u,arr[i*sz+j]?=some u/\u.oneCell'=true/\aA σ s w x u:=by
 intro i j x hx;cases i with
 |zero=>simp at hx;simpa using h.2 j x hx
 |succ n=>simp at hx
theorem Jc (hI:Inv σ s w) (h:pq P t s K) :
  ∃v c σ' s' w',(Instr.alloc t true (.tuple #[])).run P w=.ok c w'/\aF σ s w σ' s' w'/\Inv σ' s' w'/\aA σ' s' w' v c/\K v s':=by
 unfold pq at h;split at h
 ·exact h.elim
 ·rename_i i hi;obtain⟨z,hz,hr,hs,hl⟩:=yP hi σ s w;have:=qZ (aw:=[i.zero.map cv]) (sz:=i.sz) (arr:=z.cells) hI t (by simp;rw[<- hl];simpa using hs) (by simp [hs]) (uN hr i.sz);refine⟨_,.pointer (some ⟨w.heap.size,0,none⟩),_,_,w.alloc (.cells z.cells t),?_,this.1,this.2,OV (o:=⟨0,true,i.sz,[i.zero.map cv]⟩) ⟨_,_,heap_alloc_new w _⟩,h⟩;simp [Instr.alloc,hz,newVar,newRow]
def zT (s:List Obj) (x:V) (K:V->List Obj->Prop):Prop :=
 match dT x with
 |none=>False
 |some cs=>K (.rf s.length 0 0 0) (s++[⟨0,true,cs.length,[cs]⟩])
theorem NH (hI:Inv σ s w) (hx:aA σ s w x u) (h:zT s x K) :
  ∃v c σ' s' w',(Instr.box t u).run P w=.ok c w'/\aF σ s w σ' s' w'/\Inv σ' s' w'/\aA σ' s' w' v c/\K v s':=by
 unfold zT at h;split at h
 ·exact h.elim
 ·rename_i cs mZ;have hr:wM σ s w cs u.cells:=mq hx mZ;have:=qZ (aw:=[cs]) (sz:=cs.length) (arr:=u.cells) hI t (by simp) (by simp [hr.1]) (uN hr _);refine⟨_,.pointer (some ⟨w.heap.size,0,none⟩),_,_,w.alloc (.cells u.cells t),?_,this.1,this.2,OV (o:=⟨0,true,cs.length,[cs]⟩) ⟨_,_,heap_alloc_new w _⟩,h⟩;simp [Instr.box,newVar,newRow]
def LL (σ:Gh) (s:List Obj) (w:World) (sz:Nat) (aw:List (List V)) (arr:Array Value):Prop :=
 (∀e∈aw,e.length=sz)/\arr.size=aw.length*sz /\
 ∀(i j:Nat) (x:V),(aw[i]?.bind (·[j]?))=some x->∃c,arr[i*sz+j]?=some c/\c.oneCell'=true/\aA σ s w x c
def sP (sz:Nat) (aw:List (List V)):List (Nat×V)->Option (List (List V))
 |[]=>some aw
 |(i,v)::rest=>match dT v with
  |none=>none
  |some ns=>if i<aw.length/\ns.length=sz then sP sz (aw.set i ns) rest else none
theorem Ac {σ:Gh}{s:List Obj}{w:World}{sz:Nat}:∀(parts:List (Nat×V)) (ps:List (Nat×Value)) (aw:List (List V)) (arr:Array Value) (els':List (List V)),LL σ s w sz aw arr ->
  ps.length=parts.length->(∀(j:Nat) i x,parts[j]?=some (i,x)->∃u,ps[j]?=some (i,u)/\aA σ s w x u)->sP sz aw parts=some els' ->
  ∃cf,Instr.fill (λi=>some (i*sz,sz)) arr ps=some cf/\LL σ s w sz els' cf/\els'.length=aw.length
 |[],[],aw,arr,els',hr,_,_,h=>by simp only[sP,afY]at h;subst h;exact⟨arr,rfl,hr,rfl⟩
 |[],p::ps,_,_,_,_,hl,_,_=>by simp at hl
 |_::_,[],_,_,_,_,hl,_,_=>by simp at hl
 |(i,v)::parts,(i',u)::ps,aw,arr,els',hr,hl,hp,h=>by
  obtain⟨u',hu,uF⟩:=hp 0 i v rfl;simp only[agm,afY,agx]at hu;obtain⟨rfl,rfl⟩:=hu;simp only[sP]at h;split at h
  ·cases h
  ·rename_i ns wK;split at h
   ·rename_i hc;obtain⟨Ap,su⟩:=hc;obtain⟨h1,h2⟩:=mq uF wK;obtain⟨r1,r2,r3⟩:=hr;have hb:=agw sz (show i'+1<=aw.length from Ap);rw[agL,Nat.one_mul]at hb;have hrep:=yE (i'*sz) u.cells.toList 0 arr (by simp;rw[h1];omega);have e:u.cells.zipIdx.foldl (λcs (x:Value×Nat)=>cs.setIfInBounds (i'*sz+x.2) x.1) arr=(u.cells.toList.zipIdx 0).foldl (λcs (x:Value×Nat)=>cs.setIfInBounds (i'*sz+x.2) x.1) arr:=by rw[<- Array.foldl_toList];simp
    have S7:LL σ s w sz (aw.set i' ns) ((u.cells.toList.zipIdx 0).foldl (λcs (x:Value×Nat)=>cs.setIfInBounds (i'*sz+x.2) x.1) arr):=by
     refine⟨λe he=>?_,by rw[hrep.1,r2,agl],λk j x hx=>?_⟩
     ·rcases agU he with h'|h'
      ·exact r1 e h'
      ·rw[h'];exact su
     ·rw[hrep.2];have jm:u.cells.toList.length=sz:=by simp [h1,su]
      by_cases hk:k=i'
      ·subst hk;rw[agc Ap]at hx;simp only[agE]at hx;have hj:=(List.getElem?_eq_some_iff.1 hx).1;rw[be (by rw[jm];omega)];obtain⟨c,k1,k2,k3⟩:=h2 _ x hx;refine⟨c,?_,k2,k3⟩;rw[agI,<- k1];congr 1;omega
      ·rw[agp (Ne.symm hk)]at hx;have hj:j<sz:=by
        cases he:aw[k]? with
        |none=>rw[he]at hx;cases hx
        |some e =>
         rw[he]at hx;have:=(List.getElem?_eq_some_iff.1 hx).1;rw[r1 e (afW he)]at this;exact this
       rw[ap ?_]
       ·exact r3 k j x hx
       ·rw[jm];rcases Nat.lt_or_gt_of_ne hk with az|az
        ·have:=agw sz (show k+1<=i' from az);rw[agL,Nat.one_mul]at this;omega
        ·have:=agw sz (show i'+1<=k from az);rw[agL,Nat.one_mul]at this;omega
    obtain⟨cf,k1,k2,k3⟩:=Ac parts ps _ _ els' S7 (by simpa using hl) (λj i x hx=>hp (j+1) i x (by simpa using hx)) h;refine⟨cf,?_,k2,by simpa using k3⟩;simp only[Instr.fill];rw[ap (by simp [h1,su,r2];omega)];rw[<- e]at k1;exact k1
   ·cases h
def GR:V->Option D
 |.d x=>some x
 |.fu aw=>some (.sl aw)
 |_=>none
theorem nX{y:D} (hr:aA σ s w x u) (h:GR x=some y):cJ (Own σ s) w y u:=by
 cases hr <;> simp only[GR,afY]at h <;> first|(cases h;done)|(subst h;assumption)
def sY (aw:List (List V)):Option (List (List D)):=aw.mapM λe=>e.mapM GR
theorem jN {α β:Type}{f:α->Option β}:∀{l:List α}{r:List β},l.mapM f=some r->r.length=l.length/\∀(i:Nat) (y:β),r[i]?=some y->∃x,l[i]?=some x/\f x=some y
 |[],r,h=>by simp at h;subst h;simp
 |a::l,r,h=>by
  rw[agS]at h;cases ha:f a with
  |none=>simp [ha]at h
  |some b =>
   cases hl:l.mapM f with
   |none=>simp [ha,hl]at h
   |some r' =>
    simp [ha,hl]at h;subst h;obtain⟨h1,h2⟩:=jN hl;refine⟨by simp [h1],λi y hy=>?_⟩;cases i with
    |zero=>simp at hy;subst hy;exact⟨a,rfl,ha⟩
    |succ i=>simpa using h2 i y (by simpa using hy)
theorem Nj {aw:List (List V)}{ds:List (List D)} (h:sY aw=some ds):ds.length=aw.length /\
  (∀(i:Nat) (e:List D),ds[i]?=some e->∃e',aw[i]?=some e'/\e.length=e'.length) /\
  ∀(i j:Nat) (y:D),(ds[i]?.bind (·[j]?))=some y->∃x,(aw[i]?.bind (·[j]?))=some x/\GR x=some y:=by
 obtain⟨h1,h2⟩:=jN h;refine⟨h1,λi e he=>?_,λi j y hy=>?_⟩
 ·obtain⟨e',k1,k2⟩:=h2 i e he;exact⟨e',k1,(jN k2).1⟩
 ·cases he:ds[i]? with
  |none=>rw[he]at hy;cases hy
  |some e =>
   rw[he]at hy;obtain⟨e',k1,k2⟩:=h2 i e he;obtain⟨x,k3,k4⟩:=(jN k2).2 j y hy;exact⟨x,by rw[k1];exact k3,k4⟩
theorem cJ.Kn (Av:aw.length<=cap) (fF:∀e∈aw,e.length=sz) (hO:¬O b)
  (h:∀(i j:Nat) (x:D),(aw[i]?.bind (·[j]?))=some x->∃u,w.cell? ⟨b,base+i*sz+j,none⟩=some u/\cJ O w x u):cJ O w (.sl aw) (.slice (some ⟨b,base,none⟩) aw.length cap):=by
 refine .sl aw ⟨b,base,none⟩ cap sz (λi j=>(w.cell? ⟨b,base+i*sz+j,none⟩).getD undef) Av (λ_=>rfl) fF (λi j x hx=>?_) (λi j x hx=>?_)
 ·obtain⟨u,h1,h2⟩:=h i j x hx;simp only[h1,ag9];exact⟨trivial,hO⟩
 ·obtain⟨u,h1,h2⟩:=h i j x hx;simpa only[h1,ag9]using h2
theorem B7 (hI:Inv σ s w) (h:Own σ s b):b<w.heap.size:=by
 rcases h with h|⟨id,o,base,h1,_,h3⟩
 ·exact hI.low b h
 ·exact hI.lt h1 h3
def iN (P:Program) (t:TypeId):Option (TypeId×O9) :=
 match P.underlying t with
 |some (.slice e)=>(cw P e).map λi=>(e,i)
 |_=>none
theorem kz{e:TypeId} (h:iN P t=some (e,i)):P.underlying t=some (.slice e)/\cw P e=some i:=by
 unfold iN at h;split at h
 ·rename_i e' hu;obtain⟨i',h1,h2⟩:=Option.map_eq_some_iff.1 h;simp only[agx]at h2;obtain⟨rfl,rfl⟩:=h2;exact⟨hu,h1⟩
 ·cases h
def ey (P:Program) (t:TypeId) (len:Nat) (parts:List (Nat×V)) (s:List Obj) (K:V->List Obj->Prop):Prop :=
 match iN P t with
 |none=>False
 |some (_,i)=>(len*i.sz<=16777216/\0<i.sz)/\match sP i.sz (List.replicate len (i.zero.map cv)) parts with
  |none=>False
  |some aw=>match sY aw with
   |some ds=>K (.fu ds) s
   |none=>K (.so s.length 0 0 len) (s++[⟨0,true,i.sz,aw⟩])
theorem AV (ht:cw P t=some i) (σ:Gh) (s:List Obj) (w:World) (n:Nat) (z:Value) (hz:z.cells.toList=i.zero) :
  LL σ s w i.sz (List.replicate n (i.zero.map cv)) ((Array.range (n*i.sz)).map (z.cells[· % z.cells.size]!)):=by
 obtain⟨ti,d,z',k1,k2,k3,k4,k5,k6,k7,k8,k9⟩:=gL ht;have hzs:z.cells.size=i.sz:=by rw[<- ahj,hz,k7]
 refine⟨λe he=>by rw[List.eq_of_mem_replicate he];simp [k7],by simp,λa j x hx=>?_⟩;have ha:a<n:=by
  cases he:(List.replicate n (i.zero.map cv))[a]? with
  |none=>rw[he]at hx;cases hx
  |some e=>simpa using (List.getElem?_eq_some_iff.1 he).1
 simp only[List.getElem?_replicate,ha,if_true,agE,afO]at hx;obtain⟨v,hv,rfl⟩:=Option.map_eq_some_iff.1 hx;have hj:j<i.sz:=by rw[<- k7];exact(List.getElem?_eq_some_iff.1 hv).1
 have hb:=agw i.sz (show a+1<=n from ha);rw[agL,Nat.one_mul]at hb;refine⟨v,?_,k8 v (afW hv),F9 v⟩;have abn:(a*i.sz+j) % z.cells.size=j:=by rw[hzs,Nat.mul_add_mod_self_right,Nat.mod_eq_of_lt hj]
 have ep:z.cells[j]! = v:=by rw[getElem!_def,<- agI,hz,hv]
 simp [show a*i.sz+j<n*i.sz by omega,abn,ep]
theorem y6{len:Nat} (hI:Inv σ s w)
  (hl:ps.length=parts.length) (hp:∀(j:Nat) i x,parts[j]?=some (i,x)->∃u,ps[j]?=some (i,u)/\aA σ s w x u) (h:ey P t len parts s K) :
  ∃v c σ' s' w',(Instr.buildSlice t len ps.toArray).run P w=.ok c w'/\aF σ s w σ' s' w'/\Inv σ' s' w'/\aA σ' s' w' v c/\K v s':=by
 unfold ey at h;split at h
 ·exact h.elim
 rename_i e i hti;obtain⟨hu,hi⟩:=kz hti;obtain⟨⟨hb,cY⟩,h⟩:=h;split at h
 ·exact h.elim
 rename_i aw fP;obtain⟨ti,d,z,k1,k2,k3,k4,k5,k6,k7,k8,k9⟩:=gL hi;have hz:∀w,(zeroValue e).run P w=.ok z w:=λw=>by simp [zeroValue,typeInfo,k1,k3]
 have fF:∀w,(sizeOf e).run P w=.ok i.sz w:=λw=>by simp [sizeOf,typeInfo,k1,k4]
 obtain⟨cf,f1,f2,f3⟩:=Ac parts ps _ _ aw (AV hi σ s w len z k6) hl hp fP;have hlen:aw.length=len:=by simpa using f3
 have eu:(Instr.buildSlice t len ps.toArray).run P w=.ok (.slice (some ⟨w.heap.size,0,none⟩) len len) (w.alloc (.cells cf e)):=by
  have OF:¬(len*i.sz>2 ^ 24):=by omega
  by_cases h0:len=0
  ·subst h0;have Up:∀g:Nat->Value,(Array.range 0).map g=#[]:=λg=>by apply Array.ext' ;simp
   rw[Nat.zero_mul,Up]at f1;simp only[Instr.buildSlice,Sem.run_bind,run_underlying hu,fF,Result.andThen_ok,Nat.zero_mul,Up,f1];simp [newRow]
  ·have h0':¬(len*i.sz=0):=by have:=Nat.mul_pos (Nat.pos_of_ne_zero h0) cY;omega
   simp only[Instr.buildSlice,Sem.run_bind,run_underlying hu,fF,Result.andThen_ok,ap OF,ap h0',hz,f1,Sem.run_pure];simp [newRow]
 obtain⟨r1,r2,r3⟩:=f2;split at h
 ·rename_i ds W0;obtain⟨d1,d2,d3⟩:=Nj W0;obtain⟨hE,jo⟩:=Eg hI (.cells cf e);refine⟨_,_,σ,s,_,eu,hE,jo,?_,h⟩;have hd:cJ (Own σ s) (w.alloc (.cells cf e)) (.sl ds) (.slice (some ⟨w.heap.size,0,none⟩) ds.length ds.length):=by
   refine cJ.Kn (sz:=i.sz) (af3 _) (λx hx=>?_) (λho=>by have:=B7 hI ho;omega) (λa j y hy=>?_)
   ·obtain⟨a,ha⟩:=List.mem_iff_getElem?.1 hx;obtain⟨e',g1,g2⟩:=d2 a x ha;rw[g2];exact r1 e' (afW g1)
   ·obtain⟨x,g1,g2⟩:=d3 a j y hy;obtain⟨c,c1,c2,c3⟩:=r3 a j x g1;exact⟨c,by simpa using c1,(nX c3 g2).aX hE⟩
  rw[show len=ds.length by omega];exact .fu hd
 ·have:=qZ (aw:=aw) (sz:=i.sz) (arr:=cf) hI e r1 (by omega) r3;refine⟨_,_,_,_,_,eu,this.1,this.2,?_,h⟩;refine .so ⟨0,true,i.sz,aw⟩ (by simp) (af3 _) ⟨_,_,rfl⟩ (λ_=>.inr ⟨w.heap.size,0,len,e,cf,bQ _ _ _,heap_alloc_new w _,by simp,af3 _,by simp [r2,hlen]⟩)
def fY (P:Program) (t:TypeId) (l c:V) (s:List Obj) (K:V->List Obj->Prop):Prop :=
 match iN P t with
 |none=>False
 |some (_,i)=>match l,c with
  |.d (.sc (.int _ n)),.d (.sc (.int _ m))=>(0<=n/\n<=m/\i.Cs*m<=140737488355328/\m<=9223372036854775807/\0<i.sz) /\
    K (.so s.length 0 0 n.toNat) (s++[⟨0,true,i.sz,List.replicate n.toNat (i.zero.map cv)⟩])
  |_,_=>False
theorem An{l c:V}{ul uc:Value} (hI:Inv σ s w) (hl:aA σ s w l ul) (hc:aA σ s w c uc)
  (h:fY P t l c s K):∃v r σ' s' w',(Instr.makeSlice t ul uc).run P w=.ok r w'/\aF σ s w σ' s' w'/\Inv σ' s' w'/\aA σ' s' w' v r/\K v s':=by
 unfold fY at h;split at h
 ·exact h.elim
 rename_i e i hti;obtain⟨hu,hi⟩:=kz hti;split at h
 case h_2=>exact h.elim
 rename_i kl n kc m;obtain⟨⟨h1,h2,h3,h4,h5⟩,h⟩:=h;cases hl with|d hl=>?_
 cases hl with|sc _ _=>?_
 cases hc with|d hc=>?_
 cases hc with|sc _ _=>?_
 obtain⟨ti,d,z,k1,k2,k3,k4,k5,k6,k7,k8,k9⟩:=gL hi;have hz:∀w,(zeroValue e).run P w=.ok z w:=λw=>by simp [zeroValue,typeInfo,k1,k3]
 have fF:∀w,(sizeOf e).run P w=.ok i.sz w:=λw=>by simp [sizeOf,typeInfo,k1,k4]
 obtain⟨N,rfl⟩:=Int.eq_ofNat_of_zero_le h1;obtain⟨M,rfl⟩:=Int.eq_ofNat_of_zero_le (show 0<=m by omega);have w1:IntKind.i64.wrap (N:Int)=N:=IntWalk.i64_in _ (by omega);have w2:IntKind.i64.wrap (M:Int)=M:=IntWalk.i64_in _ (by omega);have ad4:¬((i.Cs:Int)*(M:Int)>2 ^ 48):=by omega
 obtain⟨r1,r2,r3⟩:=AV hi σ s w M z k6;have eu:(Instr.makeSlice t (.int kl N) (.int kc M)).run P w=.ok (.slice (some ⟨w.heap.size,0,none⟩) N M) (w.alloc (.cells ((Array.range (M*i.sz)).map (z.cells[· % z.cells.size]!)) e)):=by
  have Up:∀g:Nat->Value,(Array.range 0).map g=#[]:=λg=>by apply Array.ext' ;simp
  have c1:¬((M:Int)<0):=by omega
  have c2:¬((N:Int)<0):=by omega
  have c3:¬((N:Int)>M):=by omega
  by_cases h0:M*i.sz=0
  ·simp only[Instr.makeSlice,run_underlying hu,asInt,asIntOf,typeInfo,k1,k5,w1,w2,Sem.run_bind,Result.andThen_ok,run_program,Sem.run_pure,afT,h0,Up];simp [c1,c2,c3,fF,newRow,h0,Up];intro hx;exfalso;omega
  ·simp only[Instr.makeSlice,run_underlying hu,asInt,asIntOf,typeInfo,k1,k5,w1,w2,Sem.run_bind,Result.andThen_ok,run_program,Sem.run_pure,afT];simp [c1,c2,c3,fF,newRow,h0,hz];intro hx;exfalso;omega
 have:=qZ (aw:=List.replicate N (i.zero.map cv)) (sz:=i.sz) (arr:=(Array.range (M*i.sz)).map (z.cells[· % z.cells.size]!)) hI e (λx hx=>by rw[List.eq_of_mem_replicate hx];simp [k7])
  (by simp;exact agw _ (by omega)) (λa j x hx=>by
   refine r3 a j x ?_;rw[List.getElem?_replicate]at hx ⊢;split at hx
   ·rw[be (by omega)];exact hx
   ·cases hx)
 refine⟨_,_,_,_,_,eu,this.1,this.2,?_,h⟩;refine .so ⟨0,true,i.sz,List.replicate N (i.zero.map cv)⟩ (by simp) (af3 _) ⟨_,_,rfl⟩ (λ_=>.inr ⟨w.heap.size,0,M,e,(Array.range (M*i.sz)).map (z.cells[· % z.cells.size]!),bQ _ _ _,heap_alloc_new w _,by simp,by omega,by simp⟩)
end Go.VL
