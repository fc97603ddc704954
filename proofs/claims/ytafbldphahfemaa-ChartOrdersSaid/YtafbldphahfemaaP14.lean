/-
  Texts of the walk: VxV MpI MpK.
-/
import Derived.Shelf.SlSortCmp.WholeK
import Derived.Test.YtafbldphahfemaaP13
section
namespace Go.Vx
open Go Go.Rx Go.Proofs Go.Sort
set_option linter.unusedVariables false
theorem EvU.of_same {P:Program} {f:FuncId} {us:List U} {vs:List Value} {u:U} {cv:Value} (hv:toVL us=some vs) (hr:∀ m,renL m vs=vs) (hu:toV u=some cv) (hru:∀ m,ren m cv=cv) (h:∀ w,Calls P f vs.toArray w fun e w'=>e = .returned cv∧w'=w) (σ:Sg):EvU P f us σ (fun u' σ'=>u'=u∧σ'=σ):=fun F x ws m w cargs hx hh hfr he hfit hargs=>by
 have:=(q8t us vs hv x ws).1 he
 subst this
 have hca:cargs=ws:=by rw [← hargs.at,hr]
 subst hca
 refine (h w).mono ?_
 rintro e w' ⟨rfl,rfl⟩
 exact ⟨x,m,u,cv,cv,rfl,⟨rfl,hx⟩,Adv.refl hfit,fun m' _=>hru m',hh,hfr,(q44 u cv hu x cv).2 rfl,Ke.refl _ _,Nat.le_refl _⟩
theorem EvU.view0 {P:Program} {f:FuncId} {args args':List U} {σ:Sg} (h:EvU P f args ⟨[],0⟩ (fun u' _=>u' = .tup []∧Bel 0 u')) (ha:BelL 0 args) {σ1:Sg} (hg:Gh 0 args' σ args σ1):EvU P f args' σ (fun u' σ'=>u' = .tup []∧σ'=σ):=fun F x vs m w cargs hx hh hfr he hfit hargs=>by
 obtain ⟨y1,a1,a2,a3,a4,a5,a6⟩:=hg F x vs hx hh hfr he
 have hadv1:=a1 m w hfit
 have hadv2:=Adv.less hadv1.fits (less_onlyI y1.s)
 have hmo:Mo 0 y1 (cx (onlyI y1.s)):=⟨fun k hk=>by omega,fun i row e hl=>by show lk (onlyI y1.s).h i=_; rw [q48,hl]; rfl⟩
 have hno:∀ b,¬ Owns m (onlyI y1.s) b:=fun b ⟨i,c,hc,ho,_⟩=>by
  rw [q48] at hc
  obtain ⟨_,l,e,rfl⟩:=q4i hc
  simp [Own] at ho
 refine (h (fun _ _=>False) (cx (onlyI y1.s)) vs m w cargs rfl ⟨fun k b hb=>by simp [cx,gt] at hb,fun k k' b b' i hb=>by simp [cx,gt] at hb,fun i b hb=>?_⟩ (fun _ _ hF=>hF.elim) (hmo.ke.E ha a5) hadv2.fits (hargs.ext (Agree.refl _ _) (Nat.le_trans hadv1.nx hadv2.nx))).mono ?_
 ·have hb':lk (onlyI y1.s).h i=some b:=hb
  rw [q48] at hb'
  exact a3.bd i b (q4i hb').1
 rintro e w₂ ⟨y2,m₂,u',v',cv,rfl,⟨rfl,_⟩,hadv,hrel,_,_,hru,_,_⟩
 simp only [Rel] at hru
 obtain ⟨q,rfl,_,hq⟩:=hru
 have:q=[]:=List.eq_nil_of_length_eq_zero (by simpa using hq.symm)
 subst this
 have hcv:cv = .tuple ⟨[]⟩:=by rw [← hrel.at]; simp [ren,renL]
 subst hcv
 have hsame:∀ b,b<w.heap.size→w₂.heap[b]? = w.heap[b]?:=fun b hlt=>hadv.same b hlt (hno b)
 refine ⟨x,m,.tup [],.tuple ⟨[]⟩,.tuple ⟨[]⟩,rfl,⟨rfl,hx⟩,⟨Agree.refl _ _,Nat.le_refl _,fun m' hm'=>?_,fun b h=>.inl h,fun b hlt _=>hsame b hlt,hadv.size,hadv.os,hadv.tape,hadv.output,hadv.drawn⟩,fun m' _=>by simp [ren,renL],hh,hfr,by simp only [Rel]; exact ⟨[],rfl,by simp [RelP],rfl⟩,Ke.refl _ _,Nat.le_refl _⟩
 have hfm:=hfit m' hm'
 exact ⟨fun i b hb=>(hfm.ok i b hb).world (hsame _ (hfm.size hb)),hfm.inj,hfm.bd⟩
def insB {α:Type} (lt:α→α→Bool) (x:α):List α→List α
 | []=>[x]
 | y::l=>cond (lt y x) (y::insB lt x l) (x::y::l)
def srt {α:Type} (lt:α→α→Bool):List α→List α
 | []=>[]
 | x::l=>insB lt x (srt lt l)
theorem q9p {α:Type} (lt:α→α→Bool) (x:α):∀ l,(insB lt x l).Perm (x::l)
 | []=>.refl _
 | y::l=>by
  simp only [insB]
  cases lt y x with
  | true=>exact ((q9p lt x l).cons y).trans (.swap _ _ _)
  | false=>exact .refl _
theorem qa3 {α:Type} (lt:α→α→Bool):∀ l,(srt lt l).Perm l
 | []=>.refl _
 | x::l=>(q9p lt x _).trans ((qa3 lt l).cons x)
def Asc {α:Type} (lt:α→α→Bool) (l:List α):Prop:=l.Pairwise (fun x y=>lt y x=false)
theorem insB_asc {α:Type} {lt:α→α→Bool} (h:SWO lt) (x:α):∀ {l},Asc lt l→Asc lt (insB lt x l)
 | [],_=>by simp [insB,Asc]
 | y::l,ha=>by
  simp only [insB]
  unfold Asc at ha ⊢
  rw [List.pairwise_cons] at ha
  cases hy:lt y x with
  | true =>
   simp only [cond_true]
   rw [List.pairwise_cons]
   refine ⟨fun z hz=>?_,insB_asc h x ha.2⟩
   have:=(q9p lt x l).mem_iff.1 hz
   rcases List.mem_cons.1 this with rfl | hz
   ·cases hzy:lt z y with
    | false=>rfl
    | true=>have:=h.trans y z y hy hzy; rw [h.irrefl] at this; cases this
   ·exact ha.1 z hz
  | false =>
   simp only [cond_false]
   rw [List.pairwise_cons]
   refine ⟨fun z hz=>?_,List.pairwise_cons.2 ha⟩
   rcases List.mem_cons.1 hz with rfl | hz
   ·exact hy
   ·exact h.ntrans z y x (ha.1 z hz) hy
theorem srt_asc {α:Type} {lt:α→α→Bool} (h:SWO lt):∀ l,Asc lt (srt lt l)
 | []=>by simp [srt,Asc]
 | x::l=>insB_asc h x (srt_asc h l)
end Go.Vx
end
section
namespace Go.Vx
open Go Go.Rx Go.Proofs Go.Sort Go.Shelf
set_option linter.unusedVariables false
set_option linter.unusedSimpArgs false
theorem one_ren {m:Nm} {v:Value} (h:v.oneCell'=true):(ren m v).oneCell'=true:=by
 cases v with
 | agg _=>simp [Value.oneCell'] at h
 | tuple _=>simp [Value.oneCell'] at h
 | pointer o=>cases o<;>rfl
 | slice o _ _=>cases o<;>rfl
 | map o=>cases o<;>rfl
 | chan o=>cases o<;>rfl
 | _=>rfl
theorem one_rel {x:Cx} {m:Nm}:∀ {u:U} {v:Value},okC u=true→Rel x u v→(ren m v).oneCell'=true
 | .junk,v,h,_=>by simp [okC] at h
 | .agg _,v,h,_=>by simp [okC] at h
 | .tup _,v,h,_=>by simp [okC] at h
 | .bool _,v,_,h=>by simp only [Rel] at h; subst h; rfl
 | .int _ _,v,_,h=>by simp only [Rel] at h; subst h; rfl
 | .str _,v,_,h=>by simp only [Rel] at h; subst h; rfl
 | .nilp,v,_,h=>by simp only [Rel] at h; subst h; rfl
 | .nils,v,_,h=>by simp only [Rel] at h; subst h; rfl
 | .nilm,v,_,h=>by simp only [Rel] at h; subst h; rfl
 | .nilf,v,_,h=>by simp only [Rel] at h; subst h; rfl
 | .nili,v,_,h=>by simp only [Rel] at h; subst h; rfl
 | .ptr _ _ _,v,_,h=>by simp only [Rel] at h; exact one_ren h.1
 | .sl _ _ _ _,v,_,h=>by simp only [Rel] at h; exact one_ren h.1
 | .vl _ _ _ _,v,_,h=>by simp only [Rel] at h; exact one_ren h.1
 | .map _,v,_,h=>by simp only [Rel] at h; exact one_ren h.1
 | .iptr _,v,_,h=>by simp only [Rel] at h; obtain ⟨i,off,row,e,rfl,_⟩:=h; rfl
 | .isl _ _,v,_,h=>by
  simp only [Rel] at h
  rcases h with ⟨_,rfl | ⟨r,rfl⟩⟩ | ⟨i,off,c,rfl,_⟩<;>rfl
 | .fn _ _ _,v,_,h=>by simp only [Rel] at h; obtain ⟨va,vb,rfl,_⟩:=h; rfl
section
variable {A:Type} {encU:A→List U} {k:Nat} {x:Cx} {m:Nm}
structure El (encU:A→List U) (k:Nat) (x:Cx) (m:Nm) (ds:List A) where
 a:A
 sv:List Value
 mem:a∈ds
 len:sv.length=k
 rel:RelE x (encU a) sv
 ren:∀ m',Agree x.s.nx m m'→renL m' sv=renL m sv
theorem el_split (hk:∀ a,(encU a).length=k) {ds:List A}:∀ (ds0:List A) (l0:List Value),(∀ a∈ds0,a∈ds)→RelE x (ds0.map encU).flatten l0→(∀ m',Agree x.s.nx m m'→renL m' l0=renL m l0) →
  ∃ ps:List (El encU k x m ds),ps.map (fun p=>p.a)=ds0∧(ps.map (fun p=>p.sv)).flatten=l0
 | [],l0,_,h,_=>by
  have:=h.nil_inv
  subst this
  exact ⟨[],rfl,rfl⟩
 | a::ds0,l0,hm,h,hr=>by
  simp only [List.map_cons,List.flatten_cons] at h
  have ht:=h.take k
  have hd:=h.drop k
  rw [List.take_left' (hk a)] at ht
  rw [List.drop_left' (hk a)] at hd
  have hr':∀ m',Agree x.s.nx m m'→renL m' (l0.take k)=renL m (l0.take k)∧renL m' (l0.drop k)=renL m (l0.drop k):=fun m' ha=>by
   have:=hr m' ha
   simp only [q1j,List.map_take,List.map_drop] at this ⊢
   rw [this]; exact ⟨rfl,rfl⟩
  obtain ⟨ps,h1,h2⟩:=el_split hk ds0 (l0.drop k) (fun b hb=>hm b (by simp [hb])) hd fun m' ha=>(hr' m' ha).2
  have hlen:(l0.take k).length=k:=by rw [← ht.2,hk]
  exact ⟨⟨a,l0.take k,hm a (by simp),hlen,ht,fun m' ha=>(hr' m' ha).1⟩::ps,by simp [h1],by simp [h2]⟩
theorem el_rel {ds:List A}:∀ ps:List (El encU k x m ds),RelE x ((ps.map (fun p=>p.a)).map encU).flatten (ps.map (fun p=>p.sv)).flatten
 | []=>RelE.nil x
 | p::ps=>by simp only [List.map_cons,List.flatten_cons]; exact p.rel.append (el_rel ps)
theorem el_ren {ds:List A} {m':Nm} (ha:Agree x.s.nx m m'):∀ ps:List (El encU k x m ds),renL m' (ps.map (fun p=>p.sv)).flatten=(ps.map (fun p=>renL m p.sv)).flatten
 | []=>by simp [renL]
 | p::ps=>by
  have h1:=el_ren ha ps
  have h2:=p.ren m' ha
  simp only [q1j,List.map_cons,List.flatten_cons,List.map_append] at h1 h2 ⊢
  rw [h1,h2]
end
theorem EvU.cmpI {P:Program} {g:FuncId} {args:List U} {vs cargs:List Value} {kd:IntKind} {z:Int} (h:EvU P g args ⟨[],0⟩ (fun u _=>u = .int kd z)) (hb:BelL 0 args) {x:Cx} (hh:HRel x) (he:RelE x args vs) {m:Nm} (hargs:RelL m x.s.nx vs cargs) {w:World} (hf:FitsS m (onlyI x.s) w) :
  Calls P g cargs.toArray w fun e w'=>e = .returned (.int kd z)∧∃ q os,w'=grow (w.drewN q) os:=by
 have hmo:Mo 0 x (cx (onlyI x.s)):=⟨fun k hk=>by omega,fun i row e hl=>by show lk (onlyI x.s).h i=_; rw [q48,hl]; rfl⟩
 have hno:∀ b,¬ Owns m (onlyI x.s) b:=fun b ⟨i,c,hc,ho,_⟩=>by
  rw [q48] at hc
  obtain ⟨_,l,e,rfl⟩:=q4i hc
  simp [Own] at ho
 refine (h (fun _ _=>False) (cx (onlyI x.s)) vs m w cargs rfl ⟨fun k b hb=>by simp [cx,gt] at hb,fun k k' b b' i hb=>by simp [cx,gt] at hb,fun i b hb=>?_⟩ (fun _ _ hF=>hF.elim) (hmo.ke.E hb he) hf hargs).mono ?_
 ·have hb':lk (onlyI x.s).h i=some b:=hb
  rw [q48] at hb'
  exact hh.bd i b (q4i hb').1
 rintro e w₂ ⟨y2,m₂,u',v',cv,rfl,rfl,hadv,hrel,_,_,hru,_,_⟩
 simp only [Rel] at hru
 subst hru
 have:cv = .int kd z:=by rw [← hrel.at]; simp [ren]
 subst this
 exact ⟨rfl,below_grow (hadv.below fun b=>hno b) hadv.drawn⟩
theorem holdsK_of {α:Type} [Inhabited α] {enc:α→List Value} {k:Nat} (hk:∀ x,(enc x).length=k) (hk0:0<k) {w:World} {b off:Nat} {pre rest:List Value} {e:TypeId} {ps:List α} (hheap:w.heap[b]? = some (.cells (pre++(ps.map enc).flatten++rest).toArray e (0,0))) (hpre:pre.length=off):HoldsK enc k w b off ps.toArray:=by
 unfold HoldsK Holds
 rw [flatK_eq hk hk0]
 intro j hj
 simp only [List.size_toArray] at hj
 refine ⟨?_,?_⟩
 ·simp only [World.cell?,hheap]
  simp only [Option.isSome_none,Bool.false_eq_true,if_false,List.getElem?_toArray,id]
  rw [List.append_assoc,List.getElem?_append_right (by omega),List.getElem?_append_left (by omega)]
  rw [show off+j - pre.length=j by omega,List.getElem?_eq_getElem hj,getElem!_pos _ _ (by simpa using hj)]
  simp
 ·simp [World.frozen?,hheap]
end Go.Vx
end
section
namespace Go.Vx
open Go Go.Rx Go.Proofs Go.Sort Go.Shelf
set_option linter.unusedVariables false
set_option linter.unusedSimpArgs false
def fLt {A:Type} (f:A→A→Option Int) (x y:A):Bool:=decide ((f x y).getD 0<0)
def okSort {A:Type} (eq:A→A→Bool) (f:A→A→Option Int) (ds:List A):Bool :=
 ds.all fun x=>!(fLt f x x)&&ds.all fun y=>(f x y).isSome&&((fLt f x y || (fLt f y x || eq x y))&&ds.all fun z=>(!(fLt f x y&&fLt f y z) || fLt f x z)&&(fLt f x y || (fLt f y z || !(fLt f x z))))
def sortO {A:Type} (eq:A→A→Bool) (f:A→A→Option Int) (ds:List A):Option (List A):=cond (Nat.ble ds.length 1000000&&okSort eq f ds) (some (srt (fLt f) ds)) none
structure OkS {A:Type} (f:A→A→Option Int) (S:A→Prop):Prop where
 irrefl:∀ x,S x→fLt f x x=false
 some:∀ x y,S x→S y→∃ z,f x y=some z
 anti:∀ x y,S x→S y→fLt f x y=false→fLt f y x=false→x=y
 trans:∀ x y z,S x→S y→S z→fLt f x y=true→fLt f y z=true→fLt f x z=true
 ntrans:∀ x y z,S x→S y→S z→fLt f x y=false→fLt f y z=false→fLt f x z=false
theorem okSort_iff {A:Type} {eq:A→A→Bool} (heq:∀ x y,eq x y=true→x=y) {f:A→A→Option Int} {ds:List A} (h:okSort eq f ds=true):OkS f (· ∈ ds):=by
 unfold okSort at h
 rw [List.all_eq_true] at h
 have h1:∀ x∈ds,fLt f x x=false∧∀ y∈ds,(f x y).isSome=true∧(fLt f x y || (fLt f y x || eq x y))=true∧∀ z∈ds,(!(fLt f x y&&fLt f y z) || fLt f x z)=true∧(fLt f x y || (fLt f y z || !(fLt f x z)))=true:=fun x hx=>by
  have a:=h x hx
  rw [Bool.and_eq_true,Bool.not_eq_true',List.all_eq_true] at a
  refine ⟨a.1,fun y hy=>?_⟩
  have b:=a.2 y hy
  rw [Bool.and_eq_true,Bool.and_eq_true,List.all_eq_true] at b
  refine ⟨b.1,b.2.1,fun z hz=>?_⟩
  have c:=b.2.2 z hz
  rw [Bool.and_eq_true] at c
  exact c
 refine ⟨fun x hx=>(h1 x hx).1,fun x y hx hy=>Option.isSome_iff_exists.1 ((h1 x hx).2 y hy).1,fun x y hx hy a b=>?_,fun x y z hx hy hz a b=>?_,fun x y z hx hy hz a b=>?_⟩
 ·have:=((h1 x hx).2 y hy).2.1
  rw [a,b] at this
  exact heq x y (by simpa using this)
 ·have:=(((h1 x hx).2 y hy).2.2 z hz).1
  rw [a,b] at this
  simpa using this
 ·have:=(((h1 x hx).2 y hy).2.2 z hz).2
  rw [a,b] at this
  simpa using this
theorem insB_ascM {A:Type} {f:A→A→Option Int} {S:A→Prop} (h:OkS f S) (x:A) (hx:S x):∀ {l},(∀ y∈l,S y)→Asc (fLt f) l→Asc (fLt f) (insB (fLt f) x l)
 | [],_,_=>by simp [insB,Asc]
 | y::l,hS,ha=>by
  have hyS:=hS y (by simp)
  have hlS:∀ z∈l,S z:=fun z hz=>hS z (by simp [hz])
  simp only [insB]
  unfold Asc at ha ⊢
  rw [List.pairwise_cons] at ha
  cases hy:fLt f y x with
  | true =>
   simp only [cond_true]
   rw [List.pairwise_cons]
   refine ⟨fun z hz=>?_,insB_ascM h x hx hlS ha.2⟩
   have:=(q9p (fLt f) x l).mem_iff.1 hz
   rcases List.mem_cons.1 this with rfl | hz
   ·cases hzy:fLt f z y with
    | false=>rfl
    | true=>have:=h.trans y z y hyS hx hyS hy hzy; rw [h.irrefl y hyS] at this; cases this
   ·exact ha.1 z hz
  | false =>
   simp only [cond_false]
   rw [List.pairwise_cons]
   refine ⟨fun z hz=>?_,List.pairwise_cons.2 ha⟩
   rcases List.mem_cons.1 hz with rfl | hz
   ·exact hy
   ·exact h.ntrans z y x (hlS z hz) hyS hx (ha.1 z hz) hy
theorem srt_ascM {A:Type} {f:A→A→Option Int} {S:A→Prop} (h:OkS f S):∀ l,(∀ y∈l,S y)→Asc (fLt f) (srt (fLt f) l)
 | [],_=>by simp [srt,Asc]
 | x::l,hS=>insB_ascM h x (hS x (by simp)) (fun y hy=>hS y (by simp [(qa3 (fLt f) l).mem_iff.1 hy])) (srt_ascM h l fun y hy=>hS y (by simp [hy]))
theorem qbr {A:Type} {f:A→A→Option Int} {S:A→Prop} (h:OkS f S):∀ {a b:List A},(∀ y∈a,S y)→Asc (fLt f) a→Asc (fLt f) b→a.Perm b→a=b
 | [],b,_,_,_,hp=>by rw [hp.nil_eq]
 | x::a,[],_,_,_,hp=>by have:=hp.length_eq; simp at this
 | x::a,y::b,hS,ha,hb,hp=>by
  unfold Asc at ha hb
  rw [List.pairwise_cons] at ha hb
  have hxy:x=y:=by
   have h1:x∈y::b:=hp.mem_iff.1 (by simp)
   have h2:y∈x::a:=hp.mem_iff.2 (by simp)
   rcases List.mem_cons.1 h1 with h1 | h1
   ·exact h1
   ·rcases List.mem_cons.1 h2 with h2 | h2
    ·exact h2.symm
    ·exact h.anti x y (hS x (by simp)) (hS y (by simp [h2])) (hb.1 x h1) (ha.1 y h2)
  subst hxy
  rw [qbr h (fun z hz=>hS z (by simp [hz])) ha.2 hb.2 (List.Perm.cons_inv hp)]
theorem OkS.swo {A:Type} {f:A→A→Option Int} {S:A→Prop} (h:OkS f S) {B:Type} (e:B→A) (he:∀ b,S (e b)):SWO (ltOf fun p q:B=>(f (e p) (e q)).getD 0) :=
 ⟨fun x=>h.irrefl _ (he x),fun x y z=>h.trans _ _ _ (he x) (he y) (he z),fun x y z=>h.ntrans _ _ _ (he x) (he y) (he z)⟩
end Go.Vx
end
