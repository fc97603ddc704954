/-
  Texts of the walk: VxV MpI MpK MpM SrtJ H0 H2 H3.
-/
import Derived.Shelf.SlSortCmp.WholeK
import Derived.Test.YtdpffcolmflpjaaP13
section
namespace Go.Vx
open Go Go.Rx Go.Proofs Go.Sort
set_option linter.unusedVariables false
theorem EvU.of_same {P:Program} {f:FuncId} {us:List U} {vs:List Value} {u:U} {cv:Value} (hv:toVL us=some vs) (hr:∀ m,renL m vs=vs) (hu:toV u=some cv) (hru:∀ m,ren m cv=cv) (h:∀ w,Calls P f vs.toArray w fun e w'=>e = .returned cv∧w'=w) (σ:Sg):EvU P f us σ (fun u' σ'=>u'=u∧σ'=σ):=fun F x ws m w cargs hx hh hfr he hfit hargs=>by
 have:=(q7n us vs hv x ws).1 he
 subst this
 have hca:cargs=ws:=by rw [← hargs.at,hr]
 subst hca
 refine (h w).mono ?_
 rintro e w' ⟨rfl,rfl⟩
 exact ⟨x,m,u,cv,cv,rfl,⟨rfl,hx⟩,Adv.refl hfit,fun m' _=>hru m',hh,hfr,(q3z u cv hu x cv).2 rfl,Ke.refl _ _,Nat.le_refl _⟩
theorem EvU.view0 {P:Program} {f:FuncId} {args args':List U} {σ:Sg} (h:EvU P f args ⟨[],0⟩ (fun u' _=>u' = .tup []∧Bel 0 u')) (ha:BelL 0 args) {σ1:Sg} (hg:Gh 0 args' σ args σ1):EvU P f args' σ (fun u' σ'=>u' = .tup []∧σ'=σ):=fun F x vs m w cargs hx hh hfr he hfit hargs=>by
 obtain ⟨y1,a1,a2,a3,a4,a5,a6⟩:=hg F x vs hx hh hfr he
 have hadv1:=a1 m w hfit
 have hadv2:=Adv.less hadv1.fits (less_onlyI y1.s)
 have hmo:Mo 0 y1 (cx (onlyI y1.s)):=⟨fun k hk=>by omega,fun i row e hl=>by show lk (onlyI y1.s).h i=_; rw [q41,hl]; rfl⟩
 have hno:∀ b,¬ Owns m (onlyI y1.s) b:=fun b ⟨i,c,hc,ho,_⟩=>by
  rw [q41] at hc
  obtain ⟨_,l,e,rfl⟩:=q49 hc
  simp [Rx.Own] at ho
 refine (h (fun _ _=>False) (cx (onlyI y1.s)) vs m w cargs rfl ⟨fun k b hb=>by simp [cx,gt] at hb,fun k k' b b' i hb=>by simp [cx,gt] at hb,fun i b hb=>?_⟩ (fun _ _ hF=>hF.elim) (hmo.ke.E ha a5) hadv2.fits (hargs.ext (Agree.refl _ _) (Nat.le_trans hadv1.nx hadv2.nx))).mono ?_
 ·have hb':lk (onlyI y1.s).h i=some b:=hb
  rw [q41] at hb'
  exact a3.bd i b (q49 hb').1
 rintro e w₂ ⟨y2,m₂,u',v',cv,rfl,⟨rfl,_⟩,hadv,hrel,_,_,hru,_,_⟩
 simp only [Rel] at hru
 obtain ⟨q,rfl,_,hq⟩:=hru
 have:q=[]:=List.eq_nil_of_length_eq_zero (by simpa using hq.symm)
 subst this
 have hcv:cv = .tuple ⟨[]⟩:=by rw [← hrel.at]; simp [ren,renL]
 subst hcv
 have hsame:∀ b,b<w.heap.size→w₂.heap[b]? = w.heap[b]?:=fun b hlt=>hadv.same b hlt (hno b)
 refine ⟨x,m,.tup [],.tuple ⟨[]⟩,.tuple ⟨[]⟩,rfl,⟨rfl,hx⟩,⟨Agree.refl _ _,Nat.le_refl _,fun m' hm'=>?_,fun b h=>.inl h,fun b hlt _=>hsame b hlt,hadv.size,hadv.os,hadv.tape,hadv.output,hadv.drawn⟩,fun m' _=>by simp [ren,renL],hh,hfr,by simp only [Rel]; exact ⟨[],rfl,by simp [RelP],rfl⟩,Ke.refl _ _,Nat.le_refl _⟩
 have hfm:=hfit m' hm'
 exact ⟨fun i b hb=>(hfm.ok i b hb).world (hsame _ (hfm.size hb)),hfm.inj,hfm.bd⟩
def insB {α:Type} (lt:α→α→Bool) (x:α):List α→List α
 | []=>[x]
 | y::l=>cond (lt y x) (y::insB lt x l) (x::y::l)
def srt {α:Type} (lt:α→α→Bool):List α→List α
 | []=>[]
 | x::l=>insB lt x (srt lt l)
theorem qao {α:Type} (lt:α→α→Bool) (x:α):∀ l,(insB lt x l).Perm (x::l)
 | []=>.refl _
 | y::l=>by
  simp only [insB]
  cases lt y x with
  | true=>exact ((qao lt x l).cons y).trans (.swap _ _ _)
  | false=>exact .refl _
theorem q7l {α:Type} (lt:α→α→Bool):∀ l,(srt lt l).Perm l
 | []=>.refl _
 | x::l=>(qao lt x _).trans ((q7l lt l).cons x)
def Asc {α:Type} (lt:α→α→Bool) (l:List α):Prop:=l.Pairwise (fun x y=>lt y x=false)
end Go.Vx
end
section
namespace Go.Vx
open Go Go.Rx Go.Proofs Go.Sort Go.Shelf
set_option linter.unusedVariables false
set_option linter.unusedSimpArgs false
theorem one_ren {m:Nm} {v:Value} (h:v.oneCell'=true):(ren m v).oneCell'=true:=by
 cases v with
 | agg _=>simp [Value.oneCell'] at h
 | tuple _=>simp [Value.oneCell'] at h
 | pointer o=>cases o<;>rfl
 | slice o _ _=>cases o<;>rfl
 | map o=>cases o<;>rfl
 | chan o=>cases o<;>rfl
 | _=>rfl
theorem one_rel {x:Cx} {m:Nm}:∀ {u:U} {v:Value},okC u=true→Rel x u v→(ren m v).oneCell'=true
 | .junk,v,h,_=>by simp [okC] at h
 | .agg _,v,h,_=>by simp [okC] at h
 | .tup _,v,h,_=>by simp [okC] at h
 | .bool _,v,_,h=>by simp only [Rel] at h; subst h; rfl
 | .int _ _,v,_,h=>by simp only [Rel] at h; subst h; rfl
 | .str _,v,_,h=>by simp only [Rel] at h; subst h; rfl
 | .nilp,v,_,h=>by simp only [Rel] at h; subst h; rfl
 | .nils,v,_,h=>by simp only [Rel] at h; subst h; rfl
 | .nilm,v,_,h=>by simp only [Rel] at h; subst h; rfl
 | .nilf,v,_,h=>by simp only [Rel] at h; subst h; rfl
 | .nili,v,_,h=>by simp only [Rel] at h; subst h; rfl
 | .ptr _ _ _,v,_,h=>by simp only [Rel] at h; exact one_ren h.1
 | .sl _ _ _ _,v,_,h=>by simp only [Rel] at h; exact one_ren h.1
 | .vl _ _ _ _,v,_,h=>by simp only [Rel] at h; exact one_ren h.1
 | .map _,v,_,h=>by simp only [Rel] at h; exact one_ren h.1
 | .iptr _,v,_,h=>by simp only [Rel] at h; obtain ⟨i,off,row,e,rfl,_⟩:=h; rfl
 | .isl _ _,v,_,h=>by
  simp only [Rel] at h
  rcases h with ⟨_,rfl | ⟨r,rfl⟩⟩ | ⟨i,off,c,rfl,_⟩<;>rfl
 | .fn _ _ _,v,_,h=>by simp only [Rel] at h; obtain ⟨va,vb,rfl,_⟩:=h; rfl
section
variable {A:Type} {encU:A→List U} {k:Nat} {x:Cx} {m:Nm}
structure El (encU:A→List U) (k:Nat) (x:Cx) (m:Nm) (ds:List A) where
 a:A
 sv:List Value
 mem:a∈ds
 len:sv.length=k
 rel:RelE x (encU a) sv
 ren:∀ m',Agree x.s.nx m m'→renL m' sv=renL m sv
theorem el_split (hk:∀ a,(encU a).length=k) {ds:List A}:∀ (ds0:List A) (l0:List Value),(∀ a∈ds0,a∈ds)→RelE x (ds0.map encU).flatten l0→(∀ m',Agree x.s.nx m m'→renL m' l0=renL m l0) →
  ∃ ps:List (El encU k x m ds),ps.map (fun p=>p.a)=ds0∧(ps.map (fun p=>p.sv)).flatten=l0
 | [],l0,_,h,_=>by
  have:=h.nil_inv
  subst this
  exact ⟨[],rfl,rfl⟩
 | a::ds0,l0,hm,h,hr=>by
  simp only [List.map_cons,List.flatten_cons] at h
  have ht:=h.take k
  have hd:=h.drop k
  rw [List.take_left' (hk a)] at ht
  rw [List.drop_left' (hk a)] at hd
  have hr':∀ m',Agree x.s.nx m m'→renL m' (l0.take k)=renL m (l0.take k)∧renL m' (l0.drop k)=renL m (l0.drop k):=fun m' ha=>by
   have:=hr m' ha
   simp only [q1o,List.map_take,List.map_drop] at this ⊢
   rw [this]; exact ⟨rfl,rfl⟩
  obtain ⟨ps,h1,h2⟩:=el_split hk ds0 (l0.drop k) (fun b hb=>hm b (by simp [hb])) hd fun m' ha=>(hr' m' ha).2
  have hlen:(l0.take k).length=k:=by rw [← ht.2,hk]
  exact ⟨⟨a,l0.take k,hm a (by simp),hlen,ht,fun m' ha=>(hr' m' ha).1⟩::ps,by simp [h1],by simp [h2]⟩
theorem el_rel {ds:List A}:∀ ps:List (El encU k x m ds),RelE x ((ps.map (fun p=>p.a)).map encU).flatten (ps.map (fun p=>p.sv)).flatten
 | []=>RelE.nil x
 | p::ps=>by simp only [List.map_cons,List.flatten_cons]; exact p.rel.append (el_rel ps)
theorem el_ren {ds:List A} {m':Nm} (ha:Agree x.s.nx m m'):∀ ps:List (El encU k x m ds),renL m' (ps.map (fun p=>p.sv)).flatten=(ps.map (fun p=>renL m p.sv)).flatten
 | []=>by simp [renL]
 | p::ps=>by
  have h1:=el_ren ha ps
  have h2:=p.ren m' ha
  simp only [q1o,List.map_cons,List.flatten_cons,List.map_append] at h1 h2 ⊢
  rw [h1,h2]
end
theorem EvU.cmpI {P:Program} {g:FuncId} {args:List U} {vs cargs:List Value} {kd:IntKind} {z:Int} (h:EvU P g args ⟨[],0⟩ (fun u _=>u = .int kd z)) (hb:BelL 0 args) {x:Cx} (hh:HRel x) (he:RelE x args vs) {m:Nm} (hargs:RelL m x.s.nx vs cargs) {w:World} (hf:FitsS m (onlyI x.s) w) :
  Calls P g cargs.toArray w fun e w'=>e = .returned (.int kd z)∧∃ q os,w'=grow (w.drewN q) os:=by
 have hmo:Mo 0 x (cx (onlyI x.s)):=⟨fun k hk=>by omega,fun i row e hl=>by show lk (onlyI x.s).h i=_; rw [q41,hl]; rfl⟩
 have hno:∀ b,¬ Owns m (onlyI x.s) b:=fun b ⟨i,c,hc,ho,_⟩=>by
  rw [q41] at hc
  obtain ⟨_,l,e,rfl⟩:=q49 hc
  simp [Rx.Own] at ho
 refine (h (fun _ _=>False) (cx (onlyI x.s)) vs m w cargs rfl ⟨fun k b hb=>by simp [cx,gt] at hb,fun k k' b b' i hb=>by simp [cx,gt] at hb,fun i b hb=>?_⟩ (fun _ _ hF=>hF.elim) (hmo.ke.E hb he) hf hargs).mono ?_
 ·have hb':lk (onlyI x.s).h i=some b:=hb
  rw [q41] at hb'
  exact hh.bd i b (q49 hb').1
 rintro e w₂ ⟨y2,m₂,u',v',cv,rfl,rfl,hadv,hrel,_,_,hru,_,_⟩
 simp only [Rel] at hru
 subst hru
 have:cv = .int kd z:=by rw [← hrel.at]; simp [ren]
 subst this
 exact ⟨rfl,below_grow (hadv.below fun b=>hno b) hadv.drawn⟩
theorem holdsK_of {α:Type} [Inhabited α] {enc:α→List Value} {k:Nat} (hk:∀ x,(enc x).length=k) (hk0:0<k) {w:World} {b off:Nat} {pre rest:List Value} {e:TypeId} {ps:List α} (hheap:w.heap[b]? = some (.cells (pre++(ps.map enc).flatten++rest).toArray e (0,0))) (hpre:pre.length=off):HoldsK enc k w b off ps.toArray:=by
 unfold HoldsK Holds
 rw [flatK_eq hk hk0]
 intro j hj
 simp only [List.size_toArray] at hj
 refine ⟨?_,?_⟩
 ·simp only [World.cell?,hheap]
  simp only [Option.isSome_none,Bool.false_eq_true,if_false,List.getElem?_toArray,id]
  rw [List.append_assoc,List.getElem?_append_right (by omega),List.getElem?_append_left (by omega)]
  rw [show off+j - pre.length=j by omega,List.getElem?_eq_getElem hj,getElem!_pos _ _ (by simpa using hj)]
  simp
 ·simp [World.frozen?,hheap]
end Go.Vx
end
section
namespace Go.Vx
open Go Go.Rx Go.Proofs Go.Sort Go.Shelf
set_option linter.unusedVariables false
set_option linter.unusedSimpArgs false
def fLt {A:Type} (f:A→A→Option Int) (x y:A):Bool:=decide ((f x y).getD 0<0)
def okSort {A:Type} (eq:A→A→Bool) (f:A→A→Option Int) (ds:List A):Bool :=
 ds.all fun x=>!(fLt f x x)&&ds.all fun y=>(f x y).isSome&&((fLt f x y || (fLt f y x || eq x y))&&ds.all fun z=>(!(fLt f x y&&fLt f y z) || fLt f x z)&&(fLt f x y || (fLt f y z || !(fLt f x z))))
def sortO {A:Type} (eq:A→A→Bool) (f:A→A→Option Int) (ds:List A):Option (List A):=cond (Nat.ble ds.length 1000000&&okSort eq f ds) (some (srt (fLt f) ds)) none
structure OkS {A:Type} (f:A→A→Option Int) (S:A→Prop):Prop where
 irrefl:∀ x,S x→fLt f x x=false
 some:∀ x y,S x→S y→∃ z,f x y=some z
 anti:∀ x y,S x→S y→fLt f x y=false→fLt f y x=false→x=y
 trans:∀ x y z,S x→S y→S z→fLt f x y=true→fLt f y z=true→fLt f x z=true
 ntrans:∀ x y z,S x→S y→S z→fLt f x y=false→fLt f y z=false→fLt f x z=false
theorem okSort_iff {A:Type} {eq:A→A→Bool} (heq:∀ x y,eq x y=true→x=y) {f:A→A→Option Int} {ds:List A} (h:okSort eq f ds=true):OkS f (· ∈ ds):=by
 unfold okSort at h
 rw [List.all_eq_true] at h
 have h1:∀ x∈ds,fLt f x x=false∧∀ y∈ds,(f x y).isSome=true∧(fLt f x y || (fLt f y x || eq x y))=true∧∀ z∈ds,(!(fLt f x y&&fLt f y z) || fLt f x z)=true∧(fLt f x y || (fLt f y z || !(fLt f x z)))=true:=fun x hx=>by
  have a:=h x hx
  rw [Bool.and_eq_true,Bool.not_eq_true',List.all_eq_true] at a
  refine ⟨a.1,fun y hy=>?_⟩
  have b:=a.2 y hy
  rw [Bool.and_eq_true,Bool.and_eq_true,List.all_eq_true] at b
  refine ⟨b.1,b.2.1,fun z hz=>?_⟩
  have c:=b.2.2 z hz
  rw [Bool.and_eq_true] at c
  exact c
 refine ⟨fun x hx=>(h1 x hx).1,fun x y hx hy=>Option.isSome_iff_exists.1 ((h1 x hx).2 y hy).1,fun x y hx hy a b=>?_,fun x y z hx hy hz a b=>?_,fun x y z hx hy hz a b=>?_⟩
 ·have:=((h1 x hx).2 y hy).2.1
  rw [a,b] at this
  exact heq x y (by simpa using this)
 ·have:=(((h1 x hx).2 y hy).2.2 z hz).1
  rw [a,b] at this
  simpa using this
 ·have:=(((h1 x hx).2 y hy).2.2 z hz).2
  rw [a,b] at this
  simpa using this
theorem insB_ascM {A:Type} {f:A→A→Option Int} {S:A→Prop} (h:OkS f S) (x:A) (hx:S x):∀ {l},(∀ y∈l,S y)→Asc (fLt f) l→Asc (fLt f) (insB (fLt f) x l)
 | [],_,_=>by simp [insB,Asc]
 | y::l,hS,ha=>by
  have hyS:=hS y (by simp)
  have hlS:∀ z∈l,S z:=fun z hz=>hS z (by simp [hz])
  simp only [insB]
  unfold Asc at ha ⊢
  rw [List.pairwise_cons] at ha
  cases hy:fLt f y x with
  | true =>
   simp only [cond_true]
   rw [List.pairwise_cons]
   refine ⟨fun z hz=>?_,insB_ascM h x hx hlS ha.2⟩
   have:=(qao (fLt f) x l).mem_iff.1 hz
   rcases List.mem_cons.1 this with rfl | hz
   ·cases hzy:fLt f z y with
    | false=>rfl
    | true=>have:=h.trans y z y hyS hx hyS hy hzy; rw [h.irrefl y hyS] at this; cases this
   ·exact ha.1 z hz
  | false =>
   simp only [cond_false]
   rw [List.pairwise_cons]
   refine ⟨fun z hz=>?_,List.pairwise_cons.2 ha⟩
   rcases List.mem_cons.1 hz with rfl | hz
   ·exact hy
   ·exact h.ntrans z y x (hlS z hz) hyS hx (ha.1 z hz) hy
theorem srt_ascM {A:Type} {f:A→A→Option Int} {S:A→Prop} (h:OkS f S):∀ l,(∀ y∈l,S y)→Asc (fLt f) (srt (fLt f) l)
 | [],_=>by simp [srt,Asc]
 | x::l,hS=>insB_ascM h x (hS x (by simp)) (fun y hy=>hS y (by simp [(q7l (fLt f) l).mem_iff.1 hy])) (srt_ascM h l fun y hy=>hS y (by simp [hy]))
theorem qaa {A:Type} {f:A→A→Option Int} {S:A→Prop} (h:OkS f S):∀ {a b:List A},(∀ y∈a,S y)→Asc (fLt f) a→Asc (fLt f) b→a.Perm b→a=b
 | [],b,_,_,_,hp=>by rw [hp.nil_eq]
 | x::a,[],_,_,_,hp=>by have:=hp.length_eq; simp at this
 | x::a,y::b,hS,ha,hb,hp=>by
  unfold Asc at ha hb
  rw [List.pairwise_cons] at ha hb
  have hxy:x=y:=by
   have h1:x∈y::b:=hp.mem_iff.1 (by simp)
   have h2:y∈x::a:=hp.mem_iff.2 (by simp)
   rcases List.mem_cons.1 h1 with h1 | h1
   ·exact h1
   ·rcases List.mem_cons.1 h2 with h2 | h2
    ·exact h2.symm
    ·exact h.anti x y (hS x (by simp)) (hS y (by simp [h2])) (hb.1 x h1) (ha.1 y h2)
  subst hxy
  rw [qaa h (fun z hz=>hS z (by simp [hz])) ha.2 hb.2 (List.Perm.cons_inv hp)]
theorem OkS.swo {A:Type} {f:A→A→Option Int} {S:A→Prop} (h:OkS f S) {B:Type} (e:B→A) (he:∀ b,S (e b)):SWO (ltOf fun p q:B=>(f (e p) (e q)).getD 0) :=
 ⟨fun x=>h.irrefl _ (he x),fun x y z=>h.trans _ _ _ (he x) (he y) (he z),fun x y z=>h.ntrans _ _ _ (he x) (he y) (he z)⟩
def SortKC (P:Program) (f g:FuncId) (k:Nat):Prop:=∀ (α:Type) [Inhabited α] (enc:α→List Value) (cf:α→α→Int),(∀ x,(enc x).length=k)→(∀ x,∀ v∈enc x,v.oneCell'=true)→SWO (ltOf cf) →
 ∀ (cb:Array Value) (blk off cap:Nat) (d:Array α) (w:World),CmpLays P g cb enc k cf blk off d.size w→HoldsK enc k w blk off d→blk<w.heap.size→d.size<4611686018427387904 →
  Calls P f #[.slice (some ⟨blk,off,none⟩) d.size cap,.func (.func g) #[] cb] w fun e w'=>e = .returned (.tuple #[])∧∃ d' n os,PermIn 0 d.size d d'∧SortedIn (ltOf cf) 0 d.size d'∧w'=sortWorldK enc k w blk off n d' os
theorem EvU.sortC {A:Type} {P:Program} {f g:FuncId} {encU:A→List U} {k:Nat} (hk:∀ a,(encU a).length=k) (hk0:0<k) (hok:∀ a,okL (encU a)=true) (hbl:∀ a,BelL 0 (encU a)) {cs:List U} (hcs:BelL 0 cs) {f1:A→A→Option Int} (hs:SortKC P f g k)
  (ds:List A) (hO:OkS f1 (· ∈ ds)) (hcmp:∀ a b r,f1 a b=some r→EvU P g (.agg (encU a) :: .agg (encU b)::cs) ⟨[],0⟩ (fun u _=>u = .int .i64 r))
  {σ:Sg} {K st:Nat} {e:TypeId} (hne:ds≠[]) (hlen:ds.length<4611686018427387904) (hg:gt σ.h K=some (.vec ((ds.map encU).flatten) e k st)) :
  EvU P f [.vl K st 0 ds.length,.fn (.func g) [] cs] σ (fun u σ'=>u = .tup []∧σ'=⟨ug σ.h K (.vec (((srt (fLt f1) ds).map encU).flatten) e k st),σ.nx⟩):=fun F x vs m w cargs hx hh hfr he hfit hargs=>by
 subst hx
 obtain ⟨v0,vs0,rfl,h0,he⟩:=he.inv
 obtain ⟨v1,vs1,rfl,h1,he⟩:=he.inv
 have:=he.nil_inv
 subst this
 simp only [Rel] at h0 h1
 obtain ⟨va,vb,rfl,_,hva,hvbP,hvb⟩:=h1
 have hva':va=[]:=by cases va with
  | nil=>rfl
  | cons=>simp at hva
 subst hva'
 have hvE:RelE x cs vb:=⟨hvbP,hvb⟩
 have hvr:∀ m',Agree x.s.nx m m'→renL m' vb=renL m vb:=fun m' ha=>by
  have h1:=hargs m' ha
  have h2:=hargs m (Agree.refl _ _)
  rw [← h2] at h1
  simp only [renL,ren,renA,List.cons.injEq,Value.func.injEq,Array.mk.injEq,and_true,true_and] at h1
  exact h1.2
 obtain ⟨_,hK,h0⟩:=h0
 obtain ⟨l,e',sz,hb,hvl⟩:=(h0 _ hg).2 rfl
 cases hb
 obtain ⟨_,hBk⟩:=hh.ok K _ hg
 obtain ⟨_,_,hB⟩:=hBk
 have hflat:(ds.map encU).flatten≠[]:=fun hn=>by
  cases ds with
  | nil=>exact hne rfl
  | cons a ds =>
   simp only [List.map_cons,List.flatten_cons,List.append_eq_nil_iff] at hn
   have:=hk a
   rw [hn.1] at this
   simp at this
   omega
 rcases hB with ⟨hn,_⟩ | ⟨i,l',hρ,hlk,hE⟩
 ·exact absurd hn hflat
 rw [hρ] at hvl
 simp only [VlOk] at hvl
 rcases hvl with ⟨hbad,_⟩ | rfl
 ·omega
 have hfit0:=hfit m (Agree.refl _ _)
 have hinx:=hh.bd i _ hlk
 obtain ⟨pre,rest,hheap,hpre,hcap⟩:=(hfit0.ok i _ hlk:RowOk m i _ e w (k+2))
 have hcargs:=hargs.at
 simp only [renL,ren,renA] at hcargs
 subst hcargs
 have hblk:m.blk i<w.heap.size:=hfit0.size hlk
 have hag:∀ m',Agree x.s.nx m m'→renL m' l'=renL m l':=fun m' ha=>by
  obtain ⟨a1,a2,a3⟩:=ha i hinx
  obtain ⟨pre',rest',hheap',hpre',_⟩:=((hfit m' ha).ok i _ hlk:RowOk m' i _ e w (k+2))
  rw [a1,hheap] at hheap'
  simp only [Option.some.injEq,Obj.cells.injEq,and_true] at hheap'
  have h1:=congrArg Array.toList hheap'
  simp only [List.append_assoc] at h1
  have hl:pre.length=pre'.length:=by omega
  have h2:=List.append_inj_right h1 hl
  exact (List.append_inj_left h2 (by simp [q1o])).symm
 obtain ⟨ps,hps1,hps2⟩:=el_split hk ds l' (fun a h=>h) hE hag
 have hpl:ps.length=ds.length:=by have h:=congrArg List.length hps1; simpa using h
 have hpne:ps≠[]:=fun h=>by rw [h] at hpl; exact hne (List.length_eq_zero_iff.1 hpl.symm)
 let p0:El encU k x m ds:=ps.head hpne
 letI:Inhabited (El encU k x m ds):=⟨p0⟩
 let enc:El encU k x m ds→List Value:=fun p=>renL m p.sv
 let cg:El encU k x m ds→El encU k x m ds→Int:=fun p q=>(f1 p.a q.a).getD 0
 have hek:∀ p,(enc p).length=k:=fun p=>by simp only [enc,q1o,List.length_map,p.len]
 have hone:∀ p,∀ v∈enc p,v.oneCell'=true:=fun p v hv=>by
  simp only [enc,q1o,List.mem_map] at hv
  obtain ⟨v',hv',rfl⟩:=hv
  obtain ⟨j,hj⟩:=List.getElem?_of_mem hv'
  have hjl:j<(encU p.a).length:=by rw [p.rel.2]; exact (List.getElem?_eq_some_iff.1 hj).1
  obtain ⟨v2,h1,h2⟩:=p.rel.get (List.getElem?_eq_getElem hjl)
  rw [hj] at h1; cases h1
  exact one_rel ((q64 _).1 (hok p.a) _ (List.getElem_mem hjl)) h2
 have hrl:renL m l'=(ps.map enc).flatten:=by rw [← hps2]; exact el_ren (Agree.refl _ _) ps
 rw [hrl] at hheap
 have hholds:HoldsK enc k w (m.blk i) (m.sh i+0*k) ps.toArray:=holdsK_of hek hk0 hheap (by omega)
 have hlays:CmpLays P g (renL m vb).toArray enc k cg (m.blk i) (m.sh i+0*k) ps.toArray.size w:=fun n os dk hdk p q=>by
  obtain ⟨z,hz⟩:=hO.some p.a q.a p.mem q.mem
  have hcz:cg p q=z:=by simp [cg,hz]
  rw [hcz]
  have hin:=EvU.cmpI (hcmp p.a q.a z hz) (by simp only [BelL,Bel]; exact ⟨hbl _,hbl _,hcs⟩) hh (vs:=.agg ⟨p.sv⟩ :: .agg ⟨q.sv⟩::vb) (cargs:=.agg (enc p).toArray :: .agg (enc q).toArray::renL m vb) (m:=m)
   (RelE.cons (by simp only [Rel]; exact ⟨_,rfl,p.rel.1,p.rel.2,hok _⟩) (RelE.cons (by simp only [Rel]; exact ⟨_,rfl,q.rel.1,q.rel.2,hok _⟩) hvE))
   (fun m' ha=>by simp only [renL,ren,renA,enc,p.ren m' ha,q.ren m' ha,hvr m' ha])
   (w:=sortWorldK enc k w (m.blk i) (m.sh i+0*k) n dk os) (fun m' ha=>by
    have ha':Agree x.s.nx m m':=ha
    have hf':=hfit m' ha'
    refine ⟨fun j b hj=>?_,fun j j' b c hj hj' hne ho=>?_,fun j b hj=>?_⟩
    ·rw [q41] at hj
     obtain ⟨hj,l2,e2,rfl⟩:=q49 hj
     refine (hf'.ok j _ hj).world ?_
     have hne:m'.blk j≠m.blk i:=fun hc=>by
      have hij:i≠j:=fun h=>by subst h; rw [hlk] at hj; cases hj
      have:=hf'.inj i j _ _ hlk hj hij rfl
      rw [(ha' i hinx).1] at this
      exact this hc.symm
     have hsz:=hf'.size hj
     unfold sortWorldK putRowK putRow mapBlock
     simp only [Sort.grow]
     rw [Array.getElem?_append_left (by simpa [Sort.ahead] using hsz)]
     simp only [Array.getElem?_modify,Sort.ahead]
     rw [if_neg (Ne.symm hne)]
    ·rw [q41] at hj
     obtain ⟨_,l2,e2,rfl⟩:=q49 hj
     simp [Rx.Own] at ho
    ·rw [q41] at hj
     exact hh.bd j b (q49 hj).1)
  simpa using hin
 have hc:=hs (El encU k x m ds) enc cg hek hone (hO.swo (fun p:El encU k x m ds=>p.a) fun p=>p.mem) (renL m vb).toArray (m.blk i) (m.sh i+0*k) (capOf m i (capBase+0)) ps.toArray w hlays hholds hblk (by simpa [hpl] using hlen)
 simp only [List.size_toArray,hpl] at hc
 refine (show Calls P f _ w _ from hc).mono ?_
 rintro e1 w' ⟨rfl,d',n,os,hperm,hsorted,rfl⟩
 obtain ⟨ps',rfl⟩:∃ ps':List (El encU k x m ds),d'=ps'.toArray:=⟨d'.toList,by simp⟩
 have hsz':ps'.length=ps.length:=by have:=hperm.1; simpa using this
 have hsrt:ps'.map (fun p=>p.a)=srt (fLt f1) ds:=by
  have hp:ps'.Perm ps:=by
   have h3:=hperm.2.2
   have e1:(ps'.toArray.extract 0 ds.length).toList=ps':=by simp [← hpl,← hsz']
   have e2:(ps.toArray.extract 0 ds.length).toList=ps:=by simp [← hpl]
   rwa [e1,e2] at h3
  refine qaa hO (fun y hy=>?_) ?_ (srt_ascM hO ds fun y hy=>hy) (((hp.map _).trans (List.Perm.of_eq hps1)).trans (q7l _ ds).symm)
  ·obtain ⟨p,_,rfl⟩:=List.mem_map.1 hy; exact p.mem
  unfold Asc
  rw [List.pairwise_iff_getElem]
  intro a b ha hb hab
  simp only [List.length_map] at ha hb
  have:=hsorted a b (Nat.zero_le _) hab (by omega)
  simpa [ha,hb,cg,ltOf,fLt] using this
 have hll:((ps'.map enc).flatten).length=((ps.map enc).flatten).length:=by rw [q8c hek,q8c hek,hsz']
 have hll2:((ps'.map fun p=>p.sv).flatten).length=l'.length:=by
  have h1:∀ qs:List (El encU k x m ds),((qs.map fun p=>p.sv).flatten).length=qs.length*k:=fun qs=>q8c (enc:=fun p:El encU k x m ds=>p.sv) (fun p=>p.len) qs
  rw [h1,hsz',← h1,hps2]
 have hrow:(putRowK enc k (Sort.ahead w n) (m.blk i) (m.sh i+0*k) ps'.toArray).heap[m.blk i]? = some (.cells (pre++(ps'.map enc).flatten++rest).toArray e (0,0)):=by
  unfold putRowK putRow mapBlock
  rw [flatK_eq hek hk0]
  simp only [Array.getElem?_modify,if_true,Sort.ahead,hheap,Option.map_some,onCells]
  rw [show m.sh i+0*k=pre.length by omega,putCells_mid _ _ _ _ hll]
 have hadv1:Adv m x.s w m ⟨up x.s.h i (.inl ((ps'.map fun p=>p.sv).flatten,e,k+2)),x.s.nx⟩ (putRowK enc k (Sort.ahead w n) (m.blk i) (m.sh i+0*k) ps'.toArray):=by
  refine Adv.write hfit hlk rfl (fun j hj=>?_) (by simp [putRowK,putRow,mapBlock,Sort.ahead]) rfl rfl rfl (Nat.le_add_right _ _) fun m' ha=>?_
  ·unfold putRowK putRow mapBlock
   simp only [Array.getElem?_modify,Sort.ahead]
   rw [if_neg (Ne.symm hj)]
  ·obtain ⟨a1,a2,a3⟩:=ha i hinx
   refine ⟨pre,rest,?_,by rw [a2]; exact hpre,?_⟩
   ·rw [a1,el_ren ha]; exact hrow
   ·rw [hll2,a3]; exact hcap
 have hout:=q7m (c:=.inl ((ps'.map fun p=>p.sv).flatten,e,k+2)) (bK:=.vec (((srt (fLt f1) ds).map encU).flatten) e k st) hh hg hρ hlk rfl (by rintro l e sz st h; cases h; exact ⟨_,rfl⟩) fun y h1 h2 hm=>⟨okL_flat hok _,hk0,.inr ⟨i,_,h1,h2,by
  rw [← hsrt]
  exact hm.ke.E (el_rel ps').bel (el_rel ps')⟩⟩
 refine ⟨_,m,.tup [],.tuple #[],.tuple #[],rfl,⟨rfl,rfl⟩,hadv1.trans (adv_grow hadv1.fits os),fun m' _=>by simp [ren,renA,renL],hout.h,hout.fr F hfr,by simp [Rel,RelP],hout.mo.ke,Nat.le_refl _⟩
end Go.Vx
end
section
namespace Go.Vx
open Go Go.Rx Go.Proofs Go.Sort Go.Shelf
set_option linter.unusedVariables false
set_option linter.unusedSimpArgs false
theorem sortO_some {A:Type} {eq:A→A→Bool} {f:A→A→Option Int} {ds ys:List A} (h:sortO eq f ds=some ys):ds.length≤1000000∧okSort eq f ds=true∧ys=srt (fLt f) ds:=by
 unfold sortO at h
 cases hc:(Nat.ble ds.length 1000000&&okSort eq f ds) with
 | false=>rw [hc] at h; cases h
 | true =>
  rw [hc] at h
  rw [Bool.and_eq_true,Nat.ble_eq] at hc
  exact ⟨hc.1,hc.2,(Option.some.inj h).symm⟩
theorem sortO_len {A:Type} {eq:A→A→Bool} {f:A→A→Option Int} {ds ys:List A} (h:sortO eq f ds=some ys):ys.length=ds.length:=by
 obtain ⟨_,_,rfl⟩:=sortO_some h
 exact (q7l (fLt f) ds).length_eq
theorem ug_gt:∀ {h:List (Nat×B)} {K:Nat} {b:B},gt h K=some b→ug h K b=h
 | [],K,b,hb=>by simp [gt] at hb
 | (j,c)::h,K,b,hb=>by
  simp only [gt,ug,beq_eq] at hb ⊢
  by_cases e:j=K
  ·simp [e] at hb; simp [e,hb]
  ·simp only [e,decide_false,cond_false] at hb ⊢
   rw [ug_gt hb]
theorem sort_nil {P:Program} {f g:FuncId} {cs:List U} (hcs:BelL 0 cs) (hnil:EvU P f [.isl false [],.fn (.func g) [] cs] ⟨[],0⟩ (fun u _=>u = .tup []∧Bel 0 u)) (σ:Sg) {K t k:Nat} {e:TypeId} (hg:gt σ.h K=some (.vec [] e k t)) :
  EvU P f [.vl K t 0 0,.fn (.func g) [] cs] σ (fun u σ'=>u = .tup []∧σ'=⟨ug σ.h K (.vec [] e k t),σ.nx⟩):=by
 have h1:=EvU.view0 (args':=[.vl K t 0 0,.fn (.func g) [] cs]) (σ:=σ) hnil (by simp only [BelL,Bel,BelR,true_and,and_true]; exact hcs) (Gh.trans (Gh.fz K (.vec [] e k t) k hg (by simp) rfl rfl) (Gh.eqv (by
  simp only [q03,q07,q1i,q2g _ _ cs (BelL.le (Nat.zero_le K) cs hcs)]
  have:=fz_vl (c:=fun _:Unit=>List.replicate k U.nils) (sz:=k) (fun _=>by simp) ([]:List Unit) K k e t
  simpa using this) rfl))
 refine h1.mono ?_
 rintro u σ' ⟨rfl,rfl⟩
 exact ⟨rfl,by rw [ug_gt hg]⟩
theorem sortO_ok {A:Type} {P:Program} {f g:FuncId} {encU:A→List U} {k:Nat} (hk:∀ a,(encU a).length=k) (hk0:0<k) (hok:∀ a,okL (encU a)=true) (hbl:∀ a,BelL 0 (encU a)) {cs:List U} (hcs:BelL 0 cs) (hs:SortKC P f g k) {eq:A→A→Bool} (heq:∀ x y,eq x y=true→x=y)
  (hnil:EvU P f [.isl false [],.fn (.func g) [] cs] ⟨[],0⟩ (fun u _=>u = .tup []∧Bel 0 u)) {f1:A→A→Option Int} (hcmp:∀ a b r,f1 a b=some r→EvU P g (.agg (encU a) :: .agg (encU b)::cs) ⟨[],0⟩ (fun u _=>u = .int .i64 r∧Bel 0 u))
  (xs ys:List A) (h:sortO eq f1 xs=some ys) (σ:Sg) {K t:Nat} {e:TypeId} (hK:Nat.blt K σ.nx=true) (hg:gt σ.h K=some (.vec (xs.map encU).flatten e k t)) :
  EvU P f [.vl K t 0 xs.length,.fn (.func g) [] cs] σ (fun u σ'=>u = .tup []∧σ'=⟨ug σ.h K (.vec (ys.map encU).flatten e k t),σ.nx⟩):=by
 obtain ⟨h1,h2,rfl⟩:=sortO_some h
 by_cases hne:xs=[]
 ·subst hne
  exact sort_nil hcs hnil σ hg
 ·exact EvU.sortC hk hk0 hok hbl hcs hs xs (okSort_iff heq h2) (fun a b r h=>(hcmp a b r h).mono fun u s h=>h.1) hne (by omega) hg
end Go.Vx
end
section
namespace Go.Proofs
open Go
set_option maxRecDepth 100000
def Try.sortJ_ren:Shelf.Ren where
 f:=fun x=>match x with
  | 6=>54
  | 15=>58
  | 14=>57
  | 28=>67
  | 29=>68
  | 20=>59
  | 21=>60
  | 22=>61
  | 23=>62
  | 24=>63
  | 25=>64
  | 26=>65
  | 27=>66
  | 46=>69
  | 47=>70
  | 48=>71
  | 49=>72
  | 50=>73
  | 57=>74
  | n=>n
 t:=fun x=>match x with
  | 22=>41
  | 24=>45
  | 25=>67
  | 3=>3
  | 39=>81
  | 0=>0
  | 53=>90
  | 55=>92
  | 4=>4
  | 46=>84
  | 45=>83
  | 50=>58
  | 5=>5
  | 9=>9
  | 66=>93
  | 70=>97
  | 76=>99
  | 77=>100
  | n=>n
 g:=fun x=>x
theorem Try.sortJ:SlLaysF0.n6 Try.prog Try.sortJ_ren where
 mixed:=rfl
 f6:=⟨Try.f54.name,by decide,Try.func54.trans rfl⟩
 f14:=⟨Try.f57.name,by decide,Try.func57.trans rfl⟩
 f15:=Try.func58.trans rfl
 f20:=⟨Try.f59.name,by decide,Try.func59.trans rfl⟩
 f21:=⟨Try.f60.name,by decide,Try.func60.trans rfl⟩
 f22:=⟨Try.f61.name,by decide,Try.func61.trans rfl⟩
 f23:=⟨Try.f62.name,by decide,Try.func62.trans rfl⟩
 f24:=⟨Try.f63.name,by decide,Try.func63.trans rfl⟩
 f25:=⟨Try.f64.name,by decide,Try.func64.trans rfl⟩
 f26:=⟨Try.f65.name,by decide,Try.func65.trans rfl⟩
 f27:=⟨Try.f66.name,by decide,Try.func66.trans rfl⟩
 f28:=Try.func67.trans rfl
 f29:=Try.func68.trans rfl
 f46:=⟨Try.f69.name,by decide,Try.func69.trans rfl⟩
 f47:=Try.func70.trans rfl
 f48:=Try.func71.trans rfl
 f49:=⟨Try.f72.name,by decide,Try.func72.trans rfl⟩
 f50:=⟨Try.f73.name,by decide,Try.func73.trans rfl⟩
 f57:=⟨Try.f74.name,by decide,Try.func74.trans rfl⟩
 t0:=Try.underlying0
 a0:=Try.isAgg0
 z0:=Try.sizeOf0
 v0:=Try.zeroValue0
 t3:=Try.underlying3
 a3:=Try.isAgg3
 z3:=Try.sizeOf3
 v3:=Try.zeroValue3
 t4:=Try.underlying4
 a4:=Try.isAgg4
 z4:=Try.sizeOf4
 v4:=Try.zeroValue4
 t5:=Try.underlying5
 a5:=Try.isAgg5
 z5:=Try.sizeOf5
 v5:=Try.zeroValue5
 t9:=Try.underlying9
 a9:=Try.isAgg9
 z9:=Try.sizeOf9
 v9:=Try.zeroValue9
 t22:=Try.underlying41
 a22:=Try.isAgg41
 z22:=Try.sizeOf41
 v22:=Try.zeroValue41
 t25:=Try.underlying67
 a25:=Try.isAgg67
 z25:=Try.sizeOf67
 v25:=Try.zeroValue67
 t39:=Try.underlying81
 a39:=Try.isAgg81
 z39:=Try.sizeOf81
 v39:=Try.zeroValue81
 t45:=Try.underlying83
 a45:=Try.isAgg83
 z45:=Try.sizeOf83
 v45:=Try.zeroValue83
 t46:=Try.underlying84
 a46:=Try.isAgg84
 z46:=Try.sizeOf84
 v46:=Try.zeroValue84
 t50:=Try.underlying58
 a50:=Try.isAgg58
 z50:=Try.sizeOf58
 v50:=Try.zeroValue58
 t53:=Try.underlying90
 a53:=Try.isAgg90
 z53:=Try.sizeOf90
 v53:=Try.zeroValue90
 t55:=Try.underlying92
 a55:=Try.isAgg92
 z55:=Try.sizeOf92
 v55:=Try.zeroValue92
 t66:=Try.underlying93
 a66:=Try.isAgg93
 z66:=Try.sizeOf93
 v66:=Try.zeroValue93
 t70:=Try.underlying97
 a70:=Try.isAgg97
 z70:=Try.sizeOf97
 v70:=Try.zeroValue97
 t76:=Try.underlying99
 a76:=Try.isAgg99
 z76:=Try.sizeOf99
 v76:=Try.zeroValue99
 t77:=Try.underlying100
 a77:=Try.isAgg100
 z77:=Try.sizeOf100
 v77:=Try.zeroValue100
end Go.Proofs
end
section
namespace Go.Proofs
open Go Go.Rx Go.Vx Go.Shelf
def q6k (n:Nat) (x:Int):Option Int:=cond (x == 0) (some 0) none
theorem q9p (n:Nat) (p1:Int) (r:Int) (hF:q6k n p1=some r) (σ:Sg):EvU Try.prog 58 [.int .u64 p1] σ (fun u σ'=>u = .int .i64 r∧σ'=σ):=by
 unfold q6k at hF
 cases hp:(p1 == 0) with
 | false=>rw [hp] at hF; cases hF
 | true =>
  rw [hp] at hF
  simp at hF hp
  subst hF; subst hp
  refine EvU.of_same (vs:=[.int .u64 0]) (cv:=.int .i64 0) rfl (fun m=>by simp [renL,ren]) rfl (fun m=>by simp [ren]) (fun w=>?_) σ
  have h:=Any.bits_Len (SlLaysF0.n15.bits (P:=Try.prog) (ρ:=Try.sortJ_ren) { Try.sortJ with }) 0 w (by omega) (by omega)
  exact h
end Go.Proofs
end
section
namespace Go.Proofs
open Go Go.Rx Go.Vx Try
set_option maxRecDepth 10000
set_option linter.unusedSimpArgs false
set_option linter.unusedVariables false
def q1b   : Option (Unit) :=
 some ()
def q1c  : Nat→Option (Unit)
 | 0=>none
 | m1+1 =>
  q1b
def q0w (f3:GArc→GArc→Option (Int)) (n:Nat)  : Option (Unit) :=
 q1c n
theorem q3n (f3:GArc→GArc→Option (Int)) (hf3:∀ (a0:GArc) (a1:GArc) (r:Int),f3 a0 a1=some r→EvU Try.prog 45 [.agg (cGArc a0),.agg (cGArc a1)] ⟨[],0⟩ (fun u _=>u = .int .i64 r∧Bel 0 u)) (n:Nat)  (r:Unit) (hF:q0w f3 n  = some r):EvU Try.prog 59 [.isl false (List.map cGArc ([]:List GArc)),.int .i64 0,.int .i64 0,.fn (.func 45) [] []] ⟨[],0⟩ (fun u _=>u = .tup []∧Bel 0 u):=by
 unfold q0w at hF
 have hf3S:∀ (a0:GArc) (a1:GArc) (r:Int),f3 a0 a1=some r→∀ σ,EvU Try.prog 45 [.agg (cGArc a0),.agg (cGArc a1)] σ (fun u σ'=>u = .int .i64 r∧σ'=σ):=fun a0 a1 r h σ=>EvU.pure1C (hf3 a0 a1 r h) σ
 refine EvU.of_body Try.tb_ok fn59 rfl ?_
 refine WPU.ghost (tm':=fr 53 [(0,.isl false (List.map cGArc ([]:List GArc))),(1,.int .i64 0),(2,.int .i64 0),(3,.fn (.func 45) [] [])]) (Gh.start (Nat.le_of_ble_eq_true rfl)) (Nat.zero_le _) ?_
 refine sr ?_
 refine RS.q rfl (q06 rfl rfl (q3w _ _ _) rfl) ?_
 refine sd ?_
 refine WPU.ghost (tm':=fr 53 [(0,.isl false (List.map cGArc ([]:List GArc))),(1,.int .i64 0),(2,.int .i64 0),(3,.fn (.func 45) [] []),(8,.int .i64 1)]) (Gh.sub ⟨rfl,rfl,rfl,rfl,rfl,trivial⟩) (Nat.zero_le _) ?_
 refine WPU.loopK (fun m tm σ=>q1c m=some r∧tm=fr 53 [(0,.isl false (List.map cGArc ([]:List GArc))),(1,.int .i64 0),(2,.int .i64 0),(3,.fn (.func 45) [] []),(8,.int .i64 1)]∧σ=⟨[],0⟩) (fun tm σ=>q1b=some r∧tm=fr 53 []∧σ=⟨[],0⟩) n ⟨hF,rfl,rfl⟩ ?_ ?_
 rintro _ _ ⟨hF,rfl,rfl⟩
 unfold q1b at hF
 refine st ?_
 have hr:=Option.some.inj hF
 subst hr
 exact ⟨.inl rfl,[],q20,.tup [],⟨[],0⟩,Nat.le_refl _,Gh.toR (.tup []) rfl,rfl,BU.h⟩
 rintro m1 _ _ ⟨hF,rfl,rfl⟩
 rcases m1 with _ | m1
 cases hF
 unfold q1c at hF
 refine sr ?_
 repeat refine RS.mv rfl rfl rfl rfl ?_
 refine RS.q rfl (q06 rfl rfl (q2s _ _ _) rfl) ?_
 refine sd ?_
 refine WPU.condS (t:=false) rfl (fun hc=>by cases hc) (fun _=>?_)
 refine st ?_
 refine WPU.exit ?_
 refine st ?_
 exact ⟨_,_,⟨hF,rfl,rfl⟩,(Nat.zero_le _),Gh.toC (n1:=0) trivial rfl (Nat.zero_le _) (by simp)⟩
theorem q3k (f3:GArc→GArc→Option (Int)) (hf3:∀ (a0:GArc) (a1:GArc) (r:Int),f3 a0 a1=some r→EvU Try.prog 45 [.agg (cGArc a0),.agg (cGArc a1)] ⟨[],0⟩ (fun u _=>u = .int .i64 r∧Bel 0 u)) (n:Nat)  (r:Unit) (hF:q0w f3 n  = some r) (σ:Sg):EvU Try.prog 59 [.isl false (List.map cGArc ([]:List GArc)),.int .i64 0,.int .i64 0,.fn (.func 45) [] []] σ (fun u σ'=>u = .tup []∧σ'=σ) :=
 EvU.pure1C (q3n f3 hf3 n  r hF) σ
def q1t (f4:GArc→GArc→Option (Int)) (n:Nat):Nat→Option (Unit)
 | 0=>none
 | m1+1 =>
  bindO (q0w f4 n) fun r2 =>
  some ()
def q1h (f4:GArc→GArc→Option (Int)) (n:Nat) (p1:Int):Option (Unit) :=
 q1t f4 n n
theorem q47 (f4:GArc→GArc→Option (Int)) (hf4:∀ (a0:GArc) (a1:GArc) (r:Int),f4 a0 a1=some r→EvU Try.prog 45 [.agg (cGArc a0),.agg (cGArc a1)] ⟨[],0⟩ (fun u _=>u = .int .i64 r∧Bel 0 u)) (n:Nat) (p1:Int) (r:Unit) (hF:q1h f4 n p1=some r):EvU Try.prog 57 [.isl false (List.map cGArc ([]:List GArc)),.int .i64 0,.int .i64 0,.int .i64 p1,.fn (.func 45) [] []] ⟨[],0⟩ (fun u _=>u = .tup []∧Bel 0 u):=by
 unfold q1h at hF
 have hf4S:∀ (a0:GArc) (a1:GArc) (r:Int),f4 a0 a1=some r→∀ σ,EvU Try.prog 45 [.agg (cGArc a0),.agg (cGArc a1)] σ (fun u σ'=>u = .int .i64 r∧σ'=σ):=fun a0 a1 r h σ=>EvU.pure1C (hf4 a0 a1 r h) σ
 refine EvU.of_body Try.tb_ok fn57 rfl ?_
 refine WPU.ghost (tm':=fr 148 [(0,.isl false (List.map cGArc ([]:List GArc))),(1,.int .i64 0),(2,.int .i64 0),(3,.int .i64 p1),(4,.fn (.func 45) [] [])]) (Gh.start (Nat.le_of_ble_eq_true rfl)) (Nat.zero_le _) ?_
 refine sr ?_
 refine se ?_
 refine sd ?_
 refine WPU.ghost (tm':=fr 148 [(0,.isl false (List.map cGArc ([]:List GArc))),(1,.int .i64 0),(2,.int .i64 0),(3,.int .i64 p1),(4,.fn (.func 45) [] []),(10,.bool true),(11,.bool true)]) (Gh.sub ⟨rfl,rfl,rfl,rfl,rfl,rfl,rfl,trivial⟩) (Nat.zero_le _) ?_
 refine WPU.loopK (fun m tm σ=>q1t f4 n m=some r∧tm=fr 148 [(0,.isl false (List.map cGArc ([]:List GArc))),(1,.int .i64 0),(2,.int .i64 0),(3,.int .i64 p1),(4,.fn (.func 45) [] []),(10,.bool true),(11,.bool true)]∧σ=⟨[],0⟩) (fun _ _=>False) n ⟨hF,rfl,rfl⟩ ?_ ?_
 rintro _ _ h; exact h.elim
 rintro m1 _ _ ⟨hF,rfl,rfl⟩
 rcases m1 with _ | m1
 cases hF
 unfold q1t at hF
 refine st ?_
 refine WPU.block ?_
 refine sr ?_
 repeat refine RS.mv rfl rfl rfl rfl ?_
 refine RS.q rfl (q06 rfl rfl (ix_sub _ _ _) rfl) ?_
 refine se ?_
 refine RS.q rfl (q06 rfl rfl (ix_leq _ _ _) rfl) ?_
 refine sd ?_
 refine WPU.condS (t:=true) rfl (fun _=>?_) (fun hc=>by cases hc)
 refine st ?_
 obtain ⟨r2,h3,hF⟩:=q00 hF
 refine sr ?_
 repeat refine RS.mv rfl rfl rfl rfl ?_
 refine RS.call (u:=.tup []) (args:=[.isl false (List.map cGArc ([]:List GArc)),.int .i64 0,.int .i64 0,.fn (.func 45) [] []]) rfl (q01 rfl rfl fn59 hb59 rfl rfl) (q3k f4 hf4 n  r2 h3 _) rfl rfl ?_
 refine sd ?_
 refine WPU.ret ?_
 refine st ?_
 have hr:=Option.some.inj hF
 subst hr
 exact ⟨.inr rfl,[],q20,.tup [],⟨[],0⟩,Nat.le_refl _,Gh.toR (.tup []) rfl,rfl,BU.h⟩
theorem q44 (f4:GArc→GArc→Option (Int)) (hf4:∀ (a0:GArc) (a1:GArc) (r:Int),f4 a0 a1=some r→EvU Try.prog 45 [.agg (cGArc a0),.agg (cGArc a1)] ⟨[],0⟩ (fun u _=>u = .int .i64 r∧Bel 0 u)) (n:Nat) (p1:Int) (r:Unit) (hF:q1h f4 n p1=some r) (σ:Sg):EvU Try.prog 57 [.isl false (List.map cGArc ([]:List GArc)),.int .i64 0,.int .i64 0,.int .i64 p1,.fn (.func 45) [] []] σ (fun u σ'=>u = .tup []∧σ'=σ) :=
 EvU.pure1C (q47 f4 hf4 n p1 r hF) σ
def q3o (f1:GArc→GArc→Option (Int)) (n:Nat)  : Option (Unit) :=
 bindO (q6k n 0) fun r1 =>
 bindO (q1h f1 n r1) fun r3 =>
 some ()
theorem q4v (f1:GArc→GArc→Option (Int)) (hf1:∀ (a0:GArc) (a1:GArc) (r:Int),f1 a0 a1=some r→EvU Try.prog 45 [.agg (cGArc a0),.agg (cGArc a1)] ⟨[],0⟩ (fun u _=>u = .int .i64 r∧Bel 0 u)) (n:Nat)  (r:Unit) (hF:q3o f1 n  = some r):EvU Try.prog 54 [.isl false (List.map cGArc ([]:List GArc)),.fn (.func 45) [] []] ⟨[],0⟩ (fun u _=>u = .tup []∧Bel 0 u):=by
 unfold q3o at hF
 have hf1S:∀ (a0:GArc) (a1:GArc) (r:Int),f1 a0 a1=some r→∀ σ,EvU Try.prog 45 [.agg (cGArc a0),.agg (cGArc a1)] σ (fun u σ'=>u = .int .i64 r∧σ'=σ):=fun a0 a1 r h σ=>EvU.pure1C (hf1 a0 a1 r h) σ
 refine EvU.of_body Try.tb_ok fn54 rfl ?_
 refine WPU.ghost (tm':=fr 14 [(0,.isl false (List.map cGArc ([]:List GArc))),(1,.fn (.func 45) [] [])]) (Gh.start (Nat.le_of_ble_eq_true rfl)) (Nat.zero_le _) ?_
 refine sr ?_
 refine RS.q rfl (q1e rfl rfl rfl (q1n cGArc und41)) ?_
 refine sd ?_
 obtain ⟨r1,h2,hF⟩:=q00 hF
 obtain ⟨r3,h4,hF⟩:=q00 hF
 refine sr ?_
 repeat refine RS.mv rfl rfl rfl rfl ?_
 refine RS.q (u:=.int .u64 0) rfl (op_conv rfl rfl (by simp only [convX,und3,und81]<;>rfl) rfl) ?_
 refine RS.call (u:=.int .i64 r1) (args:=[.int .u64 0]) rfl (q01 rfl rfl fn58 hb58 rfl rfl) (q9p n 0 r1 h2 _) rfl rfl (RS.mv rfl rfl rfl rfl (RS.call (u:=.tup []) (args:=[.isl false (List.map cGArc ([]:List GArc)),.int .i64 0,.int .i64 0,.int .i64 r1,.fn (.func 45) [] []]) rfl (q01 rfl rfl fn57 hb57 rfl rfl) (q44 f1 hf1 n r1 r3 h4 _) rfl rfl ?_))
 refine sd ?_
 have hr:=Option.some.inj hF
 subst hr
 exact ⟨.inl rfl,[],q20,.tup [],⟨[],0⟩,Nat.le_refl _,Gh.toR (.tup []) rfl,rfl,BU.h⟩
end Go.Proofs
end
section
namespace Go.Proofs
open Go Go.Rx Go.Vx Go.Shelf Go.Sort
set_option linter.unusedVariables false
set_option linter.unusedSimpArgs false
set_option maxRecDepth 10000
theorem sortKJ:SortKC Try.prog 54 45 2:=fun α _ enc cf hk h1 hO cb blk off cap d w hc hH hb hs =>
 AnyQ.slices_SortFunc Try.sortJ 2 Try.isAgg45 Try.sizeOf45 enc hk h1 cf hO 45 cb blk off cap d w (enters_of Try.func45 (by kernel_rfl) rfl) hc hH hb hs
def eqA (a b:GArc):Bool:=a.Feat == b.Feat&&a.To == b.To
theorem eqA_eq (a b:GArc) (h:eqA a b=true):a=b:=by
 cases a; cases b; simpa [eqA] using h
theorem srtJ_nil:EvU Try.prog 54 [.isl false [],.fn (.func 45) [] []] ⟨[],0⟩ (fun u _=>u = .tup []∧Bel 0 u) :=
 q4v (fun _ _=>none) (fun a0 a1 r h=>by cases h) 1 () rfl
theorem srtJ_ok {f1:GArc→GArc→Option Int} (hcmp:∀ a b r,f1 a b=some r→EvU Try.prog 45 [.agg (cGArc a),.agg (cGArc b)] ⟨[],0⟩ (fun u _=>u = .int .i64 r∧Bel 0 u))
  (xs ys:List GArc) (h:sortO eqA f1 xs=some ys) (σ:Sg) {K t:Nat} {e:TypeId} (hK:Nat.blt K σ.nx=true) (hg:gt σ.h K=some (.vec (List.map cGArc xs).flatten e 2 t)) :
  EvU Try.prog 54 [.vl K t 0 xs.length,.fn (.func 45) [] []] σ (fun u σ'=>u = .tup []∧σ'=⟨ug σ.h K (.vec (List.map cGArc ys).flatten e 2 t),σ.nx⟩) :=
 sortO_ok (encU:=cGArc) (cs:=[]) q17 (by decide) (fun _=>rfl) (fun a=>q6w 0 a) trivial sortKJ eqA_eq srtJ_nil hcmp xs ys h σ hK hg
end Go.Proofs
end
