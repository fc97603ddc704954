/-
  Texts of the walk: VxV MpI MpK MpM.
-/
import Derived.Shelf.SlSortCmp.WholeK
import Derived.Test.YtkgbipeaeamohaaGreatDoorP13
set_option linter.unusedSimpArgs false
set_option linter.unusedVariables false
section
namespace Go.Vx
open Go Go.Rx Go.Proofs Go.Sort
theorem EvU.of_same {P:Program} {f:FuncId} {us:List U} {vs:List Value} {u:U} {cv:Value} (hv:qp4 us=some vs) (hr:∀ m,q0m m vs=vs) (hu:toV u=some cv) (hru:∀ m,ren m cv=cv) (h:∀ w,Calls P f vs.toArray w fun e w'=>e = .returned cv∧w'=w) (σ:Sg):EvU P f us σ (fun u' σ'=>u'=u∧σ'=σ):=fun F x ws m w cargs hx hh hfr he hfit hargs=>by
 have:=(q6h us vs hv x ws).1 he
 subst this
 have hca:cargs=ws:=by rw [← hargs.at,hr]
 subst hca
 refine (h w).mono ?_
 rintro e w' ⟨rfl,rfl⟩
 exact ⟨x,m,u,cv,cv,rfl,⟨rfl,hx⟩,Adv.refl hfit,fun m' _=>hru m',hh,hfr,(q4r u cv hu x cv).2 rfl,Ke.refl _ _,zF _⟩
theorem EvU.view0 {P:Program} {f:FuncId} {args args':List U} {σ:Sg} (h:EvU P f args ⟨[],0⟩ (fun u' _=>u' = .tup []∧Bel 0 u')) (ha:q1g 0 args) {σ1:Sg} (hg:Gh 0 args' σ args σ1):EvU P f args' σ (fun u' σ'=>u' = .tup []∧σ'=σ):=fun F x vs m w cargs hx hh hfr he hfit hargs=>by
 obtain ⟨y1,a1,a2,a3,a4,a5,a6⟩:=hg F x vs hx hh hfr he
 have hadv1:=a1 m w hfit
 have hadv2:=Adv.less hadv1.fits (qk1 y1.s)
 have hmo:Mo 0 y1 (cx (qd0 y1.s)):=⟨fun k hk=>by omega,fun i row e hl=>by show lk (qd0 y1.s).h i=_; rw [q5c,hl]; rfl⟩
 have hno:∀ b,¬ z1l m (qd0 y1.s) b:=fun b ⟨i,c,hc,ho,_⟩=>by
  rw [q5c] at hc
  obtain ⟨_,l,e,rfl⟩:=q60 hc
  simp [Rx.Own] at ho
 refine (h (fun _ _=>False) (cx (qd0 y1.s)) vs m w cargs rfl ⟨fun k b hb=>by simp [cx,gt] at hb,fun k k' b b' i hb=>by simp [cx,gt] at hb,fun i b hb=>?_⟩ (fun _ _ hF=>hF.elim) (hmo.ke.E ha a5) hadv2.fits (hargs.ext (Agree.refl _ _) (Nat.le_trans hadv1.nx hadv2.nx))).mono ?_
 ·have hb':lk (qd0 y1.s).h i=some b:=hb
  rw [q5c] at hb'
  exact a3.bd i b (q60 hb').1
 rintro e w₂ ⟨y2,m₂,u',v',cv,rfl,⟨rfl,_⟩,hadv,hrel,_,_,hru,_,_⟩
 simp only [Rel] at hru
 obtain ⟨q,rfl,_,hq⟩:=hru
 have:q=[]:=List.eq_nil_of_length_eq_zero (by simpa using hq.symm)
 subst this
 have hcv:cv = .tuple ⟨[]⟩:=by rw [← hrel.at]; simp [ren,q0m]
 subst hcv
 have hsame:∀ b,b<w.heap.size→w₂.heap[b]? = w.heap[b]?:=fun b hlt=>hadv.same b hlt (hno b)
 refine ⟨x,m,.tup [],.tuple ⟨[]⟩,.tuple ⟨[]⟩,rfl,⟨rfl,hx⟩,⟨Agree.refl _ _,zF _,fun m' hm'=>?_,fun b h=>.inl h,fun b hlt _=>hsame b hlt,hadv.size,hadv.os,hadv.tape,hadv.output⟩,fun m' _=>by simp [ren,q0m],hh,hfr,by simp only [Rel]; exact ⟨[],rfl,by simp [q2b],rfl⟩,Ke.refl _ _,zF _⟩
 have hfm:=hfit m' hm'
 exact ⟨fun i b hb=>(hfm.ok i b hb).world (hsame _ (hfm.size hb)),hfm.inj,hfm.bd⟩
def qwn {α:Type} (lt:α→α→Bool) (x:α):List α→List α
 | []=>[x]
 | y::l=>cond (lt y x) (y::qwn lt x l) (x::y::l)
def srt {α:Type} (lt:α→α→Bool):List α→List α
 | []=>[]
 | x::l=>qwn lt x (srt lt l)
theorem qiq {α:Type} (lt:α→α→Bool) (x:α):∀ l,(qwn lt x l).Perm (x::l)
 | []=>.refl _
 | y::l=>by
  simp only [qwn]
  cases lt y x with
  | true=>exact ((qiq lt x l).cons y).trans (.swap _ _ _)
  | false=>exact .refl _
theorem qgn {α:Type} (lt:α→α→Bool):∀ l,(srt lt l).Perm l
 | []=>.refl _
 | x::l=>(qiq lt x _).trans ((qgn lt l).cons x)
def Asc {α:Type} (lt:α→α→Bool) (l:List α):Prop:=l.Pairwise (fun x y=>lt y x=false)
theorem qux {α:Type} {lt:α→α→Bool} (h:SWO lt) (x:α):∀ {l},Asc lt l→Asc lt (qwn lt x l)
 | [],_=>by simp [qwn,Asc]
 | y::l,ha=>by
  simp only [qwn]
  unfold Asc at ha ⊢
  rw [List.pairwise_cons] at ha
  cases hy:lt y x with
  | true =>
   simp only [zC]
   rw [List.pairwise_cons]
   refine ⟨fun z hz=>?_,qux h x ha.2⟩
   have:=(qiq lt x l).mem_iff.1 hz
   rcases zI.1 this with rfl | hz
   ·cases hzy:lt z y with
    | false=>rfl
    | true=>have:=h.trans y z y hy hzy; rw [h.irrefl] at this; cases this
   ·exact ha.1 z hz
  | false =>
   simp only [zD]
   rw [List.pairwise_cons]
   refine ⟨fun z hz=>?_,List.pairwise_cons.2 ha⟩
   rcases zI.1 hz with rfl | hz
   ·exact hy
   ·exact h.ntrans z y x (ha.1 z hz) hy
theorem z0n {α:Type} {lt:α→α→Bool} (h:SWO lt):∀ l,Asc lt (srt lt l)
 | []=>by simp [srt,Asc]
 | x::l=>qux h x (z0n h l)
end Go.Vx
end
section
namespace Go.Vx
open Go Go.Rx Go.Proofs Go.Sort Go.Shelf
theorem qpw {m:Nm} {v:Value} (h:v.oneCell'=true):(ren m v).oneCell'=true:=by
 cases v with
 | agg _=>simp [Value.oneCell'] at h
 | tuple _=>simp [Value.oneCell'] at h
 | pointer o=>cases o<;>rfl
 | slice o _ _=>cases o<;>rfl
 | map o=>cases o<;>rfl
 | chan o=>cases o<;>rfl
 | _=>rfl
theorem z62 {x:Cx} {m:Nm}:∀ {u:U} {v:Value},okC u=true→Rel x u v→(ren m v).oneCell'=true
 | .junk,v,h,_=>by simp [okC] at h
 | .agg _,v,h,_=>by simp [okC] at h
 | .tup _,v,h,_=>by simp [okC] at h
 | .bool _,v,_,h=>by simp only [Rel] at h; subst h; rfl
 | .int _ _,v,_,h=>by simp only [Rel] at h; subst h; rfl
 | .str _,v,_,h=>by simp only [Rel] at h; subst h; rfl
 | .nilp,v,_,h=>by simp only [Rel] at h; subst h; rfl
 | .nils,v,_,h=>by simp only [Rel] at h; subst h; rfl
 | .nilm,v,_,h=>by simp only [Rel] at h; subst h; rfl
 | .nilf,v,_,h=>by simp only [Rel] at h; subst h; rfl
 | .nili,v,_,h=>by simp only [Rel] at h; subst h; rfl
 | .ptr _ _ _,v,_,h=>by simp only [Rel] at h; exact qpw h.1
 | .sl _ _ _ _,v,_,h=>by simp only [Rel] at h; exact qpw h.1
 | .vl _ _ _ _,v,_,h=>by simp only [Rel] at h; exact qpw h.1
 | .map _,v,_,h=>by simp only [Rel] at h; exact qpw h.1
 | .iptr _,v,_,h=>by simp only [Rel] at h; obtain ⟨i,off,row,e,rfl,_⟩:=h; rfl
 | .isl _ _,v,_,h=>by
  simp only [Rel] at h
  rcases h with ⟨_,rfl | ⟨r,rfl⟩⟩ | ⟨i,off,c,rfl,_⟩<;>rfl
 | .fn _ _ _,v,_,h=>by simp only [Rel] at h; obtain ⟨va,vb,rfl,_⟩:=h; rfl
section
variable {A:Type} {encU:A→List U} {k:Nat} {x:Cx} {m:Nm}
structure El (encU:A→List U) (k:Nat) (x:Cx) (m:Nm) (ds:List A) where
 a:A
 sv:List Value
 mem:a∈ds
 len:sv.length=k
 rel:q0t x (encU a) sv
 ren:∀ m',Agree x.s.nx m m'→q0m m' sv=q0m m sv
theorem qum (hk:∀ a,(encU a).length=k) {ds:List A}:∀ (ds0:List A) (l0:List Value),(∀ a∈ds0,a∈ds)→q0t x (ds0.map encU).flatten l0→(∀ m',Agree x.s.nx m m'→q0m m' l0=q0m m l0) →
  ∃ ps:List (El encU k x m ds),ps.map (fun p=>p.a)=ds0∧(ps.map (fun p=>p.sv)).flatten=l0
 | [],l0,_,h,_=>by
  have:=h.nil_inv
  subst this
  exact ⟨[],rfl,rfl⟩
 | a::ds0,l0,hm,h,hr=>by
  simp only [zQ,List.flatten_cons] at h
  have ht:=h.take k
  have hd:=h.drop k
  rw [List.take_left' (hk a)] at ht
  rw [List.drop_left' (hk a)] at hd
  have hr':∀ m',Agree x.s.nx m m'→q0m m' (l0.take k)=q0m m (l0.take k)∧q0m m' (l0.drop k)=q0m m (l0.drop k):=fun m' ha=>by
   have:=hr m' ha
   simp only [q1b,List.map_take,List.map_drop] at this ⊢
   rw [this]; exact ⟨rfl,rfl⟩
  obtain ⟨ps,h1,h2⟩:=qum hk ds0 (l0.drop k) (fun b hb=>hm b (by simp [hb])) hd fun m' ha=>(hr' m' ha).2
  have hlen:(l0.take k).length=k:=by rw [← ht.2,hk]
  exact ⟨⟨a,l0.take k,hm a (by simp),hlen,ht,fun m' ha=>(hr' m' ha).1⟩::ps,by simp [h1],by simp [h2]⟩
theorem qya {ds:List A}:∀ ps:List (El encU k x m ds),q0t x ((ps.map (fun p=>p.a)).map encU).flatten (ps.map (fun p=>p.sv)).flatten
 | []=>q0t.nil x
 | p::ps=>by simp only [zQ,List.flatten_cons]; exact p.rel.append (qya ps)
theorem qyb {ds:List A} {m':Nm} (ha:Agree x.s.nx m m'):∀ ps:List (El encU k x m ds),q0m m' (ps.map (fun p=>p.sv)).flatten=(ps.map (fun p=>q0m m p.sv)).flatten
 | []=>by simp [q0m]
 | p::ps=>by
  have h1:=qyb ha ps
  have h2:=p.ren m' ha
  simp only [q1b,zQ,List.flatten_cons,List.map_append] at h1 h2 ⊢
  rw [h1,h2]
end
def z59 (P:Program) (g:FuncId) (args:List U) (z:Int):Prop:=∀ (vs cargs:List Value) (x:Cx),qcs x→q0t x args vs→∀ m:Nm,qi3 m x.s.nx vs cargs→∀ w:World,q25 m (qd0 x.s) w →
  Calls P g cargs.toArray w fun e w'=>e = .returned (.int .i64 z)∧∃ q os,w'=grow (w.drewN q) os
theorem EvU.cmpI {P:Program} {g:FuncId} {args:List U} {vs cargs:List Value} {z:Int} (h:z59 P g args z) (_hb:q1g 0 args) {x:Cx} (hh:qcs x) (he:q0t x args vs) {m:Nm} (hargs:qi3 m x.s.nx vs cargs) {w:World} (hf:q25 m (qd0 x.s) w) :
  Calls P g cargs.toArray w fun e w'=>e = .returned (.int .i64 z)∧∃ q os,w'=grow (w.drewN q) os:=h vs cargs x hh he m hargs w hf
theorem z59.ofW {P:Program} {g:FuncId} {args:List U} {z:Int} {vs:List Value} (hv:qp4 args=some vs) (hr:∀ m,q0m m vs=vs) (h:∀ w,Calls P g vs.toArray w fun e w'=>e = .returned (.int .i64 z)∧∃ q os,w'=grow (w.drewN q) os):z59 P g args z:=fun vs' cargs x hh he m hargs w hf=>by
 have h1:=(q6h args vs hv x vs').1 he
 subst h1
 have h2:cargs=vs':=by rw [← hargs.at,hr]
 subst h2
 exact h w
theorem qz1 {α:Type} [Inhabited α] {enc:α→List Value} {k:Nat} (hk:∀ x,(enc x).length=k) (hk0:0<k) {w:World} {b off:Nat} {pre rest:List Value} {e:TypeId} {ps:List α} (hheap:w.heap[b]? = some (.cells (pre++(ps.map enc).flatten++rest).toArray e (0,0))) (hpre:pre.length=off):HoldsK enc k w b off ps.toArray:=by
 unfold HoldsK Holds
 rw [qup hk hk0]
 intro j hj
 simp only [List.size_toArray] at hj
 refine ⟨?_,?_⟩
 ·simp only [World.cell?,hheap]
  simp only [Option.isSome_none,Bool.false_eq_true,if_false,List.getElem?_toArray,id]
  rw [zT,List.getElem?_append_right (by omega),List.getElem?_append_left (by omega)]
  rw [show off+j - pre.length=j by omega,List.getElem?_eq_getElem hj,getElem!_pos _ _ (by simpa using hj)]
  simp
 ·simp [World.frozen?,hheap]
end Go.Vx
end
section
namespace Go.Vx
open Go Go.Rx Go.Proofs Go.Sort Go.Shelf
def fLt {A:Type} (f:A→A→Option Int) (x y:A):Bool:=decide ((f x y).getD 0<0)
def qn2 {A:Type} (eq:A→A→Bool) (f:A→A→Option Int) (ds:List A):Bool :=
 ds.all fun x=>!(fLt f x x)&&ds.all fun y=>(f x y).isSome&&((fLt f x y || (fLt f y x || eq x y))&&ds.all fun z=>(!(fLt f x y&&fLt f y z) || fLt f x z)&&(fLt f x y || (fLt f y z || !(fLt f x z))))
def qsl {A:Type} (eq:A→A→Bool) (f:A→A→Option Int) (ds:List A):Option (List A):=cond (Nat.ble ds.length 1000000&&qn2 eq f ds) (some (srt (fLt f) ds)) none
structure OkS {A:Type} (f:A→A→Option Int) (S:A→Prop):Prop where
 irrefl:∀ x,S x→fLt f x x=false
 some:∀ x y,S x→S y→∃ z,f x y=some z
 anti:∀ x y,S x→S y→fLt f x y=false→fLt f y x=false→x=y
 trans:∀ x y z,S x→S y→S z→fLt f x y=true→fLt f y z=true→fLt f x z=true
 ntrans:∀ x y z,S x→S y→S z→fLt f x y=false→fLt f y z=false→fLt f x z=false
theorem qwv {A:Type} {eq:A→A→Bool} (heq:∀ x y,eq x y=true→x=y) {f:A→A→Option Int} {ds:List A} (h:qn2 eq f ds=true):OkS f (· ∈ ds):=by
 unfold qn2 at h
 rw [List.all_eq_true] at h
 have h1:∀ x∈ds,fLt f x x=false∧∀ y∈ds,(f x y).isSome=true∧(fLt f x y || (fLt f y x || eq x y))=true∧∀ z∈ds,(!(fLt f x y&&fLt f y z) || fLt f x z)=true∧(fLt f x y || (fLt f y z || !(fLt f x z)))=true:=fun x hx=>by
  have a:=h x hx
  rw [Bool.and_eq_true,Bool.not_eq_true',List.all_eq_true] at a
  refine ⟨a.1,fun y hy=>?_⟩
  have b:=a.2 y hy
  rw [Bool.and_eq_true,Bool.and_eq_true,List.all_eq_true] at b
  refine ⟨b.1,b.2.1,fun z hz=>?_⟩
  have c:=b.2.2 z hz
  rw [Bool.and_eq_true] at c
  exact c
 refine ⟨fun x hx=>(h1 x hx).1,fun x y hx hy=>Option.isSome_iff_exists.1 ((h1 x hx).2 y hy).1,fun x y hx hy a b=>?_,fun x y z hx hy hz a b=>?_,fun x y z hx hy hz a b=>?_⟩
 ·have:=((h1 x hx).2 y hy).2.1
  rw [a,b] at this
  exact heq x y (by simpa using this)
 ·have:=(((h1 x hx).2 y hy).2.2 z hz).1
  rw [a,b] at this
  simpa using this
 ·have:=(((h1 x hx).2 y hy).2.2 z hz).2
  rw [a,b] at this
  simpa using this
theorem qrk {A:Type} {f:A→A→Option Int} {S:A→Prop} (h:OkS f S) (x:A) (hx:S x):∀ {l},(∀ y∈l,S y)→Asc (fLt f) l→Asc (fLt f) (qwn (fLt f) x l)
 | [],_,_=>by simp [qwn,Asc]
 | y::l,hS,ha=>by
  have hyS:=hS y (by simp)
  have hlS:∀ z∈l,S z:=fun z hz=>hS z (by simp [hz])
  simp only [qwn]
  unfold Asc at ha ⊢
  rw [List.pairwise_cons] at ha
  cases hy:fLt f y x with
  | true =>
   simp only [zC]
   rw [List.pairwise_cons]
   refine ⟨fun z hz=>?_,qrk h x hx hlS ha.2⟩
   have:=(qiq (fLt f) x l).mem_iff.1 hz
   rcases zI.1 this with rfl | hz
   ·cases hzy:fLt f z y with
    | false=>rfl
    | true=>have:=h.trans y z y hyS hx hyS hy hzy; rw [h.irrefl y hyS] at this; cases this
   ·exact ha.1 z hz
  | false =>
   simp only [zD]
   rw [List.pairwise_cons]
   refine ⟨fun z hz=>?_,List.pairwise_cons.2 ha⟩
   rcases zI.1 hz with rfl | hz
   ·exact hy
   ·exact h.ntrans z y x (hlS z hz) hyS hx (ha.1 z hz) hy
theorem qvy {A:Type} {f:A→A→Option Int} {S:A→Prop} (h:OkS f S):∀ l,(∀ y∈l,S y)→Asc (fLt f) (srt (fLt f) l)
 | [],_=>by simp [srt,Asc]
 | x::l,hS=>qrk h x (hS x (by simp)) (fun y hy=>hS y (by simp [(qgn (fLt f) l).mem_iff.1 hy])) (qvy h l fun y hy=>hS y (by simp [hy]))
theorem qm6 {A:Type} {f:A→A→Option Int} {S:A→Prop} (h:OkS f S):∀ {a b:List A},(∀ y∈a,S y)→Asc (fLt f) a→Asc (fLt f) b→a.Perm b→a=b
 | [],b,_,_,_,hp=>by rw [hp.nil_eq]
 | x::a,[],_,_,_,hp=>by have:=hp.length_eq; simp at this
 | x::a,y::b,hS,ha,hb,hp=>by
  unfold Asc at ha hb
  rw [List.pairwise_cons] at ha hb
  have hxy:x=y:=by
   have h1:x∈y::b:=hp.mem_iff.1 (by simp)
   have h2:y∈x::a:=hp.mem_iff.2 (by simp)
   rcases zI.1 h1 with h1 | h1
   ·exact h1
   ·rcases zI.1 h2 with h2 | h2
    ·exact h2.symm
    ·exact h.anti x y (hS x (by simp)) (hS y (by simp [h2])) (hb.1 x h1) (ha.1 y h2)
  subst hxy
  rw [qm6 h (fun z hz=>hS z (by simp [hz])) ha.2 hb.2 (List.Perm.cons_inv hp)]
theorem OkS.swo {A:Type} {f:A→A→Option Int} {S:A→Prop} (h:OkS f S) {B:Type} (e:B→A) (he:∀ b,S (e b)):SWO (ltOf fun p q:B=>(f (e p) (e q)).getD 0) :=
 ⟨fun x=>h.irrefl _ (he x),fun x y z=>h.trans _ _ _ (he x) (he y) (he z),fun x y z=>h.ntrans _ _ _ (he x) (he y) (he z)⟩
def qxd (P:Program) (f g:FuncId) (k:Nat):Prop:=∀ (α:Type) [Inhabited α] (enc:α→List Value) (cf:α→α→Int),(∀ x,(enc x).length=k)→(∀ x,∀ v∈enc x,v.oneCell'=true)→SWO (ltOf cf) →
 ∀ (cb:Array Value) (blk off cap:Nat) (d:Array α) (w:World),CmpLays P g cb enc k cf blk off d.size w→HoldsK enc k w blk off d→blk<w.heap.size→d.size<4611686018427387904 →
  Calls P f #[.slice (some ⟨blk,off,none⟩) d.size cap,.func (.func g) #[] cb] w fun e w'=>e = .returned (.tuple #[])∧∃ d' n os,PermIn 0 d.size d d'∧SortedIn (ltOf cf) 0 d.size d'∧w'=sortWorldK enc k w blk off n d' os
theorem EvU.sortC {A:Type} {P:Program} {f g:FuncId} {encU:A→List U} {k:Nat} (hk:∀ a,(encU a).length=k) (hk0:0<k) (hok:∀ a,okL (encU a)=true) (hbl:∀ a,q1g 0 (encU a)) {cs:List U} (hcs:q1g 0 cs) {f1:A→A→Option Int} (hs:qxd P f g k)
  (ds:List A) (hO:OkS f1 (· ∈ ds)) (hcmp:∀ a b r,f1 a b=some r→z59 P g (.agg (encU a) :: .agg (encU b)::cs) r)
  {σ:Sg} {K st:Nat} {e:TypeId} (hne:ds≠[]) (hlen:ds.length<4611686018427387904) (hg:gt σ.h K=some (.vec ((ds.map encU).flatten) e k st)) :
  EvU P f [.vl K st 0 ds.length,.fn (.func g) [] cs] σ (fun u σ'=>u = .tup []∧σ'=⟨ug σ.h K (.vec (((srt (fLt f1) ds).map encU).flatten) e k st),σ.nx⟩):=fun F x vs m w cargs hx hh hfr he hfit hargs=>by
 subst hx
 obtain ⟨v0,vs0,rfl,h0,he⟩:=he.inv
 obtain ⟨v1,vs1,rfl,h1,he⟩:=he.inv
 have:=he.nil_inv
 subst this
 simp only [Rel] at h0 h1
 obtain ⟨va,vb,rfl,_,hva,hvbP,hvb⟩:=h1
 have hva':va=[]:=by cases va with
  | nil=>rfl
  | cons=>simp at hva
 subst hva'
 have hvE:q0t x cs vb:=⟨hvbP,hvb⟩
 have hvr:∀ m',Agree x.s.nx m m'→q0m m' vb=q0m m vb:=fun m' ha=>by
  have h1:=hargs m' ha
  have h2:=hargs m (Agree.refl _ _)
  rw [← h2] at h1
  simp only [q0m,ren,qqu,List.cons.injEq,Value.func.injEq,Array.mk.injEq,and_true,true_and] at h1
  exact h1.2
 obtain ⟨_,hK,h0⟩:=h0
 obtain ⟨l,e',sz,hb,hvl⟩:=(h0 _ hg).2 rfl
 cases hb
 obtain ⟨_,hBk⟩:=hh.ok K _ hg
 obtain ⟨_,_,hB⟩:=hBk
 have hflat:(ds.map encU).flatten≠[]:=fun hn=>by
  cases ds with
  | nil=>exact hne rfl
  | cons a ds =>
   simp only [zQ,List.flatten_cons,List.append_eq_nil_iff] at hn
   have:=hk a
   rw [hn.1] at this
   simp at this
   omega
 rcases hB with ⟨hn,_⟩ | ⟨i,l',hρ,hlk,hE⟩
 ·exact absurd hn hflat
 rw [hρ] at hvl
 simp only [z1c] at hvl
 rcases hvl with ⟨hbad,_⟩ | rfl
 ·omega
 have hfit0:=hfit m (Agree.refl _ _)
 have hinx:=hh.bd i _ hlk
 obtain ⟨pre,rest,hheap,hpre,hcap⟩:=(hfit0.ok i _ hlk:qex m i _ e w (k+2))
 have hcargs:=hargs.at
 simp only [q0m,ren,qqu] at hcargs
 subst hcargs
 have hblk:m.blk i<w.heap.size:=hfit0.size hlk
 have hag:∀ m',Agree x.s.nx m m'→q0m m' l'=q0m m l':=fun m' ha=>by
  obtain ⟨a1,a2,a3⟩:=ha i hinx
  obtain ⟨pre',rest',hheap',hpre',_⟩:=((hfit m' ha).ok i _ hlk:qex m' i _ e w (k+2))
  rw [a1,hheap] at hheap'
  simp only [zA,Obj.cells.injEq,and_true] at hheap'
  have h1:=congrArg Array.toList hheap'
  simp only [zT] at h1
  have hl:pre.length=pre'.length:=by omega
  have h2:=List.append_inj_right h1 hl
  exact (List.append_inj_left h2 (by simp [q1b])).symm
 obtain ⟨ps,hps1,hps2⟩:=qum hk ds l' (fun a h=>h) hE hag
 have hpl:ps.length=ds.length:=by have h:=congrArg List.length hps1; simpa using h
 have hpne:ps≠[]:=fun h=>by rw [h] at hpl; exact hne (List.length_eq_zero_iff.1 hpl.symm)
 let p0:El encU k x m ds:=ps.head hpne
 letI:Inhabited (El encU k x m ds):=⟨p0⟩
 let enc:El encU k x m ds→List Value:=fun p=>q0m m p.sv
 let cg:El encU k x m ds→El encU k x m ds→Int:=fun p q=>(f1 p.a q.a).getD 0
 have hek:∀ p,(enc p).length=k:=fun p=>by simp only [enc,q1b,List.length_map,p.len]
 have hone:∀ p,∀ v∈enc p,v.oneCell'=true:=fun p v hv=>by
  simp only [enc,q1b,List.mem_map] at hv
  obtain ⟨v',hv',rfl⟩:=hv
  obtain ⟨j,hj⟩:=List.getElem?_of_mem hv'
  have hjl:j<(encU p.a).length:=by rw [p.rel.2]; exact (zG.1 hj).1
  obtain ⟨v2,h1,h2⟩:=p.rel.get (List.getElem?_eq_getElem hjl)
  rw [hj] at h1; cases h1
  exact z62 ((qbt _).1 (hok p.a) _ (List.getElem_mem hjl)) h2
 have hrl:q0m m l'=(ps.map enc).flatten:=by rw [← hps2]; exact qyb (Agree.refl _ _) ps
 rw [hrl] at hheap
 have hholds:HoldsK enc k w (m.blk i) (m.sh i+0*k) ps.toArray:=qz1 hek hk0 hheap (by omega)
 have hlays:CmpLays P g (q0m m vb).toArray enc k cg (m.blk i) (m.sh i+0*k) ps.toArray.size w:=fun n os dk hdk p q=>by
  obtain ⟨z,hz⟩:=hO.some p.a q.a p.mem q.mem
  have hcz:cg p q=z:=by simp [cg,hz]
  rw [hcz]
  have hin:=EvU.cmpI (hcmp p.a q.a z hz) (by simp only [q1g,Bel]; exact ⟨hbl _,hbl _,hcs⟩) hh (vs:=.agg ⟨p.sv⟩ :: .agg ⟨q.sv⟩::vb) (cargs:=.agg (enc p).toArray :: .agg (enc q).toArray::q0m m vb) (m:=m)
   (q0t.cons (by simp only [Rel]; exact ⟨_,rfl,p.rel.1,p.rel.2,hok _⟩) (q0t.cons (by simp only [Rel]; exact ⟨_,rfl,q.rel.1,q.rel.2,hok _⟩) hvE))
   (fun m' ha=>by simp only [q0m,ren,qqu,enc,p.ren m' ha,q.ren m' ha,hvr m' ha])
   (w:=sortWorldK enc k w (m.blk i) (m.sh i+0*k) n dk os) (fun m' ha=>by
    have ha':Agree x.s.nx m m':=ha
    have hf':=hfit m' ha'
    refine ⟨fun j b hj=>?_,fun j j' b c hj hj' hne ho=>?_,fun j b hj=>?_⟩
    ·rw [q5c] at hj
     obtain ⟨hj,l2,e2,rfl⟩:=q60 hj
     refine (hf'.ok j _ hj).world ?_
     have hne:m'.blk j≠m.blk i:=fun hc=>by
      have hij:i≠j:=fun h=>by subst h; rw [hlk] at hj; cases hj
      have:=hf'.inj i j _ _ hlk hj hij rfl
      rw [(ha' i hinx).1] at this
      exact this hc.symm
     have hsz:=hf'.size hj
     unfold sortWorldK putRowK putRow mapBlock
     simp only [Sort.grow]
     rw [Array.getElem?_append_left (by simpa [Sort.ahead] using hsz)]
     simp only [Array.getElem?_modify,Sort.ahead]
     rw [if_neg (Ne.symm hne)]
    ·rw [q5c] at hj
     obtain ⟨_,l2,e2,rfl⟩:=q60 hj
     simp [Rx.Own] at ho
    ·rw [q5c] at hj
     exact hh.bd j b (q60 hj).1)
  simpa using hin
 have hc:=hs (El encU k x m ds) enc cg hek hone (hO.swo (fun p:El encU k x m ds=>p.a) fun p=>p.mem) (q0m m vb).toArray (m.blk i) (m.sh i+0*k) (capOf m i (q05+0)) ps.toArray w hlays hholds hblk (by simpa [hpl] using hlen)
 simp only [List.size_toArray,hpl] at hc
 refine (show Calls P f _ w _ from hc).mono ?_
 rintro e1 w' ⟨rfl,d',n,os,hperm,hsorted,rfl⟩
 obtain ⟨ps',rfl⟩:∃ ps':List (El encU k x m ds),d'=ps'.toArray:=⟨d'.toList,by simp⟩
 have hsz':ps'.length=ps.length:=by have:=hperm.1; simpa using this
 have hsrt:ps'.map (fun p=>p.a)=srt (fLt f1) ds:=by
  have hp:ps'.Perm ps:=by
   have h3:=hperm.2.2
   have e1:(ps'.toArray.extract 0 ds.length).toList=ps':=by simp [← hpl,← hsz']
   have e2:(ps.toArray.extract 0 ds.length).toList=ps:=by simp [← hpl]
   rwa [e1,e2] at h3
  refine qm6 hO (fun y hy=>?_) ?_ (qvy hO ds fun y hy=>hy) (((hp.map _).trans (List.Perm.of_eq hps1)).trans (qgn _ ds).symm)
  ·obtain ⟨p,_,rfl⟩:=List.mem_map.1 hy; exact p.mem
  unfold Asc
  rw [List.pairwise_iff_getElem]
  intro a b ha hb hab
  simp only [List.length_map] at ha hb
  have:=hsorted a b (Nat.zero_le _) hab (by omega)
  simpa [ha,hb,cg,ltOf,fLt] using this
 have hll:((ps'.map enc).flatten).length=((ps.map enc).flatten).length:=by rw [qid hek,qid hek,hsz']
 have hll2:((ps'.map fun p=>p.sv).flatten).length=l'.length:=by
  have h1:∀ qs:List (El encU k x m ds),((qs.map fun p=>p.sv).flatten).length=qs.length*k:=fun qs=>qid (enc:=fun p:El encU k x m ds=>p.sv) (fun p=>p.len) qs
  rw [h1,hsz',← h1,hps2]
 have hrow:(putRowK enc k (Sort.ahead w n) (m.blk i) (m.sh i+0*k) ps'.toArray).heap[m.blk i]? = some (.cells (pre++(ps'.map enc).flatten++rest).toArray e (0,0)):=by
  unfold putRowK putRow mapBlock
  rw [qup hek hk0]
  simp only [Array.getElem?_modify,if_true,Sort.ahead,hheap,zM,onCells]
  rw [show m.sh i+0*k=pre.length by omega,qs1 _ _ _ _ hll]
 have hadv1:Adv m x.s w m ⟨up x.s.h i (.inl ((ps'.map fun p=>p.sv).flatten,e,k+2)),x.s.nx⟩ (putRowK enc k (Sort.ahead w n) (m.blk i) (m.sh i+0*k) ps'.toArray):=by
  refine Adv.write hfit hlk rfl (fun j hj=>?_) (by simp [putRowK,putRow,mapBlock,Sort.ahead]) rfl rfl rfl (Nat.le_add_right _ _) fun m' ha=>?_
  ·unfold putRowK putRow mapBlock
   simp only [Array.getElem?_modify,Sort.ahead]
   rw [if_neg (Ne.symm hj)]
  ·obtain ⟨a1,a2,a3⟩:=ha i hinx
   refine ⟨pre,rest,?_,by rw [a2]; exact hpre,?_⟩
   ·rw [a1,qyb ha]; exact hrow
   ·rw [hll2,a3]; exact hcap
 have hout:=qgo (c:=.inl ((ps'.map fun p=>p.sv).flatten,e,k+2)) (bK:=.vec (((srt (fLt f1) ds).map encU).flatten) e k st) hh hg hρ hlk rfl (by rintro l e sz st h; cases h; exact ⟨_,rfl⟩) fun y h1 h2 hm=>⟨qv9 hok _,hk0,.inr ⟨i,_,h1,h2,by
  rw [← hsrt]
  exact hm.ke.E (qya ps').bel (qya ps')⟩⟩
 refine ⟨_,m,.tup [],.tuple #[],.tuple #[],rfl,⟨rfl,rfl⟩,hadv1.trans (z1p hadv1.fits os),fun m' _=>by simp [ren,qqu,q0m],hout.h,hout.fr F hfr,by simp [Rel,q2b],hout.mo.ke,zF _⟩
end Go.Vx
end
section
namespace Go.Vx
open Go Go.Rx Go.Proofs Go.Sort Go.Shelf
theorem qp0 {A:Type} {eq:A→A→Bool} {f:A→A→Option Int} {ds ys:List A} (h:qsl eq f ds=some ys):ds.length≤1000000∧qn2 eq f ds=true∧ys=srt (fLt f) ds:=by
 unfold qsl at h
 cases hc:(Nat.ble ds.length 1000000&&qn2 eq f ds) with
 | false=>rw [hc] at h; cases h
 | true =>
  rw [hc] at h
  rw [Bool.and_eq_true,Nat.ble_eq] at hc
  exact ⟨hc.1,hc.2,(Option.some.inj h).symm⟩
theorem z0k {A:Type} {eq:A→A→Bool} {f:A→A→Option Int} {ds ys:List A} (h:qsl eq f ds=some ys):ys.length=ds.length:=by
 obtain ⟨_,_,rfl⟩:=qp0 h
 exact (qgn (fLt f) ds).length_eq
theorem ug_gt:∀ {h:List (Nat×B)} {K:Nat} {b:B},gt h K=some b→ug h K b=h
 | [],K,b,hb=>by simp [gt] at hb
 | (j,c)::h,K,b,hb=>by
  simp only [gt,ug,beq_eq] at hb ⊢
  by_cases e:j=K
  ·simp [e] at hb; simp [e,hb]
  ·simp only [e,decide_false,zD] at hb ⊢
   rw [ug_gt hb]
theorem z3n {P:Program} {f g:FuncId} {cs:List U} (hcs:q1g 0 cs) (hnil:EvU P f [.isl false [],.fn (.func g) [] cs] ⟨[],0⟩ (fun u _=>u = .tup []∧Bel 0 u)) (σ:Sg) {K t k:Nat} {e:TypeId} (hg:gt σ.h K=some (.vec [] e k t)) :
  EvU P f [.vl K t 0 0,.fn (.func g) [] cs] σ (fun u σ'=>u = .tup []∧σ'=⟨ug σ.h K (.vec [] e k t),σ.nx⟩):=by
 have h1:=EvU.view0 (args':=[.vl K t 0 0,.fn (.func g) [] cs]) (σ:=σ) hnil (by simp only [q1g,Bel,qgq,true_and,and_true]; exact hcs) (Gh.trans (Gh.fz K (.vec [] e k t) k hg (by simp) rfl rfl) (Gh.eqv (by
  simp only [q67,qbr,qnv,q36 _ _ cs (q1g.le (Nat.zero_le K) cs hcs)]
  have:=z2s (c:=fun _:Unit=>List.replicate k U.nils) (sz:=k) (fun _=>by simp) ([]:List Unit) K k e t
  simpa using this) rfl))
 refine h1.mono ?_
 rintro u σ' ⟨rfl,rfl⟩
 exact ⟨rfl,by rw [ug_gt hg]⟩
theorem z3m {A:Type} {P:Program} {f g:FuncId} {encU:A→List U} {k:Nat} (hk:∀ a,(encU a).length=k) (hk0:0<k) (hok:∀ a,okL (encU a)=true) (hbl:∀ a,q1g 0 (encU a)) {cs:List U} (hcs:q1g 0 cs) (hs:qxd P f g k) {eq:A→A→Bool} (heq:∀ x y,eq x y=true→x=y)
  (hnil:EvU P f [.isl false [],.fn (.func g) [] cs] ⟨[],0⟩ (fun u _=>u = .tup []∧Bel 0 u)) {f1:A→A→Option Int} (hcmp:∀ a b r,f1 a b=some r→z59 P g (.agg (encU a) :: .agg (encU b)::cs) r)
  (xs ys:List A) (h:qsl eq f1 xs=some ys) (σ:Sg) {K t:Nat} {e:TypeId} (hK:Nat.blt K σ.nx=true) (hg:gt σ.h K=some (.vec (xs.map encU).flatten e k t)) :
  EvU P f [.vl K t 0 xs.length,.fn (.func g) [] cs] σ (fun u σ'=>u = .tup []∧σ'=⟨ug σ.h K (.vec (ys.map encU).flatten e k t),σ.nx⟩):=by
 obtain ⟨h1,h2,rfl⟩:=qp0 h
 by_cases hne:xs=[]
 ·subst hne
  exact z3n hcs hnil σ hg
 ·exact EvU.sortC hk hk0 hok hbl hcs hs xs (qwv heq h2) hcmp hne (by omega) hg
end Go.Vx
end
