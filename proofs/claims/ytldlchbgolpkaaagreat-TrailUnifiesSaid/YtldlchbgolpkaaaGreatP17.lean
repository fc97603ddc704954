/-
  Texts of the walk: VxV PlA MpA H5u T1 T5 K1u.
-/
import Derived.Shelf.SlSortCmp.WholeK
import Derived.Test.YtldlchbgolpkaaaGreatP16
set_option linter.unusedSimpArgs false
set_option linter.unusedVariables false
section
namespace Go.Vx
open Go Go.Rx Go.Proofs Go.Sort
def z60 {α:Type} (lt:α→α→Bool) (x:α):List α→List α
 | []=>[x]
 | y::l=>cond (lt y x) (y::z60 lt x l) (x::y::l)
def srt {α:Type} (lt:α→α→Bool):List α→List α
 | []=>[]
 | x::l=>z60 lt x (srt lt l)
theorem qmq {α:Type} (lt:α→α→Bool) (x:α):∀ l,(z60 lt x l).Perm (x::l)
 | []=>.refl _
 | y::l=>by
  simp only [z60]
  cases lt y x with
  | true=>exact ((qmq lt x l).cons y).trans (.swap _ _ _)
  | false=>exact .refl _
theorem qw2 {α:Type} (lt:α→α→Bool):∀ l,(srt lt l).Perm l
 | []=>.refl _
 | x::l=>(qmq lt x _).trans ((qw2 lt l).cons x)
def Asc {α:Type} (lt:α→α→Bool) (l:List α):Prop:=l.Pairwise (fun x y=>lt y x=false)
theorem qux {α:Type} {lt:α→α→Bool} (h:SWO lt) (x:α):∀ {l},Asc lt l→Asc lt (z60 lt x l)
 | [],_=>by simp [z60,Asc]
 | y::l,ha=>by
  simp only [z60]
  unfold Asc at ha ⊢
  rw [List.pairwise_cons] at ha
  cases hy:lt y x with
  | true =>
   simp only [zC]
   rw [List.pairwise_cons]
   refine ⟨fun z hz=>?_,qux h x ha.2⟩
   have:=(qmq lt x l).mem_iff.1 hz
   rcases zI.1 this with rfl | hz
   ·cases hzy:lt z y with
    | false=>rfl
    | true=>have:=h.trans y z y hy hzy; rw [h.irrefl] at this; cases this
   ·exact ha.1 z hz
  | false =>
   simp only [zD]
   rw [List.pairwise_cons]
   refine ⟨fun z hz=>?_,List.pairwise_cons.2 ha⟩
   rcases zI.1 hz with rfl | hz
   ·exact hy
   ·exact h.ntrans z y x (ha.1 z hz) hy
theorem z0k {α:Type} {lt:α→α→Bool} (h:SWO lt):∀ l,Asc lt (srt lt l)
 | []=>by simp [srt,Asc]
 | x::l=>qux h x (z0k h l)
end Go.Vx
end
section
namespace Go.Proofs
open Go Go.Rx Go.Vx Go.Shelf Go.Sort
theorem qhm:∀ a b:List UInt8,q22 a b=true↔a=b
 | [],[]=>by simp [q22]
 | [],_::_=>by simp [q22]
 | _::_,[]=>by simp [q22]
 | x::a,y::b=>by
  have h:(x.toNat=y.toNat)↔x=y:=UInt8.toNat_inj
  simp only [q22,beq_eq]
  by_cases e:x=y
  ·subst e; simp [qhm a b]
  ·simp [e,mt h.1 e]
theorem z5i (a b:Nat):Nat.blt a b=true↔a<b:=by
 unfold Nat.blt
 rw [Nat.ble_eq]; exact Iff.rfl
theorem blt_iff' (a b:Nat):Nat.blt a b=decide (a<b):=by
 rw [Bool.eq_iff_iff,z5i]; simp
theorem qhg:∀ a:List UInt8,q1v a a=false
 | []=>rfl
 | x::a=>by simp [q1v,blt_iff',qhg a]
theorem qij:∀ a b c:List UInt8,q1v a b=true→q1v b c=true→q1v a c=true
 | _,[],_,h,_=>by simp [q1v] at h
 | _,_::_,[],_,h=>by simp [q1v] at h
 | [],_::_,_::_,_,_=>by simp [q1v]
 | x::a,y::b,z::c,h1,h2=>by
  simp only [q1v,blt_iff',beq_eq] at *
  by_cases h:x.toNat<y.toNat
  ·by_cases h':y.toNat<z.toNat
   ·have:x.toNat<z.toNat:=by omega
    simp [this]
   ·simp only [h',yB,zD] at h2
    by_cases e:y.toNat=z.toNat
    ·have:x.toNat<z.toNat:=by omega
     simp [this]
    ·simp [e] at h2
  ·simp only [h,yB,zD] at h1
   by_cases e:x.toNat=y.toNat
   ·simp only [e,yC,zC] at h1
    by_cases h':y.toNat<z.toNat
    ·simp [e,h']
    ·simp only [h',yB,zD] at h2
     by_cases e':y.toNat=z.toNat
     ·simp only [e',yC,zC] at h2
      have:=qij a b c h1 h2
      simp [e,e',this]
     ·simp [e'] at h2
   ·simp [e] at h1
theorem qii:∀ a b:List UInt8,q1v a b=false→q1v b a=false→a=b
 | [],[],_,_=>rfl
 | [],_::_,h,_=>by simp [q1v] at h
 | _::_,[],_,h=>by simp [q1v] at h
 | x::a,y::b,h1,h2=>by
  simp only [q1v,blt_iff',beq_eq] at *
  by_cases h:x.toNat<y.toNat
  ·simp [h] at h1
  ·by_cases h':y.toNat<x.toNat
   ·simp [h'] at h2
   ·have e:x.toNat=y.toNat:=by omega
    simp only [e,Nat.lt_irrefl,yB,zD,yC,zC] at h1 h2
    rw [qii a b h1 h2,UInt8.toNat_inj.1 e]
variable {α:Type}
theorem q02 {β:Type} (a:α) (k:α→Option β):bindO (some a) k=k a:=rfl
theorem wr {z:Int} (h1 : -9223372036854775808≤z) (h2:z≤9223372036854775807):IntKind.i64.wrap z=z:=wrap_i64 (by omega) (by omega)
variable {i:Nat}
theorem wr1 {len:Nat} (h:i<len) (hl:len≤9223372036854775807):IntKind.i64.wrap ((i:Int)+1)=((i+1:Nat):Int):=by rw [wr (by omega) (by omega)]; simp
theorem wrn {z:Int} {k:Nat} (h:z=k) (h2:k≤9223372036854775807):IntKind.i64.wrap z=(k:Int):=by subst h; exact wr (by omega) (by omega)
variable {l:List α}
theorem q1j (h:i<l.length):∃ x,l[i]? = some x∧x∈l:=⟨l[i],by simp [h],by simp⟩
variable {x:α}
theorem q0r (h:l[i]? = some x):l.take (i+1)=l.take i++[x]:=by rw [List.take_add_one,h]; rfl
theorem drop_cons' (h:l[i]? = some x):l.drop i=x::l.drop (i+1):=by
 have hlt:i<l.length:=(zG.1 h).1
 rw [List.drop_eq_getElem_cons hlt]
 congr 1
 rw [List.getElem?_eq_getElem hlt] at h
 exact Option.some.inj h
theorem dlt {n:Nat} (h:i<n):decide ((i:Int)<(n:Int))=true:=by simp; omega
theorem qfw {n:Nat} (h:¬ i<n):decide ((i:Int)<(n:Int))=false:=by simp; omega
theorem drop_nil' (h:¬ i<l.length):l.drop i=[]:=List.drop_eq_nil_of_le (by omega)
structure Cmp {α:Type} (c:α→α→Int):Prop where
 val:∀ x y,c x y = -1∨c x y=0∨c x y=1
 anti:∀ x y,c y x = - c x y
 trans:∀ x y z,c x y≤0→c y z≤0→c x z≤0
variable {c:α→α→Int}
theorem Cmp.self (h:Cmp c) (x:α):c x x=0:=by have:=h.anti x x; omega
variable {y:α}
theorem Cmp.congr (h:Cmp c) (hxy:c x y=0) (z:α):c x z=c y z:=by
 have h1:=h.val x z
 have h2:=h.val y z
 have a1:=h.anti x y
 have a2:=h.anti x z
 have a3:=h.anti y z
 have t1:=h.trans x y z
 have t2:=h.trans y x z
 have t3:=h.trans z x y
 have t4:=h.trans z y x
 omega
theorem Cmp.congr' (h:Cmp c) (hxy:c x y=0) (z:α):c z x=c z y:=by
 have h1:=h.congr hxy z
 have a2:=h.anti x z
 have a3:=h.anti y z
 omega
theorem Cmp.lt_of (h:Cmp c) {z:α} (h1:c x y<0) (h2:c y z≤0):c x z<0:=by
 have t1:=h.trans x y z (by omega) h2
 rcases Int.lt_or_eq_of_le t1 with h3 | h3
 ·exact h3
 ·have:=h.congr h3 y
  have a3:=h.anti y z
  omega
def qxb {α:Type} (c d:α→α→Int) (x y:α):Int:=if c x y≠0 then c x y else d x y
theorem Cmp.lex {d:α→α→Int} (hc:Cmp c) (hd:Cmp d):Cmp (qxb c d) where
 val x y:=by unfold qxb; split; exact hc.val x y; exact hd.val x y
 anti x y:=by
  unfold qxb
  have a1:=hc.anti x y
  have a2:=hd.anti x y
  by_cases h:c x y=0
  ·have:c y x=0:=by omega
   simp [h,this,a2]
  ·have:¬ c y x=0:=by omega
   simp [h,this,a1]
 trans x y z h1 h2:=by
  unfold qxb at *
  by_cases h:c x y=0
  ·have e:=hc.congr h z
   simp only [h,ne_eq,not_true,if_false] at h1
   rw [e]
   by_cases h':c y z=0
   ·simp only [h',ne_eq,not_true,if_false] at h2 ⊢
    exact hd.trans x y z h1 h2
   ·simp only [h',ne_eq,not_false_eq_true,if_true] at h2 ⊢
    exact h2
  ·simp only [h,ne_eq,not_false_eq_true,if_true] at h1
   have h1':c x y<0:=by omega
   by_cases h':c y z=0
   ·have e:=hc.congr' h' x
    rw [← e]
    simp only [h,ne_eq,not_false_eq_true,if_true]
    exact h1
   ·simp only [h',ne_eq,not_false_eq_true,if_true] at h2
    have:=hc.lt_of h1' h2
    have hne:¬ c x z=0:=by omega
    simp only [hne,ne_eq,not_false_eq_true,if_true]
    omega
theorem qmu {d:α→α→Int}:qxb c d x y=0↔c x y=0∧d x y=0:=by
 unfold qxb
 by_cases h:c x y=0<;>simp [h]
theorem Cmp.pull {β:Type} (h:Cmp c) (f:β→α):Cmp (fun x y=>c (f x) (f y)):=⟨fun x y=>h.val _ _,fun x y=>h.anti _ _,fun x y z=>h.trans _ _ _⟩
def qk0 (a b:Int):Int:=if a<b then -1 else if b<a then 1 else 0
theorem qfv {a b : Int} : qk0 a b = 0 ↔ a = b := by unfold qk0; split; · omega
                                                    split <;> omega
theorem qk1 : Cmp qk0 where
  val x y := by unfold qk0; split; · simp
                split <;> simp
  anti x y := by unfold qk0; split <;> split <;> (try split) <;> omega
  trans x y z := by
    unfold qk0
    intro h1 h2
    split at h1 <;> split at h2 <;> (try split at h1) <;> (try split at h2) <;> (try split) <;> (try split) <;> omega
theorem z2s (c:α→α→Int) (x y:α):ltOf c x y=true↔c x y<0:=by simp [ltOf]
theorem Cmp.swo (h:Cmp c):SWO (ltOf c) where
 irrefl x:=by have:=h.self x; simp [ltOf,this]
 trans x y z h1 h2:=by rw [z2s] at *; exact h.lt_of h1 (by omega)
 ntrans x y z h1 h2:=by
  have e:∀ a b,ltOf c a b=false↔c b a≤0:=fun a b=>by have:=h.anti a b; simp [ltOf]; omega
  rw [e] at *
  exact h.trans z y x h2 h1
section
variable {α:Type} {c:α→α→Int}
theorem srt_le (hc:Cmp c) (l:List α):(srt (ltOf c) l).Pairwise (fun x y=>c x y≤0):=by
 have:=z0k hc.swo l
 refine List.Pairwise.imp ?_ this
 intro x y h
 have:=hc.anti x y
 simp [ltOf] at h
 omega
end
end Go.Proofs
end
section
namespace Go.Vx
open Go Go.Rx
section
variable {K V:Type} [DecidableEq K]
def qod (k:K):List (K×V×Nat)→Option V
 | []=>none
 | e::es=>if k=e.1 then some e.2.1 else qod k es
variable {eq:K→K→Bool} (he:∀ a b,eq a b=true↔a=b)
include he
omit [DecidableEq K] in
theorem eq_f {a b:K} (h:¬ a=b):eq a b=false:=by
 cases h':eq a b with
 | false=>rfl
 | true=>exact absurd ((he a b).1 h') h
theorem qpe (k:K):∀ (es:List (K×V×Nat)) (i:Nat),(qc3 eq k es i).map (fun x=>x.2.1)=qod k es
 | [],i=>rfl
 | e::es,i=>by
  simp only [qc3,qod]
  by_cases h:k=e.1
  ·rw [(he k e.1).2 h,if_pos h]; rfl
  ·rw [eq_f he h,if_neg h]; exact qpe k es (i+1)
theorem z2t (m:qem K V) (k:K):qz5 eq m k=qod k m.es:=qpe he k m.es 0
theorem qyp (k:K) (v:V):∀ {es:List (K×V×Nat)} {i j:Nat} {q:V×Nat},qc3 eq k es i=some (j,q)→i≤j∧∀ x,qod x (qh7 v es (j - i))=if x=k then some v else qod x es
 | [],i,j,q,h=>by cases h
 | e::es,i,j,q,h=>by
  simp only [qc3] at h
  by_cases hk:k=e.1
  ·rw [(he k e.1).2 hk] at h
   simp only [zC,zA,zB] at h
   obtain ⟨rfl,_⟩:=h
   refine ⟨zF _,fun x=>?_⟩
   simp only [Nat.sub_self,qh7,qod,hk]
   split<;>rfl
  ·rw [eq_f he hk] at h
   simp only [zD] at h
   obtain ⟨h1,h2⟩:=qyp k v h
   refine ⟨by omega,fun x=>?_⟩
   rw [show j - i=(j - (i+1))+1 by omega]
   simp only [qh7,qod,h2]
   by_cases hx:x=e.1
   ·have:¬ x=k:=fun h=>hk (h ▸ hx)
    simp [hx]
    intro h; exact absurd h.symm hk
   ·simp [hx]
omit he [DecidableEq K] in
theorem qvz (v:V):∀ (es:List (K×V×Nat)) (i:Nat),(qh7 v es i).map (fun e=>e.1)=es.map (fun e=>e.1)∧(qh7 v es i).map (fun e=>e.2.2)=es.map (fun e=>e.2.2)
 | [],i=>by simp [qh7]
 | e::es,0=>by simp [qh7]
 | e::es,i+1=>by simp [qh7,qvz v es i]
omit he in
theorem qyo (x k:K) (v:V) (b:Nat):∀ es:List (K×V×Nat),qod x (es++[(k,v,b)])=if qod x es=none then (if x=k then some v else none) else qod x es
 | []=>by simp [qod]
 | e::es=>by
  simp only [List.cons_append,qod]
  by_cases hx:x=e.1
  ·simp [hx]
  ·simp only [hx,if_false]; exact qyo x k v b es
structure MInv (m:qem K V):Prop where
 keys:(m.es.map (fun e=>e.1)).Nodup
 borns:(m.es.map (fun e=>e.2.2)).Nodup
 lt:∀ e∈m.es,e.2.2<m.cl
omit he in
theorem MInv.app {m:qem K V} (h:MInv m) {k:K} (hf:qod k m.es=none) (v:V):MInv (⟨m.es++[(k,v,m.cl)],m.cl+1⟩:qem K V):=by
 refine ⟨?_,?_,?_⟩
 ·simp only [List.map_append,zQ,List.map_nil]
  rw [List.nodup_append]
  refine ⟨h.keys,by simp,?_⟩
  intro a ha b hb hab
  simp only [List.mem_singleton] at hb
  subst hab hb
  clear h
  generalize m.es=es at *
  induction es with
  | nil=>simp at ha
  | cons e es ih =>
   simp only [qod] at hf
   by_cases hx:a=e.1
   ·simp [hx] at hf
   ·simp only [hx,if_false] at hf
    simp only [zQ,zI,hx,false_or] at ha
    exact ih ha hf
 ·simp only [List.map_append,zQ,List.map_nil]
  rw [List.nodup_append]
  refine ⟨h.borns,by simp,?_⟩
  intro a ha b hb hab
  simp only [List.mem_singleton] at hb
  obtain ⟨e,he,rfl⟩:=List.mem_map.1 ha
  have:=h.lt e he
  omega
 ·intro e he
  rcases yD.1 he with he | he
  ·have:=h.lt e he; simp only; omega
  ·simp only [List.mem_singleton] at he; subst he; simp
omit he [DecidableEq K] in
theorem MInv.set {m:qem K V} (h:MInv m) (v:V) (i:Nat):MInv (⟨qh7 v m.es i,m.cl⟩:qem K V):=by
 obtain ⟨h1,h2⟩:=qvz v m.es i
 refine ⟨by simp only [h1]; exact h.keys,by simp only [h2]; exact h.borns,fun e he=>?_⟩
 have:e.2.2∈(qh7 v m.es i).map (fun e=>e.2.2):=List.mem_map.2 ⟨e,he,rfl⟩
 rw [h2] at this
 obtain ⟨e',g1,g2⟩:=List.mem_map.1 this
 have:=h.lt e' g1
 simp only at g2 ⊢
 omega
theorem upd_ok {m:qem K V} (h:MInv m) (k:K) (v:V):MInv (qv7 eq m k v)∧∀ x,qod x (qv7 eq m k v).es=if x=k then some v else qod x m.es:=by
 unfold qv7
 cases hf:qc3 eq k m.es 0 with
 | none =>
  have hg:qod k m.es=none:=by rw [← qpe he k m.es 0,hf]; rfl
  refine ⟨h.app hg v,fun x=>?_⟩
  simp only [qyo]
  by_cases hx:x=k
  ·simp [hx,hg]
  ·simp only [hx,if_false]; split<;>simp_all
 | some q =>
  obtain ⟨j,q⟩:=q
  have:=(qyp he k v hf).2
  exact ⟨h.set v j,fun x=>by simpa using this x⟩
end
end Go.Vx
end
section
namespace Go.Proofs
open Go Go.Rx Go.Vx Go.Shelf Go.Sort
set_option maxRecDepth 10000
def qiy {α:Type} (c:α→α→Int):List α→List α→Int
 | [],[]=>0
 | [],_::_=>-1
 | _::_,[]=>1
 | x::xs,y::ys=>if c x y≠0 then c x y else qiy c xs ys
theorem Cmp.list {α:Type} {c:α→α→Int} (h:Cmp c):Cmp (qiy c) where
 val:=by
  intro x
  induction x with
  | nil=>intro y; cases y<;>simp [qiy]
  | cons a x ih =>
   intro y
   cases y with
   | nil=>simp [qiy]
   | cons b y=>simp only [qiy]; split; exact h.val a b; exact ih y
 anti:=by
  intro x
  induction x with
  | nil=>intro y; cases y<;>simp [qiy]
  | cons a x ih =>
   intro y
   cases y with
   | nil=>simp [qiy]
   | cons b y =>
    simp only [qiy]
    have a1:=h.anti a b
    have a2:=ih y
    by_cases e:c a b=0
    ·have:c b a=0:=by omega
     simp [e,this,a2]
    ·have:¬ c b a=0:=by omega
     simp [e,this,a1]
 trans:=by
  intro x
  induction x with
  | nil =>
   intro y z h1 h2
   cases z<;>simp [qiy]
  | cons a x ih =>
   intro y z h1 h2
   cases y with
   | nil=>simp [qiy] at h1
   | cons b y =>
    cases z with
    | nil=>simp [qiy] at h2
    | cons d z =>
     simp only [qiy] at *
     by_cases e:c a b=0
     ·have e2:=h.congr e d
      simp only [e,ne_eq,not_true,if_false] at h1
      rw [e2]
      by_cases e3:c b d=0
      ·simp only [e3,ne_eq,not_true,if_false] at h2 ⊢
       exact ih y z h1 h2
      ·simp only [e3,ne_eq,not_false_eq_true,if_true] at h2 ⊢
       exact h2
     ·simp only [e,ne_eq,not_false_eq_true,if_true] at h1
      have h1':c a b<0:=by omega
      by_cases e3:c b d=0
      ·have e4:=h.congr' e3 a
       rw [← e4]
       simp only [e,ne_eq,not_false_eq_true,if_true]
       exact h1
      ·simp only [e3,ne_eq,not_false_eq_true,if_true] at h2
       have:=h.lt_of h1' h2
       have hne:¬ c a d=0:=by omega
       simp only [hne,ne_eq,not_false_eq_true,if_true]
       omega
theorem qmv {α:Type} {c:α→α→Int}:∀ {xs ys:List α},(∀ x∈xs,∀ y,c x y=0→x=y)→qiy c xs ys=0→xs=ys
 | [],[],_,_=>rfl
 | [],_::_,_,h=>by simp [qiy] at h
 | _::_,[],_,h=>by simp [qiy] at h
 | x::xs,y::ys,hc,h=>by
  simp only [qiy] at h
  by_cases e:c x y=0
  ·simp only [e,ne_eq,not_true,if_false] at h
   rw [hc x (by simp) y e,qmv (fun a ha=>hc a (by simp [ha])) h]
  ·simp [e] at h
def ccA:q0f→q0f→Int:=qxb (fun x y=>qk0 x.Feat y.Feat) (fun x y=>qk0 x.To y.To)
theorem ccA_ok:Cmp ccA:=(qk1.pull _).lex (qk1.pull _)
theorem z1p {x y:q0f} (h:ccA x y=0):x=y:=by
 simp only [ccA,qmu,qfv] at h
 cases x; cases y; simp only at h; obtain ⟨rfl,rfl⟩:=h; rfl
def ccN:q0j→q0j→Int:=qxb (qxb (fun x y=>qk0 x.Typex y.Typex) (fun x y=>qk0 x.Arcs.length y.Arcs.length)) (fun x y=>qiy ccA x.Arcs y.Arcs)
theorem ccN_ok:Cmp ccN:=((qk1.pull _).lex (qk1.pull (fun x:q0j=>(x.Arcs.length:Int)))).lex (ccA_ok.list.pull _)
theorem z1q {x y:q0j} (h:ccN x y=0):x=y:=by
 simp only [ccN,qmu,qfv] at h
 have:=qmv (fun a _ b h=>z1p h) h.2
 cases x; cases y; simp only at h this; obtain ⟨⟨rfl,_⟩,_⟩:=h; subst this; rfl
def ccG:GFS→GFS→Int:=qxb (fun x y=>qk0 x.Nodes.length y.Nodes.length) (fun x y=>qiy ccN x.Nodes y.Nodes)
theorem ccG_ok:Cmp ccG:=(qk1.pull (fun x:GFS=>(x.Nodes.length:Int))).lex (ccN_ok.list.pull _)
theorem qp9 {x y:GFS}:ccG x y=0↔x=y:=⟨fun h=>by
 simp only [ccG,qmu,qfv] at h
 have:=qmv (fun a _ b h=>z1q h) h.2
 cases x; cases y; simp only at this; subst this; rfl,fun h=>by subst h; exact ccG_ok.self x⟩
structure Small (f:GFS) (k:Nat):Prop where
 nodes:f.Nodes.length≤k
 arcs:∀ x∈f.Nodes,x.Arcs.length≤k
def z0z (l:List q0f):List Int:=l.flatMap fun a=>[a.Feat,a.To]
def qs1 (x:q0j):List Int:=[x.Typex,(x.Arcs.length:Int)]++z0z x.Arcs
def qzi (f:GFS):List Int:=(f.Nodes.length:Int)::f.Nodes.flatMap qs1
theorem qp4:∀ l:List q0f,(z0z l).length=2*l.length
 | []=>rfl
 | a::l=>by have:=qp4 l; simp only [z0z,List.flatMap_cons,zU,zO,zS] at *; omega
theorem qzk {x:q0j} {i:Int} {rc:Int→List Int→Option (List Int)} (hx:x.Arcs.length≤1000000):∀ (m k:Nat) (acc:List Int),x.Arcs.length - k<m→k≤x.Arcs.length→acc.length+2*(x.Arcs.length - k)≤1000000000 →
  q5b i rc x m k acc=rc (IntKind.i64.wrap (i+1)) (acc++z0z (x.Arcs.drop k))
 | 0,k,acc,hm,_,_=>by omega
 | m+1,k,acc,hm,hk,ha=>by
  unfold q5b
  by_cases hlt:k<x.Arcs.length
  ·obtain ⟨a,h1,_⟩:=q1j hlt
   have hn:(acc.length+2)*8≤140737488355328∧acc.length+2≤140737488355328:=by omega
   simp only [dlt hlt,zC,q07,h1,q02,needO,hn,and_self,if_true,wr1 hlt (show x.Arcs.length≤9223372036854775807 by omega)]
   rw [qzk hx m (k+1) _ (by omega) (by omega) (by simp only [zU,zO,zS]; omega),drop_cons' h1]
   simp [z0z]
  ·simp only [qfw hlt,zD,q8r,drop_nil' hlt,z0z,List.flatMap_nil,List.append_nil]
theorem qzj {f:GFS} {n:Nat} (hf:Small f 1000) (hn:1001≤n):∀ (m i:Nat) (acc:List Int),f.Nodes.length - i<m→i≤f.Nodes.length→acc.length+2002*(f.Nodes.length - i)≤900000000 →
  q2u f n m i acc=some (acc++(f.Nodes.drop i).flatMap qs1)
 | 0,i,acc,hm,_,_=>by omega
 | m+1,i,acc,hm,hi,ha=>by
  unfold q2u
  have hl:=hf.nodes
  by_cases hlt:i<f.Nodes.length
  ·obtain ⟨x,hx,hxm⟩:=q1j hlt
   have h2:=hf.arcs x hxm
   have hn:(acc.length+2)*8≤140737488355328∧acc.length+2≤140737488355328:=by omega
   have h0:=qzk (i:=(i:Int)) (rc:=q2u f n m) (x:=x) (by omega) n 0 (acc++[x.Typex,(x.Arcs.length:Int)]) (by omega) (by omega) (by simp only [zU,zO,zS]; omega)
   rw [zV,List.drop_zero] at h0
   simp only [dlt hlt,zC,q07,hx,q02,needO,hn,and_self,if_true,h0,wr1 hlt (show f.Nodes.length≤9223372036854775807 by omega)]
   rw [qzj hf (by omega) m (i+1) _ (by omega) (by omega) (by simp only [zU,zO,zS,qp4]; omega),drop_cons' hx]
   simp [qs1]
  ·simp only [qfw hlt,zD,q8q,drop_nil' hlt,List.flatMap_nil,List.append_nil]
variable {f:GFS}
variable {n:Nat}
theorem qzl (hf:Small f 1000) (hn:1001≤n):q7w n f=some (qzi f):=by
 have hl:=hf.nodes
 have:=qzj hf hn n 0 [(f.Nodes.length:Int)] (by omega) (by omega) (by simp only [zO,zS]; omega)
 rw [zV,List.drop_zero] at this
 simp only [q7w,this,qzi,List.singleton_append]
def qtn:List Int→List Int→Int
 | x::xs,y::ys=>if qk0 x y≠0 then qk0 x y else qtn xs ys
 | _,_=>0
theorem qvr {l m:List Int} (hl:l.length≤1000000000):∀ (n i:Nat),l.length - i<n→i≤l.length→q5a l m n i=some (qtn (l.drop i) (m.drop i))
 | 0,i,hn,_=>by omega
 | n+1,i,hn,hi=>by
  unfold q5a
  by_cases h1:i<l.length
  ·obtain ⟨x,hx,_⟩:=q1j h1
   by_cases h2:i<m.length
   ·obtain ⟨y,hy,_⟩:=q1j h2
    simp only [dlt h1,dlt h2,zC,q02,q07,hx,hy,wr1 h1 (show l.length≤9223372036854775807 by omega),drop_cons' hx,drop_cons' hy,qtn,qk0]
    by_cases h3:x<y
    ·simp [h3]
    ·by_cases h4:y<x
     ·simp [h3,h4]
     ·simp only [h3,h4,yB,zD,if_false,ne_eq,not_true,gt_iff_lt]
      exact qvr hl n (i+1) (by omega) (by omega)
   ·simp only [dlt h1,qfw h2,zC,zD,q02,q6q,drop_cons' hx,drop_nil' h2,qtn]
  ·simp only [qfw h1,zD,q02,q6q,drop_nil' h1,qtn]
theorem z2y {k:Nat} (hf:Small f k):(qzi f).length≤1+f.Nodes.length*(2+2*k):=by
 have:∀ l:List q0j,(∀ x∈l,x.Arcs.length≤k)→(l.flatMap qs1).length≤l.length*(2+2*k):=by
  intro l
  induction l with
  | nil=>intro _; simp
  | cons x l ih =>
   intro h
   have h1:=ih fun y hy=>h y (List.mem_cons_of_mem _ hy)
   have h2:=h x (by simp)
   have h3:(l.length+1)*(2+2*k)=l.length*(2+2*k)+(2+2*k):=by rw [Nat.add_mul,Nat.one_mul]
   simp only [List.flatMap_cons,zU,qs1,zO,zS,qp4]
   rw [h3]
   omega
 have:=this f.Nodes hf.arcs
 simp only [qzi,zO]
 omega
theorem z01 {g:GFS} (hf:Small f 1000) (hg:Small g 1000) (hn:3000000≤n):q9r n f g=some (qtn (qzi f) (qzi g)):=by
 have h1:=z2y hf
 have h2:=hf.nodes
 have h3:f.Nodes.length*(2+2*1000)≤1000*(2+2*1000):=Nat.mul_le_mul_right _ h2
 have:=qvr (l:=qzi f) (m:=qzi g) (by omega) n 0 (by omega) (by omega)
 rw [zV,List.drop_zero,List.drop_zero] at this
 simp only [q9r,qzl hf (show 1001≤n by omega),qzl hg (show 1001≤n by omega),q02,this]
theorem qrs {c d:List Int}:∀ {xs ys:List q0f},xs.length=ys.length→qtn (z0z xs++c) (z0z ys++d)=if qiy ccA xs ys≠0 then qiy ccA xs ys else qtn c d
 | [],[],_=>by simp [z0z,qiy]
 | [],_::_,h=>by simp at h
 | _::_,[],h=>by simp at h
 | x::xs,y::ys,h=>by
  simp only [zO,Nat.add_right_cancel_iff] at h
  have ih:=qrs (c:=c) (d:=d) h
  simp only [z0z,List.flatMap_cons,List.cons_append,List.nil_append,qtn,qiy] at ih ⊢
  rw [ih]
  unfold ccA qxb
  by_cases e:qk0 x.Feat y.Feat=0
  ·by_cases e2:qk0 x.To y.To=0<;>simp [e,e2]
  ·simp [e]
theorem qoo {c d:List Int}:∀ {xs ys:List q0j},xs.length=ys.length→qtn (xs.flatMap qs1++c) (ys.flatMap qs1++d)=if qiy ccN xs ys≠0 then qiy ccN xs ys else qtn c d
 | [],[],_=>by simp [qiy]
 | [],_::_,h=>by simp at h
 | _::_,[],h=>by simp at h
 | x::xs,y::ys,h=>by
  simp only [zO,Nat.add_right_cancel_iff] at h
  have ih:=qoo (c:=c) (d:=d) h
  simp only [List.flatMap_cons,qs1,zT,List.cons_append,List.nil_append,qtn,qiy]
  have hN:ccN x y=(if (if qk0 x.Typex y.Typex≠0 then qk0 x.Typex y.Typex else qk0 (x.Arcs.length:Int) y.Arcs.length)≠0 then (if qk0 x.Typex y.Typex≠0 then qk0 x.Typex y.Typex else qk0 (x.Arcs.length:Int) y.Arcs.length) else qiy ccA x.Arcs y.Arcs):=rfl
  simp only [hN]
  by_cases e:qk0 x.Typex y.Typex=0
  ·by_cases e2:qk0 (x.Arcs.length:Int) y.Arcs.length=0
   ·have hl:x.Arcs.length=y.Arcs.length:=by have:=qfv.1 e2; omega
    simp only [e,e2,ne_eq,not_true,if_false]
    rw [qrs hl,ih]
    by_cases e3:qiy ccA x.Arcs y.Arcs=0<;>simp [e3]
   ·simp [e,e2]
  ·simp [e]
theorem z5j (f g:GFS):qtn (qzi f) (qzi g)=ccG f g:=by
 simp only [qzi,qtn,ccG]
 unfold qxb
 by_cases e:qk0 (f.Nodes.length:Int) g.Nodes.length=0
 ·have hl:f.Nodes.length=g.Nodes.length:=by have:=qfv.1 e; omega
  have:=qoo (c:=[]) (d:=[]) hl
  simp only [List.append_nil,qtn] at this
  simp only [e,ne_eq,not_true,if_false,this]
  by_cases e2:qiy ccN f.Nodes g.Nodes=0<;>simp [e2]
 ·simp [e]
theorem qq9 {g:GFS} (hf:Small f 1000) (hg:Small g 1000) (hn:3000000≤n):q4z n f g=some (ccG f g == 0):=by
 simp only [q4z,z01 hf hg hn,q02,z5j]
theorem qv1 {f:GFS} (hl:f.Nodes.length≤12):∀ (m i:Nat),f.Nodes.length - i<m→i≤f.Nodes.length→∃ b,q6y f m i=some b∧(b=true→∀ x∈f.Nodes.drop i,x.Arcs.length≤12)
 | 0,i,hm,_=>by omega
 | m+1,i,hm,hi=>by
  unfold q6y
  by_cases hlt:i<f.Nodes.length
  ·obtain ⟨x,hx,_⟩:=q1j hlt
   simp only [dlt hlt,zC,q07,hx,q02,wr1 hlt (show f.Nodes.length≤9223372036854775807 by omega)]
   by_cases h:(x.Arcs.length:Int) > 12
   ·simp only [h,yC,zC]; exact ⟨false,rfl,fun h=>by cases h⟩
   ·simp only [h,yB,zD]
    obtain ⟨b,h1,h2⟩:=qv1 hl m (i+1) (by omega) (by omega)
    refine ⟨b,h1,fun hb=>?_⟩
    rw [drop_cons' hx]
    intro y hy
    rcases zI.1 hy with rfl | hy
    ·omega
    ·exact h2 hb y hy
  ·simp only [qfw hlt,zD,qbc,drop_nil' hlt]
   exact ⟨true,rfl,fun _ x hx=>by cases hx⟩
theorem z2q (f:GFS) (hn:20≤n):∃ b,qdc n f=some b∧(b=true→Small f 12):=by
 unfold qdc
 by_cases h:(f.Nodes.length:Int) > 12
 ·simp only [h,yC,zC]; exact ⟨false,rfl,fun h=>by cases h⟩
 ·simp only [h,yB,zD]
  obtain ⟨b,h1,h2⟩:=qv1 (f:=f) (by omega) n 0 (by omega) (by omega)
  rw [zV] at h1
  rw [List.drop_zero] at h2
  exact ⟨b,h1,fun hb=>⟨by omega,h2 hb⟩⟩
theorem Small.up {k k':Nat} (h:Small f k) (hk:k≤k'):Small f k':=⟨by have:=h.nodes; omega,fun x hx=>by have:=h.arcs x hx; omega⟩
def cF (a b:q0f):Int:=qk0 a.Feat b.Feat
theorem cF_ok:Cmp cF:=qk1.pull q0f.Feat
def qqt (l:List q0f):List q0f:=srt (ltOf cF) l
theorem q9z (l:List q0f):(qqt l).Perm l:=qw2 _ l
def Dis (l:List q0f):Prop:=l.Pairwise (fun a b=>a.Feat≠b.Feat)
variable {l:List q0f}
theorem Dis.perm {m:List q0f} (h:l.Perm m) (hd:Dis l):Dis m:=(h.pairwise_iff (fun {a b} h=>Ne.symm h)).1 hd
theorem Dis.eq:∀ {l:List q0f},Dis l→∀ x∈l,∀ y∈l,x.Feat=y.Feat→x=y
 | [],_,x,hx,_,_,_=>by cases hx
 | a::l,h,x,hx,y,hy,e=>by
  obtain ⟨h1,h2⟩:=List.pairwise_cons.1 h
  rcases zI.1 hx with e1 | hx'
  ·rcases zI.1 hy with e2 | hy'
   ·rw [e1,e2]
   ·subst e1; exact absurd e (h1 y hy')
  ·rcases zI.1 hy with e2 | hy'
   ·subst e2; exact absurd e.symm (h1 x hx')
   ·exact Dis.eq h2 x hx' y hy' e
def UpA (l:List q0f):Prop:=l.Pairwise (fun a b=>a.Feat<b.Feat)
theorem cF_le {a b:q0f}:cF a b≤0↔a.Feat≤b.Feat:=by
 unfold cF qk0
 by_cases h1:a.Feat<b.Feat
 ·simp [h1]; omega
 ·by_cases h2:b.Feat<a.Feat
  ·simp [h1,h2]
  ·simp [h1,h2]; omega
theorem qqh (h:Dis l):UpA (qqt l):=by
 have h1:=srt_le cF_ok l
 have h2:Dis (qqt l):=h.perm (q9z l).symm
 refine (List.Pairwise.and h1 h2).imp fun {a b} h=>?_
 have:=cF_le.1 h.1
 have:=h.2
 omega
theorem qqm:∀ {a b:List q0f},UpA a→UpA b→a.Perm b→a=b
 | [],b,_,_,h=>(List.nil_perm.1 h).symm
 | x::a,[],_,_,h=>by have:=h.length_eq; simp at this
 | x::a,y::b,ha,hb,h=>by
  obtain ⟨h1,h2⟩:=List.pairwise_cons.1 ha
  obtain ⟨h3,h4⟩:=List.pairwise_cons.1 hb
  have hxy:x=y:=by
   rcases zI.1 (h.mem_iff.1 (List.mem_cons_self)) with hx | hx
   ·exact hx
   ·rcases zI.1 (h.mem_iff.2 (List.mem_cons_self)) with hy | hy
    ·exact hy.symm
    ·have h5:=h1 y hy; have h6:=h3 x hx; omega
  subst hxy
  rw [qqm h2 h4 (h.cons_inv)]
theorem z0j {m:List q0f} (hd:Dis l) (h:m.Perm l) (hm:UpA m):qqt l=m:=qqm (qqh hd) hm ((q9z l).trans h.symm)
theorem UpA.dis (h:UpA l):Dis l:=h.imp fun {a b} h=>by omega
structure NOk (x:q0j) (N:Nat):Prop where
 ty:0≤x.Typex
 dis:Dis x.Arcs
 arc:∀ a∈x.Arcs,0≤a.Feat∧0≤a.To∧a.To<N
def GOK (f:GFS):Prop:=∀ x∈f.Nodes,NOk x f.Nodes.length
def nd (f:GFS) (v:Int):q0j:=(f.Nodes[v.toNat]?).getD (q0j.mk 0 [])
def InG (f:GFS) (v:Int):Prop:=0≤v∧v<f.Nodes.length
variable {f:GFS}
variable {v:Int}
theorem qwx (h:InG f v):idxO f.Nodes v=some (nd f v)∧nd f v∈f.Nodes:=by
 have hv:v.toNat<f.Nodes.length:=by have:=h.1; have:=h.2; omega
 have h1:0≤v∧v<(f.Nodes.length:Int):=h
 simp [idxO,h1,nd,hv]
def sar (f:GFS) (v:Int):List q0f:=qqt (nd f v).Arcs
theorem qkk {a:q0f}:a∈sar f v↔a∈(nd f v).Arcs:=(q9z _).mem_iff
def qsy (g:List Int→Int→List Int) (o:List Int) (a:q0f):List Int:=if a.To∈o then o else g o a.To
def dfs (f:GFS):Nat→List Int→Int→List Int
 | 0,o,_=>o
 | k+1,o,v=>(sar f v).foldl (qsy (dfs f k)) (o++[v])
structure Seen (f:GFS) (o:List Int):Prop where
 nd:o.Nodup
 ing:∀ v∈o,InG f v
theorem qhz:∀ (N:Nat) {o:List Int},o.Nodup→(∀ v∈o,0≤v∧v<N)→o.length≤N
 | 0,o,_,h=>by
  cases o with
  | nil=>simp
  | cons v o=>have:=h v (by simp); omega
 | N+1,o,hn,h=>by
  have h1:=qhz N (o:=o.filter (fun v=>v != (N:Int))) (hn.filter _) fun v hv=>by
   rw [List.mem_filter] at hv
   have:=h v hv.1
   have h2:=hv.2
   simp at h2
   omega
  have h2:o.length≤(o.filter (fun v=>v != (N:Int))).length+1:=by
   clear h1 h
   induction o with
   | nil=>simp
   | cons x o ih =>
    obtain ⟨h3,h4⟩:=List.nodup_cons.1 hn
    have:=ih h4
    by_cases e:x=N
    ·subst e
     have:o.filter (fun v=>v != (N:Int))=o:=List.filter_eq_self.2 fun v hv=>by
      simp only [bne_iff_ne,ne_eq]
      intro e; subst e; exact h3 hv
     simp [this]
    ·have e2:(x != (N:Int))=true:=by simpa using e
     rw [List.filter_cons_of_pos (by simpa using e)]
     simp only [zO]
     omega
  omega
variable {o:List Int}
theorem Seen.len (h:Seen f o):o.length≤f.Nodes.length:=qhz _ h.nd h.ing
theorem Seen.snoc (h:Seen f o) (hv:InG f v) (hn:v ∉ o):Seen f (o++[v]):=⟨by
 rw [List.nodup_append]
 refine ⟨h.nd,by simp,?_⟩
 intro a ha b hb
 simp at hb
 subst hb
 intro e; subst e; exact hn ha,fun u hu=>by
 rcases yD.1 hu with hu | hu
 ·exact h.ing u hu
 ·simp at hu; subst hu; exact hv⟩
theorem qy5 {f:GFS} (hg:GOK f):∀ (k:Nat) (o:List Int) (v:Int),Seen f o→InG f v→v ∉ o→f.Nodes.length - o.length≤k →
  Seen f (dfs f k o v)∧(∃ t,dfs f k o v=o++v::t)∧(∀ u∈dfs f k o v,u ∉ o→∀ a∈(nd f u).Arcs,a.To∈dfs f k o v)∧(∀ k',f.Nodes.length - o.length≤k'→dfs f k' o v=dfs f k o v)
 | 0,o,v,hs,hv,hn,hk=>by
  have h1:=(hs.snoc hv hn).len
  simp only [zU,zO,zS] at h1
  omega
 | k+1,o,v,hs,hv,hn,hk=>by
  have hs1:=hs.snoc hv hn
  have hl1:=hs1.len
  simp only [zU,zO,zS] at hl1
  have key:∀ (l:List q0f),(∀ a∈l,InG f a.To)→∀ (p:List Int),Seen f p→(∃ t,p=o++v::t)→(∀ u∈p,u ∉ o→u≠v→∀ a∈(nd f u).Arcs,a.To∈p) →
    Seen f (l.foldl (qsy (dfs f k)) p)∧(∃ t,l.foldl (qsy (dfs f k)) p=p++t)∧(∀ u∈l.foldl (qsy (dfs f k)) p,u ∉ o→u≠v→∀ a∈(nd f u).Arcs,a.To∈l.foldl (qsy (dfs f k)) p)∧(∀ a∈l,a.To∈l.foldl (qsy (dfs f k)) p) ∧
     (∀ k',f.Nodes.length - (o.length+1)≤k'→l.foldl (qsy (dfs f k')) p=l.foldl (qsy (dfs f k)) p):=by
   intro l
   induction l with
   | nil=>intro _ p hp hpre hcl; exact ⟨hp,⟨[],by simp⟩,hcl,⟨fun a ha=>(List.not_mem_nil ha).elim,fun _ _=>rfl⟩⟩
   | cons a l ih =>
    intro hl p hp hpre hcl
    have hla:=hl a (by simp)
    have hll:=fun b hb=>hl b (List.mem_cons_of_mem a hb)
    simp only [List.foldl_cons]
    by_cases hm:a.To∈p
    ·have e:∀ k',qsy (dfs f k') p a=p:=fun k'=>by simp [qsy,hm]
     simp only [e]
     obtain ⟨g1,⟨t,g2⟩,g3,g4,g5⟩:=ih hll p hp hpre hcl
     refine ⟨g1,⟨t,g2⟩,g3,fun b hb=>?_,g5⟩
     rcases zI.1 hb with rfl | hb
     ·rw [g2]; exact List.mem_append_left _ hm
     ·exact g4 b hb
    ·have e:∀ k',qsy (dfs f k') p a=dfs f k' p a.To:=fun k'=>by simp [qsy,hm]
     obtain ⟨t0,hpre⟩:=hpre
     have hpl:o.length+1≤p.length:=by rw [hpre]; simp
     obtain ⟨d1,⟨t1,d2⟩,d3,d4⟩:=qy5 hg k p a.To hp hla hm (by omega)
     have hsub:∀ u∈p,u∈dfs f k p a.To:=fun u hu=>by rw [d2]; exact List.mem_append_left _ hu
     obtain ⟨g1,⟨t,g2⟩,g3,g4,g5⟩:=ih hll (dfs f k p a.To) d1 ⟨t0++a.To::t1,by rw [d2,hpre]; simp⟩ (fun u hu h1 h2 b hb=>by
      by_cases hup:u∈p
      ·exact hsub _ (hcl u hup h1 h2 b hb)
      ·exact d3 u hu hup b hb)
     rw [e k]
     refine ⟨g1,⟨a.To::t1++t,by rw [g2,d2]; simp⟩,g3,fun b hb=>?_,fun k' hk'=>?_⟩
     ·rcases zI.1 hb with rfl | hb
      ·rw [g2,d2]; simp
      ·exact g4 b hb
     ·rw [e k',d4 k' (by omega)]; exact g5 k' hk'
  have hla:∀ a∈sar f v,InG f a.To:=fun a ha=>by
   have h1:=(hg _ (qwx hv).2).arc a (qkk.1 ha)
   exact ⟨h1.2.1,h1.2.2⟩
  obtain ⟨g1,⟨t,g2⟩,g3,g4,g5⟩:=key (sar f v) hla (o++[v]) hs1 ⟨[],rfl⟩ (fun u hu h1 h2=>by
   rcases yD.1 hu with hu | hu
   ·exact absurd hu h1
   ·simp at hu; exact absurd hu h2)
  refine ⟨g1,⟨t,by show (sar f v).foldl _ _=_; rw [g2]; simp⟩,fun u hu h1 a ha=>?_,fun k' hk'=>?_⟩
  ·by_cases e:u=v
   ·subst e; exact g4 a (qkk.2 ha)
   ·exact g3 u hu h1 e a ha
  ·cases k' with
   | zero=>omega
   | succ k'=>exact g5 k' (by omega)
def qqs (f:GFS) (r:Int):List Int:=dfs f f.Nodes.length [] r
theorem Seen.nil (f:GFS):Seen f []:=⟨List.nodup_nil,fun v hv=>by cases hv⟩
structure OrdOk (f:GFS) (r:Int) (o:List Int):Prop where
 seen:Seen f o
 head:∃ t,o=r::t
 clo:∀ u∈o,∀ a∈(nd f u).Arcs,a.To∈o
theorem qtv (hg:GOK f) {r:Int} (hr:InG f r):OrdOk f r (qqs f r)∧∀ k,f.Nodes.length≤k→dfs f k [] r=qqs f r:=by
 obtain ⟨h1,⟨t,h2⟩,h3,h4⟩:=qy5 hg f.Nodes.length [] r (Seen.nil f) hr (by simp) (by simp)
 exact ⟨⟨h1,⟨t,by have h5:=h2; rw [List.nil_append] at h5; exact h5⟩,fun u hu=>h3 u hu (by simp)⟩,fun k hk=>h4 k (by simpa using hk)⟩
def qt9 (o:List Int) (a:q0f):q0f:=⟨a.Feat,(o.idxOf a.To:Int)⟩
def qkc (f:GFS) (o:List Int) (v:Int):q0j:=⟨(nd f v).Typex,(sar f v).map (qt9 o)⟩
def q9a (f:GFS) (r:Int):GFS:=⟨(qqs f r).map (qkc f (qqs f r))⟩
structure Rep (w:qem Int Int) (o:List Int):Prop where
 inv:MInv w
 get:∀ x,qod x w.es=if x∈o then some (o.idxOf x:Int) else none
theorem beqI (a b:Int):(a == b)=true↔a=b:=by simp
theorem Rep.nil:Rep (qxc:qem Int Int) []:=⟨⟨by simp [qxc],by simp [qxc],by simp [qxc]⟩,fun x=>by simp [qxc,qod]⟩
theorem Rep.snoc {w:qem Int Int} (h:Rep w o) (hv:v ∉ o):Rep (qv7 (fun a b=>a == b) w v (o.length:Int)) (o++[v]):=by
 obtain ⟨h1,h2⟩:=upd_ok (eq:=fun a b:Int=>a == b) beqI h.inv v (o.length:Int)
 refine ⟨h1,fun x=>?_⟩
 rw [h2,h.get]
 by_cases e:x=v
 ·subst e
  simp [List.idxOf_append,hv]
 ·by_cases hx:x∈o
  ·simp [e,hx,List.idxOf_append]
  ·simp [e,hx]
theorem Rep.mget {w:qem Int Int} (h:Rep w o) (x:Int):qz5 (fun a b=>a == b) w x=if x∈o then some (o.idxOf x:Int) else none:=by
 rw [z2t (eq:=fun a b:Int=>a == b) beqI,h.get]
theorem z54 {α:Type} (a b:List α) (x y:α):(a++x::b).set a.length y=a++y::b:=by simp
def qwn (N:Nat) (seen:List Int):List q0f→Int
 | []=>0
 | a::l=>if a.Feat<0∨a.To<0∨a.To ≥ (N:Int) then 2 else if a.Feat∈seen then 4 else qwn N (a.Feat::seen) l
def errN (N:Nat) (x:q0j):Int:=if x.Typex<0 then 2 else qwn N [] x.Arcs
theorem qrb {N:Nat}:∀ {l:List q0f} {seen:List Int},qwn N seen l=0↔(∀ a∈l,0≤a.Feat∧0≤a.To∧a.To<N)∧Dis l∧∀ a∈l,a.Feat ∉ seen
 | [],seen=>by simp [qwn,Dis]
 | a::l,seen=>by
  simp only [qwn]
  by_cases h1:a.Feat<0∨a.To<0∨a.To ≥ (N:Int)
  ·simp only [h1,if_true]
   refine ⟨fun h=>absurd h (by decide),fun h=>?_⟩
   have:=h.1 a (by simp)
   omega
  ·by_cases h2:a.Feat∈seen
   ·simp only [h1,h2,if_true,if_false]
    exact ⟨fun h=>absurd h (by decide),fun h=>absurd h2 (h.2.2 a (by simp))⟩
   ·simp only [h1,h2,if_false]
    rw [qrb (l:=l)]
    unfold Dis
    rw [List.pairwise_cons]
    constructor
    ·rintro ⟨g1,g2,g3⟩
     refine ⟨fun b hb=>?_,⟨fun b hb=>?_,g2⟩,fun b hb=>?_⟩
     ·rcases zI.1 hb with rfl | hb
      ·omega
      ·exact g1 b hb
     ·have:=g3 b hb
      simp only [zI,not_or] at this
      exact fun e=>this.1 e.symm
     ·rcases zI.1 hb with rfl | hb
      ·exact h2
      ·have:=g3 b hb
       simp only [zI,not_or] at this
       exact this.2
    ·rintro ⟨g1,⟨g2,g3⟩,g4⟩
     refine ⟨fun b hb=>g1 b (by simp [hb]),g3,fun b hb=>?_⟩
     simp only [zI,not_or]
     exact ⟨fun e=>g2 b hb e.symm,g4 b (by simp [hb])⟩
theorem qre {N:Nat} {x:q0j}:errN N x=0↔NOk x N:=by
 unfold errN
 by_cases h:x.Typex<0
 ·simp only [h,if_true]
  exact ⟨fun h=>absurd h (by decide),fun h'=>by have:=h'.ty; omega⟩
 ·simp only [h,if_false]
  rw [qrb]
  exact ⟨fun ⟨h1,h2,_⟩=>⟨by omega,h2,h1⟩,fun h=>⟨h.arc,h.dis,fun _ _=>by simp⟩⟩
def z46 (N:Nat):List q0j→Int
 | []=>0
 | x::l=>if errN N x≠0 then errN N x else z46 N l
theorem qrd {N:Nat}:∀ {l:List q0j},z46 N l=0↔∀ x∈l,NOk x N
 | []=>by simp [z46]
 | x::l=>by
  simp only [z46]
  by_cases h:errN N x=0
  ·simp only [h,ne_eq,not_true,if_false,qrd (l:=l),zI,forall_eq_or_imp,qre.1 h,true_and]
  ·simp only [h,ne_eq,not_false_eq_true,if_true,zI,forall_eq_or_imp,false_iff,not_and]
   exact fun h2=>absurd (qre.2 h2) h
def qya (f:GFS):Int:=if f.Nodes.length=0 then 1 else if f.Nodes.length > 4096 then 7 else z46 f.Nodes.length f.Nodes
variable {f:GFS}
theorem qrc:qya f=0↔f.Nodes.length≠0∧f.Nodes.length≤4096∧GOK f:=by
 unfold qya
 by_cases h0:f.Nodes.length=0
 ·simp [h0]
 ·by_cases h1:f.Nodes.length > 4096
  ·simp [h0,h1]; intro _; omega
  ·simp only [h0,h1,if_false,qrd]
   exact ⟨fun h=>⟨by simpa using h0,by omega,h⟩,fun h=>h.2.2⟩
structure Sim (f g:GFS) (π:Int→Int) (S:Int→Prop):Prop where
 clo:∀ v,S v→∀ a∈sar f v,S a.To
 inj:∀ u v,S u→S v→π u=π v→u=v
 ty:∀ v,S v→(nd g (π v)).Typex=(nd f v).Typex
 arc:∀ v,S v→sar g (π v)=(sar f v).map fun a=>⟨a.Feat,π a.To⟩
theorem z6r {l:List q0f} (h:UpA l):qqt l=l:=z0j h.dis (List.Perm.refl _) h
theorem qmo {o:List Int} {v:Int} (h:v∈o):o[o.idxOf v]? = some v:=by
 have h1:=List.idxOf_lt_length_of_mem h
 rw [List.getElem?_eq_getElem h1,List.getElem_idxOf]
structure CanOk (f:GFS) (r:Int) (c:GFS):Prop where
 len:c.Nodes.length=(qqs f r).length
 le:c.Nodes.length≤f.Nodes.length
 pos:0<c.Nodes.length
 ok:GOK c
 at_:∀ v∈qqs f r,nd c ((qqs f r).idxOf v:Int)=qkc f (qqs f r) v
 up:∀ x∈c.Nodes,UpA x.Arcs
 sim:Sim f c (fun v=>((qqs f r).idxOf v:Int)) (fun v=>v∈qqs f r)
theorem up_map {o:List Int} {l:List q0f} (h:UpA l):UpA (l.map (qt9 o)):=by
 unfold UpA at *
 rw [List.pairwise_map]
 exact h
theorem qxx (hf:GOK f) {r:Int} (hr:InG f r):CanOk f r (q9a f r):=by
 obtain ⟨o1,_⟩:=qtv hf hr
 have hat:∀ v∈qqs f r,nd (q9a f r) ((qqs f r).idxOf v:Int)=qkc f (qqs f r) v:=fun v hv=>by
  simp only [nd,q9a,zZ,List.getElem?_map,qmo hv,zM,Option.getD_some]
 have hin:∀ v∈qqs f r,InG f v:=o1.seen.ing
 have hup:∀ v∈qqs f r,UpA (qkc f (qqs f r) v).Arcs:=fun v hv=>up_map (qqh (hf _ (qwx (hin v hv)).2).dis)
 refine ⟨by simp [q9a],by simp only [q9a,yA]; exact o1.seen.len,?_,?_,hat,?_,?_⟩
 ·obtain ⟨t,ht⟩:=o1.head
  simp [q9a,ht]
 ·intro x hx
  simp only [q9a,List.mem_map] at hx
  obtain ⟨v,hv,rfl⟩:=hx
  have hn:=hf _ (qwx (hin v hv)).2
  refine ⟨hn.ty,(hup v hv).dis,fun a ha=>?_⟩
  simp only [qkc,List.mem_map] at ha
  obtain ⟨b,hb,rfl⟩:=ha
  have hb':=qkk.1 hb
  refine ⟨(hn.arc b hb').1,by simp only [qt9]; omega,?_⟩
  have:=List.idxOf_lt_length_of_mem (o1.clo v hv b hb')
  simp only [qt9,q9a,yA]
  omega
 ·intro x hx
  simp only [q9a,List.mem_map] at hx
  obtain ⟨v,hv,rfl⟩:=hx
  exact hup v hv
 ·refine ⟨fun v hv a ha=>o1.clo v hv a (qkk.1 ha),fun u v hu hv e=>?_,fun v hv=>?_,fun v hv=>?_⟩
  ·have h1:=qmo hu
   have h2:=qmo hv
   have e':(qqs f r).idxOf u=(qqs f r).idxOf v:=Int.ofNat.inj e
   rw [e',h2] at h1
   exact (Option.some.inj h1).symm
  ·simp only [hat v hv,qkc]
  ·simp only [sar,hat v hv]
   rw [z6r (hup v hv)]
   rfl
theorem Small.canon {k:Nat} (hs:Small f k) (hf:GOK f) {r:Int} (hr:InG f r):Small (q9a f r) k:=by
 have hc:=qxx hf hr
 obtain ⟨o1,_⟩:=qtv hf hr
 refine ⟨Nat.le_trans hc.le hs.nodes,fun x hx=>?_⟩
 simp only [q9a,List.mem_map] at hx
 obtain ⟨v,hv,rfl⟩:=hx
 simp only [qkc,yA,sar]
 rw [(q9z _).length_eq]
 exact hs.arcs _ (qwx (o1.seen.ing v hv)).2
theorem qok {N:Nat}:∀ {l:List q0f} {s s':List Int},(∀ x,x∈s↔x∈s')→qwn N s l=qwn N s' l
 | [],s,s',_=>rfl
 | a::l,s,s',h=>by
  simp only [qwn]
  rw [qok (l:=l) (s:=a.Feat::s) (s':=a.Feat::s') fun x=>by simp only [zI,h x]]
  by_cases h1:a.Feat∈s
  ·simp only [h1,(h _).1 h1,if_true]
  ·simp only [h1,mt (h _).2 h1,if_false]
theorem qxn {l:List q0f} (hl:l.length≤1000000) {i:Nat} {x:q0f} (hx:l[i]? = some x) (hi:i<l.length) {rc:Int→Option Int}:∀ (m k:Nat),i - k<m→k≤i →
  q7u l i rc m k=if x.Feat∈((l.take i).drop k).map q0f.Feat then some 4 else rc (IntKind.i64.wrap ((i:Int)+1))
 | 0,k,hm,_=>by omega
 | m+1,k,hm,hk=>by
  unfold q7u
  by_cases hlt:k<i
  ·obtain ⟨y,hy,_⟩:=q1j (l:=l) (i:=k) (by omega)
   have hy':(l.take i)[k]? = some y:=by rw [List.getElem?_take_of_lt hlt]; exact hy
   have hd:decide ((k:Int)<(i:Int))=true:=dlt hlt
   have hw:IntKind.i64.wrap ((k:Int)+1)=((k+1:Nat):Int):=wrn (by omega) (by omega)
   simp only [hd,zC,q07,hy,hx,q02,drop_cons' hy',zQ,zI,hw]
   by_cases e:y.Feat=x.Feat
   ·simp [e]
   ·have e2:(y.Feat == x.Feat)=false:=by simpa using e
    have e3:¬ x.Feat=y.Feat:=fun h=>e h.symm
    simp only [e2,zD,e3,false_or]
    exact qxn hl hx hi m (k+1) (by omega) (by omega)
  ·have hd:decide ((k:Int)<(i:Int))=false:=qfw hlt
   have:(l.take i).drop k=[]:=List.drop_eq_nil_of_le (by simp; omega)
   simp only [hd,zD,qcq,this,List.map_nil,List.not_mem_nil,if_false]
theorem qxm {l:List q0f} {N n:Nat} (hl:l.length≤1000000) (hn:l.length<n):∀ (m i:Nat),l.length - i<m→i≤l.length→q4l l N n m i=some (qwn N ((l.take i).map q0f.Feat) (l.drop i))
 | 0,i,hm,_=>by omega
 | m+1,i,hm,hi=>by
  unfold q4l
  by_cases hlt:i<l.length
  ·obtain ⟨a,ha,_⟩:=q1j hlt
   have h2:=qxn hl ha hlt (rc:=q4l l N n m) n 0 (by omega) (by omega)
   rw [zV,List.drop_zero] at h2
   simp only [dlt hlt,zC,q07,ha,q02,drop_cons' ha,qwn]
   by_cases h1:a.Feat<0
   ·simp [h1,q02]
   ·by_cases h3:a.To<0
    ·simp [h1,h3,q02]
    ·by_cases h4:a.To ≥ (N:Int)
     ·simp [h1,h3,h4,q02]
     ·simp only [h1,h3,h4,yB,zD,q02,or_self,if_false,h2,wr1 hlt (show l.length≤9223372036854775807 by omega)]
      rw [qxm hl hn m (i+1) (by omega) (by omega),q0r ha]
      by_cases h5:a.Feat∈(l.take i).map q0f.Feat
      ·simp only [h5,if_true]
      ·simp only [h5,if_false]
       congr 1
       exact qok fun x=>by simp [or_comm]
  ·simp only [qfw hlt,zD,qcp,drop_nil' hlt,qwn]
theorem qyi {f:GFS} {k:Nat} (hf:Small f k) (hk:k≤1000000) {n:Nat} (hn:k<n):∀ (m i:Nat),f.Nodes.length - i<m→i≤f.Nodes.length→q7v f n m i=some (z46 f.Nodes.length (f.Nodes.drop i))
 | 0,i,hm,_=>by omega
 | m+1,i,hm,hi=>by
  have hnl:=hf.nodes
  unfold q7v
  by_cases hlt:i<f.Nodes.length
  ·obtain ⟨x,hx,hxm⟩:=q1j hlt
   have hal:=hf.arcs x hxm
   have h2:=qxm (l:=x.Arcs) (N:=f.Nodes.length) (n:=n) (by omega) (by omega) n 0 (by omega) (by omega)
   rw [zV,List.drop_zero,List.take_zero,List.map_nil] at h2
   simp only [dlt hlt,zC,q07,hx,q02,drop_cons' hx,z46,errN,qgv,h2,wr1 hlt (show f.Nodes.length≤9223372036854775807 by omega)]
   by_cases h1:x.Typex<0
   ·simp [h1]
   ·simp only [h1,yB,zD,if_false]
    by_cases h3:qwn f.Nodes.length [] x.Arcs=0
    ·simp only [h3,bne_self_eq_false,zD,ne_eq,not_true,if_false]
     exact qyi hf hk hn m (i+1) (by omega) (by omega)
    ·have hb:(qwn f.Nodes.length [] x.Arcs != 0)=true:=by simpa using h3
     simp only [hb,zC,h3,ne_eq,not_false_eq_true,if_true]
  ·simp only [qfw hlt,zD,qcr,drop_nil' hlt,z46]
variable {f:GFS}
variable {k:Nat}
variable {n:Nat}
theorem z5w (hf:Small f k) (hk:k≤1000000) (hn:k<n):qej n f=some (qya f):=by
 have hnl:=hf.nodes
 unfold qej qya
 by_cases h0:f.Nodes.length=0
 ·simp [h0]
 ·have e0:((f.Nodes.length:Int) == 0)=false:=by simp; intro h; simp [h] at h0
  simp only [e0,zD,h0,if_false]
  by_cases h1:f.Nodes.length > 4096
  ·have:(f.Nodes.length:Int) > 4096:=by omega
   simp [h1,this]
  ·have:¬ (f.Nodes.length:Int) > 4096:=by omega
   simp only [h1,this,yB,zD,if_false]
   have h:=qyi hf hk hn n 0 (by omega) (by omega)
   rw [zV,List.drop_zero] at h
   exact h
theorem z4k {l:List q0f} {i:Nat} {x:q0f} (hx:l[i]? = some x) {out:List q0f} (hol:out.length≤1000000) (hup:UpA out) {rc:Int→List q0f→Option (List q0f)}:∀ (m p:Nat),p<m→p≤out.length→(∀ a∈out.drop p,x.Feat<a.Feat) →
  ∃ q,q≤out.length∧q6b l i out rc m p=q6a l i out rc (q:Int)∧(∀ a∈out.drop q,x.Feat<a.Feat)∧(∀ a∈out.take q,a.Feat≤x.Feat)
 | 0,p,hm,_,_=>by omega
 | m+1,p,hm,hp,hd=>by
  unfold q6b
  cases p with
  | zero =>
   have:¬ ((0:Nat):Int) > 0:=by omega
   simp only [this,yB,zD,q02]
   exact ⟨0,by omega,rfl,hd,by simp⟩
  | succ p =>
   have h0:((p+1:Nat):Int) > 0:=by omega
   have hw:IntKind.i64.wrap (((p+1:Nat):Int) - 1)=(p:Int):=wrn (by omega) (by omega)
   obtain ⟨y,hy,_⟩:=q1j (l:=out) (i:=p) (by omega)
   simp only [h0,yC,zC,hw,q07,hy,hx,q02]
   by_cases e:y.Feat > x.Feat
   ·simp only [e,yC,zC]
    refine z4k hx hol hup m p (by omega) (by omega) fun a ha=>?_
    rw [drop_cons' hy] at ha
    rcases zI.1 ha with rfl | ha
    ·omega
    ·exact hd a ha
   ·simp only [e,yB,zD]
    refine ⟨p+1,hp,rfl,hd,fun a ha=>?_⟩
    obtain ⟨j,hj,rfl⟩:=List.mem_iff_getElem.1 ha
    simp only [List.length_take] at hj
    rw [List.getElem_take]
    obtain ⟨hp',ey⟩:=zG.1 hy
    by_cases ej:j=p
    ·subst ej; rw [ey]; omega
    ·have:=List.pairwise_iff_getElem.1 hup j p (by omega) hp' (by omega)
     rw [ey] at this
     omega
theorem ins_K2 {l:List q0f} {i:Nat} {x:q0f} (hx:l[i]? = some x) {out:List q0f} (hol:out.length≤1000000) {rc:Int→List q0f→Option (List q0f)} {q:Nat} (hq:q≤out.length) :
  q6a l i out rc (q:Int)=rc (IntKind.i64.wrap ((i:Int)+1)) (out.take q++x::out.drop q):=by
 have e1:(out.drop 0).take ((q:Int)).toNat=out.take q:=by rw [List.drop_zero,zZ]
 have e2:(out.drop (0+((q:Int)).toNat)).take (out.length - ((q:Int)).toNat)=out.drop q:=by
  rw [zZ,Nat.zero_add,zW (by simp)]
 have l1:(out.take q).length=q:=by simp; omega
 have n1:(0:Int)≤(q:Int)∧(q:Int)≤((out.length:Nat):Int):=by omega
 have n2:0+((q:Int)).toNat≤out.length:=by rw [zZ]; omega
 have n3:(out.take q).length*16≤140737488355328∧(out.take q).length≤140737488355328:=by omega
 have n4:((out.take q).length+1)*16≤140737488355328∧(out.take q).length+1≤140737488355328:=by omega
 have n5:(0+((q:Int)).toNat)+(out.length - ((q:Int)).toNat)≤out.length:=by rw [zZ]; omega
 have n6:((out.take q++[x]).length+(out.drop q).length)*16≤140737488355328∧(out.take q++[x]).length+(out.drop q).length≤140737488355328:=by simp; omega
 unfold q6a
 simp only [needO,e1,e2,q07,hx,q02]
 rw [if_pos n1,if_pos n2,if_pos n3,if_pos n4,if_pos n1,if_pos n5,if_pos n6]
 simp
theorem z4j {l:List q0f} (hl:l.length≤1000000) (hd:Dis l) {n:Nat} (hn:l.length<n):∀ (m i:Nat),l.length - i<m→i≤l.length→q3a l n m i (qqt (l.take i))=some (qqt l)
 | 0,i,hm,_=>by omega
 | m+1,i,hm,hi=>by
  have hdi:Dis (l.take i):=hd.sublist (List.take_sublist i l)
  have hol:(qqt (l.take i)).length=i:=by rw [(q9z _).length_eq]; simp; omega
  unfold q3a
  by_cases hlt:i<l.length
  ·obtain ⟨x,hx,_⟩:=q1j hlt
   obtain ⟨q,q1,q2,q3,q4⟩:=z4k hx (out:=qqt (l.take i)) (by omega) (qqh hdi) (rc:=q3a l n m) n (qqt (l.take i)).length (by omega) (zF _) (by simp)
   simp only [dlt hlt,zC,q2,ins_K2 hx (show (qqt (l.take i)).length≤1000000 by omega) q1,wr1 hlt (show l.length≤9223372036854775807 by omega)]
   have hdi1:Dis (l.take (i+1)):=hd.sublist (List.take_sublist _ l)
   have hperm:((qqt (l.take i)).take q++x::(qqt (l.take i)).drop q).Perm (l.take (i+1)):=by
    rw [q0r hx]
    refine List.perm_middle.trans ?_
    rw [List.take_append_drop]
    exact ((q9z (l.take i)).cons x).trans (List.perm_append_comm (l₁:=[x]) (l₂:=l.take i))
   have hne:∀ a∈qqt (l.take i),a.Feat≠x.Feat:=fun a ha e=>by
    rw [q0r hx] at hdi1
    have:=(List.pairwise_append.1 hdi1).2.2 a ((q9z _).mem_iff.1 ha) x (by simp)
    exact this e
   have hup:UpA ((qqt (l.take i)).take q++x::(qqt (l.take i)).drop q):=by
    have h0:=qqh hdi
    unfold UpA at *
    rw [List.pairwise_append]
    refine ⟨h0.sublist (List.take_sublist _ _),List.pairwise_cons.2 ⟨q3,h0.sublist (List.drop_sublist _ _)⟩,fun a ha b hb=>?_⟩
    have h1:=q4 a ha
    have h2:=hne a (List.mem_of_mem_take ha)
    rcases zI.1 hb with rfl | hb
    ·omega
    ·have:=q3 b hb; omega
   rw [← z0j hdi1 hperm hup]
   exact z4j hl hd hn m (i+1) (by omega) (by omega)
  ·simp only [qfw hlt,zD,q9u]
   rw [zW (by omega)]
theorem ql7 {l:List q0f} (hl:l.length≤1000000) (hd:Dis l) (hn:l.length<n):qbm n l=some (qqt l):=by
 have h:=z4j hl hd hn n 0 (by omega) (by omega)
 rw [zV,List.take_zero] at h
 exact h
structure z0x (f:GFS) (w:List Int) (o:List Int):Prop where
 len:w.length=f.Nodes.length
 get:∀ x,InG f x→idxO w x=some (if x∈o then (o.idxOf x:Int) else -1)
theorem z0x.snoc {w o:List Int} (h:z0x f w o) {v:Int} (hv:InG f v) (hn:v ∉ o):z0x f (w.set (0+v.toNat) (o.length:Int)) (o++[v]):=by
 refine ⟨by simp [h.len],fun x hx=>?_⟩
 have hvl:v.toNat<w.length:=by rw [h.len]; have:=hv.1; have:=hv.2; omega
 have hc:0≤x∧x<((w.set (0+v.toNat) (o.length:Int)).length:Int):=by rw [List.length_set,h.len]; exact hx
 have h2:=h.get x hx
 have hc2:0≤x∧x<(w.length:Int):=by rw [h.len]; exact hx
 rw [idxO,if_pos hc2] at h2
 rw [idxO,if_pos hc,Nat.zero_add]
 by_cases e:x=v
 ·subst e
  simp [List.idxOf_append,hn,hvl]
 ·rw [List.getElem?_set_ne (by have:=hx.1; have:=hv.1; omega),h2]
  by_cases hxo:x∈o
  ·simp [hxo,List.idxOf_append]
  ·simp [hxo,e]
theorem qsp {f:GFS} {k:Nat} (hg:GOK f) (hf:Small f k) (hk:k≤1000000):∀ (n:Nat) (o:List Int) (v:Int) (w:List Int),Seen f o→InG f v→v ∉ o→z0x f w o→f.Nodes.length - o.length+k+2≤n →
  ∃ w',q1t n v f.Nodes w o=some (w',dfs f n o v)∧z0x f w' (dfs f n o v)
 | 0,o,v,w,hs,hv,hn,hw,hfu=>by omega
 | n+1,o,v,w,hs,hv,hn,hw,hfu=>by
  have hs1:=hs.snoc hv hn
  have hl1:=hs1.len
  simp only [zU,zO,zS] at hl1
  obtain ⟨hx,hxm⟩:=qwx hv
  have hno:=hg _ hxm
  have hal:=hf.arcs _ hxm
  have hnl:=hf.nodes
  have hsl:(sar f v).length=(nd f v).Arcs.length:=(q9z _).length_eq
  have key:∀ (m i:Nat) (p:List Int) (w:List Int),(sar f v).length - i<m→i≤(sar f v).length→Seen f p→o.length+1≤p.length→z0x f w p →
    ∃ w',q1l f.Nodes (sar f v) (q1t n) m i w p=some (w',((sar f v).drop i).foldl (qsy (dfs f n)) p)∧z0x f w' (((sar f v).drop i).foldl (qsy (dfs f n)) p):=by
   intro m
   induction m with
   | zero=>intro i p w hm; omega
   | succ m ih =>
    intro i p w hm hi hp hpl hw
    unfold q1l
    by_cases hlt:i<(sar f v).length
    ·obtain ⟨a,ha,ham⟩:=q1j hlt
     have h1:=hno.arc a (qkk.1 ham)
     have hia:InG f a.To:=⟨h1.2.1,h1.2.2⟩
     have hw1:IntKind.i64.wrap ((i:Int)+1)=((i+1:Nat):Int):=wr1 hlt (by omega)
     simp only [dlt hlt,zC,q07,ha,q02,hw.get _ hia,drop_cons' ha,List.foldl_cons]
     by_cases hm2:a.To∈p
     ·have hneg:¬ ((p.idxOf a.To:Nat):Int)<0:=by omega
      simp only [hm2,if_true,hneg,yB,zD,q2m,hw1,qsy]
      exact ih (i+1) p w (by omega) (by omega) hp hpl hw
     ·have hneg:(-1:Int)<0:=by decide
      simp only [hm2,if_false,hneg,yC,zC,q2m,hw1,qsy]
      obtain ⟨w1,g1,g2⟩:=qsp hg hf hk n p a.To w hp hia hm2 hw (by omega)
      obtain ⟨d1,⟨t,d2⟩,_,_⟩:=qy5 hg n p a.To hp hia hm2 (by omega)
      simp only [g1,q02]
      exact ih (i+1) _ w1 (by omega) (by omega) d1 (by rw [d2]; simp; omega) g2
    ·rw [drop_nil' hlt]
     simp only [qfw hlt,zD,q54,List.foldl_nil]
     exact ⟨w,rfl,hw⟩
  have hneed:(o.length+1)*8≤140737488355328∧o.length+1≤140737488355328:=by omega
  obtain ⟨w',g1,g2⟩:=key n 0 (o++[v]) _ (by omega) (by omega) hs1 (by simp) (hw.snoc hv hn)
  rw [zV,List.drop_zero] at g1
  rw [List.drop_zero] at g2
  refine ⟨w',?_,g2⟩
  show q5h n (q1t n) v f.Nodes w o=_
  simp only [q5h,hw.get _ hv,needO,hneed,and_self,if_true,hx,q02,ql7 (show (nd f v).Arcs.length≤1000000 by omega) hno.dis (show (nd f v).Arcs.length<n by omega)]
  exact g1
theorem qyn {f:GFS} {o w:List Int} {z:Int} {l27:List q0j} {rc:Int→List q0j→Option GFS} {x:q0j} {l:List q0f} (hl:l.length≤1000000) (hw:z0x f w o) (hin:∀ a∈l,a.To∈o) (hing:∀ v∈o,InG f v):∀ (m i:Nat),l.length - i<m→i≤l.length →
  q6l (w,o) z l27 rc x m i ((l.take i).map (qt9 o)++l.drop i)=q9t z l27 rc x (l.map (qt9 o))
 | 0,i,hm,_=>by omega
 | m+1,i,hm,hi=>by
  unfold q6l
  have hlen:((l.take i).map (qt9 o)++l.drop i).length=l.length:=by simp; omega
  rw [hlen]
  by_cases hlt:i<l.length
  ·obtain ⟨a,ha,ham⟩:=q1j hlt
   have e1:(((l.take i).map (qt9 o)++l.drop i))[i]? = some a:=by
    rw [List.getElem?_append_right (by simp; omega)]
    simp [show min i l.length=i by omega,ha]
   have e2:(((l.take i).map (qt9 o)++l.drop i)).set (0+(i:Int).toNat) (qt9 o a)=(l.take (i+1)).map (qt9 o)++l.drop (i+1):=by
    rw [drop_cons' ha,q0r ha]
    have h3:((l.take i).map (qt9 o)).length=i:=by simp; omega
    have:=z54 ((l.take i).map (qt9 o)) (l.drop (i+1)) a (qt9 o a)
    rw [h3] at this
    rw [Nat.zero_add,zZ,this,List.map_append,zQ,List.map_nil,zT]
    rfl
   have hto:=hin a ham
   have e3:(⟨a.Feat,(o.idxOf a.To:Int)⟩:q0f)=qt9 o a:=rfl
   simp only [dlt hlt,zC,q07,e1,q02,hw.get _ (hing _ hto),hto,if_true,e3,e2,wr1 hlt (show l.length≤9223372036854775807 by omega)]
   exact qyn hl hw hin hing m (i+1) (by omega) (by omega)
  ·simp only [qfw hlt,zD]
   rw [zW (by omega),List.drop_eq_nil_of_le (by omega),List.append_nil]
theorem qym {f:GFS} {k:Nat} (hg:GOK f) (hf:Small f k) (hk:k≤1000000) {n:Nat} (hn:k+2≤n) {r:Int} {o w:List Int} (ho:OrdOk f r o) (hw:z0x f w o):∀ (m i:Nat),o.length - i<m→i≤o.length →
  q4k f n (w,o) m i ((o.take i).map (qkc f o))=some ⟨o.map (qkc f o)⟩
 | 0,i,hm,_=>by omega
 | m+1,i,hm,hi=>by
  have hol:=ho.seen.len
  have hnl:=hf.nodes
  unfold q4k
  by_cases hlt:i<o.length
  ·obtain ⟨v,hv,hvm⟩:=q1j hlt
   obtain ⟨hx,hxm⟩:=qwx (ho.seen.ing v hvm)
   have hno:=hg _ hxm
   have hal:=hf.arcs _ hxm
   have hsl:(sar f v).length=(nd f v).Arcs.length:=(q9z _).length_eq
   have h2:=qyn (z:=(i:Int)) (l27:=(o.take i).map (qkc f o)) (rc:=q4k f n (w,o) m) (x:=nd f v) (l:=sar f v) (by omega) hw (fun a ha=>ho.clo v hvm a (qkk.1 ha)) ho.seen.ing n 0 (by omega) (by omega)
   rw [zV,List.take_zero,List.map_nil,List.nil_append,List.drop_zero] at h2
   have hneed:(((o.take i).map (qkc f o)).length+1)*32≤140737488355328∧((o.take i).map (qkc f o)).length+1≤140737488355328:=by simp; omega
   have hso:=ql7 (show (nd f v).Arcs.length≤1000000 by omega) hno.dis (show (nd f v).Arcs.length<n by omega)
   simp only [dlt hlt,zC,q07,hv,hx,q02,hso]
   show q6l (w,o) i _ _ (nd f v) n 0 (sar f v)=_
   rw [h2]
   simp only [q9t,needO]
   rw [if_pos hneed,wr1 hlt (show o.length≤9223372036854775807 by omega)]
   have:=qym hg hf hk hn ho hw m (i+1) (by omega) (by omega)
   rw [q0r hv] at this
   simpa [qkc,sar] using this
  ·simp only [qfw hlt,zD,qco]
   rw [zW (by omega)]
theorem qyl {f:GFS} (hN:f.Nodes.length≤1000000) {r:Int} {n:Nat}:∀ (m i:Nat),f.Nodes.length - i<m→i≤f.Nodes.length→q7s f r n m i (List.replicate i (-1))=q9s f r n (List.replicate f.Nodes.length (-1))
 | 0,i,hm,_=>by omega
 | m+1,i,hm,hi=>by
  unfold q7s
  by_cases hlt:i<f.Nodes.length
  ·have hneed:((List.replicate i (-1:Int)).length+1)*8≤140737488355328∧(List.replicate i (-1:Int)).length+1≤140737488355328:=by simp; omega
   have e:List.replicate i (-1:Int)++[-1]=List.replicate (i+1) (-1):=by rw [List.replicate_succ']
   simp only [dlt hlt,zC,needO]
   rw [if_pos hneed,wr1 hlt (show f.Nodes.length≤9223372036854775807 by omega),e]
   exact qyl hN m (i+1) (by omega) (by omega)
  ·simp only [qfw hlt,zD]
   rw [show i=f.Nodes.length by omega]
theorem z5x (hg:GOK f) (hf:Small f k) (hk:k≤1000000) {r:Int} (hr:InG f r) (hn:2*k+4≤n):qei n f r=some (q9a f r):=by
 obtain ⟨ho,hst⟩:=qtv hg hr
 have hnl:=hf.nodes
 have h0:z0x f (List.replicate f.Nodes.length (-1)) []:=⟨by simp,fun x hx=>by
  have hc:0≤x∧x<((List.replicate f.Nodes.length (-1:Int)).length:Int):=by rw [List.length_replicate]; exact hx
  rw [idxO,if_pos hc]
  have:x.toNat<f.Nodes.length:=by have:=hx.1; have:=hx.2; omega
  simp [this]⟩
 obtain ⟨w,g1,g2⟩:=qsp hg hf hk n [] r _ (Seen.nil f) hr (by simp) h0 (by simp; omega)
 rw [hst n (by omega)] at g1 g2
 have hol:=ho.seen.len
 have h1:=qym hg hf hk (show k+2≤n by omega) ho g2 n 0 (by omega) (by omega)
 rw [zV,List.take_zero,List.map_nil] at h1
 have h2:=qyl (f:=f) (by omega) (r:=r) (n:=n) n 0 (by omega) (by omega)
 rw [zV,List.replicate_zero] at h2
 simp only [qei,h2,q9s,g1,q02,h1,q9a]
theorem qu1 (hf:Small f k) (hk:k≤1000000) (hn:2*k+4≤n):qdb n f=some (if qya f=0 then (q9a f 0,0) else (⟨[]⟩,qya f)):=by
 simp only [qdb,z5w hf hk (show k<n by omega),q02]
 by_cases he:qya f=0
 ·obtain ⟨e1,e2,e3⟩:=qrc.1 he
  simp [he,z5x e3 hf hk (r:=0) ⟨by omega,by omega⟩ hn,q02]
 ·have hb:(qya f != 0)=true:=by simpa using he
  simp [he,hb]
end Go.Proofs
end
section
namespace Go.Proofs
open Go Go.Rx Go.Vx
def qwr (l:List q0f) (f:Int):Bool:=l.any (fun x=>x.Feat == f)
variable {f:Int}
theorem qgm {l:List q0f}:qwr l f=true↔∃ x∈l,x.Feat=f:=by simp [qwr]
def qoq (a b:List q0f):List q0f:=b.filter fun y=>!qwr a y.Feat
def prs (a b:List q0f):List (Int×Int):=b.filterMap fun y=>(a.find? fun x=>x.Feat == y.Feat).map fun x=>(x.To,y.To)
structure IsM (a b out:List q0f):Prop where
 up:UpA out
 pm:out.Perm (a++qoq a b)
variable {a:List q0f}
variable {b:List q0f}
variable {o:List q0f}
theorem IsM.uniq {o':List q0f} (h:IsM a b o) (h':IsM a b o'):o=o':=qqm h.up h'.up (h.pm.trans h'.pm.symm)
variable {x:q0f}
theorem z5u (hd:Dis a) (hx:x∈a) (hf:x.Feat=f):a.find? (fun x=>x.Feat == f)=some x:=by
 cases h:a.find? (fun x=>x.Feat == f) with
 | none=>have:=List.find?_eq_none.1 h x hx; simp [hf] at this
 | some y =>
  have h1:=List.find?_some h
  have h2:=List.mem_of_find?_eq_some h
  simp at h1
  rw [hd.eq y h2 x hx (by omega)]
theorem qrh (h:∀ x∈a,x.Feat≠f):a.find? (fun x=>x.Feat == f)=none:=by
 rw [List.find?_eq_none]; intro x hx; simpa using h x hx
theorem qs0 (a b:List q0f) (y:q0f):qoq a (b++[y])=qoq a b++(if qwr a y.Feat then [] else [y]):=by
 unfold qoq
 rw [List.filter_append]
 cases h:qwr a y.Feat<;>simp [h]
variable {y:q0f}
theorem qtx (hd:Dis a) (hx:x∈a) (hf:x.Feat=y.Feat):prs a (b++[y])=prs a b++[(x.To,y.To)]:=by
 simp [prs,List.filterMap_append,z5u hd hx hf]
theorem qs5 (h:∀ x∈a,x.Feat≠y.Feat):prs a (b++[y])=prs a b:=by
 simp [prs,List.filterMap_append,qrh h]
theorem qpu (a:List q0f):∀ b:List q0f,(qoq a b).length+(prs a b).length=b.length
 | []=>rfl
 | y::b=>by
  have ih:=qpu a b
  unfold qoq prs at *
  cases h:a.find? (fun x=>x.Feat == y.Feat) with
  | none =>
   have h2:qwr a y.Feat=false:=by
    rw [List.find?_eq_none] at h
    rw [Bool.eq_false_iff]; intro e
    obtain ⟨x,hx,he⟩:=qgm.1 e
    have:=h x hx; simp [he] at this
   simp only [List.filter_cons,h2,Bool.not_false,if_true,List.filterMap_cons,h,Option.map_none,zO]
   omega
  | some x =>
   have h2:qwr a y.Feat=true:=qgm.2 ⟨x,List.mem_of_find?_eq_some h,by have:=List.find?_some h; simpa using this⟩
   simp only [List.filter_cons,h2,Bool.not_true,Bool.false_eq_true,if_false,List.filterMap_cons,h,zM,zO]
   omega
theorem z6h {p:Int×Int} (h:p∈prs a b):∃ x∈a,∃ y∈b,x.Feat=y.Feat∧p=(x.To,y.To):=by
 obtain ⟨y,hy,e⟩:=List.mem_filterMap.1 h
 cases h1:a.find? (fun x=>x.Feat == y.Feat) with
 | none=>rw [h1] at e; cases e
 | some x =>
  rw [h1] at e
  have h2:=List.find?_some h1
  exact ⟨x,List.mem_of_find?_eq_some h1,y,hy,by simpa using h2,(Option.some.inj e).symm⟩
theorem IsM.len (h:IsM a b o):o.length+(prs a b).length=a.length+b.length:=by
 have h1:=h.pm.length_eq
 have h2:=qpu a b
 rw [zU] at h1
 omega
theorem IsM.mem (h:IsM a b o) (hx:x∈o):x∈a∨x∈b:=by
 rcases yD.1 (h.pm.mem_iff.1 hx) with h1 | h1
 ·exact Or.inl h1
 ·exact Or.inr (List.mem_filter.1 h1).1
def q8x:List q0f→List q0f→List q0f
 | [],b=>b
 | a,[]=>a
 | x::a,y::b=>if x.Feat<y.Feat then x::q8x a (y::b) else if y.Feat<x.Feat then y::q8x (x::a) b else x::q8x a b
termination_by a b=>a.length+b.length
theorem z2x (b:List q0f):qoq [] b=b:=by simp [qoq,qwr]
theorem qzd (h:∀ y∈b,x.Feat≠y.Feat):qoq (x::a) b=qoq a b:=by
 unfold qoq
 apply List.filter_congr
 intro y hy
 have:=h y hy
 simp [qwr,this]
theorem qzw (b:List q0f):prs [] b=[]:=by simp [prs]
theorem qlv (a b:List q0f) (y:q0f):prs a (y::b)=((a.find? fun x=>x.Feat == y.Feat).map fun x=>(x.To,y.To)).toList++prs a b:=by
 unfold prs
 cases h:a.find? (fun x=>x.Feat == y.Feat)<;>simp [List.filterMap_cons,h]
theorem qvl (h:∀ y∈b,x.Feat≠y.Feat):prs (x::a) b=prs a b:=by
 induction b with
 | nil=>rfl
 | cons y b ih =>
  have e:(x.Feat == y.Feat)=false:=by simpa using h y (by simp)
  have ih':=ih fun z hz=>h z (List.mem_cons_of_mem _ hz)
  have q:(x::a).find? (fun z=>z.Feat == y.Feat)=a.find? (fun z=>z.Feat == y.Feat):=by simp only [List.find?_cons,e]
  rw [qlv,qlv,q,ih']
theorem IsM.step (h:IsM a b o) (hx:∀ y∈o,x.Feat<y.Feat) (hb:∀ y∈b,x.Feat≠y.Feat):IsM (x::a) b (x::o) :=
 ⟨List.pairwise_cons.2 ⟨hx,h.up⟩,by rw [qzd hb]; exact h.pm.cons x⟩
theorem qe9:∀ (a b:List q0f),UpA a→UpA b→IsM a b (q8x a b)
 | [],b,_,hb=>by rw [q8x]; exact ⟨hb,by rw [z2x]; exact .refl _⟩
 | x::a,[],ha,_=>by rw [q8x]; exact ⟨ha,by simp [qoq]⟩; intro h; cases h
 | x::a,y::b,ha,hb=>by
  obtain ⟨h1,h2⟩:=List.pairwise_cons.1 ha
  obtain ⟨h3,h4⟩:=List.pairwise_cons.1 hb
  rw [q8x]
  by_cases e1:x.Feat<y.Feat
  ·rw [if_pos e1]
   have ih:=qe9 a (y::b) h2 hb
   have hyb:∀ z∈y::b,x.Feat<z.Feat:=fun z hz=>by
    rcases zI.1 hz with rfl | hz
    ·exact e1
    ·have:=h3 z hz; omega
   refine ih.step (fun z hz=>?_) (fun z hz=>by have:=hyb z hz; omega)
   rcases ih.mem hz with hz | hz
   ·exact h1 z hz
   ·exact hyb z hz
  ·rw [if_neg e1]
   by_cases e2:y.Feat<x.Feat
   ·rw [if_pos e2]
    have ih:=qe9 (x::a) b ha h4
    have hya:∀ z∈x::a,y.Feat<z.Feat:=fun z hz=>by
     rcases zI.1 hz with rfl | hz
     ·exact e2
     ·have:=h1 z hz; omega
    refine ⟨List.pairwise_cons.2 ⟨fun z hz=>?_,ih.up⟩,?_⟩
    ·rcases ih.mem hz with hz | hz
     ·exact hya z hz
     ·exact h3 z hz
    ·have e:qoq (x::a) (y::b)=y::qoq (x::a) b:=by
      have:qwr (x::a) y.Feat=false:=by
       rw [Bool.eq_false_iff]; intro h
       obtain ⟨z,hz,e⟩:=qgm.1 h
       have:=hya z hz; omega
      unfold qoq
      simp [List.filter_cons,this]
     rw [e]
     exact (ih.pm.cons y).trans List.perm_middle.symm
   ·rw [if_neg e2]
    have e:x.Feat=y.Feat:=by omega
    have ih:=qe9 a b h2 h4
    have h5:=ih.step (x:=x) (fun z hz=>by
     rcases ih.mem hz with hz | hz
     ·exact h1 z hz
     ·have:=h3 z hz; omega) (fun z hz=>by have:=h3 z hz; omega)
    refine ⟨h5.up,h5.pm.trans ?_⟩
    have:qoq (x::a) (y::b)=qoq (x::a) b:=by
     have:qwr (x::a) y.Feat=true:=qgm.2 ⟨x,by simp,e⟩
     unfold qoq
     simp [List.filter_cons,this]
    rw [this]
 termination_by a b=>a.length+b.length
theorem prs_lt (hb:UpA (y::b)) (h:x.Feat<y.Feat):prs (x::a) (y::b)=prs a (y::b):=qvl fun z hz=>by
 rcases zI.1 hz with rfl | hz
 ·omega
 ·have:=(List.pairwise_cons.1 hb).1 z hz; omega
theorem prs_gt (ha:UpA (x::a)) (h:y.Feat<x.Feat):prs (x::a) (y::b)=prs (x::a) b:=by
 have:(x::a).find? (fun z=>z.Feat == y.Feat)=none:=qrh fun z hz=>by
  rcases zI.1 hz with rfl | hz
  ·omega
  ·have:=(List.pairwise_cons.1 ha).1 z hz; omega
 rw [qlv,this]; rfl
theorem prs_eq (hb:UpA (y::b)) (h:x.Feat=y.Feat):prs (x::a) (y::b)=(x.To,y.To)::prs a b:=by
 have:(x::a).find? (fun z=>z.Feat == y.Feat)=some x:=by simp [List.find?_cons,h]
 rw [qlv,this]
 show (x.To,y.To)::prs (x::a) b=_
 rw [qvl fun z hz=>by have:=(List.pairwise_cons.1 hb).1 z hz; omega]
theorem qn4 (a:List q0f):prs a []=[]:=rfl
variable {a:List q0f}
theorem IsM.nilr (ha:UpA a):IsM a [] a:=⟨ha,by simp [qoq]⟩
theorem IsM.inn {b o:List q0f} {x y:q0f} (h:IsM a b o) (hx:x∈a) (e:x.Feat=y.Feat):IsM a (b++[y]) o:=⟨h.up,by
 have:qwr a y.Feat=true:=qgm.2 ⟨x,hx,e⟩
 rw [qs0,this]; simpa using h.pm⟩
theorem IsM.out {b o:List q0f} {y:q0f} {k:Nat} (h:IsM a b o) (h1:∀ z∈o.take k,z.Feat<y.Feat) (h2:∀ z∈o.drop k,y.Feat<z.Feat):IsM a (b++[y]) (o.take k++y::o.drop k):=by
 have hu:=h.up
 rw [← List.take_append_drop k o] at hu
 obtain ⟨u1,u2,u3⟩:=List.pairwise_append.1 hu
 have hn:qwr a y.Feat=false:=by
  rw [Bool.eq_false_iff]; intro e
  obtain ⟨z,hz,e⟩:=qgm.1 e
  have hz:z∈o:=h.pm.mem_iff.2 (List.mem_append_left _ hz)
  rw [← List.take_append_drop k o] at hz
  rcases yD.1 hz with hz | hz
  ·have:=h1 z hz; omega
  ·have:=h2 z hz; omega
 refine ⟨List.pairwise_append.2 ⟨u1,List.pairwise_cons.2 ⟨h2,u2⟩,fun z hz w hw=>?_⟩,?_⟩
 ·rcases zI.1 hw with rfl | hw
  ·exact h1 z hz
  ·exact u3 z hz w hw
 ·rw [qs0,hn]
  refine List.perm_middle.trans ?_
  rw [List.take_append_drop]
  have:(y::o).Perm (y::(a++qoq a b)):=h.pm.cons y
  refine this.trans ?_
  simp only [Bool.false_eq_true,if_false]
  rw [← zT]
  exact (List.perm_append_singleton y _).symm
structure qt2 (N D:Nat) (rep d:Nat→Nat):Prop where
 lt:∀ i,i<N→rep i<N
 idem:∀ i,i<N→rep (rep i)=rep i
 zero:∀ i,i<N→d (rep i)=0
 bd:∀ i,i<N→d i≤D
def qny (rep:Nat→Nat) (m n i:Nat):Nat:=if rep i=n then m else rep i
def qwl (rep d:Nat→Nat) (n i:Nat):Nat:=if rep i=n then d i+1 else d i
def qic (N:Nat) (rep d:Nat→Nat) (i j:Nat):Prop:=j<N∧rep j=rep i∧d j<d i
structure qu9 (cells:List q0d) (N:Nat) (rep d:Nat→Nat):Prop where
 root:∀ (i:Nat) (c:q0d),cells[i]? = some c→rep i=i→c.forward = -1
 fwd:∀ (i:Nat) (c:q0d),cells[i]? = some c→rep i≠i→∃ j:Nat,c.forward=(j:Int)∧qic N rep d i j
structure qld (P:List Int) (N:Nat) (rep d:Nat→Nat):Prop where
 root:∀ (i:Nat) (c:Int),P[i]? = some c→rep i=i→c=(i:Int)
 fwd:∀ (i:Nat) (c:Int),P[i]? = some c→rep i≠i→∃ j:Nat,c=(j:Int)∧qic N rep d i j
variable {N:Nat}
variable {D:Nat}
variable {rep:Nat→Nat}
variable {d:Nat→Nat}
variable {m:Nat}
variable {n:Nat}
theorem qt2.mrg (h:qt2 N D rep d) (hm:m<N) (em:rep m=m) (en:rep n=n) (hmn:m≠n):qt2 N (D+1) (qny rep m n) (qwl rep d n) where
 lt i hi:=by unfold qny; split; exact hm; exact h.lt i hi
 idem i hi:=by
  have h1:=h.idem i hi
  unfold qny
  by_cases e:rep i=n
  ·simp [e,em,hmn]
  ·simp [e,h1]
 zero i hi:=by
  have h1:=h.idem i hi
  have h2:=h.zero i hi
  have h3:=h.zero m hm
  unfold qny qwl
  rw [em] at h3
  by_cases e:rep i=n
  ·simp [e,em,hmn,h3]
  ·simp [e,h1,h2]
 bd i hi:=by have:=h.bd i hi; unfold qwl; split<;>omega
variable {i:Nat}
theorem qic.mrg {D:Nat} {j:Nat} (h:qic N rep d i j):qic N (qny rep m n) (qwl rep d n) i j:=by
 obtain ⟨h1,h2,h3⟩:=h
 refine ⟨h1,by simp [qny,h2],?_⟩
 unfold qwl
 rw [h2]
 split<;>omega
theorem qv2 (h:qt2 N D rep d) (hm:m<N) (hn:n<N) (em:rep m=m) (en:rep n=n) (hmn:m≠n):qic N (qny rep m n) (qwl rep d n) n m:=by
 have h3:=h.zero m hm
 have h4:=h.zero n hn
 rw [em] at h3; rw [en] at h4
 refine ⟨hm,by simp [qny,em,en,hmn],?_⟩
 simp [qwl,em,en,hmn,h3,h4]
theorem q9y {α:Type} {l:List α} {k:Nat} {x y:α} (h:(l.set k x)[i]? = some y):(i=k∧y=x)∨(i≠k∧l[i]? = some y):=by
 rw [List.getElem?_set] at h
 by_cases e:k=i
 ·rw [if_pos e] at h
  split at h
  ·exact Or.inl ⟨e.symm,(Option.some.inj h).symm⟩
  ·cases h
 ·rw [if_neg e] at h; exact Or.inr ⟨fun q=>e q.symm,h⟩
theorem qnc (em:rep m=m) (hmn:m≠n) (h:qny rep m n i=i):i≠n∧rep i=i:=by
 unfold qny at h
 by_cases e:rep i=n
 ·rw [if_pos e] at h; subst h; exact ⟨hmn,em⟩
 ·rw [if_neg e] at h; exact ⟨fun q=>e (by rw [h,q]),h⟩
theorem qvu (em:rep m=m) (h:qny rep m n i≠i) (hn:i≠n):rep i≠i:=by
 intro q
 apply h
 unfold qny
 rw [q,if_neg hn]
theorem qu9.mrg {cells:List q0d} {N D:Nat} {rep d:Nat→Nat} (h:qu9 cells N rep d) (hr:qt2 N D rep d) {m n:Nat} (hm:m<N) (hn:n<N) (em:rep m=m) (en:rep n=n) (hmn:m≠n) (t:Int) (o:List q0f) (z:Int) (q:List q0f) :
  qu9 ((cells.set m ⟨-1,t,o⟩).set n ⟨(m:Int),z,q⟩) N (qny rep m n) (qwl rep d n) where
 root i c hc hi:=by
  obtain ⟨h1,h2⟩:=qnc em hmn hi
  rcases q9y hc with ⟨e,_⟩ | ⟨_,hc⟩
  ·exact absurd e h1
  ·rcases q9y hc with ⟨e,e2⟩ | ⟨_,hc⟩
   ·subst e2; rfl
   ·exact h.root i c hc h2
 fwd i c hc hi:=by
  rcases q9y hc with ⟨e,e2⟩ | ⟨h1,hc⟩
  ·subst e2; subst e; exact ⟨m,rfl,qv2 hr hm hn em en hmn⟩
  ·have h2:=qvu em hi h1
   rcases q9y hc with ⟨e,e2⟩ | ⟨_,hc⟩
   ·subst e; exact absurd em h2
   ·obtain ⟨j,h3,h4⟩:=h.fwd i c hc h2
    exact ⟨j,h3,h4.mrg (D:=D)⟩
theorem qld.mrg {P:List Int} {N D:Nat} {rep d:Nat→Nat} (h:qld P N rep d) (hr:qt2 N D rep d) {m n:Nat} (hm:m<N) (hn:n<N) (em:rep m=m) (en:rep n=n) (hmn:m≠n) :
  qld (P.set n (m:Int)) N (qny rep m n) (qwl rep d n) where
 root i c hc hi:=by
  obtain ⟨h1,h2⟩:=qnc em hmn hi
  rcases q9y hc with ⟨e,_⟩ | ⟨_,hc⟩
  ·exact absurd e h1
  ·exact h.root i c hc h2
 fwd i c hc hi:=by
  rcases q9y hc with ⟨e,e2⟩ | ⟨h1,hc⟩
  ·subst e2; subst e; exact ⟨m,rfl,qv2 hr hm hn em en hmn⟩
  ·have h2:=qvu em hi h1
   obtain ⟨j,h3,h4⟩:=h.fwd i c hc h2
   exact ⟨j,h3,h4.mrg (D:=D)⟩
theorem qld.halve {P:List Int} (h:qld P N rep d) {j:Nat} {c:Int} (hi:rep i≠i) (hj:qic N rep d i j) (hc:P[j]? = some c):qld (P.set i c) N rep d where
 root k x hx hk:=by
  rcases q9y hx with ⟨e,_⟩ | ⟨_,hx⟩
  ·subst e; exact absurd hk hi
  ·exact h.root k x hx hk
 fwd k x hx hk:=by
  rcases q9y hx with ⟨e,e2⟩ | ⟨_,hx⟩
  ·subst e; subst e2
   obtain ⟨j1,j2,j3⟩:=hj
   by_cases hjj:rep j=j
   ·have:=h.root j x hc hjj
    exact ⟨j,this,j1,j2,j3⟩
   ·obtain ⟨l,h1,h2,h3,h4⟩:=h.fwd j x hc hjj
    exact ⟨l,h1,h2,by rw [h3,j2],by omega⟩
  ·exact h.fwd k x hx hk
def tot (l:List q0d):Nat:=(l.map fun c=>c.arcs.length).sum
theorem qqk:∀ {l:List q0d} {i:Nat} {x:q0d} (c:q0d),l[i]? = some x→tot (l.set i c)+x.arcs.length=tot l+c.arcs.length
 | [],i,x,c,h=>by simp at h
 | y::l,0,x,c,h=>by
  have:y=x:=by simpa using h
  subst this
  simp only [List.set_cons_zero,tot,zQ,List.sum_cons]; omega
 | y::l,i+1,x,c,h=>by
  have:=qqk (l:=l) (i:=i) c (by simpa using h)
  simp only [List.set_cons_succ,tot,zQ,List.sum_cons] at this ⊢; omega
theorem qi6:∀ {l:List q0d} {i:Nat} {x:q0d},l[i]? = some x→x.arcs.length≤tot l:=fun {l i x} h=>by
 have:=qqk (q0d.mk 0 0 []) h
 simp only [zS] at this
 omega
structure qbz (N:Nat) (FB:Int) (l:List q0f):Prop where
 up:UpA l
 ok:∀ a∈l,0≤a.Feat∧a.Feat<FB∧0≤a.To∧a.To<N
theorem qbz.nil (N:Nat) (FB:Int):qbz N FB []:=⟨List.Pairwise.nil,fun a h=>by cases h⟩
theorem IsM.ok {N:Nat} {FB:Int} {a b o:List q0f} (h:IsM a b o) (ha:qbz N FB a) (hb:qbz N FB b):qbz N FB o:=⟨h.up,fun x hx=>by
 rcases h.mem hx with h1 | h1
 ·exact ha.ok x h1
 ·exact hb.ok x h1⟩
structure qjt (N D:Nat) (FB TB:Int) (cells:List q0d) (rep d:Nat→Nat):Prop where
 rok:qt2 N D rep d
 cok:qu9 cells N rep d
 len:cells.length=N
 ar:∀ (i:Nat) (c:q0d),cells[i]? = some c→qbz N FB c.arcs
 kd:∀ (i:Nat) (c:q0d),cells[i]? = some c→0≤c.kind∧c.kind<TB
def qxd (cells:List q0d) (m n:Nat) (t:Int) (o:List q0f):List q0d:=(cells.set m ⟨-1,t,o⟩).set n ⟨(m:Int),0,[]⟩
theorem qjt.mrg {N D:Nat} {FB TB:Int} {cells:List q0d} {rep d:Nat→Nat} (h:qjt N D FB TB cells rep d) {m n:Nat} (hm:m<N) (hn:n<N) (em:rep m=m) (en:rep n=n) (hmn:m≠n) {t:Int} {o:List q0f} (ho:qbz N FB o) (ht:0≤t∧t<TB) :
  qjt N (D+1) FB TB (qxd cells m n t o) (qny rep m n) (qwl rep d n) where
 rok:=h.rok.mrg hm em en hmn
 cok:=h.cok.mrg h.rok hm hn em en hmn t o 0 []
 len:=by simp [qxd,h.len]
 ar i c hc:=by
  rcases q9y hc with ⟨_,e⟩ | ⟨_,hc⟩
  ·subst e; exact .nil N FB
  ·rcases q9y hc with ⟨_,e⟩ | ⟨_,hc⟩
   ·subst e; exact ho
   ·exact h.ar i c hc
 kd i c hc:=by
  rcases q9y hc with ⟨_,e⟩ | ⟨_,hc⟩
  ·subst e; exact ⟨by simp,by show (0:Int)<TB; omega⟩
  ·rcases q9y hc with ⟨_,e⟩ | ⟨_,hc⟩
   ·subst e; exact ht
   ·exact h.kd i c hc
theorem z6w {cells:List q0d} {m n:Nat} {x y:q0d} (hx:cells[m]? = some x) (hy:cells[n]? = some y) (hmn:m≠n) (t:Int) {o:List q0f} (ho:IsM x.arcs y.arcs o) :
  tot (qxd cells m n t o)+(prs x.arcs y.arcs).length=tot cells:=by
 have h1:=qqk ⟨-1,t,o⟩ hx
 have hy':(cells.set m ⟨-1,t,o⟩)[n]? = some y:=by rw [List.getElem?_set_ne hmn]; exact hy
 have h2:=qqk ⟨(m:Int),0,[]⟩ hy'
 have h3:=ho.len
 simp only [qxd,zS] at *
 omega
structure Cls (N:Nat) (cells:List q0d) (P T:List Int) (A:List (List q0f)) (rep d:Nat→Nat):Prop where
 pok:qld P N rep d
 lp:P.length=N
 lt:T.length=N
 la:A.length=N
 same:∀ (i:Nat) (c:q0d),cells[i]? = some c→rep i=i→T[i]? = some c.kind∧A[i]? = some c.arcs
theorem Cls.mrg {N D:Nat} {FB TB:Int} {cells:List q0d} {P T:List Int} {A:List (List q0f)} {rep d:Nat→Nat} (hh:qjt N D FB TB cells rep d) (h:Cls N cells P T A rep d) {m n:Nat} (hm:m<N) (hn:n<N) (em:rep m=m) (en:rep n=n) (hmn:m≠n) (t:Int) (o:List q0f) :
  Cls N (qxd cells m n t o) (P.set n (m:Int)) (T.set m t) (A.set m o) (qny rep m n) (qwl rep d n) where
 pok:=h.pok.mrg hh.rok hm hn em en hmn
 lp:=by simp [h.lp]
 lt:=by simp [h.lt]
 la:=by simp [h.la]
 same i c hc hi:=by
  obtain ⟨h1,h2⟩:=qnc em hmn hi
  rcases q9y hc with ⟨e,_⟩ | ⟨_,hc⟩
  ·exact absurd e h1
  ·rcases q9y hc with ⟨e,e2⟩ | ⟨e,hc⟩
   ·subst e; subst e2
    have q1:=h.lt; have q2:=h.la
    constructor
    ·rw [List.getElem?_set_self (by omega)]
    ·rw [List.getElem?_set_self (by omega)]
   ·have:=h.same i c hc h2
    rw [List.getElem?_set_ne (fun q=>e q.symm),List.getElem?_set_ne (fun q=>e q.symm)]
    exact this
theorem Cls.halve {N:Nat} {cells:List q0d} {P P' T:List Int} {A:List (List q0f)} {rep d:Nat→Nat} (h:Cls N cells P T A rep d) (hp:qld P' N rep d) (hl:P'.length=N):Cls N cells P' T A rep d:=⟨hp,hl,h.lt,h.la,h.same⟩
def bkL (tr:List q08) (cells:List q0d):List q0d:=tr.foldr (fun x l=>l.set x.atx.toNat x.old) cells
theorem qp7 (tr:List q08) (x:q08) (cells:List q0d):bkL (tr++[x]) cells=bkL tr (cells.set x.atx.toNat x.old):=by simp [bkL]
theorem qvy {l:List q0d} {k:Nat} {x y:q0d} (h:l[k]? = some x):(l.set k y).set k x=l:=by
 rw [List.set_set]
 apply List.ext_getElem? fun i=>?_
 rw [List.getElem?_set]
 by_cases e:k=i
 ·subst e
  have hk:=(zG.1 h).1
  simp [hk] at h ⊢
  exact h.symm
 ·simp [e]
def rI (rep:Nat→Nat) (v:Int):Int:=(rep v.toNat:Int)
def qfk (cells:List q0d) (v:Int):q0d:=(cells[v.toNat]?).getD ⟨-1,0,[]⟩
def z0d (out:List q0j) (k:Nat) (l:List q0f):List q0j:=out.set k ⟨((out[k]?).map (·.Typex)).getD 0,l⟩
def qlm (g:List Int×List q0j→Int→Int×List Int×List q0j):List q0f→List Int×List q0j→List q0f→List q0f×List Int×List q0j
 | [],s,acc=>(acc,s)
 | a::l,s,acc=>qlm g l (g s a.To).2 (acc++[⟨a.Feat,(g s a.To).1⟩])
def vis (cells:List q0d) (rep:Nat→Nat):Nat→List Int×List q0j→Int→Int×List Int×List q0j
 | 0,s,_=>(0,s)
 | k+1,s,v=>if rI rep v∈s.1 then ((s.1.idxOf (rI rep v):Int),s)
  else
   let c:=qfk cells (rI rep v)
   let r:=qlm (vis cells rep k) c.arcs (s.1++[rI rep v],s.2++[⟨c.kind,[]⟩]) []
   ((s.1.length:Int),r.2.1,z0d r.2.2 s.1.length r.1)
structure Sn (N:Nat) (B:Nat) (s:List Int×List q0j):Prop where
 nd:s.1.Nodup
 ing:∀ v∈s.1,0≤v∧v<(N:Int)
 len:s.2.length=s.1.length
 sm:∀ x∈s.2,x.Arcs.length≤B
variable {N:Nat}
theorem Sn.le {B:Nat} {s:List Int×List q0j} (h:Sn N B s):s.1.length≤N:=qhz N h.nd h.ing
theorem Sn.nil (N B:Nat):Sn N B ([],[]):=⟨List.nodup_nil,fun v hv=>(List.not_mem_nil hv).elim,rfl,fun v hv=>(List.not_mem_nil hv).elim⟩
theorem Sn.snoc {B:Nat} {s:List Int×List q0j} (h:Sn N B s) {v:Int} (hv:0≤v∧v<(N:Int)) (hn:v ∉ s.1) (k:Int):Sn N B (s.1++[v],s.2++[⟨k,[]⟩]):=⟨by
 rw [List.nodup_append]
 refine ⟨h.nd,by simp,?_⟩
 intro a ha b hb
 simp at hb
 subst hb
 intro e; subst e; exact hn ha,fun u hu=>by
 rcases yD.1 hu with hu | hu
 ·exact h.ing u hu
 ·simp at hu; subst hu; exact hv,by simp [h.len],fun x hx=>by
 rcases yD.1 hx with hx | hx
 ·exact h.sm x hx
 ·simp at hx; subst hx; simp⟩
theorem qjt.cel {D:Nat} {FB TB:Int} {cells:List q0d} {rep d:Nat→Nat} (h:qjt N D FB TB cells rep d) {v:Int} (hv:0≤v∧v<(N:Int)):cells[v.toNat]? = some (qfk cells v):=by
 have h1:=h.len
 have h2:v.toNat<cells.length:=by omega
 rw [qfk,List.getElem?_eq_getElem h2]; rfl
theorem qjt.rI {N D:Nat} {FB TB:Int} {cells:List q0d} {rep d:Nat→Nat} (h:qjt N D FB TB cells rep d) {v:Int} (hv:0≤v∧v<(N:Int)):0≤rI rep v∧rI rep v<(N:Int):=by
 have:=h.rok.lt v.toNat (by omega)
 unfold Go.Proofs.rI; omega
theorem qw7 (g:List Int×List q0j→Int→Int×List Int×List q0j):∀ (l:List q0f) (s:List Int×List q0j) (acc:List q0f),(qlm g l s acc).1.length=acc.length+l.length
 | [],s,acc=>rfl
 | a::l,s,acc=>by rw [qlm,qw7 g l]; simp; omega
theorem qw8 {N D B:Nat} {FB TB:Int} {cells:List q0d} {rep d:Nat→Nat} (h:qjt N D FB TB cells rep d) (hB:tot cells≤B):∀ (k:Nat) (s:List Int×List q0j) (v:Int),Sn N B s→(0≤v∧v<(N:Int))→N - s.1.length<k →
  Sn N B (vis cells rep k s v).2∧s.1.length≤(vis cells rep k s v).2.1.length∧(0<(vis cells rep k s v).2.1.length)
 | 0,s,v,hs,hv,hk=>by omega
 | k+1,s,v,hs,hv,hk=>by
  unfold vis
  by_cases hm:rI rep v∈s.1
  ·rw [if_pos hm]; exact ⟨hs,zF _,List.length_pos_of_mem hm⟩
  ·rw [if_neg hm]
   have hr:=h.rI hv
   have hs1:=hs.snoc hr hm (qfk cells (rI rep v)).kind
   have hc:=h.cel hr
   have har:=h.ar _ _ hc
   have hl1:=hs1.le
   simp only [zU,zO,zS] at hl1
   have key:∀ (l:List q0f),(∀ a∈l,0≤a.To∧a.To<(N:Int))→∀ (s':List Int×List q0j) (acc:List q0f),Sn N B s'→s.1.length+1≤s'.1.length→Sn N B (qlm (vis cells rep k) l s' acc).2∧s.1.length+1≤(qlm (vis cells rep k) l s' acc).2.1.length:=by
    intro l
    induction l with
    | nil=>intro _ s' acc h1 h2; exact ⟨h1,h2⟩
    | cons a l ih =>
     intro hl s' acc h1 h2
     have ha:=hl a (by simp)
     obtain ⟨g1,g2,g3⟩:=qw8 h hB k s' a.To h1 ha (by omega)
     exact ih (fun b hb=>hl b (List.mem_cons_of_mem _ hb)) _ _ g1 (by omega)
   obtain ⟨g1,g2⟩:=key _ (fun a ha=>(har.ok a ha).2.2) _ [] hs1 (by simp)
   refine ⟨⟨g1.nd,g1.ing,?_,?_⟩,?_,?_⟩
   ·show (z0d _ _ _).length=_
    rw [z0d,List.length_set]; exact g1.len
   ·intro x hx
    rcases List.mem_or_eq_of_mem_set hx with hx | hx
    ·exact g1.sm x hx
    ·subst hx
     show (qlm _ _ _ _).1.length≤B
     rw [qw7]
     have:=qi6 hc
     simp; omega
   ·show s.1.length≤(qlm (vis cells rep k) _ _ _).2.1.length; omega
   ·show 0<(qlm (vis cells rep k) _ _ _).2.1.length; omega
end Go.Proofs
end
section
namespace Go.Proofs
open Go Go.Rx Go.Vx
set_option maxRecDepth 10000
theorem qyt {N D:Nat} {FB TB:Int} {cells:List q0d} {rep d:Nat→Nat} (h:qjt N D FB TB cells rep d):∀ (k i:Nat),d i<k→i<N→q30 cells k (i:Int)=some (rep i:Int)
 | 0,i,hk,_=>by omega
 | k+1,i,hk,hi=>by
  have hl:=h.len
  obtain ⟨c,hc,_⟩:=q1j (l:=cells) (show i<cells.length by omega)
  simp only [q30,q07,hc,q02]
  by_cases e:rep i=i
  ·have:=h.cok.root i c hc e
   simp [this,q5k,e]
  ·obtain ⟨j,h1,h2,h3,h4⟩:=h.cok.fwd i c hc e
   have h5:decide (c.forward ≥ 0)=true:=by simp [h1]
   rw [h5,zC,h1,qyt h k j (by omega) h2,h3]
variable {N:Nat}
variable {rep:Nat→Nat}
variable {d:Nat→Nat}
theorem qph {D:Nat} {FB TB:Int} {cells:List q0d} (h:qjt N D FB TB cells rep d) {n:Nat} (hn:D<n) {v:Int} (hv:0≤v∧v<(N:Int)) (p2:List q1c) (p3:List q0b) (p6:List q08) (p8:List q1e) :
  q45 n v p2 p3 cells p6 p8=some (rI rep v):=by
 have h1:v.toNat<N:=by omega
 have h2:=h.rok.bd _ h1
 have:=qyt h n v.toNat (by omega) h1
 rw [show ((v.toNat:Nat):Int)=v by omega] at this
 exact this
variable {i:Nat}
variable {j:Nat}
theorem qld.two {P:List Int} (h:qld P N rep d) {c:Int} (hj:qic N rep d i j) (hc:P[j]? = some c):∃ l:Nat,c=(l:Int)∧qic N rep d i l:=by
 obtain ⟨j1,j2,j3⟩:=hj
 by_cases hjj:rep j=j
 ·exact ⟨j,h.root j c hc hjj,j1,j2,j3⟩
 ·obtain ⟨l,h1,h2,h3,h4⟩:=h.fwd j c hc hjj
  exact ⟨l,h1,h2,by rw [h3,j2],by omega⟩
theorem qxz {N:Nat} {rep d:Nat→Nat}:∀ (k i:Nat) (P:List Int),qld P N rep d→P.length=N→d i<k→i<N→∃ P',q23 k (i:Int) P=some ((rep i:Int),P')∧qld P' N rep d∧P'.length=N
 | 0,i,P,_,_,hk,_=>by omega
 | k+1,i,P,h,hl,hk,hi=>by
  obtain ⟨c,hc,_⟩:=q1j (l:=P) (show i<P.length by omega)
  simp only [q23,q07,hc,q02]
  by_cases e:rep i=i
  ·have:=h.root i c hc e
   subst this
   have e1:((i:Int) != (i:Int))=false:=by simp
   simp only [e1,zD,q46,e]
   exact ⟨P,rfl,h,hl⟩
  ·obtain ⟨j,h1,h2⟩:=h.fwd i c hc e
   have ⟨h3,h4,h5⟩:=h2
   subst h1
   have e1:((j:Int) != (i:Int))=true:=by
    rw [bne_iff_ne]; intro q
    have:j=i:=by omega
    subst this; omega
   obtain ⟨c2,hc2,_⟩:=q1j (l:=P) (show j<P.length by omega)
   obtain ⟨l,g1,g2⟩:=h.two h2 hc2
   have hP:=h.halve e h2 hc2
   have e2:(P.set (0+(i:Int).toNat) c2)[i]? = some c2:=by
    rw [Nat.zero_add,zZ,List.getElem?_set_self (by omega)]
   simp only [e1,zC,q07,hc2,q02,e2]
   rw [Nat.zero_add,zZ]
   obtain ⟨P',r1,r2,r3⟩:=qxz k l (P.set i c2) hP (by simp [hl]) (Nat.lt_of_lt_of_le g2.2.2 (by omega)) g2.1
   subst g1
   exact ⟨P',by rw [r1,g2.2.1],r2,r3⟩
theorem qpb {D:Nat} {FB TB:Int} {cells:List q0d} {P T:List Int} {A:List (List q0f)} (h:qjt N D FB TB cells rep d) (hc:Cls N cells P T A rep d) {n:Nat} (hn:D<n) {v:Int} (hv:0≤v∧v<(N:Int)) (p2:List q1c) (p3:List q0b) (p6:List Int) (p8:List (List q0f)) :
  ∃ P',q31 n v p2 p3 P p6 p8=some (rI rep v,P')∧Cls N cells P' T A rep d:=by
 have h1:v.toNat<N:=by omega
 have h2:=h.rok.bd _ h1
 obtain ⟨P',r1,r2,r3⟩:=qxz n v.toNat P hc.pok hc.lp (by omega) h1
 rw [show ((v.toNat:Nat):Int)=v by omega] at r1
 exact ⟨P',r1,hc.halve r2 r3⟩
theorem mid_ok (h:i+j≤1000000000):IntKind.i64.wrap ((IntKind.u64.wrap (IntKind.i64.wrap ((i:Int)+(j:Int)))).fdiv (2 ^ (min (1:Int).toNat IntKind.u64.bits)))=(((i+j) / 2:Nat):Int):=by
 have e1:IntKind.i64.wrap ((i:Int)+(j:Int))=((i+j:Nat):Int):=wrn (by omega) (by omega)
 have e2:IntKind.u64.wrap ((i+j:Nat):Int)=((i+j:Nat):Int):=by
  unfold IntKind.wrap
  simp only [IntKind.signed,IntKind.bits,Bool.false_and,Bool.false_eq_true,if_false]
  omega
 have e3:min (1:Int).toNat IntKind.u64.bits=1:=rfl
 have e4:((i+j:Nat):Int).fdiv (2 ^ 1)=(((i+j) / 2:Nat):Int):=by
  rw [show (2:Int) ^ 1=((2:Nat):Int) by rfl,Int.fdiv_eq_ediv_of_nonneg _ (Int.natCast_nonneg _)]; rfl
 rw [e1,e2,e3,e4]
 exact wr (by omega) (by omega)
theorem UpA.lt {l:List q0f} (h:UpA l) {x y:q0f} (hi:l[i]? = some x) (hj:l[j]? = some y) (hij:i<j):x.Feat<y.Feat:=by
 obtain ⟨h1,e1⟩:=zG.1 hi
 obtain ⟨h2,e2⟩:=zG.1 hj
 have:=List.pairwise_iff_getElem.1 h i j h1 h2 hij
 rw [e1,e2] at this
 exact this
structure At (l:List q0f) (f:Int) (k:Nat):Prop where
 le:k≤l.length
 lo:∀ (i:Nat) (x:q0f),l[i]? = some x→i<k→x.Feat<f
 hi:∀ (i:Nat) (x:q0f),l[i]? = some x→k≤i→f≤x.Feat
theorem z43 (n:Nat) {x:q0f} {f:Int} (h1:0≤x.Feat∧x.Feat<1000000000) (h2:0≤f∧f<1000000000):q5y n x f=some (x.Feat - f):=by
 rw [q5y,wr (by omega) (by omega)]
theorem bs_L {N:Nat} {FB:Int} {l:List q0f} (h:qbz N FB l) (hF:FB≤1000000000) (hl:l.length≤1000000) {f:Int} (hf:0≤f∧f<FB) (n:Nat):∀ (m i j:Nat),j - i<m→i≤j→j≤l.length→(∀ (k:Nat) (x:q0f),l[k]? = some x→k<i→x.Feat<f)→(∀ (k:Nat) (x:q0f),l[k]? = some x→j≤k→f≤x.Feat) →
  ∃ (k:Nat) (b:Bool),q0h l f (q5y n) m (i:Int) (j:Int)=some ((k:Int),b)∧At l f k∧(b=true↔∃ x,l[k]? = some x∧x.Feat=f)
 | 0,i,j,hm,_,_,_,_=>by omega
 | m+1,i,j,hm,hij,hj,h1,h2=>by
  unfold q0h
  by_cases e:i<j
  ·have e1:decide ((i:Int)<(j:Int))=true:=by simp; omega
   have hmid:=mid_ok (i:=i) (j:=j) (by omega)
   obtain ⟨x,hx,hxm⟩:=q1j (l:=l) (show (i+j) / 2<l.length by omega)
   have hxo:=h.ok x hxm
   have hc:=z43 n (x:=x) (f:=f) (by omega) (by omega)
   simp only [e1,zC,hmid,q07,hx,q02,hc]
   by_cases h3:x.Feat - f<0
   ·have e2:IntKind.i64.wrap ((((i+j) / 2:Nat):Int)+1)=(((i+j) / 2+1:Nat):Int):=wrn (by omega) (by omega)
    simp only [h3,yC,zC,q0q,e2]
    refine bs_L h hF hl hf n m ((i+j) / 2+1) j (by omega) (by omega) hj (fun k y hy hk=>?_) h2
    by_cases e3:k=(i+j) / 2
    ·subst e3; rw [hx] at hy; have:=Option.some.inj hy; subst this; omega
    ·have:=h.up.lt hy hx (by omega); omega
   ·simp only [h3,yB,zD,q0q]
    refine bs_L h hF hl hf n m i ((i+j) / 2) (by omega) (by omega) (by omega) h1 (fun k y hy hk=>?_)
    by_cases e3:k=(i+j) / 2
    ·subst e3; rw [hx] at hy; have:=Option.some.inj hy; subst this; omega
    ·have:=h.up.lt hx hy (by omega); omega
  ·have e0:i=j:=by omega
   subst e0
   have e1:decide ((i:Int)<(i:Int))=false:=by simp
   have hat:At l f i:=⟨hj,h1,h2⟩
   simp only [e1,zD,q1g]
   by_cases hlt:i<l.length
   ·obtain ⟨x,hx,hxm⟩:=q1j hlt
    have hxo:=h.ok x hxm
    have hc:=z43 n (x:=x) (f:=f) (by omega) (by omega)
    simp only [dlt hlt,zC,q07,hx,q02,hc]
    refine ⟨i,_,rfl,hat,?_⟩
    rw [beq_iff_eq]
    constructor
    ·intro q; exact ⟨x,hx,by omega⟩
    ·rintro ⟨y,hy,q⟩; rw [hx] at hy; have:=Option.some.inj hy; subst this; omega
   ·simp only [qfw hlt,zD,q02]
    refine ⟨i,false,rfl,hat,by simp,?_⟩
    rintro ⟨y,hy,_⟩
    exact absurd (zG.1 hy).1 hlt
def pk (p:Int×Int):q20:=⟨p.1,p.2⟩
theorem qpj {N:Nat} {FB:Int} {a b:List q0f} (ha:qbz N FB a) (hb:qbz N FB b) (hF:FB≤1000000000) (hla:a.length≤1000) (hlb:b.length≤1000) {n:Nat} (hn:3000≤n):∀ (m k:Nat) (o:List q0f),b.length - k<m→k≤b.length→IsM a (b.take k) o →
  ∃ o',q52 b n m (k:Int) ((prs a (b.take k)).map pk) o=some (o',(prs a b).map pk)∧IsM a b o'
 | 0,k,o,hm,_,_=>by omega
 | m+1,k,o,hm,hk,ho=>by
  unfold q52
  have hol:=ho.len
  have hbk:(b.take k).length≤1000:=by rw [List.length_take]; omega
  by_cases hlt:k<b.length
  ·obtain ⟨y,hy,hym⟩:=q1j hlt
   have hyo:=hb.ok y hym
   have hoo:=ho.ok ha ⟨hb.up.sublist (List.take_sublist k b),fun x hx=>hb.ok x (List.mem_of_mem_take hx)⟩
   obtain ⟨i,bb,s1,s2,s3⟩:=bs_L hoo hF (by omega) (f:=y.Feat) ⟨hyo.1,hyo.2.1⟩ n n 0 o.length (by omega) (by omega) (zF _) (fun k x _ h=>by omega) (fun k x hx h=>by have:=(zG.1 hx).1; omega)
   rw [zV] at s1
   simp only [dlt hlt,zC,q07,hy,q02,q1r,s1]
   have ht:=q0r hy
   cases bb with
   | true =>
    obtain ⟨x,hx,e⟩:=s3.1 rfl
    have hxm:=zX hx
    have hxa:x∈a:=by
     rcases yD.1 (ho.pm.mem_iff.1 hxm) with h | h
     ·exact h
     ·exfalso
      have h1:=(List.mem_filter.1 h).1
      obtain ⟨q,hq⟩:=List.mem_iff_getElem?.1 h1
      have hq1:q<k:=by
       have:=(zG.1 hq).1
       rw [List.length_take] at this; omega
      rw [List.getElem?_take_of_lt hq1] at hq
      have:=hb.up.lt hq hy hq1
      omega
    have hp:=qtx (b:=b.take k) ha.up.dis hxa e
    have hpl:(prs a (b.take k)).length≤1000:=by have:=qpu a (b.take k); omega
    simp only [zC,hx,q02,wr1 hlt (show b.length≤9223372036854775807 by omega)]
    rw [needO,if_pos (by simp only [yA]; omega)]
    have hin:=ho.inn hxa e
    rw [← ht] at hp hin
    have:=qpj ha hb hF hla hlb hn m (k+1) o (by omega) (by omega) hin
    rw [hp,List.map_append] at this
    exact this
   | false =>
    have hno:∀ x,o[i]? = some x→x.Feat≠y.Feat:=fun x hx e=>by
     have:=s3.2 ⟨x,hx,e⟩; cases this
    have hlo:∀ z∈o.take i,z.Feat<y.Feat:=fun z hz=>by
     obtain ⟨q,hq⟩:=List.mem_iff_getElem?.1 hz
     have hq1:q<i:=by
      have:=(zG.1 hq).1
      rw [List.length_take] at this; omega
     rw [List.getElem?_take_of_lt hq1] at hq
     exact s2.lo q z hq hq1
    have hhi:∀ z∈o.drop i,y.Feat<z.Feat:=fun z hz=>by
     obtain ⟨q,hq⟩:=List.mem_iff_getElem?.1 hz
     rw [List.getElem?_drop] at hq
     have h1:=s2.hi (i+q) z hq (by omega)
     cases q with
     | zero=>have:=hno z hq; omega
     | succ q =>
      obtain ⟨x,hx,_⟩:=q1j (l:=o) (show i<o.length by have:=(zG.1 hq).1; omega)
      have h2:=hoo.up.lt hx hq (by omega)
      have h3:=s2.hi i x hx (zF _)
      omega
    have hout:=ho.out hlo hhi
    have hna:∀ x∈a,x.Feat≠y.Feat:=fun x hx e=>by
     have hxo:x∈o:=ho.pm.mem_iff.2 (List.mem_append_left _ hx)
     rw [← List.take_append_drop i o] at hxo
     rcases yD.1 hxo with h | h
     ·have:=hlo x h; omega
     ·have:=hhi x h; omega
    have hp:=qs5 (b:=b.take k) hna
    have hile:=s2.le
    have hins:q61 n (i:Int) o y.Feat y.To=some (o.take i++y::o.drop i):=by
     rw [q61,needO,if_pos (by omega),zZ]
    simp only [zD,hins,q02,wr1 hlt (show b.length≤9223372036854775807 by omega)]
    rw [← ht] at hp hout
    have:=qpj ha hb hF hla hlb hn m (k+1) _ (by omega) (by omega) hout
    rw [hp] at this
    exact this
  ·have e:b.take k=b:=zW (by omega)
   rw [e] at ho ⊢
   simp only [qfw hlt,zD,qa0]
   exact ⟨o,rfl,ho⟩
end Go.Proofs
end
section
namespace Go.Proofs
open Go Go.Rx Go.Vx Go.Shelf Go.Sort
set_option maxRecDepth 10000
abbrev Str:=List UInt8
theorem qdw {α S R:Type} {l:List α} (hl:l.length≤9223372036854775807) {F:Nat→Int→S→Option R} (I:Nat→S→Prop) {Q:R→Prop}
  (h:∀ (m i:Nat) (x:α) (s:S),l[i]? = some x→i<l.length→decide ((i:Int)<(l.length:Int))=true→IntKind.i64.wrap ((i:Int)+1)=((i+1:Nat):Int)→I i s→(∀ s',I (i+1) s'→∃ r,F m ((i+1:Nat):Int) s'=some r∧Q r)→∃ r,F (m+1) (i:Int) s=some r∧Q r)
  (hK:∀ (m:Nat) (s:S),decide ((l.length:Int)<(l.length:Int))=false→I l.length s→∃ r,F (m+1) (l.length:Int) s=some r∧Q r) :
  ∀ (m i:Nat) (s:S),l.length - i<m→i≤l.length→I i s→∃ r,F m (i:Int) s=some r∧Q r
 | 0,i,s,hm,_,_=>by omega
 | m+1,i,s,hm,hi,hs=>by
  by_cases hlt:i<l.length
  ·obtain ⟨x,hx,_⟩:=q1j hlt
   exact h m i x s hx hlt (dlt hlt) (wr1 hlt hl) hs fun s' hs'=>qdw hl I h hK m (i+1) s' (by omega) (by omega) hs'
  ·have:i=l.length:=by omega
   subst this
   exact hK m s (qfw (by omega)) hs
theorem ned {β:Type} {p:Prop} [Decidable p] {k:Option β} (h:p):needO p k=k:=if_pos h
theorem beqF {a b:Str} (h:a≠b):q22 a b=false:=by
 cases e:q22 a b with
 | true=>exact absurd ((qhm _ _).1 e) h
 | false=>rfl
theorem beqD (a b:Str):q22 a b=decide (a=b):=by
 by_cases h:a=b
 ·rw [(qhm _ _).2 h]; simp [h]
 ·rw [beqF h]; simp [h]
variable {α:Type}
variable {l:List α}
theorem z44 {a b:Nat} (h1:a≤b) (h2:b≤l.length):qmc l (a:Int) (b:Int)=some ((l.drop a).take (b - a)):=by
 unfold qmc
 have:0≤(a:Int)∧(a:Int)≤(b:Int)∧(b:Int)≤(l.length:Int):=by omega
 simp [this,List.drop_take]
theorem z1w {b:Nat} (h2:b≤l.length):qmc l 0 (b:Int)=some (l.take b):=by
 have:=z44 (l:=l) (Nat.zero_le b) h2
 rwa [zV,List.drop_zero,Nat.sub_zero] at this
theorem cut_e {a:Nat} (h2:a≤l.length):qmc l (a:Int) (l.length:Int)=some (l.drop a):=by
 have:=z44 (l:=l) h2 (zF _)
 rwa [zW (by simp)] at this
theorem z6g (n:Nat) (z:Int) (b:Bool):∃ r,qeb n z b=some r:=by
 simp only [qeb,q8t,qf4,qd0]
 cases decide (z ≥ 48)<;>cases decide (z≤57)<;>cases (z == 45)<;>cases b<;>cases decide (z ≥ 65)<;>cases decide (z≤90)<;>cases decide (z ≥ 97)<;>cases decide (z≤122)<;>exact ⟨_,rfl⟩
variable {s:Str}
theorem qw4 {i:Nat} {x:UInt8} (h:s[i]? = some x):qu6 s (i:Int)=some (x.toNat:Int):=by
 have:=(zG.1 h).1
 have h2:0≤(i:Int)∧(i:Int)<(s.length:Int):=by omega
 simp [qu6,h2,h]
variable {n:Nat}
theorem qvc (s:Str) (b:Bool) (hn:40≤n):∃ r,qac n s b=some r∧(r=true→0<s.length∧s.length≤32):=by
 unfold qac
 by_cases h1:(s.length:Int)<1
 ·simp only [h1,yC,zC,q02]; exact ⟨false,rfl,fun h=>by cases h⟩
 ·by_cases h2:(s.length:Int) > 32
  ·simp only [h1,h2,yC,yB,zC,zD,q02]; exact ⟨false,rfl,fun h=>by cases h⟩
  ·obtain ⟨x,hx,_⟩:=q1j (show 0<s.length by omega)
   have h3:=qw4 hx
   rw [zV] at h3
   have hd:∃ r,q8t n (x.toNat:Int)=some r:=by
    unfold q8t
    cases decide ((x.toNat:Int) ≥ 48)<;>exact ⟨_,rfl⟩
   obtain ⟨c,hc⟩:=hd
   have key:=qdw (l:=s) (by omega) (F:=fun m z (_:Unit)=>q5n s b n m z) (fun _ _=>True) (Q:=fun r=>True)
    (fun m i x _ hx hlt hd hw _ ih=>by
     obtain ⟨r,hr⟩:=z6g n (x.toNat:Int) b
     obtain ⟨q,hq,_⟩:=ih () trivial
     simp only [q5n,hd,zC,qw4 hx,q02,hr,hw]
     cases r with
     | false=>exact ⟨_,rfl,trivial⟩
     | true=>exact ⟨q,hq,trivial⟩)
    (fun m _ hd _=>by simp only [q5n,hd,zD,qan]; exact ⟨_,rfl,trivial⟩) n 0 () (by omega) (by omega) trivial
   obtain ⟨q,hq,_⟩:=key
   rw [zV] at hq
   simp only [h1,h2,yB,zD,h3,q02,hc]
   cases c with
   | true=>simp only [zC,q02]; exact ⟨false,rfl,fun h=>by cases h⟩
   | false =>
    simp only [zD,q02]
    cases ((x.toNat:Int) == 45) with
    | true=>exact ⟨false,rfl,fun h=>by cases h⟩
    | false=>exact ⟨q,hq,fun _=>by omega⟩
theorem z4b {d:List q01} (hd:d.length≤1000000) {s:Str}:∀ (m i:Nat),d.length - i<m→i≤d.length →
  (∃ j x,i≤j∧d[j]? = some x∧x.Name=s∧(∀ k y,i≤k→k<j→d[k]? = some y→y.Name≠s)∧q6h d s m i=some (j:Int))∨((∀ x∈d.drop i,x.Name≠s)∧q6h d s m i=some (-1))
 | 0,i,hm,_=>by omega
 | m+1,i,hm,hi=>by
  unfold q6h
  by_cases hlt:i<d.length
  ·obtain ⟨x,hx,_⟩:=q1j hlt
   simp only [dlt hlt,zC,q07,hx,q02,wr1 hlt (show d.length≤9223372036854775807 by omega),beqD]
   by_cases hb:x.Name=s
   ·simp only [hb,yC,zC]
    exact .inl ⟨i,x,zF _,hx,hb,fun k y h1 h2=>by omega,rfl⟩
   ·simp only [hb,yB,zD]
    rcases z4b hd (s:=s) m (i+1) (by omega) (by omega) with ⟨j,y,h1,h2,h3,h4,h5⟩ | ⟨h1,h2⟩
    ·refine .inl ⟨j,y,by omega,h2,h3,fun k z hk1 hk2 hz=>?_,h5⟩
     by_cases e:k=i
     ·subst e; rw [hx] at hz; cases hz; exact hb
     ·exact h4 k z (by omega) hk2 hz
    ·refine .inr ⟨fun y hy=>?_,h2⟩
     rw [drop_cons' hx] at hy
     rcases zI.1 hy with rfl | hy
     ·exact hb
     ·exact h1 y hy
  ·simp only [qfw hlt,zD,qcg,drop_nil' hlt]
   exact .inr ⟨fun x hx=>(List.not_mem_nil hx).elim,by simp⟩
variable {d:List q01}
theorem qeq (hd:d.length≤1000000) (s:Str) (hn:d.length<n) :
  (∃ (j:Nat) (x:q01),d[j]? = some x∧x.Name=s∧(∀ k y,k<j→d[k]? = some y→y.Name≠s)∧q68 n d s=some (j:Int))∨((∀ x∈d,x.Name≠s)∧q68 n d s=some (-1)):=by
 rcases z4b hd (s:=s) n 0 (by omega) (by omega) with ⟨j,y,_,h2,h3,h4,h5⟩ | ⟨h1,h2⟩
 ·exact .inl ⟨j,y,h2,h3,fun k z hk hz=>h4 k z (by omega) hk hz,h5⟩
 ·exact .inr ⟨by rw [List.drop_zero] at h1; exact h1,h2⟩
theorem qxj {l:List Str} (hl:l.length≤1000000) {s:Str}:∀ (m i:Nat),l.length - i<m→i≤l.length→q6u l s m i=some (decide (s∈l.drop i))
 | 0,i,hm,_=>by omega
 | m+1,i,hm,hi=>by
  unfold q6u
  by_cases hlt:i<l.length
  ·obtain ⟨x,hx,_⟩:=q1j hlt
   simp only [dlt hlt,zC,q07,hx,q02,drop_cons' hx,zI,wr1 hlt (show l.length≤9223372036854775807 by omega),beqD]
   by_cases e:x=s
   ·simp [e]
   ·have e':¬ s=x:=fun h=>e h.symm
    simp only [e,e',yB,zD,false_or]
    exact qxj hl m (i+1) (by omega) (by omega)
  ·simp only [qfw hlt,zD,qas,drop_nil' hlt,List.not_mem_nil,yB]
variable {l:List Str}
theorem qc6 (hl:l.length≤1000000) (s:Str) (hn:l.length<n):q49 n l s=some (decide (s∈l)):=by
 have:=qxj hl (s:=s) n 0 (by omega) (by omega)
 rw [zV,List.drop_zero] at this
 exact this
def AscS (l:List Str):Prop:=l.Pairwise fun a b=>q1v a b=true
theorem AscS.nodup (h:AscS l):l.Nodup:=h.imp fun {a b} h e=>by subst e; rw [qhg] at h; cases h
theorem z4w (hl:l.length≤1000000) (ha:AscS l) {j:Nat} (hj:j≤l.length) (hb:∀ x∈l.take j,q1v x s=true) (hx:∀ x,l[j]? = some x→q1v x s=false):∃ out,qbj l s j=some out∧(∀ x,x∈out↔x=s∨x∈l)∧out.length≤l.length+1∧AscS out:=by
 unfold qbj
 have tl:(l.take j).length=j:=by simp; omega
 have dl:(l.drop j).length=l.length - j:=by simp
 have ins:(∀ x∈l.drop j,q1v s x=true)→∃ out,(bindO (qmc l 0 (j:Int)) fun l14 =>
  needO (l14.length*16≤140737488355328∧l14.length≤140737488355328) (
  needO ((l14.length+1)*16≤140737488355328∧l14.length+1≤140737488355328) (
  bindO (qmc l (j:Int) (l.length:Int)) fun l20 =>
  needO (((l14++[s]).length+l20.length)*16≤140737488355328∧(l14++[s]).length+l20.length≤140737488355328) (
  some ((l14++[s])++l20)))))=some out∧(∀ x,x∈out↔x=s∨x∈l)∧out.length≤l.length+1∧AscS out:=by
  intro hd
  refine ⟨(l.take j++[s])++l.drop j,?_,fun x=>?_,by simp; omega,?_⟩
  ·rw [z1w hj,q02,ned (by rw [tl]; omega),ned (by rw [tl]; omega),cut_e hj,q02,ned (by rw [zU,tl,dl]; simp; omega)]
  ·have:=List.take_append_drop j l
   constructor
   ·intro h
    simp only [yD,List.mem_singleton] at h
    rcases h with (h | h) | h
    ·exact .inr (List.mem_of_mem_take h)
    ·exact .inl h
    ·exact .inr (List.mem_of_mem_drop h)
   ·rintro (h | h)
    ·simp [h]
    ·rw [← this] at h
     simp only [yD] at h ⊢
     rcases h with h | h
     ·exact .inl (.inl h)
     ·exact .inr h
  ·unfold AscS at *
   rw [← List.take_append_drop j l,List.pairwise_append] at ha
   rw [List.pairwise_append,List.pairwise_append]
   refine ⟨⟨ha.1,by simp,fun a h1 b h2=>by simp at h2; subst h2; exact hb a h1⟩,ha.2.1,fun a h1 b h2=>?_⟩
   rcases yD.1 h1 with h1 | h1
   ·exact ha.2.2 a h1 b h2
   ·simp at h1; subst h1; exact hd b h2
 by_cases hlt:j<l.length
 ·obtain ⟨x,hxj,hxm⟩:=q1j hlt
  have h1:=hx x hxj
  simp only [dlt hlt,zC,q07,hxj,q02,beqD]
  by_cases e:x=s
  ·subst e
   simp only [yC,zC]
   exact ⟨l,rfl,fun y=>⟨fun h=>.inr h,fun h=>h.elim (fun h=>h ▸ hxm) id⟩,by omega,ha⟩
  ·simp only [e,yB,zD]
   have h2:q1v s x=true:=by
    cases h3:q1v s x with
    | true=>rfl
    | false=>exact absurd (qii x s h1 h3) e
   refine ins fun y hy=>?_
   rw [drop_cons' hxj] at hy
   rcases zI.1 hy with rfl | hy
   ·exact h2
   ·have:l=l.take (j+1)++l.drop (j+1):=(List.take_append_drop _ _).symm
    unfold AscS at ha
    rw [this,List.pairwise_append] at ha
    exact qij _ _ _ h2 (ha.2.2 x (by rw [q0r hxj]; simp) y hy)
 ·simp only [qfw hlt,zD,q02]
  exact ins fun y hy=>by rw [drop_nil' hlt] at hy; cases hy
theorem put_L {l:List Str} (hl:l.length≤1000000) (ha:AscS l) {s:Str}:∀ (m i:Nat),l.length - i<m→i≤l.length→(∀ x∈l.take i,q1v x s=true)→∃ out,q91 l s m i=some out∧(∀ x,x∈out↔x=s∨x∈l)∧out.length≤l.length+1∧AscS out
 | 0,i,hm,_,_=>by omega
 | m+1,i,hm,hi,hb=>by
  unfold q91
  by_cases hlt:i<l.length
  ·obtain ⟨x,hx,_⟩:=q1j hlt
   simp only [dlt hlt,zC,q07,hx,q02,wr1 hlt (show l.length≤9223372036854775807 by omega)]
   cases hbl:q1v x s with
   | true =>
    simp only [zC]
    refine put_L hl ha m (i+1) (by omega) (by omega) fun y hy=>?_
    rw [q0r hx] at hy
    rcases yD.1 hy with hy | hy
    ·exact hb y hy
    ·simp at hy; subst hy; exact hbl
   | false=>simp only [zD]; exact z4w hl ha hi hb fun y hy=>by rw [hx] at hy; cases hy; exact hbl
  ·simp only [qfw hlt,zD,q02]
   exact z4w hl ha hi hb fun y hy=>by have:=(zG.1 hy).1; omega
theorem qou (hl:l.length≤1000000) (ha:AscS l) (s:Str) (hn:l.length<n):∃ out,q9d n l s=some out∧(∀ x,x∈out↔x=s∨x∈l)∧out.length≤l.length+1∧AscS out:=by
 have:=put_L hl ha (s:=s) n 0 (by omega) (by omega) (by simp)
 rw [zV] at this
 exact this
structure qqv (l0 l:List Str) (out:List Str):Prop where
 mem:∀ x,x∈out↔x∈l0∨x∈l
 len:out.length≤l0.length+l.length
 asc:AscS out
theorem qqv.next {l0 out out':List Str} (h:qqv l0 l out) (h1:∀ x,x∈out'↔x=s∨x∈out) (h2:out'.length≤out.length+1) (h3:AscS out'):qqv l0 (l++[s]) out':=by
 refine ⟨fun x=>?_,by have:=h.len; simp; omega,h3⟩
 rw [h1,h.mem]
 simp only [yD,List.mem_singleton]
 constructor
 ·rintro (h | h | h)
  ·exact .inr (.inr h)
  ·exact .inl h
  ·exact .inr (.inl h)
 ·rintro (h | h | h)
  ·exact .inr (.inl h)
  ·exact .inr (.inr h)
  ·exact .inl h
theorem qqv.nil (h:AscS l):qqv l [] l:=⟨fun x=>by simp,by simp,h⟩
theorem names_ok (hd:d.length≤1000) (hn:5000≤n):∃ out,qd6 n d=some out∧qqv [] (d.map q01.Name) out:=by
 have:=qdw (l:=d) (by omega) (F:=fun m z s=>q5o d n m s z) (fun i s=>qqv [] ((d.take i).map q01.Name) s) (Q:=fun out=>qqv [] (d.map q01.Name) out)
  (fun m i x s hx hlt hd' hw hI ih=>by
   have hl:=hI.len
   simp at hl
   obtain ⟨o,h1,h2,h3,h4⟩:=qou (l:=s) (by omega) hI.asc x.Name (show s.length<n by omega)
   simp only [q5o,hd',zC,q07,hx,q02,h1,hw]
   exact ih o (by rw [q0r hx,List.map_append]; exact hI.next h2 h3 h4))
  (fun m s hd' hI=>by
   simp only [q5o,hd',zD,qax]
   rw [zW (zF _)] at hI
   exact ⟨s,rfl,hI⟩) n 0 [] (by omega) (by omega) (qqv.nil List.Pairwise.nil)
 rw [zV] at this
 exact this
theorem z3g (hd:d.length≤12) (hn:5000≤n):∃ e,qd7 n d=some e∧(e=0→∀ x∈d,x.Supers.length≤256∧x.Feats.length≤256):=by
 have:=qdw (l:=d) (by omega) (F:=fun m z (_:Unit)=>q5r d m z) (fun i _=>∀ x∈d.take i,x.Supers.length≤256∧x.Feats.length≤256) (Q:=fun e=>e=0→∀ x∈d,x.Supers.length≤256∧x.Feats.length≤256)
  (fun m i x _ hx hlt hd' hw hI ih=>by
   simp only [q5r,hd',zC,q07,hx,q02,hw]
   by_cases h1:(x.Supers.length:Int) > 256
   ·simp only [h1,yC,zC,q02]; exact ⟨7,rfl,fun h=>by cases h⟩
   ·by_cases h2:(x.Feats.length:Int) > 256
    ·simp only [h1,h2,yC,yB,zC,zD,q02]; exact ⟨7,rfl,fun h=>by cases h⟩
    ·simp only [h1,h2,yB,zD,q02]
     refine ih () fun y hy=>?_
     rw [q0r hx] at hy
     rcases yD.1 hy with hy | hy
     ·exact hI y hy
     ·simp at hy; subst hy; omega)
  (fun m _ hd' hI=>by
   simp only [q5r,hd',zD,qb1]
   rw [zW (zF _)] at hI
   exact ⟨0,rfl,fun _=>hI⟩) n 0 () (by omega) (by omega) (by simp)
 rw [zV] at this
 have h:¬ (d.length:Int) > 256:=by omega
 simp only [qd7,h,yB,zD]
 exact this
theorem z6b (s:Str) (hn:40≤n):∃ r,qea n s=some r∧(r=true→0<s.length∧s.length≤32):=by
 obtain ⟨r,h1,h2⟩:=qvc s false hn
 exact ⟨r,by simp [qea,h1,q02],h2⟩
structure qqu (d:List q01):Prop where
 nod:(d.map q01.Name).Nodup
 len:∀ x∈d,0<x.Name.length∧x.Name.length≤32
theorem qy6 (hd:d.length≤12) (hn:5000≤n):∃ e,qf7 n d=some e∧(e=0→qqu d):=by
 have:=qdw (l:=d) (by omega) (F:=fun m z (_:Unit)=>q5p d n m z) (fun i _=>qqu (d.take i)) (Q:=fun e=>e=0→qqu d)
  (fun m i x _ hx hlt hd' hw hI ih=>by
   obtain ⟨r,h1,h2⟩:=z6b x.Name (show 40≤n by omega)
   simp only [q5p,hd',zC,q07,hx,q02,hw,h1]
   cases r with
   | false=>exact ⟨1,rfl,fun h=>by cases h⟩
   | true =>
    simp only [Bool.not_true,zD]
    rcases qeq (d:=d) (by omega) x.Name (show d.length<n by omega) with ⟨j,y,g1,g2,g3,g4⟩ | ⟨g1,g2⟩
    ·simp only [g4,q02]
     by_cases hj:(j:Int)<(i:Int)
     ·simp only [hj,yC,zC]; exact ⟨4,rfl,fun h=>by cases h⟩
     ·simp only [hj,yB,zD]
      refine ih () ?_
      rw [q0r hx]
      refine ⟨?_,fun z hz=>?_⟩
      ·rw [List.map_append,List.nodup_append]
       refine ⟨hI.nod,by simp,fun a ha b hb e=>?_⟩
       simp at hb
       subst hb
       obtain ⟨z,hz,e2⟩:=List.mem_map.1 ha
       obtain ⟨k,hk,e3⟩:=List.mem_iff_getElem.1 hz
       rw [List.length_take] at hk
       rw [List.getElem_take] at e3
       exact g3 k z (by omega) (by rw [List.getElem?_eq_getElem (by omega),e3]) (e2.trans e)
      ·rcases yD.1 hz with hz | hz
       ·exact hI.len z hz
       ·simp at hz; subst hz; exact h2 rfl
    ·exact absurd rfl (g1 x (zX hx)))
  (fun m _ hd' hI=>by
   simp only [q5p,hd',zD,qaz]
   rw [zW (zF _)] at hI
   exact ⟨0,rfl,fun _=>hI⟩) n 0 () (by omega) (by omega) ⟨by simp,by simp⟩
 rw [zV] at this
 exact this
def Dcl (d:List q01) (s:Str):Prop:=∃ x∈d,x.Name=s
theorem qpd (hd:d.length≤1000000) (h:Dcl d s) (hn:d.length<n):∃ (j:Nat) (x:q01),d[j]? = some x∧x.Name=s∧q68 n d s=some (j:Int):=by
 rcases qeq hd s hn with ⟨j,x,h1,h2,_,h4⟩ | ⟨h1,_⟩
 ·exact ⟨j,x,h1,h2,h4⟩
 ·obtain ⟨x,hx,e⟩:=h
  exact absurd e (h1 x hx)
def SupI (d:List q01) (x:q01):Prop:=(∀ s∈x.Supers,Dcl d s)∧x.Supers.Nodup
theorem z0p (hd:d.length≤12) (hs:∀ x∈d,x.Supers.length≤256) (hn:5000≤n):∃ e,qdq n d=some e∧(e=0→∀ x∈d,SupI d x):=by
 have:=qdw (l:=d) (by omega) (F:=fun m z (_:Unit)=>q2q d n m z) (fun i _=>∀ x∈d.take i,SupI d x) (Q:=fun e=>e=0→∀ x∈d,SupI d x)
  (fun m i x _ hx hlt hd' hw hI ih=>by
   have hxm:=zX hx
   have hxs:=hs x hxm
   simp only [q2q,hd',zC,q07,hx,q02]
   have:=qdw (l:=x.Supers) (by omega) (F:=fun m' z (_:Unit)=>q4x d n i (q2q d n m) x m' z) (fun k _=>(∀ s∈x.Supers.take k,Dcl d s)∧(x.Supers.take k).Nodup) (Q:=fun e=>e=0→∀ x∈d,SupI d x)
    (fun m' k s _ hsx hlt2 hd2 hw2 hI2 ih2=>by
     simp only [q4x,hd2,zC,q07,hsx,q02,hw2]
     rcases qeq (d:=d) (by omega) s (show d.length<n by omega) with ⟨j,y,g1,g2,g3,g4⟩ | ⟨g1,g2⟩
     ·have hj:¬ (j:Int)<0:=by omega
      have hal:=qc6 (l:=x.Supers.take k) (by simp; omega) s (n:=n) (by simp; omega)
      simp only [g4,q02,hj,yB,zD,z1w (show k≤x.Supers.length by omega),hal]
      by_cases hm:s∈x.Supers.take k
      ·simp only [hm,yC,zC]; exact ⟨4,rfl,fun h=>by cases h⟩
      ·simp only [hm,yB,zD]
       refine ih2 () ?_
       rw [q0r hsx]
       refine ⟨fun t ht=>?_,?_⟩
       ·rcases yD.1 ht with ht | ht
        ·exact hI2.1 t ht
        ·simp at ht; subst ht; exact ⟨y,zX g1,g2⟩
       ·rw [List.nodup_append]
        exact ⟨hI2.2,by simp,fun a ha b hb e=>by simp at hb; subst hb; subst e; exact hm ha⟩
     ·simp only [g2,q02]
      exact ⟨5,rfl,fun h=>by cases h⟩)
    (fun m' _ hd2 hI2=>by
     simp only [q4x,hd2,zD,q9h,hw]
     rw [zW (zF _)] at hI2
     refine ih () fun y hy=>?_
     rw [q0r hx] at hy
     rcases yD.1 hy with hy | hy
     ·exact hI y hy
     ·simp at hy; subst hy; exact hI2) n 0 () (by omega) (by omega) ⟨by simp,by simp⟩
   rw [zV] at this
   exact this)
  (fun m _ hd' hI=>by
   simp only [q2q,hd',zD,q9g]
   rw [zW (zF _)] at hI
   exact ⟨0,rfl,fun _=>hI⟩) n 0 () (by omega) (by omega) (by simp)
 rw [zV] at this
 exact this
theorem z3d {x:q01} (hs:x.Supers.length≤256) (hl:l.length≤1000) (hn:5000≤n):qf8 n x l=some (decide (∀ s∈x.Supers,s∈l)):=by
 have:=qdw (l:=x.Supers) (by omega) (F:=fun m z (_:Unit)=>q5q x l n m z) (fun i _=>∀ s∈x.Supers.take i,s∈l) (Q:=fun b=>b=decide (∀ s∈x.Supers,s∈l))
  (fun m i s _ hx hlt hd' hw hI ih=>by
   simp only [q5q,hd',zC,q07,hx,q02,hw,qc6 (l:=l) (by omega) s (n:=n) (by omega)]
   by_cases hm:s∈l
   ·simp only [hm,yC,Bool.not_true,zD]
    refine ih () fun t ht=>?_
    rw [q0r hx] at ht
    rcases yD.1 ht with ht | ht
    ·exact hI t ht
    ·simp at ht; subst ht; exact hm
   ·simp only [hm,yB,Bool.not_false,zC]
    exact ⟨false,rfl,(decide_eq_false fun h=>hm (h s (zX hx))).symm⟩)
  (fun m _ hd' hI=>by
   simp only [q5q,hd',zD,qb0]
   rw [zW (zF _)] at hI
   exact ⟨true,rfl,(decide_eq_true hI).symm⟩) n 0 () (by omega) (by omega) (by simp)
 rw [zV] at this
 obtain ⟨r,h1,h2⟩:=this
 rw [← h2]
 exact h1
inductive Ord (d:List q01):List Str→Prop
 | nil:Ord d []
 | snoc {l:List Str} {x:q01}:Ord d l→x∈d→x.Name ∉ l→(∀ s∈x.Supers,s∈l)→Ord d (l++[x.Name])
theorem Ord.nodup (h:Ord d l):l.Nodup∧∀ s∈l,Dcl d s:=by
 induction h with
 | nil=>simp
 | @snoc l x h1 h2 h3 h4 ih =>
  refine ⟨?_,fun s hs=>?_⟩
  ·rw [List.nodup_append]
   exact ⟨ih.1,by simp,fun a ha b hb e=>by simp at hb; subst hb; subst e; exact h3 ha⟩
  ·rcases yD.1 hs with hs | hs
   ·exact ih.2 s hs
   ·simp at hs; subst hs; exact ⟨x,h2,rfl⟩
theorem qj1:∀ {a b:List Str},a.Nodup→(∀ x∈a,x∈b)→a.length≤b.length
 | [],b,_,_=>by simp
 | x::a,b,hn,hs=>by
  obtain ⟨h1,h2⟩:=List.nodup_cons.1 hn
  have h3:=qj1 (b:=b.erase x) h2 fun y hy=>by
   have:y≠x:=fun e=>h1 (e ▸ hy)
   exact (List.mem_erase_of_ne this).2 (hs y (List.mem_cons_of_mem x hy))
  have h4:=List.length_erase_of_mem (hs x (by simp))
  have h5:=List.length_pos_of_mem (hs x (by simp))
  simp only [zO]
  omega
theorem Ord.len (h:Ord d l):l.length≤d.length:=by
 have:=qj1 (b:=d.map q01.Name) h.nodup.1 fun s hs=>by
  obtain ⟨x,hx,rfl⟩:=h.nodup.2 s hs
  exact List.mem_map_of_mem hx
 rwa [yA] at this
theorem qzu (hd:d.length≤12) (hs:∀ x∈d,x.Supers.length≤256) (hn:5000≤n):∃ l,qdp n d=some l∧Ord d l:=by
 have key:∀ (m:Nat) (b:Bool) (l:List Str),d.length - l.length+2≤m+(cond b 0 1)→Ord d l→∃ r,q26 d n m b l=some r∧Ord d r:=by
  intro m
  induction m with
  | zero=>intro b l hm; cases b<;>simp at hm<;>omega
  | succ m ih =>
   intro b l hm hl
   have hll:=hl.len
   unfold q26
   cases b with
   | false=>simp only [zD,q9e]; exact ⟨l,rfl,hl⟩
   | true =>
    simp only [zC] at hm ⊢
    have:=qdw (l:=d) (by omega) (F:=fun m' z (s:Bool×Str)=>q2p d n l (q26 d n m) m' s.1 s.2 z) (fun i s=>s.1=true→∃ x∈d,x.Name=s.2∧x.Name ∉ l∧∀ t∈x.Supers,t∈l) (Q:=fun r=>Ord d r)
     (fun m' i x s hx hlt hd' hw hI ih2=>by
      have hxm:=zX hx
      simp only [q2p,hd',zC,q07,hx,q02,hw,qc6 (l:=l) (by omega) x.Name (n:=n) (by omega),z3d (hs x hxm) (show l.length≤1000 by omega) hn]
      by_cases h1:x.Name∈l
      ·simp only [h1,yC,zC,q02]
       exact ih2 (s.1,s.2) hI
      ·by_cases h2:∀ t∈x.Supers,t∈l
       ·have e1:decide (∀ t∈x.Supers,t∈l)=true:=decide_eq_true h2
        simp only [h1,e1,yB,zD,Bool.not_true,q02,q7e,hw]
        have hnew:∃ y∈d,y.Name=x.Name∧y.Name ∉ l∧∀ t∈y.Supers,t∈l:=⟨x,hxm,rfl,h1,h2⟩
        cases hb:s.1 with
        | false =>
         simp only [Bool.not_false,zC,q02]
         exact ih2 (true,x.Name) fun _=>hnew
        | true =>
         simp only [Bool.not_true,zD,q02]
         cases q1v x.Name s.2 with
         | true=>simp only [zC]; exact ih2 (true,x.Name) fun _=>hnew
         | false=>simp only [zD]; exact ih2 (true,s.2) fun _=>hI hb
       ·have e1:decide (∀ t∈x.Supers,t∈l)=false:=decide_eq_false h2
        simp only [h1,e1,yB,zD,Bool.not_false,q02,zC]
        exact ih2 (s.1,s.2) hI)
     (fun m' s hd' hI=>by
      simp only [q2p,hd',zD,q9f,q7d]
      cases hb:s.1 with
      | false=>simp only [zD]; exact ih false l (by simp; omega) hl
      | true =>
       obtain ⟨x,hx,e,h1,h2⟩:=hI hb
       have hl2:Ord d (l++[s.2]):=by rw [← e]; exact .snoc hl hx h1 h2
       have:=hl2.len
       simp only [zU,zO,zS] at this
       simp only [zC]
       rw [ned (by omega)]
       exact ih true (l++[s.2]) (by simp; omega) hl2) n 0 (false,[]) (by omega) (by omega) (fun h=>by cases h)
    rw [zV] at this
    exact this
 exact key n true [] (by simp; omega) .nil
structure DOK (d:List q01):Prop where
 len:d.length≤12
 siz:∀ x∈d,x.Supers.length≤256∧x.Feats.length≤256
 nam:qqu d
 sup:∀ x∈d,SupI d x
 ord:∃ l,Ord d l∧l.length=d.length
 one:(d.filter fun x=>decide (x.Supers=[])).length=1
theorem qy0 (hd:d.length≤12) (hn:5000≤n):∃ e,qd5 n d=some e∧(e=0→DOK d):=by
 obtain ⟨e1,a1,a2⟩:=z3g hd hn
 simp only [qd5,a1,q02]
 by_cases h1:e1=0
 ·subst h1
  have a3:=a2 rfl
  obtain ⟨e2,b1,b2⟩:=qy6 hd hn
  simp only [bne_self_eq_false,zD,b1,q02]
  by_cases h2:e2=0
  ·subst h2
   obtain ⟨e3,c1,c2⟩:=z0p hd (fun x hx=>(a3 x hx).1) hn
   simp only [bne_self_eq_false,zD,c1,q02]
   by_cases h3:e3=0
   ·subst h3
    simp only [bne_self_eq_false,zD]
    have:=qdw (l:=d) (by omega) (F:=fun m z (s:Int)=>q3q d n m s z) (fun i s=>s=(((d.take i).filter fun x=>decide (x.Supers=[])).length:Int)) (Q:=fun e=>e=0→DOK d)
     (fun m i x s hx hlt hd' hw hI ih=>by
      have hfl:=List.length_filter_le (fun x:q01=>decide (x.Supers=[])) (d.take i)
      rw [List.length_take] at hfl
      simp only [q3q,hd',zC,q07,hx,q02,q8a,hw]
      by_cases hz:x.Supers=[]
      ·have e0:((x.Supers.length:Int) == 0)=true:=by simp [hz]
       have e1:IntKind.i64.wrap (s+1)=s+1:=wr (by omega) (by omega)
       simp only [e0,zC,e1]
       refine ih (s+1) ?_
       rw [q0r hx,List.filter_append,zU,hI]
       simp [hz]
      ·have e0:((x.Supers.length:Int) == 0)=false:=by simp [List.length_eq_zero_iff,hz]
       simp only [e0,zD]
       refine ih s ?_
       rw [q0r hx,List.filter_append,zU,hI]
       simp [hz])
     (fun m s hd' hI=>by
      rw [zW (zF _)] at hI
      simp only [q3q,hd',zD,qaw]
      by_cases h4:s=1
      ·obtain ⟨l,g1,g2⟩:=qzu hd (fun x hx=>(a3 x hx).1) hn
       have hl:=g2.len
       simp only [h4,bne_self_eq_false,zD,g1,q02]
       by_cases h5:(l.length:Int)<(d.length:Int)
       ·simp only [h5,yC,zC]; exact ⟨6,rfl,fun h=>by cases h⟩
       ·simp only [h5,yB,zD]
        exact ⟨0,rfl,fun _=>⟨hd,a3,b2 rfl,c2 rfl,⟨l,g2,by omega⟩,by omega⟩⟩
      ·have e4:(s != 1)=true:=by simpa using h4
       simp only [e4,zC]; exact ⟨1,rfl,fun h=>by cases h⟩) n 0 0 (by omega) (by omega) (by simp)
    rw [zV] at this
    exact this
   ·have e4:(e3 != 0)=true:=by simpa using h3
    simp only [e4,zC]; exact ⟨e3,rfl,fun h=>absurd h h3⟩
  ·have e4:(e2 != 0)=true:=by simpa using h2
   simp only [e4,zC]; exact ⟨e2,rfl,fun h=>absurd h h2⟩
 ·have e4:(e1 != 0)=true:=by simpa using h1
  simp only [e4,zC]; exact ⟨e1,rfl,fun h=>absurd h h1⟩
variable {a:Nat}
theorem wu (h:a<18446744073709551616):IntKind.u64.wrap (a:Int)=(a:Int):=by
 simp only [IntKind.wrap,IntKind.bits,IntKind.signed]
 simp
 omega
variable {b:Nat}
theorem andN (ha:a<18446744073709551616) (hb:b<18446744073709551616):qxk .u64 (a:Int) (b:Int)=((a &&& b:Nat):Int):=by
 have h:(BitVec.ofInt 64 (a:Int) &&& BitVec.ofInt 64 (b:Int)).toNat=a &&& b:=by
  simp only [BitVec.ofInt_natCast,BitVec.toNat_and,BitVec.toNat_ofNat]
  rw [Nat.mod_eq_of_lt ha,Nat.mod_eq_of_lt hb]
 show IntKind.u64.wrap (((BitVec.ofInt 64 (a:Int) &&& BitVec.ofInt 64 (b:Int)).toNat:Nat):Int)=_
 rw [h]
 exact wu (Nat.lt_of_le_of_lt Nat.and_le_left ha)
theorem orN (ha:a<18446744073709551616) (hb:b<18446744073709551616):orI .u64 (a:Int) (b:Int)=((a ||| b:Nat):Int):=by
 have h:(BitVec.ofInt 64 (a:Int) ||| BitVec.ofInt 64 (b:Int)).toNat=a ||| b:=by
  simp only [BitVec.ofInt_natCast,BitVec.toNat_or,BitVec.toNat_ofNat]
  rw [Nat.mod_eq_of_lt ha,Nat.mod_eq_of_lt hb]
 show IntKind.u64.wrap (((BitVec.ofInt 64 (a:Int) ||| BitVec.ofInt 64 (b:Int)).toNat:Nat):Int)=_
 rw [h]
 exact wu (Nat.or_lt_two_pow (n:=64) ha hb)
theorem notN (ha:a<18446744073709551616) (hb:b<18446744073709551616):∃ c:Nat,qfr .u64 (a:Int) (b:Int)=(c:Int)∧(c=0↔a &&& b=a):=by
 refine ⟨(BitVec.ofInt 64 (a:Int) &&& ~~~ BitVec.ofInt 64 (b:Int)).toNat,?_,?_⟩
 ·exact wu (BitVec.isLt _)
 ·have h1:(BitVec.ofInt 64 (a:Int) &&& BitVec.ofInt 64 (b:Int)).toNat=a &&& b:=by
   simp only [BitVec.ofInt_natCast,BitVec.toNat_and,BitVec.toNat_ofNat]
   rw [Nat.mod_eq_of_lt ha,Nat.mod_eq_of_lt hb]
  have h2:(BitVec.ofInt 64 (a:Int)).toNat=a:=by
   simp only [BitVec.ofInt_natCast,BitVec.toNat_ofNat]
   exact Nat.mod_eq_of_lt ha
  generalize BitVec.ofInt 64 (a:Int)=x at *
  generalize BitVec.ofInt 64 (b:Int)=y at *
  rw [← h1]
  constructor
  ·intro h
   have h3:x &&& ~~~ y=0#64:=BitVec.eq_of_toNat_eq (by simpa using h)
   have:x &&& y=x:=by
    ext i hi
    have:=congrArg (fun z=>z.getLsbD i) h3
    simp [hi] at this ⊢
    intro hx
    exact this hx
   rw [this,h2]
  ·intro h
   have h3:x &&& y=x:=BitVec.eq_of_toNat_eq (by rw [h,h2])
   have:x &&& ~~~ y=0#64:=by
    ext i hi
    have:=congrArg (fun z=>z.getLsbD i) h3
    simp [hi] at this ⊢
    intro hx
    exact this hx
   rw [this]
   rfl
def bt (w:Nat):List Int:=if w=0 then [] else [(w:Int)]
theorem z5k:bt 0=[]:=rfl
variable {w:Nat}
theorem qnt (h:w≠0):bt w=[(w:Int)]:=if_neg h
theorem z5l:((bt w).length:Int)=0↔w=0:=by
 by_cases h:w=0
 ·simp [h,bt]
 ·simp [h,bt]
theorem qzf {w:Nat} {k:Nat} (hk:k≤1000):∀ (j m:Nat),j≤k→j+2≤m→q3u ((w:Int)::List.replicate k 0) m ((j+1:Nat):Int)=some (bt w)
 | 0,0,_,h=>by omega
 | 0,1,_,h=>by omega
 | 0,m+2,_,_=>by
  have e0:IntKind.i64.wrap (((0+1:Nat):Int) - 1)=0:=wr (z:=0) (by omega) (by omega)
  have e1:idxO ((w:Int)::List.replicate k 0) 0=some (w:Int):=by simp [idxO]
  have e2:decide (((0+1:Nat):Int) > 0)=true:=by simp
  have c0:=z1w (l:=(w:Int)::List.replicate k 0) (b:=0) (by simp)
  have c1:=z1w (l:=(w:Int)::List.replicate k 0) (b:=1) (by simp)
  rw [zV,List.take_zero] at c0
  rw [q3u,e2,e0,zC,e1,q02,q02]
  by_cases hw:w=0
  ·have:((w:Int) == 0)=true:=by simp [hw]
   rw [this,zC,q3u]
   simp only [Int.lt_irrefl,yB,zD,q02,q7b,c0,show ((0:Int) > 0)=False by simp]
   rw [ned (by simp),hw,z5k]
  ·have:((w:Int) == 0)=false:=by simp [hw]
   rw [this,zD,q7b,show ((0+1:Nat):Int)=((1:Nat):Int) by simp,c1,q02,ned (by simp),qnt hw]
   rfl
 | j+1,m,hj,hm=>by
  obtain ⟨m,rfl⟩:∃ q,m=q+1:=⟨m - 1,by omega⟩
  have e0:IntKind.i64.wrap (((j+1+1:Nat):Int) - 1)=((j+1:Nat):Int):=wrn (by omega) (by omega)
  have e1:idxO ((w:Int)::List.replicate k 0) ((j+1:Nat):Int)=some 0:=by
   rw [q07,zH,List.getElem?_replicate,if_pos (by omega)]
  have e2:decide (((j+1+1:Nat):Int) > 0)=true:=by simp; omega
  rw [q3u,e2,e0,zC,e1,q02,q02]
  exact qzf hk j m (by omega) (by omega)
variable {n:Nat}
theorem qzh (hn:5≤n):q4p n [(w:Int)]=some (bt w):=qzf (k:=0) (by omega) 0 n (by omega) (by omega)
theorem qzg (hn:5≤n):q4p n []=some []:=by
 obtain ⟨k,rfl⟩:=Nat.exists_eq_add_of_le' hn
 rfl
theorem z6c (hn:5≤n):q4p n (bt w)=some (bt w):=by
 by_cases h:w=0
 ·subst h; exact qzg hn
 ·rw [qnt h,qzh hn,qnt h]
theorem z0v (b n:Nat):qaf n (bt b) 0=some (b:Int):=by
 by_cases h:b=0
 ·subst h; rfl
 ·rw [qnt h]; rfl
theorem z3w (ha:a<4096) (hb:b<4096) (hn:5≤n):qd1 n (bt a) (bt b)=some (bt (a &&& b)):=by
 obtain ⟨k,rfl⟩:=Nat.exists_eq_add_of_le' hn
 by_cases h:a=0
 ·subst h
  rw [Nat.zero_and]
  have:=qzg (n:=k+5) hn
  simp only [qd1,z5k,qbi,zS,q8z,this,q02]
  rfl
 ·have h1:=andN (a:=a) (b:=b) (by omega) (by omega)
  have h2:=qzh (w:=a &&& b) (n:=k+5) hn
  have e:qd1 (k+5) [(a:Int)] (bt b)=bindO (qaf (k+5) (bt b) 0) fun r18=>needO ((0+1)*8≤140737488355328∧0+1≤140737488355328) (q8z (k+5) [qxk .u64 (a:Int) r18]):=rfl
  rw [qnt h,e,z0v,q02,ned (by omega),q8z,h1,h2]
  rfl
theorem z2v (ha:a<4096) (hb:b<4096) (hn:5≤n):∃ c:Nat,qae n (bt a) (bt b)=some (bt c)∧(c=0↔a &&& b=a):=by
 obtain ⟨k,rfl⟩:=Nat.exists_eq_add_of_le' hn
 by_cases h:a=0
 ·subst h
  have:=qzg (n:=k+5) hn
  refine ⟨0,?_,by simp⟩
  simp only [qae,z5k,q87,zS,q6t,this,q02]
  rfl
 ·obtain ⟨c,h1,h3⟩:=notN (a:=a) (b:=b) (by omega) (by omega)
  have h2:=qzh (w:=c) (n:=k+5) hn
  have e:qae (k+5) [(a:Int)] (bt b)=bindO (qaf (k+5) (bt b) 0) fun r18=>needO ((0+1)*8≤140737488355328∧0+1≤140737488355328) (q6t (k+5) [qfr .u64 (a:Int) r18]):=rfl
  refine ⟨c,?_,h3⟩
  rw [qnt h,e,z0v,q02,ned (by omega),q6t,h1,h2]
  rfl
theorem qnk (ha:a<4096) (hb:b<4096) (hn:5≤n):q7c n (bt a) (bt b)=some (decide (a &&& b=a)):=by
 obtain ⟨c,h1,h2⟩:=z2v ha hb hn
 rw [q7c,h1,q02]
 congr 1
 rw [Bool.eq_iff_iff,beq_iff_eq,z5l,h2,decide_eq_true_eq]
theorem qlp (ha:a<4096) (hb:b<4096) (hn:5≤n):qd2 n (bt a) (bt b)=some (decide (a=b)):=by
 simp only [qd2,qnk ha hb hn,qnk hb ha hn,q02]
 by_cases h:a &&& b=a
 ·by_cases h':b &&& a=b
  ·have:a=b:=by rw [← h,Nat.and_comm,h']
   simp [h,h',this,q02]
  ·have:a≠b:=fun e=>h' (by rw [← e,Nat.and_self])
   simp [h,h',this,q02]
 ·have:a≠b:=fun e=>h (by rw [← e,Nat.and_self])
  simp [h,this,q02]
theorem z4g {i:Nat} (hw:w<4096) (hi:i<64):qec n (bt w) (i:Int)=some (w.testBit i):=by
 have e0:decide ((i:Int)<0)=false:=by simp
 have e1:(i:Int).tdiv 64=0:=by rw [Int.tdiv_eq_ediv_of_nonneg (by omega)]; omega
 have e2:IntKind.i64.wrap 0=0:=wr (by omega) (by omega)
 simp only [qec,e0,zD,q02,e1,e2]
 by_cases h:w=0
 ·subst h; simp [z5k]
 ·have e3:decide ((0:Int) ≥ ((bt w).length:Int))=false:=by rw [qnt h]; simp
  have e4:idxO (bt w) 0=some (w:Int):=by rw [qnt h]; rfl
  have e5:(i:Int).tmod 64=(i:Int):=by rw [Int.tmod_eq_emod_of_nonneg (by omega)]; omega
  have e6:IntKind.u64.wrap (i:Int)=(i:Int):=wu (by omega)
  have e7:min ((i:Int).toNat) IntKind.u64.bits=i:=by rw [zZ]; exact Nat.min_eq_left (by show i≤64; omega)
  have e8:(w:Int).fdiv (2 ^ i)=((w / 2 ^ i:Nat):Int):=by
   rw [show (2:Int) ^ i=((2 ^ i:Nat):Int) by simp,Int.fdiv_eq_ediv_of_nonneg _ (Int.natCast_nonneg _)]
   rfl
  have hlt:w / 2 ^ i<18446744073709551616:=Nat.lt_of_le_of_lt (Nat.div_le_self _ _) (by omega)
  have e9:=andN (a:=w / 2 ^ i) (b:=1) hlt (by omega)
  rw [show ((1:Nat):Int)=1 from rfl] at e9
  simp only [e3,zD,e4,q02,e5,e6]
  rw [ned (by omega),e7,e8,e9]
  congr 1
  rw [Bool.eq_iff_iff,beq_iff_eq,Nat.testBit_eq_decide_div_mod_eq,decide_eq_true_eq,Nat.and_one_is_mod]
  omega
def bl (w:Nat):List Int:=((List.range 64).filter fun i=>w.testBit i).map fun (i:Nat)=>(i:Int)
theorem z65 (hw:w<4096) (hn:100≤n):qgu n (bt w)=some (bl w):=by
 by_cases h:w=0
 ·subst h
  obtain ⟨k,rfl⟩:=Nat.exists_eq_add_of_le' hn
  have e:bl 0=[]:=by simp [bl]
  rw [e]
  rfl
 ·have h64:IntKind.i64.wrap (64*((bt w).length:Int))=((List.range 64).length:Int):=by
   rw [qnt h,List.length_range]
   exact wr (by simp) (by simp)
  have:=qdw (l:=List.range 64) (by simp) (F:=fun m z s=>q4f (bt w) n m z s) (fun i s=>s=(((List.range 64).take i).filter fun i=>w.testBit i).map fun (i:Nat)=>(i:Int)) (Q:=fun r=>r=bl w)
   (fun m i x s hx hlt hd' hw' hI ih=>by
    have hxi:x=i:=by
     rw [List.getElem?_range (by simpa using hlt)] at hx
     exact (Option.some.inj hx).symm
    subst hxi
    have hlen:s.length≤64:=by
     rw [hI,yA]
     refine Nat.le_trans (List.length_filter_le _ _) ?_
     rw [List.length_take,List.length_range]; omega
    rw [List.length_range] at hlt
    simp only [q4f,h64,hd',zC,z4g hw hlt,q02,q9c,hw']
    cases hb:w.testBit x with
    | true =>
     simp only [zC]
     rw [ned (by omega)]
     refine ih _ ?_
     rw [q0r hx,List.filter_append,List.map_append,hI]
     simp [hb]
    | false =>
     simp only [zD]
     refine ih _ ?_
     rw [q0r hx,List.filter_append,List.map_append,hI]
     simp [hb])
   (fun m s hd' hI=>by
    simp only [q4f,h64,hd',zD,qce]
    rw [zW (zF _)] at hI
    exact ⟨s,rfl,hI⟩) n 0 [] (by simp; omega) (by omega) (by simp)
  obtain ⟨r,h1,h2⟩:=this
  rw [← h2]
  rw [zV] at h1
  exact h1
theorem qul (hw:w<4096) (hn:100≤n):qad n (bt w)=some ((bl w).length:Int):=by rw [qad,z65 hw hn]; rfl
theorem qvw (hn:5≤n):q90 n (bt a) (bt b)=some (decide (a=b)):=by
 obtain ⟨k,rfl⟩:=Nat.exists_eq_add_of_le' hn
 by_cases ha:a=0
 ·subst ha
  by_cases hb:b=0
  ·subst hb; rfl
  ·rw [qnt hb]; simp [z5k,q90,Ne.symm hb]
 ·by_cases hb:b=0
  ·subst hb; rw [qnt ha]; simp [z5k,q90,ha]
  ·have e:q90 (k+5) [(a:Int)] [(b:Int)]=cond ((a:Int) != (b:Int)) (some false) (some true):=rfl
   rw [qnt ha,qnt hb,e]
   by_cases h:a=b
   ·subst h; simp
   ·have:((a:Int) != (b:Int))=true:=by simp; omega
    simp [this,h]
theorem in_ok {ws:List Nat} (hl:ws.length≤1000) (hn:5000≤n):qlw n (ws.map bt) (bt b)=some (decide (b∈ws)):=by
 have:=qdw (l:=ws) (by omega) (F:=fun m z (_:Unit)=>q8v (ws.map bt) (bt b) n m z) (fun i _=>b ∉ ws.take i) (Q:=fun r=>r=decide (b∈ws))
  (fun m i x _ hx hlt hd' hw hI ih=>by
   have hx2:(ws.map bt)[i]? = some (bt x):=by rw [List.getElem?_map,hx]; rfl
   simp only [q8v,yA,hd',zC,q07,hx2,q02,qvw (a:=x) (b:=b) (n:=n) (by omega),hw]
   by_cases e:x=b
   ·simp only [e,yC,zC]
    exact ⟨true,rfl,(decide_eq_true (e ▸ zX hx)).symm⟩
   ·simp only [e,yB,zD]
    refine ih () ?_
    rw [q0r hx]
    simp [hI,Ne.symm e])
  (fun m _ hd' hI=>by
   simp only [q8v,yA,hd',zD,qf9]
   rw [zW (zF _)] at hI
   exact ⟨false,rfl,(decide_eq_false hI).symm⟩) n 0 () (by omega) (by omega) (by simp)
 obtain ⟨r,h1,h2⟩:=this
 rw [← h2]
 rw [zV] at h1
 exact h1
def mk12 (l:List Nat):Nat:=l.foldl (fun w i=>w ||| 2 ^ i) 0
theorem z68:∀ (l:List Nat) (w:Nat),(∀ i∈l,i<12)→w<4096→l.foldl (fun w i=>w ||| 2 ^ i) w<4096
 | [],w,_,h=>h
 | i::l,w,hl,h=>z68 l _ (fun j hj=>hl j (by simp [hj])) (Nat.or_lt_two_pow (n:=12) h (Nat.pow_lt_pow_right (by omega) (hl i (by simp))))
theorem z4r (j:Nat):∀ (l:List Nat) (w:Nat),(l.foldl (fun w i=>w ||| 2 ^ i) w).testBit j=(w.testBit j || decide (j∈l))
 | [],w=>by simp
 | i::l,w=>by
  rw [List.foldl_cons,z4r j l,Nat.testBit_or,Nat.testBit_two_pow]
  by_cases e:i=j
  ·subst e; simp
  ·have:¬ j=i:=fun h=>e h.symm
   simp [e,this,Bool.or_assoc]
theorem of_ok {l:List Nat} (hl:l.length≤12) (h12:∀ i∈l,i<12) (hn:5000≤n):qjc n (l.map fun (i:Nat)=>(i:Int))=some (bt (mk12 l),0):=by
 have hrep:List.replicate (64:Int).toNat (0:Int)=((0:Nat):Int)::List.replicate 63 0:=rfl
 have:=qdw (l:=l) (by omega) (F:=fun m z s=>q8u (l.map fun (i:Nat)=>(i:Int)) n m z s) (fun i s=>s=(((l.take i).foldl (fun w i=>w ||| 2 ^ i) 0:Nat):Int)::List.replicate 63 0) (Q:=fun r=>r=(bt (mk12 l),0))
  (fun m i x s hx hlt hd' hw hI ih=>by
   have hx12:=h12 x (zX hx)
   have hx2:(l.map fun (i:Nat)=>(i:Int))[i]? = some (x:Int):=by rw [List.getElem?_map,hx]; rfl
   have e1:decide ((x:Int)<0)=false:=by simp
   have e2:decide ((x:Int) > 4095)=false:=by simp; omega
   have e3:IntKind.i64.wrap ((x:Int).tdiv 64)=0:=by rw [Int.tdiv_eq_ediv_of_nonneg (by omega),show (x:Int) / 64=0 by omega]; exact wr (by omega) (by omega)
   have e4:(x:Int).tmod 64=(x:Int):=by rw [Int.tmod_eq_emod_of_nonneg (by omega)]; omega
   have e5:IntKind.u64.wrap (x:Int)=(x:Int):=wu (by omega)
   have e6:min ((x:Int).toNat) IntKind.u64.bits=x:=by rw [zZ]; exact Nat.min_eq_left (by show x≤64; omega)
   have hw0:(l.take i).foldl (fun w i=>w ||| 2 ^ i) 0<4096:=z68 _ 0 (fun j hj=>h12 j (List.mem_of_mem_take hj)) (by omega)
   have hp:2 ^ x<4096:=Nat.pow_lt_pow_right (n:=12) (by omega) hx12
   have e7:IntKind.u64.wrap (1*(2 ^ x:Int))=((2 ^ x:Nat):Int):=by
    rw [Int.one_mul,show (2:Int) ^ x=((2 ^ x:Nat):Int) by simp]
    exact wu (by omega)
   have e8:qnw s 0 ((64:Int).toNat) 0=some (((l.take i).foldl (fun w i=>w ||| 2 ^ i) 0:Nat):Int):=by rw [hI]; rfl
   have e9:=orN (a:=(l.take i).foldl (fun w i=>w ||| 2 ^ i) 0) (b:=2 ^ x) (by omega) (by omega)
   simp only [q8u,yA,hd',zC,q07,hx2,q02,e1,e2,zD,e3,e4,e5,e6,e7,e8,e9,hw]
   rw [ned (by omega)]
   refine ih _ ?_
   rw [q0r hx,List.foldl_append,hI]
   rfl)
  (fun m s hd' hI=>by
   simp only [q8u,yA,hd',zD,qf5]
   rw [zW (zF _)] at hI
   have h1:q4p n s=some (bt (mk12 l)):=by rw [hI]; exact qzf (k:=63) (by omega) 63 n (by omega) (by omega)
   rw [ned (by rw [hI]; rfl),h1]
   exact ⟨_,rfl,rfl⟩) n 0 _ (by omega) (by omega) rfl
 obtain ⟨r,h1,h2⟩:=this
 rw [zV] at h1
 rw [qjc,ned (by decide),hrep,← h2]
 exact h1
inductive Upw (d:List q01) (s:Str):Str→Prop
 | refl:Upw d s s
 | step {t u:Str} {x:q01}:Upw d s t→x∈d→x.Name=t→u∈x.Supers→Upw d s u
variable {d:List q01}
variable {s:Str}
theorem Upw.trans {t u:Str} (h:Upw d s t) (h':Upw d t u):Upw d s u:=by
 induction h' with
 | refl=>exact h
 | step _ h2 h3 h4 ih=>exact .step ih h2 h3 h4
structure WL (d:List q01) (P:Str→Prop) (l:List Str):Prop where
 nod:l.Nodup
 mem:∀ s∈l,Dcl d s∧P s
variable {l:List Str}
theorem WL.len {P:Str→Prop} (h:WL d P l):l.length≤d.length:=by
 have:=qj1 (b:=d.map q01.Name) h.nod fun s hs=>by
  obtain ⟨x,hx,rfl⟩:=(h.mem s hs).1
  exact List.mem_map_of_mem hx
 rwa [yA] at this
theorem WL.snoc {d:List q01} {P:Str→Prop} {l:List Str} (h:WL d P l) {s:Str} (hn:s ∉ l) (hs:Dcl d s∧P s):WL d P (l++[s]):=by
 refine ⟨?_,fun t ht=>?_⟩
 ·rw [List.nodup_append]
  exact ⟨h.nod,by simp,fun a ha b hb e=>by simp at hb; subst hb; subst e; exact hn ha⟩
 ·rcases yD.1 ht with ht | ht
  ·exact h.mem t ht
  ·simp at ht; subst ht; exact hs
variable {n:Nat}
theorem qzy (hl:l.length≤1000) (hn:5000≤n):(∃ out,q4r n l n [] 0=some out∧qqv [] l out)∧∃ out,q4q n l n [] 0=some out∧qqv [] l out:=by
 constructor
 ·have:=qdw (l:=l) (by omega) (F:=fun m z s=>q4r n l m s z) (fun i s=>qqv [] (l.take i) s) (Q:=fun out=>qqv [] l out)
   (fun m i x s hx hlt hd' hw hI ih=>by
    have hl:=hI.len
    simp at hl
    obtain ⟨o,h1,h2,h3,h4⟩:=qou (l:=s) (by omega) hI.asc x (show s.length<n by omega)
    simp only [q4r,hd',zC,q07,hx,q02,h1,hw]
    exact ih o (by rw [q0r hx]; exact hI.next h2 h3 h4))
   (fun m s hd' hI=>by
    simp only [q4r,hd',zD,qau]
    rw [zW (zF _)] at hI
    exact ⟨s,rfl,hI⟩) n 0 [] (by omega) (by omega) (qqv.nil List.Pairwise.nil)
  rw [zV] at this
  exact this
 ·have:=qdw (l:=l) (by omega) (F:=fun m z s=>q4q n l m s z) (fun i s=>qqv [] (l.take i) s) (Q:=fun out=>qqv [] l out)
   (fun m i x s hx hlt hd' hw hI ih=>by
    have hl:=hI.len
    simp at hl
    obtain ⟨o,h1,h2,h3,h4⟩:=qou (l:=s) (by omega) hI.asc x (show s.length<n by omega)
    simp only [q4q,hd',zC,q07,hx,q02,h1,hw]
    exact ih o (by rw [q0r hx]; exact hI.next h2 h3 h4))
   (fun m s hd' hI=>by
    simp only [q4q,hd',zD,qaq]
    rw [zW (zF _)] at hI
    exact ⟨s,rfl,hI⟩) n 0 [] (by omega) (by omega) (qqv.nil List.Pairwise.nil)
  rw [zV] at this
  exact this
theorem z1j (h:DOK d) (hs:Dcl d s) (hn:5000≤n):∃ l,qd4 n d s=some l∧AscS l∧l.length≤12∧∀ x,x∈l↔Dcl d x∧Upw d x s:=by
 have hd:=h.len
 have key:∀ (m i:Nat) (l:List Str),d.length+1 - i≤m→i≤l.length→WL d (fun x=>Upw d x s) l→s∈l→(∀ y∈l.take i,∀ x∈d,y∈x.Supers→x.Name∈l) →
   ∃ r,q35 d n m i l=some r∧AscS r∧r.length≤12∧∀ x,x∈r↔Dcl d x∧Upw d x s:=by
  intro m
  induction m with
  | zero=>intro i l hm hi hw; have:=hw.len; omega
  | succ m ih =>
   intro i l hm hi hw hsl hcl
   have hll:=hw.len
   unfold q35
   by_cases hlt:i<l.length
   ·obtain ⟨y,hy,hym⟩:=q1j hlt
    simp only [dlt hlt,zC]
    have:=qdw (l:=d) (by omega) (F:=fun m' z (l':List Str)=>q3p d n i (q35 d n m) m' z l') (fun k l'=>WL d (fun x=>Upw d x s) l'∧(∃ t,l'=l++t)∧∀ x∈d.take k,y∈x.Supers→x.Name∈l') (Q:=fun r=>AscS r∧r.length≤12∧∀ x,x∈r↔Dcl d x∧Upw d x s)
     (fun m' k x l' hx hlt2 hd' hw' hI ih2=>by
      obtain ⟨hI1,⟨t,hI2⟩,hI3⟩:=hI
      have hxm:=zX hx
      have hl'':=hI1.len
      have hy':l'[i]? = some y:=by rw [hI2,List.getElem?_append_left hlt]; exact hy
      have hss:=(h.siz x hxm).1
      simp only [q3p,hd',zC,q07,hx,q02,hy',qc6 (l:=x.Supers) (by omega) y (n:=n) (by omega),qc6 (l:=l') (by omega) x.Name (n:=n) (by omega),q89,hw']
      by_cases h1:y∈x.Supers
      ·by_cases h2:x.Name∈l'
       ·simp only [h1,h2,yC,zC,q02,Bool.not_true,zD]
        refine ih2 l' ⟨hI1,⟨t,hI2⟩,fun z hz hyz=>?_⟩
        rw [q0r hx] at hz
        rcases yD.1 hz with hz | hz
        ·exact hI3 z hz hyz
        ·simp at hz; subst hz; exact h2
       ·simp only [h1,h2,yC,yB,zC,q02,Bool.not_false]
        rw [ned (by omega)]
        have hys:=(hw.mem y hym).2
        refine ih2 (l'++[x.Name]) ⟨hI1.snoc h2 ⟨⟨x,hxm,rfl⟩,(Upw.step .refl hxm rfl h1).trans hys⟩,⟨t++[x.Name],by rw [hI2,zT]⟩,fun z hz hyz=>?_⟩
        rw [q0r hx] at hz
        rcases yD.1 hz with hz | hz
        ·exact List.mem_append_left _ (hI3 z hz hyz)
        ·simp at hz; subst hz; simp
      ·simp only [h1,yB,zD,q02]
       refine ih2 l' ⟨hI1,⟨t,hI2⟩,fun z hz hyz=>?_⟩
       rw [q0r hx] at hz
       rcases yD.1 hz with hz | hz
       ·exact hI3 z hz hyz
       ·simp at hz; subst hz; exact absurd hyz h1)
     (fun m' l' hd' hI=>by
      obtain ⟨hI1,⟨t,hI2⟩,hI3⟩:=hI
      rw [zW (zF _)] at hI3
      simp only [q3p,hd',zD,qav,wr1 hlt (show l.length≤9223372036854775807 by omega)]
      refine ih (i+1) l' (by omega) (by rw [hI2]; simp; omega) hI1 (by rw [hI2]; exact List.mem_append_left _ hsl) fun z hz x hx hzx=>?_
      rw [hI2,List.take_append_of_le_length (by omega),q0r hy] at hz
      rcases yD.1 hz with hz | hz
      ·rw [hI2]; exact List.mem_append_left _ (hcl z hz x hx hzx)
      ·simp at hz; subst hz; exact hI3 x hx hzx) n 0 l (by omega) (by omega) ⟨hw,⟨[],by simp⟩,by simp⟩
    rw [zV] at this
    exact this
   ·have hi':i=l.length:=by omega
    subst hi'
    rw [zW (zF _)] at hcl
    simp only [qfw hlt,zD,qat]
    obtain ⟨out,g1,g2⟩:=(qzy (l:=l) (by omega) hn).1
    have hlen:=g2.len
    simp at hlen
    refine ⟨out,g1,g2.asc,by omega,fun x=>?_⟩
    rw [g2.mem]
    simp only [List.not_mem_nil,false_or]
    constructor
    ·exact fun hx=>hw.mem x hx
    ·rintro ⟨_,hu⟩
     have:∀ {t:Str},Upw d x t→t∈l→x∈l:=by
      intro t ht
      induction ht with
      | refl=>exact id
      | step _ h2 h3 h4 ih=>exact fun hu=>ih (h3 ▸ hcl _ hu _ h2 h4)
     exact this hu hsl
 obtain ⟨j,x,g1,g2,g3⟩:=qpd (d:=d) (by omega) hs (n:=n) (by omega)
 have hj:¬ (j:Int)<0:=by omega
 simp only [qd4,g3,q02,hj,yB,zD]
 have:=key n 0 [s] (by omega) (by omega) ⟨by simp,fun t ht=>by simp at ht; subst ht; exact ⟨hs,.refl⟩⟩ (by simp) (by simp)
 rw [zV] at this
 exact this
theorem qr6 (h:qqu d) {x y:q01} (hx:x∈d) (hy:y∈d) (e:x.Name=y.Name):x=y:=by
 have:=h.nod
 clear h
 induction d with
 | nil=>cases hx
 | cons z d ih =>
  rw [zQ,List.nodup_cons] at this
  rcases zI.1 hx with h1 | h1
  ·rcases zI.1 hy with h2 | h2
   ·rw [h1,h2]
   ·exact absurd (List.mem_map.2 ⟨y,h2,by rw [← e,h1]⟩) this.1
  ·rcases zI.1 hy with h2 | h2
   ·exact absurd (List.mem_map.2 ⟨x,h1,by rw [e,h2]⟩) this.1
   ·exact ih h1 h2 this.2
theorem z1f (h:DOK d) (hs:Dcl d s) (hn:5000≤n):∃ l,qd3 n d s=some l∧AscS l∧l.length≤12∧∀ x,x∈l↔Dcl d x∧Upw d s x:=by
 have hd:=h.len
 have key:∀ (m i:Nat) (l:List Str),d.length+1 - i≤m→i≤l.length→WL d (fun x=>Upw d s x) l→s∈l→(∀ y∈l.take i,∀ x∈d,x.Name=y→∀ u∈x.Supers,u∈l) →
   ∃ r,q34 d n m i l=some r∧AscS r∧r.length≤12∧∀ x,x∈r↔Dcl d x∧Upw d s x:=by
  intro m
  induction m with
  | zero=>intro i l hm hi hw; have:=hw.len; omega
  | succ m ih =>
   intro i l hm hi hw hsl hcl
   have hll:=hw.len
   unfold q34
   by_cases hlt:i<l.length
   ·obtain ⟨y,hy,hym⟩:=q1j hlt
    obtain ⟨j,x,g1,g2,g3⟩:=qpd (d:=d) (by omega) (hw.mem y hym).1 (n:=n) (by omega)
    have hxm:=zX g1
    have hss:=(h.siz x hxm).1
    simp only [dlt hlt,zC,q07,hy,q02,g3,g1]
    have:=qdw (l:=x.Supers) (by omega) (F:=fun m' z (l':List Str)=>q3o n i (q34 d n m) x m' z l') (fun k l'=>WL d (fun x=>Upw d s x) l'∧(∃ t,l'=l++t)∧∀ u∈x.Supers.take k,u∈l') (Q:=fun r=>AscS r∧r.length≤12∧∀ x,x∈r↔Dcl d x∧Upw d s x)
     (fun m' k u l' hu hlt2 hd' hw' hI ih2=>by
      obtain ⟨hI1,⟨t,hI2⟩,hI3⟩:=hI
      have hum:=zX hu
      have hl'':=hI1.len
      simp only [q3o,hd',zC,q07,hu,q02,qc6 (l:=l') (by omega) u (n:=n) (by omega),q88,hw']
      by_cases h2:u∈l'
      ·simp only [h2,yC,Bool.not_true,zD]
       refine ih2 l' ⟨hI1,⟨t,hI2⟩,fun z hz=>?_⟩
       rw [q0r hu] at hz
       rcases yD.1 hz with hz | hz
       ·exact hI3 z hz
       ·simp at hz; subst hz; exact h2
      ·simp only [h2,yB,Bool.not_false,zC]
       rw [ned (by omega)]
       refine ih2 (l'++[u]) ⟨hI1.snoc h2 ⟨(h.sup x hxm).1 u hum,.step (hw.mem y hym).2 hxm g2 hum⟩,⟨t++[u],by rw [hI2,zT]⟩,fun z hz=>?_⟩
       rw [q0r hu] at hz
       rcases yD.1 hz with hz | hz
       ·exact List.mem_append_left _ (hI3 z hz)
       ·simp at hz; subst hz; simp)
     (fun m' l' hd' hI=>by
      obtain ⟨hI1,⟨t,hI2⟩,hI3⟩:=hI
      rw [zW (zF _)] at hI3
      simp only [q3o,hd',zD,qar,wr1 hlt (show l.length≤9223372036854775807 by omega)]
      refine ih (i+1) l' (by omega) (by rw [hI2]; simp; omega) hI1 (by rw [hI2]; exact List.mem_append_left _ hsl) fun z hz w hw' hzw u hu=>?_
      rw [hI2,List.take_append_of_le_length (by omega),q0r hy] at hz
      rcases yD.1 hz with hz | hz
      ·rw [hI2]; exact List.mem_append_left _ (hcl z hz w hw' hzw u hu)
      ·simp at hz
       subst hz
       have:=qr6 h.nam hw' hxm (hzw.trans g2.symm)
       subst this
       exact hI3 u hu) n 0 l (by omega) (by omega) ⟨hw,⟨[],by simp⟩,by simp⟩
    rw [zV] at this
    exact this
   ·have hi':i=l.length:=by omega
    subst hi'
    rw [zW (zF _)] at hcl
    simp only [qfw hlt,zD,qap]
    obtain ⟨out,g1,g2⟩:=(qzy (l:=l) (by omega) hn).2
    have hlen:=g2.len
    simp at hlen
    refine ⟨out,g1,g2.asc,by omega,fun x=>?_⟩
    rw [g2.mem]
    simp only [List.not_mem_nil,false_or]
    constructor
    ·exact fun hx=>hw.mem x hx
    ·rintro ⟨_,hu⟩
     clear g1 g2
     induction hu with
     | refl=>exact hsl
     | step h1 h2 h3 h4 ih=>exact hcl _ (ih ⟨_,h2,h3⟩) _ h2 h3 _ h4
 obtain ⟨j,x,g1,g2,g3⟩:=qpd (d:=d) (by omega) hs (n:=n) (by omega)
 have hj:¬ (j:Int)<0:=by omega
 simp only [qd3,g3,q02,hj,yB,zD]
 have:=key n 0 [s] (by omega) (by omega) ⟨by simp,fun t ht=>by simp at ht; subst ht; exact ⟨hs,.refl⟩⟩ (by simp) (by simp)
 rw [zV] at this
 exact this
theorem z6x (h:DOK d) {a b:Str} (ha:Dcl d a) (hb:Dcl d b) (h1:Upw d a b) (h2:Upw d b a):a=b:=by
 obtain ⟨l,hl,hlen⟩:=h.ord
 have hall:∀ s,Dcl d s→s∈l:=fun s ⟨x,hx,e⟩=>by
  apply Classical.byContradiction
  intro hn
  have h3:=qj1 (a:=s::l) (b:=d.map q01.Name) (List.nodup_cons.2 ⟨hn,hl.nodup.1⟩) fun t ht=>by
   rcases zI.1 ht with rfl | ht
   ·rw [← e]; exact List.mem_map_of_mem hx
   ·obtain ⟨y,hy,rfl⟩:=hl.nodup.2 t ht
    exact List.mem_map_of_mem hy
  simp at h3
  omega
 have hpre:∀ {l:List Str},Ord d l→∀ s∈l,∀ t,Upw d s t→∃ l1 l2,l=l1++s::l2∧(t=s∨t∈l1):=by
  intro l hl
  induction hl with
  | nil=>intro s hs; cases hs
  | @snoc l x g1 g2 g3 g4 ih =>
   have hcl:∀ s∈l,∀ t,Upw d s t→t∈l:=fun s hs t ht=>by
    obtain ⟨l1,l2,e1,e2⟩:=ih s hs t ht
    rcases e2 with rfl | e2
    ·exact hs
    ·rw [e1]; exact List.mem_append_left _ e2
   intro s hs t ht
   rcases yD.1 hs with hs | hs
   ·obtain ⟨l1,l2,e1,e2⟩:=ih s hs t ht
    exact ⟨l1,l2++[x.Name],by rw [e1]; simp,e2⟩
   ·simp at hs
    subst hs
    refine ⟨l,[],rfl,?_⟩
    induction ht with
    | refl=>exact .inl rfl
    | step _ h2 h3 h4 ih2 =>
     rcases ih2 with e | e
     ·have:=qr6 h.nam h2 g2 (h3.trans e)
      subst this
      exact .inr (g4 _ h4)
     ·exact .inr (hcl _ e _ (.step .refl h2 h3 h4))
 obtain ⟨l1,l2,e1,e2⟩:=hpre hl a (hall a ha) b h1
 obtain ⟨l3,l4,e3,e4⟩:=hpre hl b (hall b hb) a h2
 rcases e2 with e2 | e2
 ·exact e2.symm
 ·rcases e4 with e4 | e4
  ·exact e4
  ·-- b ahead of a,and a ahead of b
   have hn:=hl.nodup.1
   obtain ⟨p,q,e5⟩:=List.append_of_mem e2
   rw [e5] at e1
   have:l3=p:=by
    have hb1:b ∉ p:=fun hp=>by
     rw [e1] at hn
     simp only [zT,List.cons_append] at hn
     rw [List.nodup_append] at hn
     exact hn.2.2 b hp b (by simp) rfl
    have hb3:b ∉ l3:=fun hp=>by
     rw [e3,List.nodup_append] at hn
     exact hn.2.2 b hp b (by simp) rfl
    rw [e1] at e3
    simp only [zT,List.cons_append] at e3
    clear e1 hn e5 e4 hl
    induction p generalizing l3 with
    | nil =>
     cases l3 with
     | nil=>rfl
     | cons z l3=>simp at e3; exact absurd (by rw [e3.1]; simp) hb3
    | cons y p ihp =>
     cases l3 with
     | nil=>simp at e3; exact absurd (by rw [← e3.1]; simp) hb1
     | cons z l3 =>
      simp at e3
      rw [← e3.1,ihp l3 (fun hh=>hb1 (List.mem_cons_of_mem _ hh)) (fun hh=>hb3 (List.mem_cons_of_mem _ hh)) e3.2]
   rw [this] at e4
   rw [e1] at hn
   exact absurd rfl ((List.nodup_append.1 hn).2.2 a (List.mem_append_left _ e4) a (by simp))
theorem qte (h:DOK d) (hl:l.length≤1000) (hn:5000≤n):∃ out,qay n d l=some out∧AscS out∧out.length≤l.length∧∀ x∈out,x∈l∧Dcl d x:=by
 have hd:=h.len
 have:=qdw (l:=l) (by omega) (F:=fun m z s=>q2d d l n m s z) (fun i s=>AscS s∧s.length≤i∧∀ x∈s,x∈l∧Dcl d x) (Q:=fun out=>AscS out∧out.length≤l.length∧∀ x∈out,x∈l∧Dcl d x)
  (fun m i x s hx hlt hd' hw hI ih=>by
   obtain ⟨i1,i2,i3⟩:=hI
   simp only [q2d,hd',zC,q07,hx,q02,q67,hw]
   rcases qeq (d:=d) (by omega) x (show d.length<n by omega) with ⟨j,y,g1,g2,g3,g4⟩ | ⟨g1,g2⟩
   ·obtain ⟨o,h1,h2,h3,h4⟩:=qou (l:=s) (by omega) i1 x (show s.length<n by omega)
    have hj:(j:Int) ≥ 0:=by omega
    simp only [g4,q02,hj,yC,zC,h1]
    refine ih o ⟨h4,by omega,fun z hz=>?_⟩
    rcases (h2 z).1 hz with rfl | hz
    ·exact ⟨zX hx,y,zX g1,g2⟩
    ·exact i3 z hz
   ·simp only [g2,q02]
    exact ih s ⟨i1,by omega,i3⟩)
  (fun m s hd' hI=>by
   simp only [q2d,hd',zD,q7q]
   exact ⟨s,rfl,hI⟩) n 0 [] (by omega) (by omega) ⟨List.Pairwise.nil,by simp,by simp⟩
 rw [zV] at this
 exact this
theorem qop (h:DOK d) (hl:l.length≤1000) (hn:5000≤n):∃ out,q7p n d l=some out∧out.length≤l.length∧∀ x∈out,x∈l∧Dcl d x:=by
 obtain ⟨all,a1,a2,a3,a4⟩:=qte h hl hn
 have:=qdw (l:=all) (by omega) (F:=fun m z s=>q1x d n all m z s) (fun i s=>s.length≤i∧∀ x∈s,x∈l∧Dcl d x) (Q:=fun out=>out.length≤l.length∧∀ x∈out,x∈l∧Dcl d x)
  (fun m i x s hx hlt hd' hw hI ih=>by
   obtain ⟨i2,i3⟩:=hI
   have hxm:=a4 x (zX hx)
   obtain ⟨up,u1,u2,u3,u4⟩:=z1f h hxm.2 hn
   simp only [q1x,hd',zC,q07,hx,q02,u1]
   have:=qdw (l:=all) (by omega) (F:=fun m' z b=>q4a n all i s (q1x d n all m) up m' b z) (fun _ _=>True) (Q:=fun out=>out.length≤l.length∧∀ x∈out,x∈l∧Dcl d x)
    (fun m' k y b hy hlt2 hd2 hw2 _ ih2=>by
     simp only [q4a,hd2,zC,hw2,q07,hy,q02,qc6 (l:=up) (by omega) y (n:=n) (by omega)]
     cases b with
     | true =>
      cases ((k:Int) == (i:Int)) with
      | true=>exact ih2 true trivial
      | false=>exact ih2 _ trivial
     | false=>exact ih2 false trivial)
    (fun m' b hd2 _=>by
     simp only [q4a,hd2,zD,q8n,q6p,hw,q07,hx,q02]
     cases b with
     | true =>
      simp only [zC]
      rw [ned (by omega)]
      refine ih (s++[x]) ⟨by simp; omega,fun z hz=>?_⟩
      rcases yD.1 hz with hz | hz
      ·exact i3 z hz
      ·simp at hz; subst hz; exact hxm
     | false=>exact ih s ⟨by omega,i3⟩) n 0 true (by omega) (by omega) trivial
   rw [zV] at this
   exact this)
  (fun m s hd' hI=>by
   simp only [q1x,hd',zD,q8m]
   exact ⟨s,rfl,by omega,hI.2⟩) n 0 [] (by omega) (by omega) ⟨by simp,by simp⟩
 rw [zV] at this
 rw [q7p,a1]
 exact this
end Go.Proofs
end
