/-
  Texts of the walk: PlA C5 C6 C7 C8 C9 C10.
-/
import Derived.Test.YtafbldphahfemaaP17
section
namespace Go.Proofs
open Go Go.Rx Go.Vx Go.Shelf Go.Sort
set_option linter.unusedVariables false
theorem q74:∀ a:List UInt8,bytesEq a a=true
 | []=>rfl
 | x::a=>by simp [bytesEq,q74 a]
theorem q4t:∀ a b:List UInt8,bytesEq a b=true↔a=b
 | [],[]=>by simp [bytesEq]
 | [],_::_=>by simp [bytesEq]
 | _::_,[]=>by simp [bytesEq]
 | x::a,y::b=>by
  have h:(x.toNat=y.toNat)↔x=y:=UInt8.toNat_inj
  simp only [bytesEq,beq_eq]
  by_cases e:x=y
  ·subst e; simp [q4t a b]
  ·simp [e,mt h.1 e]
theorem blt_iff (a b:Nat):Nat.blt a b=true↔a<b:=by
 unfold Nat.blt
 rw [Nat.ble_eq]; exact Iff.rfl
theorem blt_iff' (a b:Nat):Nat.blt a b=decide (a<b):=by
 rw [Bool.eq_iff_iff,blt_iff]; simp
theorem q4g:∀ a:List UInt8,bytesLt a a=false
 | []=>rfl
 | x::a=>by simp [bytesLt,blt_iff',q4g a]
theorem q7u:∀ a b c:List UInt8,bytesLt a b=true→bytesLt b c=true→bytesLt a c=true
 | _,[],_,h,_=>by simp [bytesLt] at h
 | _,_::_,[],_,h=>by simp [bytesLt] at h
 | [],_::_,_::_,_,_=>by simp [bytesLt]
 | x::a,y::b,z::c,h1,h2=>by
  simp only [bytesLt,blt_iff',beq_eq] at *
  by_cases h:x.toNat<y.toNat
  ·by_cases h':y.toNat<z.toNat
   ·have:x.toNat<z.toNat:=by omega
    simp [this]
   ·simp only [h',decide_false,cond_false] at h2
    by_cases e:y.toNat=z.toNat
    ·have:x.toNat<z.toNat:=by omega
     simp [this]
    ·simp [e] at h2
  ·simp only [h,decide_false,cond_false] at h1
   by_cases e:x.toNat=y.toNat
   ·simp only [e,decide_true,cond_true] at h1
    by_cases h':y.toNat<z.toNat
    ·simp [e,h']
    ·simp only [h',decide_false,cond_false] at h2
     by_cases e':y.toNat=z.toNat
     ·simp only [e',decide_true,cond_true] at h2
      have:=q7u a b c h1 h2
      simp [e,e',this]
     ·simp [e'] at h2
   ·simp [e] at h1
theorem q57:∀ a b:List UInt8,bytesLt a b=false→bytesLt b a=false→a=b
 | [],[],_,_=>rfl
 | [],_::_,h,_=>by simp [bytesLt] at h
 | _::_,[],_,h=>by simp [bytesLt] at h
 | x::a,y::b,h1,h2=>by
  simp only [bytesLt,blt_iff',beq_eq] at *
  by_cases h:x.toNat<y.toNat
  ·simp [h] at h1
  ·by_cases h':y.toNat<x.toNat
   ·simp [h'] at h2
   ·have e:x.toNat=y.toNat:=by omega
    simp only [e,Nat.lt_irrefl,decide_false,cond_false,decide_true,cond_true] at h1 h2
    rw [q57 a b h1 h2,UInt8.toNat_inj.1 e]
theorem q0e {α β:Type} (a:α) (k:α→Option β):bindO (some a) k=k a:=rfl
theorem wr {z:Int} (h1 : -9223372036854775808≤z) (h2:z≤9223372036854775807):IntKind.i64.wrap z=z:=qbi (by omega) (by omega)
theorem wr1 {i len:Nat} (h:i<len) (hl:len≤9223372036854775807):IntKind.i64.wrap ((i:Int)+1)=((i+1:Nat):Int):=by rw [wr (by omega) (by omega)]; simp
theorem wrn {z:Int} {k:Nat} (h:z=k) (h2:k≤9223372036854775807):IntKind.i64.wrap z=(k:Int):=by subst h; exact wr (by omega) (by omega)
theorem q2s {α:Type} {l:List α} {i:Nat} (h:i<l.length):∃ x,l[i]? = some x∧x∈l:=⟨l[i],by simp [h],by simp⟩
theorem take_snoc {α:Type} {l:List α} {i:Nat} {x:α} (h:l[i]? = some x):l.take (i+1)=l.take i++[x]:=by rw [List.take_add_one,h]; rfl
theorem drop_cons' {α:Type} {l:List α} {i:Nat} {x:α} (h:l[i]? = some x):l.drop i=x::l.drop (i+1):=by
 have hlt:i<l.length:=(List.getElem?_eq_some_iff.1 h).1
 rw [List.drop_eq_getElem_cons hlt]
 congr 1
 rw [List.getElem?_eq_getElem hlt] at h
 exact Option.some.inj h
theorem q9s {α:Type} [SizeOf α]:∀ l:List α,l.length<SizeOf.sizeOf l
 | []=>by simp
 | x::l=>by have:=q9s l; simp; omega
theorem dlt {i n:Nat} (h:i<n):decide ((i:Int)<(n:Int))=true:=by simp; omega
theorem dnlt {i n:Nat} (h:¬ i<n):decide ((i:Int)<(n:Int))=false:=by simp; omega
theorem drop_nil' {α:Type} {l:List α} {i:Nat} (h:¬ i<l.length):l.drop i=[]:=List.drop_eq_nil_of_le (by omega)
structure Cmp {α:Type} (c:α→α→Int):Prop where
 val:∀ x y,c x y = -1∨c x y=0∨c x y=1
 anti:∀ x y,c y x = - c x y
 trans:∀ x y z,c x y≤0→c y z≤0→c x z≤0
theorem Cmp.self {α:Type} {c:α→α→Int} (h:Cmp c) (x:α):c x x=0:=by have:=h.anti x x; omega
theorem Cmp.congr {α:Type} {c:α→α→Int} (h:Cmp c) {x y:α} (hxy:c x y=0) (z:α):c x z=c y z:=by
 have h1:=h.val x z
 have h2:=h.val y z
 have a1:=h.anti x y
 have a2:=h.anti x z
 have a3:=h.anti y z
 have t1:=h.trans x y z
 have t2:=h.trans y x z
 have t3:=h.trans z x y
 have t4:=h.trans z y x
 omega
theorem Cmp.congr' {α:Type} {c:α→α→Int} (h:Cmp c) {x y:α} (hxy:c x y=0) (z:α):c z x=c z y:=by
 have h1:=h.congr hxy z
 have a2:=h.anti x z
 have a3:=h.anti y z
 omega
theorem Cmp.lt_of {α:Type} {c:α→α→Int} (h:Cmp c) {x y z:α} (h1:c x y<0) (h2:c y z≤0):c x z<0:=by
 have t1:=h.trans x y z (by omega) h2
 rcases Int.lt_or_eq_of_le t1 with h3 | h3
 ·exact h3
 ·have:=h.congr h3 y
  have a3:=h.anti y z
  omega
def lexC {α:Type} (c d:α→α→Int) (x y:α):Int:=if c x y≠0 then c x y else d x y
theorem Cmp.lex {α:Type} {c d:α→α→Int} (hc:Cmp c) (hd:Cmp d):Cmp (lexC c d) where
 val x y:=by unfold lexC; split; exact hc.val x y; exact hd.val x y
 anti x y:=by
  unfold lexC
  have a1:=hc.anti x y
  have a2:=hd.anti x y
  by_cases h:c x y=0
  ·have:c y x=0:=by omega
   simp [h,this,a2]
  ·have:¬ c y x=0:=by omega
   simp [h,this,a1]
 trans x y z h1 h2:=by
  unfold lexC at *
  by_cases h:c x y=0
  ·have e:=hc.congr h z
   simp only [h,ne_eq,not_true,if_false] at h1
   rw [e]
   by_cases h':c y z=0
   ·simp only [h',ne_eq,not_true,if_false] at h2 ⊢
    exact hd.trans x y z h1 h2
   ·simp only [h',ne_eq,not_false_eq_true,if_true] at h2 ⊢
    exact h2
  ·simp only [h,ne_eq,not_false_eq_true,if_true] at h1
   have h1':c x y<0:=by omega
   by_cases h':c y z=0
   ·have e:=hc.congr' h' x
    rw [← e]
    simp only [h,ne_eq,not_false_eq_true,if_true]
    exact h1
   ·simp only [h',ne_eq,not_false_eq_true,if_true] at h2
    have:=hc.lt_of h1' h2
    have hne:¬ c x z=0:=by omega
    simp only [hne,ne_eq,not_false_eq_true,if_true]
    omega
theorem lexC_zero {α:Type} {c d:α→α→Int} {x y:α}:lexC c d x y=0↔c x y=0∧d x y=0:=by
 unfold lexC
 by_cases h:c x y=0<;>simp [h]
theorem Cmp.pull {α β:Type} {c:α→α→Int} (h:Cmp c) (f:β→α):Cmp (fun x y=>c (f x) (f y)):=⟨fun x y=>h.val _ _,fun x y=>h.anti _ _,fun x y z=>h.trans _ _ _⟩
def cmpI (a b:Int):Int:=if a<b then -1 else if b<a then 1 else 0
def cmpS (a b:List UInt8):Int:=if bytesLt a b then -1 else if bytesLt b a then 1 else 0
theorem q8d {a b : Int} : cmpI a b = 0 ↔ a = b := by unfold cmpI; split; · omega
                                                     split <;> omega
theorem qbx {a b:List UInt8}:cmpS a b=0↔a=b:=by
 unfold cmpS
 cases h:bytesLt a b with
 | true=>simp; intro e; subst e; rw [q4g] at h; cases h
 | false =>
  cases h':bytesLt b a with
  | true=>simp; intro e; subst e; rw [q4g] at h'; cases h'
  | false=>simp; exact q57 a b h h'
theorem cmpI_ok : Cmp cmpI where
  val x y := by unfold cmpI; split; · simp
                split <;> simp
  anti x y := by unfold cmpI; split <;> split <;> (try split) <;> omega
  trans x y z := by
    unfold cmpI
    intro h1 h2
    split at h1 <;> split at h2 <;> (try split at h1) <;> (try split at h2) <;> (try split) <;> (try split) <;> omega
theorem q9k {a b:List UInt8} (h:bytesLt a b=true):bytesLt b a=false:=by
 cases h':bytesLt b a with
 | false=>rfl
 | true=>have:=q7u a b a h h'; rw [q4g] at this; cases this
theorem cmpS_ok : Cmp cmpS where
  val x y := by unfold cmpS; split; · simp
                split <;> simp
  anti x y := by
    unfold cmpS
    cases h : bytesLt x y with
    | true => rw [q9k h]; rfl
    | false => cases h' : bytesLt y x <;> simp
  trans x y z h1 h2 := by
    have k : ∀ a b, cmpS a b ≤ 0 ↔ bytesLt b a = false := fun a b => by
      unfold cmpS
      cases h : bytesLt a b with
      | true => rw [q9k h]; simp
      | false => cases h' : bytesLt b a <;> simp
    rw [k] at *
    cases h : bytesLt z x with
    | false => rfl
    | true =>
      cases hxy : bytesLt x y with
      | true => have := q7u z x y h hxy; rw [h2] at this; cases this
      | false => have := q57 x y hxy h1; subst this; rw [h2] at h; cases h
section
variable {α:Type} {c:α→α→Int}
end
end Go.Proofs
end
section
namespace Go.Proofs
open Go Go.Rx Go.Vx Go.Sort
set_option linter.unusedVariables false
set_option linter.unusedSimpArgs false
theorem ex_ok (m:Nat):q27 (m+60)=some true:=by kernel_rfl
theorem ex_n {n:Nat} (h:60≤n):q27 n=some true:=by
 obtain ⟨m,rfl⟩:∃ m,n=m+60:=⟨n - 60,by omega⟩
 exact ex_ok m
theorem new_eq (n:Nat) (w:Int):q5y n w=q6w n w:=rfl
end Go.Proofs
end
section
namespace Go.Proofs
open Go Go.Rx Go.Vx Go.Sort
set_option linter.unusedVariables false
set_option linter.unusedSimpArgs false
theorem cmpInt_eq (n:Nat) (a b:Int):q1k n a b=some (cmpI a b):=by
 unfold cmpI
 simp only [q1k,q4a,q0e]
 by_cases h:a<b
 ·simp [h]
 ·by_cases h':b<a
  ·simp [h,h']
  ·simp [h,h']
theorem cmpStr_eq (n:Nat) (a b:List UInt8):q2l n a b=some (cmpS a b):=by
 unfold cmpS
 simp only [q2l,q30,q0e,q74]
 cases h:bytesLt a b with
 | true=>simp
 | false =>
  cases h':bytesLt b a with
  | true =>
   have:bytesEq a b=false:=by
    cases he:bytesEq a b with
    | false=>rfl
    | true=>have:=(q4t a b).1 he; subst this; rw [q4g] at h'; cases h'
   simp [this]
  | false =>
   have:=q57 a b h h'
   subst this
   simp [q74]
theorem or4_eq (a b c d:Int):q5j 5 [a,b,c,d]=some (if a≠0 then a else if b≠0 then b else if c≠0 then c else d):=by
 have w0:IntKind.i64.wrap ((0:Int)+1)=1:=by rw [wr (by omega) (by omega)]; rfl
 have w1:IntKind.i64.wrap ((1:Int)+1)=2:=by rw [wr (by omega) (by omega)]; rfl
 have w2:IntKind.i64.wrap ((2:Int)+1)=3:=by rw [wr (by omega) (by omega)]; rfl
 have w3:IntKind.i64.wrap ((3:Int)+1)=4:=by rw [wr (by omega) (by omega)]; rfl
 have i0:idxO [a,b,c,d] 0=some a:=rfl
 have i1:idxO [a,b,c,d] 1=some b:=rfl
 have i2:idxO [a,b,c,d] 2=some c:=rfl
 have i3:idxO [a,b,c,d] 3=some d:=rfl
 have k0:decide ((0:Int)<(([a,b,c,d]:List Int).length:Int))=true:=by simp
 have k1:decide ((1:Int)<(([a,b,c,d]:List Int).length:Int))=true:=by simp
 have k2:decide ((2:Int)<(([a,b,c,d]:List Int).length:Int))=true:=by simp
 have k3:decide ((3:Int)<(([a,b,c,d]:List Int).length:Int))=true:=by simp
 have k4:decide ((4:Int)<(([a,b,c,d]:List Int).length:Int))=false:=by simp
 simp only [q5j,q34,q6d,w0,w1,w2,w3,i0,i1,i2,i3,k0,k1,k2,k3,k4,cond_true,cond_false,q0e]
 by_cases ha:a=0
 ·by_cases hb:b=0
  ·by_cases hc:c=0
   ·by_cases hd:d=0
    ·simp [ha,hb,hc,hd]
    ·have:(d != 0)=true:=by simpa using hd
     simp [ha,hb,hc,hd,this]
   ·have:(c != 0)=true:=by simpa using hc
    simp [ha,hb,hc,this]
  ·have:(b != 0)=true:=by simpa using hb
   simp [ha,hb,this]
 ·have:(a != 0)=true:=by simpa using ha
  simp [ha,this]
theorem orL_fuel:∀ (n m:Nat) (l:List Int) (i:Int) (r:Int),n≤m→q34 l n i=some r→q34 l m i=some r
 | 0,m,l,i,r,h,hF=>by cases hF
 | n+1,0,l,i,r,h,hF=>by omega
 | n+1,m+1,l,i,r,h,hF=>by
  unfold q34 at hF ⊢
  cases hc:decide (i<(l.length:Int)) with
  | false=>rw [hc] at hF; exact hF
  | true =>
   rw [hc] at hF
   simp only [cond_true] at hF ⊢
   obtain ⟨x,h1,h2⟩:=q01 hF
   rw [h1,q0e]
   cases hx:(x != 0) with
   | true=>rw [hx] at h2; exact h2
   | false=>rw [hx] at h2; simp only [cond_false] at h2 ⊢; exact orL_fuel n m l _ r (by omega) h2
def lexL {α:Type} (c:α→α→Int):List α→List α→Int
 | [],[]=>0
 | [],_::_=>-1
 | _::_,[]=>1
 | x::xs,y::ys=>if c x y≠0 then c x y else lexL c xs ys
theorem Cmp.list {α:Type} {c:α→α→Int} (h:Cmp c):Cmp (lexL c) where
 val:=by
  intro x
  induction x with
  | nil=>intro y; cases y<;>simp [lexL]
  | cons a x ih =>
   intro y
   cases y with
   | nil=>simp [lexL]
   | cons b y=>simp only [lexL]; split; exact h.val a b; exact ih y
 anti:=by
  intro x
  induction x with
  | nil=>intro y; cases y<;>simp [lexL]
  | cons a x ih =>
   intro y
   cases y with
   | nil=>simp [lexL]
   | cons b y =>
    simp only [lexL]
    have a1:=h.anti a b
    have a2:=ih y
    by_cases e:c a b=0
    ·have:c b a=0:=by omega
     simp [e,this,a2]
    ·have:¬ c b a=0:=by omega
     simp [e,this,a1]
 trans:=by
  intro x
  induction x with
  | nil =>
   intro y z h1 h2
   cases z<;>simp [lexL]
  | cons a x ih =>
   intro y z h1 h2
   cases y with
   | nil=>simp [lexL] at h1
   | cons b y =>
    cases z with
    | nil=>simp [lexL] at h2
    | cons d z =>
     simp only [lexL] at *
     by_cases e:c a b=0
     ·have e2:=h.congr e d
      simp only [e,ne_eq,not_true,if_false] at h1
      rw [e2]
      by_cases e3:c b d=0
      ·simp only [e3,ne_eq,not_true,if_false] at h2 ⊢
       exact ih y z h1 h2
      ·simp only [e3,ne_eq,not_false_eq_true,if_true] at h2 ⊢
       exact h2
     ·simp only [e,ne_eq,not_false_eq_true,if_true] at h1
      have h1':c a b<0:=by omega
      by_cases e3:c b d=0
      ·have e4:=h.congr' e3 a
       rw [← e4]
       simp only [e,ne_eq,not_false_eq_true,if_true]
       exact h1
      ·simp only [e3,ne_eq,not_false_eq_true,if_true] at h2
       have:=h.lt_of h1' h2
       have hne:¬ c a d=0:=by omega
       simp only [hne,ne_eq,not_false_eq_true,if_true]
       omega
theorem lexL_zero {α:Type} {c:α→α→Int}:∀ {xs ys:List α},(∀ x∈xs,∀ y,c x y=0→x=y)→lexL c xs ys=0→xs=ys
 | [],[],_,_=>rfl
 | [],_::_,_,h=>by simp [lexL] at h
 | _::_,[],_,h=>by simp [lexL] at h
 | x::xs,y::ys,hc,h=>by
  simp only [lexL] at h
  by_cases e:c x y=0
  ·simp only [e,ne_eq,not_true,if_false] at h
   rw [hc x (by simp) y e,lexL_zero (fun a ha=>hc a (by simp [ha])) h]
  ·simp [e] at h
def hdD:GDeriv→GDeriv→Int:=lexC (fun x y=>cmpI x.From y.From) (lexC (fun x y=>cmpI x.To y.To) (lexC (fun x y=>cmpI x.Kind y.Kind) (fun x y=>cmpS x.Name y.Name)))
theorem hdD_ok:Cmp hdD:=(cmpI_ok.pull _).lex ((cmpI_ok.pull _).lex ((cmpI_ok.pull _).lex (cmpS_ok.pull _)))
def ccDn:Nat→GDeriv→GDeriv→Int
 | 0,_,_=>0
 | n+1,x,y=>if hdD x y≠0 then hdD x y else lexL (ccDn n) x.Kids y.Kids
theorem ccDn_ok:∀ n,Cmp (ccDn n)
 | 0=>⟨fun _ _=>.inr (.inl rfl),fun _ _=>rfl,fun _ _ _ _ _=>by simp [ccDn]⟩
 | n+1=>hdD_ok.lex ((ccDn_ok n).list.pull GDeriv.Kids)
theorem kid_lt (d:GDeriv) {x:GDeriv} (h:x∈d.Kids):SizeOf.sizeOf x<SizeOf.sizeOf d:=by
 cases d with
 | mk a b c e ks =>
  have:=List.sizeOf_lt_of_mem h
  simp only [GDeriv.Kids] at this
  simp only [GDeriv.mk.sizeOf_spec]
  omega
theorem kids_lt (d:GDeriv):d.Kids.length+1<SizeOf.sizeOf d:=by
 cases d with
 | mk a b c e ks =>
  have:=q9s ks
  simp only [GDeriv.Kids,GDeriv.mk.sizeOf_spec]
  omega
mutual
def okG:GDeriv→Prop
 | .mk _ _ _ _ ks=>ks.length≤9223372036854775807∧okGs ks
def okGs:List GDeriv→Prop
 | []=>True
 | d::l=>okG d∧okGs l
end
theorem okGs_mem:∀ {l:List GDeriv},okGs l→∀ d∈l,okG d
 | [],_,d,h=>by cases h
 | e::l,h,d,hd=>by
  simp only [okGs] at h
  rcases List.mem_cons.1 hd with rfl | hd
  ·exact h.1
  ·exact okGs_mem h.2 d hd
theorem okG_len {d:GDeriv} (h:okG d):d.Kids.length≤9223372036854775807:=by cases d; simp only [okG] at h; exact h.1
theorem okG_kid {d:GDeriv} (h:okG d) {x:GDeriv} (hx:x∈d.Kids):okG x:=by cases d; simp only [okG] at h; exact okGs_mem h.2 x hx
theorem qak {α:Type} {c c':α→α→Int}:∀ {xs ys:List α},(∀ x∈xs,∀ y,c x y=c' x y)→lexL c xs ys=lexL c' xs ys
 | [],[],_=>rfl
 | [],_::_,_=>rfl
 | _::_,[],_=>rfl
 | x::xs,y::ys,h=>by simp only [lexL,h x (by simp) y,qak (xs:=xs) (ys:=ys) fun a ha=>h a (by simp [ha])]
mutual
def nodes:GDeriv→Nat
 | .mk _ _ _ _ ks=>1+nodesL ks
def nodesL:List GDeriv→Nat
 | []=>0
 | d::l=>nodes d+nodesL l
end
theorem nodes_eq (d:GDeriv):nodes d=1+nodesL d.Kids:=by cases d; simp [nodes,GDeriv.Kids]
theorem nodesL_mem:∀ {l:List GDeriv} {d:GDeriv},d∈l→nodes d≤nodesL l
 | e::l,d,h=>by
  simp only [nodesL]
  rcases List.mem_cons.1 h with rfl | h
  ·omega
  ·have:=nodesL_mem h; omega
theorem kidn_lt (d:GDeriv) {x:GDeriv} (h:x∈d.Kids):nodes x<nodes d:=by have:=nodesL_mem h; rw [nodes_eq d]; omega
theorem size_pos (d:GDeriv):0<nodes d:=by rw [nodes_eq]; omega
theorem ccDn_stab:∀ (n m:Nat) (x y:GDeriv),nodes x≤n→nodes x≤m→ccDn n x y=ccDn m x y
 | 0,m,x,y,h,_=>by have:=size_pos x; omega
 | n+1,0,x,y,_,h=>by have:=size_pos x; omega
 | n+1,m+1,x,y,h1,h2=>by
  simp only [ccDn]
  rw [qak (c:=ccDn n) (c':=ccDn m) fun a ha b=>ccDn_stab n m a b (by have:=kidn_lt x ha; omega) (by have:=kidn_lt x ha; omega)]
def ccD (x y:GDeriv):Int:=ccDn (nodes x) x y
theorem qbr {n:Nat} {x:GDeriv} (h:nodes x≤n) (y:GDeriv):ccD x y=ccDn n x y:=ccDn_stab _ _ _ _ (Nat.le_refl _) h
theorem cmpD_ok:Cmp ccD where
 val x y:=(ccDn_ok _).val x y
 anti x y:=by
  rw [qbr (n:=nodes x+nodes y) (by omega) x,qbr (n:=nodes x+nodes y) (by omega) y]
  exact (ccDn_ok _).anti x y
 trans x y z:=by
  rw [qbr (n:=nodes x+nodes y) (by omega) y,qbr (n:=nodes x+nodes y) (by omega) z,qbr (n:=nodes x+nodes y) (x:=x) (by omega) z]
  exact (ccDn_ok _).trans x y z
theorem ccDn_zero:∀ (n:Nat) (x y:GDeriv),nodes x≤n→ccDn n x y=0→x=y
 | 0,x,y,h,_=>by have:=size_pos x; omega
 | n+1,x,y,h,hz=>by
  simp only [ccDn] at hz
  by_cases e:hdD x y=0
  ·simp only [e,ne_eq,not_true,if_false] at hz
   have hk:=lexL_zero (fun a ha b hb=>ccDn_zero n a b (by have:=kidn_lt x ha; omega) hb) hz
   simp only [hdD,lexC_zero,q8d,qbx] at e
   cases x; cases y
   simp only [GDeriv.Kids,GDeriv.From,GDeriv.To,GDeriv.Kind,GDeriv.Name] at hk e
   obtain ⟨e1,e2,e3,e4⟩:=e
   subst e1; subst e2; subst e3; subst e4; subst hk; rfl
  ·simp [e] at hz
theorem q9l {x y:GDeriv}:ccD x y=0↔x=y:=⟨fun h=>ccDn_zero _ x y (Nat.le_refl _) h,fun h=>by subst h; exact cmpD_ok.self x⟩
theorem ccD_eq (x y:GDeriv):ccD x y=if hdD x y≠0 then hdD x y else lexL ccD x.Kids y.Kids:=by
 have h:=qbr (n:=nodes x+1) (x:=x) (by omega) y
 rw [h]
 simp only [ccDn]
 rw [qak (c:=ccDn (nodes x)) (c':=ccD) fun a ha b=>(qbr (by have:=kidn_lt x ha; omega) b).symm]
theorem cmpF_L {xs ys:List GDeriv} (hl:xs.length≤9223372036854775807) {f:GDeriv→GDeriv→Option Int} (hf:∀ x∈xs,∀ y∈ys,f x y=some (ccD x y)):∀ (m i:Nat),xs.length - i<m→i≤xs.length→i≤ys.length →
  q0r xs ys f m (i:Int)=some (lexL ccD (xs.drop i) (ys.drop i))
 | 0,i,hm,_,_=>by omega
 | m+1,i,hm,hi,hi2=>by
  unfold q0r
  by_cases hlt:i<xs.length
  ·obtain ⟨x,hx,hxm⟩:=q2s hlt
   simp only [dlt hlt,cond_true,q2a,hx,q0e]
   by_cases hlt2:i<ys.length
   ·obtain ⟨y,hy,hym⟩:=q2s hlt2
    have hge:decide ((i:Int) ≥ (ys.length:Int))=false:=by simp; omega
    have hw:IntKind.i64.wrap ((i:Int)+1)=((i+1:Nat):Int):=wrn (by simp) (by omega)
    simp only [hge,cond_false,hy,q0e,hf x hxm y hym,drop_cons' hx,drop_cons' hy,lexL,hw]
    by_cases e:ccD x y=0
    ·simp only [e,bne_self_eq_false,cond_false,ne_eq,not_true,if_false]
     exact cmpF_L hl hf m (i+1) (by omega) (by omega) (by omega)
    ·have:(ccD x y != 0)=true:=by simpa using e
     simp only [this,cond_true,ne_eq,e,not_false_eq_true,if_true]
   ·have hge:decide ((i:Int) ≥ (ys.length:Int))=true:=by simp; omega
    simp only [hge,cond_true,drop_cons' hx,drop_nil' hlt2,lexL]
  ·simp only [dnlt hlt,cond_false,q1d,drop_nil' hlt]
   by_cases hlt2:i<ys.length
   ·obtain ⟨y,hy,hym⟩:=q2s hlt2
    simp only [dlt (show xs.length<ys.length by omega),cond_true,drop_cons' hy,lexL]
   ·simp only [dnlt (show ¬ xs.length<ys.length by omega),cond_false,drop_nil' hlt2,lexL]
theorem qbz:∀ (n:Nat) (x y:GDeriv),SizeOf.sizeOf x+10≤n→okG x→q26 n x y=some (ccD x y)
 | 0,x,y,h,_=>by omega
 | n+1,x,y,h,hok=>by
  have h5:=or4_eq (cmpI x.From y.From) (cmpI x.To y.To) (cmpI x.Kind y.Kind) (cmpS x.Name y.Name)
  have hN:=orL_fuel 5 n _ _ _ (by omega) h5
  have hkl:=kids_lt x
  have hk:=cmpF_L (ys:=y.Kids) (okG_len hok) (f:=q26 n) (fun a ha b hb=>qbz n a b (by have:=kid_lt x ha; omega) (okG_kid hok ha)) n 0 (by omega) (by omega) (by omega)
  rw [Int.ofNat_zero,List.drop_zero,List.drop_zero] at hk
  have hh:(if cmpI x.From y.From≠0 then cmpI x.From y.From else if cmpI x.To y.To≠0 then cmpI x.To y.To else if cmpI x.Kind y.Kind≠0 then cmpI x.Kind y.Kind else cmpS x.Name y.Name)=hdD x y:=by simp only [hdD,lexC]
  rw [hh] at hN
  simp only [q26,q6s,cmpInt_eq,cmpStr_eq,q0e,q5j,hN,q1a,hk]
  rw [ccD_eq]
  by_cases e:hdD x y=0
  ·simp [e]
  ·have:(hdD x y != 0)=true:=by simpa using e
   simp [this,e]
instance:DecidableEq GDeriv:=fun x y=>decidable_of_iff (ccD x y=0) q9l
theorem ints_ok (n:Nat) (a b:Int):q4d n a b=some (cmpI a b):=by
 unfold q4d cmpI
 by_cases h1:a<b
 ·simp [h1]
 ·by_cases h2:b<a
  ·simp [h1,h2]
  ·have:¬ a > b:=h2
   simp [h1,h2,this]
theorem cmpI_ne {a b:Int} (h:¬ a=b):cmpI a b≠0:=fun e=>h (q8d.1 e)
theorem lexL_nil {xs ys:List GDeriv}:∀ i,i≤xs.length→i≤ys.length→¬ (i<xs.length∧i<ys.length)→cmpI (xs.length:Int) (ys.length:Int)=lexL ccD (xs.drop i) (ys.drop i):=fun i h1 h2 h=>by
 by_cases hx:i<xs.length
 ·have hy:¬ i<ys.length:=fun hy=>h ⟨hx,hy⟩
  obtain ⟨x,e,_⟩:=q2s hx
  rw [drop_cons' e,drop_nil' hy,lexL,cmpI,if_neg (by omega),if_pos (by omega)]
 ·by_cases hy:i<ys.length
  ·obtain ⟨y,e,_⟩:=q2s hy
   rw [drop_nil' hx,drop_cons' e,lexL,cmpI,if_pos (by omega)]
  ·rw [drop_nil' hx,drop_nil' hy,lexL,cmpI,if_neg (by omega),if_neg (by omega)]
theorem rcmp_L {x y:GDeriv} {n:Nat} (hl:x.Kids.length≤9223372036854775807) {self:GDeriv→GDeriv→Option Int} (hs:∀ a∈x.Kids,∀ b,self a b=some (ccD a b)):∀ (m i:Nat),x.Kids.length - i<m→i≤x.Kids.length→i≤y.Kids.length →
  q32 x y n self m i=some (lexL ccD (x.Kids.drop i) (y.Kids.drop i))
 | 0,i,hm,_,_=>by omega
 | m+1,i,hm,hi,hj=>by
  unfold q32
  by_cases hlt:i<x.Kids.length
  ·by_cases hlt2:i<y.Kids.length
   ·obtain ⟨a,ha,ham⟩:=q2s hlt
    obtain ⟨b,hb,_⟩:=q2s hlt2
    simp only [dlt hlt,dlt hlt2,cond_true,q0e,q2a,ha,hb,hs a ham b,wr1 hlt hl,drop_cons' ha,drop_cons' hb,lexL]
    by_cases e:ccD a b=0
    ·simp only [e,bne_self_eq_false,cond_false,ne_eq,not_true,if_false]
     exact rcmp_L hl hs m (i+1) (by omega) (by omega) (by omega)
    ·have:(ccD a b != 0)=true:=by simpa using e
     simp only [this,cond_true,ne_eq,e,not_false_eq_true,if_true]
   ·simp only [dlt hlt,dnlt hlt2,cond_true,cond_false,q0e,q3p,ints_ok,lexL_nil i hi hj (fun h=>hlt2 h.2)]
  ·simp only [dnlt hlt,cond_false,q0e,q3p,ints_ok,lexL_nil i hi hj (fun h=>hlt h.1)]
theorem qa0:∀ (n:Nat) (x y:GDeriv),SizeOf.sizeOf x+10≤n→okG x→q1z n x y=some (ccD x y)
 | 0,x,y,h,_=>by omega
 | n+1,x,y,h,hok=>by
  have hkl:=kids_lt x
  have hk:=rcmp_L (x:=x) (y:=y) (n:=n) (okG_len hok) (self:=q1z n) (fun a ha b=>qa0 n a b (by have:=kid_lt x ha; omega) (okG_kid hok ha)) n 0 (by omega) (by omega) (by omega)
  rw [Int.ofNat_zero,List.drop_zero,List.drop_zero] at hk
  simp only [q1z,q6u,ints_ok,q0e,hk]
  rw [ccD_eq]
  simp only [hdD,lexC]
  by_cases e1:x.From=y.From
  ·have b1:(x.From != y.From)=false:=by simp [e1]
   have c1:cmpI x.From y.From=0:=q8d.2 e1
   rw [b1,cond_false]
   simp only [c1,ne_eq,not_true,if_false]
   by_cases e2:x.To=y.To
   ·have b2:(x.To != y.To)=false:=by simp [e2]
    have c2:cmpI x.To y.To=0:=q8d.2 e2
    rw [b2,cond_false]
    simp only [c2,ne_eq,not_true,if_false]
    by_cases e3:x.Kind=y.Kind
    ·have b3:(x.Kind != y.Kind)=false:=by simp [e3]
     have c3:cmpI x.Kind y.Kind=0:=q8d.2 e3
     rw [b3,cond_false]
     simp only [c3,ne_eq,not_true,if_false]
     by_cases e4:x.Name=y.Name
     ·have b4:(!bytesEq x.Name y.Name)=false:=by rw [(q4t _ _).2 e4]; rfl
      have c4:cmpS x.Name y.Name=0:=qbx.2 e4
      rw [b4,cond_false]
      simp only [c4,not_true,if_false]
     ·have b4:(!bytesEq x.Name y.Name)=true:=by
       cases hb:bytesEq x.Name y.Name with
       | false=>rfl
       | true=>exact absurd ((q4t _ _).1 hb) e4
      have c4:cmpS x.Name y.Name≠0:=fun e=>e4 (qbx.1 e)
      rw [b4,cond_true,if_pos c4]
      unfold cmpS
      cases hb:bytesLt x.Name y.Name with
      | true=>simp
      | false =>
       cases hb2:bytesLt y.Name x.Name with
       | true=>simp
       | false=>exact absurd (q57 _ _ hb hb2) e4
    ·have b3:(x.Kind != y.Kind)=true:=by simpa using e3
     rw [b3,cond_true]
     simp [cmpI_ne e3]
   ·have b2:(x.To != y.To)=true:=by simpa using e2
    rw [b2,cond_true]
    simp [cmpI_ne e2]
  ·have b1:(x.From != y.From)=true:=by simpa using e1
   rw [b1,cond_true]
   simp [cmpI_ne e1]
end Go.Proofs
end
section
namespace Go.Proofs
open Go Go.Rx Go.Vx Go.Sort
set_option linter.unusedVariables false
set_option linter.unusedSimpArgs false
theorem nodesL_drop {l:List GDeriv} {i:Nat} {x:GDeriv} (h:l[i]? = some x):nodesL (l.drop i)=nodes x+nodesL (l.drop (i+1)):=by rw [drop_cons' h]; simp [nodesL]
theorem Nodes_L {d:GDeriv} (hl:d.Kids.length≤9223372036854775807) {most:Int} (h1:1≤most) (h2:most≤61) {self:GDeriv→Int→Option Int}
  (hself:∀ x∈d.Kids,∀ q:Int,1≤q→q≤61→∃ c,self x q=some c∧1≤c∧c≤q∧(c<q→c=nodes x)):∀ (m i:Nat) (z:Int),d.Kids.length - i<m→i≤d.Kids.length→1≤z→z≤most →
  ∃ c,q3x d most self m z i=some c∧1≤c∧c≤most∧(c<most→c=z+nodesL (d.Kids.drop i))
 | 0,i,z,hm,_,_,_=>by omega
 | m+1,i,z,hm,hi,hz1,hz2=>by
  unfold q3x
  by_cases hlt:i<d.Kids.length
  ·obtain ⟨x,hx,hxm⟩:=q2s hlt
   rw [dlt hlt,cond_true,q0e]
   by_cases hz:z<most
   ·obtain ⟨c,k1,k2,k3,k4⟩:=hself x hxm (most - z) (by omega) (by omega)
    simp only [hz,decide_true,cond_true,q2a,hx,q0e,wr (show -9223372036854775808≤most - z by omega) (by omega),k1,wr (show -9223372036854775808≤z+c by omega) (by omega),wr1 hlt hl]
    obtain ⟨c',q1,q2,q3,q4⟩:=Nodes_L hl h1 h2 hself m (i+1) (z+c) (by omega) (by omega) (by omega) (by omega)
    refine ⟨c',q1,q2,q3,fun h=>?_⟩
    have:=q4 h
    rw [nodesL_drop hx]
    by_cases hc:c<most - z
    ·have:=k4 hc; omega
    ·have:z+c=most:=by omega
     omega
   ·simp only [hz,decide_false,cond_false,q4l]
    exact ⟨z,rfl,hz1,hz2,fun h=>by omega⟩
  ·simp only [dnlt hlt,cond_false,q0e,q4l,drop_nil' hlt]
   exact ⟨z,rfl,hz1,hz2,fun _=>by simp [nodesL]⟩
theorem Nodes_ok:∀ (s:Nat) (d:GDeriv),SizeOf.sizeOf d<s→okG d→∀ n,SizeOf.sizeOf d≤n→∀ most:Int,1≤most→most≤61→∃ c,q39 n d most=some c∧1≤c∧c≤most∧(c<most→c=nodes d)
 | 0,d,hs,_,_,_,_,_,_=>by omega
 | s+1,d,hs,hok,n,hn,most,h1,h2=>by
  have hk:=kids_lt d
  cases n with
  | zero=>omega
  | succ n =>
   obtain ⟨c,q1,q2,q3,q4⟩:=Nodes_L (d:=d) (okG_len hok) h1 h2 (self:=q39 n) (fun x hx q h1 h2=>by
    have:=kid_lt d hx
    exact Nodes_ok s x (by omega) (okG_kid hok hx) n (by omega) q h1 h2) n 0 1 (by omega) (by omega) (by omega) h1
   rw [Int.ofNat_zero] at q1
   refine ⟨c,by simp only [q39,q84,q1],q2,q3,fun h=>?_⟩
   have:=q4 h
   rw [nodes_eq]; simp at this; omega
structure LE (e:GEdge) (n:Nat):Prop where
 kids:e.Kids.length≤10
 nodes:e.FS.Nodes.length≤20
 arcs:∀ x∈e.FS.Nodes,x.Arcs.length≤20
 ok:okG e.Lex
 fuel:SizeOf.sizeOf e.Lex+1001≤n
theorem light_L2 {l:List GEdge} {i:Nat} {e:GEdge} (he:l[i]? = some e) (hl:e.FS.Nodes.length≤20) {rc:Int→Option Bool}:∀ (m k:Nat),e.FS.Nodes.length - k<m→k≤e.FS.Nodes.length →
  (q38 l i rc m k=some false∨(q38 l i rc m k=rc (IntKind.i64.wrap ((i:Int)+1))∧∀ x∈e.FS.Nodes.drop k,x.Arcs.length≤20))
 | 0,k,hm,_=>by omega
 | m+1,k,hm,hk=>by
  unfold q38
  by_cases hlt:k<e.FS.Nodes.length
  ·obtain ⟨x,hx,_⟩:=q2s hlt
   simp only [q2a,he,q0e,dlt hlt,cond_true,hx,wr1 hlt (show e.FS.Nodes.length≤9223372036854775807 by omega)]
   by_cases ha:(x.Arcs.length:Int) > 20
   ·left; simp [ha]
   ·simp only [ha,decide_false,cond_false]
    rcases light_L2 he hl (rc:=rc) m (k+1) (by omega) (by omega) with h | ⟨h1,h2⟩
    ·exact .inl h
    ·refine .inr ⟨h1,?_⟩
     rw [drop_cons' hx]
     intro y hy
     rcases List.mem_cons.1 hy with rfl | hy
     ·omega
     ·exact h2 y hy
  ·right
   simp only [q2a,he,q0e,dnlt hlt,cond_false,q5t,drop_nil' hlt]
   exact ⟨trivial,fun x hx=>by cases hx⟩
theorem light_L1 {l:List GEdge} (hl:l.length≤12) {n:Nat} (hn1:1001≤n) (hn:∀ e∈l,okG e.Lex∧SizeOf.sizeOf e.Lex+1001≤n):∀ (m i:Nat),l.length - i<m→i≤l.length →
  ∃ b,q2i l n m i=some b∧(b=true→∀ e∈l.drop i,LE e n)
 | 0,i,hm,_=>by omega
 | m+1,i,hm,hi=>by
  unfold q2i
  by_cases hlt:i<l.length
  ·obtain ⟨e,he,hem⟩:=q2s hlt
   obtain ⟨hok,hs⟩:=hn e hem
   obtain ⟨c,k1,_,_,_⟩:=Nodes_ok _ e.Lex (Nat.lt_succ_self _) hok n (by omega) 21 (by omega) (by omega)
   simp only [dlt hlt,cond_true,q2a,he,q0e,k1]
   by_cases h1:c > 20
   ·simp only [h1,decide_true,cond_true,q0e]; exact ⟨false,rfl,fun h=>by cases h⟩
   ·by_cases h2:(e.FS.Nodes.length:Int) > 20
    ·simp only [h1,h2,decide_true,decide_false,cond_true,cond_false,q0e]; exact ⟨false,rfl,fun h=>by cases h⟩
    ·by_cases h3:(e.Kids.length:Int) > 10
     ·simp only [h1,h2,h3,decide_true,decide_false,cond_true,cond_false,q0e]; exact ⟨false,rfl,fun h=>by cases h⟩
     ·simp only [h1,h2,h3,decide_false,cond_false,q0e]
      obtain ⟨b,q1,q2⟩:=light_L1 hl hn1 hn m (i+1) (by omega) (by omega)
      rcases light_L2 he (by omega) (rc:=q2i l n m) n 0 (by omega) (by omega) with h | ⟨h4,h5⟩
      ·rw [Int.ofNat_zero] at h
       rw [h]; exact ⟨false,rfl,fun h=>by cases h⟩
      ·rw [Int.ofNat_zero,wr1 hlt (show l.length≤9223372036854775807 by omega),q1] at h4
       rw [h4]
       refine ⟨b,rfl,fun hb=>?_⟩
       rw [drop_cons' he]
       intro x hx
       rcases List.mem_cons.1 hx with rfl | hx
       ·exact ⟨by omega,by omega,by simpa using h5,hok,hs⟩
       ·exact q2 hb x hx
  ·simp only [dnlt hlt,cond_false,q5s,drop_nil' hlt]
   exact ⟨true,rfl,fun _ x hx=>by cases hx⟩
theorem light_ok {l:List GEdge} {n:Nat} (hn1:1001≤n) (hn:∀ e∈l,okG e.Lex∧SizeOf.sizeOf e.Lex+1001≤n):∃ b,q4u n l 12=some b∧(b=true→l.length≤12∧∀ e∈l,LE e n):=by
 unfold q4u
 by_cases h:(l.length:Int) > 12
 ·simp only [h,decide_true,cond_true]; exact ⟨false,rfl,fun h=>by cases h⟩
 ·simp only [h,decide_false,cond_false]
  obtain ⟨b,q1,q2⟩:=light_L1 (l:=l) (by omega) hn1 hn n 0 (by omega) (by omega)
  rw [Int.ofNat_zero] at q1
  exact ⟨b,q1,fun hb=>⟨by omega,by simpa using q2 hb⟩⟩
theorem eqA_self (x:GArc):eqGArc x x=true:=by cases x; simp [eqGArc]
theorem sameFS_L2 {x:GNode} (hx:x.Arcs.length≤20) {z:Int} {rc:Int→Option Bool}:∀ (m k:Nat),x.Arcs.length - k<m→k≤x.Arcs.length→q3g z rc x x m k=rc (IntKind.i64.wrap (z+1))
 | 0,k,hm,_=>by omega
 | m+1,k,hm,hk=>by
  unfold q3g
  by_cases hlt:k<x.Arcs.length
  ·obtain ⟨y,hy,_⟩:=q2s hlt
   simp only [dlt hlt,cond_true,q2a,hy,q0e,eqA_self,Bool.not_true,cond_false,wr1 hlt (show x.Arcs.length≤9223372036854775807 by omega)]
   exact sameFS_L2 hx m (k+1) (by omega) (by omega)
  ·simp only [dnlt hlt,cond_false,q5f]
theorem sameFS_L1 {f:GFS} (h1:f.Nodes.length≤20) (h2:∀ x∈f.Nodes,x.Arcs.length≤20) {n:Nat} (hn:1001≤n):∀ (m i:Nat),f.Nodes.length - i<m→i≤f.Nodes.length→q29 f f n m i=some true
 | 0,i,hm,_=>by omega
 | m+1,i,hm,hi=>by
  unfold q29
  by_cases hlt:i<f.Nodes.length
  ·obtain ⟨x,hx,hxm⟩:=q2s hlt
   have h3:=sameFS_L2 (h2 x hxm) (z:=(i:Int)) (rc:=q29 f f n m) n 0 (by have:=h2 x hxm; omega) (by omega)
   rw [Int.ofNat_zero,wr1 hlt (show f.Nodes.length≤9223372036854775807 by omega)] at h3
   simp only [dlt hlt,cond_true,q2a,hx,q0e,bne_self_eq_false,cond_false,h3]
   exact sameFS_L1 h1 h2 hn m (i+1) (by omega) (by omega)
  ·simp only [dnlt hlt,cond_false,q5e]
theorem sameFS_ok {e:GEdge} {n:Nat} (h:LE e n) (hn:1001≤n):q51 n e.FS e.FS=some true:=by
 have h1:=h.nodes
 have:=sameFS_L1 h.nodes h.arcs hn n 0 (by omega) (by omega)
 rw [Int.ofNat_zero] at this
 simp only [q51,bne_self_eq_false,cond_false,this]
theorem sameE_L1 {e:GEdge} {n:Nat} (h:LE e n) (hn:1001≤n):∀ (m i:Nat),e.Kids.length - i<m→i≤e.Kids.length→q2t e e n m i=some true
 | 0,i,hm,_=>by omega
 | m+1,i,hm,hi=>by
  have hk:=h.kids
  unfold q2t
  by_cases hlt:i<e.Kids.length
  ·obtain ⟨x,hx,_⟩:=q2s hlt
   simp only [dlt hlt,cond_true,q2a,hx,q0e,bne_self_eq_false,cond_false,wr1 hlt (show e.Kids.length≤9223372036854775807 by omega)]
   exact sameE_L1 h hn m (i+1) (by omega) (by omega)
  ·simp only [dnlt hlt,cond_false,q4e,qa0 n e.Lex e.Lex (by have:=h.fuel; omega) h.ok,cmpD_ok.self e.Lex,beq_self_eq_true,cond_true,sameFS_ok h hn,q0e]
theorem sameE_ok {e:GEdge} {n:Nat} (h:LE e n) (hn:1001≤n):q3w n e e=some true:=by
 have hk:=h.kids
 have:=sameE_L1 h hn n 0 (by omega) (by omega)
 rw [Int.ofNat_zero] at this
 simp only [q3w,bne_self_eq_false,cond_false,q74,Bool.not_true,q0e,this]
theorem same_L1 {c:GChart} {n:Nat} (h:∀ e∈c.Edges,LE e n) (hl:c.Edges.length≤12) (hn:1001≤n):∀ (m i:Nat),c.Edges.length - i<m→i≤c.Edges.length→q4f c c n m i=some true
 | 0,i,hm,_=>by omega
 | m+1,i,hm,hi=>by
  unfold q4f
  by_cases hlt:i<c.Edges.length
  ·obtain ⟨x,hx,hxm⟩:=q2s hlt
   simp only [dlt hlt,cond_true,q2a,hx,q0e,sameE_ok (h x hxm) hn,Bool.not_true,cond_false,wr1 hlt (show c.Edges.length≤9223372036854775807 by omega)]
   exact same_L1 h hl hn m (i+1) (by omega) (by omega)
  ·simp only [dnlt hlt,cond_false,q6g]
theorem same_ok {c:GChart} {n:Nat} (h:∀ e∈c.Edges,LE e n) (hl:c.Edges.length≤12) (hn:1001≤n):q6n n c c=some true:=by
 have:=same_L1 h hl hn n 0 (by omega) (by omega)
 rw [Int.ofNat_zero] at this
 simp only [q6n,bne_self_eq_false,cond_false,q0e,this]
end Go.Proofs
end
section
namespace Go.Proofs
open Go Go.Rx Go.Vx Go.Sort
set_option linter.unusedVariables false
set_option linter.unusedSimpArgs false
def zeroD:GDeriv:=.mk 0 [] 0 0 []
def dvE (D:List GDeriv) (e:GEdge):GDeriv:=if e.Kind=1 then e.Lex else .mk 2 e.Name e.From e.To (e.Kids.map fun k=>D.getD k.toNat zeroD)
def dvs (es:List GEdge):List GDeriv:=es.foldl (fun D e=>D++[dvE D e]) []
theorem dvs_app (es:List GEdge) (e:GEdge):dvs (es++[e])=dvs es++[dvE (dvs es) e]:=by simp [dvs]
theorem dvF_len:∀ (es:List GEdge) (D:List GDeriv),(es.foldl (fun D e=>D++[dvE D e]) D).length=D.length+es.length
 | [],D=>by simp
 | e::es,D=>by rw [List.foldl_cons,dvF_len es]; simp; omega
theorem qag (es:List GEdge):(dvs es).length=es.length:=by rw [dvs,dvF_len]; simp
theorem dvF_pre:∀ (es:List GEdge) (D:List GDeriv) (j:Nat),j<D.length→(es.foldl (fun D e=>D++[dvE D e]) D)[j]? = D[j]?
 | [],D,j,h=>rfl
 | e::es,D,j,h=>by rw [List.foldl_cons,dvF_pre es _ j (by simp; omega),List.getElem?_append_left h]
theorem dvs_pre (es fs:List GEdge) {j:Nat} (h:j<es.length):(dvs (es++fs))[j]? = (dvs es)[j]?:=by
 have:dvs (es++fs)=fs.foldl (fun D e=>D++[dvE D e]) (dvs es):=by simp [dvs]
 rw [this,dvF_pre _ _ _ (by rw [qag]; exact h)]
theorem dvs_take {es:List GEdge} {i j:Nat} (h:j<i) (hi:i≤es.length):(dvs (es.take i))[j]? = (dvs es)[j]?:=by
 have:=dvs_pre (es.take i) (es.drop i) (j:=j) (by simp; omega)
 rw [List.take_append_drop] at this
 exact this.symm
theorem dvs_get {es:List GEdge} {i:Nat} {e:GEdge} (h:es[i]? = some e):(dvs es)[i]? = some (dvE (dvs (es.take i)) e):=by
 have hl:=(List.getElem?_eq_some_iff.1 h).1
 rw [← dvs_take (i:=i+1) (by omega) (by omega),take_snoc h,dvs_app,List.getElem?_append_right (by rw [qag,List.length_take]; omega),qag,show i - (es.take i).length=0 by rw [List.length_take]; omega]
 rfl
theorem dvE_congr {D D':List GDeriv} {e:GEdge} {i:Nat} (hk:∀ k∈e.Kids,0≤k∧k.toNat<i) (h:∀ j,j<i→D[j]? = D'[j]?):dvE D e=dvE D' e:=by
 unfold dvE
 split
 ·rfl
 ·congr 1
  refine List.map_congr_left fun k hm=>?_
  rw [List.getD_eq_getElem?_getD,List.getD_eq_getElem?_getD,h _ (hk k hm).2]
theorem lex_ok:∀ (n:Nat) (d:GDeriv),SizeOf.sizeOf d≤n→∃ b,q33 n d=some b∧q37 n d=some b∧(b=true→d.Kind=0∨d.Kind=1)
 | 0,d,h=>by cases d; simp at h
 | n+1,d,h=>by
  simp only [q33,q6p,q37,q6v]
  by_cases h0:d.Kind=0
  ·exact ⟨_,by simp [h0]; rfl,by simp [h0],fun _=>.inl h0⟩
  ·have e0:(d.Kind == 0)=false:=by simpa using h0
   rw [e0]
   by_cases h1:d.Kind=1
   ·have e1:(d.Kind == 1)=true:=by simp [h1]
    rw [e1]
    by_cases hl:d.Kids.length=1
    ·have el:((d.Kids.length:Int) == 1)=true:=by simp [hl]
     obtain ⟨x,hx,hxm⟩:=q2s (show 0<d.Kids.length by omega)
     have hi:idxO d.Kids 0=some x:=by have:=q2a (l:=d.Kids) 0; rw [Int.ofNat_zero] at this; rw [this,hx]
     obtain ⟨b,q1,q2,_⟩:=lex_ok n x (by have:=kid_lt d hxm; omega)
     simp only [cond_false,cond_true,el,hi,q0e,q1,q2]
     cases (x.From == d.From)<;>cases (x.To == d.To)<;>simp [h1,q0e]
    ·have el:((d.Kids.length:Int) == 1)=false:=by simp; omega
     exact ⟨false,by simp [el,q0e],by simp [el,q0e],fun h=>by cases h⟩
   ·have e1:(d.Kind == 1)=false:=by simpa using h1
    rw [e1]
    exact ⟨false,by simp [q0e],by simp [q0e],fun h=>by cases h⟩
def Adj (es:List GEdge):Int→List Int→Int→Prop
 | a,[],t=>a=t
 | a,k::ks,t=>0≤k∧∃ x,es[k.toNat]? = some x∧x.From=a∧Adj es x.To ks t
def unaryOf (es:List GEdge):List Int→Int
 | [k]=>match es[k.toNat]? with
  | some x=>x.Unary+1
  | none=>0
 | _=>0
def FormP (es:List GEdge) (e:GEdge):Prop :=
 (e.Kind=1∧e.Kids=[]∧e.Unary=0∧(e.Lex.Kind=0∨e.Lex.Kind=1)∧e.Lex.From=e.From∧e.Lex.To=e.To∧e.Name=e.Lex.Name) ∨
 (e.Kind=2∧1≤e.Kids.length∧e.Kids.length≤2∧Adj es e.From e.Kids e.To∧e.Lex=zeroD∧e.Unary=unaryOf es e.Kids∧e.Unary≤2)
theorem Adj.kids {es:List GEdge}:∀ {ks:List Int} {a t:Int},Adj es a ks t→∀ k∈ks,0≤k∧k.toNat<es.length
 | [],a,t,h,k,hk=>by cases hk
 | q::ks,a,t,h,k,hk=>by
  obtain ⟨h1,x,h2,_,h3⟩:=h
  rcases List.mem_cons.1 hk with rfl | hk
  ·exact ⟨h1,(List.getElem?_eq_some_iff.1 h2).1⟩
  ·exact h3.kids k hk
theorem FormP.kids {es:List GEdge} {e:GEdge} (h:FormP es e):∀ k∈e.Kids,0≤k∧k.toNat<es.length:=by
 rcases h with ⟨_,h,_⟩ | ⟨_,_,_,h,_⟩
 ·rw [h]; intro k hk; cases hk
 ·exact h.kids
theorem idxZ {α:Type} {l:List α} {k:Int} {x:α} (h0:0≤k) (h:l[k.toNat]? = some x):idxO l k=some x:=by
 have:=q2a (l:=l) k.toNat
 rw [Int.toNat_of_nonneg h0] at this
 rw [this,h]
theorem form_L {c:GChart} {e:GEdge} (hk:e.Kids.length≤10) (hu:∀ x∈c.Edges,0≤x.Unary∧x.Unary≤2) (hcl:c.Edges.length≤12):∀ (m i:Nat) (a:Int),e.Kids.length - i<m→i≤e.Kids.length→(∀ k∈e.Kids.take i,0≤k∧k.toNat<c.Edges.length) →
  ∃ b,q3e c e m a i=some b∧q3j c e m a i=some b∧(b=true→Adj c.Edges a (e.Kids.drop i) e.To∧e.Unary=unaryOf c.Edges e.Kids∧e.Unary≤2)
 | 0,i,a,hm,_,_=>by omega
 | m+1,i,a,hm,hi,ht=>by
  unfold q3e q3j
  by_cases hlt:i<e.Kids.length
  ·obtain ⟨k,hkk,_⟩:=q2s hlt
   simp only [dlt hlt,cond_true,q2a,hkk,q0e,drop_cons' hkk]
   by_cases h0:k<0
   ·simp only [h0,decide_true,cond_true,q0e]; exact ⟨false,rfl,rfl,fun h=>by cases h⟩
   ·by_cases h1:k ≥ (c.Edges.length:Int)
    ·simp only [h0,h1,decide_true,decide_false,cond_true,cond_false,q0e]; exact ⟨false,rfl,rfl,fun h=>by cases h⟩
    ·obtain ⟨x,hx,hxm⟩:=q2s (show k.toNat<c.Edges.length by omega)
     have hix:=idxZ (show 0≤k by omega) hx
     simp only [h0,h1,decide_false,cond_false,hix,q0e]
     by_cases h2:x.From=a
     ·have e2:(x.From != a)=false:=by simp [h2]
      obtain ⟨b,q1,q2,q3⟩:=form_L hk hu hcl m (i+1) x.To (by omega) (by omega) (fun q hq=>by
       rw [take_snoc hkk] at hq
       rcases List.mem_append.1 hq with hq | hq
       ·exact ht q hq
       ·simp at hq; subst hq; exact ⟨by omega,by omega⟩)
      simp only [e2,cond_false,wr1 hlt (show e.Kids.length≤9223372036854775807 by omega),q1,q2]
      exact ⟨b,rfl,rfl,fun hb=>⟨⟨by omega,x,hx,h2,(q3 hb).1⟩,(q3 hb).2⟩⟩
     ·have e2:(x.From != a)=true:=by simpa using h2
      simp only [e2,cond_true]; exact ⟨false,rfl,rfl,fun h=>by cases h⟩
  ·have hie:i=e.Kids.length:=by omega
   rw [hie,List.take_length] at ht
   simp only [dnlt hlt,cond_false,q59,q5g,drop_nil' hlt,Adj]
   by_cases h1:e.Kids.length=1
   ·have e1:((e.Kids.length:Int) == 1)=true:=by simp [h1]
    obtain ⟨k,hke⟩:∃ k,e.Kids=[k]:=List.length_eq_one_iff.1 h1
    have hk1:=ht k (by rw [hke]; simp)
    obtain ⟨x,hx,hxm⟩:=q2s hk1.2
    have hu1:=hu x hxm
    have hi0:idxO e.Kids 0=some k:=by rw [hke]; rfl
    have hun:unaryOf c.Edges e.Kids=x.Unary+1:=by rw [hke]; simp only [unaryOf,hx]
    simp only [e1,cond_true,hi0,q0e,idxZ hk1.1 hx,q3d,q3i,wr (show -9223372036854775808≤x.Unary+1 by omega) (by omega),hun]
    by_cases ha:a=e.To
    ·have ea:(a == e.To)=true:=by simpa using ha
     have ea2:(a != e.To)=false:=by simpa using ha
     by_cases hb:e.Unary=x.Unary+1
     ·have eb:(e.Unary == x.Unary+1)=true:=by simpa using hb
      refine ⟨decide (x.Unary+1≤2),by simp only [ea,eb,cond_true,q0e],by simp only [ea2,eb,cond_true,cond_false,q0e],fun h=>⟨ha,hb,?_⟩⟩
      simp at h; omega
     ·have eb:(e.Unary == x.Unary+1)=false:=by simpa using hb
      exact ⟨false,by simp only [ea,eb,cond_true,cond_false,q0e],by simp only [ea2,eb,cond_false,q0e],fun h=>by cases h⟩
    ·have ea:(a == e.To)=false:=by simpa using ha
     have ea2:(a != e.To)=true:=by simpa using ha
     exact ⟨false,by simp only [ea,cond_false,q0e],by simp only [ea2,cond_true],fun h=>by cases h⟩
   ·have e1:((e.Kids.length:Int) == 1)=false:=by simp; omega
    have hun:unaryOf c.Edges e.Kids=0:=by
     match hks:e.Kids with
     | []=>rfl
     | [k]=>rw [hks] at h1; simp at h1
     | _::_::_=>rfl
    simp only [e1,cond_false,q3d,q3i,hun]
    by_cases ha:a=e.To
    ·have ea:(a == e.To)=true:=by simpa using ha
     have ea2:(a != e.To)=false:=by simpa using ha
     by_cases hb:e.Unary=0
     ·have eb:(e.Unary == 0)=true:=by simpa using hb
      exact ⟨true,by simp only [ea,eb,cond_true,q0e]; rfl,by simp only [ea2,eb,cond_true,cond_false,q0e]; rfl,fun _=>⟨ha,hb,by omega⟩⟩
     ·have eb:(e.Unary == 0)=false:=by simpa using hb
      exact ⟨false,by simp only [ea,eb,cond_true,cond_false,q0e],by simp only [ea2,eb,cond_false,q0e],fun h=>by cases h⟩
    ·have ea:(a == e.To)=false:=by simpa using ha
     have ea2:(a != e.To)=true:=by simpa using ha
     exact ⟨false,by simp only [ea,cond_false,q0e],by simp only [ea2,cond_true],fun h=>by cases h⟩
theorem zero_ok (n:Nat) (d:GDeriv):∃ b,q6k n d=some b∧q6o n d=some b∧(b=true→d=zeroD):=by
 refine ⟨d.Kind == 0&&(bytesEq d.Name []&&(d.From == 0&&(d.To == 0&&((d.Kids.length:Int) == 0)))),?_,?_,fun h=>?_⟩
 ·simp only [q6k]
  cases (d.Kind == 0)<;>cases (bytesEq d.Name [])<;>cases (d.From == 0)<;>cases (d.To == 0)<;>simp [q0e]
 ·simp only [q6o]
  cases (d.Kind == 0)<;>cases (bytesEq d.Name [])<;>cases (d.From == 0)<;>cases (d.To == 0)<;>simp [q0e]
 ·simp only [Bool.and_eq_true,q4t,beq_iff_eq] at h
  obtain ⟨h1,h2,h3,h4,h5⟩:=h
  cases d with
  | mk k nm f t ks =>
   simp only [GDeriv.Kind,GDeriv.Name,GDeriv.From,GDeriv.To,GDeriv.Kids] at h1 h2 h3 h4 h5
   have hks:ks=[]:=List.eq_nil_of_length_eq_zero (by omega)
   subst h1 h2 h3 h4 hks
   rfl
theorem formed_ok {c:GChart} {e:GEdge} {n:Nat} (he:LE e n) (hn:1001≤n) (hu:∀ x∈c.Edges,0≤x.Unary∧x.Unary≤2) (hcl:c.Edges.length≤12) (hkd:e.Kind=1∨e.Kind=2) :
  ∃ b,q4y n c e=some b∧q52 n c e=some b∧(b=true→FormP c.Edges e):=by
 have hk:=he.kids
 unfold q4y q52
 by_cases h1:e.Kind=1
 ·have e1:(e.Kind == 1)=true:=by simp [h1]
  obtain ⟨lb,l1,l2,l3⟩:=lex_ok n e.Lex (by have:=he.fuel; omega)
  simp only [e1,cond_true,l1,l2,q0e]
  refine ⟨((e.Kids.length:Int) == 0)&&((e.Unary == 0)&&(lb&&((e.Lex.From == e.From)&&((e.Lex.To == e.To)&&bytesEq e.Name e.Lex.Name)))),?_,?_,fun h=>?_⟩
  ·cases ((e.Kids.length:Int) == 0)<;>cases (e.Unary == 0)<;>cases lb<;>cases (e.Lex.From == e.From)<;>cases (e.Lex.To == e.To)<;>simp [q0e]
  ·cases ((e.Kids.length:Int) == 0)<;>cases (e.Unary == 0)<;>cases lb<;>cases (e.Lex.From == e.From)<;>cases (e.Lex.To == e.To)<;>cases (bytesEq e.Name e.Lex.Name)<;>simp [q0e]
  ·simp only [Bool.and_eq_true,q4t,beq_iff_eq] at h
   obtain ⟨g1,g2,g3,g4,g5,g6⟩:=h
   exact .inl ⟨h1,List.eq_nil_of_length_eq_zero (by omega),g2,l3 g3,g4,g5,g6⟩
 ·have h2:e.Kind=2:=hkd.resolve_left h1
  have e1:(e.Kind == 1)=false:=by simpa using h1
  obtain ⟨zb,z1,z2,z3⟩:=zero_ok n e.Lex
  obtain ⟨b,q1,q2,q3⟩:=form_L (c:=c) (e:=e) hk hu hcl n 0 e.From (by omega) (by omega) (by simp)
  rw [Int.ofNat_zero] at q1 q2
  simp only [e1,cond_false,z1,z2,q0e]
  cases hb:bytesEq e.Name [] with
  | true=>exact ⟨false,by simp [q0e],by simp [q0e],fun h=>by cases h⟩
  | false =>
   cases zb with
   | false=>exact ⟨false,by simp [q0e],by simp [q0e],fun h=>by cases h⟩
   | true =>
    by_cases hk0:e.Kids.length=0
    ·have a1:((e.Kids.length:Int) == 0)=true:=by simp [hk0]
     have a2:decide ((e.Kids.length:Int)<1)=true:=by simp; omega
     exact ⟨false,by simp only [a1,Bool.not_true,cond_false,cond_true,q0e],by simp only [a2,Bool.not_true,cond_false,cond_true,q0e],fun h=>by cases h⟩
    ·have a1:((e.Kids.length:Int) == 0)=false:=by rw [Bool.eq_false_iff]; intro h; have:=beq_iff_eq.1 h; omega
     have a2:decide ((e.Kids.length:Int)<1)=false:=by simp; omega
     simp only [a1,a2,Bool.not_true,cond_false,q0e]
     by_cases hk2:(e.Kids.length:Int) > 2
     ·simp only [hk2,decide_true,cond_true]; exact ⟨false,rfl,rfl,fun h=>by cases h⟩
     ·simp only [hk2,decide_false,cond_false,q1,q2]
      exact ⟨b,rfl,rfl,fun h=>.inr ⟨h2,by omega,by omega,by simpa using (q3 h).1,z3 rfl,(q3 h).2.1,(q3 h).2.2⟩⟩
end Go.Proofs
end
section
namespace Go.Proofs
open Go Go.Rx Go.Vx Go.Sort
set_option linter.unusedVariables false
set_option linter.unusedSimpArgs false
structure WF (w:Int) (es:List GEdge) (n:Nat):Prop where
 len:es.length≤12
 le:∀ e∈es,LE e n
 rng:∀ e∈es,0≤e.From∧e.From<e.To∧e.To≤w
 una:∀ e∈es,0≤e.Unary∧e.Unary≤2
 form:∀ (i:Nat) (e:GEdge),es[i]? = some e→FormP (es.take i) e
 nodup:(dvs es).Nodup
theorem WF.kids {w:Int} {es:List GEdge} {n:Nat} (h:WF w es n) {i:Nat} {e:GEdge} (he:es[i]? = some e):∀ k∈e.Kids,0≤k∧k.toNat<i:=fun k hk=>by
 have h1:=(h.form i e he).kids k hk
 have h2:=(List.getElem?_eq_some_iff.1 he).1
 rw [List.length_take] at h1
 exact ⟨h1.1,by omega⟩
theorem WF.get {w:Int} {es:List GEdge} {n:Nat} (h:WF w es n) {i:Nat} {e:GEdge} (he:es[i]? = some e):(dvs es)[i]? = some (dvE (dvs es) e):=by
 rw [dvs_get he]
 congr 1
 have h2:=(List.getElem?_eq_some_iff.1 he).1
 exact dvE_congr (h.kids he) fun j hj=>dvs_take hj (by omega)
theorem rder_L {c:GChart} {e:GEdge} {D:List GDeriv} (hk:e.Kids.length≤10) {self:GChart→GEdge→Option GDeriv} (hs:∀ k∈e.Kids,∃ x,idxO c.Edges k=some x∧self c x=some (D.getD k.toNat zeroD)):∀ (m i:Nat) (a:List GDeriv),e.Kids.length - i<m→i≤e.Kids.length→a.length≤i →
  q1l c e self m i a=some (.mk 2 e.Name e.From e.To (a++(e.Kids.drop i).map fun k=>D.getD k.toNat zeroD))
 | 0,i,a,hm,_,_=>by omega
 | m+1,i,a,hm,hi,ha=>by
  unfold q1l
  by_cases hlt:i<e.Kids.length
  ·obtain ⟨k,hkk,hkm⟩:=q2s hlt
   obtain ⟨x,h1,h2⟩:=hs k hkm
   simp only [dlt hlt,cond_true,q2a,hkk,q0e,h1,h2,wr1 hlt (show e.Kids.length≤9223372036854775807 by omega),drop_cons' hkk,List.map_cons]
   rw [q8w ⟨by omega,by omega⟩,rder_L hk hs m (i+1) _ (by omega) (by omega) (by simp; omega)]
   simp
  ·simp only [dnlt hlt,cond_false,q2x,drop_nil' hlt,List.map_nil,List.append_nil]
theorem rder_ok {w:Int} {es:List GEdge} {n0:Nat} (h:WF w es n0):∀ (s i:Nat) (e:GEdge),i<s→(∀ k∈e.Kids,0≤k∧k.toNat<i)→i≤es.length→e.Kids.length≤10→∀ n,i+20≤n→q11 n ⟨w,es⟩ e=some (dvE (dvs es) e)
 | 0,i,e,hs,_,_,_,_,_=>by omega
 | s+1,i,e,hs,hk,hi,hkl,n,hn=>by
  obtain ⟨n,rfl⟩:∃ m,n=m+1:=⟨n - 1,by omega⟩
  simp only [q11,q40,dvE]
  by_cases h1:e.Kind=1
  ·simp [h1]
  ·have e1:(e.Kind == 1)=false:=by simpa using h1
   have h2:=rder_L (c:=⟨w,es⟩) (D:=dvs es) hkl (self:=q11 n) (fun k hkm=>by
    obtain ⟨k0,k1⟩:=hk k hkm
    obtain ⟨x,hx,hxm⟩:=q2s (show k.toNat<es.length by omega)
    refine ⟨x,idxZ k0 hx,?_⟩
    rw [rder_ok h s k.toNat x (by omega) (h.kids hx) (by omega) (h.le x hxm).kids n (by omega)]
    rw [List.getD_eq_getElem?_getD,h.get hx]; rfl) n 0 [] (by omega) (by omega) (by simp)
   rw [Int.ofNat_zero] at h2
   rw [e1,cond_false,h2,if_neg h1]
   simp
theorem cder_L (c:GChart) (e:GEdge) (self:GChart→GEdge→Option GDeriv):∀ (m:Nat) (z:Int) (a:List GDeriv),q2e c e self m z a=q1l c e self m z a
 | 0,z,a=>rfl
 | m+1,z,a=>by unfold q2e q1l; simp only [cder_L c e self m,q3l,q2x]
theorem cder_eq:∀ n,q1y n=q11 n
 | 0=>rfl
 | n+1=>by
  funext c e
  simp only [q1y,q11,q58,q40,cder_eq n,cder_L]
theorem Deriv_eq (n:Nat) (c:GChart) (z:Int):q42 n c z=q2p n c z:=by simp only [q42,q2p,cder_eq]
theorem Deriv_ok {w:Int} {es:List GEdge} {n0:Nat} (h:WF w es n0) {i:Nat} {e:GEdge} (he:es[i]? = some e) {n:Nat} (hn:100≤n):q2p n ⟨w,es⟩ i=some (dvE (dvs es) e):=by
 have hl:=(List.getElem?_eq_some_iff.1 he).1
 have h12:=h.len
 have c1:decide ((i:Int)<0)=false:=by rw [decide_eq_false_iff_not]; omega
 have c2:decide ((i:Int) ≥ (es.length:Int))=false:=by simp; omega
 simp only [q2p,c1,c2,cond_false,q0e,q2a,he,rder_ok h (i+1) i e (by omega) (h.kids he) (by omega) (h.le e (List.mem_of_getElem? he)).kids n (by omega)]
theorem FormP.kind {es:List GEdge} {e:GEdge} (h:FormP es e):e.Kind=1∨e.Kind=2:=by rcases h with h | h; exact .inl h.1; exact .inr h.1
theorem getD_inj {D:List GDeriv} (h:D.Nodup) {i j:Nat} (hi:i<D.length) (hj:j<D.length) (he:D.getD i zeroD=D.getD j zeroD):i=j:=by
 rw [List.getD_eq_getElem?_getD,List.getD_eq_getElem?_getD,List.getElem?_eq_getElem hi,List.getElem?_eq_getElem hj] at he
 exact (List.getElem_inj h).1 (by simpa using he)
theorem map_inj {D:List GDeriv} (h:D.Nodup):∀ {a b:List Int},(∀ k∈a,0≤k∧k.toNat<D.length)→(∀ k∈b,0≤k∧k.toNat<D.length)→(a.map fun k=>D.getD k.toNat zeroD)=(b.map fun k=>D.getD k.toNat zeroD)→a=b
 | [],[],_,_,_=>rfl
 | [],_::_,_,_,h=>by simp at h
 | _::_,[],_,_,h=>by simp at h
 | x::a,y::b,ha,hb,he=>by
  simp only [List.map_cons,List.cons.injEq] at he
  have hx:=ha x (by simp)
  have hy:=hb y (by simp)
  have:=getD_inj h hx.2 hy.2 he.1
  rw [map_inj h (fun k hk=>ha k (by simp [hk])) (fun k hk=>hb k (by simp [hk])) he.2,show x=y by omega]
theorem same_iff {D:List GDeriv} (hD:D.Nodup) {es fs:List GEdge} {x e:GEdge} (hx:FormP es x) (he:FormP fs e) (h1:es.length≤D.length) (h2:fs.length≤D.length) :
  dvE D x=dvE D e↔x.Kind=e.Kind∧x.Name=e.Name∧x.From=e.From∧x.To=e.To∧(if e.Kind=1 then x.Lex=e.Lex else x.Kids=e.Kids):=by
 have kx:=hx.kids
 have ke:=he.kids
 rcases hx with ⟨a1,a2,a3,a4,a5,a6,a7⟩ | ⟨a1,a2,a3,a4,a5,a6,a7⟩<;>rcases he with ⟨b1,b2,b3,b4,b5,b6,b7⟩ | ⟨b1,b2,b3,b4,b5,b6,b7⟩
 ·simp only [dvE,a1,b1,if_true]
  constructor
  ·intro h; exact ⟨trivial,by rw [a7,b7,h],by rw [← a5,← b5,h],by rw [← a6,← b6,h],h⟩
  ·intro h; exact h.2.2.2.2
 ·have b1':¬ e.Kind=1:=by omega
  simp only [dvE,a1,b1',if_true,if_false]
  constructor
  ·intro h; rw [h] at a4; simp [GDeriv.Kind] at a4
  ·intro h; omega
 ·have a1':¬ x.Kind=1:=by omega
  simp only [dvE,b1,a1',if_true,if_false]
  constructor
  ·intro h; rw [← h] at b4; simp [GDeriv.Kind] at b4
  ·intro h; exfalso; first | omega | exact h.1 | exact absurd h.1 (by omega) | (simp at h)
 ·have a1':¬ x.Kind=1:=by omega
  have b1':¬ e.Kind=1:=by omega
  simp only [dvE,a1',b1',if_false]
  constructor
  ·intro h
   simp only [GDeriv.mk.injEq] at h
   obtain ⟨_,h3,h4,h5,h6⟩:=h
   exact ⟨by omega,h3,h4,h5,map_inj hD (fun k hk=>⟨(kx k hk).1,by have:=(kx k hk).2; omega⟩) (fun k hk=>⟨(ke k hk).1,by have:=(ke k hk).2; omega⟩) h6⟩
  ·rintro ⟨_,h3,h4,h5,h6⟩
   rw [h3,h4,h5,h6]
def scanR (c:GChart) (e:GEdge) (d:GDeriv):List GDeriv→Nat→GChart×Int×Int
 | [],i=>(⟨c.Words,c.Edges++[e]⟩,(c.Edges.length:Int),0)
 | x::l,i=>if x=d then (c,(i:Int),4) else scanR c e d l (i+1)
theorem eqI_L {a b:List Int} (hl:a.length≤9223372036854775807) (he:a.length=b.length):∀ (m i:Nat),a.length - i<m→i≤a.length→q2f a b m i=some (decide (a.drop i=b.drop i))
 | 0,i,hm,_=>by omega
 | m+1,i,hm,hi=>by
  unfold q2f
  by_cases hlt:i<a.length
  ·obtain ⟨x,hx,_⟩:=q2s hlt
   obtain ⟨y,hy,_⟩:=q2s (show i<b.length by omega)
   simp only [dlt hlt,cond_true,q2a,hx,hy,q0e,wr1 hlt hl,drop_cons' hx,drop_cons' hy,List.cons.injEq]
   by_cases h:x=y
   ·have e:(x != y)=false:=by simp [h]
    rw [e,cond_false]
    simp only [h,true_and]
    exact eqI_L hl he m (i+1) (by omega) (by omega)
   ·have e:(x != y)=true:=by simpa using h
    simp [e,h]
  ·have h2:¬ i<b.length:=by omega
   simp only [dnlt hlt,cond_false,q3o,drop_nil' hlt,drop_nil' h2]; simp
theorem eqI_ok {a b:List Int} (hl:a.length≤9223372036854775807) {n:Nat} (hn:a.length<n):q2q n a b=some (decide (a=b)):=by
 unfold q2q
 by_cases h:a.length=b.length
 ·have e:((a.length:Int) != (b.length:Int))=false:=by simp [h]
  have:=eqI_L hl h n 0 (by omega) (by omega)
  rw [e,cond_false]
  simpa using this
 ·have e:((a.length:Int) != (b.length:Int))=true:=by simp; omega
  have:¬ a=b:=fun e=>h (by rw [e])
  simp [e,this]
theorem cut_self {α:Type} {l:List α} (hl:l.length≤1000):cutF l (l.length:Int)=some l:=by unfold cutF; rw [if_pos ⟨by omega,by omega,by omega⟩]; simp
theorem bytes_dec (a b:List UInt8):bytesEq a b=decide (a=b):=by rw [Bool.eq_iff_iff,q4t]; simp
theorem add_L {w:Int} {es:List GEdge} {n:Nat} (h:WF w es n) (hn:1001≤n) {e:GEdge} (he:FormP es e) (hl:LE e n):∀ (m i:Nat),es.length - i<m→i≤es.length→q41 ⟨w,es⟩ e n m i=some (scanR ⟨w,es⟩ e (dvE (dvs es) e) ((dvs es).drop i) i)
 | 0,i,hm,_=>by omega
 | m+1,i,hm,hi=>by
  have h12:=h.len
  have hdl:=qag es
  unfold q41
  by_cases hlt:i<es.length
  ·obtain ⟨x,hx,hxm⟩:=q2s hlt
   have ih:=add_L h hn he hl m (i+1) (by omega) (by omega)
   have hs:=same_iff h.nodup (h.form i x hx) he (by rw [hdl,List.length_take]; omega) (by omega)
   have hlx:=h.le x hxm
   rw [drop_cons' (h.get hx)]
   simp only [dlt hlt,cond_true,q2a,hx,q0e,wr1 hlt (show es.length≤9223372036854775807 by omega),scanR,ih,bytes_dec]
   by_cases h1:x.Kind=e.Kind
   ·have e1:(x.Kind != e.Kind)=false:=by simp [h1]
    by_cases h2:x.Name=e.Name
    ·by_cases h3:x.From=e.From
     ·have e3:(x.From != e.From)=false:=by simp [h3]
      by_cases h4:x.To=e.To
      ·have e4:(x.To != e.To)=false:=by simp [h4]
       simp only [e1,h2,decide_true,Bool.not_true,e3,e4,cond_false,q0e]
       rcases he.kind with hk | hk
       ·have k1:(e.Kind == 1)=true:=by simp [hk]
        have k2:(e.Kind == 2)=false:=by simp [hk]
        simp only [k1,k2,cond_true,cond_false,qbz n x.Lex e.Lex (by have:=hlx.fuel; omega) hlx.ok,q0e]
        by_cases hc:x.Lex=e.Lex
        ·have:dvE (dvs es) x=dvE (dvs es) e:=hs.2 ⟨h1,h2,h3,h4,by rw [if_pos hk]; exact hc⟩
         have c0:(ccD x.Lex e.Lex == 0)=true:=by simpa using q9l.2 hc
         simp only [c0,cond_true,q0e,this,if_true]
        ·have:¬ dvE (dvs es) x=dvE (dvs es) e:=fun hh=>by have:=(hs.1 hh).2.2.2.2; rw [if_pos hk] at this; exact hc this
         have c0:(ccD x.Lex e.Lex == 0)=false:=by
          rw [Bool.eq_false_iff]; intro hh; exact hc (q9l.1 (by simpa using hh))
         simp only [c0,cond_false,q0e,this,if_false]
       ·have k1:(e.Kind == 1)=false:=by simp [hk]
        have k2:(e.Kind == 2)=true:=by simp [hk]
        have hkx:=hlx.kids
        simp only [k1,k2,cond_true,cond_false,eqI_ok (a:=x.Kids) (b:=e.Kids) (by omega) (n:=n) (by omega),q0e]
        by_cases hc:x.Kids=e.Kids
        ·have:dvE (dvs es) x=dvE (dvs es) e:=hs.2 ⟨h1,h2,h3,h4,by rw [if_neg (by omega)]; exact hc⟩
         simp only [hc,decide_true,cond_true,this,if_true]
        ·have:¬ dvE (dvs es) x=dvE (dvs es) e:=fun hh=>by have:=(hs.1 hh).2.2.2.2; rw [if_neg (by omega)] at this; exact hc this
         simp only [hc,decide_false,cond_false,this,if_false]
      ·have e4:(x.To != e.To)=true:=by simpa using h4
       have:¬ dvE (dvs es) x=dvE (dvs es) e:=fun hh=>h4 (hs.1 hh).2.2.2.1
       simp only [e1,h2,decide_true,Bool.not_true,e3,e4,cond_false,cond_true,q0e,this,if_false]
     ·have e3:(x.From != e.From)=true:=by simpa using h3
      have:¬ dvE (dvs es) x=dvE (dvs es) e:=fun hh=>h3 (hs.1 hh).2.2.1
      simp only [e1,h2,decide_true,Bool.not_true,e3,cond_false,cond_true,q0e,this,if_false]
    ·have:¬ dvE (dvs es) x=dvE (dvs es) e:=fun hh=>h2 (hs.1 hh).2.1
     simp only [e1,h2,decide_false,Bool.not_false,cond_false,cond_true,q0e,this,if_false]
   ·have e1:(x.Kind != e.Kind)=true:=by simpa using h1
    have:¬ dvE (dvs es) x=dvE (dvs es) e:=fun hh=>h1 (hs.1 hh).1
    simp only [e1,cond_true,q0e,this,if_false]
  ·rw [drop_nil' (l:=dvs es) (by omega)]
   simp only [dnlt hlt,cond_false,q75,cut_self (show es.length≤1000 by omega),q0e,scanR]
   rw [q8w ⟨by omega,by omega⟩]
theorem radd_L2 {w:Int} {es:List GEdge} (h12:es.length≤12) {e:GEdge}:∀ (m i:Nat) (a:List GEdge),es.length - i<m→i≤es.length→a.length≤i→q50 ⟨w,es⟩ e m i a=some (⟨w,a++es.drop i++[e]⟩,(es.length:Int),0)
 | 0,i,a,hm,_,_=>by omega
 | m+1,i,a,hm,hi,ha=>by
  unfold q50
  by_cases hlt:i<es.length
  ·obtain ⟨x,hx,_⟩:=q2s hlt
   simp only [dlt hlt,cond_true,q2a,hx,q0e,wr1 hlt (show es.length≤9223372036854775807 by omega),drop_cons' hx]
   rw [q8w ⟨by omega,by omega⟩,radd_L2 h12 m (i+1) _ (by omega) (by omega) (by simp; omega)]
   simp
  ·simp only [dnlt hlt,cond_false,q7a,drop_nil' hlt,List.append_nil]
   rw [q8w ⟨by omega,by omega⟩]
theorem radd_L1 {w:Int} {es:List GEdge} {n:Nat} (h:WF w es n) (hn:1001≤n) {e:GEdge} {d:GDeriv} (hD:∀ x∈dvs es,okG x∧SizeOf.sizeOf x+10≤n):∀ (m i:Nat),es.length - i<m→i≤es.length→q4z ⟨w,es⟩ e n d m i=some (scanR ⟨w,es⟩ e d ((dvs es).drop i) i)
 | 0,i,hm,_=>by omega
 | m+1,i,hm,hi=>by
  have h12:=h.len
  have hdl:=qag es
  unfold q4z
  by_cases hlt:i<es.length
  ·obtain ⟨x,hx,hxm⟩:=q2s hlt
   have ih:=radd_L1 h hn (e:=e) (d:=d) hD m (i+1) (by omega) (by omega)
   obtain ⟨q1,q2⟩:=hD _ (List.mem_of_getElem? (h.get hx))
   rw [drop_cons' (h.get hx)]
   simp only [dlt hlt,cond_true,Deriv_ok h hx (show 100≤n by omega),q0e,qa0 n (dvE (dvs es) x) d q2 q1,wr1 hlt (show es.length≤9223372036854775807 by omega),scanR,ih]
   by_cases hc:dvE (dvs es) x=d
   ·have c0:(ccD (dvE (dvs es) x) d == 0)=true:=by simpa using q9l.2 hc
    rw [c0,cond_true,if_pos hc]
   ·have c0:(ccD (dvE (dvs es) x) d == 0)=false:=by rw [Bool.eq_false_iff]; intro hh; exact hc (q9l.1 (by simpa using hh))
    rw [c0,cond_false,if_neg hc]
  ·have h2:=radd_L2 (w:=w) h12 (e:=e) n 0 [] (by omega) (by omega) (by simp)
   rw [Int.ofNat_zero] at h2
   rw [drop_nil' (l:=dvs es) (by omega)]
   simp only [dnlt hlt,cond_false,q79,h2,scanR]
   simp
end Go.Proofs
end
section
namespace Go.Proofs
open Go Go.Rx Go.Vx Go.Sort
set_option linter.unusedVariables false
set_option linter.unusedSimpArgs false
theorem sz_mk (k:Int) (nm:List UInt8) (f t:Int) (ks:List GDeriv):SizeOf.sizeOf (GDeriv.mk k nm f t ks)=1+SizeOf.sizeOf k+SizeOf.sizeOf nm+SizeOf.sizeOf f+SizeOf.sizeOf t+SizeOf.sizeOf ks:=by simp
theorem sz_zeroD:SizeOf.sizeOf zeroD≤20:=by unfold zeroD; rw [sz_mk]; decide
theorem sz_kids {B:Nat}:∀ {ks:List GDeriv},(∀ x∈ks,SizeOf.sizeOf x≤B)→SizeOf.sizeOf ks≤1+ks.length*(B+1)
 | [],_=>by simp
 | x::ks,h=>by
  have h1:=h x (by simp)
  have h2:=sz_kids (ks:=ks) fun y hy=>h y (by simp [hy])
  simp only [List.cons.sizeOf_spec,List.length_cons,Nat.add_mul]
  omega
theorem okG_zeroD:okG zeroD:=by simp [zeroD,okG,okGs]
theorem okGs_all:∀ {l:List GDeriv},(∀ d∈l,okG d)→okGs l
 | [],_=>by simp [okGs]
 | d::l,h=>by simp only [okGs]; exact ⟨h d (by simp),okGs_all fun e he=>h e (by simp [he])⟩
theorem dsz {w:Int} {es:List GEdge} {n S:Nat} (h:WF w es n) (hS:∀ e∈es,SizeOf.sizeOf e.Lex≤S∧SizeOf.sizeOf e.Name+SizeOf.sizeOf e.From+SizeOf.sizeOf e.To≤S):∀ (s i:Nat) (e:GEdge),i<s→es[i]? = some e→SizeOf.sizeOf (dvE (dvs es) e)≤(S+20)*3 ^ (i+1)∧okG (dvE (dvs es) e)
 | 0,i,e,hs,_=>by omega
 | s+1,i,e,hs,he=>by
  have hm:=List.mem_of_getElem? he
  obtain ⟨s1,s2⟩:=hS e hm
  have hp:1≤3 ^ i:=Nat.one_le_pow _ _ (by omega)
  have hpow:(S+20)*3 ^ (i+1)=3*((S+20)*3 ^ i):=by rw [Nat.pow_succ,Nat.mul_comm (3 ^ i) 3,Nat.mul_left_comm]
  have hbase:S+20≤(S+20)*3 ^ i:=Nat.le_mul_of_pos_right _ hp
  have hl:=(List.getElem?_eq_some_iff.1 he).1
  have hkid:∀ x∈e.Kids.map (fun k=>(dvs es).getD k.toNat zeroD),SizeOf.sizeOf x≤(S+20)*3 ^ i∧okG x:=fun x hx=>by
   obtain ⟨k,hk,rfl⟩:=List.mem_map.1 hx
   have hki:=h.kids he k hk
   obtain ⟨y,hy,_⟩:=q2s (show k.toNat<es.length by omega)
   rw [List.getD_eq_getElem?_getD,h.get hy]
   have h3:=dsz h hS s k.toNat y (by omega) hy
   refine ⟨Nat.le_trans h3.1 (Nat.mul_le_mul_left _ (Nat.pow_le_pow_right (by omega) (by omega))),h3.2⟩
  unfold dvE
  split
  ·exact ⟨by omega,(h.le e hm).ok⟩
  ·rename_i h1
   have hk2:e.Kids.length≤2:=by
    rcases h.form i e he with hf | hf
    ·exact absurd hf.1 h1
    ·exact hf.2.2.1
   refine ⟨?_,?_⟩
   ·have h4:=sz_kids (fun x hx=>(hkid x hx).1)
    rw [List.length_map] at h4
    rw [sz_mk]
    have h5:SizeOf.sizeOf (2:Int)=3:=rfl
    have h6:e.Kids.length*((S+20)*3 ^ i+1)≤2*((S+20)*3 ^ i+1):=Nat.mul_le_mul_right _ hk2
    omega
   ·simp only [okG,List.length_map]
    exact ⟨by omega,okGs_all fun x hx=>(hkid x hx).2⟩
theorem pow12 {i:Nat} (h:i≤12):3 ^ (i+1)≤1594323:=Nat.le_trans (Nat.pow_le_pow_right (by omega) (show i+1≤13 by omega)) (by decide)
structure Fit (l:List GEdge) (n:Nat):Prop where
 le:∀ e∈l,LE e n
 big:(SizeOf.sizeOf l+20)*1594323+2000≤n
theorem sz_edge {l:List GEdge} {e:GEdge} (h:e∈l):SizeOf.sizeOf e.Lex≤SizeOf.sizeOf l∧SizeOf.sizeOf e.Name+SizeOf.sizeOf e.From+SizeOf.sizeOf e.To≤SizeOf.sizeOf l:=by
 have h1:=List.sizeOf_lt_of_mem h
 cases e
 simp only [GEdge.mk.sizeOf_spec] at h1
 simp only []
 omega
theorem dfit {w:Int} {es l:List GEdge} {n:Nat} (h:WF w es n) (hl:Fit l n) (hsub:∀ e∈es,e∈l):∀ x∈dvs es,okG x∧SizeOf.sizeOf x+10≤n:=fun x hx=>by
 obtain ⟨i,hi⟩:=List.getElem?_of_mem hx
 have hil:=(List.getElem?_eq_some_iff.1 hi).1
 rw [qag] at hil
 obtain ⟨e,he,_⟩:=q2s hil
 rw [h.get he] at hi
 cases hi
 have h1:=dsz h (S:=SizeOf.sizeOf l) (fun e hem=>sz_edge (hsub e hem)) (i+1) i e (by omega) he
 have h2:=pow12 (i:=i) (by have:=h.len; omega)
 have h3:(SizeOf.sizeOf l+20)*3 ^ (i+1)≤(SizeOf.sizeOf l+20)*1594323:=Nat.mul_le_mul_left _ h2
 have h4:=hl.big
 exact ⟨h1.2,by omega⟩
theorem scan_cases (c:GChart) (e:GEdge) (d:GDeriv):∀ (l:List GDeriv) (i:Nat),(∃ j,scanR c e d l i=(c,j,4))∨(d ∉ l∧scanR c e d l i=(⟨c.Words,c.Edges++[e]⟩,(c.Edges.length:Int),0))
 | [],i=>.inr ⟨by simp,rfl⟩
 | x::l,i=>by
  by_cases h:x=d
  ·exact .inl ⟨i,by simp [scanR,h]⟩
  ·rcases scan_cases c e d l (i+1) with ⟨j,hj⟩ | ⟨h1,h2⟩
   ·exact .inl ⟨j,by simp [scanR,h,hj]⟩
   ·exact .inr ⟨by simp [h1,Ne.symm h],by simp [scanR,h,h2]⟩
theorem WF.snoc {w:Int} {es:List GEdge} {n:Nat} (h:WF w es n) {e:GEdge} (hl:es.length+1≤12) (he:LE e n) (hr:0≤e.From∧e.From<e.To∧e.To≤w) (hf:FormP es e) (hd:dvE (dvs es) e ∉ dvs es):WF w (es++[e]) n where
 len:=by simp; omega
 le:=fun x hx=>by rcases List.mem_append.1 hx with hx | hx; exact h.le x hx; simp at hx; subst hx; exact he
 rng:=fun x hx=>by rcases List.mem_append.1 hx with hx | hx; exact h.rng x hx; simp at hx; subst hx; exact hr
 una:=fun x hx=>by
  rcases List.mem_append.1 hx with hx | hx
  ·exact h.una x hx
  ·simp at hx; subst hx
   rcases hf with ⟨_,_,hu,_⟩ | ⟨_,_,_,_,_,hu,h2⟩
   ·omega
   ·refine ⟨?_,h2⟩
    rw [hu]
    unfold unaryOf
    split
    ·split
     ·rename_i y hy; have:=h.una y (List.mem_of_getElem? hy); omega
     ·omega
    ·omega
 form:=fun i x hx=>by
  by_cases hi:i<es.length
  ·rw [List.getElem?_append_left hi] at hx
   rw [List.take_append_of_le_length (by omega)]
   exact h.form i x hx
  ·have hie:i=es.length:=by have:=(List.getElem?_eq_some_iff.1 hx).1; simp at this; omega
   subst hie
   simp at hx
   subst hx
   simpa using hf
 nodup:=by
  rw [dvs_app,List.nodup_append]
  refine ⟨h.nodup,by simp,fun a ha b hb=>?_⟩
  simp at hb
  subst hb
  intro hc
  exact hd (hc ▸ ha)
theorem add_ok {w:Int} {es l:List GEdge} {n:Nat} (h:WF w es n) (hl:Fit l n) (hsub:∀ e∈es,e∈l) (h11:es.length+1≤12) {e:GEdge} (hel:e∈l) :
  ∃ es' k z,q3c n ⟨w,es⟩ e=some (⟨w,es'⟩,k,z)∧q7r n ⟨w,es⟩ e=some (⟨w,es'⟩,k,z)∧WF w es' n∧(∀ x∈es',x∈l)∧es'.length≤es.length+1∧(es'=es∨(es'=es++[e]∧z=0))∧(z=0→es'=es++[e]):=by
 have hn:1001≤n:=by have:=hl.big; omega
 have hle:=hl.le e hel
 have stay:∀ (k z:Int),z≠0→∃ es' k' z',(some ((⟨w,es⟩:GChart),k,z):Option (GChart×Int×Int))=some (⟨w,es'⟩,k',z')∧(some ((⟨w,es⟩:GChart),k,z):Option (GChart×Int×Int))=some (⟨w,es'⟩,k',z')∧WF w es' n∧(∀ x∈es',x∈l)∧es'.length≤es.length+1∧(es'=es∨(es'=es++[e]∧z'=0))∧(z'=0→es'=es++[e]) :=
  fun k z hz=>⟨es,k,z,rfl,rfl,h,hsub,by omega,.inl rfl,fun h0=>absurd h0 hz⟩
 unfold q3c q7r
 by_cases h1:e.From<0
 ·simp only [h1,decide_true,cond_true,q0e]; exact stay 0 2 (by decide)
 ·by_cases h2:e.From ≥ e.To
  ·simp only [h1,h2,decide_true,decide_false,cond_true,cond_false,q0e]; exact stay 0 2 (by decide)
  ·by_cases h3:e.To > w
   ·simp only [h1,h2,h3,decide_true,decide_false,cond_true,cond_false,q0e]; exact stay 0 2 (by decide)
   ·simp only [h1,h2,h3,decide_false,cond_false,q0e]
    by_cases hk:e.Kind=1∨e.Kind=2
    ·have ek:(cond (e.Kind != 1) (some (e.Kind != 2)) (some false):Option Bool)=some false:=by
      rcases hk with hk | hk<;>simp [hk]
     simp only [ek,q0e,cond_false]
     obtain ⟨b,q1,q2,q3⟩:=formed_ok (c:=⟨w,es⟩) hle hn h.una h.len hk
     simp only [q1,q2,q0e]
     cases b with
     | false=>simp only [Bool.not_false,cond_true]; exact stay 0 13 (by decide)
     | true =>
      have hf:FormP es e:=q3 rfl
      have ha:=add_L h hn hf hle n 0 (by have:=h.len; omega) (by omega)
      have hd:=rder_ok h (es.length+1) es.length e (by omega) hf.kids (by omega) hle.kids n (by have:=h.len; omega)
      have hr:=radd_L1 h hn (e:=e) (d:=dvE (dvs es) e) (dfit h hl hsub) n 0 (by have:=h.len; omega) (by omega)
      rw [Int.ofNat_zero,List.drop_zero] at ha hr
      simp only [Bool.not_true,cond_false,ha,hd,hr,q0e]
      rcases scan_cases ⟨w,es⟩ e (dvE (dvs es) e) (dvs es) 0 with ⟨j,hj⟩ | ⟨hnm,hj⟩
      ·rw [hj]; exact stay j 4 (by decide)
      ·rw [hj]
       exact ⟨es++[e],(es.length:Int),0,rfl,rfl,h.snoc h11 hle ⟨by omega,by omega,by omega⟩ hf hnm,fun x hx=>by
        rcases List.mem_append.1 hx with hx | hx
        ·exact hsub x hx
        ·simp at hx; subst hx; exact hel,by simp,.inr ⟨rfl,rfl⟩,fun _=>rfl⟩
    ·have ek:(cond (e.Kind != 1) (some (e.Kind != 2)) (some false):Option Bool)=some true:=by
      have a1:(e.Kind != 1)=true:=by simpa using fun h=>hk (.inl h)
      have a2:(e.Kind != 2)=true:=by simpa using fun h=>hk (.inr h)
      rw [a1,a2]; rfl
     simp only [ek,q0e,cond_true]
     exact stay 0 14 (by decide)
theorem start_eq (c:GChart) (z:Int) (n:Nat):∀ (m:Nat) (i:Int) (a:List Int),q0s c z (q2z n) m i a=q1g c z m i a
 | 0,i,a=>rfl
 | m+1,i,a=>by
  unfold q0s q1g
  simp only [q2z,q0e,q1j,q2u,q25,q3h,start_eq c z n m]
theorem end_eq (c:GChart) (z:Int) (n:Nat):∀ (m:Nat) (i:Int) (a:List Int),q0u c z (q3t n) m i a=q1v c z m i a
 | 0,i,a=>rfl
 | m+1,i,a=>by
  unfold q0u q1v
  simp only [q3t,q0e,q1o,q3f,q2h,q47,end_eq c z n m]
theorem qat {c:GChart} (h:c.Edges.length≤12) (z:Int):∀ (m i:Nat) (a:List Int),c.Edges.length - i<m→i≤c.Edges.length→a.length≤i→∃ r,q1g c z m i a=some r∧r.length≤c.Edges.length
 | 0,i,a,hm,_,_=>by omega
 | m+1,i,a,hm,hi,ha=>by
  unfold q1g
  by_cases hlt:i<c.Edges.length
  ·obtain ⟨x,hx,_⟩:=q2s hlt
   simp only [dlt hlt,cond_true,q2a,hx,q0e,q2u,wr1 hlt (show c.Edges.length≤9223372036854775807 by omega)]
   cases (x.From == z) with
   | true=>rw [cond_true,q8w ⟨by omega,by omega⟩]; exact qat h z m (i+1) _ (by omega) (by omega) (by simp; omega)
   | false=>rw [cond_false]; exact qat h z m (i+1) _ (by omega) (by omega) (by omega)
  ·simp only [dnlt hlt,cond_false,q3h]; exact ⟨a,rfl,by omega⟩
theorem end_some {c:GChart} (h:c.Edges.length≤12) (z:Int):∀ (m i:Nat) (a:List Int),c.Edges.length - i<m→i≤c.Edges.length→a.length≤i→∃ r,q1v c z m i a=some r∧r.length≤c.Edges.length
 | 0,i,a,hm,_,_=>by omega
 | m+1,i,a,hm,hi,ha=>by
  unfold q1v
  by_cases hlt:i<c.Edges.length
  ·obtain ⟨x,hx,_⟩:=q2s hlt
   simp only [dlt hlt,cond_true,q2a,hx,q0e,q3f,wr1 hlt (show c.Edges.length≤9223372036854775807 by omega)]
   cases (x.To == z) with
   | true=>rw [cond_true,q8w ⟨by omega,by omega⟩]; exact end_some h z m (i+1) _ (by omega) (by omega) (by simp; omega)
   | false=>rw [cond_false]; exact end_some h z m (i+1) _ (by omega) (by omega) (by omega)
  ·simp only [dnlt hlt,cond_false,q47]; exact ⟨a,rfl,by omega⟩
theorem nums_L {a:List Int} (hl:a.length≤100):∀ (m i:Nat),a.length - i<m→i≤a.length→q31 a a m i=some true
 | 0,i,hm,_=>by omega
 | m+1,i,hm,hi=>by
  unfold q31
  by_cases hlt:i<a.length
  ·obtain ⟨x,hx,_⟩:=q2s hlt
   simp only [dlt hlt,cond_true,q2a,hx,q0e,bne_self_eq_false,cond_false,wr1 hlt (show a.length≤9223372036854775807 by omega)]
   exact nums_L hl m (i+1) (by omega) (by omega)
  ·simp only [dnlt hlt,cond_false,q4p]
theorem nums_ok {a:List Int} (hl:a.length≤100) {n:Nat} (hn:1001≤n):q3m n a a=some true:=by
 have:=nums_L hl n 0 (by omega) (by omega)
 rw [Int.ofNat_zero] at this
 simp only [q3m,bne_self_eq_false,cond_false,this]
theorem Deriv_any {w:Int} {es l:List GEdge} {n:Nat} (h:WF w es n) (hl:Fit l n) (hsub:∀ e∈es,e∈l) (z:Int):∃ d,q2p n ⟨w,es⟩ z=some d∧okG d∧SizeOf.sizeOf d+10≤n:=by
 have hn:=hl.big
 have hz:=sz_zeroD
 by_cases h0:z<0
 ·exact ⟨zeroD,by simp [q2p,h0,q0e,zeroD],okG_zeroD,by omega⟩
 ·by_cases h1:z ≥ (es.length:Int)
  ·exact ⟨zeroD,by simp [q2p,h0,h1,q0e,zeroD],okG_zeroD,by omega⟩
  ·obtain ⟨e,he,_⟩:=q2s (show z.toNat<es.length by omega)
   have:=Deriv_ok h he (n:=n) (by omega)
   rw [Int.toNat_of_nonneg (by omega)] at this
   obtain ⟨q1,q2⟩:=dfit h hl hsub _ (List.mem_of_getElem? (h.get he))
   exact ⟨_,this,q1,q2⟩
theorem WF.nil (w:Int) (n:Nat):WF w [] n:=⟨by simp,(fun e h=>by cases h),(fun e h=>by cases h),(fun e h=>by cases h),(fun i e h=>by simp at h),by simp [dvs]⟩
theorem wordsOf {p:Int} (hp:0≤p∧p≤255):IntKind.i64.wrap (1+((IntKind.i64.wrap p).tmod 8))=1+p % 8:=by
 rw [wr (z:=p) (by omega) (by omega),Int.tmod_eq_emod_of_nonneg hp.1,wr (by omega) (by omega)]
theorem new_some {w:Int} (h1:1≤w) (h2:w≤8) (n:Nat):q6w n w=some (⟨w,[]⟩,0):=by
 have a:¬ w<1:=by omega
 have b:¬ w > 32:=by omega
 simp [q6w,a,b,q0e]
theorem adds_L {l:List GEdge} {n:Nat} (hl:Fit l n) (h12:l.length≤12) (w z:Int):∀ (m i:Nat) (es:List GEdge),l.length - i<m→i≤l.length→WF w es n→(∀ e∈es,e∈l)→es.length≤i→q2n l z n m i w es w es=some true
 | 0,i,es,hm,_,_,_,_=>by omega
 | m+1,i,es,hm,hi,hW,hsub,hle=>by
  have hn:=hl.big
  unfold q2n
  by_cases hlt:i<l.length
  ·obtain ⟨e,he,hem⟩:=q2s hlt
   obtain ⟨es',k,q,g1,g2,g3,g4,g5,_,_⟩:=add_ok hW hl hsub (by omega) hem
   have hs:=same_ok (c:=⟨w,es'⟩) g3.le g3.len (show 1001≤n by omega)
   simp only [dlt hlt,cond_true,q2a,he,q0e,g1,g2,bne_self_eq_false,cond_false,hs,Bool.not_true,wr1 hlt (show l.length≤9223372036854775807 by omega)]
   exact adds_L hl h12 w z m (i+1) es' (by omega) (by omega) g3 g4 (by omega)
  ·obtain ⟨r1,s1,s2⟩:=qat (c:=⟨w,es⟩) hW.len z n 0 [] (by have:=hW.len; simp only; omega) (by omega) (by simp)
   obtain ⟨r2,t1,t2⟩:=end_some (c:=⟨w,es⟩) hW.len z n 0 [] (by have:=hW.len; simp only; omega) (by omega) (by simp)
   obtain ⟨d,d1,d2,d3⟩:=Deriv_any hW hl hsub z
   rw [Int.ofNat_zero] at s1 t1
   have hlen:=hW.len
   simp only [dnlt hlt,cond_false,q3z,q3u,q22,start_eq,q4k,s1,q4x,q2b,end_eq,q65,t1,q0e,
    nums_ok (a:=r1) (by simp only at s2; omega) (show 1001≤n by omega),nums_ok (a:=r2) (by simp only at t2; omega) (show 1001≤n by omega),cond_true,Deriv_eq,d1,qa0 n d d d3 d2,cmpD_ok.self d,beq_self_eq_true,ex_n (show 60≤n by omega)]
theorem light_fit {l:List GEdge} (hok:∀ e∈l,okG e.Lex) {n:Nat} (hn:(SizeOf.sizeOf l+20)*1594323+2000≤n):∃ b,q4u n l 12=some b∧(b=true→l.length≤12∧Fit l n):=by
 obtain ⟨b,h1,h2⟩:=light_ok (l:=l) (n:=n) (by omega) fun e he=>⟨hok e he,by have:=(sz_edge he).1; omega⟩
 exact ⟨b,h1,fun hb=>⟨(h2 hb).1,(h2 hb).2,hn⟩⟩
theorem adds_law {p:Int} (hp:0≤p∧p≤255) {l:List GEdge} (hok:∀ e∈l,okG e.Lex) (z:Int) {n:Nat} (hn:(SizeOf.sizeOf l+20)*1594323+2000≤n):q5b n p l z=some true:=by
 obtain ⟨b,h1,h2⟩:=light_fit hok hn
 simp only [q5b,h1,q0e,ex_n (show 60≤n by omega)]
 cases b with
 | false=>simp
 | true =>
  obtain ⟨h12,hF⟩:=h2 rfl
  have h3:=adds_L hF h12 (1+p % 8) z n 0 [] (by omega) (by omega) (WF.nil _ _) (fun e h=>by cases h) (by simp)
  rw [Int.ofNat_zero] at h3
  simp only [Bool.not_true,cond_false,wordsOf hp,new_eq,new_some (w:=1+p % 8) (by omega) (by omega),q0e,h3]
end Go.Proofs
end
