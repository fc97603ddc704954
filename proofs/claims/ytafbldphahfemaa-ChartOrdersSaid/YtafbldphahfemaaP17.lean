/-
  Texts of the walk: C6 C7 C8 C9 C10 C11 C12 C13 C14 C16 C17.
-/
import Derived.Test.YtafbldphahfemaaP16
section
namespace Go.Proofs
open Go Go.Rx Go.Vx Go.Sort
set_option linter.unusedVariables false
set_option linter.unusedSimpArgs false
theorem cmpInt_eq (n:Nat) (a b:Int):q1h n a b=some (cmpI a b):=by
 unfold cmpI
 simp only [q1h,q46,q0a]
 by_cases h:a<b
 ·simp [h]
 ·by_cases h':b<a
  ·simp [h,h']
  ·simp [h,h']
theorem cmpStr_eq (n:Nat) (a b:List UInt8):q2l n a b=some (cmpS a b):=by
 unfold cmpS
 simp only [q2l,q35,q0a,q70]
 cases h:bytesLt a b with
 | true=>simp
 | false =>
  cases h':bytesLt b a with
  | true =>
   have:bytesEq a b=false:=by
    cases he:bytesEq a b with
    | false=>rfl
    | true=>have:=(q3z a b).1 he; subst this; rw [q4e] at h'; cases h'
   simp [this]
  | false =>
   have:=q52 a b h h'
   subst this
   simp [q70]
theorem or4_eq (a b c d:Int):q3t 5 [a,b,c,d]=some (if a≠0 then a else if b≠0 then b else if c≠0 then c else d):=by
 have w0:IntKind.i64.wrap ((0:Int)+1)=1:=by rw [wr (by omega) (by omega)]; rfl
 have w1:IntKind.i64.wrap ((1:Int)+1)=2:=by rw [wr (by omega) (by omega)]; rfl
 have w2:IntKind.i64.wrap ((2:Int)+1)=3:=by rw [wr (by omega) (by omega)]; rfl
 have w3:IntKind.i64.wrap ((3:Int)+1)=4:=by rw [wr (by omega) (by omega)]; rfl
 have i0:idxO [a,b,c,d] 0=some a:=rfl
 have i1:idxO [a,b,c,d] 1=some b:=rfl
 have i2:idxO [a,b,c,d] 2=some c:=rfl
 have i3:idxO [a,b,c,d] 3=some d:=rfl
 have k0:decide ((0:Int)<(([a,b,c,d]:List Int).length:Int))=true:=by simp
 have k1:decide ((1:Int)<(([a,b,c,d]:List Int).length:Int))=true:=by simp
 have k2:decide ((2:Int)<(([a,b,c,d]:List Int).length:Int))=true:=by simp
 have k3:decide ((3:Int)<(([a,b,c,d]:List Int).length:Int))=true:=by simp
 have k4:decide ((4:Int)<(([a,b,c,d]:List Int).length:Int))=false:=by simp
 simp only [q3t,q2r,q56,w0,w1,w2,w3,i0,i1,i2,i3,k0,k1,k2,k3,k4,cond_true,cond_false,q0a]
 by_cases ha:a=0
 ·by_cases hb:b=0
  ·by_cases hc:c=0
   ·by_cases hd:d=0
    ·simp [ha,hb,hc,hd]
    ·have:(d != 0)=true:=by simpa using hd
     simp [ha,hb,hc,hd,this]
   ·have:(c != 0)=true:=by simpa using hc
    simp [ha,hb,hc,this]
  ·have:(b != 0)=true:=by simpa using hb
   simp [ha,hb,this]
 ·have:(a != 0)=true:=by simpa using ha
  simp [ha,this]
theorem orL_fuel:∀ (n m:Nat) (l:List Int) (i:Int) (r:Int),n≤m→q2r l n i=some r→q2r l m i=some r
 | 0,m,l,i,r,h,hF=>by cases hF
 | n+1,0,l,i,r,h,hF=>by omega
 | n+1,m+1,l,i,r,h,hF=>by
  unfold q2r at hF ⊢
  cases hc:decide (i<(l.length:Int)) with
  | false=>rw [hc] at hF; exact hF
  | true =>
   rw [hc] at hF
   simp only [cond_true] at hF ⊢
   obtain ⟨x,h1,h2⟩:=q01 hF
   rw [h1,q0a]
   cases hx:(x != 0) with
   | true=>rw [hx] at h2; exact h2
   | false=>rw [hx] at h2; simp only [cond_false] at h2 ⊢; exact orL_fuel n m l _ r (by omega) h2
def lexL {α:Type} (c:α→α→Int):List α→List α→Int
 | [],[]=>0
 | [],_::_=>-1
 | _::_,[]=>1
 | x::xs,y::ys=>if c x y≠0 then c x y else lexL c xs ys
theorem Cmp.list {α:Type} {c:α→α→Int} (h:Cmp c):Cmp (lexL c) where
 val:=by
  intro x
  induction x with
  | nil=>intro y; cases y<;>simp [lexL]
  | cons a x ih =>
   intro y
   cases y with
   | nil=>simp [lexL]
   | cons b y=>simp only [lexL]; split; exact h.val a b; exact ih y
 anti:=by
  intro x
  induction x with
  | nil=>intro y; cases y<;>simp [lexL]
  | cons a x ih =>
   intro y
   cases y with
   | nil=>simp [lexL]
   | cons b y =>
    simp only [lexL]
    have a1:=h.anti a b
    have a2:=ih y
    by_cases e:c a b=0
    ·have:c b a=0:=by omega
     simp [e,this,a2]
    ·have:¬ c b a=0:=by omega
     simp [e,this,a1]
 trans:=by
  intro x
  induction x with
  | nil =>
   intro y z h1 h2
   cases z<;>simp [lexL]
  | cons a x ih =>
   intro y z h1 h2
   cases y with
   | nil=>simp [lexL] at h1
   | cons b y =>
    cases z with
    | nil=>simp [lexL] at h2
    | cons d z =>
     simp only [lexL] at *
     by_cases e:c a b=0
     ·have e2:=h.congr e d
      simp only [e,ne_eq,not_true,if_false] at h1
      rw [e2]
      by_cases e3:c b d=0
      ·simp only [e3,ne_eq,not_true,if_false] at h2 ⊢
       exact ih y z h1 h2
      ·simp only [e3,ne_eq,not_false_eq_true,if_true] at h2 ⊢
       exact h2
     ·simp only [e,ne_eq,not_false_eq_true,if_true] at h1
      have h1':c a b<0:=by omega
      by_cases e3:c b d=0
      ·have e4:=h.congr' e3 a
       rw [← e4]
       simp only [e,ne_eq,not_false_eq_true,if_true]
       exact h1
      ·simp only [e3,ne_eq,not_false_eq_true,if_true] at h2
       have:=h.lt_of h1' h2
       have hne:¬ c a d=0:=by omega
       simp only [hne,ne_eq,not_false_eq_true,if_true]
       omega
theorem lexL_zero {α:Type} {c:α→α→Int}:∀ {xs ys:List α},(∀ x∈xs,∀ y,c x y=0→x=y)→lexL c xs ys=0→xs=ys
 | [],[],_,_=>rfl
 | [],_::_,_,h=>by simp [lexL] at h
 | _::_,[],_,h=>by simp [lexL] at h
 | x::xs,y::ys,hc,h=>by
  simp only [lexL] at h
  by_cases e:c x y=0
  ·simp only [e,ne_eq,not_true,if_false] at h
   rw [hc x (by simp) y e,lexL_zero (fun a ha=>hc a (by simp [ha])) h]
  ·simp [e] at h
def hdD:GDeriv→GDeriv→Int:=lexC (fun x y=>cmpI x.From y.From) (lexC (fun x y=>cmpI x.To y.To) (lexC (fun x y=>cmpI x.Kind y.Kind) (fun x y=>cmpS x.Name y.Name)))
theorem hdD_ok:Cmp hdD:=(qae.pull _).lex ((qae.pull _).lex ((qae.pull _).lex (cmpS_ok.pull _)))
def ccDn:Nat→GDeriv→GDeriv→Int
 | 0,_,_=>0
 | n+1,x,y=>if hdD x y≠0 then hdD x y else lexL (ccDn n) x.Kids y.Kids
theorem ccDn_ok:∀ n,Cmp (ccDn n)
 | 0=>⟨fun _ _=>.inr (.inl rfl),fun _ _=>rfl,fun _ _ _ _ _=>by simp [ccDn]⟩
 | n+1=>hdD_ok.lex ((ccDn_ok n).list.pull GDeriv.Kids)
theorem kid_lt (d:GDeriv) {x:GDeriv} (h:x∈d.Kids):SizeOf.sizeOf x<SizeOf.sizeOf d:=by
 cases d with
 | mk a b c e ks =>
  have:=List.sizeOf_lt_of_mem h
  simp only [GDeriv.Kids] at this
  simp only [GDeriv.mk.sizeOf_spec]
  omega
theorem kids_lt (d:GDeriv):d.Kids.length+1<SizeOf.sizeOf d:=by
 cases d with
 | mk a b c e ks =>
  have:=q9q ks
  simp only [GDeriv.Kids,GDeriv.mk.sizeOf_spec]
  omega
mutual
def okG:GDeriv→Prop
 | .mk _ _ _ _ ks=>ks.length≤9223372036854775807∧okGs ks
def okGs:List GDeriv→Prop
 | []=>True
 | d::l=>okG d∧okGs l
end
theorem okGs_mem:∀ {l:List GDeriv},okGs l→∀ d∈l,okG d
 | [],_,d,h=>by cases h
 | e::l,h,d,hd=>by
  simp only [okGs] at h
  rcases List.mem_cons.1 hd with rfl | hd
  ·exact h.1
  ·exact okGs_mem h.2 d hd
theorem okG_len {d:GDeriv} (h:okG d):d.Kids.length≤9223372036854775807:=by cases d; simp only [okG] at h; exact h.1
theorem okG_kid {d:GDeriv} (h:okG d) {x:GDeriv} (hx:x∈d.Kids):okG x:=by cases d; simp only [okG] at h; exact okGs_mem h.2 x hx
theorem qak {α:Type} {c c':α→α→Int}:∀ {xs ys:List α},(∀ x∈xs,∀ y,c x y=c' x y)→lexL c xs ys=lexL c' xs ys
 | [],[],_=>rfl
 | [],_::_,_=>rfl
 | _::_,[],_=>rfl
 | x::xs,y::ys,h=>by simp only [lexL,h x (by simp) y,qak (xs:=xs) (ys:=ys) fun a ha=>h a (by simp [ha])]
mutual
def nodes:GDeriv→Nat
 | .mk _ _ _ _ ks=>1+nodesL ks
def nodesL:List GDeriv→Nat
 | []=>0
 | d::l=>nodes d+nodesL l
end
theorem nodes_eq (d:GDeriv):nodes d=1+nodesL d.Kids:=by cases d; simp [nodes,GDeriv.Kids]
theorem nodesL_mem:∀ {l:List GDeriv} {d:GDeriv},d∈l→nodes d≤nodesL l
 | e::l,d,h=>by
  simp only [nodesL]
  rcases List.mem_cons.1 h with rfl | h
  ·omega
  ·have:=nodesL_mem h; omega
theorem kidn_lt (d:GDeriv) {x:GDeriv} (h:x∈d.Kids):nodes x<nodes d:=by have:=nodesL_mem h; rw [nodes_eq d]; omega
theorem size_pos (d:GDeriv):0<nodes d:=by rw [nodes_eq]; omega
theorem ccDn_stab:∀ (n m:Nat) (x y:GDeriv),nodes x≤n→nodes x≤m→ccDn n x y=ccDn m x y
 | 0,m,x,y,h,_=>by have:=size_pos x; omega
 | n+1,0,x,y,_,h=>by have:=size_pos x; omega
 | n+1,m+1,x,y,h1,h2=>by
  simp only [ccDn]
  rw [qak (c:=ccDn n) (c':=ccDn m) fun a ha b=>ccDn_stab n m a b (by have:=kidn_lt x ha; omega) (by have:=kidn_lt x ha; omega)]
def ccD (x y:GDeriv):Int:=ccDn (nodes x) x y
theorem qbv {n:Nat} {x:GDeriv} (h:nodes x≤n) (y:GDeriv):ccD x y=ccDn n x y:=ccDn_stab _ _ _ _ (Nat.le_refl _) h
theorem cmpD_ok:Cmp ccD where
 val x y:=(ccDn_ok _).val x y
 anti x y:=by
  rw [qbv (n:=nodes x+nodes y) (by omega) x,qbv (n:=nodes x+nodes y) (by omega) y]
  exact (ccDn_ok _).anti x y
 trans x y z:=by
  rw [qbv (n:=nodes x+nodes y) (by omega) y,qbv (n:=nodes x+nodes y) (by omega) z,qbv (n:=nodes x+nodes y) (x:=x) (by omega) z]
  exact (ccDn_ok _).trans x y z
theorem ccDn_zero:∀ (n:Nat) (x y:GDeriv),nodes x≤n→ccDn n x y=0→x=y
 | 0,x,y,h,_=>by have:=size_pos x; omega
 | n+1,x,y,h,hz=>by
  simp only [ccDn] at hz
  by_cases e:hdD x y=0
  ·simp only [e,ne_eq,not_true,if_false] at hz
   have hk:=lexL_zero (fun a ha b hb=>ccDn_zero n a b (by have:=kidn_lt x ha; omega) hb) hz
   simp only [hdD,lexC_zero,q6m,qc2] at e
   cases x; cases y
   simp only [GDeriv.Kids,GDeriv.From,GDeriv.To,GDeriv.Kind,GDeriv.Name] at hk e
   obtain ⟨e1,e2,e3,e4⟩:=e
   subst e1; subst e2; subst e3; subst e4; subst hk; rfl
  ·simp [e] at hz
theorem q8k {x y:GDeriv}:ccD x y=0↔x=y:=⟨fun h=>ccDn_zero _ x y (Nat.le_refl _) h,fun h=>by subst h; exact cmpD_ok.self x⟩
theorem ccD_eq (x y:GDeriv):ccD x y=if hdD x y≠0 then hdD x y else lexL ccD x.Kids y.Kids:=by
 have h:=qbv (n:=nodes x+1) (x:=x) (by omega) y
 rw [h]
 simp only [ccDn]
 rw [qak (c:=ccDn (nodes x)) (c':=ccD) fun a ha b=>(qbv (by have:=kidn_lt x ha; omega) b).symm]
theorem cmpF_L {xs ys:List GDeriv} (hl:xs.length≤9223372036854775807) {f:GDeriv→GDeriv→Option Int} (hf:∀ x∈xs,∀ y∈ys,f x y=some (ccD x y)):∀ (m i:Nat),xs.length - i<m→i≤xs.length→i≤ys.length →
  q0l xs ys f m (i:Int)=some (lexL ccD (xs.drop i) (ys.drop i))
 | 0,i,hm,_,_=>by omega
 | m+1,i,hm,hi,hi2=>by
  unfold q0l
  by_cases hlt:i<xs.length
  ·obtain ⟨x,hx,hxm⟩:=q0v hlt
   simp only [dlt hlt,cond_true,q1t,hx,q0a]
   by_cases hlt2:i<ys.length
   ·obtain ⟨y,hy,hym⟩:=q0v hlt2
    have hge:decide ((i:Int) ≥ (ys.length:Int))=false:=by simp; omega
    have hw:IntKind.i64.wrap ((i:Int)+1)=((i+1:Nat):Int):=wrn (by simp) (by omega)
    simp only [hge,cond_false,hy,q0a,hf x hxm y hym,drop_cons' hx,drop_cons' hy,lexL,hw]
    by_cases e:ccD x y=0
    ·simp only [e,bne_self_eq_false,cond_false,ne_eq,not_true,if_false]
     exact cmpF_L hl hf m (i+1) (by omega) (by omega) (by omega)
    ·have:(ccD x y != 0)=true:=by simpa using e
     simp only [this,cond_true,ne_eq,e,not_false_eq_true,if_true]
   ·have hge:decide ((i:Int) ≥ (ys.length:Int))=true:=by simp; omega
    simp only [hge,cond_true,drop_cons' hx,drop_nil' hlt2,lexL]
  ·simp only [dnlt hlt,cond_false,q10,drop_nil' hlt]
   by_cases hlt2:i<ys.length
   ·obtain ⟨y,hy,hym⟩:=q0v hlt2
    simp only [dlt (show xs.length<ys.length by omega),cond_true,drop_cons' hy,lexL]
   ·simp only [dnlt (show ¬ xs.length<ys.length by omega),cond_false,drop_nil' hlt2,lexL]
theorem q95:∀ (n:Nat) (x y:GDeriv),SizeOf.sizeOf x+10≤n→okG x→q1s n x y=some (ccD x y)
 | 0,x,y,h,_=>by omega
 | n+1,x,y,h,hok=>by
  have h5:=or4_eq (cmpI x.From y.From) (cmpI x.To y.To) (cmpI x.Kind y.Kind) (cmpS x.Name y.Name)
  have hN:=orL_fuel 5 n _ _ _ (by omega) h5
  have hkl:=kids_lt x
  have hk:=cmpF_L (ys:=y.Kids) (okG_len hok) (f:=q1s n) (fun a ha b hb=>q95 n a b (by have:=kid_lt x ha; omega) (okG_kid hok ha)) n 0 (by omega) (by omega) (by omega)
  rw [Int.ofNat_zero,List.drop_zero,List.drop_zero] at hk
  have hh:(if cmpI x.From y.From≠0 then cmpI x.From y.From else if cmpI x.To y.To≠0 then cmpI x.To y.To else if cmpI x.Kind y.Kind≠0 then cmpI x.Kind y.Kind else cmpS x.Name y.Name)=hdD x y:=by simp only [hdD,lexC]
  rw [hh] at hN
  simp only [q1s,q6o,cmpInt_eq,cmpStr_eq,q0a,q3t,hN,q0u,hk]
  rw [ccD_eq]
  by_cases e:hdD x y=0
  ·simp [e]
  ·have:(hdD x y != 0)=true:=by simpa using e
   simp [this,e]
instance:DecidableEq GDeriv:=fun x y=>decidable_of_iff (ccD x y=0) q8k
theorem ints_ok (n:Nat) (a b:Int):q4b n a b=some (cmpI a b):=by
 unfold q4b cmpI
 by_cases h1:a<b
 ·simp [h1]
 ·by_cases h2:b<a
  ·simp [h1,h2]
  ·have:¬ a > b:=h2
   simp [h1,h2,this]
theorem cmpI_ne {a b:Int} (h:¬ a=b):cmpI a b≠0:=fun e=>h (q6m.1 e)
theorem lexL_nil {xs ys:List GDeriv}:∀ i,i≤xs.length→i≤ys.length→¬ (i<xs.length∧i<ys.length)→cmpI (xs.length:Int) (ys.length:Int)=lexL ccD (xs.drop i) (ys.drop i):=fun i h1 h2 h=>by
 by_cases hx:i<xs.length
 ·have hy:¬ i<ys.length:=fun hy=>h ⟨hx,hy⟩
  obtain ⟨x,e,_⟩:=q0v hx
  rw [drop_cons' e,drop_nil' hy,lexL,cmpI,if_neg (by omega),if_pos (by omega)]
 ·by_cases hy:i<ys.length
  ·obtain ⟨y,e,_⟩:=q0v hy
   rw [drop_nil' hx,drop_cons' e,lexL,cmpI,if_pos (by omega)]
  ·rw [drop_nil' hx,drop_nil' hy,lexL,cmpI,if_neg (by omega),if_neg (by omega)]
theorem rcmp_L {x y:GDeriv} {n:Nat} (hl:x.Kids.length≤9223372036854775807) {self:GDeriv→GDeriv→Option Int} (hs:∀ a∈x.Kids,∀ b,self a b=some (ccD a b)):∀ (m i:Nat),x.Kids.length - i<m→i≤x.Kids.length→i≤y.Kids.length →
  q36 x y n self m i=some (lexL ccD (x.Kids.drop i) (y.Kids.drop i))
 | 0,i,hm,_,_=>by omega
 | m+1,i,hm,hi,hj=>by
  unfold q36
  by_cases hlt:i<x.Kids.length
  ·by_cases hlt2:i<y.Kids.length
   ·obtain ⟨a,ha,ham⟩:=q0v hlt
    obtain ⟨b,hb,_⟩:=q0v hlt2
    simp only [dlt hlt,dlt hlt2,cond_true,q0a,q1t,ha,hb,hs a ham b,wr1 hlt hl,drop_cons' ha,drop_cons' hb,lexL]
    by_cases e:ccD a b=0
    ·simp only [e,bne_self_eq_false,cond_false,ne_eq,not_true,if_false]
     exact rcmp_L hl hs m (i+1) (by omega) (by omega) (by omega)
    ·have:(ccD a b != 0)=true:=by simpa using e
     simp only [this,cond_true,ne_eq,e,not_false_eq_true,if_true]
   ·simp only [dlt hlt,dnlt hlt2,cond_true,cond_false,q0a,q3p,ints_ok,lexL_nil i hi hj (fun h=>hlt2 h.2)]
  ·simp only [dnlt hlt,cond_false,q0a,q3p,ints_ok,lexL_nil i hi hj (fun h=>hlt h.1)]
theorem qch:∀ (n:Nat) (x y:GDeriv),SizeOf.sizeOf x+10≤n→okG x→q1w n x y=some (ccD x y)
 | 0,x,y,h,_=>by omega
 | n+1,x,y,h,hok=>by
  have hkl:=kids_lt x
  have hk:=rcmp_L (x:=x) (y:=y) (n:=n) (okG_len hok) (self:=q1w n) (fun a ha b=>qch n a b (by have:=kid_lt x ha; omega) (okG_kid hok ha)) n 0 (by omega) (by omega) (by omega)
  rw [Int.ofNat_zero,List.drop_zero,List.drop_zero] at hk
  simp only [q1w,q6r,ints_ok,q0a,hk]
  rw [ccD_eq]
  simp only [hdD,lexC]
  by_cases e1:x.From=y.From
  ·have b1:(x.From != y.From)=false:=by simp [e1]
   have c1:cmpI x.From y.From=0:=q6m.2 e1
   rw [b1,cond_false]
   simp only [c1,ne_eq,not_true,if_false]
   by_cases e2:x.To=y.To
   ·have b2:(x.To != y.To)=false:=by simp [e2]
    have c2:cmpI x.To y.To=0:=q6m.2 e2
    rw [b2,cond_false]
    simp only [c2,ne_eq,not_true,if_false]
    by_cases e3:x.Kind=y.Kind
    ·have b3:(x.Kind != y.Kind)=false:=by simp [e3]
     have c3:cmpI x.Kind y.Kind=0:=q6m.2 e3
     rw [b3,cond_false]
     simp only [c3,ne_eq,not_true,if_false]
     by_cases e4:x.Name=y.Name
     ·have b4:(!bytesEq x.Name y.Name)=false:=by rw [(q3z _ _).2 e4]; rfl
      have c4:cmpS x.Name y.Name=0:=qc2.2 e4
      rw [b4,cond_false]
      simp only [c4,not_true,if_false]
     ·have b4:(!bytesEq x.Name y.Name)=true:=by
       cases hb:bytesEq x.Name y.Name with
       | false=>rfl
       | true=>exact absurd ((q3z _ _).1 hb) e4
      have c4:cmpS x.Name y.Name≠0:=fun e=>e4 (qc2.1 e)
      rw [b4,cond_true,if_pos c4]
      unfold cmpS
      cases hb:bytesLt x.Name y.Name with
      | true=>simp
      | false =>
       cases hb2:bytesLt y.Name x.Name with
       | true=>simp
       | false=>exact absurd (q52 _ _ hb hb2) e4
    ·have b3:(x.Kind != y.Kind)=true:=by simpa using e3
     rw [b3,cond_true]
     simp [cmpI_ne e3]
   ·have b2:(x.To != y.To)=true:=by simpa using e2
    rw [b2,cond_true]
    simp [cmpI_ne e2]
  ·have b1:(x.From != y.From)=true:=by simpa using e1
   rw [b1,cond_true]
   simp [cmpI_ne e1]
end Go.Proofs
end
section
namespace Go.Proofs
open Go Go.Rx Go.Vx Go.Sort
set_option linter.unusedVariables false
set_option linter.unusedSimpArgs false
theorem nodesL_drop {l:List GDeriv} {i:Nat} {x:GDeriv} (h:l[i]? = some x):nodesL (l.drop i)=nodes x+nodesL (l.drop (i+1)):=by rw [drop_cons' h]; simp [nodesL]
theorem Nodes_L {d:GDeriv} (hl:d.Kids.length≤9223372036854775807) {most:Int} (h1:1≤most) (h2:most≤61) {self:GDeriv→Int→Option Int}
  (hself:∀ x∈d.Kids,∀ q:Int,1≤q→q≤61→∃ c,self x q=some c∧1≤c∧c≤q∧(c<q→c=nodes x)):∀ (m i:Nat) (z:Int),d.Kids.length - i<m→i≤d.Kids.length→1≤z→z≤most →
  ∃ c,q3w d most self m z i=some c∧1≤c∧c≤most∧(c<most→c=z+nodesL (d.Kids.drop i))
 | 0,i,z,hm,_,_,_=>by omega
 | m+1,i,z,hm,hi,hz1,hz2=>by
  unfold q3w
  by_cases hlt:i<d.Kids.length
  ·obtain ⟨x,hx,hxm⟩:=q0v hlt
   rw [dlt hlt,cond_true,q0a]
   by_cases hz:z<most
   ·obtain ⟨c,k1,k2,k3,k4⟩:=hself x hxm (most - z) (by omega) (by omega)
    simp only [hz,decide_true,cond_true,q1t,hx,q0a,wr (show -9223372036854775808≤most - z by omega) (by omega),k1,wr (show -9223372036854775808≤z+c by omega) (by omega),wr1 hlt hl]
    obtain ⟨c',q1,q2,q3,q4⟩:=Nodes_L hl h1 h2 hself m (i+1) (z+c) (by omega) (by omega) (by omega) (by omega)
    refine ⟨c',q1,q2,q3,fun h=>?_⟩
    have:=q4 h
    rw [nodesL_drop hx]
    by_cases hc:c<most - z
    ·have:=k4 hc; omega
    ·have:z+c=most:=by omega
     omega
   ·simp only [hz,decide_false,cond_false,q4k]
    exact ⟨z,rfl,hz1,hz2,fun h=>by omega⟩
  ·simp only [dnlt hlt,cond_false,q0a,q4k,drop_nil' hlt]
   exact ⟨z,rfl,hz1,hz2,fun _=>by simp [nodesL]⟩
theorem Nodes_ok:∀ (s:Nat) (d:GDeriv),SizeOf.sizeOf d<s→okG d→∀ n,SizeOf.sizeOf d≤n→∀ most:Int,1≤most→most≤61→∃ c,q3c n d most=some c∧1≤c∧c≤most∧(c<most→c=nodes d)
 | 0,d,hs,_,_,_,_,_,_=>by omega
 | s+1,d,hs,hok,n,hn,most,h1,h2=>by
  have hk:=kids_lt d
  cases n with
  | zero=>omega
  | succ n =>
   obtain ⟨c,q1,q2,q3,q4⟩:=Nodes_L (d:=d) (okG_len hok) h1 h2 (self:=q3c n) (fun x hx q h1 h2=>by
    have:=kid_lt d hx
    exact Nodes_ok s x (by omega) (okG_kid hok hx) n (by omega) q h1 h2) n 0 1 (by omega) (by omega) (by omega) h1
   rw [Int.ofNat_zero] at q1
   refine ⟨c,by simp only [q3c,q7w,q1],q2,q3,fun h=>?_⟩
   have:=q4 h
   rw [nodes_eq]; simp at this; omega
structure LE (e:GEdge) (n:Nat):Prop where
 kids:e.Kids.length≤10
 nodes:e.FS.Nodes.length≤20
 arcs:∀ x∈e.FS.Nodes,x.Arcs.length≤20
 ok:okG e.Lex
 fuel:SizeOf.sizeOf e.Lex+1001≤n
theorem light_L2 {l:List GEdge} {i:Nat} {e:GEdge} (he:l[i]? = some e) (hl:e.FS.Nodes.length≤20) {rc:Int→Option Bool}:∀ (m k:Nat),e.FS.Nodes.length - k<m→k≤e.FS.Nodes.length →
  (q3b l i rc m k=some false∨(q3b l i rc m k=rc (IntKind.i64.wrap ((i:Int)+1))∧∀ x∈e.FS.Nodes.drop k,x.Arcs.length≤20))
 | 0,k,hm,_=>by omega
 | m+1,k,hm,hk=>by
  unfold q3b
  by_cases hlt:k<e.FS.Nodes.length
  ·obtain ⟨x,hx,_⟩:=q0v hlt
   simp only [q1t,he,q0a,dlt hlt,cond_true,hx,wr1 hlt (show e.FS.Nodes.length≤9223372036854775807 by omega)]
   by_cases ha:(x.Arcs.length:Int) > 20
   ·left; simp [ha]
   ·simp only [ha,decide_false,cond_false]
    rcases light_L2 he hl (rc:=rc) m (k+1) (by omega) (by omega) with h | ⟨h1,h2⟩
    ·exact .inl h
    ·refine .inr ⟨h1,?_⟩
     rw [drop_cons' hx]
     intro y hy
     rcases List.mem_cons.1 hy with rfl | hy
     ·omega
     ·exact h2 y hy
  ·right
   simp only [q1t,he,q0a,dnlt hlt,cond_false,q5x,drop_nil' hlt]
   exact ⟨trivial,fun x hx=>by cases hx⟩
theorem light_L1 {l:List GEdge} (hl:l.length≤12) {n:Nat} (hn1:1001≤n) (hn:∀ e∈l,okG e.Lex∧SizeOf.sizeOf e.Lex+1001≤n):∀ (m i:Nat),l.length - i<m→i≤l.length →
  ∃ b,q2e l n m i=some b∧(b=true→∀ e∈l.drop i,LE e n)
 | 0,i,hm,_=>by omega
 | m+1,i,hm,hi=>by
  unfold q2e
  by_cases hlt:i<l.length
  ·obtain ⟨e,he,hem⟩:=q0v hlt
   obtain ⟨hok,hs⟩:=hn e hem
   obtain ⟨c,k1,_,_,_⟩:=Nodes_ok _ e.Lex (Nat.lt_succ_self _) hok n (by omega) 21 (by omega) (by omega)
   simp only [dlt hlt,cond_true,q1t,he,q0a,k1]
   by_cases h1:c > 20
   ·simp only [h1,decide_true,cond_true,q0a]; exact ⟨false,rfl,fun h=>by cases h⟩
   ·by_cases h2:(e.FS.Nodes.length:Int) > 20
    ·simp only [h1,h2,decide_true,decide_false,cond_true,cond_false,q0a]; exact ⟨false,rfl,fun h=>by cases h⟩
    ·by_cases h3:(e.Kids.length:Int) > 10
     ·simp only [h1,h2,h3,decide_true,decide_false,cond_true,cond_false,q0a]; exact ⟨false,rfl,fun h=>by cases h⟩
     ·simp only [h1,h2,h3,decide_false,cond_false,q0a]
      obtain ⟨b,q1,q2⟩:=light_L1 hl hn1 hn m (i+1) (by omega) (by omega)
      rcases light_L2 he (by omega) (rc:=q2e l n m) n 0 (by omega) (by omega) with h | ⟨h4,h5⟩
      ·rw [Int.ofNat_zero] at h
       rw [h]; exact ⟨false,rfl,fun h=>by cases h⟩
      ·rw [Int.ofNat_zero,wr1 hlt (show l.length≤9223372036854775807 by omega),q1] at h4
       rw [h4]
       refine ⟨b,rfl,fun hb=>?_⟩
       rw [drop_cons' he]
       intro x hx
       rcases List.mem_cons.1 hx with rfl | hx
       ·exact ⟨by omega,by omega,by simpa using h5,hok,hs⟩
       ·exact q2 hb x hx
  ·simp only [dnlt hlt,cond_false,q5w,drop_nil' hlt]
   exact ⟨true,rfl,fun _ x hx=>by cases hx⟩
theorem light_ok {l:List GEdge} {n:Nat} (hn1:1001≤n) (hn:∀ e∈l,okG e.Lex∧SizeOf.sizeOf e.Lex+1001≤n):∃ b,q4t n l 12=some b∧(b=true→l.length≤12∧∀ e∈l,LE e n):=by
 unfold q4t
 by_cases h:(l.length:Int) > 12
 ·simp only [h,decide_true,cond_true]; exact ⟨false,rfl,fun h=>by cases h⟩
 ·simp only [h,decide_false,cond_false]
  obtain ⟨b,q1,q2⟩:=light_L1 (l:=l) (by omega) hn1 hn n 0 (by omega) (by omega)
  rw [Int.ofNat_zero] at q1
  exact ⟨b,q1,fun hb=>⟨by omega,by simpa using q2 hb⟩⟩
theorem eqA_self (x:GArc):eqGArc x x=true:=by cases x; simp [eqGArc]
theorem sameFS_L2 {x:GNode} (hx:x.Arcs.length≤20) {z:Int} {rc:Int→Option Bool}:∀ (m k:Nat),x.Arcs.length - k<m→k≤x.Arcs.length→q3k z rc x x m k=rc (IntKind.i64.wrap (z+1))
 | 0,k,hm,_=>by omega
 | m+1,k,hm,hk=>by
  unfold q3k
  by_cases hlt:k<x.Arcs.length
  ·obtain ⟨y,hy,_⟩:=q0v hlt
   simp only [dlt hlt,cond_true,q1t,hy,q0a,eqA_self,Bool.not_true,cond_false,wr1 hlt (show x.Arcs.length≤9223372036854775807 by omega)]
   exact sameFS_L2 hx m (k+1) (by omega) (by omega)
  ·simp only [dnlt hlt,cond_false,q5c]
theorem sameFS_L1 {f:GFS} (h1:f.Nodes.length≤20) (h2:∀ x∈f.Nodes,x.Arcs.length≤20) {n:Nat} (hn:1001≤n):∀ (m i:Nat),f.Nodes.length - i<m→i≤f.Nodes.length→q1x f f n m i=some true
 | 0,i,hm,_=>by omega
 | m+1,i,hm,hi=>by
  unfold q1x
  by_cases hlt:i<f.Nodes.length
  ·obtain ⟨x,hx,hxm⟩:=q0v hlt
   have h3:=sameFS_L2 (h2 x hxm) (z:=(i:Int)) (rc:=q1x f f n m) n 0 (by have:=h2 x hxm; omega) (by omega)
   rw [Int.ofNat_zero,wr1 hlt (show f.Nodes.length≤9223372036854775807 by omega)] at h3
   simp only [dlt hlt,cond_true,q1t,hx,q0a,bne_self_eq_false,cond_false,h3]
   exact sameFS_L1 h1 h2 hn m (i+1) (by omega) (by omega)
  ·simp only [dnlt hlt,cond_false,q5b]
theorem sameFS_ok {e:GEdge} {n:Nat} (h:LE e n) (hn:1001≤n):q4x n e.FS e.FS=some true:=by
 have h1:=h.nodes
 have:=sameFS_L1 h.nodes h.arcs hn n 0 (by omega) (by omega)
 rw [Int.ofNat_zero] at this
 simp only [q4x,bne_self_eq_false,cond_false,this]
theorem sameE_L1 {e:GEdge} {n:Nat} (h:LE e n) (hn:1001≤n):∀ (m i:Nat),e.Kids.length - i<m→i≤e.Kids.length→q2y e e n m i=some true
 | 0,i,hm,_=>by omega
 | m+1,i,hm,hi=>by
  have hk:=h.kids
  unfold q2y
  by_cases hlt:i<e.Kids.length
  ·obtain ⟨x,hx,_⟩:=q0v hlt
   simp only [dlt hlt,cond_true,q1t,hx,q0a,bne_self_eq_false,cond_false,wr1 hlt (show e.Kids.length≤9223372036854775807 by omega)]
   exact sameE_L1 h hn m (i+1) (by omega) (by omega)
  ·simp only [dnlt hlt,cond_false,q4c,qch n e.Lex e.Lex (by have:=h.fuel; omega) h.ok,cmpD_ok.self e.Lex,beq_self_eq_true,cond_true,sameFS_ok h hn,q0a]
theorem sameE_ok {e:GEdge} {n:Nat} (h:LE e n) (hn:1001≤n):q3v n e e=some true:=by
 have hk:=h.kids
 have:=sameE_L1 h hn n 0 (by omega) (by omega)
 rw [Int.ofNat_zero] at this
 simp only [q3v,bne_self_eq_false,cond_false,q70,Bool.not_true,q0a,this]
theorem same_L1 {c:GChart} {n:Nat} (h:∀ e∈c.Edges,LE e n) (hl:c.Edges.length≤12) (hn:1001≤n):∀ (m i:Nat),c.Edges.length - i<m→i≤c.Edges.length→q4d c c n m i=some true
 | 0,i,hm,_=>by omega
 | m+1,i,hm,hi=>by
  unfold q4d
  by_cases hlt:i<c.Edges.length
  ·obtain ⟨x,hx,hxm⟩:=q0v hlt
   simp only [dlt hlt,cond_true,q1t,hx,q0a,sameE_ok (h x hxm) hn,Bool.not_true,cond_false,wr1 hlt (show c.Edges.length≤9223372036854775807 by omega)]
   exact same_L1 h hl hn m (i+1) (by omega) (by omega)
  ·simp only [dnlt hlt,cond_false,q6g]
theorem same_ok {c:GChart} {n:Nat} (h:∀ e∈c.Edges,LE e n) (hl:c.Edges.length≤12) (hn:1001≤n):q5n n c c=some true:=by
 have:=same_L1 h hl hn n 0 (by omega) (by omega)
 rw [Int.ofNat_zero] at this
 simp only [q5n,bne_self_eq_false,cond_false,q0a,this]
end Go.Proofs
end
section
namespace Go.Proofs
open Go Go.Rx Go.Vx Go.Sort
set_option linter.unusedVariables false
set_option linter.unusedSimpArgs false
def zeroD:GDeriv:=.mk 0 [] 0 0 []
def dvE (D:List GDeriv) (e:GEdge):GDeriv:=if e.Kind=1 then e.Lex else .mk 2 e.Name e.From e.To (e.Kids.map fun k=>D.getD k.toNat zeroD)
def dvs (es:List GEdge):List GDeriv:=es.foldl (fun D e=>D++[dvE D e]) []
theorem dvs_app (es:List GEdge) (e:GEdge):dvs (es++[e])=dvs es++[dvE (dvs es) e]:=by simp [dvs]
theorem dvF_len:∀ (es:List GEdge) (D:List GDeriv),(es.foldl (fun D e=>D++[dvE D e]) D).length=D.length+es.length
 | [],D=>by simp
 | e::es,D=>by rw [List.foldl_cons,dvF_len es]; simp; omega
theorem q2s (es:List GEdge):(dvs es).length=es.length:=by rw [dvs,dvF_len]; simp
theorem dvF_pre:∀ (es:List GEdge) (D:List GDeriv) (j:Nat),j<D.length→(es.foldl (fun D e=>D++[dvE D e]) D)[j]? = D[j]?
 | [],D,j,h=>rfl
 | e::es,D,j,h=>by rw [List.foldl_cons,dvF_pre es _ j (by simp; omega),List.getElem?_append_left h]
theorem dvs_pre (es fs:List GEdge) {j:Nat} (h:j<es.length):(dvs (es++fs))[j]? = (dvs es)[j]?:=by
 have:dvs (es++fs)=fs.foldl (fun D e=>D++[dvE D e]) (dvs es):=by simp [dvs]
 rw [this,dvF_pre _ _ _ (by rw [q2s]; exact h)]
theorem dvs_take {es:List GEdge} {i j:Nat} (h:j<i) (hi:i≤es.length):(dvs (es.take i))[j]? = (dvs es)[j]?:=by
 have:=dvs_pre (es.take i) (es.drop i) (j:=j) (by simp; omega)
 rw [List.take_append_drop] at this
 exact this.symm
theorem dvs_get {es:List GEdge} {i:Nat} {e:GEdge} (h:es[i]? = some e):(dvs es)[i]? = some (dvE (dvs (es.take i)) e):=by
 have hl:=(List.getElem?_eq_some_iff.1 h).1
 rw [← dvs_take (i:=i+1) (by omega) (by omega),q6v h,dvs_app,List.getElem?_append_right (by rw [q2s,List.length_take]; omega),q2s,show i - (es.take i).length=0 by rw [List.length_take]; omega]
 rfl
theorem qc4 {D D':List GDeriv} {e:GEdge} {i:Nat} (hk:∀ k∈e.Kids,0≤k∧k.toNat<i) (h:∀ j,j<i→D[j]? = D'[j]?):dvE D e=dvE D' e:=by
 unfold dvE
 split
 ·rfl
 ·congr 1
  refine List.map_congr_left fun k hm=>?_
  rw [List.getD_eq_getElem?_getD,List.getD_eq_getElem?_getD,h _ (hk k hm).2]
theorem lex_ok:∀ (n:Nat) (d:GDeriv),SizeOf.sizeOf d≤n→∃ b,q1m n d=some b∧q6f n d=some b∧(b=true→d.Kind=0∨d.Kind=1)
 | 0,d,h=>by cases d; simp at h
 | n+1,d,h=>by
  simp only [q1m,q55,q6f,q8d]
  by_cases h0:d.Kind=0
  ·exact ⟨_,by simp [h0]; rfl,by simp [h0],fun _=>.inl h0⟩
  ·have e0:(d.Kind == 0)=false:=by simpa using h0
   rw [e0]
   by_cases h1:d.Kind=1
   ·have e1:(d.Kind == 1)=true:=by simp [h1]
    rw [e1]
    by_cases hl:d.Kids.length=1
    ·have el:((d.Kids.length:Int) == 1)=true:=by simp [hl]
     obtain ⟨x,hx,hxm⟩:=q0v (show 0<d.Kids.length by omega)
     have hi:idxO d.Kids 0=some x:=by have:=q1t (l:=d.Kids) 0; rw [Int.ofNat_zero] at this; rw [this,hx]
     obtain ⟨b,q1,q2,_⟩:=lex_ok n x (by have:=kid_lt d hxm; omega)
     simp only [cond_false,cond_true,el,hi,q0a,q1,q2]
     cases (x.From == d.From)<;>cases (x.To == d.To)<;>simp [h1,q0a]
    ·have el:((d.Kids.length:Int) == 1)=false:=by simp; omega
     exact ⟨false,by simp [el,q0a],by simp [el,q0a],fun h=>by cases h⟩
   ·have e1:(d.Kind == 1)=false:=by simpa using h1
    rw [e1]
    exact ⟨false,by simp [q0a],by simp [q0a],fun h=>by cases h⟩
def Adj (es:List GEdge):Int→List Int→Int→Prop
 | a,[],t=>a=t
 | a,k::ks,t=>0≤k∧∃ x,es[k.toNat]? = some x∧x.From=a∧Adj es x.To ks t
def unaryOf (es:List GEdge):List Int→Int
 | [k]=>match es[k.toNat]? with
  | some x=>x.Unary+1
  | none=>0
 | _=>0
def FormP (es:List GEdge) (e:GEdge):Prop :=
 (e.Kind=1∧e.Kids=[]∧e.Unary=0∧(e.Lex.Kind=0∨e.Lex.Kind=1)∧e.Lex.From=e.From∧e.Lex.To=e.To∧e.Name=e.Lex.Name) ∨
 (e.Kind=2∧1≤e.Kids.length∧e.Kids.length≤2∧Adj es e.From e.Kids e.To∧e.Lex=zeroD∧e.Unary=unaryOf es e.Kids∧e.Unary≤2)
theorem Adj.kids {es:List GEdge}:∀ {ks:List Int} {a t:Int},Adj es a ks t→∀ k∈ks,0≤k∧k.toNat<es.length
 | [],a,t,h,k,hk=>by cases hk
 | q::ks,a,t,h,k,hk=>by
  obtain ⟨h1,x,h2,_,h3⟩:=h
  rcases List.mem_cons.1 hk with rfl | hk
  ·exact ⟨h1,(List.getElem?_eq_some_iff.1 h2).1⟩
  ·exact h3.kids k hk
theorem FormP.kids {es:List GEdge} {e:GEdge} (h:FormP es e):∀ k∈e.Kids,0≤k∧k.toNat<es.length:=by
 rcases h with ⟨_,h,_⟩ | ⟨_,_,_,h,_⟩
 ·rw [h]; intro k hk; cases hk
 ·exact h.kids
theorem idxZ {α:Type} {l:List α} {k:Int} {x:α} (h0:0≤k) (h:l[k.toNat]? = some x):idxO l k=some x:=by
 have:=q1t (l:=l) k.toNat
 rw [Int.toNat_of_nonneg h0] at this
 rw [this,h]
theorem form_L {c:GChart} {e:GEdge} (hk:e.Kids.length≤10) (hu:∀ x∈c.Edges,0≤x.Unary∧x.Unary≤2) (hcl:c.Edges.length≤12):∀ (m i:Nat) (a:Int),e.Kids.length - i<m→i≤e.Kids.length→(∀ k∈e.Kids.take i,0≤k∧k.toNat<c.Edges.length) →
  ∃ b,q2h c e m a i=some b∧q5g c e m a i=some b∧(b=true→Adj c.Edges a (e.Kids.drop i) e.To∧e.Unary=unaryOf c.Edges e.Kids∧e.Unary≤2)
 | 0,i,a,hm,_,_=>by omega
 | m+1,i,a,hm,hi,ht=>by
  unfold q2h q5g
  by_cases hlt:i<e.Kids.length
  ·obtain ⟨k,hkk,_⟩:=q0v hlt
   simp only [dlt hlt,cond_true,q1t,hkk,q0a,drop_cons' hkk]
   by_cases h0:k<0
   ·simp only [h0,decide_true,cond_true,q0a]; exact ⟨false,rfl,rfl,fun h=>by cases h⟩
   ·by_cases h1:k ≥ (c.Edges.length:Int)
    ·simp only [h0,h1,decide_true,decide_false,cond_true,cond_false,q0a]; exact ⟨false,rfl,rfl,fun h=>by cases h⟩
    ·obtain ⟨x,hx,hxm⟩:=q0v (show k.toNat<c.Edges.length by omega)
     have hix:=idxZ (show 0≤k by omega) hx
     simp only [h0,h1,decide_false,cond_false,hix,q0a]
     by_cases h2:x.From=a
     ·have e2:(x.From != a)=false:=by simp [h2]
      obtain ⟨b,q1,q2,q3⟩:=form_L hk hu hcl m (i+1) x.To (by omega) (by omega) (fun q hq=>by
       rw [q6v hkk] at hq
       rcases List.mem_append.1 hq with hq | hq
       ·exact ht q hq
       ·simp at hq; subst hq; exact ⟨by omega,by omega⟩)
      simp only [e2,cond_false,wr1 hlt (show e.Kids.length≤9223372036854775807 by omega),q1,q2]
      exact ⟨b,rfl,rfl,fun hb=>⟨⟨by omega,x,hx,h2,(q3 hb).1⟩,(q3 hb).2⟩⟩
     ·have e2:(x.From != a)=true:=by simpa using h2
      simp only [e2,cond_true]; exact ⟨false,rfl,rfl,fun h=>by cases h⟩
  ·have hie:i=e.Kids.length:=by omega
   rw [hie,List.take_length] at ht
   simp only [dnlt hlt,cond_false,q41,q8f,drop_nil' hlt,Adj]
   by_cases h1:e.Kids.length=1
   ·have e1:((e.Kids.length:Int) == 1)=true:=by simp [h1]
    obtain ⟨k,hke⟩:∃ k,e.Kids=[k]:=List.length_eq_one_iff.1 h1
    have hk1:=ht k (by rw [hke]; simp)
    obtain ⟨x,hx,hxm⟩:=q0v hk1.2
    have hu1:=hu x hxm
    have hi0:idxO e.Kids 0=some k:=by rw [hke]; rfl
    have hun:unaryOf c.Edges e.Kids=x.Unary+1:=by rw [hke]; simp only [unaryOf,hx]
    simp only [e1,cond_true,hi0,q0a,idxZ hk1.1 hx,q2g,q5f,wr (show -9223372036854775808≤x.Unary+1 by omega) (by omega),hun]
    by_cases ha:a=e.To
    ·have ea:(a == e.To)=true:=by simpa using ha
     have ea2:(a != e.To)=false:=by simpa using ha
     by_cases hb:e.Unary=x.Unary+1
     ·have eb:(e.Unary == x.Unary+1)=true:=by simpa using hb
      refine ⟨decide (x.Unary+1≤2),by simp only [ea,eb,cond_true,q0a],by simp only [ea2,eb,cond_true,cond_false,q0a],fun h=>⟨ha,hb,?_⟩⟩
      simp at h; omega
     ·have eb:(e.Unary == x.Unary+1)=false:=by simpa using hb
      exact ⟨false,by simp only [ea,eb,cond_true,cond_false,q0a],by simp only [ea2,eb,cond_false,q0a],fun h=>by cases h⟩
    ·have ea:(a == e.To)=false:=by simpa using ha
     have ea2:(a != e.To)=true:=by simpa using ha
     exact ⟨false,by simp only [ea,cond_false,q0a],by simp only [ea2,cond_true],fun h=>by cases h⟩
   ·have e1:((e.Kids.length:Int) == 1)=false:=by simp; omega
    have hun:unaryOf c.Edges e.Kids=0:=by
     match hks:e.Kids with
     | []=>rfl
     | [k]=>rw [hks] at h1; simp at h1
     | _::_::_=>rfl
    simp only [e1,cond_false,q2g,q5f,hun]
    by_cases ha:a=e.To
    ·have ea:(a == e.To)=true:=by simpa using ha
     have ea2:(a != e.To)=false:=by simpa using ha
     by_cases hb:e.Unary=0
     ·have eb:(e.Unary == 0)=true:=by simpa using hb
      exact ⟨true,by simp only [ea,eb,cond_true,q0a]; rfl,by simp only [ea2,eb,cond_true,cond_false,q0a]; rfl,fun _=>⟨ha,hb,by omega⟩⟩
     ·have eb:(e.Unary == 0)=false:=by simpa using hb
      exact ⟨false,by simp only [ea,eb,cond_true,cond_false,q0a],by simp only [ea2,eb,cond_false,q0a],fun h=>by cases h⟩
    ·have ea:(a == e.To)=false:=by simpa using ha
     have ea2:(a != e.To)=true:=by simpa using ha
     exact ⟨false,by simp only [ea,cond_false,q0a],by simp only [ea2,cond_true],fun h=>by cases h⟩
theorem zero_ok (n:Nat) (d:GDeriv):∃ b,q5k n d=some b∧qap n d=some b∧(b=true→d=zeroD):=by
 refine ⟨d.Kind == 0&&(bytesEq d.Name []&&(d.From == 0&&(d.To == 0&&((d.Kids.length:Int) == 0)))),?_,?_,fun h=>?_⟩
 ·simp only [q5k]
  cases (d.Kind == 0)<;>cases (bytesEq d.Name [])<;>cases (d.From == 0)<;>cases (d.To == 0)<;>simp [q0a]
 ·simp only [qap]
  cases (d.Kind == 0)<;>cases (bytesEq d.Name [])<;>cases (d.From == 0)<;>cases (d.To == 0)<;>simp [q0a]
 ·simp only [Bool.and_eq_true,q3z,beq_iff_eq] at h
  obtain ⟨h1,h2,h3,h4,h5⟩:=h
  cases d with
  | mk k nm f t ks =>
   simp only [GDeriv.Kind,GDeriv.Name,GDeriv.From,GDeriv.To,GDeriv.Kids] at h1 h2 h3 h4 h5
   have hks:ks=[]:=List.eq_nil_of_length_eq_zero (by omega)
   subst h1 h2 h3 h4 hks
   rfl
theorem formed_ok {c:GChart} {e:GEdge} {n:Nat} (he:LE e n) (hn:1001≤n) (hu:∀ x∈c.Edges,0≤x.Unary∧x.Unary≤2) (hcl:c.Edges.length≤12) (hkd:e.Kind=1∨e.Kind=2) :
  ∃ b,q2f n c e=some b∧q8e n c e=some b∧(b=true→FormP c.Edges e):=by
 have hk:=he.kids
 unfold q2f q8e
 by_cases h1:e.Kind=1
 ·have e1:(e.Kind == 1)=true:=by simp [h1]
  obtain ⟨lb,l1,l2,l3⟩:=lex_ok n e.Lex (by have:=he.fuel; omega)
  simp only [e1,cond_true,l1,l2,q0a]
  refine ⟨((e.Kids.length:Int) == 0)&&((e.Unary == 0)&&(lb&&((e.Lex.From == e.From)&&((e.Lex.To == e.To)&&bytesEq e.Name e.Lex.Name)))),?_,?_,fun h=>?_⟩
  ·cases ((e.Kids.length:Int) == 0)<;>cases (e.Unary == 0)<;>cases lb<;>cases (e.Lex.From == e.From)<;>cases (e.Lex.To == e.To)<;>simp [q0a]
  ·cases ((e.Kids.length:Int) == 0)<;>cases (e.Unary == 0)<;>cases lb<;>cases (e.Lex.From == e.From)<;>cases (e.Lex.To == e.To)<;>cases (bytesEq e.Name e.Lex.Name)<;>simp [q0a]
  ·simp only [Bool.and_eq_true,q3z,beq_iff_eq] at h
   obtain ⟨g1,g2,g3,g4,g5,g6⟩:=h
   exact .inl ⟨h1,List.eq_nil_of_length_eq_zero (by omega),g2,l3 g3,g4,g5,g6⟩
 ·have h2:e.Kind=2:=hkd.resolve_left h1
  have e1:(e.Kind == 1)=false:=by simpa using h1
  obtain ⟨zb,z1,z2,z3⟩:=zero_ok n e.Lex
  obtain ⟨b,q1,q2,q3⟩:=form_L (c:=c) (e:=e) hk hu hcl n 0 e.From (by omega) (by omega) (by simp)
  rw [Int.ofNat_zero] at q1 q2
  simp only [e1,cond_false,z1,z2,q0a]
  cases hb:bytesEq e.Name [] with
  | true=>exact ⟨false,by simp [q0a],by simp [q0a],fun h=>by cases h⟩
  | false =>
   cases zb with
   | false=>exact ⟨false,by simp [q0a],by simp [q0a],fun h=>by cases h⟩
   | true =>
    by_cases hk0:e.Kids.length=0
    ·have a1:((e.Kids.length:Int) == 0)=true:=by simp [hk0]
     have a2:decide ((e.Kids.length:Int)<1)=true:=by simp; omega
     exact ⟨false,by simp only [a1,Bool.not_true,cond_false,cond_true,q0a],by simp only [a2,Bool.not_true,cond_false,cond_true,q0a],fun h=>by cases h⟩
    ·have a1:((e.Kids.length:Int) == 0)=false:=by rw [Bool.eq_false_iff]; intro h; have:=beq_iff_eq.1 h; omega
     have a2:decide ((e.Kids.length:Int)<1)=false:=by simp; omega
     simp only [a1,a2,Bool.not_true,cond_false,q0a]
     by_cases hk2:(e.Kids.length:Int) > 2
     ·simp only [hk2,decide_true,cond_true]; exact ⟨false,rfl,rfl,fun h=>by cases h⟩
     ·simp only [hk2,decide_false,cond_false,q1,q2]
      exact ⟨b,rfl,rfl,fun h=>.inr ⟨h2,by omega,by omega,by simpa using (q3 h).1,z3 rfl,(q3 h).2.1,(q3 h).2.2⟩⟩
end Go.Proofs
end
section
namespace Go.Proofs
open Go Go.Rx Go.Vx Go.Sort
set_option linter.unusedVariables false
set_option linter.unusedSimpArgs false
structure WF (w:Int) (es:List GEdge) (n:Nat):Prop where
 len:es.length≤12
 le:∀ e∈es,LE e n
 rng:∀ e∈es,0≤e.From∧e.From<e.To∧e.To≤w
 una:∀ e∈es,0≤e.Unary∧e.Unary≤2
 form:∀ (i:Nat) (e:GEdge),es[i]? = some e→FormP (es.take i) e
 nodup:(dvs es).Nodup
theorem WF.kids {w:Int} {es:List GEdge} {n:Nat} (h:WF w es n) {i:Nat} {e:GEdge} (he:es[i]? = some e):∀ k∈e.Kids,0≤k∧k.toNat<i:=fun k hk=>by
 have h1:=(h.form i e he).kids k hk
 have h2:=(List.getElem?_eq_some_iff.1 he).1
 rw [List.length_take] at h1
 exact ⟨h1.1,by omega⟩
theorem WF.get {w:Int} {es:List GEdge} {n:Nat} (h:WF w es n) {i:Nat} {e:GEdge} (he:es[i]? = some e):(dvs es)[i]? = some (dvE (dvs es) e):=by
 rw [dvs_get he]
 congr 1
 have h2:=(List.getElem?_eq_some_iff.1 he).1
 exact qc4 (h.kids he) fun j hj=>dvs_take hj (by omega)
theorem rder_L {c:GChart} {e:GEdge} {D:List GDeriv} (hk:e.Kids.length≤10) {self:GChart→GEdge→Option GDeriv} (hs:∀ k∈e.Kids,∃ x,idxO c.Edges k=some x∧self c x=some (D.getD k.toNat zeroD)):∀ (m i:Nat) (a:List GDeriv),e.Kids.length - i<m→i≤e.Kids.length→a.length≤i →
  q2a c e self m i a=some (.mk 2 e.Name e.From e.To (a++(e.Kids.drop i).map fun k=>D.getD k.toNat zeroD))
 | 0,i,a,hm,_,_=>by omega
 | m+1,i,a,hm,hi,ha=>by
  unfold q2a
  by_cases hlt:i<e.Kids.length
  ·obtain ⟨k,hkk,hkm⟩:=q0v hlt
   obtain ⟨x,h1,h2⟩:=hs k hkm
   simp only [dlt hlt,cond_true,q1t,hkk,q0a,h1,h2,wr1 hlt (show e.Kids.length≤9223372036854775807 by omega),drop_cons' hkk,List.map_cons]
   rw [q49 ⟨by omega,by omega⟩,rder_L hk hs m (i+1) _ (by omega) (by omega) (by simp; omega)]
   simp
  ·simp only [dnlt hlt,cond_false,q4u,drop_nil' hlt,List.map_nil,List.append_nil]
theorem rder_ok {w:Int} {es:List GEdge} {n0:Nat} (h:WF w es n0):∀ (s i:Nat) (e:GEdge),i<s→(∀ k∈e.Kids,0≤k∧k.toNat<i)→i≤es.length→e.Kids.length≤10→∀ n,i+20≤n→q1z n ⟨w,es⟩ e=some (dvE (dvs es) e)
 | 0,i,e,hs,_,_,_,_,_=>by omega
 | s+1,i,e,hs,hk,hi,hkl,n,hn=>by
  obtain ⟨n,rfl⟩:∃ m,n=m+1:=⟨n - 1,by omega⟩
  simp only [q1z,q5e,dvE]
  by_cases h1:e.Kind=1
  ·simp [h1]
  ·have e1:(e.Kind == 1)=false:=by simpa using h1
   have h2:=rder_L (c:=⟨w,es⟩) (D:=dvs es) hkl (self:=q1z n) (fun k hkm=>by
    obtain ⟨k0,k1⟩:=hk k hkm
    obtain ⟨x,hx,hxm⟩:=q0v (show k.toNat<es.length by omega)
    refine ⟨x,idxZ k0 hx,?_⟩
    rw [rder_ok h s k.toNat x (by omega) (h.kids hx) (by omega) (h.le x hxm).kids n (by omega)]
    rw [List.getD_eq_getElem?_getD,h.get hx]; rfl) n 0 [] (by omega) (by omega) (by simp)
   rw [Int.ofNat_zero] at h2
   rw [e1,cond_false,h2,if_neg h1]
   simp
theorem cder_L (c:GChart) (e:GEdge) (self:GChart→GEdge→Option GDeriv):∀ (m:Nat) (z:Int) (a:List GDeriv),q29 c e self m z a=q2a c e self m z a
 | 0,z,a=>rfl
 | m+1,z,a=>by unfold q29 q2a; simp only [cder_L c e self m,q3m,q4u]
theorem cder_eq:∀ n,q1l n=q1z n
 | 0=>rfl
 | n+1=>by
  funext c e
  simp only [q1l,q1z,q54,q5e,cder_eq n,cder_L]
theorem Deriv_eq (n:Nat) (c:GChart) (z:Int):q4s n c z=q6s n c z:=by simp only [q4s,q6s,cder_eq]
theorem Deriv_ok {w:Int} {es:List GEdge} {n0:Nat} (h:WF w es n0) {i:Nat} {e:GEdge} (he:es[i]? = some e) {n:Nat} (hn:100≤n):q6s n ⟨w,es⟩ i=some (dvE (dvs es) e):=by
 have hl:=(List.getElem?_eq_some_iff.1 he).1
 have h12:=h.len
 have c1:decide ((i:Int)<0)=false:=by rw [decide_eq_false_iff_not]; omega
 have c2:decide ((i:Int) ≥ (es.length:Int))=false:=by simp; omega
 simp only [q6s,c1,c2,cond_false,q0a,q1t,he,rder_ok h (i+1) i e (by omega) (h.kids he) (by omega) (h.le e (List.mem_of_getElem? he)).kids n (by omega)]
theorem FormP.kind {es:List GEdge} {e:GEdge} (h:FormP es e):e.Kind=1∨e.Kind=2:=by rcases h with h | h; exact .inl h.1; exact .inr h.1
theorem qbc {D:List GDeriv} (h:D.Nodup) {i j:Nat} (hi:i<D.length) (hj:j<D.length) (he:D.getD i zeroD=D.getD j zeroD):i=j:=by
 rw [List.getD_eq_getElem?_getD,List.getD_eq_getElem?_getD,List.getElem?_eq_getElem hi,List.getElem?_eq_getElem hj] at he
 exact (List.getElem_inj h).1 (by simpa using he)
theorem map_inj {D:List GDeriv} (h:D.Nodup):∀ {a b:List Int},(∀ k∈a,0≤k∧k.toNat<D.length)→(∀ k∈b,0≤k∧k.toNat<D.length)→(a.map fun k=>D.getD k.toNat zeroD)=(b.map fun k=>D.getD k.toNat zeroD)→a=b
 | [],[],_,_,_=>rfl
 | [],_::_,_,_,h=>by simp at h
 | _::_,[],_,_,h=>by simp at h
 | x::a,y::b,ha,hb,he=>by
  simp only [List.map_cons,List.cons.injEq] at he
  have hx:=ha x (by simp)
  have hy:=hb y (by simp)
  have:=qbc h hx.2 hy.2 he.1
  rw [map_inj h (fun k hk=>ha k (by simp [hk])) (fun k hk=>hb k (by simp [hk])) he.2,show x=y by omega]
theorem same_iff {D:List GDeriv} (hD:D.Nodup) {es fs:List GEdge} {x e:GEdge} (hx:FormP es x) (he:FormP fs e) (h1:es.length≤D.length) (h2:fs.length≤D.length) :
  dvE D x=dvE D e↔x.Kind=e.Kind∧x.Name=e.Name∧x.From=e.From∧x.To=e.To∧(if e.Kind=1 then x.Lex=e.Lex else x.Kids=e.Kids):=by
 have kx:=hx.kids
 have ke:=he.kids
 rcases hx with ⟨a1,a2,a3,a4,a5,a6,a7⟩ | ⟨a1,a2,a3,a4,a5,a6,a7⟩<;>rcases he with ⟨b1,b2,b3,b4,b5,b6,b7⟩ | ⟨b1,b2,b3,b4,b5,b6,b7⟩
 ·simp only [dvE,a1,b1,if_true]
  constructor
  ·intro h; exact ⟨trivial,by rw [a7,b7,h],by rw [← a5,← b5,h],by rw [← a6,← b6,h],h⟩
  ·intro h; exact h.2.2.2.2
 ·have b1':¬ e.Kind=1:=by omega
  simp only [dvE,a1,b1',if_true,if_false]
  constructor
  ·intro h; rw [h] at a4; simp [GDeriv.Kind] at a4
  ·intro h; omega
 ·have a1':¬ x.Kind=1:=by omega
  simp only [dvE,b1,a1',if_true,if_false]
  constructor
  ·intro h; rw [← h] at b4; simp [GDeriv.Kind] at b4
  ·intro h; exfalso; first | omega | exact h.1 | exact absurd h.1 (by omega) | (simp at h)
 ·have a1':¬ x.Kind=1:=by omega
  have b1':¬ e.Kind=1:=by omega
  simp only [dvE,a1',b1',if_false]
  constructor
  ·intro h
   simp only [GDeriv.mk.injEq] at h
   obtain ⟨_,h3,h4,h5,h6⟩:=h
   exact ⟨by omega,h3,h4,h5,map_inj hD (fun k hk=>⟨(kx k hk).1,by have:=(kx k hk).2; omega⟩) (fun k hk=>⟨(ke k hk).1,by have:=(ke k hk).2; omega⟩) h6⟩
  ·rintro ⟨_,h3,h4,h5,h6⟩
   rw [h3,h4,h5,h6]
def scanR (c:GChart) (e:GEdge) (d:GDeriv):List GDeriv→Nat→GChart×Int×Int
 | [],i=>(⟨c.Words,c.Edges++[e]⟩,(c.Edges.length:Int),0)
 | x::l,i=>if x=d then (c,(i:Int),4) else scanR c e d l (i+1)
theorem eqI_L {a b:List Int} (hl:a.length≤9223372036854775807) (he:a.length=b.length):∀ (m i:Nat),a.length - i<m→i≤a.length→q2b a b m i=some (decide (a.drop i=b.drop i))
 | 0,i,hm,_=>by omega
 | m+1,i,hm,hi=>by
  unfold q2b
  by_cases hlt:i<a.length
  ·obtain ⟨x,hx,_⟩:=q0v hlt
   obtain ⟨y,hy,_⟩:=q0v (show i<b.length by omega)
   simp only [dlt hlt,cond_true,q1t,hx,hy,q0a,wr1 hlt hl,drop_cons' hx,drop_cons' hy,List.cons.injEq]
   by_cases h:x=y
   ·have e:(x != y)=false:=by simp [h]
    rw [e,cond_false]
    simp only [h,true_and]
    exact eqI_L hl he m (i+1) (by omega) (by omega)
   ·have e:(x != y)=true:=by simpa using h
    simp [e,h]
  ·have h2:¬ i<b.length:=by omega
   simp only [dnlt hlt,cond_false,q3n,drop_nil' hlt,drop_nil' h2]; simp
theorem eqI_ok {a b:List Int} (hl:a.length≤9223372036854775807) {n:Nat} (hn:a.length<n):q2o n a b=some (decide (a=b)):=by
 unfold q2o
 by_cases h:a.length=b.length
 ·have e:((a.length:Int) != (b.length:Int))=false:=by simp [h]
  have:=eqI_L hl h n 0 (by omega) (by omega)
  rw [e,cond_false]
  simpa using this
 ·have e:((a.length:Int) != (b.length:Int))=true:=by simp; omega
  have:¬ a=b:=fun e=>h (by rw [e])
  simp [e,this]
theorem cut_self {α:Type} {l:List α} (hl:l.length≤1000):cutF l (l.length:Int)=some l:=by unfold cutF; rw [if_pos ⟨by omega,by omega,by omega⟩]; simp
theorem bytes_dec (a b:List UInt8):bytesEq a b=decide (a=b):=by rw [Bool.eq_iff_iff,q3z]; simp
theorem add_L {w:Int} {es:List GEdge} {n:Nat} (h:WF w es n) (hn:1001≤n) {e:GEdge} (he:FormP es e) (hl:LE e n):∀ (m i:Nat),es.length - i<m→i≤es.length→q40 ⟨w,es⟩ e n m i=some (scanR ⟨w,es⟩ e (dvE (dvs es) e) ((dvs es).drop i) i)
 | 0,i,hm,_=>by omega
 | m+1,i,hm,hi=>by
  have h12:=h.len
  have hdl:=q2s es
  unfold q40
  by_cases hlt:i<es.length
  ·obtain ⟨x,hx,hxm⟩:=q0v hlt
   have ih:=add_L h hn he hl m (i+1) (by omega) (by omega)
   have hs:=same_iff h.nodup (h.form i x hx) he (by rw [hdl,List.length_take]; omega) (by omega)
   have hlx:=h.le x hxm
   rw [drop_cons' (h.get hx)]
   simp only [dlt hlt,cond_true,q1t,hx,q0a,wr1 hlt (show es.length≤9223372036854775807 by omega),scanR,ih,bytes_dec]
   by_cases h1:x.Kind=e.Kind
   ·have e1:(x.Kind != e.Kind)=false:=by simp [h1]
    by_cases h2:x.Name=e.Name
    ·by_cases h3:x.From=e.From
     ·have e3:(x.From != e.From)=false:=by simp [h3]
      by_cases h4:x.To=e.To
      ·have e4:(x.To != e.To)=false:=by simp [h4]
       simp only [e1,h2,decide_true,Bool.not_true,e3,e4,cond_false,q0a]
       rcases he.kind with hk | hk
       ·have k1:(e.Kind == 1)=true:=by simp [hk]
        have k2:(e.Kind == 2)=false:=by simp [hk]
        simp only [k1,k2,cond_true,cond_false,q95 n x.Lex e.Lex (by have:=hlx.fuel; omega) hlx.ok,q0a]
        by_cases hc:x.Lex=e.Lex
        ·have:dvE (dvs es) x=dvE (dvs es) e:=hs.2 ⟨h1,h2,h3,h4,by rw [if_pos hk]; exact hc⟩
         have c0:(ccD x.Lex e.Lex == 0)=true:=by simpa using q8k.2 hc
         simp only [c0,cond_true,q0a,this,if_true]
        ·have:¬ dvE (dvs es) x=dvE (dvs es) e:=fun hh=>by have:=(hs.1 hh).2.2.2.2; rw [if_pos hk] at this; exact hc this
         have c0:(ccD x.Lex e.Lex == 0)=false:=by
          rw [Bool.eq_false_iff]; intro hh; exact hc (q8k.1 (by simpa using hh))
         simp only [c0,cond_false,q0a,this,if_false]
       ·have k1:(e.Kind == 1)=false:=by simp [hk]
        have k2:(e.Kind == 2)=true:=by simp [hk]
        have hkx:=hlx.kids
        simp only [k1,k2,cond_true,cond_false,eqI_ok (a:=x.Kids) (b:=e.Kids) (by omega) (n:=n) (by omega),q0a]
        by_cases hc:x.Kids=e.Kids
        ·have:dvE (dvs es) x=dvE (dvs es) e:=hs.2 ⟨h1,h2,h3,h4,by rw [if_neg (by omega)]; exact hc⟩
         simp only [hc,decide_true,cond_true,this,if_true]
        ·have:¬ dvE (dvs es) x=dvE (dvs es) e:=fun hh=>by have:=(hs.1 hh).2.2.2.2; rw [if_neg (by omega)] at this; exact hc this
         simp only [hc,decide_false,cond_false,this,if_false]
      ·have e4:(x.To != e.To)=true:=by simpa using h4
       have:¬ dvE (dvs es) x=dvE (dvs es) e:=fun hh=>h4 (hs.1 hh).2.2.2.1
       simp only [e1,h2,decide_true,Bool.not_true,e3,e4,cond_false,cond_true,q0a,this,if_false]
     ·have e3:(x.From != e.From)=true:=by simpa using h3
      have:¬ dvE (dvs es) x=dvE (dvs es) e:=fun hh=>h3 (hs.1 hh).2.2.1
      simp only [e1,h2,decide_true,Bool.not_true,e3,cond_false,cond_true,q0a,this,if_false]
    ·have:¬ dvE (dvs es) x=dvE (dvs es) e:=fun hh=>h2 (hs.1 hh).2.1
     simp only [e1,h2,decide_false,Bool.not_false,cond_false,cond_true,q0a,this,if_false]
   ·have e1:(x.Kind != e.Kind)=true:=by simpa using h1
    have:¬ dvE (dvs es) x=dvE (dvs es) e:=fun hh=>h1 (hs.1 hh).1
    simp only [e1,cond_true,q0a,this,if_false]
  ·rw [drop_nil' (l:=dvs es) (by omega)]
   simp only [dnlt hlt,cond_false,q71,cut_self (show es.length≤1000 by omega),q0a,scanR]
   rw [q49 ⟨by omega,by omega⟩]
theorem radd_L2 {w:Int} {es:List GEdge} (h12:es.length≤12) {e:GEdge}:∀ (m i:Nat) (a:List GEdge),es.length - i<m→i≤es.length→a.length≤i→q79 ⟨w,es⟩ e m i a=some (⟨w,a++es.drop i++[e]⟩,(es.length:Int),0)
 | 0,i,a,hm,_,_=>by omega
 | m+1,i,a,hm,hi,ha=>by
  unfold q79
  by_cases hlt:i<es.length
  ·obtain ⟨x,hx,_⟩:=q0v hlt
   simp only [dlt hlt,cond_true,q1t,hx,q0a,wr1 hlt (show es.length≤9223372036854775807 by omega),drop_cons' hx]
   rw [q49 ⟨by omega,by omega⟩,radd_L2 h12 m (i+1) _ (by omega) (by omega) (by simp; omega)]
   simp
  ·simp only [dnlt hlt,cond_false,qb2,drop_nil' hlt,List.append_nil]
   rw [q49 ⟨by omega,by omega⟩]
theorem radd_L1 {w:Int} {es:List GEdge} {n:Nat} (h:WF w es n) (hn:1001≤n) {e:GEdge} {d:GDeriv} (hD:∀ x∈dvs es,okG x∧SizeOf.sizeOf x+10≤n):∀ (m i:Nat),es.length - i<m→i≤es.length→q78 ⟨w,es⟩ e n d m i=some (scanR ⟨w,es⟩ e d ((dvs es).drop i) i)
 | 0,i,hm,_=>by omega
 | m+1,i,hm,hi=>by
  have h12:=h.len
  have hdl:=q2s es
  unfold q78
  by_cases hlt:i<es.length
  ·obtain ⟨x,hx,hxm⟩:=q0v hlt
   have ih:=radd_L1 h hn (e:=e) (d:=d) hD m (i+1) (by omega) (by omega)
   obtain ⟨q1,q2⟩:=hD _ (List.mem_of_getElem? (h.get hx))
   rw [drop_cons' (h.get hx)]
   simp only [dlt hlt,cond_true,Deriv_ok h hx (show 100≤n by omega),q0a,qch n (dvE (dvs es) x) d q2 q1,wr1 hlt (show es.length≤9223372036854775807 by omega),scanR,ih]
   by_cases hc:dvE (dvs es) x=d
   ·have c0:(ccD (dvE (dvs es) x) d == 0)=true:=by simpa using q8k.2 hc
    rw [c0,cond_true,if_pos hc]
   ·have c0:(ccD (dvE (dvs es) x) d == 0)=false:=by rw [Bool.eq_false_iff]; intro hh; exact hc (q8k.1 (by simpa using hh))
    rw [c0,cond_false,if_neg hc]
  ·have h2:=radd_L2 (w:=w) h12 (e:=e) n 0 [] (by omega) (by omega) (by simp)
   rw [Int.ofNat_zero] at h2
   rw [drop_nil' (l:=dvs es) (by omega)]
   simp only [dnlt hlt,cond_false,qb1,h2,scanR]
   simp
end Go.Proofs
end
section
namespace Go.Proofs
open Go Go.Rx Go.Vx Go.Sort
set_option linter.unusedVariables false
set_option linter.unusedSimpArgs false
theorem sz_mk (k:Int) (nm:List UInt8) (f t:Int) (ks:List GDeriv):SizeOf.sizeOf (GDeriv.mk k nm f t ks)=1+SizeOf.sizeOf k+SizeOf.sizeOf nm+SizeOf.sizeOf f+SizeOf.sizeOf t+SizeOf.sizeOf ks:=by simp
theorem sz_kids {B:Nat}:∀ {ks:List GDeriv},(∀ x∈ks,SizeOf.sizeOf x≤B)→SizeOf.sizeOf ks≤1+ks.length*(B+1)
 | [],_=>by simp
 | x::ks,h=>by
  have h1:=h x (by simp)
  have h2:=sz_kids (ks:=ks) fun y hy=>h y (by simp [hy])
  simp only [List.cons.sizeOf_spec,List.length_cons,Nat.add_mul]
  omega
theorem okGs_all:∀ {l:List GDeriv},(∀ d∈l,okG d)→okGs l
 | [],_=>by simp [okGs]
 | d::l,h=>by simp only [okGs]; exact ⟨h d (by simp),okGs_all fun e he=>h e (by simp [he])⟩
theorem dsz {w:Int} {es:List GEdge} {n S:Nat} (h:WF w es n) (hS:∀ e∈es,SizeOf.sizeOf e.Lex≤S∧SizeOf.sizeOf e.Name+SizeOf.sizeOf e.From+SizeOf.sizeOf e.To≤S):∀ (s i:Nat) (e:GEdge),i<s→es[i]? = some e→SizeOf.sizeOf (dvE (dvs es) e)≤(S+20)*3 ^ (i+1)∧okG (dvE (dvs es) e)
 | 0,i,e,hs,_=>by omega
 | s+1,i,e,hs,he=>by
  have hm:=List.mem_of_getElem? he
  obtain ⟨s1,s2⟩:=hS e hm
  have hp:1≤3 ^ i:=Nat.one_le_pow _ _ (by omega)
  have hpow:(S+20)*3 ^ (i+1)=3*((S+20)*3 ^ i):=by rw [Nat.pow_succ,Nat.mul_comm (3 ^ i) 3,Nat.mul_left_comm]
  have hbase:S+20≤(S+20)*3 ^ i:=Nat.le_mul_of_pos_right _ hp
  have hl:=(List.getElem?_eq_some_iff.1 he).1
  have hkid:∀ x∈e.Kids.map (fun k=>(dvs es).getD k.toNat zeroD),SizeOf.sizeOf x≤(S+20)*3 ^ i∧okG x:=fun x hx=>by
   obtain ⟨k,hk,rfl⟩:=List.mem_map.1 hx
   have hki:=h.kids he k hk
   obtain ⟨y,hy,_⟩:=q0v (show k.toNat<es.length by omega)
   rw [List.getD_eq_getElem?_getD,h.get hy]
   have h3:=dsz h hS s k.toNat y (by omega) hy
   refine ⟨Nat.le_trans h3.1 (Nat.mul_le_mul_left _ (Nat.pow_le_pow_right (by omega) (by omega))),h3.2⟩
  unfold dvE
  split
  ·exact ⟨by omega,(h.le e hm).ok⟩
  ·rename_i h1
   have hk2:e.Kids.length≤2:=by
    rcases h.form i e he with hf | hf
    ·exact absurd hf.1 h1
    ·exact hf.2.2.1
   refine ⟨?_,?_⟩
   ·have h4:=sz_kids (fun x hx=>(hkid x hx).1)
    rw [List.length_map] at h4
    rw [sz_mk]
    have h5:SizeOf.sizeOf (2:Int)=3:=rfl
    have h6:e.Kids.length*((S+20)*3 ^ i+1)≤2*((S+20)*3 ^ i+1):=Nat.mul_le_mul_right _ hk2
    omega
   ·simp only [okG,List.length_map]
    exact ⟨by omega,okGs_all fun x hx=>(hkid x hx).2⟩
theorem pow12 {i:Nat} (h:i≤12):3 ^ (i+1)≤1594323:=Nat.le_trans (Nat.pow_le_pow_right (by omega) (show i+1≤13 by omega)) (by decide)
structure Fit (l:List GEdge) (n:Nat):Prop where
 le:∀ e∈l,LE e n
 big:(SizeOf.sizeOf l+20)*1594323+2000≤n
theorem sz_edge {l:List GEdge} {e:GEdge} (h:e∈l):SizeOf.sizeOf e.Lex≤SizeOf.sizeOf l∧SizeOf.sizeOf e.Name+SizeOf.sizeOf e.From+SizeOf.sizeOf e.To≤SizeOf.sizeOf l:=by
 have h1:=List.sizeOf_lt_of_mem h
 cases e
 simp only [GEdge.mk.sizeOf_spec] at h1
 simp only []
 omega
theorem dfit {w:Int} {es l:List GEdge} {n:Nat} (h:WF w es n) (hl:Fit l n) (hsub:∀ e∈es,e∈l):∀ x∈dvs es,okG x∧SizeOf.sizeOf x+10≤n:=fun x hx=>by
 obtain ⟨i,hi⟩:=List.getElem?_of_mem hx
 have hil:=(List.getElem?_eq_some_iff.1 hi).1
 rw [q2s] at hil
 obtain ⟨e,he,_⟩:=q0v hil
 rw [h.get he] at hi
 cases hi
 have h1:=dsz h (S:=SizeOf.sizeOf l) (fun e hem=>sz_edge (hsub e hem)) (i+1) i e (by omega) he
 have h2:=pow12 (i:=i) (by have:=h.len; omega)
 have h3:(SizeOf.sizeOf l+20)*3 ^ (i+1)≤(SizeOf.sizeOf l+20)*1594323:=Nat.mul_le_mul_left _ h2
 have h4:=hl.big
 exact ⟨h1.2,by omega⟩
theorem scan_cases (c:GChart) (e:GEdge) (d:GDeriv):∀ (l:List GDeriv) (i:Nat),(∃ j,scanR c e d l i=(c,j,4))∨(d ∉ l∧scanR c e d l i=(⟨c.Words,c.Edges++[e]⟩,(c.Edges.length:Int),0))
 | [],i=>.inr ⟨by simp,rfl⟩
 | x::l,i=>by
  by_cases h:x=d
  ·exact .inl ⟨i,by simp [scanR,h]⟩
  ·rcases scan_cases c e d l (i+1) with ⟨j,hj⟩ | ⟨h1,h2⟩
   ·exact .inl ⟨j,by simp [scanR,h,hj]⟩
   ·exact .inr ⟨by simp [h1,Ne.symm h],by simp [scanR,h,h2]⟩
theorem WF.snoc {w:Int} {es:List GEdge} {n:Nat} (h:WF w es n) {e:GEdge} (hl:es.length+1≤12) (he:LE e n) (hr:0≤e.From∧e.From<e.To∧e.To≤w) (hf:FormP es e) (hd:dvE (dvs es) e ∉ dvs es):WF w (es++[e]) n where
 len:=by simp; omega
 le:=fun x hx=>by rcases List.mem_append.1 hx with hx | hx; exact h.le x hx; simp at hx; subst hx; exact he
 rng:=fun x hx=>by rcases List.mem_append.1 hx with hx | hx; exact h.rng x hx; simp at hx; subst hx; exact hr
 una:=fun x hx=>by
  rcases List.mem_append.1 hx with hx | hx
  ·exact h.una x hx
  ·simp at hx; subst hx
   rcases hf with ⟨_,_,hu,_⟩ | ⟨_,_,_,_,_,hu,h2⟩
   ·omega
   ·refine ⟨?_,h2⟩
    rw [hu]
    unfold unaryOf
    split
    ·split
     ·rename_i y hy; have:=h.una y (List.mem_of_getElem? hy); omega
     ·omega
    ·omega
 form:=fun i x hx=>by
  by_cases hi:i<es.length
  ·rw [List.getElem?_append_left hi] at hx
   rw [List.take_append_of_le_length (by omega)]
   exact h.form i x hx
  ·have hie:i=es.length:=by have:=(List.getElem?_eq_some_iff.1 hx).1; simp at this; omega
   subst hie
   simp at hx
   subst hx
   simpa using hf
 nodup:=by
  rw [dvs_app,List.nodup_append]
  refine ⟨h.nodup,by simp,fun a ha b hb=>?_⟩
  simp at hb
  subst hb
  intro hc
  exact hd (hc ▸ ha)
theorem add_ok {w:Int} {es l:List GEdge} {n:Nat} (h:WF w es n) (hl:Fit l n) (hsub:∀ e∈es,e∈l) (h11:es.length+1≤12) {e:GEdge} (hel:e∈l) :
  ∃ es' k z,q20 n ⟨w,es⟩ e=some (⟨w,es'⟩,k,z)∧qce n ⟨w,es⟩ e=some (⟨w,es'⟩,k,z)∧WF w es' n∧(∀ x∈es',x∈l)∧es'.length≤es.length+1∧(es'=es∨(es'=es++[e]∧z=0))∧(z=0→es'=es++[e]):=by
 have hn:1001≤n:=by have:=hl.big; omega
 have hle:=hl.le e hel
 have stay:∀ (k z:Int),z≠0→∃ es' k' z',(some ((⟨w,es⟩:GChart),k,z):Option (GChart×Int×Int))=some (⟨w,es'⟩,k',z')∧(some ((⟨w,es⟩:GChart),k,z):Option (GChart×Int×Int))=some (⟨w,es'⟩,k',z')∧WF w es' n∧(∀ x∈es',x∈l)∧es'.length≤es.length+1∧(es'=es∨(es'=es++[e]∧z'=0))∧(z'=0→es'=es++[e]) :=
  fun k z hz=>⟨es,k,z,rfl,rfl,h,hsub,by omega,.inl rfl,fun h0=>absurd h0 hz⟩
 unfold q20 qce
 by_cases h1:e.From<0
 ·simp only [h1,decide_true,cond_true,q0a]; exact stay 0 2 (by decide)
 ·by_cases h2:e.From ≥ e.To
  ·simp only [h1,h2,decide_true,decide_false,cond_true,cond_false,q0a]; exact stay 0 2 (by decide)
  ·by_cases h3:e.To > w
   ·simp only [h1,h2,h3,decide_true,decide_false,cond_true,cond_false,q0a]; exact stay 0 2 (by decide)
   ·simp only [h1,h2,h3,decide_false,cond_false,q0a]
    by_cases hk:e.Kind=1∨e.Kind=2
    ·have ek:(cond (e.Kind != 1) (some (e.Kind != 2)) (some false):Option Bool)=some false:=by
      rcases hk with hk | hk<;>simp [hk]
     simp only [ek,q0a,cond_false]
     obtain ⟨b,q1,q2,q3⟩:=formed_ok (c:=⟨w,es⟩) hle hn h.una h.len hk
     simp only [q1,q2,q0a]
     cases b with
     | false=>simp only [Bool.not_false,cond_true]; exact stay 0 13 (by decide)
     | true =>
      have hf:FormP es e:=q3 rfl
      have ha:=add_L h hn hf hle n 0 (by have:=h.len; omega) (by omega)
      have hd:=rder_ok h (es.length+1) es.length e (by omega) hf.kids (by omega) hle.kids n (by have:=h.len; omega)
      have hr:=radd_L1 h hn (e:=e) (d:=dvE (dvs es) e) (dfit h hl hsub) n 0 (by have:=h.len; omega) (by omega)
      rw [Int.ofNat_zero,List.drop_zero] at ha hr
      simp only [Bool.not_true,cond_false,ha,hd,hr,q0a]
      rcases scan_cases ⟨w,es⟩ e (dvE (dvs es) e) (dvs es) 0 with ⟨j,hj⟩ | ⟨hnm,hj⟩
      ·rw [hj]; exact stay j 4 (by decide)
      ·rw [hj]
       exact ⟨es++[e],(es.length:Int),0,rfl,rfl,h.snoc h11 hle ⟨by omega,by omega,by omega⟩ hf hnm,fun x hx=>by
        rcases List.mem_append.1 hx with hx | hx
        ·exact hsub x hx
        ·simp at hx; subst hx; exact hel,by simp,.inr ⟨rfl,rfl⟩,fun _=>rfl⟩
    ·have ek:(cond (e.Kind != 1) (some (e.Kind != 2)) (some false):Option Bool)=some true:=by
      have a1:(e.Kind != 1)=true:=by simpa using fun h=>hk (.inl h)
      have a2:(e.Kind != 2)=true:=by simpa using fun h=>hk (.inr h)
      rw [a1,a2]; rfl
     simp only [ek,q0a,cond_true]
     exact stay 0 14 (by decide)
theorem WF.nil (w:Int) (n:Nat):WF w [] n:=⟨by simp,(fun e h=>by cases h),(fun e h=>by cases h),(fun e h=>by cases h),(fun i e h=>by simp at h),by simp [dvs]⟩
theorem wordsOf {p:Int} (hp:0≤p∧p≤255):IntKind.i64.wrap (1+((IntKind.i64.wrap p).tmod 8))=1+p % 8:=by
 rw [wr (z:=p) (by omega) (by omega),Int.tmod_eq_emod_of_nonneg hp.1,wr (by omega) (by omega)]
theorem new_some {w:Int} (h1:1≤w) (h2:w≤8) (n:Nat):qcf n w=some (⟨w,[]⟩,0):=by
 have a:¬ w<1:=by omega
 have b:¬ w > 32:=by omega
 simp [qcf,a,b,q0a]
theorem light_fit {l:List GEdge} (hok:∀ e∈l,okG e.Lex) {n:Nat} (hn:(SizeOf.sizeOf l+20)*1594323+2000≤n):∃ b,q4t n l 12=some b∧(b=true→l.length≤12∧Fit l n):=by
 obtain ⟨b,h1,h2⟩:=light_ok (l:=l) (n:=n) (by omega) fun e he=>⟨hok e he,by have:=(sz_edge he).1; omega⟩
 exact ⟨b,h1,fun hb=>⟨(h2 hb).1,(h2 hb).2,hn⟩⟩
end Go.Proofs
end
section
namespace Go.Proofs
open Go Go.Rx Go.Vx Go.Sort
set_option linter.unusedVariables false
set_option linter.unusedSimpArgs false
def cmpE:GEdge×GDeriv→GEdge×GDeriv→Int:=lexC (fun x y=>cmpI (x.1.To - x.1.From) (y.1.To - y.1.From)) (lexC (fun x y=>cmpI x.1.From y.1.From) (lexC (fun x y=>cmpI x.1.Unary y.1.Unary) (fun x y=>ccD x.2 y.2)))
theorem cmpE_ok:Cmp cmpE:=(qae.pull (fun x:GEdge×GDeriv=>x.1.To - x.1.From)).lex ((qae.pull (fun x:GEdge×GDeriv=>x.1.From)).lex ((qae.pull (fun x:GEdge×GDeriv=>x.1.Unary)).lex (cmpD_ok.pull (fun x:GEdge×GDeriv=>x.2))))
theorem cmpE_zero {x y:GEdge×GDeriv} (h:cmpE x y=0):x.2=y.2:=by
 simp only [cmpE,lexC_zero] at h
 exact q8k.1 h.2.2.2
def zeroE:GEdge:=⟨0,0,0,0,[],[],zeroD,⟨[]⟩⟩
def pr (es:List GEdge) (z:Int):GEdge×GDeriv:=(es.getD z.toNat zeroE,(dvs es).getD z.toNat zeroD)
def cI' (es:List GEdge) (a b:Int):Int:=cmpE (pr es a) (pr es b)
theorem cI_ok (es:List GEdge):Cmp (cI' es):=cmpE_ok.pull (pr es)
def idx (n:Nat):List Int:=(List.range n).map fun i:Nat=>(i:Int)
theorem qah (n:Nat):(idx n).length=n:=by simp [idx]
theorem q7p {n:Nat} {z:Int}:z∈idx n↔0≤z∧z.toNat<n:=by
 simp only [idx,List.mem_map,List.mem_range]
 constructor
 ·rintro ⟨i,hi,rfl⟩; exact ⟨by omega,by omega⟩
 ·rintro ⟨h1,h2⟩; exact ⟨z.toNat,h2,by omega⟩
theorem idx_get {n i:Nat} (h:i<n):(idx n)[i]? = some (i:Int):=by simp [idx,h]
theorem idx_nodup (n:Nat):(idx n).Nodup:=by
 unfold idx List.Nodup
 rw [List.pairwise_map]
 exact List.Pairwise.imp (fun {a b} h=>by omega) (List.nodup_range (n:=n))
theorem cI_zero {w:Int} {es:List GEdge} {n:Nat} (h:WF w es n) {a b:Int} (ha:a∈idx es.length) (hb:b∈idx es.length) (hz:cI' es a b=0):a=b:=by
 rw [q7p] at ha hb
 have h1:=cmpE_zero hz
 have:=qbc h.nodup (by rw [q2s]; exact ha.2) (by rw [q2s]; exact hb.2) h1
 omega
theorem insB_congr {α:Type} {lt lt':α→α→Bool} (x:α):∀ {l:List α},(∀ y∈l,lt y x=lt' y x)→insB lt x l=insB lt' x l
 | [],_=>rfl
 | y::l,h=>by
  have ih:=insB_congr (lt:=lt) (lt':=lt') x (l:=l) fun z hz=>h z (List.mem_cons_of_mem _ hz)
  simp only [insB,h y (by simp),ih]
theorem srt_congr {α:Type} {lt lt':α→α→Bool}:∀ {l:List α},(∀ x∈l,∀ y∈l,lt x y=lt' x y)→srt lt l=srt lt' l
 | [],_=>rfl
 | x::l,h=>by
  simp only [srt]
  rw [srt_congr fun a ha b hb=>h a (by simp [ha]) b (by simp [hb])]
  exact insB_congr x fun y hy=>h y (by simp [(qa3 lt' l).mem_iff.1 hy]) x (by simp)
theorem okSort_of {f:Int→Int→Option Int} {c:Int→Int→Int} (hc:Cmp c) {ds:List Int} (hf:∀ x∈ds,∀ y∈ds,f x y=some (c x y)) (hz:∀ x∈ds,∀ y∈ds,c x y=0→x=y):okSort (fun x y=>x == y) f ds=true:=by
 have hlt:∀ x∈ds,∀ y∈ds,fLt f x y=ltOf c x y:=fun x hx y hy=>by simp [fLt,hf x hx y hy,ltOf]
 have hs:=hc.swo
 unfold okSort
 rw [List.all_eq_true]
 intro x hx
 rw [Bool.and_eq_true,Bool.not_eq_true',List.all_eq_true]
 refine ⟨by rw [hlt x hx x hx]; exact hs.irrefl x,fun y hy=>?_⟩
 rw [Bool.and_eq_true,Bool.and_eq_true,List.all_eq_true]
 refine ⟨by rw [hf x hx y hy]; rfl,?_,fun z hzm=>?_⟩
 ·rw [hlt x hx y hy,hlt y hy x hx]
  cases h1:ltOf c x y with
  | true=>rfl
  | false =>
   cases h2:ltOf c y x with
   | true=>rfl
   | false =>
    have a:=hc.anti x y
    simp [ltOf] at h1 h2
    have:=hz x hx y hy (by omega)
    simp [this]
 ·rw [hlt x hx y hy,hlt y hy z hzm,hlt x hx z hzm]
  cases h1:ltOf c x y with
  | true =>
   cases h2:ltOf c y z with
   | true=>simp [hs.trans x y z h1 h2]
   | false=>simp
  | false =>
   cases h2:ltOf c y z with
   | true=>simp
   | false=>simp [hs.ntrans x y z h1 h2]
theorem sortO_of {f:Int→Int→Option Int} {c:Int→Int→Int} (hc:Cmp c) {ds:List Int} (hl:ds.length≤1000000) (hf:∀ x∈ds,∀ y∈ds,f x y=some (c x y)) (hz:∀ x∈ds,∀ y∈ds,c x y=0→x=y):sortO (fun x y=>x == y) f ds=some (srt (ltOf c) ds):=by
 unfold sortO
 have hb:Nat.ble ds.length 1000000=true:=by rw [Nat.ble_eq]; exact hl
 rw [okSort_of hc hf hz,hb]
 simp only [Bool.and_self,cond_true]
 have e:srt (fLt f) ds=srt (ltOf c) ds:=srt_congr fun x hx y hy=>by simp [fLt,hf x hx y hy,ltOf]
 rw [e]
def ordL (es:List GEdge):List Int:=srt (ltOf (cI' es)) (idx es.length)
theorem q59 (es:List GEdge):(ordL es).Perm (idx es.length):=qa3 _ _
theorem q3y (es:List GEdge):(ordL es).length=es.length:=by rw [(q59 es).length_eq,qah]
theorem q2n {es:List GEdge} {z:Int}:z∈ordL es↔0≤z∧z.toNat<es.length:=by rw [(q59 es).mem_iff,q7p]
theorem qan (es:List GEdge):(ordL es).Nodup:=(q59 es).nodup_iff.2 (idx_nodup _)
theorem qbf {w:Int} {es:List GEdge} {n:Nat} (h:WF w es n):(ordL es).Pairwise fun x y=>cI' es x y<0:=by
 have h1:=srt_le (cI_ok es) (idx es.length)
 have h2:(ordL es).Pairwise fun x y=>x≠y:=qan es
 have h3:=h1.and h2
 refine List.Pairwise.imp_of_mem (fun {a b} ha hb hab=>?_) h3
 have ha':=(q59 es).mem_iff.1 ha
 have hb':=(q59 es).mem_iff.1 hb
 rcases Int.lt_or_eq_of_le hab.1 with h | h'
 ·exact h
 ·exact absurd (cI_zero h ha' hb' h') hab.2
theorem rank_of {c:Int→Int→Int} (hc:Cmp c):∀ {L:List Int},L.Pairwise (fun x y=>c x y<0)→∀ {t:Nat} {i:Int},L[t]? = some i→(L.filter fun k=>decide (c k i<0)).length=t
 | [],_,t,i,h=>by simp at h
 | x::L,hp,t,i,h=>by
  rw [List.pairwise_cons] at hp
  cases t with
  | zero =>
   simp at h
   subst h
   have h0:(L.filter fun k=>decide (c k x<0))=[]:=by
    rw [List.filter_eq_nil_iff]
    intro k hk
    have a:=hp.1 k hk
    have b:=hc.anti x k
    simp; omega
   simp [List.filter_cons,hc.self x,h0]
  | succ t =>
   have hi:L[t]? = some i:=by simpa using h
   have hx:=hp.1 i (List.mem_of_getElem? hi)
   simp [List.filter_cons,hx,rank_of hc hp.2 hi]
def rank (es:List GEdge) (i:Int):Int:=(((idx es.length).filter fun k=>decide (cI' es k i<0)).length:Int)
def numL (es:List GEdge):List Int:=(idx es.length).map (rank es)
theorem rank_ord {w:Int} {es:List GEdge} {n:Nat} (h:WF w es n) {t:Nat} {i:Int} (ht:(ordL es)[t]? = some i):rank es i=t:=by
 have h1:=rank_of (cI_ok es) (qbf h) ht
 have h2:=((q59 es).filter fun k=>decide (cI' es k i<0)).length_eq
 unfold rank
 omega
theorem numL_len (es:List GEdge):(numL es).length=es.length:=by simp [numL,qah]
theorem numL_get {es:List GEdge} {i:Nat} (h:i<es.length):(numL es)[i]? = some (rank es i):=by simp [numL,idx_get h]
def renum (num:List Int) (e:GEdge):GEdge:=⟨e.From,e.To,e.Unary,e.Kind,e.Name,e.Kids.map fun k=>num.getD k.toNat 0,e.Lex,e.FS⟩
def canonE (es:List GEdge):List GEdge:=(ordL es).map fun i=>renum (numL es) (es.getD i.toNat zeroE)
theorem q3f (es:List GEdge):(canonE es).length=es.length:=by simp [canonE,q3y]
theorem or3_eq (a b c:Int):q3t 5 [a,b,c]=some (if a≠0 then a else if b≠0 then b else c):=by
 have w0:IntKind.i64.wrap ((0:Int)+1)=1:=by rw [wr (by omega) (by omega)]; rfl
 have w1:IntKind.i64.wrap ((1:Int)+1)=2:=by rw [wr (by omega) (by omega)]; rfl
 have w2:IntKind.i64.wrap ((2:Int)+1)=3:=by rw [wr (by omega) (by omega)]; rfl
 have i0:idxO [a,b,c] 0=some a:=rfl
 have i1:idxO [a,b,c] 1=some b:=rfl
 have i2:idxO [a,b,c] 2=some c:=rfl
 have k0:decide ((0:Int)<(([a,b,c]:List Int).length:Int))=true:=by simp
 have k1:decide ((1:Int)<(([a,b,c]:List Int).length:Int))=true:=by simp
 have k2:decide ((2:Int)<(([a,b,c]:List Int).length:Int))=true:=by simp
 have k3:decide ((3:Int)<(([a,b,c]:List Int).length:Int))=false:=by simp
 simp only [q3t,q2r,q56,w0,w1,w2,i0,i1,i2,k0,k1,k2,k3,cond_true,cond_false,q0a]
 by_cases ha:a=0
 ·by_cases hb:b=0
  ·by_cases hc:c=0
   ·simp [ha,hb,hc]
   ·have:(c != 0)=true:=by simpa using hc
    simp [ha,hb,this]
  ·have:(b != 0)=true:=by simpa using hb
   simp [ha,hb,this]
 ·have:(a != 0)=true:=by simpa using ha
  simp [ha,this]
theorem span {w:Int} {es:List GEdge} {n:Nat} (h:WF w es n) (hw:w≤1000) {e:GEdge} (he:e∈es):IntKind.i64.wrap (e.To - e.From)=e.To - e.From:=by
 have:=h.rng e he
 exact wr (by omega) (by omega)
theorem pr_get {es:List GEdge} {i:Nat} {e:GEdge} {d:GDeriv} (he:es[i]? = some e) (hd:(dvs es)[i]? = some d):pr es (i:Int)=(e,d):=by
 simp [pr,List.getD_eq_getElem?_getD,he,hd]
theorem canon1_ok {w:Int} {es:List GEdge} {n:Nat} (h:WF w es n) (hw:w≤1000) (hn:2000≤n) (hD:∀ x∈dvs es,okG x∧SizeOf.sizeOf x+10≤n) {a b:Int} (ha:a∈idx es.length) (hb:b∈idx es.length):q45 n a b ⟨w,es⟩ (dvs es)=some (cI' es a b):=by
 rw [q7p] at ha hb
 obtain ⟨x,hx,hxm⟩:=q0v ha.2
 obtain ⟨y,hy,hym⟩:=q0v hb.2
 have hdx:=h.get hx
 have hdy:=h.get hy
 obtain ⟨q1,q2⟩:=hD _ (List.mem_of_getElem? hdx)
 have pa:=pr_get hx hdx
 have pb:=pr_get hy hdy
 rw [Int.toNat_of_nonneg ha.1] at pa
 rw [Int.toNat_of_nonneg hb.1] at pb
 have h3:=orL_fuel 5 n _ _ _ (by omega) (or3_eq (cmpI (x.To - x.From) (y.To - y.From)) (cmpI x.From y.From) (cmpI x.Unary y.Unary))
 simp only [q45,idxZ (l:=es) ha.1 hx,idxZ (l:=es) hb.1 hy,q0a,span h hw hxm,span h hw hym,cmpInt_eq,q3t,h3,idxZ (l:=dvs es) ha.1 hdx,idxZ (l:=dvs es) hb.1 hdy,q95 n _ (dvE (dvs es) y) q2 q1]
 unfold cI'
 rw [pa,pb]
 simp only [cmpE,lexC]
 by_cases c1:cmpI (x.To - x.From) (y.To - y.From)=0
 ·by_cases c2:cmpI x.From y.From=0
  ·by_cases c3:cmpI x.Unary y.Unary=0
   ·simp [c1,c2,c3]
   ·have:(cmpI x.Unary y.Unary != 0)=true:=by simpa using c3
    simp [c1,c2,c3,this]
  ·have:(cmpI x.From y.From != 0)=true:=by simpa using c2
   simp [c1,c2,this]
 ·have:(cmpI (x.To - x.From) (y.To - y.From) != 0)=true:=by simpa using c1
  simp [c1,this]
end Go.Proofs
end
section
namespace Go.Proofs
open Go Go.Rx Go.Vx Go.Sort
set_option linter.unusedVariables false
set_option linter.unusedSimpArgs false
theorem q98 {α:Type} {l:List α} {N i:Nat} (h:i<N) (hl:l.length=N):∃ x,idxV l 0 N (i:Int)=some x∧l[i]? = some x:=by
 obtain ⟨x,hx,_⟩:=q0v (show i<l.length by omega)
 refine ⟨x,?_,hx⟩
 unfold idxV
 rw [if_pos ⟨by omega,by omega⟩]
 simpa using hx
theorem set_take' {α:Type} {L:List α} {i:Nat} {x:α} (h:i<L.length):(L.set i x).take (i+1)=L.take i++[x]:=by
 rw [List.take_add_one,List.take_set_of_le (Nat.le_refl _),List.getElem?_set]
 simp [h]
theorem qc7 {α:Type} {a b:List α} {N:Nat} (ha:a.length=N) (hb:b.length=N) (h:a.take N=b.take N):a=b:=by
 rw [List.take_of_length_le (by omega),List.take_of_length_le (by omega)] at h; exact h
section
variable {w:Int} {es:List GEdge} {n:Nat} (h:WF w es n) (hw:w≤1000) (hn:2000≤n) (hD:∀ x∈dvs es,okG x∧SizeOf.sizeOf x+10≤n)
include h hw hn hD
omit hD in
theorem canon_L1:∀ (m i:Nat) (D:List GDeriv) (O:List Int),es.length - i<m→i≤es.length→D.length=es.length→O.length=es.length→D.take i=(dvs es).take i→O.take i=(idx es.length).take i →
  q3r ⟨w,es⟩ n m i D O=q4f ⟨w,es⟩ n (dvs es) (idx es.length)
 | 0,i,D,O,hm,_,_,_,_,_=>by omega
 | m+1,i,D,O,hm,hi,hD,hO,tD,tO=>by
  have _:=hw
  have _:=hn
  have h12:=h.len
  unfold q3r
  simp only [Int.toNat_natCast]
  by_cases hlt:i<es.length
  ·obtain ⟨e,he,_⟩:=q0v hlt
   obtain ⟨a,ha,_⟩:=q98 hlt hO
   obtain ⟨b,hb,_⟩:=q98 hlt hD
   rw [dlt hlt,cond_true,Deriv_eq,Deriv_ok h he (show 100≤n by omega)]
   simp only [q0a,ha,hb,wr1 hlt (show es.length≤9223372036854775807 by omega)]
   refine canon_L1 m (i+1) _ _ (by omega) (by omega) (by simpa using hD) (by simpa using hO) ?_ ?_
   ·rw [set_take' (by omega),tD,q6v (h.get he)]
   ·rw [set_take' (by omega),tO,q6v (idx_get hlt)]
  ·rw [dnlt hlt,cond_false]
   have hie:i=es.length:=by omega
   subst hie
   rw [qc7 hD (q2s es) tD,qc7 hO (qah _) tO]
theorem canon_L2:∀ (m t:Nat) (L:List Int),es.length - t<m→t≤es.length→L.length=es.length→(∀ (s:Nat) (i:Int),s<t→(ordL es)[s]? = some i→L[i.toNat]? = some (s:Int)) →
  q39 ⟨w,es⟩ n (ordL es) m t L=q4g ⟨w,es⟩ n (ordL es) (numL es)
 | 0,t,L,hm,_,_,_=>by omega
 | m+1,t,L,hm,ht,hL,hI=>by
  have _:=hw
  have _:=hn
  have _:=hD
  have h12:=h.len
  unfold q39
  simp only [Int.toNat_natCast]
  by_cases hlt:t<es.length
  ·obtain ⟨i,hi,hi2⟩:=q98 hlt (q3y es)
   have him:=q2n.1 (List.mem_of_getElem? hi2)
   obtain ⟨q,hq,_⟩:=q98 him.2 hL
   rw [Int.toNat_of_nonneg him.1] at hq
   rw [dlt hlt,cond_true]
   simp only [hi,q0a,hq,wr1 hlt (show es.length≤9223372036854775807 by omega)]
   refine canon_L2 m (t+1) _ (by omega) (by omega) (by simpa using hL) fun s j hs hj=>?_
   rw [List.getElem?_set]
   by_cases hst:s=t
   ·subst hst
    rw [hi2] at hj; cases hj
    simp; omega
   ·have hne:i.toNat≠j.toNat:=fun hc=>by
     have hjm:=q2n.1 (List.mem_of_getElem? hj)
     have hij:i=j:=by omega
     subst hij
     obtain ⟨h1,e1⟩:=List.getElem?_eq_some_iff.1 hi2
     obtain ⟨h2,e2⟩:=List.getElem?_eq_some_iff.1 hj
     exact hst ((List.getElem_inj (qan es)).1 (e2.trans e1.symm))
    rw [if_neg hne]
    exact hI s j (by omega) hj
  ·rw [dnlt hlt,cond_false]
   have hte:t=es.length:=by omega
   have:L=numL es:=List.ext_getElem? fun k=>by
    by_cases hk:k<es.length
    ·have hm2:(k:Int)∈ordL es:=q2n.2 ⟨by omega,by simpa using hk⟩
     obtain ⟨s,hs⟩:=List.getElem?_of_mem hm2
     have hsl:=(List.getElem?_eq_some_iff.1 hs).1
     rw [q3y] at hsl
     have h1:=hI s k (by omega) hs
     rw [Int.toNat_natCast] at h1
     rw [h1,numL_get hk,rank_ord h hs]
    ·rw [List.getElem?_eq_none (by omega),List.getElem?_eq_none (by rw [numL_len]; omega)]
   rw [this]
theorem canon_L4 {i:Nat} {e:GEdge} (he:es[i]? = some e) {z:Int} {a:List GEdge} (ha:a.length≤40) {rc:Int→List GEdge→Option GChart}:∀ (m j:Nat) (K:List Int),e.Kids.length - j<m→j≤e.Kids.length→K.length=e.Kids.length→K.take j=(e.Kids.map fun k=>(numL es).getD k.toNat 0).take j →
  q3s ⟨w,es⟩ (numL es) z a rc e m j K=rc (IntKind.i64.wrap (z+1)) (a++[renum (numL es) e])
 | 0,j,K,hm,_,_,_=>by omega
 | m+1,j,K,hm,hj,hK,tK=>by
  have _:=hw
  have _:=hn
  have _:=hD
  have hkl:=(h.le e (List.mem_of_getElem? he)).kids
  have hil:=(List.getElem?_eq_some_iff.1 he).1
  unfold q3s
  by_cases hlt:j<e.Kids.length
  ·obtain ⟨k,hk,hkm⟩:=q0v hlt
   obtain ⟨k0,k1⟩:=h.kids he k hkm
   obtain ⟨q,hq,hq2⟩:=q98 (show k.toNat<es.length by omega) (numL_len es)
   rw [Int.toNat_of_nonneg k0] at hq
   obtain ⟨y,hy,_⟩:=q98 hlt hK
   simp only [dlt hlt,cond_true,q1t,hk,q0a,Int.toNat_natCast,hq,hy,wr1 hlt (show e.Kids.length≤9223372036854775807 by omega)]
   refine canon_L4 he ha m (j+1) _ (by omega) (by omega) (by simpa using hK) ?_
   rw [set_take' (by omega),tK,q6v (x:=(numL es).getD k.toNat 0) (by simp [hk]),List.getD_eq_getElem?_getD,hq2]
   rfl
  ·have hje:j=e.Kids.length:=by omega
   subst hje
   have:K=e.Kids.map fun k=>(numL es).getD k.toNat 0:=qc7 hK (by simp) tK
   simp only [dlt,dnlt hlt,cond_false,q5q,Int.toNat_natCast,this,List.length_map]
   rw [q49 trivial,q49 ⟨by omega,by omega⟩]
   rfl
theorem canon_L3:∀ (m t:Nat) (a:List GEdge),es.length - t<m→t≤es.length→a.length≤t→q2c ⟨w,es⟩ n (ordL es) (numL es) m t a=some ⟨w,a++((ordL es).drop t).map fun i=>renum (numL es) (es.getD i.toNat zeroE)⟩
 | 0,t,a,hm,_,_=>by omega
 | m+1,t,a,hm,ht,ha=>by
  have h12:=h.len
  unfold q2c
  simp only [Int.toNat_natCast]
  by_cases hlt:t<es.length
  ·obtain ⟨i,hi,hi2⟩:=q98 hlt (q3y es)
   have him:=q2n.1 (List.mem_of_getElem? hi2)
   obtain ⟨e,he,hem⟩:=q0v him.2
   have hkl:=(h.le e hem).kids
   have h4:=canon_L4 h hw hn hD he (z:=(t:Int)) (a:=a) (by omega) (rc:=q2c ⟨w,es⟩ n (ordL es) (numL es) m) n 0 (List.replicate e.Kids.length 0) (by omega) (by omega) (by simp) (by simp)
   rw [Int.ofNat_zero] at h4
   rw [dlt hlt,cond_true]
   simp only [hi,q0a,idxZ (l:=es) him.1 he]
   rw [q49 ⟨by omega,by omega,by omega⟩,h4,wr1 hlt (show es.length≤9223372036854775807 by omega),canon_L3 m (t+1) _ (by omega) (by omega) (by simp; omega),drop_cons' hi2]
   simp [List.getD_eq_getElem?_getD,he]
  ·have:(ordL es).drop t=[]:=List.drop_eq_nil_of_le (by rw [q3y]; omega)
   rw [dnlt hlt,cond_false,this]
   simp [q5p]
theorem canon_ok:q3l n ⟨w,es⟩=some ⟨w,canonE es⟩:=by
 have h12:=h.len
 have h1:=canon_L1 h hw hn n 0 (List.replicate es.length zeroD) (List.replicate es.length 0) (by omega) (by omega) (by simp) (by simp) (by simp) (by simp)
 have h2:=canon_L2 h hw hn hD n 0 (List.replicate es.length 0) (by omega) (by omega) (by simp) (fun s i hs=>by omega)
 have h3:=canon_L3 h hw hn hD n 0 [] (by omega) (by omega) (by simp)
 rw [Int.ofNat_zero] at h1 h2 h3
 have hs:=sortO_of (f:=fun a b=>q45 n a b ⟨w,es⟩ (dvs es)) (cI_ok es) (ds:=idx es.length) (by rw [qah]; omega) (fun x hx y hy=>canon1_ok h hw hn hD hx hy) (fun x hx y hy hz=>cI_zero h hx hy hz)
 unfold q3l
 simp only [Int.toNat_natCast]
 rw [q49 ⟨by omega,by omega,by omega⟩,q49 ⟨by omega,by omega,by omega⟩,show GDeriv.mk 0 [] 0 0 []=zeroD from rfl,h1]
 unfold q4f
 simp only [Int.toNat_natCast]
 rw [q49 (by rw [q2s]),q49 (by rw [qah]),hs,q0a,q49 ⟨by omega,by omega,by omega⟩]
 show q39 ⟨w,es⟩ n (ordL es) n 0 _=_
 rw [h2]
 unfold q4g
 rw [h3]
 simp [canonE]
omit hw hn hD in
theorem canon_le:∀ e∈canonE es,LE e n:=fun e he=>by
 obtain ⟨i,hi,rfl⟩:=List.mem_map.1 he
 have him:=q2n.1 hi
 obtain ⟨x,hx,hxm⟩:=q0v him.2
 have hg:es.getD i.toNat zeroE=x:=by simp [List.getD_eq_getElem?_getD,hx]
 rw [hg]
 have q:=h.le x hxm
 exact ⟨by simpa [renum] using q.kids,q.nodes,q.arcs,q.ok,q.fuel⟩
end
end Go.Proofs
end
section
namespace Go.Proofs
open Go Go.Rx Go.Vx Go.Sort
set_option linter.unusedVariables false
set_option linter.unusedSimpArgs false
theorem q8s {α:Type} {l:List α} {i j:Nat} {x:α} (h:(l.take i)[j]? = some x):l[j]? = some x∧j<i:=by
 have hl:=(List.getElem?_eq_some_iff.1 h).1
 rw [List.length_take] at hl
 have hj:j<i:=by omega
 rw [List.getElem?_take_of_lt hj] at h
 exact ⟨h,hj⟩
theorem pr_of {w:Int} {es:List GEdge} {n:Nat} (h:WF w es n) {k:Int} (hk:0≤k) {x:GEdge} (hx:es[k.toNat]? = some x):pr es k=(x,dvE (dvs es) x):=by
 have:=pr_get hx (h.get hx)
 rw [Int.toNat_of_nonneg hk] at this
 exact this
theorem cmp_span {x y:GEdge×GDeriv} (h:x.1.To - x.1.From<y.1.To - y.1.From):cmpE x y<0:=by
 have:cmpI (x.1.To - x.1.From) (y.1.To - y.1.From) = -1:=by unfold cmpI; rw [if_pos h]
 simp [cmpE,lexC,this]
theorem cmp_una {x y:GEdge×GDeriv} (h1:x.1.From=y.1.From) (h2:x.1.To=y.1.To) (h3:x.1.Unary<y.1.Unary):cmpE x y<0:=by
 have a:cmpI (x.1.To - x.1.From) (y.1.To - y.1.From)=0:=q6m.2 (by omega)
 have b:cmpI x.1.From y.1.From=0:=q6m.2 h1
 have c:cmpI x.1.Unary y.1.Unary = -1:=by unfold cmpI; rw [if_pos h3]
 simp [cmpE,lexC,a,b,c]
theorem kid_before {w:Int} {es:List GEdge} {n:Nat} (h:WF w es n) {i:Nat} {e:GEdge} (he:es[i]? = some e) {k:Int} (hk:k∈e.Kids):cI' es k (i:Int)<0:=by
 have pe:=pr_get he (h.get he)
 have hem:=List.mem_of_getElem? he
 unfold cI'
 rw [pe]
 rcases h.form i e he with ⟨_,h0,_⟩ | ⟨_,h1,h2,ha,_,hu,_⟩
 ·rw [h0] at hk; cases hk
 ·match hks:e.Kids,h1,h2 with
  | [a],_,_ =>
   rw [hks] at hk ha hu
   simp at hk
   subst hk
   obtain ⟨a0,x,hx,hxf,hxt⟩:=ha
   obtain ⟨hx',_⟩:=q8s hx
   simp only [Adj] at hxt
   simp only [unaryOf,hx] at hu
   rw [pr_of h a0 hx']
   exact cmp_una hxf hxt (by simp only; omega)
  | [a,b],_,_ =>
   rw [hks] at hk ha
   obtain ⟨a0,x,hx,hxf,b0,y,hy,hyf,hyt⟩:=ha
   obtain ⟨hx',_⟩:=q8s hx
   obtain ⟨hy',_⟩:=q8s hy
   simp only [Adj] at hyt
   have rx:=h.rng x (List.mem_of_getElem? hx')
   have ry:=h.rng y (List.mem_of_getElem? hy')
   simp at hk
   rcases hk with rfl | rfl
   ·rw [pr_of h a0 hx']; exact cmp_span (by simp only; omega)
   ·rw [pr_of h b0 hy']; exact cmp_span (by simp only; omega)
  | _::_::_::_,_,h2=>simp at h2
theorem ord_lt {w:Int} {es:List GEdge} {n:Nat} (h:WF w es n) {s t:Nat} {k i:Int} (hs:(ordL es)[s]? = some k) (ht:(ordL es)[t]? = some i) (hc:cI' es k i<0):s<t:=by
 rcases Nat.lt_trichotomy s t with h1 | h1 | h1
 ·exact h1
 ·subst h1
  rw [hs] at ht; cases ht
  rw [(cI_ok es).self] at hc; omega
 ·obtain ⟨l1,e1⟩:=List.getElem?_eq_some_iff.1 hs
  obtain ⟨l2,e2⟩:=List.getElem?_eq_some_iff.1 ht
  have:=List.pairwise_iff_getElem.1 (qbf h) t s l2 l1 h1
  rw [e1,e2] at this
  have:=(cI_ok es).anti k i
  omega
theorem q7h {es:List GEdge} {t:Nat} {i:Int} {e:GEdge} (ht:(ordL es)[t]? = some i) (he:es[i.toNat]? = some e):(canonE es)[t]? = some (renum (numL es) e):=by
 simp [canonE,ht,List.getD_eq_getElem?_getD,he]
theorem kid_at {w:Int} {es:List GEdge} {n:Nat} (h:WF w es n) {t:Nat} {i:Int} {e:GEdge} (ht:(ordL es)[t]? = some i) (he:es[i.toNat]? = some e) {k:Int} (hk:k∈e.Kids) :
  ∃ s x,s<t∧(ordL es)[s]? = some k∧es[k.toNat]? = some x∧(numL es).getD k.toNat 0=(s:Int):=by
 have him:=q2n.1 (List.mem_of_getElem? ht)
 obtain ⟨k0,k1⟩:=h.kids he k hk
 have hil:=(List.getElem?_eq_some_iff.1 he).1
 obtain ⟨x,hx,_⟩:=q0v (show k.toNat<es.length by omega)
 obtain ⟨s,hs⟩:=List.getElem?_of_mem ((q2n (es:=es) (z:=k)).2 ⟨k0,by omega⟩)
 have hb:=kid_before h he hk
 rw [Int.toNat_of_nonneg him.1] at hb
 refine ⟨s,x,ord_lt h hs ht hb,hs,hx,?_⟩
 have:=numL_get (es:=es) (show k.toNat<es.length by omega)
 rw [List.getD_eq_getElem?_getD,this,Int.toNat_of_nonneg k0,rank_ord h hs]
 rfl
theorem canon_dv {w:Int} {es:List GEdge} {n:Nat} (h:WF w es n):∀ (q t:Nat) (i:Int) (e:GEdge),t<q→(ordL es)[t]? = some i→es[i.toNat]? = some e→(dvs (canonE es))[t]? = some (dvE (dvs es) e)
 | 0,t,i,e,hq,_,_=>by omega
 | q+1,t,i,e,hq,ht,he=>by
  have htl:=(List.getElem?_eq_some_iff.1 ht).1
  rw [q3y] at htl
  rw [dvs_get (q7h ht he)]
  congr 1
  by_cases hk1:e.Kind=1
  ·simp only [dvE,renum,hk1,if_true]
  ·simp only [dvE,renum,hk1,if_false]
   congr 1
   rw [List.map_map]
   refine List.map_congr_left fun k hk=>?_
   obtain ⟨s,x,h1,h2,h3,h4⟩:=kid_at h ht he hk
   have h5:=canon_dv h q s k x (by omega) h2 h3
   simp only [Function.comp]
   rw [h4,Int.toNat_natCast,List.getD_eq_getElem?_getD,dvs_take h1 (by rw [q3f]; omega),h5,List.getD_eq_getElem?_getD,h.get h3]
theorem adj_map {es cs:List GEdge} {num:Int→Int}:∀ {ks:List Int} {a b:Int},Adj es a ks b→(∀ k∈ks,0≤num k∧∀ x,es[k.toNat]? = some x→∃ y,cs[(num k).toNat]? = some y∧y.From=x.From∧y.To=x.To)→Adj cs a (ks.map num) b
 | [],a,b,h,_=>h
 | k::ks,a,b,h,hm=>by
  obtain ⟨k0,x,hx,hf,hr⟩:=h
  obtain ⟨m0,m1⟩:=hm k (by simp)
  obtain ⟨y,hy,yf,yt⟩:=m1 x hx
  refine ⟨m0,y,hy,by rw [yf]; exact hf,?_⟩
  rw [yt]
  exact adj_map hr fun q hq=>hm q (by simp [hq])
theorem q9i {w:Int} {es:List GEdge} {n:Nat} (h:WF w es n):dvs (canonE es)=(ordL es).map fun i=>(dvs es).getD i.toNat zeroD:=List.ext_getElem? fun t=>by
 by_cases ht:t<es.length
 ·obtain ⟨i,hi,him⟩:=q0v (show t<(ordL es).length by rw [q3y]; exact ht)
  have hm:=q2n.1 him
  obtain ⟨e,he,_⟩:=q0v hm.2
  rw [canon_dv h (t+1) t i e (by omega) hi he,List.getElem?_map,hi]
  simp [List.getD_eq_getElem?_getD,h.get he]
 ·rw [List.getElem?_eq_none (by rw [q2s,q3f]; omega),List.getElem?_eq_none (by rw [List.length_map,q3y]; omega)]
theorem q8j {w:Int} {es:List GEdge} {n:Nat} (h:WF w es n):WF w (canonE es) n where
 len:=by rw [q3f]; exact h.len
 le:=canon_le h
 rng:=fun e he=>by
  obtain ⟨i,hi,rfl⟩:=List.mem_map.1 he
  obtain ⟨x,hx,hxm⟩:=q0v (q2n.1 hi).2
  have hg:es.getD i.toNat zeroE=x:=by simp [List.getD_eq_getElem?_getD,hx]
  rw [hg]; exact h.rng x hxm
 una:=fun e he=>by
  obtain ⟨i,hi,rfl⟩:=List.mem_map.1 he
  obtain ⟨x,hx,hxm⟩:=q0v (q2n.1 hi).2
  have hg:es.getD i.toNat zeroE=x:=by simp [List.getD_eq_getElem?_getD,hx]
  rw [hg]; exact h.una x hxm
 form:=fun t c hc=>by
  have htl:=(List.getElem?_eq_some_iff.1 hc).1
  rw [q3f] at htl
  obtain ⟨i,hi,him⟩:=q0v (show t<(ordL es).length by rw [q3y]; exact htl)
  obtain ⟨e,he,_⟩:=q0v (q2n.1 him).2
  rw [q7h hi he] at hc
  have hce:=Option.some.inj hc
  subst hce
  have hkid:∀ k∈e.Kids,0≤(numL es).getD k.toNat 0∧∀ x,(es.take i.toNat)[k.toNat]? = some x→∃ y,((canonE es).take t)[((numL es).getD k.toNat 0).toNat]? = some y∧y=renum (numL es) x:=fun k hk=>by
   obtain ⟨s,x,h1,h2,h3,h4⟩:=kid_at h hi he hk
   refine ⟨by rw [h4]; omega,fun y hy=>?_⟩
   have hy':=(q8s hy).1
   rw [h3] at hy'; cases hy'
   refine ⟨renum (numL es) x,?_,rfl⟩
   rw [h4,Int.toNat_natCast,List.getElem?_take_of_lt h1,q7h h2 h3]
  rcases h.form _ e he with ⟨a1,a2,a3,a4,a5,a6,a7⟩ | ⟨a1,a2,a3,a4,a5,a6,a7⟩
  ·exact .inl ⟨a1,by simp [renum,a2],a3,a4,a5,a6,a7⟩
  ·refine .inr ⟨a1,by simpa [renum] using a2,by simpa [renum] using a3,?_,a5,?_,a7⟩
   ·refine adj_map (num:=fun k=>(numL es).getD k.toNat 0) a4 fun k hk=>⟨(hkid k hk).1,fun x hx=>?_⟩
    obtain ⟨y,hy,rfl⟩:=(hkid k hk).2 x hx
    exact ⟨_,hy,rfl,rfl⟩
   ·show e.Unary=unaryOf ((canonE es).take t) (e.Kids.map fun k=>(numL es).getD k.toNat 0)
    rw [a6]
    match hks:e.Kids with
    | []=>rfl
    | [k] =>
     rw [hks] at a4
     obtain ⟨_,x,hx,_⟩:=a4
     obtain ⟨y,hy,hyr⟩:=(hkid k (by rw [hks]; simp)).2 x hx
     simp only [List.map_cons,List.map_nil,unaryOf,hx,hy,hyr,renum]
    | _::_::_=>rfl
 nodup:=by
  rw [q9i h]
  unfold List.Nodup
  rw [List.pairwise_map]
  refine List.Pairwise.imp_of_mem (fun {a b} ha hb hab=>?_) (qan es)
  have ma:=q2n.1 ha
  have mb:=q2n.1 hb
  intro hc
  have:=qbc h.nodup (by rw [q2s]; exact ma.2) (by rw [q2s]; exact mb.2) hc
  omega
end Go.Proofs
end
section
namespace Go.Proofs
open Go Go.Rx Go.Vx Go.Sort
set_option linter.unusedVariables false
set_option linter.unusedSimpArgs false
theorem dv_ne {w:Int} {es:List GEdge} {n:Nat} (h:WF w es n) {i k:Nat} {x y:GEdge} (hx:es[i]? = some x) (hy:es[k]? = some y) (hik:i≠k):dvE (dvs es) x≠dvE (dvs es) y:=fun hc=>by
 have h1:=h.get hx
 have h2:=h.get hy
 rw [← hc,← h1] at h2
 obtain ⟨l1,_⟩:=List.getElem?_eq_some_iff.1 h1
 have l2:k<(dvs es).length:=by rw [q2s]; exact (List.getElem?_eq_some_iff.1 hy).1
 rw [List.getElem?_eq_getElem l1,List.getElem?_eq_getElem l2] at h2
 exact hik ((List.getElem_inj h.nodup).1 (Option.some.inj h2).symm)
end Go.Proofs
end
section
namespace Go.Proofs
open Go Go.Rx Go.Vx Go.Sort
set_option linter.unusedVariables false
set_option linter.unusedSimpArgs false
theorem lex_stab:∀ (n m:Nat) (d:GDeriv),SizeOf.sizeOf d≤n→SizeOf.sizeOf d≤m→q1m n d=q1m m d
 | 0,m,d,h,_=>by cases d; simp at h
 | n+1,0,d,_,h=>by cases d; simp at h
 | n+1,m+1,d,h1,h2=>by
  simp only [q1m,q55]
  cases hk:d.Kids with
  | nil=>simp [idxO]
  | cons x l =>
   have hx:SizeOf.sizeOf x<SizeOf.sizeOf d:=kid_lt d (by rw [hk]; simp)
   have i0:idxO (x::l) 0=some x:=by simp [idxO]
   simp only [i0,q0a,lex_stab n m x (by omega) (by omega)]
def XF (n:Nat) (e:GEdge):Prop:=(e.Kind=1→q1m n e.Lex=some true)∧(e.Kind=2→bytesEq e.Name []=false)
theorem XF.to {N m:Nat} {e:GEdge} (h:XF N e) (hl:LE e N) (hm:N≤m):XF m e:=⟨fun h1=>by rw [lex_stab m N e.Lex (by have:=hl.fuel; omega) (by have:=hl.fuel; omega)]; exact h.1 h1,h.2⟩
theorem add_formed {n:Nat} {c c':GChart} {e:GEdge} {k:Int} (h:q20 n c e=some (c',k,0)):q2f n c e=some true:=by
 unfold q20 at h
 obtain ⟨b,_,h⟩:=q01 h
 cases b with
 | true=>rw [cond_true] at h; simp at h
 | false =>
  rw [cond_false] at h
  obtain ⟨b,_,h⟩:=q01 h
  cases b with
  | true=>rw [cond_true] at h; simp at h
  | false =>
   rw [cond_false] at h
   obtain ⟨b,h3,h⟩:=q01 h
   cases b with
   | true=>exact h3
   | false=>simp at h
theorem formed_X {n:Nat} {c:GChart} {e:GEdge} (h:q2f n c e=some true):XF n e:=by
 unfold q2f at h
 refine ⟨fun h1=>?_,fun h2=>?_⟩
 ·have e1:(e.Kind == 1)=true:=by simp [h1]
  rw [e1,cond_true] at h
  obtain ⟨r,hr,hr2⟩:=q01 h
  have hrt:=Option.some.inj hr2
  subst hrt
  cases h0:((e.Kids.length:Int) == 0) with
  | false=>rw [h0,cond_false] at hr; cases hr
  | true =>
   rw [h0,cond_true] at hr
   cases h3:(e.Unary == 0) with
   | false=>rw [h3,cond_false] at hr; cases hr
   | true =>
    rw [h3,cond_true] at hr
    obtain ⟨b,hb,hb2⟩:=q01 hr
    cases b with
    | true=>exact hb
    | false=>rw [cond_false] at hb2; cases hb2
 ·have e1:(e.Kind == 1)=false:=by simp [h2]
  rw [e1,cond_false] at h
  cases hb:bytesEq e.Name [] with
  | false=>rfl
  | true=>rw [hb] at h; simp [q0a] at h
theorem form_rev {c:GChart} {e:GEdge} (hk:e.Kids.length≤10) (hu:∀ x∈c.Edges,0≤x.Unary∧x.Unary≤2) (hU:e.Unary=unaryOf c.Edges e.Kids) (h2:e.Unary≤2):∀ (m i:Nat) (a:Int),e.Kids.length - i<m→i≤e.Kids.length→(∀ k∈e.Kids.take i,0≤k∧k.toNat<c.Edges.length)→Adj c.Edges a (e.Kids.drop i) e.To→q2h c e m a i=some true
 | 0,i,a,hm,_,_,_=>by omega
 | m+1,i,a,hm,hi,ht,hA=>by
  unfold q2h
  by_cases hlt:i<e.Kids.length
  ·obtain ⟨k,hkk,_⟩:=q0v hlt
   rw [drop_cons' hkk] at hA
   obtain ⟨k0,x,hx,hxa,hr⟩:=hA
   have hkl:=(List.getElem?_eq_some_iff.1 hx).1
   have h0:¬ k<0:=by omega
   have h1:¬ k ≥ (c.Edges.length:Int):=by omega
   have e2:(x.From != a)=false:=by simp [hxa]
   simp only [dlt hlt,cond_true,q1t,hkk,q0a,h0,h1,decide_false,cond_false,idxZ k0 hx,e2,wr1 hlt (show e.Kids.length≤9223372036854775807 by omega)]
   exact form_rev hk hu hU h2 m (i+1) x.To (by omega) (by omega) (fun q hq=>by
    rw [q6v hkk] at hq
    rcases List.mem_append.1 hq with hq | hq
    ·exact ht q hq
    ·simp at hq; subst hq; exact ⟨by omega,hkl⟩) hr
  ·have hie:i=e.Kids.length:=by omega
   rw [hie,List.take_length] at ht
   rw [drop_nil' hlt] at hA
   simp only [Adj] at hA
   have ea:(a == e.To)=true:=by simpa using hA
   simp only [dnlt hlt,cond_false,q41]
   by_cases h1:e.Kids.length=1
   ·have e1:((e.Kids.length:Int) == 1)=true:=by simp [h1]
    obtain ⟨k,hke⟩:∃ k,e.Kids=[k]:=List.length_eq_one_iff.1 h1
    have hk1:=ht k (by rw [hke]; simp)
    obtain ⟨x,hx,hxm⟩:=q0v hk1.2
    have hu1:=hu x hxm
    have hi0:idxO e.Kids 0=some k:=by rw [hke]; rfl
    have hun:unaryOf c.Edges e.Kids=x.Unary+1:=by rw [hke]; simp only [unaryOf,hx]
    have eb:(e.Unary == x.Unary+1)=true:=by rw [hU,hun]; simp
    have ed:decide (x.Unary+1≤2)=true:=by rw [decide_eq_true_eq]; omega
    simp only [e1,cond_true,hi0,q0a,idxZ hk1.1 hx,q2g,wr (show -9223372036854775808≤x.Unary+1 by omega) (by omega),ea,eb,ed]
   ·have e1:((e.Kids.length:Int) == 1)=false:=by simp; omega
    have hun:unaryOf c.Edges e.Kids=0:=by
     match hks:e.Kids with
     | []=>rfl
     | [k]=>rw [hks] at h1; simp at h1
     | _::_::_=>rfl
    have eb:(e.Unary == 0)=true:=by rw [hU,hun]; rfl
    simp only [e1,cond_false,q2g,ea,eb,cond_true,q0a]
    rfl
theorem formed_rev {c:GChart} {e:GEdge} {n:Nat} (he:LE e n) (hn:1001≤n) (hu:∀ x∈c.Edges,0≤x.Unary∧x.Unary≤2) (hf:FormP c.Edges e) (hX:XF n e):q2f n c e=some true:=by
 have hk:=he.kids
 unfold q2f
 rcases hf with ⟨a1,a2,a3,a4,a5,a6,a7⟩ | ⟨a1,a2,a3,a4,a5,a6,a7⟩
 ·have e1:(e.Kind == 1)=true:=by simp [a1]
  have e2:((e.Kids.length:Int) == 0)=true:=by simp [a2]
  have e3:(e.Unary == 0)=true:=by simp [a3]
  have e4:(e.Lex.From == e.From)=true:=by simp [a5]
  have e5:(e.Lex.To == e.To)=true:=by simp [a6]
  have e6:bytesEq e.Name e.Lex.Name=true:=by rw [q3z]; exact a7
  simp only [e1,e2,e3,e4,e5,e6,cond_true,hX.1 a1,q0a]
 ·have e1:(e.Kind == 1)=false:=by simp [a1]
  have z1:q5k n e.Lex=some true:=by rw [a5]; rfl
  have e2:((e.Kids.length:Int) == 0)=false:=by rw [Bool.eq_false_iff]; intro h; have:=beq_iff_eq.1 h; omega
  have e3:decide ((e.Kids.length:Int) > 2)=false:=by rw [decide_eq_false_iff_not]; omega
  have hr:=form_rev hk hu a6 a7 n 0 e.From (by omega) (by omega) (by simp) (by simpa using a4)
  rw [Int.ofNat_zero] at hr
  simp only [e1,hX.2 a1,z1,e2,e3,cond_false,q0a,Bool.not_true,hr]
def strip (e:GEdge):GEdge:=⟨e.From,e.To,e.Unary,e.Kind,e.Name,[],e.Lex,e.FS⟩
def keyOf (es:List GEdge) (z:Int):GEdge×GDeriv:=(strip (pr es z).1,(pr es z).2)
def keys (es:List GEdge):List (GEdge×GDeriv):=(idx es.length).map (keyOf es)
theorem q75 {w:Int} {es:List GEdge} {n:Nat} (h:WF w es n) {i:Nat} {e:GEdge} (he:es[i]? = some e):keyOf es (i:Int)=(strip e,dvE (dvs es) e):=by
 unfold keyOf
 rw [pr_get he (h.get he)]
theorem strip_eq {x y:GEdge} (h:strip x=strip y) (hk:x.Kids=y.Kids):x=y:=by
 cases x; cases y
 simp only [strip,GEdge.mk.injEq] at h
 simp only at hk
 simp [h,hk]
theorem canon_inv {w w':Int} {es fs:List GEdge} {n n':Nat} (hA:WF w es n) (hB:WF w' fs n') (hp:(keys es).Perm (keys fs)):canonE es=canonE fs:=by
 have hk:(ordL es).map (keyOf es)=(ordL fs).map (keyOf fs):=by
  refine List.Perm.eq_of_pairwise (le:=fun x y=>cmpE x y<0) (fun a b _ _ h1 h2=>?_) ?_ ?_ ?_
  ·have:=cmpE_ok.anti a b; omega
  ·rw [List.pairwise_map]; exact qbf hA
  ·rw [List.pairwise_map]; exact qbf hB
  ·exact ((q59 es).map _).trans (hp.trans ((q59 fs).map _).symm)
 have hl:es.length=fs.length:=by
  have:=congrArg List.length hk
  simpa [q3y] using this
 have hd:dvs (canonE es)=dvs (canonE fs):=by
  rw [q9i hA,q9i hB]
  have:=congrArg (List.map Prod.snd) hk
  simpa [List.map_map,Function.comp_def,keyOf,pr] using this
 refine List.ext_getElem? fun t=>?_
 by_cases ht:t<es.length
 ·obtain ⟨i,hi,him⟩:=q0v (show t<(ordL es).length by rw [q3y]; exact ht)
  obtain ⟨j,hj,hjm⟩:=q0v (show t<(ordL fs).length by rw [q3y]; omega)
  obtain ⟨e,he,_⟩:=q0v (q2n.1 him).2
  obtain ⟨f,hf,_⟩:=q0v (q2n.1 hjm).2
  have hce:=q7h hi he
  have hcf:=q7h hj hf
  rw [hce,hcf]
  congr 1
  have hkk:keyOf es i=keyOf fs j:=by
   have:=congrArg (fun l=>l[t]?) hk
   simpa [hi,hj] using this
  have ki:=q75 hA he
  have kj:=q75 hB hf
  rw [Int.toNat_of_nonneg (q2n.1 him).1] at ki
  rw [Int.toNat_of_nonneg (q2n.1 hjm).1] at kj
  rw [ki,kj,Prod.mk.injEq] at hkk
  have hs:strip (renum (numL es) e)=strip (renum (numL fs) f):=hkk.1
  have wA:=q8j hA
  have wB:=q8j hB
  have fA:=wA.form t _ hce
  have fB:=wB.form t _ hcf
  have g1:=wA.get hce
  have g2:=wB.get hcf
  rw [← hd,g1] at g2
  have h3:=(same_iff wA.nodup fA fB (by rw [q2s,List.length_take]; omega) (by rw [q2s,List.length_take,q3f,q3f]; omega)).1 (Option.some.inj g2)
  refine strip_eq hs ?_
  have h5:=h3.2.2.2.2
  by_cases hq:(renum (numL fs) f).Kind=1
  ·have hq':(renum (numL es) e).Kind=1:=h3.1.trans hq
   have a:(renum (numL es) e).Kids=[]:=by rcases fA with h | h; exact h.2.1; have:=h.1; omega
   have b:(renum (numL fs) f).Kids=[]:=by rcases fB with h | h; exact h.2.1; have:=h.1; omega
   rw [a,b]
  ·rw [if_neg hq] at h5; exact h5
 ·rw [List.getElem?_eq_none (by rw [q3f]; omega),List.getElem?_eq_none (by rw [q3f]; omega)]
theorem nd_perm {α:Type}:∀ {l m:List α},l.Nodup→m.Nodup→(∀ x,x∈l↔x∈m)→l.Perm m
 | [],m,_,_,h=>by
  cases m with
  | nil=>exact .refl _
  | cons x m=>have:=(h x).2 (by simp); cases this
 | x::l,m,hl,hm,h=>by
  obtain ⟨a,b,rfl⟩:=List.append_of_mem ((h x).1 (by simp))
  rw [List.nodup_cons] at hl
  have hm':=(List.perm_middle (a:=x) (l₁:=a) (l₂:=b)).nodup_iff.1 hm
  rw [List.nodup_cons] at hm'
  refine List.Perm.trans (List.Perm.cons x (nd_perm hl.2 hm'.2 fun y=>?_)) List.perm_middle.symm
  constructor
  ·intro hy
   have h1:=(h y).1 (by simp [hy])
   have hne:y≠x:=fun e=>hl.1 (e ▸ hy)
   simp only [List.mem_append,List.mem_cons] at h1 ⊢
   rcases h1 with h1 | h1 | h1
   ·exact .inl h1
   ·exact absurd h1 hne
   ·exact .inr h1
  ·intro hy
   have hne:y≠x:=fun e=>hm'.1 (e ▸ hy)
   have h1:=(h y).2 (by simp only [List.mem_append,List.mem_cons] at hy ⊢; rcases hy with hy | hy; exact .inl hy; exact .inr (.inr hy))
   rcases List.mem_cons.1 h1 with h1 | h1
   ·exact absurd h1 hne
   ·exact h1
theorem nd_len {α:Type}:∀ {l m:List α},l.Nodup→(∀ x∈l,x∈m)→l.length≤m.length
 | [],m,_,_=>by simp
 | x::l,m,hl,h=>by
  obtain ⟨a,b,rfl⟩:=List.append_of_mem (h x (by simp))
  rw [List.nodup_cons] at hl
  have:=nd_len (l:=l) (m:=a++b) hl.2 fun y hy=>by
   have h1:=h y (by simp [hy])
   have hne:y≠x:=fun e=>hl.1 (e ▸ hy)
   simp only [List.mem_append,List.mem_cons] at h1 ⊢
   rcases h1 with h1 | h1 | h1
   ·exact .inl h1
   ·exact absurd h1 hne
   ·exact .inr h1
  simp at this ⊢; omega
theorem keys_nodup {w:Int} {es:List GEdge} {n:Nat} (h:WF w es n):(keys es).Nodup:=by
 unfold keys List.Nodup
 rw [List.pairwise_map]
 refine List.Pairwise.imp_of_mem (fun {a b} ha hb hab=>?_) (idx_nodup es.length)
 intro hc
 have ma:=q7p.1 ha
 have mb:=q7p.1 hb
 have h2:(dvs es).getD a.toNat zeroD=(dvs es).getD b.toNat zeroD:=congrArg Prod.snd hc
 have:=qbc h.nodup (by rw [q2s]; exact ma.2) (by rw [q2s]; exact mb.2) h2
 omega
end Go.Proofs
end
section
namespace Go.Proofs
open Go Go.Rx Go.Vx Go.Sort
set_option linter.unusedVariables false
set_option linter.unusedSimpArgs false
theorem LE.mono {e:GEdge} {n m:Nat} (h:LE e n) (hm:n≤m):LE e m:=⟨h.kids,h.nodes,h.arcs,h.ok,by have:=h.fuel; omega⟩
theorem WF.mono {w:Int} {es:List GEdge} {n m:Nat} (h:WF w es n) (hm:n≤m):WF w es m:=⟨h.len,fun e he=>(h.le e he).mono hm,h.rng,h.una,h.form,h.nodup⟩
structure Tr (w:Int) (es:List GEdge) (n:Nat) (fs:List GEdge):Prop where
 wf:WF w fs n
 sub:∀ (j:Nat) (f:GEdge),fs[j]? = some f→∃ (i:Nat) (e:GEdge),es[i]? = some e∧strip f=strip e∧dvE (dvs fs) f=dvE (dvs es) e
theorem dv_inj {w:Int} {es:List GEdge} {n:Nat} (h:WF w es n) {i k:Nat} {x y:GEdge} (hx:es[i]? = some x) (hy:es[k]? = some y) (he:dvE (dvs es) x=dvE (dvs es) y):x=y:=by
 rcases Nat.decEq i k with hik | hik
 ·exact absurd he (dv_ne h hx hy hik)
 ·subst hik; rw [hx] at hy; exact Option.some.inj hy
theorem tr_at {w:Int} {es fs:List GEdge} {n:Nat} (hE:WF w es n) (hT:Tr w es n fs) {q k:Nat} {y x:GEdge} (hy:fs[q]? = some y) (hx:es[k]? = some x) (hd:dvE (dvs fs) y=dvE (dvs es) x):strip y=strip x:=by
 obtain ⟨i,e,he,hs,hd'⟩:=hT.sub q y hy
 have:e=x:=dv_inj hE he hx (hd'.symm.trans hd)
 rw [hs,this]
def Twin (D E:List GDeriv):List Int→List Int→Prop
 | [],[]=>True
 | q::qs,k::ks=>(0≤q∧0≤k∧∃ d,D[q.toNat]? = some d∧E[k.toNat]? = some d)∧Twin D E qs ks
 | _,_=>False
theorem Twin.len {D E:List GDeriv}:∀ {qs ks:List Int},Twin D E qs ks→qs.length=ks.length
 | [],[],_=>rfl
 | q::qs,k::ks,h=>by simp [h.2.len]
 | [],_::_,h=>h.elim
 | _::_,[],h=>h.elim
theorem Twin.mono {D D' E:List GDeriv} (hm:∀ (j:Nat) (d:GDeriv),D[j]? = some d→D'[j]? = some d):∀ {qs ks:List Int},Twin D E qs ks→Twin D' E qs ks
 | [],[],_=>trivial
 | q::qs,k::ks,⟨⟨h1,h2,d,h3,h4⟩,h5⟩=>⟨⟨h1,h2,d,hm _ _ h3,h4⟩,h5.mono hm⟩
 | [],_::_,h=>h.elim
 | _::_,[],h=>h.elim
theorem Twin.snoc {D E:List GDeriv} {q k:Int} (h0:0≤q∧0≤k∧∃ d,D[q.toNat]? = some d∧E[k.toNat]? = some d):∀ {qs ks:List Int},Twin D E qs ks→Twin D E (qs++[q]) (ks++[k])
 | [],[],_=>⟨h0,trivial⟩
 | _::_,_::_,⟨h1,h2⟩=>⟨h1,h2.snoc h0⟩
 | [],_::_,h=>h.elim
 | _::_,[],h=>h.elim
theorem Twin.map {D E:List GDeriv}:∀ {qs ks:List Int},Twin D E qs ks→(qs.map fun k=>D.getD k.toNat zeroD)=ks.map fun k=>E.getD k.toNat zeroD
 | [],[],_=>rfl
 | q::qs,k::ks,⟨⟨_,_,d,h3,h4⟩,h5⟩=>by
  simp only [List.map_cons,List.getD_eq_getElem?_getD,h3,h4]
  have:=h5.map
  simp only [List.getD_eq_getElem?_getD] at this
  rw [this]
 | [],_::_,h=>h.elim
 | _::_,[],h=>h.elim
theorem get_dv {w:Int} {es:List GEdge} {n:Nat} (h:WF w es n) {i:Nat} {d:GDeriv} (hd:(dvs es)[i]? = some d):∃ e,es[i]? = some e∧d=dvE (dvs es) e:=by
 have hl:=(List.getElem?_eq_some_iff.1 hd).1
 rw [q2s] at hl
 obtain ⟨e,he,_⟩:=q0v hl
 rw [h.get he] at hd
 exact ⟨e,he,(Option.some.inj hd).symm⟩
theorem strip_ft {x y:GEdge} (h:strip x=strip y):x.From=y.From∧x.To=y.To∧x.Unary=y.Unary:=by
 simp only [strip,GEdge.mk.injEq] at h
 exact ⟨h.1,h.2.1,h.2.2.1⟩
section
variable {w:Int} {es:List GEdge} {N:Nat} (hE:WF w es N) (hN:1001≤N) (hX:∀ e∈es,XF N e)
include hE hN hX
omit hN hX in
theorem adj_tr {fs:List GEdge} (hT:Tr w es N fs) {i:Nat}:∀ {qs ks:List Int} {a b:Int},Twin (dvs fs) (dvs es) qs ks→Adj (es.take i) a ks b→Adj fs a qs b
 | [],[],a,b,_,h=>h
 | q::qs,k::ks,a,b,⟨⟨q0,k0,d,h3,h4⟩,h5⟩,⟨_,x,hx,hf,hr⟩=>by
  obtain ⟨hx',_⟩:=q8s hx
  obtain ⟨y,hy,hyd⟩:=get_dv hT.wf h3
  rw [hE.get hx'] at h4
  have hs:=strip_ft (tr_at hE hT hy hx' (hyd.symm.trans (Option.some.inj h4).symm))
  refine ⟨q0,y,hy,by rw [hs.1]; exact hf,?_⟩
  rw [hs.2.1]
  exact adj_tr hT h5 hr
 | [],_::_,_,_,h,_=>h.elim
 | _::_,[],_,_,h,_=>h.elim
omit hN hX in
theorem form_tr {fs:List GEdge} (hT:Tr w es N fs) {i:Nat} {e:GEdge} (he:es[i]? = some e) {K:List Int} (hK:Twin (dvs fs) (dvs es) K e.Kids):FormP fs ⟨e.From,e.To,e.Unary,e.Kind,e.Name,K,e.Lex,e.FS⟩:=by
 have hl:=hK.len
 rcases hE.form i e he with ⟨a1,a2,a3,a4,a5,a6,a7⟩ | ⟨a1,a2,a3,a4,a5,a6,a7⟩
 ·refine .inl ⟨a1,?_,a3,a4,a5,a6,a7⟩
  rw [a2] at hl
  exact List.eq_nil_of_length_eq_zero hl
 ·refine .inr ⟨a1,by simp only; omega,by simp only; omega,adj_tr hE hT hK a4,a5,?_,a7⟩
  show e.Unary=unaryOf fs K
  rw [a6]
  match hks:e.Kids,hqs:K,hK with
  | [],[],_=>rfl
  | [k],[q],⟨⟨q0,k0,d,h3,h4⟩,_⟩ =>
   rw [hks] at a4
   obtain ⟨_,x,hx,_⟩:=a4
   obtain ⟨hx',_⟩:=q8s hx
   obtain ⟨y,hy,hyd⟩:=get_dv hT.wf h3
   rw [hE.get hx'] at h4
   have hs:=strip_ft (tr_at hE hT hy hx' (hyd.symm.trans (Option.some.inj h4).symm))
   simp only [unaryOf,hx,hy,hs.2.2]
  | _::_::_,[q],h=>exact h.2.elim
  | [k],_::_::_,h=>exact h.2.elim
  | _::_::_,_::_::_,_=>rfl
omit hE hN hX in
theorem scan_at (c:GChart) (e:GEdge) (d:GDeriv):∀ (l:List GDeriv) (i:Nat),(∃ j:Nat,scanR c e d l i=(c,((i+j:Nat):Int),4)∧l[j]? = some d)∨(d ∉ l∧scanR c e d l i=(⟨c.Words,c.Edges++[e]⟩,(c.Edges.length:Int),0))
 | [],i=>.inr ⟨by simp,rfl⟩
 | x::l,i=>by
  by_cases h:x=d
  ·exact .inl ⟨0,by simp [scanR,h],by simp [h]⟩
  ·rcases scan_at c e d l (i+1) with ⟨j,hj,hjd⟩ | ⟨h1,h2⟩
   ·exact .inl ⟨j+1,by simp only [scanR,h,if_false,hj]; congr 2; omega,by simpa using hjd⟩
   ·exact .inr ⟨by simp [h1,Ne.symm h],by simp [scanR,h,h2]⟩
theorem add_tr {fs:List GEdge} (hT:Tr w es N fs) {i:Nat} {e:GEdge} (he:es[i]? = some e) {K:List Int} (hK:Twin (dvs fs) (dvs es) K e.Kids) {m:Nat} (hm:N≤m) :
  ∃ fs' q z,q20 m ⟨w,fs⟩ ⟨e.From,e.To,e.Unary,e.Kind,e.Name,K,e.Lex,e.FS⟩=some (⟨w,fs'⟩,((q:Nat):Int),z)∧Tr w es N fs'∧(∃ x,fs'=fs++x)∧(dvs fs')[q]? = some (dvE (dvs es) e):=by
 have hem:=List.mem_of_getElem? he
 have hf:=form_tr hE hT he hK
 have hl:=hK.len
 have hle0:=hE.le e hem
 have hle:LE (⟨e.From,e.To,e.Unary,e.Kind,e.Name,K,e.Lex,e.FS⟩:GEdge) N:=⟨by have:=hle0.kids; simp only; omega,hle0.nodes,hle0.arcs,hle0.ok,hle0.fuel⟩
 have hW:=hT.wf.mono hm
 have hd:dvE (dvs fs) ⟨e.From,e.To,e.Unary,e.Kind,e.Name,K,e.Lex,e.FS⟩=dvE (dvs es) e:=by
  simp only [dvE,hK.map]
 have hform:=formed_rev (c:=⟨w,fs⟩) (hle.mono hm) (by omega) hT.wf.una hf (show XF m _ from (hX e hem).to hle0 hm)
 have hr:=hE.rng e hem
 have ha:=add_L hW (by omega) hf (hle.mono hm) m 0 (by have:=hT.wf.len; omega) (by omega)
 rw [Int.ofNat_zero,List.drop_zero,hd] at ha
 have c1:decide (e.From<0)=false:=by rw [decide_eq_false_iff_not]; omega
 have c2:decide (e.From ≥ e.To)=false:=by rw [decide_eq_false_iff_not]; omega
 have c3:decide (e.To > w)=false:=by rw [decide_eq_false_iff_not]; omega
 have ek:(cond (e.Kind != 1) (some (e.Kind != 2)) (some false):Option Bool)=some false:=by
  rcases (hE.form i e he).kind with hk | hk<;>simp [hk]
 unfold q20
 simp only [c1,c2,c3,cond_false,q0a,ek,hform,Bool.not_true,ha]
 rcases scan_at ⟨w,fs⟩ ⟨e.From,e.To,e.Unary,e.Kind,e.Name,K,e.Lex,e.FS⟩ (dvE (dvs es) e) (dvs fs) 0 with ⟨j,h1,h2⟩ | ⟨h1,h2⟩
 ·rw [h1,Nat.zero_add]
  exact ⟨fs,j,4,rfl,hT,⟨[],by simp⟩,h2⟩
 ·rw [h2]
  have hlen:fs.length+1≤12:=by
   have hn:(dvE (dvs es) e::dvs fs).Nodup:=List.nodup_cons.2 ⟨h1,hT.wf.nodup⟩
   have:=nd_len (m:=dvs es) hn fun x hx=>by
    rcases List.mem_cons.1 hx with rfl | hx
    ·exact List.mem_of_getElem? (hE.get he)
    ·obtain ⟨j,hj⟩:=List.getElem?_of_mem hx
     obtain ⟨f,hf,rfl⟩:=get_dv hT.wf hj
     obtain ⟨i',e',he',_,hd'⟩:=hT.sub j f hf
     rw [hd']
     exact List.mem_of_getElem? (hE.get he')
   simp only [List.length_cons,q2s] at this
   have:=hE.len
   omega
  have hW2:=hT.wf.snoc hlen hle ⟨hr.1,hr.2.1,hr.2.2⟩ hf (by rw [hd]; exact h1)
  refine ⟨fs++[⟨e.From,e.To,e.Unary,e.Kind,e.Name,K,e.Lex,e.FS⟩],fs.length,0,rfl,⟨hW2,fun j f hf'=>?_⟩,⟨_,rfl⟩,?_⟩
  ·by_cases hj:j<fs.length
   ·rw [List.getElem?_append_left hj] at hf'
    obtain ⟨i',e',h3,h4,h5⟩:=hT.sub j f hf'
    refine ⟨i',e',h3,h4,?_⟩
    rw [← h5]
    exact qc4 (i:=fs.length) (fun k hk=>by have:=hT.wf.kids hf' k hk; exact ⟨this.1,by omega⟩) fun q hq=>dvs_pre _ _ hq
   ·have hje:j=fs.length:=by have:=(List.getElem?_eq_some_iff.1 hf').1; simp at this; omega
    subst hje
    simp at hf'
    subst hf'
    refine ⟨i,e,he,rfl,?_⟩
    rw [← hd]
    exact qc4 (i:=fs.length) (fun k hk=>hf.kids k hk) fun q hq=>dvs_pre _ _ hq
  ·rw [dvs_app,List.getElem?_append_right (by rw [q2s]; exact Nat.le_refl _),q2s,hd]; simp
omit hE hN hX in
theorem ext_dv {fs x:List GEdge}:∀ (j:Nat) (d:GDeriv),(dvs fs)[j]? = some d→(dvs (fs++x))[j]? = some d:=fun j d h=>by
 rw [dvs_pre _ _ (by have:=(List.getElem?_eq_some_iff.1 h).1; rw [q2s] at this; exact this)]; exact h
omit hN hX in
theorem transfer_L {i n:Nat} {e:GEdge} (he:es[i]? = some e) {self:GChart→GChart→Int→Option (GChart×Int)}
  (hs:∀ k∈e.Kids,∀ fs,Tr w es N fs→∃ fs' q d,self ⟨w,es⟩ ⟨w,fs⟩ k=some (⟨w,fs'⟩,((q:Nat):Int))∧Tr w es N fs'∧(∃ x,fs'=fs++x)∧(dvs fs')[q]? = some d∧(dvs es)[k.toNat]? = some d) :
  ∀ (m j:Nat) (K:List Int) (fs:List GEdge),e.Kids.length - j<m→j≤e.Kids.length→Twin (dvs fs) (dvs es) K (e.Kids.take j)→Tr w es N fs →
   ∃ K' fs',q2x ⟨w,es⟩ n e self m j K w fs=q3j n e K' w fs'∧Tr w es N fs'∧(∃ x,fs'=fs++x)∧Twin (dvs fs') (dvs es) K' e.Kids
 | 0,j,K,fs,hm,_,_,_=>by omega
 | m+1,j,K,fs,hm,hj,hK,hT=>by
  have hkl:=(hE.le e (List.mem_of_getElem? he)).kids
  unfold q2x
  by_cases hlt:j<e.Kids.length
  ·obtain ⟨k,hk,hkm⟩:=q0v hlt
   obtain ⟨fs',q,d,h1,h2,⟨x,rfl⟩,h4,h5⟩:=hs k hkm fs hT
   have hlen:=hK.len
   rw [List.length_take] at hlen
   obtain ⟨K',fs2,g1,g2,⟨y,rfl⟩,g4⟩:=transfer_L he hs m (j+1) (K++[(q:Int)]) (fs++x) (by omega) (by omega) (by
    rw [q6v hk]
    exact (hK.mono ext_dv).snoc ⟨by omega,(hE.kids he k hkm).1,d,by simpa using h4,h5⟩) h2
   refine ⟨K',fs++x++y,?_,g2,⟨x++y,by simp⟩,g4⟩
   simp only [dlt hlt,cond_true,q1t,hk,q0a,h1,wr1 hlt (show e.Kids.length≤9223372036854775807 by omega)]
   rw [q49 ⟨by omega,by omega⟩,g1]
  ·have hje:j=e.Kids.length:=by omega
   rw [hje,List.take_length] at hK
   exact ⟨K,fs,by simp only [dnlt hlt,cond_false],hT,⟨[],by simp⟩,hK⟩
theorem qcn:∀ (s i:Nat) (e:GEdge) (fs:List GEdge),i<s→es[i]? = some e→Tr w es N fs→∀ m,N+s≤m→∃ fs' q,q1p m ⟨w,es⟩ ⟨w,fs⟩ i=some (⟨w,fs'⟩,((q:Nat):Int))∧Tr w es N fs'∧(∃ x,fs'=fs++x)∧(dvs fs')[q]? = some (dvE (dvs es) e)
 | 0,i,e,fs,hs,_,_,_,_=>by omega
 | s+1,i,e,fs,hs,he,hT,m,hm=>by
  obtain ⟨m,rfl⟩:∃ q,m=q+1:=⟨m - 1,by omega⟩
  have hkl:=(hE.le e (List.mem_of_getElem? he)).kids
  have hil:=(List.getElem?_eq_some_iff.1 he).1
  obtain ⟨K,fs1,g1,g2,⟨x,rfl⟩,g4⟩:=transfer_L hE (n:=m) he (self:=q1p m) (fun k hk fs0 hT0=>by
   obtain ⟨k0,k1⟩:=hE.kids he k hk
   obtain ⟨y,hy,_⟩:=q0v (show k.toNat<es.length by omega)
   obtain ⟨fs',q,h1,h2,h3,h4⟩:=qcn s k.toNat y fs0 (by omega) hy hT0 m (by omega)
   rw [Int.toNat_of_nonneg k0] at h1
   exact ⟨fs',q,_,h1,h2,h3,h4,hE.get hy⟩) m 0 [] fs (by omega) (by omega) (by simp [Twin]) hT
  obtain ⟨fs2,q,z,f1,f2,⟨y,rfl⟩,f4⟩:=add_tr hE hN hX g2 he g4 (m:=m) (by omega)
  refine ⟨fs++x++y,q,?_,f2,⟨x++y,by simp⟩,f4⟩
  rw [Int.ofNat_zero] at g1
  simp only [q1p,q69,q1t,he,q0a,g1,q3j,f1]
theorem orders_L {n:Nat} (hn:N+20≤n):∀ (m t:Nat) (fs:List GEdge),es.length - t<m→t≤es.length→Tr w es N fs→(∀ r,r<t→∃ (q:Nat) (d:GDeriv),(dvs fs)[q]? = some d∧(dvs es)[es.length - 1 - r]? = some d) →
  ∃ fs',q1y n ⟨w,es⟩ m t w fs=q2p n ⟨w,es⟩ w fs'∧Tr w es N fs'∧(∀ i,i<es.length→∃ (q:Nat) (d:GDeriv),(dvs fs')[q]? = some d∧(dvs es)[i]? = some d)
 | 0,t,fs,hm,_,_,_=>by omega
 | m+1,t,fs,hm,ht,hT,hA=>by
  have h12:=hE.len
  unfold q1y
  by_cases hlt:t<es.length
  ·obtain ⟨e,he,_⟩:=q0v (show es.length - 1 - t<es.length by omega)
   obtain ⟨fs',q,h1,h2,⟨x,rfl⟩,h4⟩:=qcn hE hN hX (es.length - 1 - t+1) (es.length - 1 - t) e fs (by omega) he hT n (by omega)
   have e1:IntKind.i64.wrap (IntKind.i64.wrap ((es.length:Int) - 1) - (t:Int))=((es.length - 1 - t:Nat):Int):=by
    rw [wr (z:=(es.length:Int) - 1) (by omega) (by omega),wr (by omega) (by omega)]; omega
   simp only [dlt hlt,cond_true,e1,h1,q0a,wr1 hlt (show es.length≤9223372036854775807 by omega)]
   refine orders_L hn m (t+1) (fs++x) (by omega) (by omega) h2 fun r hr=>?_
   by_cases hrt:r=t
   ·subst hrt; exact ⟨q,_,h4,hE.get he⟩
   ·obtain ⟨q',d,g1,g2⟩:=hA r (by omega)
    exact ⟨q',d,ext_dv _ _ g1,g2⟩
  ·refine ⟨fs,by simp only [dnlt hlt,cond_false],hT,fun i hi=>?_⟩
   have:=hA (es.length - 1 - i) (by omega)
   rwa [show es.length - 1 - (es.length - 1 - i)=i by omega] at this
omit hN hX in
theorem tr_keys {fs:List GEdge} (hT:Tr w es N fs) (hA:∀ i,i<es.length→∃ (q:Nat) (d:GDeriv),(dvs fs)[q]? = some d∧(dvs es)[i]? = some d):(keys es).Perm (keys fs):=by
 refine nd_perm (keys_nodup hE) (keys_nodup hT.wf) fun x=>?_
 constructor
 ·intro hx
  obtain ⟨z,hz,rfl⟩:=List.mem_map.1 hx
  obtain ⟨z0,z1⟩:=q7p.1 hz
  obtain ⟨q,d,h1,h2⟩:=hA z.toNat z1
  obtain ⟨e,he,rfl⟩:=get_dv hE h2
  obtain ⟨f,hf,hfd⟩:=get_dv hT.wf h1
  have hk:=q75 hE he
  rw [Int.toNat_of_nonneg z0] at hk
  rw [hk,← tr_at hE hT hf he hfd.symm,hfd,← q75 hT.wf hf]
  exact List.mem_map.2 ⟨(q:Int),q7p.2 ⟨by omega,by simpa using (List.getElem?_eq_some_iff.1 hf).1⟩,rfl⟩
 ·intro hx
  obtain ⟨z,hz,rfl⟩:=List.mem_map.1 hx
  obtain ⟨z0,z1⟩:=q7p.1 hz
  obtain ⟨f,hf,_⟩:=q0v z1
  obtain ⟨i,e,he,hs,hd⟩:=hT.sub z.toNat f hf
  have hk:=q75 hT.wf hf
  rw [Int.toNat_of_nonneg z0] at hk
  rw [hk,hs,hd,← q75 hE he]
  exact List.mem_map.2 ⟨(i:Int),q7p.2 ⟨by omega,by simpa using (List.getElem?_eq_some_iff.1 he).1⟩,rfl⟩
end
theorem canon_keys {w:Int} {es:List GEdge} {n:Nat} (h:WF w es n):(keys (canonE es)).Perm (keys es):=by
 have:keys (canonE es)=(ordL es).map (keyOf es):=List.ext_getElem? fun t=>by
  by_cases ht:t<es.length
  ·obtain ⟨i,hi,him⟩:=q0v (show t<(ordL es).length by rw [q3y]; exact ht)
   obtain ⟨e,he,_⟩:=q0v (q2n.1 him).2
   have hc:=q7h hi he
   have hk:=q75 (q8j h) hc
   have hk2:=q75 h he
   rw [Int.toNat_of_nonneg (q2n.1 him).1] at hk2
   have hdz:dvE (dvs (canonE es)) (renum (numL es) e)=dvE (dvs es) e:=by
    have a:=(q8j h).get hc
    have b:=canon_dv h (t+1) t i e (by omega) hi he
    rw [a] at b; exact Option.some.inj b
   simp only [keys,List.getElem?_map,q3f,idx_get ht,hi,Option.map_some,hk,hk2,hdz]
   rfl
  ·rw [List.getElem?_eq_none (by simp [keys,qah,q3f]; omega),List.getElem?_eq_none (by simp [q3y]; omega)]
 rw [this]
 exact (q59 es).map _
theorem build_X {l:List GEdge} {n:Nat} (hl:Fit l n) (h12:l.length≤12) (w:Int):∀ (m i:Nat) (es:List GEdge),l.length - i<m→i≤l.length→WF w es n→(∀ e∈es,e∈l)→es.length≤i→(∀ e∈es,XF n e) →
  ∃ es',q2t l n m i w es=some ⟨w,es'⟩∧WF w es' n∧(∀ e∈es',e∈l)∧∀ e∈es',XF n e
 | 0,i,es,hm,_,_,_,_,_=>by omega
 | m+1,i,es,hm,hi,hW,hsub,hle,hX=>by
  unfold q2t
  by_cases hlt:i<l.length
  ·obtain ⟨e,he,hem⟩:=q0v hlt
   obtain ⟨es',k,q,g1,g2,g3,g4,g5,g6,g7⟩:=add_ok hW hl hsub (by omega) hem
   simp only [dlt hlt,cond_true,q1t,he,q0a,g1,q4j,wr1 hlt (show l.length≤9223372036854775807 by omega)]
   by_cases hq:q=0
   ·have e1:(q == 0)=true:=by simp [hq]
    simp only [e1,cond_true]
    refine build_X hl h12 w m (i+1) es' (by omega) (by omega) g3 g4 (by omega) fun x hx=>?_
    rw [g7 hq] at hx
    rcases List.mem_append.1 hx with hx | hx
    ·exact hX x hx
    ·simp at hx; subst hx
     rw [hq] at g1
     exact formed_X (add_formed g1)
   ·have e1:(q == 0)=false:=by simpa using hq
    simp only [e1,cond_false]
    exact build_X hl h12 w m (i+1) es (by omega) (by omega) hW hsub (by omega) hX
  ·simp only [dnlt hlt,cond_false,q5t]
   exact ⟨es,rfl,hW,hsub,hX⟩
theorem WF.down {w:Int} {es l:List GEdge} {n N:Nat} (h:WF w es n) (hl:Fit l N) (hsub:∀ e∈es,e∈l):WF w es N:=⟨h.len,fun e he=>hl.le e (hsub e he),h.rng,h.una,h.form,h.nodup⟩
theorem orders_law {p:Int} (hp':0≤p∧p≤255) {l:List GEdge} (hok:∀ e∈l,okG e.Lex) {n:Nat} (hn:(SizeOf.sizeOf l+20)*1594323+2020≤n):q47 n p l=some true:=by
 obtain ⟨B,hB⟩:∃ B,B=(SizeOf.sizeOf l+20)*1594323:=⟨_,rfl⟩
 rw [← hB] at hn
 obtain ⟨b,h1,h2⟩:=light_fit hok (n:=n) (by rw [← hB]; omega)
 simp only [q47,h1,q0a,ex_n (show 60≤n by omega)]
 cases b with
 | false=>simp
 | true =>
  obtain ⟨h12,hF⟩:=h2 rfl
  obtain ⟨es,q2,q3,q4,q5⟩:=build_X hF h12 (1+p % 8) n 0 [] (by omega) (by omega) (WF.nil _ _) (fun e h=>by cases h) (by simp) (fun e h=>by cases h)
  rw [Int.ofNat_zero] at q2
  have hw:1+p % 8≤1000:=by omega
  have hFN:Fit l (n - 20):=⟨fun e he=>by
   have:=hF.le e he
   exact ⟨this.kids,this.nodes,this.arcs,this.ok,by have:=(sz_edge he).1; omega⟩,by rw [← hB]; omega⟩
  have hE:WF (1+p % 8) es (n - 20):=q3.down hFN q4
  have hX:∀ e∈es,XF (n - 20) e:=fun e he=>⟨fun hk=>by
   rw [lex_stab (n - 20) n e.Lex (by have:=(hE.le e he).fuel; omega) (by have:=(hE.le e he).fuel; omega)]
   exact (q5 e he).1 hk,(q5 e he).2⟩
  obtain ⟨fs,g1,g2,g3⟩:=orders_L hE (by omega) hX (n:=n) (by omega) n 0 [] (by have:=hE.len; omega) (by omega) ⟨WF.nil _ _,fun j f hf=>by simp at hf⟩ (fun r hr=>by omega)
  rw [Int.ofNat_zero] at g1
  have hT:WF (1+p % 8) fs n:=g2.wf.mono (by omega)
  have hp:=tr_keys hE g2 g3
  have hcf:canonE fs=canonE es:=(canon_inv hE g2.wf hp).symm
  have hcc:canonE (canonE es)=canonE es:=canon_inv (q8j hE) hE (canon_keys hE)
  have hD:=dfit q3 hF q4
  have hDf:∀ x∈dvs fs,okG x∧SizeOf.sizeOf x+10≤n:=fun x hx=>by
   obtain ⟨j,hj⟩:=List.getElem?_of_mem hx
   obtain ⟨f,hf,rfl⟩:=get_dv g2.wf hj
   obtain ⟨i',e',he',_,hd'⟩:=g2.sub j f hf
   rw [hd']
   exact hD _ (List.mem_of_getElem? (q3.get he'))
  have hDc:∀ x∈dvs (canonE es),okG x∧SizeOf.sizeOf x+10≤n:=fun x hx=>by
   rw [q9i q3] at hx
   obtain ⟨i,hi,rfl⟩:=List.mem_map.1 hx
   obtain ⟨y,hy,hym⟩:=q0v (show i.toNat<(dvs es).length by rw [q2s]; exact (q2n.1 hi).2)
   rw [List.getD_eq_getElem?_getD,hy]
   exact hD y hym
  have hs:=same_ok (c:=⟨1+p % 8,canonE es⟩) (canon_le q3) (by have:=q3.len; simp only [q3f]; omega) (show 1001≤n by omega)
  simp only [Bool.not_true,cond_false,q6p,wordsOf hp',new_eq,new_some (w:=1+p % 8) (by omega) (by omega),q0a,q2,g1,q2p,canon_ok q3 hw (by omega) hD,canon_ok hT hw (by omega) hDf,hcf,hs,cond_true,canon_ok (q8j q3) hw (by omega) hDc,hcc,ex_n (show 60≤n by omega)]
end Go.Proofs
end
