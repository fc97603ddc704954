/-
  Texts of the walk: MpG.
-/
import Derived.Test.YtkpfhafbkfbaoaaP9
section
namespace Go.Vx
open Go Go.Rx
set_option linter.unusedVariables false
theorem ug_same : ∀ {h : List (Nat × B)} {k : Nat} {b : B},gt h k = some b→ug h k b = h
 | [],k,b,hg=>by cases hg
 | (j,c) :: h,k,b,hg=>by
  simp only [gt,ug,beq_eq] at *
  by_cases e : j = k
  ·subst e; simp only [decide_true,cond_true,Option.some.injEq] at *; rw [hg]
  ·simp only [e,decide_false,cond_false] at *; rw [ug_same hg]
theorem Adv.trunc {m : Nm} {s : S} {w : World} (hf : FitsS m s w) {i : Nat} {l : List Value} {e n : Nat} (hl : lk s.h i = some (.inl (l,e,n + 2))) (j : Nat) : Adv m s w m ⟨up s.h i (.inl (l.take j,e,n + 2)),s.nx⟩ w:=by
 refine Adv.write hf hl rfl (fun k hk=>rfl) rfl rfl rfl rfl (Nat.le_refl _) fun m' ha=>?_
 obtain ⟨pre,rest,h1,h2,h3⟩:=(hf m' ha).ok i _ hl
 refine ⟨pre,renL m' (l.drop j) ++ rest,?_,h2,?_⟩
 ·rw [h1]
  congr 3
  have : renL m' l = renL m' (l.take j) ++ renL m' (l.drop j):=by rw [← renL_append,List.take_append_drop]
  rw [this]
  simp [List.append_assoc]
 ·have e1 : (renL m' (l.drop j)).length = l.length - j:=by rw [renL_eq]; simp
  rw [List.length_append,e1,List.length_take]
  omega
theorem Gh.trunc {n0 : Nat} {tm : List U} {σ : Sg} {K : Nat} {l : List U} {e : TypeId} {sz st : Nat} (hg : gt σ.h K = some (.vec l e sz st)) (j : Nat) : Gh n0 tm σ tm ⟨ug σ.h K (.vec (l.take j) e sz st),σ.nx⟩:=fun F x tv hx hr hf he=>by
 subst hx
 obtain ⟨_,k1,k2,k3⟩:=hr.ok K _ hg
 rcases k3 with ⟨rfl,hno⟩ | ⟨i,lv,h1,h2,h3⟩
 ·rw [List.take_nil,ug_same hg]
  exact ⟨x,fun m w hf=>Adv.refl hf,rfl,hr,hf,he,Ke.refl _ _⟩
 ·have ho:=step_put hr (c:=.inl (lv.take j,e,sz + 2)) (bK:=.vec (l.take j) e sz st) hg h1 h2 rfl (by rintro l e sz st h; cases h; exact ⟨_,rfl⟩) fun y q1 q2 hm=>⟨okL_take k1 j,k2,.inr ⟨i,lv.take j,q1,q2,(hm.ke.E h3.bel h3).take j⟩⟩
  refine ⟨_,fun m w hf=>Adv.trunc hf h2 j,rfl,ho.h,ho.fr F hf,?_,?_⟩
  ·exact he.mono ho.mo he.bel
  ·exact fun u v hb hv=>Rel.mono ho.mo u v (Rel.bel u v hv) hv
theorem Gh.truncL {α : Type} (c : α→List U) {n0 : Nat} {tm : List U} {σ : Sg} {K : Nat} {xs : List α} {e : TypeId} {sz st : Nat} (hc : ∀ x,(c x).length = sz) (hg : gt σ.h K = some (.vec (xs.map c).flatten e sz st)) (j : Nat) : Gh n0 tm σ tm ⟨ug σ.h K (.vec ((xs.take j).map c).flatten e sz st),σ.nx⟩:=by
 have:=Gh.trunc (n0:=n0) (tm:=tm) hg (j * sz)
 rwa [flat_take hc] at this
theorem gt_filter (p : Nat→Bool) : ∀ (h : List (Nat × B)) (k : Nat),gt (h.filter fun x=>p x.1) k = if p k then gt h k else none
 | [],k=>by simp [gt]
 | (j,b) :: h,k=>by
  rw [List.filter_cons]
  cases hp : p j with
  | true =>
   simp only [if_true,gt_cons,gt_filter p h k]
   by_cases e : j = k
   ·subst e; simp [hp]
   ·simp [e]
  | false =>
   simp only [Bool.false_eq_true,if_false,gt_filter p h k,gt_cons]
   by_cases e : j = k
   ·subst e; simp [hp]
   ·simp [e]
theorem Gh.only {n0 : Nat} {tm : List U} {σ : Sg} (p : Nat→Bool) : Gh n0 tm σ tm ⟨σ.h.filter fun x=>p x.1,σ.nx⟩:=fun F x tv hx hr hf he=>by
 subst hx
 have mo : ∀ n,Mo n x ⟨x.ρ,⟨x.σ.h.filter fun y=>p y.1,x.σ.nx⟩,x.s⟩:=fun n=>⟨fun k _ h2=>⟨h2,fun b' hb'=>by
  simp only [gt_filter] at hb'
  split at hb'
  ·exact ⟨b',hb',Nat.le_refl _,fun _=>⟨rfl,fun l e sz st h=>⟨l,h⟩⟩⟩
  ·cases hb'⟩,fun _ _ _ h=>h⟩
 refine ⟨⟨x.ρ,⟨x.σ.h.filter fun y=>p y.1,x.σ.nx⟩,x.s⟩,fun m w hf=>Adv.refl hf,rfl,⟨?_,?_,hr.bd⟩,?_,he.mono (mo _) he.bel,fun u v hb hv=>Rel.mono (mo _) u v (Rel.bel u v hv) hv⟩
 ·intro k b hb
  simp only [gt_filter] at hb
  split at hb
  ·obtain ⟨h1,h2⟩:=hr.ok k b hb
   exact ⟨h1,h2.mono (mo _) rfl (fun i c _ h=>h)⟩
  ·cases hb
 ·intro k k' b b' i hb hb' h1 h2
  simp only [gt_filter] at hb hb'
  split at hb
  ·split at hb'
   ·exact hr.inj k k' b b' i hb hb' h1 h2
   ·cases hb'
  ·cases hb
 ·intro i b hF
  obtain ⟨h1,h2⟩:=hf i b hF
  refine ⟨h1,fun k c hc=>?_⟩
  simp only [gt_filter] at hc
  split at hc
  ·exact h2 k c hc
  ·cases hc
theorem wkZ_app : ∀ a b : List U,wkZ (a ++ b) = wkZ a ++ wkZ b
 | [],b=>rfl
 | u :: a,b=>by simp [wkZ,wkZ_app a b]
def idxV {α : Type} (l : List α) (off n : Nat) (i : Int) : Option α:=if 0 ≤ i∧i < (n : Int) then l[off + i.toNat]? else none
theorem idxV_get {α : Type} {l : List α} {off n : Nat} {i : Int} {x : α} (h : idxV l off n i = some x) : 0 ≤ i∧i < (n : Int)∧l[off + i.toNat]? = some x:=by
 unfold idxV at h
 split at h
 ·rename_i hi; exact ⟨hi.1,hi.2,h⟩
 ·cases h
def clrV {α : Type} (l : List α) (off n : Nat) (z : α) : List α:=l.take off ++ (List.replicate n z ++ l.drop (off + n))
theorem clrV_len {α : Type} {l : List α} {off n : Nat} {z : α} (h : off + n ≤ l.length) : (clrV l off n z).length = l.length:=by simp [clrV]; omega
section
variable {α : Type} {c : α→List U} {sz : Nat} (hc : ∀ x,(c x).length = sz)
include hc
theorem flat_at {xs : List α} {j : Nat} {x : α} (h : xs[j]? = some x) : segU (xs.map c).flatten (j * sz) sz = some (c x):=by
 have hj:=(List.getElem?_eq_some_iff.1 h).1
 unfold segU
 rw [flat_len hc,flat_drop hc]
 have e : xs.drop j = x :: xs.drop (j + 1):=by
  rw [List.drop_eq_getElem_cons hj]; congr; exact (List.getElem?_eq_some_iff.1 h).2
 rw [e,if_pos (by rw [← Nat.succ_mul]; exact Nat.mul_le_mul_right _ hj)]
 simp only [List.map_cons,List.flatten_cons]
 have:=hc x
 rw [← this,List.take_left']
 rfl
theorem flat_put {xs : List α} {j : Nat} (h : j < xs.length) (x : α) : putU (xs.map c).flatten (j * sz) (c x) = some ((xs.set j x).map c).flatten:=by
 unfold putU
 rw [flat_len hc,hc,if_pos (by rw [← Nat.succ_mul]; exact Nat.mul_le_mul_right _ h),← Nat.succ_mul,flat_drop hc,flat_take hc,List.set_eq_take_append_cons_drop,if_pos h]
 simp
theorem flat_clr {xs : List α} {off n : Nat} (h : off + n ≤ xs.length) (z : α) : putU (xs.map c).flatten (off * sz) (zerosU (c z) n) = some ((clrV xs off n z).map c).flatten:=by
 have e : zerosU (c z) n = ((List.replicate n z).map c).flatten:=by simp [zerosU]
 unfold putU
 rw [e,flat_len hc,flat_len hc,List.length_replicate,← Nat.add_mul,if_pos (Nat.mul_le_mul_right _ h),flat_drop hc,flat_take hc]
 simp [clrV]
end
section
variable {T : Tb} {σ σ' : Sg} {n : Nat} {l : List (Nat × U)} {u v w : U}
theorem ia_vp {α : Type} (c : α→List U) {t e e' : TypeId} {sz K st off m : Nat} {xs : List α} {k : IntKind} {i : Int} {x : α} (hd : T.und t = some (.slice e)) (hs : sizeX T e = some sz) (hz : 0 < sz) (hc : ∀ x,(c x).length = sz) (hv : vecOf σ K st = some ((xs.map c).flatten,e',sz)) (hx : idxV xs off m i = some x) : indexAtU T σ t (.vl K st off m) (.int k i) = some (.ptr K st (off * sz + i.toNat * sz)):=by
 obtain ⟨h1,h2,h3⟩:=idxV_get hx
 have hne : ¬ (xs.map c).flatten = []:=fun h=>by
  have:=congrArg List.length h
  rw [flat_len hc] at this
  have h4:=(List.getElem?_eq_some_iff.1 h3).1
  have:=Nat.mul_pos (show 0 < xs.length by omega) hz
  simp at *
  omega
 have hb : Nat.beq sz sz = true:=by simp [beq_eq]
 simp only [indexAtU,hd,hs,hv,hb,cond_true,h1,h2,ne_eq,hne,not_false_eq_true,and_self,if_true]
theorem ld_vp {α : Type} (c : α→List U) {t e' : TypeId} {d : TypeDesc} {sz K st off m : Nat} {xs : List α} {i : Int} {x : α} {o : Operand} (hd : T.und t = some d) (ha : isAggD d = true) (hs : sizeX T t = some sz) (hc : ∀ x,(c x).length = sz) (ho : evS n l o = some (.ptr K st (off * sz + i.toNat * sz))) (hv : gt σ.h K = some (.vec (xs.map c).flatten e' sz st)) (hx : idxV xs off m i = some x) {q : List U} (hq : c x = q) : opU T σ (fr n l) (.load t o) = some (.agg q,σ):=by
 subst hq
 refine op_r rfl ?_
 have hb : Nat.beq st st = true:=by simp [beq_eq]
 have hg:=flat_at hc (idxV_get hx).2.2
 rw [Nat.add_mul] at hg
 simp only [readU,ev_fr ho,cellsOf,hv,hb,cond_true,loadU,hd,ha,hs,hg]
theorem st_vp {α : Type} (c : α→List U) {t e' : TypeId} {sz K st off m : Nat} {xs : List α} {i : Int} {x y : α} {o z : Operand} {cs : List U} {h' : List (Nat × B)} (hs : sizeX T t = some sz) (hc : ∀ x,(c x).length = sz) (ho : evS n l o = some (.ptr K st (off * sz + i.toNat * sz))) (hz : evS n l z = some v) (hcs : cellsO v = some cs) (hk : okL cs = true) (hl : Nat.beq cs.length sz = true) (hy : wkZ cs = c y) (hv : gt σ.h K = some (.vec (xs.map c).flatten e' sz st)) (hx : idxV xs off m i = some x) (hσ : ug σ.h K (.vec ((xs.set (off + i.toNat) y).map c).flatten e' sz st) = h') : opU T σ (fr n l) (.store t o z) = some (.junk,⟨h',σ.nx⟩):=by
 subst hσ
 have hb : Nat.beq st st = true:=by simp
 have hj:=(List.getElem?_eq_some_iff.1 (idxV_get hx).2.2).1
 have hp:=flat_put hc hj y
 rw [Nat.add_mul] at hp
 exact op_e rfl rfl (by simp only [effU,ev_fr ho,ev_fr hz,storeU,hs,hcs,hl,hk,cond_true,cellsOf,hv,hb,wkB,hy,hp,putOf])
theorem idxO_V {α : Type} {xs : List α} {i : Int} {x : α} (h : idxO xs i = some x) : idxV xs 0 xs.length i = some x:=by
 obtain ⟨h1,h2,h3⟩:=idxO_get h
 unfold idxV; rw [if_pos ⟨h1,h2⟩,Nat.zero_add]; exact h3
theorem sl_vp {α : Type} (c : α→List U) {t e e' : TypeId} {sz K st off m a h q : Nat} {xs : List α} {lo hi : Option Value} (hd : T.und t = some (.slice e)) (hs : sizeX T e = some sz) (hc : ∀ x,(c x).length = sz) (hv : vecOf σ K st = some ((xs.map c).flatten,e',sz)) (hm : off + m ≤ xs.length) (hb : boundsX m m lo hi none = some (a,h,q)) : sliceU T σ t (.vl K st off m) lo hi none = some (.vl K st (off + a) (h - a)):=by
 have b : Nat.beq sz sz = true:=by simp [beq_eq]
 have hl : (off + m) * sz ≤ (xs.map c).flatten.length:=by rw [flat_len hc]; exact Nat.mul_le_mul_right _ hm
 simp only [sliceU,hd,hs,hv,b,cond_true,hb,hl,if_true]
theorem len_vp {t e e' : TypeId} {K st m sz off : Nat} {q : List U} (hd : T.und t = some (.slice e)) (h : gt σ.h K = some (.vec q e' sz st)) : lenU T σ t (.vl K st off m) = some (.int .i64 m):=by
 have b : Nat.beq st st = true:=by simp [beq_eq]
 simp only [lenU,hd,live,h,B.st,b,cond_true]
theorem op_clr {α : Type} (c : α→List U) {t e e' : TypeId} {sz by_ K st off m : Nat} {xs : List α} {z : α} {zv : Value} {x : Operand} {args : Array Operand} {ts : Array TypeId} {q : List TypeId} {h' : List (Nat × B)} (ha : args.toList = [x]) (ht : ts.toList = t :: q) (hx : evS n l x = some (.vl K st off m)) (hd : T.und t = some (.slice e)) (hi : T.inf e = some (sz,by_,zv)) {zu : List U} (hz : ofVL zv.cells.toList = some zu) (hk : okL zu = true) (hzw : wkZ zu = c z) (hzl : Nat.beq zv.cells.toList.length sz = true) (hc : ∀ x,(c x).length = sz) (hv : gt σ.h K = some (.vec (xs.map c).flatten e' sz st)) (hm : off + m ≤ xs.length) (hσ : ug σ.h K (.vec ((clrV xs off m z).map c).flatten e' sz st) = h') : opU T σ (fr n l) (.call { callee:=.builtin .clear,args:=args,argTypes:=ts }) = some (.junk,⟨h',σ.nx⟩):=by
 subst hσ
 have b1 : Nat.beq st st = true:=by simp [beq_eq]
 have b2 : Nat.beq sz sz = true:=by simp [beq_eq]
 refine op_e rfl rfl ?_
 by_cases h0 : m = 0
 ·subst h0
  have e0 : clrV xs off 0 z = xs:=by simp [clrV]
  rw [e0,ug_same hv]
  simp only [effU,ha,ht,evalUL,ev_fr hx,clearU,hd,hi,hz,hk,hzl,cond_true,vecOf,hv,b1,b2,if_true]
 ·simp only [effU,ha,ht,evalUL,ev_fr hx,clearU,hd,hi,hz,hk,hzl,cond_true,vecOf,hv,b1,b2,h0,if_false,hzw,flat_clr hc hm z]
theorem op_appm {α : Type} (c : α→List U) (zx : α) {t xt e : TypeId} {kd k : IntKind} {x y : Operand} {i : Int} {sz by_ : Nat} {z : Value} {zu : List U} {args : Array Operand} {ts : Array TypeId} (ha : args.toList = [x,y]) (ht : ts.toList = [t,xt]) (hx : evS n l x = some .nils) (hy : evS n l y = some (.int k i)) (hd : T.und t = some (.slice e)) (hd2 : T.und xt = some (.int kd)) (hi : T.inf e = some (sz + 1,by_,z)) (hz : ofVL z.cells.toList = some zu) (hk : okL zu = true) (hzl : z.cells.toList.length = sz + 1) (hw : wkZ zu = c zx) (hr : 0 < i∧i.toNat * by_ ≤ 140737488355328∧i.toNat ≤ 140737488355328) : opU T σ (fr n l) (.call { callee:=.builtin .append,args:=args,argTypes:=ts }) = some (.vl σ.nx 0 0 i.toNat,newU σ (.vec ((List.replicate i.toNat zx).map c).flatten e (sz + 1) 0)):=by
 refine op_e rfl rfl ?_
 have e1 : appendU T σ t xt .nils (.int k i) = none:=by simp [appendU,hd,hd2]
 have e2 : ∀ m : Nat,wkZ (List.replicate m zu).flatten = ((List.replicate m zx).map c).flatten:=by
  intro m
  induction m with
  | zero=>rfl
  | succ m ih=>simp only [List.replicate_succ,List.flatten_cons,List.map_cons,wkZ_app,hw,ih]
 simp only [effU,ha,ht,evalUL,ev_fr hx,ev_fr hy,appendYU,e1,appendMU,hd,hd2,hi,hz,hr.1,hr.2.1,hr.2.2,hzl,hk,and_self,if_true,e2]
theorem op_cap0 {x : Operand} {t e : TypeId} {args : Array Operand} {ts : Array TypeId} {q : List TypeId} (ha : args.toList = [x]) (ht : ts.toList = t :: q) (hx : evS n l x = some .nils) (hd : T.und t = some (.slice e)) : opU T σ (fr n l) (.call { callee:=.builtin .cap,args:=args,argTypes:=ts }) = some (.int .i64 0,σ):=op_p (by simp only [pureU,ha,ht,evalUL,ev_fr hx,capU,hd])
end
class LtN (a b : Nat) : Prop where
 h : a < b
instance {b : Nat} : LtN 0 (b + 1):=⟨Nat.succ_pos _⟩
instance {a b : Nat} [q : LtN a b] : LtN (a + 1) (b + 1):=⟨Nat.succ_lt_succ q.h⟩
class BF {α : Type} (c : α→List U) : Prop where
 h : ∀ n x,BelL n (c x)
instance (k : IntKind) : BF (cI k):=⟨fun n x=>bel_cI n k x⟩
instance {α : Type} (c : α→List U) [q : BF c] : BF (cL c):=⟨fun n x=>bel_cL n (q.h n) x⟩
class BU (n : Nat) (u : U) : Prop where
 h : Bel n u
class BUL (n : Nat) (l : List U) : Prop where
 h : BelL n l
instance (n : Nat) : BUL n []:=⟨by simp [BelL]⟩
instance (n : Nat) (u : U) (l : List U) [a : BU n u] [b : BUL n l] : BUL n (u :: l):=⟨by simp only [BelL]; exact ⟨a.h,b.h⟩⟩
instance {α : Type} (n : Nat) (c : α→List U) (l : List α) [q : BF c] : BUL n (l.map c).flatten:=⟨bel_flat n (q.h n) l⟩
instance (n : Nat) (b : Bool) : BU n (.bool b):=⟨by simp [Bel]⟩
instance (n : Nat) (k : IntKind) (z : Int) : BU n (.int k z):=⟨by simp [Bel]⟩
instance (n : Nat) (s : List UInt8) : BU n (.str s):=⟨by simp [Bel]⟩
instance (n : Nat) : BU n .nils:=⟨by simp [Bel]⟩
instance (n k st off : Nat) [q : LtN k n] : BU n (.ptr k st off):=⟨by simp only [Bel]; exact q.h⟩
instance (n k off m c : Nat) [q : LtN k n] : BU n (.sl k off m c):=⟨by simp only [Bel]; exact q.h⟩
instance (n k st off m : Nat) [q : LtN k n] : BU n (.vl k st off m):=⟨by simp only [Bel]; exact q.h⟩
instance (n : Nat) (l : List U) [q : BUL n l] : BU n (.iptr l):=⟨by simp only [Bel]; exact q.h⟩
instance (n : Nat) (l : List U) [q : BUL n l] : BU n (.agg l):=⟨by simp only [Bel]; exact q.h⟩
instance (n : Nat) (l : List U) [q : BUL n l] : BU n (.tup l):=⟨by simp only [Bel]; exact q.h⟩
instance (n : Nat) (f : Fn) (a b : List U) [p : BUL n a] [q : BUL n b] : BU n (.fn f a b):=⟨by simp only [Bel]; exact ⟨p.h,q.h⟩⟩
instance {α : Type} (n : Nat) (t : Bool) (c : α→List U) (l : List α) [q : BF c] : BU n (.isl t (l.map c)):=⟨by simp only [Bel]; exact belR_map c (q.h n) l⟩
instance (n : Nat) (t : Bool) : BU n (.isl t []):=⟨by simp [Bel,BelR]⟩
class BS (n : Nat) (l : List (Nat × U)) : Prop where
 h : BelS n l
instance (n : Nat) : BS n []:=⟨by simp [BelS]⟩
instance (n i : Nat) (u : U) (l : List (Nat × U)) [a : BU n u] [b : BS n l] : BS n ((i,u) :: l):=⟨by simp only [BelS]; exact ⟨a.h,b.h⟩⟩
class BFU {α : Type} (f : α→U) : Prop where
 h : ∀ n x,Bel n (f x)
class BB (n : Nat) (b : B) : Prop where
 h : BelB n b
instance (n : Nat) (l : List U) (e : TypeId) [q : BUL n l] : BB n (.row l e):=⟨by simp only [BelB]; exact q.h⟩
instance (n : Nat) (l : List U) (e : TypeId) (sz st : Nat) [q : BUL n l] : BB n (.vec l e sz st):=⟨by simp only [BelB]; exact q.h⟩
class BH (n : Nat) (h : List (Nat × B)) : Prop where
 h : BelH n h
instance (n : Nat) : BH n []:=⟨by simp [BelH]⟩
instance (n k : Nat) (b : B) (h : List (Nat × B)) [p : BB n b] [q : BH n h] : BH n ((k,b) :: h):=⟨by simp only [BelH]; exact ⟨p.h,q.h⟩⟩
theorem Gh.toC {n0 n1 n : Nat} {l l' : List (Nat × U)} {σ : Sg} {h' : List (Nat × B)} (ht : subS l l') (hs : Vx.cut n1 σ.h = h') (h1 : n0 ≤ n1) (h2 : n1 ≤ σ.nx) [hb : BS n1 l'] [hh : BH n1 h'] : Gh n0 (fr n l) σ (fr n l') ⟨h',n1⟩:=Gh.toS ht (by rw [hs]) h1 h2 hb.h hh.h
theorem Gh.toR {tm : List U} {σ : Sg} (u : U) (ht : tm = [u]) [q : BU 0 u] : Gh 0 tm σ [u] ⟨[],0⟩:=by
 subst ht
 refine Gh.to (n1:=0) [] rfl ?_ (Nat.le_refl _) (Nat.zero_le _) (by simp only [BelL]; exact ⟨q.h,trivial⟩) (by simp [BelH])
 have : ∀ h : List (Nat × B),Vx.cut 0 h = []:=by
  intro h
  induction h with
  | nil=>rfl
  | cons x h ih=>obtain ⟨k,b⟩:=x; simp only [Vx.cut,ih]; rfl
 rw [this]
theorem EvU.pure1C {P : Program} {f : FuncId} {args : List U} {u : U} (h : EvU P f args ⟨[],0⟩ (fun u' _=>u' = u∧Bel 0 u')) [q : BUL 0 args] (σ : Sg) : EvU P f args σ (fun u' σ'=>u' = u∧σ' = σ):=EvU.pure1 h q.h σ
theorem EvU.wkA {P : Program} {f : FuncId} {args args' : List U} {u : U} (h : WkL args args') (hev : ∀ s,EvU P f args' s (fun u' σ'=>u' = u∧σ' = s)) (σ : Sg) : EvU P f args σ (fun u' σ'=>u' = u∧σ' = σ):=EvU.ghost (Gh.wk h) (Nat.le_refl _) (hev σ)
class Stp (A : Prop) (B : outParam Prop) : Prop where
 h : B→A
section
variable {Q : Exit→List U→Sg→Prop} {K : List U→Sg→Prop} {tm : List U} {σ : Sg} {i j n0 : Nat} {E : List U→Sg→Prop}
instance : Stp (thenU K Q .normal tm σ) (K tm σ):=⟨q1⟩
instance : Stp (thenU K Q (.exit i) tm σ) (Q (.exit i) tm σ):=⟨q2⟩
instance : Stp (thenU K Q .ret tm σ) (Q .ret tm σ):=⟨q3⟩
instance : Stp (inBlockU i Q .normal tm σ) (Q .normal tm σ):=⟨q4⟩
instance : Stp (inBlockU i Q .ret tm σ) (Q .ret tm σ):=⟨q5⟩
instance : Stp (inBlockU i Q (.exit i) tm σ) (Q .normal tm σ):=⟨q6⟩
instance : Stp (thruU n0 E Q .normal tm σ) (∃ tm' σ',E tm' σ'∧n0 ≤ σ'.nx∧Gh n0 tm σ tm' σ'):=⟨q8⟩
instance : Stp (thruU n0 E Q .ret tm σ) (Q .ret tm σ):=⟨q9⟩
end
theorem sq {P : Program} {n0 : Nat} {tm : List U} {σ : Sg} {Q : Exit→List U→Sg→Prop} {p q : Code} (h : WPU P n0 p tm σ (thenU (fun tm σ=>WPU P n0 q tm σ Q) Q)) : WPU P n0 (.seq p q) tm σ Q:=WPU.seq h
section
variable {P : Program} {T : Tb} {ops r : List Oper} {n : Nat} {l : List (Nat × U)} {σ : Sg} {K : List U→Sg→Prop} {u : U}
theorem RS.mv {o : Oper} {x : Operand} (hw : wantedU ops (fr n l) o = some true) (ho : o.op = .move x) (hx : evS n l x = some u) {d : Tmp} (he : o.dst = some d) (hk : RU P T ops r (fr n ((d,u) :: l)) σ K) (hd : Nat.blt d n = true:=by rfl) : RU P T ops (o :: r) (fr n l) σ K:=RS.op hw (by rw [ho]; exact op_move hx) he hd hk
theorem RS.as {o : Oper} {x : Operand} (hw : wantedU ops (fr n l) o = some true) (ho : o.op = .assign x) (hx : evS n l x = some u) {d : Tmp} (he : o.dst = some d) (hk : RU P T ops r (fr n ((d,u) :: l)) σ K) (hd : Nat.blt d n = true:=by rfl) : RU P T ops (o :: r) (fr n l) σ K:=RS.op hw (by rw [ho]; exact op_assign hx) he hd hk
end
section
variable {P : Program} {T : Tb} {ops r : List Oper} {o : Oper} {n : Nat} {l : List (Nat × U)} {σ : Sg} {acc : List RK} {K : List RK→List U→Sg→Prop} {u : U}
theorem RD.mv {x : Operand} (hw : wantedU ops (fr n l) o = some true) (ho : o.op = .move x) (hx : evS n l x = some u) {d : Tmp} (he : o.dst = some d) (hk : RH P T ops r (fr n ((d,u) :: l)) σ ((1,⟨fr n l,o,u,false,false,σ,σ⟩) :: acc) K) (hd : Nat.blt d n = true:=by rfl) : RH P T ops (o :: r) (fr n l) σ acc K:=RD.look hw (by rw [ho]; exact op_move hx) he hd hk
theorem RD.as {x : Operand} (hw : wantedU ops (fr n l) o = some true) (ho : o.op = .assign x) (hx : evS n l x = some u) {d : Tmp} (he : o.dst = some d) (hk : RH P T ops r (fr n ((d,u) :: l)) σ ((1,⟨fr n l,o,u,false,false,σ,σ⟩) :: acc) K) (hd : Nat.blt d n = true:=by rfl) : RH P T ops (o :: r) (fr n l) σ acc K:=RD.look hw (by rw [ho]; exact op_assign hx) he hd hk
end
class NeN (a b : Nat) : Prop where
 h : ¬ a = b
instance {b : Nat} : NeN 0 (b + 1):=⟨by omega⟩
instance {Q : Exit→List U→Sg→Prop} {tm : List U} {σ : Sg} {i j : Nat} [h : NeN j i] : Stp (inBlockU i Q (.exit j) tm σ) (Q (.exit j) tm σ):=⟨q7 h.h⟩
theorem gq {A B : Prop} [s : Stp A B] (h : B) : A:=s.h h
def plOf (T : Tb) : List Field→Option (List (Nat × Nat))
 | []=>some []
 | f :: fs=>match sizeX T f.type,plOf T fs with
  | some n,some l=>some ((f.offset,n) :: l)
  | _,_=>none
theorem plOf_ok {T : Tb} : ∀ {fs : List Field} {pl : List (Nat × Nat)},plOf T fs = some pl→sizesX T fs = true∧∀ i,fieldPl T fs i = nth pl i
 | [],pl,h=>by simp [plOf] at h; subst h; exact ⟨rfl,fun i=>rfl⟩
 | f :: fs,pl,h=>by
  simp only [plOf] at h
  cases h1 : sizeX T f.type with
  | none=>simp [h1] at h
  | some n =>
   cases h2 : plOf T fs with
   | none=>simp [h1,h2] at h
   | some l =>
    simp only [h1,h2,Option.some.injEq] at h
    subst h
    obtain ⟨g1,g2⟩:=plOf_ok h2
    refine ⟨by simp [sizesX,h1,g1],fun i=>?_⟩
    cases i with
    | zero=>simp [fieldPl,nth,h1]
    | succ i=>exact g2 i
structure BdT (T : Tb) (t : TypeId) (zu : List U) (pl : List (Nat × Nat)) : Prop where
 bd : ∀ {qs : List (Nat × U)} {cs : List U},fillU (nth pl) zu qs = some cs→okL cs = true→buildU T t qs = some (.agg cs)
theorem bdT {T : Tb} {t : TypeId} {fs : Array Field} {a b : Nat} {z : Value} {zu : List U} {pl : List (Nat × Nat)} (hd : T.und t = some (.struct fs)) (hi : T.inf t = some (a,b,z)) (hz : ofVL z.cells.toList = some zu) (hp : plOf T fs.toList = some pl) : BdT T t zu pl:=⟨fun {qs cs} hf hk=>by
 obtain ⟨g1,g2⟩:=plOf_ok hp
 have : fieldPl T fs.toList = nth pl:=funext g2
 simp only [buildU,hi,hz,hd,g1,cond_true,this,hf,hk]⟩
section
variable {T : Tb} {σ σ' : Sg} {n : Nat} {l : List (Nat × U)} {u v w : U}
theorem op_bld {t : TypeId} {zu : List U} {pl : List (Nat × Nat)} {ps : Array (Nat × Operand)} {qs : List (Nat × U)} {cs : List U} (h : BdT T t zu pl) (he : evSP n l ps.toList = some qs) (hf : fillU (nth pl) zu qs = some cs) (hk : okL cs = true) : opU T σ (fr n l) (.build t ps) = some (.agg cs,σ):=op_build he (h.bd hf hk)
theorem op_bsl {t e : TypeId} {k sz b : Nat} {z : Value} {zu cs : List U} {ps : Array (Nat × Operand)} {qs : List (Nat × U)} (hd : T.und t = some (.slice e)) (hi : T.inf e = some (sz,b,z)) (h : evSP n l ps.toList = some qs) (h1 : Nat.ble (k * sz) 16777216 = true) (h2 : Nat.ble k 16777216 = true) (h3 : Nat.beq z.cells.toList.length sz = true) (hz : ofVL z.cells.toList = some zu) (hf : fillU (fun i=>some (i * sz,sz)) (zerosU zu k) qs = some cs) (hk : okL cs = true) : opU T σ (fr n l) (.buildSlice t k ps) = some (.sl σ.nx 0 k k,newU σ (.row cs e)):=op_bs h (by simp only [makeListU,hd,hi,h1,h2,h3,cond_true,hz,hf,hk])
theorem FreeO.bs {P : Program} {t e : TypeId} {k sz b : Nat} {z : Value} {zu cs : List U} {rs : List (List U)} {ps : Array (Nat × Operand)} {qs : List (Nat × U)} (hd : T.und t = some (.slice e)) (hi : T.inf e = some (sz,b,z)) (h : evSP n l ps.toList = some qs) (h1 : Nat.ble (k * sz) 16777216 = true) (h2 : Nat.ble k 16777216 = true) (h3 : Nat.beq z.cells.toList.length sz = true) (hz : ofVL z.cells.toList = some zu) (hf : fillU (fun i=>some (i * sz,sz)) (zerosU zu k) qs = some cs) (hk : okL cs = true) (hl : Nat.ble (k * sz) cs.length = true) (hr : chunks sz k cs = rs) [hb : BUL 0 cs] : FreeO P T (fr n l) (.buildSlice t k ps) (.isl false rs) :=
 .inr ⟨k,sz,cs,e,fun σ=>op_bsl hd hi h h1 h2 h3 hz hf hk,Nat.le_of_ble_eq_true hl,hb.h,by rw [hr]⟩
theorem ix_shr (k : IntKind) {a b : Int} {k' : IntKind} (h : ¬ b < 0) : intX .shr k a k' b = some (.int k (a.fdiv (2 ^ (min b.toNat k.bits)))):=by simp [intX,h]
theorem op_mks {α : Type} (c : α→List U) (z : α) {t e : TypeId} {x y : Operand} {k k' : IntKind} {a : Int} {sz by_ : Nat} {zv : Value} (hx : evS n l x = some (.int k a)) (hy : evS n l y = some (.int k' a)) (hd : T.und t = some (.slice e)) (hi : T.inf e = some (sz,by_,zv)) {zu : List U} (hz : ofVL zv.cells.toList = some zu) (hk : okL zu = true) (hzw : wkZ zu = c z) (hl : Nat.beq zv.cells.toList.length sz = true) (hr : 0 ≤ a∧by_ * a.toNat ≤ 281474976710656∧a ≤ 281474976710656) : opU T σ (fr n l) (.makeSlice t x y) = some (.sl σ.nx 0 a.toNat a.toNat,newU σ (.row ((List.replicate a.toNat z).map c).flatten e)):=by
 have hz2 : zerosU (c z) a.toNat = ((List.replicate a.toNat z).map c).flatten:=by simp [zerosU]
 refine op_ms hx hy ?_
 simp only [makeU,hd,hi,hz,hk,hl,cond_true,hr.1,hr.2.1,hr.2.2,Int.le_refl,and_self,if_true,hzw,hz2]
theorem ia_rl {α : Type} {t e : TypeId} {sz K m q : Nat} {xs : List α} {k : IntKind} {i : Int} {x : α} (hd : T.und t = some (.slice e)) (hs : sizeX T e = some sz) (hv : live σ K 0 = true) (hx : idxV xs 0 m i = some x) : indexAtU T σ t (.sl K 0 m q) (.int k i) = some (.ptr K 0 (0 * sz + i.toNat * sz)):=by
 obtain ⟨h1,h2,_⟩:=idxV_get hx
 simp only [indexAtU,hd,hs,hv,cond_true,h1,h2,and_self,if_true,Nat.zero_mul]
theorem st_rl {α : Type} (c : α→List U) {t e' : TypeId} {sz K m : Nat} {xs : List α} {i : Int} {x y : α} {o z : Operand} {cs : List U} {h' : List (Nat × B)} (hs : sizeX T t = some sz) (hc : ∀ x,(c x).length = sz) (ho : evS n l o = some (.ptr K 0 (0 * sz + i.toNat * sz))) (hz : evS n l z = some v) (hcs : cellsO v = some cs) (hk : okL cs = true) (hy : cs = c y) (hv : gt σ.h K = some (.row (xs.map c).flatten e')) (hx : idxV xs 0 m i = some x) (hσ : ug σ.h K (.row ((xs.set i.toNat y).map c).flatten e') = h') : opU T σ (fr n l) (.store t o z) = some (.junk,⟨h',σ.nx⟩):=by
 subst hy; subst hσ
 have hb : Nat.beq 0 0 = true:=rfl
 have hb2 : Nat.beq (c y).length sz = true:=by simp [hc]
 have hj:=(List.getElem?_eq_some_iff.1 (idxV_get hx).2.2).1
 have hp:=flat_put hc hj y
 rw [Nat.add_mul,Nat.zero_add] at hp
 exact op_e rfl rfl (by simp only [effU,ev_fr ho,ev_fr hz,storeU,hs,hcs,hb2,hk,cond_true,cellsOf,hv,hb,wkB,hp,putOf])
theorem fz_rl {α : Type} {c : α→List U} {sz : Nat} (hc : ∀ x,(c x).length = sz) {xs : List α} {m : Nat} (h : m = xs.length) (K : Nat) (e : TypeId) : fz K (.row (xs.map c).flatten e) sz (.sl K 0 m m) = .isl false (xs.map c):=by
 subst h
 have hl : 0 + xs.length * sz ≤ (xs.map c).flatten.length:=by rw [flat_len hc]; omega
 have hk : Nat.beq K K = true:=by simp
 simp only [fz,hk,cond_true,hl,if_true,List.drop_zero,chunks_flat hc]
end
theorem EvU.own1 {α : Type} (c : α→List U) {P : Program} {f : FuncId} {ys : List α} {e : TypeId} {sz : Nat} {as : List U} [hc : BF c] [ha : BUL 0 as] {k : Nat}
  (h : EvU P f as ⟨[],0⟩ (fun u σ'=>∃ t',u = .vl k t' 0 ys.length∧σ' = ⟨[(k,.vec (ys.map c).flatten e sz t')],k + 1⟩))
  (σ : Sg) (K : Nat) (hK : σ.nx + k = K) :
  EvU P f as σ (fun u σ'=>∃ t',u = .vl K t' 0 ys.length∧σ' = ⟨(K,.vec (ys.map c).flatten e sz t') :: σ.h,K + 1⟩):=by
 subst hK
 have hfl : ∀ l : List α,BelL 0 (l.map c).flatten:=fun l=>bel_flat 0 (hc.h 0) l
 have h1:=EvU.frame [] h σ (by simp) (by simp) ha.h (by intro k b hb; simp [gt] at hb)
 rw [rUL_bel0 _ _ ha.h] at h1
 refine EvU.post h1 ?_
 rintro u σ1 ⟨u0,σ0,⟨t',rfl,rfl⟩,_,rfl,rfl⟩
 refine ⟨.vl (σ.nx + k) t' 0 ys.length,⟨(σ.nx + k,.vec (ys.map c).flatten e sz t') :: σ.h,σ.nx + k + 1⟩,by simp; omega,?_,t',rfl,rfl⟩
 have hs : frS [] σ ⟨[(k,.vec (ys.map c).flatten e sz t')],k + 1⟩ = ⟨(σ.nx + k,.vec (ys.map c).flatten e sz t') :: dropH [] σ.h,σ.nx + k + 1⟩:=by
  simp [frS,renH,nm,rB,rUL_bel0 _ _ (hfl ys)]; omega
 rw [hs]
 have:=Gh.same (n0:=σ.nx) (tm:=[rU (nm [] σ.nx) (.vl k t' 0 ys.length)]) (σ:=⟨(σ.nx + k,.vec (ys.map c).flatten e sz t') :: dropH [] σ.h,σ.nx + k + 1⟩) ((σ.nx + k,.vec (ys.map c).flatten e sz t') :: σ.h) (fun j=>by
  rw [gt_cons,gt_cons,gt_dropH]
  by_cases hk : σ.nx + k = j <;> simp [hk])
 exact this
def bothL {α β : Type} : List β→(Bool→Option (List α))→Option (List α)
 | [],F=>match F true,F false with
  | some [],some []=>some []
  | _,_=>none
 | _ :: _,F=>F false
theorem bothL_some {α β : Type} {l : List β} {F : Bool→Option (List α)} {r : List α} (h : bothL l F = some r) (z : Bool) (hz : z = true→l = []) : F z = some r:=by
 cases l with
 | nil =>
  simp only [bothL] at h
  split at h
  ·rename_i h1 h2
   cases z
   ·rw [h2]; exact h
   ·rw [h1]; exact h
  ·cases h
 | cons a l =>
  cases z with
  | false=>exact h
  | true=>have:=hz rfl; cases this
end Go.Vx
end
