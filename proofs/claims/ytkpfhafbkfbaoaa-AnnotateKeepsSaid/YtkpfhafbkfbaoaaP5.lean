/-
  Texts of the walk: RxM RxN.
-/
import Derived.Test.YtkpfhafbkfbaoaaP4
section
namespace Go.Rx
open Go
def sAt (rs : List Rec) (s' : S) (p : Nat) : S:=match rs[p]? with
 | some r=>r.2.2.2.2.1
 | none=>s'
def tAt (rs : List Rec) (tm' : List Value) (p : Nat) : List Value:=match rs[p]? with
 | some r=>r.1
 | none=>tm'
theorem trace_ok {T : Tb} {call : CallX} {ops : List Oper} : ∀ (l : List Oper) (tm : List Value) (s : S) (rs : List Rec) (tm' : List Value) (s' : S),traceX T call ops l tm s = some (rs,tm',s') →
  rs.length = l.length∧sAt rs s' 0 = s∧tAt rs tm' 0 = tm ∧
  ∀ i r,rs[i]? = some r→l[i]? = some r.2.1∧recX T call ops r.1 r.2.2.2.2.1 r.2.1 = some (r.2.2.1,r.2.2.2.1,r.2.2.2.2.2)∧sAt rs s' (i + 1) = r.2.2.2.2.2∧tAt rs tm' (i + 1) = putT r.1 r.2.1.dst r.2.2.1
 | [],tm,s,rs,tm',s',h=>by
  simp only [traceX,Option.some.injEq,Prod.mk.injEq] at h
  obtain ⟨rfl,rfl,rfl⟩:=h
  exact ⟨rfl,rfl,rfl,fun i r hr=>by simp at hr⟩
 | o :: l,tm,s,rs,tm',s',h=>by
  simp only [traceX] at h
  cases hr : recX T call ops tm s o with
  | none=>simp [hr] at h
  | some q =>
   obtain ⟨v,k,s1⟩:=q
   simp only [hr] at h
   cases ht : traceX T call ops l (putT tm o.dst v) s1 with
   | none=>simp [ht] at h
   | some q =>
    obtain ⟨l2,tm2,s2⟩:=q
    simp only [ht,Option.some.injEq,Prod.mk.injEq] at h
    obtain ⟨rfl,rfl,rfl⟩:=h
    obtain ⟨h1,h2,h3,h4⟩:=trace_ok l _ _ _ _ _ ht
    refine ⟨by simp [h1],rfl,rfl,fun i r hri=>?_⟩
    cases i with
    | zero =>
     simp only [List.getElem?_cons_zero,Option.some.injEq] at hri
     subst hri
     refine ⟨rfl,hr,?_,?_⟩
     ·simp only [sAt,List.getElem?_cons_succ]; exact h2
     ·simp only [tAt,List.getElem?_cons_succ]; exact h3
    | succ i =>
     simp only [List.getElem?_cons_succ] at hri
     obtain ⟨g1,g2,g3,g4⟩:=h4 i r hri
     refine ⟨by simpa using g1,g2,?_,?_⟩
     ·simp only [sAt,List.getElem?_cons_succ]; exact g3
     ·simp only [tAt,List.getElem?_cons_succ]; exact g4
theorem rec_kind {T : Tb} {call : CallX} {ops : List Oper} {tm : List Value} {s s' : S} {o : Oper} {v : Value} {k : Nat} (h : recX T call ops tm s o = some (v,k,s')) : (k = 0 ∨ k = 1 ∨ k = 2)∧(k ≠ 2→s' = s):=by
 unfold recX at h
 cases hw : wantedX ops tm o with
 | false=>simp [hw] at h; obtain ⟨_,rfl,rfl⟩:=h; simp
 | true =>
  simp only [hw,cond_true] at h
  cases h1 : pureX T tm o.op with
  | some u=>simp [h1] at h; obtain ⟨_,rfl,rfl⟩:=h; simp
  | none =>
   simp only [h1] at h
   cases h2 : readX T tm s o.op with
   | some u=>simp [h2] at h; obtain ⟨_,rfl,rfl⟩:=h; simp
   | none =>
    simp only [h2] at h
    cases h3 : opX T call tm s o.op with
    | none=>simp [h3] at h
    | some q=>simp [h3] at h; obtain ⟨_,rfl,_⟩:=h; simp
theorem maskE_bit {acc : List Nat} {es : List Edge} {k : Nat} (h : (maskE acc es).testBit k = true) : ∃ e ∈ es,Region.binds .any e = true∧(k = e.on ∨ ∃ x,acc[e.on]? = some x∧x.testBit k = true):=by
 induction es with
 | nil=>simp [maskE] at h
 | cons e es ih =>
  simp only [maskE,nth_eq] at h
  cases hb : Region.binds .any e with
  | false =>
   simp only [hb,cond_false] at h
   obtain ⟨e',h1,h2⟩:=ih h
   exact ⟨e',by simp [h1],h2⟩
  | true =>
   simp only [hb,cond_true,Nat.testBit_or,Bool.or_eq_true] at h
   rcases h with (h | h) | h
   ·refine ⟨e,by simp,hb,.inl ?_⟩
    rw [Nat.testBit_two_pow] at h
    simpa using (of_decide_eq_true h).symm
   ·refine ⟨e,by simp,hb,.inr ?_⟩
    cases hx : acc[e.on]? with
    | none=>simp [hx] at h
    | some x=>simp only [hx] at h; exact ⟨x,rfl,h⟩
   ·obtain ⟨e',h1,h2⟩:=ih h
    exact ⟨e',by simp [h1],h2⟩
theorem masks_get : ∀ (l : List Oper) (acc : List Nat),(masks l acc).length = acc.length + l.length∧(masks l acc).take acc.length = acc ∧
  ∀ i o,l[i]? = some o→(masks l acc)[acc.length + i]? = some (maskE ((masks l acc).take (acc.length + i)) o.after.toList)
 | [],acc=>by simp [masks]
 | o :: l,acc=>by
  obtain ⟨h1,h2,h3⟩:=masks_get l (acc ++ [maskE acc o.after.toList])
  simp only [masks]
  refine ⟨by rw [h1]; simp; omega,?_,fun i q hq=>?_⟩
  ·have:=congrArg (List.take acc.length) h2
   rw [List.take_take] at this
   simpa using this
  ·cases i with
   | zero =>
    simp only [List.getElem?_cons_zero,Option.some.injEq] at hq
    subst hq
    have e1 : (masks l (acc ++ [maskE acc o.after.toList])).take acc.length = acc:=by
     have:=congrArg (List.take acc.length) h2
     rw [List.take_take] at this
     simpa using this
    rw [Nat.add_zero,e1]
    have:=congrArg (fun z=>z[acc.length]?) h2
    simp only [List.getElem?_take] at this
    simpa using this
   | succ i =>
    simp only [List.getElem?_cons_succ] at hq
    have:=h3 i q hq
    simp only [List.length_append,List.length_cons,List.length_nil] at this
    rw [show acc.length + (i + 1) = acc.length + (0 + 1) + i by omega]
    exact this
section
variable (ops : List Oper)
def Pre (i k : Nat) : Prop:=∃ x,(masks ops [])[i]? = some x∧x.testBit k = true
theorem pre_inv {i k : Nat} (h : Pre ops i k) : ∃ o e,ops[i]? = some o∧e ∈ o.after.toList∧Region.binds .any e = true∧(k = e.on ∨ Pre ops e.on k):=by
 obtain ⟨x,h1,h2⟩:=h
 obtain ⟨g1,_,g3⟩:=masks_get ops []
 have hi : i < ops.length:=by
  have:=(List.getElem?_eq_some_iff.1 h1).1
  simp at g1
  omega
 have ho : ops[i]? = some ops[i]:=by simp [hi]
 have:=g3 i _ ho
 simp only [List.length_nil,Nat.zero_add] at this
 rw [h1] at this
 simp only [Option.some.injEq] at this
 rw [this] at h2
 obtain ⟨e,he,hb,hk⟩:=maskE_bit h2
 refine ⟨_,e,ho,he,hb,?_⟩
 rcases hk with hk | ⟨y,hy,hyk⟩
 ·exact .inl hk
 ·refine .inr ⟨y,?_,hyk⟩
  rw [List.getElem?_take] at hy
  split at hy
  ·exact hy
  ·cases hy
theorem onLt_all {i : Nat} {es : List Edge} (h : onLt i es = true) : ∀ e ∈ es,Region.binds .any e = true→e.on < i:=by
 induction es with
 | nil=>simp
 | cons e es ih =>
  simp only [onLt] at h
  intro e' he' hb'
  cases hb : Region.binds .any e with
  | false =>
   simp only [hb,cond_false] at h
   rcases List.mem_cons.1 he' with rfl | he'
   ·rw [hb] at hb'; cases hb'
   ·exact ih h e' he' hb'
  | true =>
   simp only [hb,cond_true] at h
   obtain ⟨h1,h2⟩:=cond_split h
   rcases List.mem_cons.1 he' with rfl | he'
   ·exact blt_true h1
   ·exact ih h2 e' he' hb'
theorem rowOk_all {lk : List Tmp} {di : Option Tmp} {i mi : Nat} : ∀ (l : List Oper) (ms : List Nat) (b : Nat),rowOk lk di i mi l ms b = true→∀ j o,l[j]? = some o→∃ mk,ms[j]? = some mk∧pairOk lk di i mi (b + j) mk o.dst = true
 | [],_,_,_=>fun j o h=>by simp at h
 | o :: l,[],b,h=>by simp [rowOk] at h
 | o :: l,mk :: ms,b,h=>fun j q hq=>by
  simp only [rowOk] at h
  obtain ⟨h1,h2⟩:=cond_split h
  cases j with
  | zero=>simp at hq; subst hq; exact ⟨mk,rfl,h1⟩
  | succ j =>
   simp only [List.getElem?_cons_succ] at hq
   obtain ⟨mk',g1,g2⟩:=rowOk_all l ms (b + 1) h2 j q hq
   exact ⟨mk',by simpa using g1,by rw [show b + (j + 1) = b + 1 + j by omega]; exact g2⟩
theorem allOk_all {ms : List Nat} : ∀ (l : List Oper) (mr : List Nat) (b : Nat),allOk ops ms l mr b = true→∀ j o,l[j]? = some o→∃ mi,mr[j]? = some mi∧onLt (b + j) o.after.toList = true∧rowOk (looksX ops o) o.dst (b + j) mi ops ms 0 = true
 | [],_,_,_=>fun j o h=>by simp at h
 | o :: l,[],b,h=>by simp [allOk] at h
 | o :: l,mi :: mr,b,h=>fun j q hq=>by
  simp only [allOk] at h
  obtain ⟨h1,h2⟩:=cond_split h
  obtain ⟨h2,h3⟩:=cond_split h2
  cases j with
  | zero=>simp at hq; subst hq; exact ⟨mi,rfl,h1,h2⟩
  | succ j =>
   simp only [List.getElem?_cons_succ] at hq
   obtain ⟨mi',g1,g2,g3⟩:=allOk_all l mr (b + 1) h3 j q hq
   refine ⟨mi',by simpa using g1,?_,?_⟩
   ·rw [show b + (j + 1) = b + 1 + j by omega]; exact g2
   ·rw [show b + (j + 1) = b + 1 + j by omega]; exact g3
variable {ops} (hst : staticOk ops = true)
include hst
theorem st_lt {i : Nat} {o : Oper} (ho : ops[i]? = some o) : ∀ e ∈ o.after.toList,Region.binds .any e = true→e.on < i:=by
 obtain ⟨_,_,h2,_⟩:=allOk_all ops ops _ 0 hst i o ho
 rw [Nat.zero_add] at h2
 exact onLt_all h2
theorem st_pair {i k : Nat} {o q : Oper} (ho : ops[i]? = some o) (hq : ops[k]? = some q) (hik : i ≠ k) {d : Tmp} (hd : q.dst = some d) : o.dst ≠ some d∧(d ∈ looksX ops o→Pre ops i k ∨ Pre ops k i):=by
 obtain ⟨mi,h1,_,h3⟩:=allOk_all ops ops _ 0 hst i o ho
 obtain ⟨mk,h4,h5⟩:=rowOk_all ops _ 0 h3 k q hq
 simp only [Nat.zero_add,pairOk,hd,beq_eq,hik,decide_false,cond_false] at h5
 have tail : (cond ((looksX ops o).any (Nat.beq d)) (cond (mi.testBit k) true (mk.testBit i)) true = true)→d ∈ looksX ops o→Pre ops i k ∨ Pre ops k i:=fun h6 hl=>by
  have hany : (looksX ops o).any (Nat.beq d) = true:=List.any_eq_true.2 ⟨d,hl,by simp⟩
  rw [hany] at h6
  simp only [cond_true] at h6
  cases hb : mi.testBit k with
  | true=>exact .inl ⟨mi,h1,hb⟩
  | false=>simp only [hb,cond_false] at h6; exact .inr ⟨mk,h4,h6⟩
 cases hod : o.dst with
 | none =>
  simp only [hod,cond_false] at h5
  exact ⟨by simp,tail h5⟩
 | some d' =>
  simp only [hod] at h5
  by_cases e : d = d'
  ·simp [e] at h5
  ·simp only [e,decide_false,cond_false] at h5
   exact ⟨by simpa using fun x=>e x.symm,tail h5⟩
theorem pre_lt : ∀ (i k : Nat),Pre ops i k→k < i:=by
 intro i
 induction i using Nat.strongRecOn with
 | _ i ih =>
  intro k h
  obtain ⟨o,e,h1,h2,h3,h4⟩:=pre_inv ops h
  have hlt:=st_lt hst h1 e h2 h3
  rcases h4 with rfl | h4
  ·exact hlt
  ·exact Nat.lt_trans (ih e.on hlt k h4) hlt
def Closed (ops : List Oper) (L : Nat→Prop) : Prop:=∀ i o,L i→ops[i]? = some o→∀ e ∈ o.after.toList,Region.binds .any e = true→L e.on
theorem closed_pre {L : Nat→Prop} (hL : Closed ops L) : ∀ (i k : Nat),L i→Pre ops i k→L k:=by
 intro i
 induction i using Nat.strongRecOn with
 | _ i ih =>
  intro k hi h
  obtain ⟨o,e,h1,h2,h3,h4⟩:=pre_inv ops h
  have hlt:=st_lt hst h1 e h2 h3
  have he:=hL i o hi h1 e h2 h3
  rcases h4 with rfl | h4
  ·exact he
  ·exact ih e.on hlt k he h4
theorem ready_pre {L : Nat→Prop} (hL : Closed ops L) {i k : Nat} (hi : ∀ o,ops[i]? = some o→∀ e ∈ o.after.toList,Region.binds .any e = true→L e.on) (h : Pre ops i k) : L k:=by
 obtain ⟨o,e,h1,h2,h3,h4⟩:=pre_inv ops h
 have he:=hi o h1 e h2 h3
 rcases h4 with rfl | h4
 ·exact he
 ·exact closed_pre hst hL e.on k he h4
end
theorem seesOk_all {T : Tb} {tm : List Value} {op : Op} {v : Value} {i mi : Nat} : ∀ (rs : List Rec) (ms : List Nat) (b : Nat),seesOk T tm op v i mi rs ms b = true→∀ j r,rs[j]? = some r→r.2.2.2.1 = 2 →
  ∃ mk,ms[j]? = some mk∧(b + j < i→mi.testBit (b + j) = true ∨ readSame T tm op v r.2.2.2.2.1 = true)∧(¬ b + j < i→mk.testBit i = true ∨ readSame T tm op v r.2.2.2.2.2 = true)
 | [],_,_,_=>fun j r h=>by simp at h
 | x :: rs,[],b,h=>by obtain ⟨x1,x2,x3,x4,x5,x6⟩:=x; simp [seesOk] at h
 | x :: rs,mk :: ms,b,h=>fun j r hr hk=>by
  obtain ⟨x1,x2,x3,x4,x5,x6⟩:=x
  simp only [seesOk,Bool.and_eq_true] at h
  obtain ⟨h1,h2⟩:=h
  cases j with
  | zero =>
   simp at hr
   subst hr
   simp only at hk
   refine ⟨mk,rfl,?_⟩
   simp only [beq_eq,hk,decide_true,cond_true] at h1
   rw [Nat.add_zero]
   refine ⟨fun hlt=>?_,fun hge=>?_⟩
   ·have : Nat.blt b i = true:=Nat.ble_eq_true_of_le hlt
    simp only [this,cond_true] at h1
    cases hb : mi.testBit b with
    | true=>exact .inl rfl
    | false=>simp only [hb,cond_false] at h1; exact .inr h1
   ·have : Nat.blt b i = false:=by
     cases hb : Nat.blt b i with
     | false=>rfl
     | true=>exact absurd (blt_true hb) hge
    simp only [this,cond_false] at h1
    cases hb : mk.testBit i with
    | true=>exact .inl rfl
    | false=>simp only [hb,cond_false] at h1; exact .inr h1
  | succ j =>
   simp only [List.getElem?_cons_succ] at hr
   obtain ⟨mk',g1,g2⟩:=seesOk_all rs ms (b + 1) h2 j r hr hk
   refine ⟨mk',by simpa using g1,?_⟩
   rw [show b + (j + 1) = b + 1 + j by omega]; exact g2
theorem actsOk_all {i mi : Nat} : ∀ (rs : List Rec) (b : Nat),actsOk i mi rs b = true→∀ j r,rs[j]? = some r→r.2.2.2.1 = 2→b + j < i→mi.testBit (b + j) = true
 | [],_,_=>fun j r h=>by simp at h
 | x :: rs,b,h=>fun j r hr hk hlt=>by
  obtain ⟨x1,x2,x3,x4,x5,x6⟩:=x
  simp only [actsOk,Bool.and_eq_true] at h
  obtain ⟨h1,h2⟩:=h
  cases j with
  | zero =>
   simp at hr
   subst hr
   simp only at hk
   rw [Nat.add_zero] at hlt ⊢
   have : Nat.blt b i = true:=Nat.ble_eq_true_of_le hlt
   simpa only [this,cond_true,beq_eq,hk,decide_true] using h1
  | succ j =>
   simp only [List.getElem?_cons_succ] at hr
   have:=actsOk_all rs (b + 1) h2 j r hr hk (by omega)
   rw [show b + (j + 1) = b + 1 + j by omega]; exact this
theorem recsOk_all {T : Tb} {rs : List Rec} {ms : List Nat} : ∀ (l : List Rec) (mr : List Nat) (b : Nat),recsOk T rs ms l mr b = true→∀ j r,l[j]? = some r→∃ mi,mr[j]? = some mi ∧
  (r.2.2.2.1 = 1→seesOk T r.1 r.2.1.op r.2.2.1 (b + j) mi rs ms 0 = true)∧(r.2.2.2.1 = 2→actsOk (b + j) mi rs 0 = true)
 | [],_,_,_=>fun j r h=>by simp at h
 | x :: rs,[],b,h=>by obtain ⟨x1,x2,x3,x4,x5,x6⟩:=x; simp [recsOk] at h
 | x :: l,mi :: mr,b,h=>fun j r hr=>by
  obtain ⟨x1,x2,x3,x4,x5,x6⟩:=x
  simp only [recsOk,Bool.and_eq_true] at h
  obtain ⟨h1,h2⟩:=h
  cases j with
  | zero =>
   simp at hr
   subst hr
   refine ⟨mi,rfl,fun hk=>?_,fun hk=>?_⟩
   ·simp only at hk; rw [Nat.add_zero]; simpa [beq_eq,hk] using h1
   ·simp only at hk; rw [Nat.add_zero]; simpa [beq_eq,hk] using h1
  | succ j =>
   simp only [List.getElem?_cons_succ] at hr
   obtain ⟨mi',g1,g2⟩:=recsOk_all l mr (b + 1) h2 j r hr
   refine ⟨mi',by simpa using g1,?_⟩
   rw [show b + (j + 1) = b + 1 + j by omega]; exact g2
theorem readSame_eq {T : Tb} {tm : List Value} {op : Op} {v : Value} {s : S} (h : readSame T tm op v s = true) : readX T tm s op = some v:=by
 unfold readSame at h
 cases hr : readX T tm s op with
 | none=>simp [hr] at h
 | some u=>simp only [hr] at h; rw [vsame_eq u v h]
section
variable {P : Program} {T : Tb} (hT : TbOk P T) {call : CallX} (hC : CallOk P call) (ops : Array Oper) {tm₀ : List Value} {s₀ : S} {rs : List Rec} {tm' : List Value} {s' : S}
 (htr : traceX T call ops.toList ops.toList tm₀ s₀ = some (rs,tm',s')) (hst : staticOk ops.toList = true) (hrs : recsOk T rs (masks ops.toList []) rs (masks ops.toList []) 0 = true)
structure Sees (ops : List Oper) (tm₀ : List Value) (rs : List Rec) (L : Nat→Prop) (tm : List Value) : Prop where
 len : tm.length = tm₀.length
 yes : ∀ (k : Nat) (r : Rec) (d : Nat),rs[k]? = some r→r.2.1.dst = some d→d < tm₀.length→L k→tm[d]? = some r.2.2.1
 no : ∀ (k : Nat) (r : Rec) (d : Nat),rs[k]? = some r→r.2.1.dst = some d→¬ L k→tm[d]? = tm₀[d]?
 other : ∀ (t : Nat),(∀ (k : Nat) (r : Rec),rs[k]? = some r→r.2.1.dst ≠ some t)→tm[t]? = tm₀[t]?
include htr hst
omit hst in
theorem rs_at {i : Nat} {o : Oper} (ho : ops.toList[i]? = some o) : ∃ r,rs[i]? = some r∧r.2.1 = o:=by
 obtain ⟨h1,_,_,h4⟩:=trace_ok _ _ _ _ _ _ htr
 have hi : i < rs.length:=by rw [h1]; exact (List.getElem?_eq_some_iff.1 ho).1
 have hr : rs[i]? = some rs[i]:=by simp [hi]
 refine ⟨_,hr,?_⟩
 have:=(h4 i _ hr).1
 rw [ho] at this
 exact (Option.some.inj this).symm
theorem dst_one {i k : Nat} {r q : Rec} (hr : rs[i]? = some r) (hq : rs[k]? = some q) (hik : i ≠ k) {d : Tmp} (hd : q.2.1.dst = some d) : r.2.1.dst ≠ some d:=by
 obtain ⟨_,_,_,h4⟩:=trace_ok _ _ _ _ _ _ htr
 exact (st_pair hst (h4 i r hr).1 (h4 k q hq).1 hik hd).1
theorem sees_put {L : Nat→Prop} {tm : List Value} (h : Sees ops.toList tm₀ rs L tm) {i : Nat} {r : Rec} (hr : rs[i]? = some r) : Sees ops.toList tm₀ rs (fun k=>L k ∨ k = i) (putT tm r.2.1.dst r.2.2.1):=by
 cases hd : r.2.1.dst with
 | none =>
  simp only [putT]
  refine ⟨h.len,fun k q d hq hqd hlt hL=>?_,fun k q d hq hqd hL=>h.no k q d hq hqd fun x=>hL (.inl x),h.other⟩
  rcases hL with hL | rfl
  ·exact h.yes k q d hq hqd hlt hL
  ·rw [hr] at hq; cases hq; rw [hd] at hqd; cases hqd
 | some d₀ =>
  simp only [putT]
  refine ⟨by simp [h.len],fun k q d hq hqd hlt hL=>?_,fun k q d hq hqd hL=>?_,fun t ht=>?_⟩
  ·by_cases hki : k = i
   ·subst hki
    rw [hr] at hq; cases hq
    rw [hd] at hqd; cases hqd
    rw [List.getElem?_set_self (by rw [h.len]; exact hlt)]
   ·have hne : d₀ ≠ d:=fun e=>by
     have:=dst_one ops htr hst hr hq (fun x=>hki x.symm) hqd
     exact this (by rw [hd,e])
    rw [List.getElem?_set_ne hne]
    rcases hL with hL | hL
    ·exact h.yes k q d hq hqd hlt hL
    ·exact absurd hL hki
  ·have hki : k ≠ i:=fun e=>hL (.inr e)
   have hne : d₀ ≠ d:=fun e=>by
    have:=dst_one ops htr hst hr hq (fun x=>hki x.symm) hqd
    exact this (by rw [hd,e])
   rw [List.getElem?_set_ne hne]
   exact h.no k q d hq hqd fun x=>hL (.inl x)
  ·have hne : d₀ ≠ t:=fun e=>ht i r hr (by rw [hd,e])
   rw [List.getElem?_set_ne hne]
   exact h.other t ht
omit htr hst in
theorem sees_none : Sees ops.toList tm₀ rs (fun _=>False) tm₀:=⟨rfl,fun _ _ _ _ _ _ h=>h.elim,fun _ _ _ _ _ _=>rfl,fun _ _=>rfl⟩
theorem sees_at (p : Nat) (hp : p ≤ rs.length) : Sees ops.toList tm₀ rs (fun k=>k < p) (tAt rs tm' p):=by
 induction p with
 | zero =>
  obtain ⟨_,_,h3,_⟩:=trace_ok _ _ _ _ _ _ htr
  rw [h3]
  have:=sees_none ops (rs:=rs) (tm₀:=tm₀)
  refine ⟨this.len,fun k r d _ _ _ hL=>by omega,fun k r d h1 h2 _=>this.no k r d h1 h2 (fun x=>x),this.other⟩
 | succ p ih =>
  obtain ⟨_,_,_,h4⟩:=trace_ok _ _ _ _ _ _ htr
  have hr : rs[p]? = some rs[p]:=by simp [show p < rs.length by omega]
  have h5:=(h4 p _ hr).2.2.2
  have ih':=ih (by omega)
  have e1 : tAt rs tm' p = rs[p].1:=by simp [tAt,hr]
  rw [e1] at ih'
  have:=sees_put ops htr hst ih' hr
  rw [h5]
  refine ⟨this.len,fun k q d a b c hL=>this.yes k q d a b c (by omega),fun k q d a b hL=>this.no k q d a b (by omega),this.other⟩
omit htr hst in
theorem sees_same {L : Nat→Prop} {a b : List Value} (ha : Sees ops.toList tm₀ rs L a) (hb : Sees ops.toList tm₀ rs L b) : a = b:=by
 apply List.ext_getElem?
 intro t
 by_cases ht : ∀ (k : Nat) (r : Rec),rs[k]? = some r→r.2.1.dst ≠ some t
 ·rw [ha.other t ht,hb.other t ht]
 ·have : ∃ (k : Nat) (r : Rec),rs[k]? = some r∧r.2.1.dst = some t:=by
   apply Classical.byContradiction
   intro hn
   exact ht fun k r hr hd=>hn ⟨k,r,hr,hd⟩
  obtain ⟨k,r,hr,hd⟩:=this
  by_cases hL : L k
  ·by_cases hlt : t < tm₀.length
   ·rw [ha.yes k r t hr hd hlt hL,hb.yes k r t hr hd hlt hL]
   ·rw [List.getElem?_eq_none (by rw [ha.len]; omega),List.getElem?_eq_none (by rw [hb.len]; omega)]
  ·rw [ha.no k r t hr hd hL,hb.no k r t hr hd hL]
theorem sees_looks {L : Nat→Prop} (hL : Closed ops.toList L) {tm : List Value} (h : Sees ops.toList tm₀ rs L tm) {i : Nat} {r : Rec} (hr : rs[i]? = some r) (hi : ¬ L i)
  (hrd : ∀ o,ops.toList[i]? = some o→∀ e ∈ o.after.toList,Region.binds .any e = true→L e.on) : ∀ t ∈ looksX ops.toList r.2.1,tm[t]? = r.1[t]?:=by
 obtain ⟨hlen,_,_,h4⟩:=trace_ok _ _ _ _ _ _ htr
 have hil : i < rs.length:=(List.getElem?_eq_some_iff.1 hr).1
 have hat:=sees_at ops htr hst i (Nat.le_of_lt hil)
 have e1 : tAt rs tm' i = r.1:=by simp [tAt,hr]
 rw [e1] at hat
 intro (t : Nat) ht
 by_cases hno : ∀ (k : Nat) (q : Rec),rs[k]? = some q→q.2.1.dst ≠ some t
 ·rw [h.other t hno,hat.other t hno]
 ·have : ∃ (k : Nat) (q : Rec),rs[k]? = some q∧q.2.1.dst = some t:=by
   apply Classical.byContradiction
   intro hn
   exact hno fun k r hr hd=>hn ⟨k,r,hr,hd⟩
  obtain ⟨k,q,hq,hd⟩:=this
  have ho:=(h4 i r hr).1
  have hk:=(h4 k q hq).1
  by_cases hik : i = k
  ·subst hik
   rw [h.no i q t hq hd hi,hat.no i q t hq hd (by omega)]
  ·rcases (st_pair hst ho hk hik hd).2 ht with hp | hp
   ·have hLk:=ready_pre hst hL hrd hp
    have hlt:=pre_lt hst i k hp
    by_cases htl : t < tm₀.length
    ·rw [h.yes k q t hq hd htl hLk,hat.yes k q t hq hd htl hlt]
    ·rw [List.getElem?_eq_none (by rw [h.len]; omega),List.getElem?_eq_none (by rw [hat.len]; omega)]
   ·have hnk : ¬ L k:=fun x=>hi (closed_pre hst hL k i x hp)
    have hlt:=pre_lt hst k i hp
    rw [h.no k q t hq hd hnk,hat.no k q t hq hd (by omega)]
omit hst in
theorem sAt_same {p q : Nat} (hpq : p ≤ q) (hq : q ≤ rs.length) (hno : ∀ e r, p ≤ e → e < q → rs[e]? = some r → r.2.2.2.1 ≠ 2) : sAt rs s' p = sAt rs s' q := by
  obtain ⟨_, _, _, h4⟩ := trace_ok _ _ _ _ _ _ htr
  induction q with
  | zero => have : p = 0 := by omega
            rw [this]
  | succ q ih =>
    rcases Nat.lt_or_ge q p with h | h
    · have : p = q + 1 := by omega
      rw [this]
    · rw [ih h (by omega) fun e r h1 h2 h3 => hno e r h1 (by omega) h3]
      have hr : rs[q]? = some rs[q] := by simp [show q < rs.length by omega]
      obtain ⟨_, g2, g3, _⟩ := h4 q _ hr
      rw [g3, (rec_kind g2).2 (hno q _ h (Nat.lt_succ_self _) hr)]
      simp [sAt, hr]
include hT hC hrs
theorem any_ok {m₀ : Nm} {w₀ : World} {Q : Exit→Act→World→Prop} {df : List Deferred} (hQ : ∀ m w a,Adv m₀ s₀ w₀ m s' w→ActR m s'.nx tm' a→a.defers = df→Q .normal a w) :
  ∀ (fuel : Nat) (listed : Array Bool) (a : Act) (w : World) (m : Nm) (p : Nat) (tm : List Value),listed.size = ops.size→listed.toList.count false = fuel →
   Closed ops.toList (fun k=>listed.getD k false = true)→Sees ops.toList tm₀ rs (fun k=>listed.getD k false = true) tm→p ≤ rs.length →
   (∀ e r,rs[e]? = some r→r.2.2.2.1 = 2→(listed.getD e false = true↔e < p))→Adv m₀ s₀ w₀ m (sAt rs s' p) w→ActR m (sAt rs s' p).nx tm a→a.defers = df →
   wpAny P .any ops Q fuel listed a w:=by
 obtain ⟨hlen,_,_,h4⟩:=trace_ok _ _ _ _ _ _ htr
 have hn : rs.length = ops.size:=by simpa using hlen
 intro fuel
 induction fuel with
 | zero =>
  intro listed a w m p tm hsz hcnt hcl hsees hp hacts hadv hact hdf
  have hall : ∀ k,k < ops.size→listed.getD k false = true:=fun k hk=>by
   have hk' : k < listed.size:=by omega
   have : listed[k] ≠ false:=fun hf=>by
    have hm : false ∈ listed.toList:=by rw [← hf]; simp
    have:=List.count_pos_iff.2 hm
    omega
   have this' : listed[k] = true:=by simpa using this
   simp [Array.getD,hk',this']
  have hready : Region.ready .any ops listed = []:=by
   apply List.filter_eq_nil_iff.2
   intro k hk
   simp only [List.mem_range] at hk
   have hk' : k < listed.size:=by omega
   have:=hall k hk
   simp [Array.getD,hk'] at this
   simp [Array.getD,hk',this]
  refine ⟨hready,?_⟩
  have es : sAt rs s' p = s':=by
   rw [sAt_same ops htr hp (Nat.le_refl _) fun e r h1 h2 h3 h5=>by
    have:=(hacts e r h3 h5).1 (hall e (by omega))
    omega]
   simp [sAt]
  have et : tm = tm':=by
   have h1:=sees_at ops htr hst rs.length (Nat.le_refl _)
   have e1 : tAt rs tm' rs.length = tm':=by simp [tAt]
   rw [e1] at h1
   refine sees_same ops (L:=fun k=>k < rs.length) ⟨hsees.len,fun k r d g1 g2 g3 g4=>hsees.yes k r d g1 g2 g3 (hall k (by omega)),fun k r d g1 g2 g3=>?_,hsees.other⟩ h1
   have:=(List.getElem?_eq_some_iff.1 g1).1
   exact absurd this g3
  rw [es] at hadv hact
  rw [et] at hact
  exact hQ m w a hadv hact hdf
 | succ fuel ih =>
  intro listed a w m p tm hsz hcnt hcl hsees hp hacts hadv hact hdf
  have mem_ready : ∀ i,i ∈ Region.ready .any ops listed↔i < ops.size∧listed.getD i true = false∧∃ o,ops[i]? = some o∧∀ e ∈ o.after.toList,Region.binds .any e = true→listed.getD e.on false = true:=by
   intro i
   unfold Region.ready
   rw [List.mem_filter,List.mem_range]
   refine and_congr_right fun hi=>?_
   have ho : ops[i]? = some ops[i]:=by simp [hi]
   simp only [ho,Option.map_some,Option.getD_some,Bool.and_eq_true,Bool.not_eq_true',Array.all_eq_true_iff_forall_mem,Bool.or_eq_true]
   refine and_congr_right fun _=>?_
   constructor
   ·intro h
    refine ⟨_,rfl,fun e he hb=>?_⟩
    rcases h e (by simpa using he) with h1 | h1
    ·simp [hb] at h1
    ·exact h1
   ·rintro ⟨o,ho',h⟩ e he
    cases ho'
    cases hb : Region.binds .any e with
    | false=>exact .inl rfl
    | true=>exact .inr (h e (by simpa using he) hb)
  refine ⟨fun hnil=>?_,fun i hi=>?_⟩
  ·-- nothing is ready: so all is done
   exfalso
   have hex : ∃ i,i < ops.size∧listed.getD i true = false:=by
    have hpos : 0 < listed.toList.count false:=by omega
    obtain ⟨i,hi,e⟩:=List.mem_iff_getElem.1 (List.count_pos_iff.1 hpos)
    simp at hi
    refine ⟨i,by omega,?_⟩
    simp only [Array.getElem_toList] at e
    simp [Array.getD,hi,e]
   have hmin : ∀ n,n < ops.size→listed.getD n true = false→False:=by
    intro n
    induction n using Nat.strongRecOn with
    | _ n ihn =>
     intro hn1 hn2
     have : n ∈ Region.ready .any ops listed:=(mem_ready n).2 ⟨hn1,hn2,ops[n],by simp [hn1],fun e he hb=>by
      have hlt:=st_lt hst (i:=n) (o:=ops[n]) (by simp [hn1]) e he hb
      have hk' : e.on < listed.size:=by omega
      cases hv : listed[e.on] with
      | true=>simp [Array.getD,hk',hv]
      | false=>exact (ihn e.on hlt (by omega) (by simp [Array.getD,hk',hv])).elim⟩
     rw [hnil] at this
     cases this
   obtain ⟨i,h1,h2⟩:=hex
   exact hmin i h1 h2
  ·obtain ⟨hilt,hil,o,ho,hedges⟩:=(mem_ready i).1 hi
   have hisz : i < listed.size:=by omega
   have hLi : ¬ listed.getD i false = true:=by
    simp [Array.getD,hisz] at hil ⊢
    exact hil
   have hol : ops.toList[i]? = some o:=by simpa using ho
   obtain ⟨r,hr,hro⟩:=rs_at ops htr hol
   subst hro
   have hrd : ∀ q,ops.toList[i]? = some q→∀ e ∈ q.after.toList,Region.binds .any e = true→listed.getD e.on false = true:=fun q hq=>by
    rw [hol] at hq; cases hq; exact hedges
   have hlooks:=sees_looks ops htr hst hcl hsees hr hLi hrd
   obtain ⟨_,hrec,hs1,_⟩:=h4 i r hr
   have hsi : sAt rs s' i = r.2.2.2.2.1:=by simp [sAt,hr]
   have hget : ∀ k,((listed.setIfInBounds i true).getD k false = true)↔(listed.getD k false = true ∨ k = i):=fun k=>by
    by_cases hk : k = i
    ·subst hk; simp [Array.getD,hisz]
    ·by_cases hks : k < listed.size
     ·simp [Array.getD,hks,hk,Ne.symm hk]
     ·simp [Array.getD,hks,hk]
   have hcl' : Closed ops.toList (fun k=>(listed.setIfInBounds i true).getD k false = true):=fun k q hk hq e he hb=>by
    refine (hget e.on).2 (.inl ?_)
    rcases (hget k).1 hk with hk | rfl
    ·exact hcl k q hk hq e he hb
    ·exact hrd q hq e he hb
   have hsees' : Sees ops.toList tm₀ rs (fun k=>(listed.setIfInBounds i true).getD k false = true) (putT tm r.2.1.dst r.2.2.1):=by
    have:=sees_put ops htr hst hsees hr
    exact ⟨this.len,fun k q d a b c hL=>this.yes k q d a b c ((hget k).1 hL),fun k q d a b hL=>this.no k q d a b fun x=>hL ((hget k).2 x),this.other⟩
   have hcnt' : (listed.setIfInBounds i true).toList.count false = fuel:=by
    have hv : listed[i] = false:=by simpa [Array.getD,hisz] using hil
    rw [Array.toList_setIfInBounds,List.count_set (by simpa using hisz)]
    have hc2 : Array.count false listed = fuel + 1:=by simpa using hcnt
    simp [hv]
    omega
   have put_defers : ∀ (d : Option Tmp) (x : Value),(a.put d x).defers = a.defers:=fun d x=>by cases d <;> rfl
   have hkind:=rec_kind hrec
   obtain ⟨mi,hmi,hread,hact2⟩:=recsOk_all rs _ 0 hrs i r hr
   rw [Nat.zero_add] at hread hact2
   have stay : r.2.2.2.1 ≠ 2→∀ cv,RelS m (sAt rs s' p).nx r.2.2.1 cv→wpAny P .any ops Q fuel (listed.setIfInBounds i true) (a.put r.2.1.dst cv) w:=fun hk cv hcv=>by
    refine ih _ _ _ m p _ (by simpa using hsz) hcnt' hcl' hsees' hp (fun e q hq hqk=>?_) hadv (hact.put hcv _) ((put_defers _ _).trans hdf)
    rw [hget]
    by_cases hei : e = i
    ·subst hei; rw [hr] at hq; cases hq; exact absurd hqk hk
    ·simp only [hei,or_false]; exact hacts e q hq hqk
   have hfits:=hadv.fits
   unfold wpOp
   simp only [ho]
   rw [wanted_ok (hact m (Agree.refl _ _)) ops r.2.1]
   have hcong:=recX_congr (T:=T) (call:=call) (s:=sAt rs s' p) hlooks
   obtain ⟨hopc,hwc⟩:=looks_operands hlooks
   rw [hwc]
   unfold recX at hrec
   cases hw : wantedX ops.toList r.1 r.2.1 with
   | false =>
    simp only [hw,cond_false,Option.some.injEq,Prod.mk.injEq] at hrec
    simp only [Bool.false_eq_true,if_false]
    refine stay (by omega) undef ?_
    rw [← hrec.1]
    exact relS_refl fun _=>by simp [undef,ren,renL]
   | true =>
    simp only [hw,cond_true] at hrec
    simp only [if_true]
    left
    cases h1 : pureX T r.1 r.2.1.op with
    | some u =>
     simp only [h1,Option.some.injEq,Prod.mk.injEq] at hrec
     have hx : opX T call tm (sAt rs s' p) r.2.1.op = some (r.2.2.1,sAt rs s' p):=by
      unfold opX
      rw [pureX_congr hopc,h1]
      simp [hrec.1]
     refine op_ok hT hC hfits hact r.2.1 hx fun m₁ w₁ cv hadv1 hrel=>?_
     have hmm : ∀ m' ,Agree (sAt rs s' p).nx m₁ m'→ren m' r.2.2.1 = cv:=hrel
     have:=ih (listed.setIfInBounds i true) (a.put r.2.1.dst cv) w₁ m₁ p _ (by simpa using hsz) hcnt' hcl' hsees' hp (fun e q hq hqk=>by
      rw [hget]
      by_cases hei : e = i
      ·subst hei; rw [hr] at hq; cases hq; omega
      ·simp only [hei,or_false]; exact hacts e q hq hqk) (hadv.trans hadv1) ((hact.ext hadv1.agree hadv1.nx).put hrel _) ((put_defers _ _).trans hdf)
     exact this
    | none =>
     simp only [h1] at hrec
     cases h2 : readX T r.1 r.2.2.2.2.1 r.2.1.op with
     | some u =>
      simp only [h2,Option.some.injEq,Prod.mk.injEq] at hrec
      obtain ⟨e1,e2,_⟩:=hrec
      have hk1 : r.2.2.2.1 = 1:=e2.symm
      have hsee:=hread hk1
      have hval : readX T r.1 (sAt rs s' p) r.2.1.op = some r.2.2.1:=by
       rcases Nat.lt_or_ge i p with hip | hip
       ·-- p behind i: the last that acts ahead of p
        by_cases hex : ∃ (e : Nat) (q : Rec),i < e∧e < p∧rs[e]? = some q∧q.2.2.2.1 = 2
        ·-- the greatest such
         have hmax : ∃ (e : Nat) (q : Rec),i < e∧e < p∧rs[e]? = some q∧q.2.2.2.1 = 2∧∀ (e' : Nat) (q' : Rec),e < e'→e' < p→rs[e']? = some q'→q'.2.2.2.1 ≠ 2:=by
          obtain ⟨e,q,g1,g2,g3,g5⟩:=hex
          have : ∀ (n e : Nat) (q : Rec),p - e = n→i < e→e < p→rs[e]? = some q→q.2.2.2.1 = 2→∃ (e : Nat) (q : Rec),i < e∧e < p∧rs[e]? = some q∧q.2.2.2.1 = 2∧∀ (e' : Nat) (q' : Rec),e < e'→e' < p→rs[e']? = some q'→q'.2.2.2.1 ≠ 2:=by
           intro n
           induction n using Nat.strongRecOn with
           | _ n ihn =>
            intro e q hne g1 g2 g3 g5
            by_cases hmore : ∃ (e' : Nat) (q' : Rec),e < e'∧e' < p∧rs[e']? = some q'∧q'.2.2.2.1 = 2
            ·obtain ⟨e',q',k1,k2,k3,k4⟩:=hmore
             exact ihn (p - e') (by omega) e' q' rfl (by omega) k2 k3 k4
            ·exact ⟨e,q,g1,g2,g3,g5,fun e' q' k1 k2 k3 k4=>hmore ⟨e',q',k1,k2,k3,k4⟩⟩
          exact this _ e q rfl g1 g2 g3 g5
         obtain ⟨e,q,g1,g2,g3,g5,g6⟩:=hmax
         have es : sAt rs s' (e + 1) = sAt rs s' p:=sAt_same ops htr (by omega) hp fun e' q' k1 k2 k3=>g6 e' q' (by omega) k2 k3
         have eq' : sAt rs s' (e + 1) = q.2.2.2.2.2:=(h4 e q g3).2.2.1
         obtain ⟨mk,k1,_,k3⟩:=seesOk_all rs _ 0 hsee e q g3 g5
         rw [Nat.zero_add] at k3
         rw [← es,eq']
         rcases k3 (by omega) with k4 | k4
         ·have hLe : listed.getD e false = true:=(hacts e q g3 g5).2 g2
          exact absurd (closed_pre hst hcl e i hLe ⟨mk,k1,k4⟩) hLi
         ·exact readSame_eq k4
        ·have es : sAt rs s' i = sAt rs s' p:=sAt_same ops htr (by omega) hp fun e q k1 k2 k3 k4=>by
          rcases Nat.lt_or_ge i e with h | h
          ·exact hex ⟨e,q,h,k2,k3,k4⟩
          ·have : e = i:=by omega
           subst this; rw [hr] at k3; cases k3; omega
         rw [← es,hsi,h2,e1]
       ·by_cases hex : ∃ (e : Nat) (q : Rec),p ≤ e∧e < i∧rs[e]? = some q∧q.2.2.2.1 = 2
        ·have hmin : ∃ (e : Nat) (q : Rec),p ≤ e∧e < i∧rs[e]? = some q∧q.2.2.2.1 = 2∧∀ (e' : Nat) (q' : Rec),p ≤ e'→e' < e→rs[e']? = some q'→q'.2.2.2.1 ≠ 2:=by
          obtain ⟨e,q,g1,g2,g3,g5⟩:=hex
          have : ∀ (e : Nat) (q : Rec),p ≤ e→e < i→rs[e]? = some q→q.2.2.2.1 = 2→∃ (e : Nat) (q : Rec),p ≤ e∧e < i∧rs[e]? = some q∧q.2.2.2.1 = 2∧∀ (e' : Nat) (q' : Rec),p ≤ e'→e' < e→rs[e']? = some q'→q'.2.2.2.1 ≠ 2:=by
           intro e
           induction e using Nat.strongRecOn with
           | _ e ihn =>
            intro q g1 g2 g3 g5
            by_cases hmore : ∃ (e' : Nat) (q' : Rec),p ≤ e'∧e' < e∧rs[e']? = some q'∧q'.2.2.2.1 = 2
            ·obtain ⟨e',q',k1,k2,k3,k4⟩:=hmore
             exact ihn e' k2 q' k1 (by omega) k3 k4
            ·exact ⟨e,q,g1,g2,g3,g5,fun e' q' k1 k2 k3 k4=>hmore ⟨e',q',k1,k2,k3,k4⟩⟩
          exact this e q g1 g2 g3 g5
         obtain ⟨e,q,g1,g2,g3,g5,g6⟩:=hmin
         have es : sAt rs s' p = sAt rs s' e:=sAt_same ops htr g1 (by omega) fun e' q' k1 k2 k3=>g6 e' q' k1 k2 k3
         have eq' : sAt rs s' e = q.2.2.2.2.1:=by simp [sAt,g3]
         obtain ⟨mk,k1,k2,_⟩:=seesOk_all rs _ 0 hsee e q g3 g5
         rw [Nat.zero_add] at k2
         rw [es,eq']
         rcases k2 g2 with k4 | k4
         ·have hLe:=ready_pre hst hcl hrd ⟨mi,hmi,k4⟩
          have:=(hacts e q g3 g5).1 hLe
          omega
         ·exact readSame_eq k4
        ·have es : sAt rs s' p = sAt rs s' i:=sAt_same ops htr hip (by omega) fun e q k1 k2 k3 k4=>hex ⟨e,q,k1,k2,k3,k4⟩
         rw [es,hsi,h2,e1]
      have hx : opX T call tm (sAt rs s' p) r.2.1.op = some (r.2.2.1,sAt rs s' p):=by
       unfold opX
       rw [pureX_congr hopc,h1,readX_congr hopc,hval]
      refine op_ok hT hC hfits hact r.2.1 hx fun m₁ w₁ cv hadv1 hrel=>?_
      exact ih (listed.setIfInBounds i true) (a.put r.2.1.dst cv) w₁ m₁ p _ (by simpa using hsz) hcnt' hcl' hsees' hp (fun e q hq hqk=>by
       rw [hget]
       by_cases hei : e = i
       ·subst hei; rw [hr] at hq; cases hq; omega
       ·simp only [hei,or_false]; exact hacts e q hq hqk) (hadv.trans hadv1) ((hact.ext hadv1.agree hadv1.nx).put hrel _) ((put_defers _ _).trans hdf)
     | none =>
      simp only [h2] at hrec
      cases h3 : opX T call r.1 r.2.2.2.2.1 r.2.1.op with
      | none=>simp [h3] at hrec
      | some qq =>
       obtain ⟨v3,s3⟩:=qq
       simp only [h3,Option.some.injEq,Prod.mk.injEq] at hrec
       obtain ⟨e1,e2,e3⟩:=hrec
       have hk2 : r.2.2.2.1 = 2:=e2.symm
       have hord:=hact2 hk2
       have hpre : ∀ e q,rs[e]? = some q→q.2.2.2.1 = 2→e < i→Pre ops.toList i e:=fun e q hq hqk hlt=>by
        have:=actsOk_all rs 0 hord e q hq hqk (by omega)
        rw [Nat.zero_add] at this
        exact ⟨mi,hmi,this⟩
       have hpi : p ≤ i:=by
        rcases Nat.lt_or_ge i p with h | h
        ·exact absurd ((hacts i r hr hk2).2 h) hLi
        ·exact h
       have es : sAt rs s' p = sAt rs s' i:=sAt_same ops htr hpi (by omega) fun e q k1 k2 k3 k4=>by
        have:=(hacts e q k3 k4).1 (ready_pre hst hcl hrd (hpre e q k3 k4 k2))
        omega
       have hx : opX T call tm (sAt rs s' p) r.2.1.op = some (r.2.2.1,sAt rs s' (i + 1)):=by
        rw [opX_congr hopc,es,hsi,h3,hs1,← e1,← e3]
       refine op_ok hT hC hfits hact r.2.1 hx fun m₁ w₁ cv hadv1 hrel=>?_
       refine ih (listed.setIfInBounds i true) (a.put r.2.1.dst cv) w₁ m₁ (i + 1) _ (by simpa using hsz) hcnt' hcl' hsees' (by omega) (fun e q hq hqk=>?_) (hadv.trans hadv1) ((hact.ext hadv1.agree hadv1.nx).put hrel _) ((put_defers _ _).trans hdf)
       rw [hget]
       rcases Nat.lt_trichotomy e i with h | h | h
       ·have:=ready_pre hst hcl hrd (hpre e q hq hqk h)
        constructor
        ·intro _; omega
        ·intro _; exact .inl this
       ·subst h; simp
       ·constructor
        ·rintro (hL | hL)
         ·obtain ⟨mi2,hmi2,_,hact3⟩:=recsOk_all rs _ 0 hrs e q hq
          rw [Nat.zero_add] at hact3
          have:=actsOk_all rs 0 (hact3 hqk) i r hr hk2 (by omega)
          rw [Nat.zero_add] at this
          exact absurd (closed_pre hst hcl e i hL ⟨mi2,hmi2,this⟩) hLi
         ·omega
        ·intro hh; omega
end
theorem draw_ok {P : Program} {T : Tb} (hT : TbOk P T) {call : CallX} (hC : CallOk P call) (ops : Array Oper) {m : Nm} {s : S} {w : World} (hf : FitsS m s w) {tm : List Value} {a : Act} (ha : ActR m s.nx tm a) {tm' : List Value} {s' : S}
  (h : drawX T call ops.toList tm s = some (tm',s')) (id : Nat) {Q : Exit→Act→World→Prop} (hQ : ∀ m' w' a',Adv m s w m' s' w'→ActR m' s'.nx tm' a'→a'.defers = a.defers→Q .normal a' w') : (Code.region id ops true).wp P Q a w:=by
 unfold drawX at h
 cases htr : traceX T call ops.toList ops.toList tm s with
 | none=>simp [htr] at h
 | some q =>
  obtain ⟨rs,tm1,s1⟩:=q
  simp only [htr] at h
  cases hst : staticOk ops.toList with
  | false=>simp [hst] at h
  | true =>
   cases hrs : recsOk T rs (masks ops.toList []) rs (masks ops.toList []) 0 with
   | false=>simp [hst,hrs] at h
   | true =>
    simp only [hst,hrs,cond_true,Option.some.injEq,Prod.mk.injEq] at h
    obtain ⟨rfl,rfl⟩:=h
    refine wp_region_any hT.mixed ?_
    obtain ⟨_,hs0,_,_⟩:=trace_ok _ _ _ _ _ _ htr
    have hno : ∀ k,(Array.replicate ops.size false).getD k false = false:=fun k=>by
     by_cases hk : k < ops.size <;> simp [Array.getD,hk]
    refine any_ok hT hC ops htr hst hrs (m₀:=m) (w₀:=w) hQ ops.size (Array.replicate ops.size false) a _ m 0 tm (by simp) (by simp) ?_ ?_ (Nat.zero_le _) ?_ ?_ ?_ rfl
    ·intro k q hk; rw [hno] at hk; cases hk
    ·have:=sees_none ops (rs:=rs) (tm₀:=tm)
     exact ⟨this.len,fun k r d _ _ _ hL=>(by rw [hno] at hL; cases hL),fun k r d g1 g2 _=>this.no k r d g1 g2 (fun x=>x),this.other⟩
    ·intro e r _ _; rw [hno]; simp
    ·rw [hs0]; exact Adv.draw _ hf
    ·rw [hs0]; exact ha
end Go.Rx
end
section
namespace Go.Rx
open Go
section
variable {P : Program} {T : Tb} (hT : TbOk P T) {call : CallX} (hC : CallOk P call)
include hT hC
theorem step_ok {tm tm₁ : List Value} {todo todo₁ : List Item} {s s₁ : S} (h : stepX T call tm todo s = some (tm₁,todo₁,s₁)) {m : Nm} {w : World} {a : Act} (b : Frame) (cs : List Frame) (hf : FitsS m s w) (ha : ActR m s.nx tm a) :
  ∃ m₁ w₁ a₁,Adv m s w m₁ s₁ w₁∧ActR m₁ s₁.nx tm₁ a₁∧a₁.defers = a.defers∧Steps P (lone (b.at a todo) cs w) (lone (b.at a₁ todo₁) cs w₁):=by
 have same : ∀ {todo₂ : List Item},(tm,todo₂,s) = (tm₁,todo₁,s₁)→step P (lone (b.at a todo) cs w) = .next (lone (b.at a todo₂) cs w) →
   ∃ m₁ w₁ a₁,Adv m s w m₁ s₁ w₁∧ActR m₁ s₁.nx tm₁ a₁∧a₁.defers = a.defers∧Steps P (lone (b.at a todo) cs w) (lone (b.at a₁ todo₁) cs w₁):=by
  rintro todo₂ he hs
  simp only [Prod.mk.injEq] at he
  obtain ⟨rfl,rfl,rfl⟩:=he
  exact ⟨m,w,a,Adv.refl hf,ha,rfl,.one hs⟩
 unfold stepX at h
 cases todo with
 | nil=>simp at h
 | cons it k =>
  cases it with
  | code c =>
   cases c with
   | skip=>simp only [Option.some.injEq] at h; exact same h step_skip
   | label l=>simp only [Option.some.injEq] at h; exact same h step_label
   | seq x y=>simp only [Option.some.injEq] at h; exact same h step_seq
   | cond c x y =>
    simp only at h
    cases hc : evalO tm c with
    | none=>simp [hc] at h
    | some u =>
     have he:=(ha.evalO hc).at
     cases u with
     | bool t =>
      simp only [ren] at he
      cases t with
      | true=>simp only [hc,Option.some.injEq] at h; exact same h (by have:=step_cond (P:=P) (b:=b) (k:=k) (cs:=cs) (w:=w) (x:=x) (y:=y) he.symm; simpa using this)
      | false=>simp only [hc,Option.some.injEq] at h; exact same h (by have:=step_cond (P:=P) (b:=b) (k:=k) (cs:=cs) (w:=w) (x:=x) (y:=y) he.symm; simpa using this)
     | _=>simp [hc] at h
   | block id x=>simp only [Option.some.injEq] at h; exact same h step_block
   | loop x=>simp only [Option.some.injEq] at h; exact same h step_loop
   | exit id =>
    simp only at h
    cases he : exitTo id k with
    | none=>simp [he] at h
    | some k'=>simp only [he,Option.some.injEq] at h; exact same h (step_exit he)
   | region id ops draw =>
    have fin : ∀ {tm' : List Value} {s' : S},(∀ Q : Exit→Act→World→Prop,(∀ m' w' a',Adv m s w m' s' w'→ActR m' s'.nx tm' a'→a'.defers = a.defers→Q .normal a' w')→(Code.region id ops draw).wp P Q a w)→(tm',k,s') = (tm₁,todo₁,s₁) →
      ∃ m₁ w₁ a₁,Adv m s w m₁ s₁ w₁∧ActR m₁ s₁.nx tm₁ a₁∧a₁.defers = a.defers∧Steps P (lone (b.at a (.code (.region id ops draw) :: k)) cs w) (lone (b.at a₁ todo₁) cs w₁):=by
     intro tm' s' hwp he
     simp only [Prod.mk.injEq] at he
     obtain ⟨rfl,rfl,rfl⟩:=he
     obtain ⟨e,a',w',hq,harr⟩:=hwp (fun e a' w'=>e = .normal∧∃ m',Adv m s w m' s' w'∧ActR m' s'.nx tm' a'∧a'.defers = a.defers) (fun m' w' a' h1 h2 h3=>⟨rfl,m',h1,h2,h3⟩) b k cs
     obtain ⟨rfl,m',h1,h2,h3⟩:=hq
     exact ⟨m',w',a',h1,h2,h3,harr⟩
    cases draw with
    | false =>
     simp only at h
     cases ho : opsX T call ops.toList ops.toList tm s with
     | none=>simp [ho] at h
     | some q =>
      obtain ⟨tm',s'⟩:=q
      simp only [ho,Option.some.injEq] at h
      refine fin (fun Q hQ=>wp_region ?_) h
      have:=ops_ok hT hC ops Q ops.toList 0 (by simp) m s w tm a tm' s' hf ha ho hQ
      rw [List.range_eq_range']
      simpa using this
    | true =>
     simp only at h
     cases ho : drawX T call ops.toList tm s with
     | none=>simp [ho] at h
     | some q =>
      obtain ⟨tm',s'⟩:=q
      simp only [ho,Option.some.injEq] at h
      exact fin (fun Q hQ=>draw_ok hT hC ops hf ha ho id hQ) h
   | _=>simp at h
  | inBlock id=>simp only [Option.some.injEq] at h; exact same h step_inBlock
  | inLoop x=>simp only [Option.some.injEq] at h; exact same h step_inLoop
  | _=>simp at h
theorem run_ok : ∀ (n : Nat) (tm : List Value) (todo : List Item) (s : S) (tm' : List Value) (s' : S),runX T call n tm todo s = some (tm',s')→∀ (m : Nm) (w : World) (a : Act) (b : Frame) (cs : List Frame),FitsS m s w→ActR m s.nx tm a→a.defers = [] →
  ∃ m' w' a' todo',Adv m s w m' s' w'∧ActR m' s'.nx tm' a'∧a'.defers = []∧Steps P (lone (b.at a todo) cs w) (lone { b.at a' todo' with mode:=.returning } cs w')
 | 0,_,_,_,_,_,h=>by simp [runX] at h
 | n + 1,tm,todo,s,tm',s',h=>fun m w a b cs hf ha hd=>by
  have more : ∀ it k,todo = it :: k→(match stepX T call tm (it :: k) s with
    | some (tm',todo',s')=>runX T call n tm' todo' s'
    | none=>none) = some (tm',s')→∃ m' w' a' todo',Adv m s w m' s' w'∧ActR m' s'.nx tm' a'∧a'.defers = []∧Steps P (lone (b.at a todo) cs w) (lone { b.at a' todo' with mode:=.returning } cs w'):=by
   rintro it k rfl h
   cases hs : stepX T call tm (it :: k) s with
   | none=>simp [hs] at h
   | some q =>
    obtain ⟨tm₁,todo₁,s₁⟩:=q
    simp only [hs] at h
    obtain ⟨m₁,w₁,a₁,h1,h2,h3,h4⟩:=step_ok hT hC hs b cs hf ha
    obtain ⟨m',w',a',todo',g1,g2,g3,g4⟩:=run_ok n tm₁ todo₁ s₁ tm' s' h m₁ w₁ a₁ b cs h1.fits h2 (h3.trans hd)
    exact ⟨m',w',a',todo',h1.trans g1,g2,g3,h4.trans g4⟩
  simp only [runX] at h
  cases todo with
  | nil =>
   simp only [Option.some.injEq,Prod.mk.injEq] at h
   obtain ⟨rfl,rfl⟩:=h
   exact ⟨m,w,a,[],Adv.refl hf,ha,hd,.one step_end⟩
  | cons it k =>
   cases it with
   | code c =>
    cases c with
    | ret =>
     simp only [Option.some.injEq,Prod.mk.injEq] at h
     obtain ⟨rfl,rfl⟩:=h
     exact ⟨m,w,a,.code .ret :: k,Adv.refl hf,ha,hd,.one step_ret⟩
    | _=>exact more _ _ rfl h
   | _=>exact more _ _ rfl h
end
theorem pad_eq (n : Nat) (l : List Value) : pad n l = l ++ List.replicate (n - l.length) undef:=by
 induction n generalizing l with
 | zero=>simp [pad]
 | succ n ih =>
  cases l with
  | nil=>simp [pad,ih,List.replicate_succ]
  | cons v l=>simp [pad,ih]
section
variable {P : Program} {T : Tb} (hT : TbOk P T)
include hT
theorem res_ok {m : Nm} {s : S} {w : World} (hf : Fits m s w) {tm : List Value} (F : ResultVar→Sem Value) (hF1 : ∀ t,F (.tmp t) = pure ((⟨renL m tm⟩ : Array Value).getD t undef))
  (hF2 : ∀ a t,F (.cell a t) = (do loadVar t (← asAddr ((⟨renL m tm⟩ : Array Value).getD a undef)))) : ∀ (rs : List ResultVar) (vs : List Value),resX T tm s rs = some vs→(rs.mapM F).run P w = .ok (renL m vs) w
 | [],vs,h=>by simp [resX] at h; subst h; simp [renL]
 | .tmp t :: rs,vs,h=>by
  simp only [resX,nth_eq] at h
  cases ht : tm[t]? with
  | none=>simp [ht] at h
  | some v =>
   simp only [ht] at h
   cases hr : resX T tm s rs with
   | none=>simp [hr] at h
   | some l =>
    simp only [hr,Option.some.injEq] at h
    subst h
    have ih:=res_ok hf F hF1 hF2 rs l hr
    have e1 : (⟨renL m tm⟩ : Array Value).getD t undef = ren m v:=by simp [renL_eq,ht]
    simp only [List.mapM_cons,Sem.run_bind,hF1,Sem.run_pure,Result.andThen_ok,ih,e1,renL]
 | .cell a t :: rs,vs,h=>by
  simp only [resX] at h
  cases ht : readX T tm s (.load t (.tmp a)) with
  | none=>simp [ht] at h
  | some v =>
   simp only [ht] at h
   cases hr : resX T tm s rs with
   | none=>simp [hr] at h
   | some l =>
    simp only [hr,Option.some.injEq] at h
    subst h
    have ih:=res_ok hf F hF1 hF2 rs l hr
    simp only [readX,evalO] at ht
    cases hta : nth tm a with
    | none=>simp [hta] at ht
    | some u =>
     cases u with
     | pointer p =>
      cases p with
      | none=>simp [hta] at ht
      | some q =>
       simp only [hta] at ht
       cases hl : lk s.h q.block with
       | none=>simp [hl] at ht
       | some blk =>
        rcases blk with ⟨l',e,md⟩ | x
        ·simp only [hl] at ht
         have hload:=load_ok hT m w hf hl ht
         rw [nth_eq] at hta
         have e1 : (⟨renL m tm⟩ : Array Value).getD a undef = .pointer (some ⟨m.blk q.block,m.sh q.block + q.off,none⟩):=by simp [renL_eq,hta,ren]
         simp only [List.mapM_cons,Sem.run_bind,hF2,e1,asAddr,Sem.run_pure,Result.andThen_ok,hload,ih,renL]
        ·simp [hl] at ht
     | _=>simp [hta] at ht
theorem results_ok {m : Nm} {s : S} {w : World} (hf : Fits m s w) {tm : List Value} {fn : Func} {vs : List Value} (h : resX T tm s fn.results.toList = some vs) :
  (results fn ⟨renL m tm⟩).run P w = .ok (ren m (oneX vs)) w:=by
 unfold results
 rw [Sem.run_bind,Array.mapM_eq_mapM_toList,Sem.run_map,res_ok hT hf _ (fun t=>rfl) (fun a t=>rfl) fn.results.toList vs h]
 simp only [Result.andThen_ok,Sem.run_pure]
 congr 1
 rcases vs with _ | ⟨v,_ | ⟨u,l⟩⟩
 ·simp [renL,oneX,ren]
 ·simp [renL,oneX]
 ·simp [renL,oneX,ren]
end
theorem info_or (P : Program) (t : TypeId) : P.info? t = P.types[t]? ∨ P.types[t]? = none:=by
 by_cases h : t < P.types.size
 ·exact .inl (by unfold Tables.info?; rw [if_pos h])
 ·exact .inr (Array.getElem?_eq_none (Nat.le_of_not_lt h))
theorem tbOf_ok (P : Program) (eqs : List TypeId) (hm : P.follows .mixedOrders = true) (hn : ∀ f ∈ P.funcs.toList, f.body.isSome = true → (f.name == "runtime.NumGoroutine") = false)
  (he : ∀ t ∈ eqs,P.stoodInHeld t = false∧P.eqGuardType P.depth t = false) : TbOk P (tbOf P eqs) where
 und t d h:=by
  simp only [tbOf,nth_eq] at h
  cases ht : P.types.toList[t]? with
  | none=>simp [ht] at h
  | some i =>
   have hi : P.info? t = some i:=by
    have ht' : P.types[t]? = some i:=by simpa using ht
    rcases info_or P t with h1 | h1
    ·rw [h1,ht']
    ·rw [h1] at ht'; cases ht'
   simp only [ht] at h
   unfold Program.underlying
   rw [hi]
   obtain ⟨desc,s1,s2,s3,s4,s5,s6,s7,s8,s9⟩:=i
   cases desc with
   | named nm u =>
    simp only at h ⊢
    cases hu : P.types.toList[u]? with
    | none=>simp [hu] at h
    | some j =>
     have hj : P.info? u = some j:=by
      have hu' : P.types[u]? = some j:=by simpa using hu
      rcases info_or P u with h1 | h1
      ·rw [h1,hu']
      ·rw [h1] at hu'; cases hu'
     simp only [hu,Option.some.injEq] at h
     rw [hj]
     simp [h]
   | _=>simpa using h
 inf t a b z h:=by
  simp only [tbOf,nth_eq] at h
  cases ht : P.types.toList[t]? with
  | none=>simp [ht] at h
  | some i =>
   have hi : P.info? t = some i:=by
    have ht' : P.types[t]? = some i:=by simpa using ht
    rcases info_or P t with h1 | h1
    ·rw [h1,ht']
    ·rw [h1] at ht'; cases ht'
   simp only [ht] at h
   cases hz : i.zero with
   | none=>simp [hz] at h
   | some z' =>
    simp only [hz] at h
    cases hp : plain z' with
    | false=>simp [hp] at h
    | true =>
     simp only [hp,cond_true,Option.some.injEq,Prod.mk.injEq] at h
     obtain ⟨rfl,rfl,rfl⟩:=h
     exact ⟨hp,i,hi,rfl,rfl,hz⟩
 fn f g h:=by
  simp only [tbOf,nth_eq] at h
  have h' : P.funcs[f]? = some g:=by simpa using h
  exact ⟨h',hn g (List.mem_of_getElem? h)⟩
 eqs t h:=by
  simp only [tbOf] at h
  obtain ⟨u,hu,e⟩:=List.any_eq_true.1 h
  have : t = u:=by simpa [beq_eq] using e
  subst this
  exact he t hu
 mixed:=hm
end Go.Rx
end
