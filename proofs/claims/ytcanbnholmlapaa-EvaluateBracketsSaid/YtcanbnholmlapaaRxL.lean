/-
  RxL: a region that draws its order: whatever order its edges allow comes to what the order of the text comes to, if the checks of drawX stand.
-/
import Derived.Test.YtcanbnholmlapaaRxK
namespace Go.Rx
open Go

theorem cond_split {b c : Bool} (h : cond b c false = true) : b = true ∧ c = true := by cases b <;> simp_all
theorem asame_eq {a b : Addr} (h : asame a b = true) : a = b := by
  obtain ⟨a1, a2, a3⟩ := a
  obtain ⟨b1, b2, b3⟩ := b
  unfold asame at h
  cases a3 <;> cases b3 <;> simp only [beq_eq] at h
  · obtain ⟨h1, h2⟩ := cond_split h
    simp at h1 h2
    rw [h1, h2]
  all_goals cases h
theorem osame_eq {a b : Option Addr} (h : osame a b = true) : a = b := by
  cases a <;> cases b <;> simp [osame] at h
  · rfl
  · rw [asame_eq h]
theorem rsame_eq {a b : Option Nat} (h : rsame a b = true) : a = b := by
  cases a <;> cases b <;> simp [rsame] at h
  · rfl
  · rw [h]
theorem fsame_eq {a b : Fn} (h : fsame a b = true) : a = b := by
  cases a <;> cases b <;> simp [fsame] at h
  rw [h]
mutual
theorem vsame_eq : (a b : Value) → vsame a b = true → a = b
  | .bool a, y, h => by cases y <;> simp [vsame] at h; rw [h]
  | .int k a, y, h => by
    cases y <;> simp only [vsame] at h <;> first | (cases h; done) | skip
    obtain ⟨h1, h2⟩ := cond_split h
    simp at h1 h2
    rw [h1, h2]
  | .string a, y, h => by
    cases y <;> simp only [vsame] at h <;> first | (cases h; done) | skip
    rw [bytes_ext h]
  | .pointer p, y, h => by
    cases y <;> simp only [vsame] at h <;> first | (cases h; done) | skip
    rw [osame_eq h]
  | .slice p n c, y, h => by
    cases y <;> simp only [vsame, beq_eq] at h <;> first | (cases h; done) | skip
    obtain ⟨h1, h2⟩ := cond_split h
    obtain ⟨h2, h3⟩ := cond_split h2
    simp at h2 h3
    rw [osame_eq h1, h2, h3]
  | .map p, y, h => by
    cases y <;> simp only [vsame] at h <;> first | (cases h; done) | skip
    rw [rsame_eq h]
  | .nilFunc, y, h => by cases y <;> simp [vsame] at h; rfl
  | .nilIface, y, h => by cases y <;> simp [vsame] at h; rfl
  | .func f ⟨a⟩ ⟨b⟩, y, h => by
    cases y <;> simp only [vsame] at h <;> first | (cases h; done) | skip
    rename_i g c d
    obtain ⟨c⟩ := c
    obtain ⟨d⟩ := d
    simp only at h
    obtain ⟨h1, h2⟩ := cond_split h
    obtain ⟨h2, h3⟩ := cond_split h2
    rw [fsame_eq h1, vsameL_eq a c h2, vsameL_eq b d h3]
  | .agg ⟨a⟩, y, h => by
    cases y <;> simp only [vsame] at h <;> first | (cases h; done) | skip
    rename_i c
    obtain ⟨c⟩ := c
    simp only at h
    rw [vsameL_eq a c h]
  | .tuple ⟨a⟩, y, h => by
    cases y <;> simp only [vsame] at h <;> first | (cases h; done) | skip
    rename_i c
    obtain ⟨c⟩ := c
    simp only at h
    rw [vsameL_eq a c h]
  | .float _ _, y, h => by simp [vsame] at h
  | .complex _ _ _, y, h => by simp [vsame] at h
  | .chan _, y, h => by simp [vsame] at h
  | .iface _ _, y, h => by simp [vsame] at h
theorem vsameL_eq : (a b : List Value) → vsameL a b = true → a = b
  | [], y, h => by cases y <;> simp [vsameL] at h; rfl
  | a :: x, y, h => by
    cases y with
    | nil => simp [vsameL] at h
    | cons b y =>
      simp only [vsameL] at h
      obtain ⟨h1, h2⟩ := cond_split h
      rw [vsame_eq a b h1, vsameL_eq x y h2]
end

/- WHAT AN OPERATION LOOKS AT -/
theorem mem_tmpsOf {l : List Operand} {t : Tmp} (h : .tmp t ∈ l) : t ∈ tmpsOf l := by
  induction l with
  | nil => simp at h
  | cons x l ih =>
    rcases List.mem_cons.1 h with rfl | h2
    · simp [tmpsOf]
    · cases x <;> simp [tmpsOf, ih h2]
theorem evalO_congr {tm tm' : List Value} {l : List Operand} (h : ∀ t ∈ tmpsOf l, tm[t]? = tm'[t]?) {x : Operand} (hx : x ∈ l) : evalO tm x = evalO tm' x := by
  cases x with
  | tmp t => simp only [evalO, nth_eq]; exact h t (mem_tmpsOf hx)
  | _ => rfl
theorem evalL_congr {tm tm' : List Value} {l : List Operand} (h : ∀ x ∈ l, evalO tm x = evalO tm' x) : evalL tm l = evalL tm' l := by
  induction l with
  | nil => rfl
  | cons x l ih => simp only [evalL]; rw [h x (by simp), ih fun y hy => h y (by simp [hy])]
theorem evalP_congr {tm tm' : List Value} {l : List (Nat × Operand)} (h : ∀ x ∈ l.map (·.2), evalO tm x = evalO tm' x) : evalP tm l = evalP tm' l := by
  induction l with
  | nil => rfl
  | cons x l ih =>
    obtain ⟨i, x⟩ := x
    simp only [evalP]
    rw [h x (by simp), ih fun y hy => h y (by simp only [List.map_cons, List.mem_cons]; exact .inr hy)]
theorem evalM_congr {tm tm' : List Value} {x : Option Operand} (h : ∀ y, x = some y → evalO tm y = evalO tm' y) : evalM tm x = evalM tm' x := by
  cases x with
  | none => rfl
  | some y => simp only [evalM]; rw [h y rfl]

section
variable {T : Tb} {tm tm' : List Value} {op : Op}
theorem pureX_congr (h : ∀ x ∈ op.operands.toList, evalO tm x = evalO tm' x) : pureX T tm op = pureX T tm' op := by
  cases op <;> simp only [Op.operands] at h <;> try rfl
  case move x => simp only [pureX]; exact h x (by simp)
  case assign x => simp only [pureX]; exact h x (by simp)
  case pick c a b => simp only [pureX]; rw [h c (by simp), h a (by simp), h b (by simp)]
  case build t ps => simp only [pureX]; rw [evalP_congr (by simpa using h)]
  case nilCheck x => simp only [pureX]; rw [h x (by simp)]
  case binOp o t x y ty => simp only [pureX]; rw [h x (by simp), h y (by simp)]
  case unOp o t x => simp only [pureX]; rw [h x (by simp)]
  case convert a b x => simp only [pureX]; rw [h x (by simp)]
  case makeFunc f a b => simp only [pureX]; rw [evalL_congr fun x hx => h x (by simp at hx ⊢; exact .inl hx), evalL_congr fun x hx => h x (by simp at hx ⊢; exact .inr hx)]
  case slice t x lo hi mx =>
    simp only [pureX]
    rw [h x (by simp), evalM_congr (x := lo) fun y hy => h y (by subst hy; simp), evalM_congr (x := hi) fun y hy => h y (by subst hy; simp), evalM_congr (x := mx) fun y hy => h y (by subst hy; simp)]
  case fieldAddr t x f => simp only [pureX]; rw [h x (by simp)]
  case field t x f => simp only [pureX]; rw [h x (by simp)]
  case indexAddr t x i => simp only [pureX]; rw [h x (by simp), h i (by simp)]
  case index t x i => simp only [pureX]; rw [h x (by simp), h i (by simp)]
  case extract x i => simp only [pureX]; rw [h x (by simp)]
  case call c =>
    simp only [pureX]
    rw [evalL_congr (l := c.args.toList) fun x hx => h x (by simp [Call.operands] at hx ⊢; exact .inr hx)]
theorem readX_congr {s : S} (h : ∀ x ∈ op.operands.toList, evalO tm x = evalO tm' x) : readX T tm s op = readX T tm' s op := by
  cases op <;> simp only [Op.operands] at h <;> try rfl
  case load t x => simp only [readX]; rw [h x (by simp)]
  case slice t x lo hi mx =>
    simp only [readX]
    rw [h x (by simp), evalM_congr (x := lo) fun y hy => h y (by subst hy; simp), evalM_congr (x := hi) fun y hy => h y (by subst hy; simp), evalM_congr (x := mx) fun y hy => h y (by subst hy; simp)]
  case lookup t x k ok => simp only [readX]; rw [h x (by simp), h k (by simp)]
  case call c =>
    simp only [readX]
    rw [evalL_congr (l := c.args.toList) fun x hx => h x (by simp [Call.operands] at hx ⊢; exact .inr hx)]
theorem effX_congr {s : S} (h : ∀ x ∈ op.operands.toList, evalO tm x = evalO tm' x) : effX T tm s op = effX T tm' s op := by
  cases op <;> simp only [Op.operands] at h <;> try rfl
  case box t x => simp only [effX]; rw [h x (by simp)]
  case store t x y => simp only [effX]; rw [h x (by simp), h y (by simp)]
  case buildSlice t n ps => simp only [effX]; rw [evalP_congr (by simpa using h)]
  case makeSlice t x y => simp only [effX]; rw [h x (by simp), h y (by simp)]
  case slice t x lo hi mx =>
    simp only [effX]
    rw [h x (by simp), evalM_congr (x := lo) fun y hy => h y (by subst hy; simp), evalM_congr (x := hi) fun y hy => h y (by subst hy; simp), evalM_congr (x := mx) fun y hy => h y (by subst hy; simp)]
  case makeMap t r => cases r <;> rfl
  case mapUpdate t x y z => simp only [effX]; rw [h x (by simp), h y (by simp), h z (by simp)]
  case insert t x y z => simp only [effX]; rw [h x (by simp), h y (by simp), h z (by simp)]
  case mapEntry t x y => simp only [effX]; rw [h x (by simp), h y (by simp)]
  case entryStore t x y z => simp only [effX]; rw [h x (by simp), h y (by simp), h z (by simp)]
  case call c =>
    simp only [effX]
    rw [evalL_congr (l := c.args.toList) fun x hx => h x (by simp [Call.operands] at hx ⊢; exact .inr hx)]
theorem callOf_congr (h : ∀ x ∈ op.operands.toList, evalO tm x = evalO tm' x) : callOf T tm op = callOf T tm' op := by
  cases op <;> simp only [Op.operands] at h <;> try rfl
  case call c =>
    simp only [callOf]
    rw [evalL_congr (l := c.args.toList) fun x hx => h x (by simp [Call.operands] at hx ⊢; exact .inr hx)]
    cases hc : c.callee with
    | value f => simp only []; rw [h f (by simp [Call.operands, hc])]
    | _ => rfl
theorem opX_congr {call : CallX} {s : S} (h : ∀ x ∈ op.operands.toList, evalO tm x = evalO tm' x) : opX T call tm s op = opX T call tm' s op := by
  unfold opX
  rw [pureX_congr h, readX_congr h, effX_congr h, callOf_congr h]
end
theorem looks_operands {ops : List Oper} {o : Oper} {tm tm' : List Value} (h : ∀ t ∈ looksX ops o, tm[t]? = tm'[t]?) : (∀ x ∈ o.op.operands.toList, evalO tm x = evalO tm' x) ∧ wantedX ops tm o = wantedX ops tm' o := by
  unfold looksX at h
  unfold wantedX
  cases hg : o.guard with
  | none =>
    simp only [hg] at h
    exact ⟨fun x hx => evalO_congr h hx, rfl⟩
  | some g =>
    obtain ⟨j, want⟩ := g
    simp only [hg] at h
    cases hd : dstOf ops j with
    | none =>
      simp only [hd] at h
      exact ⟨fun x hx => evalO_congr h hx, by simp only [hd]⟩
    | some d =>
      simp only [hd] at h
      refine ⟨fun x hx => evalO_congr (fun t ht => h t (by simp [ht])) hx, ?_⟩
      simp only [hd, nth_eq]
      rw [h d (by simp)]
theorem recX_congr {T : Tb} {call : CallX} {ops : List Oper} {o : Oper} {tm tm' : List Value} {s : S} (h : ∀ t ∈ looksX ops o, tm[t]? = tm'[t]?) : recX T call ops tm s o = recX T call ops tm' s o := by
  obtain ⟨h1, h2⟩ := looks_operands h
  unfold recX
  rw [h2, pureX_congr h1, readX_congr h1, opX_congr h1]
end Go.Rx
