/-
  VxI: copy, maps; every operation but a call.
-/
import Derived.Test.YtcanbnholmlapaaVxH
namespace Go.Vx
open Go Go.Rx
set_option linter.unusedVariables false

theorem modU_eq (es : List ME) (i : Nat) (f : ME → ME) : modU es i f = es.modify i f := by
  induction es generalizing i with
  | nil => simp [modU]
  | cons e es ih => cases i <;> simp [modU, ih]
theorem eraseU_eq (es : List ME) (i : Nat) : eraseU es i = es.eraseIdx i := by
  induction es generalizing i with
  | nil => simp [eraseU]
  | cons e es ih => cases i <;> simp [eraseU, ih]
theorem RelM.snoc {x : Cx} {es : List ME} {vs : List MapEntry} (h : RelM x es vs) {k v : U} {kv vv : Value} (hk : Rel x k kv) (hv : Rel x v vv) (b : Nat) : RelM x (es ++ [⟨k, v, b⟩]) (vs ++ [⟨kv, vv, b⟩]) := by
  refine ⟨by simp [h.1], fun i e he => ?_⟩
  rw [List.getElem?_append] at he ⊢
  rw [← h.1]
  split at he
  · rename_i hlt; simp only [hlt, if_true]; exact h.2 i e he
  · rename_i hlt
    simp only [hlt, if_false]
    cases hj : i - es.length with
    | zero => simp [hj] at he; subst he; exact ⟨⟨kv, vv, b⟩, by simp, hk, hv, rfl⟩
    | succ j => simp [hj] at he
theorem RelM.mod {x : Cx} {es : List ME} {vs : List MapEntry} (h : RelM x es vs) (j : Nat) {v : U} {vv : Value} (hv : Rel x v vv) : RelM x (modU es j fun e => { e with val := v }) (modX vs j fun e => { e with val := vv }) := by
  rw [modU_eq, modX_eq]
  refine ⟨by simp [h.1], fun i e he => ?_⟩
  rw [List.getElem?_modify] at he ⊢
  cases hi : es[i]? with
  | none => simp [hi] at he
  | some e0 =>
    obtain ⟨v0, q1, q2, q3, q4⟩ := h.2 i e0 hi
    rw [hi] at he
    simp only [Option.map_eq_map, Option.map_some, Option.some.injEq] at he
    rw [q1]
    by_cases hji : j = i
    · simp only [hji, if_true] at he ⊢; subst he; exact ⟨_, rfl, q2, hv, q4⟩
    · simp only [hji, if_false] at he ⊢; subst he; exact ⟨_, rfl, q2, q3, q4⟩
theorem RelM.erase {x : Cx} {es : List ME} {vs : List MapEntry} (h : RelM x es vs) (j : Nat) : RelM x (eraseU es j) (eraseX vs j) := by
  rw [eraseU_eq, eraseX_eq]
  refine ⟨by simp [List.length_eraseIdx, h.1], fun i e he => ?_⟩
  rw [List.getElem?_eraseIdx] at he ⊢
  split at he
  · rename_i hlt; simp only [hlt, if_true]; exact h.2 i e he
  · rename_i hlt; simp only [hlt, if_false]; exact h.2 _ e he
theorem RelM.mono {x y : Cx} (hm : Mo x.σ.nx x y) {es : List ME} {vs : List MapEntry} (h : RelM x es vs) : RelM y es vs := ⟨h.1, fun j e he => by
    obtain ⟨v, q1, q2, q3, q4⟩ := h.2 j e he
    exact ⟨v, q1, hm.ke _ _ (Rel.bel _ _ q2) q2, hm.ke _ _ (Rel.bel _ _ q3) q3, q4⟩⟩
theorem born_sim {x : Cx} {b : Int} : ∀ {es : List ME} {vs : List MapEntry} (i : Nat), RelM x es vs → bornU b es i = bornX b vs i
  | [], vs, i, h => by have : vs = [] := by have := h.1; simpa using this.symm
                       subst this; rfl
  | e :: es, [], i, h => by have := h.1; simp at this
  | e :: es, v :: vs, i, h => by
    obtain ⟨v0, q0, q1, q2, q3⟩ := h.2 0 e rfl
    simp at q0; subst q0
    have h' : RelM x es vs := ⟨by have := h.1; simpa using this, fun j d hd => by simpa using h.2 (j + 1) d (by simpa using hd)⟩
    simp only [bornU, bornX, q3, born_sim (i + 1) h']

section
variable {T : Tb} {x : Cx} (hx : HRel x)
include hx
theorem map_at {m : U} {mv : Value} {r : Nat} {es : List ME} {cl : Nat} (hm : Rel x (.map r) mv) (hg : gt x.σ.h r = some (.map es cl)) : ∃ i es', x.ρ r = some i ∧ mv = .map (some i) ∧ lk x.s.h i = some (.inr (es', cl)) ∧ RelM x es es' ∧ ownMap x.s i = some (es', cl) := by
  obtain ⟨i, hi, rfl⟩ := live_map (x := x) (by simp [live, hg, B.st]) hm
  obtain ⟨_, i', es', e1, e2, e3⟩ := hx.ok r _ hg
  rw [hi] at e1; cases e1
  exact ⟨i, es', hi, rfl, e2, e3, by simp [ownMap, e2]⟩
theorem map_put {r i : Nat} {es es1 : List ME} {es' es1' : List MapEntry} {cl cl1 : Nat} (hg : gt x.σ.h r = some (.map es cl)) (hi : x.ρ r = some i) (hl : lk x.s.h i = some (.inr (es', cl))) (hr : RelM x es1 es1') :
    Out x ⟨x.ρ, mapSetU x.σ r es1 cl1, mapSet x.s i es1' cl1⟩ :=
  step_put hx hg hi hl rfl (by simp) fun y h1 h2 hm => ⟨i, es1', h1, h2, hr.mono hm⟩
theorem mapUp_sim {t : TypeId} {m k v r : U} {mv kv vv : Value} {σ' : Sg} (h : mapUpU T x.σ t m k v = some (r, σ')) (hm : Rel x m mv) (hk : Rel x k kv) (hv : Rel x v vv) : ∃ rv y, mapUpX T x.s t mv kv vv = some (rv, y.s) ∧ y.σ = σ' ∧ Rel y r rv ∧ Out x y := by
  unfold mapUpU at h
  cases hd : T.und t with
  | none => simp [hd] at h
  | some d =>
  cases d with
  | map kt et =>
    cases m with
    | map q =>
      simp only [hd] at h
      cases hkv : toV k with
      | none => simp [hkv] at h
      | some kv0 =>
        simp only [hkv] at h
        have e0 := (toV_iff _ _ hkv x kv).1 hk
        subst e0
        cases h1 : keyX T 50 kt kv with
        | false => simp [h1] at h
        | true =>
          cases h2 : plain kv with
          | false => simp [h1, h2] at h
          | true =>
            simp only [h1, h2, cond_true] at h
            cases hg : gt x.σ.h q with
            | none => simp [hg] at h
            | some b =>
              cases b with
              | map es cl =>
                simp only [hg] at h
                obtain ⟨i, es', hi, rfl, hl, hr, ho⟩ := map_at hx (m := .map q) hm hg
                cases hf : findU T kt kv es 0 with
                | none => simp [hf] at h
                | some f =>
                  rcases find_sim 0 hr hf with ⟨rfl, f1⟩ | ⟨j, u, w, rfl, f1, f2, f3, d, d', f4, f5, f6, f7, f8, f9⟩
                  · simp only [hf, Option.some.injEq, Prod.mk.injEq] at h
                    obtain ⟨rfl, rfl⟩ := h
                    exact ⟨undef, _, by simp only [mapUpX, hd, h1, h2, cond_true, ho, f1], rfl, by simp [Rel], map_put hx hg hi hl (hr.snoc hk hv cl)⟩
                  · simp only [Nat.sub_zero] at f4 f6
                    simp only [hf, nth_eq, f4] at h
                    cases hke : toV d.key with
                    | none => simp [hke] at h
                    | some kv' =>
                      simp only [hke] at h
                      have e1 := (toV_iff _ _ hke x d'.key).1 f7
                      cases hveq : veq 50 kv' kv with
                      | false => simp [hveq] at h
                      | true =>
                        simp only [hveq, cond_true, Option.some.injEq, Prod.mk.injEq] at h
                        obtain ⟨rfl, rfl⟩ := h
                        exact ⟨undef, _, by simp only [mapUpX, hd, h1, h2, cond_true, ho, f1, nth_eq, f6, e1, hveq], rfl, by simp [Rel], map_put hx hg hi hl (hr.mod j hv)⟩
              | _ => simp [hg] at h
    | _ => simp [hd] at h
  | _ => simp [hd] at h
theorem mapEnt_sim {t : TypeId} {m k r : U} {mv kv : Value} {σ' : Sg} (h : mapEntU T x.σ t m k = some (r, σ')) (hm : Rel x m mv) (hk : Rel x k kv) : ∃ rv y, mapEntX T x.s t mv kv = some (rv, y.s) ∧ y.σ = σ' ∧ Rel y r rv ∧ Out x y := by
  unfold mapEntU at h
  cases hd : T.und t with
  | none => simp [hd] at h
  | some d =>
  cases d with
  | map kt et =>
    cases m with
    | map q =>
      simp only [hd] at h
      cases hkv : toV k with
      | none => simp [hkv] at h
      | some kv0 =>
        simp only [hkv] at h
        have e0 := (toV_iff _ _ hkv x kv).1 hk
        subst e0
        cases h1 : keyX T 50 kt kv with
        | false => simp [h1] at h
        | true =>
          cases h2 : plain kv with
          | false => simp [h1, h2] at h
          | true =>
            simp only [h1, h2, cond_true] at h
            cases hg : gt x.σ.h q with
            | none => simp [hg] at h
            | some b =>
              cases b with
              | map es cl =>
                simp only [hg] at h
                obtain ⟨i, es', hi, rfl, hl, hr, ho⟩ := map_at hx (m := .map q) hm hg
                have tup2 : ∀ {y : Cx} {p : U} {p' : Value} {n : Nat}, Rel y p p' → Rel y (.tup [p, .int .i64 n]) (.tuple #[p', .int .i64 n]) := fun {y p p' n} hp => by
                  simp only [Rel]; exact ⟨[p', .int .i64 n], rfl, by simp [RelP, hp, Rel], rfl⟩
                cases hf : findU T kt kv es 0 with
                | none => simp [hf] at h
                | some f =>
                  rcases find_sim 0 hr hf with ⟨rfl, f1⟩ | ⟨j, u, w, rfl, f1, f2, f3, d, d', f4, f5, f6, f7, f8, f9⟩
                  · simp only [hf] at h
                    cases hinf : T.inf et with
                    | none => simp [hinf] at h
                    | some z =>
                      obtain ⟨z1, z2, z⟩ := z
                      simp only [hinf] at h
                      cases hz : ofV z with
                      | none => simp [hz] at h
                      | some zu =>
                        simp only [hz, Option.some.injEq, Prod.mk.injEq] at h
                        obtain ⟨rfl, rfl⟩ := h
                        exact ⟨.tuple #[z, .int .i64 cl], _, by simp only [mapEntX, hd, h1, h2, cond_true, ho, f1, hinf], rfl, tup2 ((ofV_ok _ _ hz).2 _), map_put hx hg hi hl (hr.snoc hk ((ofV_ok _ _ hz).2 x) cl)⟩
                  · simp only [Nat.sub_zero] at f4 f6
                    simp only [hf, nth_eq, f4] at h
                    cases hke : toV d.key with
                    | none => simp [hke] at h
                    | some kv' =>
                      simp only [hke] at h
                      have e1 := (toV_iff _ _ hke x d'.key).1 f7
                      cases hveq : veq 50 kv' kv with
                      | false => simp [hveq] at h
                      | true =>
                        simp only [hveq, cond_true, Option.some.injEq, Prod.mk.injEq] at h
                        obtain ⟨rfl, rfl⟩ := h
                        have hout := map_put hx hg hi hl (cl1 := cl) hr
                        exact ⟨.tuple #[w, .int .i64 d'.born], _, by simp only [mapEntX, hd, h1, h2, cond_true, ho, f1, nth_eq, f6, e1, hveq], rfl, by rw [f8]; exact tup2 (hout.mo.ke _ _ (Rel.bel _ _ f2) f2), hout⟩
              | _ => simp [hg] at h
    | _ => simp [hd] at h
  | _ => simp [hd] at h
theorem entSt_sim {m st v r : U} {mv sv vv : Value} {σ' : Sg} (h : entStU x.σ m st v = some (r, σ')) (hm : Rel x m mv) (hs : Rel x st sv) (hv : Rel x v vv) : ∃ rv y, entStX x.s mv sv vv = some (rv, y.s) ∧ y.σ = σ' ∧ Rel y r rv ∧ Out x y := by
  unfold entStU at h
  cases m with
  | map q =>
    cases st with
    | int k b =>
      simp only at h
      simp only [Rel] at hs
      subst hs
      cases hg : gt x.σ.h q with
      | none => simp [hg] at h
      | some bb =>
        cases bb with
        | map es cl =>
          simp only [hg] at h
          obtain ⟨i, es', hi, rfl, hl, hr, ho⟩ := map_at hx (m := .map q) hm hg
          cases hb : bornU b es 0 with
          | none => simp [hb] at h
          | some j =>
            simp only [hb, Option.some.injEq, Prod.mk.injEq] at h
            obtain ⟨rfl, rfl⟩ := h
            rw [born_sim 0 hr] at hb
            exact ⟨undef, _, by simp only [entStX, ho, hb], rfl, by simp [Rel], map_put hx hg hi hl (hr.mod j hv)⟩
        | _ => simp [hg] at h
    | _ => simp at h
  | _ => simp at h
theorem del_sim {t : TypeId} {m k r : U} {mv kv : Value} {σ' : Sg} (h : delU T x.σ t m k = some (r, σ')) (hm : Rel x m mv) (hk : Rel x k kv) : ∃ rv y, delX T x.s t mv kv = some (rv, y.s) ∧ y.σ = σ' ∧ Rel y r rv ∧ Out x y := by
  unfold delU at h
  cases hd : T.und t with
  | none => simp [hd] at h
  | some d =>
  cases d with
  | map kt et =>
    cases m with
    | map q =>
      simp only [hd] at h
      cases hkv : toV k with
      | none => simp [hkv] at h
      | some kv0 =>
        simp only [hkv] at h
        have e0 := (toV_iff _ _ hkv x kv).1 hk
        subst e0
        cases h1 : keyX T 50 kt kv with
        | false => simp [h1] at h
        | true =>
          simp only [h1, cond_true] at h
          cases hg : gt x.σ.h q with
          | none => simp [hg] at h
          | some b =>
            cases b with
            | map es cl =>
              simp only [hg] at h
              obtain ⟨i, es', hi, rfl, hl, hr, ho⟩ := map_at hx (m := .map q) hm hg
              cases hf : findU T kt kv es 0 with
              | none => simp [hf] at h
              | some f =>
                rcases find_sim 0 hr hf with ⟨rfl, f1⟩ | ⟨j, u, w, rfl, f1, _⟩
                · simp only [hf, Option.some.injEq, Prod.mk.injEq] at h
                  obtain ⟨rfl, rfl⟩ := h
                  exact ⟨undef, _, by simp only [delX, hd, h1, cond_true, ho, f1], rfl, by simp [Rel], map_put hx hg hi hl hr⟩
                · simp only [hf, Option.some.injEq, Prod.mk.injEq] at h
                  obtain ⟨rfl, rfl⟩ := h
                  exact ⟨undef, _, by simp only [delX, hd, h1, cond_true, ho, f1], rfl, by simp [Rel], map_put hx hg hi hl (hr.erase j)⟩
            | _ => simp [hg] at h
    | _ => simp [hd] at h
  | _ => simp [hd] at h
theorem copy_sim {t : TypeId} {d s r : U} {dv sv : Value} {σ' : Sg} (h : copyU T x.σ t d s = some (r, σ')) (hd' : Rel x d dv) (hs' : Rel x s sv) : ∃ rv y, copyX T x.s t dv sv = some (rv, y.s) ∧ y.σ = σ' ∧ Rel y r rv ∧ Out x y := by
  unfold copyU at h
  cases hd : T.und t with
  | none => simp [hd] at h
  | some dd =>
  cases dd with
  | slice e =>
    simp only [hd] at h
    cases hs : sizeX T e with
    | none => simp [hs] at h
    | some sz =>
      simp only [hs] at h
      cases hsrc : srcU x.σ sz s with
      | none => simp [hsrc] at h
      | some q =>
        obtain ⟨k, cs⟩ := q
        simp only [hsrc] at h
        cases d with
        | sl a off n c =>
          simp only at h
          cases hrow : rowOf x.σ a with
          | none => simp [hrow] at h
          | some l =>
            simp only [hrow] at h
            split at h
            · cases h
            · rename_i hpos
              have hpos' : 0 < n ∧ 0 < k ∧ 0 < sz := by omega
              obtain ⟨b, c0, vs, _, hsv, hc, hr, hk⟩ := src_sim hx hpos'.2.2 hsrc hs'
              obtain rfl : sv = .slice b k c0 := by
                rcases hsv with hsv | ⟨h0, _⟩
                · exact hsv
                · omega
              have hlen := src_len hsrc
              cases hput : putU l off (cs.take (Nat.min k n * sz)) with
              | none => simp [hput] at h
              | some l1 =>
                simp only [hput] at h
                obtain ⟨e', hg, hl⟩ := rowOf_some hrow
                obtain ⟨i, hi, rfl, _⟩ := live_sl hl hd'
                obtain ⟨_, k1, i', lv, e1, e2, e3⟩ := hx.ok a _ hg
                rw [hi] at e1; cases e1
                simp only [putOf, hg, Option.some.injEq, Prod.mk.injEq] at h
                obtain ⟨rfl, rfl⟩ := h
                have hmn : Nat.min k n * sz ≤ k * sz := Nat.mul_le_mul_right _ (Nat.min_le_left _ _)
                have hmp : 0 < Nat.min k n * sz := Nat.mul_pos (by simp [Nat.min_def]; split <;> omega) hpos'.2.2
                have hcells : cellsX x.s b (Nat.min k n * sz) = some (vs.take (Nat.min k n * sz)) := by
                  obtain ⟨q1, hq1⟩ : ∃ q, k * sz = q + 1 := ⟨k * sz - 1, by have := Nat.mul_pos hpos'.2.1 hpos'.2.2; omega⟩
                  obtain ⟨q2, hq2⟩ : ∃ q, Nat.min k n * sz = q + 1 := ⟨Nat.min k n * sz - 1, by omega⟩
                  rw [hq1] at hc
                  rw [hq2]
                  unfold cellsX at hc ⊢
                  cases b with
                  | none => simp at hc
                  | some a =>
                    simp only at hc ⊢
                    cases hlk : lk x.s.h a.block with
                    | none => simp [hlk] at hc
                    | some bb =>
                      rcases bb with ⟨l0, e0, md0⟩ | ⟨m0, c1⟩
                      · simp only [hlk] at hc ⊢
                        obtain ⟨s1, s2⟩ := seg_some hc
                        rw [s1, seg_of (by omega), List.take_take]
                        congr 2
                        omega
                      · simp [hlk] at hc
                have hrt := hr.take (Nat.min k n * sz)
                have hkt := okL_take hk (Nat.min k n * sz)
                obtain ⟨rv, p1, p2, p3⟩ := putU_ok hput e3 hrt
                have hown : ownRow x.s i = some (lv, e', 0) := by simp [ownRow, e2]
                refine ⟨.int .i64 (Nat.min k n), ⟨x.ρ, ⟨ug x.σ.h a (.row l1 e'), x.σ.nx⟩, ⟨up x.s.h i (.inl (rv, e', 0)), x.s.nx⟩⟩, ?_, rfl, by simp [Rel], step_put hx hg hi e2 rfl (by simp) fun y h1 h2 hm => ⟨p3 k1 hkt, i, rv, h1, h2, hm.ke.E p2.bel p2⟩⟩
                simp only [copyX, hd, hs, hcells, allOne_of hrt hkt, cond_true]
                cases hv : vs.take (Nat.min k n * sz) with
                | nil =>
                  exfalso
                  have h1 := hrt.2
                  rw [hv] at h1
                  have h2 : cs.length = k * sz := hlen
                  rw [List.length_take, h2, Nat.min_eq_left hmn] at h1
                  simp only [List.length_nil] at h1
                  omega
                | cons v0 vs0 => rw [hv] at p1; simp only [hown, p1]
        | _ => simp at h
  | _ => simp [hd] at h

theorem eff_sim {tm : List U} {tv : List Value} (ht : RelE x tm tv) {op : Op} {u : U} {σ' : Sg} (h : effU T x.σ tm op = some (u, σ')) : Sim T x tv op u σ' := by
  have fin : ∀ {v : Value} {y : Cx}, pureX T tv op = none → readX T tv x.s op = none → effX T tv x.s op = some (v, y.s) → y.σ = σ' → Rel y u v → Out x y → Sim T x tv op u σ' := fun {v y} h1 h2 h3 h4 h5 h6 => ⟨v, y, opX_effX h1 h2 h3, h4, h5, h6⟩
  unfold effU at h
  cases op with
  | alloc e =>
    simp only at h
    cases hi : T.inf e with
    | none => simp [hi] at h
    | some q =>
      obtain ⟨a, b, z⟩ := q
      simp only [hi] at h
      cases hz : ofVL z.cells.toList with
      | none => simp [hz] at h
      | some zu =>
        simp only [hz] at h
        cases hk : okL zu with
        | false => simp [hk] at h
        | true =>
          simp only [hk, cond_true, Option.some.injEq, Prod.mk.injEq] at h
          obtain ⟨rfl, rfl⟩ := h
          exact fin (v := .pointer (some ⟨x.s.nx, 0, none⟩)) rfl rfl (by simp only [effX, hi]) rfl (by simp only [Rel]; exact ⟨rfl, ref_new rfl ⟨_, rfl, rfl⟩⟩) (newrow_sim hx ((ofVL_ok _ _ hz).2 x) hk e)
  | box e o =>
    simp only at h
    cases ho : evalU tm o with
    | none => simp [ho] at h
    | some a =>
      simp only [ho] at h
      obtain ⟨va, a1, a2⟩ := evalU_ok ht ho
      cases hc : cellsO a with
      | none => simp [hc] at h
      | some cs =>
        simp only [hc] at h
        obtain ⟨c1, c2⟩ := cellsO_ok a2 hc
        simp only [c2, cond_true, Option.some.injEq, Prod.mk.injEq] at h
        obtain ⟨rfl, rfl⟩ := h
        exact fin (v := .pointer (some ⟨x.s.nx, 0, none⟩)) rfl rfl (by simp only [effX, a1]) rfl (by simp only [Rel]; exact ⟨rfl, ref_new rfl ⟨_, rfl, rfl⟩⟩) (newrow_sim hx c1 c2 e)
  | store t a b =>
    simp only at h
    cases ha : evalU tm a with
    | none => simp [ha] at h
    | some au =>
      cases hb : evalU tm b with
      | none => simp [ha, hb] at h
      | some bu =>
        simp only [ha, hb] at h
        obtain ⟨va, a1, a2⟩ := evalU_ok ht ha
        obtain ⟨vb, b1, b2⟩ := evalU_ok ht hb
        obtain ⟨v, y, h1, h2, h3, h4⟩ := store_sim hx h a2 b2
        exact fin rfl rfl (by simp only [effX, a1, b1, h1]) h2 h3 h4
  | buildSlice t n ps =>
    simp only at h
    cases hp : evalUP tm ps.toList with
    | none => simp [hp] at h
    | some qs =>
      simp only [hp] at h
      obtain ⟨vs, h1, h2⟩ := evalUP_ok ht hp
      obtain ⟨v, y, h3, h4, h5, h6⟩ := makeList_sim hx h h2
      exact fin rfl rfl (by simp only [effX, h1, h3]) h4 h5 h6
  | makeSlice t a b =>
    simp only at h
    cases ha : evalU tm a with
    | none => simp [ha] at h
    | some au =>
      cases hb : evalU tm b with
      | none => simp [ha, hb] at h
      | some bu =>
        simp only [ha, hb] at h
        obtain ⟨va, a1, a2⟩ := evalU_ok ht ha
        obtain ⟨vb, b1, b2⟩ := evalU_ok ht hb
        obtain ⟨v, y, h1, h2, h3, h4⟩ := make_sim hx h a2 b2
        exact fin rfl rfl (by simp only [effX, a1, b1, h1]) h2 h3 h4
  | makeMap t r =>
    cases r with
    | none =>
      simp only [Option.some.injEq, Prod.mk.injEq] at h
      obtain ⟨rfl, rfl⟩ := h
      exact fin (v := .map (some x.s.nx)) rfl rfl (by simp only [effX]) rfl (by simp only [Rel]; exact ⟨rfl, ref_new rfl ⟨_, rfl, rfl⟩⟩) (step_new hx (.map [] 0) (.inr ([], 0)) fun y h1 h2 hm => ⟨_, [], h1, h2, rfl, by simp⟩)
    | some r => simp at h
  | mapUpdate t m k v =>
    simp only at h
    cases hm : evalU tm m with
    | none => simp [hm] at h
    | some mu =>
      cases hk : evalU tm k with
      | none => simp [hm, hk] at h
      | some ku =>
        cases hv : evalU tm v with
        | none => simp [hm, hk, hv] at h
        | some vu =>
          simp only [hm, hk, hv] at h
          obtain ⟨va, a1, a2⟩ := evalU_ok ht hm
          obtain ⟨vb, b1, b2⟩ := evalU_ok ht hk
          obtain ⟨vc, c1, c2⟩ := evalU_ok ht hv
          obtain ⟨w, y, h1, h2, h3, h4⟩ := mapUp_sim hx h a2 b2 c2
          exact fin rfl rfl (by simp only [effX, a1, b1, c1, h1]) h2 h3 h4
  | insert t m k v =>
    simp only at h
    cases hm : evalU tm m with
    | none => simp [hm] at h
    | some mu =>
      cases hk : evalU tm k with
      | none => simp [hm, hk] at h
      | some ku =>
        cases hv : evalU tm v with
        | none => simp [hm, hk, hv] at h
        | some vu =>
          simp only [hm, hk, hv] at h
          obtain ⟨va, a1, a2⟩ := evalU_ok ht hm
          obtain ⟨vb, b1, b2⟩ := evalU_ok ht hk
          obtain ⟨vc, c1, c2⟩ := evalU_ok ht hv
          obtain ⟨w, y, h1, h2, h3, h4⟩ := mapUp_sim hx h a2 b2 c2
          exact fin rfl rfl (by simp only [effX, a1, b1, c1, h1]) h2 h3 h4
  | mapEntry t m k =>
    simp only at h
    cases hm : evalU tm m with
    | none => simp [hm] at h
    | some mu =>
      cases hk : evalU tm k with
      | none => simp [hm, hk] at h
      | some ku =>
        simp only [hm, hk] at h
        obtain ⟨va, a1, a2⟩ := evalU_ok ht hm
        obtain ⟨vb, b1, b2⟩ := evalU_ok ht hk
        obtain ⟨w, y, h1, h2, h3, h4⟩ := mapEnt_sim hx h a2 b2
        exact fin rfl rfl (by simp only [effX, a1, b1, h1]) h2 h3 h4
  | entryStore t m k v =>
    simp only at h
    cases hm : evalU tm m with
    | none => simp [hm] at h
    | some mu =>
      cases hk : evalU tm k with
      | none => simp [hm, hk] at h
      | some ku =>
        cases hv : evalU tm v with
        | none => simp [hm, hk, hv] at h
        | some vu =>
          simp only [hm, hk, hv] at h
          obtain ⟨va, a1, a2⟩ := evalU_ok ht hm
          obtain ⟨vb, b1, b2⟩ := evalU_ok ht hk
          obtain ⟨vc, c1, c2⟩ := evalU_ok ht hv
          obtain ⟨w, y, h1, h2, h3, h4⟩ := entSt_sim hx h a2 b2 c2
          exact fin rfl rfl (by simp only [effX, a1, b1, c1, h1]) h2 h3 h4
  | call c =>
    simp only at h
    obtain ⟨callee, args, ats⟩ := c
    cases callee with
    | builtin b =>
      have two : ∀ {us : List U} {a b : U}, evalUL tm args.toList = some us → us = [a, b] → ∃ va vb, evalL tv args.toList = some [va, vb] ∧ Rel x a va ∧ Rel x b vb := fun {us a b} h1 h2 => by
        subst h2
        obtain ⟨vs, a1, a2⟩ := evalUL_ok ht h1
        obtain ⟨va, vs', rfl, r1, r2⟩ := a2.inv
        obtain ⟨vb, vs'', rfl, r3, r4⟩ := r2.inv
        rw [r4.nil_inv] at a1
        exact ⟨va, vb, a1, r1, r3⟩
      cases b with
      | append =>
        simp only at h
        split at h
        · rename_i a b t xt h1 h2
          obtain ⟨va, vb, e1, r1, r2⟩ := two h1 rfl
          obtain ⟨w, y, q1, q2, q3, q4⟩ := append_sim hx h r1 r2
          exact fin (by simp only [pureX]) (by simp only [readX]) (by simp only [effX, e1, h2, q1]) q2 q3 q4
        · cases h
      | copy =>
        simp only at h
        split at h
        · rename_i a b t ts h1 h2
          obtain ⟨va, vb, e1, r1, r2⟩ := two h1 rfl
          obtain ⟨w, y, q1, q2, q3, q4⟩ := copy_sim hx h r1 r2
          exact fin (by simp only [pureX]) (by simp only [readX]) (by simp only [effX, e1, h2, q1]) q2 q3 q4
        · cases h
      | delete =>
        simp only at h
        split at h
        · rename_i a b t ts h1 h2
          obtain ⟨va, vb, e1, r1, r2⟩ := two h1 rfl
          obtain ⟨w, y, q1, q2, q3, q4⟩ := del_sim hx h r1 r2
          exact fin (by simp only [pureX]) (by simp only [readX]) (by simp only [effX, e1, h2, q1]) q2 q3 q4
        · cases h
      | _ => simp at h
    | _ => simp at h
  | _ => simp at h

theorem op_sim {tm : List U} {tv : List Value} (ht : RelE x tm tv) {op : Op} {u : U} {σ' : Sg} (h : opU T x.σ tm op = some (u, σ')) : Sim T x tv op u σ' := by
  unfold opU at h
  cases h1 : pureU T x.σ tm op with
  | some v => simp only [h1, Option.some.injEq, Prod.mk.injEq] at h; obtain ⟨rfl, rfl⟩ := h; exact pure_sim hx ht h1
  | none =>
    simp only [h1] at h
    cases h2 : readU T x.σ tm op with
    | some v => simp only [h2, Option.some.injEq, Prod.mk.injEq] at h; obtain ⟨rfl, rfl⟩ := h; exact read_sim hx ht h2
    | none => simp only [h2] at h; exact eff_sim hx ht h
omit hx in
theorem call_sim {tm : List U} {tv : List Value} (ht : RelE x tm tv) {op : Op} {f : FuncId} {args : List U} (h : callU T tm op = some (f, args)) : ∃ vs, callOf T tv op = some (f, vs) ∧ RelE x args vs := by
  unfold callU at h
  cases op with
  | call c =>
    simp only at h
    obtain ⟨callee, as, ats⟩ := c
    cases callee with
    | value o =>
      simp only at h
      cases ho : evalU tm o with
      | none => simp [ho] at h
      | some a =>
        obtain ⟨va, a1, a2⟩ := evalU_ok ht ho
        cases a with
        | fn fn first cap =>
          cases fn with
          | func g =>
            simp only [ho] at h
            simp only [Rel] at a2
            obtain ⟨p, q, rfl, r1, r2, r3, r4⟩ := a2
            cases hg : T.fn g with
            | none => simp [hg] at h
            | some fd =>
              simp only [hg] at h
              cases hbd : fd.body.isSome with
              | false => simp [hbd] at h
              | true =>
                simp only [hbd, cond_true] at h
                cases hl : evalUL tm as.toList with
                | none => simp [hl] at h
                | some us =>
                  simp only [hl, Option.some.injEq, Prod.mk.injEq] at h
                  obtain ⟨rfl, rfl⟩ := h
                  obtain ⟨vs, e1, e2⟩ := evalUL_ok ht hl
                  exact ⟨p ++ vs ++ q, by simp only [callOf, a1, hg, hbd, cond_true, e1], ((show RelE x first p from ⟨r1, r2⟩).append e2).append ⟨r3, r4⟩⟩
          | _ => simp [ho] at h
        | _ => simp [ho] at h
    | _ => simp at h
  | _ => simp at h
end
end Go.Vx
