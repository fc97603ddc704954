/-
  RxN: the symbolic run of a body, and of a call: what it gives is what the call comes to, in every world.
-/
import Derived.Test.YtcanbnholmlapaaRxM
namespace Go.Rx
open Go

section
variable {P : Program} {T : Tb} (hT : TbOk P T) {call : CallX} (hC : CallOk P call)
include hT hC

theorem step_ok {tm tm₁ : List Value} {todo todo₁ : List Item} {s s₁ : S} (h : stepX T call tm todo s = some (tm₁, todo₁, s₁)) {m : Nm} {w : World} {a : Act} (b : Frame) (cs : List Frame) (hf : FitsS m s w) (ha : ActR m s.nx tm a) :
    ∃ m₁ w₁ a₁, Adv m s w m₁ s₁ w₁ ∧ ActR m₁ s₁.nx tm₁ a₁ ∧ a₁.defers = a.defers ∧ Steps P (lone (b.at a todo) cs w) (lone (b.at a₁ todo₁) cs w₁) := by
  have same : ∀ {todo₂ : List Item}, (tm, todo₂, s) = (tm₁, todo₁, s₁) → step P (lone (b.at a todo) cs w) = .next (lone (b.at a todo₂) cs w) →
      ∃ m₁ w₁ a₁, Adv m s w m₁ s₁ w₁ ∧ ActR m₁ s₁.nx tm₁ a₁ ∧ a₁.defers = a.defers ∧ Steps P (lone (b.at a todo) cs w) (lone (b.at a₁ todo₁) cs w₁) := by
    rintro todo₂ he hs
    simp only [Prod.mk.injEq] at he
    obtain ⟨rfl, rfl, rfl⟩ := he
    exact ⟨m, w, a, Adv.refl hf, ha, rfl, .one hs⟩
  unfold stepX at h
  cases todo with
  | nil => simp at h
  | cons it k =>
    cases it with
    | code c =>
      cases c with
      | skip => simp only [Option.some.injEq] at h; exact same h step_skip
      | label l => simp only [Option.some.injEq] at h; exact same h step_label
      | seq x y => simp only [Option.some.injEq] at h; exact same h step_seq
      | cond c x y =>
        simp only at h
        cases hc : evalO tm c with
        | none => simp [hc] at h
        | some u =>
          have he := (ha.evalO hc).at
          cases u with
          | bool t =>
            simp only [ren] at he
            cases t with
            | true => simp only [hc, Option.some.injEq] at h; exact same h (by have := step_cond (P := P) (b := b) (k := k) (cs := cs) (w := w) (x := x) (y := y) he.symm; simpa using this)
            | false => simp only [hc, Option.some.injEq] at h; exact same h (by have := step_cond (P := P) (b := b) (k := k) (cs := cs) (w := w) (x := x) (y := y) he.symm; simpa using this)
          | _ => simp [hc] at h
      | block id x => simp only [Option.some.injEq] at h; exact same h step_block
      | loop x => simp only [Option.some.injEq] at h; exact same h step_loop
      | exit id =>
        simp only at h
        cases he : exitTo id k with
        | none => simp [he] at h
        | some k' => simp only [he, Option.some.injEq] at h; exact same h (step_exit he)
      | region id ops draw =>
        have fin : ∀ {tm' : List Value} {s' : S}, (∀ Q : Exit → Act → World → Prop, (∀ m' w' a', Adv m s w m' s' w' → ActR m' s'.nx tm' a' → a'.defers = a.defers → Q .normal a' w') → (Code.region id ops draw).wp P Q a w) → (tm', k, s') = (tm₁, todo₁, s₁) →
            ∃ m₁ w₁ a₁, Adv m s w m₁ s₁ w₁ ∧ ActR m₁ s₁.nx tm₁ a₁ ∧ a₁.defers = a.defers ∧ Steps P (lone (b.at a (.code (.region id ops draw) :: k)) cs w) (lone (b.at a₁ todo₁) cs w₁) := by
          intro tm' s' hwp he
          simp only [Prod.mk.injEq] at he
          obtain ⟨rfl, rfl, rfl⟩ := he
          obtain ⟨e, a', w', hq, harr⟩ := hwp (fun e a' w' => e = .normal ∧ ∃ m', Adv m s w m' s' w' ∧ ActR m' s'.nx tm' a' ∧ a'.defers = a.defers) (fun m' w' a' h1 h2 h3 => ⟨rfl, m', h1, h2, h3⟩) b k cs
          obtain ⟨rfl, m', h1, h2, h3⟩ := hq
          exact ⟨m', w', a', h1, h2, h3, harr⟩
        cases draw with
        | false =>
          simp only at h
          cases ho : opsX T call ops.toList ops.toList tm s with
          | none => simp [ho] at h
          | some q =>
            obtain ⟨tm', s'⟩ := q
            simp only [ho, Option.some.injEq] at h
            refine fin (fun Q hQ => wp_region ?_) h
            have := ops_ok hT hC ops Q ops.toList 0 (by simp) m s w tm a tm' s' hf ha ho hQ
            rw [List.range_eq_range']
            simpa using this
        | true =>
          simp only at h
          cases ho : drawX T call ops.toList tm s with
          | none => simp [ho] at h
          | some q =>
            obtain ⟨tm', s'⟩ := q
            simp only [ho, Option.some.injEq] at h
            exact fin (fun Q hQ => draw_ok hT hC ops hf ha ho id hQ) h
      | _ => simp at h
    | inBlock id => simp only [Option.some.injEq] at h; exact same h step_inBlock
    | inLoop x => simp only [Option.some.injEq] at h; exact same h step_inLoop
    | _ => simp at h

theorem run_ok : ∀ (n : Nat) (tm : List Value) (todo : List Item) (s : S) (tm' : List Value) (s' : S), runX T call n tm todo s = some (tm', s') → ∀ (m : Nm) (w : World) (a : Act) (b : Frame) (cs : List Frame), FitsS m s w → ActR m s.nx tm a → a.defers = [] →
    ∃ m' w' a' todo', Adv m s w m' s' w' ∧ ActR m' s'.nx tm' a' ∧ a'.defers = [] ∧ Steps P (lone (b.at a todo) cs w) (lone { b.at a' todo' with mode := .returning } cs w')
  | 0, _, _, _, _, _, h => by simp [runX] at h
  | n + 1, tm, todo, s, tm', s', h => fun m w a b cs hf ha hd => by
    have more : ∀ it k, todo = it :: k → (match stepX T call tm (it :: k) s with
        | some (tm', todo', s') => runX T call n tm' todo' s'
        | none => none) = some (tm', s') → ∃ m' w' a' todo', Adv m s w m' s' w' ∧ ActR m' s'.nx tm' a' ∧ a'.defers = [] ∧ Steps P (lone (b.at a todo) cs w) (lone { b.at a' todo' with mode := .returning } cs w') := by
      rintro it k rfl h
      cases hs : stepX T call tm (it :: k) s with
      | none => simp [hs] at h
      | some q =>
        obtain ⟨tm₁, todo₁, s₁⟩ := q
        simp only [hs] at h
        obtain ⟨m₁, w₁, a₁, h1, h2, h3, h4⟩ := step_ok hT hC hs b cs hf ha
        obtain ⟨m', w', a', todo', g1, g2, g3, g4⟩ := run_ok n tm₁ todo₁ s₁ tm' s' h m₁ w₁ a₁ b cs h1.fits h2 (h3.trans hd)
        exact ⟨m', w', a', todo', h1.trans g1, g2, g3, h4.trans g4⟩
    simp only [runX] at h
    cases todo with
    | nil =>
      simp only [Option.some.injEq, Prod.mk.injEq] at h
      obtain ⟨rfl, rfl⟩ := h
      exact ⟨m, w, a, [], Adv.refl hf, ha, hd, .one step_end⟩
    | cons it k =>
      cases it with
      | code c =>
        cases c with
        | ret =>
          simp only [Option.some.injEq, Prod.mk.injEq] at h
          obtain ⟨rfl, rfl⟩ := h
          exact ⟨m, w, a, .code .ret :: k, Adv.refl hf, ha, hd, .one step_ret⟩
        | _ => exact more _ _ rfl h
      | _ => exact more _ _ rfl h
end

theorem pad_eq (n : Nat) (l : List Value) : pad n l = l ++ List.replicate (n - l.length) undef := by
  induction n generalizing l with
  | zero => simp [pad]
  | succ n ih =>
    cases l with
    | nil => simp [pad, ih, List.replicate_succ]
    | cons v l => simp [pad, ih]

section
variable {P : Program} {T : Tb} (hT : TbOk P T)
include hT

theorem res_ok {m : Nm} {s : S} {w : World} (hf : Fits m s w) {tm : List Value} (F : ResultVar → Sem Value) (hF1 : ∀ t, F (.tmp t) = pure ((⟨renL m tm⟩ : Array Value).getD t undef))
    (hF2 : ∀ a t, F (.cell a t) = (do loadVar t (← asAddr ((⟨renL m tm⟩ : Array Value).getD a undef)))) : ∀ (rs : List ResultVar) (vs : List Value), resX T tm s rs = some vs → (rs.mapM F).run P w = .ok (renL m vs) w
  | [], vs, h => by simp [resX] at h; subst h; simp [renL]
  | .tmp t :: rs, vs, h => by
    simp only [resX, nth_eq] at h
    cases ht : tm[t]? with
    | none => simp [ht] at h
    | some v =>
      simp only [ht] at h
      cases hr : resX T tm s rs with
      | none => simp [hr] at h
      | some l =>
        simp only [hr, Option.some.injEq] at h
        subst h
        have ih := res_ok hf F hF1 hF2 rs l hr
        have e1 : (⟨renL m tm⟩ : Array Value).getD t undef = ren m v := by simp [renL_eq, ht]
        simp only [List.mapM_cons, Sem.run_bind, hF1, Sem.run_pure, Result.andThen_ok, ih, e1, renL]
  | .cell a t :: rs, vs, h => by
    simp only [resX] at h
    cases ht : readX T tm s (.load t (.tmp a)) with
    | none => simp [ht] at h
    | some v =>
      simp only [ht] at h
      cases hr : resX T tm s rs with
      | none => simp [hr] at h
      | some l =>
        simp only [hr, Option.some.injEq] at h
        subst h
        have ih := res_ok hf F hF1 hF2 rs l hr
        simp only [readX, evalO] at ht
        cases hta : nth tm a with
        | none => simp [hta] at ht
        | some u =>
          cases u with
          | pointer p =>
            cases p with
            | none => simp [hta] at ht
            | some q =>
              simp only [hta] at ht
              cases hl : lk s.h q.block with
              | none => simp [hl] at ht
              | some blk =>
                rcases blk with ⟨l', e, md⟩ | x
                · simp only [hl] at ht
                  have hload := load_ok hT m w hf hl ht
                  rw [nth_eq] at hta
                  have e1 : (⟨renL m tm⟩ : Array Value).getD a undef = .pointer (some ⟨m.blk q.block, m.sh q.block + q.off, none⟩) := by simp [renL_eq, hta, ren]
                  simp only [List.mapM_cons, Sem.run_bind, hF2, e1, asAddr, Sem.run_pure, Result.andThen_ok, hload, ih, renL]
                · simp [hl] at ht
          | _ => simp [hta] at ht

theorem results_ok {m : Nm} {s : S} {w : World} (hf : Fits m s w) {tm : List Value} {fn : Func} {vs : List Value} (h : resX T tm s fn.results.toList = some vs) :
    (results fn ⟨renL m tm⟩).run P w = .ok (ren m (oneX vs)) w := by
  unfold results
  rw [Sem.run_bind, Array.mapM_eq_mapM_toList, Sem.run_map, res_ok hT hf _ (fun t => rfl) (fun a t => rfl) fn.results.toList vs h]
  simp only [Result.andThen_ok, Sem.run_pure]
  congr 1
  rcases vs with _ | ⟨v, _ | ⟨u, l⟩⟩
  · simp [renL, oneX, ren]
  · simp [renL, oneX]
  · simp [renL, oneX, ren]

theorem call_ok (N : Nat) : ∀ d, CallOk P (callX T N d)
  | 0 => fun f args s v s₁ h => by simp [callX] at h
  | d + 1 => fun f args s v s₁ h m w cargs hf hargs => by
    simp only [callX] at h
    cases hfn : T.fn f with
    | none => simp [hfn] at h
    | some fn =>
      simp only [hfn] at h
      cases hb : fn.body with
      | none => simp [hb] at h
      | some c =>
        simp only [hb] at h
        cases hr : runX T (callX T N d) N (pad fn.ntmps args) [.code c] s with
        | none => simp [hr] at h
        | some q =>
          obtain ⟨tm, s'⟩ := q
          simp only [hr] at h
          cases hres : resX T tm s' fn.results.toList with
          | none => simp [hres] at h
          | some l =>
            simp only [hres, Option.some.injEq, Prod.mk.injEq] at h
            obtain ⟨rfl, rfl⟩ := h
            obtain ⟨hf0, _⟩ := hT.fn f fn hfn
            intro cs
            let b : Frame := { (default : Frame) with fn := f, kind := .normal }
            let a : Act := { tmps := cargs.toArray ++ Array.replicate (fn.ntmps - cargs.toArray.size) undef, defers := [] }
            have henter : Frame.enter P f cargs.toArray .normal = b.at a [.code c] := by
              simp [Frame.enter, Frame.at, hf0, hb, b, a]
            have hcl : cargs.length = args.length := by rw [← hargs.at]; simp
            have hact : ActR m s.nx (pad fn.ntmps args) a := fun m' hm' => by
              simp only [a, pad_eq, renL_append, hargs m' hm', hcl, List.size_toArray]
              apply Array.ext'
              simp [renL_eq, ren, undef]
            obtain ⟨m', w', a', todo', h1, h2, h3, h4⟩ := run_ok hT (call_ok N d) N _ _ _ _ _ hr m w a b cs hf hact rfl
            have hfit := h1.fits
            have hresv : ∀ m'', Agree s'.nx m' m'' → (results fn a'.tmps).run P w' = .ok (ren m'' (oneX l)) w' := fun m'' hm'' => by
              rw [h2 m'' hm'']
              exact results_ok hT (hfit m'' hm'') hres
            refine ⟨.returned (ren m' (oneX l)), w', { b.at a' todo' with mode := .returning }, ⟨m', _, rfl, h1, fun m'' hm'' => ?_⟩, ?_, ?_, ?_⟩
            · have e1 := hresv m'' hm''
              rw [hresv m' (Agree.refl _ _)] at e1
              simp at e1
              exact e1.symm
            · rw [henter]; exact h4
            · rfl
            · exact ⟨rfl, h3, rfl, fn, hf0, hresv m' (Agree.refl _ _)⟩

/-- A CALL FROM NO MEMORY OF ITS OWN: in every world it returns what the symbolic run gives; nothing that was there has turned. -/
theorem call_closed {N d : Nat} {f : FuncId} {args : List Value} {v : Value} {s : S} (h : callX T N d f args ⟨[], 0⟩ = some (v, s)) (hargs : ∀ m, renL m args = args) (hv : ∀ m, ren m v = v) (w : World) :
    Calls P f args.toArray w fun e w' => e = .returned v ∧ RowKit.Below w.heap.size w w' ∧ w.drawn ≤ w'.drawn := by
  have hf : FitsS ⟨id, id, id⟩ ⟨[], 0⟩ w := fun m' _ => ⟨fun i b hb => by simp [lk] at hb, fun i j b c hb => by simp [lk] at hb, fun i b hb => by simp [lk] at hb⟩
  refine (call_ok hT N d f args ⟨[], 0⟩ v s h ⟨id, id, id⟩ w args hf (fun m' _ => hargs m')).mono ?_
  rintro e w' ⟨m₁, cv, rfl, h1, h2⟩
  refine ⟨?_, h1.below fun b hb => ?_, h1.drawn⟩
  · rw [← h2.at, hv]
  · obtain ⟨i, c, hc, _⟩ := hb
    simp [lk] at hc
end

theorem info_or (P : Program) (t : TypeId) : P.info? t = P.types[t]? ∨ P.types[t]? = none := by
  by_cases h : t < P.types.size
  · exact .inl (by unfold Tables.info?; rw [if_pos h])
  · exact .inr (Array.getElem?_eq_none (Nat.le_of_not_lt h))
/-- the tables by the program's own lists are right where the closed facts stand -/
theorem tbOf_ok (P : Program) (eqs : List TypeId) (hm : P.follows .mixedOrders = true) (hn : ∀ f ∈ P.funcs.toList, f.body.isSome = true → (f.name == "runtime.NumGoroutine") = false)
    (he : ∀ t ∈ eqs, P.stoodInHeld t = false ∧ P.eqGuardType P.depth t = false) : TbOk P (tbOf P eqs) where
  und t d h := by
    simp only [tbOf, nth_eq] at h
    cases ht : P.types.toList[t]? with
    | none => simp [ht] at h
    | some i =>
      have hi : P.info? t = some i := by
        have ht' : P.types[t]? = some i := by simpa using ht
        rcases info_or P t with h1 | h1
        · rw [h1, ht']
        · rw [h1] at ht'; cases ht'
      simp only [ht] at h
      unfold Program.underlying
      rw [hi]
      obtain ⟨desc, s1, s2, s3, s4, s5, s6, s7, s8, s9⟩ := i
      cases desc with
      | named nm u =>
        simp only at h ⊢
        cases hu : P.types.toList[u]? with
        | none => simp [hu] at h
        | some j =>
          have hj : P.info? u = some j := by
            have hu' : P.types[u]? = some j := by simpa using hu
            rcases info_or P u with h1 | h1
            · rw [h1, hu']
            · rw [h1] at hu'; cases hu'
          simp only [hu, Option.some.injEq] at h
          rw [hj]
          simp [h]
      | _ => simpa using h
  inf t a b z h := by
    simp only [tbOf, nth_eq] at h
    cases ht : P.types.toList[t]? with
    | none => simp [ht] at h
    | some i =>
      have hi : P.info? t = some i := by
        have ht' : P.types[t]? = some i := by simpa using ht
        rcases info_or P t with h1 | h1
        · rw [h1, ht']
        · rw [h1] at ht'; cases ht'
      simp only [ht] at h
      cases hz : i.zero with
      | none => simp [hz] at h
      | some z' =>
        simp only [hz] at h
        cases hp : plain z' with
        | false => simp [hp] at h
        | true =>
          simp only [hp, cond_true, Option.some.injEq, Prod.mk.injEq] at h
          obtain ⟨rfl, rfl, rfl⟩ := h
          exact ⟨hp, i, hi, rfl, rfl, hz⟩
  fn f g h := by
    simp only [tbOf, nth_eq] at h
    have h' : P.funcs[f]? = some g := by simpa using h
    exact ⟨h', hn g (List.mem_of_getElem? h)⟩
  eqs t h := by
    simp only [tbOf] at h
    obtain ⟨u, hu, e⟩ := List.any_eq_true.1 h
    have : t = u := by simpa [beq_eq] using e
    subst this
    exact he t hu
  mixed := hm
end Go.Rx
