/-
  Texts of the walk: VxV SrtA E0 E2 E3 ExA E4a E4 E5 E6 VxU.
-/
import Derived.Shelf.SlSortCmp.WholeK
import Derived.Test.YtcanbnholmlapaaProg
import Derived.Test.YtcanbnholmlapaaP11
section
namespace Go.Vx
open Go Go.Rx Go.Proofs Go.Sort
set_option linter.unusedVariables false
theorem EvU.of_same {P : Program} {f : FuncId} {us : List U} {vs : List Value} {u : U} {cv : Value} (hv : toVL us = some vs) (hr : ∀ m, renL m vs = vs) (hu : toV u = some cv) (hru : ∀ m, ren m cv = cv) (h : ∀ w, Calls P f vs.toArray w fun e w' => e = .returned cv ∧ w' = w) (σ : Sg) : EvU P f us σ (fun u' σ' => u' = u ∧ σ' = σ) := fun F x ws m w cargs hx hh hfr he hfit hargs => by
  have := (toVL_iff us vs hv x ws).1 he
  subst this
  have hca : cargs = ws := by rw [← hargs.at, hr]
  subst hca
  refine (h w).mono ?_
  rintro e w' ⟨rfl, rfl⟩
  exact ⟨x, m, u, cv, cv, rfl, ⟨rfl, hx⟩, Adv.refl hfit, fun m' _ => hru m', hh, hfr, (toV_iff u cv hu x cv).2 rfl, Ke.refl _ _, Nat.le_refl _⟩
theorem EvU.view0 {P : Program} {f : FuncId} {args args' : List U} {σ : Sg} (h : EvU P f args ⟨[], 0⟩ (fun u' _ => u' = .tup [] ∧ Bel 0 u')) (ha : BelL 0 args) {σ1 : Sg} (hg : Gh 0 args' σ args σ1) : EvU P f args' σ (fun u' σ' => u' = .tup [] ∧ σ' = σ) := fun F x vs m w cargs hx hh hfr he hfit hargs => by
  obtain ⟨y1, a1, a2, a3, a4, a5, a6⟩ := hg F x vs hx hh hfr he
  have hadv1 := a1 m w hfit
  have hadv2 := Adv.less hadv1.fits (less_onlyI y1.s)
  have hmo : Mo 0 y1 (cx (onlyI y1.s)) := ⟨fun k hk => by omega, fun i row e hl => by show lk (onlyI y1.s).h i = _; rw [lk_onlyI, hl]; rfl⟩
  have hno : ∀ b, ¬ Owns m (onlyI y1.s) b := fun b ⟨i, c, hc, ho, _⟩ => by
    rw [lk_onlyI] at hc
    obtain ⟨_, l, e, rfl⟩ := immB_some hc
    simp [Own] at ho
  refine (h (fun _ _ => False) (cx (onlyI y1.s)) vs m w cargs rfl ⟨fun k b hb => by simp [cx, gt] at hb, fun k k' b b' i hb => by simp [cx, gt] at hb, fun i b hb => ?_⟩ (fun _ _ hF => hF.elim) (hmo.ke.E ha a5) hadv2.fits (hargs.ext (Agree.refl _ _) (Nat.le_trans hadv1.nx hadv2.nx))).mono ?_
  · have hb' : lk (onlyI y1.s).h i = some b := hb
    rw [lk_onlyI] at hb'
    exact a3.bd i b (immB_some hb').1
  rintro e w₂ ⟨y2, m₂, u', v', cv, rfl, ⟨rfl, _⟩, hadv, hrel, _, _, hru, _, _⟩
  simp only [Rel] at hru
  obtain ⟨q, rfl, _, hq⟩ := hru
  have : q = [] := List.eq_nil_of_length_eq_zero (by simpa using hq.symm)
  subst this
  have hcv : cv = .tuple ⟨[]⟩ := by rw [← hrel.at]; simp [ren, renL]
  subst hcv
  have hsame : ∀ b, b < w.heap.size → w₂.heap[b]? = w.heap[b]? := fun b hlt => hadv.same b hlt (hno b)
  refine ⟨x, m, .tup [], .tuple ⟨[]⟩, .tuple ⟨[]⟩, rfl, ⟨rfl, hx⟩, ⟨Agree.refl _ _, Nat.le_refl _, fun m' hm' => ?_, fun b h => .inl h, fun b hlt _ => hsame b hlt, hadv.size, hadv.os, hadv.tape, hadv.output, hadv.drawn⟩, fun m' _ => by simp [ren, renL], hh, hfr, by simp only [Rel]; exact ⟨[], rfl, by simp [RelP], rfl⟩, Ke.refl _ _, Nat.le_refl _⟩
  have hfm := hfit m' hm'
  exact ⟨fun i b hb => (hfm.ok i b hb).world (hsame _ (hfm.size hb)), hfm.inj, hfm.bd⟩
def insB {α : Type} (lt : α → α → Bool) (x : α) : List α → List α
  | [] => [x]
  | y :: l => cond (lt y x) (y :: insB lt x l) (x :: y :: l)
def srt {α : Type} (lt : α → α → Bool) : List α → List α
  | [] => []
  | x :: l => insB lt x (srt lt l)
theorem insB_perm {α : Type} (lt : α → α → Bool) (x : α) : ∀ l, (insB lt x l).Perm (x :: l)
  | [] => .refl _
  | y :: l => by
    simp only [insB]
    cases lt y x with
    | true => exact ((insB_perm lt x l).cons y).trans (.swap _ _ _)
    | false => exact .refl _
theorem srt_perm {α : Type} (lt : α → α → Bool) : ∀ l, (srt lt l).Perm l
  | [] => .refl _
  | x :: l => (insB_perm lt x _).trans ((srt_perm lt l).cons x)
def Asc {α : Type} (lt : α → α → Bool) (l : List α) : Prop := l.Pairwise (fun x y => lt y x = false)
theorem insB_asc {α : Type} {lt : α → α → Bool} (h : SWO lt) (x : α) : ∀ {l}, Asc lt l → Asc lt (insB lt x l)
  | [], _ => by simp [insB, Asc]
  | y :: l, ha => by
    simp only [insB]
    unfold Asc at ha ⊢
    rw [List.pairwise_cons] at ha
    cases hy : lt y x with
    | true =>
      simp only [cond_true]
      rw [List.pairwise_cons]
      refine ⟨fun z hz => ?_, insB_asc h x ha.2⟩
      have := (insB_perm lt x l).mem_iff.1 hz
      rcases List.mem_cons.1 this with rfl | hz
      · cases hzy : lt z y with
        | false => rfl
        | true => have := h.trans y z y hy hzy; rw [h.irrefl] at this; cases this
      · exact ha.1 z hz
    | false =>
      simp only [cond_false]
      rw [List.pairwise_cons]
      refine ⟨fun z hz => ?_, List.pairwise_cons.2 ha⟩
      rcases List.mem_cons.1 hz with rfl | hz
      · exact hy
      · exact h.ntrans z y x (ha.1 z hz) hy
theorem srt_asc {α : Type} {lt : α → α → Bool} (h : SWO lt) : ∀ l, Asc lt (srt lt l)
  | [] => by simp [srt, Asc]
  | x :: l => insB_asc h x (srt_asc h l)
theorem asc_unique {α : Type} {lt : α → α → Bool} (hanti : ∀ x y, lt x y = false → lt y x = false → x = y) : ∀ {a b : List α}, Asc lt a → Asc lt b → a.Perm b → a = b
  | [], b, _, _, hp => by rw [hp.nil_eq]
  | x :: a, [], _, _, hp => by have := hp.length_eq; simp at this
  | x :: a, y :: b, ha, hb, hp => by
    unfold Asc at ha hb
    have ha' := ha
    have hb' := hb
    rw [List.pairwise_cons] at ha hb
    have hxy : x = y := by
      have h1 : x ∈ y :: b := hp.mem_iff.1 (by simp)
      have h2 : y ∈ x :: a := hp.mem_iff.2 (by simp)
      rcases List.mem_cons.1 h1 with h1 | h1
      · exact h1
      · rcases List.mem_cons.1 h2 with h2 | h2
        · exact h2.symm
        · exact hanti x y (hb.1 x h1) (ha.1 y h2)
    subst hxy
    rw [asc_unique hanti ha.2 hb.2 (List.Perm.cons_inv hp)]
theorem srt_of {α : Type} [Inhabited α] {lt : α → α → Bool} (h : SWO lt) (hanti : ∀ x y, lt x y = false → lt y x = false → x = y) {ds ds' : List α} (hp : PermIn 0 ds.toArray.size ds.toArray ds'.toArray) (hs : SortedIn lt 0 ds.toArray.size ds'.toArray) : ds' = srt lt ds := by
  obtain ⟨h1, _, h3⟩ := hp
  simp only [List.size_toArray] at h1 h3 hs
  have hp : ds'.Perm ds := by
    have e1 : (ds'.toArray.extract 0 ds.length).toList = ds' := by simp [← h1]
    have e2 : (ds.toArray.extract 0 ds.length).toList = ds := by simp
    rwa [e1, e2] at h3
  refine asc_unique hanti ?_ (srt_asc h ds) (hp.trans (srt_perm lt ds).symm)
  unfold Asc
  rw [List.pairwise_iff_getElem]
  intro i j hi hj hij
  have := hs i j (Nat.zero_le _) hij (by omega)
  simpa [hi, hj] using this
theorem EvU.srtT {α : Type} [Inhabited α] {P : Program} {f g : FuncId} {enc : α → List Value} {encU : α → List U} {k : Nat} (hk : ∀ x, (enc x).length = k) (hk0 : 0 < k) (henc : ∀ x, toVL (encU x) = some (enc x)) (hok : ∀ x, okL (encU x) = true) (hren : ∀ m x, renL m (enc x) = enc x)
    {cf : α → α → Int} (hO : SWO (ltOf cf)) (hanti : ∀ x y, ltOf cf x y = false → ltOf cf y x = false → x = y)
    (hs : ∀ (blk off cap : Nat) (d : Array α) (w : World), HoldsK enc k w blk off d → blk < w.heap.size → d.size < 4611686018427387904 →
      Calls P f #[.slice (some ⟨blk, off, none⟩) d.size cap, .func (.func g) #[] #[]] w fun e w' => e = .returned (.tuple #[]) ∧ ∃ d' n os, PermIn 0 d.size d d' ∧ SortedIn (ltOf cf) 0 d.size d' ∧ w' = sortWorldK enc k w blk off n d' os)
    {σ : Sg} {K st : Nat} {e : TypeId} (ds : List α) (hne : ds ≠ []) (hlen : ds.length < 4611686018427387904) (hg : gt σ.h K = some (.vec ((ds.map encU).flatten) e k st)) :
    EvU P f [.vl K st 0 ds.length, .fn (.func g) [] []] σ (fun u σ' => u = .tup [] ∧ σ' = ⟨ug σ.h K (.vec (((srt (ltOf cf) ds).map encU).flatten) e k st), σ.nx⟩) := by
  have h := EvU.sort (P := P) (f := f) (g := g) hk hk0 henc hok hren (R := fun d d' => PermIn 0 d.size d d' ∧ SortedIn (ltOf cf) 0 d.size d') (fun blk off cap d w h1 h2 h3 => (hs blk off cap d w h1 h2 h3).mono fun e w' ⟨he, d', n, os, hp, hsrt, hw⟩ => ⟨he, d', n, os, ⟨hp, hsrt⟩, hp.1, hw⟩) (σ := σ) (K := K) (st := st) (e := e) ds hne hlen hg
  refine h.mono ?_
  rintro u σ' ⟨rfl, ds', ⟨hp, hsrt⟩, _, rfl⟩
  exact ⟨rfl, by rw [srt_of hO hanti hp hsrt]⟩
end Go.Vx
end
section
namespace Go.Proofs
open Go
set_option maxRecDepth 100000
def Try.sortB_ren : Shelf.Ren where
  f := fun x => match x with
    | 6 => 30
    | 15 => 45
    | 14 => 44
    | 28 => 60
    | 29 => 61
    | 20 => 52
    | 21 => 53
    | 22 => 54
    | 23 => 55
    | 24 => 56
    | 25 => 57
    | 26 => 58
    | 27 => 59
    | 46 => 64
    | 47 => 65
    | 48 => 66
    | 49 => 67
    | 50 => 68
    | 57 => 69
    | n => n
  t := fun x => match x with
    | 22 => 28
    | 24 => 53
    | 25 => 56
    | 3 => 3
    | 39 => 69
    | 0 => 0
    | 53 => 83
    | 55 => 85
    | 4 => 4
    | 46 => 76
    | 45 => 75
    | 50 => 80
    | 5 => 5
    | 9 => 9
    | 66 => 89
    | 70 => 93
    | 76 => 95
    | 77 => 96
    | n => n
  g := fun x => x
theorem Try.sortB : SlLaysF0.n6 Try.prog Try.sortB_ren where
  mixed := rfl
  f6 := ⟨Try.f30.name, by decide, Try.func30.trans rfl⟩
  f14 := ⟨Try.f44.name, by decide, Try.func44.trans rfl⟩
  f15 := Try.func45.trans rfl
  f20 := ⟨Try.f52.name, by decide, Try.func52.trans rfl⟩
  f21 := ⟨Try.f53.name, by decide, Try.func53.trans rfl⟩
  f22 := ⟨Try.f54.name, by decide, Try.func54.trans rfl⟩
  f23 := ⟨Try.f55.name, by decide, Try.func55.trans rfl⟩
  f24 := ⟨Try.f56.name, by decide, Try.func56.trans rfl⟩
  f25 := ⟨Try.f57.name, by decide, Try.func57.trans rfl⟩
  f26 := ⟨Try.f58.name, by decide, Try.func58.trans rfl⟩
  f27 := ⟨Try.f59.name, by decide, Try.func59.trans rfl⟩
  f28 := Try.func60.trans rfl
  f29 := Try.func61.trans rfl
  f46 := ⟨Try.f64.name, by decide, Try.func64.trans rfl⟩
  f47 := Try.func65.trans rfl
  f48 := Try.func66.trans rfl
  f49 := ⟨Try.f67.name, by decide, Try.func67.trans rfl⟩
  f50 := ⟨Try.f68.name, by decide, Try.func68.trans rfl⟩
  f57 := ⟨Try.f69.name, by decide, Try.func69.trans rfl⟩
  t0 := Try.underlying0
  a0 := Try.isAgg0
  z0 := Try.sizeOf0
  v0 := Try.zeroValue0
  t3 := Try.underlying3
  a3 := Try.isAgg3
  z3 := Try.sizeOf3
  v3 := Try.zeroValue3
  t4 := Try.underlying4
  a4 := Try.isAgg4
  z4 := Try.sizeOf4
  v4 := Try.zeroValue4
  t5 := Try.underlying5
  a5 := Try.isAgg5
  z5 := Try.sizeOf5
  v5 := Try.zeroValue5
  t9 := Try.underlying9
  a9 := Try.isAgg9
  z9 := Try.sizeOf9
  v9 := Try.zeroValue9
  t22 := Try.underlying28
  a22 := Try.isAgg28
  z22 := Try.sizeOf28
  v22 := Try.zeroValue28
  t25 := Try.underlying56
  a25 := Try.isAgg56
  z25 := Try.sizeOf56
  v25 := Try.zeroValue56
  t39 := Try.underlying69
  a39 := Try.isAgg69
  z39 := Try.sizeOf69
  v39 := Try.zeroValue69
  t45 := Try.underlying75
  a45 := Try.isAgg75
  z45 := Try.sizeOf75
  v45 := Try.zeroValue75
  t46 := Try.underlying76
  a46 := Try.isAgg76
  z46 := Try.sizeOf76
  v46 := Try.zeroValue76
  t50 := Try.underlying80
  a50 := Try.isAgg80
  z50 := Try.sizeOf80
  v50 := Try.zeroValue80
  t53 := Try.underlying83
  a53 := Try.isAgg83
  z53 := Try.sizeOf83
  v53 := Try.zeroValue83
  t55 := Try.underlying85
  a55 := Try.isAgg85
  z55 := Try.sizeOf85
  v55 := Try.zeroValue85
  t66 := Try.underlying89
  a66 := Try.isAgg89
  z66 := Try.sizeOf89
  v66 := Try.zeroValue89
  t70 := Try.underlying93
  a70 := Try.isAgg93
  z70 := Try.sizeOf93
  v70 := Try.zeroValue93
  t76 := Try.underlying95
  a76 := Try.isAgg95
  z76 := Try.sizeOf95
  v76 := Try.zeroValue95
  t77 := Try.underlying96
  a77 := Try.isAgg96
  z77 := Try.sizeOf96
  v77 := Try.zeroValue96
end Go.Proofs
end
section
namespace Go.Proofs
open Go Go.Rx Go.Vx Go.Shelf
def math_bits_Len (n : Nat) (x : Int) : Option Int := cond (x == 0) (some 0) none
theorem math_bits_Len_ok (n : Nat) (p1 : Int) (r : Int) (hF : math_bits_Len n p1 = some r) (σ : Sg) : EvU Try.prog 45 [.int .u64 p1] σ (fun u σ' => u = .int .i64 r ∧ σ' = σ) := by
  unfold math_bits_Len at hF
  cases hp : (p1 == 0) with
  | false => rw [hp] at hF; cases hF
  | true =>
    rw [hp] at hF
    simp at hF hp
    subst hF; subst hp
    refine EvU.of_same (vs := [.int .u64 0]) (cv := .int .i64 0) rfl (fun m => by simp [renL, ren]) rfl (fun m => by simp [ren]) (fun w => ?_) σ
    have h := Any.bits_Len (SlLaysF0.n15.bits (P := Try.prog) (ρ := Try.sortB_ren) { Try.sortB with }) 0 w (by omega) (by omega)
    exact h
end Go.Proofs
end
section
namespace Go.Proofs
open Go Go.Rx Go.Vx
set_option maxRecDepth 10000
set_option linter.unusedSimpArgs false
set_option linter.unusedVariables false
def slices_insertionSortCmpFunc_Bracket_compare_K1   : Option (Unit) :=
  some ()
def slices_insertionSortCmpFunc_Bracket_compare_L1  : Nat → Option (Unit)
  | 0 => none
  | m1 + 1 =>
    slices_insertionSortCmpFunc_Bracket_compare_K1
def slices_insertionSortCmpFunc_Bracket_compare (f3 : GBracket → GBracket → Option (Int)) (n : Nat)  : Option (Unit) :=
  slices_insertionSortCmpFunc_Bracket_compare_L1 n
theorem slices_insertionSortCmpFunc_Bracket_compare_0 (f3 : GBracket → GBracket → Option (Int)) (hf3 : ∀ (a0 : GBracket) (a1 : GBracket) (r : Int), f3 a0 a1 = some r → EvU Try.prog 31 [.agg [.str a0.Name, .int .i64 a0.From, .int .i64 a0.To], .agg [.str a1.Name, .int .i64 a1.From, .int .i64 a1.To]] ⟨[], 0⟩ (fun u _ => u = .int .i64 r ∧ Bel 0 u)) (n : Nat)  (r : Unit) (hF : slices_insertionSortCmpFunc_Bracket_compare f3 n  = some r) : EvU Try.prog 52 [.isl false (List.map cGBracket ([] : List GBracket)), .int .i64 0, .int .i64 0, .fn (.func 31) [] []] ⟨[], 0⟩ (fun u _ => u = .tup [] ∧ Bel 0 u) := by
  unfold slices_insertionSortCmpFunc_Bracket_compare at hF
  have hf3S : ∀ (a0 : GBracket) (a1 : GBracket) (r : Int), f3 a0 a1 = some r → ∀ σ, EvU Try.prog 31 [.agg [.str a0.Name, .int .i64 a0.From, .int .i64 a0.To], .agg [.str a1.Name, .int .i64 a1.From, .int .i64 a1.To]] σ (fun u σ' => u = .int .i64 r ∧ σ' = σ) := fun a0 a1 r h σ => EvU.pure1 (hf3 a0 a1 r h) (by simp only [BelL, Bel, true_and, and_true, and_assoc]) σ
  refine EvU.of_body Try.tb_ok Try.fn52 rfl ?_
  refine WPU.ghost (tm' := fr 53 [(0, .isl false (List.map cGBracket ([] : List GBracket))), (1, .int .i64 0), (2, .int .i64 0), (3, .fn (.func 31) [] [])]) (Gh.start (Nat.le_of_ble_eq_true rfl)) (Nat.zero_le _) ?_
  repeat refine WPU.seq ?_
  refine WPU.region Try.tb_ok ?_
  refine RS.op (u := .int .i64 0) rfl (op_move rfl) rfl rfl ?_
  refine RS.op (u := .int .i64 1) rfl (op_int rfl rfl (ix_add _ _ _) rfl) rfl rfl ?_
  refine RS.op (u := .int .i64 1) rfl (op_assign rfl) rfl rfl ?_
  refine RS.done ?_
  repeat (first | refine q1 ?_ | refine q2 ?_ | refine q3 ?_ | refine q4 ?_ | refine q5 ?_ | refine q6 ?_ | refine q7 (by decide) ?_ | refine q8 ?_ | refine q9 ?_ | refine q0 ?_)
  repeat refine WPU.seq ?_
  refine WPU.ghost (tm' := fr 53 [(0, .isl false (List.map cGBracket ([] : List GBracket))), (1, .int .i64 0), (2, .int .i64 0), (3, .fn (.func 31) [] []), (8, .int .i64 1)]) (Gh.sub ⟨rfl, rfl, rfl, rfl, rfl, trivial⟩) (Nat.zero_le _) ?_
  refine WPU.loopK (fun m tm σ => slices_insertionSortCmpFunc_Bracket_compare_L1 m = some r ∧ tm = fr 53 [(0, .isl false (List.map cGBracket ([] : List GBracket))), (1, .int .i64 0), (2, .int .i64 0), (3, .fn (.func 31) [] []), (8, .int .i64 1)] ∧ σ = ⟨[], 0⟩) (fun tm σ => slices_insertionSortCmpFunc_Bracket_compare_K1 = some r ∧ tm = fr 53 [] ∧ σ = ⟨[], 0⟩) n ⟨hF, rfl, rfl⟩ ?_ ?_
  · skip
    rintro _ _ ⟨hF, rfl, rfl⟩
    unfold slices_insertionSortCmpFunc_Bracket_compare_K1 at hF
    repeat (first | refine q1 ?_ | refine q2 ?_ | refine q3 ?_ | refine q4 ?_ | refine q5 ?_ | refine q6 ?_ | refine q7 (by decide) ?_ | refine q8 ?_ | refine q9 ?_ | refine q0 ?_)
    have hr := Option.some.inj hF
    subst hr
    exact ⟨.inl rfl, [], res_n, .tup [], ⟨[], 0⟩, Nat.le_refl _, Gh.to (n1 := 0) [] rfl rfl (Nat.le_refl _) (Nat.zero_le _) (by simp only [oneU, BelL, Bel, true_and, and_true, and_assoc]) (by simp [BelH, cut]), rfl, by simp only [BelL, Bel, true_and, and_true, and_assoc]⟩
  · skip
    rintro m1 _ _ ⟨hF, rfl, rfl⟩
    cases m1 with
    | zero => cases hF
    | succ m1 =>
      unfold slices_insertionSortCmpFunc_Bracket_compare_L1 at hF
      repeat refine WPU.seq ?_
      refine WPU.region Try.tb_ok ?_
      refine RS.op (u := .int .i64 1) rfl (op_move rfl) rfl rfl ?_
      refine RS.op (u := .int .i64 0) rfl (op_move rfl) rfl rfl ?_
      refine RS.op (u := .bool false) rfl (op_int rfl rfl (ix_lss _ _ _) rfl) rfl rfl ?_
      refine RS.done ?_
      repeat (first | refine q1 ?_ | refine q2 ?_ | refine q3 ?_ | refine q4 ?_ | refine q5 ?_ | refine q6 ?_ | refine q7 (by decide) ?_ | refine q8 ?_ | refine q9 ?_ | refine q0 ?_)
      repeat refine WPU.seq ?_
      refine WPU.condS (t := false) rfl (fun hc => by cases hc) (fun _ => ?_)
      repeat refine WPU.seq ?_
      refine WPU.exit ?_
      repeat (first | refine q1 ?_ | refine q2 ?_ | refine q3 ?_ | refine q4 ?_ | refine q5 ?_ | refine q6 ?_ | refine q7 (by decide) ?_ | refine q8 ?_ | refine q9 ?_ | refine q0 ?_)
      exact ⟨fr 53 [], ⟨[], 0⟩, ⟨hF, rfl, rfl⟩, (Nat.zero_le _), Gh.toS (n1 := 0) trivial rfl (Nat.zero_le _) (by simp) (by simp only [BelS, BelL, Bel, true_and, and_true, and_assoc, Nat.reduceLT]) (by simp only [BelH, BelB, BelL, Bel, true_and, and_true, and_assoc, Nat.reduceLT])⟩
theorem slices_insertionSortCmpFunc_Bracket_compare_ok (f3 : GBracket → GBracket → Option (Int)) (hf3 : ∀ (a0 : GBracket) (a1 : GBracket) (r : Int), f3 a0 a1 = some r → EvU Try.prog 31 [.agg [.str a0.Name, .int .i64 a0.From, .int .i64 a0.To], .agg [.str a1.Name, .int .i64 a1.From, .int .i64 a1.To]] ⟨[], 0⟩ (fun u _ => u = .int .i64 r ∧ Bel 0 u)) (n : Nat)  (r : Unit) (hF : slices_insertionSortCmpFunc_Bracket_compare f3 n  = some r) (σ : Sg) : EvU Try.prog 52 [.isl false (List.map cGBracket ([] : List GBracket)), .int .i64 0, .int .i64 0, .fn (.func 31) [] []] σ (fun u σ' => u = .tup [] ∧ σ' = σ) :=
  EvU.pure1 (slices_insertionSortCmpFunc_Bracket_compare_0 f3 hf3 n  r hF) (by simp only [BelL, Bel, true_and, and_true, and_assoc]; exact belR_map _ (fun q => bel_cGBracket _ q) _) σ
def slices_pdqsortCmpFunc_Bracket_compare_L1 (f4 : GBracket → GBracket → Option (Int)) (n : Nat) : Nat → Option (Unit)
  | 0 => none
  | m1 + 1 =>
    bindO (slices_insertionSortCmpFunc_Bracket_compare f4 n) fun r2 =>
    some ()
def slices_pdqsortCmpFunc_Bracket_compare (f4 : GBracket → GBracket → Option (Int)) (n : Nat) (p1 : Int) : Option (Unit) :=
  slices_pdqsortCmpFunc_Bracket_compare_L1 f4 n n
theorem slices_pdqsortCmpFunc_Bracket_compare_0 (f4 : GBracket → GBracket → Option (Int)) (hf4 : ∀ (a0 : GBracket) (a1 : GBracket) (r : Int), f4 a0 a1 = some r → EvU Try.prog 31 [.agg [.str a0.Name, .int .i64 a0.From, .int .i64 a0.To], .agg [.str a1.Name, .int .i64 a1.From, .int .i64 a1.To]] ⟨[], 0⟩ (fun u _ => u = .int .i64 r ∧ Bel 0 u)) (n : Nat) (p1 : Int) (r : Unit) (hF : slices_pdqsortCmpFunc_Bracket_compare f4 n p1 = some r) : EvU Try.prog 44 [.isl false (List.map cGBracket ([] : List GBracket)), .int .i64 0, .int .i64 0, .int .i64 p1, .fn (.func 31) [] []] ⟨[], 0⟩ (fun u _ => u = .tup [] ∧ Bel 0 u) := by
  unfold slices_pdqsortCmpFunc_Bracket_compare at hF
  have hf4S : ∀ (a0 : GBracket) (a1 : GBracket) (r : Int), f4 a0 a1 = some r → ∀ σ, EvU Try.prog 31 [.agg [.str a0.Name, .int .i64 a0.From, .int .i64 a0.To], .agg [.str a1.Name, .int .i64 a1.From, .int .i64 a1.To]] σ (fun u σ' => u = .int .i64 r ∧ σ' = σ) := fun a0 a1 r h σ => EvU.pure1 (hf4 a0 a1 r h) (by simp only [BelL, Bel, true_and, and_true, and_assoc]) σ
  refine EvU.of_body Try.tb_ok Try.fn44 rfl ?_
  refine WPU.ghost (tm' := fr 148 [(0, .isl false (List.map cGBracket ([] : List GBracket))), (1, .int .i64 0), (2, .int .i64 0), (3, .int .i64 p1), (4, .fn (.func 31) [] [])]) (Gh.start (Nat.le_of_ble_eq_true rfl)) (Nat.zero_le _) ?_
  repeat refine WPU.seq ?_
  refine WPU.region Try.tb_ok ?_
  refine RS.op (u := .bool true) rfl (op_assign rfl) rfl rfl ?_
  refine RS.done ?_
  repeat (first | refine q1 ?_ | refine q2 ?_ | refine q3 ?_ | refine q4 ?_ | refine q5 ?_ | refine q6 ?_ | refine q7 (by decide) ?_ | refine q8 ?_ | refine q9 ?_ | refine q0 ?_)
  repeat refine WPU.seq ?_
  refine WPU.region Try.tb_ok ?_
  refine RS.op (u := .bool true) rfl (op_assign rfl) rfl rfl ?_
  refine RS.done ?_
  repeat (first | refine q1 ?_ | refine q2 ?_ | refine q3 ?_ | refine q4 ?_ | refine q5 ?_ | refine q6 ?_ | refine q7 (by decide) ?_ | refine q8 ?_ | refine q9 ?_ | refine q0 ?_)
  repeat refine WPU.seq ?_
  refine WPU.ghost (tm' := fr 148 [(0, .isl false (List.map cGBracket ([] : List GBracket))), (1, .int .i64 0), (2, .int .i64 0), (3, .int .i64 p1), (4, .fn (.func 31) [] []), (10, .bool true), (11, .bool true)]) (Gh.sub ⟨rfl, rfl, rfl, rfl, rfl, rfl, rfl, trivial⟩) (Nat.zero_le _) ?_
  refine WPU.loopK (fun m tm σ => slices_pdqsortCmpFunc_Bracket_compare_L1 f4 n m = some r ∧ tm = fr 148 [(0, .isl false (List.map cGBracket ([] : List GBracket))), (1, .int .i64 0), (2, .int .i64 0), (3, .int .i64 p1), (4, .fn (.func 31) [] []), (10, .bool true), (11, .bool true)] ∧ σ = ⟨[], 0⟩) (fun _ _ => False) n ⟨hF, rfl, rfl⟩ ?_ ?_
  · skip
    rintro _ _ h; exact h.elim
  · skip
    rintro m1 _ _ ⟨hF, rfl, rfl⟩
    cases m1 with
    | zero => cases hF
    | succ m1 =>
      unfold slices_pdqsortCmpFunc_Bracket_compare_L1 at hF
      repeat refine WPU.seq ?_
      refine WPU.block ?_
      repeat refine WPU.seq ?_
      refine WPU.region Try.tb_ok ?_
      refine RS.op (u := .int .i64 0) rfl (op_move rfl) rfl rfl ?_
      refine RS.op (u := .int .i64 0) rfl (op_move rfl) rfl rfl ?_
      refine RS.op (u := .int .i64 0) rfl (op_int rfl rfl (ix_sub _ _ _) rfl) rfl rfl ?_
      refine RS.op (u := .int .i64 0) rfl (op_assign rfl) rfl rfl ?_
      refine RS.done ?_
      repeat (first | refine q1 ?_ | refine q2 ?_ | refine q3 ?_ | refine q4 ?_ | refine q5 ?_ | refine q6 ?_ | refine q7 (by decide) ?_ | refine q8 ?_ | refine q9 ?_ | refine q0 ?_)
      repeat refine WPU.seq ?_
      refine WPU.region Try.tb_ok ?_
      refine RS.op (u := .int .i64 0) rfl (op_move rfl) rfl rfl ?_
      refine RS.op (u := .bool true) rfl (op_int rfl rfl (ix_leq _ _ _) rfl) rfl rfl ?_
      refine RS.done ?_
      repeat (first | refine q1 ?_ | refine q2 ?_ | refine q3 ?_ | refine q4 ?_ | refine q5 ?_ | refine q6 ?_ | refine q7 (by decide) ?_ | refine q8 ?_ | refine q9 ?_ | refine q0 ?_)
      repeat refine WPU.seq ?_
      refine WPU.condS (t := true) rfl (fun _ => ?_) (fun hc => by cases hc)
      repeat refine WPU.seq ?_
      obtain ⟨r2, h3, hF⟩ := bindO_some hF
      refine WPU.region Try.tb_ok ?_
      refine RS.op (u := .isl false (List.map cGBracket ([] : List GBracket))) rfl (op_move rfl) rfl rfl ?_
      refine RS.op (u := .int .i64 0) rfl (op_move rfl) rfl rfl ?_
      refine RS.op (u := .int .i64 0) rfl (op_move rfl) rfl rfl ?_
      refine RS.op (u := .fn (.func 31) [] []) rfl (op_move rfl) rfl rfl ?_
      refine RS.call (u := .tup []) (args := [.isl false (List.map cGBracket ([] : List GBracket)), .int .i64 0, .int .i64 0, .fn (.func 31) [] []]) rfl (op_call rfl rfl Try.fn52 Try.hb52 rfl rfl) (slices_insertionSortCmpFunc_Bracket_compare_ok f4 hf4 n  r2 h3 _) rfl rfl ?_
      refine RS.done ?_
      repeat (first | refine q1 ?_ | refine q2 ?_ | refine q3 ?_ | refine q4 ?_ | refine q5 ?_ | refine q6 ?_ | refine q7 (by decide) ?_ | refine q8 ?_ | refine q9 ?_ | refine q0 ?_)
      repeat refine WPU.seq ?_
      refine WPU.ret ?_
      repeat (first | refine q1 ?_ | refine q2 ?_ | refine q3 ?_ | refine q4 ?_ | refine q5 ?_ | refine q6 ?_ | refine q7 (by decide) ?_ | refine q8 ?_ | refine q9 ?_ | refine q0 ?_)
      have hr := Option.some.inj hF
      subst hr
      exact ⟨.inr rfl, [], res_n, .tup [], ⟨[], 0⟩, Nat.le_refl _, Gh.to (n1 := 0) [] rfl rfl (Nat.le_refl _) (Nat.zero_le _) (by simp only [oneU, BelL, Bel, true_and, and_true, and_assoc]) (by simp [BelH, cut]), rfl, by simp only [BelL, Bel, true_and, and_true, and_assoc]⟩
theorem slices_pdqsortCmpFunc_Bracket_compare_ok (f4 : GBracket → GBracket → Option (Int)) (hf4 : ∀ (a0 : GBracket) (a1 : GBracket) (r : Int), f4 a0 a1 = some r → EvU Try.prog 31 [.agg [.str a0.Name, .int .i64 a0.From, .int .i64 a0.To], .agg [.str a1.Name, .int .i64 a1.From, .int .i64 a1.To]] ⟨[], 0⟩ (fun u _ => u = .int .i64 r ∧ Bel 0 u)) (n : Nat) (p1 : Int) (r : Unit) (hF : slices_pdqsortCmpFunc_Bracket_compare f4 n p1 = some r) (σ : Sg) : EvU Try.prog 44 [.isl false (List.map cGBracket ([] : List GBracket)), .int .i64 0, .int .i64 0, .int .i64 p1, .fn (.func 31) [] []] σ (fun u σ' => u = .tup [] ∧ σ' = σ) :=
  EvU.pure1 (slices_pdqsortCmpFunc_Bracket_compare_0 f4 hf4 n p1 r hF) (by simp only [BelL, Bel, true_and, and_true, and_assoc]; exact belR_map _ (fun q => bel_cGBracket _ q) _) σ
def slices_SortFunc_Bracket_compare (f1 : GBracket → GBracket → Option (Int)) (n : Nat)  : Option (Unit) :=
  bindO (math_bits_Len n 0) fun r1 =>
  bindO (slices_pdqsortCmpFunc_Bracket_compare f1 n r1) fun r3 =>
  some ()
theorem slices_SortFunc_Bracket_compare_0 (f1 : GBracket → GBracket → Option (Int)) (hf1 : ∀ (a0 : GBracket) (a1 : GBracket) (r : Int), f1 a0 a1 = some r → EvU Try.prog 31 [.agg [.str a0.Name, .int .i64 a0.From, .int .i64 a0.To], .agg [.str a1.Name, .int .i64 a1.From, .int .i64 a1.To]] ⟨[], 0⟩ (fun u _ => u = .int .i64 r ∧ Bel 0 u)) (n : Nat)  (r : Unit) (hF : slices_SortFunc_Bracket_compare f1 n  = some r) : EvU Try.prog 30 [.isl false (List.map cGBracket ([] : List GBracket)), .fn (.func 31) [] []] ⟨[], 0⟩ (fun u _ => u = .tup [] ∧ Bel 0 u) := by
  unfold slices_SortFunc_Bracket_compare at hF
  have hf1S : ∀ (a0 : GBracket) (a1 : GBracket) (r : Int), f1 a0 a1 = some r → ∀ σ, EvU Try.prog 31 [.agg [.str a0.Name, .int .i64 a0.From, .int .i64 a0.To], .agg [.str a1.Name, .int .i64 a1.From, .int .i64 a1.To]] σ (fun u σ' => u = .int .i64 r ∧ σ' = σ) := fun a0 a1 r h σ => EvU.pure1 (hf1 a0 a1 r h) (by simp only [BelL, Bel, true_and, and_true, and_assoc]) σ
  refine EvU.of_body Try.tb_ok Try.fn30 rfl ?_
  refine WPU.ghost (tm' := fr 14 [(0, .isl false (List.map cGBracket ([] : List GBracket))), (1, .fn (.func 31) [] [])]) (Gh.start (Nat.le_of_ble_eq_true rfl)) (Nat.zero_le _) ?_
  repeat refine WPU.seq ?_
  refine WPU.region Try.tb_ok ?_
  refine RS.op (u := .isl false (List.map cGBracket ([] : List GBracket))) rfl (op_move rfl) rfl rfl ?_
  refine RS.op (u := .int .i64 0) rfl (op_len rfl rfl rfl (len_isl cGBracket Try.und28)) rfl rfl ?_
  refine RS.op (u := .int .i64 0) rfl (op_assign rfl) rfl rfl ?_
  refine RS.done ?_
  repeat (first | refine q1 ?_ | refine q2 ?_ | refine q3 ?_ | refine q4 ?_ | refine q5 ?_ | refine q6 ?_ | refine q7 (by decide) ?_ | refine q8 ?_ | refine q9 ?_ | refine q0 ?_)
  repeat refine WPU.seq ?_
  obtain ⟨r1, h2, hF⟩ := bindO_some hF
  obtain ⟨r3, h4, hF⟩ := bindO_some hF
  refine WPU.region Try.tb_ok ?_
  refine RS.op (u := .isl false (List.map cGBracket ([] : List GBracket))) rfl (op_move rfl) rfl rfl ?_
  refine RS.op (u := .int .i64 0) rfl (op_move rfl) rfl rfl ?_
  refine RS.op (u := .int .i64 0) rfl (op_move rfl) rfl rfl ?_
  refine RS.op (u := .int .u64 0) rfl (op_conv rfl rfl (by simp only [convX, Try.und3, Try.und69] <;> rfl) rfl) rfl rfl ?_
  refine RS.call (u := .int .i64 r1) (args := [.int .u64 0]) rfl (op_call rfl rfl Try.fn45 Try.hb45 rfl rfl) (math_bits_Len_ok n 0 r1 h2 _) rfl rfl ?_
  refine RS.op (u := .fn (.func 31) [] []) rfl (op_move rfl) rfl rfl ?_
  refine RS.call (u := .tup []) (args := [.isl false (List.map cGBracket ([] : List GBracket)), .int .i64 0, .int .i64 0, .int .i64 r1, .fn (.func 31) [] []]) rfl (op_call rfl rfl Try.fn44 Try.hb44 rfl rfl) (slices_pdqsortCmpFunc_Bracket_compare_ok f1 hf1 n r1 r3 h4 _) rfl rfl ?_
  refine RS.done ?_
  repeat (first | refine q1 ?_ | refine q2 ?_ | refine q3 ?_ | refine q4 ?_ | refine q5 ?_ | refine q6 ?_ | refine q7 (by decide) ?_ | refine q8 ?_ | refine q9 ?_ | refine q0 ?_)
  have hr := Option.some.inj hF
  subst hr
  exact ⟨.inl rfl, [], res_n, .tup [], ⟨[], 0⟩, Nat.le_refl _, Gh.to (n1 := 0) [] rfl rfl (Nat.le_refl _) (Nat.zero_le _) (by simp only [oneU, BelL, Bel, true_and, and_true, and_assoc]) (by simp [BelH, cut]), rfl, by simp only [BelL, Bel, true_and, and_true, and_assoc]⟩
end Go.Proofs
end
section
namespace Go.Proofs
open Go Go.Rx Go.Vx Go.Shelf Go.Sort
set_option linter.unusedVariables false
set_option maxRecDepth 10000
theorem bytesEq_refl : ∀ a : List UInt8, bytesEq a a = true
  | [] => rfl
  | x :: a => by simp [bytesEq, bytesEq_refl a]
theorem bytesEq_iff : ∀ a b : List UInt8, bytesEq a b = true ↔ a = b
  | [], [] => by simp [bytesEq]
  | [], _ :: _ => by simp [bytesEq]
  | _ :: _, [] => by simp [bytesEq]
  | x :: a, y :: b => by
    have h : (x.toNat = y.toNat) ↔ x = y := UInt8.toNat_inj
    simp only [bytesEq, beq_eq]
    by_cases e : x = y
    · subst e; simp [bytesEq_iff a b]
    · simp [e, mt h.1 e]
theorem blt_iff (a b : Nat) : Nat.blt a b = true ↔ a < b := by
  unfold Nat.blt
  rw [Nat.ble_eq]; exact Iff.rfl
theorem blt_iff' (a b : Nat) : Nat.blt a b = decide (a < b) := by
  rw [Bool.eq_iff_iff, blt_iff]; simp
theorem bytesLt_irrefl : ∀ a : List UInt8, bytesLt a a = false
  | [] => rfl
  | x :: a => by simp [bytesLt, blt_iff', bytesLt_irrefl a]
theorem bytesLt_trans : ∀ a b c : List UInt8, bytesLt a b = true → bytesLt b c = true → bytesLt a c = true
  | _, [], _, h, _ => by simp [bytesLt] at h
  | _, _ :: _, [], _, h => by simp [bytesLt] at h
  | [], _ :: _, _ :: _, _, _ => by simp [bytesLt]
  | x :: a, y :: b, z :: c, h1, h2 => by
    simp only [bytesLt, blt_iff', beq_eq] at *
    by_cases h : x.toNat < y.toNat
    · by_cases h' : y.toNat < z.toNat
      · have : x.toNat < z.toNat := by omega
        simp [this]
      · simp only [h', decide_false, cond_false] at h2
        by_cases e : y.toNat = z.toNat
        · have : x.toNat < z.toNat := by omega
          simp [this]
        · simp [e] at h2
    · simp only [h, decide_false, cond_false] at h1
      by_cases e : x.toNat = y.toNat
      · simp only [e, decide_true, cond_true] at h1
        by_cases h' : y.toNat < z.toNat
        · simp [e, h']
        · simp only [h', decide_false, cond_false] at h2
          by_cases e' : y.toNat = z.toNat
          · simp only [e', decide_true, cond_true] at h2
            have := bytesLt_trans a b c h1 h2
            simp [e, e', this]
          · simp [e'] at h2
      · simp [e] at h1
theorem bytesLt_total : ∀ a b : List UInt8, bytesLt a b = false → bytesLt b a = false → a = b
  | [], [], _, _ => rfl
  | [], _ :: _, h, _ => by simp [bytesLt] at h
  | _ :: _, [], _, h => by simp [bytesLt] at h
  | x :: a, y :: b, h1, h2 => by
    simp only [bytesLt, blt_iff', beq_eq] at *
    by_cases h : x.toNat < y.toNat
    · simp [h] at h1
    · by_cases h' : y.toNat < x.toNat
      · simp [h'] at h2
      · have e : x.toNat = y.toNat := by omega
        simp only [e, Nat.lt_irrefl, decide_false, cond_false, decide_true, cond_true] at h1 h2
        rw [bytesLt_total a b h1 h2, UInt8.toNat_inj.1 e]
theorem swo_of {α : Type} {lt : α → α → Bool} (h1 : ∀ x, lt x x = false) (h2 : ∀ x y z, lt x y = true → lt y z = true → lt x z = true) (h3 : ∀ x y, lt x y = false → lt y x = false → x = y) : SWO lt where
  irrefl := h1
  trans := h2
  ntrans := fun x y z hxy hyz => by
    cases hxz : lt x z with
    | false => rfl
    | true =>
      cases hyx : lt y x with
      | true => have := h2 y x z hyx hxz; rw [hyz] at this; cases this
      | false => have := h3 x y hxy hyx; subst this; rw [hxz] at hyz; cases hyz
def ltB (x y : GBracket) : Bool := if x.From ≠ y.From then decide (x.From < y.From) else if x.To ≠ y.To then decide (x.To < y.To) else bytesLt x.Name y.Name
theorem ltB_irrefl (x : GBracket) : ltB x x = false := by simp [ltB, bytesLt_irrefl]
theorem ltB_trans (x y z : GBracket) (h1 : ltB x y = true) (h2 : ltB y z = true) : ltB x z = true := by
  simp only [ltB] at *
  by_cases a : x.From = y.From
  · simp only [a, ne_eq, not_true_eq_false, if_false] at h1 ⊢
    by_cases b : y.From = z.From
    · simp only [b, ne_eq, not_true_eq_false, if_false] at h2 ⊢
      by_cases c : x.To = y.To
      · simp only [c, not_true_eq_false, if_false] at h1 ⊢
        by_cases d : y.To = z.To
        · simp only [d, not_true_eq_false, if_false] at h2 ⊢
          exact bytesLt_trans _ _ _ h1 h2
        · simpa [d] using h2
      · simp only [c, not_false_eq_true, if_true, decide_eq_true_eq] at h1
        by_cases d : y.To = z.To
        · have : ¬ x.To = z.To := by omega
          simp only [this, not_false_eq_true, if_true, decide_eq_true_eq]; omega
        · simp only [d, not_false_eq_true, if_true, decide_eq_true_eq] at h2
          have : ¬ x.To = z.To := by omega
          simp only [this, not_false_eq_true, if_true, decide_eq_true_eq]; omega
    · simpa [b] using h2
  · simp only [a, ne_eq, not_false_eq_true, if_true, decide_eq_true_eq] at h1
    by_cases b : y.From = z.From
    · have : ¬ x.From = z.From := by omega
      simp only [this, ne_eq, not_false_eq_true, if_true, decide_eq_true_eq]; omega
    · simp only [b, ne_eq, not_false_eq_true, if_true, decide_eq_true_eq] at h2
      have : ¬ x.From = z.From := by omega
      simp only [this, ne_eq, not_false_eq_true, if_true, decide_eq_true_eq]; omega
theorem ltB_total (x y : GBracket) (h1 : ltB x y = false) (h2 : ltB y x = false) : x = y := by
  simp only [ltB] at *
  by_cases a : x.From = y.From
  · simp only [a, ne_eq, not_true_eq_false, if_false] at h1 h2
    by_cases c : x.To = y.To
    · simp only [c, not_true_eq_false, if_false] at h1 h2
      have := bytesLt_total _ _ h1 h2
      cases x; cases y; simp_all
    · have c' : ¬ y.To = x.To := fun h => c h.symm
      simp only [c, c', not_false_eq_true, if_true, decide_eq_false_iff_not] at h1 h2
      omega
  · have a' : ¬ y.From = x.From := fun h => a h.symm
    simp only [a, a', ne_eq, not_false_eq_true, if_true, decide_eq_false_iff_not] at h1 h2
    omega
def ccB (x y : GBracket) : Int := if ltB x y then -1 else if ltB y x then 1 else 0
theorem cmpInt_eq (n : Nat) (a b : Int) : cmp_Compare_int n a b = some (if a < b then -1 else if b < a then 1 else 0) := by
  simp only [cmp_Compare_int, cmp_isNaN_int, bindO_s, bne_self_eq_false, cond_false]
  by_cases h : a < b
  · simp [h]
  · by_cases h' : b < a
    · simp [h, h']
    · simp [h, h']
theorem cmpStr_eq (n : Nat) (a b : List UInt8) : cmp_Compare_string n a b = some (if bytesLt a b then -1 else if bytesLt b a then 1 else 0) := by
  simp only [cmp_Compare_string, cmp_isNaN_string, bindO_s, bytesEq_refl, Bool.not_true, cond_false]
  cases h : bytesLt a b with
  | true => simp
  | false =>
    cases h' : bytesLt b a with
    | true =>
      have : bytesEq a b = false := by
        cases he : bytesEq a b with
        | false => rfl
        | true => have := (bytesEq_iff a b).1 he; subst this; rw [h] at h'; cases h'
      simp [this]
    | false => have := bytesLt_total a b h h'; subst this; simp [bytesEq_refl]
theorem compare_eq (n : Nat) (x y : GBracket) : evaluate_compare n x y = some (ccB x y) := by
  simp only [evaluate_compare, cmpInt_eq, cmpStr_eq, bindO_s, ccB, ltB]
  by_cases a : x.From = y.From
  · by_cases b : x.To = y.To
    · simp [a, b]
    · have b' : ¬ y.To = x.To := fun h => b h.symm
      by_cases c : x.To < y.To
      · simp [a, b, c]
      · have d : y.To < x.To := by omega
        have e : ¬ x.To < y.To := by omega
        simp [a, b, b', d, e]
  · have a' : ¬ y.From = x.From := fun h => a h.symm
    by_cases c : x.From < y.From
    · simp [a, c]
    · have d : y.From < x.From := by omega
      simp [a, a', c, d]
theorem ltOf_ccB : ltOf ccB = ltB := by
  funext x y
  simp only [ltOf, ccB]
  rcases bool_tf (ltB x y) with h | h
  · simp [h]
  · rcases bool_tf (ltB y x) with h' | h' <;> simp [h, h']
theorem swoB : SWO (ltOf ccB) := by rw [ltOf_ccB]; exact swo_of ltB_irrefl ltB_trans ltB_total
def srtB (l : List GBracket) : List GBracket := srt ltB l
theorem srtB_len (l : List GBracket) : (srtB l).length = l.length := (srt_perm ltB l).length_eq
def vB (x : GBracket) : List Value := [.string ⟨⟨x.Name⟩⟩, .int .i64 x.From, .int .i64 x.To]
theorem srtB_ok (xs : List GBracket) (hlen : xs.length < 4611686018427387904) (σ : Sg) {K t : Nat} (hK : Nat.blt K σ.nx = true) (hg : gt σ.h K = some (.vec (List.map cGBracket xs).flatten 53 3 t)) :
    EvU Try.prog 30 [.vl K t 0 xs.length, .fn (.func 31) [] []] σ (fun u σ' => u = .tup [] ∧ σ' = ⟨ug σ.h K (.vec (List.map cGBracket (srtB xs)).flatten 53 3 t), σ.nx⟩) := by
  by_cases hne : xs = []
  · subst hne
    have h0 := slices_SortFunc_Bracket_compare_0 (fun x y => some (ccB x y)) (fun a0 a1 r h => by
        have := evaluate_compare_0 0 a0 a1 r (by rw [compare_eq]; exact h)
        exact this) 1 () rfl
    have h1 := EvU.view0 (args' := [.vl K t 0 ([] : List GBracket).length, .fn (.func 31) [] []]) (σ := σ) h0 (by simp [BelL, Bel, BelR]) (Gh.trans (Gh.fz K (.vec (List.map cGBracket ([] : List GBracket)).flatten 53 3 t) 3 hg (by simp) rfl rfl) (Gh.eqv (by
        simp only [fzL_cons, fzL_nil, fz_vl len_cGBracket, fz_fn]) rfl))
    refine h1.mono ?_
    rintro u σ' ⟨rfl, rfl⟩
    refine ⟨rfl, ?_⟩
    have : ug σ'.h K (.vec (List.map cGBracket (srtB [])).flatten 53 3 t) = σ'.h := by
      have hu : ∀ (h : List (Nat × B)) (b : B), gt h K = some b → ug h K b = h := by
        intro h
        induction h with
        | nil => intro b hb; simp [gt] at hb
        | cons p h ih =>
          obtain ⟨j, c⟩ := p
          intro b hb
          simp only [gt, ug, beq_eq] at hb ⊢
          by_cases e : j = K
          · simp [e] at hb; simp [e, hb]
          · simp only [e, decide_false, cond_false] at hb ⊢; rw [ih b hb]
      exact hu _ _ hg
    rw [this]
  · have h := EvU.srtT (P := Try.prog) (f := 30) (g := 31) (enc := vB) (encU := cGBracket) (k := 3) (fun _ => rfl) (by omega) (fun x => rfl) (fun x => rfl) (fun m x => by simp [vB, renL, ren]) (cf := ccB) swoB (by rw [ltOf_ccB]; exact ltB_total)
      (fun blk off cap d w h1 h2 h3 => AnyQ.slices_SortFunc Try.sortB 3 Try.isAgg53 Try.sizeOf53 vB (fun _ => rfl) (fun x v hv => by
          simp only [vB, List.mem_cons, List.not_mem_nil, or_false] at hv
          rcases hv with rfl | rfl | rfl <;> rfl) ccB swoB 31 #[] blk off cap d w (enters_of Try.func31 (by kernel_rfl) rfl) (fun m os dk hs x y => by
          have hg := EvU.grows (P := Try.prog) (g := 31) (args := [.agg (cGBracket x), .agg (cGBracket y)]) (vs := [.agg (vB x).toArray, .agg (vB y).toArray]) (u := .int .i64 (ccB x y)) (cv := .int .i64 (ccB x y)) ((evaluate_compare_0 0 x y (ccB x y) (compare_eq 0 x y)).mono fun u s h => h.1) rfl rfl (fun m => by simp [renL, ren, vB]) (fun m => by simp [ren]) (sortWorldK vB 3 w blk off m dk os)
          exact hg) h1 h2 h3) (σ := σ) (K := K) (st := t) (e := 53) xs hne hlen hg
    refine h.mono ?_
    rintro u σ' ⟨rfl, rfl⟩
    exact ⟨rfl, by rw [ltOf_ccB]; rfl⟩
end Go.Proofs
end
section
namespace Go.Proofs
open Go Go.Rx
set_option maxRecDepth 1000000
theorem Try.run11 : (callX Try.tb 100000 60 11 [] ⟨[], 0⟩).map (·.1) = some (.bool true) := by kernel_rfl
theorem Try.example_ok (w : World) : Calls Try.prog 11 #[] w fun e w' => e = .returned (.bool true) ∧ RowKit.Below w.heap.size w w' ∧ w.drawn ≤ w'.drawn := by
  have h := Try.run11
  cases hc : callX Try.tb 100000 60 11 [] ⟨[], 0⟩ with
  | none => rw [hc] at h; cases h
  | some q =>
    obtain ⟨v, s⟩ := q
    rw [hc] at h
    simp only [Option.map_some, Option.some.injEq] at h
    subst h
    exact call_closed Try.tb_ok hc (fun _ => by simp [renL]) (fun _ => by simp [ren]) w
end Go.Proofs
end
section
namespace Go.Proofs
open Go Go.Rx Go.Vx
def law50_exampleHolds (n : Nat) : Option Bool := some true
theorem law50_exampleHolds_ok (n : Nat) (r : Bool) (hF : law50_exampleHolds n = some r) (σ : Sg) : EvU Try.prog 11 [] σ (fun u σ' => u = .bool r ∧ σ' = σ) := by
  cases hF
  exact EvU.of_closed Try.example_ok (fun x => by simp [Rel]) (fun m => by simp [ren]) σ
end Go.Proofs
end
section
namespace Go.Proofs
open Go Go.Rx Go.Vx
set_option maxRecDepth 10000
set_option linter.unusedSimpArgs false
set_option linter.unusedVariables false
def evaluate_Brackets (n : Nat) (p1 : GDeriv) : Option ((List GBracket)) :=
  bindO (evaluate_gather n ([] : List GBracket) p1) fun r2 =>
  needO (r2.length < 4611686018427387904) (
  some (srtB r2))
theorem evaluate_Brackets_0 (n : Nat) (p1 : GDeriv) (r : (List GBracket)) (hF : evaluate_Brackets n p1 = some r) : EvU Try.prog 13 [.agg [.int .i64 p1.Kind, .str p1.Name, .int .i64 p1.From, .int .i64 p1.To, .isl false (List.map cGDeriv p1.Kids)]] ⟨[], 0⟩ (fun u _ => u = .isl false (List.map cGBracket r) ∧ Bel 0 u) := by
  unfold evaluate_Brackets at hF
  refine EvU.of_body Try.tb_ok Try.fn13 rfl ?_
  refine WPU.ghost (tm' := fr 9 [(0, .agg [.int .i64 p1.Kind, .str p1.Name, .int .i64 p1.From, .int .i64 p1.To, .isl false (List.map cGDeriv p1.Kids)])]) (Gh.start (Nat.le_of_ble_eq_true rfl)) (Nat.zero_le _) ?_
  repeat refine WPU.seq ?_
  refine WPU.region Try.tb_ok ?_
  refine RS.op (u := .ptr 0 0 0) (σ' := ⟨[(0, .row [.int .i64 p1.Kind, .str p1.Name, .int .i64 p1.From, .int .i64 p1.To, .isl false (List.map cGDeriv p1.Kids)] 24)], 1⟩) rfl (op_box rfl rfl rfl) rfl rfl ?_
  refine RS.op (u := .nils) rfl (op_assign rfl) rfl rfl ?_
  refine RS.done ?_
  repeat (first | refine q1 ?_ | refine q2 ?_ | refine q3 ?_ | refine q4 ?_ | refine q5 ?_ | refine q6 ?_ | refine q7 (by decide) ?_ | refine q8 ?_ | refine q9 ?_ | refine q0 ?_)
  repeat refine WPU.seq ?_
  obtain ⟨r2, h3, hF⟩ := bindO_some hF
  refine WPU.region Try.tb_ok ?_
  refine RS.op (u := .agg [.int .i64 p1.Kind, .str p1.Name, .int .i64 p1.From, .int .i64 p1.To, .isl false (List.map cGDeriv p1.Kids)]) rfl (ld_agg Try.und24 rfl (sz_of Try.inf24) rfl rfl rfl) rfl rfl ?_
  refine RS.callx (args := [.nils, .agg [.int .i64 p1.Kind, .str p1.Name, .int .i64 p1.From, .int .i64 p1.To, .isl false (List.map cGDeriv p1.Kids)]]) rfl (op_call rfl rfl Try.fn29 Try.hb29 rfl rfl) (EvU.nil1 53 3 (by decide) (evaluate_gather_ok n ([] : List GBracket) p1 r2 h3 _ rfl rfl)) rfl rfl ?_
  rintro _ _ ⟨t4, rfl, rfl⟩
  refine RS.op (u := .vl 1 t4 0 r2.length) rfl (op_assign rfl) rfl rfl ?_
  refine RS.done ?_
  repeat (first | refine q1 ?_ | refine q2 ?_ | refine q3 ?_ | refine q4 ?_ | refine q5 ?_ | refine q6 ?_ | refine q7 (by decide) ?_ | refine q8 ?_ | refine q9 ?_ | refine q0 ?_)
  repeat refine WPU.seq ?_
  obtain ⟨h5, hF⟩ := needO_some hF
  refine WPU.joinK (fun tm σ => tm = fr 9 [(3, .vl 1 t4 0 ((srtB r2).length))] ∧ σ = ⟨[(1, .vec (List.map cGBracket (srtB r2)).flatten 53 3 t4), (0, .row [.int .i64 p1.Kind, .str p1.Name, .int .i64 p1.From, .int .i64 p1.To, .isl false (List.map cGDeriv p1.Kids)] 24)], 2⟩) ?_ ?_
  · skip
    rintro _ _ ⟨rfl, rfl⟩
    repeat (first | refine q1 ?_ | refine q2 ?_ | refine q3 ?_ | refine q4 ?_ | refine q5 ?_ | refine q6 ?_ | refine q7 (by decide) ?_ | refine q8 ?_ | refine q9 ?_ | refine q0 ?_)
    repeat refine WPU.seq ?_
    refine WPU.region Try.tb_ok ?_
    refine RS.op (u := .vl 1 t4 0 ((srtB r2).length)) rfl (op_move rfl) rfl rfl ?_
    refine RS.op (u := .vl 1 t4 0 ((srtB r2).length)) rfl (op_assign rfl) rfl rfl ?_
    refine RS.done ?_
    repeat (first | refine q1 ?_ | refine q2 ?_ | refine q3 ?_ | refine q4 ?_ | refine q5 ?_ | refine q6 ?_ | refine q7 (by decide) ?_ | refine q8 ?_ | refine q9 ?_ | refine q0 ?_)
    repeat refine WPU.seq ?_
    refine WPU.ret ?_
    repeat (first | refine q1 ?_ | refine q2 ?_ | refine q3 ?_ | refine q4 ?_ | refine q5 ?_ | refine q6 ?_ | refine q7 (by decide) ?_ | refine q8 ?_ | refine q9 ?_ | refine q0 ?_)
    have hr := Option.some.inj hF
    subst hr
    exact ⟨.inr rfl, [.vl 1 t4 0 ((srtB r2).length)], res_t rfl (res_n), .isl false (List.map cGBracket (srtB r2)), ⟨[], 0⟩, Nat.le_refl _, Gh.trans (Gh.fz (tm' := [.isl false (List.map cGBracket (srtB r2))]) (h' := [(0, .row [.int .i64 p1.Kind, .str p1.Name, .int .i64 p1.From, .int .i64 p1.To, .isl false (List.map cGDeriv p1.Kids)] 24)]) 1 (.vec (List.map cGBracket (srtB r2)).flatten 53 3 t4) 3 rfl (by simp) (by simp only [oneU, fzL_nil, fzL_cons, fz_int, fz_bool, fz_str, fz_nils, fz_nilp, fz_nilm, fz_nilf, fz_junk, fz_isl, fz_map, fz_agg, fz_tup, fz_fn, junkT, fz_vl len_cGBracket]) (by simp only [fzH, fzB, Nat.beq, cond_true, cond_false, oneU, fzL_nil, fzL_cons, fz_int, fz_bool, fz_str, fz_nils, fz_nilp, fz_nilm, fz_nilf, fz_junk, fz_isl, fz_map, fz_agg, fz_tup, fz_fn, junkT, fz_vl len_cGBracket])) (Gh.to (n1 := 0) [] rfl rfl (Nat.le_refl _) (Nat.zero_le _) (by simp only [oneU, BelL, Bel, true_and, and_true, and_assoc]; exact belR_map _ (fun q => bel_cGBracket _ q) _) (by simp [BelH, cut])), rfl, by simp only [BelL, Bel, true_and, and_true, and_assoc]; exact belR_map _ (fun q => bel_cGBracket _ q) _⟩
  · skip
    refine WPU.region Try.tb_ok ?_
    refine RS.op (u := .vl 1 t4 0 r2.length) rfl (op_move rfl) rfl rfl ?_
    refine RS.callx (args := [.vl 1 t4 0 r2.length, .fn (.func 31) [] []]) rfl (op_call rfl rfl Try.fn30 Try.hb30 rfl rfl) (srtB_ok r2 h5 _ rfl rfl) rfl rfl ?_
    rintro _ _ ⟨rfl, rfl⟩
    refine RS.done ?_
    repeat (first | refine q1 ?_ | refine q2 ?_ | refine q3 ?_ | refine q4 ?_ | refine q5 ?_ | refine q6 ?_ | refine q7 (by decide) ?_ | refine q8 ?_ | refine q9 ?_ | refine q0 ?_)
    exact ⟨fr 9 [(3, .vl 1 t4 0 ((srtB r2).length))], ⟨[(1, .vec (List.map cGBracket (srtB r2)).flatten 53 3 t4), (0, .row [.int .i64 p1.Kind, .str p1.Name, .int .i64 p1.From, .int .i64 p1.To, .isl false (List.map cGDeriv p1.Kids)] 24)], 2⟩, ⟨rfl, rfl⟩, (Nat.zero_le _), Gh.eqS ⟨(by rw [srtB_len r2]; rfl), trivial⟩ rfl⟩
theorem evaluate_Brackets_ok (n : Nat) (p1 : GDeriv) (r : (List GBracket)) (hF : evaluate_Brackets n p1 = some r) (σ : Sg) : EvU Try.prog 13 [.agg [.int .i64 p1.Kind, .str p1.Name, .int .i64 p1.From, .int .i64 p1.To, .isl false (List.map cGDeriv p1.Kids)]] σ (fun u σ' => u = .isl false (List.map cGBracket r) ∧ σ' = σ) :=
  EvU.pure1 (evaluate_Brackets_0 n p1 r hF) (by simp only [BelL, Bel, true_and, and_true, and_assoc]; exact belR_map _ (fun q => bel_cGDeriv _ q) _) σ
end Go.Proofs
end
section
namespace Go.Proofs
open Go Go.Rx Go.Vx Go.Sort
set_option linter.unusedVariables false
theorem len_lt_sizeOf {α : Type} [SizeOf α] : ∀ l : List α, l.length < SizeOf.sizeOf l
  | [] => by simp
  | x :: l => by have := len_lt_sizeOf l; simp; omega
theorem kid_lt (d : GDeriv) {x : GDeriv} (h : x ∈ d.Kids) : SizeOf.sizeOf x < SizeOf.sizeOf d := by
  cases d with
  | mk a b c e ks =>
    have := List.sizeOf_lt_of_mem h
    simp only [GDeriv.Kids] at this
    simp only [GDeriv.mk.sizeOf_spec]
    omega
theorem kids_lt (d : GDeriv) : d.Kids.length + 1 < SizeOf.sizeOf d := by
  cases d with
  | mk a b c e ks =>
    have := len_lt_sizeOf ks
    simp only [GDeriv.Kids, GDeriv.mk.sizeOf_spec]
    omega
mutual
def okG : GDeriv → Prop
  | .mk _ _ _ _ ks => ks.length ≤ 9223372036854775807 ∧ okGs ks
def okGs : List GDeriv → Prop
  | [] => True
  | d :: l => okG d ∧ okGs l
end
theorem okGs_mem : ∀ {l : List GDeriv}, okGs l → ∀ d ∈ l, okG d
  | [], _, d, h => by cases h
  | e :: l, h, d, hd => by
    simp only [okGs] at h
    rcases List.mem_cons.1 hd with rfl | hd
    · exact h.1
    · exact okGs_mem h.2 d hd
theorem okG_len {d : GDeriv} (h : okG d) : d.Kids.length ≤ 9223372036854775807 := by cases d; simp only [okG] at h; exact h.1
theorem okG_kid {d : GDeriv} (h : okG d) {x : GDeriv} (hx : x ∈ d.Kids) : okG x := by cases d; simp only [okG] at h; exact okGs_mem h.2 x hx
mutual
def nodes : GDeriv → Nat
  | .mk _ _ _ _ ks => 1 + nodesL ks
def nodesL : List GDeriv → Nat
  | [] => 0
  | d :: l => nodes d + nodesL l
end
theorem nodes_eq (d : GDeriv) : nodes d = 1 + nodesL d.Kids := by cases d; simp [nodes, GDeriv.Kids]
theorem nodesL_app : ∀ a b : List GDeriv, nodesL (a ++ b) = nodesL a + nodesL b
  | [], b => by simp [nodesL]
  | d :: a, b => by simp [nodesL, nodesL_app a b]; omega
theorem nodesL_take {l : List GDeriv} {i : Nat} {x : GDeriv} (h : l[i]? = some x) : nodesL (l.take (i + 1)) = nodesL (l.take i) + nodes x := by
  rw [List.take_add_one, h, nodesL_app]; simp [nodesL]
theorem take_snoc {α : Type} {l : List α} {i : Nat} {x : α} (h : l[i]? = some x) : l.take (i + 1) = l.take i ++ [x] := by rw [List.take_add_one, h]; rfl
theorem wr {z : Int} (h1 : -9223372036854775808 ≤ z) (h2 : z ≤ 9223372036854775807) : IntKind.i64.wrap z = z := wrap_i64 (by omega) (by omega)
theorem wr1 {i len : Nat} (h : i < len) (hl : len ≤ 9223372036854775807) : IntKind.i64.wrap ((i : Int) + 1) = ((i + 1 : Nat) : Int) := by rw [wr (by omega) (by omega)]; simp
theorem get_of {α : Type} {l : List α} {i : Nat} (h : i < l.length) : ∃ x, l[i]? = some x ∧ x ∈ l := ⟨l[i], by simp [h], by simp⟩
theorem count_L {d : GDeriv} (hl : d.Kids.length ≤ 9223372036854775807) {lim : Int} (h0 : 0 ≤ lim) (h1 : lim ≤ 40) {self : GDeriv → Int → Option Int}
    (hself : ∀ x ∈ d.Kids, ∀ q : Int, 0 ≤ q → q ≤ 40 → ∃ c, self x q = some c ∧ 1 ≤ c ∧ c ≤ q + 1 ∧ (c ≤ q → c = nodes x)) :
    ∀ (m i : Nat) (acc : Int), d.Kids.length - i < m → i ≤ d.Kids.length → 1 ≤ acc → acc ≤ lim + 1 → (acc ≤ lim → acc = 1 + nodesL (d.Kids.take i)) →
      ∃ c, law50_count_L1 d lim self m acc i = some c ∧ 1 ≤ c ∧ c ≤ lim + 1 ∧ (c ≤ lim → c = 1 + nodesL d.Kids)
  | 0, i, acc, hm, _, _, _, _ => by omega
  | m + 1, i, acc, hm, hi, ha, hb, hc => by
    unfold law50_count_L1
    by_cases hlt : i < d.Kids.length
    · obtain ⟨x, hx, hmem⟩ := get_of hlt
      have e1 : decide ((i : Int) < (d.Kids.length : Int)) = true := by simp; omega
      by_cases hal : acc ≤ lim
      · simp only [e1, cond_true, bindO_s, hal, decide_true, idxO_nat, hx]
        rw [wr (by omega) (by omega)]
        obtain ⟨c, g1, g2, g3, g4⟩ := hself x hmem (lim - acc) (by omega) (by omega)
        rw [g1, bindO_s, wr (by omega) (by omega), wr1 hlt hl]
        refine count_L hl h0 h1 hself m (i + 1) (acc + c) (by omega) (by omega) (by omega) (by omega) fun h => ?_
        rw [nodesL_take hx, g4 (by omega), hc hal]
        omega
      · simp only [e1, cond_true, bindO_s, hal, decide_false, cond_false, law50_count_K1]
        exact ⟨acc, rfl, ha, hb, fun h => absurd h hal⟩
    · have e1 : decide ((i : Int) < (d.Kids.length : Int)) = false := by simp; omega
      simp only [e1, cond_false, bindO_s, law50_count_K1]
      refine ⟨acc, rfl, ha, hb, fun h => ?_⟩
      have : i = d.Kids.length := by omega
      rw [hc h, this, List.take_length]
theorem count_ok : ∀ (s : Nat) (d : GDeriv), SizeOf.sizeOf d < s → okG d → ∀ n, SizeOf.sizeOf d ≤ n → ∀ lim : Int, 0 ≤ lim → lim ≤ 40 → ∃ c, law50_count n d lim = some c ∧ 1 ≤ c ∧ c ≤ lim + 1 ∧ (c ≤ lim → c = nodes d)
  | 0, d, hs, _, _, _, _, _, _ => by omega
  | s + 1, d, hs, hok, n, hn, lim, h0, h1 => by
    have hk := kids_lt d
    cases n with
    | zero => omega
    | succ n =>
      obtain ⟨c, g1, g2, g3, g4⟩ := count_L (okG_len hok) h0 h1 (self := law50_count n) (fun x hx q q0 q1 => by
        have := kid_lt d hx
        exact count_ok s x (by omega) (okG_kid hok hx) n (by omega) q q0 q1) n 0 1 (by omega) (by omega) (by omega) (by omega) (fun _ => by simp [nodesL])
      refine ⟨c, ?_, g2, g3, fun h => ?_⟩
      · simp only [law50_count, law50_count_b]; simpa using g1
      · rw [nodes_eq, g4 h]; simp
theorem nested_L2 {z : Int} {rc : Int → Option Bool} (hrc : ∃ b, rc (IntKind.i64.wrap (z + 1)) = some b) {x : GDeriv} {l : List GDeriv} (hl : l.length ≤ 9223372036854775807) : ∀ (m i : Nat), l.length - i < m → i ≤ l.length → ∃ b, law50_nested_L2 z rc x l m i = some b
  | 0, i, hm, _ => by omega
  | m + 1, i, hm, hi => by
    unfold law50_nested_L2
    by_cases hlt : i < l.length
    · obtain ⟨y, hy, _⟩ := get_of hlt
      have e1 : decide ((i : Int) < (l.length : Int)) = true := by simp; omega
      simp only [e1, cond_true, idxO_nat, hy, bindO_s]
      rw [wr1 hlt hl]
      obtain ⟨b, hb⟩ := nested_L2 hrc hl m (i + 1) (by omega) (by omega)
      rcases bool_tf (decide (x.From < y.To)) with h | h
      · rcases bool_tf (decide (y.From < x.To)) with h' | h'
        · simp [h, h']
        · simp only [h, h', cond_true, cond_false, bindO_s]; exact ⟨b, hb⟩
      · simp only [h, cond_false, bindO_s]; exact ⟨b, hb⟩
    · have e1 : decide ((i : Int) < (l.length : Int)) = false := by simp; omega
      simp only [e1, cond_false, law50_nested_K2]
      exact hrc
theorem nested_L1 {d : GDeriv} (hl : d.Kids.length ≤ 9223372036854775807) {n : Nat} (hn : d.Kids.length < n) {self : GDeriv → Option Bool} (hself : ∀ x ∈ d.Kids, ∃ b, self x = some b) : ∀ (m i : Nat), d.Kids.length - i < m → i ≤ d.Kids.length → ∃ b, law50_nested_L1 d n self m i = some b
  | 0, i, hm, _ => by omega
  | m + 1, i, hm, hi => by
    unfold law50_nested_L1
    by_cases hlt : i < d.Kids.length
    · obtain ⟨x, hx, hmem⟩ := get_of hlt
      have e1 : decide ((i : Int) < (d.Kids.length : Int)) = true := by simp; omega
      simp only [e1, cond_true, idxO_nat, hx, bindO_s]
      obtain ⟨b, hb⟩ := nested_L1 hl hn hself m (i + 1) (by omega) (by omega)
      have hcut : cutO d.Kids 0 (i : Int) = some (d.Kids.take i) := by
        unfold cutO
        rw [if_pos ⟨by omega, by omega, by omega⟩]; simp
      have hin : ∃ b, bindO (cutO d.Kids 0 (i : Int)) (fun l22 => law50_nested_L2 i (law50_nested_L1 d n self m) x l22 n 0) = some b := by
        rw [hcut, bindO_s]
        have hlen : (d.Kids.take i).length = i := by simp; omega
        exact nested_L2 (l := d.Kids.take i) ⟨b, by rw [wr1 hlt hl]; exact hb⟩ (by omega) n 0 (by omega) (by omega)
      obtain ⟨b', hb'⟩ := hin
      obtain ⟨q, hq⟩ := hself x hmem
      rcases bool_tf (decide (x.From < d.From)) with h | h
      · simp [h]
      · rcases bool_tf (decide (x.To > d.To)) with h' | h'
        · simp [h, h']
        · simp only [h, h', cond_false, hq, bindO_s]
          cases q with
          | false => simp
          | true => simp only [Bool.not_true, cond_false]; exact ⟨b', hb'⟩
    · have e1 : decide ((i : Int) < (d.Kids.length : Int)) = false := by simp; omega
      simp only [e1, cond_false, law50_nested_K1]
      exact ⟨true, rfl⟩
theorem nested_ok : ∀ (s : Nat) (d : GDeriv), SizeOf.sizeOf d < s → okG d → ∀ n, SizeOf.sizeOf d ≤ n → ∃ b, law50_nested n d = some b
  | 0, d, hs, _, _, _ => by omega
  | s + 1, d, hs, hok, n, hn => by
    have hk := kids_lt d
    cases n with
    | zero => omega
    | succ n =>
      simp only [law50_nested, law50_nested_b]
      rcases bool_tf (decide (d.From ≥ d.To)) with h | h
      · simp [h]
      · simp only [h, cond_false]
        have := nested_L1 (okG_len hok) (n := n) (by omega) (self := law50_nested n) (fun x hx => by
          have := kid_lt d hx
          exact nested_ok s x (by omega) (okG_kid hok hx) n (by omega)) n 0 (by omega) (by omega)
        simpa using this
end Go.Proofs
end
section
namespace Go.Proofs
open Go Go.Rx Go.Vx Go.Sort
set_option linter.unusedVariables false
mutual
def brs : GDeriv → List GBracket
  | .mk k nm a b ks => (if k = 2 then [⟨nm, a, b⟩] else []) ++ brsL ks
def brsL : List GDeriv → List GBracket
  | [] => []
  | d :: l => brs d ++ brsL l
end
theorem brs_eq (d : GDeriv) : brs d = (if d.Kind = 2 then [⟨d.Name, d.From, d.To⟩] else []) ++ brsL d.Kids := by cases d; simp only [brs]; rfl
mutual
theorem brs_len : ∀ d : GDeriv, (brs d).length ≤ nodes d
  | .mk k nm a b ks => by
    have := brsL_len ks
    simp only [brs, nodes, List.length_append]
    split <;> simp <;> omega
theorem brsL_len : ∀ l : List GDeriv, (brsL l).length ≤ nodesL l
  | [] => by simp [brsL]
  | d :: l => by
    have := brs_len d
    have := brsL_len l
    simp only [brsL, nodesL, List.length_append]; omega
end
theorem drop_cons' {α : Type} {l : List α} {i : Nat} {x : α} (h : l[i]? = some x) : l.drop i = x :: l.drop (i + 1) := by
  have hlt : i < l.length := (List.getElem?_eq_some_iff.1 h).1
  rw [List.drop_eq_getElem_cons hlt]
  congr 1
  rw [List.getElem?_eq_getElem hlt] at h
  exact Option.some.inj h
theorem nodesL_drop {l : List GDeriv} {i : Nat} {x : GDeriv} (h : l[i]? = some x) : nodesL (l.drop i) = nodes x + nodesL (l.drop (i + 1)) := by rw [drop_cons' h]; simp [nodesL]
theorem gather_L {d : GDeriv} (hl : d.Kids.length ≤ 9223372036854775807) {self : List GBracket → GDeriv → Option (List GBracket)} (hself : ∀ x ∈ d.Kids, ∀ l, l.length + nodes x ≤ 1000 → self l x = some (l ++ brs x)) :
    ∀ (m i : Nat) (l : List GBracket), d.Kids.length - i < m → i ≤ d.Kids.length → l.length + nodesL (d.Kids.drop i) ≤ 1000 → evaluate_gather_L2 d self m i l = some (l ++ brsL (d.Kids.drop i))
  | 0, i, l, hm, _, _ => by omega
  | m + 1, i, l, hm, hi, hb => by
    unfold evaluate_gather_L2
    by_cases hlt : i < d.Kids.length
    · obtain ⟨x, hx, hmem⟩ := get_of hlt
      have e1 : decide ((i : Int) < (d.Kids.length : Int)) = true := by simp; omega
      rw [nodesL_drop hx] at hb
      have hbl := brs_len x
      simp only [e1, cond_true, idxO_nat, hx, bindO_s, hself x hmem l (by omega)]
      rw [wr1 hlt hl, gather_L hl hself m (i + 1) (l ++ brs x) (by omega) (by omega) (by simp; omega), drop_cons' hx]
      simp [brsL]
    · have e1 : decide ((i : Int) < (d.Kids.length : Int)) = false := by simp; omega
      simp only [e1, cond_false, evaluate_gather_K2]
      have : d.Kids.drop i = [] := List.drop_eq_nil_of_le (by omega)
      simp [this, brsL]
theorem gather_ok : ∀ (s : Nat) (d : GDeriv), SizeOf.sizeOf d < s → okG d → ∀ n, SizeOf.sizeOf d ≤ n → ∀ l, l.length + nodes d ≤ 1000 → evaluate_gather n l d = some (l ++ brs d)
  | 0, d, hs, _, _, _, _, _ => by omega
  | s + 1, d, hs, hok, n, hn, l, hb => by
    have hk := kids_lt d
    cases n with
    | zero => omega
    | succ n =>
      have hnd := nodes_eq d
      have hg : ∀ l : List GBracket, l.length + nodesL d.Kids ≤ 1000 → evaluate_gather_J1 d n (evaluate_gather n) l = some (l ++ brsL d.Kids) := fun l hb' => by
        have := gather_L (okG_len hok) (self := evaluate_gather n) (fun x hx l hb => by
          have := kid_lt d hx
          exact gather_ok s x (by omega) (okG_kid hok hx) n (by omega) l hb) n 0 l (by omega) (by omega) (by simpa using hb')
        simp only [evaluate_gather_J1]
        simpa using this
      simp only [evaluate_gather, evaluate_gather_b]
      rw [brs_eq]
      by_cases h2 : d.Kind = 2
      · simp only [h2, beq_self_eq_true, cond_true, if_true]
        rw [needO_of (by omega), hg _ (by simp; omega)]
        simp
      · have : (d.Kind == 2) = false := by simpa using h2
        simp only [this, cond_false, h2, if_false, List.nil_append]
        exact hg l (by omega)
theorem eqB_iff (x y : GBracket) : eqGBracket x y = true ↔ x = y := by
  cases x; cases y
  simp [eqGBracket, bytesEq_iff]
theorem Brackets_ok {d : GDeriv} (hok : okG d) {n : Nat} (hn : SizeOf.sizeOf d ≤ n) (hb : nodes d ≤ 1000) : evaluate_Brackets n d = some (srtB (brs d)) := by
  have := brs_len d
  simp only [evaluate_Brackets]
  rw [gather_ok _ d (Nat.lt_succ_self _) hok n hn [] (by simpa using hb), bindO_s, needO_of (by simp; omega)]
  simp
end Go.Proofs
end
section
namespace Go.Vx
open Go Go.Rx
set_option linter.unusedVariables false
structure MapL (K V : Type) where
  es : List (K × V × Nat)
  cl : Nat
def mFindL {K V : Type} (eq : K → K → Bool) (k : K) : List (K × V × Nat) → Nat → Option (Nat × V × Nat)
  | [], _ => none
  | e :: es, i => cond (eq k e.1) (some (i, e.2.1, e.2.2)) (mFindL eq k es (i + 1))
def mSetL {K V : Type} (v : V) : List (K × V × Nat) → Nat → List (K × V × Nat)
  | [], _ => []
  | e :: es, 0 => (e.1, v, e.2.2) :: es
  | e :: es, i + 1 => e :: mSetL v es i
def mDelL {K V : Type} : List (K × V × Nat) → Nat → List (K × V × Nat)
  | [], _ => []
  | _ :: es, 0 => es
  | e :: es, i + 1 => e :: mDelL es i
def mBornL {K V : Type} (b : Int) : List (K × V × Nat) → Nat → Option Nat
  | [], _ => none
  | e :: es, i => cond (decide ((e.2.2 : Int) = b)) (some i) (mBornL b es (i + 1))
def mNew {K V : Type} : MapL K V := ⟨[], 0⟩
def mGet {K V : Type} (eq : K → K → Bool) (m : MapL K V) (k : K) : Option V := (mFindL eq k m.es 0).map fun x => x.2.1
def mUpd {K V : Type} (eq : K → K → Bool) (m : MapL K V) (k : K) (v : V) : MapL K V := match mFindL eq k m.es 0 with
  | none => ⟨m.es ++ [(k, v, m.cl)], m.cl + 1⟩
  | some (i, _) => ⟨mSetL v m.es i, m.cl⟩
def mEntV {K V : Type} (eq : K → K → Bool) (z : V) (m : MapL K V) (k : K) : V × Nat := match mFindL eq k m.es 0 with
  | none => (z, m.cl)
  | some (_, v, b) => (v, b)
def mEntM {K V : Type} (eq : K → K → Bool) (z : V) (m : MapL K V) (k : K) : MapL K V := match mFindL eq k m.es 0 with
  | none => ⟨m.es ++ [(k, z, m.cl)], m.cl + 1⟩
  | some _ => m
def mEntS {K V : Type} (m : MapL K V) (b : Int) (v : V) : Option (MapL K V) := match mBornL b m.es 0 with
  | none => none
  | some i => some ⟨mSetL v m.es i, m.cl⟩
def mDel {K V : Type} (eq : K → K → Bool) (m : MapL K V) (k : K) : MapL K V := match mFindL eq k m.es 0 with
  | none => m
  | some (i, _) => ⟨mDelL m.es i, m.cl⟩
section
variable {K V : Type} (kU : K → U) (vU : V → U)
def mE (e : K × V × Nat) : ME := ⟨kU e.1, vU e.2.1, e.2.2⟩
theorem mod_map (v : V) : ∀ (es : List (K × V × Nat)) (i : Nat), modU (es.map (mE kU vU)) i (fun e => { e with val := vU v }) = (mSetL v es i).map (mE kU vU)
  | [], i => by cases i <;> simp [modU, mSetL]
  | e :: es, 0 => by simp [modU, mSetL, mE]
  | e :: es, i + 1 => by simp [modU, mSetL, mod_map v es i]
theorem erase_map : ∀ (es : List (K × V × Nat)) (i : Nat), eraseU (es.map (mE kU vU)) i = (mDelL es i).map (mE kU vU)
  | [], i => by cases i <;> simp [eraseU, mDelL]
  | e :: es, 0 => by simp [eraseU, mDelL]
  | e :: es, i + 1 => by simp [eraseU, mDelL, erase_map es i]
theorem born_map (b : Int) : ∀ (es : List (K × V × Nat)) (i : Nat), bornU b (es.map (mE kU vU)) i = mBornL b es i
  | [], i => rfl
  | e :: es, i => by simp only [List.map_cons, bornU, mBornL, mE, born_map b es (i + 1)]
structure KeyOk (T : Tb) (kt : TypeId) (eq : K → K → Bool) (kV : K → Value) : Prop where
  v : ∀ k, toV (kU k) = some (kV k)
  cmp : ∀ a b, eqv T 50 kt (kV a) (kV b) = some (eq a b)
  key : ∀ k, keyX T 50 kt (kV k) = true
  pl : ∀ k, plain (kV k) = true
  same : ∀ a b, eq a b = true → veq 50 (kV b) (kV a) = true
variable {kU vU} {T : Tb} {kt : TypeId} {eq : K → K → Bool} {kV : K → Value} (hk : KeyOk kU T kt eq kV)
include hk
theorem find_map (k : K) : ∀ (es : List (K × V × Nat)) (i : Nat), findU T kt (kV k) (es.map (mE kU vU)) i = some ((mFindL eq k es i).map fun x => (x.1, vU x.2.1))
  | [], i => rfl
  | e :: es, i => by
    simp only [List.map_cons, findU, mE, hk.v, hk.cmp, mFindL]
    cases h : eq k e.1 with
    | true => simp
    | false => exact find_map k es (i + 1)
omit hk in
theorem find_at (k : K) : ∀ {es : List (K × V × Nat)} {i j : Nat} {v : V} {b : Nat}, mFindL eq k es i = some (j, v, b) → i ≤ j ∧ ∃ k', es[j - i]? = some (k', v, b) ∧ eq k k' = true
  | [], i, j, v, b, h => by simp [mFindL] at h
  | e :: es, i, j, v, b, h => by
    simp only [mFindL] at h
    cases he : eq k e.1 with
    | true =>
      rw [he] at h
      simp only [cond_true, Option.some.injEq, Prod.mk.injEq] at h
      obtain ⟨rfl, rfl, rfl⟩ := h
      exact ⟨Nat.le_refl _, e.1, by simp, he⟩
    | false =>
      rw [he] at h
      simp only [cond_false] at h
      obtain ⟨h1, k', h2, h3⟩ := find_at k h
      refine ⟨by omega, k', ?_, h3⟩
      rw [show j - i = (j - (i + 1)) + 1 by omega]
      simpa using h2
variable {σ : Sg} {n : Nat} {l : List (Nat × U)} {r : Nat} {m : MapL K V} {t et : TypeId} (hd : T.und t = some (.map kt et)) (hg : gt σ.h r = some (.map (m.es.map (mE kU vU)) m.cl))
include hd hg
theorem op_look {x k0 : Operand} {k : K} {a b : Nat} {z : Value} {zv : V} (hx : evS n l x = some (.map r)) (hk0 : evS n l k0 = some (kU k)) (hi : T.inf et = some (a, b, z)) (hz : ofV z = some (vU zv)) : opU T σ (fr n l) (.lookup t x k0 false) = some (vU ((mGet eq m k).getD zv), σ) := by
  refine op_r rfl ?_
  simp only [readU, hd, ev_fr hx, ev_fr hk0, hk.v, hk.key, cond_true, hg, find_map hk, mGet]
  cases mFindL eq k m.es 0 with
  | none => simp only [Option.map_none, hi, hz, cond_false, Option.getD_none]
  | some q => simp only [Option.map_some, cond_false, Option.getD_some]
omit hk hd hg in
theorem find_app (k : K) (hr : eq k k = true) (v : V) (b : Nat) : ∀ (es : List (K × V × Nat)) (i : Nat), mFindL eq k es i = none → mFindL eq k (es ++ [(k, v, b)]) i = some (i + es.length, v, b)
  | [], i, _ => by simp [mFindL, hr]
  | e :: es, i, h => by
    simp only [mFindL, List.cons_append] at h ⊢
    cases he : eq k e.1 with
    | true => rw [he] at h; cases h
    | false =>
      rw [he] at h
      simp only [cond_false] at h ⊢
      rw [find_app k hr v b es (i + 1) h, List.length_cons]
      congr 2
      omega
omit hk hd hg in
theorem get_ent {k : K} (hr : eq k k = true) (zv : V) : (mGet eq (mEntM eq zv m k) k).getD zv = (mGet eq m k).getD zv := by
  unfold mGet mEntM
  cases h : mFindL eq k m.es 0 with
  | none => simp only [find_app k hr zv m.cl m.es 0 h, Option.map_some, Option.map_none, Option.getD_some, Option.getD_none]
  | some q => simp only [h]
omit hg in
theorem op_lookE {x k0 : Operand} {k : K} {a b : Nat} {z : Value} {zv : V} (hg : gt σ.h r = some (.map ((mEntM eq zv m k).es.map (mE kU vU)) (mEntM eq zv m k).cl)) (hx : evS n l x = some (.map r)) (hk0 : evS n l k0 = some (kU k)) (hi : T.inf et = some (a, b, z)) (hz : ofV z = some (vU zv)) (hr : eq k k = true) : opU T σ (fr n l) (.lookup t x k0 false) = some (vU ((mGet eq m k).getD zv), σ) := by
  rw [← get_ent hr zv]
  exact op_look hk hd hg hx hk0 hi hz
omit hd hg in
theorem key_at {k : K} {j b : Nat} {v : V} (hf : mFindL eq k m.es 0 = some (j, v, b)) : ∃ k', nth (m.es.map (mE kU vU)) j = some ⟨kU k', vU v, b⟩ ∧ veq 50 (kV k') (kV k) = true := by
  obtain ⟨_, k', h1, h2⟩ := find_at k hf
  refine ⟨k', ?_, hk.same k k' h2⟩
  rw [nth_eq, List.getElem?_map]
  rw [Nat.sub_zero] at h1
  rw [h1]; rfl
theorem op_mup {x k0 v0 : Operand} {k : K} {v : V} (hx : evS n l x = some (.map r)) (hk0 : evS n l k0 = some (kU k)) (hv0 : evS n l v0 = some (vU v)) {σ' : Sg} (hσ : mapSetU σ r ((mUpd eq m k v).es.map (mE kU vU)) (mUpd eq m k v).cl = σ') : opU T σ (fr n l) (.mapUpdate t x k0 v0) = some (.junk, σ') := by
  subst hσ
  refine op_e rfl rfl ?_
  simp only [effU, ev_fr hx, ev_fr hk0, ev_fr hv0, mapUpU, hd, hk.v, hk.key, hk.pl, cond_true, hg, find_map hk, mUpd]
  cases hf : mFindL eq k m.es 0 with
  | none => simp only [Option.map_none, List.map_append, List.map_cons, List.map_nil, mE]
  | some q =>
    obtain ⟨j, v', b⟩ := q
    obtain ⟨k', h1, h2⟩ := key_at (vU := vU) hk hf
    simp only [Option.map_some, h1, hk.v, h2, cond_true, mod_map]
theorem op_ment {x k0 : Operand} {k : K} {a b : Nat} {z : Value} {zv : V} (hx : evS n l x = some (.map r)) (hk0 : evS n l k0 = some (kU k)) (hi : T.inf et = some (a, b, z)) (hz : ofV z = some (vU zv)) {σ' : Sg} (hσ : mapSetU σ r ((mEntM eq zv m k).es.map (mE kU vU)) (mEntM eq zv m k).cl = σ') : opU T σ (fr n l) (.mapEntry t x k0) = some (.tup [vU (mEntV eq zv m k).1, .int .i64 ((mEntV eq zv m k).2 : Nat)], σ') := by
  subst hσ
  refine op_e rfl rfl ?_
  simp only [effU, ev_fr hx, ev_fr hk0, mapEntU, hd, hk.v, hk.key, hk.pl, cond_true, hg, find_map hk, mEntV, mEntM]
  cases hf : mFindL eq k m.es 0 with
  | none => simp only [Option.map_none, hi, hz, List.map_append, List.map_cons, List.map_nil, mE]
  | some q =>
    obtain ⟨j, v', b'⟩ := q
    obtain ⟨k', h1, h2⟩ := key_at (vU := vU) hk hf
    simp only [Option.map_some, h1, hk.v, h2, cond_true]
omit hk hd in
theorem op_mst {t' : TypeId} {x b0 v0 : Operand} {kk : IntKind} {b : Int} {v : V} {m' : MapL K V} (hx : evS n l x = some (.map r)) (hb0 : evS n l b0 = some (.int kk b)) (hv0 : evS n l v0 = some (vU v)) (hm : mEntS m b v = some m') {σ' : Sg} (hσ : mapSetU σ r (m'.es.map (mE kU vU)) m'.cl = σ') : opU T σ (fr n l) (.entryStore t' x b0 v0) = some (.junk, σ') := by
  subst hσ
  refine op_e rfl rfl ?_
  unfold mEntS at hm
  cases hf : mBornL b m.es 0 with
  | none => rw [hf] at hm; cases hm
  | some i =>
    rw [hf] at hm
    simp only [Option.some.injEq] at hm
    subst hm
    simp only [effU, ev_fr hx, ev_fr hb0, ev_fr hv0, entStU, hg, born_map, hf, mod_map]
theorem op_mdel {x k0 : Operand} {k : K} {args : Array Operand} {ts : Array TypeId} {q : List TypeId} (ha : args.toList = [x, k0]) (ht : ts.toList = t :: q) (hx : evS n l x = some (.map r)) (hk0 : evS n l k0 = some (kU k)) {σ' : Sg} (hσ : mapSetU σ r ((mDel eq m k).es.map (mE kU vU)) (mDel eq m k).cl = σ') : opU T σ (fr n l) (.call { callee := .builtin .delete, args := args, argTypes := ts }) = some (.junk, σ') := by
  subst hσ
  refine op_e rfl rfl ?_
  simp only [effU, ha, ht, evalUL, ev_fr hx, ev_fr hk0, delU, hd, hk.v, hk.key, cond_true, hg, find_map hk, mDel]
  cases hf : mFindL eq k m.es 0 with
  | none => simp only [Option.map_none]
  | some q =>
    obtain ⟨j, v', b⟩ := q
    simp only [Option.map_some, erase_map]
end
theorem op_mnew {T : Tb} {σ : Sg} {n : Nat} {l : List (Nat × U)} {t : TypeId} : opU T σ (fr n l) (.makeMap t none) = some (.map σ.nx, newU σ (.map [] 0)) := op_e rfl rfl rfl
theorem bel_mE {K V : Type} {kU : K → U} {vU : V → U} {n : Nat} (hk : ∀ k, Bel n (kU k)) (hv : ∀ v, Bel n (vU v)) (es : List (K × V × Nat)) : ∀ e ∈ es.map (mE kU vU), Bel n e.key ∧ Bel n e.val := by
  intro e he
  obtain ⟨x, _, rfl⟩ := List.mem_map.1 he
  exact ⟨hk _, hv _⟩
theorem bytes_iff : ∀ a b : List UInt8, bytesEq a b = true ↔ a = b
  | [], [] => by simp [bytesEq]
  | [], _ :: _ => by simp [bytesEq]
  | _ :: _, [] => by simp [bytesEq]
  | x :: a, y :: b => by
    have h : (x.toNat = y.toNat) ↔ x = y := UInt8.toNat_inj
    simp only [bytesEq, beq_eq]
    by_cases e : x = y
    · subst e; simp [bytes_iff a b]
    · simp [e, mt h.1 e]
theorem bytes_refl (a : List UInt8) : bytesEq a a = true := (bytes_iff a a).2 rfl
end Go.Vx
end
