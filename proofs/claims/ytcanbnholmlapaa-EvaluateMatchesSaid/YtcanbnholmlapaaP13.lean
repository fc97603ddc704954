/-
  Texts of the walk: VxV SrtA E0 E2 E3 ExA E4a E4 E5 E6 VxU MpH MpC MpD MpE MpF.
-/
import Derived.Shelf.SlSortCmp.WholeK
import Derived.Test.YtcanbnholmlapaaProg
import Derived.Test.YtcanbnholmlapaaP12
section
namespace Go.Vx
open Go Go.Rx Go.Proofs Go.Sort
set_option linter.unusedVariables false
theorem EvU.of_same {P : Program} {f : FuncId} {us : List U} {vs : List Value} {u : U} {cv : Value} (hv : toVL us = some vs) (hr : ∀ m, renL m vs = vs) (hu : toV u = some cv) (hru : ∀ m, ren m cv = cv) (h : ∀ w, Calls P f vs.toArray w fun e w' => e = .returned cv ∧ w' = w) (σ : Sg) : EvU P f us σ (fun u' σ' => u' = u ∧ σ' = σ) := fun F x ws m w cargs hx hh hfr he hfit hargs => by
  have := (toVL_iff us vs hv x ws).1 he
  subst this
  have hca : cargs = ws := by rw [← hargs.at, hr]
  subst hca
  refine (h w).mono ?_
  rintro e w' ⟨rfl, rfl⟩
  exact ⟨x, m, u, cv, cv, rfl, ⟨rfl, hx⟩, Adv.refl hfit, fun m' _ => hru m', hh, hfr, (toV_iff u cv hu x cv).2 rfl, Ke.refl _ _, Nat.le_refl _⟩
theorem EvU.view0 {P : Program} {f : FuncId} {args args' : List U} {σ : Sg} (h : EvU P f args ⟨[], 0⟩ (fun u' _ => u' = .tup [] ∧ Bel 0 u')) (ha : BelL 0 args) {σ1 : Sg} (hg : Gh 0 args' σ args σ1) : EvU P f args' σ (fun u' σ' => u' = .tup [] ∧ σ' = σ) := fun F x vs m w cargs hx hh hfr he hfit hargs => by
  obtain ⟨y1, a1, a2, a3, a4, a5, a6⟩ := hg F x vs hx hh hfr he
  have hadv1 := a1 m w hfit
  have hadv2 := Adv.less hadv1.fits (less_onlyI y1.s)
  have hmo : Mo 0 y1 (cx (onlyI y1.s)) := ⟨fun k hk => by omega, fun i row e hl => by show lk (onlyI y1.s).h i = _; rw [lk_onlyI, hl]; rfl⟩
  have hno : ∀ b, ¬ Owns m (onlyI y1.s) b := fun b ⟨i, c, hc, ho, _⟩ => by
    rw [lk_onlyI] at hc
    obtain ⟨_, l, e, rfl⟩ := immB_some hc
    simp [Own] at ho
  refine (h (fun _ _ => False) (cx (onlyI y1.s)) vs m w cargs rfl ⟨fun k b hb => by simp [cx, gt] at hb, fun k k' b b' i hb => by simp [cx, gt] at hb, fun i b hb => ?_⟩ (fun _ _ hF => hF.elim) (hmo.ke.E ha a5) hadv2.fits (hargs.ext (Agree.refl _ _) (Nat.le_trans hadv1.nx hadv2.nx))).mono ?_
  · have hb' : lk (onlyI y1.s).h i = some b := hb
    rw [lk_onlyI] at hb'
    exact a3.bd i b (immB_some hb').1
  rintro e w₂ ⟨y2, m₂, u', v', cv, rfl, ⟨rfl, _⟩, hadv, hrel, _, _, hru, _, _⟩
  simp only [Rel] at hru
  obtain ⟨q, rfl, _, hq⟩ := hru
  have : q = [] := List.eq_nil_of_length_eq_zero (by simpa using hq.symm)
  subst this
  have hcv : cv = .tuple ⟨[]⟩ := by rw [← hrel.at]; simp [ren, renL]
  subst hcv
  have hsame : ∀ b, b < w.heap.size → w₂.heap[b]? = w.heap[b]? := fun b hlt => hadv.same b hlt (hno b)
  refine ⟨x, m, .tup [], .tuple ⟨[]⟩, .tuple ⟨[]⟩, rfl, ⟨rfl, hx⟩, ⟨Agree.refl _ _, Nat.le_refl _, fun m' hm' => ?_, fun b h => .inl h, fun b hlt _ => hsame b hlt, hadv.size, hadv.os, hadv.tape, hadv.output, hadv.drawn⟩, fun m' _ => by simp [ren, renL], hh, hfr, by simp only [Rel]; exact ⟨[], rfl, by simp [RelP], rfl⟩, Ke.refl _ _, Nat.le_refl _⟩
  have hfm := hfit m' hm'
  exact ⟨fun i b hb => (hfm.ok i b hb).world (hsame _ (hfm.size hb)), hfm.inj, hfm.bd⟩
def insB {α : Type} (lt : α → α → Bool) (x : α) : List α → List α
  | [] => [x]
  | y :: l => cond (lt y x) (y :: insB lt x l) (x :: y :: l)
def srt {α : Type} (lt : α → α → Bool) : List α → List α
  | [] => []
  | x :: l => insB lt x (srt lt l)
theorem insB_perm {α : Type} (lt : α → α → Bool) (x : α) : ∀ l, (insB lt x l).Perm (x :: l)
  | [] => .refl _
  | y :: l => by
    simp only [insB]
    cases lt y x with
    | true => exact ((insB_perm lt x l).cons y).trans (.swap _ _ _)
    | false => exact .refl _
theorem srt_perm {α : Type} (lt : α → α → Bool) : ∀ l, (srt lt l).Perm l
  | [] => .refl _
  | x :: l => (insB_perm lt x _).trans ((srt_perm lt l).cons x)
def Asc {α : Type} (lt : α → α → Bool) (l : List α) : Prop := l.Pairwise (fun x y => lt y x = false)
theorem insB_asc {α : Type} {lt : α → α → Bool} (h : SWO lt) (x : α) : ∀ {l}, Asc lt l → Asc lt (insB lt x l)
  | [], _ => by simp [insB, Asc]
  | y :: l, ha => by
    simp only [insB]
    unfold Asc at ha ⊢
    rw [List.pairwise_cons] at ha
    cases hy : lt y x with
    | true =>
      simp only [cond_true]
      rw [List.pairwise_cons]
      refine ⟨fun z hz => ?_, insB_asc h x ha.2⟩
      have := (insB_perm lt x l).mem_iff.1 hz
      rcases List.mem_cons.1 this with rfl | hz
      · cases hzy : lt z y with
        | false => rfl
        | true => have := h.trans y z y hy hzy; rw [h.irrefl] at this; cases this
      · exact ha.1 z hz
    | false =>
      simp only [cond_false]
      rw [List.pairwise_cons]
      refine ⟨fun z hz => ?_, List.pairwise_cons.2 ha⟩
      rcases List.mem_cons.1 hz with rfl | hz
      · exact hy
      · exact h.ntrans z y x (ha.1 z hz) hy
theorem srt_asc {α : Type} {lt : α → α → Bool} (h : SWO lt) : ∀ l, Asc lt (srt lt l)
  | [] => by simp [srt, Asc]
  | x :: l => insB_asc h x (srt_asc h l)
theorem asc_unique {α : Type} {lt : α → α → Bool} (hanti : ∀ x y, lt x y = false → lt y x = false → x = y) : ∀ {a b : List α}, Asc lt a → Asc lt b → a.Perm b → a = b
  | [], b, _, _, hp => by rw [hp.nil_eq]
  | x :: a, [], _, _, hp => by have := hp.length_eq; simp at this
  | x :: a, y :: b, ha, hb, hp => by
    unfold Asc at ha hb
    have ha' := ha
    have hb' := hb
    rw [List.pairwise_cons] at ha hb
    have hxy : x = y := by
      have h1 : x ∈ y :: b := hp.mem_iff.1 (by simp)
      have h2 : y ∈ x :: a := hp.mem_iff.2 (by simp)
      rcases List.mem_cons.1 h1 with h1 | h1
      · exact h1
      · rcases List.mem_cons.1 h2 with h2 | h2
        · exact h2.symm
        · exact hanti x y (hb.1 x h1) (ha.1 y h2)
    subst hxy
    rw [asc_unique hanti ha.2 hb.2 (List.Perm.cons_inv hp)]
theorem srt_of {α : Type} [Inhabited α] {lt : α → α → Bool} (h : SWO lt) (hanti : ∀ x y, lt x y = false → lt y x = false → x = y) {ds ds' : List α} (hp : PermIn 0 ds.toArray.size ds.toArray ds'.toArray) (hs : SortedIn lt 0 ds.toArray.size ds'.toArray) : ds' = srt lt ds := by
  obtain ⟨h1, _, h3⟩ := hp
  simp only [List.size_toArray] at h1 h3 hs
  have hp : ds'.Perm ds := by
    have e1 : (ds'.toArray.extract 0 ds.length).toList = ds' := by simp [← h1]
    have e2 : (ds.toArray.extract 0 ds.length).toList = ds := by simp
    rwa [e1, e2] at h3
  refine asc_unique hanti ?_ (srt_asc h ds) (hp.trans (srt_perm lt ds).symm)
  unfold Asc
  rw [List.pairwise_iff_getElem]
  intro i j hi hj hij
  have := hs i j (Nat.zero_le _) hij (by omega)
  simpa [hi, hj] using this
theorem EvU.srtT {α : Type} [Inhabited α] {P : Program} {f g : FuncId} {enc : α → List Value} {encU : α → List U} {k : Nat} (hk : ∀ x, (enc x).length = k) (hk0 : 0 < k) (henc : ∀ x, toVL (encU x) = some (enc x)) (hok : ∀ x, okL (encU x) = true) (hren : ∀ m x, renL m (enc x) = enc x)
    {cf : α → α → Int} (hO : SWO (ltOf cf)) (hanti : ∀ x y, ltOf cf x y = false → ltOf cf y x = false → x = y)
    (hs : ∀ (blk off cap : Nat) (d : Array α) (w : World), HoldsK enc k w blk off d → blk < w.heap.size → d.size < 4611686018427387904 →
      Calls P f #[.slice (some ⟨blk, off, none⟩) d.size cap, .func (.func g) #[] #[]] w fun e w' => e = .returned (.tuple #[]) ∧ ∃ d' n os, PermIn 0 d.size d d' ∧ SortedIn (ltOf cf) 0 d.size d' ∧ w' = sortWorldK enc k w blk off n d' os)
    {σ : Sg} {K st : Nat} {e : TypeId} (ds : List α) (hne : ds ≠ []) (hlen : ds.length < 4611686018427387904) (hg : gt σ.h K = some (.vec ((ds.map encU).flatten) e k st)) :
    EvU P f [.vl K st 0 ds.length, .fn (.func g) [] []] σ (fun u σ' => u = .tup [] ∧ σ' = ⟨ug σ.h K (.vec (((srt (ltOf cf) ds).map encU).flatten) e k st), σ.nx⟩) := by
  have h := EvU.sort (P := P) (f := f) (g := g) hk hk0 henc hok hren (R := fun d d' => PermIn 0 d.size d d' ∧ SortedIn (ltOf cf) 0 d.size d') (fun blk off cap d w h1 h2 h3 => (hs blk off cap d w h1 h2 h3).mono fun e w' ⟨he, d', n, os, hp, hsrt, hw⟩ => ⟨he, d', n, os, ⟨hp, hsrt⟩, hp.1, hw⟩) (σ := σ) (K := K) (st := st) (e := e) ds hne hlen hg
  refine h.mono ?_
  rintro u σ' ⟨rfl, ds', ⟨hp, hsrt⟩, _, rfl⟩
  exact ⟨rfl, by rw [srt_of hO hanti hp hsrt]⟩
end Go.Vx
end
section
namespace Go.Proofs
open Go
set_option maxRecDepth 100000
def Try.sortB_ren : Shelf.Ren where
  f := fun x => match x with
    | 6 => 30
    | 15 => 45
    | 14 => 44
    | 28 => 60
    | 29 => 61
    | 20 => 52
    | 21 => 53
    | 22 => 54
    | 23 => 55
    | 24 => 56
    | 25 => 57
    | 26 => 58
    | 27 => 59
    | 46 => 64
    | 47 => 65
    | 48 => 66
    | 49 => 67
    | 50 => 68
    | 57 => 69
    | n => n
  t := fun x => match x with
    | 22 => 28
    | 24 => 53
    | 25 => 56
    | 3 => 3
    | 39 => 69
    | 0 => 0
    | 53 => 83
    | 55 => 85
    | 4 => 4
    | 46 => 76
    | 45 => 75
    | 50 => 80
    | 5 => 5
    | 9 => 9
    | 66 => 89
    | 70 => 93
    | 76 => 95
    | 77 => 96
    | n => n
  g := fun x => x
theorem Try.sortB : SlLaysF0.n6 Try.prog Try.sortB_ren where
  mixed := rfl
  f6 := ⟨Try.f30.name, by decide, Try.func30.trans rfl⟩
  f14 := ⟨Try.f44.name, by decide, Try.func44.trans rfl⟩
  f15 := Try.func45.trans rfl
  f20 := ⟨Try.f52.name, by decide, Try.func52.trans rfl⟩
  f21 := ⟨Try.f53.name, by decide, Try.func53.trans rfl⟩
  f22 := ⟨Try.f54.name, by decide, Try.func54.trans rfl⟩
  f23 := ⟨Try.f55.name, by decide, Try.func55.trans rfl⟩
  f24 := ⟨Try.f56.name, by decide, Try.func56.trans rfl⟩
  f25 := ⟨Try.f57.name, by decide, Try.func57.trans rfl⟩
  f26 := ⟨Try.f58.name, by decide, Try.func58.trans rfl⟩
  f27 := ⟨Try.f59.name, by decide, Try.func59.trans rfl⟩
  f28 := Try.func60.trans rfl
  f29 := Try.func61.trans rfl
  f46 := ⟨Try.f64.name, by decide, Try.func64.trans rfl⟩
  f47 := Try.func65.trans rfl
  f48 := Try.func66.trans rfl
  f49 := ⟨Try.f67.name, by decide, Try.func67.trans rfl⟩
  f50 := ⟨Try.f68.name, by decide, Try.func68.trans rfl⟩
  f57 := ⟨Try.f69.name, by decide, Try.func69.trans rfl⟩
  t0 := Try.underlying0
  a0 := Try.isAgg0
  z0 := Try.sizeOf0
  v0 := Try.zeroValue0
  t3 := Try.underlying3
  a3 := Try.isAgg3
  z3 := Try.sizeOf3
  v3 := Try.zeroValue3
  t4 := Try.underlying4
  a4 := Try.isAgg4
  z4 := Try.sizeOf4
  v4 := Try.zeroValue4
  t5 := Try.underlying5
  a5 := Try.isAgg5
  z5 := Try.sizeOf5
  v5 := Try.zeroValue5
  t9 := Try.underlying9
  a9 := Try.isAgg9
  z9 := Try.sizeOf9
  v9 := Try.zeroValue9
  t22 := Try.underlying28
  a22 := Try.isAgg28
  z22 := Try.sizeOf28
  v22 := Try.zeroValue28
  t25 := Try.underlying56
  a25 := Try.isAgg56
  z25 := Try.sizeOf56
  v25 := Try.zeroValue56
  t39 := Try.underlying69
  a39 := Try.isAgg69
  z39 := Try.sizeOf69
  v39 := Try.zeroValue69
  t45 := Try.underlying75
  a45 := Try.isAgg75
  z45 := Try.sizeOf75
  v45 := Try.zeroValue75
  t46 := Try.underlying76
  a46 := Try.isAgg76
  z46 := Try.sizeOf76
  v46 := Try.zeroValue76
  t50 := Try.underlying80
  a50 := Try.isAgg80
  z50 := Try.sizeOf80
  v50 := Try.zeroValue80
  t53 := Try.underlying83
  a53 := Try.isAgg83
  z53 := Try.sizeOf83
  v53 := Try.zeroValue83
  t55 := Try.underlying85
  a55 := Try.isAgg85
  z55 := Try.sizeOf85
  v55 := Try.zeroValue85
  t66 := Try.underlying89
  a66 := Try.isAgg89
  z66 := Try.sizeOf89
  v66 := Try.zeroValue89
  t70 := Try.underlying93
  a70 := Try.isAgg93
  z70 := Try.sizeOf93
  v70 := Try.zeroValue93
  t76 := Try.underlying95
  a76 := Try.isAgg95
  z76 := Try.sizeOf95
  v76 := Try.zeroValue95
  t77 := Try.underlying96
  a77 := Try.isAgg96
  z77 := Try.sizeOf96
  v77 := Try.zeroValue96
end Go.Proofs
end
section
namespace Go.Proofs
open Go Go.Rx Go.Vx Go.Shelf
def math_bits_Len (n : Nat) (x : Int) : Option Int := cond (x == 0) (some 0) none
theorem math_bits_Len_ok (n : Nat) (p1 : Int) (r : Int) (hF : math_bits_Len n p1 = some r) (σ : Sg) : EvU Try.prog 45 [.int .u64 p1] σ (fun u σ' => u = .int .i64 r ∧ σ' = σ) := by
  unfold math_bits_Len at hF
  cases hp : (p1 == 0) with
  | false => rw [hp] at hF; cases hF
  | true =>
    rw [hp] at hF
    simp at hF hp
    subst hF; subst hp
    refine EvU.of_same (vs := [.int .u64 0]) (cv := .int .i64 0) rfl (fun m => by simp [renL, ren]) rfl (fun m => by simp [ren]) (fun w => ?_) σ
    have h := Any.bits_Len (SlLaysF0.n15.bits (P := Try.prog) (ρ := Try.sortB_ren) { Try.sortB with }) 0 w (by omega) (by omega)
    exact h
end Go.Proofs
end
section
namespace Go.Proofs
open Go Go.Rx Go.Vx
set_option maxRecDepth 10000
set_option linter.unusedSimpArgs false
set_option linter.unusedVariables false
def slices_insertionSortCmpFunc_Bracket_compare_K1   : Option (Unit) :=
  some ()
def slices_insertionSortCmpFunc_Bracket_compare_L1  : Nat → Option (Unit)
  | 0 => none
  | m1 + 1 =>
    slices_insertionSortCmpFunc_Bracket_compare_K1
def slices_insertionSortCmpFunc_Bracket_compare (f3 : GBracket → GBracket → Option (Int)) (n : Nat)  : Option (Unit) :=
  slices_insertionSortCmpFunc_Bracket_compare_L1 n
theorem slices_insertionSortCmpFunc_Bracket_compare_0 (f3 : GBracket → GBracket → Option (Int)) (hf3 : ∀ (a0 : GBracket) (a1 : GBracket) (r : Int), f3 a0 a1 = some r → EvU Try.prog 31 [.agg (cGBracket a0), .agg (cGBracket a1)] ⟨[], 0⟩ (fun u _ => u = .int .i64 r ∧ Bel 0 u)) (n : Nat)  (r : Unit) (hF : slices_insertionSortCmpFunc_Bracket_compare f3 n  = some r) : EvU Try.prog 52 [.isl false (List.map cGBracket ([] : List GBracket)), .int .i64 0, .int .i64 0, .fn (.func 31) [] []] ⟨[], 0⟩ (fun u _ => u = .tup [] ∧ Bel 0 u) := by
  unfold slices_insertionSortCmpFunc_Bracket_compare at hF
  have hf3S : ∀ (a0 : GBracket) (a1 : GBracket) (r : Int), f3 a0 a1 = some r → ∀ σ, EvU Try.prog 31 [.agg (cGBracket a0), .agg (cGBracket a1)] σ (fun u σ' => u = .int .i64 r ∧ σ' = σ) := fun a0 a1 r h σ => EvU.pure1C (hf3 a0 a1 r h) σ
  refine EvU.of_body Try.tb_ok Try.fn52 rfl ?_
  refine WPU.ghost (tm' := fr 53 [(0, .isl false (List.map cGBracket ([] : List GBracket))), (1, .int .i64 0), (2, .int .i64 0), (3, .fn (.func 31) [] [])]) (Gh.start (Nat.le_of_ble_eq_true rfl)) (Nat.zero_le _) ?_
  repeat refine WPU.seq ?_
  refine WPU.region Try.tb_ok ?_
  refine RS.op rfl (op_move rfl) rfl rfl ?_
  refine RS.op rfl (op_int rfl rfl (ix_add _ _ _) rfl) rfl rfl ?_
  refine RS.op rfl (op_assign rfl) rfl rfl ?_
  refine RS.done ?_
  repeat refine gq ?_
  repeat refine WPU.seq ?_
  refine WPU.ghost (tm' := fr 53 [(0, .isl false (List.map cGBracket ([] : List GBracket))), (1, .int .i64 0), (2, .int .i64 0), (3, .fn (.func 31) [] []), (8, .int .i64 1)]) (Gh.sub ⟨rfl, rfl, rfl, rfl, rfl, trivial⟩) (Nat.zero_le _) ?_
  refine WPU.loopK (fun m tm σ => slices_insertionSortCmpFunc_Bracket_compare_L1 m = some r ∧ tm = fr 53 [(0, .isl false (List.map cGBracket ([] : List GBracket))), (1, .int .i64 0), (2, .int .i64 0), (3, .fn (.func 31) [] []), (8, .int .i64 1)] ∧ σ = ⟨[], 0⟩) (fun tm σ => slices_insertionSortCmpFunc_Bracket_compare_K1 = some r ∧ tm = fr 53 [] ∧ σ = ⟨[], 0⟩) n ⟨hF, rfl, rfl⟩ ?_ ?_
  · skip
    rintro _ _ ⟨hF, rfl, rfl⟩
    unfold slices_insertionSortCmpFunc_Bracket_compare_K1 at hF
    repeat refine gq ?_
    have hr := Option.some.inj hF
    subst hr
    exact ⟨.inl rfl, [], res_n, .tup [], ⟨[], 0⟩, Nat.le_refl _, Gh.toR (.tup []) rfl, rfl, BU.h⟩
  · skip
    rintro m1 _ _ ⟨hF, rfl, rfl⟩
    cases m1 with
    | zero => cases hF
    | succ m1 =>
      unfold slices_insertionSortCmpFunc_Bracket_compare_L1 at hF
      repeat refine WPU.seq ?_
      refine WPU.region Try.tb_ok ?_
      repeat refine RS.op rfl (op_move rfl) rfl rfl ?_
      refine RS.op rfl (op_int rfl rfl (ix_lss _ _ _) rfl) rfl rfl ?_
      refine RS.done ?_
      repeat refine gq ?_
      repeat refine WPU.seq ?_
      refine WPU.condS (t := false) rfl (fun hc => by cases hc) (fun _ => ?_)
      repeat refine WPU.seq ?_
      refine WPU.exit ?_
      repeat refine gq ?_
      exact ⟨_, _, ⟨hF, rfl, rfl⟩, (Nat.zero_le _), Gh.toC (n1 := 0) trivial rfl (Nat.zero_le _) (by simp)⟩
theorem slices_insertionSortCmpFunc_Bracket_compare_ok (f3 : GBracket → GBracket → Option (Int)) (hf3 : ∀ (a0 : GBracket) (a1 : GBracket) (r : Int), f3 a0 a1 = some r → EvU Try.prog 31 [.agg (cGBracket a0), .agg (cGBracket a1)] ⟨[], 0⟩ (fun u _ => u = .int .i64 r ∧ Bel 0 u)) (n : Nat)  (r : Unit) (hF : slices_insertionSortCmpFunc_Bracket_compare f3 n  = some r) (σ : Sg) : EvU Try.prog 52 [.isl false (List.map cGBracket ([] : List GBracket)), .int .i64 0, .int .i64 0, .fn (.func 31) [] []] σ (fun u σ' => u = .tup [] ∧ σ' = σ) :=
  EvU.pure1C (slices_insertionSortCmpFunc_Bracket_compare_0 f3 hf3 n  r hF) σ
def slices_pdqsortCmpFunc_Bracket_compare_L1 (f4 : GBracket → GBracket → Option (Int)) (n : Nat) : Nat → Option (Unit)
  | 0 => none
  | m1 + 1 =>
    bindO (slices_insertionSortCmpFunc_Bracket_compare f4 n) fun r2 =>
    some ()
def slices_pdqsortCmpFunc_Bracket_compare (f4 : GBracket → GBracket → Option (Int)) (n : Nat) (p1 : Int) : Option (Unit) :=
  slices_pdqsortCmpFunc_Bracket_compare_L1 f4 n n
theorem slices_pdqsortCmpFunc_Bracket_compare_0 (f4 : GBracket → GBracket → Option (Int)) (hf4 : ∀ (a0 : GBracket) (a1 : GBracket) (r : Int), f4 a0 a1 = some r → EvU Try.prog 31 [.agg (cGBracket a0), .agg (cGBracket a1)] ⟨[], 0⟩ (fun u _ => u = .int .i64 r ∧ Bel 0 u)) (n : Nat) (p1 : Int) (r : Unit) (hF : slices_pdqsortCmpFunc_Bracket_compare f4 n p1 = some r) : EvU Try.prog 44 [.isl false (List.map cGBracket ([] : List GBracket)), .int .i64 0, .int .i64 0, .int .i64 p1, .fn (.func 31) [] []] ⟨[], 0⟩ (fun u _ => u = .tup [] ∧ Bel 0 u) := by
  unfold slices_pdqsortCmpFunc_Bracket_compare at hF
  have hf4S : ∀ (a0 : GBracket) (a1 : GBracket) (r : Int), f4 a0 a1 = some r → ∀ σ, EvU Try.prog 31 [.agg (cGBracket a0), .agg (cGBracket a1)] σ (fun u σ' => u = .int .i64 r ∧ σ' = σ) := fun a0 a1 r h σ => EvU.pure1C (hf4 a0 a1 r h) σ
  refine EvU.of_body Try.tb_ok Try.fn44 rfl ?_
  refine WPU.ghost (tm' := fr 148 [(0, .isl false (List.map cGBracket ([] : List GBracket))), (1, .int .i64 0), (2, .int .i64 0), (3, .int .i64 p1), (4, .fn (.func 31) [] [])]) (Gh.start (Nat.le_of_ble_eq_true rfl)) (Nat.zero_le _) ?_
  repeat refine WPU.seq ?_
  refine WPU.region Try.tb_ok ?_
  refine RS.op rfl (op_assign rfl) rfl rfl ?_
  refine RS.done ?_
  repeat refine gq ?_
  repeat refine WPU.seq ?_
  refine WPU.region Try.tb_ok ?_
  refine RS.op rfl (op_assign rfl) rfl rfl ?_
  refine RS.done ?_
  repeat refine gq ?_
  repeat refine WPU.seq ?_
  refine WPU.ghost (tm' := fr 148 [(0, .isl false (List.map cGBracket ([] : List GBracket))), (1, .int .i64 0), (2, .int .i64 0), (3, .int .i64 p1), (4, .fn (.func 31) [] []), (10, .bool true), (11, .bool true)]) (Gh.sub ⟨rfl, rfl, rfl, rfl, rfl, rfl, rfl, trivial⟩) (Nat.zero_le _) ?_
  refine WPU.loopK (fun m tm σ => slices_pdqsortCmpFunc_Bracket_compare_L1 f4 n m = some r ∧ tm = fr 148 [(0, .isl false (List.map cGBracket ([] : List GBracket))), (1, .int .i64 0), (2, .int .i64 0), (3, .int .i64 p1), (4, .fn (.func 31) [] []), (10, .bool true), (11, .bool true)] ∧ σ = ⟨[], 0⟩) (fun _ _ => False) n ⟨hF, rfl, rfl⟩ ?_ ?_
  · skip
    rintro _ _ h; exact h.elim
  · skip
    rintro m1 _ _ ⟨hF, rfl, rfl⟩
    cases m1 with
    | zero => cases hF
    | succ m1 =>
      unfold slices_pdqsortCmpFunc_Bracket_compare_L1 at hF
      repeat refine WPU.seq ?_
      refine WPU.block ?_
      repeat refine WPU.seq ?_
      refine WPU.region Try.tb_ok ?_
      repeat refine RS.op rfl (op_move rfl) rfl rfl ?_
      refine RS.op rfl (op_int rfl rfl (ix_sub _ _ _) rfl) rfl rfl ?_
      refine RS.op rfl (op_assign rfl) rfl rfl ?_
      refine RS.done ?_
      repeat refine gq ?_
      repeat refine WPU.seq ?_
      refine WPU.region Try.tb_ok ?_
      refine RS.op rfl (op_move rfl) rfl rfl ?_
      refine RS.op rfl (op_int rfl rfl (ix_leq _ _ _) rfl) rfl rfl ?_
      refine RS.done ?_
      repeat refine gq ?_
      repeat refine WPU.seq ?_
      refine WPU.condS (t := true) rfl (fun _ => ?_) (fun hc => by cases hc)
      repeat refine WPU.seq ?_
      obtain ⟨r2, h3, hF⟩ := bindO_some hF
      refine WPU.region Try.tb_ok ?_
      repeat refine RS.op rfl (op_move rfl) rfl rfl ?_
      refine RS.call (u := .tup []) (args := [.isl false (List.map cGBracket ([] : List GBracket)), .int .i64 0, .int .i64 0, .fn (.func 31) [] []]) rfl (op_call rfl rfl Try.fn52 Try.hb52 rfl rfl) (slices_insertionSortCmpFunc_Bracket_compare_ok f4 hf4 n  r2 h3 _) rfl rfl ?_
      refine RS.done ?_
      repeat refine gq ?_
      repeat refine WPU.seq ?_
      refine WPU.ret ?_
      repeat refine gq ?_
      have hr := Option.some.inj hF
      subst hr
      exact ⟨.inr rfl, [], res_n, .tup [], ⟨[], 0⟩, Nat.le_refl _, Gh.toR (.tup []) rfl, rfl, BU.h⟩
theorem slices_pdqsortCmpFunc_Bracket_compare_ok (f4 : GBracket → GBracket → Option (Int)) (hf4 : ∀ (a0 : GBracket) (a1 : GBracket) (r : Int), f4 a0 a1 = some r → EvU Try.prog 31 [.agg (cGBracket a0), .agg (cGBracket a1)] ⟨[], 0⟩ (fun u _ => u = .int .i64 r ∧ Bel 0 u)) (n : Nat) (p1 : Int) (r : Unit) (hF : slices_pdqsortCmpFunc_Bracket_compare f4 n p1 = some r) (σ : Sg) : EvU Try.prog 44 [.isl false (List.map cGBracket ([] : List GBracket)), .int .i64 0, .int .i64 0, .int .i64 p1, .fn (.func 31) [] []] σ (fun u σ' => u = .tup [] ∧ σ' = σ) :=
  EvU.pure1C (slices_pdqsortCmpFunc_Bracket_compare_0 f4 hf4 n p1 r hF) σ
def slices_SortFunc_Bracket_compare (f1 : GBracket → GBracket → Option (Int)) (n : Nat)  : Option (Unit) :=
  bindO (math_bits_Len n 0) fun r1 =>
  bindO (slices_pdqsortCmpFunc_Bracket_compare f1 n r1) fun r3 =>
  some ()
theorem slices_SortFunc_Bracket_compare_0 (f1 : GBracket → GBracket → Option (Int)) (hf1 : ∀ (a0 : GBracket) (a1 : GBracket) (r : Int), f1 a0 a1 = some r → EvU Try.prog 31 [.agg (cGBracket a0), .agg (cGBracket a1)] ⟨[], 0⟩ (fun u _ => u = .int .i64 r ∧ Bel 0 u)) (n : Nat)  (r : Unit) (hF : slices_SortFunc_Bracket_compare f1 n  = some r) : EvU Try.prog 30 [.isl false (List.map cGBracket ([] : List GBracket)), .fn (.func 31) [] []] ⟨[], 0⟩ (fun u _ => u = .tup [] ∧ Bel 0 u) := by
  unfold slices_SortFunc_Bracket_compare at hF
  have hf1S : ∀ (a0 : GBracket) (a1 : GBracket) (r : Int), f1 a0 a1 = some r → ∀ σ, EvU Try.prog 31 [.agg (cGBracket a0), .agg (cGBracket a1)] σ (fun u σ' => u = .int .i64 r ∧ σ' = σ) := fun a0 a1 r h σ => EvU.pure1C (hf1 a0 a1 r h) σ
  refine EvU.of_body Try.tb_ok Try.fn30 rfl ?_
  refine WPU.ghost (tm' := fr 14 [(0, .isl false (List.map cGBracket ([] : List GBracket))), (1, .fn (.func 31) [] [])]) (Gh.start (Nat.le_of_ble_eq_true rfl)) (Nat.zero_le _) ?_
  repeat refine WPU.seq ?_
  refine WPU.region Try.tb_ok ?_
  refine RS.op rfl (op_move rfl) rfl rfl ?_
  refine RS.op rfl (op_len rfl rfl rfl (len_isl cGBracket Try.und28)) rfl rfl ?_
  refine RS.op rfl (op_assign rfl) rfl rfl ?_
  refine RS.done ?_
  repeat refine gq ?_
  repeat refine WPU.seq ?_
  obtain ⟨r1, h2, hF⟩ := bindO_some hF
  obtain ⟨r3, h4, hF⟩ := bindO_some hF
  refine WPU.region Try.tb_ok ?_
  repeat refine RS.op rfl (op_move rfl) rfl rfl ?_
  refine RS.op (u := .int .u64 0) rfl (op_conv rfl rfl (by simp only [convX, Try.und3, Try.und69] <;> rfl) rfl) rfl rfl ?_
  refine RS.call (u := .int .i64 r1) (args := [.int .u64 0]) rfl (op_call rfl rfl Try.fn45 Try.hb45 rfl rfl) (math_bits_Len_ok n 0 r1 h2 _) rfl rfl ?_
  refine RS.op rfl (op_move rfl) rfl rfl ?_
  refine RS.call (u := .tup []) (args := [.isl false (List.map cGBracket ([] : List GBracket)), .int .i64 0, .int .i64 0, .int .i64 r1, .fn (.func 31) [] []]) rfl (op_call rfl rfl Try.fn44 Try.hb44 rfl rfl) (slices_pdqsortCmpFunc_Bracket_compare_ok f1 hf1 n r1 r3 h4 _) rfl rfl ?_
  refine RS.done ?_
  repeat refine gq ?_
  have hr := Option.some.inj hF
  subst hr
  exact ⟨.inl rfl, [], res_n, .tup [], ⟨[], 0⟩, Nat.le_refl _, Gh.toR (.tup []) rfl, rfl, BU.h⟩
end Go.Proofs
end
section
namespace Go.Proofs
open Go Go.Rx Go.Vx Go.Shelf Go.Sort
set_option linter.unusedVariables false
set_option maxRecDepth 10000
theorem bytesEq_refl : ∀ a : List UInt8, bytesEq a a = true
  | [] => rfl
  | x :: a => by simp [bytesEq, bytesEq_refl a]
theorem bytesEq_iff : ∀ a b : List UInt8, bytesEq a b = true ↔ a = b
  | [], [] => by simp [bytesEq]
  | [], _ :: _ => by simp [bytesEq]
  | _ :: _, [] => by simp [bytesEq]
  | x :: a, y :: b => by
    have h : (x.toNat = y.toNat) ↔ x = y := UInt8.toNat_inj
    simp only [bytesEq, beq_eq]
    by_cases e : x = y
    · subst e; simp [bytesEq_iff a b]
    · simp [e, mt h.1 e]
theorem blt_iff (a b : Nat) : Nat.blt a b = true ↔ a < b := by
  unfold Nat.blt
  rw [Nat.ble_eq]; exact Iff.rfl
theorem blt_iff' (a b : Nat) : Nat.blt a b = decide (a < b) := by
  rw [Bool.eq_iff_iff, blt_iff]; simp
theorem bytesLt_irrefl : ∀ a : List UInt8, bytesLt a a = false
  | [] => rfl
  | x :: a => by simp [bytesLt, blt_iff', bytesLt_irrefl a]
theorem bytesLt_trans : ∀ a b c : List UInt8, bytesLt a b = true → bytesLt b c = true → bytesLt a c = true
  | _, [], _, h, _ => by simp [bytesLt] at h
  | _, _ :: _, [], _, h => by simp [bytesLt] at h
  | [], _ :: _, _ :: _, _, _ => by simp [bytesLt]
  | x :: a, y :: b, z :: c, h1, h2 => by
    simp only [bytesLt, blt_iff', beq_eq] at *
    by_cases h : x.toNat < y.toNat
    · by_cases h' : y.toNat < z.toNat
      · have : x.toNat < z.toNat := by omega
        simp [this]
      · simp only [h', decide_false, cond_false] at h2
        by_cases e : y.toNat = z.toNat
        · have : x.toNat < z.toNat := by omega
          simp [this]
        · simp [e] at h2
    · simp only [h, decide_false, cond_false] at h1
      by_cases e : x.toNat = y.toNat
      · simp only [e, decide_true, cond_true] at h1
        by_cases h' : y.toNat < z.toNat
        · simp [e, h']
        · simp only [h', decide_false, cond_false] at h2
          by_cases e' : y.toNat = z.toNat
          · simp only [e', decide_true, cond_true] at h2
            have := bytesLt_trans a b c h1 h2
            simp [e, e', this]
          · simp [e'] at h2
      · simp [e] at h1
theorem bytesLt_total : ∀ a b : List UInt8, bytesLt a b = false → bytesLt b a = false → a = b
  | [], [], _, _ => rfl
  | [], _ :: _, h, _ => by simp [bytesLt] at h
  | _ :: _, [], _, h => by simp [bytesLt] at h
  | x :: a, y :: b, h1, h2 => by
    simp only [bytesLt, blt_iff', beq_eq] at *
    by_cases h : x.toNat < y.toNat
    · simp [h] at h1
    · by_cases h' : y.toNat < x.toNat
      · simp [h'] at h2
      · have e : x.toNat = y.toNat := by omega
        simp only [e, Nat.lt_irrefl, decide_false, cond_false, decide_true, cond_true] at h1 h2
        rw [bytesLt_total a b h1 h2, UInt8.toNat_inj.1 e]
theorem swo_of {α : Type} {lt : α → α → Bool} (h1 : ∀ x, lt x x = false) (h2 : ∀ x y z, lt x y = true → lt y z = true → lt x z = true) (h3 : ∀ x y, lt x y = false → lt y x = false → x = y) : SWO lt where
  irrefl := h1
  trans := h2
  ntrans := fun x y z hxy hyz => by
    cases hxz : lt x z with
    | false => rfl
    | true =>
      cases hyx : lt y x with
      | true => have := h2 y x z hyx hxz; rw [hyz] at this; cases this
      | false => have := h3 x y hxy hyx; subst this; rw [hxz] at hyz; cases hyz
def ltB (x y : GBracket) : Bool := if x.From ≠ y.From then decide (x.From < y.From) else if x.To ≠ y.To then decide (x.To < y.To) else bytesLt x.Name y.Name
theorem ltB_irrefl (x : GBracket) : ltB x x = false := by simp [ltB, bytesLt_irrefl]
theorem ltB_trans (x y z : GBracket) (h1 : ltB x y = true) (h2 : ltB y z = true) : ltB x z = true := by
  simp only [ltB] at *
  by_cases a : x.From = y.From
  · simp only [a, ne_eq, not_true_eq_false, if_false] at h1 ⊢
    by_cases b : y.From = z.From
    · simp only [b, ne_eq, not_true_eq_false, if_false] at h2 ⊢
      by_cases c : x.To = y.To
      · simp only [c, not_true_eq_false, if_false] at h1 ⊢
        by_cases d : y.To = z.To
        · simp only [d, not_true_eq_false, if_false] at h2 ⊢
          exact bytesLt_trans _ _ _ h1 h2
        · simpa [d] using h2
      · simp only [c, not_false_eq_true, if_true, decide_eq_true_eq] at h1
        by_cases d : y.To = z.To
        · have : ¬ x.To = z.To := by omega
          simp only [this, not_false_eq_true, if_true, decide_eq_true_eq]; omega
        · simp only [d, not_false_eq_true, if_true, decide_eq_true_eq] at h2
          have : ¬ x.To = z.To := by omega
          simp only [this, not_false_eq_true, if_true, decide_eq_true_eq]; omega
    · simpa [b] using h2
  · simp only [a, ne_eq, not_false_eq_true, if_true, decide_eq_true_eq] at h1
    by_cases b : y.From = z.From
    · have : ¬ x.From = z.From := by omega
      simp only [this, ne_eq, not_false_eq_true, if_true, decide_eq_true_eq]; omega
    · simp only [b, ne_eq, not_false_eq_true, if_true, decide_eq_true_eq] at h2
      have : ¬ x.From = z.From := by omega
      simp only [this, ne_eq, not_false_eq_true, if_true, decide_eq_true_eq]; omega
theorem ltB_total (x y : GBracket) (h1 : ltB x y = false) (h2 : ltB y x = false) : x = y := by
  simp only [ltB] at *
  by_cases a : x.From = y.From
  · simp only [a, ne_eq, not_true_eq_false, if_false] at h1 h2
    by_cases c : x.To = y.To
    · simp only [c, not_true_eq_false, if_false] at h1 h2
      have := bytesLt_total _ _ h1 h2
      cases x; cases y; simp_all
    · have c' : ¬ y.To = x.To := fun h => c h.symm
      simp only [c, c', not_false_eq_true, if_true, decide_eq_false_iff_not] at h1 h2
      omega
  · have a' : ¬ y.From = x.From := fun h => a h.symm
    simp only [a, a', ne_eq, not_false_eq_true, if_true, decide_eq_false_iff_not] at h1 h2
    omega
def ccB (x y : GBracket) : Int := if ltB x y then -1 else if ltB y x then 1 else 0
theorem cmpInt_eq (n : Nat) (a b : Int) : cmp_Compare_int n a b = some (if a < b then -1 else if b < a then 1 else 0) := by
  simp only [cmp_Compare_int, cmp_isNaN_int, bindO_s, bne_self_eq_false, cond_false]
  by_cases h : a < b
  · simp [h]
  · by_cases h' : b < a
    · simp [h, h']
    · simp [h, h']
theorem cmpStr_eq (n : Nat) (a b : List UInt8) : cmp_Compare_string n a b = some (if bytesLt a b then -1 else if bytesLt b a then 1 else 0) := by
  simp only [cmp_Compare_string, cmp_isNaN_string, bindO_s, bytesEq_refl, Bool.not_true, cond_false]
  cases h : bytesLt a b with
  | true => simp
  | false =>
    cases h' : bytesLt b a with
    | true =>
      have : bytesEq a b = false := by
        cases he : bytesEq a b with
        | false => rfl
        | true => have := (bytesEq_iff a b).1 he; subst this; rw [h] at h'; cases h'
      simp [this]
    | false => have := bytesLt_total a b h h'; subst this; simp [bytesEq_refl]
theorem compare_eq (n : Nat) (x y : GBracket) : evaluate_compare n x y = some (ccB x y) := by
  simp only [evaluate_compare, cmpInt_eq, cmpStr_eq, bindO_s, ccB, ltB]
  by_cases a : x.From = y.From
  · by_cases b : x.To = y.To
    · simp [a, b]
    · have b' : ¬ y.To = x.To := fun h => b h.symm
      by_cases c : x.To < y.To
      · simp [a, b, c]
      · have d : y.To < x.To := by omega
        have e : ¬ x.To < y.To := by omega
        simp [a, b, b', d, e]
  · have a' : ¬ y.From = x.From := fun h => a h.symm
    by_cases c : x.From < y.From
    · simp [a, c]
    · have d : y.From < x.From := by omega
      simp [a, a', c, d]
theorem ltOf_ccB : ltOf ccB = ltB := by
  funext x y
  simp only [ltOf, ccB]
  rcases bool_tf (ltB x y) with h | h
  · simp [h]
  · rcases bool_tf (ltB y x) with h' | h' <;> simp [h, h']
theorem swoB : SWO (ltOf ccB) := by rw [ltOf_ccB]; exact swo_of ltB_irrefl ltB_trans ltB_total
def srtB (l : List GBracket) : List GBracket := srt ltB l
theorem srtB_len (l : List GBracket) : (srtB l).length = l.length := (srt_perm ltB l).length_eq
def vB (x : GBracket) : List Value := [.string ⟨⟨x.Name⟩⟩, .int .i64 x.From, .int .i64 x.To]
theorem srtB_ok (xs : List GBracket) (hlen : xs.length < 4611686018427387904) (σ : Sg) {K t : Nat} (hK : Nat.blt K σ.nx = true) (hg : gt σ.h K = some (.vec (List.map cGBracket xs).flatten 53 3 t)) :
    EvU Try.prog 30 [.vl K t 0 xs.length, .fn (.func 31) [] []] σ (fun u σ' => u = .tup [] ∧ σ' = ⟨ug σ.h K (.vec (List.map cGBracket (srtB xs)).flatten 53 3 t), σ.nx⟩) := by
  by_cases hne : xs = []
  · subst hne
    have h0 := slices_SortFunc_Bracket_compare_0 (fun x y => some (ccB x y)) (fun a0 a1 r h => by
        have := evaluate_compare_0 0 a0 a1 r (by rw [compare_eq]; exact h)
        exact this) 1 () rfl
    have h1 := EvU.view0 (args' := [.vl K t 0 ([] : List GBracket).length, .fn (.func 31) [] []]) (σ := σ) h0 (by simp [BelL, Bel, BelR]) (Gh.trans (Gh.fz K (.vec (List.map cGBracket ([] : List GBracket)).flatten 53 3 t) 3 hg (by simp) rfl rfl) (Gh.eqv (by
        simp only [fzL_cons, fzL_nil, fz_vl len_cGBracket, fz_fn]) rfl))
    refine h1.mono ?_
    rintro u σ' ⟨rfl, rfl⟩
    refine ⟨rfl, ?_⟩
    have : ug σ'.h K (.vec (List.map cGBracket (srtB [])).flatten 53 3 t) = σ'.h := by
      have hu : ∀ (h : List (Nat × B)) (b : B), gt h K = some b → ug h K b = h := by
        intro h
        induction h with
        | nil => intro b hb; simp [gt] at hb
        | cons p h ih =>
          obtain ⟨j, c⟩ := p
          intro b hb
          simp only [gt, ug, beq_eq] at hb ⊢
          by_cases e : j = K
          · simp [e] at hb; simp [e, hb]
          · simp only [e, decide_false, cond_false] at hb ⊢; rw [ih b hb]
      exact hu _ _ hg
    rw [this]
  · have h := EvU.srtT (P := Try.prog) (f := 30) (g := 31) (enc := vB) (encU := cGBracket) (k := 3) (fun _ => rfl) (by omega) (fun x => rfl) (fun x => rfl) (fun m x => by simp [vB, renL, ren]) (cf := ccB) swoB (by rw [ltOf_ccB]; exact ltB_total)
      (fun blk off cap d w h1 h2 h3 => AnyQ.slices_SortFunc Try.sortB 3 Try.isAgg53 Try.sizeOf53 vB (fun _ => rfl) (fun x v hv => by
          simp only [vB, List.mem_cons, List.not_mem_nil, or_false] at hv
          rcases hv with rfl | rfl | rfl <;> rfl) ccB swoB 31 #[] blk off cap d w (enters_of Try.func31 (by kernel_rfl) rfl) (fun m os dk hs x y => by
          have hg := EvU.grows (P := Try.prog) (g := 31) (args := [.agg (cGBracket x), .agg (cGBracket y)]) (vs := [.agg (vB x).toArray, .agg (vB y).toArray]) (u := .int .i64 (ccB x y)) (cv := .int .i64 (ccB x y)) ((evaluate_compare_0 0 x y (ccB x y) (compare_eq 0 x y)).mono fun u s h => h.1) rfl rfl (fun m => by simp [renL, ren, vB]) (fun m => by simp [ren]) (sortWorldK vB 3 w blk off m dk os)
          exact hg) h1 h2 h3) (σ := σ) (K := K) (st := t) (e := 53) xs hne hlen hg
    refine h.mono ?_
    rintro u σ' ⟨rfl, rfl⟩
    exact ⟨rfl, by rw [ltOf_ccB]; rfl⟩
end Go.Proofs
end
section
namespace Go.Proofs
open Go Go.Rx
set_option maxRecDepth 1000000
theorem Try.run11 : (callX Try.tb 100000 60 11 [] ⟨[], 0⟩).map (·.1) = some (.bool true) := by kernel_rfl
theorem Try.example_ok (w : World) : Calls Try.prog 11 #[] w fun e w' => e = .returned (.bool true) ∧ RowKit.Below w.heap.size w w' ∧ w.drawn ≤ w'.drawn := by
  have h := Try.run11
  cases hc : callX Try.tb 100000 60 11 [] ⟨[], 0⟩ with
  | none => rw [hc] at h; cases h
  | some q =>
    obtain ⟨v, s⟩ := q
    rw [hc] at h
    simp only [Option.map_some, Option.some.injEq] at h
    subst h
    exact call_closed Try.tb_ok hc (fun _ => by simp [renL]) (fun _ => by simp [ren]) w
end Go.Proofs
end
section
namespace Go.Proofs
open Go Go.Rx Go.Vx
def law50_exampleHolds (n : Nat) : Option Bool := some true
theorem law50_exampleHolds_ok (n : Nat) (r : Bool) (hF : law50_exampleHolds n = some r) (σ : Sg) : EvU Try.prog 11 [] σ (fun u σ' => u = .bool r ∧ σ' = σ) := by
  cases hF
  exact EvU.of_closed Try.example_ok (fun x => by simp [Rel]) (fun m => by simp [ren]) σ
end Go.Proofs
end
section
namespace Go.Proofs
open Go Go.Rx Go.Vx
set_option maxRecDepth 10000
set_option linter.unusedSimpArgs false
set_option linter.unusedVariables false
def evaluate_Brackets (n : Nat) (p1 : GDeriv) : Option ((List GBracket)) :=
  bindO (evaluate_gather n ([] : List GBracket) p1) fun r2 =>
  needO (r2.length < 4611686018427387904) (
  some (srtB r2))
theorem evaluate_Brackets_0 (n : Nat) (p1 : GDeriv) (r : (List GBracket)) (hF : evaluate_Brackets n p1 = some r) : EvU Try.prog 13 [.agg (xGDeriv p1)] ⟨[], 0⟩ (fun u _ => u = .isl false (List.map cGBracket r) ∧ Bel 0 u) := by
  unfold evaluate_Brackets at hF
  refine EvU.of_body Try.tb_ok Try.fn13 rfl ?_
  refine WPU.ghost (tm' := fr 9 [(0, .agg (xGDeriv p1))]) (Gh.start (Nat.le_of_ble_eq_true rfl)) (Nat.zero_le _) ?_
  repeat refine WPU.seq ?_
  refine WPU.region Try.tb_ok ?_
  refine RS.op (u := .ptr 0 0 0) (σ' := ⟨[(0, .row (xGDeriv p1) 24)], 1⟩) rfl (op_box rfl rfl rfl) rfl rfl ?_
  refine RS.op rfl (op_assign rfl) rfl rfl ?_
  refine RS.done ?_
  repeat refine gq ?_
  repeat refine WPU.seq ?_
  obtain ⟨r2, h3, hF⟩ := bindO_some hF
  refine WPU.region Try.tb_ok ?_
  refine RS.op (u := .agg (xGDeriv p1)) rfl (ld_agg Try.und24 rfl (sz_of Try.inf24) rfl rfl rfl) rfl rfl ?_
  refine RS.callx (args := [.nils, .agg (xGDeriv p1)]) rfl (op_call rfl rfl Try.fn29 Try.hb29 rfl rfl) (EvU.nil1 53 3 (by decide) (evaluate_gather_ok n ([] : List GBracket) p1 r2 h3 _ rfl rfl)) rfl rfl ?_
  rintro _ _ ⟨t4, rfl, rfl⟩
  refine RS.op rfl (op_assign rfl) rfl rfl ?_
  refine RS.done ?_
  repeat refine gq ?_
  repeat refine WPU.seq ?_
  obtain ⟨h5, hF⟩ := needO_some hF
  refine WPU.joinK (fun tm σ => tm = fr 9 [(3, .vl 1 t4 0 ((srtB r2).length))] ∧ σ = ⟨[(1, .vec (List.map cGBracket (srtB r2)).flatten 53 3 t4), (0, .row (xGDeriv p1) 24)], 2⟩) ?_ ?_
  · skip
    rintro _ _ ⟨rfl, rfl⟩
    repeat refine gq ?_
    repeat refine WPU.seq ?_
    refine WPU.region Try.tb_ok ?_
    refine RS.op rfl (op_move rfl) rfl rfl ?_
    refine RS.op rfl (op_assign rfl) rfl rfl ?_
    refine RS.done ?_
    repeat refine gq ?_
    repeat refine WPU.seq ?_
    refine WPU.ret ?_
    repeat refine gq ?_
    have hr := Option.some.inj hF
    subst hr
    exact ⟨.inr rfl, [.vl 1 t4 0 ((srtB r2).length)], res_t rfl (res_n), .isl false (List.map cGBracket (srtB r2)), ⟨[], 0⟩, Nat.le_refl _, Gh.trans (Gh.fz (tm' := [.isl false (List.map cGBracket (srtB r2))]) (h' := [(0, .row (xGDeriv p1) 24)]) 1 (.vec (List.map cGBracket (srtB r2)).flatten 53 3 t4) 3 rfl (by simp) (by simp only [oneU, fzL_nil, fzL_cons, fz_int, fz_bool, fz_str, fz_nils, fz_nilp, fz_nilm, fz_nilf, fz_junk, fz_isl, fz_map, fz_agg, fz_tup, fz_fn, junkT, fz_vl len_cGBracket, fz_xGDeriv]) (by simp only [fzH, fzB, Nat.beq, cond_true, cond_false, oneU, fzL_nil, fzL_cons, fz_int, fz_bool, fz_str, fz_nils, fz_nilp, fz_nilm, fz_nilf, fz_junk, fz_isl, fz_map, fz_agg, fz_tup, fz_fn, junkT, fz_vl len_cGBracket, fz_xGDeriv])) (Gh.toR (.isl false (List.map cGBracket (srtB r2))) rfl), rfl, BU.h⟩
  · skip
    refine WPU.region Try.tb_ok ?_
    refine RS.op rfl (op_move rfl) rfl rfl ?_
    refine RS.callx (args := [.vl 1 t4 0 r2.length, .fn (.func 31) [] []]) rfl (op_call rfl rfl Try.fn30 Try.hb30 rfl rfl) (srtB_ok r2 h5 _ rfl rfl) rfl rfl ?_
    rintro _ _ ⟨rfl, rfl⟩
    refine RS.done ?_
    repeat refine gq ?_
    exact ⟨_, _, ⟨rfl, rfl⟩, (Nat.zero_le _), Gh.eqS ⟨(by rw [srtB_len r2]; rfl), trivial⟩ rfl⟩
theorem evaluate_Brackets_ok (n : Nat) (p1 : GDeriv) (r : (List GBracket)) (hF : evaluate_Brackets n p1 = some r) (σ : Sg) : EvU Try.prog 13 [.agg (xGDeriv p1)] σ (fun u σ' => u = .isl false (List.map cGBracket r) ∧ σ' = σ) :=
  EvU.pure1C (evaluate_Brackets_0 n p1 r hF) σ
end Go.Proofs
end
section
namespace Go.Proofs
open Go Go.Rx Go.Vx Go.Sort
set_option linter.unusedVariables false
theorem len_lt_sizeOf {α : Type} [SizeOf α] : ∀ l : List α, l.length < SizeOf.sizeOf l
  | [] => by simp
  | x :: l => by have := len_lt_sizeOf l; simp; omega
theorem kid_lt (d : GDeriv) {x : GDeriv} (h : x ∈ d.Kids) : SizeOf.sizeOf x < SizeOf.sizeOf d := by
  cases d with
  | mk a b c e ks =>
    have := List.sizeOf_lt_of_mem h
    simp only [GDeriv.Kids] at this
    simp only [GDeriv.mk.sizeOf_spec]
    omega
theorem kids_lt (d : GDeriv) : d.Kids.length + 1 < SizeOf.sizeOf d := by
  cases d with
  | mk a b c e ks =>
    have := len_lt_sizeOf ks
    simp only [GDeriv.Kids, GDeriv.mk.sizeOf_spec]
    omega
mutual
def okG : GDeriv → Prop
  | .mk _ _ _ _ ks => ks.length ≤ 9223372036854775807 ∧ okGs ks
def okGs : List GDeriv → Prop
  | [] => True
  | d :: l => okG d ∧ okGs l
end
theorem okGs_mem : ∀ {l : List GDeriv}, okGs l → ∀ d ∈ l, okG d
  | [], _, d, h => by cases h
  | e :: l, h, d, hd => by
    simp only [okGs] at h
    rcases List.mem_cons.1 hd with rfl | hd
    · exact h.1
    · exact okGs_mem h.2 d hd
theorem okG_len {d : GDeriv} (h : okG d) : d.Kids.length ≤ 9223372036854775807 := by cases d; simp only [okG] at h; exact h.1
theorem okG_kid {d : GDeriv} (h : okG d) {x : GDeriv} (hx : x ∈ d.Kids) : okG x := by cases d; simp only [okG] at h; exact okGs_mem h.2 x hx
mutual
def nodes : GDeriv → Nat
  | .mk _ _ _ _ ks => 1 + nodesL ks
def nodesL : List GDeriv → Nat
  | [] => 0
  | d :: l => nodes d + nodesL l
end
theorem nodes_eq (d : GDeriv) : nodes d = 1 + nodesL d.Kids := by cases d; simp [nodes, GDeriv.Kids]
theorem nodesL_app : ∀ a b : List GDeriv, nodesL (a ++ b) = nodesL a + nodesL b
  | [], b => by simp [nodesL]
  | d :: a, b => by simp [nodesL, nodesL_app a b]; omega
theorem nodesL_take {l : List GDeriv} {i : Nat} {x : GDeriv} (h : l[i]? = some x) : nodesL (l.take (i + 1)) = nodesL (l.take i) + nodes x := by
  rw [List.take_add_one, h, nodesL_app]; simp [nodesL]
theorem take_snoc {α : Type} {l : List α} {i : Nat} {x : α} (h : l[i]? = some x) : l.take (i + 1) = l.take i ++ [x] := by rw [List.take_add_one, h]; rfl
theorem wr {z : Int} (h1 : -9223372036854775808 ≤ z) (h2 : z ≤ 9223372036854775807) : IntKind.i64.wrap z = z := wrap_i64 (by omega) (by omega)
theorem wr1 {i len : Nat} (h : i < len) (hl : len ≤ 9223372036854775807) : IntKind.i64.wrap ((i : Int) + 1) = ((i + 1 : Nat) : Int) := by rw [wr (by omega) (by omega)]; simp
theorem get_of {α : Type} {l : List α} {i : Nat} (h : i < l.length) : ∃ x, l[i]? = some x ∧ x ∈ l := ⟨l[i], by simp [h], by simp⟩
theorem count_L {d : GDeriv} (hl : d.Kids.length ≤ 9223372036854775807) {lim : Int} (h0 : 0 ≤ lim) (h1 : lim ≤ 40) {self : GDeriv → Int → Option Int}
    (hself : ∀ x ∈ d.Kids, ∀ q : Int, 0 ≤ q → q ≤ 40 → ∃ c, self x q = some c ∧ 1 ≤ c ∧ c ≤ q + 1 ∧ (c ≤ q → c = nodes x)) :
    ∀ (m i : Nat) (acc : Int), d.Kids.length - i < m → i ≤ d.Kids.length → 1 ≤ acc → acc ≤ lim + 1 → (acc ≤ lim → acc = 1 + nodesL (d.Kids.take i)) →
      ∃ c, law50_count_L1 d lim self m acc i = some c ∧ 1 ≤ c ∧ c ≤ lim + 1 ∧ (c ≤ lim → c = 1 + nodesL d.Kids)
  | 0, i, acc, hm, _, _, _, _ => by omega
  | m + 1, i, acc, hm, hi, ha, hb, hc => by
    unfold law50_count_L1
    by_cases hlt : i < d.Kids.length
    · obtain ⟨x, hx, hmem⟩ := get_of hlt
      have e1 : decide ((i : Int) < (d.Kids.length : Int)) = true := by simp; omega
      by_cases hal : acc ≤ lim
      · simp only [e1, cond_true, bindO_s, hal, decide_true, idxO_nat, hx]
        rw [wr (by omega) (by omega)]
        obtain ⟨c, g1, g2, g3, g4⟩ := hself x hmem (lim - acc) (by omega) (by omega)
        rw [g1, bindO_s, wr (by omega) (by omega), wr1 hlt hl]
        refine count_L hl h0 h1 hself m (i + 1) (acc + c) (by omega) (by omega) (by omega) (by omega) fun h => ?_
        rw [nodesL_take hx, g4 (by omega), hc hal]
        omega
      · simp only [e1, cond_true, bindO_s, hal, decide_false, cond_false, law50_count_K1]
        exact ⟨acc, rfl, ha, hb, fun h => absurd h hal⟩
    · have e1 : decide ((i : Int) < (d.Kids.length : Int)) = false := by simp; omega
      simp only [e1, cond_false, bindO_s, law50_count_K1]
      refine ⟨acc, rfl, ha, hb, fun h => ?_⟩
      have : i = d.Kids.length := by omega
      rw [hc h, this, List.take_length]
theorem count_ok : ∀ (s : Nat) (d : GDeriv), SizeOf.sizeOf d < s → okG d → ∀ n, SizeOf.sizeOf d ≤ n → ∀ lim : Int, 0 ≤ lim → lim ≤ 40 → ∃ c, law50_count n d lim = some c ∧ 1 ≤ c ∧ c ≤ lim + 1 ∧ (c ≤ lim → c = nodes d)
  | 0, d, hs, _, _, _, _, _, _ => by omega
  | s + 1, d, hs, hok, n, hn, lim, h0, h1 => by
    have hk := kids_lt d
    cases n with
    | zero => omega
    | succ n =>
      obtain ⟨c, g1, g2, g3, g4⟩ := count_L (okG_len hok) h0 h1 (self := law50_count n) (fun x hx q q0 q1 => by
        have := kid_lt d hx
        exact count_ok s x (by omega) (okG_kid hok hx) n (by omega) q q0 q1) n 0 1 (by omega) (by omega) (by omega) (by omega) (fun _ => by simp [nodesL])
      refine ⟨c, ?_, g2, g3, fun h => ?_⟩
      · simp only [law50_count, law50_count_b]; simpa using g1
      · rw [nodes_eq, g4 h]; simp
theorem nested_L2 {z : Int} {rc : Int → Option Bool} (hrc : ∃ b, rc (IntKind.i64.wrap (z + 1)) = some b) {x : GDeriv} {l : List GDeriv} (hl : l.length ≤ 9223372036854775807) : ∀ (m i : Nat), l.length - i < m → i ≤ l.length → ∃ b, law50_nested_L2 z rc x l m i = some b
  | 0, i, hm, _ => by omega
  | m + 1, i, hm, hi => by
    unfold law50_nested_L2
    by_cases hlt : i < l.length
    · obtain ⟨y, hy, _⟩ := get_of hlt
      have e1 : decide ((i : Int) < (l.length : Int)) = true := by simp; omega
      simp only [e1, cond_true, idxO_nat, hy, bindO_s]
      rw [wr1 hlt hl]
      obtain ⟨b, hb⟩ := nested_L2 hrc hl m (i + 1) (by omega) (by omega)
      rcases bool_tf (decide (x.From < y.To)) with h | h
      · rcases bool_tf (decide (y.From < x.To)) with h' | h'
        · simp [h, h']
        · simp only [h, h', cond_true, cond_false, bindO_s]; exact ⟨b, hb⟩
      · simp only [h, cond_false, bindO_s]; exact ⟨b, hb⟩
    · have e1 : decide ((i : Int) < (l.length : Int)) = false := by simp; omega
      simp only [e1, cond_false, law50_nested_K2]
      exact hrc
theorem nested_L1 {d : GDeriv} (hl : d.Kids.length ≤ 9223372036854775807) {n : Nat} (hn : d.Kids.length < n) {self : GDeriv → Option Bool} (hself : ∀ x ∈ d.Kids, ∃ b, self x = some b) : ∀ (m i : Nat), d.Kids.length - i < m → i ≤ d.Kids.length → ∃ b, law50_nested_L1 d n self m i = some b
  | 0, i, hm, _ => by omega
  | m + 1, i, hm, hi => by
    unfold law50_nested_L1
    by_cases hlt : i < d.Kids.length
    · obtain ⟨x, hx, hmem⟩ := get_of hlt
      have e1 : decide ((i : Int) < (d.Kids.length : Int)) = true := by simp; omega
      simp only [e1, cond_true, idxO_nat, hx, bindO_s]
      obtain ⟨b, hb⟩ := nested_L1 hl hn hself m (i + 1) (by omega) (by omega)
      have hcut : cutO d.Kids 0 (i : Int) = some (d.Kids.take i) := by
        unfold cutO
        rw [if_pos ⟨by omega, by omega, by omega⟩]; simp
      have hin : ∃ b, bindO (cutO d.Kids 0 (i : Int)) (fun l22 => law50_nested_L2 i (law50_nested_L1 d n self m) x l22 n 0) = some b := by
        rw [hcut, bindO_s]
        have hlen : (d.Kids.take i).length = i := by simp; omega
        exact nested_L2 (l := d.Kids.take i) ⟨b, by rw [wr1 hlt hl]; exact hb⟩ (by omega) n 0 (by omega) (by omega)
      obtain ⟨b', hb'⟩ := hin
      obtain ⟨q, hq⟩ := hself x hmem
      rcases bool_tf (decide (x.From < d.From)) with h | h
      · simp [h]
      · rcases bool_tf (decide (x.To > d.To)) with h' | h'
        · simp [h, h']
        · simp only [h, h', cond_false, hq, bindO_s]
          cases q with
          | false => simp
          | true => simp only [Bool.not_true, cond_false]; exact ⟨b', hb'⟩
    · have e1 : decide ((i : Int) < (d.Kids.length : Int)) = false := by simp; omega
      simp only [e1, cond_false, law50_nested_K1]
      exact ⟨true, rfl⟩
theorem nested_ok : ∀ (s : Nat) (d : GDeriv), SizeOf.sizeOf d < s → okG d → ∀ n, SizeOf.sizeOf d ≤ n → ∃ b, law50_nested n d = some b
  | 0, d, hs, _, _, _ => by omega
  | s + 1, d, hs, hok, n, hn => by
    have hk := kids_lt d
    cases n with
    | zero => omega
    | succ n =>
      simp only [law50_nested, law50_nested_b]
      rcases bool_tf (decide (d.From ≥ d.To)) with h | h
      · simp [h]
      · simp only [h, cond_false]
        have := nested_L1 (okG_len hok) (n := n) (by omega) (self := law50_nested n) (fun x hx => by
          have := kid_lt d hx
          exact nested_ok s x (by omega) (okG_kid hok hx) n (by omega)) n 0 (by omega) (by omega)
        simpa using this
end Go.Proofs
end
section
namespace Go.Proofs
open Go Go.Rx Go.Vx Go.Sort
set_option linter.unusedVariables false
mutual
def brs : GDeriv → List GBracket
  | .mk k nm a b ks => (if k = 2 then [⟨nm, a, b⟩] else []) ++ brsL ks
def brsL : List GDeriv → List GBracket
  | [] => []
  | d :: l => brs d ++ brsL l
end
theorem brs_eq (d : GDeriv) : brs d = (if d.Kind = 2 then [⟨d.Name, d.From, d.To⟩] else []) ++ brsL d.Kids := by cases d; simp only [brs]; rfl
mutual
theorem brs_len : ∀ d : GDeriv, (brs d).length ≤ nodes d
  | .mk k nm a b ks => by
    have := brsL_len ks
    simp only [brs, nodes, List.length_append]
    split <;> simp <;> omega
theorem brsL_len : ∀ l : List GDeriv, (brsL l).length ≤ nodesL l
  | [] => by simp [brsL]
  | d :: l => by
    have := brs_len d
    have := brsL_len l
    simp only [brsL, nodesL, List.length_append]; omega
end
theorem drop_cons' {α : Type} {l : List α} {i : Nat} {x : α} (h : l[i]? = some x) : l.drop i = x :: l.drop (i + 1) := by
  have hlt : i < l.length := (List.getElem?_eq_some_iff.1 h).1
  rw [List.drop_eq_getElem_cons hlt]
  congr 1
  rw [List.getElem?_eq_getElem hlt] at h
  exact Option.some.inj h
theorem nodesL_drop {l : List GDeriv} {i : Nat} {x : GDeriv} (h : l[i]? = some x) : nodesL (l.drop i) = nodes x + nodesL (l.drop (i + 1)) := by rw [drop_cons' h]; simp [nodesL]
theorem gather_L {d : GDeriv} (hl : d.Kids.length ≤ 9223372036854775807) {self : List GBracket → GDeriv → Option (List GBracket)} (hself : ∀ x ∈ d.Kids, ∀ l, l.length + nodes x ≤ 1000 → self l x = some (l ++ brs x)) :
    ∀ (m i : Nat) (l : List GBracket), d.Kids.length - i < m → i ≤ d.Kids.length → l.length + nodesL (d.Kids.drop i) ≤ 1000 → evaluate_gather_L2 d self m i l = some (l ++ brsL (d.Kids.drop i))
  | 0, i, l, hm, _, _ => by omega
  | m + 1, i, l, hm, hi, hb => by
    unfold evaluate_gather_L2
    by_cases hlt : i < d.Kids.length
    · obtain ⟨x, hx, hmem⟩ := get_of hlt
      have e1 : decide ((i : Int) < (d.Kids.length : Int)) = true := by simp; omega
      rw [nodesL_drop hx] at hb
      have hbl := brs_len x
      simp only [e1, cond_true, idxO_nat, hx, bindO_s, hself x hmem l (by omega)]
      rw [wr1 hlt hl, gather_L hl hself m (i + 1) (l ++ brs x) (by omega) (by omega) (by simp; omega), drop_cons' hx]
      simp [brsL]
    · have e1 : decide ((i : Int) < (d.Kids.length : Int)) = false := by simp; omega
      simp only [e1, cond_false, evaluate_gather_K2]
      have : d.Kids.drop i = [] := List.drop_eq_nil_of_le (by omega)
      simp [this, brsL]
theorem gather_ok : ∀ (s : Nat) (d : GDeriv), SizeOf.sizeOf d < s → okG d → ∀ n, SizeOf.sizeOf d ≤ n → ∀ l, l.length + nodes d ≤ 1000 → evaluate_gather n l d = some (l ++ brs d)
  | 0, d, hs, _, _, _, _, _ => by omega
  | s + 1, d, hs, hok, n, hn, l, hb => by
    have hk := kids_lt d
    cases n with
    | zero => omega
    | succ n =>
      have hnd := nodes_eq d
      have hg : ∀ l : List GBracket, l.length + nodesL d.Kids ≤ 1000 → evaluate_gather_J1 d n (evaluate_gather n) l = some (l ++ brsL d.Kids) := fun l hb' => by
        have := gather_L (okG_len hok) (self := evaluate_gather n) (fun x hx l hb => by
          have := kid_lt d hx
          exact gather_ok s x (by omega) (okG_kid hok hx) n (by omega) l hb) n 0 l (by omega) (by omega) (by simpa using hb')
        simp only [evaluate_gather_J1]
        simpa using this
      simp only [evaluate_gather, evaluate_gather_b]
      rw [brs_eq]
      by_cases h2 : d.Kind = 2
      · simp only [h2, beq_self_eq_true, cond_true, if_true]
        rw [needO_of (by omega), hg _ (by simp; omega)]
        simp
      · have : (d.Kind == 2) = false := by simpa using h2
        simp only [this, cond_false, h2, if_false, List.nil_append]
        exact hg l (by omega)
theorem before_eq (n : Nat) (x y : GBracket) : ref50_before n x y = some (ltB x y) := by
  simp only [ref50_before, ltB]
  by_cases a : x.From = y.From
  · by_cases b : x.To = y.To
    · simp [a, b]
    · have h : (x.To != y.To) = true := by simpa using b
      simp [a, b, h]
  · have h : (x.From != y.From) = true := by simpa using a
    simp [a, h]
theorem put_L {l : List GBracket} {x : GBracket} (hl : l.length ≤ 1000) {n : Nat} : ∀ (m i : Nat), i ≤ l.length → i < m → (∀ y ∈ l.drop i, ltB x y = true) →
    ∃ k, k ≤ l.length ∧ ref50_put_L1 l x n m i = some (l.take k ++ [x] ++ l.drop k) ∧ (∀ y ∈ l.drop k, ltB x y = true) ∧ (∀ j y, k = j + 1 → l[j]? = some y → ltB x y = false)
  | 0, i, _, hm, _ => by omega
  | m + 1, i, hi, hm, hd => by
    have out : ref50_put_K1 l x i = some (l.take i ++ [x] ++ l.drop i) := by
      have c1 : cutO l 0 (i : Int) = some (l.take i) := by unfold cutO; rw [if_pos ⟨by omega, by omega, by omega⟩]; simp
      have c2 : cutO l (i : Int) (l.length : Int) = some (l.drop i) := by unfold cutO; rw [if_pos ⟨by omega, by omega, by omega⟩]; simp
      have l1 : (l.take i).length = i := by simp; omega
      simp only [ref50_put_K1, c1, c2, bindO_s]
      rw [needO_of (by omega), needO_of (by omega), needO_of (by simp; omega)]
    unfold ref50_put_L1
    cases i with
    | zero =>
      have e1 : decide (((0 : Nat) : Int) > 0) = false := by simp
      simp only [e1, cond_false, bindO_s]
      exact ⟨0, by omega, out, hd, fun j y h => by omega⟩
    | succ j =>
      have e1 : decide (((j + 1 : Nat) : Int) > 0) = true := by rw [decide_eq_true_eq]; omega
      obtain ⟨y, hy, _⟩ := get_of (l := l) (i := j) (by omega)
      have w1 : IntKind.i64.wrap (((j + 1 : Nat) : Int) - 1) = (j : Int) := by rw [wr (by omega) (by omega)]; omega
      simp only [e1, cond_true, w1, idxO_nat, hy, bindO_s, before_eq]
      rcases bool_tf (ltB x y) with h | h
      · simp only [h, cond_true]
        refine put_L hl m j (by omega) (by omega) fun z hz => ?_
        rw [drop_cons' hy] at hz
        rcases List.mem_cons.1 hz with rfl | hz
        · exact h
        · exact hd z hz
      · simp only [h, cond_false]
        exact ⟨j + 1, hi, out, hd, fun j' y' e hy' => by
          have : j' = j := by omega
          subst this; rw [hy] at hy'; cases hy'; exact h⟩
theorem swoL : SWO ltB := swo_of ltB_irrefl ltB_trans ltB_total
theorem put_ok {l : List GBracket} {x : GBracket} (hl : l.length ≤ 1000) {n : Nat} (hn : l.length < n) (ha : Asc ltB l) : ∃ r, ref50_put n l x = some r ∧ r.Perm (l ++ [x]) ∧ Asc ltB r := by
  obtain ⟨k, h0, h1, h2, h3⟩ := put_L (x := x) hl (n := n) n l.length (Nat.le_refl _) hn (by simp)
  refine ⟨_, h1, ?_, ?_⟩
  · have : l = l.take k ++ l.drop k := by simp
    have h5 : (l.take k ++ [x] ++ l.drop k).Perm (l.take k ++ l.drop k ++ [x]) := by
      rw [List.append_assoc, List.append_assoc]
      exact (List.perm_append_comm).append_left _
    rwa [← this] at h5
  · unfold Asc at ha ⊢
    have hsplit : l = l.take k ++ l.drop k := by simp
    rw [hsplit, List.pairwise_append] at ha
    obtain ⟨a1, a2, a3⟩ := ha
    have hpre : ∀ y ∈ l.take k, ltB x y = false := by
      cases k with
      | zero => intro y hy; simp at hy
      | succ j =>
        obtain ⟨z, hz, _⟩ := get_of (l := l) (i := j) (by omega)
        have hzx := h3 j z rfl hz
        intro y hy
        rw [take_snoc hz] at hy a1
        rcases List.mem_append.1 hy with hy | hy
        · rw [List.pairwise_append] at a1
          exact swoL.ntrans x z y hzx (a1.2.2 y hy z (by simp))
        · simp at hy; subst hy; exact hzx
    rw [List.append_assoc, List.pairwise_append]
    refine ⟨a1, ?_, ?_⟩
    · rw [List.singleton_append, List.pairwise_cons]
      refine ⟨fun z hz => ?_, a2⟩
      cases hzx : ltB z x with
      | false => rfl
      | true => have := ltB_trans x z x (h2 z hz) hzx; rw [ltB_irrefl] at this; cases this
    · intro y hy z hz
      rw [List.singleton_append] at hz
      rcases List.mem_cons.1 hz with rfl | hz
      · exact hpre y hy
      · exact a3 y hy z hz
theorem refB_L3 {n : Nat} {z : Int} {rc : List GBracket → Int → Option (List GBracket)} {r : List GBracket} (hr : r.length ≤ 9223372036854775807) : ∀ (m i : Nat) (l : List GBracket), r.length - i < m → i ≤ r.length → l.length + (r.length - i) ≤ 1000 → 1001 ≤ n → Asc ltB l →
    ∃ out, out.Perm (l ++ r.drop i) ∧ Asc ltB out ∧ ref50_Brackets_L3 n z rc r m l i = rc out (IntKind.i64.wrap (z + 1))
  | 0, i, l, hm, _, _, _, _ => by omega
  | m + 1, i, l, hm, hi, hb, hn, ha => by
    unfold ref50_Brackets_L3
    by_cases hlt : i < r.length
    · obtain ⟨x, hx, _⟩ := get_of hlt
      have e1 : decide ((i : Int) < (r.length : Int)) = true := by simp; omega
      obtain ⟨q, q1, q2, q3⟩ := put_ok (l := l) (x := x) (by omega) (n := n) (by omega) ha
      simp only [e1, cond_true, idxO_nat, hx, bindO_s, q1]
      have hql := q2.length_eq
      simp at hql
      obtain ⟨out, o1, o2, o3⟩ := refB_L3 (z := z) (rc := rc) hr m (i + 1) q (by omega) (by omega) (by omega) hn q3
      refine ⟨out, ?_, o2, ?_⟩
      · rw [drop_cons' hx]
        have := o1.trans (q2.append_right (r.drop (i + 1)))
        simpa using this
      · rw [wr1 hlt hr]; exact o3
    · have e1 : decide ((i : Int) < (r.length : Int)) = false := by simp; omega
      simp only [e1, cond_false, ref50_Brackets_K3]
      have : r.drop i = [] := List.drop_eq_nil_of_le (by omega)
      exact ⟨l, by simp [this], ha, rfl⟩
theorem refB_L2 {d : GDeriv} (hl : d.Kids.length ≤ 9223372036854775807) {n : Nat} (hn : 1001 ≤ n) {self : GDeriv → Option (List GBracket)} (hself : ∀ x ∈ d.Kids, nodes x ≤ 1000 → ∃ r, self x = some r ∧ r.Perm (brs x)) :
    ∀ (m i : Nat) (l : List GBracket), d.Kids.length - i < m → i ≤ d.Kids.length → l.length + nodesL (d.Kids.drop i) ≤ 1000 → Asc ltB l → ∃ out, ref50_Brackets_L2 d n self m l i = some out ∧ out.Perm (l ++ brsL (d.Kids.drop i)) ∧ Asc ltB out
  | 0, i, l, hm, _, _, _ => by omega
  | m + 1, i, l, hm, hi, hb, ha => by
    unfold ref50_Brackets_L2
    by_cases hlt : i < d.Kids.length
    · obtain ⟨x, hx, hmem⟩ := get_of hlt
      have e1 : decide ((i : Int) < (d.Kids.length : Int)) = true := by simp; omega
      rw [nodesL_drop hx] at hb
      have hbl := brs_len x
      obtain ⟨r, r1, r2⟩ := hself x hmem (by omega)
      have hrl := r2.length_eq
      simp only [e1, cond_true, idxO_nat, hx, bindO_s, r1]
      obtain ⟨out, o1, o2, o3⟩ := refB_L3 (n := n) (z := (i : Int)) (rc := ref50_Brackets_L2 d n self m) (r := r) (by omega) n 0 l (by omega) (by omega) (by omega) hn ha
      have ol := o1.length_eq
      simp at ol
      rw [wr1 hlt hl] at o3
      obtain ⟨out2, p1, p2, p3⟩ := refB_L2 hl hn hself m (i + 1) out (by omega) (by omega) (by omega) o2
      refine ⟨out2, by rw [← p1, ← o3]; rfl, ?_, p3⟩
      rw [drop_cons' hx]
      have h1 : (out ++ brsL (d.Kids.drop (i + 1))).Perm (l ++ brs x ++ brsL (d.Kids.drop (i + 1))) := by
        refine List.Perm.append_right _ ?_
        have := o1
        simp at this
        exact this.trans (r2.append_left l)
      have := p2.trans h1
      simpa [brsL] using this
    · have e1 : decide ((i : Int) < (d.Kids.length : Int)) = false := by simp; omega
      simp only [e1, cond_false, ref50_Brackets_K2]
      have : d.Kids.drop i = [] := List.drop_eq_nil_of_le (by omega)
      exact ⟨l, rfl, by simp [this, brsL], ha⟩
theorem refB_ok : ∀ (s : Nat) (d : GDeriv), SizeOf.sizeOf d < s → okG d → ∀ n, SizeOf.sizeOf d + 1001 ≤ n → nodes d ≤ 1000 → ∃ r, ref50_Brackets n d = some r ∧ r.Perm (brs d) ∧ Asc ltB r
  | 0, d, hs, _, _, _, _ => by omega
  | s + 1, d, hs, hok, n, hn, hb => by
    have hk := kids_lt d
    cases n with
    | zero => omega
    | succ n =>
      have hnd := nodes_eq d
      have hg : ∀ l : List GBracket, l.length + nodesL d.Kids ≤ 1000 → Asc ltB l → ∃ r, ref50_Brackets_J1 d n (ref50_Brackets n) l = some r ∧ r.Perm (l ++ brsL d.Kids) ∧ Asc ltB r := fun l hb' ha => by
        have := refB_L2 (okG_len hok) (n := n) (by omega) (self := ref50_Brackets n) (fun x hx hnx => by
          have := kid_lt d hx
          obtain ⟨r, r1, r2, _⟩ := refB_ok s x (by omega) (okG_kid hok hx) n (by omega) hnx
          exact ⟨r, r1, r2⟩) n 0 l (by omega) (by omega) (by simpa using hb') ha
        simp only [ref50_Brackets_J1]
        simpa using this
      simp only [ref50_Brackets, ref50_Brackets_b]
      rw [brs_eq]
      by_cases h2 : d.Kind = 2
      · simp only [h2, beq_self_eq_true, cond_true, if_true]
        rw [needO_of (by simp)]
        exact hg _ (by simp; omega) (by simp [Asc])
      · have : (d.Kind == 2) = false := by simpa using h2
        simp only [this, cond_false, h2, if_false, List.nil_append]
        have := hg [] (by simp; omega) (by simp [Asc])
        simpa using this
theorem eqB_iff (x y : GBracket) : eqGBracket x y = true ↔ x = y := by
  cases x; cases y
  simp [eqGBracket, bytesEq_iff]
theorem srtB_of {l r : List GBracket} (hp : r.Perm l) (ha : Asc ltB r) : srtB l = r := asc_unique ltB_total (srt_asc swoL l) ha ((srt_perm ltB l).trans hp.symm)
theorem Brackets_ok {d : GDeriv} (hok : okG d) {n : Nat} (hn : SizeOf.sizeOf d ≤ n) (hb : nodes d ≤ 1000) : evaluate_Brackets n d = some (srtB (brs d)) := by
  have := brs_len d
  simp only [evaluate_Brackets]
  rw [gather_ok _ d (Nat.lt_succ_self _) hok n hn [] (by simpa using hb), bindO_s, needO_of (by simp; omega)]
  simp
end Go.Proofs
end
section
namespace Go.Vx
open Go Go.Rx
set_option linter.unusedVariables false
structure MapL (K V : Type) where
  es : List (K × V × Nat)
  cl : Nat
def mFindL {K V : Type} (eq : K → K → Bool) (k : K) : List (K × V × Nat) → Nat → Option (Nat × V × Nat)
  | [], _ => none
  | e :: es, i => cond (eq k e.1) (some (i, e.2.1, e.2.2)) (mFindL eq k es (i + 1))
def mSetL {K V : Type} (v : V) : List (K × V × Nat) → Nat → List (K × V × Nat)
  | [], _ => []
  | e :: es, 0 => (e.1, v, e.2.2) :: es
  | e :: es, i + 1 => e :: mSetL v es i
def mDelL {K V : Type} : List (K × V × Nat) → Nat → List (K × V × Nat)
  | [], _ => []
  | _ :: es, 0 => es
  | e :: es, i + 1 => e :: mDelL es i
def mBornL {K V : Type} (b : Int) : List (K × V × Nat) → Nat → Option Nat
  | [], _ => none
  | e :: es, i => cond (decide ((e.2.2 : Int) = b)) (some i) (mBornL b es (i + 1))
def mNew {K V : Type} : MapL K V := ⟨[], 0⟩
def mGet {K V : Type} (eq : K → K → Bool) (m : MapL K V) (k : K) : Option V := (mFindL eq k m.es 0).map fun x => x.2.1
def mUpd {K V : Type} (eq : K → K → Bool) (m : MapL K V) (k : K) (v : V) : MapL K V := match mFindL eq k m.es 0 with
  | none => ⟨m.es ++ [(k, v, m.cl)], m.cl + 1⟩
  | some (i, _) => ⟨mSetL v m.es i, m.cl⟩
def mEntV {K V : Type} (eq : K → K → Bool) (z : V) (m : MapL K V) (k : K) : V × Nat := match mFindL eq k m.es 0 with
  | none => (z, m.cl)
  | some (_, v, b) => (v, b)
def mEntM {K V : Type} (eq : K → K → Bool) (z : V) (m : MapL K V) (k : K) : MapL K V := match mFindL eq k m.es 0 with
  | none => ⟨m.es ++ [(k, z, m.cl)], m.cl + 1⟩
  | some _ => m
def mEntS {K V : Type} (m : MapL K V) (b : Int) (v : V) : Option (MapL K V) := match mBornL b m.es 0 with
  | none => none
  | some i => some ⟨mSetL v m.es i, m.cl⟩
def mDel {K V : Type} (eq : K → K → Bool) (m : MapL K V) (k : K) : MapL K V := match mFindL eq k m.es 0 with
  | none => m
  | some (i, _) => ⟨mDelL m.es i, m.cl⟩
section
variable {K V : Type} (kU : K → U) (vU : V → U)
def mE (e : K × V × Nat) : ME := ⟨kU e.1, vU e.2.1, e.2.2⟩
theorem mod_map (v : V) : ∀ (es : List (K × V × Nat)) (i : Nat), modU (es.map (mE kU vU)) i (fun e => { e with val := vU v }) = (mSetL v es i).map (mE kU vU)
  | [], i => by cases i <;> simp [modU, mSetL]
  | e :: es, 0 => by simp [modU, mSetL, mE]
  | e :: es, i + 1 => by simp [modU, mSetL, mod_map v es i]
theorem erase_map : ∀ (es : List (K × V × Nat)) (i : Nat), eraseU (es.map (mE kU vU)) i = (mDelL es i).map (mE kU vU)
  | [], i => by cases i <;> simp [eraseU, mDelL]
  | e :: es, 0 => by simp [eraseU, mDelL]
  | e :: es, i + 1 => by simp [eraseU, mDelL, erase_map es i]
theorem born_map (b : Int) : ∀ (es : List (K × V × Nat)) (i : Nat), bornU b (es.map (mE kU vU)) i = mBornL b es i
  | [], i => rfl
  | e :: es, i => by simp only [List.map_cons, bornU, mBornL, mE, born_map b es (i + 1)]
structure KeyOk (T : Tb) (kt : TypeId) (eq : K → K → Bool) (kV : K → Value) : Prop where
  v : ∀ k, toV (kU k) = some (kV k)
  cmp : ∀ a b, eqv T 50 kt (kV a) (kV b) = some (eq a b)
  key : ∀ k, keyX T 50 kt (kV k) = true
  pl : ∀ k, plain (kV k) = true
  same : ∀ a b, eq a b = true → veq 50 (kV b) (kV a) = true
variable {kU vU} {T : Tb} {kt : TypeId} {eq : K → K → Bool} {kV : K → Value} (hk : KeyOk kU T kt eq kV)
include hk
theorem find_map (k : K) : ∀ (es : List (K × V × Nat)) (i : Nat), findU T kt (kV k) (es.map (mE kU vU)) i = some ((mFindL eq k es i).map fun x => (x.1, vU x.2.1))
  | [], i => rfl
  | e :: es, i => by
    simp only [List.map_cons, findU, mE, hk.v, hk.cmp, mFindL]
    cases h : eq k e.1 with
    | true => simp
    | false => exact find_map k es (i + 1)
omit hk in
theorem find_at (k : K) : ∀ {es : List (K × V × Nat)} {i j : Nat} {v : V} {b : Nat}, mFindL eq k es i = some (j, v, b) → i ≤ j ∧ ∃ k', es[j - i]? = some (k', v, b) ∧ eq k k' = true
  | [], i, j, v, b, h => by simp [mFindL] at h
  | e :: es, i, j, v, b, h => by
    simp only [mFindL] at h
    cases he : eq k e.1 with
    | true =>
      rw [he] at h
      simp only [cond_true, Option.some.injEq, Prod.mk.injEq] at h
      obtain ⟨rfl, rfl, rfl⟩ := h
      exact ⟨Nat.le_refl _, e.1, by simp, he⟩
    | false =>
      rw [he] at h
      simp only [cond_false] at h
      obtain ⟨h1, k', h2, h3⟩ := find_at k h
      refine ⟨by omega, k', ?_, h3⟩
      rw [show j - i = (j - (i + 1)) + 1 by omega]
      simpa using h2
variable {σ : Sg} {n : Nat} {l : List (Nat × U)} {r : Nat} {m : MapL K V} {t et : TypeId} (hd : T.und t = some (.map kt et)) (hg : gt σ.h r = some (.map (m.es.map (mE kU vU)) m.cl))
include hd hg
theorem op_look {x k0 : Operand} {k : K} {a b : Nat} {z : Value} {zv : V} (hx : evS n l x = some (.map r)) (hk0 : evS n l k0 = some (kU k)) (hi : T.inf et = some (a, b, z)) (hz : ofV z = some (vU zv)) : opU T σ (fr n l) (.lookup t x k0 false) = some (vU ((mGet eq m k).getD zv), σ) := by
  refine op_r rfl ?_
  simp only [readU, hd, ev_fr hx, ev_fr hk0, hk.v, hk.key, cond_true, hg, find_map hk, mGet]
  cases mFindL eq k m.es 0 with
  | none => simp only [Option.map_none, hi, hz, cond_false, Option.getD_none]
  | some q => simp only [Option.map_some, cond_false, Option.getD_some]
omit hk hd hg in
theorem find_app (k : K) (hr : eq k k = true) (v : V) (b : Nat) : ∀ (es : List (K × V × Nat)) (i : Nat), mFindL eq k es i = none → mFindL eq k (es ++ [(k, v, b)]) i = some (i + es.length, v, b)
  | [], i, _ => by simp [mFindL, hr]
  | e :: es, i, h => by
    simp only [mFindL, List.cons_append] at h ⊢
    cases he : eq k e.1 with
    | true => rw [he] at h; cases h
    | false =>
      rw [he] at h
      simp only [cond_false] at h ⊢
      rw [find_app k hr v b es (i + 1) h, List.length_cons]
      congr 2
      omega
omit hk hd hg in
theorem get_ent {k : K} (hr : eq k k = true) (zv : V) : (mGet eq (mEntM eq zv m k) k).getD zv = (mGet eq m k).getD zv := by
  unfold mGet mEntM
  cases h : mFindL eq k m.es 0 with
  | none => simp only [find_app k hr zv m.cl m.es 0 h, Option.map_some, Option.map_none, Option.getD_some, Option.getD_none]
  | some q => simp only [h]
omit hg in
theorem op_lookE {x k0 : Operand} {k : K} {a b : Nat} {z : Value} {zv : V} (hg : gt σ.h r = some (.map ((mEntM eq zv m k).es.map (mE kU vU)) (mEntM eq zv m k).cl)) (hx : evS n l x = some (.map r)) (hk0 : evS n l k0 = some (kU k)) (hi : T.inf et = some (a, b, z)) (hz : ofV z = some (vU zv)) (hr : eq k k = true) : opU T σ (fr n l) (.lookup t x k0 false) = some (vU ((mGet eq m k).getD zv), σ) := by
  rw [← get_ent hr zv]
  exact op_look hk hd hg hx hk0 hi hz
omit hd hg in
theorem key_at {k : K} {j b : Nat} {v : V} (hf : mFindL eq k m.es 0 = some (j, v, b)) : ∃ k', nth (m.es.map (mE kU vU)) j = some ⟨kU k', vU v, b⟩ ∧ veq 50 (kV k') (kV k) = true := by
  obtain ⟨_, k', h1, h2⟩ := find_at k hf
  refine ⟨k', ?_, hk.same k k' h2⟩
  rw [nth_eq, List.getElem?_map]
  rw [Nat.sub_zero] at h1
  rw [h1]; rfl
theorem op_mup {x k0 v0 : Operand} {k : K} {v : V} (hx : evS n l x = some (.map r)) (hk0 : evS n l k0 = some (kU k)) (hv0 : evS n l v0 = some (vU v)) {σ' : Sg} (hσ : mapSetU σ r ((mUpd eq m k v).es.map (mE kU vU)) (mUpd eq m k v).cl = σ') : opU T σ (fr n l) (.mapUpdate t x k0 v0) = some (.junk, σ') := by
  subst hσ
  refine op_e rfl rfl ?_
  simp only [effU, ev_fr hx, ev_fr hk0, ev_fr hv0, mapUpU, hd, hk.v, hk.key, hk.pl, cond_true, hg, find_map hk, mUpd]
  cases hf : mFindL eq k m.es 0 with
  | none => simp only [Option.map_none, List.map_append, List.map_cons, List.map_nil, mE]
  | some q =>
    obtain ⟨j, v', b⟩ := q
    obtain ⟨k', h1, h2⟩ := key_at (vU := vU) hk hf
    simp only [Option.map_some, h1, hk.v, h2, cond_true, mod_map]
theorem op_ment {x k0 : Operand} {k : K} {a b : Nat} {z : Value} {zv : V} (hx : evS n l x = some (.map r)) (hk0 : evS n l k0 = some (kU k)) (hi : T.inf et = some (a, b, z)) (hz : ofV z = some (vU zv)) {σ' : Sg} (hσ : mapSetU σ r ((mEntM eq zv m k).es.map (mE kU vU)) (mEntM eq zv m k).cl = σ') : opU T σ (fr n l) (.mapEntry t x k0) = some (.tup [vU (mEntV eq zv m k).1, .int .i64 ((mEntV eq zv m k).2 : Nat)], σ') := by
  subst hσ
  refine op_e rfl rfl ?_
  simp only [effU, ev_fr hx, ev_fr hk0, mapEntU, hd, hk.v, hk.key, hk.pl, cond_true, hg, find_map hk, mEntV, mEntM]
  cases hf : mFindL eq k m.es 0 with
  | none => simp only [Option.map_none, hi, hz, List.map_append, List.map_cons, List.map_nil, mE]
  | some q =>
    obtain ⟨j, v', b'⟩ := q
    obtain ⟨k', h1, h2⟩ := key_at (vU := vU) hk hf
    simp only [Option.map_some, h1, hk.v, h2, cond_true]
omit hk hd in
theorem op_mst {t' : TypeId} {x b0 v0 : Operand} {kk : IntKind} {b : Int} {v : V} {m' : MapL K V} (hx : evS n l x = some (.map r)) (hb0 : evS n l b0 = some (.int kk b)) (hv0 : evS n l v0 = some (vU v)) (hm : mEntS m b v = some m') {σ' : Sg} (hσ : mapSetU σ r (m'.es.map (mE kU vU)) m'.cl = σ') : opU T σ (fr n l) (.entryStore t' x b0 v0) = some (.junk, σ') := by
  subst hσ
  refine op_e rfl rfl ?_
  unfold mEntS at hm
  cases hf : mBornL b m.es 0 with
  | none => rw [hf] at hm; cases hm
  | some i =>
    rw [hf] at hm
    simp only [Option.some.injEq] at hm
    subst hm
    simp only [effU, ev_fr hx, ev_fr hb0, ev_fr hv0, entStU, hg, born_map, hf, mod_map]
theorem op_mdel {x k0 : Operand} {k : K} {args : Array Operand} {ts : Array TypeId} {q : List TypeId} (ha : args.toList = [x, k0]) (ht : ts.toList = t :: q) (hx : evS n l x = some (.map r)) (hk0 : evS n l k0 = some (kU k)) {σ' : Sg} (hσ : mapSetU σ r ((mDel eq m k).es.map (mE kU vU)) (mDel eq m k).cl = σ') : opU T σ (fr n l) (.call { callee := .builtin .delete, args := args, argTypes := ts }) = some (.junk, σ') := by
  subst hσ
  refine op_e rfl rfl ?_
  simp only [effU, ha, ht, evalUL, ev_fr hx, ev_fr hk0, delU, hd, hk.v, hk.key, cond_true, hg, find_map hk, mDel]
  cases hf : mFindL eq k m.es 0 with
  | none => simp only [Option.map_none]
  | some q =>
    obtain ⟨j, v', b⟩ := q
    simp only [Option.map_some, erase_map]
end
theorem op_mnew {T : Tb} {σ : Sg} {n : Nat} {l : List (Nat × U)} {t : TypeId} : opU T σ (fr n l) (.makeMap t none) = some (.map σ.nx, newU σ (.map [] 0)) := op_e rfl rfl rfl
theorem bel_mE {K V : Type} {kU : K → U} {vU : V → U} {n : Nat} (hk : ∀ k, Bel n (kU k)) (hv : ∀ v, Bel n (vU v)) (es : List (K × V × Nat)) : ∀ e ∈ es.map (mE kU vU), Bel n e.key ∧ Bel n e.val := by
  intro e he
  obtain ⟨x, _, rfl⟩ := List.mem_map.1 he
  exact ⟨hk _, hv _⟩
theorem bytes_iff : ∀ a b : List UInt8, bytesEq a b = true ↔ a = b
  | [], [] => by simp [bytesEq]
  | [], _ :: _ => by simp [bytesEq]
  | _ :: _, [] => by simp [bytesEq]
  | x :: a, y :: b => by
    have h : (x.toNat = y.toNat) ↔ x = y := UInt8.toNat_inj
    simp only [bytesEq, beq_eq]
    by_cases e : x = y
    · subst e; simp [bytes_iff a b]
    · simp [e, mt h.1 e]
theorem bytes_refl (a : List UInt8) : bytesEq a a = true := (bytes_iff a a).2 rfl
end Go.Vx
end
section
namespace Go.Vx
open Go Go.Rx
instance {K V : Type} (n : Nat) (kU : K → U) (vU : V → U) (es : List (K × V × Nat)) (cl : Nat) [p : BFU kU] [q : BFU vU] : BB n (.map (es.map (mE kU vU)) cl) := ⟨by simp only [BelB]; exact bel_mE (p.h n) (q.h n) es⟩
end Go.Vx
end
section
namespace Go.Vx
open Go Go.Rx
set_option linter.unusedVariables false
def SubH (σ τ : Sg) : Prop := ∀ k b, gt σ.h k = some b → gt τ.h k = some b
section
variable {σ τ : Sg} (hs : SubH σ τ)
include hs
theorem live_mono {k st : Nat} (h : live σ k st = true) : live τ k st = true := by
  unfold live at *
  cases hg : gt σ.h k with
  | none => rw [hg] at h; cases h
  | some b => rw [hg] at h; rw [hs k b hg]; exact h
theorem cond_mono {α : Type} {k st : Nat} {X : Option α} {u : α} (h : cond (live σ k st) X none = some u) : cond (live τ k st) X none = some u := by
  cases hl : live σ k st with
  | false => rw [hl] at h; cases h
  | true => rw [hl] at h; rw [live_mono hs hl]; exact h
theorem cellsOf_mono {k st : Nat} {l : List U} (h : cellsOf σ k st = some l) : cellsOf τ k st = some l := by
  unfold cellsOf at *
  cases hg : gt σ.h k with
  | none => rw [hg] at h; cases h
  | some b => rw [hg] at h; rw [hs k b hg]; exact h
theorem vecOf_mono {k st : Nat} {l : List U × TypeId × Nat} (h : vecOf σ k st = some l) : vecOf τ k st = some l := by
  unfold vecOf at *
  cases hg : gt σ.h k with
  | none => rw [hg] at h; cases h
  | some b => rw [hg] at h; rw [hs k b hg]; exact h
variable {T : Tb} {tm : List U}
theorem readU_mono {op : Op} {u : U} (h : readU T σ tm op = some u) : readU T τ tm op = some u := by
  cases op with
  | load t x =>
    simp only [readU] at *
    cases hx : evalU tm x with
    | none => rw [hx] at h; exact h
    | some a =>
      rw [hx] at h
      cases a with
      | ptr k st off =>
        simp only [] at *
        cases hc : cellsOf σ k st with
        | none => rw [hc] at h; cases h
        | some l => rw [hc] at h; rw [cellsOf_mono hs hc]; exact h
      | _ => exact h
  | lookup t x k ok =>
    simp only [readU] at *
    cases hd : T.und t with
    | none => rw [hd] at h; cases h
    | some d =>
      rw [hd] at h
      cases d with
      | map kt et =>
        cases hx : evalU tm x with
        | none => rw [hx] at h; exact h
        | some a =>
          rw [hx] at h
          cases hk : evalU tm k with
          | none => rw [hk] at h; cases h
          | some ku =>
            rw [hk] at h
            cases a with
            | map r =>
              simp only [] at *
              cases hg : gt σ.h r with
              | none =>
                rw [hg] at h
                cases hv : toV ku with
                | none => rw [hv] at h; exact h
                | some kv =>
                  rw [hv] at h
                  simp only [] at h
                  cases hkx : keyX T 50 kt kv <;> rw [hkx] at h <;> cases h
              | some b => rw [hg] at h; rw [hs r b hg]; exact h
            | _ => exact h
      | _ => exact h
  | _ => exact h
theorem there_mono {u : U} {n : Nat} (hn : n ≠ 0) (h : there σ u = n) : there τ u = n := by
  unfold there at *
  cases u with
  | ptr k st off =>
    simp only [] at *
    cases hl : live σ k st with
    | false => rw [hl] at h; exact absurd h.symm hn
    | true => rw [hl] at h; rw [live_mono hs hl]; exact h
  | sl k a b c =>
    simp only [] at *
    cases hl : live σ k 0 with
    | false => rw [hl] at h; exact absurd h.symm hn
    | true => rw [hl] at h; rw [live_mono hs hl]; exact h
  | map k =>
    simp only [] at *
    cases hl : live σ k 0 with
    | false => rw [hl] at h; exact absurd h.symm hn
    | true => rw [hl] at h; rw [live_mono hs hl]; exact h
  | vl k st off m =>
    cases m with
    | zero => exact h
    | succ m =>
      simp only [] at *
      cases hl : live σ k st with
      | false => rw [hl] at h; exact absurd h.symm hn
      | true => rw [hl] at h; rw [live_mono hs hl]; exact h
  | isl t l => cases l <;> exact h
  | _ => exact h
theorem nilCmp_mono {op : BinOp} {t : TypeId} {x y u : U} (h : nilCmp T σ op t x y = some u) : nilCmp T τ op t x y = some u := by
  unfold nilCmp at *
  by_cases hk : kindT T t = 0
  · simp only [beq_eq, hk, decide_true, cond_true] at h; cases h
  · simp only [beq_eq, hk, decide_false, cond_false] at h ⊢
    by_cases hx : there σ x = kindT T t
    · have := there_mono hs hk hx
      simpa [hx, this] using h
    · by_cases hy : there σ y = kindT T t
      · have hy' := there_mono hs hk hy
        by_cases hn : nilKind x = kindT T t
        · have hxx : cmpB op = some u := by simpa [hx, hy, hn] using h
          have hz : there τ x = 0 := by
            cases x <;> simp [nilKind] at hn <;> first | rfl | exact absurd hn.symm hk
          have hz' : ¬ there τ x = kindT T t := by rw [hz]; exact fun h => hk h.symm
          simpa [hz', hy', hn] using hxx
        · simp [hx, hn] at h
      · by_cases hn : nilKind x = kindT T t
        · simp [hx, hn, hy] at h
        · simp [hx, hn] at h
theorem binU_mono {op : BinOp} {t : TypeId} {x y u : U} (h : binU T σ op t x y = some u) : binU T τ op t x y = some u := by
  unfold binU at *
  cases hg : g2 (binX T op t) x y with
  | some r => rw [hg] at h; exact h
  | none => rw [hg] at h; exact nilCmp_mono hs h
theorem fieldAtU_mono {t : TypeId} {x u : U} {f : Nat} (h : fieldAtU T σ t x f = some u) : fieldAtU T τ t x f = some u := by
  unfold fieldAtU at *
  split at h
  · split at h
    · split at h
      · split at h
        · exact cond_mono hs h
        · exact h
        · cases h
      · cases h
    · cases h
  · cases h
theorem indexAtU_mono {t : TypeId} {x i u : U} (h : indexAtU T σ t x i = some u) : indexAtU T τ t x i = some u := by
  unfold indexAtU at *
  split at h
  · split at h
    · split at h
      · split at h
        · exact cond_mono hs h
        · split at h
          · rename_i hv; rw [vecOf_mono hs hv]; exact h
          · cases h
        · exact h
        · cases h
      · cases h
    · split at h
      · split at h
        · exact cond_mono hs h
        · exact h
        · cases h
      · cases h
    · cases h
  · cases h
theorem lenU_mono {t : TypeId} {x u : U} (h : lenU T σ t x = some u) : lenU T τ t x = some u := by
  unfold lenU at *
  split at h
  · split at h
    · exact h
    · exact cond_mono hs h
    · exact cond_mono hs h
    · exact h
    · cases h
  · exact h
  · exact h
  · split at h
    · exact h
    · split at h
      · rename_i hv; rw [hs _ _ hv]; exact h
      · cases h
    · cases h
  · cases h
theorem capU_mono {t : TypeId} {x u : U} (h : capU T σ t x = some u) : capU T τ t x = some u := by
  unfold capU at *
  split at h
  · split at h
    · exact h
    · exact cond_mono hs h
    · cases h
  · cases h
theorem sliceU_mono {t : TypeId} {x u : U} {a b c : Option Value} (h : sliceU T σ t x a b c = some u) : sliceU T τ t x a b c = some u := by
  unfold sliceU at *
  split at h
  · exact h
  · split at h
    · split at h
      · exact h
      · exact cond_mono hs h
      · split at h
        · rename_i hv; rw [vecOf_mono hs hv]; exact h
        · cases h
      · exact h
      · cases h
    · cases h
  · cases h
theorem pureU_mono {op : Op} {u : U} (h : pureU T σ tm op = some u) : pureU T τ tm op = some u := by
  cases op with
  | nilCheck x =>
    simp only [pureU] at *
    split at h
    · exact cond_mono hs h
    · exact h
    · exact h
    · cases h
  | binOp o t x y ty =>
    simp only [pureU] at *
    split at h
    · exact binU_mono hs h
    · cases h
  | slice t x lo hi mx =>
    simp only [pureU] at *
    split at h
    · exact sliceU_mono hs h
    · cases h
  | fieldAddr t x f =>
    simp only [pureU] at *
    split at h
    · exact fieldAtU_mono hs h
    · cases h
  | indexAddr t x i =>
    simp only [pureU] at *
    split at h
    · exact indexAtU_mono hs h
    · cases h
  | call c =>
    simp only [pureU] at *
    split at h
    · split at h
      · exact lenU_mono hs h
      · cases h
    · split at h
      · exact capU_mono hs h
      · cases h
    · exact h
    · exact h
    · cases h
  | _ => exact h
def noEff : Op → Bool
  | .alloc _ | .box _ _ | .store _ _ _ | .buildSlice _ _ _ | .makeSlice _ _ _ | .makeMap _ _ | .mapUpdate _ _ _ _ | .insert _ _ _ _ | .mapEntry _ _ _ | .entryStore _ _ _ _ => false
  | .call c => (match c.callee with
    | .builtin .append => false
    | .builtin .copy => false
    | .builtin .delete => false
    | .builtin .clear => false
    | _ => true)
  | _ => true
omit hs in
theorem effU_none {op : Op} (h : noEff op = true) : effU T σ tm op = none := by
  cases op <;> simp only [noEff] at h <;> first | rfl | (cases h) | skip
  case call c =>
    simp only [effU]
    split <;> simp_all
theorem look_mono {op : Op} {u : U} (hn : noEff op = true) (h : opU T σ tm op = some (u, σ)) : opU T τ tm op = some (u, τ) := by
  unfold opU at *
  cases hp : pureU T σ tm op with
  | some v =>
    rw [hp] at h; simp only [Option.some.injEq, Prod.mk.injEq, and_true] at h; subst h
    rw [pureU_mono hs hp]
  | none =>
    rw [hp] at h
    cases hr : readU T σ tm op with
    | none => rw [hr] at h; simp only [effU_none hn] at h; cases h
    | some v =>
      rw [hr] at h; simp only [Option.some.injEq, Prod.mk.injEq, and_true] at h; subst h
      have hpt : pureU T τ tm op = none := by
        cases op <;> first | rfl | (simp [readU] at hr)
      rw [hpt, readU_mono hs hr]
end
end Go.Vx
end
section
namespace Go.Vx
open Go Go.Rx
set_option linter.unusedVariables false
theorem mv_name {F : Nat → Blk → Prop} {y : Cx} {σ : Sg} {nx0 k : Nat} {l : List U} {e : TypeId} (hy : y.σ = newU σ (.row l e)) (hh : HRel y) (hf : Fr F y) (hk1 : nx0 ≤ k) (hk2 : k < σ.nx) (hgk : gt σ.h k = none)
    (hlt : ∀ j b, gt σ.h j = some b → j < σ.nx) (hl : BelL 0 l) (hrows : ∀ j b, gt σ.h j = some b → BelB nx0 b) :
    ∃ y' : Cx, y'.σ = ⟨(k, .row l e) :: σ.h, σ.nx⟩ ∧ y'.s = y.s ∧ HRel y' ∧ Fr F y' ∧ Ke nx0 y y' ∧ (∀ v, Rel y (.ptr σ.nx 0 0) v → Rel y' (.ptr k 0 0) v) ∧ (∀ j v, j ≠ k → j < σ.nx → Rel y (.ptr j 0 0) v → Rel y' (.ptr j 0 0) v) := by
  have gy : ∀ j, gt y.σ.h j = if σ.nx = j then some (.row l e) else gt σ.h j := fun j => by rw [hy]; simp only [newU, gt_cons]
  have gy' : ∀ j, gt ((k, B.row l e) :: σ.h) j = if k = j then some (.row l e) else gt σ.h j := fun j => by rw [gt_cons]
  have old : ∀ j b, gt σ.h j = some b → gt y.σ.h j = some b := fun j b hb => by
    have := hlt j b hb
    rw [gy, if_neg (by omega)]; exact hb
  have hnk : ∀ j b, gt σ.h j = some b → j ≠ k := fun j b hb h => by subst h; rw [hgk] at hb; cases hb
  have hmo : Mo nx0 y ⟨fun j => if j = k then y.ρ σ.nx else y.ρ j, ⟨(k, .row l e) :: σ.h, σ.nx⟩, y.s⟩ := by
    refine ⟨fun j h1 h2 => ⟨by simp only; omega, fun b' hb' => ?_⟩, fun _ _ _ h => h⟩
    simp only [gy'] at hb'
    rw [if_neg (by omega)] at hb'
    exact ⟨b', old j b' hb', Nat.le_refl _, fun _ => ⟨by simp only; rw [if_neg (by omega)], fun l e sz st h => ⟨l, h⟩⟩⟩
  refine ⟨⟨fun j => if j = k then y.ρ σ.nx else y.ρ j, ⟨(k, .row l e) :: σ.h, σ.nx⟩, y.s⟩, rfl, rfl, ⟨fun j b hb => ?_, fun j j' b b' i hb hb' h1 h2 => ?_, hh.bd⟩, fun i b hF => ?_, hmo.ke, fun v hv => ?_, fun j v hj hjl hv => ?_⟩
  · simp only [gy'] at hb
    by_cases hjk : k = j
    · subst hjk
      rw [if_pos rfl] at hb
      cases hb
      refine ⟨hk2, ?_⟩
      obtain ⟨_, h2⟩ := hh.ok σ.nx (.row l e) (by rw [gy, if_pos rfl])
      obtain ⟨q1, i, l', q2, q3, q4⟩ := h2
      exact ⟨q1, i, l', by simp [q2], q3, hmo.ke.E (BelL.le (Nat.zero_le _) l hl) q4⟩
    · rw [if_neg hjk] at hb
      refine ⟨hlt j b hb, ?_⟩
      exact (hh.ok j b (old j b hb)).2.monoB (hrows j b hb) hmo (by simp only; rw [if_neg (fun h => hjk h.symm)]) fun _ _ _ h => h
  · have key : ∀ j b, gt ((k, B.row l e) :: σ.h) j = some b → ∀ i, (if j = k then y.ρ σ.nx else y.ρ j) = some i → ∃ j0 b0, gt y.σ.h j0 = some b0 ∧ y.ρ j0 = some i ∧ (j = k ∧ j0 = σ.nx ∨ j ≠ k ∧ j0 = j ∧ j < σ.nx) := fun j b hb i hi => by
      rw [gy'] at hb
      by_cases hjk : j = k
      · rw [if_pos hjk] at hi
        exact ⟨σ.nx, .row l e, by rw [gy, if_pos rfl], hi, .inl ⟨hjk, rfl⟩⟩
      · rw [if_neg (fun h => hjk h.symm)] at hb
        rw [if_neg hjk] at hi
        exact ⟨j, b, old j b hb, hi, .inr ⟨hjk, rfl, hlt j b hb⟩⟩
    obtain ⟨a, ba, g1, g2, g3⟩ := key j b hb i h1
    obtain ⟨c, bc, g4, g5, g6⟩ := key j' b' hb' i h2
    have := hh.inj a c ba bc i g1 g4 g2 g5
    omega
  · obtain ⟨h1, h2⟩ := hf i b hF
    refine ⟨h1, fun j c hc => ?_⟩
    simp only [gy'] at hc
    by_cases hjk : j = k
    · simp only [hjk, if_true]
      exact h2 σ.nx (.row l e) (by rw [gy, if_pos rfl])
    · rw [if_neg (fun h => hjk h.symm)] at hc
      simp only [hjk, if_false]
      exact h2 j c (old j c hc)
  · simp only [Rel, Ref] at hv ⊢
    refine ⟨hv.1, hk2, fun b hb => ?_⟩
    simp only [gy', if_true] at hb
    have := hv.2.2 b (by rw [gy, if_pos rfl]; exact hb)
    simpa using this
  · simp only [Rel, Ref] at hv ⊢
    refine ⟨hv.1, hjl, fun b hb => ?_⟩
    simp only [gy', if_neg (fun h : k = j => hj h.symm)] at hb
    have := hv.2.2 b (old j b hb)
    simpa [hj] using this
structure Al where
  i : Nat
  k : Nat
  l : List U
  e : TypeId
structure ChA (P : Program) (T : Tb) (ops : List Oper) (tm₀ : List U) (σb σ1 : Sg) (rs : List RecU) (als : List Al) : Prop where
  some : als ≠ []
  names : ∀ al ∈ als, σb.nx ≤ al.k ∧ al.k < σ1.nx
  nodup : ∀ a ∈ als, ∀ b ∈ als, a.k = b.k → a.i = b.i
  le : σb.nx ≤ σ1.nx
  at_ : ∀ al ∈ als, ∃ r d, rs[al.i]? = .some r ∧ r.u = .ptr al.k 0 0 ∧ r.act = false ∧ r.mv = true ∧ r.o.op = .alloc al.e ∧ r.o.guard = none ∧ r.o.dst = .some d
  row : ∀ al ∈ als, (∀ σ tm, opU T σ tm (.alloc al.e) = .some (.ptr σ.nx 0 0, newU σ (.row al.l al.e))) ∧ BelL 0 al.l
  all : ∀ (i : Nat) (r : RecU), rs[i]? = .some r → r.act = false → r.mv = true → ∃ al ∈ als, al.i = i
  own : ∀ al ∈ als, gt σ1.h al.k = .some (.row al.l al.e)
  oth : ∀ j, (∀ al ∈ als, al.k ≠ j) → gt σ1.h j = gt σb.h j
  acts : ∀ (i : Nat) (r : RecU), rs[i]? = .some r → r.act = true → ∀ al ∈ als, Pre ops i al.i
  early : ∀ (i : Nat) (r : RecU), rs[i]? = .some r → r.act = false → r.mv = false → (∀ al ∈ als, Pre ops i al.i) ∨ (Bel σb.nx r.u ∧ (wantedU ops r.tm r.o = .some true → callU T r.tm r.o.op = none → noEff r.o.op = true ∧ opU T ⟨σb.h, σ1.nx⟩ r.tm r.o.op = .some (r.u, ⟨σb.h, σ1.nx⟩)))
section
variable {P : Program} {T : Tb} (hT : TbOk P T) (ops : Array Oper) {tm₀ : List U} {σb σ1 : Sg} {rs : List RecU} {tm' : List U} {σ' : Sg} {als : List Al}
  (htr : TrU P T ops.toList tm₀ σ1 rs tm' σ') (hst : staticOk ops.toList = true) (hch : ChU T ops.toList rs) (hal : ChA P T ops.toList tm₀ σb σ1 rs als)
include hT htr hst hch hal
theorem anyA_ok {n0 : Nat} (hn0 : n0 ≤ σb.nx) (hb0 : BelL σb.nx tm₀) (hbr : ∀ j b, gt σb.h j = some b → j < σb.nx ∧ BelB σb.nx b) {F : Nat → Blk → Prop} {x0 : Cx} {m0 : Nm} {w0 : World} {E : Exit → Act → World → Prop} {df : List Deferred} (hQ : ∀ y tv m w a, y.σ = σ' → St F y tm' tv m w a → Adv m0 x0.s w0 m y.s w → Ke n0 x0 y → n0 ≤ y.σ.nx → a.defers = df → E .normal a w) :
    ∀ (fuel : Nat) (listed : Array Bool) (a : Act) (w : World) (m : Nm) (tm : List U) (tv : List Value) (x : Cx), listed.size = ops.size → listed.toList.count false = fuel →
      Closed ops.toList (fun k => listed.getD k false = true) → SeesU tm₀ rs (fun k => listed.getD k false = true) tm → (∃ al ∈ als, ¬ listed.getD al.i false = true) →
      x.σ.nx = σ1.nx → (∀ al ∈ als, gt x.σ.h al.k = if listed.getD al.i false = true then some (.row al.l al.e) else none) → (∀ j, (∀ al ∈ als, al.k ≠ j) → gt x.σ.h j = gt σb.h j) →
      St F x tm tv m w a → Adv m0 x0.s w0 m x.s w → Ke n0 x0 x → a.defers = df →
      wpAny P .any ops E fuel listed a w := by
  have hn : rs.length = ops.size := by simpa using htr.len
  intro fuel
  induction fuel with
  | zero =>
    intro listed a w m tm tv x hsz hcnt hcl hsees hun hnx hrow hoth hstt hadv hke hdf
    exfalso
    obtain ⟨al, hm, hu⟩ := hun
    obtain ⟨r, d, h1, _⟩ := hal.at_ al hm
    have hlt := (List.getElem?_eq_some_iff.1 h1).1
    have hk' : al.i < listed.size := by omega
    have : listed[al.i] ≠ false := fun hf => by
      have hm : false ∈ listed.toList := by rw [← hf]; simp
      have := List.count_pos_iff.2 hm
      omega
    have this' : listed[al.i] = true := by simpa using this
    exact hu (by simp [Array.getD, hk', this'])
  | succ fuel ih =>
    intro listed a w m tm tv x hsz hcnt hcl hsees hun hnx hrow hoth hstt hadv hke hdf
    have mem_ready : ∀ i, i ∈ Region.ready .any ops listed ↔ i < ops.size ∧ listed.getD i true = false ∧ ∃ o, ops[i]? = some o ∧ ∀ e ∈ o.after.toList, Region.binds .any e = true → listed.getD e.on false = true := by
      intro i
      unfold Region.ready
      rw [List.mem_filter, List.mem_range]
      refine and_congr_right fun hi => ?_
      have ho : ops[i]? = some ops[i] := by simp [hi]
      simp only [ho, Option.map_some, Option.getD_some, Bool.and_eq_true, Bool.not_eq_true', Array.all_eq_true_iff_forall_mem, Bool.or_eq_true]
      refine and_congr_right fun _ => ?_
      constructor
      · intro h
        refine ⟨_, rfl, fun e he hb => ?_⟩
        rcases h e (by simpa using he) with h1 | h1
        · simp [hb] at h1
        · exact h1
      · rintro ⟨o, ho', h⟩ e he
        cases ho'
        cases hb : Region.binds .any e with
        | false => exact .inl rfl
        | true => exact .inr (h e (by simpa using he) hb)
    refine ⟨fun hnil => ?_, fun i hi => ?_⟩
    · exfalso
      have hex : ∃ i, i < ops.size ∧ listed.getD i true = false := by
        have hpos : 0 < listed.toList.count false := by omega
        obtain ⟨i, hi, e⟩ := List.mem_iff_getElem.1 (List.count_pos_iff.1 hpos)
        simp at hi
        refine ⟨i, by omega, ?_⟩
        simp only [Array.getElem_toList] at e
        simp [Array.getD, hi, e]
      have hmin : ∀ n, n < ops.size → listed.getD n true = false → False := by
        intro n
        induction n using Nat.strongRecOn with
        | _ n ihn =>
          intro hn1 hn2
          have : n ∈ Region.ready .any ops listed := (mem_ready n).2 ⟨hn1, hn2, ops[n], by simp [hn1], fun e he hb => by
            have hlt := st_lt hst (i := n) (o := ops[n]) (by simp [hn1]) e he hb
            have hk' : e.on < listed.size := by omega
            cases hv : listed[e.on] with
            | true => simp [Array.getD, hk', hv]
            | false => exact (ihn e.on hlt (by omega) (by simp [Array.getD, hk', hv])).elim⟩
          rw [hnil] at this
          cases this
      obtain ⟨i, h1, h2⟩ := hex
      exact hmin i h1 h2
    · obtain ⟨hilt, hil, o, ho, hedges⟩ := (mem_ready i).1 hi
      have hisz : i < listed.size := by omega
      have hLi : ¬ listed.getD i false = true := by
        simp [Array.getD, hisz] at hil ⊢
        exact hil
      have hol : ops.toList[i]? = some o := by simpa using ho
      obtain ⟨r, hr, hro⟩ := rsu_at ops htr hol
      subst hro
      have hrd : ∀ q, ops.toList[i]? = some q → ∀ e ∈ q.after.toList, Region.binds .any e = true → listed.getD e.on false = true := fun q hq => by
        rw [hol] at hq; cases hq; exact hedges
      have hlooks := seesu_looks ops htr hst hcl hsees hr hLi hrd
      obtain ⟨_, hgood, hs1, _⟩ := htr.all i r hr
      have hget : ∀ k, ((listed.setIfInBounds i true).getD k false = true) ↔ (listed.getD k false = true ∨ k = i) := fun k => by
        by_cases hk : k = i
        · subst hk; simp [Array.getD, hisz]
        · by_cases hks : k < listed.size
          · simp [Array.getD, hks, hk, Ne.symm hk]
          · simp [Array.getD, hks, hk]
      have hcl' : Closed ops.toList (fun k => (listed.setIfInBounds i true).getD k false = true) := fun k q hk hq e he hb => by
        refine (hget e.on).2 (.inl ?_)
        rcases (hget k).1 hk with hk | rfl
        · exact hcl k q hk hq e he hb
        · exact hrd q hq e he hb
      have hsees' : SeesU tm₀ rs (fun k => (listed.setIfInBounds i true).getD k false = true) (putW tm r.o.dst r.u) := by
        have := seesu_put ops htr hst hsees hr
        exact ⟨this.len, fun k q d a b c hL => this.yes k q d a b c ((hget k).1 hL), fun k q d a b hL => this.no k q d a b fun x => hL ((hget k).2 x), this.other⟩
      have hcnt' : (listed.setIfInBounds i true).toList.count false = fuel := by
        have hv : listed[i] = false := by simpa [Array.getD, hisz] using hil
        rw [Array.toList_setIfInBounds, List.count_set (by simpa using hisz)]
        have hc2 : Array.count false listed = fuel + 1 := by simpa using hcnt
        simp [hv]
        omega
      obtain ⟨hopc, hwc⟩ := looksU hlooks
      have notall : ¬ (∀ al ∈ als, Pre ops.toList i al.i) := fun h => by
        obtain ⟨al, hm, hu⟩ := hun
        exact hu (ready_pre hst hcl hrd (h al hm))
      have noact : r.act = false := by
        cases ha : r.act with
        | false => rfl
        | true => exact absurd (hal.acts i r hr ha) notall
      have stay : r.mv = false → ∀ y tv' m₁ w₁ a₁, y.σ = x.σ → St F y (putW tm r.o.dst r.u) tv' m₁ w₁ a₁ → Adv m0 x0.s w0 m₁ y.s w₁ → Ke n0 x0 y → a₁.defers = df → wpAny P .any ops E fuel (listed.setIfInBounds i true) a₁ w₁ := fun hmv y tv' m₁ w₁ a₁ h1 h2 h3 h4 h6 => by
        have hne : ∀ al ∈ als, al.i ≠ i := fun al hm h => by
          obtain ⟨q, d, q1, _, _, q2, _⟩ := hal.at_ al hm
          rw [h, hr] at q1; cases q1; rw [hmv] at q2; cases q2
        have hge : ∀ al ∈ als, ((listed.setIfInBounds i true).getD al.i false = true) ↔ listed.getD al.i false = true := fun al hm => by
          rw [hget]; simp [hne al hm]
        refine ih _ _ _ m₁ _ tv' y (by simpa using hsz) hcnt' hcl' hsees' ?_ (by rw [h1]; exact hnx) (fun al hm => ?_) (by rw [h1]; exact hoth) h2 h3 h4 h6
        · obtain ⟨al, hm, hu⟩ := hun
          exact ⟨al, hm, fun h => hu ((hge al hm).1 h)⟩
        · rw [h1, hrow al hm]
          by_cases hL : listed.getD al.i false = true
          · rw [if_pos hL, if_pos ((hge al hm).2 hL)]
          · rw [if_neg hL, if_neg fun h => hL ((hge al hm).1 h)]
      have hsub : SubH ⟨σb.h, σ1.nx⟩ x.σ := fun k b hb => by
        rw [hoth k fun al hm h => ?_]
        · exact hb
        · have := (hbr k b hb).1
          have := (hal.names al hm).1
          omega
      unfold wpOp
      simp only [ho]
      rw [wanted_ok (hstt.act m (Agree.refl _ _)) ops r.o]
      cases hmv : r.mv with
      | true =>
        obtain ⟨al, hm, hi'⟩ := hal.all i r hr noact hmv
        obtain ⟨q, d, q1, q2, q3, q4, q5, q6, q7⟩ := hal.at_ al hm
        rw [hi', hr] at q1; cases q1
        obtain ⟨r1, r2⟩ := hal.row al hm
        have hw : wantedU ops.toList tm r.o = some true := by unfold wantedU; rw [q6]
        rw [wantedU_ok hstt.e hw]
        simp only [if_true]
        left
        have hop' : opU T x.σ tm r.o.op = some (.ptr x.σ.nx 0 0, newU x.σ (.row al.l al.e)) := by rw [q5]; exact r1 _ _
        refine hstt.op hT r.o hop' fun y tv' m₁ w₁ a₁ e1 st' hadv' hke' hnx' hdf' => ?_
        have hrows : ∀ j b, gt x.σ.h j = some b → BelB σb.nx b := fun j b hb => by
          by_cases hj : ∀ al ∈ als, al.k ≠ j
          · rw [hoth j hj] at hb; exact (hbr j b hb).2
          · have : ∃ al ∈ als, al.k = j := by
              apply Classical.byContradiction
              intro hc
              exact hj fun al hm h => hc ⟨al, hm, h⟩
            obtain ⟨al', hm', rfl⟩ := this
            rw [hrow al' hm'] at hb
            split at hb
            · cases hb; exact BelL.le (Nat.zero_le _) _ (hal.row al' hm').2
            · cases hb
        have hgk : gt x.σ.h al.k = none := by rw [hrow al hm, if_neg (by rw [hi']; exact hLi)]
        obtain ⟨y', z1, z2, z3, z4, z5, z6, z7⟩ := mv_name (F := F) (nx0 := σb.nx) (k := al.k) e1 st'.h st'.fr (hal.names al hm).1 (by rw [hnx]; exact (hal.names al hm).2) hgk (fun j b hb => (hstt.h.ok j b hb).1) r2 hrows
        have hlen : tm.length = tm₀.length := hsees.len
        have hslots : RelE y' (putW tm r.o.dst r.u) tv' := by
          have he := st'.e
          rw [q7] at he ⊢
          simp only [putW] at he ⊢
          refine RelE.mk' (by have := he.2; simpa using this) fun t u hu => ?_
          by_cases ht : t = d
          · subst ht
            have htl : t < tm.length := by have := (List.getElem?_eq_some_iff.1 hu).1; simpa using this
            rw [List.getElem?_set_self htl] at hu
            obtain ⟨v, v1, v2⟩ := he.get (i := t) (u := .ptr x.σ.nx 0 0) (by rw [List.getElem?_set_self htl])
            cases hu
            rw [q2]
            exact ⟨v, v1, z6 v v2⟩
          · rw [List.getElem?_set_ne (fun h => ht h.symm)] at hu
            obtain ⟨v, v1, v2⟩ := he.get (i := t) (u := u) (by rw [List.getElem?_set_ne (fun h => ht h.symm)]; exact hu)
            refine ⟨v, v1, ?_⟩
            have hold : tm₀[t]? = some u → Rel y' u v := fun h => z5 u v ((belL_iff _ _).1 hb0 u (List.mem_of_getElem? h)) v2
            by_cases hno : ∀ (k : Nat) (q : RecU), rs[k]? = some q → q.o.dst ≠ some t
            · rw [hsees.other t hno] at hu; exact hold hu
            · have : ∃ (k : Nat) (q : RecU), rs[k]? = some q ∧ q.o.dst = some t := by
                apply Classical.byContradiction
                intro hn
                exact hno fun k r hr hd => hn ⟨k, r, hr, hd⟩
              obtain ⟨k, q, hq, hd⟩ := this
              by_cases hL : listed.getD k false = true
              · have htl : t < tm₀.length := by rw [← hlen]; exact (List.getElem?_eq_some_iff.1 hu).1
                rw [hsees.yes k q t hq hd htl hL] at hu
                cases hu
                cases ha : q.act with
                | true =>
                  exfalso
                  obtain ⟨al', hm', hu'⟩ := hun
                  exact hu' (closed_pre hst hcl k al'.i hL (hal.acts k q hq ha al' hm'))
                | false =>
                  cases hm2 : q.mv with
                  | true =>
                    obtain ⟨al', hm', hi2⟩ := hal.all k q hq ha hm2
                    obtain ⟨q', d', p1, p2, _⟩ := hal.at_ al' hm'
                    rw [hi2, hq] at p1; cases p1
                    rw [p2] at v2 ⊢
                    refine z7 _ v (fun h => ?_) (by rw [hnx]; exact (hal.names al' hm').2) v2
                    have := hal.nodup al' hm' al hm h
                    rw [hi2, hi'] at this
                    subst this
                    exact hLi hL
                  | false =>
                    rcases hal.early k q hq ha hm2 with h | h
                    · exfalso
                      obtain ⟨al', hm', hu'⟩ := hun
                      exact hu' (closed_pre hst hcl k al'.i hL (h al' hm'))
                    · exact z5 _ v h.1 v2
              · rw [hsees.no k q t hq hd hL] at hu; exact hold hu
        have st2 : St F y' (putW tm r.o.dst r.u) tv' m₁ w₁ a₁ := ⟨z3, z4, hslots, by rw [z2]; exact st'.fits, by rw [z2]; exact st'.act⟩
        have hke2 : Ke n0 x0 y' := (hke.trans (hke'.le (by rw [hnx]; have := hal.le; omega))).trans (z5.le hn0)
        have hadv2 : Adv m0 x0.s w0 m₁ y'.s w₁ := by rw [z2]; exact hadv.trans hadv'
        have hnx2 : y'.σ.nx = σ1.nx := by rw [z1]; exact hnx
        have hrow2 : ∀ al' ∈ als, gt y'.σ.h al'.k = if (listed.setIfInBounds i true).getD al'.i false = true then some (.row al'.l al'.e) else none := fun al' hm' => by
          rw [z1]
          simp only [gt_cons]
          by_cases hkk : al.k = al'.k
          · have hii := hal.nodup al hm al' hm' hkk
            rw [if_pos hkk, if_pos ((hget _).2 (.inr (by rw [← hii, hi'])))]
            have g1 := hal.own al hm
            have g2 := hal.own al' hm'
            rw [hkk, g2] at g1
            exact g1.symm
          · rw [if_neg hkk, hrow al' hm']
            have hne : al'.i ≠ i := fun h => hkk (by
              obtain ⟨q', d', p1, p2, _⟩ := hal.at_ al' hm'
              rw [h, hr] at p1; cases p1
              rw [q2] at p2; simpa using p2)
            have : ((listed.setIfInBounds i true).getD al'.i false = true) ↔ listed.getD al'.i false = true := by rw [hget]; simp [hne]
            by_cases hL : listed.getD al'.i false = true
            · rw [if_pos hL, if_pos (this.2 hL)]
            · rw [if_neg hL, if_neg fun h => hL (this.1 h)]
        have hoth2 : ∀ j, (∀ al ∈ als, al.k ≠ j) → gt y'.σ.h j = gt σb.h j := fun j hj => by
          rw [z1]; simp only [gt_cons]
          rw [if_neg (hj al hm)]; exact hoth j hj
        by_cases hmore : ∃ al ∈ als, ¬ (listed.setIfInBounds i true).getD al.i false = true
        · exact ih _ _ _ m₁ _ tv' y' (by simpa using hsz) hcnt' hcl' hsees' hmore hnx2 hrow2 hoth2 st2 hadv2 hke2 (hdf'.trans hdf)
        · -- all allocs have come
          have hdone : ∀ al ∈ als, (listed.setIfInBounds i true).getD al.i false = true := fun al hm => by
            apply Classical.byContradiction
            intro h
            exact hmore ⟨al, hm, h⟩
          have hgt : ∀ k, gt σ1.h k = gt y'.σ.h k := fun k => by
            by_cases hj : ∀ al ∈ als, al.k ≠ k
            · rw [hal.oth k hj, hoth2 k hj]
            · have : ∃ al ∈ als, al.k = k := by
                apply Classical.byContradiction
                intro hc
                exact hj fun al hm h => hc ⟨al, hm, h⟩
              obtain ⟨al', hm', rfl⟩ := this
              rw [hal.own al' hm', hrow2 al' hm', if_pos (hdone al' hm')]
          obtain ⟨y2, k1, k2, k3, k4, k5, k6⟩ := Gh.same (n0 := n0) (tm := putW tm r.o.dst r.u) (σ := y'.σ) σ1.h hgt F y' tv' rfl st2.h st2.fr st2.e
          have hσ2 : y2.σ = σ1 := by rw [k2, hnx2]
          have hadv3 := k1 m₁ w₁ st2.fits
          refine anyU_ok hT ops htr hst hch (n0 := n0) (F := F) (x0 := x0) (m0 := m0) (w0 := w0) (df := df) hQ fuel (listed.setIfInBounds i true) a₁ w₁ m₁ 0 (putW tm r.o.dst r.u) tv' y2 (by simpa using hsz) hcnt' hcl' (fun e q h1 h2 h3 => ?_) hsees' (Nat.zero_le _) (fun e q h1 h2 => ?_) (by rw [hσ2]; exact htr.s0.symm) ⟨k3, k4, k5, hadv3.fits, st2.act.ext hadv3.agree hadv3.nx⟩ (hadv2.trans hadv3) (hke2.trans k6) (by rw [hσ2]; have := hal.le; omega) (hdf'.trans hdf)
          · obtain ⟨al', hm', hi2⟩ := hal.all e q h1 h2 h3
            rw [← hi2]; exact hdone al' hm'
          · constructor
            · intro hL
              exfalso
              rcases (hget e).1 hL with hL | rfl
              · obtain ⟨al', hm', hu'⟩ := hun
                exact hu' (closed_pre hst hcl e al'.i hL (hal.acts e q h1 h2 al' hm'))
              · rw [hr] at h1; cases h1; rw [noact] at h2; cases h2
            · intro h; omega
      | false =>
        rcases hgood with ⟨hw, hu, ha, _⟩ | ⟨hw, hop, hqu⟩ | ⟨hw, ha, f, args, hcall, hev⟩ | ⟨hw, ha, _, f, args, hcall, hev⟩ | ⟨ha, hm, _⟩
        · rw [wantedU_ok hstt.e (hwc.trans hw)]
          simp only [Bool.false_eq_true, if_false]
          rw [hu] at stay
          exact stay hmv x _ m w _ rfl (hstt.skip r.o.dst) hadv hke ((put_defers _ _ _).trans hdf)
        · rw [wantedU_ok hstt.e (hwc.trans hw)]
          simp only [if_true]
          left
          rcases hal.early i r hr noact hmv with h | h
          · exact absurd h notall
          · have hcn : callU T r.tm r.o.op = none := by
              cases hc : callU T r.tm r.o.op with
              | none => rfl
              | some q => have := call_noop (σ := r.s) hc; rw [hop] at this; cases this
            obtain ⟨g1, g2⟩ := h.2 hw hcn
            have hop' : opU T x.σ tm r.o.op = some (r.u, x.σ) := by
              rw [opU_congr hopc]; exact look_mono hsub g1 g2
            exact hstt.op hT r.o hop' fun y tv' m₁ w₁ a₁ e1 st' hadv' hke' hnx' hdf' => stay hmv y tv' m₁ w₁ a₁ e1 st' (hadv.trans hadv') (hke.trans (hke'.le (by rw [hnx]; have := hal.le; omega))) (hdf'.trans hdf)
        · rw [noact] at ha; cases ha
        · rw [wantedU_ok hstt.e (hwc.trans hw)]
          simp only [if_true]
          left
          refine hstt.call hT r.o ((callU_congr hopc).trans hcall) (hev x.σ) fun y u tv' m₁ w₁ a₁ hR st' hadv' hke' hnx' hdf' => ?_
          obtain ⟨rfl, hR2⟩ := hR
          exact stay hmv y tv' m₁ w₁ a₁ hR2 st' (hadv.trans hadv') (hke.trans (hke'.le (by rw [hnx]; have := hal.le; omega))) (hdf'.trans hdf)
        · rw [hmv] at hm; cases hm
end
end Go.Vx
end
section
namespace Go.Vx
open Go Go.Rx
set_option linter.unusedVariables false
def RA (P : Program) (T : Tb) (ops : List Oper) (nb : Nat) (σe : Sg) : List Oper → List U → Sg → List RK → List Al → (List RK → List U → Sg → Prop) → Prop
  | [], tm, σ, acc, q, K => q = [] ∧ K acc tm σ
  | o :: r, tm, σ, acc, q, K =>
    (wantedU ops tm o = some true ∧ ∃ u, opU T σ tm o.op = some (u, σ) ∧ RA P T ops nb σe r (putW tm o.dst u) σ ((1, ⟨tm, o, u, false, false, σ, σ⟩) :: acc) q K) ∨
    (wantedU ops tm o = some true ∧ ∃ u σ', opU T σ tm o.op = some (u, σ') ∧ RA P T ops nb σe r (putW tm o.dst u) σ' ((3, ⟨tm, o, u, true, true, σ, σ'⟩) :: acc) q K) ∨
    (wantedU ops tm o = some true ∧ ∃ f args u, callU T tm o.op = some (f, args) ∧ EvU P f args σ (fun u' σ' => u' = u ∧ σ' = σ) ∧ RA P T ops nb σe r (putW tm o.dst u) σ ((2, ⟨tm, o, u, true, false, σ, σ⟩) :: acc) q K) ∨
    (wantedU ops tm o = some true ∧ ∃ f args u σ', callU T tm o.op = some (f, args) ∧ EvU P f args σ (fun u' s' => u' = u ∧ s' = σ') ∧ RA P T ops nb σe r (putW tm o.dst u) σ' ((3, ⟨tm, o, u, true, true, σ, σ'⟩) :: acc) q K) ∨
    (wantedU ops tm o = some false ∧ RA P T ops nb σe r (putW tm o.dst (.tup [])) σ ((0, ⟨tm, o, .tup [], false, false, σ, σ⟩) :: acc) q K) ∨
    (wantedU ops tm o = some true ∧ ∃ f args u, callU T tm o.op = some (f, args) ∧ (∀ s, EvU P f args s (fun u' σ' => u' = u ∧ σ' = s)) ∧ Bel nb u ∧ RA P T ops nb σe r (putW tm o.dst u) σ ((6, ⟨tm, o, u, false, false, σ, σ⟩) :: acc) q K) ∨
    (wantedU ops tm o = some true ∧ ∃ u, opU T σ tm o.op = some (u, σ) ∧ opU T σe tm o.op = some (u, σe) ∧ noEff o.op = true ∧ Bel nb u ∧ RA P T ops nb σe r (putW tm o.dst u) σ ((5, ⟨tm, o, u, false, false, σ, σ⟩) :: acc) q K) ∨
    (∃ al q' d, q = al :: q' ∧ al.i = acc.length ∧ o.op = .alloc al.e ∧ o.guard = none ∧ o.dst = some d ∧ RA P T ops nb σe r (putW tm o.dst (.ptr al.k 0 0)) σ ((4, ⟨tm, o, .ptr al.k 0 0, false, true, σ, σ⟩) :: acc) q' K)
theorem alloc_ne {T : Tb} {σ : Sg} {tm : List U} {e : TypeId} {u : U} (h : opU T σ tm (.alloc e) = some (u, σ)) : False := by
  simp only [opU, pureU, readU, effU] at h
  split at h
  · split at h
    · rename_i zu _
      cases hz : okL zu with
      | false => rw [hz] at h; cases h
      | true =>
        rw [hz] at h
        simp only [cond_true, Option.some.injEq, Prod.mk.injEq] at h
        have := congrArg Sg.nx h.2
        simp only [newU] at this
        omega
    · cases h
  · cases h
structure KA (P : Program) (T : Tb) (ops : List Oper) (nb : Nat) (σe : Sg) (x : RK) : Prop where
  good : Good P T ops x.2
  sm : x.1 ≠ 3 → x.2.s' = x.2.s
  act : x.2.act = true ↔ (x.1 = 2 ∨ x.1 = 3)
  mv : x.2.act = false → (x.2.mv = true ↔ x.1 = 4)
  lk : x.2.act = false → wantedU ops x.2.tm x.2.o = some true → opU T x.2.s x.2.tm x.2.o.op = some (x.2.u, x.2.s') → x.1 = 1 ∨ x.1 = 5
  ear : x.2.act = false → x.2.mv = false → x.1 = 1 ∨ (Bel nb x.2.u ∧ (wantedU ops x.2.tm x.2.o = some true → callU T x.2.tm x.2.o.op = none → noEff x.2.o.op = true ∧ opU T σe x.2.tm x.2.o.op = some (x.2.u, σe)))
theorem ra_ok {P : Program} {T : Tb} {ops : List Oper} {nb : Nat} {σe : Sg} : ∀ (rest : List Oper) (tm : List U) (σ : Sg) (acc : List RK) (q : List Al) (K : List RK → List U → Sg → Prop), RA P T ops nb σe rest tm σ acc q K →
    ∃ (ks : List RK) (tm' : List U) (σ' : Sg), K (ks.reverse ++ acc) tm' σ' ∧ ks.length = rest.length ∧ uAt (ks.map (·.2)) σ' 0 = σ ∧ vAt (ks.map (·.2)) tm' 0 = tm ∧
      (∀ (i : Nat) (x : RK), ks[i]? = some x → rest[i]? = some x.2.o ∧ KA P T ops nb σe x ∧ uAt (ks.map (·.2)) σ' (i + 1) = x.2.s' ∧ vAt (ks.map (·.2)) tm' (i + 1) = putW x.2.tm x.2.o.dst x.2.u) ∧
      (∀ (i : Nat) (x : RK), ks[i]? = some x → x.1 = 4 → ∃ al ∈ q, al.i = acc.length + i) ∧
      (∀ al ∈ q, ∃ (i : Nat) (x : RK) (d : Tmp), al.i = acc.length + i ∧ ks[i]? = some x ∧ x.1 = 4 ∧ x.2.u = .ptr al.k 0 0 ∧ x.2.o.op = .alloc al.e ∧ x.2.o.guard = none ∧ x.2.o.dst = some d)
  | [], tm, σ, acc, q, K, h => by
    obtain ⟨rfl, h⟩ := h
    exact ⟨[], tm, σ, h, rfl, rfl, rfl, fun i x hx => by simp at hx, fun i x hx => by simp at hx, fun al h => by cases h⟩
  | o :: rest, tm, σ, acc, q, K, h => by
    have step : ∀ (k : Nat) (u : U) (ac mv : Bool) (σ1 : Sg) (q' : List Al), RA P T ops nb σe rest (putW tm o.dst u) σ1 ((k, ⟨tm, o, u, ac, mv, σ, σ1⟩) :: acc) q' K → KA P T ops nb σe (k, ⟨tm, o, u, ac, mv, σ, σ1⟩) →
        (k ≠ 4 ∧ q = q' ∨ ∃ al d, q = al :: q' ∧ al.i = acc.length ∧ k = 4 ∧ u = .ptr al.k 0 0 ∧ o.op = .alloc al.e ∧ o.guard = none ∧ o.dst = some d) →
        ∃ (ks : List RK) (tm' : List U) (σ' : Sg), K (ks.reverse ++ acc) tm' σ' ∧ ks.length = (o :: rest).length ∧ uAt (ks.map (·.2)) σ' 0 = σ ∧ vAt (ks.map (·.2)) tm' 0 = tm ∧
          (∀ (i : Nat) (x : RK), ks[i]? = some x → (o :: rest)[i]? = some x.2.o ∧ KA P T ops nb σe x ∧ uAt (ks.map (·.2)) σ' (i + 1) = x.2.s' ∧ vAt (ks.map (·.2)) tm' (i + 1) = putW x.2.tm x.2.o.dst x.2.u) ∧
          (∀ (i : Nat) (x : RK), ks[i]? = some x → x.1 = 4 → ∃ al ∈ q, al.i = acc.length + i) ∧
          (∀ al ∈ q, ∃ (i : Nat) (x : RK) (d : Tmp), al.i = acc.length + i ∧ ks[i]? = some x ∧ x.1 = 4 ∧ x.2.u = .ptr al.k 0 0 ∧ x.2.o.op = .alloc al.e ∧ x.2.o.guard = none ∧ x.2.o.dst = some d) := by
      intro k u ac mv σ1 q' h hk hq
      obtain ⟨ks, tm', σ', g1, g2, g3, g4, g5, g6, g7⟩ := ra_ok rest _ _ _ _ _ h
      refine ⟨(k, ⟨tm, o, u, ac, mv, σ, σ1⟩) :: ks, tm', σ', by simpa using g1, by simp [g2], rfl, rfl, fun i x hx => ?_, fun i x hx h4 => ?_, fun al hal => ?_⟩
      · cases i with
        | zero =>
          simp at hx; subst hx
          refine ⟨rfl, hk, ?_, ?_⟩
          · simp only [uAt, List.map_cons, List.getElem?_cons_succ]; exact g3
          · simp only [vAt, List.map_cons, List.getElem?_cons_succ]; exact g4
        | succ i =>
          simp only [List.getElem?_cons_succ] at hx
          obtain ⟨k1, k2, k3, k4⟩ := g5 i x hx
          refine ⟨by simpa using k1, k2, ?_, ?_⟩
          · simp only [uAt, List.map_cons, List.getElem?_cons_succ]; exact k3
          · simp only [vAt, List.map_cons, List.getElem?_cons_succ]; exact k4
      · cases i with
        | zero =>
          simp at hx; subst hx
          rcases hq with ⟨hne, _⟩ | ⟨al, d, rfl, hi, _⟩
          · exact absurd h4 hne
          · exact ⟨al, by simp, by omega⟩
        | succ i =>
          simp only [List.getElem?_cons_succ] at hx
          obtain ⟨al, h1, h2⟩ := g6 i x hx h4
          refine ⟨al, ?_, by simp at h2; omega⟩
          rcases hq with ⟨_, rfl⟩ | ⟨al', d, rfl, _⟩
          · exact h1
          · exact List.mem_cons_of_mem _ h1
      · have later : al ∈ q' → ∃ (i : Nat) (x : RK) (d : Tmp), al.i = acc.length + i ∧ ((k, (⟨tm, o, u, ac, mv, σ, σ1⟩ : RecU)) :: ks)[i]? = some x ∧ x.1 = 4 ∧ x.2.u = .ptr al.k 0 0 ∧ x.2.o.op = .alloc al.e ∧ x.2.o.guard = none ∧ x.2.o.dst = some d := fun hm => by
          obtain ⟨i, x, d, h1, h2, h3⟩ := g7 al hm
          exact ⟨i + 1, x, d, by simp at h1; omega, by simpa using h2, h3⟩
        rcases hq with ⟨_, rfl⟩ | ⟨al', d, rfl, hi, hk4, hu, ho, hg, hd⟩
        · exact later hal
        · rcases List.mem_cons.1 hal with rfl | hal
          · exact ⟨0, _, d, by omega, rfl, hk4, hu, ho, hg, hd⟩
          · exact later hal
    simp only [RA] at h
    rcases h with ⟨hw, u, h1, h2⟩ | ⟨hw, u, σ1, h1, h2⟩ | ⟨hw, f, args, u, h1, h2, h3⟩ | ⟨hw, f, args, u, σ1, h1, h2, h3⟩ | ⟨hw, h1⟩ | ⟨hw, f, args, u, h1, h2, hb, h3⟩ | ⟨hw, u, h1, h2, h3, hb, h4⟩ | ⟨al, q', d, hq, hi, ho, hg, hd, h1⟩
    · exact step 1 u false false σ q h2 ⟨.inr (.inl ⟨hw, h1, fun _ => rfl⟩), fun _ => rfl, by simp, by simp, fun _ _ _ => .inl rfl, fun _ _ => .inl rfl⟩ (.inl ⟨by omega, rfl⟩)
    · exact step 3 u true true σ1 q h2 ⟨.inr (.inl ⟨hw, h1, by simp⟩), by simp, by simp, by simp, by simp, by simp⟩ (.inl ⟨by omega, rfl⟩)
    · exact step 2 u true false σ q h3 ⟨.inr (.inr (.inl ⟨hw, rfl, f, args, h1, h2⟩)), fun _ => rfl, by simp, by simp, by simp, by simp⟩ (.inl ⟨by omega, rfl⟩)
    · exact step 3 u true true σ1 q h3 ⟨.inr (.inr (.inl ⟨hw, rfl, f, args, h1, h2⟩)), by simp, by simp, by simp, by simp, by simp⟩ (.inl ⟨by omega, rfl⟩)
    · exact step 0 _ false false σ q h1 ⟨.inl ⟨hw, rfl, rfl, rfl⟩, fun _ => rfl, by simp, by simp, (fun _ h => by rw [hw] at h; cases h), fun _ _ => .inr ⟨by simp [Bel, BelL], fun h => by rw [hw] at h; cases h⟩⟩ (.inl ⟨by omega, rfl⟩)
    · exact step 6 u false false σ q h3 ⟨.inr (.inr (.inr (.inl ⟨hw, rfl, rfl, f, args, h1, h2⟩))), fun _ => rfl, by simp, by simp, (fun _ _ h => by rw [call_noop h1] at h; cases h), fun _ _ => .inr ⟨hb, fun _ h => by rw [h1] at h; cases h⟩⟩ (.inl ⟨by omega, rfl⟩)
    · exact step 5 u false false σ q h4 ⟨.inr (.inl ⟨hw, h1, fun _ => rfl⟩), fun _ => rfl, by simp, by simp, fun _ _ _ => .inr rfl, fun _ _ => .inr ⟨hb, fun _ _ => ⟨h3, h2⟩⟩⟩ (.inl ⟨by omega, rfl⟩)
    · exact step 4 _ false true σ q' h1 ⟨.inr (.inr (.inr (.inr ⟨rfl, rfl, rfl⟩))), fun _ => rfl, by simp, by simp, (fun _ _ h => by simp only [] at h; rw [ho] at h; exact (alloc_ne h).elim), by simp⟩ (.inr ⟨al, d, hq, hi, rfl, rfl, ho, hg, hd⟩)
def kf (k : Nat) : Nat := cond (Nat.beq k 4) 0 (cond (Nat.beq k 5) 1 (cond (Nat.beq k 6) 0 k))
def lateB (ai : List Nat) (m : Nat) : Bool := ai.all fun i => Nat.testBit m i
def lateA (ai : List Nat) : List Nat → List Nat → Bool
  | k :: ks, m :: ms => cond (Nat.ble 1 k) (cond (Nat.ble k 3) (lateB ai m) true) true && lateA ai ks ms
  | [], _ => true
  | _ :: _, [] => false
theorem lateA_at {ai : List Nat} : ∀ {ks ms : List Nat}, lateA ai ks ms = true → ∀ {i k : Nat}, ks[i]? = some k → 1 ≤ k → k ≤ 3 → ∃ m, ms[i]? = some m ∧ ∀ a ∈ ai, m.testBit a = true
  | [], ms, _, i, k, hk, _, _ => by simp at hk
  | _ :: _, [], h, _, _, _, _, _ => by simp [lateA] at h
  | k0 :: ks, m0 :: ms, h, i, k, hk, h1, h3 => by
    simp only [lateA, Bool.and_eq_true] at h
    cases i with
    | zero =>
      simp at hk; subst hk
      have a1 : Nat.ble 1 k0 = true := by rw [Nat.ble_eq]; exact h1
      have a2 : Nat.ble k0 3 = true := by rw [Nat.ble_eq]; exact h3
      have := h.1
      rw [a1, a2] at this
      simp only [cond_true, lateB, List.all_eq_true] at this
      exact ⟨m0, rfl, this⟩
    | succ i =>
      simp only [List.getElem?_cons_succ] at hk ⊢
      exact lateA_at h.2 hk h1 h3
section
variable {P : Program} {T : Tb}
theorem chU_of {ops : Array Oper} {nb : Nat} {σe : Sg} {tm : List U} {σ : Sg} {ks : List RK} {tm' : List U} {σ' : Sg} {pr : List (Nat × Nat)} (hst : staticOk ops.toList = true) (htr : TrU P T ops.toList tm σ (ks.map (·.2)) tm' σ')
    (hkk : ∀ (i : Nat) (x : RK), ks[i]? = some x → KA P T ops.toList nb σe x) (hfl : flE ops.toList (ks.map fun x => kf x.1) pr = true) (hpr : pairsOk T ks pr) : ChU T ops.toList (ks.map (·.2)) := by
  have hlen : (ks.map (·.2)).length = ops.toList.length := htr.len
  have same : ∀ (p q : Nat), p ≤ q → q ≤ ks.length → (∀ (e : Nat) (x : RK), p ≤ e → e < q → ks[e]? = some x → x.1 ≠ 3) → uAt (ks.map (·.2)) σ' p = uAt (ks.map (·.2)) σ' q := by
    intro p q hpq hq hno
    induction q with
    | zero => have : p = 0 := by omega
              rw [this]
    | succ q ih =>
      rcases Nat.lt_or_ge q p with h | h
      · have : p = q + 1 := by omega
        rw [this]
      · rw [ih h (by omega) fun e r h1 h2 h3 => hno e r h1 (by omega) h3]
        have hr : ks[q]? = some ks[q] := by simp [show q < ks.length by omega]
        have hr2 : (ks.map (·.2))[q]? = some ks[q].2 := by simp [hr]
        have k3 := (htr.all q _ hr2).2.2.1
        rw [k3, (hkk q _ hr).sm (hno q _ h (Nat.lt_succ_self _) hr)]
        simp [uAt, hr2]
  have at_ : ∀ (i : Nat) (r : RecU), (ks.map (·.2))[i]? = some r → ∃ k, ks[i]? = some (k, r) := by
    intro i r hr
    simp only [List.getElem?_map] at hr
    cases hk : ks[i]? with
    | none => rw [hk] at hr; simp at hr
    | some x =>
      obtain ⟨k, r'⟩ := x
      rw [hk] at hr; simp at hr; subst hr
      exact ⟨k, rfl⟩
  have trp : ∀ (i k : Nat) (r : RecU), ks[i]? = some (k, r) → ∃ m, (masks ops.toList [])[i]? = some m ∧ (trip 0 (ks.map fun x => kf x.1) (masks ops.toList []))[i]? = some (kf k, m, cntM ((ks.map fun x => kf x.1).take i)) := by
    intro i k r hk
    obtain ⟨m1, _, _⟩ := masks_get ops.toList []
    have hi : i < ops.toList.length := by rw [← hlen]; simp only [List.length_map]; exact (List.getElem?_eq_some_iff.1 hk).1
    have hm : i < (masks ops.toList []).length := by rw [m1]; simpa using hi
    refine ⟨(masks ops.toList [])[i], by simp [hm], ?_⟩
    have := trip_at (ks.map fun x => kf x.1) (masks ops.toList []) 0 i (kf k) _ (by simp [hk]) (show (masks ops.toList [])[i]? = some (masks ops.toList [])[i] by simp [hm])
    rwa [Nat.zero_add] at this
  have chk : ∀ (i k ki kk : Nat) (r q : RecU), ks[i]? = some (ki, r) → ks[k]? = some (kk, q) → ∃ mi mk, (masks ops.toList [])[i]? = some mi ∧ (masks ops.toList [])[k]? = some mk ∧
      okE pr i (kf ki, mi, cntM ((ks.map fun x => kf x.1).take i)) k (kf kk, mk, cntM ((ks.map fun x => kf x.1).take k)) = true := by
    intro i k ki kk r q hi hk
    obtain ⟨mi, e1, e2⟩ := trp i ki r hi
    obtain ⟨mk, e3, e4⟩ := trp k kk q hk
    refine ⟨mi, mk, e1, e3, ?_⟩
    have h1 := allI_at hfl e2
    have h2 := allI_at h1 e4
    simpa using h2
  have nomv : ∀ (p q : Nat), p ≤ q → q ≤ ks.length → cntM ((ks.map fun x => kf x.1).take p) = cntM ((ks.map fun x => kf x.1).take q) → uAt (ks.map (·.2)) σ' p = uAt (ks.map (·.2)) σ' q := by
    intro p q hpq hq hc
    refine same p q hpq hq fun e x h1 h2 h3 h4 => ?_
    have := cnt_none hpq (by simp; omega) hc e (kf x.1) h1 h2 (by simp [h3])
    rw [h4] at this
    exact this rfl
  have kact : ∀ (i : Nat) (r : RecU), (ks.map (·.2))[i]? = some r → r.act = true → ∃ k, ks[i]? = some (k, r) ∧ Nat.ble 2 (kf k) = true ∧ (k = 2 ∨ k = 3) := by
    intro i r hr ha
    obtain ⟨k, hk⟩ := at_ i r hr
    have := (hkk i _ hk).act.1 ha
    refine ⟨k, hk, ?_, this⟩
    rcases this with h | h <;> (simp only [] at h; subst h; rfl)
  have kqu : ∀ (i : Nat) (r : RecU), (ks.map (·.2))[i]? = some r → r.act = false → wantedU ops.toList r.tm r.o = some true → opU T r.s r.tm r.o.op = some (r.u, r.s') → ∃ k, ks[i]? = some (k, r) ∧ kf k = 1 := by
    intro i r hr ha hw hl
    obtain ⟨k, hk⟩ := at_ i r hr
    refine ⟨k, hk, ?_⟩
    rcases (hkk i _ hk).lk ha hw hl with h | h <;> (simp only [] at h; subst h; rfl)
  have succ : ∀ (l : List Nat) (a k : Nat), l[a]? = some k → cntM (l.take (a + 1)) = cntM (l.take a) + isM k := by
    intro l
    induction l with
    | nil => intro a k h; simp at h
    | cons x l ih =>
      intro a k h
      cases a with
      | zero => simp at h; subst h; simp [cntM]
      | succ a => simp only [List.getElem?_cons_succ] at h; simp only [List.take_succ_cons, cntM]; rw [ih a k h]; omega
  have hb1 : Nat.ble 2 1 = false := rfl
  have hb2 : Nat.beq 1 1 = true := rfl
  refine ⟨fun i k r q hr hq ha hb hlt => ?_, fun i k r q hr hq ha hw hl hb hlt => ?_, fun i k r q hr hq ha hw hl hb hlt => ?_⟩
  · obtain ⟨ki, h1, h2, _⟩ := kact i r hr ha
    obtain ⟨kk, h3, h4, _⟩ := kact k q hq hb
    obtain ⟨mi, mk, e1, e2, e3⟩ := chk i k ki kk r q h1 h3
    simp only [okE, h2, h4, cond_true, blt_of hlt] at e3
    exact ⟨mi, e1, e3⟩
  · obtain ⟨ki, h1, hk1⟩ := kqu i r hr ha hw hl
    obtain ⟨kk, h3, h4, _⟩ := kact k q hq hb
    obtain ⟨mi, mk, e1, e2, e3⟩ := chk i k ki kk r q h1 h3
    simp only [okE, hk1, hb1, hb2, h4, cond_true, cond_false, blt_of hlt, Bool.or_eq_true] at e3
    rcases e3 with e3 | e3 | e3
    · exact .inl ⟨mi, e1, e3⟩
    · have := nomv k i (by omega) (by have := (List.getElem?_eq_some_iff.1 h1).1; omega) (Nat.eq_of_beq_eq_true e3)
      exact .inr (.inl (by simpa [uAt, h1, h3] using this))
    · have := pairsOk_mem hpr _ (memP_of e3)
      simp only [lookOk, nth_eq, h1, h3, blt_of hlt, cond_true] at this
      exact .inr (.inr this)
  · obtain ⟨ki, h1, hk1⟩ := kqu i r hr ha hw hl
    obtain ⟨kk, h3, h4, _⟩ := kact k q hq hb
    obtain ⟨mi, mk, e1, e2, e3⟩ := chk i k ki kk r q h1 h3
    simp only [okE, hk1, hb1, hb2, h4, cond_true, cond_false, blt_not (show ¬ k < i by omega), Bool.or_eq_true] at e3
    rcases e3 with e3 | e3 | e3
    · exact .inl ⟨mk, e2, e3⟩
    · have hc : cntM ((ks.map fun x => kf x.1).take i) = cntM ((ks.map fun x => kf x.1).take (k + 1)) := by
        rw [succ _ k (kf kk) (by simp [h3])]; exact Nat.eq_of_beq_eq_true e3
      have := nomv i (k + 1) (by omega) (by have := (List.getElem?_eq_some_iff.1 h3).1; omega) hc
      have h2 := (htr.all k q hq).2.2.1
      rw [h2] at this
      exact .inr (.inl (by simpa [uAt, h1] using this.symm))
    · have := pairsOk_mem hpr _ (memP_of e3)
      simp only [lookOk, nth_eq, h1, h3, blt_not (show ¬ k < i by omega), cond_false] at this
      exact .inr (.inr this)
end
def addA : Sg → List (Nat × List U × TypeId) → Sg
  | σ, [] => σ
  | σ, x :: r => addA (newU σ (.row x.2.1 x.2.2)) r
def alsA : Nat → List (Nat × List U × TypeId) → List Al
  | _, [] => []
  | n, x :: r => ⟨x.1, n, x.2.1, x.2.2⟩ :: alsA (n + 1) r
theorem addA_nx : ∀ (L : List (Nat × List U × TypeId)) (σ : Sg), (addA σ L).nx = σ.nx + L.length
  | [], σ => rfl
  | x :: r, σ => by simp only [addA, addA_nx r, newU, List.length_cons]; omega
theorem alsA_k : ∀ {L : List (Nat × List U × TypeId)} {n : Nat} {al : Al}, al ∈ alsA n L → n ≤ al.k ∧ al.k < n + L.length
  | [], n, al, h => by cases h
  | x :: r, n, al, h => by
    rcases List.mem_cons.1 h with rfl | h
    · simp
    · have := alsA_k h; simp only [List.length_cons]; omega
theorem alsA_eq : ∀ {L : List (Nat × List U × TypeId)} {n : Nat} {a b : Al}, a ∈ alsA n L → b ∈ alsA n L → a.k = b.k → a = b
  | [], n, a, b, h, _, _ => by cases h
  | x :: r, n, a, b, ha, hb, hk => by
    rcases List.mem_cons.1 ha with rfl | ha
    · rcases List.mem_cons.1 hb with rfl | hb
      · rfl
      · have := alsA_k hb; simp only at hk; omega
    · rcases List.mem_cons.1 hb with rfl | hb
      · have := alsA_k ha; simp only at hk; omega
      · exact alsA_eq ha hb hk
theorem addA_low : ∀ (L : List (Nat × List U × TypeId)) (σ : Sg) {j : Nat}, (∀ al ∈ alsA σ.nx L, al.k ≠ j) → gt (addA σ L).h j = gt σ.h j
  | [], σ, j, _ => rfl
  | x :: r, σ, j, hj => by
    have h1 := hj ⟨x.1, σ.nx, x.2.1, x.2.2⟩ (by simp [alsA])
    simp only [addA]
    rw [addA_low r (newU σ (.row x.2.1 x.2.2)) fun al hm => hj al (by simp only [alsA, List.mem_cons]; exact .inr hm)]
    simp only [newU, gt_cons]
    rw [if_neg h1]
theorem addA_own : ∀ {L : List (Nat × List U × TypeId)} {σ : Sg} {al : Al}, al ∈ alsA σ.nx L → gt (addA σ L).h al.k = some (.row al.l al.e)
  | [], σ, al, h => by cases h
  | x :: r, σ, al, h => by
    rcases List.mem_cons.1 h with rfl | h
    · simp only [addA]
      rw [addA_low r (newU σ (.row x.2.1 x.2.2)) fun al hm => ?_]
      · simp [newU, gt_cons]
      · have := alsA_k hm; simp only [newU] at this; omega
    · exact addA_own (σ := newU σ (.row x.2.1 x.2.2)) h
def zerosP (T : Tb) : List (Nat × List U × TypeId) → Prop
  | [] => True
  | x :: r => (∃ a b z, T.inf x.2.2 = some (a, b, z) ∧ ofVL z.cells.toList = some x.2.1 ∧ okL x.2.1 = true) ∧ zerosP T r
theorem zerosP_at {T : Tb} : ∀ {L : List (Nat × List U × TypeId)} {n : Nat}, zerosP T L → ∀ al ∈ alsA n L, (∀ σ tm, opU T σ tm (.alloc al.e) = some (.ptr σ.nx 0 0, newU σ (.row al.l al.e))) ∧ BelL 0 al.l
  | [], n, _, al, h => by cases h
  | x :: r, n, hz, al, h => by
    rcases List.mem_cons.1 h with rfl | h
    · obtain ⟨⟨a, b, z, h1, h2, h3⟩, _⟩ := hz
      refine ⟨fun σ tm => ?_, ?_⟩
      · simp only [opU, pureU, readU, effU, h1, h2, h3, cond_true]
      · exact ((ofVL_ok _ _ h2).2 ⟨fun _ => none, ⟨[], 0⟩, ⟨[], 0⟩⟩).bel
    · exact zerosP_at hz.2 al h
section
variable {P : Program} {T : Tb} (hT : TbOk P T) {n0 : Nat} {Q : Exit → List U → Sg → Prop} {tm : List U} {σ : Sg}
include hT
theorem WPU.drawA {id : Nat} {ops : Array Oper} (L : List (Nat × List U × TypeId)) (pr : List (Nat × Nat)) (hst : staticOk ops.toList = true) (hL : L ≠ []) (hz : zerosP T L)
    (h : RA P T ops.toList σ.nx ⟨σ.h, σ.nx + L.length⟩ ops.toList tm (addA σ L) [] (alsA σ.nx L) (fun ks tm' σ' => flE ops.toList (ks.reverse.map fun x => kf x.1) pr = true ∧ lateA (L.map (·.1)) (ks.reverse.map (·.1)) (masks ops.toList []) = true ∧ pairsOk T ks.reverse pr ∧ Q .normal tm' σ')) : WPU P n0 (.region id ops true) tm σ Q := fun hn F x tv m w a hx st hd => by
  obtain ⟨ks, tm', σ', ⟨hfl, hlate, hpr, hQ⟩, g2, g3, g4, g5, g6, g7⟩ := ra_ok _ _ _ _ _ _ h
  simp only [List.append_nil, List.reverse_reverse, List.length_nil, Nat.zero_add] at hfl hlate hpr g6 g7
  have ati : ∀ (i : Nat) (r : RecU), (ks.map (·.2))[i]? = some r → ∃ k, ks[i]? = some (k, r) := by
    intro i r hr
    simp only [List.getElem?_map] at hr
    cases hk : ks[i]? with
    | none => rw [hk] at hr; simp at hr
    | some x =>
      obtain ⟨k, r'⟩ := x
      rw [hk] at hr; simp at hr; subst hr
      exact ⟨k, rfl⟩
  have htr : TrU P T ops.toList tm (addA σ L) (ks.map (·.2)) tm' σ' := ⟨by simpa using g2, g3, g4, fun i r hr => by
    obtain ⟨k, hk⟩ := ati i r hr
    obtain ⟨a, b, c, d⟩ := g5 i _ hk
    exact ⟨a, b.good, c, d⟩⟩
  have hch : ChU T ops.toList (ks.map (·.2)) := chU_of hst htr (fun i x hx => (g5 i x hx).2.1) hfl hpr
  have inai : ∀ al ∈ alsA σ.nx L, al.i ∈ L.map (·.1) := by
    have : ∀ (L : List (Nat × List U × TypeId)) (n : Nat), ∀ al ∈ alsA n L, al.i ∈ L.map (·.1) := by
      intro L
      induction L with
      | nil => intro n al h; cases h
      | cons x r ih =>
        intro n al h
        rcases List.mem_cons.1 h with rfl | h
        · simp
        · simp only [List.map_cons, List.mem_cons]; exact .inr (ih _ al h)
    exact this L σ.nx
  have late : ∀ (i k : Nat) (r : RecU), ks[i]? = some (k, r) → 1 ≤ k → k ≤ 3 → ∀ al ∈ alsA σ.nx L, Pre ops.toList i al.i := fun i k r hk h1 h3 al hm => by
    obtain ⟨mk, e1, e2⟩ := lateA_at hlate (i := i) (k := k) (by simp [hk]) h1 h3
    exact ⟨mk, e1, e2 _ (inai al hm)⟩
  have hal : ChA P T ops.toList tm σ (addA σ L) (ks.map (·.2)) (alsA σ.nx L) := by
    refine ⟨?_, fun al hm => by rw [addA_nx]; exact alsA_k hm, fun a ha b hb hk => by rw [alsA_eq ha hb hk], by rw [addA_nx]; omega, fun al hm => ?_, zerosP_at hz, fun i r hr ha hv => ?_, fun al hm => addA_own hm, fun j hj => addA_low L σ hj, fun i r hr ha => ?_, fun i r hr ha hv => ?_⟩
    · cases L with
      | nil => exact absurd rfl hL
      | cons x r => simp [alsA]
    · obtain ⟨i, x, d, e1, e2, e3, e4, e5, e6, e7⟩ := g7 al hm
      have hk := (g5 i x e2).2.1
      have hact : x.2.act = false := by
        cases hb : x.2.act with
        | false => rfl
        | true => have := hk.act.1 hb; omega
      exact ⟨x.2, d, by rw [e1]; simp [e2], e4, hact, (hk.mv hact).2 e3, e5, e6, e7⟩
    · obtain ⟨k, hk⟩ := ati i r hr
      have := ((g5 i _ hk).2.1.mv ha).1 hv
      exact g6 i _ hk this
    · obtain ⟨k, hk⟩ := ati i r hr
      have := (g5 i _ hk).2.1.act.1 ha
      simp only [] at this
      exact late i k r hk (by omega) (by omega)
    · obtain ⟨k, hk⟩ := ati i r hr
      rcases (g5 i _ hk).2.1.ear ha hv with h | h
      · simp only [] at h
        exact .inl (late i k r hk (by omega) (by omega))
      · rw [addA_nx]; exact .inr h
  subst hx
  have hup : Mo x.σ.nx x ⟨x.ρ, ⟨x.σ.h, (addA x.σ L).nx⟩, x.s⟩ := ⟨fun k _ h2 => ⟨by simp only [addA_nx]; omega, fun b hb => ⟨b, hb, Nat.le_refl _, fun _ => ⟨rfl, fun l e sz st h => ⟨l, h⟩⟩⟩⟩, fun _ _ _ h => h⟩
  have hbr : ∀ j b, gt x.σ.h j = some b → j < x.σ.nx ∧ BelB x.σ.nx b := fun j b hb => ⟨(st.h.ok j b hb).1, (st.h.ok j b hb).2.belB⟩
  have hno : ∀ k, (Array.replicate ops.size false).getD k false = false := fun k => by
    by_cases hk : k < ops.size <;> simp [Array.getD, hk]
  refine wp_region_any hT.mixed ?_
  refine anyA_ok hT ops htr hst hch hal hn st.e.bel hbr (F := F) (x0 := x) (m0 := m) (w0 := w) (df := []) (fun y tv' m' w' a' h1 h2 h3 h4 h5 h6 => ⟨y, tm', tv', m', h1 ▸ hQ, h2, h3, h4, h5, h6⟩) ops.size (Array.replicate ops.size false) a _ m tm tv ⟨x.ρ, ⟨x.σ.h, (addA x.σ L).nx⟩, x.s⟩ (by simp) (by simp) ?_ ?_ ?_ rfl ?_ (fun _ _ => rfl) ?_ ?_ (hup.ke.le hn) hd
  · intro k q hk; rw [hno] at hk; cases hk
  · have := seesu_none (rs := ks.map (·.2)) (tm₀ := tm)
    exact ⟨this.len, fun k r d _ _ _ hL => (by rw [hno] at hL; cases hL), fun k r d g1 g2 _ => this.no k r d g1 g2 (fun x => x), this.other⟩
  · cases hA : alsA x.σ.nx L with
    | nil => exact absurd hA hal.some
    | cons al r => exact ⟨al, by simp, by rw [hno]; simp⟩
  · intro al hm
    rw [hno]
    simp only [Bool.false_eq_true, if_false]
    cases hg : gt x.σ.h al.k with
    | none => rfl
    | some b => have := (hbr _ _ hg).1; have := (alsA_k hm).1; omega
  · refine ⟨⟨fun k b hb => ?_, st.h.inj, st.h.bd⟩, st.fr, hup.ke.E st.e.bel st.e, (Adv.draw _ st.fits).fits, st.act⟩
    obtain ⟨h1, h2⟩ := st.h.ok k b hb
    exact ⟨by simp only [addA_nx]; omega, h2.mono hup rfl fun _ _ _ h => h⟩
  · exact Adv.draw _ st.fits
end
end Go.Vx
end
section
namespace Go.Vx
open Go Go.Rx
set_option linter.unusedVariables false
section
variable {P : Program} {T : Tb} {ops r : List Oper} {o : Oper} {n nb : Nat} {σe : Sg} {l : List (Nat × U)} {σ σ' : Sg} {acc : List RK} {q : List Al} {K : List RK → List U → Sg → Prop} {u : U}
theorem RQ.look (hw : wantedU ops (fr n l) o = some true) (h : opU T σ (fr n l) o.op = some (u, σ)) {d : Tmp} (he : o.dst = some d) (hd : Nat.blt d n = true) (hk : RA P T ops nb σe r (fr n ((d, u) :: l)) σ ((1, ⟨fr n l, o, u, false, false, σ, σ⟩) :: acc) q K) : RA P T ops nb σe (o :: r) (fr n l) σ acc q K :=
  .inl ⟨hw, u, h, by rw [he, put_fr (d := some d) u hd]; exact hk⟩
theorem RQ.act (hw : wantedU ops (fr n l) o = some true) (h : opU T σ (fr n l) o.op = some (u, σ')) {d : Tmp} (he : o.dst = some d) (hd : Nat.blt d n = true) (hk : RA P T ops nb σe r (fr n ((d, u) :: l)) σ' ((3, ⟨fr n l, o, u, true, true, σ, σ'⟩) :: acc) q K) : RA P T ops nb σe (o :: r) (fr n l) σ acc q K :=
  .inr (.inl ⟨hw, u, σ', h, by rw [he, put_fr (d := some d) u hd]; exact hk⟩)
theorem RQ.actn (hw : wantedU ops (fr n l) o = some true) (h : opU T σ (fr n l) o.op = some (u, σ')) (he : o.dst = none) (hk : RA P T ops nb σe r (fr n l) σ' ((3, ⟨fr n l, o, u, true, true, σ, σ'⟩) :: acc) q K) : RA P T ops nb σe (o :: r) (fr n l) σ acc q K :=
  .inr (.inl ⟨hw, u, σ', h, by rw [he]; exact hk⟩)
theorem RQ.call {f : FuncId} {args : List U} (hw : wantedU ops (fr n l) o = some true) (hc : callU T (fr n l) o.op = some (f, args)) (hev : EvU P f args σ (fun u' σ' => u' = u ∧ σ' = σ)) {d : Tmp} (he : o.dst = some d) (hd : Nat.blt d n = true) (hk : RA P T ops nb σe r (fr n ((d, u) :: l)) σ ((2, ⟨fr n l, o, u, true, false, σ, σ⟩) :: acc) q K) : RA P T ops nb σe (o :: r) (fr n l) σ acc q K :=
  .inr (.inr (.inl ⟨hw, f, args, u, hc, hev, by rw [he, put_fr (d := some d) u hd]; exact hk⟩))
theorem RQ.no (hw : wantedU ops (fr n l) o = some false) {d : Tmp} (he : o.dst = some d) (hd : Nat.blt d n = true) (hk : RA P T ops nb σe r (fr n ((d, .tup []) :: l)) σ ((0, ⟨fr n l, o, .tup [], false, false, σ, σ⟩) :: acc) q K) : RA P T ops nb σe (o :: r) (fr n l) σ acc q K :=
  .inr (.inr (.inr (.inr (.inl ⟨hw, by rw [he, put_fr (d := some d) _ hd]; exact hk⟩))))
theorem RQ.free {f : FuncId} {args : List U} (hw : wantedU ops (fr n l) o = some true) (hc : callU T (fr n l) o.op = some (f, args)) (hev : ∀ s, EvU P f args s (fun u' σ' => u' = u ∧ σ' = s)) (hb : Bel nb u) {d : Tmp} (he : o.dst = some d) (hd : Nat.blt d n = true) (hk : RA P T ops nb σe r (fr n ((d, u) :: l)) σ ((6, ⟨fr n l, o, u, false, false, σ, σ⟩) :: acc) q K) : RA P T ops nb σe (o :: r) (fr n l) σ acc q K :=
  .inr (.inr (.inr (.inr (.inr (.inl ⟨hw, f, args, u, hc, hev, hb, by rw [he, put_fr (d := some d) u hd]; exact hk⟩)))))
theorem RQ.early (hw : wantedU ops (fr n l) o = some true) (h : opU T σ (fr n l) o.op = some (u, σ)) (h0 : opU T σe (fr n l) o.op = some (u, σe)) (hn : noEff o.op = true) (hb : Bel nb u) {d : Tmp} (he : o.dst = some d) (hd : Nat.blt d n = true) (hk : RA P T ops nb σe r (fr n ((d, u) :: l)) σ ((5, ⟨fr n l, o, u, false, false, σ, σ⟩) :: acc) q K) : RA P T ops nb σe (o :: r) (fr n l) σ acc q K :=
  .inr (.inr (.inr (.inr (.inr (.inr (.inl ⟨hw, u, h, h0, hn, hb, by rw [he, put_fr (d := some d) u hd]; exact hk⟩))))))
theorem RQ.alloc {al : Al} (hi : al.i = acc.length) (ho : o.op = .alloc al.e) (hg : o.guard = none) {d : Tmp} (he : o.dst = some d) (hd : Nat.blt d n = true) (hk : RA P T ops nb σe r (fr n ((d, .ptr al.k 0 0) :: l)) σ ((4, ⟨fr n l, o, .ptr al.k 0 0, false, true, σ, σ⟩) :: acc) q K) : RA P T ops nb σe (o :: r) (fr n l) σ acc (al :: q) K :=
  .inr (.inr (.inr (.inr (.inr (.inr (.inr ⟨al, q, d, rfl, hi, ho, hg, he, by rw [he, put_fr (d := some d) _ hd]; exact hk⟩))))))
theorem RQ.done (h : K acc (fr n l) σ) : RA P T ops nb σe [] (fr n l) σ acc [] K := ⟨rfl, h⟩
end
section
variable {P : Program} {T : Tb} (hT : TbOk P T) {n0 : Nat} {Q : Exit → List U → Sg → Prop} {tm : List U} {σ : Sg}
include hT
theorem WPU.drawQ {id : Nat} {ops : Array Oper} (L : List (Nat × List U × TypeId)) (pr : List (Nat × Nat)) {nb : Nat} {σe σ1 : Sg} {q : List Al} (hst : staticOk ops.toList = true) (hL : L ≠ []) (hz : zerosP T L)
    (h1 : σ.nx = nb) (h2 : (⟨σ.h, σ.nx + L.length⟩ : Sg) = σe) (h3 : addA σ L = σ1) (h4 : alsA σ.nx L = q)
    (h : RA P T ops.toList nb σe ops.toList tm σ1 [] q (fun ks tm' σ' => flE ops.toList (ks.reverse.map fun x => kf x.1) pr = true ∧ lateA (L.map (·.1)) (ks.reverse.map (·.1)) (masks ops.toList []) = true ∧ pairsOk T ks.reverse pr ∧ Q .normal tm' σ')) : WPU P n0 (.region id ops true) tm σ Q := by
  subst h1 h2 h3 h4
  exact WPU.drawA hT L pr hst hL hz h
end
end Go.Vx
end
