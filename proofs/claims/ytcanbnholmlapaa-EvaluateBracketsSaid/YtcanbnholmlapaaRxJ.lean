/-
  RxJ: maps that are written; all operations that make or write memory.
-/
import Derived.Test.YtcanbnholmlapaaRxI
namespace Go.Rx
open Go

theorem eraseIdx_map' {α β : Type} (f : α → β) (l : List α) (i : Nat) : (l.eraseIdx i).map f = (l.map f).eraseIdx i := by
  induction l generalizing i with
  | nil => simp
  | cons a l ih => cases i <;> simp [ih]

section
variable {P : Program} {T : Tb} (hT : TbOk P T) {m : Nm} {s : S} {w : World} (hf : FitsS m s w)
include hT hf

theorem mapUp_ok {t : TypeId} {mv k x cm ck cx u : Value} {s₁ : S} (hm : RelS m s.nx mv cm) (hk : RelS m s.nx k ck) (hx : RelS m s.nx x cx) (h : mapUpX T s t mv k x = some (u, s₁)) :
    EffU P m s w (Instr.mapUpdate t cm ck cx) s₁ ∧ u = undef := by
  unfold mapUpX at h
  cases hd : T.und t with
  | none => simp [hd] at h
  | some dd =>
  cases dd with
  | map kt et =>
    cases mv with
    | map r =>
      cases r with
      | none => simp [hd] at h
      | some r =>
        simp only [hd] at h
        cases hkx : keyX T 50 kt k with
        | false => simp [hkx] at h
        | true =>
          simp only [hkx, cond_true] at h
          obtain ⟨ty, hty⟩ := keyX_und hkx
          cases hpl : plain k with
          | false => simp [hpl] at h
          | true =>
            simp only [hpl, cond_true] at h
            cases hr : ownMap s r with
            | none => simp [hr] at h
            | some q =>
              obtain ⟨es, cl⟩ := q
              simp only [hr] at h
              have hb : w.heap[m.blk r]? = some (.map (es.map (renE m)).toArray cl) := (hf.fits).ok r _ (ownMap_some hr)
              have ecm : cm = .map (some (m.blk r)) := by rw [← hm.at]; simp [ren]
              have eck : ck = k := by rw [← hk.at]; exact ren_plain m k hpl
              have hck := key_ok hT m false 50 9950 w hkx
              rw [ren_plain m k hpl] at hck
              have hst := map_stable hf hr
              cases hfx : findX T kt k es 0 with
              | none => simp [hfx] at h
              | some fr =>
                have hfi := find_ok hT m w hty hfx
                rw [ren_plain m k hpl] at hfi
                cases fr with
                | none =>
                  simp only [hfx, Option.some.injEq, Prod.mk.injEq] at h
                  obtain ⟨rfl, rfl⟩ := h
                  refine ⟨?_, rfl⟩
                  obtain ⟨w₁, h1, h2⟩ := set_map (P := P) hf hr (es' := es ++ [{ key := k, val := x, born := cl }]) (cl' := cl + 1) (ces := es.map (renE m) ++ [{ key := k, val := cx, born := cl }]) (fun m' ha => by
                    simp [renE, ren_plain m' k hpl, hx m' ha]
                    have := hst m' ha
                    simpa [renE] using this)
                  refine ⟨m, w₁, ?_, h2⟩
                  rw [ecm, eck]
                  simp only [Instr.mapUpdate, Sem.run_bind, run_und hT w hd, Result.andThen_ok, run_getObj_map hb, hck, hfi, Option.map_none]
                  rw [← h1]
                  simp
                | some p =>
                  obtain ⟨i, pv⟩ := p
                  simp only [hfx, nth_eq] at h
                  cases hei : es[i]? with
                  | none => simp [hei] at h
                  | some e =>
                    simp only [hei] at h
                    cases hv : veq 50 e.key k with
                    | false => simp [hv] at h
                    | true =>
                      simp only [hv, cond_true, Option.some.injEq, Prod.mk.injEq] at h
                      obtain ⟨rfl, rfl⟩ := h
                      refine ⟨?_, rfl⟩
                      obtain ⟨hks, hek⟩ := keyStays_ok (P := P) hv w
                      have hmod : ∀ m', Agree s.nx m m' → (modX es i fun e => { e with val := x }).map (renE m') = (es.map (renE m)).modify i fun e => { e with key := k, val := cx } := fun m' ha => by
                        rw [modX_eq, ← hst m' ha]
                        apply List.ext_getElem?
                        intro j
                        simp only [List.getElem?_map, List.getElem?_modify]
                        by_cases hij : i = j
                        · subst hij
                          simp [hei, renE, hx m' ha, hek, ren_plain m' k hpl]
                        · cases es[j]? <;> simp [hij]
                      obtain ⟨w₁, h1, h2⟩ := set_map (P := P) hf hr (cl' := cl) hmod
                      refine ⟨m, w₁, ?_, h2⟩
                      have hget : (es.map (renE m)).toArray[i]? = some (renE m e) := by simp [hei]
                      have hkey : (renE m e).key = k := by simp [renE, hek, ren_plain m k hpl]
                      rw [hek] at hks
                      rw [ecm, eck]
                      simp only [Instr.mapUpdate, Sem.run_bind, run_und hT w hd, Result.andThen_ok, run_getObj_map hb, hck, hfi, Option.map_some, hget, Option.getD_some, hkey, hks]
                      rw [← h1]
                      simp
    | _ => simp [hd] at h
  | _ => simp [hd] at h

theorem mapEnt_ok {t : TypeId} {mv k cm ck v : Value} {s₁ : S} (hm : RelS m s.nx mv cm) (hk : RelS m s.nx k ck) (h : mapEntX T s t mv k = some (v, s₁)) : Eff P m s w (Instr.mapEntry t cm ck) v s₁ := by
  unfold mapEntX at h
  cases hd : T.und t with
  | none => simp [hd] at h
  | some dd =>
  cases dd with
  | map kt et =>
    cases mv with
    | map r =>
      cases r with
      | none => simp [hd] at h
      | some r =>
        simp only [hd] at h
        cases hkx : keyX T 50 kt k with
        | false => simp [hkx] at h
        | true =>
          simp only [hkx, cond_true] at h
          obtain ⟨ty, hty⟩ := keyX_und hkx
          cases hpl : plain k with
          | false => simp [hpl] at h
          | true =>
            simp only [hpl, cond_true] at h
            cases hr : ownMap s r with
            | none => simp [hr] at h
            | some q =>
              obtain ⟨es, cl⟩ := q
              simp only [hr] at h
              have hb : w.heap[m.blk r]? = some (.map (es.map (renE m)).toArray cl) := (hf.fits).ok r _ (ownMap_some hr)
              have ecm : cm = .map (some (m.blk r)) := by rw [← hm.at]; simp [ren]
              have eck : ck = k := by rw [← hk.at]; exact ren_plain m k hpl
              have hck := key_ok hT m false 50 9950 w hkx
              rw [ren_plain m k hpl] at hck
              have hst := map_stable hf hr
              cases hfx : findX T kt k es 0 with
              | none => simp [hfx] at h
              | some fr =>
                have hfi := find_ok hT m w hty hfx
                rw [ren_plain m k hpl] at hfi
                cases fr with
                | none =>
                  simp only [hfx] at h
                  cases hi : T.inf et with
                  | none => simp [hi] at h
                  | some y =>
                    obtain ⟨y1, y2, z⟩ := y
                    have hz := fun m' => run_zero hT m' w hi
                    simp only at hz
                    simp only [hi, Option.some.injEq, Prod.mk.injEq] at h
                    obtain ⟨rfl, rfl⟩ := h
                    obtain ⟨w₁, h1, h2⟩ := set_map (P := P) hf hr (es' := es ++ [{ key := k, val := z, born := cl }]) (cl' := cl + 1) (ces := es.map (renE m) ++ [{ key := k, val := z, born := cl }]) (fun m' ha => by
                      simp [renE, ren_plain m' k hpl, (hz m').2]
                      have := hst m' ha
                      simpa [renE] using this)
                    refine ⟨m, w₁, .tuple #[z, .int .i64 cl], ?_, h2, fun m' _ => by simp [ren, renL, (hz m').2]⟩
                    rw [ecm, eck]
                    have h1' : (setObj (m.blk r) (.map ((es.map (renE m)).toArray.push { key := k, val := z, born := cl }) (cl + 1))).run P w = .ok () w₁ := by rw [← h1]; simp
                    simp only [Instr.mapEntry, Sem.run_bind, run_und hT w hd, Result.andThen_ok, run_getObj_map hb, hck, hfi, Option.map_none, (hz m).1, h1', Sem.run_pure, goInt]
                | some p =>
                  obtain ⟨i, pv⟩ := p
                  obtain ⟨_, e0, he0, hpv⟩ := findX_lt es 0 hfx
                  simp only [Nat.sub_zero] at he0
                  simp only [hfx, nth_eq, he0] at h
                  cases hv : veq 50 e0.key k with
                  | false => simp [hv] at h
                  | true =>
                    simp only [hv, cond_true, Option.some.injEq, Prod.mk.injEq] at h
                    obtain ⟨rfl, rfl⟩ := h
                    obtain ⟨hks, hek⟩ := keyStays_ok (P := P) hv w
                    obtain ⟨w₁, h1, h2⟩ := set_map (P := P) hf hr (es' := es) (cl' := cl) hst
                    have hget : (es.map (renE m)).toArray[i]? = some (renE m e0) := by simp [he0]
                    have hkey : (renE m e0).key = k := by simp [renE, hek, ren_plain m k hpl]
                    have hbo : (renE m e0).born = e0.born := rfl
                    rw [hek] at hks
                    have hmod : (es.map (renE m)).toArray.modify i (fun e => { e with key := k }) = (es.map (renE m)).toArray := by
                      apply Array.ext'
                      simp only [Array.toList_modify]
                      apply List.ext_getElem?
                      intro j
                      simp only [List.getElem?_modify]
                      by_cases hij : i = j
                      · subst hij
                        simp [he0, renE, hek, ren_plain m k hpl]
                      · cases ((es.map (renE m)).toArray.toList)[j]? <;> simp [hij]
                    refine ⟨m, w₁, .tuple #[ren m pv, .int .i64 e0.born], ?_, h2, fun m' ha => ?_⟩
                    · rw [ecm, eck]
                      simp only [Instr.mapEntry, Sem.run_bind, run_und hT w hd, Result.andThen_ok, run_getObj_map hb, hck, hfi, Option.map_some, hget, Option.getD_some, hkey, hks, hmod, h1, Sem.run_pure, goInt, hbo]
                    · have := hst m' ha
                      have h3 : (renE m' e0) = renE m e0 := by
                        have := congrArg (fun l => l[i]?) this
                        simpa [he0] using this
                      have h4 : ren m' pv = ren m pv := by
                        have := congrArg MapEntry.val h3
                        simpa [renE, hpv] using this
                      simp [ren, renL, h4]
    | _ => simp [hd] at h
  | _ => simp [hd] at h

omit hT in
theorem entSt_ok {t : TypeId} {mv st x cm cst cx u : Value} {s₁ : S} (hm : RelS m s.nx mv cm) (hs : RelS m s.nx st cst) (hx : RelS m s.nx x cx) (h : entStX s mv st x = some (u, s₁)) :
    EffU P m s w (Instr.entryStore t cm cst cx) s₁ ∧ u = undef := by
  unfold entStX at h
  cases mv with
  | map r =>
    cases r with
    | none => simp at h
    | some r =>
      cases st with
      | int k b =>
        simp only at h
        cases hr : ownMap s r with
        | none => simp [hr] at h
        | some q =>
          obtain ⟨es, cl⟩ := q
          simp only [hr] at h
          cases hbo : bornX b es 0 with
          | none => simp [hbo] at h
          | some i =>
            simp only [hbo, Option.some.injEq, Prod.mk.injEq] at h
            obtain ⟨rfl, rfl⟩ := h
            refine ⟨?_, rfl⟩
            have hb : w.heap[m.blk r]? = some (.map (es.map (renE m)).toArray cl) := (hf.fits).ok r _ (ownMap_some hr)
            have ecm : cm = .map (some (m.blk r)) := by rw [← hm.at]; simp [ren]
            have ecs : cst = .int k b := by rw [← hs.at]; simp [ren]
            have hst := map_stable hf hr
            have hfind : ∀ (l : List MapEntry) (n i : Nat), bornX b l n = some i → n ≤ i ∧ (l.map (renE m)).findIdx? (fun e => (e.born : Int) == b) = some (i - n) := by
              intro l
              induction l with
              | nil => intro n i hh; simp [bornX] at hh
              | cons e l ih =>
                intro n i hh
                simp only [bornX] at hh
                by_cases he : (e.born : Int) = b
                · simp [he] at hh
                  subst hh
                  have hb' : (((renE m e).born : Int) == b) = true := by simpa [renE] using he
                  refine ⟨Nat.le_refl _, ?_⟩
                  rw [List.map_cons, List.findIdx?_cons, hb']
                  simp
                · simp only [he, decide_false, cond_false] at hh
                  obtain ⟨h1, h2⟩ := ih (n + 1) i hh
                  have hb' : (((renE m e).born : Int) == b) = false := by simpa [renE] using he
                  refine ⟨by omega, ?_⟩
                  rw [List.map_cons, List.findIdx?_cons, hb', h2]
                  simp
                  omega
            obtain ⟨_, hfi⟩ := hfind es 0 i hbo
            have hmod : ∀ m', Agree s.nx m m' → (modX es i fun e => { e with val := x }).map (renE m') = (es.map (renE m)).modify i fun e => { e with val := cx } := fun m' ha => by
              rw [modX_eq, ← hst m' ha]
              apply List.ext_getElem?
              intro j
              simp only [List.getElem?_map, List.getElem?_modify]
              by_cases hij : i = j
              · subst hij
                cases es[i]? <;> simp [renE, hx m' ha]
              · cases es[j]? <;> simp [hij]
            obtain ⟨w₁, h1, h2⟩ := set_map (P := P) hf hr (cl' := cl) hmod
            refine ⟨m, w₁, ?_, h2⟩
            rw [ecm, ecs]
            have hfa : (es.map (renE m)).toArray.findIdx? (fun e => (e.born : Int) == b) = some i := by
              rw [List.findIdx?_toArray, hfi]
              simp
            simp only [Instr.entryStore, Sem.run_bind, run_getObj_map hb, Result.andThen_ok, asInt, asIntOf, Sem.run_pure, hfa]
            rw [← h1]
            simp
      | _ => simp at h
  | _ => simp at h

theorem del_ok {t ty : TypeId} {ts : List TypeId} {mv k cm ck v : Value} {s₁ : S} (hm : RelS m s.nx mv cm) (hk : RelS m s.nx k ck) (h : delX T s t mv k = some (v, s₁)) : Eff P m s w (Builtin.delete_ (t :: ts).toArray ty #[cm, ck]) v s₁ := by
  unfold delX at h
  cases hd : T.und t with
  | none => simp [hd] at h
  | some dd =>
  cases dd with
  | map kt et =>
    cases mv with
    | map r =>
      cases r with
      | none =>
        simp only [hd] at h
        cases hkx : keyX T 50 kt k with
        | false => simp [hkx] at h
        | true =>
          simp only [hkx, cond_true, Option.some.injEq, Prod.mk.injEq] at h
          obtain ⟨rfl, rfl⟩ := h
          have ecm : cm = .map none := by rw [← hm.at]; simp [ren]
          have hck := key_ok hT m true 50 9950 w hkx
          rw [hk.at] at hck
          refine ⟨m, w, undef, ?_, Adv.refl hf, relS_refl fun _ => by simp [undef, ren, renL]⟩
          rw [ecm]
          have hck' : (Instr.checkKey true 10000 kt ck).run P w = .ok () w := hck
          simp [Builtin.delete_, run_und hT w hd, hck', undef]
      | some r =>
        simp only [hd] at h
        cases hkx : keyX T 50 kt k with
        | false => simp [hkx] at h
        | true =>
          simp only [hkx, cond_true] at h
          obtain ⟨ty, hty⟩ := keyX_und hkx
          cases hr : ownMap s r with
          | none => simp [hr] at h
          | some q =>
            obtain ⟨es, cl⟩ := q
            simp only [hr] at h
            have hb : w.heap[m.blk r]? = some (.map (es.map (renE m)).toArray cl) := (hf.fits).ok r _ (ownMap_some hr)
            have ecm : cm = .map (some (m.blk r)) := by rw [← hm.at]; simp [ren]
            have hck := key_ok hT m (es.map (renE m)).toArray.isEmpty 50 9950 w hkx
            rw [hk.at] at hck
            have hck' : (Instr.checkKey (es.map (renE m)).toArray.isEmpty 10000 kt ck).run P w = .ok () w := hck
            have hst := map_stable hf hr
            cases hfx : findX T kt k es 0 with
            | none => simp [hfx] at h
            | some fr =>
              have hfi := find_ok hT m w hty hfx
              rw [hk.at] at hfi
              cases fr with
              | none =>
                simp only [hfx, Option.some.injEq, Prod.mk.injEq] at h
                obtain ⟨rfl, rfl⟩ := h
                obtain ⟨w₁, h1, h2⟩ := set_map (P := P) hf hr (es' := es) (cl' := cl) hst
                refine ⟨m, w₁, undef, ?_, h2, relS_refl fun _ => by simp [undef, ren, renL]⟩
                rw [ecm]
                simp only [Builtin.delete_, List.getElem?_toArray, List.getElem?_cons_zero, List.getElem?_cons_succ, Sem.run_bind, run_und hT w hd, Result.andThen_ok, run_getObj_map hb, hck', hfi, Option.map_none, h1, Sem.run_pure, undef]
              | some p =>
                obtain ⟨i, pv⟩ := p
                simp only [hfx, Option.some.injEq, Prod.mk.injEq] at h
                obtain ⟨rfl, rfl⟩ := h
                obtain ⟨w₁, h1, h2⟩ := set_map (P := P) hf hr (es' := eraseX es i) (cl' := cl) (ces := (es.map (renE m)).eraseIdx i) (fun m' ha => by
                  rw [eraseX_eq, ← hst m' ha, eraseIdx_map'])
                refine ⟨m, w₁, undef, ?_, h2, relS_refl fun _ => by simp [undef, ren, renL]⟩
                have h1' : (setObj (m.blk r) (.map ((es.map (renE m)).toArray.eraseIdxIfInBounds i) cl)).run P w = .ok () w₁ := by
                  rw [← h1]
                  simp
                rw [ecm]
                simp only [Builtin.delete_, List.getElem?_toArray, List.getElem?_cons_zero, List.getElem?_cons_succ, Sem.run_bind, run_und hT w hd, Result.andThen_ok, run_getObj_map hb, hck', hfi, Option.map_some, h1', Sem.run_pure, undef]
    | _ => simp [hd] at h
  | _ => simp [hd] at h
end
end Go.Rx
