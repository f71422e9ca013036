/- This text proves a part of what the claim needs: contracts of functions of the program. No condition. -/
import Derived.Test.YtbdodpippgakjaaY
set_option linter.unusedSimpArgs false
set_option linter.unusedVariables false

namespace Go.Proofs.Ytbdodpippgakjaa
open Go Go.Vs Go.Proofs
set_option maxRecDepth 20000

/-! ### ExecutorIdeal -/

set_option maxHeartbeats 2000000 in
theorem lawIdeal (l : List Ch) (hl : l.length ≤ 140737488351232) (hf : ∀ c ∈ l, c.fits) : Gives Try.prog 6 [.c (.sl 4 (chs l))] (.c (.d (.bool true))) [] := by
  refine Gives.of_w TryEnv Try.func6 (by decide) TryL6_ok Try.ntmps6 (rs := [.tmp 2]) rfl (by simp) [] (by decide) ?_; rw [TryL6]
  repeat' first
    | simp -implicitDefEqProofs only [go_sem, ↓reduceIte, Nat.reduceEqDiff, Nat.reduceAdd, Nat.reduceMul, Nat.reduceSub, Nat.reduceLeDiff, Nat.reduceLT, Nat.reducePow, reduceCtorEq, Int.reduceToNat, Int.reduceLT, Int.reduceLE, Int.reduceEq, Int.reduceAdd, Int.reduceSub, Int.reduceMul, Int.reduceNeg, Int.reduceTMod, Int.reduceTDiv, List.replicate_zero, List.replicate_succ]
    | (refine wCall_intro first32 ?_ ?_ ?_; rfl; decide)
  refine wT_loop (fun k : { k : Nat × Ex × Nat // k.1 ≤ l.length ∧ k.1 ≤ 60 ∧ k.2.1.small ∧ Inv k.2.1 k.2.2 ∧ k.2.2 ≤ k.1 } => ⟨[(0, .c (.d (.sl 4 (chs l)))), (3, .c (.ptr 8 0)), (4, .c (.d (.int .i64 (k.1.1 : Nat))))],
    [(8, .box [.d (.bool k.1.2.1.run), .d (.bool k.1.2.1.stp), .d (.sl 4 (stps k.1.2.1.plan.steps)), .d (.sl 1 (afts k.1.2.1.plan.after)), .d (.sl 3 (trs k.1.2.1.tries)), .d (.int .i64 k.1.2.1.next)])], 9⟩) (fun k => l.length - k.1.1) ⟨(0, firstN, 0), Nat.zero_le _, Nat.zero_le _, firstN_small, firstN_inv, Nat.le_refl _⟩ ?_ ?_
  · refine Wk.sub ?_ ?_ (by decide) (by decide) ?_ ?_
    all_goals simp -implicitDefEqProofs only [go_sem, ↓reduceIte, Nat.reduceEqDiff, Nat.reduceAdd, Nat.reduceMul, Nat.reduceSub, Nat.reduceLeDiff, Nat.reduceLT, Nat.reducePow, reduceCtorEq, Int.reduceToNat, Int.reduceLT, Int.reduceLE, Int.reduceEq, Int.reduceAdd, Int.reduceSub, Int.reduceMul, Int.reduceNeg, Int.reduceTMod, Int.reduceTDiv, List.replicate_zero, List.replicate_succ, Int.natCast_zero]
  · rintro ⟨⟨k, x, n⟩, hk, hk60, hx, hI, hnk⟩
    dsimp only at hk hk60 hx hI hnk
    refine wT_of TryEnv ?_
    repeat' first
      | simp -implicitDefEqProofs only [go_sem, ↓reduceIte, Nat.reduceEqDiff, Nat.reduceAdd, Nat.reduceMul, Nat.reduceSub, Nat.reduceLeDiff, Nat.reduceLT, Nat.reducePow, reduceCtorEq, Int.reduceToNat, Int.reduceLT, Int.reduceLE, Int.reduceEq, Int.reduceAdd, Int.reduceSub, Int.reduceMul, Int.reduceNeg, Int.reduceTMod, Int.reduceTDiv, List.replicate_zero, List.replicate_succ]
      | refine wfork_intro (fun h => ?_) (fun h => ?_)
      | (refine wCall_intro lives11 ?_ ?_ ?_; rfl; decide)
    rename_i h1
    have h1 : k < l.length := by simp at h1; omega
    have h2 : k < 60 := by simp at h; omega
    have hg : l[k]? = some l[k] := List.getElem?_eq_getElem h1
    have hc := hf _ (List.getElem_mem h1)
    generalize l[k] = c at *
    have hs := step34 x c hx hc
    have hsm := stepC_small (c := c) hx
    have hinv := (stepC_inv (c := c) hI (by omega)).1
    generalize hq : (n + if (stepC x c).2.2 = true ∧ (stepC x c).2.1.kind = 2 then 1 else 0) = m at hinv
    have hm : m ≤ k + 1 := by
      rw [← hq]
      split <;> omega
    clear hq
    generalize stepC x c = y at *
    obtain ⟨y, r, ok⟩ := y
    dsimp only at hs hsm hinv
    have hw := validN_wf hinv.val
    have hd := done26 y hsm
    have he : ((y.tries.length : Nat) : Int) = (y.plan.after.length : Nat) := by rw [hw.aft]
    have hdl : (doneL y).length ≤ 1000000 := readyL_len y hsm _
    have hid := fun p hp hne => ideal_ok hinv (p := p) hp hne
    repeat' first
      | simp -implicitDefEqProofs only [go_sem, ↓reduceIte, Nat.reduceEqDiff, Nat.reduceAdd, Nat.reduceMul, Nat.reduceSub, Nat.reduceLeDiff, Nat.reduceLT, Nat.reducePow, reduceCtorEq, Int.reduceToNat, Int.reduceLT, Int.reduceLE, Int.reduceEq, Int.reduceAdd, Int.reduceSub, Int.reduceMul, Int.reduceNeg, Int.reduceTMod, Int.reduceTDiv, List.replicate_zero, List.replicate_succ, chs_get, hg, Int.toNat_natCast, Int.natCast_nonneg, he]
      | (refine wCall_intro hs ?_ ?_ ?_; rfl; decide)
      | (refine wCall_intro hd ?_ ?_ ?_; rfl; decide)
      | refine Also.mk (by decide) ?_
    generalize doneL y = dl at *
    refine wT_loop (fun p : { p : Nat // p ≤ y.tries.length } => ⟨[(0, .c (.d (.sl 4 (chs l)))), (3, .c (.ptr 8 0)), (4, .c (.d (.int .i64 (k : Nat)))), (5, .c (.d (.sl 1 (nums dl)))), (6, .c (.d (.int .i64 (p.1 : Nat))))],
      [(8, .box [.d (.bool y.run), .d (.bool y.stp), .d (.sl 4 (stps y.plan.steps)), .d (.sl 1 (afts y.plan.after)), .d (.sl 3 (trs y.tries)), .d (.int .i64 y.next)])], 9⟩) (fun p => y.tries.length - p.1) ⟨0, Nat.zero_le _⟩ ?_ ?_
    · refine Wk.sub ?_ ?_ (by decide) (by decide) ?_ ?_
      all_goals simp -implicitDefEqProofs only [go_sem, ↓reduceIte, Nat.reduceEqDiff, Nat.reduceAdd, Nat.reduceMul, Nat.reduceSub, Nat.reduceLeDiff, Nat.reduceLT, Nat.reducePow, reduceCtorEq, Int.reduceToNat, Int.reduceLT, Int.reduceLE, Int.reduceEq, Int.reduceAdd, Int.reduceSub, Int.reduceMul, Int.reduceNeg, Int.reduceTMod, Int.reduceTDiv, List.replicate_zero, List.replicate_succ, Int.natCast_zero]
    · rintro ⟨p, hp⟩
      try dsimp only at hp
      refine wT_of TryEnv ?_
      simp -implicitDefEqProofs only [go_sem, ↓reduceIte, Nat.reduceEqDiff, Nat.reduceAdd, Nat.reduceMul, Nat.reduceSub, Nat.reduceLeDiff, Nat.reduceLT, Nat.reducePow, reduceCtorEq, Int.reduceToNat, Int.reduceLT, Int.reduceLE, Int.reduceEq, Int.reduceAdd, Int.reduceSub, Int.reduceMul, Int.reduceNeg, Int.reduceTMod, Int.reduceTDiv, List.replicate_zero, List.replicate_succ]
      refine wfork_intro (fun h3 => ?_) (fun h3 => ?_)
      · have h3 : p < y.tries.length := by simp at h3; omega
        have hid := hid p h3
        have hgt : y.tries[p]? = some (y.tries.getD p .zero) := by rw [getD_of h3]; exact List.getElem?_eq_getElem h3
        have hga : y.plan.after[p]? = some (y.plan.after.getD p []) := by rw [getD_of (by have := hw.aft; omega)]; exact List.getElem?_eq_getElem (by have := hw.aft; omega)
        have hal : (y.plan.after.getD p []).length ≤ 1000 := hsm.1.2.2 _ (getD_mem (by have := hw.aft; omega) _)
        generalize y.tries.getD p .zero = t at *
        generalize y.plan.after.getD p [] = al at *
        simp -implicitDefEqProofs only [go_sem, ↓reduceIte, Nat.reduceEqDiff, Nat.reduceAdd, Nat.reduceMul, Nat.reduceSub, Nat.reduceLeDiff, Nat.reduceLT, Nat.reducePow, reduceCtorEq, Int.reduceToNat, Int.reduceLT, Int.reduceLE, Int.reduceEq, Int.reduceAdd, Int.reduceSub, Int.reduceMul, Int.reduceNeg, Int.reduceTMod, Int.reduceTDiv, List.replicate_zero, List.replicate_succ]
        refine wT_loop (fun j : { j : Nat // j ≤ al.length } => ⟨[(0, .c (.d (.sl 4 (chs l)))), (3, .c (.ptr 8 0)), (4, .c (.d (.int .i64 (k : Nat)))), (5, .c (.d (.sl 1 (nums dl)))), (6, .c (.d (.int .i64 (p : Nat)))), (7, .c (.d (.int .i64 (j.1 : Nat))))],
          [(8, .box [.d (.bool y.run), .d (.bool y.stp), .d (.sl 4 (stps y.plan.steps)), .d (.sl 1 (afts y.plan.after)), .d (.sl 3 (trs y.tries)), .d (.int .i64 y.next)])], 9⟩) (fun j => al.length - j.1) ⟨0, Nat.zero_le _⟩ ?_ ?_
        · refine Wk.sub ?_ ?_ (by decide) (by decide) ?_ ?_
          all_goals simp -implicitDefEqProofs only [go_sem, ↓reduceIte, Nat.reduceEqDiff, Nat.reduceAdd, Nat.reduceMul, Nat.reduceSub, Nat.reduceLeDiff, Nat.reduceLT, Nat.reducePow, reduceCtorEq, Int.reduceToNat, Int.reduceLT, Int.reduceLE, Int.reduceEq, Int.reduceAdd, Int.reduceSub, Int.reduceMul, Int.reduceNeg, Int.reduceTMod, Int.reduceTDiv, List.replicate_zero, List.replicate_succ, Int.natCast_zero]
        · rintro ⟨j, hj⟩
          try dsimp only at hj
          refine wT_of TryEnv ?_
          repeat' first
            | simp -implicitDefEqProofs only [go_sem, ↓reduceIte, Nat.reduceEqDiff, Nat.reduceAdd, Nat.reduceMul, Nat.reduceSub, Nat.reduceLeDiff, Nat.reduceLT, Nat.reducePow, reduceCtorEq, Int.reduceToNat, Int.reduceLT, Int.reduceLE, Int.reduceEq, Int.reduceAdd, Int.reduceSub, Int.reduceMul, Int.reduceNeg, Int.reduceTMod, Int.reduceTDiv, List.replicate_zero, List.replicate_succ, trs_get, afts_get, hgt, hga, Int.toNat_natCast, Int.natCast_nonneg]
            | refine wfork_intro (fun h4 => ?_) (fun h4 => ?_)
            | refine Also.mk (by decide) ?_
            | (rename decide ((j : Int) < (al.length : Int)) = true => h5
               have h5' : j < al.length := by simp at h5; omega
               rename (!decide (t.id = 0)) = true => h6
               have h6' : t.id ≠ 0 := by simpa using h6
               have hgj : al[j]? = some al[j] := List.getElem?_eq_getElem h5'
               have hhas := has35 dl al[j] hdl
               rw [decide_eq_true (hid h6' _ (List.getElem_mem h5'))] at hhas
               generalize al[j] = a at *
               repeat' first
                 | simp -implicitDefEqProofs only [go_sem, ↓reduceIte, Nat.reduceEqDiff, Nat.reduceAdd, Nat.reduceMul, Nat.reduceSub, Nat.reduceLeDiff, Nat.reduceLT, Nat.reducePow, reduceCtorEq, Int.reduceToNat, Int.reduceLT, Int.reduceLE, Int.reduceEq, Int.reduceAdd, Int.reduceSub, Int.reduceMul, Int.reduceNeg, Int.reduceTMod, Int.reduceTDiv, List.replicate_zero, List.replicate_succ, trs_get, afts_get, nums_get, hgt, hga, hgj, Int.toNat_natCast, Int.natCast_nonneg]
                 | (refine wCall_intro hhas ?_ ?_ ?_; rfl; decide)
                 | refine Also.mk (by decide) ?_
               refine ⟨⟨j + 1, by omega⟩, Wk.sub (by simp -implicitDefEqProofs only [go_sem, ↓reduceIte, Nat.reduceEqDiff, Nat.reduceAdd, Nat.reduceMul, Nat.reduceSub, Nat.reduceLeDiff, Nat.reduceLT, Nat.reducePow, reduceCtorEq, Int.reduceToNat, Int.reduceLT, Int.reduceLE, Int.reduceEq, Int.reduceAdd, Int.reduceSub, Int.reduceMul, Int.reduceNeg, Int.reduceTMod, Int.reduceTDiv, List.replicate_zero, List.replicate_succ, ctr (show j ≤ 1000000 by omega)]) (by simp -implicitDefEqProofs only [go_sem, ↓reduceIte, Nat.reduceEqDiff, Nat.reduceAdd, Nat.reduceMul, Nat.reduceSub, Nat.reduceLeDiff, Nat.reduceLT, Nat.reducePow, reduceCtorEq, Int.reduceToNat, Int.reduceLT, Int.reduceLE, Int.reduceEq, Int.reduceAdd, Int.reduceSub, Int.reduceMul, Int.reduceNeg, Int.reduceTMod, Int.reduceTDiv, List.replicate_zero, List.replicate_succ]) (by decide) (by decide) (by simp -implicitDefEqProofs only [go_sem, ↓reduceIte, Nat.reduceEqDiff, Nat.reduceAdd, Nat.reduceMul, Nat.reduceSub, Nat.reduceLeDiff, Nat.reduceLT, Nat.reducePow, reduceCtorEq, Int.reduceToNat, Int.reduceLT, Int.reduceLE, Int.reduceEq, Int.reduceAdd, Int.reduceSub, Int.reduceMul, Int.reduceNeg, Int.reduceTMod, Int.reduceTDiv, List.replicate_zero, List.replicate_succ]) (by simp -implicitDefEqProofs only [go_sem, ↓reduceIte, Nat.reduceEqDiff, Nat.reduceAdd, Nat.reduceMul, Nat.reduceSub, Nat.reduceLeDiff, Nat.reduceLT, Nat.reducePow, reduceCtorEq, Int.reduceToNat, Int.reduceLT, Int.reduceLE, Int.reduceEq, Int.reduceAdd, Int.reduceSub, Int.reduceMul, Int.reduceNeg, Int.reduceTMod, Int.reduceTDiv, List.replicate_zero, List.replicate_succ]), by dsimp only; omega⟩)
          all_goals refine ⟨⟨p + 1, by omega⟩, Wk.sub (by simp -implicitDefEqProofs only [go_sem, ↓reduceIte, Nat.reduceEqDiff, Nat.reduceAdd, Nat.reduceMul, Nat.reduceSub, Nat.reduceLeDiff, Nat.reduceLT, Nat.reducePow, reduceCtorEq, Int.reduceToNat, Int.reduceLT, Int.reduceLE, Int.reduceEq, Int.reduceAdd, Int.reduceSub, Int.reduceMul, Int.reduceNeg, Int.reduceTMod, Int.reduceTDiv, List.replicate_zero, List.replicate_succ, ctr (show p ≤ 1000000 by have := hsm.2; omega)]) (by simp -implicitDefEqProofs only [go_sem, ↓reduceIte, Nat.reduceEqDiff, Nat.reduceAdd, Nat.reduceMul, Nat.reduceSub, Nat.reduceLeDiff, Nat.reduceLT, Nat.reducePow, reduceCtorEq, Int.reduceToNat, Int.reduceLT, Int.reduceLE, Int.reduceEq, Int.reduceAdd, Int.reduceSub, Int.reduceMul, Int.reduceNeg, Int.reduceTMod, Int.reduceTDiv, List.replicate_zero, List.replicate_succ]) (by decide) (by decide) (by simp -implicitDefEqProofs only [go_sem, ↓reduceIte, Nat.reduceEqDiff, Nat.reduceAdd, Nat.reduceMul, Nat.reduceSub, Nat.reduceLeDiff, Nat.reduceLT, Nat.reducePow, reduceCtorEq, Int.reduceToNat, Int.reduceLT, Int.reduceLE, Int.reduceEq, Int.reduceAdd, Int.reduceSub, Int.reduceMul, Int.reduceNeg, Int.reduceTMod, Int.reduceTDiv, List.replicate_zero, List.replicate_succ]) (by simp -implicitDefEqProofs only [go_sem, ↓reduceIte, Nat.reduceEqDiff, Nat.reduceAdd, Nat.reduceMul, Nat.reduceSub, Nat.reduceLeDiff, Nat.reduceLT, Nat.reducePow, reduceCtorEq, Int.reduceToNat, Int.reduceLT, Int.reduceLE, Int.reduceEq, Int.reduceAdd, Int.reduceSub, Int.reduceMul, Int.reduceNeg, Int.reduceTMod, Int.reduceTDiv, List.replicate_zero, List.replicate_succ]), by dsimp only; omega⟩
      · simp -implicitDefEqProofs only [go_sem, ↓reduceIte, Nat.reduceEqDiff, Nat.reduceAdd, Nat.reduceMul, Nat.reduceSub, Nat.reduceLeDiff, Nat.reduceLT, Nat.reducePow, reduceCtorEq, Int.reduceToNat, Int.reduceLT, Int.reduceLE, Int.reduceEq, Int.reduceAdd, Int.reduceSub, Int.reduceMul, Int.reduceNeg, Int.reduceTMod, Int.reduceTDiv, List.replicate_zero, List.replicate_succ]
        refine ⟨⟨(k + 1, y, m), by dsimp only; omega, by dsimp only; omega, hsm, hinv, hm⟩, Wk.sub (by simp -implicitDefEqProofs only [go_sem, ↓reduceIte, Nat.reduceEqDiff, Nat.reduceAdd, Nat.reduceMul, Nat.reduceSub, Nat.reduceLeDiff, Nat.reduceLT, Nat.reducePow, reduceCtorEq, Int.reduceToNat, Int.reduceLT, Int.reduceLE, Int.reduceEq, Int.reduceAdd, Int.reduceSub, Int.reduceMul, Int.reduceNeg, Int.reduceTMod, Int.reduceTDiv, List.replicate_zero, List.replicate_succ, ctr (show k ≤ 1000000 by omega)]) (by simp -implicitDefEqProofs only [go_sem, ↓reduceIte, Nat.reduceEqDiff, Nat.reduceAdd, Nat.reduceMul, Nat.reduceSub, Nat.reduceLeDiff, Nat.reduceLT, Nat.reducePow, reduceCtorEq, Int.reduceToNat, Int.reduceLT, Int.reduceLE, Int.reduceEq, Int.reduceAdd, Int.reduceSub, Int.reduceMul, Int.reduceNeg, Int.reduceTMod, Int.reduceTDiv, List.replicate_zero, List.replicate_succ]) (by decide) (by decide) (by simp -implicitDefEqProofs only [go_sem, ↓reduceIte, Nat.reduceEqDiff, Nat.reduceAdd, Nat.reduceMul, Nat.reduceSub, Nat.reduceLeDiff, Nat.reduceLT, Nat.reducePow, reduceCtorEq, Int.reduceToNat, Int.reduceLT, Int.reduceLE, Int.reduceEq, Int.reduceAdd, Int.reduceSub, Int.reduceMul, Int.reduceNeg, Int.reduceTMod, Int.reduceTDiv, List.replicate_zero, List.replicate_succ]) (by simp -implicitDefEqProofs only [go_sem, ↓reduceIte, Nat.reduceEqDiff, Nat.reduceAdd, Nat.reduceMul, Nat.reduceSub, Nat.reduceLeDiff, Nat.reduceLT, Nat.reducePow, reduceCtorEq, Int.reduceToNat, Int.reduceLT, Int.reduceLE, Int.reduceEq, Int.reduceAdd, Int.reduceSub, Int.reduceMul, Int.reduceNeg, Int.reduceTMod, Int.reduceTDiv, List.replicate_zero, List.replicate_succ]), by dsimp only; omega⟩
end Go.Proofs.Ytbdodpippgakjaa
