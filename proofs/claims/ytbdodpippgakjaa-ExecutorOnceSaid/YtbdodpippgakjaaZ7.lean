/- This text proves a part of what the claim needs: contracts of functions of the program. No condition. -/
import Derived.Test.YtbdodpippgakjaaY
set_option linter.unusedSimpArgs false
set_option linter.unusedVariables false

namespace Go.Proofs.Ytbdodpippgakjaa
open Go Go.Vs Go.Proofs
set_option maxRecDepth 20000

/-! ### ExecutorOnce -/

def ovr (over : List Int) (i : Nat) : List Int := over ++ (List.range i).map (fun (j : Nat) => (j : Int) + 1)
theorem ovr_zero (over : List Int) : ovr over 0 = over := by simp [ovr]
theorem ovr_succ (over : List Int) (i : Nat) : ovr over (i + 1) = ovr over i ++ [(i : Int) + 1] := by simp [ovr, List.range_succ]
theorem ovr_len (over : List Int) (i : Nat) : (ovr over i).length = over.length + i := by simp [ovr]

set_option maxHeartbeats 4000000 in
theorem lawOnce (l : List Ch) (hl : l.length ≤ 140737488351232) (hf : ∀ c ∈ l, c.fits) : Gives Try.prog 7 [.c (.sl 4 (chs l))] (.c (.d (.bool true))) [] := by
  refine Gives.of_w TryEnv Try.func7 (by decide) TryL7_ok Try.ntmps7 (rs := [.tmp 2]) rfl (by simp) [] (by decide) ?_; rw [TryL7]
  repeat' first
    | simp -implicitDefEqProofs only [go_sem, ↓reduceIte, Nat.reduceEqDiff, Nat.reduceAdd, Nat.reduceMul, Nat.reduceSub, Nat.reduceLeDiff, Nat.reduceLT, Nat.reducePow, reduceCtorEq, Int.reduceToNat, Int.reduceLT, Int.reduceLE, Int.reduceEq, Int.reduceAdd, Int.reduceSub, Int.reduceMul, Int.reduceNeg, Int.reduceTMod, Int.reduceTDiv, List.replicate_zero, List.replicate_succ]
    | (refine wCall_intro first32 ?_ ?_ ?_; rfl; decide)
  refine wT_wk (Wk.nil (t := 5) 1 (by simp -implicitDefEqProofs only [go_sem, ↓reduceIte, Nat.reduceEqDiff, Nat.reduceAdd, Nat.reduceMul, Nat.reduceSub, Nat.reduceLeDiff, Nat.reduceLT, Nat.reducePow, reduceCtorEq, Int.reduceToNat, Int.reduceLT, Int.reduceLE, Int.reduceEq, Int.reduceAdd, Int.reduceSub, Int.reduceMul, Int.reduceNeg, Int.reduceTMod, Int.reduceTDiv, List.replicate_zero, List.replicate_succ])) ?_
  simp -implicitDefEqProofs only [go_sem, ↓reduceIte, Nat.reduceEqDiff, Nat.reduceAdd, Nat.reduceMul, Nat.reduceSub, Nat.reduceLeDiff, Nat.reduceLT, Nat.reducePow, reduceCtorEq, Int.reduceToNat, Int.reduceLT, Int.reduceLE, Int.reduceEq, Int.reduceAdd, Int.reduceSub, Int.reduceMul, Int.reduceNeg, Int.reduceTMod, Int.reduceTDiv, List.replicate_zero, List.replicate_succ]
  refine wT_loop (fun k : { k : Nat × Ex × Nat × List Int // k.1 ≤ l.length ∧ k.1 ≤ 80 ∧ k.2.1.small ∧ Inv k.2.1 k.2.2.1 ∧ k.2.2.1 ≤ k.1 ∧ Over k.2.1 k.2.2.1 k.2.2.2 ∧ k.2.2.2.length ≤ 81 * k.1 } => ⟨[(0, .c (.d (.sl 4 (chs l)))), (3, .c (.ptr 8 0)), (4, .c (.d (.int .i64 (k.1.2.2.1 : Nat)))), (5, .c (.ref 28 k.1.2.2.2.length 0 k.1.2.2.2.length)), (6, .c (.d (.int .i64 (k.1.1 : Nat))))],
    [(8, .box [.d (.bool k.1.2.1.run), .d (.bool k.1.2.1.stp), .d (.sl 4 (stps k.1.2.1.plan.steps)), .d (.sl 1 (afts k.1.2.1.plan.after)), .d (.sl 3 (trs k.1.2.1.tries)), .d (.int .i64 k.1.2.1.next)]), (28, .sl 1 (nums k.1.2.2.2) false)], 29⟩) (fun k => l.length - k.1.1) ⟨(0, firstN, 0, []), Nat.zero_le _, Nat.zero_le _, firstN_small, firstN_inv, Nat.le_refl _, firstN_over, Nat.zero_le _⟩ ?_ ?_
  · refine Wk.sub ?_ ?_ (by decide) (by decide) ?_ ?_
    all_goals simp -implicitDefEqProofs only [go_sem, ↓reduceIte, Nat.reduceEqDiff, Nat.reduceAdd, Nat.reduceMul, Nat.reduceSub, Nat.reduceLeDiff, Nat.reduceLT, Nat.reducePow, reduceCtorEq, Int.reduceToNat, Int.reduceLT, Int.reduceLE, Int.reduceEq, Int.reduceAdd, Int.reduceSub, Int.reduceMul, Int.reduceNeg, Int.reduceTMod, Int.reduceTDiv, List.replicate_zero, List.replicate_succ, Int.natCast_zero, nums_nil]
  · rintro ⟨⟨k, x, n, over⟩, hk, hk80, hx, hI, hnk, hO, hov⟩
    dsimp only at hk hk80 hx hI hnk hO hov
    refine wT_of TryEnv ?_
    have hnx := hI.nxt
    have hw1 : IntKind.i64.wrap ((n : Int) + 1) = (n : Int) + 1 := wrap64 (by omega) (by omega)
    have hlast : decide (x.next = IntKind.i64.wrap ((n : Int) + 1)) = true := by rw [hw1, hnx]; simp
    repeat' first
      | simp -implicitDefEqProofs only [go_sem, ↓reduceIte, Nat.reduceEqDiff, Nat.reduceAdd, Nat.reduceMul, Nat.reduceSub, Nat.reduceLeDiff, Nat.reduceLT, Nat.reducePow, reduceCtorEq, Int.reduceToNat, Int.reduceLT, Int.reduceLE, Int.reduceEq, Int.reduceAdd, Int.reduceSub, Int.reduceMul, Int.reduceNeg, Int.reduceTMod, Int.reduceTDiv, List.replicate_zero, List.replicate_succ, hlast]
      | refine wfork_intro (fun h => ?_) (fun h => ?_)
      | (refine wCall_intro lives11 ?_ ?_ ?_; rfl; decide)
    rename_i h1
    have h1 : k < l.length := by simp at h1; omega
    have h2 : k < 80 := by simp at h; omega
    have hg : l[k]? = some l[k] := List.getElem?_eq_getElem h1
    have hc := hf _ (List.getElem_mem h1)
    generalize l[k] = c at *
    have hs := step34 x c hx hc
    have hsm := stepC_small (c := c) hx
    obtain ⟨hinv, hef, hno⟩ := stepC_inv (c := c) hI (by omega)
    generalize stepC x c = y at *
    obtain ⟨y, r, ok⟩ := y
    dsimp only at hs hsm hinv hef hno
    have hopen := open24 y hsm
    have hb : (over.length + 1) * 8 ≤ mostBytes := by simp only [mostBytes]; omega
    cases ok with
    | false =>
      have hyx : y = x := hno rfl
      rw [if_neg (by simp), Nat.add_zero] at hinv
      have hO' := (show Over y n over by rw [hyx]; exact hO)
      have hol : ((over).length) ≤ 1000000 := by omega
      have hid1 : ∀ q ∈ openN y, ¬ q.id ∈ (over) ∧ ¬ ((n : Nat) : Int) < q.id ∧ ¬ q.id < 1 := fun q hq => by
        obtain ⟨i, hi, ho, e⟩ := openN_mem hq
        have h1 := hinv.ids _ (getD_mem hi .zero)
        have h2 := (openT_id ho).1
        refine ⟨by rw [e]; exact hO'.not_in i hi ho, by omega, by omega⟩
      have hqll : (openN y).length ≤ 1000000 := by
        have : (openL y).length ≤ 1000000 := readyL_len y hsm _
        rw [openN, List.length_map]
        exact this
      generalize openN y = ql at *
      repeat' first
        | simp -implicitDefEqProofs only [go_sem, ↓reduceIte, Nat.reduceEqDiff, Nat.reduceAdd, Nat.reduceMul, Nat.reduceSub, Nat.reduceLeDiff, Nat.reduceLT, Nat.reducePow, reduceCtorEq, Int.reduceToNat, Int.reduceLT, Int.reduceLE, Int.reduceEq, Int.reduceAdd, Int.reduceSub, Int.reduceMul, Int.reduceNeg, Int.reduceTMod, Int.reduceTDiv, List.replicate_zero, List.replicate_succ, chs_get, hg, Int.toNat_natCast, Int.natCast_nonneg]
        | (refine wCall_intro hs ?_ ?_ ?_; rfl; decide)
        | (refine wCall_intro hopen ?_ ?_ ?_; rfl; decide)
        | refine Also.mk (by decide) ?_
      refine wT_loop (fun j : { j : Nat // j ≤ ql.length } => ⟨[(0, .c (.d (.sl 4 (chs l)))), (3, .c (.ptr 8 0)), (4, .c (.d (.int .i64 (n : Nat)))), (5, .c (.ref 28 (over).length 0 (over).length)), (6, .c (.d (.int .i64 (k : Nat)))), (11, .c (.d (.sl 6 (rqs ql)))), (12, .c (.d (.int .i64 (j.1 : Nat))))],
        [(8, .box [.d (.bool y.run), .d (.bool y.stp), .d (.sl 4 (stps y.plan.steps)), .d (.sl 1 (afts y.plan.after)), .d (.sl 3 (trs y.tries)), .d (.int .i64 y.next)]), (28, .sl 1 (nums (over)) false)], 29⟩) (fun j => ql.length - j.1) ⟨0, Nat.zero_le _⟩ ?_ ?_
      · refine Wk.sub ?_ ?_ (by decide) (by decide) ?_ ?_
        all_goals simp -implicitDefEqProofs only [go_sem, ↓reduceIte, Nat.reduceEqDiff, Nat.reduceAdd, Nat.reduceMul, Nat.reduceSub, Nat.reduceLeDiff, Nat.reduceLT, Nat.reducePow, reduceCtorEq, Int.reduceToNat, Int.reduceLT, Int.reduceLE, Int.reduceEq, Int.reduceAdd, Int.reduceSub, Int.reduceMul, Int.reduceNeg, Int.reduceTMod, Int.reduceTDiv, List.replicate_zero, List.replicate_succ, Int.natCast_zero, nums_nil]
      · rintro ⟨j, hj⟩
        try dsimp only at hj
        refine wT_of TryEnv ?_
        simp -implicitDefEqProofs only [go_sem, ↓reduceIte, Nat.reduceEqDiff, Nat.reduceAdd, Nat.reduceMul, Nat.reduceSub, Nat.reduceLeDiff, Nat.reduceLT, Nat.reducePow, reduceCtorEq, Int.reduceToNat, Int.reduceLT, Int.reduceLE, Int.reduceEq, Int.reduceAdd, Int.reduceSub, Int.reduceMul, Int.reduceNeg, Int.reduceTMod, Int.reduceTDiv, List.replicate_zero, List.replicate_succ]
        refine wfork_intro (fun h4 => ?_) (fun h4 => ?_)
        · have h4 : j < ql.length := by simp at h4; omega
          have hgj : ql[j]? = some ql[j] := List.getElem?_eq_getElem h4
          obtain ⟨q1, q2, q3⟩ := hid1 _ (List.getElem_mem h4)
          have hhas := has35 (over) ql[j].id hol
          rw [decide_eq_false q1] at hhas
          generalize ql[j] = q at *
          have q2 : decide (((n : Nat) : Int) < q.id) = false := decide_eq_false q2
          have q3 : decide (q.id < 1) = false := decide_eq_false q3
          repeat' first
            | simp -implicitDefEqProofs only [go_sem, ↓reduceIte, Nat.reduceEqDiff, Nat.reduceAdd, Nat.reduceMul, Nat.reduceSub, Nat.reduceLeDiff, Nat.reduceLT, Nat.reducePow, reduceCtorEq, Int.reduceToNat, Int.reduceLT, Int.reduceLE, Int.reduceEq, Int.reduceAdd, Int.reduceSub, Int.reduceMul, Int.reduceNeg, Int.reduceTMod, Int.reduceTDiv, List.replicate_zero, List.replicate_succ, rqs_get, hgj, q2, q3, Int.toNat_natCast, Int.natCast_nonneg]
            | refine wLend_lend ?_
            | (refine wCall_intro hhas ?_ ?_ ?_; rfl; decide)
            | refine Also.mk (by decide) ?_
            | apply And.intro
          refine ⟨⟨j + 1, by omega⟩, Wk.sub (by simp -implicitDefEqProofs only [go_sem, ↓reduceIte, Nat.reduceEqDiff, Nat.reduceAdd, Nat.reduceMul, Nat.reduceSub, Nat.reduceLeDiff, Nat.reduceLT, Nat.reducePow, reduceCtorEq, Int.reduceToNat, Int.reduceLT, Int.reduceLE, Int.reduceEq, Int.reduceAdd, Int.reduceSub, Int.reduceMul, Int.reduceNeg, Int.reduceTMod, Int.reduceTDiv, List.replicate_zero, List.replicate_succ, ctr (show j ≤ 1000000 by omega)]) (by simp -implicitDefEqProofs only [go_sem, ↓reduceIte, Nat.reduceEqDiff, Nat.reduceAdd, Nat.reduceMul, Nat.reduceSub, Nat.reduceLeDiff, Nat.reduceLT, Nat.reducePow, reduceCtorEq, Int.reduceToNat, Int.reduceLT, Int.reduceLE, Int.reduceEq, Int.reduceAdd, Int.reduceSub, Int.reduceMul, Int.reduceNeg, Int.reduceTMod, Int.reduceTDiv, List.replicate_zero, List.replicate_succ]) (by decide) (by decide) (by simp -implicitDefEqProofs only [go_sem, ↓reduceIte, Nat.reduceEqDiff, Nat.reduceAdd, Nat.reduceMul, Nat.reduceSub, Nat.reduceLeDiff, Nat.reduceLT, Nat.reducePow, reduceCtorEq, Int.reduceToNat, Int.reduceLT, Int.reduceLE, Int.reduceEq, Int.reduceAdd, Int.reduceSub, Int.reduceMul, Int.reduceNeg, Int.reduceTMod, Int.reduceTDiv, List.replicate_zero, List.replicate_succ]) (by simp -implicitDefEqProofs only [go_sem, ↓reduceIte, Nat.reduceEqDiff, Nat.reduceAdd, Nat.reduceMul, Nat.reduceSub, Nat.reduceLeDiff, Nat.reduceLT, Nat.reducePow, reduceCtorEq, Int.reduceToNat, Int.reduceLT, Int.reduceLE, Int.reduceEq, Int.reduceAdd, Int.reduceSub, Int.reduceMul, Int.reduceNeg, Int.reduceTMod, Int.reduceTDiv, List.replicate_zero, List.replicate_succ]), by dsimp only; omega⟩
        · simp -implicitDefEqProofs only [go_sem, ↓reduceIte, Nat.reduceEqDiff, Nat.reduceAdd, Nat.reduceMul, Nat.reduceSub, Nat.reduceLeDiff, Nat.reduceLT, Nat.reducePow, reduceCtorEq, Int.reduceToNat, Int.reduceLT, Int.reduceLE, Int.reduceEq, Int.reduceAdd, Int.reduceSub, Int.reduceMul, Int.reduceNeg, Int.reduceTMod, Int.reduceTDiv, List.replicate_zero, List.replicate_succ]
          refine ⟨⟨(k + 1, y, n, over), by dsimp only; omega, by dsimp only; omega, hsm, hinv, by dsimp only; omega, hO', by dsimp only; omega⟩, Wk.sub (by simp -implicitDefEqProofs only [go_sem, ↓reduceIte, Nat.reduceEqDiff, Nat.reduceAdd, Nat.reduceMul, Nat.reduceSub, Nat.reduceLeDiff, Nat.reduceLT, Nat.reducePow, reduceCtorEq, Int.reduceToNat, Int.reduceLT, Int.reduceLE, Int.reduceEq, Int.reduceAdd, Int.reduceSub, Int.reduceMul, Int.reduceNeg, Int.reduceTMod, Int.reduceTDiv, List.replicate_zero, List.replicate_succ, ctr (show k ≤ 1000000 by omega)]) (by simp -implicitDefEqProofs only [go_sem, ↓reduceIte, Nat.reduceEqDiff, Nat.reduceAdd, Nat.reduceMul, Nat.reduceSub, Nat.reduceLeDiff, Nat.reduceLT, Nat.reducePow, reduceCtorEq, Int.reduceToNat, Int.reduceLT, Int.reduceLE, Int.reduceEq, Int.reduceAdd, Int.reduceSub, Int.reduceMul, Int.reduceNeg, Int.reduceTMod, Int.reduceTDiv, List.replicate_zero, List.replicate_succ]) (by decide) (by decide) (by simp -implicitDefEqProofs only [go_sem, ↓reduceIte, Nat.reduceEqDiff, Nat.reduceAdd, Nat.reduceMul, Nat.reduceSub, Nat.reduceLeDiff, Nat.reduceLT, Nat.reducePow, reduceCtorEq, Int.reduceToNat, Int.reduceLT, Int.reduceLE, Int.reduceEq, Int.reduceAdd, Int.reduceSub, Int.reduceMul, Int.reduceNeg, Int.reduceTMod, Int.reduceTDiv, List.replicate_zero, List.replicate_succ]) (by simp -implicitDefEqProofs only [go_sem, ↓reduceIte, Nat.reduceEqDiff, Nat.reduceAdd, Nat.reduceMul, Nat.reduceSub, Nat.reduceLeDiff, Nat.reduceLT, Nat.reducePow, reduceCtorEq, Int.reduceToNat, Int.reduceLT, Int.reduceLE, Int.reduceEq, Int.reduceAdd, Int.reduceSub, Int.reduceMul, Int.reduceNeg, Int.reduceTMod, Int.reduceTDiv, List.replicate_zero, List.replicate_succ]), by dsimp only; omega⟩
    | true =>
      have he := hef rfl
      obtain ⟨hO2, hnin⟩ := over_step hI hO he
      have hrid := (effectN_inv hI (by omega) he).2
      by_cases k2 : r.kind = 2
      · have g2 : (r.kind = 2) = True := by simp [k2]
        have g3 : (r.kind = 3) = False := by simp [k2]
        have g5 : (r.kind = 5) = False := by simp [k2]
        rw [if_pos ⟨rfl, k2⟩] at hinv
        rw [if_pos k2, overN, if_neg (by omega), if_neg (by omega)] at hO2
        have hrid : r.id = ((n + 1 : Nat) : Int) := by rw [hrid k2]; rfl
        have hw2 : IntKind.i64.wrap ((n : Int) + 1) = ((n + 1 : Nat) : Int) := by rw [hw1]; rfl
        have hO' := hO2
        have hol : ((over).length) ≤ 1000000 := by omega
        have hid1 : ∀ q ∈ openN y, ¬ q.id ∈ (over) ∧ ¬ ((n + 1 : Nat) : Int) < q.id ∧ ¬ q.id < 1 := fun q hq => by
          obtain ⟨i, hi, ho, e⟩ := openN_mem hq
          have h1 := hinv.ids _ (getD_mem hi .zero)
          have h2 := (openT_id ho).1
          refine ⟨by rw [e]; exact hO'.not_in i hi ho, by omega, by omega⟩
        have hqll : (openN y).length ≤ 1000000 := by
          have : (openL y).length ≤ 1000000 := readyL_len y hsm _
          rw [openN, List.length_map]
          exact this
        generalize openN y = ql at *
        repeat' first
          | simp -implicitDefEqProofs only [go_sem, ↓reduceIte, Nat.reduceEqDiff, Nat.reduceAdd, Nat.reduceMul, Nat.reduceSub, Nat.reduceLeDiff, Nat.reduceLT, Nat.reducePow, reduceCtorEq, Int.reduceToNat, Int.reduceLT, Int.reduceLE, Int.reduceEq, Int.reduceAdd, Int.reduceSub, Int.reduceMul, Int.reduceNeg, Int.reduceTMod, Int.reduceTDiv, List.replicate_zero, List.replicate_succ, chs_get, hg, Int.toNat_natCast, Int.natCast_nonneg, g2, g3, g5, hrid, hw2]
          | (refine wCall_intro hs ?_ ?_ ?_; rfl; decide)
          | (refine wCall_intro hopen ?_ ?_ ?_; rfl; decide)
          | refine Also.mk (by decide) ?_
        refine wT_loop (fun j : { j : Nat // j ≤ ql.length } => ⟨[(0, .c (.d (.sl 4 (chs l)))), (3, .c (.ptr 8 0)), (4, .c (.d (.int .i64 (n + 1 : Nat)))), (5, .c (.ref 28 (over).length 0 (over).length)), (6, .c (.d (.int .i64 (k : Nat)))), (11, .c (.d (.sl 6 (rqs ql)))), (12, .c (.d (.int .i64 (j.1 : Nat))))],
          [(8, .box [.d (.bool y.run), .d (.bool y.stp), .d (.sl 4 (stps y.plan.steps)), .d (.sl 1 (afts y.plan.after)), .d (.sl 3 (trs y.tries)), .d (.int .i64 y.next)]), (28, .sl 1 (nums (over)) false)], 29⟩) (fun j => ql.length - j.1) ⟨0, Nat.zero_le _⟩ ?_ ?_
        · refine Wk.sub ?_ ?_ (by decide) (by decide) ?_ ?_
          all_goals simp -implicitDefEqProofs only [go_sem, ↓reduceIte, Nat.reduceEqDiff, Nat.reduceAdd, Nat.reduceMul, Nat.reduceSub, Nat.reduceLeDiff, Nat.reduceLT, Nat.reducePow, reduceCtorEq, Int.reduceToNat, Int.reduceLT, Int.reduceLE, Int.reduceEq, Int.reduceAdd, Int.reduceSub, Int.reduceMul, Int.reduceNeg, Int.reduceTMod, Int.reduceTDiv, List.replicate_zero, List.replicate_succ, Int.natCast_zero, nums_nil]
        · rintro ⟨j, hj⟩
          try dsimp only at hj
          refine wT_of TryEnv ?_
          simp -implicitDefEqProofs only [go_sem, ↓reduceIte, Nat.reduceEqDiff, Nat.reduceAdd, Nat.reduceMul, Nat.reduceSub, Nat.reduceLeDiff, Nat.reduceLT, Nat.reducePow, reduceCtorEq, Int.reduceToNat, Int.reduceLT, Int.reduceLE, Int.reduceEq, Int.reduceAdd, Int.reduceSub, Int.reduceMul, Int.reduceNeg, Int.reduceTMod, Int.reduceTDiv, List.replicate_zero, List.replicate_succ]
          refine wfork_intro (fun h4 => ?_) (fun h4 => ?_)
          · have h4 : j < ql.length := by simp at h4; omega
            have hgj : ql[j]? = some ql[j] := List.getElem?_eq_getElem h4
            obtain ⟨q1, q2, q3⟩ := hid1 _ (List.getElem_mem h4)
            have hhas := has35 (over) ql[j].id hol
            rw [decide_eq_false q1] at hhas
            generalize ql[j] = q at *
            have q2 : decide (((n + 1 : Nat) : Int) < q.id) = false := decide_eq_false q2
            have q3 : decide (q.id < 1) = false := decide_eq_false q3
            repeat' first
              | simp -implicitDefEqProofs only [go_sem, ↓reduceIte, Nat.reduceEqDiff, Nat.reduceAdd, Nat.reduceMul, Nat.reduceSub, Nat.reduceLeDiff, Nat.reduceLT, Nat.reducePow, reduceCtorEq, Int.reduceToNat, Int.reduceLT, Int.reduceLE, Int.reduceEq, Int.reduceAdd, Int.reduceSub, Int.reduceMul, Int.reduceNeg, Int.reduceTMod, Int.reduceTDiv, List.replicate_zero, List.replicate_succ, rqs_get, hgj, q2, q3, Int.toNat_natCast, Int.natCast_nonneg]
              | refine wLend_lend ?_
              | (refine wCall_intro hhas ?_ ?_ ?_; rfl; decide)
              | refine Also.mk (by decide) ?_
              | apply And.intro
            refine ⟨⟨j + 1, by omega⟩, Wk.sub (by simp -implicitDefEqProofs only [go_sem, ↓reduceIte, Nat.reduceEqDiff, Nat.reduceAdd, Nat.reduceMul, Nat.reduceSub, Nat.reduceLeDiff, Nat.reduceLT, Nat.reducePow, reduceCtorEq, Int.reduceToNat, Int.reduceLT, Int.reduceLE, Int.reduceEq, Int.reduceAdd, Int.reduceSub, Int.reduceMul, Int.reduceNeg, Int.reduceTMod, Int.reduceTDiv, List.replicate_zero, List.replicate_succ, ctr (show j ≤ 1000000 by omega)]) (by simp -implicitDefEqProofs only [go_sem, ↓reduceIte, Nat.reduceEqDiff, Nat.reduceAdd, Nat.reduceMul, Nat.reduceSub, Nat.reduceLeDiff, Nat.reduceLT, Nat.reducePow, reduceCtorEq, Int.reduceToNat, Int.reduceLT, Int.reduceLE, Int.reduceEq, Int.reduceAdd, Int.reduceSub, Int.reduceMul, Int.reduceNeg, Int.reduceTMod, Int.reduceTDiv, List.replicate_zero, List.replicate_succ]) (by decide) (by decide) (by simp -implicitDefEqProofs only [go_sem, ↓reduceIte, Nat.reduceEqDiff, Nat.reduceAdd, Nat.reduceMul, Nat.reduceSub, Nat.reduceLeDiff, Nat.reduceLT, Nat.reducePow, reduceCtorEq, Int.reduceToNat, Int.reduceLT, Int.reduceLE, Int.reduceEq, Int.reduceAdd, Int.reduceSub, Int.reduceMul, Int.reduceNeg, Int.reduceTMod, Int.reduceTDiv, List.replicate_zero, List.replicate_succ]) (by simp -implicitDefEqProofs only [go_sem, ↓reduceIte, Nat.reduceEqDiff, Nat.reduceAdd, Nat.reduceMul, Nat.reduceSub, Nat.reduceLeDiff, Nat.reduceLT, Nat.reducePow, reduceCtorEq, Int.reduceToNat, Int.reduceLT, Int.reduceLE, Int.reduceEq, Int.reduceAdd, Int.reduceSub, Int.reduceMul, Int.reduceNeg, Int.reduceTMod, Int.reduceTDiv, List.replicate_zero, List.replicate_succ]), by dsimp only; omega⟩
          · simp -implicitDefEqProofs only [go_sem, ↓reduceIte, Nat.reduceEqDiff, Nat.reduceAdd, Nat.reduceMul, Nat.reduceSub, Nat.reduceLeDiff, Nat.reduceLT, Nat.reducePow, reduceCtorEq, Int.reduceToNat, Int.reduceLT, Int.reduceLE, Int.reduceEq, Int.reduceAdd, Int.reduceSub, Int.reduceMul, Int.reduceNeg, Int.reduceTMod, Int.reduceTDiv, List.replicate_zero, List.replicate_succ]
            refine ⟨⟨(k + 1, y, n + 1, over), by dsimp only; omega, by dsimp only; omega, hsm, hinv, by dsimp only; omega, hO', by dsimp only; omega⟩, Wk.sub (by simp -implicitDefEqProofs only [go_sem, ↓reduceIte, Nat.reduceEqDiff, Nat.reduceAdd, Nat.reduceMul, Nat.reduceSub, Nat.reduceLeDiff, Nat.reduceLT, Nat.reducePow, reduceCtorEq, Int.reduceToNat, Int.reduceLT, Int.reduceLE, Int.reduceEq, Int.reduceAdd, Int.reduceSub, Int.reduceMul, Int.reduceNeg, Int.reduceTMod, Int.reduceTDiv, List.replicate_zero, List.replicate_succ, ctr (show k ≤ 1000000 by omega)]) (by simp -implicitDefEqProofs only [go_sem, ↓reduceIte, Nat.reduceEqDiff, Nat.reduceAdd, Nat.reduceMul, Nat.reduceSub, Nat.reduceLeDiff, Nat.reduceLT, Nat.reducePow, reduceCtorEq, Int.reduceToNat, Int.reduceLT, Int.reduceLE, Int.reduceEq, Int.reduceAdd, Int.reduceSub, Int.reduceMul, Int.reduceNeg, Int.reduceTMod, Int.reduceTDiv, List.replicate_zero, List.replicate_succ]) (by decide) (by decide) (by simp -implicitDefEqProofs only [go_sem, ↓reduceIte, Nat.reduceEqDiff, Nat.reduceAdd, Nat.reduceMul, Nat.reduceSub, Nat.reduceLeDiff, Nat.reduceLT, Nat.reducePow, reduceCtorEq, Int.reduceToNat, Int.reduceLT, Int.reduceLE, Int.reduceEq, Int.reduceAdd, Int.reduceSub, Int.reduceMul, Int.reduceNeg, Int.reduceTMod, Int.reduceTDiv, List.replicate_zero, List.replicate_succ]) (by simp -implicitDefEqProofs only [go_sem, ↓reduceIte, Nat.reduceEqDiff, Nat.reduceAdd, Nat.reduceMul, Nat.reduceSub, Nat.reduceLeDiff, Nat.reduceLT, Nat.reducePow, reduceCtorEq, Int.reduceToNat, Int.reduceLT, Int.reduceLE, Int.reduceEq, Int.reduceAdd, Int.reduceSub, Int.reduceMul, Int.reduceNeg, Int.reduceTMod, Int.reduceTDiv, List.replicate_zero, List.replicate_succ]), by dsimp only; omega⟩
      · have g2 : (r.kind = 2) = False := by simp [k2]
        rw [if_neg (by simp [k2]), Nat.add_zero] at hinv
        rw [if_neg k2, Nat.add_zero] at hO2
        by_cases k3 : r.kind = 3
        · have g3 : (r.kind = 3) = True := by simp [k3]
          have g5 : (r.kind = 5) = False := by simp [k3]
          rw [overN, if_pos k3] at hO2
          have hhas0 := has35 over r.id (by omega)
          rw [decide_eq_false (hnin k3)] at hhas0
          have hO' := hO2
          have hol : ((over ++ [r.id]).length) ≤ 1000000 := by simp only [List.length_append, List.length_cons, List.length_nil]; omega
          have hid1 : ∀ q ∈ openN y, ¬ q.id ∈ (over ++ [r.id]) ∧ ¬ ((n : Nat) : Int) < q.id ∧ ¬ q.id < 1 := fun q hq => by
            obtain ⟨i, hi, ho, e⟩ := openN_mem hq
            have h1 := hinv.ids _ (getD_mem hi .zero)
            have h2 := (openT_id ho).1
            refine ⟨by rw [e]; exact hO'.not_in i hi ho, by omega, by omega⟩
          have hqll : (openN y).length ≤ 1000000 := by
            have : (openL y).length ≤ 1000000 := readyL_len y hsm _
            rw [openN, List.length_map]
            exact this
          generalize openN y = ql at *
          repeat' first
            | simp -implicitDefEqProofs only [go_sem, ↓reduceIte, Nat.reduceEqDiff, Nat.reduceAdd, Nat.reduceMul, Nat.reduceSub, Nat.reduceLeDiff, Nat.reduceLT, Nat.reducePow, reduceCtorEq, Int.reduceToNat, Int.reduceLT, Int.reduceLE, Int.reduceEq, Int.reduceAdd, Int.reduceSub, Int.reduceMul, Int.reduceNeg, Int.reduceTMod, Int.reduceTDiv, List.replicate_zero, List.replicate_succ, chs_get, hg, Int.toNat_natCast, Int.natCast_nonneg, g2, g3, g5, hb]
            | (refine wCall_intro hs ?_ ?_ ?_; rfl; decide)
            | refine wLend_lend ?_
            | (refine wCall_intro hhas0 ?_ ?_ ?_; rfl; decide)
            | (refine And.intro ?_ ?_; exact hb)
            | (refine wCall_intro hopen ?_ ?_ ?_; rfl; decide)
            | refine Also.mk (by decide) ?_
          refine wT_loop (fun j : { j : Nat // j ≤ ql.length } => ⟨[(0, .c (.d (.sl 4 (chs l)))), (3, .c (.ptr 8 0)), (4, .c (.d (.int .i64 (n : Nat)))), (5, .c (.ref 28 (over ++ [r.id]).length 0 (over ++ [r.id]).length)), (6, .c (.d (.int .i64 (k : Nat)))), (11, .c (.d (.sl 6 (rqs ql)))), (12, .c (.d (.int .i64 (j.1 : Nat))))],
            [(8, .box [.d (.bool y.run), .d (.bool y.stp), .d (.sl 4 (stps y.plan.steps)), .d (.sl 1 (afts y.plan.after)), .d (.sl 3 (trs y.tries)), .d (.int .i64 y.next)]), (28, .sl 1 (nums (over ++ [r.id])) false)], 29⟩) (fun j => ql.length - j.1) ⟨0, Nat.zero_le _⟩ ?_ ?_
          · refine Wk.sub ?_ ?_ (by decide) (by decide) ?_ ?_
            all_goals simp -implicitDefEqProofs only [go_sem, ↓reduceIte, Nat.reduceEqDiff, Nat.reduceAdd, Nat.reduceMul, Nat.reduceSub, Nat.reduceLeDiff, Nat.reduceLT, Nat.reducePow, reduceCtorEq, Int.reduceToNat, Int.reduceLT, Int.reduceLE, Int.reduceEq, Int.reduceAdd, Int.reduceSub, Int.reduceMul, Int.reduceNeg, Int.reduceTMod, Int.reduceTDiv, List.replicate_zero, List.replicate_succ, Int.natCast_zero, List.length_append]
          · rintro ⟨j, hj⟩
            try dsimp only at hj
            refine wT_of TryEnv ?_
            simp -implicitDefEqProofs only [go_sem, ↓reduceIte, Nat.reduceEqDiff, Nat.reduceAdd, Nat.reduceMul, Nat.reduceSub, Nat.reduceLeDiff, Nat.reduceLT, Nat.reducePow, reduceCtorEq, Int.reduceToNat, Int.reduceLT, Int.reduceLE, Int.reduceEq, Int.reduceAdd, Int.reduceSub, Int.reduceMul, Int.reduceNeg, Int.reduceTMod, Int.reduceTDiv, List.replicate_zero, List.replicate_succ]
            refine wfork_intro (fun h4 => ?_) (fun h4 => ?_)
            · have h4 : j < ql.length := by simp at h4; omega
              have hgj : ql[j]? = some ql[j] := List.getElem?_eq_getElem h4
              obtain ⟨q1, q2, q3⟩ := hid1 _ (List.getElem_mem h4)
              have hhas := has35 (over ++ [r.id]) ql[j].id hol
              rw [decide_eq_false q1] at hhas
              generalize ql[j] = q at *
              have q2 : decide (((n : Nat) : Int) < q.id) = false := decide_eq_false q2
              have q3 : decide (q.id < 1) = false := decide_eq_false q3
              repeat' first
                | simp -implicitDefEqProofs only [go_sem, ↓reduceIte, Nat.reduceEqDiff, Nat.reduceAdd, Nat.reduceMul, Nat.reduceSub, Nat.reduceLeDiff, Nat.reduceLT, Nat.reducePow, reduceCtorEq, Int.reduceToNat, Int.reduceLT, Int.reduceLE, Int.reduceEq, Int.reduceAdd, Int.reduceSub, Int.reduceMul, Int.reduceNeg, Int.reduceTMod, Int.reduceTDiv, List.replicate_zero, List.replicate_succ, rqs_get, hgj, q2, q3, Int.toNat_natCast, Int.natCast_nonneg]
                | refine wLend_lend ?_
                | (refine wCall_intro hhas ?_ ?_ ?_; rfl; decide)
                | refine Also.mk (by decide) ?_
                | apply And.intro
              refine ⟨⟨j + 1, by omega⟩, Wk.sub (by simp -implicitDefEqProofs only [go_sem, ↓reduceIte, Nat.reduceEqDiff, Nat.reduceAdd, Nat.reduceMul, Nat.reduceSub, Nat.reduceLeDiff, Nat.reduceLT, Nat.reducePow, reduceCtorEq, Int.reduceToNat, Int.reduceLT, Int.reduceLE, Int.reduceEq, Int.reduceAdd, Int.reduceSub, Int.reduceMul, Int.reduceNeg, Int.reduceTMod, Int.reduceTDiv, List.replicate_zero, List.replicate_succ, ctr (show j ≤ 1000000 by omega)]) (by simp -implicitDefEqProofs only [go_sem, ↓reduceIte, Nat.reduceEqDiff, Nat.reduceAdd, Nat.reduceMul, Nat.reduceSub, Nat.reduceLeDiff, Nat.reduceLT, Nat.reducePow, reduceCtorEq, Int.reduceToNat, Int.reduceLT, Int.reduceLE, Int.reduceEq, Int.reduceAdd, Int.reduceSub, Int.reduceMul, Int.reduceNeg, Int.reduceTMod, Int.reduceTDiv, List.replicate_zero, List.replicate_succ]) (by decide) (by decide) (by simp -implicitDefEqProofs only [go_sem, ↓reduceIte, Nat.reduceEqDiff, Nat.reduceAdd, Nat.reduceMul, Nat.reduceSub, Nat.reduceLeDiff, Nat.reduceLT, Nat.reducePow, reduceCtorEq, Int.reduceToNat, Int.reduceLT, Int.reduceLE, Int.reduceEq, Int.reduceAdd, Int.reduceSub, Int.reduceMul, Int.reduceNeg, Int.reduceTMod, Int.reduceTDiv, List.replicate_zero, List.replicate_succ]) (by simp -implicitDefEqProofs only [go_sem, ↓reduceIte, Nat.reduceEqDiff, Nat.reduceAdd, Nat.reduceMul, Nat.reduceSub, Nat.reduceLeDiff, Nat.reduceLT, Nat.reducePow, reduceCtorEq, Int.reduceToNat, Int.reduceLT, Int.reduceLE, Int.reduceEq, Int.reduceAdd, Int.reduceSub, Int.reduceMul, Int.reduceNeg, Int.reduceTMod, Int.reduceTDiv, List.replicate_zero, List.replicate_succ]), by dsimp only; omega⟩
            · simp -implicitDefEqProofs only [go_sem, ↓reduceIte, Nat.reduceEqDiff, Nat.reduceAdd, Nat.reduceMul, Nat.reduceSub, Nat.reduceLeDiff, Nat.reduceLT, Nat.reducePow, reduceCtorEq, Int.reduceToNat, Int.reduceLT, Int.reduceLE, Int.reduceEq, Int.reduceAdd, Int.reduceSub, Int.reduceMul, Int.reduceNeg, Int.reduceTMod, Int.reduceTDiv, List.replicate_zero, List.replicate_succ]
              refine ⟨⟨(k + 1, y, n, over ++ [r.id]), by dsimp only; omega, by dsimp only; omega, hsm, hinv, by dsimp only; omega, hO', by dsimp only; simp only [List.length_append, List.length_cons, List.length_nil]; omega⟩, Wk.sub (by simp -implicitDefEqProofs only [go_sem, ↓reduceIte, Nat.reduceEqDiff, Nat.reduceAdd, Nat.reduceMul, Nat.reduceSub, Nat.reduceLeDiff, Nat.reduceLT, Nat.reducePow, reduceCtorEq, Int.reduceToNat, Int.reduceLT, Int.reduceLE, Int.reduceEq, Int.reduceAdd, Int.reduceSub, Int.reduceMul, Int.reduceNeg, Int.reduceTMod, Int.reduceTDiv, List.replicate_zero, List.replicate_succ, ctr (show k ≤ 1000000 by omega)]) (by simp -implicitDefEqProofs only [go_sem, ↓reduceIte, Nat.reduceEqDiff, Nat.reduceAdd, Nat.reduceMul, Nat.reduceSub, Nat.reduceLeDiff, Nat.reduceLT, Nat.reducePow, reduceCtorEq, Int.reduceToNat, Int.reduceLT, Int.reduceLE, Int.reduceEq, Int.reduceAdd, Int.reduceSub, Int.reduceMul, Int.reduceNeg, Int.reduceTMod, Int.reduceTDiv, List.replicate_zero, List.replicate_succ]) (by decide) (by decide) (by simp -implicitDefEqProofs only [go_sem, ↓reduceIte, Nat.reduceEqDiff, Nat.reduceAdd, Nat.reduceMul, Nat.reduceSub, Nat.reduceLeDiff, Nat.reduceLT, Nat.reducePow, reduceCtorEq, Int.reduceToNat, Int.reduceLT, Int.reduceLE, Int.reduceEq, Int.reduceAdd, Int.reduceSub, Int.reduceMul, Int.reduceNeg, Int.reduceTMod, Int.reduceTDiv, List.replicate_zero, List.replicate_succ]) (by simp -implicitDefEqProofs only [go_sem, ↓reduceIte, Nat.reduceEqDiff, Nat.reduceAdd, Nat.reduceMul, Nat.reduceSub, Nat.reduceLeDiff, Nat.reduceLT, Nat.reducePow, reduceCtorEq, Int.reduceToNat, Int.reduceLT, Int.reduceLE, Int.reduceEq, Int.reduceAdd, Int.reduceSub, Int.reduceMul, Int.reduceNeg, Int.reduceTMod, Int.reduceTDiv, List.replicate_zero, List.replicate_succ]), by dsimp only; omega⟩
        · have g3 : (r.kind = 3) = False := by simp [k3]
          rw [overN, if_neg k3] at hO2
          by_cases k5 : r.kind = 5
          · have g5 : (r.kind = 5) = True := by simp [k5]
            rw [if_pos k5] at hO2
            have hO2 : Over y n (ovr over n) := hO2
            repeat' first
              | simp -implicitDefEqProofs only [go_sem, ↓reduceIte, Nat.reduceEqDiff, Nat.reduceAdd, Nat.reduceMul, Nat.reduceSub, Nat.reduceLeDiff, Nat.reduceLT, Nat.reducePow, reduceCtorEq, Int.reduceToNat, Int.reduceLT, Int.reduceLE, Int.reduceEq, Int.reduceAdd, Int.reduceSub, Int.reduceMul, Int.reduceNeg, Int.reduceTMod, Int.reduceTDiv, List.replicate_zero, List.replicate_succ, chs_get, hg, Int.toNat_natCast, Int.natCast_nonneg, g2, g3, g5]
              | (refine wCall_intro hs ?_ ?_ ?_; rfl; decide)
              | refine Also.mk (by decide) ?_
            refine wT_loop (fun i : { i : Nat // i ≤ n } => ⟨[(0, .c (.d (.sl 4 (chs l)))), (3, .c (.ptr 8 0)), (4, .c (.d (.int .i64 (n : Nat)))), (5, .c (.ref 28 (ovr over i.1).length 0 (ovr over i.1).length)), (6, .c (.d (.int .i64 (k : Nat)))), (10, .c (.d (.int .i64 ((i.1 : Nat) + 1))))],
              [(8, .box [.d (.bool y.run), .d (.bool y.stp), .d (.sl 4 (stps y.plan.steps)), .d (.sl 1 (afts y.plan.after)), .d (.sl 3 (trs y.tries)), .d (.int .i64 y.next)]), (28, .sl 1 (nums (ovr over i.1)) false)], 29⟩) (fun i => n - i.1) ⟨0, Nat.zero_le _⟩ ?_ ?_
            · refine Wk.sub ?_ ?_ (by decide) (by decide) ?_ ?_
              all_goals simp -implicitDefEqProofs only [go_sem, ↓reduceIte, Nat.reduceEqDiff, Nat.reduceAdd, Nat.reduceMul, Nat.reduceSub, Nat.reduceLeDiff, Nat.reduceLT, Nat.reducePow, reduceCtorEq, Int.reduceToNat, Int.reduceLT, Int.reduceLE, Int.reduceEq, Int.reduceAdd, Int.reduceSub, Int.reduceMul, Int.reduceNeg, Int.reduceTMod, Int.reduceTDiv, List.replicate_zero, List.replicate_succ, Int.natCast_zero, Int.zero_add, ovr_zero]
            · rintro ⟨i, hi⟩
              try dsimp only at hi
              refine wT_of TryEnv ?_
              simp -implicitDefEqProofs only [go_sem, ↓reduceIte, Nat.reduceEqDiff, Nat.reduceAdd, Nat.reduceMul, Nat.reduceSub, Nat.reduceLeDiff, Nat.reduceLT, Nat.reducePow, reduceCtorEq, Int.reduceToNat, Int.reduceLT, Int.reduceLE, Int.reduceEq, Int.reduceAdd, Int.reduceSub, Int.reduceMul, Int.reduceNeg, Int.reduceTMod, Int.reduceTDiv, List.replicate_zero, List.replicate_succ]
              refine wfork_intro (fun h4 => ?_) (fun h4 => ?_)
              · have h4 : i < n := by simp at h4; omega
                have hbi : ((ovr over i).length + 1) * 8 ≤ mostBytes := by rw [ovr_len]; simp only [mostBytes]; omega
                have hsi := ovr_succ over i
                have hwi : IntKind.i64.wrap ((i : Int) + 1 + 1) = ((i + 1 : Nat) : Int) + 1 := by rw [wrap64 (by omega) (by omega)]; omega
                repeat' first
                  | simp -implicitDefEqProofs only [go_sem, ↓reduceIte, Nat.reduceEqDiff, Nat.reduceAdd, Nat.reduceMul, Nat.reduceSub, Nat.reduceLeDiff, Nat.reduceLT, Nat.reducePow, reduceCtorEq, Int.reduceToNat, Int.reduceLT, Int.reduceLE, Int.reduceEq, Int.reduceAdd, Int.reduceSub, Int.reduceMul, Int.reduceNeg, Int.reduceTMod, Int.reduceTDiv, List.replicate_zero, List.replicate_succ, hbi, hwi]
                  | refine Also.mk (by decide) ?_
                  | apply And.intro
                refine ⟨⟨i + 1, by omega⟩, Wk.sub (by simp -implicitDefEqProofs only [go_sem, ↓reduceIte, Nat.reduceEqDiff, Nat.reduceAdd, Nat.reduceMul, Nat.reduceSub, Nat.reduceLeDiff, Nat.reduceLT, Nat.reducePow, reduceCtorEq, Int.reduceToNat, Int.reduceLT, Int.reduceLE, Int.reduceEq, Int.reduceAdd, Int.reduceSub, Int.reduceMul, Int.reduceNeg, Int.reduceTMod, Int.reduceTDiv, List.replicate_zero, List.replicate_succ, hsi, List.length_append, hwi]) (by simp -implicitDefEqProofs only [go_sem, ↓reduceIte, Nat.reduceEqDiff, Nat.reduceAdd, Nat.reduceMul, Nat.reduceSub, Nat.reduceLeDiff, Nat.reduceLT, Nat.reducePow, reduceCtorEq, Int.reduceToNat, Int.reduceLT, Int.reduceLE, Int.reduceEq, Int.reduceAdd, Int.reduceSub, Int.reduceMul, Int.reduceNeg, Int.reduceTMod, Int.reduceTDiv, List.replicate_zero, List.replicate_succ, hsi]) (by decide) (by decide) (by simp -implicitDefEqProofs only [go_sem, ↓reduceIte, Nat.reduceEqDiff, Nat.reduceAdd, Nat.reduceMul, Nat.reduceSub, Nat.reduceLeDiff, Nat.reduceLT, Nat.reducePow, reduceCtorEq, Int.reduceToNat, Int.reduceLT, Int.reduceLE, Int.reduceEq, Int.reduceAdd, Int.reduceSub, Int.reduceMul, Int.reduceNeg, Int.reduceTMod, Int.reduceTDiv, List.replicate_zero, List.replicate_succ]) (by simp -implicitDefEqProofs only [go_sem, ↓reduceIte, Nat.reduceEqDiff, Nat.reduceAdd, Nat.reduceMul, Nat.reduceSub, Nat.reduceLeDiff, Nat.reduceLT, Nat.reducePow, reduceCtorEq, Int.reduceToNat, Int.reduceLT, Int.reduceLE, Int.reduceEq, Int.reduceAdd, Int.reduceSub, Int.reduceMul, Int.reduceNeg, Int.reduceTMod, Int.reduceTDiv, List.replicate_zero, List.replicate_succ]), by dsimp only; omega⟩
              · have h4 : i = n := by simp at h4; omega
                subst h4
                have hO' := hO2
                have hol : ((ovr over i).length) ≤ 1000000 := by rw [ovr_len]; omega
                have hid1 : ∀ q ∈ openN y, ¬ q.id ∈ (ovr over i) ∧ ¬ ((i : Nat) : Int) < q.id ∧ ¬ q.id < 1 := fun q hq => by
                  obtain ⟨i, hi, ho, e⟩ := openN_mem hq
                  have h1 := hinv.ids _ (getD_mem hi .zero)
                  have h2 := (openT_id ho).1
                  refine ⟨by rw [e]; exact hO'.not_in i hi ho, by omega, by omega⟩
                have hqll : (openN y).length ≤ 1000000 := by
                  have : (openL y).length ≤ 1000000 := readyL_len y hsm _
                  rw [openN, List.length_map]
                  exact this
                generalize openN y = ql at *
                repeat' first
                  | simp -implicitDefEqProofs only [go_sem, ↓reduceIte, Nat.reduceEqDiff, Nat.reduceAdd, Nat.reduceMul, Nat.reduceSub, Nat.reduceLeDiff, Nat.reduceLT, Nat.reducePow, reduceCtorEq, Int.reduceToNat, Int.reduceLT, Int.reduceLE, Int.reduceEq, Int.reduceAdd, Int.reduceSub, Int.reduceMul, Int.reduceNeg, Int.reduceTMod, Int.reduceTDiv, List.replicate_zero, List.replicate_succ, chs_get, hg, Int.toNat_natCast, Int.natCast_nonneg, g2, g3, g5]
                  | (refine wCall_intro hopen ?_ ?_ ?_; rfl; decide)
                  | refine Also.mk (by decide) ?_
                refine wT_loop (fun j : { j : Nat // j ≤ ql.length } => ⟨[(0, .c (.d (.sl 4 (chs l)))), (3, .c (.ptr 8 0)), (4, .c (.d (.int .i64 (i : Nat)))), (5, .c (.ref 28 (ovr over i).length 0 (ovr over i).length)), (6, .c (.d (.int .i64 (k : Nat)))), (11, .c (.d (.sl 6 (rqs ql)))), (12, .c (.d (.int .i64 (j.1 : Nat))))],
                  [(8, .box [.d (.bool y.run), .d (.bool y.stp), .d (.sl 4 (stps y.plan.steps)), .d (.sl 1 (afts y.plan.after)), .d (.sl 3 (trs y.tries)), .d (.int .i64 y.next)]), (28, .sl 1 (nums (ovr over i)) false)], 29⟩) (fun j => ql.length - j.1) ⟨0, Nat.zero_le _⟩ ?_ ?_
                · refine Wk.sub ?_ ?_ (by decide) (by decide) ?_ ?_
                  all_goals simp -implicitDefEqProofs only [go_sem, ↓reduceIte, Nat.reduceEqDiff, Nat.reduceAdd, Nat.reduceMul, Nat.reduceSub, Nat.reduceLeDiff, Nat.reduceLT, Nat.reducePow, reduceCtorEq, Int.reduceToNat, Int.reduceLT, Int.reduceLE, Int.reduceEq, Int.reduceAdd, Int.reduceSub, Int.reduceMul, Int.reduceNeg, Int.reduceTMod, Int.reduceTDiv, List.replicate_zero, List.replicate_succ, Int.natCast_zero, nums_nil]
                · rintro ⟨j, hj⟩
                  try dsimp only at hj
                  refine wT_of TryEnv ?_
                  simp -implicitDefEqProofs only [go_sem, ↓reduceIte, Nat.reduceEqDiff, Nat.reduceAdd, Nat.reduceMul, Nat.reduceSub, Nat.reduceLeDiff, Nat.reduceLT, Nat.reducePow, reduceCtorEq, Int.reduceToNat, Int.reduceLT, Int.reduceLE, Int.reduceEq, Int.reduceAdd, Int.reduceSub, Int.reduceMul, Int.reduceNeg, Int.reduceTMod, Int.reduceTDiv, List.replicate_zero, List.replicate_succ]
                  refine wfork_intro (fun h4 => ?_) (fun h4 => ?_)
                  · have h4 : j < ql.length := by simp at h4; omega
                    have hgj : ql[j]? = some ql[j] := List.getElem?_eq_getElem h4
                    obtain ⟨q1, q2, q3⟩ := hid1 _ (List.getElem_mem h4)
                    have hhas := has35 (ovr over i) ql[j].id hol
                    rw [decide_eq_false q1] at hhas
                    generalize ql[j] = q at *
                    have q2 : decide (((i : Nat) : Int) < q.id) = false := decide_eq_false q2
                    have q3 : decide (q.id < 1) = false := decide_eq_false q3
                    repeat' first
                      | simp -implicitDefEqProofs only [go_sem, ↓reduceIte, Nat.reduceEqDiff, Nat.reduceAdd, Nat.reduceMul, Nat.reduceSub, Nat.reduceLeDiff, Nat.reduceLT, Nat.reducePow, reduceCtorEq, Int.reduceToNat, Int.reduceLT, Int.reduceLE, Int.reduceEq, Int.reduceAdd, Int.reduceSub, Int.reduceMul, Int.reduceNeg, Int.reduceTMod, Int.reduceTDiv, List.replicate_zero, List.replicate_succ, rqs_get, hgj, q2, q3, Int.toNat_natCast, Int.natCast_nonneg]
                      | refine wLend_lend ?_
                      | (refine wCall_intro hhas ?_ ?_ ?_; rfl; decide)
                      | refine Also.mk (by decide) ?_
                      | apply And.intro
                    refine ⟨⟨j + 1, by omega⟩, Wk.sub (by simp -implicitDefEqProofs only [go_sem, ↓reduceIte, Nat.reduceEqDiff, Nat.reduceAdd, Nat.reduceMul, Nat.reduceSub, Nat.reduceLeDiff, Nat.reduceLT, Nat.reducePow, reduceCtorEq, Int.reduceToNat, Int.reduceLT, Int.reduceLE, Int.reduceEq, Int.reduceAdd, Int.reduceSub, Int.reduceMul, Int.reduceNeg, Int.reduceTMod, Int.reduceTDiv, List.replicate_zero, List.replicate_succ, ctr (show j ≤ 1000000 by omega)]) (by simp -implicitDefEqProofs only [go_sem, ↓reduceIte, Nat.reduceEqDiff, Nat.reduceAdd, Nat.reduceMul, Nat.reduceSub, Nat.reduceLeDiff, Nat.reduceLT, Nat.reducePow, reduceCtorEq, Int.reduceToNat, Int.reduceLT, Int.reduceLE, Int.reduceEq, Int.reduceAdd, Int.reduceSub, Int.reduceMul, Int.reduceNeg, Int.reduceTMod, Int.reduceTDiv, List.replicate_zero, List.replicate_succ]) (by decide) (by decide) (by simp -implicitDefEqProofs only [go_sem, ↓reduceIte, Nat.reduceEqDiff, Nat.reduceAdd, Nat.reduceMul, Nat.reduceSub, Nat.reduceLeDiff, Nat.reduceLT, Nat.reducePow, reduceCtorEq, Int.reduceToNat, Int.reduceLT, Int.reduceLE, Int.reduceEq, Int.reduceAdd, Int.reduceSub, Int.reduceMul, Int.reduceNeg, Int.reduceTMod, Int.reduceTDiv, List.replicate_zero, List.replicate_succ]) (by simp -implicitDefEqProofs only [go_sem, ↓reduceIte, Nat.reduceEqDiff, Nat.reduceAdd, Nat.reduceMul, Nat.reduceSub, Nat.reduceLeDiff, Nat.reduceLT, Nat.reducePow, reduceCtorEq, Int.reduceToNat, Int.reduceLT, Int.reduceLE, Int.reduceEq, Int.reduceAdd, Int.reduceSub, Int.reduceMul, Int.reduceNeg, Int.reduceTMod, Int.reduceTDiv, List.replicate_zero, List.replicate_succ]), by dsimp only; omega⟩
                  · simp -implicitDefEqProofs only [go_sem, ↓reduceIte, Nat.reduceEqDiff, Nat.reduceAdd, Nat.reduceMul, Nat.reduceSub, Nat.reduceLeDiff, Nat.reduceLT, Nat.reducePow, reduceCtorEq, Int.reduceToNat, Int.reduceLT, Int.reduceLE, Int.reduceEq, Int.reduceAdd, Int.reduceSub, Int.reduceMul, Int.reduceNeg, Int.reduceTMod, Int.reduceTDiv, List.replicate_zero, List.replicate_succ]
                    refine ⟨⟨(k + 1, y, i, ovr over i), by dsimp only; omega, by dsimp only; omega, hsm, hinv, by dsimp only; omega, hO', by dsimp only; rw [ovr_len]; omega⟩, Wk.sub (by simp -implicitDefEqProofs only [go_sem, ↓reduceIte, Nat.reduceEqDiff, Nat.reduceAdd, Nat.reduceMul, Nat.reduceSub, Nat.reduceLeDiff, Nat.reduceLT, Nat.reducePow, reduceCtorEq, Int.reduceToNat, Int.reduceLT, Int.reduceLE, Int.reduceEq, Int.reduceAdd, Int.reduceSub, Int.reduceMul, Int.reduceNeg, Int.reduceTMod, Int.reduceTDiv, List.replicate_zero, List.replicate_succ, ctr (show k ≤ 1000000 by omega)]) (by simp -implicitDefEqProofs only [go_sem, ↓reduceIte, Nat.reduceEqDiff, Nat.reduceAdd, Nat.reduceMul, Nat.reduceSub, Nat.reduceLeDiff, Nat.reduceLT, Nat.reducePow, reduceCtorEq, Int.reduceToNat, Int.reduceLT, Int.reduceLE, Int.reduceEq, Int.reduceAdd, Int.reduceSub, Int.reduceMul, Int.reduceNeg, Int.reduceTMod, Int.reduceTDiv, List.replicate_zero, List.replicate_succ]) (by decide) (by decide) (by simp -implicitDefEqProofs only [go_sem, ↓reduceIte, Nat.reduceEqDiff, Nat.reduceAdd, Nat.reduceMul, Nat.reduceSub, Nat.reduceLeDiff, Nat.reduceLT, Nat.reducePow, reduceCtorEq, Int.reduceToNat, Int.reduceLT, Int.reduceLE, Int.reduceEq, Int.reduceAdd, Int.reduceSub, Int.reduceMul, Int.reduceNeg, Int.reduceTMod, Int.reduceTDiv, List.replicate_zero, List.replicate_succ]) (by simp -implicitDefEqProofs only [go_sem, ↓reduceIte, Nat.reduceEqDiff, Nat.reduceAdd, Nat.reduceMul, Nat.reduceSub, Nat.reduceLeDiff, Nat.reduceLT, Nat.reducePow, reduceCtorEq, Int.reduceToNat, Int.reduceLT, Int.reduceLE, Int.reduceEq, Int.reduceAdd, Int.reduceSub, Int.reduceMul, Int.reduceNeg, Int.reduceTMod, Int.reduceTDiv, List.replicate_zero, List.replicate_succ]), by dsimp only; omega⟩
          · have g5 : (r.kind = 5) = False := by simp [k5]
            rw [if_neg k5] at hO2
            have hO' := hO2
            have hol : ((over).length) ≤ 1000000 := by omega
            have hid1 : ∀ q ∈ openN y, ¬ q.id ∈ (over) ∧ ¬ ((n : Nat) : Int) < q.id ∧ ¬ q.id < 1 := fun q hq => by
              obtain ⟨i, hi, ho, e⟩ := openN_mem hq
              have h1 := hinv.ids _ (getD_mem hi .zero)
              have h2 := (openT_id ho).1
              refine ⟨by rw [e]; exact hO'.not_in i hi ho, by omega, by omega⟩
            have hqll : (openN y).length ≤ 1000000 := by
              have : (openL y).length ≤ 1000000 := readyL_len y hsm _
              rw [openN, List.length_map]
              exact this
            generalize openN y = ql at *
            repeat' first
              | simp -implicitDefEqProofs only [go_sem, ↓reduceIte, Nat.reduceEqDiff, Nat.reduceAdd, Nat.reduceMul, Nat.reduceSub, Nat.reduceLeDiff, Nat.reduceLT, Nat.reducePow, reduceCtorEq, Int.reduceToNat, Int.reduceLT, Int.reduceLE, Int.reduceEq, Int.reduceAdd, Int.reduceSub, Int.reduceMul, Int.reduceNeg, Int.reduceTMod, Int.reduceTDiv, List.replicate_zero, List.replicate_succ, chs_get, hg, Int.toNat_natCast, Int.natCast_nonneg, g2, g3, g5]
              | (refine wCall_intro hs ?_ ?_ ?_; rfl; decide)
              | (refine wCall_intro hopen ?_ ?_ ?_; rfl; decide)
              | refine Also.mk (by decide) ?_
            refine wT_loop (fun j : { j : Nat // j ≤ ql.length } => ⟨[(0, .c (.d (.sl 4 (chs l)))), (3, .c (.ptr 8 0)), (4, .c (.d (.int .i64 (n : Nat)))), (5, .c (.ref 28 (over).length 0 (over).length)), (6, .c (.d (.int .i64 (k : Nat)))), (11, .c (.d (.sl 6 (rqs ql)))), (12, .c (.d (.int .i64 (j.1 : Nat))))],
              [(8, .box [.d (.bool y.run), .d (.bool y.stp), .d (.sl 4 (stps y.plan.steps)), .d (.sl 1 (afts y.plan.after)), .d (.sl 3 (trs y.tries)), .d (.int .i64 y.next)]), (28, .sl 1 (nums (over)) false)], 29⟩) (fun j => ql.length - j.1) ⟨0, Nat.zero_le _⟩ ?_ ?_
            · refine Wk.sub ?_ ?_ (by decide) (by decide) ?_ ?_
              all_goals simp -implicitDefEqProofs only [go_sem, ↓reduceIte, Nat.reduceEqDiff, Nat.reduceAdd, Nat.reduceMul, Nat.reduceSub, Nat.reduceLeDiff, Nat.reduceLT, Nat.reducePow, reduceCtorEq, Int.reduceToNat, Int.reduceLT, Int.reduceLE, Int.reduceEq, Int.reduceAdd, Int.reduceSub, Int.reduceMul, Int.reduceNeg, Int.reduceTMod, Int.reduceTDiv, List.replicate_zero, List.replicate_succ, Int.natCast_zero, nums_nil]
            · rintro ⟨j, hj⟩
              try dsimp only at hj
              refine wT_of TryEnv ?_
              simp -implicitDefEqProofs only [go_sem, ↓reduceIte, Nat.reduceEqDiff, Nat.reduceAdd, Nat.reduceMul, Nat.reduceSub, Nat.reduceLeDiff, Nat.reduceLT, Nat.reducePow, reduceCtorEq, Int.reduceToNat, Int.reduceLT, Int.reduceLE, Int.reduceEq, Int.reduceAdd, Int.reduceSub, Int.reduceMul, Int.reduceNeg, Int.reduceTMod, Int.reduceTDiv, List.replicate_zero, List.replicate_succ]
              refine wfork_intro (fun h4 => ?_) (fun h4 => ?_)
              · have h4 : j < ql.length := by simp at h4; omega
                have hgj : ql[j]? = some ql[j] := List.getElem?_eq_getElem h4
                obtain ⟨q1, q2, q3⟩ := hid1 _ (List.getElem_mem h4)
                have hhas := has35 (over) ql[j].id hol
                rw [decide_eq_false q1] at hhas
                generalize ql[j] = q at *
                have q2 : decide (((n : Nat) : Int) < q.id) = false := decide_eq_false q2
                have q3 : decide (q.id < 1) = false := decide_eq_false q3
                repeat' first
                  | simp -implicitDefEqProofs only [go_sem, ↓reduceIte, Nat.reduceEqDiff, Nat.reduceAdd, Nat.reduceMul, Nat.reduceSub, Nat.reduceLeDiff, Nat.reduceLT, Nat.reducePow, reduceCtorEq, Int.reduceToNat, Int.reduceLT, Int.reduceLE, Int.reduceEq, Int.reduceAdd, Int.reduceSub, Int.reduceMul, Int.reduceNeg, Int.reduceTMod, Int.reduceTDiv, List.replicate_zero, List.replicate_succ, rqs_get, hgj, q2, q3, Int.toNat_natCast, Int.natCast_nonneg]
                  | refine wLend_lend ?_
                  | (refine wCall_intro hhas ?_ ?_ ?_; rfl; decide)
                  | refine Also.mk (by decide) ?_
                  | apply And.intro
                refine ⟨⟨j + 1, by omega⟩, Wk.sub (by simp -implicitDefEqProofs only [go_sem, ↓reduceIte, Nat.reduceEqDiff, Nat.reduceAdd, Nat.reduceMul, Nat.reduceSub, Nat.reduceLeDiff, Nat.reduceLT, Nat.reducePow, reduceCtorEq, Int.reduceToNat, Int.reduceLT, Int.reduceLE, Int.reduceEq, Int.reduceAdd, Int.reduceSub, Int.reduceMul, Int.reduceNeg, Int.reduceTMod, Int.reduceTDiv, List.replicate_zero, List.replicate_succ, ctr (show j ≤ 1000000 by omega)]) (by simp -implicitDefEqProofs only [go_sem, ↓reduceIte, Nat.reduceEqDiff, Nat.reduceAdd, Nat.reduceMul, Nat.reduceSub, Nat.reduceLeDiff, Nat.reduceLT, Nat.reducePow, reduceCtorEq, Int.reduceToNat, Int.reduceLT, Int.reduceLE, Int.reduceEq, Int.reduceAdd, Int.reduceSub, Int.reduceMul, Int.reduceNeg, Int.reduceTMod, Int.reduceTDiv, List.replicate_zero, List.replicate_succ]) (by decide) (by decide) (by simp -implicitDefEqProofs only [go_sem, ↓reduceIte, Nat.reduceEqDiff, Nat.reduceAdd, Nat.reduceMul, Nat.reduceSub, Nat.reduceLeDiff, Nat.reduceLT, Nat.reducePow, reduceCtorEq, Int.reduceToNat, Int.reduceLT, Int.reduceLE, Int.reduceEq, Int.reduceAdd, Int.reduceSub, Int.reduceMul, Int.reduceNeg, Int.reduceTMod, Int.reduceTDiv, List.replicate_zero, List.replicate_succ]) (by simp -implicitDefEqProofs only [go_sem, ↓reduceIte, Nat.reduceEqDiff, Nat.reduceAdd, Nat.reduceMul, Nat.reduceSub, Nat.reduceLeDiff, Nat.reduceLT, Nat.reducePow, reduceCtorEq, Int.reduceToNat, Int.reduceLT, Int.reduceLE, Int.reduceEq, Int.reduceAdd, Int.reduceSub, Int.reduceMul, Int.reduceNeg, Int.reduceTMod, Int.reduceTDiv, List.replicate_zero, List.replicate_succ]), by dsimp only; omega⟩
              · simp -implicitDefEqProofs only [go_sem, ↓reduceIte, Nat.reduceEqDiff, Nat.reduceAdd, Nat.reduceMul, Nat.reduceSub, Nat.reduceLeDiff, Nat.reduceLT, Nat.reducePow, reduceCtorEq, Int.reduceToNat, Int.reduceLT, Int.reduceLE, Int.reduceEq, Int.reduceAdd, Int.reduceSub, Int.reduceMul, Int.reduceNeg, Int.reduceTMod, Int.reduceTDiv, List.replicate_zero, List.replicate_succ]
                refine ⟨⟨(k + 1, y, n, over), by dsimp only; omega, by dsimp only; omega, hsm, hinv, by dsimp only; omega, hO', by dsimp only; omega⟩, Wk.sub (by simp -implicitDefEqProofs only [go_sem, ↓reduceIte, Nat.reduceEqDiff, Nat.reduceAdd, Nat.reduceMul, Nat.reduceSub, Nat.reduceLeDiff, Nat.reduceLT, Nat.reducePow, reduceCtorEq, Int.reduceToNat, Int.reduceLT, Int.reduceLE, Int.reduceEq, Int.reduceAdd, Int.reduceSub, Int.reduceMul, Int.reduceNeg, Int.reduceTMod, Int.reduceTDiv, List.replicate_zero, List.replicate_succ, ctr (show k ≤ 1000000 by omega)]) (by simp -implicitDefEqProofs only [go_sem, ↓reduceIte, Nat.reduceEqDiff, Nat.reduceAdd, Nat.reduceMul, Nat.reduceSub, Nat.reduceLeDiff, Nat.reduceLT, Nat.reducePow, reduceCtorEq, Int.reduceToNat, Int.reduceLT, Int.reduceLE, Int.reduceEq, Int.reduceAdd, Int.reduceSub, Int.reduceMul, Int.reduceNeg, Int.reduceTMod, Int.reduceTDiv, List.replicate_zero, List.replicate_succ]) (by decide) (by decide) (by simp -implicitDefEqProofs only [go_sem, ↓reduceIte, Nat.reduceEqDiff, Nat.reduceAdd, Nat.reduceMul, Nat.reduceSub, Nat.reduceLeDiff, Nat.reduceLT, Nat.reducePow, reduceCtorEq, Int.reduceToNat, Int.reduceLT, Int.reduceLE, Int.reduceEq, Int.reduceAdd, Int.reduceSub, Int.reduceMul, Int.reduceNeg, Int.reduceTMod, Int.reduceTDiv, List.replicate_zero, List.replicate_succ]) (by simp -implicitDefEqProofs only [go_sem, ↓reduceIte, Nat.reduceEqDiff, Nat.reduceAdd, Nat.reduceMul, Nat.reduceSub, Nat.reduceLeDiff, Nat.reduceLT, Nat.reducePow, reduceCtorEq, Int.reduceToNat, Int.reduceLT, Int.reduceLE, Int.reduceEq, Int.reduceAdd, Int.reduceSub, Int.reduceMul, Int.reduceNeg, Int.reduceTMod, Int.reduceTDiv, List.replicate_zero, List.replicate_succ]), by dsimp only; omega⟩

end Go.Proofs.Ytbdodpippgakjaa
