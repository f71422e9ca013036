/- This text proves a part of what the claim needs: contracts of functions of the program. No condition. -/
import Derived.Test.YtbdodpippgakjaaY
set_option linter.unusedSimpArgs false
set_option linter.unusedVariables false

namespace Go.Proofs.Ytbdodpippgakjaa
open Go Go.Vs Go.Proofs
set_option maxRecDepth 20000

/-! ### ExecutorGoes -/

set_option maxHeartbeats 4000000 in
theorem lawGoes (l : List Ch) (hl : l.length ≤ 140737488351232) (hf : ∀ c ∈ l, c.fits) : Gives Try.prog 8 [.c (.sl 4 (chs l))] (.c (.d (.bool true))) [] := by
  have raw : ∀ x : Ex, x.small → Gives Try.prog 13 [.agg [.bool x.run, .bool x.stp, .sl 4 (stps x.plan.steps), .sl 1 (afts x.plan.after), .sl 3 (trs x.tries), .int .i64 x.next], .agg [.int .u8 5, .int .i64 0, .int .i64 0, .int .i64 0, .int .u8 0, .nilSl, .nilSl]] (.tup [.agg [.d (.bool ((nextN x endR).1).run), .d (.bool ((nextN x endR).1).stp), .d (.sl 4 (stps ((nextN x endR).1).plan.steps)), .d (.sl 1 (afts ((nextN x endR).1).plan.after)), .d (.sl 3 (trs ((nextN x endR).1).tries)), .d (.int .i64 ((nextN x endR).1).next)], .c (.d (.int .i64 (nextN x endR).2))]) [] := fun x hx =>
    (next13 x endR hx emptyP_small).args ⟨⟨.refl _, .refl _, .refl _, .refl _, .refl _, .refl _, trivial⟩, ⟨.refl _, .refl _, .refl _, .refl _, .refl _, .nil 4, .nil 1, trivial⟩, trivial⟩
  refine Gives.of_w TryEnv Try.func8 (by decide) TryL8_ok Try.ntmps8 (rs := [.tmp 2]) rfl (by simp) [] (by decide) ?_; rw [TryL8]
  repeat' first
    | simp -implicitDefEqProofs only [go_sem, ↓reduceIte, Nat.reduceEqDiff, Nat.reduceAdd, Nat.reduceMul, Nat.reduceSub, Nat.reduceLeDiff, Nat.reduceLT, Nat.reducePow, reduceCtorEq, Int.reduceToNat, Int.reduceLT, Int.reduceLE, Int.reduceEq, Int.reduceAdd, Int.reduceSub, Int.reduceMul, Int.reduceNeg, Int.reduceTMod, Int.reduceTDiv, List.replicate_zero, List.replicate_succ]
    | (refine wCall_intro first32 ?_ ?_ ?_; rfl; decide)
  refine wT_loop (fun k : { k : Nat × Ex × Nat // k.1 ≤ l.length ∧ k.1 ≤ 60 ∧ k.2.1.small ∧ Inv k.2.1 k.2.2 ∧ k.2.2 ≤ k.1 } => ⟨[(0, .c (.d (.sl 4 (chs l)))), (3, .c (.ptr 8 0)), (4, .c (.d (.int .i64 (k.1.1 : Nat))))],
    [(8, .box [.d (.bool k.1.2.1.run), .d (.bool k.1.2.1.stp), .d (.sl 4 (stps k.1.2.1.plan.steps)), .d (.sl 1 (afts k.1.2.1.plan.after)), .d (.sl 3 (trs k.1.2.1.tries)), .d (.int .i64 k.1.2.1.next)])], 9⟩) (fun k => l.length - k.1.1) ⟨(0, firstN, 0), Nat.zero_le _, Nat.zero_le _, firstN_small, firstN_inv, Nat.le_refl _⟩ ?_ ?_
  · refine Wk.sub ?_ ?_ (by decide) (by decide) ?_ ?_
    all_goals simp -implicitDefEqProofs only [go_sem, ↓reduceIte, Nat.reduceEqDiff, Nat.reduceAdd, Nat.reduceMul, Nat.reduceSub, Nat.reduceLeDiff, Nat.reduceLT, Nat.reducePow, reduceCtorEq, Int.reduceToNat, Int.reduceLT, Int.reduceLE, Int.reduceEq, Int.reduceAdd, Int.reduceSub, Int.reduceMul, Int.reduceNeg, Int.reduceTMod, Int.reduceTDiv, List.replicate_zero, List.replicate_succ, Int.natCast_zero]
  · rintro ⟨⟨k, x, n⟩, hk, hk60, hx, hI, hnk⟩
    dsimp only at hk hk60 hx hI hnk
    refine wT_of TryEnv ?_
    -- the second loop
    have second : ∀ σ : St, Wk 0 σ ⟨[(3, .c (.ptr 8 0)), (7, .c (.d (.int .i64 0)))], [(8, .box [.d (.bool x.run), .d (.bool x.stp), .d (.sl 4 (stps x.plan.steps)), .d (.sl 1 (afts x.plan.after)), .d (.sl 3 (trs x.tries)), .d (.int .i64 x.next)])], 9⟩ → True := fun _ _ => trivial
    repeat' first
      | simp -implicitDefEqProofs only [go_sem, ↓reduceIte, Nat.reduceEqDiff, Nat.reduceAdd, Nat.reduceMul, Nat.reduceSub, Nat.reduceLeDiff, Nat.reduceLT, Nat.reducePow, reduceCtorEq, Int.reduceToNat, Int.reduceLT, Int.reduceLE, Int.reduceEq, Int.reduceAdd, Int.reduceSub, Int.reduceMul, Int.reduceNeg, Int.reduceTMod, Int.reduceTDiv, List.replicate_zero, List.replicate_succ]
      | refine wfork_intro (fun h => ?_) (fun h => ?_)
    · rename_i h1
      have h1 : k < l.length := by simp at h1; omega
      have h2 : k < 60 := by simp at h; omega
      have hg : l[k]? = some l[k] := List.getElem?_eq_getElem h1
      have hc := hf _ (List.getElem_mem h1)
      generalize l[k] = c at *
      have hs := step34 x c hx hc
      have hsm := stepC_small (c := c) hx
      have hinv := (stepC_inv (c := c) hI (by omega)).1
      generalize hq : (n + if (stepC x c).2.2 = true ∧ (stepC x c).2.1.kind = 2 then 1 else 0) = m at hinv
      have hm : m ≤ k + 1 := by
        rw [← hq]
        split <;> omega
      clear hq
      generalize stepC x c = y at *
      obtain ⟨y, r, ok⟩ := y
      dsimp only at hs hsm hinv
      have hr := ready21 y hsm
      have ho := open24 y hsm
      have hE := raw y hsm
      have hfin : y.run = true → (readyL y).length = 0 → (openN y).length = 0 → (nextN y endR).2 = 0 := fun a b c => by
        have := end_ok hinv a c b
        rw [nextN, if_pos hinv.val, this]
      generalize readyL y = rl at *
      generalize openN y = ql at *
      generalize nextN y endR = z at *
      obtain ⟨z, e⟩ := z
      dsimp only at hE hfin
      repeat' first
        | simp -implicitDefEqProofs only [go_sem, ↓reduceIte, Nat.reduceEqDiff, Nat.reduceAdd, Nat.reduceMul, Nat.reduceSub, Nat.reduceLeDiff, Nat.reduceLT, Nat.reducePow, reduceCtorEq, Int.reduceToNat, Int.reduceLT, Int.reduceLE, Int.reduceEq, Int.reduceAdd, Int.reduceSub, Int.reduceMul, Int.reduceNeg, Int.reduceTMod, Int.reduceTDiv, List.replicate_zero, List.replicate_succ, chs_get, hg, Int.toNat_natCast, Int.natCast_nonneg]
        | (refine wCall_intro hs ?_ ?_ ?_; rfl; decide)
        | (refine wCall_intro hr ?_ ?_ ?_; rfl; decide)
        | (refine wCall_intro ho ?_ ?_ ?_; rfl; decide)
        | (refine wCall_intro hE ?_ ?_ ?_; rfl; decide)
        | refine Also.mk (by decide) ?_
        | refine wfork_intro (fun h => ?_) (fun h => ?_)
      all_goals first
        | (refine ⟨⟨(k + 1, y, m), by dsimp only; omega, by dsimp only; omega, hsm, hinv, hm⟩, Wk.sub (by simp -implicitDefEqProofs only [go_sem, ↓reduceIte, Nat.reduceEqDiff, Nat.reduceAdd, Nat.reduceMul, Nat.reduceSub, Nat.reduceLeDiff, Nat.reduceLT, Nat.reducePow, reduceCtorEq, Int.reduceToNat, Int.reduceLT, Int.reduceLE, Int.reduceEq, Int.reduceAdd, Int.reduceSub, Int.reduceMul, Int.reduceNeg, Int.reduceTMod, Int.reduceTDiv, List.replicate_zero, List.replicate_succ, ctr (show k ≤ 1000000 by omega)]) (by simp -implicitDefEqProofs only [go_sem, ↓reduceIte, Nat.reduceEqDiff, Nat.reduceAdd, Nat.reduceMul, Nat.reduceSub, Nat.reduceLeDiff, Nat.reduceLT, Nat.reducePow, reduceCtorEq, Int.reduceToNat, Int.reduceLT, Int.reduceLE, Int.reduceEq, Int.reduceAdd, Int.reduceSub, Int.reduceMul, Int.reduceNeg, Int.reduceTMod, Int.reduceTDiv, List.replicate_zero, List.replicate_succ]) (by decide) (by decide) (by simp -implicitDefEqProofs only [go_sem, ↓reduceIte, Nat.reduceEqDiff, Nat.reduceAdd, Nat.reduceMul, Nat.reduceSub, Nat.reduceLeDiff, Nat.reduceLT, Nat.reducePow, reduceCtorEq, Int.reduceToNat, Int.reduceLT, Int.reduceLE, Int.reduceEq, Int.reduceAdd, Int.reduceSub, Int.reduceMul, Int.reduceNeg, Int.reduceTMod, Int.reduceTDiv, List.replicate_zero, List.replicate_succ]) (by simp -implicitDefEqProofs only [go_sem, ↓reduceIte, Nat.reduceEqDiff, Nat.reduceAdd, Nat.reduceMul, Nat.reduceSub, Nat.reduceLeDiff, Nat.reduceLT, Nat.reducePow, reduceCtorEq, Int.reduceToNat, Int.reduceLT, Int.reduceLE, Int.reduceEq, Int.reduceAdd, Int.reduceSub, Int.reduceMul, Int.reduceNeg, Int.reduceTMod, Int.reduceTDiv, List.replicate_zero, List.replicate_succ]), by dsimp only; omega⟩)
        | (exfalso
           simp only [decide_eq_true_eq, Bool.not_eq_true', decide_eq_false_iff_not] at *
           simp_all)
    all_goals clear second
    all_goals
      refine wT_loop (fun k : { k : Nat × Ex × Nat // k.1 ≤ 40 ∧ k.2.1.small ∧ Inv k.2.1 k.2.2 ∧ k.2.2 ≤ 60 + k.1 ∧ left_ k.2.1 + k.1 ≤ 25 } => ⟨[(3, .c (.ptr 8 0)), (7, .c (.d (.int .i64 (k.1.1 : Nat))))],
        [(8, .box [.d (.bool k.1.2.1.run), .d (.bool k.1.2.1.stp), .d (.sl 4 (stps k.1.2.1.plan.steps)), .d (.sl 1 (afts k.1.2.1.plan.after)), .d (.sl 3 (trs k.1.2.1.tries)), .d (.int .i64 k.1.2.1.next)])], 9⟩) (fun k => 40 - k.1.1) ⟨(0, x, n), Nat.zero_le _, hx, hI, by dsimp only; omega, left_le hI⟩ ?_ ?_
    all_goals first
      | (refine Wk.sub ?_ ?_ (by decide) (by decide) ?_ ?_
         all_goals simp -implicitDefEqProofs only [go_sem, ↓reduceIte, Nat.reduceEqDiff, Nat.reduceAdd, Nat.reduceMul, Nat.reduceSub, Nat.reduceLeDiff, Nat.reduceLT, Nat.reducePow, reduceCtorEq, Int.reduceToNat, Int.reduceLT, Int.reduceLE, Int.reduceEq, Int.reduceAdd, Int.reduceSub, Int.reduceMul, Int.reduceNeg, Int.reduceTMod, Int.reduceTDiv, List.replicate_zero, List.replicate_succ, Int.natCast_zero]
         done)
      | skip
    all_goals clear hx hI hnk h
    all_goals
      rintro ⟨⟨k, x, n⟩, hk40, hx, hI, hnk, hleft⟩
      dsimp only at hk40 hx hI hnk hleft
      refine wT_of TryEnv ?_
      simp -implicitDefEqProofs only [go_sem, ↓reduceIte, Nat.reduceEqDiff, Nat.reduceAdd, Nat.reduceMul, Nat.reduceSub, Nat.reduceLeDiff, Nat.reduceLT, Nat.reducePow, reduceCtorEq, Int.reduceToNat, Int.reduceLT, Int.reduceLE, Int.reduceEq, Int.reduceAdd, Int.reduceSub, Int.reduceMul, Int.reduceNeg, Int.reduceTMod, Int.reduceTDiv, List.replicate_zero, List.replicate_succ]
      refine wfork_intro (fun h3 => ?_) (fun h3 => ?_)
      · have h3 : k < 40 := by simp at h3; omega
        simp -implicitDefEqProofs only [go_sem, ↓reduceIte, Nat.reduceEqDiff, Nat.reduceAdd, Nat.reduceMul, Nat.reduceSub, Nat.reduceLeDiff, Nat.reduceLT, Nat.reducePow, reduceCtorEq, Int.reduceToNat, Int.reduceLT, Int.reduceLE, Int.reduceEq, Int.reduceAdd, Int.reduceSub, Int.reduceMul, Int.reduceNeg, Int.reduceTMod, Int.reduceTDiv, List.replicate_zero, List.replicate_succ]
        refine wfork_intro (fun hrun => ?_) (fun hrun => ?_)
        · obtain ⟨y, he, hlt⟩ := go_ok hI (by omega) hrun
          have hN : nextN x (goR x) = (y, 0) := by rw [nextN, if_pos hI.val, he]
          have hys : y.small := effectN_small hx (goR_small x) he
          have hyi := (effectN_inv hI (by omega) he).1
          have hA : 0 < (openN x).length → nextN x (answerR ((openN x).getD 0 .zero).id 1) = (y, 0) := fun h => by rw [goR, if_pos h] at hN; exact hN
          have hB : ¬ 0 < (openN x).length → 0 < (readyL x).length → nextN x (intentR ((readyL x).getD 0 0) x.next 0) = (y, 0) := fun h h' => by rw [goR, if_neg h, if_pos h'] at hN; exact hN
          have hC : ¬ 0 < (openN x).length → ¬ 0 < (readyL x).length → nextN x endR = (y, 0) := fun h h' => by rw [goR, if_neg h, if_neg h'] at hN; exact hN
          have cA := next13 x (answerR ((openN x).getD 0 .zero).id 1) hx emptyP_small
          have cB := next13 x (intentR ((readyL x).getD 0 0) x.next 0) hx emptyP_small
          have cC := raw x hx
          have hr := ready21 x hx
          have ho := open24 x hx
          generalize hm : (n + if (goR x).kind = 2 then 1 else 0) = m at hyi
          have hm' : m ≤ 60 + (k + 1) := by
            rw [← hm]
            split <;> omega
          clear hm hN he
          generalize readyL x = rl at *
          generalize openN x = ql at *
          repeat' first
            | simp -implicitDefEqProofs only [go_sem, ↓reduceIte, Nat.reduceEqDiff, Nat.reduceAdd, Nat.reduceMul, Nat.reduceSub, Nat.reduceLeDiff, Nat.reduceLT, Nat.reducePow, reduceCtorEq, Int.reduceToNat, Int.reduceLT, Int.reduceLE, Int.reduceEq, Int.reduceAdd, Int.reduceSub, Int.reduceMul, Int.reduceNeg, Int.reduceTMod, Int.reduceTDiv, List.replicate_zero, List.replicate_succ, Int.natCast_pos]
            | (refine wCall_intro hr ?_ ?_ ?_; rfl; decide)
            | (refine wCall_intro ho ?_ ?_ ?_; rfl; decide)
            | (refine wCall_intro (intent36 _ _ _) ?_ ?_ ?_; rfl; decide)
            | (refine wCall_intro (answer37 _ _) ?_ ?_ ?_; rfl; decide)
            | refine Also.mk (by decide) ?_
            | refine wfork_intro (fun h => ?_) (fun h => ?_)
            | (rename decide (0 < rl.length) = true => hp
               have hgr : rl[0]? = some (rl.getD 0 0) := by rw [getD_of (of_decide_eq_true hp)]; exact List.getElem?_eq_getElem _
               simp -implicitDefEqProofs only [go_sem, ↓reduceIte, Nat.reduceEqDiff, Nat.reduceAdd, Nat.reduceMul, Nat.reduceSub, Nat.reduceLeDiff, Nat.reduceLT, Nat.reducePow, reduceCtorEq, Int.reduceToNat, Int.reduceLT, Int.reduceLE, Int.reduceEq, Int.reduceAdd, Int.reduceSub, Int.reduceMul, Int.reduceNeg, Int.reduceTMod, Int.reduceTDiv, List.replicate_zero, List.replicate_succ, Int.natCast_pos, nums_get, hgr])
            | (rename decide (0 < ql.length) = true => hp
               have hgr : ql[0]? = some (ql.getD 0 .zero) := by rw [getD_of (of_decide_eq_true hp)]; exact List.getElem?_eq_getElem _
               simp -implicitDefEqProofs only [go_sem, ↓reduceIte, Nat.reduceEqDiff, Nat.reduceAdd, Nat.reduceMul, Nat.reduceSub, Nat.reduceLeDiff, Nat.reduceLT, Nat.reducePow, reduceCtorEq, Int.reduceToNat, Int.reduceLT, Int.reduceLE, Int.reduceEq, Int.reduceAdd, Int.reduceSub, Int.reduceMul, Int.reduceNeg, Int.reduceTMod, Int.reduceTDiv, List.replicate_zero, List.replicate_succ, Int.natCast_pos, rqs_get, hgr])
            | (rename decide (0 < ql.length) = true => hp
               have c := cA
               rw [hA (of_decide_eq_true hp)] at c
               refine wCall_intro c ?_ ?_ ?_; rfl; decide)
            | (rename decide (0 < ql.length) = false => hp
               rename decide (0 < rl.length) = true => hq
               have c := cB
               rw [hB (of_decide_eq_false hp) (of_decide_eq_true hq)] at c
               refine wCall_intro c ?_ ?_ ?_; rfl; decide)
            | (rename decide (0 < ql.length) = false => hp
               rename decide (0 < rl.length) = false => hq
               have c := cC
               rw [hC (of_decide_eq_false hp) (of_decide_eq_false hq)] at c
               refine wCall_intro c ?_ ?_ ?_; rfl; decide)
          all_goals refine ⟨⟨(k + 1, y, m), by dsimp only; omega, hys, hyi, hm', by dsimp only; omega⟩, Wk.sub (by simp -implicitDefEqProofs only [go_sem, ↓reduceIte, Nat.reduceEqDiff, Nat.reduceAdd, Nat.reduceMul, Nat.reduceSub, Nat.reduceLeDiff, Nat.reduceLT, Nat.reducePow, reduceCtorEq, Int.reduceToNat, Int.reduceLT, Int.reduceLE, Int.reduceEq, Int.reduceAdd, Int.reduceSub, Int.reduceMul, Int.reduceNeg, Int.reduceTMod, Int.reduceTDiv, List.replicate_zero, List.replicate_succ, ctr (show k ≤ 1000000 by omega)]) (by simp -implicitDefEqProofs only [go_sem, ↓reduceIte, Nat.reduceEqDiff, Nat.reduceAdd, Nat.reduceMul, Nat.reduceSub, Nat.reduceLeDiff, Nat.reduceLT, Nat.reducePow, reduceCtorEq, Int.reduceToNat, Int.reduceLT, Int.reduceLE, Int.reduceEq, Int.reduceAdd, Int.reduceSub, Int.reduceMul, Int.reduceNeg, Int.reduceTMod, Int.reduceTDiv, List.replicate_zero, List.replicate_succ]) (by decide) (by decide) (by simp -implicitDefEqProofs only [go_sem, ↓reduceIte, Nat.reduceEqDiff, Nat.reduceAdd, Nat.reduceMul, Nat.reduceSub, Nat.reduceLeDiff, Nat.reduceLT, Nat.reducePow, reduceCtorEq, Int.reduceToNat, Int.reduceLT, Int.reduceLE, Int.reduceEq, Int.reduceAdd, Int.reduceSub, Int.reduceMul, Int.reduceNeg, Int.reduceTMod, Int.reduceTDiv, List.replicate_zero, List.replicate_succ]) (by simp -implicitDefEqProofs only [go_sem, ↓reduceIte, Nat.reduceEqDiff, Nat.reduceAdd, Nat.reduceMul, Nat.reduceSub, Nat.reduceLeDiff, Nat.reduceLT, Nat.reducePow, reduceCtorEq, Int.reduceToNat, Int.reduceLT, Int.reduceLE, Int.reduceEq, Int.reduceAdd, Int.reduceSub, Int.reduceMul, Int.reduceNeg, Int.reduceTMod, Int.reduceTDiv, List.replicate_zero, List.replicate_succ]), by dsimp only; omega⟩
        · obtain ⟨hset, hrest⟩ := hI.rest hrun
          have hc := complete28 x hx
          have hc' : (validN x && decide ((doneL x).length = x.tries.length)) = completeN x := rfl
          rw [hc'] at hc
          repeat' first
            | simp -implicitDefEqProofs only [go_sem, ↓reduceIte, Nat.reduceEqDiff, Nat.reduceAdd, Nat.reduceMul, Nat.reduceSub, Nat.reduceLeDiff, Nat.reduceLT, Nat.reducePow, reduceCtorEq, Int.reduceToNat, Int.reduceLT, Int.reduceLE, Int.reduceEq, Int.reduceAdd, Int.reduceSub, Int.reduceMul, Int.reduceNeg, Int.reduceTMod, Int.reduceTDiv, List.replicate_zero, List.replicate_succ]
            | refine wfork_intro (fun h => ?_) (fun h => ?_)
            | (refine wCall_intro hc ?_ ?_ ?_; rfl; decide)
            | (refine wCall_intro lives11 ?_ ?_ ?_; rfl; decide)
            | refine Also.mk (by decide) ?_
          all_goals exfalso
          all_goals simp_all
      · exfalso
        simp at h3
        omega
end Go.Proofs.Ytbdodpippgakjaa
