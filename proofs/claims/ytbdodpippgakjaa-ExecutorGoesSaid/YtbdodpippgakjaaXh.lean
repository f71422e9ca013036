/- This text proves a part of what the claim needs: contracts of functions of the program. No condition. -/
import Derived.Test.YtbdodpippgakjaaXe
set_option linter.unusedSimpArgs false
set_option linter.unusedVariables false

namespace Go.Proofs.Ytbdodpippgakjaa
open Go Go.Vs Go.Proofs
set_option maxRecDepth 20000

/-! ### ExecutorLooks, ExecutorReplays -/

def Ex.fits (x : Ex) : Prop := x.plan.fits
theorem readyL_len (x : Ex) (hx : x.small) (p : Nat → Bool) : (placesN x p).length ≤ 1000000 := by
  unfold placesN
  split
  · have := placesK_len p x.tries.length
    have := hx.2
    omega
  · simp

theorem lawLooks (x : Ex) (hx : x.plan.fits) : Gives Try.prog 4 [.agg [.bool x.run, .bool x.stp, .sl 4 (stps x.plan.steps), .sl 1 (afts x.plan.after), .sl 3 (trs x.tries), .int .i64 x.next]] (.c (.d (.bool true))) [] := by
  refine Gives.of_w TryEnv Try.func4 (by decide) TryL4_ok Try.ntmps4 (rs := [.tmp 2]) rfl (by simp) [] (by decide) ?_; rw [TryL4]
  repeat' first
    | simp -implicitDefEqProofs only [go_sem, ↓reduceIte, Nat.reduceEqDiff, Nat.reduceAdd, Nat.reduceMul, Nat.reduceSub, Nat.reduceLeDiff, Nat.reduceLT, Nat.reducePow, reduceCtorEq, Int.reduceToNat, Int.reduceLT, Int.reduceLE, Int.reduceEq, Int.reduceAdd, Int.reduceSub, Int.reduceMul, Int.reduceNeg, Int.reduceTMod, Int.reduceTDiv, List.replicate_zero, List.replicate_succ]
    | refine wfork_intro (fun h => ?_) (fun h => ?_)
    | (refine wCall_intro (light10 _ hx) ?_ ?_ ?_; rfl; decide)
    | (refine wCall_intro lives11 ?_ ?_ ?_; rfl; decide)
  have hl : lightN x.plan = true := by simp_all
  have hs : x.small := ⟨lightN_small hl, by simp at *; omega⟩
  have hol : (openN x).length ≤ 1000000 := by
    have : (openL x).length ≤ 1000000 := readyL_len x hs _
    rw [openN, List.length_map]
    exact this
  have n1 := numbers20 (readyL x) (readyL x) (readyL_len x hs _) (readyL_len x hs _)
  have n2 := numbers20 (doneL x) (doneL x) (readyL_len x hs _) (readyL_len x hs _)
  have n3 := requests23 (openN x) (openN x) hol hol
  simp only [decide_true] at n1 n2 n3
  repeat' first
    | simp -implicitDefEqProofs only [go_sem, ↓reduceIte, Nat.reduceEqDiff, Nat.reduceAdd, Nat.reduceMul, Nat.reduceSub, Nat.reduceLeDiff, Nat.reduceLT, Nat.reducePow, reduceCtorEq, Int.reduceToNat, Int.reduceLT, Int.reduceLE, Int.reduceEq, Int.reduceAdd, Int.reduceSub, Int.reduceMul, Int.reduceNeg, Int.reduceTMod, Int.reduceTDiv, List.replicate_zero, List.replicate_succ]
    | refine wfork_intro (fun h => ?_) (fun h => ?_)
    | (refine wCall_intro (ready21 _ hs) ?_ ?_ ?_; rfl; decide)
    | (refine wCall_intro (refReadyL22 _ hs) ?_ ?_ ?_; rfl; decide)
    | (refine wCall_intro (done26 _ hs) ?_ ?_ ?_; rfl; decide)
    | (refine wCall_intro (refDoneL27 _ hs) ?_ ?_ ?_; rfl; decide)
    | (refine wCall_intro (open24 _ hs) ?_ ?_ ?_; rfl; decide)
    | (refine wCall_intro (refOpenL25 _ hs) ?_ ?_ ?_; rfl; decide)
    | (refine wCall_intro (complete28 _ hs) ?_ ?_ ?_; rfl; decide)
    | (refine wCall_intro (refComplete29 _ hs) ?_ ?_ ?_; rfl; decide)
    | (refine wCall_intro n1 ?_ ?_ ?_; rfl; decide)
    | (refine wCall_intro n2 ?_ ?_ ?_; rfl; decide)
    | (refine wCall_intro n3 ?_ ?_ ?_; rfl; decide)
    | (refine wCall_intro lives11 ?_ ?_ ?_; rfl; decide)
    | refine Also.mk (by decide) ?_

theorem goN_small : ∀ (l : List Rc) (x : Ex) (k : Nat), x.small → (∀ r ∈ l, r.small) → (goN x k l).1.small
  | [], x, k, hx, _ => hx
  | r :: l, x, k, hx, hr => by
    rw [goN]
    split
    · exact goN_small l _ _ (nextN_small hx (hr r (List.mem_cons_self ..))) fun s hs => hr s (List.mem_cons_of_mem _ hs)
    · exact hx
theorem replayN_small {l : List Rc} (hr : ∀ r ∈ l, r.small) : (replayN l).1.small := by
  unfold replayN
  split
  · exact firstN_small
  · exact goN_small l _ _ firstN_small hr

theorem rcs_take (l : List Rc) (n : Nat) : (rcs l).take n = rcs (l.take n) := by simp [rcs]

theorem lawReplays (l : List Rc) (hl : l.length ≤ 140737488351232) (hr : ∀ r ∈ l, r.plan.fits) : Gives Try.prog 5 [.c (.sl 7 (rcs l))] (.c (.d (.bool true))) [] := by
  have hm : ∃ m : Nat, (if (402 : Int) < l.length then (402 : Int) else l.length) = (m : Nat) ∧ m ≤ l.length ∧ m ≤ 402 := by
    split
    · exact ⟨402, rfl, by omega, by omega⟩
    · exact ⟨l.length, rfl, by omega, by omega⟩
  obtain ⟨m, hm1, hm2, hm3⟩ := hm
  refine Gives.of_w TryEnv Try.func5 (by decide) TryL5_ok Try.ntmps5 (rs := [.tmp 2]) rfl (by simp) [] (by decide) ?_; rw [TryL5]
  simp -implicitDefEqProofs only [go_sem, ↓reduceIte, Nat.reduceEqDiff, Nat.reduceAdd, Nat.reduceMul, Nat.reduceSub, Nat.reduceLeDiff, Nat.reduceLT, Nat.reducePow, reduceCtorEq, Int.reduceToNat, Int.reduceLT, Int.reduceLE, Int.reduceEq, Int.reduceAdd, Int.reduceSub, Int.reduceMul, Int.reduceNeg, Int.reduceTMod, Int.reduceTDiv, List.replicate_zero, List.replicate_succ, hm1, Int.natCast_nonneg, Int.toNat_natCast, rcs_take, show ((m : Nat) : Int) - 0 = (m : Nat) by omega]
  refine ⟨by omega, ?_⟩
  have hql : (l.take m).length ≤ 402 := by simp; omega
  have hqf : ∀ r ∈ l.take m, r.plan.fits := fun r h => hr r (List.mem_of_mem_take h)
  generalize l.take m = q at *
  clear hm1 hm2 hm3
  refine wT_loop (fun k : { k : Nat // k ≤ q.length ∧ ∀ j (h : j < q.length), j < k → lightN q[j].plan = true } => ⟨[(0, .c (.d (.sl 7 (rcs q)))), (3, .c (.d (.int .i64 (k.1 : Nat))))], [], 32⟩) (fun k => q.length - k.1) ⟨0, by simp⟩ ?_ ?_
  · refine Wk.sub ?_ ?_ (by decide) (by decide) ?_ ?_
    all_goals simp -implicitDefEqProofs only [go_sem, ↓reduceIte, Nat.reduceEqDiff, Nat.reduceAdd, Nat.reduceMul, Nat.reduceSub, Nat.reduceLeDiff, Nat.reduceLT, Nat.reducePow, reduceCtorEq, Int.reduceToNat, Int.reduceLT, Int.reduceLE, Int.reduceEq, Int.reduceAdd, Int.reduceSub, Int.reduceMul, Int.reduceNeg, Int.reduceTMod, Int.reduceTDiv, List.replicate_zero, List.replicate_succ, Int.natCast_zero]
  · rintro ⟨k, hk, hkk⟩
    refine wT_of TryEnv ?_
    simp -implicitDefEqProofs only [go_sem, ↓reduceIte, Nat.reduceEqDiff, Nat.reduceAdd, Nat.reduceMul, Nat.reduceSub, Nat.reduceLeDiff, Nat.reduceLT, Nat.reducePow, reduceCtorEq, Int.reduceToNat, Int.reduceLT, Int.reduceLE, Int.reduceEq, Int.reduceAdd, Int.reduceSub, Int.reduceMul, Int.reduceNeg, Int.reduceTMod, Int.reduceTDiv, List.replicate_zero, List.replicate_succ]
    refine wfork_intro (fun h3 => ?_) (fun h3 => ?_)
    · have h3 : k < q.length := by simp at h3; omega
      have hg : q[k]? = some q[k] := List.getElem?_eq_getElem h3
      have hf := hqf _ (List.getElem_mem h3)
      have next : lightN q[k].plan = true → ∀ j (h : j < q.length), j < k + 1 → lightN q[j].plan = true := fun h5 j h hj => by
        by_cases e : j = k
        · subst e; exact h5
        · exact hkk j h (by omega)
      generalize q[k] = r at *
      repeat' first
        | simp -implicitDefEqProofs only [go_sem, ↓reduceIte, Nat.reduceEqDiff, Nat.reduceAdd, Nat.reduceMul, Nat.reduceSub, Nat.reduceLeDiff, Nat.reduceLT, Nat.reducePow, reduceCtorEq, Int.reduceToNat, Int.reduceLT, Int.reduceLE, Int.reduceEq, Int.reduceAdd, Int.reduceSub, Int.reduceMul, Int.reduceNeg, Int.reduceTMod, Int.reduceTDiv, List.replicate_zero, List.replicate_succ, rcs_get, hg, Int.toNat_natCast, Int.natCast_nonneg]
        | refine Also.mk (by decide) ?_
        | (refine wCall_intro (light10 _ hf) ?_ ?_ ?_; rfl; decide)
        | (refine wCall_intro lives11 ?_ ?_ ?_; rfl; decide)
        | refine wfork_intro (fun h5 => ?_) (fun h5 => ?_)
      have h5 : lightN r.plan = true := by simp_all
      exact ⟨⟨k + 1, by omega, next h5⟩, Wk.sub (by simp -implicitDefEqProofs only [go_sem, ↓reduceIte, Nat.reduceEqDiff, Nat.reduceAdd, Nat.reduceMul, Nat.reduceSub, Nat.reduceLeDiff, Nat.reduceLT, Nat.reducePow, reduceCtorEq, Int.reduceToNat, Int.reduceLT, Int.reduceLE, Int.reduceEq, Int.reduceAdd, Int.reduceSub, Int.reduceMul, Int.reduceNeg, Int.reduceTMod, Int.reduceTDiv, List.replicate_zero, List.replicate_succ, ctr (show k ≤ 1000000 by omega)]) (by simp -implicitDefEqProofs only [go_sem, ↓reduceIte, Nat.reduceEqDiff, Nat.reduceAdd, Nat.reduceMul, Nat.reduceSub, Nat.reduceLeDiff, Nat.reduceLT, Nat.reducePow, reduceCtorEq, Int.reduceToNat, Int.reduceLT, Int.reduceLE, Int.reduceEq, Int.reduceAdd, Int.reduceSub, Int.reduceMul, Int.reduceNeg, Int.reduceTMod, Int.reduceTDiv, List.replicate_zero, List.replicate_succ]) (by decide) (by decide) (by simp -implicitDefEqProofs only [go_sem, ↓reduceIte, Nat.reduceEqDiff, Nat.reduceAdd, Nat.reduceMul, Nat.reduceSub, Nat.reduceLeDiff, Nat.reduceLT, Nat.reducePow, reduceCtorEq, Int.reduceToNat, Int.reduceLT, Int.reduceLE, Int.reduceEq, Int.reduceAdd, Int.reduceSub, Int.reduceMul, Int.reduceNeg, Int.reduceTMod, Int.reduceTDiv, List.replicate_zero, List.replicate_succ]) (by simp -implicitDefEqProofs only [go_sem, ↓reduceIte, Nat.reduceEqDiff, Nat.reduceAdd, Nat.reduceMul, Nat.reduceSub, Nat.reduceLeDiff, Nat.reduceLT, Nat.reducePow, reduceCtorEq, Int.reduceToNat, Int.reduceLT, Int.reduceLE, Int.reduceEq, Int.reduceAdd, Int.reduceSub, Int.reduceMul, Int.reduceNeg, Int.reduceTMod, Int.reduceTDiv, List.replicate_zero, List.replicate_succ]), by dsimp only; omega⟩
    · have h3 : k = q.length := by simp at h3; omega
      have hs : ∀ r ∈ q, r.small := fun r h => by
        obtain ⟨j, hj, e⟩ := List.getElem_of_mem h
        rw [← e]
        exact lightN_small (hkk j hj (by omega))
      have c1 := replay30 q (by omega) hs
      have c2 := refReplay31 q (by omega) hs
      have c3 := same15 firstN firstN firstN_small firstN_small
      have c4 := same15 (replayN q).1 (replayN q).1 (replayN_small hs) (replayN_small hs)
      simp only [decide_true] at c3 c4
      generalize replayN q = y at *
      repeat' first
        | simp -implicitDefEqProofs only [go_sem, ↓reduceIte, Nat.reduceEqDiff, Nat.reduceAdd, Nat.reduceMul, Nat.reduceSub, Nat.reduceLeDiff, Nat.reduceLT, Nat.reducePow, reduceCtorEq, Int.reduceToNat, Int.reduceLT, Int.reduceLE, Int.reduceEq, Int.reduceAdd, Int.reduceSub, Int.reduceMul, Int.reduceNeg, Int.reduceTMod, Int.reduceTDiv, List.replicate_zero, List.replicate_succ]
        | refine Also.mk (by decide) ?_
        | (refine wCall_intro c1 ?_ ?_ ?_; rfl; decide)
        | (refine wCall_intro c2 ?_ ?_ ?_; rfl; decide)
        | (refine wCall_intro first32 ?_ ?_ ?_; rfl; decide)
        | (refine wCall_intro refFirst33 ?_ ?_ ?_; rfl; decide)
        | (refine wCall_intro c3 ?_ ?_ ?_; rfl; decide)
        | (refine wCall_intro c4 ?_ ?_ ?_; rfl; decide)
        | (refine wCall_intro lives11 ?_ ?_ ?_; rfl; decide)
        | refine wfork_intro (fun h5 => ?_) (fun h5 => ?_)
end Go.Proofs.Ytbdodpippgakjaa
