/- This text proves a part of what the claim needs: contracts of functions of the program. No condition. -/
import Derived.Test.YtbdodpippgakjaaXb
import Derived.Test.YtbdodpippgakjaaVsD
set_option linter.unusedSimpArgs false
set_option linter.unusedVariables false

namespace Go.Proofs.Ytbdodpippgakjaa
open Go Go.Vs Go.Proofs

/-- The first k places of which p is so. -/
def placesK (p : Nat → Bool) (k : Nat) : List Int := ((List.range k).filter p).map fun (i : Nat) => (i : Int)
theorem placesK_zero (p : Nat → Bool) : placesK p 0 = [] := rfl
theorem placesK_yes {p : Nat → Bool} {k : Nat} (h : p k = true) : placesK p (k + 1) = placesK p k ++ [(k : Int)] := by simp [placesK, List.range_succ, List.filter_append, h]
theorem placesK_no {p : Nat → Bool} {k : Nat} (h : p k = false) : placesK p (k + 1) = placesK p k := by simp [placesK, List.range_succ, List.filter_append, h]
theorem placesK_len (p : Nat → Bool) (k : Nat) : (placesK p k).length ≤ k := by
  have := List.length_filter_le p (List.range k)
  simpa [placesK] using this
def placesN (x : Ex) (p : Nat → Bool) : List Int := if validN x then placesK p x.tries.length else []

theorem places49 (x : Ex) (f : Nat) (c : D) (p : Nat → Bool) (hx : x.small) (hp : validN x = true → ∀ i, i < x.tries.length → Gives Try.prog f [.c (.int .i64 (i : Nat)), .c c] (.c (.d (.bool (p i)))) []) :
    Gives Try.prog 49 [.agg [.bool x.run, .bool x.stp, .sl 4 (stps x.plan.steps), .sl 1 (afts x.plan.after), .sl 3 (trs x.tries), .int .i64 x.next], .c (.fn f [c])] (.c (.d (.sl 1 (nums (placesN x p))))) [] := by
  refine Gives.of_w TryEnv Try.func49 (by decide) TryL49_ok Try.ntmps49 (rs := [.tmp 4]) rfl (by simp) [] (by decide) ?_; rw [TryL49]
  repeat' first
    | simp -implicitDefEqProofs only [go_sem, ↓reduceIte, Nat.reduceEqDiff, Nat.reduceAdd, Nat.reduceMul, Nat.reduceSub, Nat.reduceLeDiff, Nat.reduceLT, Nat.reducePow, reduceCtorEq, Int.reduceToNat, Int.reduceLT, Int.reduceLE, Int.reduceEq, Int.reduceAdd, Int.reduceSub, Int.reduceMul, Int.reduceNeg, Int.reduceTMod, Int.reduceTDiv, List.replicate_zero, List.replicate_succ]
    | (refine wCall_intro (valid16 _ hx) ?_ ?_ ?_; rfl; decide)
    | refine wfork_intro (fun h => ?_) (fun h => ?_)
  · have h : validN x = false := by simpa using h
    simp [placesN, h, nums_nil, DLe_nil]
  · have h : validN x = true := by simpa using h
    have hp := hp h
    have hpl : placesN x p = placesK p x.tries.length := by simp [placesN, h]
    have hx2 := hx.2
    refine wT_wk (Wk.nil (t := 5) 1 (by simp -implicitDefEqProofs only [go_sem, ↓reduceIte, Nat.reduceEqDiff, Nat.reduceAdd, Nat.reduceMul, Nat.reduceSub, Nat.reduceLeDiff, Nat.reduceLT, Nat.reducePow, reduceCtorEq, Int.reduceToNat, Int.reduceLT, Int.reduceLE, Int.reduceEq, Int.reduceAdd, Int.reduceSub, Int.reduceMul, Int.reduceNeg, Int.reduceTMod, Int.reduceTDiv, List.replicate_zero, List.replicate_succ])) ?_
    simp -implicitDefEqProofs only [go_sem, ↓reduceIte, Nat.reduceEqDiff, Nat.reduceAdd, Nat.reduceMul, Nat.reduceSub, Nat.reduceLeDiff, Nat.reduceLT, Nat.reducePow, reduceCtorEq, Int.reduceToNat, Int.reduceLT, Int.reduceLE, Int.reduceEq, Int.reduceAdd, Int.reduceSub, Int.reduceMul, Int.reduceNeg, Int.reduceTMod, Int.reduceTDiv, List.replicate_zero, List.replicate_succ]
    refine wT_loop (fun k : { k : Nat // k ≤ x.tries.length } => ⟨[(1, .c (.d (.fn f [c]))), (5, .c (.ref 40 (placesK p k.1).length 0 (placesK p k.1).length)), (12, .c (.d (.int .i64 (x.tries.length : Nat)))), (13, .c (.d (.int .i64 (k.1 : Nat))))],
      [(40, .sl 1 (nums (placesK p k.1)) false)], 41⟩) (fun k => x.tries.length - k.1) ⟨0, by simp⟩ ?_ ?_
    · refine Wk.sub ?_ ?_ (by decide) (by decide) ?_ ?_
      all_goals simp -implicitDefEqProofs only [go_sem, ↓reduceIte, Nat.reduceEqDiff, Nat.reduceAdd, Nat.reduceMul, Nat.reduceSub, Nat.reduceLeDiff, Nat.reduceLT, Nat.reducePow, reduceCtorEq, Int.reduceToNat, Int.reduceLT, Int.reduceLE, Int.reduceEq, Int.reduceAdd, Int.reduceSub, Int.reduceMul, Int.reduceNeg, Int.reduceTMod, Int.reduceTDiv, List.replicate_zero, List.replicate_succ, Int.natCast_zero, placesK_zero]
    · rintro ⟨k, hk⟩
      refine wT_of TryEnv ?_
      simp -implicitDefEqProofs only [go_sem, ↓reduceIte, Nat.reduceEqDiff, Nat.reduceAdd, Nat.reduceMul, Nat.reduceSub, Nat.reduceLeDiff, Nat.reduceLT, Nat.reducePow, reduceCtorEq, Int.reduceToNat, Int.reduceLT, Int.reduceLE, Int.reduceEq, Int.reduceAdd, Int.reduceSub, Int.reduceMul, Int.reduceNeg, Int.reduceTMod, Int.reduceTDiv, List.replicate_zero, List.replicate_succ]
      refine wfork_intro (fun h3 => ?_) (fun h3 => ?_)
      · have h3 : k < x.tries.length := by simp at h3; omega
        have hc := hp k h3
        have hl := placesK_len p k
        have hb : ((placesK p k).length + 1) * 8 ≤ mostBytes := by simp only [mostBytes]; omega
        cases hpk : p k with
        | true =>
          have hs := placesK_yes hpk
          rw [hpk] at hc
          repeat' first
            | simp -implicitDefEqProofs only [go_sem, ↓reduceIte, Nat.reduceEqDiff, Nat.reduceAdd, Nat.reduceMul, Nat.reduceSub, Nat.reduceLeDiff, Nat.reduceLT, Nat.reducePow, reduceCtorEq, Int.reduceToNat, Int.reduceLT, Int.reduceLE, Int.reduceEq, Int.reduceAdd, Int.reduceSub, Int.reduceMul, Int.reduceNeg, Int.reduceTMod, Int.reduceTDiv, List.replicate_zero, List.replicate_succ, hb]
            | (refine wCall_intro hc ?_ ?_ ?_; rfl; decide)
            | refine Also.mk (by decide) ?_
            | refine wfork_intro (fun h => ?_) (fun h => ?_)
            | apply And.intro
          refine ⟨⟨k + 1, by omega⟩, Wk.sub (by simp -implicitDefEqProofs only [go_sem, ↓reduceIte, Nat.reduceEqDiff, Nat.reduceAdd, Nat.reduceMul, Nat.reduceSub, Nat.reduceLeDiff, Nat.reduceLT, Nat.reducePow, reduceCtorEq, Int.reduceToNat, Int.reduceLT, Int.reduceLE, Int.reduceEq, Int.reduceAdd, Int.reduceSub, Int.reduceMul, Int.reduceNeg, Int.reduceTMod, Int.reduceTDiv, List.replicate_zero, List.replicate_succ, hs, List.length_append, ctr (show k ≤ 1000000 by omega)]) (by simp -implicitDefEqProofs only [go_sem, ↓reduceIte, Nat.reduceEqDiff, Nat.reduceAdd, Nat.reduceMul, Nat.reduceSub, Nat.reduceLeDiff, Nat.reduceLT, Nat.reducePow, reduceCtorEq, Int.reduceToNat, Int.reduceLT, Int.reduceLE, Int.reduceEq, Int.reduceAdd, Int.reduceSub, Int.reduceMul, Int.reduceNeg, Int.reduceTMod, Int.reduceTDiv, List.replicate_zero, List.replicate_succ, hs]) (by decide) (by decide) (by simp -implicitDefEqProofs only [go_sem, ↓reduceIte, Nat.reduceEqDiff, Nat.reduceAdd, Nat.reduceMul, Nat.reduceSub, Nat.reduceLeDiff, Nat.reduceLT, Nat.reducePow, reduceCtorEq, Int.reduceToNat, Int.reduceLT, Int.reduceLE, Int.reduceEq, Int.reduceAdd, Int.reduceSub, Int.reduceMul, Int.reduceNeg, Int.reduceTMod, Int.reduceTDiv, List.replicate_zero, List.replicate_succ]) (by simp -implicitDefEqProofs only [go_sem, ↓reduceIte, Nat.reduceEqDiff, Nat.reduceAdd, Nat.reduceMul, Nat.reduceSub, Nat.reduceLeDiff, Nat.reduceLT, Nat.reducePow, reduceCtorEq, Int.reduceToNat, Int.reduceLT, Int.reduceLE, Int.reduceEq, Int.reduceAdd, Int.reduceSub, Int.reduceMul, Int.reduceNeg, Int.reduceTMod, Int.reduceTDiv, List.replicate_zero, List.replicate_succ]), by simp; omega⟩
        | false =>
          have hs := placesK_no hpk
          rw [hpk] at hc
          repeat' first
            | simp -implicitDefEqProofs only [go_sem, ↓reduceIte, Nat.reduceEqDiff, Nat.reduceAdd, Nat.reduceMul, Nat.reduceSub, Nat.reduceLeDiff, Nat.reduceLT, Nat.reducePow, reduceCtorEq, Int.reduceToNat, Int.reduceLT, Int.reduceLE, Int.reduceEq, Int.reduceAdd, Int.reduceSub, Int.reduceMul, Int.reduceNeg, Int.reduceTMod, Int.reduceTDiv, List.replicate_zero, List.replicate_succ, hb]
            | (refine wCall_intro hc ?_ ?_ ?_; rfl; decide)
            | refine Also.mk (by decide) ?_
            | refine wfork_intro (fun h => ?_) (fun h => ?_)
            | apply And.intro
          refine ⟨⟨k + 1, by omega⟩, Wk.sub (by simp -implicitDefEqProofs only [go_sem, ↓reduceIte, Nat.reduceEqDiff, Nat.reduceAdd, Nat.reduceMul, Nat.reduceSub, Nat.reduceLeDiff, Nat.reduceLT, Nat.reducePow, reduceCtorEq, Int.reduceToNat, Int.reduceLT, Int.reduceLE, Int.reduceEq, Int.reduceAdd, Int.reduceSub, Int.reduceMul, Int.reduceNeg, Int.reduceTMod, Int.reduceTDiv, List.replicate_zero, List.replicate_succ, hs, ctr (show k ≤ 1000000 by omega)]) (by simp -implicitDefEqProofs only [go_sem, ↓reduceIte, Nat.reduceEqDiff, Nat.reduceAdd, Nat.reduceMul, Nat.reduceSub, Nat.reduceLeDiff, Nat.reduceLT, Nat.reducePow, reduceCtorEq, Int.reduceToNat, Int.reduceLT, Int.reduceLE, Int.reduceEq, Int.reduceAdd, Int.reduceSub, Int.reduceMul, Int.reduceNeg, Int.reduceTMod, Int.reduceTDiv, List.replicate_zero, List.replicate_succ, hs]) (by decide) (by decide) (by simp -implicitDefEqProofs only [go_sem, ↓reduceIte, Nat.reduceEqDiff, Nat.reduceAdd, Nat.reduceMul, Nat.reduceSub, Nat.reduceLeDiff, Nat.reduceLT, Nat.reducePow, reduceCtorEq, Int.reduceToNat, Int.reduceLT, Int.reduceLE, Int.reduceEq, Int.reduceAdd, Int.reduceSub, Int.reduceMul, Int.reduceNeg, Int.reduceTMod, Int.reduceTDiv, List.replicate_zero, List.replicate_succ]) (by simp -implicitDefEqProofs only [go_sem, ↓reduceIte, Nat.reduceEqDiff, Nat.reduceAdd, Nat.reduceMul, Nat.reduceSub, Nat.reduceLeDiff, Nat.reduceLT, Nat.reducePow, reduceCtorEq, Int.reduceToNat, Int.reduceLT, Int.reduceLE, Int.reduceEq, Int.reduceAdd, Int.reduceSub, Int.reduceMul, Int.reduceNeg, Int.reduceTMod, Int.reduceTDiv, List.replicate_zero, List.replicate_succ]), by simp; omega⟩
      · have h3 : k = x.tries.length := by simp at h3; omega
        subst h3
        simp -implicitDefEqProofs only [go_sem, ↓reduceIte, Nat.reduceEqDiff, Nat.reduceAdd, Nat.reduceMul, Nat.reduceSub, Nat.reduceLeDiff, Nat.reduceLT, Nat.reducePow, reduceCtorEq, Int.reduceToNat, Int.reduceLT, Int.reduceLE, Int.reduceEq, Int.reduceAdd, Int.reduceSub, Int.reduceMul, Int.reduceNeg, Int.reduceTMod, Int.reduceTDiv, List.replicate_zero, List.replicate_succ, hpl]

def readyL (x : Ex) : List Int := placesN x fun i => readyI x (i : Nat)
def doneL (x : Ex) : List Int := placesN x fun i => doneT (x.tries.getD i .zero)
def openL (x : Ex) : List Int := placesN x fun i => openT (x.tries.getD i .zero)

theorem ready21 (x : Ex) (hx : x.small) : Gives Try.prog 21 [.agg [.bool x.run, .bool x.stp, .sl 4 (stps x.plan.steps), .sl 1 (afts x.plan.after), .sl 3 (trs x.tries), .int .i64 x.next]] (.c (.d (.sl 1 (nums (readyL x))))) [] := by
  refine Gives.of_wT TryEnv Try.func21 (by decide) TryL21_ok Try.ntmps21 (rs := [.tmp 2]) rfl (by simp) [] (by decide) ?_; rw [TryL21]
  refine wT_seq (wT_of TryEnv ?_)
  simp -implicitDefEqProofs only [go_sem, ↓reduceIte, Nat.reduceEqDiff, Nat.reduceAdd, Nat.reduceMul, Nat.reduceSub, Nat.reduceLeDiff, Nat.reduceLT, Nat.reducePow, reduceCtorEq, Int.reduceToNat, Int.reduceLT, Int.reduceLE, Int.reduceEq, Int.reduceAdd, Int.reduceSub, Int.reduceMul, Int.reduceNeg, Int.reduceTMod, Int.reduceTDiv, List.replicate_zero, List.replicate_succ]
  refine wT_wk (Wk.boxData (t := 1) (b := 0) (off := 0) (ds := [.bool x.run, .bool x.stp, .sl 4 (stps x.plan.steps), .sl 1 (afts x.plan.after), .sl 3 (trs x.tries), .int .i64 x.next]) (by simp -implicitDefEqProofs only [go_sem, ↓reduceIte, Nat.reduceEqDiff, Nat.reduceAdd, Nat.reduceMul, Nat.reduceSub, Nat.reduceLeDiff, Nat.reduceLT, Nat.reducePow, reduceCtorEq, Int.reduceToNat, Int.reduceLT, Int.reduceLE, Int.reduceEq, Int.reduceAdd, Int.reduceSub, Int.reduceMul, Int.reduceNeg, Int.reduceTMod, Int.reduceTDiv, List.replicate_zero, List.replicate_succ]) rfl (by simp)) ?_
  refine wT_of TryEnv ?_
  repeat' first
    | simp -implicitDefEqProofs only [go_sem, ↓reduceIte, Nat.reduceEqDiff, Nat.reduceAdd, Nat.reduceMul, Nat.reduceSub, Nat.reduceLeDiff, Nat.reduceLT, Nat.reducePow, reduceCtorEq, Int.reduceToNat, Int.reduceLT, Int.reduceLE, Int.reduceEq, Int.reduceAdd, Int.reduceSub, Int.reduceMul, Int.reduceNeg, Int.reduceTMod, Int.reduceTDiv, List.replicate_zero, List.replicate_succ]
    | (refine wCall_intro (places49 x _ _ (fun i => readyI x (i : Nat)) hx (fun hv i hi => ready50 x i hx (validN_wf hv))) ?_ ?_ ?_; rfl; decide)
  exact .refl _

theorem done26 (x : Ex) (hx : x.small) : Gives Try.prog 26 [.agg [.bool x.run, .bool x.stp, .sl 4 (stps x.plan.steps), .sl 1 (afts x.plan.after), .sl 3 (trs x.tries), .int .i64 x.next]] (.c (.d (.sl 1 (nums (doneL x))))) [] := by
  refine Gives.of_wT TryEnv Try.func26 (by decide) TryL26_ok Try.ntmps26 (rs := [.tmp 2]) rfl (by simp) [] (by decide) ?_; rw [TryL26]
  refine wT_seq (wT_of TryEnv ?_)
  simp -implicitDefEqProofs only [go_sem, ↓reduceIte, Nat.reduceEqDiff, Nat.reduceAdd, Nat.reduceMul, Nat.reduceSub, Nat.reduceLeDiff, Nat.reduceLT, Nat.reducePow, reduceCtorEq, Int.reduceToNat, Int.reduceLT, Int.reduceLE, Int.reduceEq, Int.reduceAdd, Int.reduceSub, Int.reduceMul, Int.reduceNeg, Int.reduceTMod, Int.reduceTDiv, List.replicate_zero, List.replicate_succ]
  refine wT_wk (Wk.boxData (t := 1) (b := 0) (off := 0) (ds := [.bool x.run, .bool x.stp, .sl 4 (stps x.plan.steps), .sl 1 (afts x.plan.after), .sl 3 (trs x.tries), .int .i64 x.next]) (by simp -implicitDefEqProofs only [go_sem, ↓reduceIte, Nat.reduceEqDiff, Nat.reduceAdd, Nat.reduceMul, Nat.reduceSub, Nat.reduceLeDiff, Nat.reduceLT, Nat.reducePow, reduceCtorEq, Int.reduceToNat, Int.reduceLT, Int.reduceLE, Int.reduceEq, Int.reduceAdd, Int.reduceSub, Int.reduceMul, Int.reduceNeg, Int.reduceTMod, Int.reduceTDiv, List.replicate_zero, List.replicate_succ]) rfl (by simp)) ?_
  refine wT_of TryEnv ?_
  repeat' first
    | simp -implicitDefEqProofs only [go_sem, ↓reduceIte, Nat.reduceEqDiff, Nat.reduceAdd, Nat.reduceMul, Nat.reduceSub, Nat.reduceLeDiff, Nat.reduceLT, Nat.reducePow, reduceCtorEq, Int.reduceToNat, Int.reduceLT, Int.reduceLE, Int.reduceEq, Int.reduceAdd, Int.reduceSub, Int.reduceMul, Int.reduceNeg, Int.reduceTMod, Int.reduceTDiv, List.replicate_zero, List.replicate_succ]
    | (refine wCall_intro (places49 x _ _ (fun i => doneT (x.tries.getD i .zero)) hx (fun hv i hi => done55 x i hi)) ?_ ?_ ?_; rfl; decide)
  exact .refl _

theorem placesK_mem {p : Nat → Bool} {k : Nat} {a : Int} (h : a ∈ placesK p k) : ∃ i : Nat, a = (i : Int) ∧ i < k ∧ p i = true := by
  obtain ⟨i, hi, rfl⟩ := List.mem_map.1 h
  obtain ⟨h1, h2⟩ := List.mem_filter.1 hi
  exact ⟨i, rfl, List.mem_range.1 h1, h2⟩
theorem placesN_mem {x : Ex} {p : Nat → Bool} {a : Int} (h : a ∈ placesN x p) : validN x = true ∧ ∃ i : Nat, a = (i : Int) ∧ i < x.tries.length ∧ p i = true := by
  unfold placesN at h
  split at h
  · exact ⟨by assumption, placesK_mem h⟩
  · simp at h

def Stp.zero : Stp := ⟨0, 0, 0, 0⟩
/-- The request of a place. -/
def rqOf (x : Ex) (a : Int) : Rq := ⟨(x.tries.getD a.toNat .zero).id, (x.tries.getD a.toNat .zero).lease, x.plan.steps.getD a.toNat .zero⟩
def openN (x : Ex) : List Rq := (openL x).map (rqOf x)

theorem open24 (x : Ex) (hx : x.small) : Gives Try.prog 24 [.agg [.bool x.run, .bool x.stp, .sl 4 (stps x.plan.steps), .sl 1 (afts x.plan.after), .sl 3 (trs x.tries), .int .i64 x.next]] (.c (.d (.sl 6 (rqs (openN x))))) [] := by
  refine Gives.of_wT TryEnv Try.func24 (by decide) TryL24_ok Try.ntmps24 (rs := [.tmp 2]) rfl (by simp) [] (by decide) ?_; rw [TryL24]
  refine wT_seq (wT_of TryEnv ?_)
  simp -implicitDefEqProofs only [go_sem, ↓reduceIte, Nat.reduceEqDiff, Nat.reduceAdd, Nat.reduceMul, Nat.reduceSub, Nat.reduceLeDiff, Nat.reduceLT, Nat.reducePow, reduceCtorEq, Int.reduceToNat, Int.reduceLT, Int.reduceLE, Int.reduceEq, Int.reduceAdd, Int.reduceSub, Int.reduceMul, Int.reduceNeg, Int.reduceTMod, Int.reduceTDiv, List.replicate_zero, List.replicate_succ]
  refine wT_wk (Wk.boxData (t := 1) (b := 0) (off := 0) (ds := [.bool x.run, .bool x.stp, .sl 4 (stps x.plan.steps), .sl 1 (afts x.plan.after), .sl 3 (trs x.tries), .int .i64 x.next]) (by simp -implicitDefEqProofs only [go_sem, ↓reduceIte, Nat.reduceEqDiff, Nat.reduceAdd, Nat.reduceMul, Nat.reduceSub, Nat.reduceLeDiff, Nat.reduceLT, Nat.reducePow, reduceCtorEq, Int.reduceToNat, Int.reduceLT, Int.reduceLE, Int.reduceEq, Int.reduceAdd, Int.reduceSub, Int.reduceMul, Int.reduceNeg, Int.reduceTMod, Int.reduceTDiv, List.replicate_zero, List.replicate_succ]) rfl (by simp)) ?_
  refine wT_of TryEnv ?_
  repeat' first
    | simp -implicitDefEqProofs only [go_sem, ↓reduceIte, Nat.reduceEqDiff, Nat.reduceAdd, Nat.reduceMul, Nat.reduceSub, Nat.reduceLeDiff, Nat.reduceLT, Nat.reducePow, reduceCtorEq, Int.reduceToNat, Int.reduceLT, Int.reduceLE, Int.reduceEq, Int.reduceAdd, Int.reduceSub, Int.reduceMul, Int.reduceNeg, Int.reduceTMod, Int.reduceTDiv, List.replicate_zero, List.replicate_succ]
    | (refine wCall_intro (places49 x _ _ (fun i => openT (x.tries.getD i .zero)) hx (fun hv i hi => open52 x i hi)) ?_ ?_ ?_; rfl; decide)
  have hm : ∀ a ∈ openL x, 0 ≤ a ∧ a.toNat < x.tries.length ∧ a.toNat < x.plan.steps.length := fun a ha => by
    obtain ⟨hv, i, rfl, h1, h2⟩ := placesN_mem ha
    have := (validN_wf hv).stp
    simp only [Int.toNat_natCast]
    omega
  have hlen : (openL x).length ≤ 1000 := by
    unfold openL placesN
    split
    · have := placesK_len (fun i => openT (x.tries.getD i .zero)) x.tries.length
      have := hx.2
      omega
    · simp
  have hdef : placesN x (fun i => openT (x.tries.getD i .zero)) = openL x := rfl
  have hN : openN x = (openL x).map (rqOf x) := rfl
  rw [hdef]
  rw [hN]
  generalize openL x = l at *
  refine wT_wk (Wk.nil (t := 3) 6 (by simp -implicitDefEqProofs only [go_sem, ↓reduceIte, Nat.reduceEqDiff, Nat.reduceAdd, Nat.reduceMul, Nat.reduceSub, Nat.reduceLeDiff, Nat.reduceLT, Nat.reducePow, reduceCtorEq, Int.reduceToNat, Int.reduceLT, Int.reduceLE, Int.reduceEq, Int.reduceAdd, Int.reduceSub, Int.reduceMul, Int.reduceNeg, Int.reduceTMod, Int.reduceTDiv, List.replicate_zero, List.replicate_succ])) ?_
  simp -implicitDefEqProofs only [go_sem, ↓reduceIte, Nat.reduceEqDiff, Nat.reduceAdd, Nat.reduceMul, Nat.reduceSub, Nat.reduceLeDiff, Nat.reduceLT, Nat.reducePow, reduceCtorEq, Int.reduceToNat, Int.reduceLT, Int.reduceLE, Int.reduceEq, Int.reduceAdd, Int.reduceSub, Int.reduceMul, Int.reduceNeg, Int.reduceTMod, Int.reduceTDiv, List.replicate_zero, List.replicate_succ]
  refine wT_loop (fun k : { k : Nat // k ≤ l.length } => ⟨[(1, .c (.d (.fp [.bool x.run, .bool x.stp, .sl 4 (stps x.plan.steps), .sl 1 (afts x.plan.after), .sl 3 (trs x.tries), .int .i64 x.next]))), (3, .c (.ref 32 k.1 0 k.1)), (8, .c (.d (.sl 1 (nums l)))), (9, .c (.d (.int .i64 (l.length : Nat)))), (10, .c (.d (.int .i64 (k.1 : Nat))))],
    [(32, .sl 6 (rqs ((l.take k.1).map (rqOf x))) false)], 33⟩) (fun k => l.length - k.1) ⟨0, by simp⟩ ?_ ?_
  · refine Wk.sub ?_ ?_ (by decide) (by decide) ?_ ?_
    all_goals simp -implicitDefEqProofs only [go_sem, ↓reduceIte, Nat.reduceEqDiff, Nat.reduceAdd, Nat.reduceMul, Nat.reduceSub, Nat.reduceLeDiff, Nat.reduceLT, Nat.reducePow, reduceCtorEq, Int.reduceToNat, Int.reduceLT, Int.reduceLE, Int.reduceEq, Int.reduceAdd, Int.reduceSub, Int.reduceMul, Int.reduceNeg, Int.reduceTMod, Int.reduceTDiv, List.replicate_zero, List.replicate_succ, Int.natCast_zero]
  · rintro ⟨k, hk⟩
    refine wT_of TryEnv ?_
    simp -implicitDefEqProofs only [go_sem, ↓reduceIte, Nat.reduceEqDiff, Nat.reduceAdd, Nat.reduceMul, Nat.reduceSub, Nat.reduceLeDiff, Nat.reduceLT, Nat.reducePow, reduceCtorEq, Int.reduceToNat, Int.reduceLT, Int.reduceLE, Int.reduceEq, Int.reduceAdd, Int.reduceSub, Int.reduceMul, Int.reduceNeg, Int.reduceTMod, Int.reduceTDiv, List.replicate_zero, List.replicate_succ]
    refine wfork_intro (fun h3 => ?_) (fun h3 => ?_)
    · have h3 : k < l.length := by simp at h3; omega
      have hg : l[k]? = some l[k] := List.getElem?_eq_getElem h3
      obtain ⟨g1, g2, g3⟩ := hm _ (List.getElem_mem h3)
      have ht : (l.take (k + 1)).map (rqOf x) = (l.take k).map (rqOf x) ++ [rqOf x l[k]] := by rw [List.take_add_one, hg, List.map_append]; rfl
      have hlk : (l.take k).length = k := by simp; omega
      have hb : (k + 1) * 48 ≤ mostBytes := by simp only [mostBytes]; omega
      generalize l[k] = a at *
      have e1 : x.tries[a.toNat]? = some (x.tries.getD a.toNat .zero) := by rw [getD_of g2]; exact List.getElem?_eq_getElem g2
      have e2 : x.plan.steps[a.toNat]? = some (x.plan.steps.getD a.toNat .zero) := by rw [getD_of g3]; exact List.getElem?_eq_getElem g3
      have e3 := rqs_snoc ((l.take k).map (rqOf x)) (rqOf x a)
      rw [← ht] at e3
      simp only [rqOf] at e3
      generalize x.tries.getD a.toNat .zero = t at *
      generalize x.plan.steps.getD a.toNat .zero = s at *
      repeat' first
        | simp -implicitDefEqProofs only [go_sem, ↓reduceIte, Nat.reduceEqDiff, Nat.reduceAdd, Nat.reduceMul, Nat.reduceSub, Nat.reduceLeDiff, Nat.reduceLT, Nat.reducePow, reduceCtorEq, Int.reduceToNat, Int.reduceLT, Int.reduceLE, Int.reduceEq, Int.reduceAdd, Int.reduceSub, Int.reduceMul, Int.reduceNeg, Int.reduceTMod, Int.reduceTDiv, List.replicate_zero, List.replicate_succ, nums_get, hg, trs_get, stps_get, e1, e2, g1, hb, hlk, Int.toNat_natCast, Int.natCast_nonneg]
        | refine Also.mk (by decide) ?_
        | refine wfork_intro (fun h => ?_) (fun h => ?_)
        | apply And.intro
      all_goals first
        | (simp; omega)
        | skip
      refine ⟨⟨k + 1, by omega⟩, Wk.sub (by simp -implicitDefEqProofs only [go_sem, ↓reduceIte, Nat.reduceEqDiff, Nat.reduceAdd, Nat.reduceMul, Nat.reduceSub, Nat.reduceLeDiff, Nat.reduceLT, Nat.reducePow, reduceCtorEq, Int.reduceToNat, Int.reduceLT, Int.reduceLE, Int.reduceEq, Int.reduceAdd, Int.reduceSub, Int.reduceMul, Int.reduceNeg, Int.reduceTMod, Int.reduceTDiv, List.replicate_zero, List.replicate_succ, ctr (show k ≤ 1000000 by omega)]) (by simp -implicitDefEqProofs only [go_sem, ↓reduceIte, Nat.reduceEqDiff, Nat.reduceAdd, Nat.reduceMul, Nat.reduceSub, Nat.reduceLeDiff, Nat.reduceLT, Nat.reducePow, reduceCtorEq, Int.reduceToNat, Int.reduceLT, Int.reduceLE, Int.reduceEq, Int.reduceAdd, Int.reduceSub, Int.reduceMul, Int.reduceNeg, Int.reduceTMod, Int.reduceTDiv, List.replicate_zero, List.replicate_succ, e3]) (by decide) (by decide) (by simp -implicitDefEqProofs only [go_sem, ↓reduceIte, Nat.reduceEqDiff, Nat.reduceAdd, Nat.reduceMul, Nat.reduceSub, Nat.reduceLeDiff, Nat.reduceLT, Nat.reducePow, reduceCtorEq, Int.reduceToNat, Int.reduceLT, Int.reduceLE, Int.reduceEq, Int.reduceAdd, Int.reduceSub, Int.reduceMul, Int.reduceNeg, Int.reduceTMod, Int.reduceTDiv, List.replicate_zero, List.replicate_succ]) (by simp -implicitDefEqProofs only [go_sem, ↓reduceIte, Nat.reduceEqDiff, Nat.reduceAdd, Nat.reduceMul, Nat.reduceSub, Nat.reduceLeDiff, Nat.reduceLT, Nat.reducePow, reduceCtorEq, Int.reduceToNat, Int.reduceLT, Int.reduceLE, Int.reduceEq, Int.reduceAdd, Int.reduceSub, Int.reduceMul, Int.reduceNeg, Int.reduceTMod, Int.reduceTDiv, List.replicate_zero, List.replicate_succ]), by simp; omega⟩
    · have h3 : k = l.length := by simp at h3; omega
      subst h3
      have hr : (rqs (l.map (rqOf x))).take l.length = rqs (l.map (rqOf x)) := List.take_of_length_le (by simp [rqs])
      simp -implicitDefEqProofs only [go_sem, ↓reduceIte, Nat.reduceEqDiff, Nat.reduceAdd, Nat.reduceMul, Nat.reduceSub, Nat.reduceLeDiff, Nat.reduceLT, Nat.reducePow, reduceCtorEq, Int.reduceToNat, Int.reduceLT, Int.reduceLE, Int.reduceEq, Int.reduceAdd, Int.reduceSub, Int.reduceMul, Int.reduceNeg, Int.reduceTMod, Int.reduceTDiv, List.replicate_zero, List.replicate_succ, List.length_map, hr]

theorem complete28 (x : Ex) (hx : x.small) : Gives Try.prog 28 [.agg [.bool x.run, .bool x.stp, .sl 4 (stps x.plan.steps), .sl 1 (afts x.plan.after), .sl 3 (trs x.tries), .int .i64 x.next]] (.c (.d (.bool (validN x && decide ((doneL x).length = x.tries.length))))) [] := by
  refine Gives.of_w TryEnv Try.func28 (by decide) TryL28_ok Try.ntmps28 (rs := [.tmp 2]) rfl (by simp) [] (by decide) ?_; rw [TryL28]
  repeat' first
    | simp -implicitDefEqProofs only [go_sem, ↓reduceIte, Nat.reduceEqDiff, Nat.reduceAdd, Nat.reduceMul, Nat.reduceSub, Nat.reduceLeDiff, Nat.reduceLT, Nat.reducePow, reduceCtorEq, Int.reduceToNat, Int.reduceLT, Int.reduceLE, Int.reduceEq, Int.reduceAdd, Int.reduceSub, Int.reduceMul, Int.reduceNeg, Int.reduceTMod, Int.reduceTDiv, List.replicate_zero, List.replicate_succ]
    | (refine wCall_intro (valid16 _ hx) ?_ ?_ ?_; rfl; decide)
    | (refine wCall_intro (done26 _ hx) ?_ ?_ ?_; rfl; decide)
    | refine Also.mk (by decide) ?_
    | refine wfork_intro (fun h => ?_) (fun h => ?_)
  all_goals refine DLe.of_eq ?_
  all_goals simp [*]
  all_goals omega
end Go.Proofs.Ytbdodpippgakjaa

namespace Go.Proofs.Ytbdodpippgakjaa
open Go Go.Vs Go.Proofs

theorem refReady43 (x : Ex) (a : Int) (hx : x.small) (hw : x.wf) : Gives Try.prog 43 [.agg [.bool x.run, .bool x.stp, .sl 4 (stps x.plan.steps), .sl 1 (afts x.plan.after), .sl 3 (trs x.tries), .int .i64 x.next], .c (.int .i64 a)] (.c (.d (.bool (readyI x a)))) [] := by
  obtain ⟨hx1, hx2⟩ := hx
  obtain ⟨hx3, hx4, hx5⟩ := hx1
  by_cases h0 : 0 ≤ a ∧ a < x.tries.length
  · obtain ⟨h0, h1⟩ := h0
    have hg : x.tries[a.toNat]? = some (x.tries.getD a.toNat .zero) := by rw [getD_of (by omega)]; exact List.getElem?_eq_getElem (by omega)
    have hga : x.plan.after[a.toNat]? = some (x.plan.after.getD a.toNat []) := by rw [getD_of (by have := hw.aft; omega)]; exact List.getElem?_eq_getElem (by have := hw.aft; omega)
    have hm := hw.mem a.toNat (by omega)
    have hl : (x.plan.after.getD a.toNat []).length ≤ 1000000 := by
      have hlt : a.toNat < x.plan.after.length := by have := hw.aft; omega
      rw [getD_of hlt]
      have := hx5 _ (List.getElem_mem hlt)
      omega
    have hr : readyI x a = (x.run && (!x.stp && ((decide ((x.tries.getD a.toNat .zero).id = 0) || decide ((x.tries.getD a.toNat .zero).ans = 2)) && (x.plan.after.getD a.toNat []).all fun a => doneT (x.tries.getD a.toNat .zero)))) := by
      simp [readyI, readyN, h0, h1]
    have h0' : decide (a < 0) = false := by simp; omega
    have h1' : decide ((x.tries.length : Int) ≤ a) = false := by simp; omega
    generalize x.tries.getD a.toNat .zero = t at hg hr
    generalize x.plan.after.getD a.toNat [] = l at *
    refine Gives.of_w TryEnv Try.func43 (by decide) TryL43_ok Try.ntmps43 (rs := [.tmp 4]) rfl (by simp) [] (by decide) ?_; rw [TryL43]
    repeat' first
      | simp -implicitDefEqProofs only [go_sem, ↓reduceIte, Nat.reduceEqDiff, Nat.reduceAdd, Nat.reduceMul, Nat.reduceSub, Nat.reduceLeDiff, Nat.reduceLT, Nat.reducePow, reduceCtorEq, Int.reduceToNat, Int.reduceLT, Int.reduceLE, Int.reduceEq, Int.reduceAdd, Int.reduceSub, Int.reduceMul, Int.reduceNeg, Int.reduceTMod, Int.reduceTDiv, List.replicate_zero, List.replicate_succ, trs_get, afts_get, hg, hga, h0, h1, h0', h1']
      | refine wfork_intro (fun h => ?_) (fun h => ?_)
      | apply And.intro
    all_goals first
      | (refine DLe.of_eq ?_; rw [hr]; simp_all; done)
      | (refine wT_loop (fun k : { k : Nat // k ≤ l.length ∧ (l.take k).all (fun a => doneT (x.tries.getD a.toNat .zero)) = true } => ⟨[(1, .c (.d (.int .i64 a))), (2, .c (.ptr 0 0)), (6, .c (.d (.int .i64 (k.1 : Nat))))],
          [(0, .box [.d (.bool x.run), .d (.bool x.stp), .d (.sl 4 (stps x.plan.steps)), .d (.sl 1 (afts x.plan.after)), .d (.sl 3 (trs x.tries)), .d (.int .i64 x.next)])], 1⟩) (fun k => l.length - k.1) ⟨0, by simp⟩ ?_ ?_
         · refine Wk.sub ?_ ?_ (by decide) (by decide) ?_ ?_
           all_goals simp -implicitDefEqProofs only [go_sem, ↓reduceIte, Nat.reduceEqDiff, Nat.reduceAdd, Nat.reduceMul, Nat.reduceSub, Nat.reduceLeDiff, Nat.reduceLT, Nat.reducePow, reduceCtorEq, Int.reduceToNat, Int.reduceLT, Int.reduceLE, Int.reduceEq, Int.reduceAdd, Int.reduceSub, Int.reduceMul, Int.reduceNeg, Int.reduceTMod, Int.reduceTDiv, List.replicate_zero, List.replicate_succ, Int.natCast_zero]
         · rintro ⟨k, hk, hkk⟩
           refine wT_of TryEnv ?_
           simp -implicitDefEqProofs only [go_sem, ↓reduceIte, Nat.reduceEqDiff, Nat.reduceAdd, Nat.reduceMul, Nat.reduceSub, Nat.reduceLeDiff, Nat.reduceLT, Nat.reducePow, reduceCtorEq, Int.reduceToNat, Int.reduceLT, Int.reduceLE, Int.reduceEq, Int.reduceAdd, Int.reduceSub, Int.reduceMul, Int.reduceNeg, Int.reduceTMod, Int.reduceTDiv, List.replicate_zero, List.replicate_succ, trs_get, afts_get, hg, hga, h0, h1, h0', h1']
           refine wfork_intro (fun h3 => ?_) (fun h3 => ?_)
           · have h3 : k < l.length := by simp at h3; omega
             have hgk : l[k]? = some l[k] := List.getElem?_eq_getElem h3
             have ht : (l.take (k + 1)).all (fun a => doneT (x.tries.getD a.toNat .zero)) = doneT (x.tries.getD l[k].toNat .zero) := by
               rw [List.take_add_one, hgk, List.all_append, hkk]
               simp
             have hbad : doneT (x.tries.getD l[k].toNat .zero) = false → (l.all fun a => doneT (x.tries.getD a.toNat .zero)) = false := fun hb => by
               rw [List.all_eq_false]
               exact ⟨_, List.getElem_mem h3, by rw [hb]; simp⟩
             obtain ⟨g0, g1⟩ := hm _ (List.getElem_mem h3)
             have hgt : x.tries[l[k].toNat]? = some (x.tries.getD l[k].toNat .zero) := by rw [getD_of (by omega)]; exact List.getElem?_eq_getElem (by omega)
             generalize l[k] = b at *
             generalize x.tries.getD b.toNat .zero = u at *
             repeat' first
               | simp -implicitDefEqProofs only [go_sem, ↓reduceIte, Nat.reduceEqDiff, Nat.reduceAdd, Nat.reduceMul, Nat.reduceSub, Nat.reduceLeDiff, Nat.reduceLT, Nat.reducePow, reduceCtorEq, Int.reduceToNat, Int.reduceLT, Int.reduceLE, Int.reduceEq, Int.reduceAdd, Int.reduceSub, Int.reduceMul, Int.reduceNeg, Int.reduceTMod, Int.reduceTDiv, List.replicate_zero, List.replicate_succ, trs_get, nums_get, afts_get, hgk, hgt, hga, h0, h1, g0, g1, Int.toNat_natCast, Int.natCast_nonneg]
               | refine Also.mk (by decide) ?_
               | refine wfork_intro (fun h => ?_) (fun h => ?_)
               | apply And.intro
             · have : doneT u = false := by simpa [doneT] using (by assumption : (!decide (u.ans = 1)) = true)
               refine DLe.of_eq ?_
               rw [hr, hbad this]
               simp
             · have : doneT u = true := by simpa [doneT] using (by assumption : (!decide (u.ans = 1)) = false)
               rw [this] at ht
               refine ⟨⟨k + 1, by omega, ht⟩, Wk.sub (by simp -implicitDefEqProofs only [go_sem, ↓reduceIte, Nat.reduceEqDiff, Nat.reduceAdd, Nat.reduceMul, Nat.reduceSub, Nat.reduceLeDiff, Nat.reduceLT, Nat.reducePow, reduceCtorEq, Int.reduceToNat, Int.reduceLT, Int.reduceLE, Int.reduceEq, Int.reduceAdd, Int.reduceSub, Int.reduceMul, Int.reduceNeg, Int.reduceTMod, Int.reduceTDiv, List.replicate_zero, List.replicate_succ, ctr (show k ≤ 1000000 by omega)]) (by simp -implicitDefEqProofs only [go_sem, ↓reduceIte, Nat.reduceEqDiff, Nat.reduceAdd, Nat.reduceMul, Nat.reduceSub, Nat.reduceLeDiff, Nat.reduceLT, Nat.reducePow, reduceCtorEq, Int.reduceToNat, Int.reduceLT, Int.reduceLE, Int.reduceEq, Int.reduceAdd, Int.reduceSub, Int.reduceMul, Int.reduceNeg, Int.reduceTMod, Int.reduceTDiv, List.replicate_zero, List.replicate_succ]) (by decide) (by decide) (by simp -implicitDefEqProofs only [go_sem, ↓reduceIte, Nat.reduceEqDiff, Nat.reduceAdd, Nat.reduceMul, Nat.reduceSub, Nat.reduceLeDiff, Nat.reduceLT, Nat.reducePow, reduceCtorEq, Int.reduceToNat, Int.reduceLT, Int.reduceLE, Int.reduceEq, Int.reduceAdd, Int.reduceSub, Int.reduceMul, Int.reduceNeg, Int.reduceTMod, Int.reduceTDiv, List.replicate_zero, List.replicate_succ]) (by simp -implicitDefEqProofs only [go_sem, ↓reduceIte, Nat.reduceEqDiff, Nat.reduceAdd, Nat.reduceMul, Nat.reduceSub, Nat.reduceLeDiff, Nat.reduceLT, Nat.reducePow, reduceCtorEq, Int.reduceToNat, Int.reduceLT, Int.reduceLE, Int.reduceEq, Int.reduceAdd, Int.reduceSub, Int.reduceMul, Int.reduceNeg, Int.reduceTMod, Int.reduceTDiv, List.replicate_zero, List.replicate_succ]), by simp; omega⟩
           · have h3 : k = l.length := by simp at h3; omega
             subst h3
             rw [List.take_length] at hkk
             simp -implicitDefEqProofs only [go_sem, ↓reduceIte, Nat.reduceEqDiff, Nat.reduceAdd, Nat.reduceMul, Nat.reduceSub, Nat.reduceLeDiff, Nat.reduceLT, Nat.reducePow, reduceCtorEq, Int.reduceToNat, Int.reduceLT, Int.reduceLE, Int.reduceEq, Int.reduceAdd, Int.reduceSub, Int.reduceMul, Int.reduceNeg, Int.reduceTMod, Int.reduceTDiv, List.replicate_zero, List.replicate_succ]
             refine DLe.of_eq ?_
             rw [hr, hkk]
             simp_all)
  · have hr : readyI x a = false := by
      simp only [readyI]
      by_cases h1 : 0 ≤ a
      · have : ¬ a < x.tries.length := fun h => h0 ⟨h1, h⟩
        simp [this]
      · simp [h1]
    rw [hr]
    refine Gives.of_w TryEnv Try.func43 (by decide) TryL43_ok Try.ntmps43 (rs := [.tmp 4]) rfl (by simp) [] (by decide) ?_; rw [TryL43]
    repeat' first
      | simp -implicitDefEqProofs only [go_sem, ↓reduceIte, Nat.reduceEqDiff, Nat.reduceAdd, Nat.reduceMul, Nat.reduceSub, Nat.reduceLeDiff, Nat.reduceLT, Nat.reducePow, reduceCtorEq, Int.reduceToNat, Int.reduceLT, Int.reduceLE, Int.reduceEq, Int.reduceAdd, Int.reduceSub, Int.reduceMul, Int.reduceNeg, Int.reduceTMod, Int.reduceTDiv, List.replicate_zero, List.replicate_succ]
      | refine wfork_intro (fun h => ?_) (fun h => ?_)
      | apply And.intro
    all_goals exfalso
    all_goals simp at *
    all_goals omega

theorem refReadyL22 (x : Ex) (hx : x.small) : Gives Try.prog 22 [.agg [.bool x.run, .bool x.stp, .sl 4 (stps x.plan.steps), .sl 1 (afts x.plan.after), .sl 3 (trs x.tries), .int .i64 x.next]] (.c (.d (.sl 1 (nums (readyL x))))) [] := by
  have hx2 := hx.2
  refine Gives.of_w TryEnv Try.func22 (by decide) TryL22_ok Try.ntmps22 (rs := [.tmp 2]) rfl (by simp) [] (by decide) ?_; rw [TryL22]
  simp -implicitDefEqProofs only [go_sem, ↓reduceIte, Nat.reduceEqDiff, Nat.reduceAdd, Nat.reduceMul, Nat.reduceSub, Nat.reduceLeDiff, Nat.reduceLT, Nat.reducePow, reduceCtorEq, Int.reduceToNat, Int.reduceLT, Int.reduceLE, Int.reduceEq, Int.reduceAdd, Int.reduceSub, Int.reduceMul, Int.reduceNeg, Int.reduceTMod, Int.reduceTDiv, List.replicate_zero, List.replicate_succ]
  refine wT_wk (Wk.nil (t := 3) 1 (by simp -implicitDefEqProofs only [go_sem, ↓reduceIte, Nat.reduceEqDiff, Nat.reduceAdd, Nat.reduceMul, Nat.reduceSub, Nat.reduceLeDiff, Nat.reduceLT, Nat.reducePow, reduceCtorEq, Int.reduceToNat, Int.reduceLT, Int.reduceLE, Int.reduceEq, Int.reduceAdd, Int.reduceSub, Int.reduceMul, Int.reduceNeg, Int.reduceTMod, Int.reduceTDiv, List.replicate_zero, List.replicate_succ])) ?_
  simp -implicitDefEqProofs only [go_sem, ↓reduceIte, Nat.reduceEqDiff, Nat.reduceAdd, Nat.reduceMul, Nat.reduceSub, Nat.reduceLeDiff, Nat.reduceLT, Nat.reducePow, reduceCtorEq, Int.reduceToNat, Int.reduceLT, Int.reduceLE, Int.reduceEq, Int.reduceAdd, Int.reduceSub, Int.reduceMul, Int.reduceNeg, Int.reduceTMod, Int.reduceTDiv, List.replicate_zero, List.replicate_succ]
  cases hv : validN x with
  | false =>
    have hpl : readyL x = [] := by simp [readyL, placesN, hv]
    refine wT_loop (fun k : Unit => ⟨[(1, .c (.ptr 0 0)), (3, .c (.ref 16 0 0 0)), (4, .c (.d (.int .i64 0)))], [(0, .box [.d (.bool x.run), .d (.bool x.stp), .d (.sl 4 (stps x.plan.steps)), .d (.sl 1 (afts x.plan.after)), .d (.sl 3 (trs x.tries)), .d (.int .i64 x.next)]), (16, .sl 1 [] false)], 17⟩) (fun _ => 0) () ?_ ?_
    · refine Wk.sub ?_ ?_ (by decide) (by decide) ?_ ?_
      all_goals simp -implicitDefEqProofs only [go_sem, ↓reduceIte, Nat.reduceEqDiff, Nat.reduceAdd, Nat.reduceMul, Nat.reduceSub, Nat.reduceLeDiff, Nat.reduceLT, Nat.reducePow, reduceCtorEq, Int.reduceToNat, Int.reduceLT, Int.reduceLE, Int.reduceEq, Int.reduceAdd, Int.reduceSub, Int.reduceMul, Int.reduceNeg, Int.reduceTMod, Int.reduceTDiv, List.replicate_zero, List.replicate_succ]
    · rintro ⟨⟩
      refine wT_of TryEnv ?_
      have hv' := refValid17 x hx
      rw [hv] at hv'
      repeat' first
        | simp -implicitDefEqProofs only [go_sem, ↓reduceIte, Nat.reduceEqDiff, Nat.reduceAdd, Nat.reduceMul, Nat.reduceSub, Nat.reduceLeDiff, Nat.reduceLT, Nat.reducePow, reduceCtorEq, Int.reduceToNat, Int.reduceLT, Int.reduceLE, Int.reduceEq, Int.reduceAdd, Int.reduceSub, Int.reduceMul, Int.reduceNeg, Int.reduceTMod, Int.reduceTDiv, List.replicate_zero, List.replicate_succ]
        | (refine wCall_intro hv' ?_ ?_ ?_; rfl; decide)
        | refine Also.mk (by decide) ?_
        | refine wfork_intro (fun h => ?_) (fun h => ?_)
        | apply And.intro
      all_goals rw [hpl]
      all_goals exact .refl _
  | true =>
    have hw := validN_wf hv
    have hpl : readyL x = placesK (fun i => readyI x (i : Nat)) x.tries.length := by simp [readyL, placesN, hv]
    refine wT_loop (fun k : { k : Nat // k ≤ x.tries.length } => ⟨[(1, .c (.ptr 0 0)), (3, .c (.ref 16 (placesK (fun i => readyI x (i : Nat)) k.1).length 0 (placesK (fun i => readyI x (i : Nat)) k.1).length)), (4, .c (.d (.int .i64 (k.1 : Nat))))],
      [(0, .box [.d (.bool x.run), .d (.bool x.stp), .d (.sl 4 (stps x.plan.steps)), .d (.sl 1 (afts x.plan.after)), .d (.sl 3 (trs x.tries)), .d (.int .i64 x.next)]), (16, .sl 1 (nums (placesK (fun i => readyI x (i : Nat)) k.1)) false)], 17⟩) (fun k => x.tries.length - k.1) ⟨0, by simp⟩ ?_ ?_
    · refine Wk.sub ?_ ?_ (by decide) (by decide) ?_ ?_
      all_goals simp -implicitDefEqProofs only [go_sem, ↓reduceIte, Nat.reduceEqDiff, Nat.reduceAdd, Nat.reduceMul, Nat.reduceSub, Nat.reduceLeDiff, Nat.reduceLT, Nat.reducePow, reduceCtorEq, Int.reduceToNat, Int.reduceLT, Int.reduceLE, Int.reduceEq, Int.reduceAdd, Int.reduceSub, Int.reduceMul, Int.reduceNeg, Int.reduceTMod, Int.reduceTDiv, List.replicate_zero, List.replicate_succ, Int.natCast_zero, placesK_zero]
    · rintro ⟨k, hk⟩
      refine wT_of TryEnv ?_
      have hv' := refValid17 x hx
      rw [hv] at hv'
      have hl := placesK_len (fun i => readyI x (i : Nat)) k
      have hb : ((placesK (fun i => readyI x (i : Nat)) k).length + 1) * 8 ≤ mostBytes := by simp only [mostBytes]; omega
      repeat' first
        | simp -implicitDefEqProofs only [go_sem, ↓reduceIte, Nat.reduceEqDiff, Nat.reduceAdd, Nat.reduceMul, Nat.reduceSub, Nat.reduceLeDiff, Nat.reduceLT, Nat.reducePow, reduceCtorEq, Int.reduceToNat, Int.reduceLT, Int.reduceLE, Int.reduceEq, Int.reduceAdd, Int.reduceSub, Int.reduceMul, Int.reduceNeg, Int.reduceTMod, Int.reduceTDiv, List.replicate_zero, List.replicate_succ]
        | (refine wCall_intro hv' ?_ ?_ ?_; rfl; decide)
        | refine Also.mk (by decide) ?_
        | refine wfork_intro (fun h3 => ?_) (fun h3 => ?_)
        | apply And.intro
        | (rename decide ((k : Int) < (x.tries.length : Int)) = true => h3
           have h3 : k < x.tries.length := by simp at h3; omega
           have hg : x.tries[k]? = some (x.tries.getD k .zero) := by rw [getD_of h3]; exact List.getElem?_eq_getElem h3
           have hgs : x.plan.steps[k]? = some (x.plan.steps.getD k .zero) := by rw [getD_of (by have := hw.stp; omega)]; exact List.getElem?_eq_getElem (by have := hw.stp; omega)
           simp -implicitDefEqProofs only [go_sem, ↓reduceIte, Nat.reduceEqDiff, Nat.reduceAdd, Nat.reduceMul, Nat.reduceSub, Nat.reduceLeDiff, Nat.reduceLT, Nat.reducePow, reduceCtorEq, Int.reduceToNat, Int.reduceLT, Int.reduceLE, Int.reduceEq, Int.reduceAdd, Int.reduceSub, Int.reduceMul, Int.reduceNeg, Int.reduceTMod, Int.reduceTDiv, List.replicate_zero, List.replicate_succ, hb, trs_get, stps_get, hg, hgs, Int.toNat_natCast, Int.natCast_nonneg, Int.natCast_zero])
        | (refine wCall_intro (refReady43 _ _ hx hw) ?_ ?_ ?_; rfl; decide)
      all_goals first
        | exact hb
        | exact List.length_map _
        | (have hp : (fun i => readyI x (i : Nat)) k = true := by assumption
           have hs := placesK_yes (p := (fun i => readyI x (i : Nat))) (k := k) hp
           rename decide ((k : Int) < (x.tries.length : Int)) = true => h4
           have h4 : k < x.tries.length := by simp at h4; omega
           refine ⟨⟨k + 1, by omega⟩, Wk.sub (by simp -implicitDefEqProofs only [go_sem, ↓reduceIte, Nat.reduceEqDiff, Nat.reduceAdd, Nat.reduceMul, Nat.reduceSub, Nat.reduceLeDiff, Nat.reduceLT, Nat.reducePow, reduceCtorEq, Int.reduceToNat, Int.reduceLT, Int.reduceLE, Int.reduceEq, Int.reduceAdd, Int.reduceSub, Int.reduceMul, Int.reduceNeg, Int.reduceTMod, Int.reduceTDiv, List.replicate_zero, List.replicate_succ, hs, List.length_append, ctr (show k ≤ 1000000 by omega)]) (by simp -implicitDefEqProofs only [go_sem, ↓reduceIte, Nat.reduceEqDiff, Nat.reduceAdd, Nat.reduceMul, Nat.reduceSub, Nat.reduceLeDiff, Nat.reduceLT, Nat.reducePow, reduceCtorEq, Int.reduceToNat, Int.reduceLT, Int.reduceLE, Int.reduceEq, Int.reduceAdd, Int.reduceSub, Int.reduceMul, Int.reduceNeg, Int.reduceTMod, Int.reduceTDiv, List.replicate_zero, List.replicate_succ, hs]) (by decide) (by decide) (by simp -implicitDefEqProofs only [go_sem, ↓reduceIte, Nat.reduceEqDiff, Nat.reduceAdd, Nat.reduceMul, Nat.reduceSub, Nat.reduceLeDiff, Nat.reduceLT, Nat.reducePow, reduceCtorEq, Int.reduceToNat, Int.reduceLT, Int.reduceLE, Int.reduceEq, Int.reduceAdd, Int.reduceSub, Int.reduceMul, Int.reduceNeg, Int.reduceTMod, Int.reduceTDiv, List.replicate_zero, List.replicate_succ]) (by simp -implicitDefEqProofs only [go_sem, ↓reduceIte, Nat.reduceEqDiff, Nat.reduceAdd, Nat.reduceMul, Nat.reduceSub, Nat.reduceLeDiff, Nat.reduceLT, Nat.reducePow, reduceCtorEq, Int.reduceToNat, Int.reduceLT, Int.reduceLE, Int.reduceEq, Int.reduceAdd, Int.reduceSub, Int.reduceMul, Int.reduceNeg, Int.reduceTMod, Int.reduceTDiv, List.replicate_zero, List.replicate_succ]), by simp; omega⟩)
        | (have hp : (fun i => readyI x (i : Nat)) k = false := by assumption
           have hs := placesK_no (p := (fun i => readyI x (i : Nat))) (k := k) hp
           rename decide ((k : Int) < (x.tries.length : Int)) = true => h4
           have h4 : k < x.tries.length := by simp at h4; omega
           refine ⟨⟨k + 1, by omega⟩, Wk.sub (by simp -implicitDefEqProofs only [go_sem, ↓reduceIte, Nat.reduceEqDiff, Nat.reduceAdd, Nat.reduceMul, Nat.reduceSub, Nat.reduceLeDiff, Nat.reduceLT, Nat.reducePow, reduceCtorEq, Int.reduceToNat, Int.reduceLT, Int.reduceLE, Int.reduceEq, Int.reduceAdd, Int.reduceSub, Int.reduceMul, Int.reduceNeg, Int.reduceTMod, Int.reduceTDiv, List.replicate_zero, List.replicate_succ, hs, List.length_append, ctr (show k ≤ 1000000 by omega)]) (by simp -implicitDefEqProofs only [go_sem, ↓reduceIte, Nat.reduceEqDiff, Nat.reduceAdd, Nat.reduceMul, Nat.reduceSub, Nat.reduceLeDiff, Nat.reduceLT, Nat.reducePow, reduceCtorEq, Int.reduceToNat, Int.reduceLT, Int.reduceLE, Int.reduceEq, Int.reduceAdd, Int.reduceSub, Int.reduceMul, Int.reduceNeg, Int.reduceTMod, Int.reduceTDiv, List.replicate_zero, List.replicate_succ, hs]) (by decide) (by decide) (by simp -implicitDefEqProofs only [go_sem, ↓reduceIte, Nat.reduceEqDiff, Nat.reduceAdd, Nat.reduceMul, Nat.reduceSub, Nat.reduceLeDiff, Nat.reduceLT, Nat.reducePow, reduceCtorEq, Int.reduceToNat, Int.reduceLT, Int.reduceLE, Int.reduceEq, Int.reduceAdd, Int.reduceSub, Int.reduceMul, Int.reduceNeg, Int.reduceTMod, Int.reduceTDiv, List.replicate_zero, List.replicate_succ]) (by simp -implicitDefEqProofs only [go_sem, ↓reduceIte, Nat.reduceEqDiff, Nat.reduceAdd, Nat.reduceMul, Nat.reduceSub, Nat.reduceLeDiff, Nat.reduceLT, Nat.reducePow, reduceCtorEq, Int.reduceToNat, Int.reduceLT, Int.reduceLE, Int.reduceEq, Int.reduceAdd, Int.reduceSub, Int.reduceMul, Int.reduceNeg, Int.reduceTMod, Int.reduceTDiv, List.replicate_zero, List.replicate_succ]), by simp; omega⟩)
        | (rename decide ((k : Int) < (x.tries.length : Int)) = false => h4
           have h4 : k = x.tries.length := by simp at h4; omega
           subst h4
           rw [hpl]
           exact .refl _)

theorem refDoneL27 (x : Ex) (hx : x.small) : Gives Try.prog 27 [.agg [.bool x.run, .bool x.stp, .sl 4 (stps x.plan.steps), .sl 1 (afts x.plan.after), .sl 3 (trs x.tries), .int .i64 x.next]] (.c (.d (.sl 1 (nums (doneL x))))) [] := by
  have hx2 := hx.2
  refine Gives.of_w TryEnv Try.func27 (by decide) TryL27_ok Try.ntmps27 (rs := [.tmp 2]) rfl (by simp) [] (by decide) ?_; rw [TryL27]
  simp -implicitDefEqProofs only [go_sem, ↓reduceIte, Nat.reduceEqDiff, Nat.reduceAdd, Nat.reduceMul, Nat.reduceSub, Nat.reduceLeDiff, Nat.reduceLT, Nat.reducePow, reduceCtorEq, Int.reduceToNat, Int.reduceLT, Int.reduceLE, Int.reduceEq, Int.reduceAdd, Int.reduceSub, Int.reduceMul, Int.reduceNeg, Int.reduceTMod, Int.reduceTDiv, List.replicate_zero, List.replicate_succ]
  refine wT_wk (Wk.nil (t := 3) 1 (by simp -implicitDefEqProofs only [go_sem, ↓reduceIte, Nat.reduceEqDiff, Nat.reduceAdd, Nat.reduceMul, Nat.reduceSub, Nat.reduceLeDiff, Nat.reduceLT, Nat.reducePow, reduceCtorEq, Int.reduceToNat, Int.reduceLT, Int.reduceLE, Int.reduceEq, Int.reduceAdd, Int.reduceSub, Int.reduceMul, Int.reduceNeg, Int.reduceTMod, Int.reduceTDiv, List.replicate_zero, List.replicate_succ])) ?_
  simp -implicitDefEqProofs only [go_sem, ↓reduceIte, Nat.reduceEqDiff, Nat.reduceAdd, Nat.reduceMul, Nat.reduceSub, Nat.reduceLeDiff, Nat.reduceLT, Nat.reducePow, reduceCtorEq, Int.reduceToNat, Int.reduceLT, Int.reduceLE, Int.reduceEq, Int.reduceAdd, Int.reduceSub, Int.reduceMul, Int.reduceNeg, Int.reduceTMod, Int.reduceTDiv, List.replicate_zero, List.replicate_succ]
  cases hv : validN x with
  | false =>
    have hpl : doneL x = [] := by simp [doneL, placesN, hv]
    refine wT_loop (fun k : Unit => ⟨[(1, .c (.ptr 0 0)), (3, .c (.ref 16 0 0 0)), (4, .c (.d (.int .i64 0)))], [(0, .box [.d (.bool x.run), .d (.bool x.stp), .d (.sl 4 (stps x.plan.steps)), .d (.sl 1 (afts x.plan.after)), .d (.sl 3 (trs x.tries)), .d (.int .i64 x.next)]), (16, .sl 1 [] false)], 17⟩) (fun _ => 0) () ?_ ?_
    · refine Wk.sub ?_ ?_ (by decide) (by decide) ?_ ?_
      all_goals simp -implicitDefEqProofs only [go_sem, ↓reduceIte, Nat.reduceEqDiff, Nat.reduceAdd, Nat.reduceMul, Nat.reduceSub, Nat.reduceLeDiff, Nat.reduceLT, Nat.reducePow, reduceCtorEq, Int.reduceToNat, Int.reduceLT, Int.reduceLE, Int.reduceEq, Int.reduceAdd, Int.reduceSub, Int.reduceMul, Int.reduceNeg, Int.reduceTMod, Int.reduceTDiv, List.replicate_zero, List.replicate_succ]
    · rintro ⟨⟩
      refine wT_of TryEnv ?_
      have hv' := refValid17 x hx
      rw [hv] at hv'
      repeat' first
        | simp -implicitDefEqProofs only [go_sem, ↓reduceIte, Nat.reduceEqDiff, Nat.reduceAdd, Nat.reduceMul, Nat.reduceSub, Nat.reduceLeDiff, Nat.reduceLT, Nat.reducePow, reduceCtorEq, Int.reduceToNat, Int.reduceLT, Int.reduceLE, Int.reduceEq, Int.reduceAdd, Int.reduceSub, Int.reduceMul, Int.reduceNeg, Int.reduceTMod, Int.reduceTDiv, List.replicate_zero, List.replicate_succ]
        | (refine wCall_intro hv' ?_ ?_ ?_; rfl; decide)
        | refine Also.mk (by decide) ?_
        | refine wfork_intro (fun h => ?_) (fun h => ?_)
        | apply And.intro
      all_goals rw [hpl]
      all_goals exact .refl _
  | true =>
    have hw := validN_wf hv
    have hpl : doneL x = placesK (fun i => doneT (x.tries.getD i .zero)) x.tries.length := by simp [doneL, placesN, hv]
    refine wT_loop (fun k : { k : Nat // k ≤ x.tries.length } => ⟨[(1, .c (.ptr 0 0)), (3, .c (.ref 16 (placesK (fun i => doneT (x.tries.getD i .zero)) k.1).length 0 (placesK (fun i => doneT (x.tries.getD i .zero)) k.1).length)), (4, .c (.d (.int .i64 (k.1 : Nat))))],
      [(0, .box [.d (.bool x.run), .d (.bool x.stp), .d (.sl 4 (stps x.plan.steps)), .d (.sl 1 (afts x.plan.after)), .d (.sl 3 (trs x.tries)), .d (.int .i64 x.next)]), (16, .sl 1 (nums (placesK (fun i => doneT (x.tries.getD i .zero)) k.1)) false)], 17⟩) (fun k => x.tries.length - k.1) ⟨0, by simp⟩ ?_ ?_
    · refine Wk.sub ?_ ?_ (by decide) (by decide) ?_ ?_
      all_goals simp -implicitDefEqProofs only [go_sem, ↓reduceIte, Nat.reduceEqDiff, Nat.reduceAdd, Nat.reduceMul, Nat.reduceSub, Nat.reduceLeDiff, Nat.reduceLT, Nat.reducePow, reduceCtorEq, Int.reduceToNat, Int.reduceLT, Int.reduceLE, Int.reduceEq, Int.reduceAdd, Int.reduceSub, Int.reduceMul, Int.reduceNeg, Int.reduceTMod, Int.reduceTDiv, List.replicate_zero, List.replicate_succ, Int.natCast_zero, placesK_zero]
    · rintro ⟨k, hk⟩
      refine wT_of TryEnv ?_
      have hv' := refValid17 x hx
      rw [hv] at hv'
      have hl := placesK_len (fun i => doneT (x.tries.getD i .zero)) k
      have hb : ((placesK (fun i => doneT (x.tries.getD i .zero)) k).length + 1) * 8 ≤ mostBytes := by simp only [mostBytes]; omega
      repeat' first
        | simp -implicitDefEqProofs only [go_sem, ↓reduceIte, Nat.reduceEqDiff, Nat.reduceAdd, Nat.reduceMul, Nat.reduceSub, Nat.reduceLeDiff, Nat.reduceLT, Nat.reducePow, reduceCtorEq, Int.reduceToNat, Int.reduceLT, Int.reduceLE, Int.reduceEq, Int.reduceAdd, Int.reduceSub, Int.reduceMul, Int.reduceNeg, Int.reduceTMod, Int.reduceTDiv, List.replicate_zero, List.replicate_succ]
        | (refine wCall_intro hv' ?_ ?_ ?_; rfl; decide)
        | refine Also.mk (by decide) ?_
        | refine wfork_intro (fun h3 => ?_) (fun h3 => ?_)
        | apply And.intro
        | (rename decide ((k : Int) < (x.tries.length : Int)) = true => h3
           have h3 : k < x.tries.length := by simp at h3; omega
           have hg : x.tries[k]? = some (x.tries.getD k .zero) := by rw [getD_of h3]; exact List.getElem?_eq_getElem h3
           have hgs : x.plan.steps[k]? = some (x.plan.steps.getD k .zero) := by rw [getD_of (by have := hw.stp; omega)]; exact List.getElem?_eq_getElem (by have := hw.stp; omega)
           simp -implicitDefEqProofs only [go_sem, ↓reduceIte, Nat.reduceEqDiff, Nat.reduceAdd, Nat.reduceMul, Nat.reduceSub, Nat.reduceLeDiff, Nat.reduceLT, Nat.reducePow, reduceCtorEq, Int.reduceToNat, Int.reduceLT, Int.reduceLE, Int.reduceEq, Int.reduceAdd, Int.reduceSub, Int.reduceMul, Int.reduceNeg, Int.reduceTMod, Int.reduceTDiv, List.replicate_zero, List.replicate_succ, hb, trs_get, stps_get, hg, hgs, Int.toNat_natCast, Int.natCast_nonneg, Int.natCast_zero])
        | (fail; rfl; decide)
      all_goals first
        | exact hb
        | exact List.length_map _
        | (have hp : (fun i => doneT (x.tries.getD i .zero)) k = true := by (simp only [doneT]; assumption)
           have hs := placesK_yes (p := (fun i => doneT (x.tries.getD i .zero))) (k := k) hp
           rename decide ((k : Int) < (x.tries.length : Int)) = true => h4
           have h4 : k < x.tries.length := by simp at h4; omega
           refine ⟨⟨k + 1, by omega⟩, Wk.sub (by simp -implicitDefEqProofs only [go_sem, ↓reduceIte, Nat.reduceEqDiff, Nat.reduceAdd, Nat.reduceMul, Nat.reduceSub, Nat.reduceLeDiff, Nat.reduceLT, Nat.reducePow, reduceCtorEq, Int.reduceToNat, Int.reduceLT, Int.reduceLE, Int.reduceEq, Int.reduceAdd, Int.reduceSub, Int.reduceMul, Int.reduceNeg, Int.reduceTMod, Int.reduceTDiv, List.replicate_zero, List.replicate_succ, hs, List.length_append, ctr (show k ≤ 1000000 by omega)]) (by simp -implicitDefEqProofs only [go_sem, ↓reduceIte, Nat.reduceEqDiff, Nat.reduceAdd, Nat.reduceMul, Nat.reduceSub, Nat.reduceLeDiff, Nat.reduceLT, Nat.reducePow, reduceCtorEq, Int.reduceToNat, Int.reduceLT, Int.reduceLE, Int.reduceEq, Int.reduceAdd, Int.reduceSub, Int.reduceMul, Int.reduceNeg, Int.reduceTMod, Int.reduceTDiv, List.replicate_zero, List.replicate_succ, hs]) (by decide) (by decide) (by simp -implicitDefEqProofs only [go_sem, ↓reduceIte, Nat.reduceEqDiff, Nat.reduceAdd, Nat.reduceMul, Nat.reduceSub, Nat.reduceLeDiff, Nat.reduceLT, Nat.reducePow, reduceCtorEq, Int.reduceToNat, Int.reduceLT, Int.reduceLE, Int.reduceEq, Int.reduceAdd, Int.reduceSub, Int.reduceMul, Int.reduceNeg, Int.reduceTMod, Int.reduceTDiv, List.replicate_zero, List.replicate_succ]) (by simp -implicitDefEqProofs only [go_sem, ↓reduceIte, Nat.reduceEqDiff, Nat.reduceAdd, Nat.reduceMul, Nat.reduceSub, Nat.reduceLeDiff, Nat.reduceLT, Nat.reducePow, reduceCtorEq, Int.reduceToNat, Int.reduceLT, Int.reduceLE, Int.reduceEq, Int.reduceAdd, Int.reduceSub, Int.reduceMul, Int.reduceNeg, Int.reduceTMod, Int.reduceTDiv, List.replicate_zero, List.replicate_succ]), by simp; omega⟩)
        | (have hp : (fun i => doneT (x.tries.getD i .zero)) k = false := by (simp only [doneT]; assumption)
           have hs := placesK_no (p := (fun i => doneT (x.tries.getD i .zero))) (k := k) hp
           rename decide ((k : Int) < (x.tries.length : Int)) = true => h4
           have h4 : k < x.tries.length := by simp at h4; omega
           refine ⟨⟨k + 1, by omega⟩, Wk.sub (by simp -implicitDefEqProofs only [go_sem, ↓reduceIte, Nat.reduceEqDiff, Nat.reduceAdd, Nat.reduceMul, Nat.reduceSub, Nat.reduceLeDiff, Nat.reduceLT, Nat.reducePow, reduceCtorEq, Int.reduceToNat, Int.reduceLT, Int.reduceLE, Int.reduceEq, Int.reduceAdd, Int.reduceSub, Int.reduceMul, Int.reduceNeg, Int.reduceTMod, Int.reduceTDiv, List.replicate_zero, List.replicate_succ, hs, List.length_append, ctr (show k ≤ 1000000 by omega)]) (by simp -implicitDefEqProofs only [go_sem, ↓reduceIte, Nat.reduceEqDiff, Nat.reduceAdd, Nat.reduceMul, Nat.reduceSub, Nat.reduceLeDiff, Nat.reduceLT, Nat.reducePow, reduceCtorEq, Int.reduceToNat, Int.reduceLT, Int.reduceLE, Int.reduceEq, Int.reduceAdd, Int.reduceSub, Int.reduceMul, Int.reduceNeg, Int.reduceTMod, Int.reduceTDiv, List.replicate_zero, List.replicate_succ, hs]) (by decide) (by decide) (by simp -implicitDefEqProofs only [go_sem, ↓reduceIte, Nat.reduceEqDiff, Nat.reduceAdd, Nat.reduceMul, Nat.reduceSub, Nat.reduceLeDiff, Nat.reduceLT, Nat.reducePow, reduceCtorEq, Int.reduceToNat, Int.reduceLT, Int.reduceLE, Int.reduceEq, Int.reduceAdd, Int.reduceSub, Int.reduceMul, Int.reduceNeg, Int.reduceTMod, Int.reduceTDiv, List.replicate_zero, List.replicate_succ]) (by simp -implicitDefEqProofs only [go_sem, ↓reduceIte, Nat.reduceEqDiff, Nat.reduceAdd, Nat.reduceMul, Nat.reduceSub, Nat.reduceLeDiff, Nat.reduceLT, Nat.reducePow, reduceCtorEq, Int.reduceToNat, Int.reduceLT, Int.reduceLE, Int.reduceEq, Int.reduceAdd, Int.reduceSub, Int.reduceMul, Int.reduceNeg, Int.reduceTMod, Int.reduceTDiv, List.replicate_zero, List.replicate_succ]), by simp; omega⟩)
        | (rename decide ((k : Int) < (x.tries.length : Int)) = false => h4
           have h4 : k = x.tries.length := by simp at h4; omega
           subst h4
           rw [hpl]
           exact .refl _)

theorem refOpenL25 (x : Ex) (hx : x.small) : Gives Try.prog 25 [.agg [.bool x.run, .bool x.stp, .sl 4 (stps x.plan.steps), .sl 1 (afts x.plan.after), .sl 3 (trs x.tries), .int .i64 x.next]] (.c (.d (.sl 6 (rqs (openN x))))) [] := by
  have hx2 := hx.2
  refine Gives.of_w TryEnv Try.func25 (by decide) TryL25_ok Try.ntmps25 (rs := [.tmp 2]) rfl (by simp) [] (by decide) ?_; rw [TryL25]
  simp -implicitDefEqProofs only [go_sem, ↓reduceIte, Nat.reduceEqDiff, Nat.reduceAdd, Nat.reduceMul, Nat.reduceSub, Nat.reduceLeDiff, Nat.reduceLT, Nat.reducePow, reduceCtorEq, Int.reduceToNat, Int.reduceLT, Int.reduceLE, Int.reduceEq, Int.reduceAdd, Int.reduceSub, Int.reduceMul, Int.reduceNeg, Int.reduceTMod, Int.reduceTDiv, List.replicate_zero, List.replicate_succ]
  refine wT_wk (Wk.nil (t := 3) 6 (by simp -implicitDefEqProofs only [go_sem, ↓reduceIte, Nat.reduceEqDiff, Nat.reduceAdd, Nat.reduceMul, Nat.reduceSub, Nat.reduceLeDiff, Nat.reduceLT, Nat.reducePow, reduceCtorEq, Int.reduceToNat, Int.reduceLT, Int.reduceLE, Int.reduceEq, Int.reduceAdd, Int.reduceSub, Int.reduceMul, Int.reduceNeg, Int.reduceTMod, Int.reduceTDiv, List.replicate_zero, List.replicate_succ])) ?_
  simp -implicitDefEqProofs only [go_sem, ↓reduceIte, Nat.reduceEqDiff, Nat.reduceAdd, Nat.reduceMul, Nat.reduceSub, Nat.reduceLeDiff, Nat.reduceLT, Nat.reducePow, reduceCtorEq, Int.reduceToNat, Int.reduceLT, Int.reduceLE, Int.reduceEq, Int.reduceAdd, Int.reduceSub, Int.reduceMul, Int.reduceNeg, Int.reduceTMod, Int.reduceTDiv, List.replicate_zero, List.replicate_succ]
  cases hv : validN x with
  | false =>
    have hpl : openN x = [] := by simp [openN, openL, placesN, hv]
    refine wT_loop (fun k : Unit => ⟨[(1, .c (.ptr 0 0)), (3, .c (.ref 16 0 0 0)), (4, .c (.d (.int .i64 0)))], [(0, .box [.d (.bool x.run), .d (.bool x.stp), .d (.sl 4 (stps x.plan.steps)), .d (.sl 1 (afts x.plan.after)), .d (.sl 3 (trs x.tries)), .d (.int .i64 x.next)]), (16, .sl 6 [] false)], 17⟩) (fun _ => 0) () ?_ ?_
    · refine Wk.sub ?_ ?_ (by decide) (by decide) ?_ ?_
      all_goals simp -implicitDefEqProofs only [go_sem, ↓reduceIte, Nat.reduceEqDiff, Nat.reduceAdd, Nat.reduceMul, Nat.reduceSub, Nat.reduceLeDiff, Nat.reduceLT, Nat.reducePow, reduceCtorEq, Int.reduceToNat, Int.reduceLT, Int.reduceLE, Int.reduceEq, Int.reduceAdd, Int.reduceSub, Int.reduceMul, Int.reduceNeg, Int.reduceTMod, Int.reduceTDiv, List.replicate_zero, List.replicate_succ]
    · rintro ⟨⟩
      refine wT_of TryEnv ?_
      have hv' := refValid17 x hx
      rw [hv] at hv'
      repeat' first
        | simp -implicitDefEqProofs only [go_sem, ↓reduceIte, Nat.reduceEqDiff, Nat.reduceAdd, Nat.reduceMul, Nat.reduceSub, Nat.reduceLeDiff, Nat.reduceLT, Nat.reducePow, reduceCtorEq, Int.reduceToNat, Int.reduceLT, Int.reduceLE, Int.reduceEq, Int.reduceAdd, Int.reduceSub, Int.reduceMul, Int.reduceNeg, Int.reduceTMod, Int.reduceTDiv, List.replicate_zero, List.replicate_succ]
        | (refine wCall_intro hv' ?_ ?_ ?_; rfl; decide)
        | refine Also.mk (by decide) ?_
        | refine wfork_intro (fun h => ?_) (fun h => ?_)
        | apply And.intro
      all_goals rw [hpl]
      all_goals exact .refl _
  | true =>
    have hw := validN_wf hv
    have hpl : openN x = (placesK (fun i => openT (x.tries.getD i .zero)) x.tries.length).map (rqOf x) := by simp [openN, openL, placesN, hv]
    refine wT_loop (fun k : { k : Nat // k ≤ x.tries.length } => ⟨[(1, .c (.ptr 0 0)), (3, .c (.ref 16 (placesK (fun i => openT (x.tries.getD i .zero)) k.1).length 0 (placesK (fun i => openT (x.tries.getD i .zero)) k.1).length)), (4, .c (.d (.int .i64 (k.1 : Nat))))],
      [(0, .box [.d (.bool x.run), .d (.bool x.stp), .d (.sl 4 (stps x.plan.steps)), .d (.sl 1 (afts x.plan.after)), .d (.sl 3 (trs x.tries)), .d (.int .i64 x.next)]), (16, .sl 6 (rqs ((placesK (fun i => openT (x.tries.getD i .zero)) k.1).map (rqOf x))) false)], 17⟩) (fun k => x.tries.length - k.1) ⟨0, by simp⟩ ?_ ?_
    · refine Wk.sub ?_ ?_ (by decide) (by decide) ?_ ?_
      all_goals simp -implicitDefEqProofs only [go_sem, ↓reduceIte, Nat.reduceEqDiff, Nat.reduceAdd, Nat.reduceMul, Nat.reduceSub, Nat.reduceLeDiff, Nat.reduceLT, Nat.reducePow, reduceCtorEq, Int.reduceToNat, Int.reduceLT, Int.reduceLE, Int.reduceEq, Int.reduceAdd, Int.reduceSub, Int.reduceMul, Int.reduceNeg, Int.reduceTMod, Int.reduceTDiv, List.replicate_zero, List.replicate_succ, Int.natCast_zero, placesK_zero]
    · rintro ⟨k, hk⟩
      refine wT_of TryEnv ?_
      have hv' := refValid17 x hx
      rw [hv] at hv'
      have hl := placesK_len (fun i => openT (x.tries.getD i .zero)) k
      have hb : ((placesK (fun i => openT (x.tries.getD i .zero)) k).length + 1) * 48 ≤ mostBytes := by simp only [mostBytes]; omega
      repeat' first
        | simp -implicitDefEqProofs only [go_sem, ↓reduceIte, Nat.reduceEqDiff, Nat.reduceAdd, Nat.reduceMul, Nat.reduceSub, Nat.reduceLeDiff, Nat.reduceLT, Nat.reducePow, reduceCtorEq, Int.reduceToNat, Int.reduceLT, Int.reduceLE, Int.reduceEq, Int.reduceAdd, Int.reduceSub, Int.reduceMul, Int.reduceNeg, Int.reduceTMod, Int.reduceTDiv, List.replicate_zero, List.replicate_succ]
        | (refine wCall_intro hv' ?_ ?_ ?_; rfl; decide)
        | refine Also.mk (by decide) ?_
        | refine wfork_intro (fun h3 => ?_) (fun h3 => ?_)
        | apply And.intro
        | (rename decide ((k : Int) < (x.tries.length : Int)) = true => h3
           have h3 : k < x.tries.length := by simp at h3; omega
           have hg : x.tries[k]? = some (x.tries.getD k .zero) := by rw [getD_of h3]; exact List.getElem?_eq_getElem h3
           have hgs : x.plan.steps[k]? = some (x.plan.steps.getD k .zero) := by rw [getD_of (by have := hw.stp; omega)]; exact List.getElem?_eq_getElem (by have := hw.stp; omega)
           simp -implicitDefEqProofs only [go_sem, ↓reduceIte, Nat.reduceEqDiff, Nat.reduceAdd, Nat.reduceMul, Nat.reduceSub, Nat.reduceLeDiff, Nat.reduceLT, Nat.reducePow, reduceCtorEq, Int.reduceToNat, Int.reduceLT, Int.reduceLE, Int.reduceEq, Int.reduceAdd, Int.reduceSub, Int.reduceMul, Int.reduceNeg, Int.reduceTMod, Int.reduceTDiv, List.replicate_zero, List.replicate_succ, hb, trs_get, stps_get, hg, hgs, Int.toNat_natCast, Int.natCast_nonneg, Int.natCast_zero])
        | (refine wCall_intro (open54 _) ?_ ?_ ?_; rfl; decide)
      all_goals first
        | exact hb
        | exact List.length_map _
        | (have hp : (fun i => openT (x.tries.getD i .zero)) k = true := by assumption
           have hs := placesK_yes (p := (fun i => openT (x.tries.getD i .zero))) (k := k) hp
           rename decide ((k : Int) < (x.tries.length : Int)) = true => h4
           have h4 : k < x.tries.length := by simp at h4; omega
           refine ⟨⟨k + 1, by omega⟩, Wk.sub (by simp -implicitDefEqProofs only [go_sem, ↓reduceIte, Nat.reduceEqDiff, Nat.reduceAdd, Nat.reduceMul, Nat.reduceSub, Nat.reduceLeDiff, Nat.reduceLT, Nat.reducePow, reduceCtorEq, Int.reduceToNat, Int.reduceLT, Int.reduceLE, Int.reduceEq, Int.reduceAdd, Int.reduceSub, Int.reduceMul, Int.reduceNeg, Int.reduceTMod, Int.reduceTDiv, List.replicate_zero, List.replicate_succ, hs, List.length_append, ctr (show k ≤ 1000000 by omega)]) (by simp -implicitDefEqProofs only [go_sem, ↓reduceIte, Nat.reduceEqDiff, Nat.reduceAdd, Nat.reduceMul, Nat.reduceSub, Nat.reduceLeDiff, Nat.reduceLT, Nat.reducePow, reduceCtorEq, Int.reduceToNat, Int.reduceLT, Int.reduceLE, Int.reduceEq, Int.reduceAdd, Int.reduceSub, Int.reduceMul, Int.reduceNeg, Int.reduceTMod, Int.reduceTDiv, List.replicate_zero, List.replicate_succ, hs, List.map_append, rqOf, List.map_cons, List.map_nil, Int.toNat_natCast, ← rqs_snoc]) (by decide) (by decide) (by simp -implicitDefEqProofs only [go_sem, ↓reduceIte, Nat.reduceEqDiff, Nat.reduceAdd, Nat.reduceMul, Nat.reduceSub, Nat.reduceLeDiff, Nat.reduceLT, Nat.reducePow, reduceCtorEq, Int.reduceToNat, Int.reduceLT, Int.reduceLE, Int.reduceEq, Int.reduceAdd, Int.reduceSub, Int.reduceMul, Int.reduceNeg, Int.reduceTMod, Int.reduceTDiv, List.replicate_zero, List.replicate_succ]) (by simp -implicitDefEqProofs only [go_sem, ↓reduceIte, Nat.reduceEqDiff, Nat.reduceAdd, Nat.reduceMul, Nat.reduceSub, Nat.reduceLeDiff, Nat.reduceLT, Nat.reducePow, reduceCtorEq, Int.reduceToNat, Int.reduceLT, Int.reduceLE, Int.reduceEq, Int.reduceAdd, Int.reduceSub, Int.reduceMul, Int.reduceNeg, Int.reduceTMod, Int.reduceTDiv, List.replicate_zero, List.replicate_succ]), by simp; omega⟩)
        | (have hp : (fun i => openT (x.tries.getD i .zero)) k = false := by assumption
           have hs := placesK_no (p := (fun i => openT (x.tries.getD i .zero))) (k := k) hp
           rename decide ((k : Int) < (x.tries.length : Int)) = true => h4
           have h4 : k < x.tries.length := by simp at h4; omega
           refine ⟨⟨k + 1, by omega⟩, Wk.sub (by simp -implicitDefEqProofs only [go_sem, ↓reduceIte, Nat.reduceEqDiff, Nat.reduceAdd, Nat.reduceMul, Nat.reduceSub, Nat.reduceLeDiff, Nat.reduceLT, Nat.reducePow, reduceCtorEq, Int.reduceToNat, Int.reduceLT, Int.reduceLE, Int.reduceEq, Int.reduceAdd, Int.reduceSub, Int.reduceMul, Int.reduceNeg, Int.reduceTMod, Int.reduceTDiv, List.replicate_zero, List.replicate_succ, hs, List.length_append, ctr (show k ≤ 1000000 by omega)]) (by simp -implicitDefEqProofs only [go_sem, ↓reduceIte, Nat.reduceEqDiff, Nat.reduceAdd, Nat.reduceMul, Nat.reduceSub, Nat.reduceLeDiff, Nat.reduceLT, Nat.reducePow, reduceCtorEq, Int.reduceToNat, Int.reduceLT, Int.reduceLE, Int.reduceEq, Int.reduceAdd, Int.reduceSub, Int.reduceMul, Int.reduceNeg, Int.reduceTMod, Int.reduceTDiv, List.replicate_zero, List.replicate_succ, hs]) (by decide) (by decide) (by simp -implicitDefEqProofs only [go_sem, ↓reduceIte, Nat.reduceEqDiff, Nat.reduceAdd, Nat.reduceMul, Nat.reduceSub, Nat.reduceLeDiff, Nat.reduceLT, Nat.reducePow, reduceCtorEq, Int.reduceToNat, Int.reduceLT, Int.reduceLE, Int.reduceEq, Int.reduceAdd, Int.reduceSub, Int.reduceMul, Int.reduceNeg, Int.reduceTMod, Int.reduceTDiv, List.replicate_zero, List.replicate_succ]) (by simp -implicitDefEqProofs only [go_sem, ↓reduceIte, Nat.reduceEqDiff, Nat.reduceAdd, Nat.reduceMul, Nat.reduceSub, Nat.reduceLeDiff, Nat.reduceLT, Nat.reducePow, reduceCtorEq, Int.reduceToNat, Int.reduceLT, Int.reduceLE, Int.reduceEq, Int.reduceAdd, Int.reduceSub, Int.reduceMul, Int.reduceNeg, Int.reduceTMod, Int.reduceTDiv, List.replicate_zero, List.replicate_succ]), by simp; omega⟩)
        | (rename decide ((k : Int) < (x.tries.length : Int)) = false => h4
           have h4 : k = x.tries.length := by simp at h4; omega
           subst h4
           try rw [hpl]
           first
             | exact .refl _
             | (simp; done)
             | (have hr : ∀ l : List Rq, (rqs l).take l.length = rqs l := fun l => List.take_of_length_le (by simp [rqs])
                have hr := hr ((placesK (fun i => openT (x.tries.getD i .zero)) x.tries.length).map (rqOf x))
                rw [List.length_map] at hr
                rw [hr]
                exact .refl _))

theorem refComplete29 (x : Ex) (hx : x.small) : Gives Try.prog 29 [.agg [.bool x.run, .bool x.stp, .sl 4 (stps x.plan.steps), .sl 1 (afts x.plan.after), .sl 3 (trs x.tries), .int .i64 x.next]] (.c (.d (.bool (validN x && decide ((doneL x).length = x.tries.length))))) [] := by
  refine Gives.of_w TryEnv Try.func29 (by decide) TryL29_ok Try.ntmps29 (rs := [.tmp 2]) rfl (by simp) [] (by decide) ?_; rw [TryL29]
  repeat' first
    | simp -implicitDefEqProofs only [go_sem, ↓reduceIte, Nat.reduceEqDiff, Nat.reduceAdd, Nat.reduceMul, Nat.reduceSub, Nat.reduceLeDiff, Nat.reduceLT, Nat.reducePow, reduceCtorEq, Int.reduceToNat, Int.reduceLT, Int.reduceLE, Int.reduceEq, Int.reduceAdd, Int.reduceSub, Int.reduceMul, Int.reduceNeg, Int.reduceTMod, Int.reduceTDiv, List.replicate_zero, List.replicate_succ]
    | (refine wCall_intro (refValid17 _ hx) ?_ ?_ ?_; rfl; decide)
    | (refine wCall_intro (refDoneL27 _ hx) ?_ ?_ ?_; rfl; decide)
    | refine Also.mk (by decide) ?_
    | refine wfork_intro (fun h => ?_) (fun h => ?_)
  all_goals refine DLe.of_eq ?_
  all_goals simp [*]
  all_goals omega

end Go.Proofs.Ytbdodpippgakjaa

namespace Go.Proofs.Ytbdodpippgakjaa
open Go Go.Vs Go.Proofs

/-! ### Lists that are handed over -/

theorem idx1 (a : Nat) : List.idxOf a [a] = 0 := by simp

theorem clone41R_slE : Gives Try.prog 41 [.c (.slE 3)] (.c (.ref 0 0 0 0)) [.sl 3 [] false] := by
  refine Gives.of_w TryEnv Try.func41 (by decide) TryL41_ok Try.ntmps41 (rs := [.tmp 2]) rfl (by simp) [12] (by decide) ?_; rw [TryL41]
  simp -implicitDefEqProofs only [go_sem, ↓reduceIte, Nat.reduceEqDiff, Nat.reduceAdd, Nat.reduceMul, Nat.reduceSub, Nat.reduceLeDiff, Nat.reduceLT, Nat.reducePow, reduceCtorEq, Int.reduceToNat, Int.reduceLT, Int.reduceLE, Int.reduceEq, Int.reduceAdd, Int.reduceSub, Int.reduceMul, Int.reduceNeg, Int.reduceTMod, Int.reduceTDiv, List.replicate_zero, List.replicate_succ, List.contains_cons, Option.bind_some, idx1]
theorem clone41R_cons (e : List D) (es : List (List D)) (h : (es.length + 1) * 24 ≤ mostBytes) : Gives Try.prog 41 [.c (.sl 3 (e :: es))] (.c (.ref 0 (es.length + 1) 0 (es.length + 1))) [.sl 3 (e :: es) false] := by
  refine Gives.of_w TryEnv Try.func41 (by decide) TryL41_ok Try.ntmps41 (rs := [.tmp 2]) rfl (by simp) [12] (by decide) ?_; rw [TryL41]
  simp -implicitDefEqProofs only [go_sem, ↓reduceIte, Nat.reduceEqDiff, Nat.reduceAdd, Nat.reduceMul, Nat.reduceSub, Nat.reduceLeDiff, Nat.reduceLT, Nat.reducePow, reduceCtorEq, Int.reduceToNat, Int.reduceLT, Int.reduceLE, Int.reduceEq, Int.reduceAdd, Int.reduceSub, Int.reduceMul, Int.reduceNeg, Int.reduceTMod, Int.reduceTDiv, List.replicate_zero, List.replicate_succ, h, List.contains_cons, Option.bind_some, idx1]
theorem clone41R (l : List Tr) (h : l.length ≤ 1000000) : Gives Try.prog 41 [.c (.sl 3 (trs l))] (.c (.ref 0 l.length 0 l.length)) [.sl 3 (trs l) false] := by
  cases l with
  | nil => exact Gives.empty (clone41_nil.nilRef 3) clone41R_slE
  | cons s l =>
    have := clone41R_cons [.int .i64 s.id, .int .i64 s.lease, .int .u8 s.ans] (trs l) (by simp only [trs_length, mostBytes, List.length_cons] at *; omega)
    rw [trs_length] at this
    exact this

theorem effects42 : Gives Try.prog 42 [] (.c (.d (.mp [(.int .u8 1, .fn 60 []), (.int .u8 2, .fn 61 []), (.int .u8 3, .fn 62 []), (.int .u8 4, .fn 65 []), (.int .u8 5, .fn 66 [])]))) [] := by
  refine Gives.of_wT TryEnv Try.func42 (by decide) TryL42_ok Try.ntmps42 (rs := [.tmp 0]) rfl (by simp) [] (by decide) ?_; rw [TryL42]
  refine wT_seq (wT_of TryEnv ?_)
  simp -implicitDefEqProofs only [go_sem, ↓reduceIte, Nat.reduceEqDiff, Nat.reduceAdd, Nat.reduceMul, Nat.reduceSub, Nat.reduceLeDiff, Nat.reduceLT, Nat.reducePow, reduceCtorEq, Int.reduceToNat, Int.reduceLT, Int.reduceLE, Int.reduceEq, Int.reduceAdd, Int.reduceSub, Int.reduceMul, Int.reduceNeg, Int.reduceTMod, Int.reduceTDiv, List.replicate_zero, List.replicate_succ]
  refine wT_seq (wT_of TryEnv ?_)
  simp -implicitDefEqProofs only [go_sem, ↓reduceIte, Nat.reduceEqDiff, Nat.reduceAdd, Nat.reduceMul, Nat.reduceSub, Nat.reduceLeDiff, Nat.reduceLT, Nat.reducePow, reduceCtorEq, Int.reduceToNat, Int.reduceLT, Int.reduceLE, Int.reduceEq, Int.reduceAdd, Int.reduceSub, Int.reduceMul, Int.reduceNeg, Int.reduceTMod, Int.reduceTDiv, List.replicate_zero, List.replicate_succ]
  refine wT_wk (Wk.mapData (t := 0) (b := 4) (by simp -implicitDefEqProofs only [go_sem, ↓reduceIte, Nat.reduceEqDiff, Nat.reduceAdd, Nat.reduceMul, Nat.reduceSub, Nat.reduceLeDiff, Nat.reduceLT, Nat.reducePow, reduceCtorEq, Int.reduceToNat, Int.reduceLT, Int.reduceLE, Int.reduceEq, Int.reduceAdd, Int.reduceSub, Int.reduceMul, Int.reduceNeg, Int.reduceTMod, Int.reduceTDiv, List.replicate_zero, List.replicate_succ]) rfl) ?_
  refine wT_of TryEnv ?_
  simp -implicitDefEqProofs only [go_sem, ↓reduceIte, Nat.reduceEqDiff, Nat.reduceAdd, Nat.reduceMul, Nat.reduceSub, Nat.reduceLeDiff, Nat.reduceLT, Nat.reducePow, reduceCtorEq, Int.reduceToNat, Int.reduceLT, Int.reduceLE, Int.reduceEq, Int.reduceAdd, Int.reduceSub, Int.reduceMul, Int.reduceNeg, Int.reduceTMod, Int.reduceTDiv, List.replicate_zero, List.replicate_succ]

theorem own12R_nil (x : Ex) (hx : x.small) (hs : x.tries = []) : Gives Try.prog 12 [.agg [.bool x.run, .bool x.stp, .sl 4 (stps x.plan.steps), .sl 1 (afts x.plan.after), .sl 3 (trs x.tries), .int .i64 x.next]] (.agg [.d (.bool x.run), .d (.bool x.stp), .d (.sl 4 (stps x.plan.steps)), .d (.sl 1 (afts x.plan.after)), .d .nilSl, .d (.int .i64 x.next)]) [] := by
  obtain ⟨hx1, hx2⟩ := hx
  refine Gives.of_w TryEnv Try.func12 (by decide) TryL12_ok Try.ntmps12 (rs := [.cell 2 28]) rfl (by simp) [] (by decide) ?_; rw [TryL12]
  have hs : (x.tries = []) = True := by simp [hs]
  repeat' first
    | simp -implicitDefEqProofs only [go_sem, ↓reduceIte, Nat.reduceEqDiff, Nat.reduceAdd, Nat.reduceMul, Nat.reduceSub, Nat.reduceLeDiff, Nat.reduceLT, Nat.reducePow, reduceCtorEq, Int.reduceToNat, Int.reduceLT, Int.reduceLE, Int.reduceEq, Int.reduceAdd, Int.reduceSub, Int.reduceMul, Int.reduceNeg, Int.reduceTMod, Int.reduceTDiv, List.replicate_zero, List.replicate_succ, hs]
    | (refine wCall_intro (plan39 _ ?_) ?_ ?_ ?_; assumption; rfl; decide)
theorem own12R (x : Ex) (hx : x.small) : Gives Try.prog 12 [.agg [.bool x.run, .bool x.stp, .sl 4 (stps x.plan.steps), .sl 1 (afts x.plan.after), .sl 3 (trs x.tries), .int .i64 x.next]] (.agg [.d (.bool x.run), .d (.bool x.stp), .d (.sl 4 (stps x.plan.steps)), .d (.sl 1 (afts x.plan.after)), .ref 0 x.tries.length 0 x.tries.length, .d (.int .i64 x.next)]) [.sl 3 (trs x.tries) false] := by
  by_cases hs : x.tries = []
  · have := Gives.nilRefAgg 3 4 rfl (own12R_nil x hx hs)
    rw [hs] at this ⊢
    exact this
  · obtain ⟨hx1, hx2⟩ := hx
    have hb : x.tries.length * 24 ≤ mostBytes := by simp only [mostBytes]; omega
    have hs : (x.tries = []) = False := by simp [hs]
    refine Gives.of_w TryEnv Try.func12 (by decide) TryL12_ok Try.ntmps12 (rs := [.cell 2 28]) rfl (by simp) [44] (by decide) ?_; rw [TryL12]
    repeat' first
      | simp -implicitDefEqProofs only [go_sem, ↓reduceIte, Nat.reduceEqDiff, Nat.reduceAdd, Nat.reduceMul, Nat.reduceSub, Nat.reduceLeDiff, Nat.reduceLT, Nat.reducePow, reduceCtorEq, Int.reduceToNat, Int.reduceLT, Int.reduceLE, Int.reduceEq, Int.reduceAdd, Int.reduceSub, Int.reduceMul, Int.reduceNeg, Int.reduceTMod, Int.reduceTDiv, List.replicate_zero, List.replicate_succ, hs, hb, List.contains_cons, Option.bind_some, idx1]
      | (refine wCall_intro (plan39 _ ?_) ?_ ?_ ?_; assumption; rfl; decide)

/-! ### Where the open try of an id stands -/


theorem index63 (f : Nat) (p : Tr → Bool) (l : List Tr) (hl : l.length ≤ 1000000) (hp : ∀ t, Gives Try.prog f ([.agg [.int .i64 t.id, .int .i64 t.lease, .int .u8 t.ans]]) (.c (.d (.bool (p t)))) []) :
    Gives Try.prog 63 [.c (.sl 3 (trs l)), .c (.fn f [])] (.c (.d (.int .i64 (idx p l 0)))) [] := by
  refine Gives.of_w TryEnv Try.func63 (by decide) TryL63_ok Try.ntmps63 (rs := [.tmp 4]) rfl (by simp) [] (by decide) ?_; rw [TryL63]
  simp -implicitDefEqProofs only [go_sem, ↓reduceIte, Nat.reduceEqDiff, Nat.reduceAdd, Nat.reduceMul, Nat.reduceSub, Nat.reduceLeDiff, Nat.reduceLT, Nat.reducePow, reduceCtorEq, Int.reduceToNat, Int.reduceLT, Int.reduceLE, Int.reduceEq, Int.reduceAdd, Int.reduceSub, Int.reduceMul, Int.reduceNeg, Int.reduceTMod, Int.reduceTDiv, List.replicate_zero, List.replicate_succ]
  refine wT_loop (fun k : { k : Nat // k ≤ l.length ∧ ∀ j (h : j < l.length), j < k → p l[j] = false } => ⟨[(0, .c (.d (.sl 3 (trs l)))), (1, .c (.d (.fn f []))), (7, .c (.d (.int .i64 (l.length : Nat)))), (8, .c (.d (.int .i64 (k.1 : Nat))))], [], 0⟩) (fun k => l.length - k.1) ⟨0, by simp⟩ ?_ ?_
  · refine Wk.sub ?_ ?_ ?_ ?_ ?_ ?_
    all_goals simp -implicitDefEqProofs only [go_sem, ↓reduceIte, Nat.reduceEqDiff, Nat.reduceAdd, Nat.reduceMul, Nat.reduceSub, Nat.reduceLeDiff, Nat.reduceLT, Nat.reducePow, reduceCtorEq, Int.reduceToNat, Int.reduceLT, Int.reduceLE, Int.reduceEq, Int.reduceAdd, Int.reduceSub, Int.reduceMul, Int.reduceNeg, Int.reduceTMod, Int.reduceTDiv, List.replicate_zero, List.replicate_succ]
  · rintro ⟨k, hk, hkk⟩
    refine wT_of TryEnv ?_
    simp -implicitDefEqProofs only [go_sem, ↓reduceIte, Nat.reduceEqDiff, Nat.reduceAdd, Nat.reduceMul, Nat.reduceSub, Nat.reduceLeDiff, Nat.reduceLT, Nat.reducePow, reduceCtorEq, Int.reduceToNat, Int.reduceLT, Int.reduceLE, Int.reduceEq, Int.reduceAdd, Int.reduceSub, Int.reduceMul, Int.reduceNeg, Int.reduceTMod, Int.reduceTDiv, List.replicate_zero, List.replicate_succ]
    refine wfork_intro (fun h3 => ?_) (fun h3 => ?_)
    · have h3 : k < l.length := by simp at h3; omega
      have skip : idx p l 0 = idx p (l.drop k) (0 + k) := idx_skip p _ k 0 hkk hk
      rw [List.drop_eq_getElem_cons h3, idx] at skip
      have next : p l[k] = false → ∀ j (h : j < l.length), j < k + 1 → p l[j] = false := fun h5 j h hj => by
        by_cases e : j = k
        · subst e; exact h5
        · exact hkk j h (by omega)
      have hm := hp l[k]
      have hg : l[k]? = some l[k] := List.getElem?_eq_getElem h3
      generalize l[k] = t at *
      repeat' first
        | simp -implicitDefEqProofs only [go_sem, ↓reduceIte, Nat.reduceEqDiff, Nat.reduceAdd, Nat.reduceMul, Nat.reduceSub, Nat.reduceLeDiff, Nat.reduceLT, Nat.reducePow, reduceCtorEq, Int.reduceToNat, Int.reduceLT, Int.reduceLE, Int.reduceEq, Int.reduceAdd, Int.reduceSub, Int.reduceMul, Int.reduceNeg, Int.reduceTMod, Int.reduceTDiv, List.replicate_zero, List.replicate_succ, trs_get, hg, Int.toNat_natCast, Int.natCast_nonneg]
        | refine Also.mk (by decide) ?_
        | (refine wCall_intro hm ?_ ?_ ?_; rfl; decide)
        | refine wfork_intro (fun h5 => ?_) (fun h5 => ?_)
      · rw [if_pos h5] at skip
        rw [skip]
        refine DLe.of_eq ?_
        simp
      · refine ⟨⟨k + 1, by omega, next h5⟩, Wk.sub (by simp -implicitDefEqProofs only [go_sem, ↓reduceIte, Nat.reduceEqDiff, Nat.reduceAdd, Nat.reduceMul, Nat.reduceSub, Nat.reduceLeDiff, Nat.reduceLT, Nat.reducePow, reduceCtorEq, Int.reduceToNat, Int.reduceLT, Int.reduceLE, Int.reduceEq, Int.reduceAdd, Int.reduceSub, Int.reduceMul, Int.reduceNeg, Int.reduceTMod, Int.reduceTDiv, List.replicate_zero, List.replicate_succ, ctr (show k ≤ 1000000 by omega)]) (by simp -implicitDefEqProofs only [go_sem, ↓reduceIte, Nat.reduceEqDiff, Nat.reduceAdd, Nat.reduceMul, Nat.reduceSub, Nat.reduceLeDiff, Nat.reduceLT, Nat.reducePow, reduceCtorEq, Int.reduceToNat, Int.reduceLT, Int.reduceLE, Int.reduceEq, Int.reduceAdd, Int.reduceSub, Int.reduceMul, Int.reduceNeg, Int.reduceTMod, Int.reduceTDiv, List.replicate_zero, List.replicate_succ]) (by decide) (by decide) (by simp -implicitDefEqProofs only [go_sem, ↓reduceIte, Nat.reduceEqDiff, Nat.reduceAdd, Nat.reduceMul, Nat.reduceSub, Nat.reduceLeDiff, Nat.reduceLT, Nat.reducePow, reduceCtorEq, Int.reduceToNat, Int.reduceLT, Int.reduceLE, Int.reduceEq, Int.reduceAdd, Int.reduceSub, Int.reduceMul, Int.reduceNeg, Int.reduceTMod, Int.reduceTDiv, List.replicate_zero, List.replicate_succ]) (by simp -implicitDefEqProofs only [go_sem, ↓reduceIte, Nat.reduceEqDiff, Nat.reduceAdd, Nat.reduceMul, Nat.reduceSub, Nat.reduceLeDiff, Nat.reduceLT, Nat.reducePow, reduceCtorEq, Int.reduceToNat, Int.reduceLT, Int.reduceLE, Int.reduceEq, Int.reduceAdd, Int.reduceSub, Int.reduceMul, Int.reduceNeg, Int.reduceTMod, Int.reduceTDiv, List.replicate_zero, List.replicate_succ]), by simp; omega⟩
    · have h3 : k = l.length := by simp at h3; omega
      have skip : idx p l 0 = idx p (l.drop k) (0 + k) := idx_skip p _ k 0 hkk hk
      rw [h3, List.drop_length, idx] at skip
      simp -implicitDefEqProofs only [go_sem, ↓reduceIte, Nat.reduceEqDiff, Nat.reduceAdd, Nat.reduceMul, Nat.reduceSub, Nat.reduceLeDiff, Nat.reduceLT, Nat.reducePow, reduceCtorEq, Int.reduceToNat, Int.reduceLT, Int.reduceLE, Int.reduceEq, Int.reduceAdd, Int.reduceSub, Int.reduceMul, Int.reduceNeg, Int.reduceTMod, Int.reduceTDiv, List.replicate_zero, List.replicate_succ]
      rw [skip]
      exact .refl _

theorem index63c (f : Nat) (c : D) (p : Tr → Bool) (l : List Tr) (hl : l.length ≤ 1000000) (hp : ∀ t, Gives Try.prog f ([.agg [.int .i64 t.id, .int .i64 t.lease, .int .u8 t.ans], .c c]) (.c (.d (.bool (p t)))) []) :
    Gives Try.prog 63 [.c (.sl 3 (trs l)), .c (.fn f [c])] (.c (.d (.int .i64 (idx p l 0)))) [] := by
  refine Gives.of_w TryEnv Try.func63 (by decide) TryL63_ok Try.ntmps63 (rs := [.tmp 4]) rfl (by simp) [] (by decide) ?_; rw [TryL63]
  simp -implicitDefEqProofs only [go_sem, ↓reduceIte, Nat.reduceEqDiff, Nat.reduceAdd, Nat.reduceMul, Nat.reduceSub, Nat.reduceLeDiff, Nat.reduceLT, Nat.reducePow, reduceCtorEq, Int.reduceToNat, Int.reduceLT, Int.reduceLE, Int.reduceEq, Int.reduceAdd, Int.reduceSub, Int.reduceMul, Int.reduceNeg, Int.reduceTMod, Int.reduceTDiv, List.replicate_zero, List.replicate_succ]
  refine wT_loop (fun k : { k : Nat // k ≤ l.length ∧ ∀ j (h : j < l.length), j < k → p l[j] = false } => ⟨[(0, .c (.d (.sl 3 (trs l)))), (1, .c (.d (.fn f [c]))), (7, .c (.d (.int .i64 (l.length : Nat)))), (8, .c (.d (.int .i64 (k.1 : Nat))))], [], 0⟩) (fun k => l.length - k.1) ⟨0, by simp⟩ ?_ ?_
  · refine Wk.sub ?_ ?_ ?_ ?_ ?_ ?_
    all_goals simp -implicitDefEqProofs only [go_sem, ↓reduceIte, Nat.reduceEqDiff, Nat.reduceAdd, Nat.reduceMul, Nat.reduceSub, Nat.reduceLeDiff, Nat.reduceLT, Nat.reducePow, reduceCtorEq, Int.reduceToNat, Int.reduceLT, Int.reduceLE, Int.reduceEq, Int.reduceAdd, Int.reduceSub, Int.reduceMul, Int.reduceNeg, Int.reduceTMod, Int.reduceTDiv, List.replicate_zero, List.replicate_succ]
  · rintro ⟨k, hk, hkk⟩
    refine wT_of TryEnv ?_
    simp -implicitDefEqProofs only [go_sem, ↓reduceIte, Nat.reduceEqDiff, Nat.reduceAdd, Nat.reduceMul, Nat.reduceSub, Nat.reduceLeDiff, Nat.reduceLT, Nat.reducePow, reduceCtorEq, Int.reduceToNat, Int.reduceLT, Int.reduceLE, Int.reduceEq, Int.reduceAdd, Int.reduceSub, Int.reduceMul, Int.reduceNeg, Int.reduceTMod, Int.reduceTDiv, List.replicate_zero, List.replicate_succ]
    refine wfork_intro (fun h3 => ?_) (fun h3 => ?_)
    · have h3 : k < l.length := by simp at h3; omega
      have skip : idx p l 0 = idx p (l.drop k) (0 + k) := idx_skip p _ k 0 hkk hk
      rw [List.drop_eq_getElem_cons h3, idx] at skip
      have next : p l[k] = false → ∀ j (h : j < l.length), j < k + 1 → p l[j] = false := fun h5 j h hj => by
        by_cases e : j = k
        · subst e; exact h5
        · exact hkk j h (by omega)
      have hm := hp l[k]
      have hg : l[k]? = some l[k] := List.getElem?_eq_getElem h3
      generalize l[k] = t at *
      repeat' first
        | simp -implicitDefEqProofs only [go_sem, ↓reduceIte, Nat.reduceEqDiff, Nat.reduceAdd, Nat.reduceMul, Nat.reduceSub, Nat.reduceLeDiff, Nat.reduceLT, Nat.reducePow, reduceCtorEq, Int.reduceToNat, Int.reduceLT, Int.reduceLE, Int.reduceEq, Int.reduceAdd, Int.reduceSub, Int.reduceMul, Int.reduceNeg, Int.reduceTMod, Int.reduceTDiv, List.replicate_zero, List.replicate_succ, trs_get, hg, Int.toNat_natCast, Int.natCast_nonneg]
        | refine Also.mk (by decide) ?_
        | (refine wCall_intro hm ?_ ?_ ?_; rfl; decide)
        | refine wfork_intro (fun h5 => ?_) (fun h5 => ?_)
      · rw [if_pos h5] at skip
        rw [skip]
        refine DLe.of_eq ?_
        simp
      · refine ⟨⟨k + 1, by omega, next h5⟩, Wk.sub (by simp -implicitDefEqProofs only [go_sem, ↓reduceIte, Nat.reduceEqDiff, Nat.reduceAdd, Nat.reduceMul, Nat.reduceSub, Nat.reduceLeDiff, Nat.reduceLT, Nat.reducePow, reduceCtorEq, Int.reduceToNat, Int.reduceLT, Int.reduceLE, Int.reduceEq, Int.reduceAdd, Int.reduceSub, Int.reduceMul, Int.reduceNeg, Int.reduceTMod, Int.reduceTDiv, List.replicate_zero, List.replicate_succ, ctr (show k ≤ 1000000 by omega)]) (by simp -implicitDefEqProofs only [go_sem, ↓reduceIte, Nat.reduceEqDiff, Nat.reduceAdd, Nat.reduceMul, Nat.reduceSub, Nat.reduceLeDiff, Nat.reduceLT, Nat.reducePow, reduceCtorEq, Int.reduceToNat, Int.reduceLT, Int.reduceLE, Int.reduceEq, Int.reduceAdd, Int.reduceSub, Int.reduceMul, Int.reduceNeg, Int.reduceTMod, Int.reduceTDiv, List.replicate_zero, List.replicate_succ]) (by decide) (by decide) (by simp -implicitDefEqProofs only [go_sem, ↓reduceIte, Nat.reduceEqDiff, Nat.reduceAdd, Nat.reduceMul, Nat.reduceSub, Nat.reduceLeDiff, Nat.reduceLT, Nat.reducePow, reduceCtorEq, Int.reduceToNat, Int.reduceLT, Int.reduceLE, Int.reduceEq, Int.reduceAdd, Int.reduceSub, Int.reduceMul, Int.reduceNeg, Int.reduceTMod, Int.reduceTDiv, List.replicate_zero, List.replicate_succ]) (by simp -implicitDefEqProofs only [go_sem, ↓reduceIte, Nat.reduceEqDiff, Nat.reduceAdd, Nat.reduceMul, Nat.reduceSub, Nat.reduceLeDiff, Nat.reduceLT, Nat.reducePow, reduceCtorEq, Int.reduceToNat, Int.reduceLT, Int.reduceLE, Int.reduceEq, Int.reduceAdd, Int.reduceSub, Int.reduceMul, Int.reduceNeg, Int.reduceTMod, Int.reduceTDiv, List.replicate_zero, List.replicate_succ]), by simp; omega⟩
    · have h3 : k = l.length := by simp at h3; omega
      have skip : idx p l 0 = idx p (l.drop k) (0 + k) := idx_skip p _ k 0 hkk hk
      rw [h3, List.drop_length, idx] at skip
      simp -implicitDefEqProofs only [go_sem, ↓reduceIte, Nat.reduceEqDiff, Nat.reduceAdd, Nat.reduceMul, Nat.reduceSub, Nat.reduceLeDiff, Nat.reduceLT, Nat.reducePow, reduceCtorEq, Int.reduceToNat, Int.reduceLT, Int.reduceLE, Int.reduceEq, Int.reduceAdd, Int.reduceSub, Int.reduceMul, Int.reduceNeg, Int.reduceTMod, Int.reduceTDiv, List.replicate_zero, List.replicate_succ]
      rw [skip]
      exact .refl _

theorem contains67 (l : List Tr) (hl : l.length ≤ 1000000) : Gives Try.prog 67 [.c (.sl 3 (trs l)), .c (.fn 53 [])] (.c (.d (.bool (l.any openT)))) [] := by
  refine Gives.of_w TryEnv Try.func67 (by decide) TryL67_ok Try.ntmps67 (rs := [.tmp 4]) rfl (by simp) [] (by decide) ?_; rw [TryL67]
  repeat' first
    | simp -implicitDefEqProofs only [go_sem, ↓reduceIte, Nat.reduceEqDiff, Nat.reduceAdd, Nat.reduceMul, Nat.reduceSub, Nat.reduceLeDiff, Nat.reduceLT, Nat.reducePow, reduceCtorEq, Int.reduceToNat, Int.reduceLT, Int.reduceLE, Int.reduceEq, Int.reduceAdd, Int.reduceSub, Int.reduceMul, Int.reduceNeg, Int.reduceTMod, Int.reduceTDiv, List.replicate_zero, List.replicate_succ]
    | (refine wCall_intro (index63 53 openT l hl open53) ?_ ?_ ?_; rfl; decide)
  rw [idx_any]
  exact .refl _

theorem asked64 (r : Rc) (t : Tr) : Gives Try.prog 64 [.agg [.int .i64 t.id, .int .i64 t.lease, .int .u8 t.ans], .c (.fp [.int .u8 r.kind, .int .i64 r.place, .int .i64 r.id, .int .i64 r.lease, .int .u8 r.ans, .sl 4 (stps r.plan.steps), .sl 1 (afts r.plan.after)])] (.c (.d (.bool (openT t && decide (t.id = r.id))))) [] := by
  refine Gives.of_w TryEnv Try.func64 (by decide) TryL64_ok Try.ntmps64 (rs := [.tmp 3]) rfl (by simp) [] (by decide) ?_; rw [TryL64]
  repeat' first
    | simp -implicitDefEqProofs only [go_sem, ↓reduceIte, Nat.reduceEqDiff, Nat.reduceAdd, Nat.reduceMul, Nat.reduceSub, Nat.reduceLeDiff, Nat.reduceLT, Nat.reducePow, reduceCtorEq, Int.reduceToNat, Int.reduceLT, Int.reduceLE, Int.reduceEq, Int.reduceAdd, Int.reduceSub, Int.reduceMul, Int.reduceNeg, Int.reduceTMod, Int.reduceTDiv, List.replicate_zero, List.replicate_succ]
    | (refine wCall_intro (open53 _) ?_ ?_ ?_; rfl; decide)
    | refine wfork_intro (fun h => ?_) (fun h => ?_)
  all_goals refine DLe.of_eq ?_
  all_goals simp [*]

theorem placeL_idx (id : Int) : ∀ (l : List Tr) (n : Nat), idx (fun t => openT t && decide (t.id = id)) l n = placeL l id n
  | [], n => rfl
  | t :: l, n => by
    rw [idx, placeL, placeL_idx id l (n + 1)]

theorem place63 (x : Ex) (r : Rc) (hx : x.small) : Gives Try.prog 63 [.c (.sl 3 (trs x.tries)), .c (.fn 64 [.fp [.int .u8 r.kind, .int .i64 r.place, .int .i64 r.id, .int .i64 r.lease, .int .u8 r.ans, .sl 4 (stps r.plan.steps), .sl 1 (afts r.plan.after)]])] (.c (.d (.int .i64 (placeN x r.id)))) [] := by
  have := index63c 64 (.fp [.int .u8 r.kind, .int .i64 r.place, .int .i64 r.id, .int .i64 r.lease, .int .u8 r.ans, .sl 4 (stps r.plan.steps), .sl 1 (afts r.plan.after)]) (fun t => openT t && decide (t.id = r.id)) x.tries (by have := hx.2; omega) (asked64 r)
  rw [placeL_idx] at this
  exact this
end Go.Proofs.Ytbdodpippgakjaa
