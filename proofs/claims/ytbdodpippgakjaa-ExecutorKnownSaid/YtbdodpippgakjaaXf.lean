/- This text proves a part of what the claim needs: contracts of functions of the program. No condition. -/
import Derived.Test.YtbdodpippgakjaaXe
set_option linter.unusedSimpArgs false
set_option linter.unusedVariables false

namespace Go.Proofs.Ytbdodpippgakjaa
open Go Go.Vs Go.Proofs
set_option maxRecDepth 20000

/-! ### ExecutorKnown -/

def endR : Rc := ⟨5, 0, 0, 0, 0, emptyP⟩
def zeroR : Rc := ⟨0, 0, 0, 0, 0, emptyP⟩
def circleP : Pl := ⟨[.zero, .zero], [[1], [0]]⟩
def kB : Ex := ⟨true, false, twoP, [⟨0, 0, 0⟩, ⟨0, 0, 0⟩], 1⟩
def kD : Ex := ⟨true, false, twoP, [⟨1, 20, 2⟩, ⟨0, 0, 0⟩], 2⟩
def kI : Ex := ⟨false, true, twoP, [⟨1, 20, 4⟩, ⟨0, 0, 0⟩], 2⟩
theorem kB_small : kB.small := ⟨twoP_small, by simp [kB]⟩
theorem kD_small : kD.small := ⟨twoP_small, by simp [kD]⟩
theorem kI_small : kI.small := ⟨twoP_small, by simp [kI]⟩
theorem known0 : replayN [] = (firstN, 0, 0) := by decide
theorem known1 : replayN [planR] = (kB, 1, 0) := by decide
theorem known2 : replayN [planR, intentR 0 1 20] = (liveY, 2, 0) := by decide
theorem known3 : replayN [planR, intentR 0 1 20, answerR 1 2] = (kD, 3, 0) := by decide
theorem known4 : replayN [planR, intentR 1 1 20] = (kB, 1, 8) := by decide
theorem known5 : replayN [planR, planR] = (kB, 1, 8) := by decide
theorem known6 : replayN [answerR 1 1] = (firstN, 0, 8) := by decide
theorem known7 : replayN [planR, intentR 0 1 20, answerR 1 4, endR] = (kI, 4, 0) := by decide
theorem known8 : replayN (List.replicate 401 zeroR) = (firstN, 0, 3) := by rw [replayN, if_pos (by simp)]
theorem known9 : readyL kB = [0] := by decide
theorem known10 : openN kB = [] := by decide
theorem known11 : readyL liveY = [] := by decide
theorem known12 : readyL kD = [0] := by decide
theorem known13 : doneL kI = [] := by decide
theorem known14 : nextN Ex.zero planR = (Ex.zero, 1) := by decide
theorem known15 : orderedN circleP = false := by decide
theorem known16 : orderedN emptyP = true := by decide

theorem endRow : RowLe [.int .u8 5, .int .i64 0, .int .i64 0, .int .i64 0, .int .u8 0, .nilSl, .nilSl] [.int .u8 endR.kind, .int .i64 endR.place, .int .i64 endR.id, .int .i64 endR.lease, .int .u8 endR.ans, .sl 4 (stps endR.plan.steps), .sl 1 (afts endR.plan.after)] :=
  ⟨.refl _, .refl _, .refl _, .refl _, .refl _, .nil 4, .nil 1, trivial⟩
theorem zeroRow : RowLe [.int .u8 0, .int .i64 0, .int .i64 0, .int .i64 0, .int .u8 0, .nilSl, .nilSl] [.int .u8 zeroR.kind, .int .i64 zeroR.place, .int .i64 zeroR.id, .int .i64 zeroR.lease, .int .u8 zeroR.ans, .sl 4 (stps zeroR.plan.steps), .sl 1 (afts zeroR.plan.after)] :=
  ⟨.refl _, .refl _, .refl _, .refl _, .refl _, .nil 4, .nil 1, trivial⟩
theorem zeroRows : ∀ n, ElsLe (List.replicate n [.int .u8 0, .int .i64 0, .int .i64 0, .int .i64 0, .int .u8 0, .nilSl, .nilSl]) (rcs (List.replicate n zeroR))
  | 0 => trivial
  | n + 1 => ⟨zeroRow, zeroRows n⟩

theorem rep0 {α : Type} (x : α) : List.replicate 0 x = [] := rfl
theorem rep1 {α : Type} (x : α) : List.replicate 1 x = [x] := rfl
theorem rep2 {α : Type} (x : α) : List.replicate 2 x = [x, x] := rfl
theorem rep3 {α : Type} (x : α) : List.replicate 3 x = [x, x, x] := rfl
theorem rep4 {α : Type} (x : α) : List.replicate 4 x = [x, x, x, x] := rfl

set_option maxHeartbeats 4000000 in
theorem lawKnown : Gives Try.prog 9 [] (.c (.d (.bool true))) [] := by
  have k0 := replay30 [] (by decide) (by simp)
  have k1 := replay30 [planR] (by decide) (recs_small (by simp [planR]))
  have k2 := replay30 [planR, intentR 0 1 20] (by decide) (recs_small (by simp [planR, intentR]))
  have k3 := replay30 [planR, intentR 0 1 20, answerR 1 2] (by decide) (recs_small (by simp [planR, intentR, answerR]))
  have k4 := replay30 [planR, intentR 1 1 20] (by decide) (recs_small (by simp [planR, intentR]))
  have k5 := replay30 [planR, planR] (by decide) (recs_small (by simp [planR]))
  have k6 := replay30 [answerR 1 1] (by decide) (recs_small (by simp [answerR]))
  have k7 := replay30 [planR, intentR 0 1 20, answerR 1 4, endR] (by decide) (recs_small (by simp [planR, intentR, answerR, endR]))
  have k8 := replay30 (List.replicate 401 zeroR) (by simp) (recs_small (by simp [zeroR]))
  have k8 := k8.args (ps := [.c (.sl 7 (List.replicate 401 [.int .u8 0, .int .i64 0, .int .i64 0, .int .i64 0, .int .u8 0, .nilSl, .nilSl]))]) ⟨.els (zeroRows 401), trivial⟩
  have k7 := k7.args (ps := [.c (.sl 7 [[.int .u8 planR.kind, .int .i64 planR.place, .int .i64 planR.id, .int .i64 planR.lease, .int .u8 planR.ans, .sl 4 (stps planR.plan.steps), .sl 1 (afts planR.plan.after)], [.int .u8 (intentR 0 1 20).kind, .int .i64 (intentR 0 1 20).place, .int .i64 (intentR 0 1 20).id, .int .i64 (intentR 0 1 20).lease, .int .u8 (intentR 0 1 20).ans, .sl 4 (stps (intentR 0 1 20).plan.steps), .sl 1 (afts (intentR 0 1 20).plan.after)], [.int .u8 (answerR 1 4).kind, .int .i64 (answerR 1 4).place, .int .i64 (answerR 1 4).id, .int .i64 (answerR 1 4).lease, .int .u8 (answerR 1 4).ans, .sl 4 (stps (answerR 1 4).plan.steps), .sl 1 (afts (answerR 1 4).plan.after)], [.int .u8 5, .int .i64 0, .int .i64 0, .int .i64 0, .int .u8 0, .nilSl, .nilSl]])]) ⟨.els ⟨.self _, .self _, .self _, endRow, trivial⟩, trivial⟩
  have k0 := k0.args (ps := [.c .nilSl]) ⟨.nil 7, trivial⟩
  have r1 := ready21 kB kB_small
  have r2 := open24 kB kB_small
  have r3 := ready21 liveY liveY_small
  have r4 := open24 liveY liveY_small
  have r5 := ready21 kD kD_small
  have r6 := done26 kI kI_small
  have r7 := numbers20 [0] [0] (by decide) (by decide)
  have r8 := next13 Ex.zero planR Ex.zero_small twoP_small
  have r8 := r8.args (ps := [.agg [.bool false, .bool false, .nilSl, .nilSl, .nilSl, .int .i64 0], .agg [.int .u8 planR.kind, .int .i64 planR.place, .int .i64 planR.id, .int .i64 planR.lease, .int .u8 planR.ans, .sl 4 (stps planR.plan.steps), .sl 1 (afts planR.plan.after)]]) ⟨⟨.refl _, .refl _, .nil 4, .nil 1, .nil 3, .refl _, trivial⟩, ⟨.refl _, .refl _, .refl _, .refl _, .refl _, .refl _, .refl _, trivial⟩, trivial⟩
  have r9 := ordered18 circleP (by simp [circleP, Pl.small])
  have r10 := ordered18 emptyP emptyP_small
  have r10 := r10.args (ps := [.agg [.nilSl, .nilSl]]) ⟨⟨.nil 4, .nil 1, trivial⟩, trivial⟩
  rw [known0] at k0
  rw [known1] at k1
  rw [known2] at k2
  rw [known3] at k3
  rw [known4] at k4
  rw [known5] at k5
  rw [known6] at k6
  rw [known7] at k7
  rw [known8] at k8
  rw [known9] at r1
  rw [known10] at r2
  rw [known11] at r3
  rw [live5] at r4
  rw [known12] at r5
  rw [known13] at r6
  rw [known14] at r8
  rw [known15] at r9
  rw [known16] at r10
  simp only [rcs, planR, List.map_cons, List.map_nil, nums, rqs, decide_true] at k0 k1 k2 k3 k4 k5 k6 k7 k8 r1 r2 r3 r4 r5 r6 r7 r8 r10
  simp only [circleP, Stp.zero, stps, afts, nums, List.map_cons, List.map_nil] at r9
  have f1 : firstN.next = 1 := rfl
  have f2 : firstN.run = false := rfl
  have f3 : kI.run = false := rfl
  have f4 : kI.stp = true := rfl
  have f5 : kD.next = 2 := rfl
  refine Gives.of_w TryEnv Try.func9 (by decide) TryL9_ok Try.ntmps9 (rs := [.tmp 0]) rfl (by simp) [] (by decide) ?_; rw [TryL9]
  repeat' first
    | simp -implicitDefEqProofs only [go_sem, ↓reduceIte, Nat.reduceEqDiff, Nat.reduceAdd, Nat.reduceMul, Nat.reduceSub, Nat.reduceLeDiff, Nat.reduceLT, Nat.reducePow, reduceCtorEq, Int.reduceToNat, Int.reduceLT, Int.reduceLE, Int.reduceEq, Int.reduceAdd, Int.reduceSub, Int.reduceMul, Int.reduceNeg, Int.reduceTMod, Int.reduceTDiv, rep0, rep1, rep2, rep3, rep4, f1, f2, f3, f4, f5, List.length_replicate, List.take_replicate, Nat.min_self]
    | refine wLend_frz ?_
    | (refine wCall_intro two38 ?_ ?_ ?_; rfl; decide)
    | (refine wCall_intro (intent36 _ _ _) ?_ ?_ ?_; rfl; decide)
    | (refine wCall_intro (answer37 _ _) ?_ ?_ ?_; rfl; decide)
    | (refine wCall_intro k0 ?_ ?_ ?_; rfl; decide)
    | (refine wCall_intro k1 ?_ ?_ ?_; rfl; decide)
    | (refine wCall_intro k2 ?_ ?_ ?_; rfl; decide)
    | (refine wCall_intro k3 ?_ ?_ ?_; rfl; decide)
    | (refine wCall_intro k4 ?_ ?_ ?_; rfl; decide)
    | (refine wCall_intro k5 ?_ ?_ ?_; rfl; decide)
    | (refine wCall_intro k6 ?_ ?_ ?_; rfl; decide)
    | (refine wCall_intro k7 ?_ ?_ ?_; rfl; decide)
    | (refine wCall_intro k8 ?_ ?_ ?_; rfl; decide)
    | (refine wCall_intro r1 ?_ ?_ ?_; rfl; decide)
    | (refine wCall_intro r2 ?_ ?_ ?_; rfl; decide)
    | (refine wCall_intro r3 ?_ ?_ ?_; rfl; decide)
    | (refine wCall_intro r4 ?_ ?_ ?_; rfl; decide)
    | (refine wCall_intro r5 ?_ ?_ ?_; rfl; decide)
    | (refine wCall_intro r6 ?_ ?_ ?_; rfl; decide)
    | (refine wCall_intro r7 ?_ ?_ ?_; rfl; decide)
    | (refine wCall_intro r8 ?_ ?_ ?_; rfl; decide)
    | (refine wCall_intro r9 ?_ ?_ ?_; rfl; decide)
    | (refine wCall_intro r10 ?_ ?_ ?_; rfl; decide)
    | (refine wCall_intro lives11 ?_ ?_ ?_; rfl; decide)
    | refine Also.mk (by decide) ?_
    | apply And.intro
  all_goals (simp only [mostBytes]; omega)
end Go.Proofs.Ytbdodpippgakjaa
