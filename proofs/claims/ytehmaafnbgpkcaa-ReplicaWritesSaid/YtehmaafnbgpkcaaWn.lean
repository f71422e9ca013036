/- This text proves a part of what the claim needs: contracts of functions of the program. No condition. -/
import Derived.Test.YtehmaafnbgpkcaaWm
set_option linter.unusedSimpArgs false
set_option linter.unusedVariables false

namespace Go.Proofs.Ytehmaafnbgpkcaa
open Go Go.Vs Go.Proofs

/-! ### The document's Write -/

set_option maxHeartbeats 2000000 in
theorem refWrite_000 (ns : N3) (r : R3) (e : Int) (m : List ByteArray) (hs : ns.small 1000000) (hm : m.length ≤ 1000000) (hb : boundN e m = 0) (l0 : ns.a.lost = false) (l1 : ns.b.lost = false) (l2 : ns.c.lost = false) (X : N3 × Bool × Int) (hX : X = writeN r ns e m) :
    Gives Try.prog 18 [.agg [.int .i64 ns.a.p, .int .i64 ns.a.e, .sl 1 (strs ns.a.log), .bool ns.a.lost, .int .i64 ns.b.p, .int .i64 ns.b.e, .sl 1 (strs ns.b.log), .bool ns.b.lost, .int .i64 ns.c.p, .int .i64 ns.c.e, .sl 1 (strs ns.c.log), .bool ns.c.lost], .agg [.int .u8 r.a, .int .u8 r.b, .int .u8 r.c], .c (.int .i64 e), .c (.sl 1 (strs m))]
    (.tup [.agg [.d (.int .i64 X.1.a.p), .d (.int .i64 X.1.a.e), .d (.sl 1 (strs X.1.a.log)), .d (.bool X.1.a.lost), .d (.int .i64 X.1.b.p), .d (.int .i64 X.1.b.e), .d (.sl 1 (strs X.1.b.log)), .d (.bool X.1.b.lost), .d (.int .i64 X.1.c.p), .d (.int .i64 X.1.c.e), .d (.sl 1 (strs X.1.c.log)), .d (.bool X.1.c.lost)], .c (.d (.bool X.2.1)), .c (.d (.int .i64 X.2.2))]) [] := by
  have hk : lostN ns = -1 := by simp [lostN, l0, l1, l2]
  have hbd := bound45 e m
  rw [hb] at hbd
  generalize hL0 : ([] : List Int) = L0
  have q0 : L0.length = 0 := by rw [← hL0]; rfl
  generalize hM0 : (stepN (installN · e m) r.a 0 ns.a L0).1 = M0
  generalize hL1 : (stepN (installN · e m) r.a 0 ns.a L0).2 = L1
  have s0 : stepN (installN · e m) r.a 0 ns.a L0 = (M0, L1) := by rw [← hM0, ← hL1]
  have n0 := stepN_len (installN · e m) r.a 0 ns.a L0
  rw [hL1] at n0
  generalize hM1 : (stepN (installN · e m) r.b 1 ns.b L1).1 = M1
  generalize hL2 : (stepN (installN · e m) r.b 1 ns.b L1).2 = L2
  have s1 : stepN (installN · e m) r.b 1 ns.b L1 = (M1, L2) := by rw [← hM1, ← hL2]
  have n1 := stepN_len (installN · e m) r.b 1 ns.b L1
  rw [hL2] at n1
  generalize hM2 : (stepN (installN · e m) r.c 2 ns.c L2).1 = M2
  generalize hL3 : (stepN (installN · e m) r.c 2 ns.c L2).2 = L3
  have s2 : stepN (installN · e m) r.c 2 ns.c L2 = (M2, L3) := by rw [← hM2, ← hL3]
  have n2 := stepN_len (installN · e m) r.c 2 ns.c L2
  rw [hL3] at n2
  have hcall : callN (installN · e m) r ns = (⟨M0, M1, M2⟩, L3) := by
    simp only [callN, callK_3, hL0, s0, s1, s2]
  simp only [writeN, hb, ne_eq, not_true_eq_false, if_false, hcall, hk] at hX
  refine Gives.of_wT TryEnv Try.func18 (by decide) TryL18_ok Try.ntmps18 (rs := [.cell 8 25, .tmp 9, .tmp 10]) rfl (by simp) [] (by decide) ?_; rw [TryL18]
  refine wT_of TryEnv ?_
  repeat' first
    | simp -implicitDefEqProofs only [go_sem, ↓reduceIte, Nat.reduceEqDiff, Nat.reduceAdd, Nat.reduceMul, Nat.reduceSub, Nat.reduceLeDiff, Nat.reduceLT, Nat.reducePow, reduceCtorEq, Int.reduceToNat, Int.reduceLT, Int.reduceLE, Int.reduceEq, Int.reduceAdd, Int.reduceSub, Int.reduceMul, Int.reduceNeg, Int.reduceTMod, Int.reduceTDiv, List.replicate_zero, List.replicate_succ]
    | (refine wCall_intro (all37 ns hs) ?_ ?_ ?_; rfl; decide)
    | (refine wCall_intro hbd ?_ ?_ ?_; rfl; decide)
  refine wT_loop (fun k : To3 => if k.1 = 0 then ⟨[(2, .c (.d (.int .i64 e))), (3, .c (.d (.sl 1 (strs m)))), (4, .c (.ptr 0 0)), (5, .c (.ptr 4 0)), (8, .c (.ptr 8 0)), (12, .c (.d (.int .i64 0))), (13, .c (.d (.int .i64 (L0.length : Nat)))), (14, .c (.d (.int .i64 (-1)))), (15, .c (.d (.int .i64 0)))], [(0, .box [.d (.int .i64 ns.a.p), .d (.int .i64 ns.a.e), .d (.sl 1 (strs ns.a.log)), .d (.bool ns.a.lost), .d (.int .i64 ns.b.p), .d (.int .i64 ns.b.e), .d (.sl 1 (strs ns.b.log)), .d (.bool ns.b.lost), .d (.int .i64 ns.c.p), .d (.int .i64 ns.c.e), .d (.sl 1 (strs ns.c.log)), .d (.bool ns.c.lost)]), (4, .box [.d (.int .u8 r.a), .d (.int .u8 r.b), .d (.int .u8 r.c)]), (8, .box [.d (.int .i64 0), .d (.int .i64 0), .d .nilSl, .d (.bool false), .d (.int .i64 0), .d (.int .i64 0), .d .nilSl, .d (.bool false), .d (.int .i64 0), .d (.int .i64 0), .d .nilSl, .d (.bool false)])], 9⟩ else if k.1 = 1 then ⟨[(2, .c (.d (.int .i64 e))), (3, .c (.d (.sl 1 (strs m)))), (4, .c (.ptr 0 0)), (5, .c (.ptr 4 0)), (8, .c (.ptr 8 0)), (12, .c (.d (.int .i64 1))), (13, .c (.d (.int .i64 (L1.length : Nat)))), (14, .c (.d (.int .i64 (-1)))), (15, .c (.d (.int .i64 1)))], [(0, .box [.d (.int .i64 M0.p), .d (.int .i64 M0.e), .d (.sl 1 (strs M0.log)), .d (.bool M0.lost), .d (.int .i64 ns.b.p), .d (.int .i64 ns.b.e), .d (.sl 1 (strs ns.b.log)), .d (.bool ns.b.lost), .d (.int .i64 ns.c.p), .d (.int .i64 ns.c.e), .d (.sl 1 (strs ns.c.log)), .d (.bool ns.c.lost)]), (4, .box [.d (.int .u8 r.a), .d (.int .u8 r.b), .d (.int .u8 r.c)]), (8, .box [.d (.int .i64 0), .d (.int .i64 0), .d .nilSl, .d (.bool false), .d (.int .i64 0), .d (.int .i64 0), .d .nilSl, .d (.bool false), .d (.int .i64 0), .d (.int .i64 0), .d .nilSl, .d (.bool false)])], 9⟩ else if k.1 = 2 then ⟨[(2, .c (.d (.int .i64 e))), (3, .c (.d (.sl 1 (strs m)))), (4, .c (.ptr 0 0)), (5, .c (.ptr 4 0)), (8, .c (.ptr 8 0)), (12, .c (.d (.int .i64 2))), (13, .c (.d (.int .i64 (L2.length : Nat)))), (14, .c (.d (.int .i64 (-1)))), (15, .c (.d (.int .i64 2)))], [(0, .box [.d (.int .i64 M0.p), .d (.int .i64 M0.e), .d (.sl 1 (strs M0.log)), .d (.bool M0.lost), .d (.int .i64 M1.p), .d (.int .i64 M1.e), .d (.sl 1 (strs M1.log)), .d (.bool M1.lost), .d (.int .i64 ns.c.p), .d (.int .i64 ns.c.e), .d (.sl 1 (strs ns.c.log)), .d (.bool ns.c.lost)]), (4, .box [.d (.int .u8 r.a), .d (.int .u8 r.b), .d (.int .u8 r.c)]), (8, .box [.d (.int .i64 0), .d (.int .i64 0), .d .nilSl, .d (.bool false), .d (.int .i64 0), .d (.int .i64 0), .d .nilSl, .d (.bool false), .d (.int .i64 0), .d (.int .i64 0), .d .nilSl, .d (.bool false)])], 9⟩ else ⟨[(2, .c (.d (.int .i64 e))), (3, .c (.d (.sl 1 (strs m)))), (4, .c (.ptr 0 0)), (5, .c (.ptr 4 0)), (8, .c (.ptr 8 0)), (12, .c (.d (.int .i64 3))), (13, .c (.d (.int .i64 (L3.length : Nat)))), (14, .c (.d (.int .i64 (-1)))), (15, .c (.d (.int .i64 3)))], [(0, .box [.d (.int .i64 M0.p), .d (.int .i64 M0.e), .d (.sl 1 (strs M0.log)), .d (.bool M0.lost), .d (.int .i64 M1.p), .d (.int .i64 M1.e), .d (.sl 1 (strs M1.log)), .d (.bool M1.lost), .d (.int .i64 M2.p), .d (.int .i64 M2.e), .d (.sl 1 (strs M2.log)), .d (.bool M2.lost)]), (4, .box [.d (.int .u8 r.a), .d (.int .u8 r.b), .d (.int .u8 r.c)]), (8, .box [.d (.int .i64 0), .d (.int .i64 0), .d .nilSl, .d (.bool false), .d (.int .i64 0), .d (.int .i64 0), .d .nilSl, .d (.bool false), .d (.int .i64 0), .d (.int .i64 0), .d .nilSl, .d (.bool false)])], 9⟩) (fun k => (3 - k.1).toNat) ⟨0, by omega⟩ ?_ ?_
  · simp -implicitDefEqProofs only [go_sem, ↓reduceIte, Nat.reduceEqDiff, Nat.reduceAdd, Nat.reduceMul, Nat.reduceSub, Nat.reduceLeDiff, Nat.reduceLT, Nat.reducePow, reduceCtorEq, Int.reduceToNat, Int.reduceLT, Int.reduceLE, Int.reduceEq, Int.reduceAdd, Int.reduceSub, Int.reduceMul, Int.reduceNeg, Int.reduceTMod, Int.reduceTDiv, List.replicate_zero, List.replicate_succ, Int.reduceEq]
    refine Wk.sub ?_ ?_ (by decide) (by decide) ?_ ?_
    all_goals simp -implicitDefEqProofs only [go_sem, ↓reduceIte, Nat.reduceEqDiff, Nat.reduceAdd, Nat.reduceMul, Nat.reduceSub, Nat.reduceLeDiff, Nat.reduceLT, Nat.reducePow, reduceCtorEq, Int.reduceToNat, Int.reduceLT, Int.reduceLE, Int.reduceEq, Int.reduceAdd, Int.reduceSub, Int.reduceMul, Int.reduceNeg, Int.reduceTMod, Int.reduceTDiv, List.replicate_zero, List.replicate_succ, q0, Int.natCast_zero, l0, l1, l2]
  · refine To3.all ?_ ?_ ?_ ?_
    all_goals simp only [Int.reduceEq, if_true, if_false]
    all_goals refine wT_of TryEnv ?_
    · have hw : IntKind.i64.wrap ((L0.length : Int) + 1) = ((L0.length + 1 : Nat) : Int) := by rw [wrap64 (by omega) (by omega)]; rfl
      have hI := refInstall' ns.a e m hm
      rw [l0] at hI
      repeat' first
        | simp -implicitDefEqProofs only [go_sem, ↓reduceIte, Nat.reduceEqDiff, Nat.reduceAdd, Nat.reduceMul, Nat.reduceSub, Nat.reduceLeDiff, Nat.reduceLT, Nat.reducePow, reduceCtorEq, Int.reduceToNat, Int.reduceLT, Int.reduceLE, Int.reduceEq, Int.reduceAdd, Int.reduceSub, Int.reduceMul, Int.reduceNeg, Int.reduceTMod, Int.reduceTDiv, List.replicate_zero, List.replicate_succ, l0, List.set_cons_succ, List.set_cons_zero]
        | (refine wCall_intro hI ?_ ?_ ?_; rfl; decide)
        | (refine wCall_intro (arrives38 _) ?_ ?_ ?_; rfl; decide)
        | refine wfork_intro (fun h => ?_) (fun h => ?_)
        | refine Also.mk (by decide) ?_
        | apply And.intro
      all_goals try simp only [Bool.not_eq_true', Bool.not_eq_false', Bool.not_eq_true, decide_eq_true_eq, decide_eq_false_iff_not] at *
      all_goals refine ⟨⟨1, by omega⟩, ?_, by simp⟩
      all_goals simp only [Int.reduceEq, if_true, if_false]
      all_goals refine Wk.sub ?_ ?_ (by decide) (by decide) ?_ ?_
      all_goals simp -implicitDefEqProofs only [go_sem, ↓reduceIte, Nat.reduceEqDiff, Nat.reduceAdd, Nat.reduceMul, Nat.reduceSub, Nat.reduceLeDiff, Nat.reduceLT, Nat.reducePow, reduceCtorEq, Int.reduceToNat, Int.reduceLT, Int.reduceLE, Int.reduceEq, Int.reduceAdd, Int.reduceSub, Int.reduceMul, Int.reduceNeg, Int.reduceTMod, Int.reduceTDiv, List.replicate_zero, List.replicate_succ, ← hM0, ← hL1, hw, stepN_no, stepN_err, stepN_ok, stepN_there, arrivesN_0, List.length_append, ne_eq, not_true_eq_false, not_false_eq_true, *]
    · have hw : IntKind.i64.wrap ((L1.length : Int) + 1) = ((L1.length + 1 : Nat) : Int) := by rw [wrap64 (by omega) (by omega)]; rfl
      have hI := refInstall' ns.b e m hm
      rw [l1] at hI
      repeat' first
        | simp -implicitDefEqProofs only [go_sem, ↓reduceIte, Nat.reduceEqDiff, Nat.reduceAdd, Nat.reduceMul, Nat.reduceSub, Nat.reduceLeDiff, Nat.reduceLT, Nat.reducePow, reduceCtorEq, Int.reduceToNat, Int.reduceLT, Int.reduceLE, Int.reduceEq, Int.reduceAdd, Int.reduceSub, Int.reduceMul, Int.reduceNeg, Int.reduceTMod, Int.reduceTDiv, List.replicate_zero, List.replicate_succ, l1, List.set_cons_succ, List.set_cons_zero]
        | (refine wCall_intro hI ?_ ?_ ?_; rfl; decide)
        | (refine wCall_intro (arrives38 _) ?_ ?_ ?_; rfl; decide)
        | refine wfork_intro (fun h => ?_) (fun h => ?_)
        | refine Also.mk (by decide) ?_
        | apply And.intro
      all_goals try simp only [Bool.not_eq_true', Bool.not_eq_false', Bool.not_eq_true, decide_eq_true_eq, decide_eq_false_iff_not] at *
      all_goals refine ⟨⟨2, by omega⟩, ?_, by simp⟩
      all_goals simp only [Int.reduceEq, if_true, if_false]
      all_goals refine Wk.sub ?_ ?_ (by decide) (by decide) ?_ ?_
      all_goals simp -implicitDefEqProofs only [go_sem, ↓reduceIte, Nat.reduceEqDiff, Nat.reduceAdd, Nat.reduceMul, Nat.reduceSub, Nat.reduceLeDiff, Nat.reduceLT, Nat.reducePow, reduceCtorEq, Int.reduceToNat, Int.reduceLT, Int.reduceLE, Int.reduceEq, Int.reduceAdd, Int.reduceSub, Int.reduceMul, Int.reduceNeg, Int.reduceTMod, Int.reduceTDiv, List.replicate_zero, List.replicate_succ, ← hM1, ← hL2, hw, stepN_no, stepN_err, stepN_ok, stepN_there, arrivesN_0, List.length_append, ne_eq, not_true_eq_false, not_false_eq_true, *]
    · have hw : IntKind.i64.wrap ((L2.length : Int) + 1) = ((L2.length + 1 : Nat) : Int) := by rw [wrap64 (by omega) (by omega)]; rfl
      have hI := refInstall' ns.c e m hm
      rw [l2] at hI
      repeat' first
        | simp -implicitDefEqProofs only [go_sem, ↓reduceIte, Nat.reduceEqDiff, Nat.reduceAdd, Nat.reduceMul, Nat.reduceSub, Nat.reduceLeDiff, Nat.reduceLT, Nat.reducePow, reduceCtorEq, Int.reduceToNat, Int.reduceLT, Int.reduceLE, Int.reduceEq, Int.reduceAdd, Int.reduceSub, Int.reduceMul, Int.reduceNeg, Int.reduceTMod, Int.reduceTDiv, List.replicate_zero, List.replicate_succ, l2, List.set_cons_succ, List.set_cons_zero]
        | (refine wCall_intro hI ?_ ?_ ?_; rfl; decide)
        | (refine wCall_intro (arrives38 _) ?_ ?_ ?_; rfl; decide)
        | refine wfork_intro (fun h => ?_) (fun h => ?_)
        | refine Also.mk (by decide) ?_
        | apply And.intro
      all_goals try simp only [Bool.not_eq_true', Bool.not_eq_false', Bool.not_eq_true, decide_eq_true_eq, decide_eq_false_iff_not] at *
      all_goals refine ⟨⟨3, by omega⟩, ?_, by simp⟩
      all_goals simp only [Int.reduceEq, if_true, if_false]
      all_goals refine Wk.sub ?_ ?_ (by decide) (by decide) ?_ ?_
      all_goals simp -implicitDefEqProofs only [go_sem, ↓reduceIte, Nat.reduceEqDiff, Nat.reduceAdd, Nat.reduceMul, Nat.reduceSub, Nat.reduceLeDiff, Nat.reduceLT, Nat.reducePow, reduceCtorEq, Int.reduceToNat, Int.reduceLT, Int.reduceLE, Int.reduceEq, Int.reduceAdd, Int.reduceSub, Int.reduceMul, Int.reduceNeg, Int.reduceTMod, Int.reduceTDiv, List.replicate_zero, List.replicate_succ, ← hM2, ← hL3, hw, stepN_no, stepN_err, stepN_ok, stepN_there, arrivesN_0, List.length_append, ne_eq, not_true_eq_false, not_false_eq_true, *]
    · simp -implicitDefEqProofs only [go_sem, ↓reduceIte, Nat.reduceEqDiff, Nat.reduceAdd, Nat.reduceMul, Nat.reduceSub, Nat.reduceLeDiff, Nat.reduceLT, Nat.reducePow, reduceCtorEq, Int.reduceToNat, Int.reduceLT, Int.reduceLE, Int.reduceEq, Int.reduceAdd, Int.reduceSub, Int.reduceMul, Int.reduceNeg, Int.reduceTMod, Int.reduceTDiv, List.replicate_zero, List.replicate_succ]
      have hc : True := trivial
      simp only [Int.reduceLE, Int.reduceNeg, false_and, and_false, if_false] at hX
      rw [hX]
      simp [VLe_self, CLe_self, DLe_self]

set_option maxHeartbeats 2000000 in
theorem refWrite_001 (ns : N3) (r : R3) (e : Int) (m : List ByteArray) (hs : ns.small 1000000) (hm : m.length ≤ 1000000) (hb : boundN e m = 0) (l0 : ns.a.lost = false) (l1 : ns.b.lost = false) (l2 : ns.c.lost = true) (X : N3 × Bool × Int) (hX : X = writeN r ns e m) :
    Gives Try.prog 18 [.agg [.int .i64 ns.a.p, .int .i64 ns.a.e, .sl 1 (strs ns.a.log), .bool ns.a.lost, .int .i64 ns.b.p, .int .i64 ns.b.e, .sl 1 (strs ns.b.log), .bool ns.b.lost, .int .i64 ns.c.p, .int .i64 ns.c.e, .sl 1 (strs ns.c.log), .bool ns.c.lost], .agg [.int .u8 r.a, .int .u8 r.b, .int .u8 r.c], .c (.int .i64 e), .c (.sl 1 (strs m))]
    (.tup [.agg [.d (.int .i64 X.1.a.p), .d (.int .i64 X.1.a.e), .d (.sl 1 (strs X.1.a.log)), .d (.bool X.1.a.lost), .d (.int .i64 X.1.b.p), .d (.int .i64 X.1.b.e), .d (.sl 1 (strs X.1.b.log)), .d (.bool X.1.b.lost), .d (.int .i64 X.1.c.p), .d (.int .i64 X.1.c.e), .d (.sl 1 (strs X.1.c.log)), .d (.bool X.1.c.lost)], .c (.d (.bool X.2.1)), .c (.d (.int .i64 X.2.2))]) [] := by
  have hk : lostN ns = 2 := by simp [lostN, l0, l1, l2]
  have hbd := bound45 e m
  rw [hb] at hbd
  generalize hL0 : ([] : List Int) = L0
  have q0 : L0.length = 0 := by rw [← hL0]; rfl
  generalize hM0 : (stepN (installN · e m) r.a 0 ns.a L0).1 = M0
  generalize hL1 : (stepN (installN · e m) r.a 0 ns.a L0).2 = L1
  have s0 : stepN (installN · e m) r.a 0 ns.a L0 = (M0, L1) := by rw [← hM0, ← hL1]
  have n0 := stepN_len (installN · e m) r.a 0 ns.a L0
  rw [hL1] at n0
  generalize hM1 : (stepN (installN · e m) r.b 1 ns.b L1).1 = M1
  generalize hL2 : (stepN (installN · e m) r.b 1 ns.b L1).2 = L2
  have s1 : stepN (installN · e m) r.b 1 ns.b L1 = (M1, L2) := by rw [← hM1, ← hL2]
  have n1 := stepN_len (installN · e m) r.b 1 ns.b L1
  rw [hL2] at n1
  have s2 : stepN (installN · e m) r.c 2 ns.c L2 = (ns.c, L2) := by
    rw [stepN_not hb (by cases arrivesN r.c <;> simp [l2])]
    rfl
  have hcall : callN (installN · e m) r ns = (⟨M0, M1, ns.c⟩, L2) := by
    simp only [callN, callK_3, hL0, s0, s1, s2]
  simp only [writeN, hb, ne_eq, not_true_eq_false, if_false, hcall, hk] at hX
  refine Gives.of_wT TryEnv Try.func18 (by decide) TryL18_ok Try.ntmps18 (rs := [.cell 8 25, .tmp 9, .tmp 10]) rfl (by simp) [] (by decide) ?_; rw [TryL18]
  refine wT_of TryEnv ?_
  repeat' first
    | simp -implicitDefEqProofs only [go_sem, ↓reduceIte, Nat.reduceEqDiff, Nat.reduceAdd, Nat.reduceMul, Nat.reduceSub, Nat.reduceLeDiff, Nat.reduceLT, Nat.reducePow, reduceCtorEq, Int.reduceToNat, Int.reduceLT, Int.reduceLE, Int.reduceEq, Int.reduceAdd, Int.reduceSub, Int.reduceMul, Int.reduceNeg, Int.reduceTMod, Int.reduceTDiv, List.replicate_zero, List.replicate_succ]
    | (refine wCall_intro (all37 ns hs) ?_ ?_ ?_; rfl; decide)
    | (refine wCall_intro hbd ?_ ?_ ?_; rfl; decide)
  refine wT_loop (fun k : To3 => if k.1 = 0 then ⟨[(2, .c (.d (.int .i64 e))), (3, .c (.d (.sl 1 (strs m)))), (4, .c (.ptr 0 0)), (5, .c (.ptr 4 0)), (8, .c (.ptr 8 0)), (12, .c (.d (.int .i64 0))), (13, .c (.d (.int .i64 (L0.length : Nat)))), (14, .c (.d (.int .i64 (-1)))), (15, .c (.d (.int .i64 0)))], [(0, .box [.d (.int .i64 ns.a.p), .d (.int .i64 ns.a.e), .d (.sl 1 (strs ns.a.log)), .d (.bool ns.a.lost), .d (.int .i64 ns.b.p), .d (.int .i64 ns.b.e), .d (.sl 1 (strs ns.b.log)), .d (.bool ns.b.lost), .d (.int .i64 ns.c.p), .d (.int .i64 ns.c.e), .d (.sl 1 (strs ns.c.log)), .d (.bool ns.c.lost)]), (4, .box [.d (.int .u8 r.a), .d (.int .u8 r.b), .d (.int .u8 r.c)]), (8, .box [.d (.int .i64 0), .d (.int .i64 0), .d .nilSl, .d (.bool false), .d (.int .i64 0), .d (.int .i64 0), .d .nilSl, .d (.bool false), .d (.int .i64 0), .d (.int .i64 0), .d .nilSl, .d (.bool false)])], 9⟩ else if k.1 = 1 then ⟨[(2, .c (.d (.int .i64 e))), (3, .c (.d (.sl 1 (strs m)))), (4, .c (.ptr 0 0)), (5, .c (.ptr 4 0)), (8, .c (.ptr 8 0)), (12, .c (.d (.int .i64 1))), (13, .c (.d (.int .i64 (L1.length : Nat)))), (14, .c (.d (.int .i64 (-1)))), (15, .c (.d (.int .i64 1)))], [(0, .box [.d (.int .i64 M0.p), .d (.int .i64 M0.e), .d (.sl 1 (strs M0.log)), .d (.bool M0.lost), .d (.int .i64 ns.b.p), .d (.int .i64 ns.b.e), .d (.sl 1 (strs ns.b.log)), .d (.bool ns.b.lost), .d (.int .i64 ns.c.p), .d (.int .i64 ns.c.e), .d (.sl 1 (strs ns.c.log)), .d (.bool ns.c.lost)]), (4, .box [.d (.int .u8 r.a), .d (.int .u8 r.b), .d (.int .u8 r.c)]), (8, .box [.d (.int .i64 0), .d (.int .i64 0), .d .nilSl, .d (.bool false), .d (.int .i64 0), .d (.int .i64 0), .d .nilSl, .d (.bool false), .d (.int .i64 0), .d (.int .i64 0), .d .nilSl, .d (.bool false)])], 9⟩ else if k.1 = 2 then ⟨[(2, .c (.d (.int .i64 e))), (3, .c (.d (.sl 1 (strs m)))), (4, .c (.ptr 0 0)), (5, .c (.ptr 4 0)), (8, .c (.ptr 8 0)), (12, .c (.d (.int .i64 2))), (13, .c (.d (.int .i64 (L2.length : Nat)))), (14, .c (.d (.int .i64 (-1)))), (15, .c (.d (.int .i64 2)))], [(0, .box [.d (.int .i64 M0.p), .d (.int .i64 M0.e), .d (.sl 1 (strs M0.log)), .d (.bool M0.lost), .d (.int .i64 M1.p), .d (.int .i64 M1.e), .d (.sl 1 (strs M1.log)), .d (.bool M1.lost), .d (.int .i64 ns.c.p), .d (.int .i64 ns.c.e), .d (.sl 1 (strs ns.c.log)), .d (.bool ns.c.lost)]), (4, .box [.d (.int .u8 r.a), .d (.int .u8 r.b), .d (.int .u8 r.c)]), (8, .box [.d (.int .i64 0), .d (.int .i64 0), .d .nilSl, .d (.bool false), .d (.int .i64 0), .d (.int .i64 0), .d .nilSl, .d (.bool false), .d (.int .i64 0), .d (.int .i64 0), .d .nilSl, .d (.bool false)])], 9⟩ else ⟨[(2, .c (.d (.int .i64 e))), (3, .c (.d (.sl 1 (strs m)))), (4, .c (.ptr 0 0)), (5, .c (.ptr 4 0)), (8, .c (.ptr 8 0)), (12, .c (.d (.int .i64 2))), (13, .c (.d (.int .i64 (L2.length : Nat)))), (14, .c (.d (.int .i64 (2)))), (15, .c (.d (.int .i64 3)))], [(0, .box [.d (.int .i64 M0.p), .d (.int .i64 M0.e), .d (.sl 1 (strs M0.log)), .d (.bool M0.lost), .d (.int .i64 M1.p), .d (.int .i64 M1.e), .d (.sl 1 (strs M1.log)), .d (.bool M1.lost), .d (.int .i64 ns.c.p), .d (.int .i64 ns.c.e), .d (.sl 1 (strs ns.c.log)), .d (.bool ns.c.lost)]), (4, .box [.d (.int .u8 r.a), .d (.int .u8 r.b), .d (.int .u8 r.c)]), (8, .box [.d (.int .i64 0), .d (.int .i64 0), .d .nilSl, .d (.bool false), .d (.int .i64 0), .d (.int .i64 0), .d .nilSl, .d (.bool false), .d (.int .i64 0), .d (.int .i64 0), .d .nilSl, .d (.bool false)])], 9⟩) (fun k => (3 - k.1).toNat) ⟨0, by omega⟩ ?_ ?_
  · simp -implicitDefEqProofs only [go_sem, ↓reduceIte, Nat.reduceEqDiff, Nat.reduceAdd, Nat.reduceMul, Nat.reduceSub, Nat.reduceLeDiff, Nat.reduceLT, Nat.reducePow, reduceCtorEq, Int.reduceToNat, Int.reduceLT, Int.reduceLE, Int.reduceEq, Int.reduceAdd, Int.reduceSub, Int.reduceMul, Int.reduceNeg, Int.reduceTMod, Int.reduceTDiv, List.replicate_zero, List.replicate_succ, Int.reduceEq]
    refine Wk.sub ?_ ?_ (by decide) (by decide) ?_ ?_
    all_goals simp -implicitDefEqProofs only [go_sem, ↓reduceIte, Nat.reduceEqDiff, Nat.reduceAdd, Nat.reduceMul, Nat.reduceSub, Nat.reduceLeDiff, Nat.reduceLT, Nat.reducePow, reduceCtorEq, Int.reduceToNat, Int.reduceLT, Int.reduceLE, Int.reduceEq, Int.reduceAdd, Int.reduceSub, Int.reduceMul, Int.reduceNeg, Int.reduceTMod, Int.reduceTDiv, List.replicate_zero, List.replicate_succ, q0, Int.natCast_zero, l0, l1, l2]
  · refine To3.all ?_ ?_ ?_ ?_
    all_goals simp only [Int.reduceEq, if_true, if_false]
    all_goals refine wT_of TryEnv ?_
    · have hw : IntKind.i64.wrap ((L0.length : Int) + 1) = ((L0.length + 1 : Nat) : Int) := by rw [wrap64 (by omega) (by omega)]; rfl
      have hI := refInstall' ns.a e m hm
      rw [l0] at hI
      repeat' first
        | simp -implicitDefEqProofs only [go_sem, ↓reduceIte, Nat.reduceEqDiff, Nat.reduceAdd, Nat.reduceMul, Nat.reduceSub, Nat.reduceLeDiff, Nat.reduceLT, Nat.reducePow, reduceCtorEq, Int.reduceToNat, Int.reduceLT, Int.reduceLE, Int.reduceEq, Int.reduceAdd, Int.reduceSub, Int.reduceMul, Int.reduceNeg, Int.reduceTMod, Int.reduceTDiv, List.replicate_zero, List.replicate_succ, l0, List.set_cons_succ, List.set_cons_zero]
        | (refine wCall_intro hI ?_ ?_ ?_; rfl; decide)
        | (refine wCall_intro (arrives38 _) ?_ ?_ ?_; rfl; decide)
        | refine wfork_intro (fun h => ?_) (fun h => ?_)
        | refine Also.mk (by decide) ?_
        | apply And.intro
      all_goals try simp only [Bool.not_eq_true', Bool.not_eq_false', Bool.not_eq_true, decide_eq_true_eq, decide_eq_false_iff_not] at *
      all_goals refine ⟨⟨1, by omega⟩, ?_, by simp⟩
      all_goals simp only [Int.reduceEq, if_true, if_false]
      all_goals refine Wk.sub ?_ ?_ (by decide) (by decide) ?_ ?_
      all_goals simp -implicitDefEqProofs only [go_sem, ↓reduceIte, Nat.reduceEqDiff, Nat.reduceAdd, Nat.reduceMul, Nat.reduceSub, Nat.reduceLeDiff, Nat.reduceLT, Nat.reducePow, reduceCtorEq, Int.reduceToNat, Int.reduceLT, Int.reduceLE, Int.reduceEq, Int.reduceAdd, Int.reduceSub, Int.reduceMul, Int.reduceNeg, Int.reduceTMod, Int.reduceTDiv, List.replicate_zero, List.replicate_succ, ← hM0, ← hL1, hw, stepN_no, stepN_err, stepN_ok, stepN_there, arrivesN_0, List.length_append, ne_eq, not_true_eq_false, not_false_eq_true, *]
    · have hw : IntKind.i64.wrap ((L1.length : Int) + 1) = ((L1.length + 1 : Nat) : Int) := by rw [wrap64 (by omega) (by omega)]; rfl
      have hI := refInstall' ns.b e m hm
      rw [l1] at hI
      repeat' first
        | simp -implicitDefEqProofs only [go_sem, ↓reduceIte, Nat.reduceEqDiff, Nat.reduceAdd, Nat.reduceMul, Nat.reduceSub, Nat.reduceLeDiff, Nat.reduceLT, Nat.reducePow, reduceCtorEq, Int.reduceToNat, Int.reduceLT, Int.reduceLE, Int.reduceEq, Int.reduceAdd, Int.reduceSub, Int.reduceMul, Int.reduceNeg, Int.reduceTMod, Int.reduceTDiv, List.replicate_zero, List.replicate_succ, l1, List.set_cons_succ, List.set_cons_zero]
        | (refine wCall_intro hI ?_ ?_ ?_; rfl; decide)
        | (refine wCall_intro (arrives38 _) ?_ ?_ ?_; rfl; decide)
        | refine wfork_intro (fun h => ?_) (fun h => ?_)
        | refine Also.mk (by decide) ?_
        | apply And.intro
      all_goals try simp only [Bool.not_eq_true', Bool.not_eq_false', Bool.not_eq_true, decide_eq_true_eq, decide_eq_false_iff_not] at *
      all_goals refine ⟨⟨2, by omega⟩, ?_, by simp⟩
      all_goals simp only [Int.reduceEq, if_true, if_false]
      all_goals refine Wk.sub ?_ ?_ (by decide) (by decide) ?_ ?_
      all_goals simp -implicitDefEqProofs only [go_sem, ↓reduceIte, Nat.reduceEqDiff, Nat.reduceAdd, Nat.reduceMul, Nat.reduceSub, Nat.reduceLeDiff, Nat.reduceLT, Nat.reducePow, reduceCtorEq, Int.reduceToNat, Int.reduceLT, Int.reduceLE, Int.reduceEq, Int.reduceAdd, Int.reduceSub, Int.reduceMul, Int.reduceNeg, Int.reduceTMod, Int.reduceTDiv, List.replicate_zero, List.replicate_succ, ← hM1, ← hL2, hw, stepN_no, stepN_err, stepN_ok, stepN_there, arrivesN_0, List.length_append, ne_eq, not_true_eq_false, not_false_eq_true, *]
    · repeat' first
        | simp -implicitDefEqProofs only [go_sem, ↓reduceIte, Nat.reduceEqDiff, Nat.reduceAdd, Nat.reduceMul, Nat.reduceSub, Nat.reduceLeDiff, Nat.reduceLT, Nat.reducePow, reduceCtorEq, Int.reduceToNat, Int.reduceLT, Int.reduceLE, Int.reduceEq, Int.reduceAdd, Int.reduceSub, Int.reduceMul, Int.reduceNeg, Int.reduceTMod, Int.reduceTDiv, List.replicate_zero, List.replicate_succ, l2]
        | apply And.intro
      refine ⟨⟨3, by omega⟩, ?_, by simp⟩
      simp only [Int.reduceEq, if_true, if_false]
      refine Wk.sub ?_ ?_ (by decide) (by decide) ?_ ?_
      all_goals simp -implicitDefEqProofs only [go_sem, ↓reduceIte, Nat.reduceEqDiff, Nat.reduceAdd, Nat.reduceMul, Nat.reduceSub, Nat.reduceLeDiff, Nat.reduceLT, Nat.reducePow, reduceCtorEq, Int.reduceToNat, Int.reduceLT, Int.reduceLE, Int.reduceEq, Int.reduceAdd, Int.reduceSub, Int.reduceMul, Int.reduceNeg, Int.reduceTMod, Int.reduceTDiv, List.replicate_zero, List.replicate_succ, l2]
    · have hh := refHeal' ns.c e m hm
      have he : healN ns.c e m = (madeN e m, 0) := by simp [healN, hb, l2]
      rw [he] at hh
      have hle : L2.length ≤ 2 := by omega
      simp only [R3.get, N3.set, Int.reduceEq, Int.reduceLE, if_true, if_false, true_and] at hX
      repeat' first
        | simp -implicitDefEqProofs only [go_sem, ↓reduceIte, Nat.reduceEqDiff, Nat.reduceAdd, Nat.reduceMul, Nat.reduceSub, Nat.reduceLeDiff, Nat.reduceLT, Nat.reducePow, reduceCtorEq, Int.reduceToNat, Int.reduceLT, Int.reduceLE, Int.reduceEq, Int.reduceAdd, Int.reduceSub, Int.reduceMul, Int.reduceNeg, Int.reduceTMod, Int.reduceTDiv, List.replicate_zero, List.replicate_succ, List.set_cons_succ, List.set_cons_zero]
        | (refine wCall_intro (arrives38 _) ?_ ?_ ?_; rfl; decide)
        | (refine wCall_intro hh ?_ ?_ ?_; rfl; decide)
        | refine wfork_intro (fun h => ?_) (fun h => ?_)
      all_goals try simp only [Bool.not_eq_true', Bool.not_eq_false', Bool.not_eq_true, decide_eq_true_eq, decide_eq_false_iff_not] at *
      all_goals first
        | (have hc : ¬ (2 : Int) ≤ (L2.length : Int) := by omega
           simp only [hc, false_and, if_false] at hX
           rw [hX]
           simp [VLe_self, CLe_self, DLe_self, hc]
           done)
        | (have hc : (2 : Int) ≤ (L2.length : Int) := by omega
           simp only [hc, true_and, *, if_true, if_false, Bool.false_eq_true] at hX
           rw [hX]
           simp [VLe_self, CLe_self, DLe_self, hc]
           done)

set_option maxHeartbeats 2000000 in
theorem refWrite_010 (ns : N3) (r : R3) (e : Int) (m : List ByteArray) (hs : ns.small 1000000) (hm : m.length ≤ 1000000) (hb : boundN e m = 0) (l0 : ns.a.lost = false) (l1 : ns.b.lost = true) (l2 : ns.c.lost = false) (X : N3 × Bool × Int) (hX : X = writeN r ns e m) :
    Gives Try.prog 18 [.agg [.int .i64 ns.a.p, .int .i64 ns.a.e, .sl 1 (strs ns.a.log), .bool ns.a.lost, .int .i64 ns.b.p, .int .i64 ns.b.e, .sl 1 (strs ns.b.log), .bool ns.b.lost, .int .i64 ns.c.p, .int .i64 ns.c.e, .sl 1 (strs ns.c.log), .bool ns.c.lost], .agg [.int .u8 r.a, .int .u8 r.b, .int .u8 r.c], .c (.int .i64 e), .c (.sl 1 (strs m))]
    (.tup [.agg [.d (.int .i64 X.1.a.p), .d (.int .i64 X.1.a.e), .d (.sl 1 (strs X.1.a.log)), .d (.bool X.1.a.lost), .d (.int .i64 X.1.b.p), .d (.int .i64 X.1.b.e), .d (.sl 1 (strs X.1.b.log)), .d (.bool X.1.b.lost), .d (.int .i64 X.1.c.p), .d (.int .i64 X.1.c.e), .d (.sl 1 (strs X.1.c.log)), .d (.bool X.1.c.lost)], .c (.d (.bool X.2.1)), .c (.d (.int .i64 X.2.2))]) [] := by
  have hk : lostN ns = 1 := by simp [lostN, l0, l1, l2]
  have hbd := bound45 e m
  rw [hb] at hbd
  generalize hL0 : ([] : List Int) = L0
  have q0 : L0.length = 0 := by rw [← hL0]; rfl
  generalize hM0 : (stepN (installN · e m) r.a 0 ns.a L0).1 = M0
  generalize hL1 : (stepN (installN · e m) r.a 0 ns.a L0).2 = L1
  have s0 : stepN (installN · e m) r.a 0 ns.a L0 = (M0, L1) := by rw [← hM0, ← hL1]
  have n0 := stepN_len (installN · e m) r.a 0 ns.a L0
  rw [hL1] at n0
  have s1 : stepN (installN · e m) r.b 1 ns.b L1 = (ns.b, L1) := by
    rw [stepN_not hb (by cases arrivesN r.b <;> simp [l1])]
    rfl
  generalize hM2 : (stepN (installN · e m) r.c 2 ns.c L1).1 = M2
  generalize hL3 : (stepN (installN · e m) r.c 2 ns.c L1).2 = L3
  have s2 : stepN (installN · e m) r.c 2 ns.c L1 = (M2, L3) := by rw [← hM2, ← hL3]
  have n2 := stepN_len (installN · e m) r.c 2 ns.c L1
  rw [hL3] at n2
  have hcall : callN (installN · e m) r ns = (⟨M0, ns.b, M2⟩, L3) := by
    simp only [callN, callK_3, hL0, s0, s1, s2]
  simp only [writeN, hb, ne_eq, not_true_eq_false, if_false, hcall, hk] at hX
  refine Gives.of_wT TryEnv Try.func18 (by decide) TryL18_ok Try.ntmps18 (rs := [.cell 8 25, .tmp 9, .tmp 10]) rfl (by simp) [] (by decide) ?_; rw [TryL18]
  refine wT_of TryEnv ?_
  repeat' first
    | simp -implicitDefEqProofs only [go_sem, ↓reduceIte, Nat.reduceEqDiff, Nat.reduceAdd, Nat.reduceMul, Nat.reduceSub, Nat.reduceLeDiff, Nat.reduceLT, Nat.reducePow, reduceCtorEq, Int.reduceToNat, Int.reduceLT, Int.reduceLE, Int.reduceEq, Int.reduceAdd, Int.reduceSub, Int.reduceMul, Int.reduceNeg, Int.reduceTMod, Int.reduceTDiv, List.replicate_zero, List.replicate_succ]
    | (refine wCall_intro (all37 ns hs) ?_ ?_ ?_; rfl; decide)
    | (refine wCall_intro hbd ?_ ?_ ?_; rfl; decide)
  refine wT_loop (fun k : To3 => if k.1 = 0 then ⟨[(2, .c (.d (.int .i64 e))), (3, .c (.d (.sl 1 (strs m)))), (4, .c (.ptr 0 0)), (5, .c (.ptr 4 0)), (8, .c (.ptr 8 0)), (12, .c (.d (.int .i64 0))), (13, .c (.d (.int .i64 (L0.length : Nat)))), (14, .c (.d (.int .i64 (-1)))), (15, .c (.d (.int .i64 0)))], [(0, .box [.d (.int .i64 ns.a.p), .d (.int .i64 ns.a.e), .d (.sl 1 (strs ns.a.log)), .d (.bool ns.a.lost), .d (.int .i64 ns.b.p), .d (.int .i64 ns.b.e), .d (.sl 1 (strs ns.b.log)), .d (.bool ns.b.lost), .d (.int .i64 ns.c.p), .d (.int .i64 ns.c.e), .d (.sl 1 (strs ns.c.log)), .d (.bool ns.c.lost)]), (4, .box [.d (.int .u8 r.a), .d (.int .u8 r.b), .d (.int .u8 r.c)]), (8, .box [.d (.int .i64 0), .d (.int .i64 0), .d .nilSl, .d (.bool false), .d (.int .i64 0), .d (.int .i64 0), .d .nilSl, .d (.bool false), .d (.int .i64 0), .d (.int .i64 0), .d .nilSl, .d (.bool false)])], 9⟩ else if k.1 = 1 then ⟨[(2, .c (.d (.int .i64 e))), (3, .c (.d (.sl 1 (strs m)))), (4, .c (.ptr 0 0)), (5, .c (.ptr 4 0)), (8, .c (.ptr 8 0)), (12, .c (.d (.int .i64 1))), (13, .c (.d (.int .i64 (L1.length : Nat)))), (14, .c (.d (.int .i64 (-1)))), (15, .c (.d (.int .i64 1)))], [(0, .box [.d (.int .i64 M0.p), .d (.int .i64 M0.e), .d (.sl 1 (strs M0.log)), .d (.bool M0.lost), .d (.int .i64 ns.b.p), .d (.int .i64 ns.b.e), .d (.sl 1 (strs ns.b.log)), .d (.bool ns.b.lost), .d (.int .i64 ns.c.p), .d (.int .i64 ns.c.e), .d (.sl 1 (strs ns.c.log)), .d (.bool ns.c.lost)]), (4, .box [.d (.int .u8 r.a), .d (.int .u8 r.b), .d (.int .u8 r.c)]), (8, .box [.d (.int .i64 0), .d (.int .i64 0), .d .nilSl, .d (.bool false), .d (.int .i64 0), .d (.int .i64 0), .d .nilSl, .d (.bool false), .d (.int .i64 0), .d (.int .i64 0), .d .nilSl, .d (.bool false)])], 9⟩ else if k.1 = 2 then ⟨[(2, .c (.d (.int .i64 e))), (3, .c (.d (.sl 1 (strs m)))), (4, .c (.ptr 0 0)), (5, .c (.ptr 4 0)), (8, .c (.ptr 8 0)), (12, .c (.d (.int .i64 1))), (13, .c (.d (.int .i64 (L1.length : Nat)))), (14, .c (.d (.int .i64 (1)))), (15, .c (.d (.int .i64 2)))], [(0, .box [.d (.int .i64 M0.p), .d (.int .i64 M0.e), .d (.sl 1 (strs M0.log)), .d (.bool M0.lost), .d (.int .i64 ns.b.p), .d (.int .i64 ns.b.e), .d (.sl 1 (strs ns.b.log)), .d (.bool ns.b.lost), .d (.int .i64 ns.c.p), .d (.int .i64 ns.c.e), .d (.sl 1 (strs ns.c.log)), .d (.bool ns.c.lost)]), (4, .box [.d (.int .u8 r.a), .d (.int .u8 r.b), .d (.int .u8 r.c)]), (8, .box [.d (.int .i64 0), .d (.int .i64 0), .d .nilSl, .d (.bool false), .d (.int .i64 0), .d (.int .i64 0), .d .nilSl, .d (.bool false), .d (.int .i64 0), .d (.int .i64 0), .d .nilSl, .d (.bool false)])], 9⟩ else ⟨[(2, .c (.d (.int .i64 e))), (3, .c (.d (.sl 1 (strs m)))), (4, .c (.ptr 0 0)), (5, .c (.ptr 4 0)), (8, .c (.ptr 8 0)), (12, .c (.d (.int .i64 2))), (13, .c (.d (.int .i64 (L3.length : Nat)))), (14, .c (.d (.int .i64 (1)))), (15, .c (.d (.int .i64 3)))], [(0, .box [.d (.int .i64 M0.p), .d (.int .i64 M0.e), .d (.sl 1 (strs M0.log)), .d (.bool M0.lost), .d (.int .i64 ns.b.p), .d (.int .i64 ns.b.e), .d (.sl 1 (strs ns.b.log)), .d (.bool ns.b.lost), .d (.int .i64 M2.p), .d (.int .i64 M2.e), .d (.sl 1 (strs M2.log)), .d (.bool M2.lost)]), (4, .box [.d (.int .u8 r.a), .d (.int .u8 r.b), .d (.int .u8 r.c)]), (8, .box [.d (.int .i64 0), .d (.int .i64 0), .d .nilSl, .d (.bool false), .d (.int .i64 0), .d (.int .i64 0), .d .nilSl, .d (.bool false), .d (.int .i64 0), .d (.int .i64 0), .d .nilSl, .d (.bool false)])], 9⟩) (fun k => (3 - k.1).toNat) ⟨0, by omega⟩ ?_ ?_
  · simp -implicitDefEqProofs only [go_sem, ↓reduceIte, Nat.reduceEqDiff, Nat.reduceAdd, Nat.reduceMul, Nat.reduceSub, Nat.reduceLeDiff, Nat.reduceLT, Nat.reducePow, reduceCtorEq, Int.reduceToNat, Int.reduceLT, Int.reduceLE, Int.reduceEq, Int.reduceAdd, Int.reduceSub, Int.reduceMul, Int.reduceNeg, Int.reduceTMod, Int.reduceTDiv, List.replicate_zero, List.replicate_succ, Int.reduceEq]
    refine Wk.sub ?_ ?_ (by decide) (by decide) ?_ ?_
    all_goals simp -implicitDefEqProofs only [go_sem, ↓reduceIte, Nat.reduceEqDiff, Nat.reduceAdd, Nat.reduceMul, Nat.reduceSub, Nat.reduceLeDiff, Nat.reduceLT, Nat.reducePow, reduceCtorEq, Int.reduceToNat, Int.reduceLT, Int.reduceLE, Int.reduceEq, Int.reduceAdd, Int.reduceSub, Int.reduceMul, Int.reduceNeg, Int.reduceTMod, Int.reduceTDiv, List.replicate_zero, List.replicate_succ, q0, Int.natCast_zero, l0, l1, l2]
  · refine To3.all ?_ ?_ ?_ ?_
    all_goals simp only [Int.reduceEq, if_true, if_false]
    all_goals refine wT_of TryEnv ?_
    · have hw : IntKind.i64.wrap ((L0.length : Int) + 1) = ((L0.length + 1 : Nat) : Int) := by rw [wrap64 (by omega) (by omega)]; rfl
      have hI := refInstall' ns.a e m hm
      rw [l0] at hI
      repeat' first
        | simp -implicitDefEqProofs only [go_sem, ↓reduceIte, Nat.reduceEqDiff, Nat.reduceAdd, Nat.reduceMul, Nat.reduceSub, Nat.reduceLeDiff, Nat.reduceLT, Nat.reducePow, reduceCtorEq, Int.reduceToNat, Int.reduceLT, Int.reduceLE, Int.reduceEq, Int.reduceAdd, Int.reduceSub, Int.reduceMul, Int.reduceNeg, Int.reduceTMod, Int.reduceTDiv, List.replicate_zero, List.replicate_succ, l0, List.set_cons_succ, List.set_cons_zero]
        | (refine wCall_intro hI ?_ ?_ ?_; rfl; decide)
        | (refine wCall_intro (arrives38 _) ?_ ?_ ?_; rfl; decide)
        | refine wfork_intro (fun h => ?_) (fun h => ?_)
        | refine Also.mk (by decide) ?_
        | apply And.intro
      all_goals try simp only [Bool.not_eq_true', Bool.not_eq_false', Bool.not_eq_true, decide_eq_true_eq, decide_eq_false_iff_not] at *
      all_goals refine ⟨⟨1, by omega⟩, ?_, by simp⟩
      all_goals simp only [Int.reduceEq, if_true, if_false]
      all_goals refine Wk.sub ?_ ?_ (by decide) (by decide) ?_ ?_
      all_goals simp -implicitDefEqProofs only [go_sem, ↓reduceIte, Nat.reduceEqDiff, Nat.reduceAdd, Nat.reduceMul, Nat.reduceSub, Nat.reduceLeDiff, Nat.reduceLT, Nat.reducePow, reduceCtorEq, Int.reduceToNat, Int.reduceLT, Int.reduceLE, Int.reduceEq, Int.reduceAdd, Int.reduceSub, Int.reduceMul, Int.reduceNeg, Int.reduceTMod, Int.reduceTDiv, List.replicate_zero, List.replicate_succ, ← hM0, ← hL1, hw, stepN_no, stepN_err, stepN_ok, stepN_there, arrivesN_0, List.length_append, ne_eq, not_true_eq_false, not_false_eq_true, *]
    · repeat' first
        | simp -implicitDefEqProofs only [go_sem, ↓reduceIte, Nat.reduceEqDiff, Nat.reduceAdd, Nat.reduceMul, Nat.reduceSub, Nat.reduceLeDiff, Nat.reduceLT, Nat.reducePow, reduceCtorEq, Int.reduceToNat, Int.reduceLT, Int.reduceLE, Int.reduceEq, Int.reduceAdd, Int.reduceSub, Int.reduceMul, Int.reduceNeg, Int.reduceTMod, Int.reduceTDiv, List.replicate_zero, List.replicate_succ, l1]
        | apply And.intro
      refine ⟨⟨2, by omega⟩, ?_, by simp⟩
      simp only [Int.reduceEq, if_true, if_false]
      refine Wk.sub ?_ ?_ (by decide) (by decide) ?_ ?_
      all_goals simp -implicitDefEqProofs only [go_sem, ↓reduceIte, Nat.reduceEqDiff, Nat.reduceAdd, Nat.reduceMul, Nat.reduceSub, Nat.reduceLeDiff, Nat.reduceLT, Nat.reducePow, reduceCtorEq, Int.reduceToNat, Int.reduceLT, Int.reduceLE, Int.reduceEq, Int.reduceAdd, Int.reduceSub, Int.reduceMul, Int.reduceNeg, Int.reduceTMod, Int.reduceTDiv, List.replicate_zero, List.replicate_succ, l1]
    · have hw : IntKind.i64.wrap ((L1.length : Int) + 1) = ((L1.length + 1 : Nat) : Int) := by rw [wrap64 (by omega) (by omega)]; rfl
      have hI := refInstall' ns.c e m hm
      rw [l2] at hI
      repeat' first
        | simp -implicitDefEqProofs only [go_sem, ↓reduceIte, Nat.reduceEqDiff, Nat.reduceAdd, Nat.reduceMul, Nat.reduceSub, Nat.reduceLeDiff, Nat.reduceLT, Nat.reducePow, reduceCtorEq, Int.reduceToNat, Int.reduceLT, Int.reduceLE, Int.reduceEq, Int.reduceAdd, Int.reduceSub, Int.reduceMul, Int.reduceNeg, Int.reduceTMod, Int.reduceTDiv, List.replicate_zero, List.replicate_succ, l2, List.set_cons_succ, List.set_cons_zero]
        | (refine wCall_intro hI ?_ ?_ ?_; rfl; decide)
        | (refine wCall_intro (arrives38 _) ?_ ?_ ?_; rfl; decide)
        | refine wfork_intro (fun h => ?_) (fun h => ?_)
        | refine Also.mk (by decide) ?_
        | apply And.intro
      all_goals try simp only [Bool.not_eq_true', Bool.not_eq_false', Bool.not_eq_true, decide_eq_true_eq, decide_eq_false_iff_not] at *
      all_goals refine ⟨⟨3, by omega⟩, ?_, by simp⟩
      all_goals simp only [Int.reduceEq, if_true, if_false]
      all_goals refine Wk.sub ?_ ?_ (by decide) (by decide) ?_ ?_
      all_goals simp -implicitDefEqProofs only [go_sem, ↓reduceIte, Nat.reduceEqDiff, Nat.reduceAdd, Nat.reduceMul, Nat.reduceSub, Nat.reduceLeDiff, Nat.reduceLT, Nat.reducePow, reduceCtorEq, Int.reduceToNat, Int.reduceLT, Int.reduceLE, Int.reduceEq, Int.reduceAdd, Int.reduceSub, Int.reduceMul, Int.reduceNeg, Int.reduceTMod, Int.reduceTDiv, List.replicate_zero, List.replicate_succ, ← hM2, ← hL3, hw, stepN_no, stepN_err, stepN_ok, stepN_there, arrivesN_0, List.length_append, ne_eq, not_true_eq_false, not_false_eq_true, *]
    · have hh := refHeal' ns.b e m hm
      have he : healN ns.b e m = (madeN e m, 0) := by simp [healN, hb, l1]
      rw [he] at hh
      have hle : L3.length ≤ 2 := by omega
      simp only [R3.get, N3.set, Int.reduceEq, Int.reduceLE, if_true, if_false, true_and] at hX
      repeat' first
        | simp -implicitDefEqProofs only [go_sem, ↓reduceIte, Nat.reduceEqDiff, Nat.reduceAdd, Nat.reduceMul, Nat.reduceSub, Nat.reduceLeDiff, Nat.reduceLT, Nat.reducePow, reduceCtorEq, Int.reduceToNat, Int.reduceLT, Int.reduceLE, Int.reduceEq, Int.reduceAdd, Int.reduceSub, Int.reduceMul, Int.reduceNeg, Int.reduceTMod, Int.reduceTDiv, List.replicate_zero, List.replicate_succ, List.set_cons_succ, List.set_cons_zero]
        | (refine wCall_intro (arrives38 _) ?_ ?_ ?_; rfl; decide)
        | (refine wCall_intro hh ?_ ?_ ?_; rfl; decide)
        | refine wfork_intro (fun h => ?_) (fun h => ?_)
      all_goals try simp only [Bool.not_eq_true', Bool.not_eq_false', Bool.not_eq_true, decide_eq_true_eq, decide_eq_false_iff_not] at *
      all_goals first
        | (have hc : ¬ (2 : Int) ≤ (L3.length : Int) := by omega
           simp only [hc, false_and, if_false] at hX
           rw [hX]
           simp [VLe_self, CLe_self, DLe_self, hc]
           done)
        | (have hc : (2 : Int) ≤ (L3.length : Int) := by omega
           simp only [hc, true_and, *, if_true, if_false, Bool.false_eq_true] at hX
           rw [hX]
           simp [VLe_self, CLe_self, DLe_self, hc]
           done)

set_option maxHeartbeats 2000000 in
theorem refWrite_011 (ns : N3) (r : R3) (e : Int) (m : List ByteArray) (hs : ns.small 1000000) (hm : m.length ≤ 1000000) (hb : boundN e m = 0) (l0 : ns.a.lost = false) (l1 : ns.b.lost = true) (l2 : ns.c.lost = true) (X : N3 × Bool × Int) (hX : X = writeN r ns e m) :
    Gives Try.prog 18 [.agg [.int .i64 ns.a.p, .int .i64 ns.a.e, .sl 1 (strs ns.a.log), .bool ns.a.lost, .int .i64 ns.b.p, .int .i64 ns.b.e, .sl 1 (strs ns.b.log), .bool ns.b.lost, .int .i64 ns.c.p, .int .i64 ns.c.e, .sl 1 (strs ns.c.log), .bool ns.c.lost], .agg [.int .u8 r.a, .int .u8 r.b, .int .u8 r.c], .c (.int .i64 e), .c (.sl 1 (strs m))]
    (.tup [.agg [.d (.int .i64 X.1.a.p), .d (.int .i64 X.1.a.e), .d (.sl 1 (strs X.1.a.log)), .d (.bool X.1.a.lost), .d (.int .i64 X.1.b.p), .d (.int .i64 X.1.b.e), .d (.sl 1 (strs X.1.b.log)), .d (.bool X.1.b.lost), .d (.int .i64 X.1.c.p), .d (.int .i64 X.1.c.e), .d (.sl 1 (strs X.1.c.log)), .d (.bool X.1.c.lost)], .c (.d (.bool X.2.1)), .c (.d (.int .i64 X.2.2))]) [] := by
  have hk : lostN ns = 1 := by simp [lostN, l0, l1, l2]
  have hbd := bound45 e m
  rw [hb] at hbd
  generalize hL0 : ([] : List Int) = L0
  have q0 : L0.length = 0 := by rw [← hL0]; rfl
  generalize hM0 : (stepN (installN · e m) r.a 0 ns.a L0).1 = M0
  generalize hL1 : (stepN (installN · e m) r.a 0 ns.a L0).2 = L1
  have s0 : stepN (installN · e m) r.a 0 ns.a L0 = (M0, L1) := by rw [← hM0, ← hL1]
  have n0 := stepN_len (installN · e m) r.a 0 ns.a L0
  rw [hL1] at n0
  have s1 : stepN (installN · e m) r.b 1 ns.b L1 = (ns.b, L1) := by
    rw [stepN_not hb (by cases arrivesN r.b <;> simp [l1])]
    rfl
  have s2 : stepN (installN · e m) r.c 2 ns.c L1 = (ns.c, L1) := by
    rw [stepN_not hb (by cases arrivesN r.c <;> simp [l2])]
    rfl
  have hcall : callN (installN · e m) r ns = (⟨M0, ns.b, ns.c⟩, L1) := by
    simp only [callN, callK_3, hL0, s0, s1, s2]
  simp only [writeN, hb, ne_eq, not_true_eq_false, if_false, hcall, hk] at hX
  refine Gives.of_wT TryEnv Try.func18 (by decide) TryL18_ok Try.ntmps18 (rs := [.cell 8 25, .tmp 9, .tmp 10]) rfl (by simp) [] (by decide) ?_; rw [TryL18]
  refine wT_of TryEnv ?_
  repeat' first
    | simp -implicitDefEqProofs only [go_sem, ↓reduceIte, Nat.reduceEqDiff, Nat.reduceAdd, Nat.reduceMul, Nat.reduceSub, Nat.reduceLeDiff, Nat.reduceLT, Nat.reducePow, reduceCtorEq, Int.reduceToNat, Int.reduceLT, Int.reduceLE, Int.reduceEq, Int.reduceAdd, Int.reduceSub, Int.reduceMul, Int.reduceNeg, Int.reduceTMod, Int.reduceTDiv, List.replicate_zero, List.replicate_succ]
    | (refine wCall_intro (all37 ns hs) ?_ ?_ ?_; rfl; decide)
    | (refine wCall_intro hbd ?_ ?_ ?_; rfl; decide)
  refine wT_loop (fun k : To3 => if k.1 = 0 then ⟨[(2, .c (.d (.int .i64 e))), (3, .c (.d (.sl 1 (strs m)))), (4, .c (.ptr 0 0)), (5, .c (.ptr 4 0)), (8, .c (.ptr 8 0)), (12, .c (.d (.int .i64 0))), (13, .c (.d (.int .i64 (L0.length : Nat)))), (14, .c (.d (.int .i64 (-1)))), (15, .c (.d (.int .i64 0)))], [(0, .box [.d (.int .i64 ns.a.p), .d (.int .i64 ns.a.e), .d (.sl 1 (strs ns.a.log)), .d (.bool ns.a.lost), .d (.int .i64 ns.b.p), .d (.int .i64 ns.b.e), .d (.sl 1 (strs ns.b.log)), .d (.bool ns.b.lost), .d (.int .i64 ns.c.p), .d (.int .i64 ns.c.e), .d (.sl 1 (strs ns.c.log)), .d (.bool ns.c.lost)]), (4, .box [.d (.int .u8 r.a), .d (.int .u8 r.b), .d (.int .u8 r.c)]), (8, .box [.d (.int .i64 0), .d (.int .i64 0), .d .nilSl, .d (.bool false), .d (.int .i64 0), .d (.int .i64 0), .d .nilSl, .d (.bool false), .d (.int .i64 0), .d (.int .i64 0), .d .nilSl, .d (.bool false)])], 9⟩ else if k.1 = 1 then ⟨[(2, .c (.d (.int .i64 e))), (3, .c (.d (.sl 1 (strs m)))), (4, .c (.ptr 0 0)), (5, .c (.ptr 4 0)), (8, .c (.ptr 8 0)), (12, .c (.d (.int .i64 1))), (13, .c (.d (.int .i64 (L1.length : Nat)))), (14, .c (.d (.int .i64 (-1)))), (15, .c (.d (.int .i64 1)))], [(0, .box [.d (.int .i64 M0.p), .d (.int .i64 M0.e), .d (.sl 1 (strs M0.log)), .d (.bool M0.lost), .d (.int .i64 ns.b.p), .d (.int .i64 ns.b.e), .d (.sl 1 (strs ns.b.log)), .d (.bool ns.b.lost), .d (.int .i64 ns.c.p), .d (.int .i64 ns.c.e), .d (.sl 1 (strs ns.c.log)), .d (.bool ns.c.lost)]), (4, .box [.d (.int .u8 r.a), .d (.int .u8 r.b), .d (.int .u8 r.c)]), (8, .box [.d (.int .i64 0), .d (.int .i64 0), .d .nilSl, .d (.bool false), .d (.int .i64 0), .d (.int .i64 0), .d .nilSl, .d (.bool false), .d (.int .i64 0), .d (.int .i64 0), .d .nilSl, .d (.bool false)])], 9⟩ else if k.1 = 2 then ⟨[(2, .c (.d (.int .i64 e))), (3, .c (.d (.sl 1 (strs m)))), (4, .c (.ptr 0 0)), (5, .c (.ptr 4 0)), (8, .c (.ptr 8 0)), (12, .c (.d (.int .i64 1))), (13, .c (.d (.int .i64 (L1.length : Nat)))), (14, .c (.d (.int .i64 (1)))), (15, .c (.d (.int .i64 2)))], [(0, .box [.d (.int .i64 M0.p), .d (.int .i64 M0.e), .d (.sl 1 (strs M0.log)), .d (.bool M0.lost), .d (.int .i64 ns.b.p), .d (.int .i64 ns.b.e), .d (.sl 1 (strs ns.b.log)), .d (.bool ns.b.lost), .d (.int .i64 ns.c.p), .d (.int .i64 ns.c.e), .d (.sl 1 (strs ns.c.log)), .d (.bool ns.c.lost)]), (4, .box [.d (.int .u8 r.a), .d (.int .u8 r.b), .d (.int .u8 r.c)]), (8, .box [.d (.int .i64 0), .d (.int .i64 0), .d .nilSl, .d (.bool false), .d (.int .i64 0), .d (.int .i64 0), .d .nilSl, .d (.bool false), .d (.int .i64 0), .d (.int .i64 0), .d .nilSl, .d (.bool false)])], 9⟩ else ⟨[(2, .c (.d (.int .i64 e))), (3, .c (.d (.sl 1 (strs m)))), (4, .c (.ptr 0 0)), (5, .c (.ptr 4 0)), (8, .c (.ptr 8 0)), (12, .c (.d (.int .i64 1))), (13, .c (.d (.int .i64 (L1.length : Nat)))), (14, .c (.d (.int .i64 (2)))), (15, .c (.d (.int .i64 3)))], [(0, .box [.d (.int .i64 M0.p), .d (.int .i64 M0.e), .d (.sl 1 (strs M0.log)), .d (.bool M0.lost), .d (.int .i64 ns.b.p), .d (.int .i64 ns.b.e), .d (.sl 1 (strs ns.b.log)), .d (.bool ns.b.lost), .d (.int .i64 ns.c.p), .d (.int .i64 ns.c.e), .d (.sl 1 (strs ns.c.log)), .d (.bool ns.c.lost)]), (4, .box [.d (.int .u8 r.a), .d (.int .u8 r.b), .d (.int .u8 r.c)]), (8, .box [.d (.int .i64 0), .d (.int .i64 0), .d .nilSl, .d (.bool false), .d (.int .i64 0), .d (.int .i64 0), .d .nilSl, .d (.bool false), .d (.int .i64 0), .d (.int .i64 0), .d .nilSl, .d (.bool false)])], 9⟩) (fun k => (3 - k.1).toNat) ⟨0, by omega⟩ ?_ ?_
  · simp -implicitDefEqProofs only [go_sem, ↓reduceIte, Nat.reduceEqDiff, Nat.reduceAdd, Nat.reduceMul, Nat.reduceSub, Nat.reduceLeDiff, Nat.reduceLT, Nat.reducePow, reduceCtorEq, Int.reduceToNat, Int.reduceLT, Int.reduceLE, Int.reduceEq, Int.reduceAdd, Int.reduceSub, Int.reduceMul, Int.reduceNeg, Int.reduceTMod, Int.reduceTDiv, List.replicate_zero, List.replicate_succ, Int.reduceEq]
    refine Wk.sub ?_ ?_ (by decide) (by decide) ?_ ?_
    all_goals simp -implicitDefEqProofs only [go_sem, ↓reduceIte, Nat.reduceEqDiff, Nat.reduceAdd, Nat.reduceMul, Nat.reduceSub, Nat.reduceLeDiff, Nat.reduceLT, Nat.reducePow, reduceCtorEq, Int.reduceToNat, Int.reduceLT, Int.reduceLE, Int.reduceEq, Int.reduceAdd, Int.reduceSub, Int.reduceMul, Int.reduceNeg, Int.reduceTMod, Int.reduceTDiv, List.replicate_zero, List.replicate_succ, q0, Int.natCast_zero, l0, l1, l2]
  · refine To3.all ?_ ?_ ?_ ?_
    all_goals simp only [Int.reduceEq, if_true, if_false]
    all_goals refine wT_of TryEnv ?_
    · have hw : IntKind.i64.wrap ((L0.length : Int) + 1) = ((L0.length + 1 : Nat) : Int) := by rw [wrap64 (by omega) (by omega)]; rfl
      have hI := refInstall' ns.a e m hm
      rw [l0] at hI
      repeat' first
        | simp -implicitDefEqProofs only [go_sem, ↓reduceIte, Nat.reduceEqDiff, Nat.reduceAdd, Nat.reduceMul, Nat.reduceSub, Nat.reduceLeDiff, Nat.reduceLT, Nat.reducePow, reduceCtorEq, Int.reduceToNat, Int.reduceLT, Int.reduceLE, Int.reduceEq, Int.reduceAdd, Int.reduceSub, Int.reduceMul, Int.reduceNeg, Int.reduceTMod, Int.reduceTDiv, List.replicate_zero, List.replicate_succ, l0, List.set_cons_succ, List.set_cons_zero]
        | (refine wCall_intro hI ?_ ?_ ?_; rfl; decide)
        | (refine wCall_intro (arrives38 _) ?_ ?_ ?_; rfl; decide)
        | refine wfork_intro (fun h => ?_) (fun h => ?_)
        | refine Also.mk (by decide) ?_
        | apply And.intro
      all_goals try simp only [Bool.not_eq_true', Bool.not_eq_false', Bool.not_eq_true, decide_eq_true_eq, decide_eq_false_iff_not] at *
      all_goals refine ⟨⟨1, by omega⟩, ?_, by simp⟩
      all_goals simp only [Int.reduceEq, if_true, if_false]
      all_goals refine Wk.sub ?_ ?_ (by decide) (by decide) ?_ ?_
      all_goals simp -implicitDefEqProofs only [go_sem, ↓reduceIte, Nat.reduceEqDiff, Nat.reduceAdd, Nat.reduceMul, Nat.reduceSub, Nat.reduceLeDiff, Nat.reduceLT, Nat.reducePow, reduceCtorEq, Int.reduceToNat, Int.reduceLT, Int.reduceLE, Int.reduceEq, Int.reduceAdd, Int.reduceSub, Int.reduceMul, Int.reduceNeg, Int.reduceTMod, Int.reduceTDiv, List.replicate_zero, List.replicate_succ, ← hM0, ← hL1, hw, stepN_no, stepN_err, stepN_ok, stepN_there, arrivesN_0, List.length_append, ne_eq, not_true_eq_false, not_false_eq_true, *]
    · repeat' first
        | simp -implicitDefEqProofs only [go_sem, ↓reduceIte, Nat.reduceEqDiff, Nat.reduceAdd, Nat.reduceMul, Nat.reduceSub, Nat.reduceLeDiff, Nat.reduceLT, Nat.reducePow, reduceCtorEq, Int.reduceToNat, Int.reduceLT, Int.reduceLE, Int.reduceEq, Int.reduceAdd, Int.reduceSub, Int.reduceMul, Int.reduceNeg, Int.reduceTMod, Int.reduceTDiv, List.replicate_zero, List.replicate_succ, l1]
        | apply And.intro
      refine ⟨⟨2, by omega⟩, ?_, by simp⟩
      simp only [Int.reduceEq, if_true, if_false]
      refine Wk.sub ?_ ?_ (by decide) (by decide) ?_ ?_
      all_goals simp -implicitDefEqProofs only [go_sem, ↓reduceIte, Nat.reduceEqDiff, Nat.reduceAdd, Nat.reduceMul, Nat.reduceSub, Nat.reduceLeDiff, Nat.reduceLT, Nat.reducePow, reduceCtorEq, Int.reduceToNat, Int.reduceLT, Int.reduceLE, Int.reduceEq, Int.reduceAdd, Int.reduceSub, Int.reduceMul, Int.reduceNeg, Int.reduceTMod, Int.reduceTDiv, List.replicate_zero, List.replicate_succ, l1]
    · repeat' first
        | simp -implicitDefEqProofs only [go_sem, ↓reduceIte, Nat.reduceEqDiff, Nat.reduceAdd, Nat.reduceMul, Nat.reduceSub, Nat.reduceLeDiff, Nat.reduceLT, Nat.reducePow, reduceCtorEq, Int.reduceToNat, Int.reduceLT, Int.reduceLE, Int.reduceEq, Int.reduceAdd, Int.reduceSub, Int.reduceMul, Int.reduceNeg, Int.reduceTMod, Int.reduceTDiv, List.replicate_zero, List.replicate_succ, l2]
        | apply And.intro
      refine ⟨⟨3, by omega⟩, ?_, by simp⟩
      simp only [Int.reduceEq, if_true, if_false]
      refine Wk.sub ?_ ?_ (by decide) (by decide) ?_ ?_
      all_goals simp -implicitDefEqProofs only [go_sem, ↓reduceIte, Nat.reduceEqDiff, Nat.reduceAdd, Nat.reduceMul, Nat.reduceSub, Nat.reduceLeDiff, Nat.reduceLT, Nat.reducePow, reduceCtorEq, Int.reduceToNat, Int.reduceLT, Int.reduceLE, Int.reduceEq, Int.reduceAdd, Int.reduceSub, Int.reduceMul, Int.reduceNeg, Int.reduceTMod, Int.reduceTDiv, List.replicate_zero, List.replicate_succ, l2]
    · simp -implicitDefEqProofs only [go_sem, ↓reduceIte, Nat.reduceEqDiff, Nat.reduceAdd, Nat.reduceMul, Nat.reduceSub, Nat.reduceLeDiff, Nat.reduceLT, Nat.reducePow, reduceCtorEq, Int.reduceToNat, Int.reduceLT, Int.reduceLE, Int.reduceEq, Int.reduceAdd, Int.reduceSub, Int.reduceMul, Int.reduceNeg, Int.reduceTMod, Int.reduceTDiv, List.replicate_zero, List.replicate_succ]
      have hc : ¬ (2 : Int) ≤ (L1.length : Int) := by omega
      simp only [hc, false_and, if_false] at hX
      rw [hX]
      simp [VLe_self, CLe_self, DLe_self, hc]

set_option maxHeartbeats 2000000 in
theorem refWrite_100 (ns : N3) (r : R3) (e : Int) (m : List ByteArray) (hs : ns.small 1000000) (hm : m.length ≤ 1000000) (hb : boundN e m = 0) (l0 : ns.a.lost = true) (l1 : ns.b.lost = false) (l2 : ns.c.lost = false) (X : N3 × Bool × Int) (hX : X = writeN r ns e m) :
    Gives Try.prog 18 [.agg [.int .i64 ns.a.p, .int .i64 ns.a.e, .sl 1 (strs ns.a.log), .bool ns.a.lost, .int .i64 ns.b.p, .int .i64 ns.b.e, .sl 1 (strs ns.b.log), .bool ns.b.lost, .int .i64 ns.c.p, .int .i64 ns.c.e, .sl 1 (strs ns.c.log), .bool ns.c.lost], .agg [.int .u8 r.a, .int .u8 r.b, .int .u8 r.c], .c (.int .i64 e), .c (.sl 1 (strs m))]
    (.tup [.agg [.d (.int .i64 X.1.a.p), .d (.int .i64 X.1.a.e), .d (.sl 1 (strs X.1.a.log)), .d (.bool X.1.a.lost), .d (.int .i64 X.1.b.p), .d (.int .i64 X.1.b.e), .d (.sl 1 (strs X.1.b.log)), .d (.bool X.1.b.lost), .d (.int .i64 X.1.c.p), .d (.int .i64 X.1.c.e), .d (.sl 1 (strs X.1.c.log)), .d (.bool X.1.c.lost)], .c (.d (.bool X.2.1)), .c (.d (.int .i64 X.2.2))]) [] := by
  have hk : lostN ns = 0 := by simp [lostN, l0, l1, l2]
  have hbd := bound45 e m
  rw [hb] at hbd
  generalize hL0 : ([] : List Int) = L0
  have q0 : L0.length = 0 := by rw [← hL0]; rfl
  have s0 : stepN (installN · e m) r.a 0 ns.a L0 = (ns.a, L0) := by
    rw [stepN_not hb (by cases arrivesN r.a <;> simp [l0])]
    rfl
  generalize hM1 : (stepN (installN · e m) r.b 1 ns.b L0).1 = M1
  generalize hL2 : (stepN (installN · e m) r.b 1 ns.b L0).2 = L2
  have s1 : stepN (installN · e m) r.b 1 ns.b L0 = (M1, L2) := by rw [← hM1, ← hL2]
  have n1 := stepN_len (installN · e m) r.b 1 ns.b L0
  rw [hL2] at n1
  generalize hM2 : (stepN (installN · e m) r.c 2 ns.c L2).1 = M2
  generalize hL3 : (stepN (installN · e m) r.c 2 ns.c L2).2 = L3
  have s2 : stepN (installN · e m) r.c 2 ns.c L2 = (M2, L3) := by rw [← hM2, ← hL3]
  have n2 := stepN_len (installN · e m) r.c 2 ns.c L2
  rw [hL3] at n2
  have hcall : callN (installN · e m) r ns = (⟨ns.a, M1, M2⟩, L3) := by
    simp only [callN, callK_3, hL0, s0, s1, s2]
  simp only [writeN, hb, ne_eq, not_true_eq_false, if_false, hcall, hk] at hX
  refine Gives.of_wT TryEnv Try.func18 (by decide) TryL18_ok Try.ntmps18 (rs := [.cell 8 25, .tmp 9, .tmp 10]) rfl (by simp) [] (by decide) ?_; rw [TryL18]
  refine wT_of TryEnv ?_
  repeat' first
    | simp -implicitDefEqProofs only [go_sem, ↓reduceIte, Nat.reduceEqDiff, Nat.reduceAdd, Nat.reduceMul, Nat.reduceSub, Nat.reduceLeDiff, Nat.reduceLT, Nat.reducePow, reduceCtorEq, Int.reduceToNat, Int.reduceLT, Int.reduceLE, Int.reduceEq, Int.reduceAdd, Int.reduceSub, Int.reduceMul, Int.reduceNeg, Int.reduceTMod, Int.reduceTDiv, List.replicate_zero, List.replicate_succ]
    | (refine wCall_intro (all37 ns hs) ?_ ?_ ?_; rfl; decide)
    | (refine wCall_intro hbd ?_ ?_ ?_; rfl; decide)
  refine wT_loop (fun k : To3 => if k.1 = 0 then ⟨[(2, .c (.d (.int .i64 e))), (3, .c (.d (.sl 1 (strs m)))), (4, .c (.ptr 0 0)), (5, .c (.ptr 4 0)), (8, .c (.ptr 8 0)), (12, .c (.d (.int .i64 0))), (13, .c (.d (.int .i64 (L0.length : Nat)))), (14, .c (.d (.int .i64 (-1)))), (15, .c (.d (.int .i64 0)))], [(0, .box [.d (.int .i64 ns.a.p), .d (.int .i64 ns.a.e), .d (.sl 1 (strs ns.a.log)), .d (.bool ns.a.lost), .d (.int .i64 ns.b.p), .d (.int .i64 ns.b.e), .d (.sl 1 (strs ns.b.log)), .d (.bool ns.b.lost), .d (.int .i64 ns.c.p), .d (.int .i64 ns.c.e), .d (.sl 1 (strs ns.c.log)), .d (.bool ns.c.lost)]), (4, .box [.d (.int .u8 r.a), .d (.int .u8 r.b), .d (.int .u8 r.c)]), (8, .box [.d (.int .i64 0), .d (.int .i64 0), .d .nilSl, .d (.bool false), .d (.int .i64 0), .d (.int .i64 0), .d .nilSl, .d (.bool false), .d (.int .i64 0), .d (.int .i64 0), .d .nilSl, .d (.bool false)])], 9⟩ else if k.1 = 1 then ⟨[(2, .c (.d (.int .i64 e))), (3, .c (.d (.sl 1 (strs m)))), (4, .c (.ptr 0 0)), (5, .c (.ptr 4 0)), (8, .c (.ptr 8 0)), (12, .c (.d (.int .i64 0))), (13, .c (.d (.int .i64 (L0.length : Nat)))), (14, .c (.d (.int .i64 (0)))), (15, .c (.d (.int .i64 1)))], [(0, .box [.d (.int .i64 ns.a.p), .d (.int .i64 ns.a.e), .d (.sl 1 (strs ns.a.log)), .d (.bool ns.a.lost), .d (.int .i64 ns.b.p), .d (.int .i64 ns.b.e), .d (.sl 1 (strs ns.b.log)), .d (.bool ns.b.lost), .d (.int .i64 ns.c.p), .d (.int .i64 ns.c.e), .d (.sl 1 (strs ns.c.log)), .d (.bool ns.c.lost)]), (4, .box [.d (.int .u8 r.a), .d (.int .u8 r.b), .d (.int .u8 r.c)]), (8, .box [.d (.int .i64 0), .d (.int .i64 0), .d .nilSl, .d (.bool false), .d (.int .i64 0), .d (.int .i64 0), .d .nilSl, .d (.bool false), .d (.int .i64 0), .d (.int .i64 0), .d .nilSl, .d (.bool false)])], 9⟩ else if k.1 = 2 then ⟨[(2, .c (.d (.int .i64 e))), (3, .c (.d (.sl 1 (strs m)))), (4, .c (.ptr 0 0)), (5, .c (.ptr 4 0)), (8, .c (.ptr 8 0)), (12, .c (.d (.int .i64 1))), (13, .c (.d (.int .i64 (L2.length : Nat)))), (14, .c (.d (.int .i64 (0)))), (15, .c (.d (.int .i64 2)))], [(0, .box [.d (.int .i64 ns.a.p), .d (.int .i64 ns.a.e), .d (.sl 1 (strs ns.a.log)), .d (.bool ns.a.lost), .d (.int .i64 M1.p), .d (.int .i64 M1.e), .d (.sl 1 (strs M1.log)), .d (.bool M1.lost), .d (.int .i64 ns.c.p), .d (.int .i64 ns.c.e), .d (.sl 1 (strs ns.c.log)), .d (.bool ns.c.lost)]), (4, .box [.d (.int .u8 r.a), .d (.int .u8 r.b), .d (.int .u8 r.c)]), (8, .box [.d (.int .i64 0), .d (.int .i64 0), .d .nilSl, .d (.bool false), .d (.int .i64 0), .d (.int .i64 0), .d .nilSl, .d (.bool false), .d (.int .i64 0), .d (.int .i64 0), .d .nilSl, .d (.bool false)])], 9⟩ else ⟨[(2, .c (.d (.int .i64 e))), (3, .c (.d (.sl 1 (strs m)))), (4, .c (.ptr 0 0)), (5, .c (.ptr 4 0)), (8, .c (.ptr 8 0)), (12, .c (.d (.int .i64 2))), (13, .c (.d (.int .i64 (L3.length : Nat)))), (14, .c (.d (.int .i64 (0)))), (15, .c (.d (.int .i64 3)))], [(0, .box [.d (.int .i64 ns.a.p), .d (.int .i64 ns.a.e), .d (.sl 1 (strs ns.a.log)), .d (.bool ns.a.lost), .d (.int .i64 M1.p), .d (.int .i64 M1.e), .d (.sl 1 (strs M1.log)), .d (.bool M1.lost), .d (.int .i64 M2.p), .d (.int .i64 M2.e), .d (.sl 1 (strs M2.log)), .d (.bool M2.lost)]), (4, .box [.d (.int .u8 r.a), .d (.int .u8 r.b), .d (.int .u8 r.c)]), (8, .box [.d (.int .i64 0), .d (.int .i64 0), .d .nilSl, .d (.bool false), .d (.int .i64 0), .d (.int .i64 0), .d .nilSl, .d (.bool false), .d (.int .i64 0), .d (.int .i64 0), .d .nilSl, .d (.bool false)])], 9⟩) (fun k => (3 - k.1).toNat) ⟨0, by omega⟩ ?_ ?_
  · simp -implicitDefEqProofs only [go_sem, ↓reduceIte, Nat.reduceEqDiff, Nat.reduceAdd, Nat.reduceMul, Nat.reduceSub, Nat.reduceLeDiff, Nat.reduceLT, Nat.reducePow, reduceCtorEq, Int.reduceToNat, Int.reduceLT, Int.reduceLE, Int.reduceEq, Int.reduceAdd, Int.reduceSub, Int.reduceMul, Int.reduceNeg, Int.reduceTMod, Int.reduceTDiv, List.replicate_zero, List.replicate_succ, Int.reduceEq]
    refine Wk.sub ?_ ?_ (by decide) (by decide) ?_ ?_
    all_goals simp -implicitDefEqProofs only [go_sem, ↓reduceIte, Nat.reduceEqDiff, Nat.reduceAdd, Nat.reduceMul, Nat.reduceSub, Nat.reduceLeDiff, Nat.reduceLT, Nat.reducePow, reduceCtorEq, Int.reduceToNat, Int.reduceLT, Int.reduceLE, Int.reduceEq, Int.reduceAdd, Int.reduceSub, Int.reduceMul, Int.reduceNeg, Int.reduceTMod, Int.reduceTDiv, List.replicate_zero, List.replicate_succ, q0, Int.natCast_zero, l0, l1, l2]
  · refine To3.all ?_ ?_ ?_ ?_
    all_goals simp only [Int.reduceEq, if_true, if_false]
    all_goals refine wT_of TryEnv ?_
    · repeat' first
        | simp -implicitDefEqProofs only [go_sem, ↓reduceIte, Nat.reduceEqDiff, Nat.reduceAdd, Nat.reduceMul, Nat.reduceSub, Nat.reduceLeDiff, Nat.reduceLT, Nat.reducePow, reduceCtorEq, Int.reduceToNat, Int.reduceLT, Int.reduceLE, Int.reduceEq, Int.reduceAdd, Int.reduceSub, Int.reduceMul, Int.reduceNeg, Int.reduceTMod, Int.reduceTDiv, List.replicate_zero, List.replicate_succ, l0]
        | apply And.intro
      refine ⟨⟨1, by omega⟩, ?_, by simp⟩
      simp only [Int.reduceEq, if_true, if_false]
      refine Wk.sub ?_ ?_ (by decide) (by decide) ?_ ?_
      all_goals simp -implicitDefEqProofs only [go_sem, ↓reduceIte, Nat.reduceEqDiff, Nat.reduceAdd, Nat.reduceMul, Nat.reduceSub, Nat.reduceLeDiff, Nat.reduceLT, Nat.reducePow, reduceCtorEq, Int.reduceToNat, Int.reduceLT, Int.reduceLE, Int.reduceEq, Int.reduceAdd, Int.reduceSub, Int.reduceMul, Int.reduceNeg, Int.reduceTMod, Int.reduceTDiv, List.replicate_zero, List.replicate_succ, l0]
    · have hw : IntKind.i64.wrap ((L0.length : Int) + 1) = ((L0.length + 1 : Nat) : Int) := by rw [wrap64 (by omega) (by omega)]; rfl
      have hI := refInstall' ns.b e m hm
      rw [l1] at hI
      repeat' first
        | simp -implicitDefEqProofs only [go_sem, ↓reduceIte, Nat.reduceEqDiff, Nat.reduceAdd, Nat.reduceMul, Nat.reduceSub, Nat.reduceLeDiff, Nat.reduceLT, Nat.reducePow, reduceCtorEq, Int.reduceToNat, Int.reduceLT, Int.reduceLE, Int.reduceEq, Int.reduceAdd, Int.reduceSub, Int.reduceMul, Int.reduceNeg, Int.reduceTMod, Int.reduceTDiv, List.replicate_zero, List.replicate_succ, l1, List.set_cons_succ, List.set_cons_zero]
        | (refine wCall_intro hI ?_ ?_ ?_; rfl; decide)
        | (refine wCall_intro (arrives38 _) ?_ ?_ ?_; rfl; decide)
        | refine wfork_intro (fun h => ?_) (fun h => ?_)
        | refine Also.mk (by decide) ?_
        | apply And.intro
      all_goals try simp only [Bool.not_eq_true', Bool.not_eq_false', Bool.not_eq_true, decide_eq_true_eq, decide_eq_false_iff_not] at *
      all_goals refine ⟨⟨2, by omega⟩, ?_, by simp⟩
      all_goals simp only [Int.reduceEq, if_true, if_false]
      all_goals refine Wk.sub ?_ ?_ (by decide) (by decide) ?_ ?_
      all_goals simp -implicitDefEqProofs only [go_sem, ↓reduceIte, Nat.reduceEqDiff, Nat.reduceAdd, Nat.reduceMul, Nat.reduceSub, Nat.reduceLeDiff, Nat.reduceLT, Nat.reducePow, reduceCtorEq, Int.reduceToNat, Int.reduceLT, Int.reduceLE, Int.reduceEq, Int.reduceAdd, Int.reduceSub, Int.reduceMul, Int.reduceNeg, Int.reduceTMod, Int.reduceTDiv, List.replicate_zero, List.replicate_succ, ← hM1, ← hL2, hw, stepN_no, stepN_err, stepN_ok, stepN_there, arrivesN_0, List.length_append, ne_eq, not_true_eq_false, not_false_eq_true, *]
    · have hw : IntKind.i64.wrap ((L2.length : Int) + 1) = ((L2.length + 1 : Nat) : Int) := by rw [wrap64 (by omega) (by omega)]; rfl
      have hI := refInstall' ns.c e m hm
      rw [l2] at hI
      repeat' first
        | simp -implicitDefEqProofs only [go_sem, ↓reduceIte, Nat.reduceEqDiff, Nat.reduceAdd, Nat.reduceMul, Nat.reduceSub, Nat.reduceLeDiff, Nat.reduceLT, Nat.reducePow, reduceCtorEq, Int.reduceToNat, Int.reduceLT, Int.reduceLE, Int.reduceEq, Int.reduceAdd, Int.reduceSub, Int.reduceMul, Int.reduceNeg, Int.reduceTMod, Int.reduceTDiv, List.replicate_zero, List.replicate_succ, l2, List.set_cons_succ, List.set_cons_zero]
        | (refine wCall_intro hI ?_ ?_ ?_; rfl; decide)
        | (refine wCall_intro (arrives38 _) ?_ ?_ ?_; rfl; decide)
        | refine wfork_intro (fun h => ?_) (fun h => ?_)
        | refine Also.mk (by decide) ?_
        | apply And.intro
      all_goals try simp only [Bool.not_eq_true', Bool.not_eq_false', Bool.not_eq_true, decide_eq_true_eq, decide_eq_false_iff_not] at *
      all_goals refine ⟨⟨3, by omega⟩, ?_, by simp⟩
      all_goals simp only [Int.reduceEq, if_true, if_false]
      all_goals refine Wk.sub ?_ ?_ (by decide) (by decide) ?_ ?_
      all_goals simp -implicitDefEqProofs only [go_sem, ↓reduceIte, Nat.reduceEqDiff, Nat.reduceAdd, Nat.reduceMul, Nat.reduceSub, Nat.reduceLeDiff, Nat.reduceLT, Nat.reducePow, reduceCtorEq, Int.reduceToNat, Int.reduceLT, Int.reduceLE, Int.reduceEq, Int.reduceAdd, Int.reduceSub, Int.reduceMul, Int.reduceNeg, Int.reduceTMod, Int.reduceTDiv, List.replicate_zero, List.replicate_succ, ← hM2, ← hL3, hw, stepN_no, stepN_err, stepN_ok, stepN_there, arrivesN_0, List.length_append, ne_eq, not_true_eq_false, not_false_eq_true, *]
    · have hh := refHeal' ns.a e m hm
      have he : healN ns.a e m = (madeN e m, 0) := by simp [healN, hb, l0]
      rw [he] at hh
      have hle : L3.length ≤ 2 := by omega
      simp only [R3.get, N3.set, Int.reduceEq, Int.reduceLE, if_true, if_false, true_and] at hX
      repeat' first
        | simp -implicitDefEqProofs only [go_sem, ↓reduceIte, Nat.reduceEqDiff, Nat.reduceAdd, Nat.reduceMul, Nat.reduceSub, Nat.reduceLeDiff, Nat.reduceLT, Nat.reducePow, reduceCtorEq, Int.reduceToNat, Int.reduceLT, Int.reduceLE, Int.reduceEq, Int.reduceAdd, Int.reduceSub, Int.reduceMul, Int.reduceNeg, Int.reduceTMod, Int.reduceTDiv, List.replicate_zero, List.replicate_succ, List.set_cons_succ, List.set_cons_zero]
        | (refine wCall_intro (arrives38 _) ?_ ?_ ?_; rfl; decide)
        | (refine wCall_intro hh ?_ ?_ ?_; rfl; decide)
        | refine wfork_intro (fun h => ?_) (fun h => ?_)
      all_goals try simp only [Bool.not_eq_true', Bool.not_eq_false', Bool.not_eq_true, decide_eq_true_eq, decide_eq_false_iff_not] at *
      all_goals first
        | (have hc : ¬ (2 : Int) ≤ (L3.length : Int) := by omega
           simp only [hc, false_and, if_false] at hX
           rw [hX]
           simp [VLe_self, CLe_self, DLe_self, hc]
           done)
        | (have hc : (2 : Int) ≤ (L3.length : Int) := by omega
           simp only [hc, true_and, *, if_true, if_false, Bool.false_eq_true] at hX
           rw [hX]
           simp [VLe_self, CLe_self, DLe_self, hc]
           done)

set_option maxHeartbeats 2000000 in
theorem refWrite_101 (ns : N3) (r : R3) (e : Int) (m : List ByteArray) (hs : ns.small 1000000) (hm : m.length ≤ 1000000) (hb : boundN e m = 0) (l0 : ns.a.lost = true) (l1 : ns.b.lost = false) (l2 : ns.c.lost = true) (X : N3 × Bool × Int) (hX : X = writeN r ns e m) :
    Gives Try.prog 18 [.agg [.int .i64 ns.a.p, .int .i64 ns.a.e, .sl 1 (strs ns.a.log), .bool ns.a.lost, .int .i64 ns.b.p, .int .i64 ns.b.e, .sl 1 (strs ns.b.log), .bool ns.b.lost, .int .i64 ns.c.p, .int .i64 ns.c.e, .sl 1 (strs ns.c.log), .bool ns.c.lost], .agg [.int .u8 r.a, .int .u8 r.b, .int .u8 r.c], .c (.int .i64 e), .c (.sl 1 (strs m))]
    (.tup [.agg [.d (.int .i64 X.1.a.p), .d (.int .i64 X.1.a.e), .d (.sl 1 (strs X.1.a.log)), .d (.bool X.1.a.lost), .d (.int .i64 X.1.b.p), .d (.int .i64 X.1.b.e), .d (.sl 1 (strs X.1.b.log)), .d (.bool X.1.b.lost), .d (.int .i64 X.1.c.p), .d (.int .i64 X.1.c.e), .d (.sl 1 (strs X.1.c.log)), .d (.bool X.1.c.lost)], .c (.d (.bool X.2.1)), .c (.d (.int .i64 X.2.2))]) [] := by
  have hk : lostN ns = 0 := by simp [lostN, l0, l1, l2]
  have hbd := bound45 e m
  rw [hb] at hbd
  generalize hL0 : ([] : List Int) = L0
  have q0 : L0.length = 0 := by rw [← hL0]; rfl
  have s0 : stepN (installN · e m) r.a 0 ns.a L0 = (ns.a, L0) := by
    rw [stepN_not hb (by cases arrivesN r.a <;> simp [l0])]
    rfl
  generalize hM1 : (stepN (installN · e m) r.b 1 ns.b L0).1 = M1
  generalize hL2 : (stepN (installN · e m) r.b 1 ns.b L0).2 = L2
  have s1 : stepN (installN · e m) r.b 1 ns.b L0 = (M1, L2) := by rw [← hM1, ← hL2]
  have n1 := stepN_len (installN · e m) r.b 1 ns.b L0
  rw [hL2] at n1
  have s2 : stepN (installN · e m) r.c 2 ns.c L2 = (ns.c, L2) := by
    rw [stepN_not hb (by cases arrivesN r.c <;> simp [l2])]
    rfl
  have hcall : callN (installN · e m) r ns = (⟨ns.a, M1, ns.c⟩, L2) := by
    simp only [callN, callK_3, hL0, s0, s1, s2]
  simp only [writeN, hb, ne_eq, not_true_eq_false, if_false, hcall, hk] at hX
  refine Gives.of_wT TryEnv Try.func18 (by decide) TryL18_ok Try.ntmps18 (rs := [.cell 8 25, .tmp 9, .tmp 10]) rfl (by simp) [] (by decide) ?_; rw [TryL18]
  refine wT_of TryEnv ?_
  repeat' first
    | simp -implicitDefEqProofs only [go_sem, ↓reduceIte, Nat.reduceEqDiff, Nat.reduceAdd, Nat.reduceMul, Nat.reduceSub, Nat.reduceLeDiff, Nat.reduceLT, Nat.reducePow, reduceCtorEq, Int.reduceToNat, Int.reduceLT, Int.reduceLE, Int.reduceEq, Int.reduceAdd, Int.reduceSub, Int.reduceMul, Int.reduceNeg, Int.reduceTMod, Int.reduceTDiv, List.replicate_zero, List.replicate_succ]
    | (refine wCall_intro (all37 ns hs) ?_ ?_ ?_; rfl; decide)
    | (refine wCall_intro hbd ?_ ?_ ?_; rfl; decide)
  refine wT_loop (fun k : To3 => if k.1 = 0 then ⟨[(2, .c (.d (.int .i64 e))), (3, .c (.d (.sl 1 (strs m)))), (4, .c (.ptr 0 0)), (5, .c (.ptr 4 0)), (8, .c (.ptr 8 0)), (12, .c (.d (.int .i64 0))), (13, .c (.d (.int .i64 (L0.length : Nat)))), (14, .c (.d (.int .i64 (-1)))), (15, .c (.d (.int .i64 0)))], [(0, .box [.d (.int .i64 ns.a.p), .d (.int .i64 ns.a.e), .d (.sl 1 (strs ns.a.log)), .d (.bool ns.a.lost), .d (.int .i64 ns.b.p), .d (.int .i64 ns.b.e), .d (.sl 1 (strs ns.b.log)), .d (.bool ns.b.lost), .d (.int .i64 ns.c.p), .d (.int .i64 ns.c.e), .d (.sl 1 (strs ns.c.log)), .d (.bool ns.c.lost)]), (4, .box [.d (.int .u8 r.a), .d (.int .u8 r.b), .d (.int .u8 r.c)]), (8, .box [.d (.int .i64 0), .d (.int .i64 0), .d .nilSl, .d (.bool false), .d (.int .i64 0), .d (.int .i64 0), .d .nilSl, .d (.bool false), .d (.int .i64 0), .d (.int .i64 0), .d .nilSl, .d (.bool false)])], 9⟩ else if k.1 = 1 then ⟨[(2, .c (.d (.int .i64 e))), (3, .c (.d (.sl 1 (strs m)))), (4, .c (.ptr 0 0)), (5, .c (.ptr 4 0)), (8, .c (.ptr 8 0)), (12, .c (.d (.int .i64 0))), (13, .c (.d (.int .i64 (L0.length : Nat)))), (14, .c (.d (.int .i64 (0)))), (15, .c (.d (.int .i64 1)))], [(0, .box [.d (.int .i64 ns.a.p), .d (.int .i64 ns.a.e), .d (.sl 1 (strs ns.a.log)), .d (.bool ns.a.lost), .d (.int .i64 ns.b.p), .d (.int .i64 ns.b.e), .d (.sl 1 (strs ns.b.log)), .d (.bool ns.b.lost), .d (.int .i64 ns.c.p), .d (.int .i64 ns.c.e), .d (.sl 1 (strs ns.c.log)), .d (.bool ns.c.lost)]), (4, .box [.d (.int .u8 r.a), .d (.int .u8 r.b), .d (.int .u8 r.c)]), (8, .box [.d (.int .i64 0), .d (.int .i64 0), .d .nilSl, .d (.bool false), .d (.int .i64 0), .d (.int .i64 0), .d .nilSl, .d (.bool false), .d (.int .i64 0), .d (.int .i64 0), .d .nilSl, .d (.bool false)])], 9⟩ else if k.1 = 2 then ⟨[(2, .c (.d (.int .i64 e))), (3, .c (.d (.sl 1 (strs m)))), (4, .c (.ptr 0 0)), (5, .c (.ptr 4 0)), (8, .c (.ptr 8 0)), (12, .c (.d (.int .i64 1))), (13, .c (.d (.int .i64 (L2.length : Nat)))), (14, .c (.d (.int .i64 (0)))), (15, .c (.d (.int .i64 2)))], [(0, .box [.d (.int .i64 ns.a.p), .d (.int .i64 ns.a.e), .d (.sl 1 (strs ns.a.log)), .d (.bool ns.a.lost), .d (.int .i64 M1.p), .d (.int .i64 M1.e), .d (.sl 1 (strs M1.log)), .d (.bool M1.lost), .d (.int .i64 ns.c.p), .d (.int .i64 ns.c.e), .d (.sl 1 (strs ns.c.log)), .d (.bool ns.c.lost)]), (4, .box [.d (.int .u8 r.a), .d (.int .u8 r.b), .d (.int .u8 r.c)]), (8, .box [.d (.int .i64 0), .d (.int .i64 0), .d .nilSl, .d (.bool false), .d (.int .i64 0), .d (.int .i64 0), .d .nilSl, .d (.bool false), .d (.int .i64 0), .d (.int .i64 0), .d .nilSl, .d (.bool false)])], 9⟩ else ⟨[(2, .c (.d (.int .i64 e))), (3, .c (.d (.sl 1 (strs m)))), (4, .c (.ptr 0 0)), (5, .c (.ptr 4 0)), (8, .c (.ptr 8 0)), (12, .c (.d (.int .i64 1))), (13, .c (.d (.int .i64 (L2.length : Nat)))), (14, .c (.d (.int .i64 (2)))), (15, .c (.d (.int .i64 3)))], [(0, .box [.d (.int .i64 ns.a.p), .d (.int .i64 ns.a.e), .d (.sl 1 (strs ns.a.log)), .d (.bool ns.a.lost), .d (.int .i64 M1.p), .d (.int .i64 M1.e), .d (.sl 1 (strs M1.log)), .d (.bool M1.lost), .d (.int .i64 ns.c.p), .d (.int .i64 ns.c.e), .d (.sl 1 (strs ns.c.log)), .d (.bool ns.c.lost)]), (4, .box [.d (.int .u8 r.a), .d (.int .u8 r.b), .d (.int .u8 r.c)]), (8, .box [.d (.int .i64 0), .d (.int .i64 0), .d .nilSl, .d (.bool false), .d (.int .i64 0), .d (.int .i64 0), .d .nilSl, .d (.bool false), .d (.int .i64 0), .d (.int .i64 0), .d .nilSl, .d (.bool false)])], 9⟩) (fun k => (3 - k.1).toNat) ⟨0, by omega⟩ ?_ ?_
  · simp -implicitDefEqProofs only [go_sem, ↓reduceIte, Nat.reduceEqDiff, Nat.reduceAdd, Nat.reduceMul, Nat.reduceSub, Nat.reduceLeDiff, Nat.reduceLT, Nat.reducePow, reduceCtorEq, Int.reduceToNat, Int.reduceLT, Int.reduceLE, Int.reduceEq, Int.reduceAdd, Int.reduceSub, Int.reduceMul, Int.reduceNeg, Int.reduceTMod, Int.reduceTDiv, List.replicate_zero, List.replicate_succ, Int.reduceEq]
    refine Wk.sub ?_ ?_ (by decide) (by decide) ?_ ?_
    all_goals simp -implicitDefEqProofs only [go_sem, ↓reduceIte, Nat.reduceEqDiff, Nat.reduceAdd, Nat.reduceMul, Nat.reduceSub, Nat.reduceLeDiff, Nat.reduceLT, Nat.reducePow, reduceCtorEq, Int.reduceToNat, Int.reduceLT, Int.reduceLE, Int.reduceEq, Int.reduceAdd, Int.reduceSub, Int.reduceMul, Int.reduceNeg, Int.reduceTMod, Int.reduceTDiv, List.replicate_zero, List.replicate_succ, q0, Int.natCast_zero, l0, l1, l2]
  · refine To3.all ?_ ?_ ?_ ?_
    all_goals simp only [Int.reduceEq, if_true, if_false]
    all_goals refine wT_of TryEnv ?_
    · repeat' first
        | simp -implicitDefEqProofs only [go_sem, ↓reduceIte, Nat.reduceEqDiff, Nat.reduceAdd, Nat.reduceMul, Nat.reduceSub, Nat.reduceLeDiff, Nat.reduceLT, Nat.reducePow, reduceCtorEq, Int.reduceToNat, Int.reduceLT, Int.reduceLE, Int.reduceEq, Int.reduceAdd, Int.reduceSub, Int.reduceMul, Int.reduceNeg, Int.reduceTMod, Int.reduceTDiv, List.replicate_zero, List.replicate_succ, l0]
        | apply And.intro
      refine ⟨⟨1, by omega⟩, ?_, by simp⟩
      simp only [Int.reduceEq, if_true, if_false]
      refine Wk.sub ?_ ?_ (by decide) (by decide) ?_ ?_
      all_goals simp -implicitDefEqProofs only [go_sem, ↓reduceIte, Nat.reduceEqDiff, Nat.reduceAdd, Nat.reduceMul, Nat.reduceSub, Nat.reduceLeDiff, Nat.reduceLT, Nat.reducePow, reduceCtorEq, Int.reduceToNat, Int.reduceLT, Int.reduceLE, Int.reduceEq, Int.reduceAdd, Int.reduceSub, Int.reduceMul, Int.reduceNeg, Int.reduceTMod, Int.reduceTDiv, List.replicate_zero, List.replicate_succ, l0]
    · have hw : IntKind.i64.wrap ((L0.length : Int) + 1) = ((L0.length + 1 : Nat) : Int) := by rw [wrap64 (by omega) (by omega)]; rfl
      have hI := refInstall' ns.b e m hm
      rw [l1] at hI
      repeat' first
        | simp -implicitDefEqProofs only [go_sem, ↓reduceIte, Nat.reduceEqDiff, Nat.reduceAdd, Nat.reduceMul, Nat.reduceSub, Nat.reduceLeDiff, Nat.reduceLT, Nat.reducePow, reduceCtorEq, Int.reduceToNat, Int.reduceLT, Int.reduceLE, Int.reduceEq, Int.reduceAdd, Int.reduceSub, Int.reduceMul, Int.reduceNeg, Int.reduceTMod, Int.reduceTDiv, List.replicate_zero, List.replicate_succ, l1, List.set_cons_succ, List.set_cons_zero]
        | (refine wCall_intro hI ?_ ?_ ?_; rfl; decide)
        | (refine wCall_intro (arrives38 _) ?_ ?_ ?_; rfl; decide)
        | refine wfork_intro (fun h => ?_) (fun h => ?_)
        | refine Also.mk (by decide) ?_
        | apply And.intro
      all_goals try simp only [Bool.not_eq_true', Bool.not_eq_false', Bool.not_eq_true, decide_eq_true_eq, decide_eq_false_iff_not] at *
      all_goals refine ⟨⟨2, by omega⟩, ?_, by simp⟩
      all_goals simp only [Int.reduceEq, if_true, if_false]
      all_goals refine Wk.sub ?_ ?_ (by decide) (by decide) ?_ ?_
      all_goals simp -implicitDefEqProofs only [go_sem, ↓reduceIte, Nat.reduceEqDiff, Nat.reduceAdd, Nat.reduceMul, Nat.reduceSub, Nat.reduceLeDiff, Nat.reduceLT, Nat.reducePow, reduceCtorEq, Int.reduceToNat, Int.reduceLT, Int.reduceLE, Int.reduceEq, Int.reduceAdd, Int.reduceSub, Int.reduceMul, Int.reduceNeg, Int.reduceTMod, Int.reduceTDiv, List.replicate_zero, List.replicate_succ, ← hM1, ← hL2, hw, stepN_no, stepN_err, stepN_ok, stepN_there, arrivesN_0, List.length_append, ne_eq, not_true_eq_false, not_false_eq_true, *]
    · repeat' first
        | simp -implicitDefEqProofs only [go_sem, ↓reduceIte, Nat.reduceEqDiff, Nat.reduceAdd, Nat.reduceMul, Nat.reduceSub, Nat.reduceLeDiff, Nat.reduceLT, Nat.reducePow, reduceCtorEq, Int.reduceToNat, Int.reduceLT, Int.reduceLE, Int.reduceEq, Int.reduceAdd, Int.reduceSub, Int.reduceMul, Int.reduceNeg, Int.reduceTMod, Int.reduceTDiv, List.replicate_zero, List.replicate_succ, l2]
        | apply And.intro
      refine ⟨⟨3, by omega⟩, ?_, by simp⟩
      simp only [Int.reduceEq, if_true, if_false]
      refine Wk.sub ?_ ?_ (by decide) (by decide) ?_ ?_
      all_goals simp -implicitDefEqProofs only [go_sem, ↓reduceIte, Nat.reduceEqDiff, Nat.reduceAdd, Nat.reduceMul, Nat.reduceSub, Nat.reduceLeDiff, Nat.reduceLT, Nat.reducePow, reduceCtorEq, Int.reduceToNat, Int.reduceLT, Int.reduceLE, Int.reduceEq, Int.reduceAdd, Int.reduceSub, Int.reduceMul, Int.reduceNeg, Int.reduceTMod, Int.reduceTDiv, List.replicate_zero, List.replicate_succ, l2]
    · simp -implicitDefEqProofs only [go_sem, ↓reduceIte, Nat.reduceEqDiff, Nat.reduceAdd, Nat.reduceMul, Nat.reduceSub, Nat.reduceLeDiff, Nat.reduceLT, Nat.reducePow, reduceCtorEq, Int.reduceToNat, Int.reduceLT, Int.reduceLE, Int.reduceEq, Int.reduceAdd, Int.reduceSub, Int.reduceMul, Int.reduceNeg, Int.reduceTMod, Int.reduceTDiv, List.replicate_zero, List.replicate_succ]
      have hc : ¬ (2 : Int) ≤ (L2.length : Int) := by omega
      simp only [hc, false_and, if_false] at hX
      rw [hX]
      simp [VLe_self, CLe_self, DLe_self, hc]

set_option maxHeartbeats 2000000 in
theorem refWrite_110 (ns : N3) (r : R3) (e : Int) (m : List ByteArray) (hs : ns.small 1000000) (hm : m.length ≤ 1000000) (hb : boundN e m = 0) (l0 : ns.a.lost = true) (l1 : ns.b.lost = true) (l2 : ns.c.lost = false) (X : N3 × Bool × Int) (hX : X = writeN r ns e m) :
    Gives Try.prog 18 [.agg [.int .i64 ns.a.p, .int .i64 ns.a.e, .sl 1 (strs ns.a.log), .bool ns.a.lost, .int .i64 ns.b.p, .int .i64 ns.b.e, .sl 1 (strs ns.b.log), .bool ns.b.lost, .int .i64 ns.c.p, .int .i64 ns.c.e, .sl 1 (strs ns.c.log), .bool ns.c.lost], .agg [.int .u8 r.a, .int .u8 r.b, .int .u8 r.c], .c (.int .i64 e), .c (.sl 1 (strs m))]
    (.tup [.agg [.d (.int .i64 X.1.a.p), .d (.int .i64 X.1.a.e), .d (.sl 1 (strs X.1.a.log)), .d (.bool X.1.a.lost), .d (.int .i64 X.1.b.p), .d (.int .i64 X.1.b.e), .d (.sl 1 (strs X.1.b.log)), .d (.bool X.1.b.lost), .d (.int .i64 X.1.c.p), .d (.int .i64 X.1.c.e), .d (.sl 1 (strs X.1.c.log)), .d (.bool X.1.c.lost)], .c (.d (.bool X.2.1)), .c (.d (.int .i64 X.2.2))]) [] := by
  have hk : lostN ns = 0 := by simp [lostN, l0, l1, l2]
  have hbd := bound45 e m
  rw [hb] at hbd
  generalize hL0 : ([] : List Int) = L0
  have q0 : L0.length = 0 := by rw [← hL0]; rfl
  have s0 : stepN (installN · e m) r.a 0 ns.a L0 = (ns.a, L0) := by
    rw [stepN_not hb (by cases arrivesN r.a <;> simp [l0])]
    rfl
  have s1 : stepN (installN · e m) r.b 1 ns.b L0 = (ns.b, L0) := by
    rw [stepN_not hb (by cases arrivesN r.b <;> simp [l1])]
    rfl
  generalize hM2 : (stepN (installN · e m) r.c 2 ns.c L0).1 = M2
  generalize hL3 : (stepN (installN · e m) r.c 2 ns.c L0).2 = L3
  have s2 : stepN (installN · e m) r.c 2 ns.c L0 = (M2, L3) := by rw [← hM2, ← hL3]
  have n2 := stepN_len (installN · e m) r.c 2 ns.c L0
  rw [hL3] at n2
  have hcall : callN (installN · e m) r ns = (⟨ns.a, ns.b, M2⟩, L3) := by
    simp only [callN, callK_3, hL0, s0, s1, s2]
  simp only [writeN, hb, ne_eq, not_true_eq_false, if_false, hcall, hk] at hX
  refine Gives.of_wT TryEnv Try.func18 (by decide) TryL18_ok Try.ntmps18 (rs := [.cell 8 25, .tmp 9, .tmp 10]) rfl (by simp) [] (by decide) ?_; rw [TryL18]
  refine wT_of TryEnv ?_
  repeat' first
    | simp -implicitDefEqProofs only [go_sem, ↓reduceIte, Nat.reduceEqDiff, Nat.reduceAdd, Nat.reduceMul, Nat.reduceSub, Nat.reduceLeDiff, Nat.reduceLT, Nat.reducePow, reduceCtorEq, Int.reduceToNat, Int.reduceLT, Int.reduceLE, Int.reduceEq, Int.reduceAdd, Int.reduceSub, Int.reduceMul, Int.reduceNeg, Int.reduceTMod, Int.reduceTDiv, List.replicate_zero, List.replicate_succ]
    | (refine wCall_intro (all37 ns hs) ?_ ?_ ?_; rfl; decide)
    | (refine wCall_intro hbd ?_ ?_ ?_; rfl; decide)
  refine wT_loop (fun k : To3 => if k.1 = 0 then ⟨[(2, .c (.d (.int .i64 e))), (3, .c (.d (.sl 1 (strs m)))), (4, .c (.ptr 0 0)), (5, .c (.ptr 4 0)), (8, .c (.ptr 8 0)), (12, .c (.d (.int .i64 0))), (13, .c (.d (.int .i64 (L0.length : Nat)))), (14, .c (.d (.int .i64 (-1)))), (15, .c (.d (.int .i64 0)))], [(0, .box [.d (.int .i64 ns.a.p), .d (.int .i64 ns.a.e), .d (.sl 1 (strs ns.a.log)), .d (.bool ns.a.lost), .d (.int .i64 ns.b.p), .d (.int .i64 ns.b.e), .d (.sl 1 (strs ns.b.log)), .d (.bool ns.b.lost), .d (.int .i64 ns.c.p), .d (.int .i64 ns.c.e), .d (.sl 1 (strs ns.c.log)), .d (.bool ns.c.lost)]), (4, .box [.d (.int .u8 r.a), .d (.int .u8 r.b), .d (.int .u8 r.c)]), (8, .box [.d (.int .i64 0), .d (.int .i64 0), .d .nilSl, .d (.bool false), .d (.int .i64 0), .d (.int .i64 0), .d .nilSl, .d (.bool false), .d (.int .i64 0), .d (.int .i64 0), .d .nilSl, .d (.bool false)])], 9⟩ else if k.1 = 1 then ⟨[(2, .c (.d (.int .i64 e))), (3, .c (.d (.sl 1 (strs m)))), (4, .c (.ptr 0 0)), (5, .c (.ptr 4 0)), (8, .c (.ptr 8 0)), (12, .c (.d (.int .i64 0))), (13, .c (.d (.int .i64 (L0.length : Nat)))), (14, .c (.d (.int .i64 (0)))), (15, .c (.d (.int .i64 1)))], [(0, .box [.d (.int .i64 ns.a.p), .d (.int .i64 ns.a.e), .d (.sl 1 (strs ns.a.log)), .d (.bool ns.a.lost), .d (.int .i64 ns.b.p), .d (.int .i64 ns.b.e), .d (.sl 1 (strs ns.b.log)), .d (.bool ns.b.lost), .d (.int .i64 ns.c.p), .d (.int .i64 ns.c.e), .d (.sl 1 (strs ns.c.log)), .d (.bool ns.c.lost)]), (4, .box [.d (.int .u8 r.a), .d (.int .u8 r.b), .d (.int .u8 r.c)]), (8, .box [.d (.int .i64 0), .d (.int .i64 0), .d .nilSl, .d (.bool false), .d (.int .i64 0), .d (.int .i64 0), .d .nilSl, .d (.bool false), .d (.int .i64 0), .d (.int .i64 0), .d .nilSl, .d (.bool false)])], 9⟩ else if k.1 = 2 then ⟨[(2, .c (.d (.int .i64 e))), (3, .c (.d (.sl 1 (strs m)))), (4, .c (.ptr 0 0)), (5, .c (.ptr 4 0)), (8, .c (.ptr 8 0)), (12, .c (.d (.int .i64 0))), (13, .c (.d (.int .i64 (L0.length : Nat)))), (14, .c (.d (.int .i64 (1)))), (15, .c (.d (.int .i64 2)))], [(0, .box [.d (.int .i64 ns.a.p), .d (.int .i64 ns.a.e), .d (.sl 1 (strs ns.a.log)), .d (.bool ns.a.lost), .d (.int .i64 ns.b.p), .d (.int .i64 ns.b.e), .d (.sl 1 (strs ns.b.log)), .d (.bool ns.b.lost), .d (.int .i64 ns.c.p), .d (.int .i64 ns.c.e), .d (.sl 1 (strs ns.c.log)), .d (.bool ns.c.lost)]), (4, .box [.d (.int .u8 r.a), .d (.int .u8 r.b), .d (.int .u8 r.c)]), (8, .box [.d (.int .i64 0), .d (.int .i64 0), .d .nilSl, .d (.bool false), .d (.int .i64 0), .d (.int .i64 0), .d .nilSl, .d (.bool false), .d (.int .i64 0), .d (.int .i64 0), .d .nilSl, .d (.bool false)])], 9⟩ else ⟨[(2, .c (.d (.int .i64 e))), (3, .c (.d (.sl 1 (strs m)))), (4, .c (.ptr 0 0)), (5, .c (.ptr 4 0)), (8, .c (.ptr 8 0)), (12, .c (.d (.int .i64 1))), (13, .c (.d (.int .i64 (L3.length : Nat)))), (14, .c (.d (.int .i64 (1)))), (15, .c (.d (.int .i64 3)))], [(0, .box [.d (.int .i64 ns.a.p), .d (.int .i64 ns.a.e), .d (.sl 1 (strs ns.a.log)), .d (.bool ns.a.lost), .d (.int .i64 ns.b.p), .d (.int .i64 ns.b.e), .d (.sl 1 (strs ns.b.log)), .d (.bool ns.b.lost), .d (.int .i64 M2.p), .d (.int .i64 M2.e), .d (.sl 1 (strs M2.log)), .d (.bool M2.lost)]), (4, .box [.d (.int .u8 r.a), .d (.int .u8 r.b), .d (.int .u8 r.c)]), (8, .box [.d (.int .i64 0), .d (.int .i64 0), .d .nilSl, .d (.bool false), .d (.int .i64 0), .d (.int .i64 0), .d .nilSl, .d (.bool false), .d (.int .i64 0), .d (.int .i64 0), .d .nilSl, .d (.bool false)])], 9⟩) (fun k => (3 - k.1).toNat) ⟨0, by omega⟩ ?_ ?_
  · simp -implicitDefEqProofs only [go_sem, ↓reduceIte, Nat.reduceEqDiff, Nat.reduceAdd, Nat.reduceMul, Nat.reduceSub, Nat.reduceLeDiff, Nat.reduceLT, Nat.reducePow, reduceCtorEq, Int.reduceToNat, Int.reduceLT, Int.reduceLE, Int.reduceEq, Int.reduceAdd, Int.reduceSub, Int.reduceMul, Int.reduceNeg, Int.reduceTMod, Int.reduceTDiv, List.replicate_zero, List.replicate_succ, Int.reduceEq]
    refine Wk.sub ?_ ?_ (by decide) (by decide) ?_ ?_
    all_goals simp -implicitDefEqProofs only [go_sem, ↓reduceIte, Nat.reduceEqDiff, Nat.reduceAdd, Nat.reduceMul, Nat.reduceSub, Nat.reduceLeDiff, Nat.reduceLT, Nat.reducePow, reduceCtorEq, Int.reduceToNat, Int.reduceLT, Int.reduceLE, Int.reduceEq, Int.reduceAdd, Int.reduceSub, Int.reduceMul, Int.reduceNeg, Int.reduceTMod, Int.reduceTDiv, List.replicate_zero, List.replicate_succ, q0, Int.natCast_zero, l0, l1, l2]
  · refine To3.all ?_ ?_ ?_ ?_
    all_goals simp only [Int.reduceEq, if_true, if_false]
    all_goals refine wT_of TryEnv ?_
    · repeat' first
        | simp -implicitDefEqProofs only [go_sem, ↓reduceIte, Nat.reduceEqDiff, Nat.reduceAdd, Nat.reduceMul, Nat.reduceSub, Nat.reduceLeDiff, Nat.reduceLT, Nat.reducePow, reduceCtorEq, Int.reduceToNat, Int.reduceLT, Int.reduceLE, Int.reduceEq, Int.reduceAdd, Int.reduceSub, Int.reduceMul, Int.reduceNeg, Int.reduceTMod, Int.reduceTDiv, List.replicate_zero, List.replicate_succ, l0]
        | apply And.intro
      refine ⟨⟨1, by omega⟩, ?_, by simp⟩
      simp only [Int.reduceEq, if_true, if_false]
      refine Wk.sub ?_ ?_ (by decide) (by decide) ?_ ?_
      all_goals simp -implicitDefEqProofs only [go_sem, ↓reduceIte, Nat.reduceEqDiff, Nat.reduceAdd, Nat.reduceMul, Nat.reduceSub, Nat.reduceLeDiff, Nat.reduceLT, Nat.reducePow, reduceCtorEq, Int.reduceToNat, Int.reduceLT, Int.reduceLE, Int.reduceEq, Int.reduceAdd, Int.reduceSub, Int.reduceMul, Int.reduceNeg, Int.reduceTMod, Int.reduceTDiv, List.replicate_zero, List.replicate_succ, l0]
    · repeat' first
        | simp -implicitDefEqProofs only [go_sem, ↓reduceIte, Nat.reduceEqDiff, Nat.reduceAdd, Nat.reduceMul, Nat.reduceSub, Nat.reduceLeDiff, Nat.reduceLT, Nat.reducePow, reduceCtorEq, Int.reduceToNat, Int.reduceLT, Int.reduceLE, Int.reduceEq, Int.reduceAdd, Int.reduceSub, Int.reduceMul, Int.reduceNeg, Int.reduceTMod, Int.reduceTDiv, List.replicate_zero, List.replicate_succ, l1]
        | apply And.intro
      refine ⟨⟨2, by omega⟩, ?_, by simp⟩
      simp only [Int.reduceEq, if_true, if_false]
      refine Wk.sub ?_ ?_ (by decide) (by decide) ?_ ?_
      all_goals simp -implicitDefEqProofs only [go_sem, ↓reduceIte, Nat.reduceEqDiff, Nat.reduceAdd, Nat.reduceMul, Nat.reduceSub, Nat.reduceLeDiff, Nat.reduceLT, Nat.reducePow, reduceCtorEq, Int.reduceToNat, Int.reduceLT, Int.reduceLE, Int.reduceEq, Int.reduceAdd, Int.reduceSub, Int.reduceMul, Int.reduceNeg, Int.reduceTMod, Int.reduceTDiv, List.replicate_zero, List.replicate_succ, l1]
    · have hw : IntKind.i64.wrap ((L0.length : Int) + 1) = ((L0.length + 1 : Nat) : Int) := by rw [wrap64 (by omega) (by omega)]; rfl
      have hI := refInstall' ns.c e m hm
      rw [l2] at hI
      repeat' first
        | simp -implicitDefEqProofs only [go_sem, ↓reduceIte, Nat.reduceEqDiff, Nat.reduceAdd, Nat.reduceMul, Nat.reduceSub, Nat.reduceLeDiff, Nat.reduceLT, Nat.reducePow, reduceCtorEq, Int.reduceToNat, Int.reduceLT, Int.reduceLE, Int.reduceEq, Int.reduceAdd, Int.reduceSub, Int.reduceMul, Int.reduceNeg, Int.reduceTMod, Int.reduceTDiv, List.replicate_zero, List.replicate_succ, l2, List.set_cons_succ, List.set_cons_zero]
        | (refine wCall_intro hI ?_ ?_ ?_; rfl; decide)
        | (refine wCall_intro (arrives38 _) ?_ ?_ ?_; rfl; decide)
        | refine wfork_intro (fun h => ?_) (fun h => ?_)
        | refine Also.mk (by decide) ?_
        | apply And.intro
      all_goals try simp only [Bool.not_eq_true', Bool.not_eq_false', Bool.not_eq_true, decide_eq_true_eq, decide_eq_false_iff_not] at *
      all_goals refine ⟨⟨3, by omega⟩, ?_, by simp⟩
      all_goals simp only [Int.reduceEq, if_true, if_false]
      all_goals refine Wk.sub ?_ ?_ (by decide) (by decide) ?_ ?_
      all_goals simp -implicitDefEqProofs only [go_sem, ↓reduceIte, Nat.reduceEqDiff, Nat.reduceAdd, Nat.reduceMul, Nat.reduceSub, Nat.reduceLeDiff, Nat.reduceLT, Nat.reducePow, reduceCtorEq, Int.reduceToNat, Int.reduceLT, Int.reduceLE, Int.reduceEq, Int.reduceAdd, Int.reduceSub, Int.reduceMul, Int.reduceNeg, Int.reduceTMod, Int.reduceTDiv, List.replicate_zero, List.replicate_succ, ← hM2, ← hL3, hw, stepN_no, stepN_err, stepN_ok, stepN_there, arrivesN_0, List.length_append, ne_eq, not_true_eq_false, not_false_eq_true, *]
    · simp -implicitDefEqProofs only [go_sem, ↓reduceIte, Nat.reduceEqDiff, Nat.reduceAdd, Nat.reduceMul, Nat.reduceSub, Nat.reduceLeDiff, Nat.reduceLT, Nat.reducePow, reduceCtorEq, Int.reduceToNat, Int.reduceLT, Int.reduceLE, Int.reduceEq, Int.reduceAdd, Int.reduceSub, Int.reduceMul, Int.reduceNeg, Int.reduceTMod, Int.reduceTDiv, List.replicate_zero, List.replicate_succ]
      have hc : ¬ (2 : Int) ≤ (L3.length : Int) := by omega
      simp only [hc, false_and, if_false] at hX
      rw [hX]
      simp [VLe_self, CLe_self, DLe_self, hc]

set_option maxHeartbeats 2000000 in
theorem refWrite_111 (ns : N3) (r : R3) (e : Int) (m : List ByteArray) (hs : ns.small 1000000) (hm : m.length ≤ 1000000) (hb : boundN e m = 0) (l0 : ns.a.lost = true) (l1 : ns.b.lost = true) (l2 : ns.c.lost = true) (X : N3 × Bool × Int) (hX : X = writeN r ns e m) :
    Gives Try.prog 18 [.agg [.int .i64 ns.a.p, .int .i64 ns.a.e, .sl 1 (strs ns.a.log), .bool ns.a.lost, .int .i64 ns.b.p, .int .i64 ns.b.e, .sl 1 (strs ns.b.log), .bool ns.b.lost, .int .i64 ns.c.p, .int .i64 ns.c.e, .sl 1 (strs ns.c.log), .bool ns.c.lost], .agg [.int .u8 r.a, .int .u8 r.b, .int .u8 r.c], .c (.int .i64 e), .c (.sl 1 (strs m))]
    (.tup [.agg [.d (.int .i64 X.1.a.p), .d (.int .i64 X.1.a.e), .d (.sl 1 (strs X.1.a.log)), .d (.bool X.1.a.lost), .d (.int .i64 X.1.b.p), .d (.int .i64 X.1.b.e), .d (.sl 1 (strs X.1.b.log)), .d (.bool X.1.b.lost), .d (.int .i64 X.1.c.p), .d (.int .i64 X.1.c.e), .d (.sl 1 (strs X.1.c.log)), .d (.bool X.1.c.lost)], .c (.d (.bool X.2.1)), .c (.d (.int .i64 X.2.2))]) [] := by
  have hk : lostN ns = 0 := by simp [lostN, l0, l1, l2]
  have hbd := bound45 e m
  rw [hb] at hbd
  generalize hL0 : ([] : List Int) = L0
  have q0 : L0.length = 0 := by rw [← hL0]; rfl
  have s0 : stepN (installN · e m) r.a 0 ns.a L0 = (ns.a, L0) := by
    rw [stepN_not hb (by cases arrivesN r.a <;> simp [l0])]
    rfl
  have s1 : stepN (installN · e m) r.b 1 ns.b L0 = (ns.b, L0) := by
    rw [stepN_not hb (by cases arrivesN r.b <;> simp [l1])]
    rfl
  have s2 : stepN (installN · e m) r.c 2 ns.c L0 = (ns.c, L0) := by
    rw [stepN_not hb (by cases arrivesN r.c <;> simp [l2])]
    rfl
  have hcall : callN (installN · e m) r ns = (⟨ns.a, ns.b, ns.c⟩, L0) := by
    simp only [callN, callK_3, hL0, s0, s1, s2]
  simp only [writeN, hb, ne_eq, not_true_eq_false, if_false, hcall, hk] at hX
  refine Gives.of_wT TryEnv Try.func18 (by decide) TryL18_ok Try.ntmps18 (rs := [.cell 8 25, .tmp 9, .tmp 10]) rfl (by simp) [] (by decide) ?_; rw [TryL18]
  refine wT_of TryEnv ?_
  repeat' first
    | simp -implicitDefEqProofs only [go_sem, ↓reduceIte, Nat.reduceEqDiff, Nat.reduceAdd, Nat.reduceMul, Nat.reduceSub, Nat.reduceLeDiff, Nat.reduceLT, Nat.reducePow, reduceCtorEq, Int.reduceToNat, Int.reduceLT, Int.reduceLE, Int.reduceEq, Int.reduceAdd, Int.reduceSub, Int.reduceMul, Int.reduceNeg, Int.reduceTMod, Int.reduceTDiv, List.replicate_zero, List.replicate_succ]
    | (refine wCall_intro (all37 ns hs) ?_ ?_ ?_; rfl; decide)
    | (refine wCall_intro hbd ?_ ?_ ?_; rfl; decide)
  refine wT_loop (fun k : To3 => if k.1 = 0 then ⟨[(2, .c (.d (.int .i64 e))), (3, .c (.d (.sl 1 (strs m)))), (4, .c (.ptr 0 0)), (5, .c (.ptr 4 0)), (8, .c (.ptr 8 0)), (12, .c (.d (.int .i64 0))), (13, .c (.d (.int .i64 (L0.length : Nat)))), (14, .c (.d (.int .i64 (-1)))), (15, .c (.d (.int .i64 0)))], [(0, .box [.d (.int .i64 ns.a.p), .d (.int .i64 ns.a.e), .d (.sl 1 (strs ns.a.log)), .d (.bool ns.a.lost), .d (.int .i64 ns.b.p), .d (.int .i64 ns.b.e), .d (.sl 1 (strs ns.b.log)), .d (.bool ns.b.lost), .d (.int .i64 ns.c.p), .d (.int .i64 ns.c.e), .d (.sl 1 (strs ns.c.log)), .d (.bool ns.c.lost)]), (4, .box [.d (.int .u8 r.a), .d (.int .u8 r.b), .d (.int .u8 r.c)]), (8, .box [.d (.int .i64 0), .d (.int .i64 0), .d .nilSl, .d (.bool false), .d (.int .i64 0), .d (.int .i64 0), .d .nilSl, .d (.bool false), .d (.int .i64 0), .d (.int .i64 0), .d .nilSl, .d (.bool false)])], 9⟩ else if k.1 = 1 then ⟨[(2, .c (.d (.int .i64 e))), (3, .c (.d (.sl 1 (strs m)))), (4, .c (.ptr 0 0)), (5, .c (.ptr 4 0)), (8, .c (.ptr 8 0)), (12, .c (.d (.int .i64 0))), (13, .c (.d (.int .i64 (L0.length : Nat)))), (14, .c (.d (.int .i64 (0)))), (15, .c (.d (.int .i64 1)))], [(0, .box [.d (.int .i64 ns.a.p), .d (.int .i64 ns.a.e), .d (.sl 1 (strs ns.a.log)), .d (.bool ns.a.lost), .d (.int .i64 ns.b.p), .d (.int .i64 ns.b.e), .d (.sl 1 (strs ns.b.log)), .d (.bool ns.b.lost), .d (.int .i64 ns.c.p), .d (.int .i64 ns.c.e), .d (.sl 1 (strs ns.c.log)), .d (.bool ns.c.lost)]), (4, .box [.d (.int .u8 r.a), .d (.int .u8 r.b), .d (.int .u8 r.c)]), (8, .box [.d (.int .i64 0), .d (.int .i64 0), .d .nilSl, .d (.bool false), .d (.int .i64 0), .d (.int .i64 0), .d .nilSl, .d (.bool false), .d (.int .i64 0), .d (.int .i64 0), .d .nilSl, .d (.bool false)])], 9⟩ else if k.1 = 2 then ⟨[(2, .c (.d (.int .i64 e))), (3, .c (.d (.sl 1 (strs m)))), (4, .c (.ptr 0 0)), (5, .c (.ptr 4 0)), (8, .c (.ptr 8 0)), (12, .c (.d (.int .i64 0))), (13, .c (.d (.int .i64 (L0.length : Nat)))), (14, .c (.d (.int .i64 (1)))), (15, .c (.d (.int .i64 2)))], [(0, .box [.d (.int .i64 ns.a.p), .d (.int .i64 ns.a.e), .d (.sl 1 (strs ns.a.log)), .d (.bool ns.a.lost), .d (.int .i64 ns.b.p), .d (.int .i64 ns.b.e), .d (.sl 1 (strs ns.b.log)), .d (.bool ns.b.lost), .d (.int .i64 ns.c.p), .d (.int .i64 ns.c.e), .d (.sl 1 (strs ns.c.log)), .d (.bool ns.c.lost)]), (4, .box [.d (.int .u8 r.a), .d (.int .u8 r.b), .d (.int .u8 r.c)]), (8, .box [.d (.int .i64 0), .d (.int .i64 0), .d .nilSl, .d (.bool false), .d (.int .i64 0), .d (.int .i64 0), .d .nilSl, .d (.bool false), .d (.int .i64 0), .d (.int .i64 0), .d .nilSl, .d (.bool false)])], 9⟩ else ⟨[(2, .c (.d (.int .i64 e))), (3, .c (.d (.sl 1 (strs m)))), (4, .c (.ptr 0 0)), (5, .c (.ptr 4 0)), (8, .c (.ptr 8 0)), (12, .c (.d (.int .i64 0))), (13, .c (.d (.int .i64 (L0.length : Nat)))), (14, .c (.d (.int .i64 (2)))), (15, .c (.d (.int .i64 3)))], [(0, .box [.d (.int .i64 ns.a.p), .d (.int .i64 ns.a.e), .d (.sl 1 (strs ns.a.log)), .d (.bool ns.a.lost), .d (.int .i64 ns.b.p), .d (.int .i64 ns.b.e), .d (.sl 1 (strs ns.b.log)), .d (.bool ns.b.lost), .d (.int .i64 ns.c.p), .d (.int .i64 ns.c.e), .d (.sl 1 (strs ns.c.log)), .d (.bool ns.c.lost)]), (4, .box [.d (.int .u8 r.a), .d (.int .u8 r.b), .d (.int .u8 r.c)]), (8, .box [.d (.int .i64 0), .d (.int .i64 0), .d .nilSl, .d (.bool false), .d (.int .i64 0), .d (.int .i64 0), .d .nilSl, .d (.bool false), .d (.int .i64 0), .d (.int .i64 0), .d .nilSl, .d (.bool false)])], 9⟩) (fun k => (3 - k.1).toNat) ⟨0, by omega⟩ ?_ ?_
  · simp -implicitDefEqProofs only [go_sem, ↓reduceIte, Nat.reduceEqDiff, Nat.reduceAdd, Nat.reduceMul, Nat.reduceSub, Nat.reduceLeDiff, Nat.reduceLT, Nat.reducePow, reduceCtorEq, Int.reduceToNat, Int.reduceLT, Int.reduceLE, Int.reduceEq, Int.reduceAdd, Int.reduceSub, Int.reduceMul, Int.reduceNeg, Int.reduceTMod, Int.reduceTDiv, List.replicate_zero, List.replicate_succ, Int.reduceEq]
    refine Wk.sub ?_ ?_ (by decide) (by decide) ?_ ?_
    all_goals simp -implicitDefEqProofs only [go_sem, ↓reduceIte, Nat.reduceEqDiff, Nat.reduceAdd, Nat.reduceMul, Nat.reduceSub, Nat.reduceLeDiff, Nat.reduceLT, Nat.reducePow, reduceCtorEq, Int.reduceToNat, Int.reduceLT, Int.reduceLE, Int.reduceEq, Int.reduceAdd, Int.reduceSub, Int.reduceMul, Int.reduceNeg, Int.reduceTMod, Int.reduceTDiv, List.replicate_zero, List.replicate_succ, q0, Int.natCast_zero, l0, l1, l2]
  · refine To3.all ?_ ?_ ?_ ?_
    all_goals simp only [Int.reduceEq, if_true, if_false]
    all_goals refine wT_of TryEnv ?_
    · repeat' first
        | simp -implicitDefEqProofs only [go_sem, ↓reduceIte, Nat.reduceEqDiff, Nat.reduceAdd, Nat.reduceMul, Nat.reduceSub, Nat.reduceLeDiff, Nat.reduceLT, Nat.reducePow, reduceCtorEq, Int.reduceToNat, Int.reduceLT, Int.reduceLE, Int.reduceEq, Int.reduceAdd, Int.reduceSub, Int.reduceMul, Int.reduceNeg, Int.reduceTMod, Int.reduceTDiv, List.replicate_zero, List.replicate_succ, l0]
        | apply And.intro
      refine ⟨⟨1, by omega⟩, ?_, by simp⟩
      simp only [Int.reduceEq, if_true, if_false]
      refine Wk.sub ?_ ?_ (by decide) (by decide) ?_ ?_
      all_goals simp -implicitDefEqProofs only [go_sem, ↓reduceIte, Nat.reduceEqDiff, Nat.reduceAdd, Nat.reduceMul, Nat.reduceSub, Nat.reduceLeDiff, Nat.reduceLT, Nat.reducePow, reduceCtorEq, Int.reduceToNat, Int.reduceLT, Int.reduceLE, Int.reduceEq, Int.reduceAdd, Int.reduceSub, Int.reduceMul, Int.reduceNeg, Int.reduceTMod, Int.reduceTDiv, List.replicate_zero, List.replicate_succ, l0]
    · repeat' first
        | simp -implicitDefEqProofs only [go_sem, ↓reduceIte, Nat.reduceEqDiff, Nat.reduceAdd, Nat.reduceMul, Nat.reduceSub, Nat.reduceLeDiff, Nat.reduceLT, Nat.reducePow, reduceCtorEq, Int.reduceToNat, Int.reduceLT, Int.reduceLE, Int.reduceEq, Int.reduceAdd, Int.reduceSub, Int.reduceMul, Int.reduceNeg, Int.reduceTMod, Int.reduceTDiv, List.replicate_zero, List.replicate_succ, l1]
        | apply And.intro
      refine ⟨⟨2, by omega⟩, ?_, by simp⟩
      simp only [Int.reduceEq, if_true, if_false]
      refine Wk.sub ?_ ?_ (by decide) (by decide) ?_ ?_
      all_goals simp -implicitDefEqProofs only [go_sem, ↓reduceIte, Nat.reduceEqDiff, Nat.reduceAdd, Nat.reduceMul, Nat.reduceSub, Nat.reduceLeDiff, Nat.reduceLT, Nat.reducePow, reduceCtorEq, Int.reduceToNat, Int.reduceLT, Int.reduceLE, Int.reduceEq, Int.reduceAdd, Int.reduceSub, Int.reduceMul, Int.reduceNeg, Int.reduceTMod, Int.reduceTDiv, List.replicate_zero, List.replicate_succ, l1]
    · repeat' first
        | simp -implicitDefEqProofs only [go_sem, ↓reduceIte, Nat.reduceEqDiff, Nat.reduceAdd, Nat.reduceMul, Nat.reduceSub, Nat.reduceLeDiff, Nat.reduceLT, Nat.reducePow, reduceCtorEq, Int.reduceToNat, Int.reduceLT, Int.reduceLE, Int.reduceEq, Int.reduceAdd, Int.reduceSub, Int.reduceMul, Int.reduceNeg, Int.reduceTMod, Int.reduceTDiv, List.replicate_zero, List.replicate_succ, l2]
        | apply And.intro
      refine ⟨⟨3, by omega⟩, ?_, by simp⟩
      simp only [Int.reduceEq, if_true, if_false]
      refine Wk.sub ?_ ?_ (by decide) (by decide) ?_ ?_
      all_goals simp -implicitDefEqProofs only [go_sem, ↓reduceIte, Nat.reduceEqDiff, Nat.reduceAdd, Nat.reduceMul, Nat.reduceSub, Nat.reduceLeDiff, Nat.reduceLT, Nat.reducePow, reduceCtorEq, Int.reduceToNat, Int.reduceLT, Int.reduceLE, Int.reduceEq, Int.reduceAdd, Int.reduceSub, Int.reduceMul, Int.reduceNeg, Int.reduceTMod, Int.reduceTDiv, List.replicate_zero, List.replicate_succ, l2]
    · simp -implicitDefEqProofs only [go_sem, ↓reduceIte, Nat.reduceEqDiff, Nat.reduceAdd, Nat.reduceMul, Nat.reduceSub, Nat.reduceLeDiff, Nat.reduceLT, Nat.reducePow, reduceCtorEq, Int.reduceToNat, Int.reduceLT, Int.reduceLE, Int.reduceEq, Int.reduceAdd, Int.reduceSub, Int.reduceMul, Int.reduceNeg, Int.reduceTMod, Int.reduceTDiv, List.replicate_zero, List.replicate_succ]
      have hc : ¬ (2 : Int) ≤ (L0.length : Int) := by omega
      simp only [hc, false_and, if_false] at hX
      rw [hX]
      simp [VLe_self, CLe_self, DLe_self, hc]
end Go.Proofs.Ytehmaafnbgpkcaa
