/- This text proves a part of what the claim needs: contracts of functions of the program. No condition. -/
import Derived.Test.YtehmaafnbgpkcaaWd
set_option linter.unusedSimpArgs false
set_option linter.unusedVariables false

namespace Go.Proofs.Ytehmaafnbgpkcaa
open Go Go.Vs Go.Proofs

def lostN (ns : N3) : Int := if ns.a.lost then 0 else if ns.b.lost then 1 else if ns.c.lost then 2 else -1
def R3.get (r : R3) (i : Int) : Int := if i = 0 then r.a else if i = 1 then r.b else r.c

theorem isLost (n : Nd) : Gives Try.prog 42 [.agg [.int .i64 n.p, .int .i64 n.e, .sl 1 (strs n.log), .bool n.lost]] (.c (.d (.bool n.lost))) [] := by
  refine Gives.of_w TryEnv Try.func42 (by decide) TryL42_ok Try.ntmps42 (rs := [.tmp 2]) rfl (by simp) [] (by decide) ?_
  rw [TryL42]
  simp -implicitDefEqProofs only [go_sem, ↓reduceIte, Nat.reduceEqDiff, Nat.reduceAdd, Nat.reduceMul, Nat.reduceSub, Nat.reduceLeDiff, Nat.reduceLT, Nat.reducePow, reduceCtorEq, List.length_cons, List.length_nil, List.map_cons, List.map_nil,
      List.reverse_cons, List.reverse_nil, List.nil_append, List.cons_append, Bool.false_eq_true, Nat.zero_le, List.replicate_zero, List.replicate_succ, List.flatten_nil, List.flatten_cons, true_and, and_true, and_self, List.append_nil, Nat.zero_add, Nat.add_zero,
      List.contains_nil, Nat.le_refl, List.take_zero, List.take_succ_cons, List.drop_zero, List.drop_succ_cons, List.take_length, List.take_nil, List.drop_nil, Option.map_some, Option.map_none, List.getElem?_cons_zero, List.getElem?_cons_succ, List.getElem?_nil, Option.some.injEq,
      Int.toNat_zero, Int.reduceToNat, Int.reduceLT, Int.reduceLE, Int.reduceEq, Int.reduceAdd, Int.reduceSub, Int.reduceMul, Int.reduceNeg, decide_true, decide_false, Bool.not_true, Bool.not_false, beq_self_eq_true, List.mapM_cons, List.mapM_nil, wrap64, wrap8, Int.cast_ofNat_Int, Int.natCast_eq_zero, decide_eq_true_eq, Bool.or_false, Bool.or_true, Bool.or_self, Bool.false_or, Bool.true_or, Option.bind_eq_bind, Option.bind_some, Option.pure_def]

theorem index41 (ns : N3) : Gives Try.prog 41 [.c (.sl 4 [[.int .i64 ns.a.p, .int .i64 ns.a.e, .sl 1 (strs ns.a.log), .bool ns.a.lost], [.int .i64 ns.b.p, .int .i64 ns.b.e, .sl 1 (strs ns.b.log), .bool ns.b.lost], [.int .i64 ns.c.p, .int .i64 ns.c.e, .sl 1 (strs ns.c.log), .bool ns.c.lost]]), .c (.fn 42 [])] (.c (.d (.int .i64 (lostN ns)))) [] := by
  refine Gives.of_w TryEnv Try.func41 (by decide) TryL41_ok Try.ntmps41 (rs := [.tmp 4]) rfl (by simp) [] (by decide) ?_
  rw [TryL41]
  repeat' first
    | simp -implicitDefEqProofs only [go_sem, ↓reduceIte, Nat.reduceEqDiff, Nat.reduceAdd, Nat.reduceMul, Nat.reduceSub, Nat.reduceLeDiff, Nat.reduceLT, Nat.reducePow, reduceCtorEq, List.length_cons, List.length_nil, List.map_cons, List.map_nil,
      List.reverse_cons, List.reverse_nil, List.nil_append, List.cons_append, Bool.false_eq_true, Nat.zero_le, List.replicate_zero, List.replicate_succ, List.flatten_nil, List.flatten_cons, true_and, and_true, and_self, List.append_nil, Nat.zero_add, Nat.add_zero,
      List.contains_nil, Nat.le_refl, List.take_zero, List.take_succ_cons, List.drop_zero, List.drop_succ_cons, List.take_length, List.take_nil, List.drop_nil, Option.map_some, Option.map_none, List.getElem?_cons_zero, List.getElem?_cons_succ, List.getElem?_nil, Option.some.injEq,
      Int.toNat_zero, Int.reduceToNat, Int.reduceLT, Int.reduceLE, Int.reduceEq, Int.reduceAdd, Int.reduceSub, Int.reduceMul, Int.reduceNeg, decide_true, decide_false, Bool.not_true, Bool.not_false, beq_self_eq_true, List.mapM_cons, List.mapM_nil, wrap64, wrap8, Int.cast_ofNat_Int, Int.natCast_eq_zero, decide_eq_true_eq, Bool.or_false, Bool.or_true, Bool.or_self, Bool.false_or, Bool.true_or, Option.bind_eq_bind, Option.bind_some, Option.pure_def]
    | (refine wT_unroll TryEnv [(), (), (), ()] ?_)
    | (refine wCall_intro (isLost _) ?_ ?_ ?_; rfl; decide)
    | refine wfork_intro (fun h => ?_) (fun h => ?_)
    | apply And.intro
  all_goals refine DLe.of_eq ?_
  all_goals simp [lostN, *]

def writeN (r : R3) (ns : N3) (e : Int) (m : List ByteArray) : N3 × Bool × Int :=
  if boundN e m ≠ 0 then (ns, false, boundN e m) else
  (if (2 : Int) ≤ (callN (installN · e m) r ns).2.length ∧ 0 ≤ lostN ns ∧ arrivesN (r.get (lostN ns)) = true then (callN (installN · e m) r ns).1.set (lostN ns) (madeN e m) else (callN (installN · e m) r ns).1,
    decide ((2 : Int) ≤ (callN (installN · e m) r ns).2.length), 0)

theorem lostN_cases (ns : N3) : lostN ns = -1 ∨ lostN ns = 0 ∨ lostN ns = 1 ∨ lostN ns = 2 := by
  unfold lostN
  repeat' split
  all_goals simp

set_option maxHeartbeats 4000000 in
theorem write_ (ns : N3) (r : R3) (e : Int) (m : List ByteArray) (hs : ns.small 1000000) (hm : m.length ≤ 1000000) (X : N3 × Bool × Int) (hX : X = writeN r ns e m) :
    Gives Try.prog 17 [.agg [.int .i64 ns.a.p, .int .i64 ns.a.e, .sl 1 (strs ns.a.log), .bool ns.a.lost, .int .i64 ns.b.p, .int .i64 ns.b.e, .sl 1 (strs ns.b.log), .bool ns.b.lost, .int .i64 ns.c.p, .int .i64 ns.c.e, .sl 1 (strs ns.c.log), .bool ns.c.lost], .agg [.int .u8 r.a, .int .u8 r.b, .int .u8 r.c], .c (.int .i64 e), .c (.sl 1 (strs m))]
    (.tup [.agg [.d (.int .i64 X.1.a.p), .d (.int .i64 X.1.a.e), .d (.sl 1 (strs X.1.a.log)), .d (.bool X.1.a.lost), .d (.int .i64 X.1.b.p), .d (.int .i64 X.1.b.e), .d (.sl 1 (strs X.1.b.log)), .d (.bool X.1.b.lost), .d (.int .i64 X.1.c.p), .d (.int .i64 X.1.c.e), .d (.sl 1 (strs X.1.c.log)), .d (.bool X.1.c.lost)], .c (.d (.bool X.2.1)), .c (.d (.int .i64 X.2.2))]) [] := by
  refine Gives.of_w TryEnv Try.func17 (by decide) TryL17_ok Try.ntmps17 (rs := [.cell 8 25, .tmp 9, .tmp 10]) rfl (by simp) [] (by decide) ?_
  rw [TryL17]
  repeat' first
    | simp -implicitDefEqProofs only [go_sem, ↓reduceIte, Nat.reduceEqDiff, Nat.reduceAdd, Nat.reduceMul, Nat.reduceSub, Nat.reduceLeDiff, Nat.reduceLT, Nat.reducePow, reduceCtorEq, List.length_cons, List.length_nil, List.map_cons, List.map_nil,
      List.reverse_cons, List.reverse_nil, List.nil_append, List.cons_append, Bool.false_eq_true, Nat.zero_le, List.replicate_zero, List.replicate_succ, List.flatten_nil, List.flatten_cons, true_and, and_true, and_self, List.append_nil, Nat.zero_add, Nat.add_zero,
      List.contains_nil, Nat.le_refl, List.take_zero, List.take_succ_cons, List.drop_zero, List.drop_succ_cons, List.take_length, List.take_nil, List.drop_nil, Option.map_some, Option.map_none, List.getElem?_cons_zero, List.getElem?_cons_succ, List.getElem?_nil, Option.some.injEq,
      Int.toNat_zero, Int.reduceToNat, Int.reduceLT, Int.reduceLE, Int.reduceEq, Int.reduceAdd, Int.reduceSub, Int.reduceMul, Int.reduceNeg, decide_true, decide_false, Bool.not_true, Bool.not_false, beq_self_eq_true, List.mapM_cons, List.mapM_nil, wrap64, wrap8, Int.cast_ofNat_Int, Int.natCast_eq_zero, decide_eq_true_eq, Bool.or_false, Bool.or_true, Bool.or_self, Bool.false_or, Bool.true_or, Option.bind_eq_bind, Option.bind_some, Option.pure_def]
    | refine wfork_intro (fun h => ?_) (fun h => ?_)
    | (refine wCall_intro (own' ns hs) ?_ ?_ ?_; rfl; decide)
    | (refine wCall_intro (bound40 _ _) ?_ ?_ ?_; rfl; decide)
    | (refine wCall_intro (index41 ns) ?_ ?_ ?_; rfl; decide)
  · simp only [Bool.not_eq_true', decide_eq_false_iff_not] at h
    simp only [writeN, ne_eq, if_pos h] at hX
    subst hX
    simp -implicitDefEqProofs only [go_sem, ↓reduceIte, Nat.reduceEqDiff, Nat.reduceAdd, Nat.reduceMul, Nat.reduceSub, Nat.reduceLeDiff, Nat.reduceLT, Nat.reducePow, reduceCtorEq, List.length_cons, List.length_nil, List.map_cons, List.map_nil,
      List.reverse_cons, List.reverse_nil, List.nil_append, List.cons_append, Bool.false_eq_true, Nat.zero_le, List.replicate_zero, List.replicate_succ, List.flatten_nil, List.flatten_cons, true_and, and_true, and_self, List.append_nil, Nat.zero_add, Nat.add_zero,
      List.contains_nil, Nat.le_refl, List.take_zero, List.take_succ_cons, List.drop_zero, List.drop_succ_cons, List.take_length, List.take_nil, List.drop_nil, Option.map_some, Option.map_none, List.getElem?_cons_zero, List.getElem?_cons_succ, List.getElem?_nil, Option.some.injEq,
      Int.toNat_zero, Int.reduceToNat, Int.reduceLT, Int.reduceLE, Int.reduceEq, Int.reduceAdd, Int.reduceSub, Int.reduceMul, Int.reduceNeg, decide_true, decide_false, Bool.not_true, Bool.not_false, beq_self_eq_true, List.mapM_cons, List.mapM_nil, wrap64, wrap8, Int.cast_ofNat_Int, Int.natCast_eq_zero, decide_eq_true_eq, Bool.or_false, Bool.or_true, Bool.or_self, Bool.false_or, Bool.true_or, Option.bind_eq_bind, Option.bind_some, Option.pure_def]
  · refine wDeep_go (call32w ns r e m hs hm) ?_
    simp only [Bool.not_eq_false', decide_eq_true_eq] at h
    simp only [writeN, ne_eq, h, not_true_eq_false, if_false] at hX
    have hl := lostN_cases ns
    generalize callN (installN · e m) r ns = s at *
    generalize lostN ns = k at *
    obtain ⟨⟨a, b, c⟩, l⟩ := s
    dsimp only at hX ⊢
    rcases hl with rfl | rfl | rfl | rfl
    all_goals repeat' first
      | simp -implicitDefEqProofs only [go_sem, ↓reduceIte, Nat.reduceEqDiff, Nat.reduceAdd, Nat.reduceMul, Nat.reduceSub, Nat.reduceLeDiff, Nat.reduceLT, Nat.reducePow, reduceCtorEq, List.length_cons, List.length_nil, List.map_cons, List.map_nil,
      List.reverse_cons, List.reverse_nil, List.nil_append, List.cons_append, Bool.false_eq_true, Nat.zero_le, List.replicate_zero, List.replicate_succ, List.flatten_nil, List.flatten_cons, true_and, and_true, and_self, List.append_nil, Nat.zero_add, Nat.add_zero,
      List.contains_nil, Nat.le_refl, List.take_zero, List.take_succ_cons, List.drop_zero, List.drop_succ_cons, List.take_length, List.take_nil, List.drop_nil, Option.map_some, Option.map_none, List.getElem?_cons_zero, List.getElem?_cons_succ, List.getElem?_nil, Option.some.injEq,
      Int.toNat_zero, Int.reduceToNat, Int.reduceLT, Int.reduceLE, Int.reduceEq, Int.reduceAdd, Int.reduceSub, Int.reduceMul, Int.reduceNeg, decide_true, decide_false, Bool.not_true, Bool.not_false, beq_self_eq_true, List.mapM_cons, List.mapM_nil, wrap64, wrap8, Int.cast_ofNat_Int, Int.natCast_eq_zero, decide_eq_true_eq, Bool.or_false, Bool.or_true, Bool.or_self, Bool.false_or, Bool.true_or, Option.bind_eq_bind, Option.bind_some, Option.pure_def]
      | refine wfork_intro (fun h => ?_) (fun h => ?_)
      | (refine wCall_intro (made _ _ ?_) ?_ ?_ ?_; assumption; rfl; decide)
      | (refine wCall_intro (arrives44 _) ?_ ?_ ?_; rfl; decide)
      | refine Also.mk (by decide) ?_
    all_goals subst hX
    all_goals simp only [decide_eq_true_eq, decide_eq_false_iff_not, Bool.not_eq_true] at *
    all_goals simp only [go_sem, ↓reduceIte, N3.set, R3.get, Int.reduceEq, Int.reduceLE, Int.reduceNeg, Bool.false_eq_true, madeN, and_self, and_true, and_false, true_and, false_and, decide_true, decide_false, *]

theorem write (ns : N3) (r : R3) (e : Int) (m : List ByteArray) (hs : ns.small 1000000) (hm : m.length ≤ 1000000) :
    Gives Try.prog 17 [.agg [.int .i64 ns.a.p, .int .i64 ns.a.e, .sl 1 (strs ns.a.log), .bool ns.a.lost, .int .i64 ns.b.p, .int .i64 ns.b.e, .sl 1 (strs ns.b.log), .bool ns.b.lost, .int .i64 ns.c.p, .int .i64 ns.c.e, .sl 1 (strs ns.c.log), .bool ns.c.lost], .agg [.int .u8 r.a, .int .u8 r.b, .int .u8 r.c], .c (.int .i64 e), .c (.sl 1 (strs m))]
    (.tup [.agg [.d (.int .i64 ((writeN r ns e m).1.a).p), .d (.int .i64 ((writeN r ns e m).1.a).e), .d (.sl 1 (strs ((writeN r ns e m).1.a).log)), .d (.bool ((writeN r ns e m).1.a).lost), .d (.int .i64 ((writeN r ns e m).1.b).p), .d (.int .i64 ((writeN r ns e m).1.b).e), .d (.sl 1 (strs ((writeN r ns e m).1.b).log)), .d (.bool ((writeN r ns e m).1.b).lost), .d (.int .i64 ((writeN r ns e m).1.c).p), .d (.int .i64 ((writeN r ns e m).1.c).e), .d (.sl 1 (strs ((writeN r ns e m).1.c).log)), .d (.bool ((writeN r ns e m).1.c).lost)], .c (.d (.bool (writeN r ns e m).2.1)), .c (.d (.int .i64 (writeN r ns e m).2.2))]) [] :=
  write_ ns r e m hs hm _ rfl
end Go.Proofs.Ytehmaafnbgpkcaa

namespace Go.Proofs.Ytehmaafnbgpkcaa
open Go Go.Vs Go.Proofs

def isSameN (n m : Nd) : Bool := isSame n.p n.e n.log n.lost m.p m.e m.log m.lost
def isSameAll (a b : N3) : Bool := isSameN a.a b.a && isSameN a.b b.b && isSameN a.c b.c

theorem isFront_self (l : List ByteArray) : isFront l l = true := by rw [isFront_iff, List.take_of_length_le (by simp [keys_length])]
theorem isLines_self (l : List ByteArray) : isLines l l = true := by simp [isLines, isFront_self]
theorem isSameN_self (n : Nd) : isSameN n n = true := by simp [isSameN, isSame, isLines_self]
theorem isSameAll_self (a : N3) : isSameAll a a = true := by simp [isSameAll, isSameN_self]

theorem same' (n m : Nd) (h1 : n.log.length ≤ 1000000) (h2 : m.log.length ≤ 1000000) : Gives Try.prog 28 [.agg [.int .i64 n.p, .int .i64 n.e, .sl 1 (strs n.log), .bool n.lost], .agg [.int .i64 m.p, .int .i64 m.e, .sl 1 (strs m.log), .bool m.lost]] (.c (.d (.bool (isSameN n m)))) [] := same _ _ _ _ _ _ _ _ h1 h2

theorem sameAll (a b : N3) (ha : a.small 1000000) (hb : b.small 1000000) : Gives Try.prog 13 [.agg [.int .i64 a.a.p, .int .i64 a.a.e, .sl 1 (strs a.a.log), .bool a.a.lost, .int .i64 a.b.p, .int .i64 a.b.e, .sl 1 (strs a.b.log), .bool a.b.lost, .int .i64 a.c.p, .int .i64 a.c.e, .sl 1 (strs a.c.log), .bool a.c.lost], .agg [.int .i64 b.a.p, .int .i64 b.a.e, .sl 1 (strs b.a.log), .bool b.a.lost, .int .i64 b.b.p, .int .i64 b.b.e, .sl 1 (strs b.b.log), .bool b.b.lost, .int .i64 b.c.p, .int .i64 b.c.e, .sl 1 (strs b.c.log), .bool b.c.lost]] (.c (.d (.bool (isSameAll a b)))) [] := by
  obtain ⟨a1, a2, a3⟩ := ha
  obtain ⟨b1, b2, b3⟩ := hb
  refine Gives.of_w TryEnv Try.func13 (by decide) TryL13_ok Try.ntmps13 (rs := [.tmp 4]) rfl (by simp) [] (by decide) ?_
  rw [TryL13]
  repeat' first
    | simp -implicitDefEqProofs only [go_sem, ↓reduceIte, Nat.reduceEqDiff, Nat.reduceAdd, Nat.reduceMul, Nat.reduceSub, Nat.reduceLeDiff, Nat.reduceLT, Nat.reducePow, reduceCtorEq, List.length_cons, List.length_nil, List.map_cons, List.map_nil,
      List.reverse_cons, List.reverse_nil, List.nil_append, List.cons_append, Bool.false_eq_true, Nat.zero_le, List.replicate_zero, List.replicate_succ, List.flatten_nil, List.flatten_cons, true_and, and_true, and_self, List.append_nil, Nat.zero_add, Nat.add_zero,
      List.contains_nil, Nat.le_refl, List.take_zero, List.take_succ_cons, List.drop_zero, List.drop_succ_cons, List.take_length, List.take_nil, List.drop_nil, Option.map_some, Option.map_none, List.getElem?_cons_zero, List.getElem?_cons_succ, List.getElem?_nil, Option.some.injEq,
      Int.toNat_zero, Int.reduceToNat, Int.reduceLT, Int.reduceLE, Int.reduceEq, Int.reduceAdd, Int.reduceSub, Int.reduceMul, Int.reduceNeg, decide_true, decide_false, Bool.not_true, Bool.not_false, beq_self_eq_true, List.mapM_cons, List.mapM_nil, wrap64, wrap8, Int.cast_ofNat_Int, Int.natCast_eq_zero, decide_eq_true_eq, Bool.or_false, Bool.or_true, Bool.or_self, Bool.false_or, Bool.true_or, Option.bind_eq_bind, Option.bind_some, Option.pure_def]
    | refine wfork_intro (fun h => ?_) (fun h => ?_)
    | (refine wCall_intro (same' _ _ ?_ ?_) ?_ ?_ ?_; assumption; assumption; rfl; decide)
    | apply And.intro
  all_goals refine DLe.of_eq ?_
  all_goals simp [isSameAll, *]

def cutN (n : Nd) : Nd := ⟨n.p, n.e, n.log.take 402, n.lost⟩
def cutsN (a : N3) : N3 := ⟨cutN a.a, cutN a.b, cutN a.c⟩
theorem cutN_len (n : Nd) : (cutN n).log.length ≤ 402 := by simp [cutN]; omega
theorem cutsN_small (a : N3) : (cutsN a).small 1000000 := ⟨Nat.le_trans (cutN_len _) (by omega), Nat.le_trans (cutN_len _) (by omega), Nat.le_trans (cutN_len _) (by omega)⟩

theorem strs_eq_nil (l : List ByteArray) : (strs l = []) = (l = []) := by simp [strs]
theorem take_cut (l : List ByteArray) : List.take ((if 402 < (l.length : Int) then 402 else (l.length : Int)) - 0).toNat l = l.take 402 := by
  split
  · rfl
  · rw [List.take_of_length_le (by omega), List.take_of_length_le (by omega)]

theorem cut (n : Nd) : Gives Try.prog 16 [.agg [.int .i64 n.p, .int .i64 n.e, .sl 1 (strs n.log), .bool n.lost]] (.agg [.d (.int .i64 (cutN n).p), .d (.int .i64 (cutN n).e), .d (.sl 1 (strs (cutN n).log)), .d (.bool (cutN n).lost)]) [] := by
  refine Gives.of_w TryEnv Try.func16 (by decide) TryL16_ok Try.ntmps16 (rs := [.cell 2 24]) rfl (by simp) [] (by decide) ?_
  rw [TryL16]
  repeat' first
    | simp -implicitDefEqProofs only [go_sem, ↓reduceIte, Nat.reduceEqDiff, Nat.reduceAdd, Nat.reduceMul, Nat.reduceSub, Nat.reduceLeDiff, Nat.reduceLT, Nat.reducePow, reduceCtorEq, List.length_cons, List.length_nil, List.map_cons, List.map_nil,
      List.reverse_cons, List.reverse_nil, List.nil_append, List.cons_append, Bool.false_eq_true, Nat.zero_le, List.replicate_zero, List.replicate_succ, List.flatten_nil, List.flatten_cons, true_and, and_true, and_self, List.append_nil, Nat.zero_add, Nat.add_zero,
      List.contains_nil, Nat.le_refl, List.take_zero, List.take_succ_cons, List.drop_zero, List.drop_succ_cons, List.take_length, List.take_nil, List.drop_nil, Option.map_some, Option.map_none, List.getElem?_cons_zero, List.getElem?_cons_succ, List.getElem?_nil, Option.some.injEq,
      Int.toNat_zero, Int.reduceToNat, Int.reduceLT, Int.reduceLE, Int.reduceEq, Int.reduceAdd, Int.reduceSub, Int.reduceMul, Int.reduceNeg, decide_true, decide_false, Bool.not_true, Bool.not_false, beq_self_eq_true, List.mapM_cons, List.mapM_nil, wrap64, wrap8, Int.cast_ofNat_Int, Int.natCast_eq_zero, decide_eq_true_eq, Bool.or_false, Bool.or_true, Bool.or_self, Bool.false_or, Bool.true_or, Option.bind_eq_bind, Option.bind_some, Option.pure_def]
    | apply And.intro
  · split <;> omega
  · split <;> omega
  · have hl : (n.log.take 402).length ≤ 402 := by simp; omega
    have hc : (cutN n).log = n.log.take 402 := rfl
    simp only [take_cut, strs_eq_nil]
    by_cases h : n.log.take 402 = []
    · simp only [h, if_true]
      rw [h] at hc
      simp -implicitDefEqProofs only [go_sem, ↓reduceIte, Nat.reduceEqDiff, Nat.reduceAdd, Nat.reduceMul, Nat.reduceSub, Nat.reduceLeDiff, Nat.reduceLT, Nat.reducePow, reduceCtorEq, List.length_cons, List.length_nil, List.map_cons, List.map_nil,
      List.reverse_cons, List.reverse_nil, List.nil_append, List.cons_append, Bool.false_eq_true, Nat.zero_le, List.replicate_zero, List.replicate_succ, List.flatten_nil, List.flatten_cons, true_and, and_true, and_self, List.append_nil, Nat.zero_add, Nat.add_zero,
      List.contains_nil, Nat.le_refl, List.take_zero, List.take_succ_cons, List.drop_zero, List.drop_succ_cons, List.take_length, List.take_nil, List.drop_nil, Option.map_some, Option.map_none, List.getElem?_cons_zero, List.getElem?_cons_succ, List.getElem?_nil, Option.some.injEq,
      Int.toNat_zero, Int.reduceToNat, Int.reduceLT, Int.reduceLE, Int.reduceEq, Int.reduceAdd, Int.reduceSub, Int.reduceMul, Int.reduceNeg, decide_true, decide_false, Bool.not_true, Bool.not_false, beq_self_eq_true, List.mapM_cons, List.mapM_nil, wrap64, wrap8, Int.cast_ofNat_Int, Int.natCast_eq_zero, decide_eq_true_eq, Bool.or_false, Bool.or_true, Bool.or_self, Bool.false_or, Bool.true_or, Option.bind_eq_bind, Option.bind_some, Option.pure_def]
      simp only [hc, strs_nil, go_sem, and_true, and_self]
      simp [cutN, go_sem]
    · have hb : (n.log.take 402).length * 16 ≤ mostBytes := by simp only [mostBytes]; omega
      simp only [h, if_false]
      simp -implicitDefEqProofs only [go_sem, ↓reduceIte, Nat.reduceEqDiff, Nat.reduceAdd, Nat.reduceMul, Nat.reduceSub, Nat.reduceLeDiff, Nat.reduceLT, Nat.reducePow, reduceCtorEq, List.length_cons, List.length_nil, List.map_cons, List.map_nil,
      List.reverse_cons, List.reverse_nil, List.nil_append, List.cons_append, Bool.false_eq_true, Nat.zero_le, List.replicate_zero, List.replicate_succ, List.flatten_nil, List.flatten_cons, true_and, and_true, and_self, List.append_nil, Nat.zero_add, Nat.add_zero,
      List.contains_nil, Nat.le_refl, List.take_zero, List.take_succ_cons, List.drop_zero, List.drop_succ_cons, List.take_length, List.take_nil, List.drop_nil, Option.map_some, Option.map_none, List.getElem?_cons_zero, List.getElem?_cons_succ, List.getElem?_nil, Option.some.injEq,
      Int.toNat_zero, Int.reduceToNat, Int.reduceLT, Int.reduceLE, Int.reduceEq, Int.reduceAdd, Int.reduceSub, Int.reduceMul, Int.reduceNeg, decide_true, decide_false, Bool.not_true, Bool.not_false, beq_self_eq_true, List.mapM_cons, List.mapM_nil, wrap64, wrap8, Int.cast_ofNat_Int, Int.natCast_eq_zero, decide_eq_true_eq, Bool.or_false, Bool.or_true, Bool.or_self, Bool.false_or, Bool.true_or, Option.bind_eq_bind, Option.bind_some, Option.pure_def, hb]
      simp [cutN, go_sem]

theorem cuts (a : N3) : Gives Try.prog 10 [.agg [.int .i64 a.a.p, .int .i64 a.a.e, .sl 1 (strs a.a.log), .bool a.a.lost, .int .i64 a.b.p, .int .i64 a.b.e, .sl 1 (strs a.b.log), .bool a.b.lost, .int .i64 a.c.p, .int .i64 a.c.e, .sl 1 (strs a.c.log), .bool a.c.lost]] (.agg [.d (.int .i64 ((cutsN a).a).p), .d (.int .i64 ((cutsN a).a).e), .d (.sl 1 (strs ((cutsN a).a).log)), .d (.bool ((cutsN a).a).lost), .d (.int .i64 ((cutsN a).b).p), .d (.int .i64 ((cutsN a).b).e), .d (.sl 1 (strs ((cutsN a).b).log)), .d (.bool ((cutsN a).b).lost), .d (.int .i64 ((cutsN a).c).p), .d (.int .i64 ((cutsN a).c).e), .d (.sl 1 (strs ((cutsN a).c).log)), .d (.bool ((cutsN a).c).lost)]) [] := by
  refine Gives.of_w TryEnv Try.func10 (by decide) TryL10_ok Try.ntmps10 (rs := [.cell 2 25]) rfl (by simp) [] (by decide) ?_
  rw [TryL10]
  repeat' first
    | simp -implicitDefEqProofs only [go_sem, ↓reduceIte, Nat.reduceEqDiff, Nat.reduceAdd, Nat.reduceMul, Nat.reduceSub, Nat.reduceLeDiff, Nat.reduceLT, Nat.reducePow, reduceCtorEq, List.length_cons, List.length_nil, List.map_cons, List.map_nil,
      List.reverse_cons, List.reverse_nil, List.nil_append, List.cons_append, Bool.false_eq_true, Nat.zero_le, List.replicate_zero, List.replicate_succ, List.flatten_nil, List.flatten_cons, true_and, and_true, and_self, List.append_nil, Nat.zero_add, Nat.add_zero,
      List.contains_nil, Nat.le_refl, List.take_zero, List.take_succ_cons, List.drop_zero, List.drop_succ_cons, List.take_length, List.take_nil, List.drop_nil, Option.map_some, Option.map_none, List.getElem?_cons_zero, List.getElem?_cons_succ, List.getElem?_nil, Option.some.injEq,
      Int.toNat_zero, Int.reduceToNat, Int.reduceLT, Int.reduceLE, Int.reduceEq, Int.reduceAdd, Int.reduceSub, Int.reduceMul, Int.reduceNeg, decide_true, decide_false, Bool.not_true, Bool.not_false, beq_self_eq_true, List.mapM_cons, List.mapM_nil, wrap64, wrap8, Int.cast_ofNat_Int, Int.natCast_eq_zero, decide_eq_true_eq, Bool.or_false, Bool.or_true, Bool.or_self, Bool.false_or, Bool.true_or, Option.bind_eq_bind, Option.bind_some, Option.pure_def]
    | (refine wCall_intro (cut _) ?_ ?_ ?_; rfl; decide)
    | refine Also.mk (by decide) ?_
    | apply And.intro
  all_goals simp [cutsN, go_sem]

def zero3 : N3 := ⟨Nd.zero, Nd.zero, Nd.zero⟩
def sX : ByteArray := ⟨#[120]⟩
def sY : ByteArray := ⟨#[121]⟩
def live1 : N3 × List ByteArray × Int := (⟨⟨1, 1, [], false⟩, ⟨1, 1, [], false⟩, Nd.zero⟩, [], 0)
def live2 : N3 × Bool × Int := (⟨⟨1, 1, [], false⟩, ⟨1, 1, [sX, sY], false⟩, ⟨1, 1, [sX, sY], false⟩⟩, true, 0)
def live3 : N3 × List ByteArray × Int := (⟨⟨2, 2, [sX, sY], false⟩, ⟨2, 2, [sX, sY], false⟩, ⟨2, 2, [sX, sY], false⟩⟩, [sX, sY], 0)
theorem live1_eq : recoverN ⟨0, 0, 1⟩ zero3 1 = live1 := by rfl
theorem live2_eq : writeN ⟨1, 0, 0⟩ live1.1 1 [sX, sY] = live2 := by rfl
theorem live3_eq : recoverN ⟨0, 0, 0⟩ live2.1 2 = live3 := by rfl

theorem lives : Gives Try.prog 15 [] (.c (.d (.bool true))) [] := by
  have h1 := recover zero3 ⟨0, 0, 1⟩ 1 ⟨by decide, by decide, by decide⟩
  have h2 := write live1.1 ⟨1, 0, 0⟩ 1 [sX, sY] ⟨by decide, by decide, by decide⟩ (by decide)
  have h3 := recover live2.1 ⟨0, 0, 0⟩ 2 ⟨by decide, by decide, by decide⟩
  have h4 := lines [sX, sY] [sX, sY] (by decide) (by decide)
  rw [live1_eq] at h1
  rw [live2_eq] at h2
  rw [live3_eq] at h3
  rw [isLines_self] at h4
  simp only [live1, live2, live3, zero3, Nd.zero, strs_nil, strs_cons, sX, sY] at h1 h2 h3 h4
  refine Gives.of_w TryEnv Try.func15 (by decide) TryL15_ok Try.ntmps15 (rs := [.tmp 0]) rfl (by simp) [] (by decide) ?_
  rw [TryL15]
  repeat' first
    | simp -implicitDefEqProofs only [go_sem, ↓reduceIte, Nat.reduceEqDiff, Nat.reduceAdd, Nat.reduceMul, Nat.reduceSub, Nat.reduceLeDiff, Nat.reduceLT, Nat.reducePow, reduceCtorEq, List.length_cons, List.length_nil, List.map_cons, List.map_nil,
      List.reverse_cons, List.reverse_nil, List.nil_append, List.cons_append, Bool.false_eq_true, Nat.zero_le, List.replicate_zero, List.replicate_succ, List.flatten_nil, List.flatten_cons, true_and, and_true, and_self, List.append_nil, Nat.zero_add, Nat.add_zero,
      List.contains_nil, Nat.le_refl, List.take_zero, List.take_succ_cons, List.drop_zero, List.drop_succ_cons, List.take_length, List.take_nil, List.drop_nil, Option.map_some, Option.map_none, List.getElem?_cons_zero, List.getElem?_cons_succ, List.getElem?_nil, Option.some.injEq,
      Int.toNat_zero, Int.reduceToNat, Int.reduceLT, Int.reduceLE, Int.reduceEq, Int.reduceAdd, Int.reduceSub, Int.reduceMul, Int.reduceNeg, decide_true, decide_false, Bool.not_true, Bool.not_false, beq_self_eq_true, List.mapM_cons, List.mapM_nil, wrap64, wrap8, Int.cast_ofNat_Int, Int.natCast_eq_zero, decide_eq_true_eq, Bool.or_false, Bool.or_true, Bool.or_self, Bool.false_or, Bool.true_or, Option.bind_eq_bind, Option.bind_some, Option.pure_def]
    | refine wLend_frz ?_
    | (refine wCall_le h1 ?_ ?_ ?_ ?_; simp -implicitDefEqProofs only [go_sem, ↓reduceIte, Nat.reduceEqDiff, Nat.reduceAdd, Nat.reduceMul, Nat.reduceSub, Nat.reduceLeDiff, Nat.reduceLT, Nat.reducePow, reduceCtorEq, List.length_cons, List.length_nil, List.map_cons, List.map_nil,
      List.reverse_cons, List.reverse_nil, List.nil_append, List.cons_append, Bool.false_eq_true, Nat.zero_le, List.replicate_zero, List.replicate_succ, List.flatten_nil, List.flatten_cons, true_and, and_true, and_self, List.append_nil, Nat.zero_add, Nat.add_zero,
      List.contains_nil, Nat.le_refl, List.take_zero, List.take_succ_cons, List.drop_zero, List.drop_succ_cons, List.take_length, List.take_nil, List.drop_nil, Option.map_some, Option.map_none, List.getElem?_cons_zero, List.getElem?_cons_succ, List.getElem?_nil, Option.some.injEq,
      Int.toNat_zero, Int.reduceToNat, Int.reduceLT, Int.reduceLE, Int.reduceEq, Int.reduceAdd, Int.reduceSub, Int.reduceMul, Int.reduceNeg, decide_true, decide_false, Bool.not_true, Bool.not_false, beq_self_eq_true, List.mapM_cons, List.mapM_nil, wrap64, wrap8, Int.cast_ofNat_Int, Int.natCast_eq_zero, decide_eq_true_eq, Bool.or_false, Bool.or_true, Bool.or_self, Bool.false_or, Bool.true_or, Option.bind_eq_bind, Option.bind_some, Option.pure_def]; rfl; decide)
    | (refine wCall_le h2 ?_ ?_ ?_ ?_; simp -implicitDefEqProofs only [go_sem, ↓reduceIte, Nat.reduceEqDiff, Nat.reduceAdd, Nat.reduceMul, Nat.reduceSub, Nat.reduceLeDiff, Nat.reduceLT, Nat.reducePow, reduceCtorEq, List.length_cons, List.length_nil, List.map_cons, List.map_nil,
      List.reverse_cons, List.reverse_nil, List.nil_append, List.cons_append, Bool.false_eq_true, Nat.zero_le, List.replicate_zero, List.replicate_succ, List.flatten_nil, List.flatten_cons, true_and, and_true, and_self, List.append_nil, Nat.zero_add, Nat.add_zero,
      List.contains_nil, Nat.le_refl, List.take_zero, List.take_succ_cons, List.drop_zero, List.drop_succ_cons, List.take_length, List.take_nil, List.drop_nil, Option.map_some, Option.map_none, List.getElem?_cons_zero, List.getElem?_cons_succ, List.getElem?_nil, Option.some.injEq,
      Int.toNat_zero, Int.reduceToNat, Int.reduceLT, Int.reduceLE, Int.reduceEq, Int.reduceAdd, Int.reduceSub, Int.reduceMul, Int.reduceNeg, decide_true, decide_false, Bool.not_true, Bool.not_false, beq_self_eq_true, List.mapM_cons, List.mapM_nil, wrap64, wrap8, Int.cast_ofNat_Int, Int.natCast_eq_zero, decide_eq_true_eq, Bool.or_false, Bool.or_true, Bool.or_self, Bool.false_or, Bool.true_or, Option.bind_eq_bind, Option.bind_some, Option.pure_def]; rfl; decide)
    | (refine wCall_le h3 ?_ ?_ ?_ ?_; simp -implicitDefEqProofs only [go_sem, ↓reduceIte, Nat.reduceEqDiff, Nat.reduceAdd, Nat.reduceMul, Nat.reduceSub, Nat.reduceLeDiff, Nat.reduceLT, Nat.reducePow, reduceCtorEq, List.length_cons, List.length_nil, List.map_cons, List.map_nil,
      List.reverse_cons, List.reverse_nil, List.nil_append, List.cons_append, Bool.false_eq_true, Nat.zero_le, List.replicate_zero, List.replicate_succ, List.flatten_nil, List.flatten_cons, true_and, and_true, and_self, List.append_nil, Nat.zero_add, Nat.add_zero,
      List.contains_nil, Nat.le_refl, List.take_zero, List.take_succ_cons, List.drop_zero, List.drop_succ_cons, List.take_length, List.take_nil, List.drop_nil, Option.map_some, Option.map_none, List.getElem?_cons_zero, List.getElem?_cons_succ, List.getElem?_nil, Option.some.injEq,
      Int.toNat_zero, Int.reduceToNat, Int.reduceLT, Int.reduceLE, Int.reduceEq, Int.reduceAdd, Int.reduceSub, Int.reduceMul, Int.reduceNeg, decide_true, decide_false, Bool.not_true, Bool.not_false, beq_self_eq_true, List.mapM_cons, List.mapM_nil, wrap64, wrap8, Int.cast_ofNat_Int, Int.natCast_eq_zero, decide_eq_true_eq, Bool.or_false, Bool.or_true, Bool.or_self, Bool.false_or, Bool.true_or, Option.bind_eq_bind, Option.bind_some, Option.pure_def]; rfl; decide)
    | (refine wCall_le h4 ?_ ?_ ?_ ?_; simp -implicitDefEqProofs only [go_sem, ↓reduceIte, Nat.reduceEqDiff, Nat.reduceAdd, Nat.reduceMul, Nat.reduceSub, Nat.reduceLeDiff, Nat.reduceLT, Nat.reducePow, reduceCtorEq, List.length_cons, List.length_nil, List.map_cons, List.map_nil,
      List.reverse_cons, List.reverse_nil, List.nil_append, List.cons_append, Bool.false_eq_true, Nat.zero_le, List.replicate_zero, List.replicate_succ, List.flatten_nil, List.flatten_cons, true_and, and_true, and_self, List.append_nil, Nat.zero_add, Nat.add_zero,
      List.contains_nil, Nat.le_refl, List.take_zero, List.take_succ_cons, List.drop_zero, List.drop_succ_cons, List.take_length, List.take_nil, List.drop_nil, Option.map_some, Option.map_none, List.getElem?_cons_zero, List.getElem?_cons_succ, List.getElem?_nil, Option.some.injEq,
      Int.toNat_zero, Int.reduceToNat, Int.reduceLT, Int.reduceLE, Int.reduceEq, Int.reduceAdd, Int.reduceSub, Int.reduceMul, Int.reduceNeg, decide_true, decide_false, Bool.not_true, Bool.not_false, beq_self_eq_true, List.mapM_cons, List.mapM_nil, wrap64, wrap8, Int.cast_ofNat_Int, Int.natCast_eq_zero, decide_eq_true_eq, Bool.or_false, Bool.or_true, Bool.or_self, Bool.false_or, Bool.true_or, Option.bind_eq_bind, Option.bind_some, Option.pure_def]; rfl; decide)
    | refine Also.mk (by decide) ?_
    | apply And.intro

end Go.Proofs.Ytehmaafnbgpkcaa

namespace Go.Proofs.Ytehmaafnbgpkcaa
open Go Go.Vs Go.Proofs

theorem recoverN_small (r : R3) (ns : N3) (e : Int) (m : Nat) (hs : ns.small m) : (recoverN r ns e).1.small m ∧ (recoverN r ns e).2.1.length ≤ m := by
  have hc : (callN (promiseN · e) r ns).1.small m := callN_small (fun n hn => Nat.le_trans (promiseN_len n e) hn) r hs
  unfold recoverN
  split
  · exact ⟨hs, by simp⟩
  · split
    · exact ⟨hc, by simp⟩
    · have hb := bestN_len hc.1 hc.2.1 hc.2.2 (callN (promiseN · e) r ns).2
      refine ⟨?_, hb⟩
      have : ∀ (lg : List ByteArray), lg.length ≤ m → ∀ (l : List Int) (s : N3), s.small m → (l.foldl (fun n i => n.set i (madeN e lg)) s).small m := by
        intro lg hlg l
        induction l with
        | nil => exact fun s hs => hs
        | cons i l ih =>
          intro s hs
          rw [List.foldl_cons]
          refine ih _ ?_
          unfold N3.set
          obtain ⟨h1, h2, h3⟩ := hs
          repeat' split
          all_goals exact ⟨by assumption, by assumption, by assumption⟩
      exact this _ hb _ _ hc

theorem lines' (a b : List ByteArray) (ha : a.length ≤ 1000000) (hb : b.length ≤ 1000000) : Gives Try.prog 14 [.c (.sl 1 (strs a)), .c (.sl 1 (strs b))] (.c (.d (.bool (isLines a b)))) [] := lines a b ha hb

theorem lawRecovers (ns : N3) (r : R3) (e : Int) : Gives Try.prog 3 [.agg [.int .i64 ns.a.p, .int .i64 ns.a.e, .sl 1 (strs ns.a.log), .bool ns.a.lost, .int .i64 ns.b.p, .int .i64 ns.b.e, .sl 1 (strs ns.b.log), .bool ns.b.lost, .int .i64 ns.c.p, .int .i64 ns.c.e, .sl 1 (strs ns.c.log), .bool ns.c.lost], .agg [.int .u8 r.a, .int .u8 r.b, .int .u8 r.c], .c (.int .i64 e)] (.c (.d (.bool true))) [] := by
  have h1 := recover (cutsN ns) r e (cutsN_small ns)
  have h2 := refRecover (cutsN ns) r e (cutsN_small ns)
  obtain ⟨hs, hl⟩ := recoverN_small r (cutsN ns) e 1000000 (cutsN_small ns)
  have h3 := sameAll _ _ hs hs
  have h4 := lines _ _ hl hl
  rw [isSameAll_self] at h3
  rw [isLines_self] at h4
  generalize recoverN r (cutsN ns) e = s at *
  refine Gives.of_w TryEnv Try.func3 (by decide) TryL3_ok Try.ntmps3 (rs := [.tmp 6]) rfl (by simp) [] (by decide) ?_
  rw [TryL3]
  repeat' first
    | simp -implicitDefEqProofs only [go_sem, ↓reduceIte, Nat.reduceEqDiff, Nat.reduceAdd, Nat.reduceMul, Nat.reduceSub, Nat.reduceLeDiff, Nat.reduceLT, Nat.reducePow, reduceCtorEq, List.length_cons, List.length_nil, List.map_cons, List.map_nil,
      List.reverse_cons, List.reverse_nil, List.nil_append, List.cons_append, Bool.false_eq_true, Nat.zero_le, List.replicate_zero, List.replicate_succ, List.flatten_nil, List.flatten_cons, true_and, and_true, and_self, List.append_nil, Nat.zero_add, Nat.add_zero,
      List.contains_nil, Nat.le_refl, List.take_zero, List.take_succ_cons, List.drop_zero, List.drop_succ_cons, List.take_length, List.take_nil, List.drop_nil, Option.map_some, Option.map_none, List.getElem?_cons_zero, List.getElem?_cons_succ, List.getElem?_nil, Option.some.injEq,
      Int.toNat_zero, Int.reduceToNat, Int.reduceLT, Int.reduceLE, Int.reduceEq, Int.reduceAdd, Int.reduceSub, Int.reduceMul, Int.reduceNeg, decide_true, decide_false, Bool.not_true, Bool.not_false, beq_self_eq_true, List.mapM_cons, List.mapM_nil, wrap64, wrap8, Int.cast_ofNat_Int, Int.natCast_eq_zero, decide_eq_true_eq, Bool.or_false, Bool.or_true, Bool.or_self, Bool.false_or, Bool.true_or, Option.bind_eq_bind, Option.bind_some, Option.pure_def]
    | (refine wCall_intro (cuts ns) ?_ ?_ ?_; rfl; decide)
    | (refine wCall_intro h1 ?_ ?_ ?_; rfl; decide)
    | (refine wCall_intro h2 ?_ ?_ ?_; rfl; decide)
    | (refine wCall_intro h3 ?_ ?_ ?_; rfl; decide)
    | (refine wCall_intro h4 ?_ ?_ ?_; rfl; decide)
    | (refine wCall_intro lives ?_ ?_ ?_; rfl; decide)
    | refine Also.mk (by decide) ?_
    | refine wfork_intro (fun h => ?_) (fun h => ?_)
    | apply And.intro
  all_goals simp_all
end Go.Proofs.Ytehmaafnbgpkcaa

namespace Go.Proofs.Ytehmaafnbgpkcaa
open Go Go.Vs Go.Proofs

def reachN (n : Int) : R3 := ⟨n.tmod 3, (n.tdiv 3).tmod 3, (n.tdiv 9).tmod 3⟩
theorem reach19 (n : Int) (h0 : 0 ≤ n) (h1 : n ≤ 255) : Gives Try.prog 19 [.c (.int .u8 n)] (.agg [.d (.int .u8 (reachN n).a), .d (.int .u8 (reachN n).b), .d (.int .u8 (reachN n).c)]) [] := by
  have d1 : n.tdiv 3 = n / 3 := Int.tdiv_eq_ediv_of_nonneg h0
  have d2 : n.tdiv 9 = n / 9 := Int.tdiv_eq_ediv_of_nonneg h0
  have e1 : IntKind.u8.wrap (n.tdiv 3) = n.tdiv 3 := wrap8 (by omega) (by omega)
  have e2 : IntKind.u8.wrap (n.tdiv 9) = n.tdiv 9 := wrap8 (by omega) (by omega)
  refine Gives.of_w TryEnv Try.func19 (by decide) TryL19_ok Try.ntmps19 (rs := [.cell 2 27]) rfl (by simp) [] (by decide) ?_
  rw [TryL19]
  repeat' first
    | simp -implicitDefEqProofs only [go_sem, ↓reduceIte, Nat.reduceEqDiff, Nat.reduceAdd, Nat.reduceMul, Nat.reduceSub, Nat.reduceLeDiff, Nat.reduceLT, Nat.reducePow, reduceCtorEq, List.length_cons, List.length_nil, List.map_cons, List.map_nil,
      List.reverse_cons, List.reverse_nil, List.nil_append, List.cons_append, Bool.false_eq_true, Nat.zero_le, List.replicate_zero, List.replicate_succ, List.flatten_nil, List.flatten_cons, true_and, and_true, and_self, List.append_nil, Nat.zero_add, Nat.add_zero,
      List.contains_nil, Nat.le_refl, List.take_zero, List.take_succ_cons, List.drop_zero, List.drop_succ_cons, List.take_length, List.take_nil, List.drop_nil, Option.map_some, Option.map_none, List.getElem?_cons_zero, List.getElem?_cons_succ, List.getElem?_nil, Option.some.injEq,
      Int.toNat_zero, Int.reduceToNat, Int.reduceLT, Int.reduceLE, Int.reduceEq, Int.reduceAdd, Int.reduceSub, Int.reduceMul, Int.reduceNeg, decide_true, decide_false, Bool.not_true, Bool.not_false, beq_self_eq_true, List.mapM_cons, List.mapM_nil, wrap64, wrap8, Int.cast_ofNat_Int, Int.natCast_eq_zero, decide_eq_true_eq, Bool.or_false, Bool.or_true, Bool.or_self, Bool.false_or, Bool.true_or, Option.bind_eq_bind, Option.bind_some, Option.pure_def, e1, e2]
    | apply And.intro
  all_goals (try simp [reachN, go_sem])

theorem stepN_stuck {ask : Nd → Nd × Int} {r i : Int} {n : Nd} {l : List Int} (h : ¬ (ask n).2 = 0) : stepN ask r i n l = (n, l) := by
  unfold stepN
  simp [h]

/-- Two of the three nodes do not do what they are asked. -/
def stuck2 (ask : Nd → Nd × Int) (ns : N3) : Prop := (¬ (ask ns.a).2 = 0 ∧ ¬ (ask ns.b).2 = 0) ∨ (¬ (ask ns.a).2 = 0 ∧ ¬ (ask ns.c).2 = 0) ∨ (¬ (ask ns.b).2 = 0 ∧ ¬ (ask ns.c).2 = 0)

theorem stuck2_len {ask : Nd → Nd × Int} {r : R3} {ns : N3} (h : stuck2 ask ns) : (callN ask r ns).2.length < 2 := by
  simp only [callN, callK_3]
  rcases h with ⟨h1, h2⟩ | ⟨h1, h2⟩ | ⟨h1, h2⟩
  · rw [stepN_stuck h1, stepN_stuck h2]
    have : (stepN ask r.c 2 ns.c []).2.length ≤ 0 + 1 := stepN_len ask r.c 2 ns.c []
    show (stepN ask r.c 2 ns.c []).2.length < 2
    omega
  · rw [stepN_stuck h1, stepN_stuck h2]
    have : (stepN ask r.b 1 ns.b []).2.length ≤ 0 + 1 := stepN_len ask r.b 1 ns.b []
    show (stepN ask r.b 1 ns.b []).2.length < 2
    omega
  · rw [stepN_stuck h2, stepN_stuck h1]
    have : (stepN ask r.a 0 ns.a []).2.length ≤ 0 + 1 := stepN_len ask r.a 0 ns.a []
    show (stepN ask r.a 0 ns.a []).2.length < 2
    omega

/-- Two of the three nodes have joined an epoch. -/
def joined2 (e : Int) (ns : N3) : Prop := (ns.a.p = e ∧ ns.b.p = e) ∨ (ns.a.p = e ∧ ns.c.p = e) ∨ (ns.b.p = e ∧ ns.c.p = e)

theorem recover_joined {r : R3} {ns : N3} {e : Int} (h : (recoverN r ns e).2.2 = 0) : 1 ≤ e ∧ joined2 e (recoverN r ns e).1 := by
  unfold recoverN at h ⊢
  split at h
  · simp at h
  · rename_i he
    split at h
    · simp at h
    · rename_i hl
      rw [if_neg he, if_neg hl]
      refine ⟨by omega, ?_⟩
      generalize (bestN (callN (fun x => promiseN x e) r ns).1 (callN (fun x => promiseN x e) r ns).2).log = lg
      have hj := callN_cases (promiseN · e) r ns
      generalize callN (fun x => promiseN x e) r ns = s at hl hj ⊢
      obtain ⟨m, l⟩ := s
      dsimp only at hj hl ⊢
      rcases hj with rfl | rfl | rfl | rfl | rfl | rfl | rfl | rfl
      all_goals first
        | (exfalso; simp at hl; done)
        | simp [joined2, N3.set, madeN]

theorem promise_stuck {n : Nd} {e : Int} (h : n.p = e) : ¬ (promiseN n e).2 = 0 := by
  unfold promiseN
  repeat' split
  all_goals first
    | (exfalso; omega)
    | simp

theorem install_stuck {n : Nd} {e e' : Int} {m : List ByteArray} (h : n.p = e) (he : e' < e) : ¬ (installN n e' m).2 = 0 := by
  unfold installN
  repeat' split
  all_goals first
    | assumption
    | (exfalso; omega)
    | simp

theorem joined_stuck {ask : Nd → Nd × Int} {e : Int} {ns : N3} (h : joined2 e ns) (ha : ∀ n : Nd, n.p = e → ¬ (ask n).2 = 0) : stuck2 ask ns := by
  rcases h with ⟨h1, h2⟩ | ⟨h1, h2⟩ | ⟨h1, h2⟩
  · exact .inl ⟨ha _ h1, ha _ h2⟩
  · exact .inr (.inl ⟨ha _ h1, ha _ h2⟩)
  · exact .inr (.inr ⟨ha _ h1, ha _ h2⟩)

theorem once_second {r r' : R3} {ns : N3} {e : Int} (h : (recoverN r ns e).2.2 = 0) : (recoverN r' (recoverN r ns e).1 e).2.2 = 18 := by
  obtain ⟨h1, h2⟩ := recover_joined h
  have h3 := stuck2_len (r := r') (joined_stuck h2 fun n hn => promise_stuck hn)
  generalize (recoverN r ns e).1 = m at h3 ⊢
  unfold recoverN
  rw [if_neg (by omega), if_pos h3]

theorem once_late {r r' : R3} {ns : N3} {e e' : Int} {m : List ByteArray} (h : (recoverN r ns e).2.2 = 0) (he : e' < e) : (writeN r' (recoverN r ns e).1 e' m).2.1 = false := by
  obtain ⟨h1, h2⟩ := recover_joined h
  have h3 := stuck2_len (r := r') (joined_stuck (ask := (installN · e' m)) h2 fun n hn => install_stuck hn he)
  unfold writeN
  split
  · rfl
  · simp only [decide_eq_false_iff_not]
    omega

theorem lawOnce (ns : N3) (f s : Int) (e : Int) (le : Int) (hf : 0 ≤ f ∧ f ≤ 255) (hs : 0 ≤ s ∧ s ≤ 255) (he : -9223372036854775808 ≤ e ∧ e ≤ 9223372036854775807) (hl : 0 ≤ le ∧ le ≤ 255) :
    Gives Try.prog 5 [.agg [.int .i64 ns.a.p, .int .i64 ns.a.e, .sl 1 (strs ns.a.log), .bool ns.a.lost, .int .i64 ns.b.p, .int .i64 ns.b.e, .sl 1 (strs ns.b.log), .bool ns.b.lost, .int .i64 ns.c.p, .int .i64 ns.c.e, .sl 1 (strs ns.c.log), .bool ns.c.lost], .c (.int .u8 f), .c (.int .u8 s), .c (.int .i64 e), .c (.int .u8 le)] (.c (.d (.bool true))) [] := by
  have h1 := recover (cutsN ns) (reachN f) e (cutsN_small ns)
  obtain ⟨hsm, hl1⟩ := recoverN_small (reachN f) (cutsN ns) e 1000000 (cutsN_small ns)
  have h2 := recover (recoverN (reachN f) (cutsN ns) e).1 (reachN s) e hsm
  have h3 := fun e' => write (recoverN (reachN f) (cutsN ns) e).1 (reachN s) e' [⟨#[108, 97, 116, 101]⟩] hsm (by decide)
  have o1 := @once_second (reachN f) (reachN s) (cutsN ns) e
  have o2 := @once_late (reachN f) (reachN s) (cutsN ns) e
  have ob := fun h => (@recover_joined (reachN f) (cutsN ns) e h).1
  generalize recoverN (reachN f) (cutsN ns) e = x at *
  generalize recoverN (reachN s) x.1 e = y at *
  simp only [strs_cons, strs_nil] at h3
  refine Gives.of_w TryEnv Try.func5 (by decide) TryL5_ok Try.ntmps5 (rs := [.tmp 10]) rfl (by simp) [] (by decide) ?_
  rw [TryL5]
  repeat' first
    | simp -implicitDefEqProofs only [go_sem, ↓reduceIte, Nat.reduceEqDiff, Nat.reduceAdd, Nat.reduceMul, Nat.reduceSub, Nat.reduceLeDiff, Nat.reduceLT, Nat.reducePow, reduceCtorEq, List.length_cons, List.length_nil, List.map_cons, List.map_nil,
      List.reverse_cons, List.reverse_nil, List.nil_append, List.cons_append, Bool.false_eq_true, Nat.zero_le, List.replicate_zero, List.replicate_succ, List.flatten_nil, List.flatten_cons, true_and, and_true, and_self, List.append_nil, Nat.zero_add, Nat.add_zero,
      List.contains_nil, Nat.le_refl, List.take_zero, List.take_succ_cons, List.drop_zero, List.drop_succ_cons, List.take_length, List.take_nil, List.drop_nil, Option.map_some, Option.map_none, List.getElem?_cons_zero, List.getElem?_cons_succ, List.getElem?_nil, Option.some.injEq,
      Int.toNat_zero, Int.reduceToNat, Int.reduceLT, Int.reduceLE, Int.reduceEq, Int.reduceAdd, Int.reduceSub, Int.reduceMul, Int.reduceNeg, decide_true, decide_false, Bool.not_true, Bool.not_false, beq_self_eq_true, List.mapM_cons, List.mapM_nil, wrap64, wrap8, Int.cast_ofNat_Int, Int.natCast_eq_zero, decide_eq_true_eq, Bool.or_false, Bool.or_true, Bool.or_self, Bool.false_or, Bool.true_or, Option.bind_eq_bind, Option.bind_some, Option.pure_def]
    | (refine wCall_intro (cuts ns) ?_ ?_ ?_; rfl; decide)
    | (refine wCall_intro (reach19 f hf.1 hf.2) ?_ ?_ ?_; rfl; decide)
    | (refine wCall_intro (reach19 s hs.1 hs.2) ?_ ?_ ?_; rfl; decide)
    | (refine wCall_intro h1 ?_ ?_ ?_; rfl; decide)
    | (refine wCall_intro h2 ?_ ?_ ?_; rfl; decide)
    | (refine wCall_intro (h3 _) ?_ ?_ ?_; rfl; decide)
    | (refine wCall_intro lives ?_ ?_ ?_; rfl; decide)
    | refine Also.mk (by decide) ?_
    | refine wfork_intro (fun h => ?_) (fun h => ?_)
    | apply And.intro
  · rename_i g1 g2
    have hx : x.2.2 = 0 := by simpa using g1
    have hb := ob hx
    rw [wrap64 (n := e - 1) (by omega) (by omega), wrap64 (n := le) (by omega) (by omega), wrap64 (n := e - 1 - le) (by omega) (by omega), o2 hx (by omega)] at h
    simp at h
  · rename_i g1
    have hx : x.2.2 = 0 := by simpa using g1
    simp [o1 hx] at h
end Go.Proofs.Ytehmaafnbgpkcaa
