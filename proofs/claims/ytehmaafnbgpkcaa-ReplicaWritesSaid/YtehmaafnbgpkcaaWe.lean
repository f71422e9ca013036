/- This text proves a part of what the claim needs: contracts of functions of the program. No condition. -/
import Derived.Test.YtehmaafnbgpkcaaWc
set_option linter.unusedSimpArgs false
set_option linter.unusedVariables false

namespace Go.Proofs.Ytehmaafnbgpkcaa
open Go Go.Vs Go.Proofs

def lostN (ns : N3) : Int := if ns.a.lost then 0 else if ns.b.lost then 1 else if ns.c.lost then 2 else -1
def R3.get (r : R3) (i : Int) : Int := if i = 0 then r.a else if i = 1 then r.b else r.c

theorem isLost (n : Nd) : Gives Try.prog 42 [.agg [.int .i64 n.p, .int .i64 n.e, .sl 1 (strs n.log), .bool n.lost]] (.c (.d (.bool n.lost))) [] := by
  refine Gives.of_w TryEnv Try.func42 (by decide) TryL42_ok Try.ntmps42 (rs := [.tmp 2]) rfl (by simp) [] (by decide) ?_
  rw [TryL42]
  simp -implicitDefEqProofs only [go_sem, ↓reduceIte, Nat.reduceEqDiff, Nat.reduceAdd, Nat.reduceMul, Nat.reduceSub, Nat.reduceLeDiff, Nat.reduceLT, Nat.reducePow, reduceCtorEq, List.length_cons, List.length_nil, List.map_cons, List.map_nil,
      List.reverse_cons, List.reverse_nil, List.nil_append, List.cons_append, Bool.false_eq_true, Nat.zero_le, List.replicate_zero, List.replicate_succ, List.flatten_nil, List.flatten_cons, true_and, and_true, and_self, List.append_nil, Nat.zero_add, Nat.add_zero,
      List.contains_nil, Nat.le_refl, List.take_zero, List.take_succ_cons, List.drop_zero, List.drop_succ_cons, List.take_length, List.take_nil, List.drop_nil, Option.map_some, Option.map_none, List.getElem?_cons_zero, List.getElem?_cons_succ, List.getElem?_nil, Option.some.injEq,
      Int.toNat_zero, Int.reduceToNat, Int.reduceLT, Int.reduceLE, Int.reduceEq, Int.reduceAdd, Int.reduceSub, Int.reduceMul, Int.reduceNeg, decide_true, decide_false, Bool.not_true, Bool.not_false, beq_self_eq_true, List.mapM_cons, List.mapM_nil, wrap64, wrap8, Int.cast_ofNat_Int, Int.natCast_eq_zero, decide_eq_true_eq, Bool.or_false, Bool.or_true, Bool.or_self, Bool.false_or, Bool.true_or, Option.bind_eq_bind, Option.bind_some, Option.pure_def]

theorem index41 (ns : N3) : Gives Try.prog 41 [.c (.sl 4 [[.int .i64 ns.a.p, .int .i64 ns.a.e, .sl 1 (strs ns.a.log), .bool ns.a.lost], [.int .i64 ns.b.p, .int .i64 ns.b.e, .sl 1 (strs ns.b.log), .bool ns.b.lost], [.int .i64 ns.c.p, .int .i64 ns.c.e, .sl 1 (strs ns.c.log), .bool ns.c.lost]]), .c (.fn 42 [])] (.c (.d (.int .i64 (lostN ns)))) [] := by
  refine Gives.of_w TryEnv Try.func41 (by decide) TryL41_ok Try.ntmps41 (rs := [.tmp 4]) rfl (by simp) [] (by decide) ?_
  rw [TryL41]
  repeat' first
    | simp -implicitDefEqProofs only [go_sem, ↓reduceIte, Nat.reduceEqDiff, Nat.reduceAdd, Nat.reduceMul, Nat.reduceSub, Nat.reduceLeDiff, Nat.reduceLT, Nat.reducePow, reduceCtorEq, List.length_cons, List.length_nil, List.map_cons, List.map_nil,
      List.reverse_cons, List.reverse_nil, List.nil_append, List.cons_append, Bool.false_eq_true, Nat.zero_le, List.replicate_zero, List.replicate_succ, List.flatten_nil, List.flatten_cons, true_and, and_true, and_self, List.append_nil, Nat.zero_add, Nat.add_zero,
      List.contains_nil, Nat.le_refl, List.take_zero, List.take_succ_cons, List.drop_zero, List.drop_succ_cons, List.take_length, List.take_nil, List.drop_nil, Option.map_some, Option.map_none, List.getElem?_cons_zero, List.getElem?_cons_succ, List.getElem?_nil, Option.some.injEq,
      Int.toNat_zero, Int.reduceToNat, Int.reduceLT, Int.reduceLE, Int.reduceEq, Int.reduceAdd, Int.reduceSub, Int.reduceMul, Int.reduceNeg, decide_true, decide_false, Bool.not_true, Bool.not_false, beq_self_eq_true, List.mapM_cons, List.mapM_nil, wrap64, wrap8, Int.cast_ofNat_Int, Int.natCast_eq_zero, decide_eq_true_eq, Bool.or_false, Bool.or_true, Bool.or_self, Bool.false_or, Bool.true_or, Option.bind_eq_bind, Option.bind_some, Option.pure_def]
    | (refine wT_unroll TryEnv [(), (), (), ()] ?_)
    | (refine wCall_intro (isLost _) ?_ ?_ ?_; rfl; decide)
    | refine wfork_intro (fun h => ?_) (fun h => ?_)
    | apply And.intro
  all_goals refine DLe.of_eq ?_
  all_goals simp [lostN, *]

def writeN (r : R3) (ns : N3) (e : Int) (m : List ByteArray) : N3 × Bool × Int :=
  if boundN e m ≠ 0 then (ns, false, boundN e m) else
  (if (2 : Int) ≤ (callN (installN · e m) r ns).2.length ∧ 0 ≤ lostN ns ∧ arrivesN (r.get (lostN ns)) = true then (callN (installN · e m) r ns).1.set (lostN ns) (madeN e m) else (callN (installN · e m) r ns).1,
    decide ((2 : Int) ≤ (callN (installN · e m) r ns).2.length), 0)

theorem lostN_cases (ns : N3) : lostN ns = -1 ∨ lostN ns = 0 ∨ lostN ns = 1 ∨ lostN ns = 2 := by
  unfold lostN
  repeat' split
  all_goals simp

set_option maxHeartbeats 4000000 in
theorem write_ (ns : N3) (r : R3) (e : Int) (m : List ByteArray) (hs : ns.small 1000000) (hm : m.length ≤ 1000000) (X : N3 × Bool × Int) (hX : X = writeN r ns e m) :
    Gives Try.prog 17 [.agg [.int .i64 ns.a.p, .int .i64 ns.a.e, .sl 1 (strs ns.a.log), .bool ns.a.lost, .int .i64 ns.b.p, .int .i64 ns.b.e, .sl 1 (strs ns.b.log), .bool ns.b.lost, .int .i64 ns.c.p, .int .i64 ns.c.e, .sl 1 (strs ns.c.log), .bool ns.c.lost], .agg [.int .u8 r.a, .int .u8 r.b, .int .u8 r.c], .c (.int .i64 e), .c (.sl 1 (strs m))]
    (.tup [.agg [.d (.int .i64 X.1.a.p), .d (.int .i64 X.1.a.e), .d (.sl 1 (strs X.1.a.log)), .d (.bool X.1.a.lost), .d (.int .i64 X.1.b.p), .d (.int .i64 X.1.b.e), .d (.sl 1 (strs X.1.b.log)), .d (.bool X.1.b.lost), .d (.int .i64 X.1.c.p), .d (.int .i64 X.1.c.e), .d (.sl 1 (strs X.1.c.log)), .d (.bool X.1.c.lost)], .c (.d (.bool X.2.1)), .c (.d (.int .i64 X.2.2))]) [] := by
  refine Gives.of_w TryEnv Try.func17 (by decide) TryL17_ok Try.ntmps17 (rs := [.cell 8 25, .tmp 9, .tmp 10]) rfl (by simp) [] (by decide) ?_
  rw [TryL17]
  repeat' first
    | simp -implicitDefEqProofs only [go_sem, ↓reduceIte, Nat.reduceEqDiff, Nat.reduceAdd, Nat.reduceMul, Nat.reduceSub, Nat.reduceLeDiff, Nat.reduceLT, Nat.reducePow, reduceCtorEq, List.length_cons, List.length_nil, List.map_cons, List.map_nil,
      List.reverse_cons, List.reverse_nil, List.nil_append, List.cons_append, Bool.false_eq_true, Nat.zero_le, List.replicate_zero, List.replicate_succ, List.flatten_nil, List.flatten_cons, true_and, and_true, and_self, List.append_nil, Nat.zero_add, Nat.add_zero,
      List.contains_nil, Nat.le_refl, List.take_zero, List.take_succ_cons, List.drop_zero, List.drop_succ_cons, List.take_length, List.take_nil, List.drop_nil, Option.map_some, Option.map_none, List.getElem?_cons_zero, List.getElem?_cons_succ, List.getElem?_nil, Option.some.injEq,
      Int.toNat_zero, Int.reduceToNat, Int.reduceLT, Int.reduceLE, Int.reduceEq, Int.reduceAdd, Int.reduceSub, Int.reduceMul, Int.reduceNeg, decide_true, decide_false, Bool.not_true, Bool.not_false, beq_self_eq_true, List.mapM_cons, List.mapM_nil, wrap64, wrap8, Int.cast_ofNat_Int, Int.natCast_eq_zero, decide_eq_true_eq, Bool.or_false, Bool.or_true, Bool.or_self, Bool.false_or, Bool.true_or, Option.bind_eq_bind, Option.bind_some, Option.pure_def]
    | refine wfork_intro (fun h => ?_) (fun h => ?_)
    | (refine wCall_intro (own' ns hs) ?_ ?_ ?_; rfl; decide)
    | (refine wCall_intro (bound40 _ _) ?_ ?_ ?_; rfl; decide)
    | (refine wCall_intro (index41 ns) ?_ ?_ ?_; rfl; decide)
  · simp only [Bool.not_eq_true', decide_eq_false_iff_not] at h
    simp only [writeN, ne_eq, if_pos h] at hX
    subst hX
    simp -implicitDefEqProofs only [go_sem, ↓reduceIte, Nat.reduceEqDiff, Nat.reduceAdd, Nat.reduceMul, Nat.reduceSub, Nat.reduceLeDiff, Nat.reduceLT, Nat.reducePow, reduceCtorEq, List.length_cons, List.length_nil, List.map_cons, List.map_nil,
      List.reverse_cons, List.reverse_nil, List.nil_append, List.cons_append, Bool.false_eq_true, Nat.zero_le, List.replicate_zero, List.replicate_succ, List.flatten_nil, List.flatten_cons, true_and, and_true, and_self, List.append_nil, Nat.zero_add, Nat.add_zero,
      List.contains_nil, Nat.le_refl, List.take_zero, List.take_succ_cons, List.drop_zero, List.drop_succ_cons, List.take_length, List.take_nil, List.drop_nil, Option.map_some, Option.map_none, List.getElem?_cons_zero, List.getElem?_cons_succ, List.getElem?_nil, Option.some.injEq,
      Int.toNat_zero, Int.reduceToNat, Int.reduceLT, Int.reduceLE, Int.reduceEq, Int.reduceAdd, Int.reduceSub, Int.reduceMul, Int.reduceNeg, decide_true, decide_false, Bool.not_true, Bool.not_false, beq_self_eq_true, List.mapM_cons, List.mapM_nil, wrap64, wrap8, Int.cast_ofNat_Int, Int.natCast_eq_zero, decide_eq_true_eq, Bool.or_false, Bool.or_true, Bool.or_self, Bool.false_or, Bool.true_or, Option.bind_eq_bind, Option.bind_some, Option.pure_def]
  · refine wDeep_go (call32w ns r e m hs hm) ?_
    simp only [Bool.not_eq_false', decide_eq_true_eq] at h
    simp only [writeN, ne_eq, h, not_true_eq_false, if_false] at hX
    have hl := lostN_cases ns
    generalize callN (installN · e m) r ns = s at *
    generalize lostN ns = k at *
    obtain ⟨⟨a, b, c⟩, l⟩ := s
    dsimp only at hX ⊢
    rcases hl with rfl | rfl | rfl | rfl
    all_goals repeat' first
      | simp -implicitDefEqProofs only [go_sem, ↓reduceIte, Nat.reduceEqDiff, Nat.reduceAdd, Nat.reduceMul, Nat.reduceSub, Nat.reduceLeDiff, Nat.reduceLT, Nat.reducePow, reduceCtorEq, List.length_cons, List.length_nil, List.map_cons, List.map_nil,
      List.reverse_cons, List.reverse_nil, List.nil_append, List.cons_append, Bool.false_eq_true, Nat.zero_le, List.replicate_zero, List.replicate_succ, List.flatten_nil, List.flatten_cons, true_and, and_true, and_self, List.append_nil, Nat.zero_add, Nat.add_zero,
      List.contains_nil, Nat.le_refl, List.take_zero, List.take_succ_cons, List.drop_zero, List.drop_succ_cons, List.take_length, List.take_nil, List.drop_nil, Option.map_some, Option.map_none, List.getElem?_cons_zero, List.getElem?_cons_succ, List.getElem?_nil, Option.some.injEq,
      Int.toNat_zero, Int.reduceToNat, Int.reduceLT, Int.reduceLE, Int.reduceEq, Int.reduceAdd, Int.reduceSub, Int.reduceMul, Int.reduceNeg, decide_true, decide_false, Bool.not_true, Bool.not_false, beq_self_eq_true, List.mapM_cons, List.mapM_nil, wrap64, wrap8, Int.cast_ofNat_Int, Int.natCast_eq_zero, decide_eq_true_eq, Bool.or_false, Bool.or_true, Bool.or_self, Bool.false_or, Bool.true_or, Option.bind_eq_bind, Option.bind_some, Option.pure_def]
      | refine wfork_intro (fun h => ?_) (fun h => ?_)
      | (refine wCall_intro (made _ _ ?_) ?_ ?_ ?_; assumption; rfl; decide)
      | (refine wCall_intro (arrives44 _) ?_ ?_ ?_; rfl; decide)
      | refine Also.mk (by decide) ?_
    all_goals subst hX
    all_goals simp only [decide_eq_true_eq, decide_eq_false_iff_not, Bool.not_eq_true] at *
    all_goals simp only [go_sem, ↓reduceIte, N3.set, R3.get, Int.reduceEq, Int.reduceLE, Int.reduceNeg, Bool.false_eq_true, madeN, and_self, and_true, and_false, true_and, false_and, decide_true, decide_false, *]

theorem write (ns : N3) (r : R3) (e : Int) (m : List ByteArray) (hs : ns.small 1000000) (hm : m.length ≤ 1000000) :
    Gives Try.prog 17 [.agg [.int .i64 ns.a.p, .int .i64 ns.a.e, .sl 1 (strs ns.a.log), .bool ns.a.lost, .int .i64 ns.b.p, .int .i64 ns.b.e, .sl 1 (strs ns.b.log), .bool ns.b.lost, .int .i64 ns.c.p, .int .i64 ns.c.e, .sl 1 (strs ns.c.log), .bool ns.c.lost], .agg [.int .u8 r.a, .int .u8 r.b, .int .u8 r.c], .c (.int .i64 e), .c (.sl 1 (strs m))]
    (.tup [.agg [.d (.int .i64 ((writeN r ns e m).1.a).p), .d (.int .i64 ((writeN r ns e m).1.a).e), .d (.sl 1 (strs ((writeN r ns e m).1.a).log)), .d (.bool ((writeN r ns e m).1.a).lost), .d (.int .i64 ((writeN r ns e m).1.b).p), .d (.int .i64 ((writeN r ns e m).1.b).e), .d (.sl 1 (strs ((writeN r ns e m).1.b).log)), .d (.bool ((writeN r ns e m).1.b).lost), .d (.int .i64 ((writeN r ns e m).1.c).p), .d (.int .i64 ((writeN r ns e m).1.c).e), .d (.sl 1 (strs ((writeN r ns e m).1.c).log)), .d (.bool ((writeN r ns e m).1.c).lost)], .c (.d (.bool (writeN r ns e m).2.1)), .c (.d (.int .i64 (writeN r ns e m).2.2))]) [] :=
  write_ ns r e m hs hm _ rfl
end Go.Proofs.Ytehmaafnbgpkcaa

namespace Go.Proofs.Ytehmaafnbgpkcaa
open Go Go.Vs Go.Proofs

def isSameN (n m : Nd) : Bool := isSame n.p n.e n.log n.lost m.p m.e m.log m.lost
def isSameAll (a b : N3) : Bool := isSameN a.a b.a && isSameN a.b b.b && isSameN a.c b.c

theorem isFront_self (l : List ByteArray) : isFront l l = true := by rw [isFront_iff, List.take_of_length_le (by simp [keys_length])]
theorem isLines_self (l : List ByteArray) : isLines l l = true := by simp [isLines, isFront_self]
theorem isSameN_self (n : Nd) : isSameN n n = true := by simp [isSameN, isSame, isLines_self]
theorem isSameAll_self (a : N3) : isSameAll a a = true := by simp [isSameAll, isSameN_self]

theorem same' (n m : Nd) (h1 : n.log.length ≤ 1000000) (h2 : m.log.length ≤ 1000000) : Gives Try.prog 28 [.agg [.int .i64 n.p, .int .i64 n.e, .sl 1 (strs n.log), .bool n.lost], .agg [.int .i64 m.p, .int .i64 m.e, .sl 1 (strs m.log), .bool m.lost]] (.c (.d (.bool (isSameN n m)))) [] := same _ _ _ _ _ _ _ _ h1 h2

theorem sameAll (a b : N3) (ha : a.small 1000000) (hb : b.small 1000000) : Gives Try.prog 13 [.agg [.int .i64 a.a.p, .int .i64 a.a.e, .sl 1 (strs a.a.log), .bool a.a.lost, .int .i64 a.b.p, .int .i64 a.b.e, .sl 1 (strs a.b.log), .bool a.b.lost, .int .i64 a.c.p, .int .i64 a.c.e, .sl 1 (strs a.c.log), .bool a.c.lost], .agg [.int .i64 b.a.p, .int .i64 b.a.e, .sl 1 (strs b.a.log), .bool b.a.lost, .int .i64 b.b.p, .int .i64 b.b.e, .sl 1 (strs b.b.log), .bool b.b.lost, .int .i64 b.c.p, .int .i64 b.c.e, .sl 1 (strs b.c.log), .bool b.c.lost]] (.c (.d (.bool (isSameAll a b)))) [] := by
  obtain ⟨a1, a2, a3⟩ := ha
  obtain ⟨b1, b2, b3⟩ := hb
  refine Gives.of_w TryEnv Try.func13 (by decide) TryL13_ok Try.ntmps13 (rs := [.tmp 4]) rfl (by simp) [] (by decide) ?_
  rw [TryL13]
  repeat' first
    | simp -implicitDefEqProofs only [go_sem, ↓reduceIte, Nat.reduceEqDiff, Nat.reduceAdd, Nat.reduceMul, Nat.reduceSub, Nat.reduceLeDiff, Nat.reduceLT, Nat.reducePow, reduceCtorEq, List.length_cons, List.length_nil, List.map_cons, List.map_nil,
      List.reverse_cons, List.reverse_nil, List.nil_append, List.cons_append, Bool.false_eq_true, Nat.zero_le, List.replicate_zero, List.replicate_succ, List.flatten_nil, List.flatten_cons, true_and, and_true, and_self, List.append_nil, Nat.zero_add, Nat.add_zero,
      List.contains_nil, Nat.le_refl, List.take_zero, List.take_succ_cons, List.drop_zero, List.drop_succ_cons, List.take_length, List.take_nil, List.drop_nil, Option.map_some, Option.map_none, List.getElem?_cons_zero, List.getElem?_cons_succ, List.getElem?_nil, Option.some.injEq,
      Int.toNat_zero, Int.reduceToNat, Int.reduceLT, Int.reduceLE, Int.reduceEq, Int.reduceAdd, Int.reduceSub, Int.reduceMul, Int.reduceNeg, decide_true, decide_false, Bool.not_true, Bool.not_false, beq_self_eq_true, List.mapM_cons, List.mapM_nil, wrap64, wrap8, Int.cast_ofNat_Int, Int.natCast_eq_zero, decide_eq_true_eq, Bool.or_false, Bool.or_true, Bool.or_self, Bool.false_or, Bool.true_or, Option.bind_eq_bind, Option.bind_some, Option.pure_def]
    | refine wfork_intro (fun h => ?_) (fun h => ?_)
    | (refine wCall_intro (same' _ _ ?_ ?_) ?_ ?_ ?_; assumption; assumption; rfl; decide)
    | apply And.intro
  all_goals refine DLe.of_eq ?_
  all_goals simp [isSameAll, *]

def cutN (n : Nd) : Nd := ⟨n.p, n.e, n.log.take 402, n.lost⟩
def cutsN (a : N3) : N3 := ⟨cutN a.a, cutN a.b, cutN a.c⟩
theorem cutN_len (n : Nd) : (cutN n).log.length ≤ 402 := by simp [cutN]; omega
theorem cutsN_small (a : N3) : (cutsN a).small 1000000 := ⟨Nat.le_trans (cutN_len _) (by omega), Nat.le_trans (cutN_len _) (by omega), Nat.le_trans (cutN_len _) (by omega)⟩

theorem strs_eq_nil (l : List ByteArray) : (strs l = []) = (l = []) := by simp [strs]
theorem take_cut (l : List ByteArray) : List.take ((if 402 < (l.length : Int) then 402 else (l.length : Int)) - 0).toNat l = l.take 402 := by
  split
  · rfl
  · rw [List.take_of_length_le (by omega), List.take_of_length_le (by omega)]

theorem cut (n : Nd) : Gives Try.prog 16 [.agg [.int .i64 n.p, .int .i64 n.e, .sl 1 (strs n.log), .bool n.lost]] (.agg [.d (.int .i64 (cutN n).p), .d (.int .i64 (cutN n).e), .d (.sl 1 (strs (cutN n).log)), .d (.bool (cutN n).lost)]) [] := by
  refine Gives.of_w TryEnv Try.func16 (by decide) TryL16_ok Try.ntmps16 (rs := [.cell 2 24]) rfl (by simp) [] (by decide) ?_
  rw [TryL16]
  repeat' first
    | simp -implicitDefEqProofs only [go_sem, ↓reduceIte, Nat.reduceEqDiff, Nat.reduceAdd, Nat.reduceMul, Nat.reduceSub, Nat.reduceLeDiff, Nat.reduceLT, Nat.reducePow, reduceCtorEq, List.length_cons, List.length_nil, List.map_cons, List.map_nil,
      List.reverse_cons, List.reverse_nil, List.nil_append, List.cons_append, Bool.false_eq_true, Nat.zero_le, List.replicate_zero, List.replicate_succ, List.flatten_nil, List.flatten_cons, true_and, and_true, and_self, List.append_nil, Nat.zero_add, Nat.add_zero,
      List.contains_nil, Nat.le_refl, List.take_zero, List.take_succ_cons, List.drop_zero, List.drop_succ_cons, List.take_length, List.take_nil, List.drop_nil, Option.map_some, Option.map_none, List.getElem?_cons_zero, List.getElem?_cons_succ, List.getElem?_nil, Option.some.injEq,
      Int.toNat_zero, Int.reduceToNat, Int.reduceLT, Int.reduceLE, Int.reduceEq, Int.reduceAdd, Int.reduceSub, Int.reduceMul, Int.reduceNeg, decide_true, decide_false, Bool.not_true, Bool.not_false, beq_self_eq_true, List.mapM_cons, List.mapM_nil, wrap64, wrap8, Int.cast_ofNat_Int, Int.natCast_eq_zero, decide_eq_true_eq, Bool.or_false, Bool.or_true, Bool.or_self, Bool.false_or, Bool.true_or, Option.bind_eq_bind, Option.bind_some, Option.pure_def]
    | apply And.intro
  · split <;> omega
  · split <;> omega
  · have hl : (n.log.take 402).length ≤ 402 := by simp; omega
    have hc : (cutN n).log = n.log.take 402 := rfl
    simp only [take_cut, strs_eq_nil]
    by_cases h : n.log.take 402 = []
    · simp only [h, if_true]
      rw [h] at hc
      simp -implicitDefEqProofs only [go_sem, ↓reduceIte, Nat.reduceEqDiff, Nat.reduceAdd, Nat.reduceMul, Nat.reduceSub, Nat.reduceLeDiff, Nat.reduceLT, Nat.reducePow, reduceCtorEq, List.length_cons, List.length_nil, List.map_cons, List.map_nil,
      List.reverse_cons, List.reverse_nil, List.nil_append, List.cons_append, Bool.false_eq_true, Nat.zero_le, List.replicate_zero, List.replicate_succ, List.flatten_nil, List.flatten_cons, true_and, and_true, and_self, List.append_nil, Nat.zero_add, Nat.add_zero,
      List.contains_nil, Nat.le_refl, List.take_zero, List.take_succ_cons, List.drop_zero, List.drop_succ_cons, List.take_length, List.take_nil, List.drop_nil, Option.map_some, Option.map_none, List.getElem?_cons_zero, List.getElem?_cons_succ, List.getElem?_nil, Option.some.injEq,
      Int.toNat_zero, Int.reduceToNat, Int.reduceLT, Int.reduceLE, Int.reduceEq, Int.reduceAdd, Int.reduceSub, Int.reduceMul, Int.reduceNeg, decide_true, decide_false, Bool.not_true, Bool.not_false, beq_self_eq_true, List.mapM_cons, List.mapM_nil, wrap64, wrap8, Int.cast_ofNat_Int, Int.natCast_eq_zero, decide_eq_true_eq, Bool.or_false, Bool.or_true, Bool.or_self, Bool.false_or, Bool.true_or, Option.bind_eq_bind, Option.bind_some, Option.pure_def]
      simp only [hc, strs_nil, go_sem, and_true, and_self]
      simp [cutN, go_sem]
    · have hb : (n.log.take 402).length * 16 ≤ mostBytes := by simp only [mostBytes]; omega
      simp only [h, if_false]
      simp -implicitDefEqProofs only [go_sem, ↓reduceIte, Nat.reduceEqDiff, Nat.reduceAdd, Nat.reduceMul, Nat.reduceSub, Nat.reduceLeDiff, Nat.reduceLT, Nat.reducePow, reduceCtorEq, List.length_cons, List.length_nil, List.map_cons, List.map_nil,
      List.reverse_cons, List.reverse_nil, List.nil_append, List.cons_append, Bool.false_eq_true, Nat.zero_le, List.replicate_zero, List.replicate_succ, List.flatten_nil, List.flatten_cons, true_and, and_true, and_self, List.append_nil, Nat.zero_add, Nat.add_zero,
      List.contains_nil, Nat.le_refl, List.take_zero, List.take_succ_cons, List.drop_zero, List.drop_succ_cons, List.take_length, List.take_nil, List.drop_nil, Option.map_some, Option.map_none, List.getElem?_cons_zero, List.getElem?_cons_succ, List.getElem?_nil, Option.some.injEq,
      Int.toNat_zero, Int.reduceToNat, Int.reduceLT, Int.reduceLE, Int.reduceEq, Int.reduceAdd, Int.reduceSub, Int.reduceMul, Int.reduceNeg, decide_true, decide_false, Bool.not_true, Bool.not_false, beq_self_eq_true, List.mapM_cons, List.mapM_nil, wrap64, wrap8, Int.cast_ofNat_Int, Int.natCast_eq_zero, decide_eq_true_eq, Bool.or_false, Bool.or_true, Bool.or_self, Bool.false_or, Bool.true_or, Option.bind_eq_bind, Option.bind_some, Option.pure_def, hb]
      simp [cutN, go_sem]

theorem cuts (a : N3) : Gives Try.prog 10 [.agg [.int .i64 a.a.p, .int .i64 a.a.e, .sl 1 (strs a.a.log), .bool a.a.lost, .int .i64 a.b.p, .int .i64 a.b.e, .sl 1 (strs a.b.log), .bool a.b.lost, .int .i64 a.c.p, .int .i64 a.c.e, .sl 1 (strs a.c.log), .bool a.c.lost]] (.agg [.d (.int .i64 ((cutsN a).a).p), .d (.int .i64 ((cutsN a).a).e), .d (.sl 1 (strs ((cutsN a).a).log)), .d (.bool ((cutsN a).a).lost), .d (.int .i64 ((cutsN a).b).p), .d (.int .i64 ((cutsN a).b).e), .d (.sl 1 (strs ((cutsN a).b).log)), .d (.bool ((cutsN a).b).lost), .d (.int .i64 ((cutsN a).c).p), .d (.int .i64 ((cutsN a).c).e), .d (.sl 1 (strs ((cutsN a).c).log)), .d (.bool ((cutsN a).c).lost)]) [] := by
  refine Gives.of_w TryEnv Try.func10 (by decide) TryL10_ok Try.ntmps10 (rs := [.cell 2 25]) rfl (by simp) [] (by decide) ?_
  rw [TryL10]
  repeat' first
    | simp -implicitDefEqProofs only [go_sem, ↓reduceIte, Nat.reduceEqDiff, Nat.reduceAdd, Nat.reduceMul, Nat.reduceSub, Nat.reduceLeDiff, Nat.reduceLT, Nat.reducePow, reduceCtorEq, List.length_cons, List.length_nil, List.map_cons, List.map_nil,
      List.reverse_cons, List.reverse_nil, List.nil_append, List.cons_append, Bool.false_eq_true, Nat.zero_le, List.replicate_zero, List.replicate_succ, List.flatten_nil, List.flatten_cons, true_and, and_true, and_self, List.append_nil, Nat.zero_add, Nat.add_zero,
      List.contains_nil, Nat.le_refl, List.take_zero, List.take_succ_cons, List.drop_zero, List.drop_succ_cons, List.take_length, List.take_nil, List.drop_nil, Option.map_some, Option.map_none, List.getElem?_cons_zero, List.getElem?_cons_succ, List.getElem?_nil, Option.some.injEq,
      Int.toNat_zero, Int.reduceToNat, Int.reduceLT, Int.reduceLE, Int.reduceEq, Int.reduceAdd, Int.reduceSub, Int.reduceMul, Int.reduceNeg, decide_true, decide_false, Bool.not_true, Bool.not_false, beq_self_eq_true, List.mapM_cons, List.mapM_nil, wrap64, wrap8, Int.cast_ofNat_Int, Int.natCast_eq_zero, decide_eq_true_eq, Bool.or_false, Bool.or_true, Bool.or_self, Bool.false_or, Bool.true_or, Option.bind_eq_bind, Option.bind_some, Option.pure_def]
    | (refine wCall_intro (cut _) ?_ ?_ ?_; rfl; decide)
    | refine Also.mk (by decide) ?_
    | apply And.intro
  all_goals simp [cutsN, go_sem]

def zero3 : N3 := ⟨Nd.zero, Nd.zero, Nd.zero⟩
def sX : ByteArray := ⟨#[120]⟩
def sY : ByteArray := ⟨#[121]⟩
def live1 : N3 × List ByteArray × Int := (⟨⟨1, 1, [], false⟩, ⟨1, 1, [], false⟩, Nd.zero⟩, [], 0)
def live2 : N3 × Bool × Int := (⟨⟨1, 1, [], false⟩, ⟨1, 1, [sX, sY], false⟩, ⟨1, 1, [sX, sY], false⟩⟩, true, 0)
def live3 : N3 × List ByteArray × Int := (⟨⟨2, 2, [sX, sY], false⟩, ⟨2, 2, [sX, sY], false⟩, ⟨2, 2, [sX, sY], false⟩⟩, [sX, sY], 0)
theorem live1_eq : recoverN ⟨0, 0, 1⟩ zero3 1 = live1 := by rfl
theorem live2_eq : writeN ⟨1, 0, 0⟩ live1.1 1 [sX, sY] = live2 := by rfl
theorem live3_eq : recoverN ⟨0, 0, 0⟩ live2.1 2 = live3 := by rfl

theorem lives : Gives Try.prog 15 [] (.c (.d (.bool true))) [] := by
  have h1 := recover zero3 ⟨0, 0, 1⟩ 1 ⟨by decide, by decide, by decide⟩
  have h2 := write live1.1 ⟨1, 0, 0⟩ 1 [sX, sY] ⟨by decide, by decide, by decide⟩ (by decide)
  have h3 := recover live2.1 ⟨0, 0, 0⟩ 2 ⟨by decide, by decide, by decide⟩
  have h4 := lines [sX, sY] [sX, sY] (by decide) (by decide)
  rw [live1_eq] at h1
  rw [live2_eq] at h2
  rw [live3_eq] at h3
  rw [isLines_self] at h4
  simp only [live1, live2, live3, zero3, Nd.zero, strs_nil, strs_cons, sX, sY] at h1 h2 h3 h4
  refine Gives.of_w TryEnv Try.func15 (by decide) TryL15_ok Try.ntmps15 (rs := [.tmp 0]) rfl (by simp) [] (by decide) ?_
  rw [TryL15]
  repeat' first
    | simp -implicitDefEqProofs only [go_sem, ↓reduceIte, Nat.reduceEqDiff, Nat.reduceAdd, Nat.reduceMul, Nat.reduceSub, Nat.reduceLeDiff, Nat.reduceLT, Nat.reducePow, reduceCtorEq, List.length_cons, List.length_nil, List.map_cons, List.map_nil,
      List.reverse_cons, List.reverse_nil, List.nil_append, List.cons_append, Bool.false_eq_true, Nat.zero_le, List.replicate_zero, List.replicate_succ, List.flatten_nil, List.flatten_cons, true_and, and_true, and_self, List.append_nil, Nat.zero_add, Nat.add_zero,
      List.contains_nil, Nat.le_refl, List.take_zero, List.take_succ_cons, List.drop_zero, List.drop_succ_cons, List.take_length, List.take_nil, List.drop_nil, Option.map_some, Option.map_none, List.getElem?_cons_zero, List.getElem?_cons_succ, List.getElem?_nil, Option.some.injEq,
      Int.toNat_zero, Int.reduceToNat, Int.reduceLT, Int.reduceLE, Int.reduceEq, Int.reduceAdd, Int.reduceSub, Int.reduceMul, Int.reduceNeg, decide_true, decide_false, Bool.not_true, Bool.not_false, beq_self_eq_true, List.mapM_cons, List.mapM_nil, wrap64, wrap8, Int.cast_ofNat_Int, Int.natCast_eq_zero, decide_eq_true_eq, Bool.or_false, Bool.or_true, Bool.or_self, Bool.false_or, Bool.true_or, Option.bind_eq_bind, Option.bind_some, Option.pure_def]
    | refine wLend_frz ?_
    | (refine wCall_le h1 ?_ ?_ ?_ ?_; simp -implicitDefEqProofs only [go_sem, ↓reduceIte, Nat.reduceEqDiff, Nat.reduceAdd, Nat.reduceMul, Nat.reduceSub, Nat.reduceLeDiff, Nat.reduceLT, Nat.reducePow, reduceCtorEq, List.length_cons, List.length_nil, List.map_cons, List.map_nil,
      List.reverse_cons, List.reverse_nil, List.nil_append, List.cons_append, Bool.false_eq_true, Nat.zero_le, List.replicate_zero, List.replicate_succ, List.flatten_nil, List.flatten_cons, true_and, and_true, and_self, List.append_nil, Nat.zero_add, Nat.add_zero,
      List.contains_nil, Nat.le_refl, List.take_zero, List.take_succ_cons, List.drop_zero, List.drop_succ_cons, List.take_length, List.take_nil, List.drop_nil, Option.map_some, Option.map_none, List.getElem?_cons_zero, List.getElem?_cons_succ, List.getElem?_nil, Option.some.injEq,
      Int.toNat_zero, Int.reduceToNat, Int.reduceLT, Int.reduceLE, Int.reduceEq, Int.reduceAdd, Int.reduceSub, Int.reduceMul, Int.reduceNeg, decide_true, decide_false, Bool.not_true, Bool.not_false, beq_self_eq_true, List.mapM_cons, List.mapM_nil, wrap64, wrap8, Int.cast_ofNat_Int, Int.natCast_eq_zero, decide_eq_true_eq, Bool.or_false, Bool.or_true, Bool.or_self, Bool.false_or, Bool.true_or, Option.bind_eq_bind, Option.bind_some, Option.pure_def]; rfl; decide)
    | (refine wCall_le h2 ?_ ?_ ?_ ?_; simp -implicitDefEqProofs only [go_sem, ↓reduceIte, Nat.reduceEqDiff, Nat.reduceAdd, Nat.reduceMul, Nat.reduceSub, Nat.reduceLeDiff, Nat.reduceLT, Nat.reducePow, reduceCtorEq, List.length_cons, List.length_nil, List.map_cons, List.map_nil,
      List.reverse_cons, List.reverse_nil, List.nil_append, List.cons_append, Bool.false_eq_true, Nat.zero_le, List.replicate_zero, List.replicate_succ, List.flatten_nil, List.flatten_cons, true_and, and_true, and_self, List.append_nil, Nat.zero_add, Nat.add_zero,
      List.contains_nil, Nat.le_refl, List.take_zero, List.take_succ_cons, List.drop_zero, List.drop_succ_cons, List.take_length, List.take_nil, List.drop_nil, Option.map_some, Option.map_none, List.getElem?_cons_zero, List.getElem?_cons_succ, List.getElem?_nil, Option.some.injEq,
      Int.toNat_zero, Int.reduceToNat, Int.reduceLT, Int.reduceLE, Int.reduceEq, Int.reduceAdd, Int.reduceSub, Int.reduceMul, Int.reduceNeg, decide_true, decide_false, Bool.not_true, Bool.not_false, beq_self_eq_true, List.mapM_cons, List.mapM_nil, wrap64, wrap8, Int.cast_ofNat_Int, Int.natCast_eq_zero, decide_eq_true_eq, Bool.or_false, Bool.or_true, Bool.or_self, Bool.false_or, Bool.true_or, Option.bind_eq_bind, Option.bind_some, Option.pure_def]; rfl; decide)
    | (refine wCall_le h3 ?_ ?_ ?_ ?_; simp -implicitDefEqProofs only [go_sem, ↓reduceIte, Nat.reduceEqDiff, Nat.reduceAdd, Nat.reduceMul, Nat.reduceSub, Nat.reduceLeDiff, Nat.reduceLT, Nat.reducePow, reduceCtorEq, List.length_cons, List.length_nil, List.map_cons, List.map_nil,
      List.reverse_cons, List.reverse_nil, List.nil_append, List.cons_append, Bool.false_eq_true, Nat.zero_le, List.replicate_zero, List.replicate_succ, List.flatten_nil, List.flatten_cons, true_and, and_true, and_self, List.append_nil, Nat.zero_add, Nat.add_zero,
      List.contains_nil, Nat.le_refl, List.take_zero, List.take_succ_cons, List.drop_zero, List.drop_succ_cons, List.take_length, List.take_nil, List.drop_nil, Option.map_some, Option.map_none, List.getElem?_cons_zero, List.getElem?_cons_succ, List.getElem?_nil, Option.some.injEq,
      Int.toNat_zero, Int.reduceToNat, Int.reduceLT, Int.reduceLE, Int.reduceEq, Int.reduceAdd, Int.reduceSub, Int.reduceMul, Int.reduceNeg, decide_true, decide_false, Bool.not_true, Bool.not_false, beq_self_eq_true, List.mapM_cons, List.mapM_nil, wrap64, wrap8, Int.cast_ofNat_Int, Int.natCast_eq_zero, decide_eq_true_eq, Bool.or_false, Bool.or_true, Bool.or_self, Bool.false_or, Bool.true_or, Option.bind_eq_bind, Option.bind_some, Option.pure_def]; rfl; decide)
    | (refine wCall_le h4 ?_ ?_ ?_ ?_; simp -implicitDefEqProofs only [go_sem, ↓reduceIte, Nat.reduceEqDiff, Nat.reduceAdd, Nat.reduceMul, Nat.reduceSub, Nat.reduceLeDiff, Nat.reduceLT, Nat.reducePow, reduceCtorEq, List.length_cons, List.length_nil, List.map_cons, List.map_nil,
      List.reverse_cons, List.reverse_nil, List.nil_append, List.cons_append, Bool.false_eq_true, Nat.zero_le, List.replicate_zero, List.replicate_succ, List.flatten_nil, List.flatten_cons, true_and, and_true, and_self, List.append_nil, Nat.zero_add, Nat.add_zero,
      List.contains_nil, Nat.le_refl, List.take_zero, List.take_succ_cons, List.drop_zero, List.drop_succ_cons, List.take_length, List.take_nil, List.drop_nil, Option.map_some, Option.map_none, List.getElem?_cons_zero, List.getElem?_cons_succ, List.getElem?_nil, Option.some.injEq,
      Int.toNat_zero, Int.reduceToNat, Int.reduceLT, Int.reduceLE, Int.reduceEq, Int.reduceAdd, Int.reduceSub, Int.reduceMul, Int.reduceNeg, decide_true, decide_false, Bool.not_true, Bool.not_false, beq_self_eq_true, List.mapM_cons, List.mapM_nil, wrap64, wrap8, Int.cast_ofNat_Int, Int.natCast_eq_zero, decide_eq_true_eq, Bool.or_false, Bool.or_true, Bool.or_self, Bool.false_or, Bool.true_or, Option.bind_eq_bind, Option.bind_some, Option.pure_def]; rfl; decide)
    | refine Also.mk (by decide) ?_
    | apply And.intro

end Go.Proofs.Ytehmaafnbgpkcaa
