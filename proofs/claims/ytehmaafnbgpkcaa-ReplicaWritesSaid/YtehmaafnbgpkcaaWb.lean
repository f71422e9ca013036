/- This text proves a part of what the claim needs: contracts of functions of the program. No condition. -/
import Derived.Test.YtehmaafnbgpkcaaWa
set_option linter.unusedSimpArgs false
set_option linter.unusedVariables false

namespace Go.Proofs.Ytehmaafnbgpkcaa
open Go Go.Vs Go.Proofs

/-- Three nodes. -/
structure N3 where
  a : Nd
  b : Nd
  c : Nd

/-- How far calls reach. -/
structure R3 where
  a : Int
  b : Int
  c : Int

def N3.small (m : Nat) (n : N3) : Prop := n.a.log.length ≤ m ∧ n.b.log.length ≤ m ∧ n.c.log.length ≤ m

theorem install' (n : Nd) (e : Int) (m : List ByteArray) (h : m.length ≤ 1000000) :
    Gives Try.prog 24 [.agg [.int .i64 n.p, .int .i64 n.e, .sl 1 (strs n.log), .bool n.lost], .c (.int .i64 e), .c (.sl 1 (strs m))] (.tup [.agg [.d (.int .i64 ((installN n e m).1).p), .d (.int .i64 ((installN n e m).1).e), .d (.sl 1 (strs ((installN n e m).1).log)), .d (.bool ((installN n e m).1).lost)], .c (.d (.int .i64 (installN n e m).2))]) [] := install _ _ _ _ _ _ h

theorem promise' (n : Nd) (e : Int) (h : n.log.length ≤ 1000000) :
    Gives Try.prog 22 [.agg [.int .i64 n.p, .int .i64 n.e, .sl 1 (strs n.log), .bool n.lost], .c (.int .i64 e)] (.tup [.agg [.d (.int .i64 ((promiseN n e).1).p), .d (.int .i64 ((promiseN n e).1).e), .d (.sl 1 (strs ((promiseN n e).1).log)), .d (.bool ((promiseN n e).1).lost)], .c (.d (.int .i64 (promiseN n e).2))]) [] := promise _ _ _ _ _ h

def stepN (ask : Nd → Nd × Int) (reach : Int) (i : Int) (n : Nd) (l : List Int) : Nd × List Int :=
  if arrivesN reach = false then (n, l) else if (ask n).2 ≠ 0 then (n, l) else ((ask n).1, if reach = 0 then l ++ [i] else l)

def callK (ask : Nd → Nd × Int) (r : R3) (ns : N3) (k : Int) : N3 × List Int :=
  if k = 0 then (ns, []) else if k = 1 then (⟨(stepN ask r.a 0 ns.a []).1, ns.b, ns.c⟩, (stepN ask r.a 0 ns.a []).2)
  else if k = 2 then (⟨(stepN ask r.a 0 ns.a []).1, (stepN ask r.b 1 ns.b (stepN ask r.a 0 ns.a []).2).1, ns.c⟩, (stepN ask r.b 1 ns.b (stepN ask r.a 0 ns.a []).2).2)
  else (⟨(stepN ask r.a 0 ns.a []).1, (stepN ask r.b 1 ns.b (stepN ask r.a 0 ns.a []).2).1, (stepN ask r.c 2 ns.c (stepN ask r.b 1 ns.b (stepN ask r.a 0 ns.a []).2).2).1⟩,
    (stepN ask r.c 2 ns.c (stepN ask r.b 1 ns.b (stepN ask r.a 0 ns.a []).2).2).2)

theorem stepN_len (ask : Nd → Nd × Int) (reach : Int) (i : Int) (n : Nd) (l : List Int) : (stepN ask reach i n l).2.length ≤ l.length + 1 := by
  unfold stepN
  repeat' split
  all_goals simp

theorem arrivesN_0 : arrivesN 0 = true := rfl
theorem stepN_no {ask : Nd → Nd × Int} {r i : Int} {n : Nd} {l : List Int} (h : arrivesN r = false) : stepN ask r i n l = (n, l) := by simp [stepN, h]
theorem stepN_err {ask : Nd → Nd × Int} {r i : Int} {n : Nd} {l : List Int} (h : arrivesN r = true) (h2 : ¬ (ask n).2 = 0) : stepN ask r i n l = (n, l) := by simp [stepN, h, h2]
theorem stepN_ok {ask : Nd → Nd × Int} {r i : Int} {n : Nd} {l : List Int} (h : arrivesN r = true) (h2 : (ask n).2 = 0) (h3 : r = 0) : stepN ask r i n l = ((ask n).1, l ++ [i]) := by simp [stepN, h2, h3, arrivesN]
theorem stepN_there {ask : Nd → Nd × Int} {r i : Int} {n : Nd} {l : List Int} (h : arrivesN r = true) (h2 : (ask n).2 = 0) (h3 : ¬ r = 0) : stepN ask r i n l = ((ask n).1, l) := by simp [stepN, h, h2, h3]
theorem callK_0 (ask : Nd → Nd × Int) (r : R3) (ns : N3) : callK ask r ns 0 = (ns, []) := rfl
theorem callK_1 (ask : Nd → Nd × Int) (r : R3) (ns : N3) : callK ask r ns 1 = (⟨(stepN ask r.a 0 ns.a []).1, ns.b, ns.c⟩, (stepN ask r.a 0 ns.a []).2) := rfl
theorem callK_2 (ask : Nd → Nd × Int) (r : R3) (ns : N3) : callK ask r ns 2 = (⟨(stepN ask r.a 0 ns.a []).1, (stepN ask r.b 1 ns.b (stepN ask r.a 0 ns.a []).2).1, ns.c⟩, (stepN ask r.b 1 ns.b (stepN ask r.a 0 ns.a []).2).2) := rfl
theorem callK_3 (ask : Nd → Nd × Int) (r : R3) (ns : N3) : callK ask r ns 3 = (⟨(stepN ask r.a 0 ns.a []).1, (stepN ask r.b 1 ns.b (stepN ask r.a 0 ns.a []).2).1, (stepN ask r.c 2 ns.c (stepN ask r.b 1 ns.b (stepN ask r.a 0 ns.a []).2).2).1⟩,
    (stepN ask r.c 2 ns.c (stepN ask r.b 1 ns.b (stepN ask r.a 0 ns.a []).2).2).2) := rfl

def callN (ask : Nd → Nd × Int) (r : R3) (ns : N3) : N3 × List Int := callK ask r ns 3

theorem ask33 (n : Nd) (e : Int) (h : n.log.length ≤ 1000000) (B0 B4 BZ BR BL : Blk) : Deep Try.prog 33 [.agg [.d (.int .i64 n.p), .d (.int .i64 n.e), .d (.sl 1 (strs n.log)), .d (.bool n.lost)], .c (.ptr 8 0)]
    [(0, B0), (4, B4), (8, .box [.d (.int .i64 e)]), (12, BZ), (52, BR), (68, BL)] 125
    (fun v h k => v = .tup [.agg [.d (.int .i64 (((promiseN · e) n).1).p), .d (.int .i64 (((promiseN · e) n).1).e), .d (.sl 1 (strs (((promiseN · e) n).1).log)), .d (.bool (((promiseN · e) n).1).lost)], .c (.d (.int .i64 ((promiseN · e) n).2))] ∧ h = [(0, B0), (4, B4), (8, .box [.d (.int .i64 e)]), (12, BZ), (52, BR), (68, BL)] ∧ k = 165) := by
  refine Deep.of_w TryEnv Try.func33 (by decide) TryL33_ok Try.ntmps33 (rs := [.cell 3 24, .tmp 4]) rfl (by simp) ?_
  rw [TryL33]
  repeat' first
    | simp -implicitDefEqProofs only [go_sem, ↓reduceIte, Nat.reduceEqDiff, Nat.reduceAdd, Nat.reduceMul, Nat.reduceSub, Nat.reduceLeDiff, Nat.reduceLT, Nat.reducePow, reduceCtorEq, List.length_cons, List.length_nil, List.map_cons, List.map_nil,
      List.reverse_cons, List.reverse_nil, List.nil_append, List.cons_append, Bool.false_eq_true, Nat.zero_le, List.replicate_zero, List.replicate_succ, List.flatten_nil, List.flatten_cons, true_and, and_true, and_self, List.append_nil, Nat.zero_add, Nat.add_zero,
      List.contains_nil, Nat.le_refl, List.take_zero, List.take_succ_cons, List.drop_zero, List.drop_succ_cons, List.take_length, List.take_nil, List.drop_nil, Option.map_some, Option.map_none, List.getElem?_cons_zero, List.getElem?_cons_succ, List.getElem?_nil, Option.some.injEq,
      Int.toNat_zero, Int.reduceToNat, Int.reduceLT, Int.reduceLE, Int.reduceEq, Int.reduceAdd, Int.reduceSub, Int.reduceMul, Int.reduceNeg, decide_true, decide_false, Bool.not_true, Bool.not_false, beq_self_eq_true, List.mapM_cons, List.mapM_nil, wrap64, wrap8, Int.cast_ofNat_Int, Int.natCast_eq_zero, decide_eq_true_eq, Bool.or_false, Bool.or_true, Bool.or_self, Bool.false_or, Bool.true_or]
    | (refine wCall_intro (promise' n e h) ?_ ?_ ?_; rfl; decide)
    | apply And.intro
  refine wEnd_intro (.refl _) (Wk.drop ?_ ?_) ⟨rfl, rfl, rfl⟩
  all_goals simp -implicitDefEqProofs only [go_sem, ↓reduceIte, Nat.reduceEqDiff, Nat.reduceAdd, Nat.reduceMul, Nat.reduceSub, Nat.reduceLeDiff, Nat.reduceLT, Nat.reducePow, reduceCtorEq, List.length_cons, List.length_nil, List.map_cons, List.map_nil,
      List.reverse_cons, List.reverse_nil, List.nil_append, List.cons_append, Bool.false_eq_true, Nat.zero_le, List.replicate_zero, List.replicate_succ, List.flatten_nil, List.flatten_cons, true_and, and_true, and_self, List.append_nil, Nat.zero_add, Nat.add_zero,
      List.contains_nil, Nat.le_refl, List.take_zero, List.take_succ_cons, List.drop_zero, List.drop_succ_cons, List.take_length, List.take_nil, List.drop_nil, Option.map_some, Option.map_none, List.getElem?_cons_zero, List.getElem?_cons_succ, List.getElem?_nil, Option.some.injEq,
      Int.toNat_zero, Int.reduceToNat, Int.reduceLT, Int.reduceLE, Int.reduceEq, Int.reduceAdd, Int.reduceSub, Int.reduceMul, Int.reduceNeg, decide_true, decide_false, Bool.not_true, Bool.not_false, beq_self_eq_true, List.mapM_cons, List.mapM_nil, wrap64, wrap8, Int.cast_ofNat_Int, Int.natCast_eq_zero, decide_eq_true_eq, Bool.or_false, Bool.or_true, Bool.or_self, Bool.false_or, Bool.true_or]

theorem call32 (ns : N3) (r : R3) (e : Int) (hs : ns.small 1000000)  : Deep Try.prog 32 [.c (.ptr 0 0), .agg [.d (.int .u8 r.a), .d (.int .u8 r.b), .d (.int .u8 r.c)], .c (.fn 33 [.ptr 8 0])]
    [(0, .box [.d (.int .i64 ns.a.p), .d (.int .i64 ns.a.e), .d (.sl 1 (strs ns.a.log)), .d (.bool ns.a.lost), .d (.int .i64 ns.b.p), .d (.int .i64 ns.b.e), .d (.sl 1 (strs ns.b.log)), .d (.bool ns.b.lost), .d (.int .i64 ns.c.p), .d (.int .i64 ns.c.e), .d (.sl 1 (strs ns.c.log)), .d (.bool ns.c.lost)]), (4, .box [.d (.int .u8 r.a), .d (.int .u8 r.b), .d (.int .u8 r.c)]), (8, .box [.d (.int .i64 e)]), (12, .box [.d (.int .i64 0), .d (.int .i64 0), .d .nilSl, .d (.bool false), .d (.int .i64 0), .d (.int .i64 0), .d .nilSl, .d (.bool false), .d (.int .i64 0), .d (.int .i64 0), .d .nilSl, .d (.bool false)])] 52
    (fun v h n => v = .c (.d (.sl 1 (nums (callN ((promiseN · e)) r ns).2))) ∧ h = [(0, .box [.d (.int .i64 ((callN ((promiseN · e)) r ns).1.a).p), .d (.int .i64 ((callN ((promiseN · e)) r ns).1.a).e), .d (.sl 1 (strs ((callN ((promiseN · e)) r ns).1.a).log)), .d (.bool ((callN ((promiseN · e)) r ns).1.a).lost), .d (.int .i64 ((callN ((promiseN · e)) r ns).1.b).p), .d (.int .i64 ((callN ((promiseN · e)) r ns).1.b).e), .d (.sl 1 (strs ((callN ((promiseN · e)) r ns).1.b).log)), .d (.bool ((callN ((promiseN · e)) r ns).1.b).lost), .d (.int .i64 ((callN ((promiseN · e)) r ns).1.c).p), .d (.int .i64 ((callN ((promiseN · e)) r ns).1.c).e), .d (.sl 1 (strs ((callN ((promiseN · e)) r ns).1.c).log)), .d (.bool ((callN ((promiseN · e)) r ns).1.c).lost)]), (4, .box [.d (.int .u8 r.a), .d (.int .u8 r.b), .d (.int .u8 r.c)]), (8, .box [.d (.int .i64 e)]), (12, .box [.d (.int .i64 0), .d (.int .i64 0), .d .nilSl, .d (.bool false), .d (.int .i64 0), .d (.int .i64 0), .d .nilSl, .d (.bool false), .d (.int .i64 0), .d (.int .i64 0), .d .nilSl, .d (.bool false)])] ∧ n = 52) := by
  refine Deep.of_w TryEnv Try.func32 (by decide) TryL32_ok Try.ntmps32 (rs := [.tmp 6]) rfl (by simp) ?_
  rw [TryL32]
  simp -implicitDefEqProofs only [go_sem, ↓reduceIte, Nat.reduceEqDiff, Nat.reduceAdd, Nat.reduceMul, Nat.reduceSub, Nat.reduceLeDiff, Nat.reduceLT, Nat.reducePow, reduceCtorEq, List.length_cons, List.length_nil, List.map_cons, List.map_nil,
      List.reverse_cons, List.reverse_nil, List.nil_append, List.cons_append, Bool.false_eq_true, Nat.zero_le, List.replicate_zero, List.replicate_succ, List.flatten_nil, List.flatten_cons, true_and, and_true, and_self, List.append_nil, Nat.zero_add, Nat.add_zero,
      List.contains_nil, Nat.le_refl, List.take_zero, List.take_succ_cons, List.drop_zero, List.drop_succ_cons, List.take_length, List.take_nil, List.drop_nil, Option.map_some, Option.map_none, List.getElem?_cons_zero, List.getElem?_cons_succ, List.getElem?_nil, Option.some.injEq,
      Int.toNat_zero, Int.reduceToNat, Int.reduceLT, Int.reduceLE, Int.reduceEq, Int.reduceAdd, Int.reduceSub, Int.reduceMul, Int.reduceNeg, decide_true, decide_false, Bool.not_true, Bool.not_false, beq_self_eq_true, List.mapM_cons, List.mapM_nil, wrap64, wrap8, Int.cast_ofNat_Int, Int.natCast_eq_zero, decide_eq_true_eq, Bool.or_false, Bool.or_true, Bool.or_self, Bool.false_or, Bool.true_or]
  refine wT_wk (Wk.nil (t := 7) 1 (by simp -implicitDefEqProofs only [go_sem, ↓reduceIte, Nat.reduceEqDiff, Nat.reduceAdd, Nat.reduceMul, Nat.reduceSub, Nat.reduceLeDiff, Nat.reduceLT, Nat.reducePow, reduceCtorEq, List.length_cons, List.length_nil, List.map_cons, List.map_nil,
      List.reverse_cons, List.reverse_nil, List.nil_append, List.cons_append, Bool.false_eq_true, Nat.zero_le, List.replicate_zero, List.replicate_succ, List.flatten_nil, List.flatten_cons, true_and, and_true, and_self, List.append_nil, Nat.zero_add, Nat.add_zero,
      List.contains_nil, Nat.le_refl, List.take_zero, List.take_succ_cons, List.drop_zero, List.drop_succ_cons, List.take_length, List.take_nil, List.drop_nil, Option.map_some, Option.map_none, List.getElem?_cons_zero, List.getElem?_cons_succ, List.getElem?_nil, Option.some.injEq,
      Int.toNat_zero, Int.reduceToNat, Int.reduceLT, Int.reduceLE, Int.reduceEq, Int.reduceAdd, Int.reduceSub, Int.reduceMul, Int.reduceNeg, decide_true, decide_false, Bool.not_true, Bool.not_false, beq_self_eq_true, List.mapM_cons, List.mapM_nil, wrap64, wrap8, Int.cast_ofNat_Int, Int.natCast_eq_zero, decide_eq_true_eq, Bool.or_false, Bool.or_true, Bool.or_self, Bool.false_or, Bool.true_or])) ?_
  simp -implicitDefEqProofs only [go_sem, ↓reduceIte, Nat.reduceEqDiff, Nat.reduceAdd, Nat.reduceMul, Nat.reduceSub, Nat.reduceLeDiff, Nat.reduceLT, Nat.reducePow, reduceCtorEq, List.length_cons, List.length_nil, List.map_cons, List.map_nil,
      List.reverse_cons, List.reverse_nil, List.nil_append, List.cons_append, Bool.false_eq_true, Nat.zero_le, List.replicate_zero, List.replicate_succ, List.flatten_nil, List.flatten_cons, true_and, and_true, and_self, List.append_nil, Nat.zero_add, Nat.add_zero,
      List.contains_nil, Nat.le_refl, List.take_zero, List.take_succ_cons, List.drop_zero, List.drop_succ_cons, List.take_length, List.take_nil, List.drop_nil, Option.map_some, Option.map_none, List.getElem?_cons_zero, List.getElem?_cons_succ, List.getElem?_nil, Option.some.injEq,
      Int.toNat_zero, Int.reduceToNat, Int.reduceLT, Int.reduceLE, Int.reduceEq, Int.reduceAdd, Int.reduceSub, Int.reduceMul, Int.reduceNeg, decide_true, decide_false, Bool.not_true, Bool.not_false, beq_self_eq_true, List.mapM_cons, List.mapM_nil, wrap64, wrap8, Int.cast_ofNat_Int, Int.natCast_eq_zero, decide_eq_true_eq, Bool.or_false, Bool.or_true, Bool.or_self, Bool.false_or, Bool.true_or]
  refine wT_loop (fun k : To3 => ⟨[(0, .c (.ptr 0 0)), (2, .c (.fn 33 [.ptr 8 0])), (4, .c (.ptr 52 0)), (7, .c (.ref 68 (callK ((promiseN · e)) r ns k).2.length 0 (callK ((promiseN · e)) r ns k).2.length)), (11, .c (.d (.int .i64 k.1)))], [
    (0, .box [.d (.int .i64 ((callK ((promiseN · e)) r ns k).1.a).p), .d (.int .i64 ((callK ((promiseN · e)) r ns k).1.a).e), .d (.sl 1 (strs ((callK ((promiseN · e)) r ns k).1.a).log)), .d (.bool ((callK ((promiseN · e)) r ns k).1.a).lost), .d (.int .i64 ((callK ((promiseN · e)) r ns k).1.b).p), .d (.int .i64 ((callK ((promiseN · e)) r ns k).1.b).e), .d (.sl 1 (strs ((callK ((promiseN · e)) r ns k).1.b).log)), .d (.bool ((callK ((promiseN · e)) r ns k).1.b).lost), .d (.int .i64 ((callK ((promiseN · e)) r ns k).1.c).p), .d (.int .i64 ((callK ((promiseN · e)) r ns k).1.c).e), .d (.sl 1 (strs ((callK ((promiseN · e)) r ns k).1.c).log)), .d (.bool ((callK ((promiseN · e)) r ns k).1.c).lost)]), (4, .box [.d (.int .u8 r.a), .d (.int .u8 r.b), .d (.int .u8 r.c)]), (8, .box [.d (.int .i64 e)]), (12, .box [.d (.int .i64 0), .d (.int .i64 0), .d .nilSl, .d (.bool false), .d (.int .i64 0), .d (.int .i64 0), .d .nilSl, .d (.bool false), .d (.int .i64 0), .d (.int .i64 0), .d .nilSl, .d (.bool false)]),
    (52, Blk.box [.d (.int .u8 r.a), .d (.int .u8 r.b), .d (.int .u8 r.c)]), (68, .sl 1 (nums (callK ((promiseN · e)) r ns k).2) false)], 69⟩) (fun k => (3 - k.1).toNat) ⟨0, by omega⟩ ?_ ?_
  · refine Wk.sub ?_ ?_ ?_ ?_ ?_ ?_
    all_goals simp -implicitDefEqProofs only [go_sem, ↓reduceIte, Nat.reduceEqDiff, Nat.reduceAdd, Nat.reduceMul, Nat.reduceSub, Nat.reduceLeDiff, Nat.reduceLT, Nat.reducePow, reduceCtorEq, List.length_cons, List.length_nil, List.map_cons, List.map_nil,
      List.reverse_cons, List.reverse_nil, List.nil_append, List.cons_append, Bool.false_eq_true, Nat.zero_le, List.replicate_zero, List.replicate_succ, List.flatten_nil, List.flatten_cons, true_and, and_true, and_self, List.append_nil, Nat.zero_add, Nat.add_zero,
      List.contains_nil, Nat.le_refl, List.take_zero, List.take_succ_cons, List.drop_zero, List.drop_succ_cons, List.take_length, List.take_nil, List.drop_nil, Option.map_some, Option.map_none, List.getElem?_cons_zero, List.getElem?_cons_succ, List.getElem?_nil, Option.some.injEq,
      Int.toNat_zero, Int.reduceToNat, Int.reduceLT, Int.reduceLE, Int.reduceEq, Int.reduceAdd, Int.reduceSub, Int.reduceMul, Int.reduceNeg, decide_true, decide_false, Bool.not_true, Bool.not_false, beq_self_eq_true, List.mapM_cons, List.mapM_nil, wrap64, wrap8, Int.cast_ofNat_Int, Int.natCast_eq_zero, decide_eq_true_eq, Bool.or_false, Bool.or_true, Bool.or_self, Bool.false_or, Bool.true_or, callK_0, nums_nil]
  · obtain ⟨hs1, hs2, hs3⟩ := hs
    refine To3.all ?_ ?_ ?_ ?_
    all_goals refine wT_of TryEnv ?_
    all_goals simp only [callK_0, callK_1, callK_2, callK_3]
    · have l1 := stepN_len ((promiseN · e)) r.a 0 ns.a []
      have l2 := stepN_len ((promiseN · e)) r.b 1 ns.b (stepN ((promiseN · e)) r.a 0 ns.a []).2
      simp only [List.length_nil] at l1 l2
      repeat' first
        | simp -implicitDefEqProofs only [go_sem, ↓reduceIte, Nat.reduceEqDiff, Nat.reduceAdd, Nat.reduceMul, Nat.reduceSub, Nat.reduceLeDiff, Nat.reduceLT, Nat.reducePow, reduceCtorEq, List.length_cons, List.length_nil, List.map_cons, List.map_nil,
      List.reverse_cons, List.reverse_nil, List.nil_append, List.cons_append, Bool.false_eq_true, Nat.zero_le, List.replicate_zero, List.replicate_succ, List.flatten_nil, List.flatten_cons, true_and, and_true, and_self, List.append_nil, Nat.zero_add, Nat.add_zero,
      List.contains_nil, Nat.le_refl, List.take_zero, List.take_succ_cons, List.drop_zero, List.drop_succ_cons, List.take_length, List.take_nil, List.drop_nil, Option.map_some, Option.map_none, List.getElem?_cons_zero, List.getElem?_cons_succ, List.getElem?_nil, Option.some.injEq,
      Int.toNat_zero, Int.reduceToNat, Int.reduceLT, Int.reduceLE, Int.reduceEq, Int.reduceAdd, Int.reduceSub, Int.reduceMul, Int.reduceNeg, decide_true, decide_false, Bool.not_true, Bool.not_false, beq_self_eq_true, List.mapM_cons, List.mapM_nil, wrap64, wrap8, Int.cast_ofNat_Int, Int.natCast_eq_zero, decide_eq_true_eq, Bool.or_false, Bool.or_true, Bool.or_self, Bool.false_or, Bool.true_or]
        | (refine wCall_intro (arrives44 _) ?_ ?_ ?_; rfl; decide)
        | refine wfork_intro (fun h => ?_) (fun h => ?_)
        | (refine wDeep_go (ask33 _ _ ?_ _ _ _ _ _) ?_; assumption)
        | apply And.intro
      all_goals first
        | (simp only [mostBytes]; omega)
        | skip
      all_goals clear l1 l2
      all_goals simp only [Bool.not_eq_true', Bool.not_eq_false', Bool.not_eq_true, decide_eq_true_eq, decide_eq_false_iff_not] at *
      all_goals refine ⟨⟨1, by omega⟩, Wk.sub ?_ ?_ (by decide) (by decide) ?_ ?_, by simp⟩
      all_goals simp -implicitDefEqProofs only [go_sem, ↓reduceIte, Nat.reduceEqDiff, Nat.reduceAdd, Nat.reduceMul, Nat.reduceSub, Nat.reduceLeDiff, Nat.reduceLT, Nat.reducePow, reduceCtorEq, List.length_cons, List.length_nil, List.map_cons, List.map_nil,
      List.reverse_cons, List.reverse_nil, List.nil_append, List.cons_append, Bool.false_eq_true, Nat.zero_le, List.replicate_zero, List.replicate_succ, List.flatten_nil, List.flatten_cons, true_and, and_true, and_self, List.append_nil, Nat.zero_add, Nat.add_zero,
      List.contains_nil, Nat.le_refl, List.take_zero, List.take_succ_cons, List.drop_zero, List.drop_succ_cons, List.take_length, List.take_nil, List.drop_nil, Option.map_some, Option.map_none, List.getElem?_cons_zero, List.getElem?_cons_succ, List.getElem?_nil, Option.some.injEq,
      Int.toNat_zero, Int.reduceToNat, Int.reduceLT, Int.reduceLE, Int.reduceEq, Int.reduceAdd, Int.reduceSub, Int.reduceMul, Int.reduceNeg, decide_true, decide_false, Bool.not_true, Bool.not_false, beq_self_eq_true, List.mapM_cons, List.mapM_nil, wrap64, wrap8, Int.cast_ofNat_Int, Int.natCast_eq_zero, decide_eq_true_eq, Bool.or_false, Bool.or_true, Bool.or_self, Bool.false_or, Bool.true_or, callK_0, callK_1, callK_2, callK_3, nums_nil, stepN_no, stepN_err, stepN_ok, stepN_there, arrivesN_0, List.length_append, ne_eq, not_true_eq_false, not_false_eq_true, *]
    · have l1 := stepN_len ((promiseN · e)) r.a 0 ns.a []
      have l2 := stepN_len ((promiseN · e)) r.b 1 ns.b (stepN ((promiseN · e)) r.a 0 ns.a []).2
      simp only [List.length_nil] at l1 l2
      repeat' first
        | simp -implicitDefEqProofs only [go_sem, ↓reduceIte, Nat.reduceEqDiff, Nat.reduceAdd, Nat.reduceMul, Nat.reduceSub, Nat.reduceLeDiff, Nat.reduceLT, Nat.reducePow, reduceCtorEq, List.length_cons, List.length_nil, List.map_cons, List.map_nil,
      List.reverse_cons, List.reverse_nil, List.nil_append, List.cons_append, Bool.false_eq_true, Nat.zero_le, List.replicate_zero, List.replicate_succ, List.flatten_nil, List.flatten_cons, true_and, and_true, and_self, List.append_nil, Nat.zero_add, Nat.add_zero,
      List.contains_nil, Nat.le_refl, List.take_zero, List.take_succ_cons, List.drop_zero, List.drop_succ_cons, List.take_length, List.take_nil, List.drop_nil, Option.map_some, Option.map_none, List.getElem?_cons_zero, List.getElem?_cons_succ, List.getElem?_nil, Option.some.injEq,
      Int.toNat_zero, Int.reduceToNat, Int.reduceLT, Int.reduceLE, Int.reduceEq, Int.reduceAdd, Int.reduceSub, Int.reduceMul, Int.reduceNeg, decide_true, decide_false, Bool.not_true, Bool.not_false, beq_self_eq_true, List.mapM_cons, List.mapM_nil, wrap64, wrap8, Int.cast_ofNat_Int, Int.natCast_eq_zero, decide_eq_true_eq, Bool.or_false, Bool.or_true, Bool.or_self, Bool.false_or, Bool.true_or]
        | (refine wCall_intro (arrives44 _) ?_ ?_ ?_; rfl; decide)
        | refine wfork_intro (fun h => ?_) (fun h => ?_)
        | (refine wDeep_go (ask33 _ _ ?_ _ _ _ _ _) ?_; assumption)
        | apply And.intro
      all_goals first
        | (simp only [mostBytes]; omega)
        | skip
      all_goals clear l1 l2
      all_goals simp only [Bool.not_eq_true', Bool.not_eq_false', Bool.not_eq_true, decide_eq_true_eq, decide_eq_false_iff_not] at *
      all_goals refine ⟨⟨2, by omega⟩, Wk.sub ?_ ?_ (by decide) (by decide) ?_ ?_, by simp⟩
      all_goals simp -implicitDefEqProofs only [go_sem, ↓reduceIte, Nat.reduceEqDiff, Nat.reduceAdd, Nat.reduceMul, Nat.reduceSub, Nat.reduceLeDiff, Nat.reduceLT, Nat.reducePow, reduceCtorEq, List.length_cons, List.length_nil, List.map_cons, List.map_nil,
      List.reverse_cons, List.reverse_nil, List.nil_append, List.cons_append, Bool.false_eq_true, Nat.zero_le, List.replicate_zero, List.replicate_succ, List.flatten_nil, List.flatten_cons, true_and, and_true, and_self, List.append_nil, Nat.zero_add, Nat.add_zero,
      List.contains_nil, Nat.le_refl, List.take_zero, List.take_succ_cons, List.drop_zero, List.drop_succ_cons, List.take_length, List.take_nil, List.drop_nil, Option.map_some, Option.map_none, List.getElem?_cons_zero, List.getElem?_cons_succ, List.getElem?_nil, Option.some.injEq,
      Int.toNat_zero, Int.reduceToNat, Int.reduceLT, Int.reduceLE, Int.reduceEq, Int.reduceAdd, Int.reduceSub, Int.reduceMul, Int.reduceNeg, decide_true, decide_false, Bool.not_true, Bool.not_false, beq_self_eq_true, List.mapM_cons, List.mapM_nil, wrap64, wrap8, Int.cast_ofNat_Int, Int.natCast_eq_zero, decide_eq_true_eq, Bool.or_false, Bool.or_true, Bool.or_self, Bool.false_or, Bool.true_or, callK_0, callK_1, callK_2, callK_3, nums_nil, stepN_no, stepN_err, stepN_ok, stepN_there, arrivesN_0, List.length_append, ne_eq, not_true_eq_false, not_false_eq_true, *]
    · have l1 := stepN_len ((promiseN · e)) r.a 0 ns.a []
      have l2 := stepN_len ((promiseN · e)) r.b 1 ns.b (stepN ((promiseN · e)) r.a 0 ns.a []).2
      simp only [List.length_nil] at l1 l2
      repeat' first
        | simp -implicitDefEqProofs only [go_sem, ↓reduceIte, Nat.reduceEqDiff, Nat.reduceAdd, Nat.reduceMul, Nat.reduceSub, Nat.reduceLeDiff, Nat.reduceLT, Nat.reducePow, reduceCtorEq, List.length_cons, List.length_nil, List.map_cons, List.map_nil,
      List.reverse_cons, List.reverse_nil, List.nil_append, List.cons_append, Bool.false_eq_true, Nat.zero_le, List.replicate_zero, List.replicate_succ, List.flatten_nil, List.flatten_cons, true_and, and_true, and_self, List.append_nil, Nat.zero_add, Nat.add_zero,
      List.contains_nil, Nat.le_refl, List.take_zero, List.take_succ_cons, List.drop_zero, List.drop_succ_cons, List.take_length, List.take_nil, List.drop_nil, Option.map_some, Option.map_none, List.getElem?_cons_zero, List.getElem?_cons_succ, List.getElem?_nil, Option.some.injEq,
      Int.toNat_zero, Int.reduceToNat, Int.reduceLT, Int.reduceLE, Int.reduceEq, Int.reduceAdd, Int.reduceSub, Int.reduceMul, Int.reduceNeg, decide_true, decide_false, Bool.not_true, Bool.not_false, beq_self_eq_true, List.mapM_cons, List.mapM_nil, wrap64, wrap8, Int.cast_ofNat_Int, Int.natCast_eq_zero, decide_eq_true_eq, Bool.or_false, Bool.or_true, Bool.or_self, Bool.false_or, Bool.true_or]
        | (refine wCall_intro (arrives44 _) ?_ ?_ ?_; rfl; decide)
        | refine wfork_intro (fun h => ?_) (fun h => ?_)
        | (refine wDeep_go (ask33 _ _ ?_ _ _ _ _ _) ?_; assumption)
        | apply And.intro
      all_goals first
        | (simp only [mostBytes]; omega)
        | skip
      all_goals clear l1 l2
      all_goals simp only [Bool.not_eq_true', Bool.not_eq_false', Bool.not_eq_true, decide_eq_true_eq, decide_eq_false_iff_not] at *
      all_goals refine ⟨⟨3, by omega⟩, Wk.sub ?_ ?_ (by decide) (by decide) ?_ ?_, by simp⟩
      all_goals simp -implicitDefEqProofs only [go_sem, ↓reduceIte, Nat.reduceEqDiff, Nat.reduceAdd, Nat.reduceMul, Nat.reduceSub, Nat.reduceLeDiff, Nat.reduceLT, Nat.reducePow, reduceCtorEq, List.length_cons, List.length_nil, List.map_cons, List.map_nil,
      List.reverse_cons, List.reverse_nil, List.nil_append, List.cons_append, Bool.false_eq_true, Nat.zero_le, List.replicate_zero, List.replicate_succ, List.flatten_nil, List.flatten_cons, true_and, and_true, and_self, List.append_nil, Nat.zero_add, Nat.add_zero,
      List.contains_nil, Nat.le_refl, List.take_zero, List.take_succ_cons, List.drop_zero, List.drop_succ_cons, List.take_length, List.take_nil, List.drop_nil, Option.map_some, Option.map_none, List.getElem?_cons_zero, List.getElem?_cons_succ, List.getElem?_nil, Option.some.injEq,
      Int.toNat_zero, Int.reduceToNat, Int.reduceLT, Int.reduceLE, Int.reduceEq, Int.reduceAdd, Int.reduceSub, Int.reduceMul, Int.reduceNeg, decide_true, decide_false, Bool.not_true, Bool.not_false, beq_self_eq_true, List.mapM_cons, List.mapM_nil, wrap64, wrap8, Int.cast_ofNat_Int, Int.natCast_eq_zero, decide_eq_true_eq, Bool.or_false, Bool.or_true, Bool.or_self, Bool.false_or, Bool.true_or, callK_0, callK_1, callK_2, callK_3, nums_nil, stepN_no, stepN_err, stepN_ok, stepN_there, arrivesN_0, List.length_append, ne_eq, not_true_eq_false, not_false_eq_true, *]
    · simp -implicitDefEqProofs only [go_sem, ↓reduceIte, Nat.reduceEqDiff, Nat.reduceAdd, Nat.reduceMul, Nat.reduceSub, Nat.reduceLeDiff, Nat.reduceLT, Nat.reducePow, reduceCtorEq, List.length_cons, List.length_nil, List.map_cons, List.map_nil,
      List.reverse_cons, List.reverse_nil, List.nil_append, List.cons_append, Bool.false_eq_true, Nat.zero_le, List.replicate_zero, List.replicate_succ, List.flatten_nil, List.flatten_cons, true_and, and_true, and_self, List.append_nil, Nat.zero_add, Nat.add_zero,
      List.contains_nil, Nat.le_refl, List.take_zero, List.take_succ_cons, List.drop_zero, List.drop_succ_cons, List.take_length, List.take_nil, List.drop_nil, Option.map_some, Option.map_none, List.getElem?_cons_zero, List.getElem?_cons_succ, List.getElem?_nil, Option.some.injEq,
      Int.toNat_zero, Int.reduceToNat, Int.reduceLT, Int.reduceLE, Int.reduceEq, Int.reduceAdd, Int.reduceSub, Int.reduceMul, Int.reduceNeg, decide_true, decide_false, Bool.not_true, Bool.not_false, beq_self_eq_true, List.mapM_cons, List.mapM_nil, wrap64, wrap8, Int.cast_ofNat_Int, Int.natCast_eq_zero, decide_eq_true_eq, Bool.or_false, Bool.or_true, Bool.or_self, Bool.false_or, Bool.true_or]
      refine wEnd_intro (.refl _) (Wk.sub ?_ ?_ (by decide) (by decide) ?_ ?_) ⟨rfl, rfl, rfl⟩
      all_goals simp -implicitDefEqProofs only [go_sem, ↓reduceIte, Nat.reduceEqDiff, Nat.reduceAdd, Nat.reduceMul, Nat.reduceSub, Nat.reduceLeDiff, Nat.reduceLT, Nat.reducePow, reduceCtorEq, List.length_cons, List.length_nil, List.map_cons, List.map_nil,
      List.reverse_cons, List.reverse_nil, List.nil_append, List.cons_append, Bool.false_eq_true, Nat.zero_le, List.replicate_zero, List.replicate_succ, List.flatten_nil, List.flatten_cons, true_and, and_true, and_self, List.append_nil, Nat.zero_add, Nat.add_zero,
      List.contains_nil, Nat.le_refl, List.take_zero, List.take_succ_cons, List.drop_zero, List.drop_succ_cons, List.take_length, List.take_nil, List.drop_nil, Option.map_some, Option.map_none, List.getElem?_cons_zero, List.getElem?_cons_succ, List.getElem?_nil, Option.some.injEq,
      Int.toNat_zero, Int.reduceToNat, Int.reduceLT, Int.reduceLE, Int.reduceEq, Int.reduceAdd, Int.reduceSub, Int.reduceMul, Int.reduceNeg, decide_true, decide_false, Bool.not_true, Bool.not_false, beq_self_eq_true, List.mapM_cons, List.mapM_nil, wrap64, wrap8, Int.cast_ofNat_Int, Int.natCast_eq_zero, decide_eq_true_eq, Bool.or_false, Bool.or_true, Bool.or_self, Bool.false_or, Bool.true_or, callN, callK_3]


theorem ask43 (n : Nd) (e : Int) (m : List ByteArray) (hm : m.length ≤ 1000000) (B0 B4 BZ BR BL : Blk) : Deep Try.prog 43 [.agg [.d (.int .i64 n.p), .d (.int .i64 n.e), .d (.sl 1 (strs n.log)), .d (.bool n.lost)], .c (.ptr 8 0), .c (.ptr 12 0)]
    [(0, B0), (4, B4), (8, .box [.d (.int .i64 e)]), (12, .box [.d (.sl 1 (strs m))]), (16, BZ), (84, BR), (100, BL)] 157
    (fun v h k => v = .tup [.agg [.d (.int .i64 (((installN · e m) n).1).p), .d (.int .i64 (((installN · e m) n).1).e), .d (.sl 1 (strs (((installN · e m) n).1).log)), .d (.bool (((installN · e m) n).1).lost)], .c (.d (.int .i64 ((installN · e m) n).2))] ∧ h = [(0, B0), (4, B4), (8, .box [.d (.int .i64 e)]), (12, .box [.d (.sl 1 (strs m))]), (16, BZ), (84, BR), (100, BL)] ∧ k = 201) := by
  refine Deep.of_w TryEnv Try.func43 (by decide) TryL43_ok Try.ntmps43 (rs := [.cell 4 24, .tmp 5]) rfl (by simp) ?_
  rw [TryL43]
  repeat' first
    | simp -implicitDefEqProofs only [go_sem, ↓reduceIte, Nat.reduceEqDiff, Nat.reduceAdd, Nat.reduceMul, Nat.reduceSub, Nat.reduceLeDiff, Nat.reduceLT, Nat.reducePow, reduceCtorEq, List.length_cons, List.length_nil, List.map_cons, List.map_nil,
      List.reverse_cons, List.reverse_nil, List.nil_append, List.cons_append, Bool.false_eq_true, Nat.zero_le, List.replicate_zero, List.replicate_succ, List.flatten_nil, List.flatten_cons, true_and, and_true, and_self, List.append_nil, Nat.zero_add, Nat.add_zero,
      List.contains_nil, Nat.le_refl, List.take_zero, List.take_succ_cons, List.drop_zero, List.drop_succ_cons, List.take_length, List.take_nil, List.drop_nil, Option.map_some, Option.map_none, List.getElem?_cons_zero, List.getElem?_cons_succ, List.getElem?_nil, Option.some.injEq,
      Int.toNat_zero, Int.reduceToNat, Int.reduceLT, Int.reduceLE, Int.reduceEq, Int.reduceAdd, Int.reduceSub, Int.reduceMul, Int.reduceNeg, decide_true, decide_false, Bool.not_true, Bool.not_false, beq_self_eq_true, List.mapM_cons, List.mapM_nil, wrap64, wrap8, Int.cast_ofNat_Int, Int.natCast_eq_zero, decide_eq_true_eq, Bool.or_false, Bool.or_true, Bool.or_self, Bool.false_or, Bool.true_or]
    | (refine wCall_intro (install' n e m hm) ?_ ?_ ?_; rfl; decide)
    | apply And.intro
  refine wEnd_intro (.refl _) (Wk.drop ?_ ?_) ⟨rfl, rfl, rfl⟩
  all_goals simp -implicitDefEqProofs only [go_sem, ↓reduceIte, Nat.reduceEqDiff, Nat.reduceAdd, Nat.reduceMul, Nat.reduceSub, Nat.reduceLeDiff, Nat.reduceLT, Nat.reducePow, reduceCtorEq, List.length_cons, List.length_nil, List.map_cons, List.map_nil,
      List.reverse_cons, List.reverse_nil, List.nil_append, List.cons_append, Bool.false_eq_true, Nat.zero_le, List.replicate_zero, List.replicate_succ, List.flatten_nil, List.flatten_cons, true_and, and_true, and_self, List.append_nil, Nat.zero_add, Nat.add_zero,
      List.contains_nil, Nat.le_refl, List.take_zero, List.take_succ_cons, List.drop_zero, List.drop_succ_cons, List.take_length, List.take_nil, List.drop_nil, Option.map_some, Option.map_none, List.getElem?_cons_zero, List.getElem?_cons_succ, List.getElem?_nil, Option.some.injEq,
      Int.toNat_zero, Int.reduceToNat, Int.reduceLT, Int.reduceLE, Int.reduceEq, Int.reduceAdd, Int.reduceSub, Int.reduceMul, Int.reduceNeg, decide_true, decide_false, Bool.not_true, Bool.not_false, beq_self_eq_true, List.mapM_cons, List.mapM_nil, wrap64, wrap8, Int.cast_ofNat_Int, Int.natCast_eq_zero, decide_eq_true_eq, Bool.or_false, Bool.or_true, Bool.or_self, Bool.false_or, Bool.true_or]

theorem call32w (ns : N3) (r : R3) (e : Int) (m : List ByteArray) (hs : ns.small 1000000) (hm : m.length ≤ 1000000) : Deep Try.prog 32 [.c (.ptr 0 0), .agg [.d (.int .u8 r.a), .d (.int .u8 r.b), .d (.int .u8 r.c)], .c (.fn 43 [.ptr 8 0, .ptr 12 0])]
    [(0, .box [.d (.int .i64 ns.a.p), .d (.int .i64 ns.a.e), .d (.sl 1 (strs ns.a.log)), .d (.bool ns.a.lost), .d (.int .i64 ns.b.p), .d (.int .i64 ns.b.e), .d (.sl 1 (strs ns.b.log)), .d (.bool ns.b.lost), .d (.int .i64 ns.c.p), .d (.int .i64 ns.c.e), .d (.sl 1 (strs ns.c.log)), .d (.bool ns.c.lost)]), (4, .box [.d (.int .u8 r.a), .d (.int .u8 r.b), .d (.int .u8 r.c)]), (8, .box [.d (.int .i64 e)]), (12, .box [.d (.sl 1 (strs m))]), (16, .box [.d (.int .i64 0), .d (.int .i64 0), .d .nilSl, .d (.bool false), .d (.int .i64 0), .d (.int .i64 0), .d .nilSl, .d (.bool false), .d (.int .i64 0), .d (.int .i64 0), .d .nilSl, .d (.bool false)])] 84
    (fun v h n => v = .c (.d (.sl 1 (nums (callN ((installN · e m)) r ns).2))) ∧ h = [(0, .box [.d (.int .i64 ((callN ((installN · e m)) r ns).1.a).p), .d (.int .i64 ((callN ((installN · e m)) r ns).1.a).e), .d (.sl 1 (strs ((callN ((installN · e m)) r ns).1.a).log)), .d (.bool ((callN ((installN · e m)) r ns).1.a).lost), .d (.int .i64 ((callN ((installN · e m)) r ns).1.b).p), .d (.int .i64 ((callN ((installN · e m)) r ns).1.b).e), .d (.sl 1 (strs ((callN ((installN · e m)) r ns).1.b).log)), .d (.bool ((callN ((installN · e m)) r ns).1.b).lost), .d (.int .i64 ((callN ((installN · e m)) r ns).1.c).p), .d (.int .i64 ((callN ((installN · e m)) r ns).1.c).e), .d (.sl 1 (strs ((callN ((installN · e m)) r ns).1.c).log)), .d (.bool ((callN ((installN · e m)) r ns).1.c).lost)]), (4, .box [.d (.int .u8 r.a), .d (.int .u8 r.b), .d (.int .u8 r.c)]), (8, .box [.d (.int .i64 e)]), (12, .box [.d (.sl 1 (strs m))]), (16, .box [.d (.int .i64 0), .d (.int .i64 0), .d .nilSl, .d (.bool false), .d (.int .i64 0), .d (.int .i64 0), .d .nilSl, .d (.bool false), .d (.int .i64 0), .d (.int .i64 0), .d .nilSl, .d (.bool false)])] ∧ n = 84) := by
  refine Deep.of_w TryEnv Try.func32 (by decide) TryL32_ok Try.ntmps32 (rs := [.tmp 6]) rfl (by simp) ?_
  rw [TryL32]
  simp -implicitDefEqProofs only [go_sem, ↓reduceIte, Nat.reduceEqDiff, Nat.reduceAdd, Nat.reduceMul, Nat.reduceSub, Nat.reduceLeDiff, Nat.reduceLT, Nat.reducePow, reduceCtorEq, List.length_cons, List.length_nil, List.map_cons, List.map_nil,
      List.reverse_cons, List.reverse_nil, List.nil_append, List.cons_append, Bool.false_eq_true, Nat.zero_le, List.replicate_zero, List.replicate_succ, List.flatten_nil, List.flatten_cons, true_and, and_true, and_self, List.append_nil, Nat.zero_add, Nat.add_zero,
      List.contains_nil, Nat.le_refl, List.take_zero, List.take_succ_cons, List.drop_zero, List.drop_succ_cons, List.take_length, List.take_nil, List.drop_nil, Option.map_some, Option.map_none, List.getElem?_cons_zero, List.getElem?_cons_succ, List.getElem?_nil, Option.some.injEq,
      Int.toNat_zero, Int.reduceToNat, Int.reduceLT, Int.reduceLE, Int.reduceEq, Int.reduceAdd, Int.reduceSub, Int.reduceMul, Int.reduceNeg, decide_true, decide_false, Bool.not_true, Bool.not_false, beq_self_eq_true, List.mapM_cons, List.mapM_nil, wrap64, wrap8, Int.cast_ofNat_Int, Int.natCast_eq_zero, decide_eq_true_eq, Bool.or_false, Bool.or_true, Bool.or_self, Bool.false_or, Bool.true_or]
  refine wT_wk (Wk.nil (t := 7) 1 (by simp -implicitDefEqProofs only [go_sem, ↓reduceIte, Nat.reduceEqDiff, Nat.reduceAdd, Nat.reduceMul, Nat.reduceSub, Nat.reduceLeDiff, Nat.reduceLT, Nat.reducePow, reduceCtorEq, List.length_cons, List.length_nil, List.map_cons, List.map_nil,
      List.reverse_cons, List.reverse_nil, List.nil_append, List.cons_append, Bool.false_eq_true, Nat.zero_le, List.replicate_zero, List.replicate_succ, List.flatten_nil, List.flatten_cons, true_and, and_true, and_self, List.append_nil, Nat.zero_add, Nat.add_zero,
      List.contains_nil, Nat.le_refl, List.take_zero, List.take_succ_cons, List.drop_zero, List.drop_succ_cons, List.take_length, List.take_nil, List.drop_nil, Option.map_some, Option.map_none, List.getElem?_cons_zero, List.getElem?_cons_succ, List.getElem?_nil, Option.some.injEq,
      Int.toNat_zero, Int.reduceToNat, Int.reduceLT, Int.reduceLE, Int.reduceEq, Int.reduceAdd, Int.reduceSub, Int.reduceMul, Int.reduceNeg, decide_true, decide_false, Bool.not_true, Bool.not_false, beq_self_eq_true, List.mapM_cons, List.mapM_nil, wrap64, wrap8, Int.cast_ofNat_Int, Int.natCast_eq_zero, decide_eq_true_eq, Bool.or_false, Bool.or_true, Bool.or_self, Bool.false_or, Bool.true_or])) ?_
  simp -implicitDefEqProofs only [go_sem, ↓reduceIte, Nat.reduceEqDiff, Nat.reduceAdd, Nat.reduceMul, Nat.reduceSub, Nat.reduceLeDiff, Nat.reduceLT, Nat.reducePow, reduceCtorEq, List.length_cons, List.length_nil, List.map_cons, List.map_nil,
      List.reverse_cons, List.reverse_nil, List.nil_append, List.cons_append, Bool.false_eq_true, Nat.zero_le, List.replicate_zero, List.replicate_succ, List.flatten_nil, List.flatten_cons, true_and, and_true, and_self, List.append_nil, Nat.zero_add, Nat.add_zero,
      List.contains_nil, Nat.le_refl, List.take_zero, List.take_succ_cons, List.drop_zero, List.drop_succ_cons, List.take_length, List.take_nil, List.drop_nil, Option.map_some, Option.map_none, List.getElem?_cons_zero, List.getElem?_cons_succ, List.getElem?_nil, Option.some.injEq,
      Int.toNat_zero, Int.reduceToNat, Int.reduceLT, Int.reduceLE, Int.reduceEq, Int.reduceAdd, Int.reduceSub, Int.reduceMul, Int.reduceNeg, decide_true, decide_false, Bool.not_true, Bool.not_false, beq_self_eq_true, List.mapM_cons, List.mapM_nil, wrap64, wrap8, Int.cast_ofNat_Int, Int.natCast_eq_zero, decide_eq_true_eq, Bool.or_false, Bool.or_true, Bool.or_self, Bool.false_or, Bool.true_or]
  refine wT_loop (fun k : To3 => ⟨[(0, .c (.ptr 0 0)), (2, .c (.fn 43 [.ptr 8 0, .ptr 12 0])), (4, .c (.ptr 84 0)), (7, .c (.ref 100 (callK ((installN · e m)) r ns k).2.length 0 (callK ((installN · e m)) r ns k).2.length)), (11, .c (.d (.int .i64 k.1)))], [
    (0, .box [.d (.int .i64 ((callK ((installN · e m)) r ns k).1.a).p), .d (.int .i64 ((callK ((installN · e m)) r ns k).1.a).e), .d (.sl 1 (strs ((callK ((installN · e m)) r ns k).1.a).log)), .d (.bool ((callK ((installN · e m)) r ns k).1.a).lost), .d (.int .i64 ((callK ((installN · e m)) r ns k).1.b).p), .d (.int .i64 ((callK ((installN · e m)) r ns k).1.b).e), .d (.sl 1 (strs ((callK ((installN · e m)) r ns k).1.b).log)), .d (.bool ((callK ((installN · e m)) r ns k).1.b).lost), .d (.int .i64 ((callK ((installN · e m)) r ns k).1.c).p), .d (.int .i64 ((callK ((installN · e m)) r ns k).1.c).e), .d (.sl 1 (strs ((callK ((installN · e m)) r ns k).1.c).log)), .d (.bool ((callK ((installN · e m)) r ns k).1.c).lost)]), (4, .box [.d (.int .u8 r.a), .d (.int .u8 r.b), .d (.int .u8 r.c)]), (8, .box [.d (.int .i64 e)]), (12, .box [.d (.sl 1 (strs m))]), (16, .box [.d (.int .i64 0), .d (.int .i64 0), .d .nilSl, .d (.bool false), .d (.int .i64 0), .d (.int .i64 0), .d .nilSl, .d (.bool false), .d (.int .i64 0), .d (.int .i64 0), .d .nilSl, .d (.bool false)]),
    (84, Blk.box [.d (.int .u8 r.a), .d (.int .u8 r.b), .d (.int .u8 r.c)]), (100, .sl 1 (nums (callK ((installN · e m)) r ns k).2) false)], 101⟩) (fun k => (3 - k.1).toNat) ⟨0, by omega⟩ ?_ ?_
  · refine Wk.sub ?_ ?_ ?_ ?_ ?_ ?_
    all_goals simp -implicitDefEqProofs only [go_sem, ↓reduceIte, Nat.reduceEqDiff, Nat.reduceAdd, Nat.reduceMul, Nat.reduceSub, Nat.reduceLeDiff, Nat.reduceLT, Nat.reducePow, reduceCtorEq, List.length_cons, List.length_nil, List.map_cons, List.map_nil,
      List.reverse_cons, List.reverse_nil, List.nil_append, List.cons_append, Bool.false_eq_true, Nat.zero_le, List.replicate_zero, List.replicate_succ, List.flatten_nil, List.flatten_cons, true_and, and_true, and_self, List.append_nil, Nat.zero_add, Nat.add_zero,
      List.contains_nil, Nat.le_refl, List.take_zero, List.take_succ_cons, List.drop_zero, List.drop_succ_cons, List.take_length, List.take_nil, List.drop_nil, Option.map_some, Option.map_none, List.getElem?_cons_zero, List.getElem?_cons_succ, List.getElem?_nil, Option.some.injEq,
      Int.toNat_zero, Int.reduceToNat, Int.reduceLT, Int.reduceLE, Int.reduceEq, Int.reduceAdd, Int.reduceSub, Int.reduceMul, Int.reduceNeg, decide_true, decide_false, Bool.not_true, Bool.not_false, beq_self_eq_true, List.mapM_cons, List.mapM_nil, wrap64, wrap8, Int.cast_ofNat_Int, Int.natCast_eq_zero, decide_eq_true_eq, Bool.or_false, Bool.or_true, Bool.or_self, Bool.false_or, Bool.true_or, callK_0, nums_nil]
  · obtain ⟨hs1, hs2, hs3⟩ := hs
    refine To3.all ?_ ?_ ?_ ?_
    all_goals refine wT_of TryEnv ?_
    all_goals simp only [callK_0, callK_1, callK_2, callK_3]
    · have l1 := stepN_len ((installN · e m)) r.a 0 ns.a []
      have l2 := stepN_len ((installN · e m)) r.b 1 ns.b (stepN ((installN · e m)) r.a 0 ns.a []).2
      simp only [List.length_nil] at l1 l2
      repeat' first
        | simp -implicitDefEqProofs only [go_sem, ↓reduceIte, Nat.reduceEqDiff, Nat.reduceAdd, Nat.reduceMul, Nat.reduceSub, Nat.reduceLeDiff, Nat.reduceLT, Nat.reducePow, reduceCtorEq, List.length_cons, List.length_nil, List.map_cons, List.map_nil,
      List.reverse_cons, List.reverse_nil, List.nil_append, List.cons_append, Bool.false_eq_true, Nat.zero_le, List.replicate_zero, List.replicate_succ, List.flatten_nil, List.flatten_cons, true_and, and_true, and_self, List.append_nil, Nat.zero_add, Nat.add_zero,
      List.contains_nil, Nat.le_refl, List.take_zero, List.take_succ_cons, List.drop_zero, List.drop_succ_cons, List.take_length, List.take_nil, List.drop_nil, Option.map_some, Option.map_none, List.getElem?_cons_zero, List.getElem?_cons_succ, List.getElem?_nil, Option.some.injEq,
      Int.toNat_zero, Int.reduceToNat, Int.reduceLT, Int.reduceLE, Int.reduceEq, Int.reduceAdd, Int.reduceSub, Int.reduceMul, Int.reduceNeg, decide_true, decide_false, Bool.not_true, Bool.not_false, beq_self_eq_true, List.mapM_cons, List.mapM_nil, wrap64, wrap8, Int.cast_ofNat_Int, Int.natCast_eq_zero, decide_eq_true_eq, Bool.or_false, Bool.or_true, Bool.or_self, Bool.false_or, Bool.true_or]
        | (refine wCall_intro (arrives44 _) ?_ ?_ ?_; rfl; decide)
        | refine wfork_intro (fun h => ?_) (fun h => ?_)
        | (refine wDeep_go (ask43 _ _ _ ?_ _ _ _ _ _) ?_; assumption)
        | apply And.intro
      all_goals first
        | (simp only [mostBytes]; omega)
        | skip
      all_goals clear l1 l2
      all_goals simp only [Bool.not_eq_true', Bool.not_eq_false', Bool.not_eq_true, decide_eq_true_eq, decide_eq_false_iff_not] at *
      all_goals refine ⟨⟨1, by omega⟩, Wk.sub ?_ ?_ (by decide) (by decide) ?_ ?_, by simp⟩
      all_goals simp -implicitDefEqProofs only [go_sem, ↓reduceIte, Nat.reduceEqDiff, Nat.reduceAdd, Nat.reduceMul, Nat.reduceSub, Nat.reduceLeDiff, Nat.reduceLT, Nat.reducePow, reduceCtorEq, List.length_cons, List.length_nil, List.map_cons, List.map_nil,
      List.reverse_cons, List.reverse_nil, List.nil_append, List.cons_append, Bool.false_eq_true, Nat.zero_le, List.replicate_zero, List.replicate_succ, List.flatten_nil, List.flatten_cons, true_and, and_true, and_self, List.append_nil, Nat.zero_add, Nat.add_zero,
      List.contains_nil, Nat.le_refl, List.take_zero, List.take_succ_cons, List.drop_zero, List.drop_succ_cons, List.take_length, List.take_nil, List.drop_nil, Option.map_some, Option.map_none, List.getElem?_cons_zero, List.getElem?_cons_succ, List.getElem?_nil, Option.some.injEq,
      Int.toNat_zero, Int.reduceToNat, Int.reduceLT, Int.reduceLE, Int.reduceEq, Int.reduceAdd, Int.reduceSub, Int.reduceMul, Int.reduceNeg, decide_true, decide_false, Bool.not_true, Bool.not_false, beq_self_eq_true, List.mapM_cons, List.mapM_nil, wrap64, wrap8, Int.cast_ofNat_Int, Int.natCast_eq_zero, decide_eq_true_eq, Bool.or_false, Bool.or_true, Bool.or_self, Bool.false_or, Bool.true_or, callK_0, callK_1, callK_2, callK_3, nums_nil, stepN_no, stepN_err, stepN_ok, stepN_there, arrivesN_0, List.length_append, ne_eq, not_true_eq_false, not_false_eq_true, *]
    · have l1 := stepN_len ((installN · e m)) r.a 0 ns.a []
      have l2 := stepN_len ((installN · e m)) r.b 1 ns.b (stepN ((installN · e m)) r.a 0 ns.a []).2
      simp only [List.length_nil] at l1 l2
      repeat' first
        | simp -implicitDefEqProofs only [go_sem, ↓reduceIte, Nat.reduceEqDiff, Nat.reduceAdd, Nat.reduceMul, Nat.reduceSub, Nat.reduceLeDiff, Nat.reduceLT, Nat.reducePow, reduceCtorEq, List.length_cons, List.length_nil, List.map_cons, List.map_nil,
      List.reverse_cons, List.reverse_nil, List.nil_append, List.cons_append, Bool.false_eq_true, Nat.zero_le, List.replicate_zero, List.replicate_succ, List.flatten_nil, List.flatten_cons, true_and, and_true, and_self, List.append_nil, Nat.zero_add, Nat.add_zero,
      List.contains_nil, Nat.le_refl, List.take_zero, List.take_succ_cons, List.drop_zero, List.drop_succ_cons, List.take_length, List.take_nil, List.drop_nil, Option.map_some, Option.map_none, List.getElem?_cons_zero, List.getElem?_cons_succ, List.getElem?_nil, Option.some.injEq,
      Int.toNat_zero, Int.reduceToNat, Int.reduceLT, Int.reduceLE, Int.reduceEq, Int.reduceAdd, Int.reduceSub, Int.reduceMul, Int.reduceNeg, decide_true, decide_false, Bool.not_true, Bool.not_false, beq_self_eq_true, List.mapM_cons, List.mapM_nil, wrap64, wrap8, Int.cast_ofNat_Int, Int.natCast_eq_zero, decide_eq_true_eq, Bool.or_false, Bool.or_true, Bool.or_self, Bool.false_or, Bool.true_or]
        | (refine wCall_intro (arrives44 _) ?_ ?_ ?_; rfl; decide)
        | refine wfork_intro (fun h => ?_) (fun h => ?_)
        | (refine wDeep_go (ask43 _ _ _ ?_ _ _ _ _ _) ?_; assumption)
        | apply And.intro
      all_goals first
        | (simp only [mostBytes]; omega)
        | skip
      all_goals clear l1 l2
      all_goals simp only [Bool.not_eq_true', Bool.not_eq_false', Bool.not_eq_true, decide_eq_true_eq, decide_eq_false_iff_not] at *
      all_goals refine ⟨⟨2, by omega⟩, Wk.sub ?_ ?_ (by decide) (by decide) ?_ ?_, by simp⟩
      all_goals simp -implicitDefEqProofs only [go_sem, ↓reduceIte, Nat.reduceEqDiff, Nat.reduceAdd, Nat.reduceMul, Nat.reduceSub, Nat.reduceLeDiff, Nat.reduceLT, Nat.reducePow, reduceCtorEq, List.length_cons, List.length_nil, List.map_cons, List.map_nil,
      List.reverse_cons, List.reverse_nil, List.nil_append, List.cons_append, Bool.false_eq_true, Nat.zero_le, List.replicate_zero, List.replicate_succ, List.flatten_nil, List.flatten_cons, true_and, and_true, and_self, List.append_nil, Nat.zero_add, Nat.add_zero,
      List.contains_nil, Nat.le_refl, List.take_zero, List.take_succ_cons, List.drop_zero, List.drop_succ_cons, List.take_length, List.take_nil, List.drop_nil, Option.map_some, Option.map_none, List.getElem?_cons_zero, List.getElem?_cons_succ, List.getElem?_nil, Option.some.injEq,
      Int.toNat_zero, Int.reduceToNat, Int.reduceLT, Int.reduceLE, Int.reduceEq, Int.reduceAdd, Int.reduceSub, Int.reduceMul, Int.reduceNeg, decide_true, decide_false, Bool.not_true, Bool.not_false, beq_self_eq_true, List.mapM_cons, List.mapM_nil, wrap64, wrap8, Int.cast_ofNat_Int, Int.natCast_eq_zero, decide_eq_true_eq, Bool.or_false, Bool.or_true, Bool.or_self, Bool.false_or, Bool.true_or, callK_0, callK_1, callK_2, callK_3, nums_nil, stepN_no, stepN_err, stepN_ok, stepN_there, arrivesN_0, List.length_append, ne_eq, not_true_eq_false, not_false_eq_true, *]
    · have l1 := stepN_len ((installN · e m)) r.a 0 ns.a []
      have l2 := stepN_len ((installN · e m)) r.b 1 ns.b (stepN ((installN · e m)) r.a 0 ns.a []).2
      simp only [List.length_nil] at l1 l2
      repeat' first
        | simp -implicitDefEqProofs only [go_sem, ↓reduceIte, Nat.reduceEqDiff, Nat.reduceAdd, Nat.reduceMul, Nat.reduceSub, Nat.reduceLeDiff, Nat.reduceLT, Nat.reducePow, reduceCtorEq, List.length_cons, List.length_nil, List.map_cons, List.map_nil,
      List.reverse_cons, List.reverse_nil, List.nil_append, List.cons_append, Bool.false_eq_true, Nat.zero_le, List.replicate_zero, List.replicate_succ, List.flatten_nil, List.flatten_cons, true_and, and_true, and_self, List.append_nil, Nat.zero_add, Nat.add_zero,
      List.contains_nil, Nat.le_refl, List.take_zero, List.take_succ_cons, List.drop_zero, List.drop_succ_cons, List.take_length, List.take_nil, List.drop_nil, Option.map_some, Option.map_none, List.getElem?_cons_zero, List.getElem?_cons_succ, List.getElem?_nil, Option.some.injEq,
      Int.toNat_zero, Int.reduceToNat, Int.reduceLT, Int.reduceLE, Int.reduceEq, Int.reduceAdd, Int.reduceSub, Int.reduceMul, Int.reduceNeg, decide_true, decide_false, Bool.not_true, Bool.not_false, beq_self_eq_true, List.mapM_cons, List.mapM_nil, wrap64, wrap8, Int.cast_ofNat_Int, Int.natCast_eq_zero, decide_eq_true_eq, Bool.or_false, Bool.or_true, Bool.or_self, Bool.false_or, Bool.true_or]
        | (refine wCall_intro (arrives44 _) ?_ ?_ ?_; rfl; decide)
        | refine wfork_intro (fun h => ?_) (fun h => ?_)
        | (refine wDeep_go (ask43 _ _ _ ?_ _ _ _ _ _) ?_; assumption)
        | apply And.intro
      all_goals first
        | (simp only [mostBytes]; omega)
        | skip
      all_goals clear l1 l2
      all_goals simp only [Bool.not_eq_true', Bool.not_eq_false', Bool.not_eq_true, decide_eq_true_eq, decide_eq_false_iff_not] at *
      all_goals refine ⟨⟨3, by omega⟩, Wk.sub ?_ ?_ (by decide) (by decide) ?_ ?_, by simp⟩
      all_goals simp -implicitDefEqProofs only [go_sem, ↓reduceIte, Nat.reduceEqDiff, Nat.reduceAdd, Nat.reduceMul, Nat.reduceSub, Nat.reduceLeDiff, Nat.reduceLT, Nat.reducePow, reduceCtorEq, List.length_cons, List.length_nil, List.map_cons, List.map_nil,
      List.reverse_cons, List.reverse_nil, List.nil_append, List.cons_append, Bool.false_eq_true, Nat.zero_le, List.replicate_zero, List.replicate_succ, List.flatten_nil, List.flatten_cons, true_and, and_true, and_self, List.append_nil, Nat.zero_add, Nat.add_zero,
      List.contains_nil, Nat.le_refl, List.take_zero, List.take_succ_cons, List.drop_zero, List.drop_succ_cons, List.take_length, List.take_nil, List.drop_nil, Option.map_some, Option.map_none, List.getElem?_cons_zero, List.getElem?_cons_succ, List.getElem?_nil, Option.some.injEq,
      Int.toNat_zero, Int.reduceToNat, Int.reduceLT, Int.reduceLE, Int.reduceEq, Int.reduceAdd, Int.reduceSub, Int.reduceMul, Int.reduceNeg, decide_true, decide_false, Bool.not_true, Bool.not_false, beq_self_eq_true, List.mapM_cons, List.mapM_nil, wrap64, wrap8, Int.cast_ofNat_Int, Int.natCast_eq_zero, decide_eq_true_eq, Bool.or_false, Bool.or_true, Bool.or_self, Bool.false_or, Bool.true_or, callK_0, callK_1, callK_2, callK_3, nums_nil, stepN_no, stepN_err, stepN_ok, stepN_there, arrivesN_0, List.length_append, ne_eq, not_true_eq_false, not_false_eq_true, *]
    · simp -implicitDefEqProofs only [go_sem, ↓reduceIte, Nat.reduceEqDiff, Nat.reduceAdd, Nat.reduceMul, Nat.reduceSub, Nat.reduceLeDiff, Nat.reduceLT, Nat.reducePow, reduceCtorEq, List.length_cons, List.length_nil, List.map_cons, List.map_nil,
      List.reverse_cons, List.reverse_nil, List.nil_append, List.cons_append, Bool.false_eq_true, Nat.zero_le, List.replicate_zero, List.replicate_succ, List.flatten_nil, List.flatten_cons, true_and, and_true, and_self, List.append_nil, Nat.zero_add, Nat.add_zero,
      List.contains_nil, Nat.le_refl, List.take_zero, List.take_succ_cons, List.drop_zero, List.drop_succ_cons, List.take_length, List.take_nil, List.drop_nil, Option.map_some, Option.map_none, List.getElem?_cons_zero, List.getElem?_cons_succ, List.getElem?_nil, Option.some.injEq,
      Int.toNat_zero, Int.reduceToNat, Int.reduceLT, Int.reduceLE, Int.reduceEq, Int.reduceAdd, Int.reduceSub, Int.reduceMul, Int.reduceNeg, decide_true, decide_false, Bool.not_true, Bool.not_false, beq_self_eq_true, List.mapM_cons, List.mapM_nil, wrap64, wrap8, Int.cast_ofNat_Int, Int.natCast_eq_zero, decide_eq_true_eq, Bool.or_false, Bool.or_true, Bool.or_self, Bool.false_or, Bool.true_or]
      refine wEnd_intro (.refl _) (Wk.sub ?_ ?_ (by decide) (by decide) ?_ ?_) ⟨rfl, rfl, rfl⟩
      all_goals simp -implicitDefEqProofs only [go_sem, ↓reduceIte, Nat.reduceEqDiff, Nat.reduceAdd, Nat.reduceMul, Nat.reduceSub, Nat.reduceLeDiff, Nat.reduceLT, Nat.reducePow, reduceCtorEq, List.length_cons, List.length_nil, List.map_cons, List.map_nil,
      List.reverse_cons, List.reverse_nil, List.nil_append, List.cons_append, Bool.false_eq_true, Nat.zero_le, List.replicate_zero, List.replicate_succ, List.flatten_nil, List.flatten_cons, true_and, and_true, and_self, List.append_nil, Nat.zero_add, Nat.add_zero,
      List.contains_nil, Nat.le_refl, List.take_zero, List.take_succ_cons, List.drop_zero, List.drop_succ_cons, List.take_length, List.take_nil, List.drop_nil, Option.map_some, Option.map_none, List.getElem?_cons_zero, List.getElem?_cons_succ, List.getElem?_nil, Option.some.injEq,
      Int.toNat_zero, Int.reduceToNat, Int.reduceLT, Int.reduceLE, Int.reduceEq, Int.reduceAdd, Int.reduceSub, Int.reduceMul, Int.reduceNeg, decide_true, decide_false, Bool.not_true, Bool.not_false, beq_self_eq_true, List.mapM_cons, List.mapM_nil, wrap64, wrap8, Int.cast_ofNat_Int, Int.natCast_eq_zero, decide_eq_true_eq, Bool.or_false, Bool.or_true, Bool.or_self, Bool.false_or, Bool.true_or, callN, callK_3]


end Go.Proofs.Ytehmaafnbgpkcaa
