/- This text proves a part of what the claim needs: contracts of functions of the program. No condition. -/
import Derived.Test.YtehmaafnbgpkcaaWc
set_option linter.unusedSimpArgs false
set_option linter.unusedVariables false

namespace Go.Proofs.Ytehmaafnbgpkcaa
open Go Go.Vs Go.Proofs

theorem betterN_1 {n m : Nd} (h : m.e < n.e) : betterN n m = true := by
  have : n.e ≠ m.e := by omega
  simp [betterN, this, h]
theorem betterN_2 {n m : Nd} (h : n.e = m.e) (h2 : (m.log.length : Int) < n.log.length) : betterN n m = true := by
  have : m.log.length < n.log.length := by omega
  simp [betterN, h, this]
theorem betterN_3 {n m : Nd} (h : n.e = m.e) (h2 : ¬ (m.log.length : Int) < n.log.length) : betterN n m = false := by simp [betterN, h] <;> omega
theorem betterN_4 {n m : Nd} (h : ¬ n.e = m.e) (h2 : ¬ m.e < n.e) : betterN n m = false := by simp [betterN, h, h2] <;> omega

theorem bestN_len {ns : N3} {m : Nat} (ha : ns.a.log.length ≤ m) (hb : ns.b.log.length ≤ m) (hc : ns.c.log.length ≤ m) (l : List Int) : (bestN ns l).log.length ≤ m := by
  have hg : ∀ i, (ns.get i).log.length ≤ m := fun i => by
    unfold N3.get
    repeat' split
    all_goals assumption
  cases l with
  | nil => exact ha
  | cons i l =>
    have : ∀ (l : List Int) (x : Nd), x.log.length ≤ m → (l.foldl (fun best j => if betterN (ns.get j) best then ns.get j else best) x).log.length ≤ m := fun l => by
      induction l with
      | nil => exact fun x hx => hx
      | cons j l ih =>
        intro x hx
        rw [List.foldl_cons]
        refine ih _ ?_
        split
        · exact hg j
        · exact hx
    exact this l _ (hg i)

theorem copied' (n : Nd) (h : n.log.length ≤ 1000000) : Gives Try.prog 46 [.agg [.int .i64 n.p, .int .i64 n.e, .sl 1 (strs n.log), .bool n.lost]] (.agg [.d (.int .i64 n.p), .d (.int .i64 n.e), .d (.sl 1 (strs n.log)), .d (.bool n.lost)]) [] := copied _ _ _ _ h
theorem refPromise' (n : Nd) (e : Int) (h : n.log.length ≤ 1000000) :
    Gives Try.prog 23 [.agg [.int .i64 n.p, .int .i64 n.e, .sl 1 (strs n.log), .bool n.lost], .c (.int .i64 e)] (.tup [.agg [.d (.int .i64 ((promiseN n e).1).p), .d (.int .i64 ((promiseN n e).1).e), .d (.sl 1 (strs ((promiseN n e).1).log)), .d (.bool ((promiseN n e).1).lost)], .c (.d (.int .i64 (promiseN n e).2))]) [] := refPromise _ _ _ _ _ h

theorem all37 (ns : N3) (hs : ns.small 1000000) : Gives Try.prog 37 [.agg [.int .i64 ns.a.p, .int .i64 ns.a.e, .sl 1 (strs ns.a.log), .bool ns.a.lost, .int .i64 ns.b.p, .int .i64 ns.b.e, .sl 1 (strs ns.b.log), .bool ns.b.lost, .int .i64 ns.c.p, .int .i64 ns.c.e, .sl 1 (strs ns.c.log), .bool ns.c.lost]] (.agg [.d (.int .i64 ns.a.p), .d (.int .i64 ns.a.e), .d (.sl 1 (strs ns.a.log)), .d (.bool ns.a.lost), .d (.int .i64 ns.b.p), .d (.int .i64 ns.b.e), .d (.sl 1 (strs ns.b.log)), .d (.bool ns.b.lost), .d (.int .i64 ns.c.p), .d (.int .i64 ns.c.e), .d (.sl 1 (strs ns.c.log)), .d (.bool ns.c.lost)]) [] := by
  obtain ⟨h1, h2, h3⟩ := hs
  refine Gives.of_w TryEnv Try.func37 (by decide) TryL37_ok Try.ntmps37 (rs := [.cell 2 25]) rfl (by simp) [] (by decide) ?_
  rw [TryL37]
  repeat' first
    | simp -implicitDefEqProofs only [go_sem, ↓reduceIte, Nat.reduceEqDiff, Nat.reduceAdd, Nat.reduceMul, Nat.reduceSub, Nat.reduceLeDiff, Nat.reduceLT, Nat.reducePow, reduceCtorEq, List.length_cons, List.length_nil, List.map_cons, List.map_nil,
      List.reverse_cons, List.reverse_nil, List.nil_append, List.cons_append, Bool.false_eq_true, Nat.zero_le, List.replicate_zero, List.replicate_succ, List.flatten_nil, List.flatten_cons, true_and, and_true, and_self, List.append_nil, Nat.zero_add, Nat.add_zero,
      List.contains_nil, Nat.le_refl, List.take_zero, List.take_succ_cons, List.drop_zero, List.drop_succ_cons, List.take_length, List.take_nil, List.drop_nil, Option.map_some, Option.map_none, List.getElem?_cons_zero, List.getElem?_cons_succ, List.getElem?_nil, Option.some.injEq,
      Int.toNat_zero, Int.reduceToNat, Int.reduceLT, Int.reduceLE, Int.reduceEq, Int.reduceAdd, Int.reduceSub, Int.reduceMul, Int.reduceNeg, decide_true, decide_false, Bool.not_true, Bool.not_false, beq_self_eq_true, List.mapM_cons, List.mapM_nil, wrap64, wrap8, Int.cast_ofNat_Int, Int.natCast_eq_zero, decide_eq_true_eq, Bool.or_false, Bool.or_true, Bool.or_self, Bool.false_or, Bool.true_or, Option.bind_eq_bind, Option.bind_some, Option.pure_def]
    | (refine wT_unroll TryEnv [(), (), (), ()] ?_)
    | (refine wCall_intro (copied' _ ?_) ?_ ?_ ?_; assumption; rfl; decide)
    | apply And.intro

set_option maxHeartbeats 8000000 in
theorem refRecover_ (ns : N3) (r : R3) (e : Int) (hs : ns.small 1000000) (X : N3 × List ByteArray × Int) (hX : X = recoverN r ns e) :
    Gives Try.prog 12 [.agg [.int .i64 ns.a.p, .int .i64 ns.a.e, .sl 1 (strs ns.a.log), .bool ns.a.lost, .int .i64 ns.b.p, .int .i64 ns.b.e, .sl 1 (strs ns.b.log), .bool ns.b.lost, .int .i64 ns.c.p, .int .i64 ns.c.e, .sl 1 (strs ns.c.log), .bool ns.c.lost], .agg [.int .u8 r.a, .int .u8 r.b, .int .u8 r.c], .c (.int .i64 e)]
    (.tup [.agg [.d (.int .i64 X.1.a.p), .d (.int .i64 X.1.a.e), .d (.sl 1 (strs X.1.a.log)), .d (.bool X.1.a.lost), .d (.int .i64 X.1.b.p), .d (.int .i64 X.1.b.e), .d (.sl 1 (strs X.1.b.log)), .d (.bool X.1.b.lost), .d (.int .i64 X.1.c.p), .d (.int .i64 X.1.c.e), .d (.sl 1 (strs X.1.c.log)), .d (.bool X.1.c.lost)], .c (.d (.sl 1 (strs X.2.1))), .c (.d (.int .i64 X.2.2))]) [] := by
  refine Gives.of_w TryEnv Try.func12 (by decide) TryL12_ok Try.ntmps12 (rs := [.cell 6 25, .tmp 7, .tmp 8]) rfl (by simp) [] (by decide) ?_
  rw [TryL12]
  repeat' first
    | simp -implicitDefEqProofs only [go_sem, ↓reduceIte, Nat.reduceEqDiff, Nat.reduceAdd, Nat.reduceMul, Nat.reduceSub, Nat.reduceLeDiff, Nat.reduceLT, Nat.reducePow, reduceCtorEq, List.length_cons, List.length_nil, List.map_cons, List.map_nil,
      List.reverse_cons, List.reverse_nil, List.nil_append, List.cons_append, Bool.false_eq_true, Nat.zero_le, List.replicate_zero, List.replicate_succ, List.flatten_nil, List.flatten_cons, true_and, and_true, and_self, List.append_nil, Nat.zero_add, Nat.add_zero,
      List.contains_nil, Nat.le_refl, List.take_zero, List.take_succ_cons, List.drop_zero, List.drop_succ_cons, List.take_length, List.take_nil, List.drop_nil, Option.map_some, Option.map_none, List.getElem?_cons_zero, List.getElem?_cons_succ, List.getElem?_nil, Option.some.injEq,
      Int.toNat_zero, Int.reduceToNat, Int.reduceLT, Int.reduceLE, Int.reduceEq, Int.reduceAdd, Int.reduceSub, Int.reduceMul, Int.reduceNeg, decide_true, decide_false, Bool.not_true, Bool.not_false, beq_self_eq_true, List.mapM_cons, List.mapM_nil, wrap64, wrap8, Int.cast_ofNat_Int, Int.natCast_eq_zero, decide_eq_true_eq, Bool.or_false, Bool.or_true, Bool.or_self, Bool.false_or, Bool.true_or, Option.bind_eq_bind, Option.bind_some, Option.pure_def]
    | refine wfork_intro (fun h => ?_) (fun h => ?_)
    | (refine wCall_intro (all37 ns hs) ?_ ?_ ?_; rfl; decide)
  · simp only [decide_eq_true_eq] at h
    simp only [recoverN, if_pos h] at hX
    subst hX
    simp -implicitDefEqProofs only [go_sem, ↓reduceIte, Nat.reduceEqDiff, Nat.reduceAdd, Nat.reduceMul, Nat.reduceSub, Nat.reduceLeDiff, Nat.reduceLT, Nat.reducePow, reduceCtorEq, List.length_cons, List.length_nil, List.map_cons, List.map_nil,
      List.reverse_cons, List.reverse_nil, List.nil_append, List.cons_append, Bool.false_eq_true, Nat.zero_le, List.replicate_zero, List.replicate_succ, List.flatten_nil, List.flatten_cons, true_and, and_true, and_self, List.append_nil, Nat.zero_add, Nat.add_zero,
      List.contains_nil, Nat.le_refl, List.take_zero, List.take_succ_cons, List.drop_zero, List.drop_succ_cons, List.take_length, List.take_nil, List.drop_nil, Option.map_some, Option.map_none, List.getElem?_cons_zero, List.getElem?_cons_succ, List.getElem?_nil, Option.some.injEq,
      Int.toNat_zero, Int.reduceToNat, Int.reduceLT, Int.reduceLE, Int.reduceEq, Int.reduceAdd, Int.reduceSub, Int.reduceMul, Int.reduceNeg, decide_true, decide_false, Bool.not_true, Bool.not_false, beq_self_eq_true, List.mapM_cons, List.mapM_nil, wrap64, wrap8, Int.cast_ofNat_Int, Int.natCast_eq_zero, decide_eq_true_eq, Bool.or_false, Bool.or_true, Bool.or_self, Bool.false_or, Bool.true_or, Option.bind_eq_bind, Option.bind_some, Option.pure_def, strs_nil]
  · simp only [decide_eq_false_iff_not] at h
    simp only [recoverN, if_neg h] at hX
    refine wT_wk (Wk.nil (t := 9) 1 (by simp -implicitDefEqProofs only [go_sem, ↓reduceIte, Nat.reduceEqDiff, Nat.reduceAdd, Nat.reduceMul, Nat.reduceSub, Nat.reduceLeDiff, Nat.reduceLT, Nat.reducePow, reduceCtorEq, List.length_cons, List.length_nil, List.map_cons, List.map_nil,
      List.reverse_cons, List.reverse_nil, List.nil_append, List.cons_append, Bool.false_eq_true, Nat.zero_le, List.replicate_zero, List.replicate_succ, List.flatten_nil, List.flatten_cons, true_and, and_true, and_self, List.append_nil, Nat.zero_add, Nat.add_zero,
      List.contains_nil, Nat.le_refl, List.take_zero, List.take_succ_cons, List.drop_zero, List.drop_succ_cons, List.take_length, List.take_nil, List.drop_nil, Option.map_some, Option.map_none, List.getElem?_cons_zero, List.getElem?_cons_succ, List.getElem?_nil, Option.some.injEq,
      Int.toNat_zero, Int.reduceToNat, Int.reduceLT, Int.reduceLE, Int.reduceEq, Int.reduceAdd, Int.reduceSub, Int.reduceMul, Int.reduceNeg, decide_true, decide_false, Bool.not_true, Bool.not_false, beq_self_eq_true, List.mapM_cons, List.mapM_nil, wrap64, wrap8, Int.cast_ofNat_Int, Int.natCast_eq_zero, decide_eq_true_eq, Bool.or_false, Bool.or_true, Bool.or_self, Bool.false_or, Bool.true_or, Option.bind_eq_bind, Option.bind_some, Option.pure_def])) ?_
    simp -implicitDefEqProofs only [go_sem, ↓reduceIte, Nat.reduceEqDiff, Nat.reduceAdd, Nat.reduceMul, Nat.reduceSub, Nat.reduceLeDiff, Nat.reduceLT, Nat.reducePow, reduceCtorEq, List.length_cons, List.length_nil, List.map_cons, List.map_nil,
      List.reverse_cons, List.reverse_nil, List.nil_append, List.cons_append, Bool.false_eq_true, Nat.zero_le, List.replicate_zero, List.replicate_succ, List.flatten_nil, List.flatten_cons, true_and, and_true, and_self, List.append_nil, Nat.zero_add, Nat.add_zero,
      List.contains_nil, Nat.le_refl, List.take_zero, List.take_succ_cons, List.drop_zero, List.drop_succ_cons, List.take_length, List.take_nil, List.drop_nil, Option.map_some, Option.map_none, List.getElem?_cons_zero, List.getElem?_cons_succ, List.getElem?_nil, Option.some.injEq,
      Int.toNat_zero, Int.reduceToNat, Int.reduceLT, Int.reduceLE, Int.reduceEq, Int.reduceAdd, Int.reduceSub, Int.reduceMul, Int.reduceNeg, decide_true, decide_false, Bool.not_true, Bool.not_false, beq_self_eq_true, List.mapM_cons, List.mapM_nil, wrap64, wrap8, Int.cast_ofNat_Int, Int.natCast_eq_zero, decide_eq_true_eq, Bool.or_false, Bool.or_true, Bool.or_self, Bool.false_or, Bool.true_or, Option.bind_eq_bind, Option.bind_some, Option.pure_def]
    refine wT_loop (fun k : To3 => ⟨[(2, .c (.d (.int .i64 e))), (3, .c (.ptr 0 0)), (4, .c (.ptr 4 0)), (6, .c (.ptr 8 0)), (9, .c (.ref 48 (callK (promiseN · e) r ns k).2.length 0 (callK (promiseN · e) r ns k).2.length)), (10, .c (.d (.int .i64 k.1)))], [
      (0, .box [.d (.int .i64 ((callK (promiseN · e) r ns k).1.a).p), .d (.int .i64 ((callK (promiseN · e) r ns k).1.a).e), .d (.sl 1 (strs ((callK (promiseN · e) r ns k).1.a).log)), .d (.bool ((callK (promiseN · e) r ns k).1.a).lost), .d (.int .i64 ((callK (promiseN · e) r ns k).1.b).p), .d (.int .i64 ((callK (promiseN · e) r ns k).1.b).e), .d (.sl 1 (strs ((callK (promiseN · e) r ns k).1.b).log)), .d (.bool ((callK (promiseN · e) r ns k).1.b).lost), .d (.int .i64 ((callK (promiseN · e) r ns k).1.c).p), .d (.int .i64 ((callK (promiseN · e) r ns k).1.c).e), .d (.sl 1 (strs ((callK (promiseN · e) r ns k).1.c).log)), .d (.bool ((callK (promiseN · e) r ns k).1.c).lost)]), (4, .box [.d (.int .u8 r.a), .d (.int .u8 r.b), .d (.int .u8 r.c)]), (8, .box [.d (.int .i64 0), .d (.int .i64 0), .d .nilSl, .d (.bool false), .d (.int .i64 0), .d (.int .i64 0), .d .nilSl, .d (.bool false), .d (.int .i64 0), .d (.int .i64 0), .d .nilSl, .d (.bool false)]),
      (48, .sl 1 (nums (callK (promiseN · e) r ns k).2) false)], 49⟩) (fun k => (3 - k.1).toNat) ⟨0, by omega⟩ ?_ ?_
    · refine Wk.sub ?_ ?_ ?_ ?_ ?_ ?_
      all_goals simp -implicitDefEqProofs only [go_sem, ↓reduceIte, Nat.reduceEqDiff, Nat.reduceAdd, Nat.reduceMul, Nat.reduceSub, Nat.reduceLeDiff, Nat.reduceLT, Nat.reducePow, reduceCtorEq, List.length_cons, List.length_nil, List.map_cons, List.map_nil,
      List.reverse_cons, List.reverse_nil, List.nil_append, List.cons_append, Bool.false_eq_true, Nat.zero_le, List.replicate_zero, List.replicate_succ, List.flatten_nil, List.flatten_cons, true_and, and_true, and_self, List.append_nil, Nat.zero_add, Nat.add_zero,
      List.contains_nil, Nat.le_refl, List.take_zero, List.take_succ_cons, List.drop_zero, List.drop_succ_cons, List.take_length, List.take_nil, List.drop_nil, Option.map_some, Option.map_none, List.getElem?_cons_zero, List.getElem?_cons_succ, List.getElem?_nil, Option.some.injEq,
      Int.toNat_zero, Int.reduceToNat, Int.reduceLT, Int.reduceLE, Int.reduceEq, Int.reduceAdd, Int.reduceSub, Int.reduceMul, Int.reduceNeg, decide_true, decide_false, Bool.not_true, Bool.not_false, beq_self_eq_true, List.mapM_cons, List.mapM_nil, wrap64, wrap8, Int.cast_ofNat_Int, Int.natCast_eq_zero, decide_eq_true_eq, Bool.or_false, Bool.or_true, Bool.or_self, Bool.false_or, Bool.true_or, Option.bind_eq_bind, Option.bind_some, Option.pure_def, callK_0, nums_nil]
    · have hsm : (callN (promiseN · e) r ns).1.small 1000000 := callN_small (fun n hn => Nat.le_trans (promiseN_len n e) hn) r hs
      obtain ⟨hs1, hs2, hs3⟩ := hs
      refine To3.all ?_ ?_ ?_ ?_
      all_goals refine wT_of TryEnv ?_
      all_goals simp only [callK_0, callK_1, callK_2]
      · have l1 := stepN_len (promiseN · e) r.a 0 ns.a []
        have l2 := stepN_len (promiseN · e) r.b 1 ns.b (stepN (promiseN · e) r.a 0 ns.a []).2
        simp only [List.length_nil] at l1 l2
        repeat' first
          | simp -implicitDefEqProofs only [go_sem, ↓reduceIte, Nat.reduceEqDiff, Nat.reduceAdd, Nat.reduceMul, Nat.reduceSub, Nat.reduceLeDiff, Nat.reduceLT, Nat.reducePow, reduceCtorEq, List.length_cons, List.length_nil, List.map_cons, List.map_nil,
      List.reverse_cons, List.reverse_nil, List.nil_append, List.cons_append, Bool.false_eq_true, Nat.zero_le, List.replicate_zero, List.replicate_succ, List.flatten_nil, List.flatten_cons, true_and, and_true, and_self, List.append_nil, Nat.zero_add, Nat.add_zero,
      List.contains_nil, Nat.le_refl, List.take_zero, List.take_succ_cons, List.drop_zero, List.drop_succ_cons, List.take_length, List.take_nil, List.drop_nil, Option.map_some, Option.map_none, List.getElem?_cons_zero, List.getElem?_cons_succ, List.getElem?_nil, Option.some.injEq,
      Int.toNat_zero, Int.reduceToNat, Int.reduceLT, Int.reduceLE, Int.reduceEq, Int.reduceAdd, Int.reduceSub, Int.reduceMul, Int.reduceNeg, decide_true, decide_false, Bool.not_true, Bool.not_false, beq_self_eq_true, List.mapM_cons, List.mapM_nil, wrap64, wrap8, Int.cast_ofNat_Int, Int.natCast_eq_zero, decide_eq_true_eq, Bool.or_false, Bool.or_true, Bool.or_self, Bool.false_or, Bool.true_or, Option.bind_eq_bind, Option.bind_some, Option.pure_def]
          | (refine wCall_intro (arrives38 _) ?_ ?_ ?_; rfl; decide)
          | (refine wCall_intro (refPromise' _ _ ?_) ?_ ?_ ?_; assumption; rfl; decide)
          | refine wfork_intro (fun h => ?_) (fun h => ?_)
          | apply And.intro
        all_goals first
          | (simp only [mostBytes]; omega)
          | skip
        all_goals clear l1 l2 hX hsm
        all_goals simp only [Bool.not_eq_true', Bool.not_eq_false', Bool.not_eq_true, decide_eq_true_eq, decide_eq_false_iff_not] at *
        all_goals refine ⟨⟨1, by omega⟩, Wk.sub ?_ ?_ (by decide) (by decide) ?_ ?_, by simp⟩
        all_goals simp -implicitDefEqProofs only [go_sem, ↓reduceIte, Nat.reduceEqDiff, Nat.reduceAdd, Nat.reduceMul, Nat.reduceSub, Nat.reduceLeDiff, Nat.reduceLT, Nat.reducePow, reduceCtorEq, List.length_cons, List.length_nil, List.map_cons, List.map_nil,
      List.reverse_cons, List.reverse_nil, List.nil_append, List.cons_append, Bool.false_eq_true, Nat.zero_le, List.replicate_zero, List.replicate_succ, List.flatten_nil, List.flatten_cons, true_and, and_true, and_self, List.append_nil, Nat.zero_add, Nat.add_zero,
      List.contains_nil, Nat.le_refl, List.take_zero, List.take_succ_cons, List.drop_zero, List.drop_succ_cons, List.take_length, List.take_nil, List.drop_nil, Option.map_some, Option.map_none, List.getElem?_cons_zero, List.getElem?_cons_succ, List.getElem?_nil, Option.some.injEq,
      Int.toNat_zero, Int.reduceToNat, Int.reduceLT, Int.reduceLE, Int.reduceEq, Int.reduceAdd, Int.reduceSub, Int.reduceMul, Int.reduceNeg, decide_true, decide_false, Bool.not_true, Bool.not_false, beq_self_eq_true, List.mapM_cons, List.mapM_nil, wrap64, wrap8, Int.cast_ofNat_Int, Int.natCast_eq_zero, decide_eq_true_eq, Bool.or_false, Bool.or_true, Bool.or_self, Bool.false_or, Bool.true_or, Option.bind_eq_bind, Option.bind_some, Option.pure_def, callK_0, callK_1, callK_2, callK_3, nums_nil, stepN_no, stepN_err, stepN_ok, stepN_there, arrivesN_0, List.length_append, ne_eq, not_true_eq_false, not_false_eq_true, *]
      · have l1 := stepN_len (promiseN · e) r.a 0 ns.a []
        have l2 := stepN_len (promiseN · e) r.b 1 ns.b (stepN (promiseN · e) r.a 0 ns.a []).2
        simp only [List.length_nil] at l1 l2
        repeat' first
          | simp -implicitDefEqProofs only [go_sem, ↓reduceIte, Nat.reduceEqDiff, Nat.reduceAdd, Nat.reduceMul, Nat.reduceSub, Nat.reduceLeDiff, Nat.reduceLT, Nat.reducePow, reduceCtorEq, List.length_cons, List.length_nil, List.map_cons, List.map_nil,
      List.reverse_cons, List.reverse_nil, List.nil_append, List.cons_append, Bool.false_eq_true, Nat.zero_le, List.replicate_zero, List.replicate_succ, List.flatten_nil, List.flatten_cons, true_and, and_true, and_self, List.append_nil, Nat.zero_add, Nat.add_zero,
      List.contains_nil, Nat.le_refl, List.take_zero, List.take_succ_cons, List.drop_zero, List.drop_succ_cons, List.take_length, List.take_nil, List.drop_nil, Option.map_some, Option.map_none, List.getElem?_cons_zero, List.getElem?_cons_succ, List.getElem?_nil, Option.some.injEq,
      Int.toNat_zero, Int.reduceToNat, Int.reduceLT, Int.reduceLE, Int.reduceEq, Int.reduceAdd, Int.reduceSub, Int.reduceMul, Int.reduceNeg, decide_true, decide_false, Bool.not_true, Bool.not_false, beq_self_eq_true, List.mapM_cons, List.mapM_nil, wrap64, wrap8, Int.cast_ofNat_Int, Int.natCast_eq_zero, decide_eq_true_eq, Bool.or_false, Bool.or_true, Bool.or_self, Bool.false_or, Bool.true_or, Option.bind_eq_bind, Option.bind_some, Option.pure_def]
          | (refine wCall_intro (arrives38 _) ?_ ?_ ?_; rfl; decide)
          | (refine wCall_intro (refPromise' _ _ ?_) ?_ ?_ ?_; assumption; rfl; decide)
          | refine wfork_intro (fun h => ?_) (fun h => ?_)
          | apply And.intro
        all_goals first
          | (simp only [mostBytes]; omega)
          | skip
        all_goals clear l1 l2 hX hsm
        all_goals simp only [Bool.not_eq_true', Bool.not_eq_false', Bool.not_eq_true, decide_eq_true_eq, decide_eq_false_iff_not] at *
        all_goals refine ⟨⟨2, by omega⟩, Wk.sub ?_ ?_ (by decide) (by decide) ?_ ?_, by simp⟩
        all_goals simp -implicitDefEqProofs only [go_sem, ↓reduceIte, Nat.reduceEqDiff, Nat.reduceAdd, Nat.reduceMul, Nat.reduceSub, Nat.reduceLeDiff, Nat.reduceLT, Nat.reducePow, reduceCtorEq, List.length_cons, List.length_nil, List.map_cons, List.map_nil,
      List.reverse_cons, List.reverse_nil, List.nil_append, List.cons_append, Bool.false_eq_true, Nat.zero_le, List.replicate_zero, List.replicate_succ, List.flatten_nil, List.flatten_cons, true_and, and_true, and_self, List.append_nil, Nat.zero_add, Nat.add_zero,
      List.contains_nil, Nat.le_refl, List.take_zero, List.take_succ_cons, List.drop_zero, List.drop_succ_cons, List.take_length, List.take_nil, List.drop_nil, Option.map_some, Option.map_none, List.getElem?_cons_zero, List.getElem?_cons_succ, List.getElem?_nil, Option.some.injEq,
      Int.toNat_zero, Int.reduceToNat, Int.reduceLT, Int.reduceLE, Int.reduceEq, Int.reduceAdd, Int.reduceSub, Int.reduceMul, Int.reduceNeg, decide_true, decide_false, Bool.not_true, Bool.not_false, beq_self_eq_true, List.mapM_cons, List.mapM_nil, wrap64, wrap8, Int.cast_ofNat_Int, Int.natCast_eq_zero, decide_eq_true_eq, Bool.or_false, Bool.or_true, Bool.or_self, Bool.false_or, Bool.true_or, Option.bind_eq_bind, Option.bind_some, Option.pure_def, callK_0, callK_1, callK_2, callK_3, nums_nil, stepN_no, stepN_err, stepN_ok, stepN_there, arrivesN_0, List.length_append, ne_eq, not_true_eq_false, not_false_eq_true, *]
      · have l1 := stepN_len (promiseN · e) r.a 0 ns.a []
        have l2 := stepN_len (promiseN · e) r.b 1 ns.b (stepN (promiseN · e) r.a 0 ns.a []).2
        simp only [List.length_nil] at l1 l2
        repeat' first
          | simp -implicitDefEqProofs only [go_sem, ↓reduceIte, Nat.reduceEqDiff, Nat.reduceAdd, Nat.reduceMul, Nat.reduceSub, Nat.reduceLeDiff, Nat.reduceLT, Nat.reducePow, reduceCtorEq, List.length_cons, List.length_nil, List.map_cons, List.map_nil,
      List.reverse_cons, List.reverse_nil, List.nil_append, List.cons_append, Bool.false_eq_true, Nat.zero_le, List.replicate_zero, List.replicate_succ, List.flatten_nil, List.flatten_cons, true_and, and_true, and_self, List.append_nil, Nat.zero_add, Nat.add_zero,
      List.contains_nil, Nat.le_refl, List.take_zero, List.take_succ_cons, List.drop_zero, List.drop_succ_cons, List.take_length, List.take_nil, List.drop_nil, Option.map_some, Option.map_none, List.getElem?_cons_zero, List.getElem?_cons_succ, List.getElem?_nil, Option.some.injEq,
      Int.toNat_zero, Int.reduceToNat, Int.reduceLT, Int.reduceLE, Int.reduceEq, Int.reduceAdd, Int.reduceSub, Int.reduceMul, Int.reduceNeg, decide_true, decide_false, Bool.not_true, Bool.not_false, beq_self_eq_true, List.mapM_cons, List.mapM_nil, wrap64, wrap8, Int.cast_ofNat_Int, Int.natCast_eq_zero, decide_eq_true_eq, Bool.or_false, Bool.or_true, Bool.or_self, Bool.false_or, Bool.true_or, Option.bind_eq_bind, Option.bind_some, Option.pure_def]
          | (refine wCall_intro (arrives38 _) ?_ ?_ ?_; rfl; decide)
          | (refine wCall_intro (refPromise' _ _ ?_) ?_ ?_ ?_; assumption; rfl; decide)
          | refine wfork_intro (fun h => ?_) (fun h => ?_)
          | apply And.intro
        all_goals first
          | (simp only [mostBytes]; omega)
          | skip
        all_goals clear l1 l2 hX hsm
        all_goals simp only [Bool.not_eq_true', Bool.not_eq_false', Bool.not_eq_true, decide_eq_true_eq, decide_eq_false_iff_not] at *
        all_goals refine ⟨⟨3, by omega⟩, Wk.sub ?_ ?_ (by decide) (by decide) ?_ ?_, by simp⟩
        all_goals simp -implicitDefEqProofs only [go_sem, ↓reduceIte, Nat.reduceEqDiff, Nat.reduceAdd, Nat.reduceMul, Nat.reduceSub, Nat.reduceLeDiff, Nat.reduceLT, Nat.reducePow, reduceCtorEq, List.length_cons, List.length_nil, List.map_cons, List.map_nil,
      List.reverse_cons, List.reverse_nil, List.nil_append, List.cons_append, Bool.false_eq_true, Nat.zero_le, List.replicate_zero, List.replicate_succ, List.flatten_nil, List.flatten_cons, true_and, and_true, and_self, List.append_nil, Nat.zero_add, Nat.add_zero,
      List.contains_nil, Nat.le_refl, List.take_zero, List.take_succ_cons, List.drop_zero, List.drop_succ_cons, List.take_length, List.take_nil, List.drop_nil, Option.map_some, Option.map_none, List.getElem?_cons_zero, List.getElem?_cons_succ, List.getElem?_nil, Option.some.injEq,
      Int.toNat_zero, Int.reduceToNat, Int.reduceLT, Int.reduceLE, Int.reduceEq, Int.reduceAdd, Int.reduceSub, Int.reduceMul, Int.reduceNeg, decide_true, decide_false, Bool.not_true, Bool.not_false, beq_self_eq_true, List.mapM_cons, List.mapM_nil, wrap64, wrap8, Int.cast_ofNat_Int, Int.natCast_eq_zero, decide_eq_true_eq, Bool.or_false, Bool.or_true, Bool.or_self, Bool.false_or, Bool.true_or, Option.bind_eq_bind, Option.bind_some, Option.pure_def, callK_0, callK_1, callK_2, callK_3, nums_nil, stepN_no, stepN_err, stepN_ok, stepN_there, arrivesN_0, List.length_append, ne_eq, not_true_eq_false, not_false_eq_true, *]
      · have hj := callN_cases (promiseN · e) r ns
        have e3 : callK (promiseN · e) r ns 3 = callN (promiseN · e) r ns := rfl
        rw [e3]
        generalize callN (promiseN · e) r ns = s at *
        obtain ⟨⟨a, b, c⟩, l⟩ := s
        obtain ⟨ha, hb, hc⟩ := hsm
        dsimp only at hj ha hb hc hX ⊢
        rcases hj with rfl | rfl | rfl | rfl | rfl | rfl | rfl | rfl
        iterate 4
          · simp -implicitDefEqProofs only [go_sem, ↓reduceIte, Nat.reduceEqDiff, Nat.reduceAdd, Nat.reduceMul, Nat.reduceSub, Nat.reduceLeDiff, Nat.reduceLT, Nat.reducePow, reduceCtorEq, List.length_cons, List.length_nil, List.map_cons, List.map_nil,
      List.reverse_cons, List.reverse_nil, List.nil_append, List.cons_append, Bool.false_eq_true, Nat.zero_le, List.replicate_zero, List.replicate_succ, List.flatten_nil, List.flatten_cons, true_and, and_true, and_self, List.append_nil, Nat.zero_add, Nat.add_zero,
      List.contains_nil, Nat.le_refl, List.take_zero, List.take_succ_cons, List.drop_zero, List.drop_succ_cons, List.take_length, List.take_nil, List.drop_nil, Option.map_some, Option.map_none, List.getElem?_cons_zero, List.getElem?_cons_succ, List.getElem?_nil, Option.some.injEq,
      Int.toNat_zero, Int.reduceToNat, Int.reduceLT, Int.reduceLE, Int.reduceEq, Int.reduceAdd, Int.reduceSub, Int.reduceMul, Int.reduceNeg, decide_true, decide_false, Bool.not_true, Bool.not_false, beq_self_eq_true, List.mapM_cons, List.mapM_nil, wrap64, wrap8, Int.cast_ofNat_Int, Int.natCast_eq_zero, decide_eq_true_eq, Bool.or_false, Bool.or_true, Bool.or_self, Bool.false_or, Bool.true_or, Option.bind_eq_bind, Option.bind_some, Option.pure_def, nums_cons, nums_nil]
            subst hX
            simp only [go_sem, List.length_cons, List.length_nil, Nat.reduceAdd, Nat.reduceLT, ↓reduceIte, strs_nil, and_self]
        · simp -implicitDefEqProofs only [go_sem, ↓reduceIte, Nat.reduceEqDiff, Nat.reduceAdd, Nat.reduceMul, Nat.reduceSub, Nat.reduceLeDiff, Nat.reduceLT, Nat.reducePow, reduceCtorEq, List.length_cons, List.length_nil, List.map_cons, List.map_nil,
      List.reverse_cons, List.reverse_nil, List.nil_append, List.cons_append, Bool.false_eq_true, Nat.zero_le, List.replicate_zero, List.replicate_succ, List.flatten_nil, List.flatten_cons, true_and, and_true, and_self, List.append_nil, Nat.zero_add, Nat.add_zero,
      List.contains_nil, Nat.le_refl, List.take_zero, List.take_succ_cons, List.drop_zero, List.drop_succ_cons, List.take_length, List.take_nil, List.drop_nil, Option.map_some, Option.map_none, List.getElem?_cons_zero, List.getElem?_cons_succ, List.getElem?_nil, Option.some.injEq,
      Int.toNat_zero, Int.reduceToNat, Int.reduceLT, Int.reduceLE, Int.reduceEq, Int.reduceAdd, Int.reduceSub, Int.reduceMul, Int.reduceNeg, decide_true, decide_false, Bool.not_true, Bool.not_false, beq_self_eq_true, List.mapM_cons, List.mapM_nil, wrap64, wrap8, Int.cast_ofNat_Int, Int.natCast_eq_zero, decide_eq_true_eq, Bool.or_false, Bool.or_true, Bool.or_self, Bool.false_or, Bool.true_or, Option.bind_eq_bind, Option.bind_some, Option.pure_def, nums_cons, nums_nil]
          refine wT_loop (fun k : { k : Nat // 1 ≤ k ∧ k ≤ 2 } => ⟨[(2, .c (.d (.int .i64 e))), (3, .c (.ptr 0 0)), (4, .c (.ptr 4 0)), (6, .c (.ptr 8 0)), (9, .c (.ref 48 2 0 2)), (13, .c (.ptr 89 0)), (14, .c (.d (.int .i64 (k.1 : Nat))))], [
            (0, .box [.d (.int .i64 a.p), .d (.int .i64 a.e), .d (.sl 1 (strs a.log)), .d (.bool a.lost), .d (.int .i64 b.p), .d (.int .i64 b.e), .d (.sl 1 (strs b.log)), .d (.bool b.lost), .d (.int .i64 c.p), .d (.int .i64 c.e), .d (.sl 1 (strs c.log)), .d (.bool c.lost)]), (4, .box [.d (.int .u8 r.a), .d (.int .u8 r.b), .d (.int .u8 r.c)]), (8, .box [.d (.int .i64 0), .d (.int .i64 0), .d .nilSl, .d (.bool false), .d (.int .i64 0), .d (.int .i64 0), .d .nilSl, .d (.bool false), .d (.int .i64 0), .d (.int .i64 0), .d .nilSl, .d (.bool false)]), (48, .sl 1 [[.int .i64 0], [.int .i64 1]] false), (89, .box [.d (.int .i64 (bestN ⟨a, b, c⟩ ([0, 1].take k.1)).p), .d (.int .i64 (bestN ⟨a, b, c⟩ ([0, 1].take k.1)).e), .d (.sl 1 (strs (bestN ⟨a, b, c⟩ ([0, 1].take k.1)).log)), .d (.bool (bestN ⟨a, b, c⟩ ([0, 1].take k.1)).lost)])], 101⟩) (fun k => 2 - k.1) ⟨1, by omega⟩ ?_ ?_
          · refine Wk.sub ?_ ?_ ?_ ?_ ?_ ?_
            all_goals simp -implicitDefEqProofs only [go_sem, ↓reduceIte, Nat.reduceEqDiff, Nat.reduceAdd, Nat.reduceMul, Nat.reduceSub, Nat.reduceLeDiff, Nat.reduceLT, Nat.reducePow, reduceCtorEq, List.length_cons, List.length_nil, List.map_cons, List.map_nil,
      List.reverse_cons, List.reverse_nil, List.nil_append, List.cons_append, Bool.false_eq_true, Nat.zero_le, List.replicate_zero, List.replicate_succ, List.flatten_nil, List.flatten_cons, true_and, and_true, and_self, List.append_nil, Nat.zero_add, Nat.add_zero,
      List.contains_nil, Nat.le_refl, List.take_zero, List.take_succ_cons, List.drop_zero, List.drop_succ_cons, List.take_length, List.take_nil, List.drop_nil, Option.map_some, Option.map_none, List.getElem?_cons_zero, List.getElem?_cons_succ, List.getElem?_nil, Option.some.injEq,
      Int.toNat_zero, Int.reduceToNat, Int.reduceLT, Int.reduceLE, Int.reduceEq, Int.reduceAdd, Int.reduceSub, Int.reduceMul, Int.reduceNeg, decide_true, decide_false, Bool.not_true, Bool.not_false, beq_self_eq_true, List.mapM_cons, List.mapM_nil, wrap64, wrap8, Int.cast_ofNat_Int, Int.natCast_eq_zero, decide_eq_true_eq, Bool.or_false, Bool.or_true, Bool.or_self, Bool.false_or, Bool.true_or, Option.bind_eq_bind, Option.bind_some, Option.pure_def, bestN, List.foldl_nil, N3.get, Int.natCast_one, Int.reduceEq]
          · rintro ⟨k, hk1, hk2⟩
            have hk : k = 1 ∨ k = 2 := by omega
            rcases hk with rfl | rfl
            all_goals refine wT_of TryEnv ?_
            · have en : bestN ⟨a, b, c⟩ [0, 1] = if betterN b (bestN ⟨a, b, c⟩ ([0, 1].take 1)) then b else bestN ⟨a, b, c⟩ ([0, 1].take 1) := rfl
              generalize bestN ⟨a, b, c⟩ ([0, 1].take 1) = m at *
              clear hX
              repeat' first
                | simp -implicitDefEqProofs only [go_sem, ↓reduceIte, Nat.reduceEqDiff, Nat.reduceAdd, Nat.reduceMul, Nat.reduceSub, Nat.reduceLeDiff, Nat.reduceLT, Nat.reducePow, reduceCtorEq, List.length_cons, List.length_nil, List.map_cons, List.map_nil,
      List.reverse_cons, List.reverse_nil, List.nil_append, List.cons_append, Bool.false_eq_true, Nat.zero_le, List.replicate_zero, List.replicate_succ, List.flatten_nil, List.flatten_cons, true_and, and_true, and_self, List.append_nil, Nat.zero_add, Nat.add_zero,
      List.contains_nil, Nat.le_refl, List.take_zero, List.take_succ_cons, List.drop_zero, List.drop_succ_cons, List.take_length, List.take_nil, List.drop_nil, Option.map_some, Option.map_none, List.getElem?_cons_zero, List.getElem?_cons_succ, List.getElem?_nil, Option.some.injEq,
      Int.toNat_zero, Int.reduceToNat, Int.reduceLT, Int.reduceLE, Int.reduceEq, Int.reduceAdd, Int.reduceSub, Int.reduceMul, Int.reduceNeg, decide_true, decide_false, Bool.not_true, Bool.not_false, beq_self_eq_true, List.mapM_cons, List.mapM_nil, wrap64, wrap8, Int.cast_ofNat_Int, Int.natCast_eq_zero, decide_eq_true_eq, Bool.or_false, Bool.or_true, Bool.or_self, Bool.false_or, Bool.true_or, Option.bind_eq_bind, Option.bind_some, Option.pure_def]
                | refine wfork_intro (fun h => ?_) (fun h => ?_)
              all_goals simp only [decide_eq_true_eq, decide_eq_false_iff_not] at *
              all_goals refine ⟨⟨2, by omega⟩, Wk.sub ?_ ?_ (by decide) (by decide) ?_ ?_, by simp⟩
              all_goals simp -implicitDefEqProofs only [go_sem, ↓reduceIte, Nat.reduceEqDiff, Nat.reduceAdd, Nat.reduceMul, Nat.reduceSub, Nat.reduceLeDiff, Nat.reduceLT, Nat.reducePow, reduceCtorEq, List.length_cons, List.length_nil, List.map_cons, List.map_nil,
      List.reverse_cons, List.reverse_nil, List.nil_append, List.cons_append, Bool.false_eq_true, Nat.zero_le, List.replicate_zero, List.replicate_succ, List.flatten_nil, List.flatten_cons, true_and, and_true, and_self, List.append_nil, Nat.zero_add, Nat.add_zero,
      List.contains_nil, Nat.le_refl, List.take_zero, List.take_succ_cons, List.drop_zero, List.drop_succ_cons, List.take_length, List.take_nil, List.drop_nil, Option.map_some, Option.map_none, List.getElem?_cons_zero, List.getElem?_cons_succ, List.getElem?_nil, Option.some.injEq,
      Int.toNat_zero, Int.reduceToNat, Int.reduceLT, Int.reduceLE, Int.reduceEq, Int.reduceAdd, Int.reduceSub, Int.reduceMul, Int.reduceNeg, decide_true, decide_false, Bool.not_true, Bool.not_false, beq_self_eq_true, List.mapM_cons, List.mapM_nil, wrap64, wrap8, Int.cast_ofNat_Int, Int.natCast_eq_zero, decide_eq_true_eq, Bool.or_false, Bool.or_true, Bool.or_self, Bool.false_or, Bool.true_or, Option.bind_eq_bind, Option.bind_some, Option.pure_def, en, betterN_1, betterN_2, betterN_3, betterN_4, not_false_eq_true, Int.cast_ofNat_Int, *]
            · have hm : (bestN ⟨a, b, c⟩ ([0, 1].take 2)).log.length ≤ 1000000 := bestN_len ha hb hc _
              have em : ([0, 1] : List Int).take 2 = [0, 1] := rfl
              simp only [em] at hm ⊢
              generalize bestN ⟨a, b, c⟩ [0, 1] = m at *
              repeat' first
                | simp -implicitDefEqProofs only [go_sem, ↓reduceIte, Nat.reduceEqDiff, Nat.reduceAdd, Nat.reduceMul, Nat.reduceSub, Nat.reduceLeDiff, Nat.reduceLT, Nat.reducePow, reduceCtorEq, List.length_cons, List.length_nil, List.map_cons, List.map_nil,
      List.reverse_cons, List.reverse_nil, List.nil_append, List.cons_append, Bool.false_eq_true, Nat.zero_le, List.replicate_zero, List.replicate_succ, List.flatten_nil, List.flatten_cons, true_and, and_true, and_self, List.append_nil, Nat.zero_add, Nat.add_zero,
      List.contains_nil, Nat.le_refl, List.take_zero, List.take_succ_cons, List.drop_zero, List.drop_succ_cons, List.take_length, List.take_nil, List.drop_nil, Option.map_some, Option.map_none, List.getElem?_cons_zero, List.getElem?_cons_succ, List.getElem?_nil, Option.some.injEq,
      Int.toNat_zero, Int.reduceToNat, Int.reduceLT, Int.reduceLE, Int.reduceEq, Int.reduceAdd, Int.reduceSub, Int.reduceMul, Int.reduceNeg, decide_true, decide_false, Bool.not_true, Bool.not_false, beq_self_eq_true, List.mapM_cons, List.mapM_nil, wrap64, wrap8, Int.cast_ofNat_Int, Int.natCast_eq_zero, decide_eq_true_eq, Bool.or_false, Bool.or_true, Bool.or_self, Bool.false_or, Bool.true_or, Option.bind_eq_bind, Option.bind_some, Option.pure_def, nums_cons, nums_nil]
                | (refine wT_unroll TryEnv [(), (), (), ()] ?_)
                | (refine wCall_intro (ownLog _ ?_) ?_ ?_ ?_; assumption; rfl; decide)
                | refine Also.mk (by decide) ?_
              subst hX
              simp only [go_sem, List.length_cons, List.length_nil, Nat.reduceAdd, Nat.reduceLT, ↓reduceIte, List.foldl_cons, List.foldl_nil, N3.set, Int.reduceEq, madeN, and_self]
        · simp -implicitDefEqProofs only [go_sem, ↓reduceIte, Nat.reduceEqDiff, Nat.reduceAdd, Nat.reduceMul, Nat.reduceSub, Nat.reduceLeDiff, Nat.reduceLT, Nat.reducePow, reduceCtorEq, List.length_cons, List.length_nil, List.map_cons, List.map_nil,
      List.reverse_cons, List.reverse_nil, List.nil_append, List.cons_append, Bool.false_eq_true, Nat.zero_le, List.replicate_zero, List.replicate_succ, List.flatten_nil, List.flatten_cons, true_and, and_true, and_self, List.append_nil, Nat.zero_add, Nat.add_zero,
      List.contains_nil, Nat.le_refl, List.take_zero, List.take_succ_cons, List.drop_zero, List.drop_succ_cons, List.take_length, List.take_nil, List.drop_nil, Option.map_some, Option.map_none, List.getElem?_cons_zero, List.getElem?_cons_succ, List.getElem?_nil, Option.some.injEq,
      Int.toNat_zero, Int.reduceToNat, Int.reduceLT, Int.reduceLE, Int.reduceEq, Int.reduceAdd, Int.reduceSub, Int.reduceMul, Int.reduceNeg, decide_true, decide_false, Bool.not_true, Bool.not_false, beq_self_eq_true, List.mapM_cons, List.mapM_nil, wrap64, wrap8, Int.cast_ofNat_Int, Int.natCast_eq_zero, decide_eq_true_eq, Bool.or_false, Bool.or_true, Bool.or_self, Bool.false_or, Bool.true_or, Option.bind_eq_bind, Option.bind_some, Option.pure_def, nums_cons, nums_nil]
          refine wT_loop (fun k : { k : Nat // 1 ≤ k ∧ k ≤ 2 } => ⟨[(2, .c (.d (.int .i64 e))), (3, .c (.ptr 0 0)), (4, .c (.ptr 4 0)), (6, .c (.ptr 8 0)), (9, .c (.ref 48 2 0 2)), (13, .c (.ptr 89 0)), (14, .c (.d (.int .i64 (k.1 : Nat))))], [
            (0, .box [.d (.int .i64 a.p), .d (.int .i64 a.e), .d (.sl 1 (strs a.log)), .d (.bool a.lost), .d (.int .i64 b.p), .d (.int .i64 b.e), .d (.sl 1 (strs b.log)), .d (.bool b.lost), .d (.int .i64 c.p), .d (.int .i64 c.e), .d (.sl 1 (strs c.log)), .d (.bool c.lost)]), (4, .box [.d (.int .u8 r.a), .d (.int .u8 r.b), .d (.int .u8 r.c)]), (8, .box [.d (.int .i64 0), .d (.int .i64 0), .d .nilSl, .d (.bool false), .d (.int .i64 0), .d (.int .i64 0), .d .nilSl, .d (.bool false), .d (.int .i64 0), .d (.int .i64 0), .d .nilSl, .d (.bool false)]), (48, .sl 1 [[.int .i64 0], [.int .i64 2]] false), (89, .box [.d (.int .i64 (bestN ⟨a, b, c⟩ ([0, 2].take k.1)).p), .d (.int .i64 (bestN ⟨a, b, c⟩ ([0, 2].take k.1)).e), .d (.sl 1 (strs (bestN ⟨a, b, c⟩ ([0, 2].take k.1)).log)), .d (.bool (bestN ⟨a, b, c⟩ ([0, 2].take k.1)).lost)])], 101⟩) (fun k => 2 - k.1) ⟨1, by omega⟩ ?_ ?_
          · refine Wk.sub ?_ ?_ ?_ ?_ ?_ ?_
            all_goals simp -implicitDefEqProofs only [go_sem, ↓reduceIte, Nat.reduceEqDiff, Nat.reduceAdd, Nat.reduceMul, Nat.reduceSub, Nat.reduceLeDiff, Nat.reduceLT, Nat.reducePow, reduceCtorEq, List.length_cons, List.length_nil, List.map_cons, List.map_nil,
      List.reverse_cons, List.reverse_nil, List.nil_append, List.cons_append, Bool.false_eq_true, Nat.zero_le, List.replicate_zero, List.replicate_succ, List.flatten_nil, List.flatten_cons, true_and, and_true, and_self, List.append_nil, Nat.zero_add, Nat.add_zero,
      List.contains_nil, Nat.le_refl, List.take_zero, List.take_succ_cons, List.drop_zero, List.drop_succ_cons, List.take_length, List.take_nil, List.drop_nil, Option.map_some, Option.map_none, List.getElem?_cons_zero, List.getElem?_cons_succ, List.getElem?_nil, Option.some.injEq,
      Int.toNat_zero, Int.reduceToNat, Int.reduceLT, Int.reduceLE, Int.reduceEq, Int.reduceAdd, Int.reduceSub, Int.reduceMul, Int.reduceNeg, decide_true, decide_false, Bool.not_true, Bool.not_false, beq_self_eq_true, List.mapM_cons, List.mapM_nil, wrap64, wrap8, Int.cast_ofNat_Int, Int.natCast_eq_zero, decide_eq_true_eq, Bool.or_false, Bool.or_true, Bool.or_self, Bool.false_or, Bool.true_or, Option.bind_eq_bind, Option.bind_some, Option.pure_def, bestN, List.foldl_nil, N3.get, Int.natCast_one, Int.reduceEq]
          · rintro ⟨k, hk1, hk2⟩
            have hk : k = 1 ∨ k = 2 := by omega
            rcases hk with rfl | rfl
            all_goals refine wT_of TryEnv ?_
            · have en : bestN ⟨a, b, c⟩ [0, 2] = if betterN c (bestN ⟨a, b, c⟩ ([0, 2].take 1)) then c else bestN ⟨a, b, c⟩ ([0, 2].take 1) := rfl
              generalize bestN ⟨a, b, c⟩ ([0, 2].take 1) = m at *
              clear hX
              repeat' first
                | simp -implicitDefEqProofs only [go_sem, ↓reduceIte, Nat.reduceEqDiff, Nat.reduceAdd, Nat.reduceMul, Nat.reduceSub, Nat.reduceLeDiff, Nat.reduceLT, Nat.reducePow, reduceCtorEq, List.length_cons, List.length_nil, List.map_cons, List.map_nil,
      List.reverse_cons, List.reverse_nil, List.nil_append, List.cons_append, Bool.false_eq_true, Nat.zero_le, List.replicate_zero, List.replicate_succ, List.flatten_nil, List.flatten_cons, true_and, and_true, and_self, List.append_nil, Nat.zero_add, Nat.add_zero,
      List.contains_nil, Nat.le_refl, List.take_zero, List.take_succ_cons, List.drop_zero, List.drop_succ_cons, List.take_length, List.take_nil, List.drop_nil, Option.map_some, Option.map_none, List.getElem?_cons_zero, List.getElem?_cons_succ, List.getElem?_nil, Option.some.injEq,
      Int.toNat_zero, Int.reduceToNat, Int.reduceLT, Int.reduceLE, Int.reduceEq, Int.reduceAdd, Int.reduceSub, Int.reduceMul, Int.reduceNeg, decide_true, decide_false, Bool.not_true, Bool.not_false, beq_self_eq_true, List.mapM_cons, List.mapM_nil, wrap64, wrap8, Int.cast_ofNat_Int, Int.natCast_eq_zero, decide_eq_true_eq, Bool.or_false, Bool.or_true, Bool.or_self, Bool.false_or, Bool.true_or, Option.bind_eq_bind, Option.bind_some, Option.pure_def]
                | refine wfork_intro (fun h => ?_) (fun h => ?_)
              all_goals simp only [decide_eq_true_eq, decide_eq_false_iff_not] at *
              all_goals refine ⟨⟨2, by omega⟩, Wk.sub ?_ ?_ (by decide) (by decide) ?_ ?_, by simp⟩
              all_goals simp -implicitDefEqProofs only [go_sem, ↓reduceIte, Nat.reduceEqDiff, Nat.reduceAdd, Nat.reduceMul, Nat.reduceSub, Nat.reduceLeDiff, Nat.reduceLT, Nat.reducePow, reduceCtorEq, List.length_cons, List.length_nil, List.map_cons, List.map_nil,
      List.reverse_cons, List.reverse_nil, List.nil_append, List.cons_append, Bool.false_eq_true, Nat.zero_le, List.replicate_zero, List.replicate_succ, List.flatten_nil, List.flatten_cons, true_and, and_true, and_self, List.append_nil, Nat.zero_add, Nat.add_zero,
      List.contains_nil, Nat.le_refl, List.take_zero, List.take_succ_cons, List.drop_zero, List.drop_succ_cons, List.take_length, List.take_nil, List.drop_nil, Option.map_some, Option.map_none, List.getElem?_cons_zero, List.getElem?_cons_succ, List.getElem?_nil, Option.some.injEq,
      Int.toNat_zero, Int.reduceToNat, Int.reduceLT, Int.reduceLE, Int.reduceEq, Int.reduceAdd, Int.reduceSub, Int.reduceMul, Int.reduceNeg, decide_true, decide_false, Bool.not_true, Bool.not_false, beq_self_eq_true, List.mapM_cons, List.mapM_nil, wrap64, wrap8, Int.cast_ofNat_Int, Int.natCast_eq_zero, decide_eq_true_eq, Bool.or_false, Bool.or_true, Bool.or_self, Bool.false_or, Bool.true_or, Option.bind_eq_bind, Option.bind_some, Option.pure_def, en, betterN_1, betterN_2, betterN_3, betterN_4, not_false_eq_true, Int.cast_ofNat_Int, *]
            · have hm : (bestN ⟨a, b, c⟩ ([0, 2].take 2)).log.length ≤ 1000000 := bestN_len ha hb hc _
              have em : ([0, 2] : List Int).take 2 = [0, 2] := rfl
              simp only [em] at hm ⊢
              generalize bestN ⟨a, b, c⟩ [0, 2] = m at *
              repeat' first
                | simp -implicitDefEqProofs only [go_sem, ↓reduceIte, Nat.reduceEqDiff, Nat.reduceAdd, Nat.reduceMul, Nat.reduceSub, Nat.reduceLeDiff, Nat.reduceLT, Nat.reducePow, reduceCtorEq, List.length_cons, List.length_nil, List.map_cons, List.map_nil,
      List.reverse_cons, List.reverse_nil, List.nil_append, List.cons_append, Bool.false_eq_true, Nat.zero_le, List.replicate_zero, List.replicate_succ, List.flatten_nil, List.flatten_cons, true_and, and_true, and_self, List.append_nil, Nat.zero_add, Nat.add_zero,
      List.contains_nil, Nat.le_refl, List.take_zero, List.take_succ_cons, List.drop_zero, List.drop_succ_cons, List.take_length, List.take_nil, List.drop_nil, Option.map_some, Option.map_none, List.getElem?_cons_zero, List.getElem?_cons_succ, List.getElem?_nil, Option.some.injEq,
      Int.toNat_zero, Int.reduceToNat, Int.reduceLT, Int.reduceLE, Int.reduceEq, Int.reduceAdd, Int.reduceSub, Int.reduceMul, Int.reduceNeg, decide_true, decide_false, Bool.not_true, Bool.not_false, beq_self_eq_true, List.mapM_cons, List.mapM_nil, wrap64, wrap8, Int.cast_ofNat_Int, Int.natCast_eq_zero, decide_eq_true_eq, Bool.or_false, Bool.or_true, Bool.or_self, Bool.false_or, Bool.true_or, Option.bind_eq_bind, Option.bind_some, Option.pure_def, nums_cons, nums_nil]
                | (refine wT_unroll TryEnv [(), (), (), ()] ?_)
                | (refine wCall_intro (ownLog _ ?_) ?_ ?_ ?_; assumption; rfl; decide)
                | refine Also.mk (by decide) ?_
              subst hX
              simp only [go_sem, List.length_cons, List.length_nil, Nat.reduceAdd, Nat.reduceLT, ↓reduceIte, List.foldl_cons, List.foldl_nil, N3.set, Int.reduceEq, madeN, and_self]
        · simp -implicitDefEqProofs only [go_sem, ↓reduceIte, Nat.reduceEqDiff, Nat.reduceAdd, Nat.reduceMul, Nat.reduceSub, Nat.reduceLeDiff, Nat.reduceLT, Nat.reducePow, reduceCtorEq, List.length_cons, List.length_nil, List.map_cons, List.map_nil,
      List.reverse_cons, List.reverse_nil, List.nil_append, List.cons_append, Bool.false_eq_true, Nat.zero_le, List.replicate_zero, List.replicate_succ, List.flatten_nil, List.flatten_cons, true_and, and_true, and_self, List.append_nil, Nat.zero_add, Nat.add_zero,
      List.contains_nil, Nat.le_refl, List.take_zero, List.take_succ_cons, List.drop_zero, List.drop_succ_cons, List.take_length, List.take_nil, List.drop_nil, Option.map_some, Option.map_none, List.getElem?_cons_zero, List.getElem?_cons_succ, List.getElem?_nil, Option.some.injEq,
      Int.toNat_zero, Int.reduceToNat, Int.reduceLT, Int.reduceLE, Int.reduceEq, Int.reduceAdd, Int.reduceSub, Int.reduceMul, Int.reduceNeg, decide_true, decide_false, Bool.not_true, Bool.not_false, beq_self_eq_true, List.mapM_cons, List.mapM_nil, wrap64, wrap8, Int.cast_ofNat_Int, Int.natCast_eq_zero, decide_eq_true_eq, Bool.or_false, Bool.or_true, Bool.or_self, Bool.false_or, Bool.true_or, Option.bind_eq_bind, Option.bind_some, Option.pure_def, nums_cons, nums_nil]
          refine wT_loop (fun k : { k : Nat // 1 ≤ k ∧ k ≤ 2 } => ⟨[(2, .c (.d (.int .i64 e))), (3, .c (.ptr 0 0)), (4, .c (.ptr 4 0)), (6, .c (.ptr 8 0)), (9, .c (.ref 48 2 0 2)), (13, .c (.ptr 89 0)), (14, .c (.d (.int .i64 (k.1 : Nat))))], [
            (0, .box [.d (.int .i64 a.p), .d (.int .i64 a.e), .d (.sl 1 (strs a.log)), .d (.bool a.lost), .d (.int .i64 b.p), .d (.int .i64 b.e), .d (.sl 1 (strs b.log)), .d (.bool b.lost), .d (.int .i64 c.p), .d (.int .i64 c.e), .d (.sl 1 (strs c.log)), .d (.bool c.lost)]), (4, .box [.d (.int .u8 r.a), .d (.int .u8 r.b), .d (.int .u8 r.c)]), (8, .box [.d (.int .i64 0), .d (.int .i64 0), .d .nilSl, .d (.bool false), .d (.int .i64 0), .d (.int .i64 0), .d .nilSl, .d (.bool false), .d (.int .i64 0), .d (.int .i64 0), .d .nilSl, .d (.bool false)]), (48, .sl 1 [[.int .i64 1], [.int .i64 2]] false), (89, .box [.d (.int .i64 (bestN ⟨a, b, c⟩ ([1, 2].take k.1)).p), .d (.int .i64 (bestN ⟨a, b, c⟩ ([1, 2].take k.1)).e), .d (.sl 1 (strs (bestN ⟨a, b, c⟩ ([1, 2].take k.1)).log)), .d (.bool (bestN ⟨a, b, c⟩ ([1, 2].take k.1)).lost)])], 101⟩) (fun k => 2 - k.1) ⟨1, by omega⟩ ?_ ?_
          · refine Wk.sub ?_ ?_ ?_ ?_ ?_ ?_
            all_goals simp -implicitDefEqProofs only [go_sem, ↓reduceIte, Nat.reduceEqDiff, Nat.reduceAdd, Nat.reduceMul, Nat.reduceSub, Nat.reduceLeDiff, Nat.reduceLT, Nat.reducePow, reduceCtorEq, List.length_cons, List.length_nil, List.map_cons, List.map_nil,
      List.reverse_cons, List.reverse_nil, List.nil_append, List.cons_append, Bool.false_eq_true, Nat.zero_le, List.replicate_zero, List.replicate_succ, List.flatten_nil, List.flatten_cons, true_and, and_true, and_self, List.append_nil, Nat.zero_add, Nat.add_zero,
      List.contains_nil, Nat.le_refl, List.take_zero, List.take_succ_cons, List.drop_zero, List.drop_succ_cons, List.take_length, List.take_nil, List.drop_nil, Option.map_some, Option.map_none, List.getElem?_cons_zero, List.getElem?_cons_succ, List.getElem?_nil, Option.some.injEq,
      Int.toNat_zero, Int.reduceToNat, Int.reduceLT, Int.reduceLE, Int.reduceEq, Int.reduceAdd, Int.reduceSub, Int.reduceMul, Int.reduceNeg, decide_true, decide_false, Bool.not_true, Bool.not_false, beq_self_eq_true, List.mapM_cons, List.mapM_nil, wrap64, wrap8, Int.cast_ofNat_Int, Int.natCast_eq_zero, decide_eq_true_eq, Bool.or_false, Bool.or_true, Bool.or_self, Bool.false_or, Bool.true_or, Option.bind_eq_bind, Option.bind_some, Option.pure_def, bestN, List.foldl_nil, N3.get, Int.natCast_one, Int.reduceEq]
          · rintro ⟨k, hk1, hk2⟩
            have hk : k = 1 ∨ k = 2 := by omega
            rcases hk with rfl | rfl
            all_goals refine wT_of TryEnv ?_
            · have en : bestN ⟨a, b, c⟩ [1, 2] = if betterN c (bestN ⟨a, b, c⟩ ([1, 2].take 1)) then c else bestN ⟨a, b, c⟩ ([1, 2].take 1) := rfl
              generalize bestN ⟨a, b, c⟩ ([1, 2].take 1) = m at *
              clear hX
              repeat' first
                | simp -implicitDefEqProofs only [go_sem, ↓reduceIte, Nat.reduceEqDiff, Nat.reduceAdd, Nat.reduceMul, Nat.reduceSub, Nat.reduceLeDiff, Nat.reduceLT, Nat.reducePow, reduceCtorEq, List.length_cons, List.length_nil, List.map_cons, List.map_nil,
      List.reverse_cons, List.reverse_nil, List.nil_append, List.cons_append, Bool.false_eq_true, Nat.zero_le, List.replicate_zero, List.replicate_succ, List.flatten_nil, List.flatten_cons, true_and, and_true, and_self, List.append_nil, Nat.zero_add, Nat.add_zero,
      List.contains_nil, Nat.le_refl, List.take_zero, List.take_succ_cons, List.drop_zero, List.drop_succ_cons, List.take_length, List.take_nil, List.drop_nil, Option.map_some, Option.map_none, List.getElem?_cons_zero, List.getElem?_cons_succ, List.getElem?_nil, Option.some.injEq,
      Int.toNat_zero, Int.reduceToNat, Int.reduceLT, Int.reduceLE, Int.reduceEq, Int.reduceAdd, Int.reduceSub, Int.reduceMul, Int.reduceNeg, decide_true, decide_false, Bool.not_true, Bool.not_false, beq_self_eq_true, List.mapM_cons, List.mapM_nil, wrap64, wrap8, Int.cast_ofNat_Int, Int.natCast_eq_zero, decide_eq_true_eq, Bool.or_false, Bool.or_true, Bool.or_self, Bool.false_or, Bool.true_or, Option.bind_eq_bind, Option.bind_some, Option.pure_def]
                | refine wfork_intro (fun h => ?_) (fun h => ?_)
              all_goals simp only [decide_eq_true_eq, decide_eq_false_iff_not] at *
              all_goals refine ⟨⟨2, by omega⟩, Wk.sub ?_ ?_ (by decide) (by decide) ?_ ?_, by simp⟩
              all_goals simp -implicitDefEqProofs only [go_sem, ↓reduceIte, Nat.reduceEqDiff, Nat.reduceAdd, Nat.reduceMul, Nat.reduceSub, Nat.reduceLeDiff, Nat.reduceLT, Nat.reducePow, reduceCtorEq, List.length_cons, List.length_nil, List.map_cons, List.map_nil,
      List.reverse_cons, List.reverse_nil, List.nil_append, List.cons_append, Bool.false_eq_true, Nat.zero_le, List.replicate_zero, List.replicate_succ, List.flatten_nil, List.flatten_cons, true_and, and_true, and_self, List.append_nil, Nat.zero_add, Nat.add_zero,
      List.contains_nil, Nat.le_refl, List.take_zero, List.take_succ_cons, List.drop_zero, List.drop_succ_cons, List.take_length, List.take_nil, List.drop_nil, Option.map_some, Option.map_none, List.getElem?_cons_zero, List.getElem?_cons_succ, List.getElem?_nil, Option.some.injEq,
      Int.toNat_zero, Int.reduceToNat, Int.reduceLT, Int.reduceLE, Int.reduceEq, Int.reduceAdd, Int.reduceSub, Int.reduceMul, Int.reduceNeg, decide_true, decide_false, Bool.not_true, Bool.not_false, beq_self_eq_true, List.mapM_cons, List.mapM_nil, wrap64, wrap8, Int.cast_ofNat_Int, Int.natCast_eq_zero, decide_eq_true_eq, Bool.or_false, Bool.or_true, Bool.or_self, Bool.false_or, Bool.true_or, Option.bind_eq_bind, Option.bind_some, Option.pure_def, en, betterN_1, betterN_2, betterN_3, betterN_4, not_false_eq_true, Int.cast_ofNat_Int, *]
            · have hm : (bestN ⟨a, b, c⟩ ([1, 2].take 2)).log.length ≤ 1000000 := bestN_len ha hb hc _
              have em : ([1, 2] : List Int).take 2 = [1, 2] := rfl
              simp only [em] at hm ⊢
              generalize bestN ⟨a, b, c⟩ [1, 2] = m at *
              repeat' first
                | simp -implicitDefEqProofs only [go_sem, ↓reduceIte, Nat.reduceEqDiff, Nat.reduceAdd, Nat.reduceMul, Nat.reduceSub, Nat.reduceLeDiff, Nat.reduceLT, Nat.reducePow, reduceCtorEq, List.length_cons, List.length_nil, List.map_cons, List.map_nil,
      List.reverse_cons, List.reverse_nil, List.nil_append, List.cons_append, Bool.false_eq_true, Nat.zero_le, List.replicate_zero, List.replicate_succ, List.flatten_nil, List.flatten_cons, true_and, and_true, and_self, List.append_nil, Nat.zero_add, Nat.add_zero,
      List.contains_nil, Nat.le_refl, List.take_zero, List.take_succ_cons, List.drop_zero, List.drop_succ_cons, List.take_length, List.take_nil, List.drop_nil, Option.map_some, Option.map_none, List.getElem?_cons_zero, List.getElem?_cons_succ, List.getElem?_nil, Option.some.injEq,
      Int.toNat_zero, Int.reduceToNat, Int.reduceLT, Int.reduceLE, Int.reduceEq, Int.reduceAdd, Int.reduceSub, Int.reduceMul, Int.reduceNeg, decide_true, decide_false, Bool.not_true, Bool.not_false, beq_self_eq_true, List.mapM_cons, List.mapM_nil, wrap64, wrap8, Int.cast_ofNat_Int, Int.natCast_eq_zero, decide_eq_true_eq, Bool.or_false, Bool.or_true, Bool.or_self, Bool.false_or, Bool.true_or, Option.bind_eq_bind, Option.bind_some, Option.pure_def, nums_cons, nums_nil]
                | (refine wT_unroll TryEnv [(), (), (), ()] ?_)
                | (refine wCall_intro (ownLog _ ?_) ?_ ?_ ?_; assumption; rfl; decide)
                | refine Also.mk (by decide) ?_
              subst hX
              simp only [go_sem, List.length_cons, List.length_nil, Nat.reduceAdd, Nat.reduceLT, ↓reduceIte, List.foldl_cons, List.foldl_nil, N3.set, Int.reduceEq, madeN, and_self]
        · simp -implicitDefEqProofs only [go_sem, ↓reduceIte, Nat.reduceEqDiff, Nat.reduceAdd, Nat.reduceMul, Nat.reduceSub, Nat.reduceLeDiff, Nat.reduceLT, Nat.reducePow, reduceCtorEq, List.length_cons, List.length_nil, List.map_cons, List.map_nil,
      List.reverse_cons, List.reverse_nil, List.nil_append, List.cons_append, Bool.false_eq_true, Nat.zero_le, List.replicate_zero, List.replicate_succ, List.flatten_nil, List.flatten_cons, true_and, and_true, and_self, List.append_nil, Nat.zero_add, Nat.add_zero,
      List.contains_nil, Nat.le_refl, List.take_zero, List.take_succ_cons, List.drop_zero, List.drop_succ_cons, List.take_length, List.take_nil, List.drop_nil, Option.map_some, Option.map_none, List.getElem?_cons_zero, List.getElem?_cons_succ, List.getElem?_nil, Option.some.injEq,
      Int.toNat_zero, Int.reduceToNat, Int.reduceLT, Int.reduceLE, Int.reduceEq, Int.reduceAdd, Int.reduceSub, Int.reduceMul, Int.reduceNeg, decide_true, decide_false, Bool.not_true, Bool.not_false, beq_self_eq_true, List.mapM_cons, List.mapM_nil, wrap64, wrap8, Int.cast_ofNat_Int, Int.natCast_eq_zero, decide_eq_true_eq, Bool.or_false, Bool.or_true, Bool.or_self, Bool.false_or, Bool.true_or, Option.bind_eq_bind, Option.bind_some, Option.pure_def, nums_cons, nums_nil]
          refine wT_loop (fun k : { k : Nat // 1 ≤ k ∧ k ≤ 3 } => ⟨[(2, .c (.d (.int .i64 e))), (3, .c (.ptr 0 0)), (4, .c (.ptr 4 0)), (6, .c (.ptr 8 0)), (9, .c (.ref 48 3 0 3)), (13, .c (.ptr 89 0)), (14, .c (.d (.int .i64 (k.1 : Nat))))], [
            (0, .box [.d (.int .i64 a.p), .d (.int .i64 a.e), .d (.sl 1 (strs a.log)), .d (.bool a.lost), .d (.int .i64 b.p), .d (.int .i64 b.e), .d (.sl 1 (strs b.log)), .d (.bool b.lost), .d (.int .i64 c.p), .d (.int .i64 c.e), .d (.sl 1 (strs c.log)), .d (.bool c.lost)]), (4, .box [.d (.int .u8 r.a), .d (.int .u8 r.b), .d (.int .u8 r.c)]), (8, .box [.d (.int .i64 0), .d (.int .i64 0), .d .nilSl, .d (.bool false), .d (.int .i64 0), .d (.int .i64 0), .d .nilSl, .d (.bool false), .d (.int .i64 0), .d (.int .i64 0), .d .nilSl, .d (.bool false)]), (48, .sl 1 [[.int .i64 0], [.int .i64 1], [.int .i64 2]] false), (89, .box [.d (.int .i64 (bestN ⟨a, b, c⟩ ([0, 1, 2].take k.1)).p), .d (.int .i64 (bestN ⟨a, b, c⟩ ([0, 1, 2].take k.1)).e), .d (.sl 1 (strs (bestN ⟨a, b, c⟩ ([0, 1, 2].take k.1)).log)), .d (.bool (bestN ⟨a, b, c⟩ ([0, 1, 2].take k.1)).lost)])], 101⟩) (fun k => 3 - k.1) ⟨1, by omega⟩ ?_ ?_
          · refine Wk.sub ?_ ?_ ?_ ?_ ?_ ?_
            all_goals simp -implicitDefEqProofs only [go_sem, ↓reduceIte, Nat.reduceEqDiff, Nat.reduceAdd, Nat.reduceMul, Nat.reduceSub, Nat.reduceLeDiff, Nat.reduceLT, Nat.reducePow, reduceCtorEq, List.length_cons, List.length_nil, List.map_cons, List.map_nil,
      List.reverse_cons, List.reverse_nil, List.nil_append, List.cons_append, Bool.false_eq_true, Nat.zero_le, List.replicate_zero, List.replicate_succ, List.flatten_nil, List.flatten_cons, true_and, and_true, and_self, List.append_nil, Nat.zero_add, Nat.add_zero,
      List.contains_nil, Nat.le_refl, List.take_zero, List.take_succ_cons, List.drop_zero, List.drop_succ_cons, List.take_length, List.take_nil, List.drop_nil, Option.map_some, Option.map_none, List.getElem?_cons_zero, List.getElem?_cons_succ, List.getElem?_nil, Option.some.injEq,
      Int.toNat_zero, Int.reduceToNat, Int.reduceLT, Int.reduceLE, Int.reduceEq, Int.reduceAdd, Int.reduceSub, Int.reduceMul, Int.reduceNeg, decide_true, decide_false, Bool.not_true, Bool.not_false, beq_self_eq_true, List.mapM_cons, List.mapM_nil, wrap64, wrap8, Int.cast_ofNat_Int, Int.natCast_eq_zero, decide_eq_true_eq, Bool.or_false, Bool.or_true, Bool.or_self, Bool.false_or, Bool.true_or, Option.bind_eq_bind, Option.bind_some, Option.pure_def, bestN, List.foldl_nil, N3.get, Int.natCast_one, Int.reduceEq]
          · rintro ⟨k, hk1, hk2⟩
            have hk : k = 1 ∨ k = 2 ∨ k = 3 := by omega
            rcases hk with rfl | rfl | rfl
            all_goals refine wT_of TryEnv ?_
            · have en : bestN ⟨a, b, c⟩ [0, 1] = if betterN b (bestN ⟨a, b, c⟩ ([0, 1, 2].take 1)) then b else bestN ⟨a, b, c⟩ ([0, 1, 2].take 1) := rfl
              generalize bestN ⟨a, b, c⟩ ([0, 1, 2].take 1) = m at *
              clear hX
              repeat' first
                | simp -implicitDefEqProofs only [go_sem, ↓reduceIte, Nat.reduceEqDiff, Nat.reduceAdd, Nat.reduceMul, Nat.reduceSub, Nat.reduceLeDiff, Nat.reduceLT, Nat.reducePow, reduceCtorEq, List.length_cons, List.length_nil, List.map_cons, List.map_nil,
      List.reverse_cons, List.reverse_nil, List.nil_append, List.cons_append, Bool.false_eq_true, Nat.zero_le, List.replicate_zero, List.replicate_succ, List.flatten_nil, List.flatten_cons, true_and, and_true, and_self, List.append_nil, Nat.zero_add, Nat.add_zero,
      List.contains_nil, Nat.le_refl, List.take_zero, List.take_succ_cons, List.drop_zero, List.drop_succ_cons, List.take_length, List.take_nil, List.drop_nil, Option.map_some, Option.map_none, List.getElem?_cons_zero, List.getElem?_cons_succ, List.getElem?_nil, Option.some.injEq,
      Int.toNat_zero, Int.reduceToNat, Int.reduceLT, Int.reduceLE, Int.reduceEq, Int.reduceAdd, Int.reduceSub, Int.reduceMul, Int.reduceNeg, decide_true, decide_false, Bool.not_true, Bool.not_false, beq_self_eq_true, List.mapM_cons, List.mapM_nil, wrap64, wrap8, Int.cast_ofNat_Int, Int.natCast_eq_zero, decide_eq_true_eq, Bool.or_false, Bool.or_true, Bool.or_self, Bool.false_or, Bool.true_or, Option.bind_eq_bind, Option.bind_some, Option.pure_def]
                | refine wfork_intro (fun h => ?_) (fun h => ?_)
              all_goals simp only [decide_eq_true_eq, decide_eq_false_iff_not] at *
              all_goals refine ⟨⟨2, by omega⟩, Wk.sub ?_ ?_ (by decide) (by decide) ?_ ?_, by simp⟩
              all_goals simp -implicitDefEqProofs only [go_sem, ↓reduceIte, Nat.reduceEqDiff, Nat.reduceAdd, Nat.reduceMul, Nat.reduceSub, Nat.reduceLeDiff, Nat.reduceLT, Nat.reducePow, reduceCtorEq, List.length_cons, List.length_nil, List.map_cons, List.map_nil,
      List.reverse_cons, List.reverse_nil, List.nil_append, List.cons_append, Bool.false_eq_true, Nat.zero_le, List.replicate_zero, List.replicate_succ, List.flatten_nil, List.flatten_cons, true_and, and_true, and_self, List.append_nil, Nat.zero_add, Nat.add_zero,
      List.contains_nil, Nat.le_refl, List.take_zero, List.take_succ_cons, List.drop_zero, List.drop_succ_cons, List.take_length, List.take_nil, List.drop_nil, Option.map_some, Option.map_none, List.getElem?_cons_zero, List.getElem?_cons_succ, List.getElem?_nil, Option.some.injEq,
      Int.toNat_zero, Int.reduceToNat, Int.reduceLT, Int.reduceLE, Int.reduceEq, Int.reduceAdd, Int.reduceSub, Int.reduceMul, Int.reduceNeg, decide_true, decide_false, Bool.not_true, Bool.not_false, beq_self_eq_true, List.mapM_cons, List.mapM_nil, wrap64, wrap8, Int.cast_ofNat_Int, Int.natCast_eq_zero, decide_eq_true_eq, Bool.or_false, Bool.or_true, Bool.or_self, Bool.false_or, Bool.true_or, Option.bind_eq_bind, Option.bind_some, Option.pure_def, en, betterN_1, betterN_2, betterN_3, betterN_4, not_false_eq_true, Int.cast_ofNat_Int, *]
            · have en : bestN ⟨a, b, c⟩ [0, 1, 2] = if betterN c (bestN ⟨a, b, c⟩ ([0, 1, 2].take 2)) then c else bestN ⟨a, b, c⟩ ([0, 1, 2].take 2) := rfl
              generalize bestN ⟨a, b, c⟩ ([0, 1, 2].take 2) = m at *
              clear hX
              repeat' first
                | simp -implicitDefEqProofs only [go_sem, ↓reduceIte, Nat.reduceEqDiff, Nat.reduceAdd, Nat.reduceMul, Nat.reduceSub, Nat.reduceLeDiff, Nat.reduceLT, Nat.reducePow, reduceCtorEq, List.length_cons, List.length_nil, List.map_cons, List.map_nil,
      List.reverse_cons, List.reverse_nil, List.nil_append, List.cons_append, Bool.false_eq_true, Nat.zero_le, List.replicate_zero, List.replicate_succ, List.flatten_nil, List.flatten_cons, true_and, and_true, and_self, List.append_nil, Nat.zero_add, Nat.add_zero,
      List.contains_nil, Nat.le_refl, List.take_zero, List.take_succ_cons, List.drop_zero, List.drop_succ_cons, List.take_length, List.take_nil, List.drop_nil, Option.map_some, Option.map_none, List.getElem?_cons_zero, List.getElem?_cons_succ, List.getElem?_nil, Option.some.injEq,
      Int.toNat_zero, Int.reduceToNat, Int.reduceLT, Int.reduceLE, Int.reduceEq, Int.reduceAdd, Int.reduceSub, Int.reduceMul, Int.reduceNeg, decide_true, decide_false, Bool.not_true, Bool.not_false, beq_self_eq_true, List.mapM_cons, List.mapM_nil, wrap64, wrap8, Int.cast_ofNat_Int, Int.natCast_eq_zero, decide_eq_true_eq, Bool.or_false, Bool.or_true, Bool.or_self, Bool.false_or, Bool.true_or, Option.bind_eq_bind, Option.bind_some, Option.pure_def]
                | refine wfork_intro (fun h => ?_) (fun h => ?_)
              all_goals simp only [decide_eq_true_eq, decide_eq_false_iff_not] at *
              all_goals refine ⟨⟨3, by omega⟩, Wk.sub ?_ ?_ (by decide) (by decide) ?_ ?_, by simp⟩
              all_goals simp -implicitDefEqProofs only [go_sem, ↓reduceIte, Nat.reduceEqDiff, Nat.reduceAdd, Nat.reduceMul, Nat.reduceSub, Nat.reduceLeDiff, Nat.reduceLT, Nat.reducePow, reduceCtorEq, List.length_cons, List.length_nil, List.map_cons, List.map_nil,
      List.reverse_cons, List.reverse_nil, List.nil_append, List.cons_append, Bool.false_eq_true, Nat.zero_le, List.replicate_zero, List.replicate_succ, List.flatten_nil, List.flatten_cons, true_and, and_true, and_self, List.append_nil, Nat.zero_add, Nat.add_zero,
      List.contains_nil, Nat.le_refl, List.take_zero, List.take_succ_cons, List.drop_zero, List.drop_succ_cons, List.take_length, List.take_nil, List.drop_nil, Option.map_some, Option.map_none, List.getElem?_cons_zero, List.getElem?_cons_succ, List.getElem?_nil, Option.some.injEq,
      Int.toNat_zero, Int.reduceToNat, Int.reduceLT, Int.reduceLE, Int.reduceEq, Int.reduceAdd, Int.reduceSub, Int.reduceMul, Int.reduceNeg, decide_true, decide_false, Bool.not_true, Bool.not_false, beq_self_eq_true, List.mapM_cons, List.mapM_nil, wrap64, wrap8, Int.cast_ofNat_Int, Int.natCast_eq_zero, decide_eq_true_eq, Bool.or_false, Bool.or_true, Bool.or_self, Bool.false_or, Bool.true_or, Option.bind_eq_bind, Option.bind_some, Option.pure_def, en, betterN_1, betterN_2, betterN_3, betterN_4, not_false_eq_true, Int.cast_ofNat_Int, *]
            · have hm : (bestN ⟨a, b, c⟩ ([0, 1, 2].take 3)).log.length ≤ 1000000 := bestN_len ha hb hc _
              have em : ([0, 1, 2] : List Int).take 3 = [0, 1, 2] := rfl
              simp only [em] at hm ⊢
              generalize bestN ⟨a, b, c⟩ [0, 1, 2] = m at *
              repeat' first
                | simp -implicitDefEqProofs only [go_sem, ↓reduceIte, Nat.reduceEqDiff, Nat.reduceAdd, Nat.reduceMul, Nat.reduceSub, Nat.reduceLeDiff, Nat.reduceLT, Nat.reducePow, reduceCtorEq, List.length_cons, List.length_nil, List.map_cons, List.map_nil,
      List.reverse_cons, List.reverse_nil, List.nil_append, List.cons_append, Bool.false_eq_true, Nat.zero_le, List.replicate_zero, List.replicate_succ, List.flatten_nil, List.flatten_cons, true_and, and_true, and_self, List.append_nil, Nat.zero_add, Nat.add_zero,
      List.contains_nil, Nat.le_refl, List.take_zero, List.take_succ_cons, List.drop_zero, List.drop_succ_cons, List.take_length, List.take_nil, List.drop_nil, Option.map_some, Option.map_none, List.getElem?_cons_zero, List.getElem?_cons_succ, List.getElem?_nil, Option.some.injEq,
      Int.toNat_zero, Int.reduceToNat, Int.reduceLT, Int.reduceLE, Int.reduceEq, Int.reduceAdd, Int.reduceSub, Int.reduceMul, Int.reduceNeg, decide_true, decide_false, Bool.not_true, Bool.not_false, beq_self_eq_true, List.mapM_cons, List.mapM_nil, wrap64, wrap8, Int.cast_ofNat_Int, Int.natCast_eq_zero, decide_eq_true_eq, Bool.or_false, Bool.or_true, Bool.or_self, Bool.false_or, Bool.true_or, Option.bind_eq_bind, Option.bind_some, Option.pure_def, nums_cons, nums_nil]
                | (refine wT_unroll TryEnv [(), (), (), ()] ?_)
                | (refine wCall_intro (ownLog _ ?_) ?_ ?_ ?_; assumption; rfl; decide)
                | refine Also.mk (by decide) ?_
              subst hX
              simp only [go_sem, List.length_cons, List.length_nil, Nat.reduceAdd, Nat.reduceLT, ↓reduceIte, List.foldl_cons, List.foldl_nil, N3.set, Int.reduceEq, madeN, and_self]

theorem refRecover (ns : N3) (r : R3) (e : Int) (hs : ns.small 1000000) : Gives Try.prog 12 [.agg [.int .i64 ns.a.p, .int .i64 ns.a.e, .sl 1 (strs ns.a.log), .bool ns.a.lost, .int .i64 ns.b.p, .int .i64 ns.b.e, .sl 1 (strs ns.b.log), .bool ns.b.lost, .int .i64 ns.c.p, .int .i64 ns.c.e, .sl 1 (strs ns.c.log), .bool ns.c.lost], .agg [.int .u8 r.a, .int .u8 r.b, .int .u8 r.c], .c (.int .i64 e)]
    (.tup [.agg [.d (.int .i64 ((recoverN r ns e).1.a).p), .d (.int .i64 ((recoverN r ns e).1.a).e), .d (.sl 1 (strs ((recoverN r ns e).1.a).log)), .d (.bool ((recoverN r ns e).1.a).lost), .d (.int .i64 ((recoverN r ns e).1.b).p), .d (.int .i64 ((recoverN r ns e).1.b).e), .d (.sl 1 (strs ((recoverN r ns e).1.b).log)), .d (.bool ((recoverN r ns e).1.b).lost), .d (.int .i64 ((recoverN r ns e).1.c).p), .d (.int .i64 ((recoverN r ns e).1.c).e), .d (.sl 1 (strs ((recoverN r ns e).1.c).log)), .d (.bool ((recoverN r ns e).1.c).lost)], .c (.d (.sl 1 (strs (recoverN r ns e).2.1))), .c (.d (.int .i64 (recoverN r ns e).2.2))]) [] :=
  refRecover_ ns r e hs _ rfl
end Go.Proofs.Ytehmaafnbgpkcaa
