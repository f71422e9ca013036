/- This text proves a part of what the claim needs: contracts of functions of the program. No condition. -/
import Derived.Test.YtehmaafnbgpkcaaL
import Derived.Test.YtehmaafnbgpkcaaTy
import Derived.Test.YtehmaafnbgpkcaaVsC
set_option linter.unusedSimpArgs false
set_option linter.unusedVariables false

namespace Go.Proofs.Ytehmaafnbgpkcaa
open Go Go.Vs Go.Proofs

theorem clone_nil : Gives Try.prog 35 [.c .nilSl] (.c (.d .nilSl)) [] := by
  refine Gives.of_w TryEnv Try.func35 (by decide) TryL35_ok Try.ntmps35 (rs := [.tmp 2]) rfl (by simp) [] (by decide) ?_
  rw [TryL35]
  simp -implicitDefEqProofs only [go_sem, ↓reduceIte, Nat.reduceEqDiff, Nat.reduceAdd, Nat.reduceMul, Nat.reduceSub, Nat.reduceLeDiff, Nat.reduceLT, Nat.reducePow, reduceCtorEq, List.length_cons, List.length_nil, List.map_cons, List.map_nil,
      List.reverse_cons, List.reverse_nil, List.nil_append, List.cons_append, Bool.false_eq_true, Nat.zero_le, List.replicate_zero, List.replicate_succ, List.flatten_nil, List.flatten_cons, true_and, and_true, and_self, List.append_nil, Nat.zero_add, Nat.add_zero,
      List.contains_nil, Nat.le_refl, List.take_zero, List.take_succ_cons, List.drop_zero, List.drop_succ_cons, List.take_length, List.take_nil, List.drop_nil, Option.map_some, Option.map_none, List.getElem?_cons_zero, List.getElem?_cons_succ, List.getElem?_nil, Option.some.injEq,
      Int.toNat_zero, Int.reduceToNat, Int.reduceLT, Int.reduceLE, Int.reduceEq, Int.reduceAdd, Int.reduceSub, Int.reduceMul, Int.reduceNeg, decide_true, decide_false, Bool.not_true, Bool.not_false, beq_self_eq_true, List.mapM_cons, List.mapM_nil, wrap64, wrap8, Int.cast_ofNat_Int, Int.natCast_eq_zero, decide_eq_true_eq, Bool.or_false, Bool.or_true, Bool.or_self, Bool.false_or, Bool.true_or, Option.bind_eq_bind, Option.bind_some, Option.pure_def]

theorem clone_slE : Gives Try.prog 35 [.c (.slE 1)] (.c (.d (.sl 1 []))) [] := by
  refine Gives.of_w TryEnv Try.func35 (by decide) TryL35_ok Try.ntmps35 (rs := [.tmp 2]) rfl (by simp) [] (by decide) ?_
  rw [TryL35]
  simp -implicitDefEqProofs only [go_sem, ↓reduceIte, Nat.reduceEqDiff, Nat.reduceAdd, Nat.reduceMul, Nat.reduceSub, Nat.reduceLeDiff, Nat.reduceLT, Nat.reducePow, reduceCtorEq, List.length_cons, List.length_nil, List.map_cons, List.map_nil,
      List.reverse_cons, List.reverse_nil, List.nil_append, List.cons_append, Bool.false_eq_true, Nat.zero_le, List.replicate_zero, List.replicate_succ, List.flatten_nil, List.flatten_cons, true_and, and_true, and_self, List.append_nil, Nat.zero_add, Nat.add_zero,
      List.contains_nil, Nat.le_refl, List.take_zero, List.take_succ_cons, List.drop_zero, List.drop_succ_cons, List.take_length, List.take_nil, List.drop_nil, Option.map_some, Option.map_none, List.getElem?_cons_zero, List.getElem?_cons_succ, List.getElem?_nil, Option.some.injEq,
      Int.toNat_zero, Int.reduceToNat, Int.reduceLT, Int.reduceLE, Int.reduceEq, Int.reduceAdd, Int.reduceSub, Int.reduceMul, Int.reduceNeg, decide_true, decide_false, Bool.not_true, Bool.not_false, beq_self_eq_true, List.mapM_cons, List.mapM_nil, wrap64, wrap8, Int.cast_ofNat_Int, Int.natCast_eq_zero, decide_eq_true_eq, Bool.or_false, Bool.or_true, Bool.or_self, Bool.false_or, Bool.true_or, Option.bind_eq_bind, Option.bind_some, Option.pure_def]

theorem clone_cons (e : List D) (es : List (List D)) (h : (es.length + 1) * 16 ≤ mostBytes) : Gives Try.prog 35 [.c (.sl 1 (e :: es))] (.c (.d (.sl 1 (e :: es)))) [] := by
  refine Gives.of_w TryEnv Try.func35 (by decide) TryL35_ok Try.ntmps35 (rs := [.tmp 2]) rfl (by simp) [] (by decide) ?_
  rw [TryL35]
  simp -implicitDefEqProofs only [go_sem, ↓reduceIte, Nat.reduceEqDiff, Nat.reduceAdd, Nat.reduceMul, Nat.reduceSub, Nat.reduceLeDiff, Nat.reduceLT, Nat.reducePow, reduceCtorEq, List.length_cons, List.length_nil, List.map_cons, List.map_nil,
      List.reverse_cons, List.reverse_nil, List.nil_append, List.cons_append, Bool.false_eq_true, Nat.zero_le, List.replicate_zero, List.replicate_succ, List.flatten_nil, List.flatten_cons, true_and, and_true, and_self, List.append_nil, Nat.zero_add, Nat.add_zero,
      List.contains_nil, Nat.le_refl, List.take_zero, List.take_succ_cons, List.drop_zero, List.drop_succ_cons, List.take_length, List.take_nil, List.drop_nil, Option.map_some, Option.map_none, List.getElem?_cons_zero, List.getElem?_cons_succ, List.getElem?_nil, Option.some.injEq,
      Int.toNat_zero, Int.reduceToNat, Int.reduceLT, Int.reduceLE, Int.reduceEq, Int.reduceAdd, Int.reduceSub, Int.reduceMul, Int.reduceNeg, decide_true, decide_false, Bool.not_true, Bool.not_false, beq_self_eq_true, List.mapM_cons, List.mapM_nil, wrap64, wrap8, Int.cast_ofNat_Int, Int.natCast_eq_zero, decide_eq_true_eq, Bool.or_false, Bool.or_true, Bool.or_self, Bool.false_or, Bool.true_or, Option.bind_eq_bind, Option.bind_some, Option.pure_def, h]

theorem clone (l : List ByteArray) (h : l.length ≤ 1000000) : Gives Try.prog 35 [.c (.sl 1 (strs l))] (.c (.d (.sl 1 (strs l)))) [] := by
  cases l with
  | nil => exact Gives.empty (clone_nil.nilE) clone_slE
  | cons s l =>
    rw [strs_cons]
    refine clone_cons _ _ ?_
    simp only [strs_length, mostBytes, List.length_cons] at *
    omega

end Go.Proofs.Ytehmaafnbgpkcaa

namespace Go.Proofs.Ytehmaafnbgpkcaa
open Go Go.Vs Go.Proofs

/-- Rounds of a loop over three. -/
abbrev To3 := { n : Int // 0 ≤ n ∧ n ≤ 3 }
theorem To3.all {p : To3 → Prop} (h0 : p ⟨0, by omega⟩) (h1 : p ⟨1, by omega⟩) (h2 : p ⟨2, by omega⟩) (h3 : p ⟨3, by omega⟩) : ∀ i, p i := by
  rintro ⟨n, hn⟩
  have : n = 0 ∨ n = 1 ∨ n = 2 ∨ n = 3 := by omega
  rcases this with rfl | rfl | rfl | rfl
  · exact h0
  · exact h1
  · exact h2
  · exact h3

theorem own (p0 e0 : Int) (l0 : List ByteArray) (b0 : Bool) (p1 e1 : Int) (l1 : List ByteArray) (b1 : Bool) (p2 e2 : Int) (l2 : List ByteArray) (b2 : Bool)
    (h0 : l0.length ≤ 1000000) (h1 : l1.length ≤ 1000000) (h2 : l2.length ≤ 1000000) :
    Gives Try.prog 31 [.agg [.int .i64 p0, .int .i64 e0, .sl 1 (strs l0), .bool b0, .int .i64 p1, .int .i64 e1, .sl 1 (strs l1), .bool b1, .int .i64 p2, .int .i64 e2, .sl 1 (strs l2), .bool b2]]
     (.agg [.d (.int .i64 p0), .d (.int .i64 e0), .d (.sl 1 (strs l0)), .d (.bool b0), .d (.int .i64 p1), .d (.int .i64 e1), .d (.sl 1 (strs l1)), .d (.bool b1), .d (.int .i64 p2), .d (.int .i64 e2), .d (.sl 1 (strs l2)), .d (.bool b2)]) [] := by
  refine Gives.of_w TryEnv Try.func31 (by decide) TryL31_ok Try.ntmps31 (rs := [.cell 2 25]) rfl (by simp) [] (by decide) ?_
  rw [TryL31]
  simp -implicitDefEqProofs only [go_sem, ↓reduceIte, Nat.reduceEqDiff, Nat.reduceAdd, Nat.reduceMul, Nat.reduceSub, Nat.reduceLeDiff, Nat.reduceLT, Nat.reducePow, reduceCtorEq, List.length_cons, List.length_nil, List.map_cons, List.map_nil,
      List.reverse_cons, List.reverse_nil, List.nil_append, List.cons_append, Bool.false_eq_true, Nat.zero_le, List.replicate_zero, List.replicate_succ, List.flatten_nil, List.flatten_cons, true_and, and_true, and_self, List.append_nil, Nat.zero_add, Nat.add_zero,
      List.contains_nil, Nat.le_refl, List.take_zero, List.take_succ_cons, List.drop_zero, List.drop_succ_cons, List.take_length, List.take_nil, List.drop_nil, Option.map_some, Option.map_none, List.getElem?_cons_zero, List.getElem?_cons_succ, List.getElem?_nil, Option.some.injEq,
      Int.toNat_zero, Int.reduceToNat, Int.reduceLT, Int.reduceLE, Int.reduceEq, Int.reduceAdd, Int.reduceSub, Int.reduceMul, Int.reduceNeg, decide_true, decide_false, Bool.not_true, Bool.not_false, beq_self_eq_true, List.mapM_cons, List.mapM_nil, wrap64, wrap8, Int.cast_ofNat_Int, Int.natCast_eq_zero, decide_eq_true_eq, Bool.or_false, Bool.or_true, Bool.or_self, Bool.false_or, Bool.true_or, Option.bind_eq_bind, Option.bind_some, Option.pure_def]
  refine wT_loop (fun k : To3 => ⟨[(1, .c (.ptr 0 0)), (2, .c (.ptr 4 0)), (4, .c (.d (.int .i64 k.1)))], [(0, Blk.box [.d (.int .i64 p0), .d (.int .i64 e0), .d (.sl 1 (strs l0)), .d (.bool b0), .d (.int .i64 p1), .d (.int .i64 e1), .d (.sl 1 (strs l1)), .d (.bool b1), .d (.int .i64 p2), .d (.int .i64 e2), .d (.sl 1 (strs l2)), .d (.bool b2)]),
      (4, Blk.box [.d (.int .i64 0), .d (.int .i64 0), .d .nilSl, .d (.bool false), .d (.int .i64 0), .d (.int .i64 0), .d .nilSl, .d (.bool false), .d (.int .i64 0), .d (.int .i64 0), .d .nilSl, .d (.bool false)])], 12⟩) (fun k => (3 - k.1).toNat) ⟨0, by omega⟩ ?_ ?_
  · refine Wk.sub ?_ ?_ ?_ ?_ ?_ ?_
    all_goals simp -implicitDefEqProofs only [go_sem, ↓reduceIte, Nat.reduceEqDiff, Nat.reduceAdd, Nat.reduceMul, Nat.reduceSub, Nat.reduceLeDiff, Nat.reduceLT, Nat.reducePow, reduceCtorEq, List.length_cons, List.length_nil, List.map_cons, List.map_nil,
      List.reverse_cons, List.reverse_nil, List.nil_append, List.cons_append, Bool.false_eq_true, Nat.zero_le, List.replicate_zero, List.replicate_succ, List.flatten_nil, List.flatten_cons, true_and, and_true, and_self, List.append_nil, Nat.zero_add, Nat.add_zero,
      List.contains_nil, Nat.le_refl, List.take_zero, List.take_succ_cons, List.drop_zero, List.drop_succ_cons, List.take_length, List.take_nil, List.drop_nil, Option.map_some, Option.map_none, List.getElem?_cons_zero, List.getElem?_cons_succ, List.getElem?_nil, Option.some.injEq,
      Int.toNat_zero, Int.reduceToNat, Int.reduceLT, Int.reduceLE, Int.reduceEq, Int.reduceAdd, Int.reduceSub, Int.reduceMul, Int.reduceNeg, decide_true, decide_false, Bool.not_true, Bool.not_false, beq_self_eq_true, List.mapM_cons, List.mapM_nil, wrap64, wrap8, Int.cast_ofNat_Int, Int.natCast_eq_zero, decide_eq_true_eq, Bool.or_false, Bool.or_true, Bool.or_self, Bool.false_or, Bool.true_or, Option.bind_eq_bind, Option.bind_some, Option.pure_def]
  · refine To3.all ?_ ?_ ?_ ?_
    all_goals refine wT_of TryEnv ?_
    all_goals repeat' first
        | simp -implicitDefEqProofs only [go_sem, ↓reduceIte, Nat.reduceEqDiff, Nat.reduceAdd, Nat.reduceMul, Nat.reduceSub, Nat.reduceLeDiff, Nat.reduceLT, Nat.reducePow, reduceCtorEq, List.length_cons, List.length_nil, List.map_cons, List.map_nil,
      List.reverse_cons, List.reverse_nil, List.nil_append, List.cons_append, Bool.false_eq_true, Nat.zero_le, List.replicate_zero, List.replicate_succ, List.flatten_nil, List.flatten_cons, true_and, and_true, and_self, List.append_nil, Nat.zero_add, Nat.add_zero,
      List.contains_nil, Nat.le_refl, List.take_zero, List.take_succ_cons, List.drop_zero, List.drop_succ_cons, List.take_length, List.take_nil, List.drop_nil, Option.map_some, Option.map_none, List.getElem?_cons_zero, List.getElem?_cons_succ, List.getElem?_nil, Option.some.injEq,
      Int.toNat_zero, Int.reduceToNat, Int.reduceLT, Int.reduceLE, Int.reduceEq, Int.reduceAdd, Int.reduceSub, Int.reduceMul, Int.reduceNeg, decide_true, decide_false, Bool.not_true, Bool.not_false, beq_self_eq_true, List.mapM_cons, List.mapM_nil, wrap64, wrap8, Int.cast_ofNat_Int, Int.natCast_eq_zero, decide_eq_true_eq, Bool.or_false, Bool.or_true, Bool.or_self, Bool.false_or, Bool.true_or, Option.bind_eq_bind, Option.bind_some, Option.pure_def]
        | apply And.intro
        | (refine wCall_intro (clone _ ?_) ?_ ?_ ?_; assumption; rfl; decide)
    · exact ⟨⟨1, by omega⟩, Wk.sub (by simp -implicitDefEqProofs only [go_sem, ↓reduceIte, Nat.reduceEqDiff, Nat.reduceAdd, Nat.reduceMul, Nat.reduceSub, Nat.reduceLeDiff, Nat.reduceLT, Nat.reducePow, reduceCtorEq, List.length_cons, List.length_nil, List.map_cons, List.map_nil,
      List.reverse_cons, List.reverse_nil, List.nil_append, List.cons_append, Bool.false_eq_true, Nat.zero_le, List.replicate_zero, List.replicate_succ, List.flatten_nil, List.flatten_cons, true_and, and_true, and_self, List.append_nil, Nat.zero_add, Nat.add_zero,
      List.contains_nil, Nat.le_refl, List.take_zero, List.take_succ_cons, List.drop_zero, List.drop_succ_cons, List.take_length, List.take_nil, List.drop_nil, Option.map_some, Option.map_none, List.getElem?_cons_zero, List.getElem?_cons_succ, List.getElem?_nil, Option.some.injEq,
      Int.toNat_zero, Int.reduceToNat, Int.reduceLT, Int.reduceLE, Int.reduceEq, Int.reduceAdd, Int.reduceSub, Int.reduceMul, Int.reduceNeg, decide_true, decide_false, Bool.not_true, Bool.not_false, beq_self_eq_true, List.mapM_cons, List.mapM_nil, wrap64, wrap8, Int.cast_ofNat_Int, Int.natCast_eq_zero, decide_eq_true_eq, Bool.or_false, Bool.or_true, Bool.or_self, Bool.false_or, Bool.true_or, Option.bind_eq_bind, Option.bind_some, Option.pure_def]) (by simp -implicitDefEqProofs only [go_sem, ↓reduceIte, Nat.reduceEqDiff, Nat.reduceAdd, Nat.reduceMul, Nat.reduceSub, Nat.reduceLeDiff, Nat.reduceLT, Nat.reducePow, reduceCtorEq, List.length_cons, List.length_nil, List.map_cons, List.map_nil,
      List.reverse_cons, List.reverse_nil, List.nil_append, List.cons_append, Bool.false_eq_true, Nat.zero_le, List.replicate_zero, List.replicate_succ, List.flatten_nil, List.flatten_cons, true_and, and_true, and_self, List.append_nil, Nat.zero_add, Nat.add_zero,
      List.contains_nil, Nat.le_refl, List.take_zero, List.take_succ_cons, List.drop_zero, List.drop_succ_cons, List.take_length, List.take_nil, List.drop_nil, Option.map_some, Option.map_none, List.getElem?_cons_zero, List.getElem?_cons_succ, List.getElem?_nil, Option.some.injEq,
      Int.toNat_zero, Int.reduceToNat, Int.reduceLT, Int.reduceLE, Int.reduceEq, Int.reduceAdd, Int.reduceSub, Int.reduceMul, Int.reduceNeg, decide_true, decide_false, Bool.not_true, Bool.not_false, beq_self_eq_true, List.mapM_cons, List.mapM_nil, wrap64, wrap8, Int.cast_ofNat_Int, Int.natCast_eq_zero, decide_eq_true_eq, Bool.or_false, Bool.or_true, Bool.or_self, Bool.false_or, Bool.true_or, Option.bind_eq_bind, Option.bind_some, Option.pure_def]) (by decide) (by decide) (by simp -implicitDefEqProofs only [go_sem, ↓reduceIte, Nat.reduceEqDiff, Nat.reduceAdd, Nat.reduceMul, Nat.reduceSub, Nat.reduceLeDiff, Nat.reduceLT, Nat.reducePow, reduceCtorEq, List.length_cons, List.length_nil, List.map_cons, List.map_nil,
      List.reverse_cons, List.reverse_nil, List.nil_append, List.cons_append, Bool.false_eq_true, Nat.zero_le, List.replicate_zero, List.replicate_succ, List.flatten_nil, List.flatten_cons, true_and, and_true, and_self, List.append_nil, Nat.zero_add, Nat.add_zero,
      List.contains_nil, Nat.le_refl, List.take_zero, List.take_succ_cons, List.drop_zero, List.drop_succ_cons, List.take_length, List.take_nil, List.drop_nil, Option.map_some, Option.map_none, List.getElem?_cons_zero, List.getElem?_cons_succ, List.getElem?_nil, Option.some.injEq,
      Int.toNat_zero, Int.reduceToNat, Int.reduceLT, Int.reduceLE, Int.reduceEq, Int.reduceAdd, Int.reduceSub, Int.reduceMul, Int.reduceNeg, decide_true, decide_false, Bool.not_true, Bool.not_false, beq_self_eq_true, List.mapM_cons, List.mapM_nil, wrap64, wrap8, Int.cast_ofNat_Int, Int.natCast_eq_zero, decide_eq_true_eq, Bool.or_false, Bool.or_true, Bool.or_self, Bool.false_or, Bool.true_or, Option.bind_eq_bind, Option.bind_some, Option.pure_def]) (by simp -implicitDefEqProofs only [go_sem, ↓reduceIte, Nat.reduceEqDiff, Nat.reduceAdd, Nat.reduceMul, Nat.reduceSub, Nat.reduceLeDiff, Nat.reduceLT, Nat.reducePow, reduceCtorEq, List.length_cons, List.length_nil, List.map_cons, List.map_nil,
      List.reverse_cons, List.reverse_nil, List.nil_append, List.cons_append, Bool.false_eq_true, Nat.zero_le, List.replicate_zero, List.replicate_succ, List.flatten_nil, List.flatten_cons, true_and, and_true, and_self, List.append_nil, Nat.zero_add, Nat.add_zero,
      List.contains_nil, Nat.le_refl, List.take_zero, List.take_succ_cons, List.drop_zero, List.drop_succ_cons, List.take_length, List.take_nil, List.drop_nil, Option.map_some, Option.map_none, List.getElem?_cons_zero, List.getElem?_cons_succ, List.getElem?_nil, Option.some.injEq,
      Int.toNat_zero, Int.reduceToNat, Int.reduceLT, Int.reduceLE, Int.reduceEq, Int.reduceAdd, Int.reduceSub, Int.reduceMul, Int.reduceNeg, decide_true, decide_false, Bool.not_true, Bool.not_false, beq_self_eq_true, List.mapM_cons, List.mapM_nil, wrap64, wrap8, Int.cast_ofNat_Int, Int.natCast_eq_zero, decide_eq_true_eq, Bool.or_false, Bool.or_true, Bool.or_self, Bool.false_or, Bool.true_or, Option.bind_eq_bind, Option.bind_some, Option.pure_def]), by simp⟩
    · exact ⟨⟨2, by omega⟩, Wk.sub (by simp -implicitDefEqProofs only [go_sem, ↓reduceIte, Nat.reduceEqDiff, Nat.reduceAdd, Nat.reduceMul, Nat.reduceSub, Nat.reduceLeDiff, Nat.reduceLT, Nat.reducePow, reduceCtorEq, List.length_cons, List.length_nil, List.map_cons, List.map_nil,
      List.reverse_cons, List.reverse_nil, List.nil_append, List.cons_append, Bool.false_eq_true, Nat.zero_le, List.replicate_zero, List.replicate_succ, List.flatten_nil, List.flatten_cons, true_and, and_true, and_self, List.append_nil, Nat.zero_add, Nat.add_zero,
      List.contains_nil, Nat.le_refl, List.take_zero, List.take_succ_cons, List.drop_zero, List.drop_succ_cons, List.take_length, List.take_nil, List.drop_nil, Option.map_some, Option.map_none, List.getElem?_cons_zero, List.getElem?_cons_succ, List.getElem?_nil, Option.some.injEq,
      Int.toNat_zero, Int.reduceToNat, Int.reduceLT, Int.reduceLE, Int.reduceEq, Int.reduceAdd, Int.reduceSub, Int.reduceMul, Int.reduceNeg, decide_true, decide_false, Bool.not_true, Bool.not_false, beq_self_eq_true, List.mapM_cons, List.mapM_nil, wrap64, wrap8, Int.cast_ofNat_Int, Int.natCast_eq_zero, decide_eq_true_eq, Bool.or_false, Bool.or_true, Bool.or_self, Bool.false_or, Bool.true_or, Option.bind_eq_bind, Option.bind_some, Option.pure_def]) (by simp -implicitDefEqProofs only [go_sem, ↓reduceIte, Nat.reduceEqDiff, Nat.reduceAdd, Nat.reduceMul, Nat.reduceSub, Nat.reduceLeDiff, Nat.reduceLT, Nat.reducePow, reduceCtorEq, List.length_cons, List.length_nil, List.map_cons, List.map_nil,
      List.reverse_cons, List.reverse_nil, List.nil_append, List.cons_append, Bool.false_eq_true, Nat.zero_le, List.replicate_zero, List.replicate_succ, List.flatten_nil, List.flatten_cons, true_and, and_true, and_self, List.append_nil, Nat.zero_add, Nat.add_zero,
      List.contains_nil, Nat.le_refl, List.take_zero, List.take_succ_cons, List.drop_zero, List.drop_succ_cons, List.take_length, List.take_nil, List.drop_nil, Option.map_some, Option.map_none, List.getElem?_cons_zero, List.getElem?_cons_succ, List.getElem?_nil, Option.some.injEq,
      Int.toNat_zero, Int.reduceToNat, Int.reduceLT, Int.reduceLE, Int.reduceEq, Int.reduceAdd, Int.reduceSub, Int.reduceMul, Int.reduceNeg, decide_true, decide_false, Bool.not_true, Bool.not_false, beq_self_eq_true, List.mapM_cons, List.mapM_nil, wrap64, wrap8, Int.cast_ofNat_Int, Int.natCast_eq_zero, decide_eq_true_eq, Bool.or_false, Bool.or_true, Bool.or_self, Bool.false_or, Bool.true_or, Option.bind_eq_bind, Option.bind_some, Option.pure_def]) (by decide) (by decide) (by simp -implicitDefEqProofs only [go_sem, ↓reduceIte, Nat.reduceEqDiff, Nat.reduceAdd, Nat.reduceMul, Nat.reduceSub, Nat.reduceLeDiff, Nat.reduceLT, Nat.reducePow, reduceCtorEq, List.length_cons, List.length_nil, List.map_cons, List.map_nil,
      List.reverse_cons, List.reverse_nil, List.nil_append, List.cons_append, Bool.false_eq_true, Nat.zero_le, List.replicate_zero, List.replicate_succ, List.flatten_nil, List.flatten_cons, true_and, and_true, and_self, List.append_nil, Nat.zero_add, Nat.add_zero,
      List.contains_nil, Nat.le_refl, List.take_zero, List.take_succ_cons, List.drop_zero, List.drop_succ_cons, List.take_length, List.take_nil, List.drop_nil, Option.map_some, Option.map_none, List.getElem?_cons_zero, List.getElem?_cons_succ, List.getElem?_nil, Option.some.injEq,
      Int.toNat_zero, Int.reduceToNat, Int.reduceLT, Int.reduceLE, Int.reduceEq, Int.reduceAdd, Int.reduceSub, Int.reduceMul, Int.reduceNeg, decide_true, decide_false, Bool.not_true, Bool.not_false, beq_self_eq_true, List.mapM_cons, List.mapM_nil, wrap64, wrap8, Int.cast_ofNat_Int, Int.natCast_eq_zero, decide_eq_true_eq, Bool.or_false, Bool.or_true, Bool.or_self, Bool.false_or, Bool.true_or, Option.bind_eq_bind, Option.bind_some, Option.pure_def]) (by simp -implicitDefEqProofs only [go_sem, ↓reduceIte, Nat.reduceEqDiff, Nat.reduceAdd, Nat.reduceMul, Nat.reduceSub, Nat.reduceLeDiff, Nat.reduceLT, Nat.reducePow, reduceCtorEq, List.length_cons, List.length_nil, List.map_cons, List.map_nil,
      List.reverse_cons, List.reverse_nil, List.nil_append, List.cons_append, Bool.false_eq_true, Nat.zero_le, List.replicate_zero, List.replicate_succ, List.flatten_nil, List.flatten_cons, true_and, and_true, and_self, List.append_nil, Nat.zero_add, Nat.add_zero,
      List.contains_nil, Nat.le_refl, List.take_zero, List.take_succ_cons, List.drop_zero, List.drop_succ_cons, List.take_length, List.take_nil, List.drop_nil, Option.map_some, Option.map_none, List.getElem?_cons_zero, List.getElem?_cons_succ, List.getElem?_nil, Option.some.injEq,
      Int.toNat_zero, Int.reduceToNat, Int.reduceLT, Int.reduceLE, Int.reduceEq, Int.reduceAdd, Int.reduceSub, Int.reduceMul, Int.reduceNeg, decide_true, decide_false, Bool.not_true, Bool.not_false, beq_self_eq_true, List.mapM_cons, List.mapM_nil, wrap64, wrap8, Int.cast_ofNat_Int, Int.natCast_eq_zero, decide_eq_true_eq, Bool.or_false, Bool.or_true, Bool.or_self, Bool.false_or, Bool.true_or, Option.bind_eq_bind, Option.bind_some, Option.pure_def]), by simp⟩
    · exact ⟨⟨3, by omega⟩, Wk.sub (by simp -implicitDefEqProofs only [go_sem, ↓reduceIte, Nat.reduceEqDiff, Nat.reduceAdd, Nat.reduceMul, Nat.reduceSub, Nat.reduceLeDiff, Nat.reduceLT, Nat.reducePow, reduceCtorEq, List.length_cons, List.length_nil, List.map_cons, List.map_nil,
      List.reverse_cons, List.reverse_nil, List.nil_append, List.cons_append, Bool.false_eq_true, Nat.zero_le, List.replicate_zero, List.replicate_succ, List.flatten_nil, List.flatten_cons, true_and, and_true, and_self, List.append_nil, Nat.zero_add, Nat.add_zero,
      List.contains_nil, Nat.le_refl, List.take_zero, List.take_succ_cons, List.drop_zero, List.drop_succ_cons, List.take_length, List.take_nil, List.drop_nil, Option.map_some, Option.map_none, List.getElem?_cons_zero, List.getElem?_cons_succ, List.getElem?_nil, Option.some.injEq,
      Int.toNat_zero, Int.reduceToNat, Int.reduceLT, Int.reduceLE, Int.reduceEq, Int.reduceAdd, Int.reduceSub, Int.reduceMul, Int.reduceNeg, decide_true, decide_false, Bool.not_true, Bool.not_false, beq_self_eq_true, List.mapM_cons, List.mapM_nil, wrap64, wrap8, Int.cast_ofNat_Int, Int.natCast_eq_zero, decide_eq_true_eq, Bool.or_false, Bool.or_true, Bool.or_self, Bool.false_or, Bool.true_or, Option.bind_eq_bind, Option.bind_some, Option.pure_def]) (by simp -implicitDefEqProofs only [go_sem, ↓reduceIte, Nat.reduceEqDiff, Nat.reduceAdd, Nat.reduceMul, Nat.reduceSub, Nat.reduceLeDiff, Nat.reduceLT, Nat.reducePow, reduceCtorEq, List.length_cons, List.length_nil, List.map_cons, List.map_nil,
      List.reverse_cons, List.reverse_nil, List.nil_append, List.cons_append, Bool.false_eq_true, Nat.zero_le, List.replicate_zero, List.replicate_succ, List.flatten_nil, List.flatten_cons, true_and, and_true, and_self, List.append_nil, Nat.zero_add, Nat.add_zero,
      List.contains_nil, Nat.le_refl, List.take_zero, List.take_succ_cons, List.drop_zero, List.drop_succ_cons, List.take_length, List.take_nil, List.drop_nil, Option.map_some, Option.map_none, List.getElem?_cons_zero, List.getElem?_cons_succ, List.getElem?_nil, Option.some.injEq,
      Int.toNat_zero, Int.reduceToNat, Int.reduceLT, Int.reduceLE, Int.reduceEq, Int.reduceAdd, Int.reduceSub, Int.reduceMul, Int.reduceNeg, decide_true, decide_false, Bool.not_true, Bool.not_false, beq_self_eq_true, List.mapM_cons, List.mapM_nil, wrap64, wrap8, Int.cast_ofNat_Int, Int.natCast_eq_zero, decide_eq_true_eq, Bool.or_false, Bool.or_true, Bool.or_self, Bool.false_or, Bool.true_or, Option.bind_eq_bind, Option.bind_some, Option.pure_def]) (by decide) (by decide) (by simp -implicitDefEqProofs only [go_sem, ↓reduceIte, Nat.reduceEqDiff, Nat.reduceAdd, Nat.reduceMul, Nat.reduceSub, Nat.reduceLeDiff, Nat.reduceLT, Nat.reducePow, reduceCtorEq, List.length_cons, List.length_nil, List.map_cons, List.map_nil,
      List.reverse_cons, List.reverse_nil, List.nil_append, List.cons_append, Bool.false_eq_true, Nat.zero_le, List.replicate_zero, List.replicate_succ, List.flatten_nil, List.flatten_cons, true_and, and_true, and_self, List.append_nil, Nat.zero_add, Nat.add_zero,
      List.contains_nil, Nat.le_refl, List.take_zero, List.take_succ_cons, List.drop_zero, List.drop_succ_cons, List.take_length, List.take_nil, List.drop_nil, Option.map_some, Option.map_none, List.getElem?_cons_zero, List.getElem?_cons_succ, List.getElem?_nil, Option.some.injEq,
      Int.toNat_zero, Int.reduceToNat, Int.reduceLT, Int.reduceLE, Int.reduceEq, Int.reduceAdd, Int.reduceSub, Int.reduceMul, Int.reduceNeg, decide_true, decide_false, Bool.not_true, Bool.not_false, beq_self_eq_true, List.mapM_cons, List.mapM_nil, wrap64, wrap8, Int.cast_ofNat_Int, Int.natCast_eq_zero, decide_eq_true_eq, Bool.or_false, Bool.or_true, Bool.or_self, Bool.false_or, Bool.true_or, Option.bind_eq_bind, Option.bind_some, Option.pure_def]) (by simp -implicitDefEqProofs only [go_sem, ↓reduceIte, Nat.reduceEqDiff, Nat.reduceAdd, Nat.reduceMul, Nat.reduceSub, Nat.reduceLeDiff, Nat.reduceLT, Nat.reducePow, reduceCtorEq, List.length_cons, List.length_nil, List.map_cons, List.map_nil,
      List.reverse_cons, List.reverse_nil, List.nil_append, List.cons_append, Bool.false_eq_true, Nat.zero_le, List.replicate_zero, List.replicate_succ, List.flatten_nil, List.flatten_cons, true_and, and_true, and_self, List.append_nil, Nat.zero_add, Nat.add_zero,
      List.contains_nil, Nat.le_refl, List.take_zero, List.take_succ_cons, List.drop_zero, List.drop_succ_cons, List.take_length, List.take_nil, List.drop_nil, Option.map_some, Option.map_none, List.getElem?_cons_zero, List.getElem?_cons_succ, List.getElem?_nil, Option.some.injEq,
      Int.toNat_zero, Int.reduceToNat, Int.reduceLT, Int.reduceLE, Int.reduceEq, Int.reduceAdd, Int.reduceSub, Int.reduceMul, Int.reduceNeg, decide_true, decide_false, Bool.not_true, Bool.not_false, beq_self_eq_true, List.mapM_cons, List.mapM_nil, wrap64, wrap8, Int.cast_ofNat_Int, Int.natCast_eq_zero, decide_eq_true_eq, Bool.or_false, Bool.or_true, Bool.or_self, Bool.false_or, Bool.true_or, Option.bind_eq_bind, Option.bind_some, Option.pure_def]), by simp⟩
end Go.Proofs.Ytehmaafnbgpkcaa

namespace Go.Proofs.Ytehmaafnbgpkcaa
open Go Go.Vs Go.Proofs

def keys (l : List ByteArray) : List (List UInt8) := l.map (·.toList)
/-- One log is a front of another one. -/
def isFront (a b : List ByteArray) : Bool := (keys a).isPrefixOf (keys b)

theorem isFront_iff (a b : List ByteArray) : isFront a b = true ↔ keys a = (keys b).take a.length := by
  rw [isFront, List.isPrefixOf_iff_prefix, List.prefix_iff_eq_take]
  simp [keys]

theorem keys_length (a : List ByteArray) : (keys a).length = a.length := by simp [keys]

theorem isFront_len {a b : List ByteArray} (h : isFront a b = true) : a.length ≤ b.length := by
  have := congrArg List.length ((isFront_iff a b).1 h)
  simp [keys_length] at this
  omega

theorem keys_get {a : List ByteArray} {k : Nat} (h : k < a.length) : (keys a)[k]? = some (a[k].toList) := by simp [keys, h]

theorem front (a b : List ByteArray) (ha : a.length ≤ 1000000) (hb : b.length ≤ 1000000) :
    Gives Try.prog 21 [.c (.sl 1 (strs a)), .c (.sl 1 (strs b))] (.c (.d (.bool (isFront a b)))) [] := by
  refine Gives.of_w TryEnv Try.func21 (by decide) TryL21_ok Try.ntmps21 (rs := [.tmp 4]) rfl (by simp) [] (by decide) ?_
  rw [TryL21]
  repeat' first
    | simp -implicitDefEqProofs only [go_sem, ↓reduceIte, Nat.reduceEqDiff, Nat.reduceAdd, Nat.reduceMul, Nat.reduceSub, Nat.reduceLeDiff, Nat.reduceLT, Nat.reducePow, reduceCtorEq, List.length_cons, List.length_nil, List.map_cons, List.map_nil,
      List.reverse_cons, List.reverse_nil, List.nil_append, List.cons_append, Bool.false_eq_true, Nat.zero_le, List.replicate_zero, List.replicate_succ, List.flatten_nil, List.flatten_cons, true_and, and_true, and_self, List.append_nil, Nat.zero_add, Nat.add_zero,
      List.contains_nil, Nat.le_refl, List.take_zero, List.take_succ_cons, List.drop_zero, List.drop_succ_cons, List.take_length, List.take_nil, List.drop_nil, Option.map_some, Option.map_none, List.getElem?_cons_zero, List.getElem?_cons_succ, List.getElem?_nil, Option.some.injEq,
      Int.toNat_zero, Int.reduceToNat, Int.reduceLT, Int.reduceLE, Int.reduceEq, Int.reduceAdd, Int.reduceSub, Int.reduceMul, Int.reduceNeg, decide_true, decide_false, Bool.not_true, Bool.not_false, beq_self_eq_true, List.mapM_cons, List.mapM_nil, wrap64, wrap8, Int.cast_ofNat_Int, Int.natCast_eq_zero, decide_eq_true_eq, Bool.or_false, Bool.or_true, Bool.or_self, Bool.false_or, Bool.true_or, Option.bind_eq_bind, Option.bind_some, Option.pure_def]
    | refine wfork_intro (fun h => ?_) (fun h => ?_)
  · have h : b.length < a.length := by simpa using h
    have : isFront a b = false := by
      cases hf : isFront a b with
      | false => rfl
      | true => have := isFront_len hf; omega
    rw [this]
    exact .refl _
  · have h : a.length ≤ b.length := by simpa using h
    refine wT_loop (fun k : { k : Nat // k ≤ a.length ∧ (keys a).take k = (keys b).take k } => ⟨[(0, .c (.d (.sl 1 (strs a)))), (1, .c (.d (.sl 1 (strs b)))), (5, .c (.d (.int .i64 (k.1 : Nat))))], [], 28⟩) (fun k => a.length - k.1) ⟨0, by simp⟩ ?_ ?_
    · refine Wk.sub ?_ ?_ ?_ ?_ ?_ ?_
      all_goals simp -implicitDefEqProofs only [go_sem, ↓reduceIte, Nat.reduceEqDiff, Nat.reduceAdd, Nat.reduceMul, Nat.reduceSub, Nat.reduceLeDiff, Nat.reduceLT, Nat.reducePow, reduceCtorEq, List.length_cons, List.length_nil, List.map_cons, List.map_nil,
      List.reverse_cons, List.reverse_nil, List.nil_append, List.cons_append, Bool.false_eq_true, Nat.zero_le, List.replicate_zero, List.replicate_succ, List.flatten_nil, List.flatten_cons, true_and, and_true, and_self, List.append_nil, Nat.zero_add, Nat.add_zero,
      List.contains_nil, Nat.le_refl, List.take_zero, List.take_succ_cons, List.drop_zero, List.drop_succ_cons, List.take_length, List.take_nil, List.drop_nil, Option.map_some, Option.map_none, List.getElem?_cons_zero, List.getElem?_cons_succ, List.getElem?_nil, Option.some.injEq,
      Int.toNat_zero, Int.reduceToNat, Int.reduceLT, Int.reduceLE, Int.reduceEq, Int.reduceAdd, Int.reduceSub, Int.reduceMul, Int.reduceNeg, decide_true, decide_false, Bool.not_true, Bool.not_false, beq_self_eq_true, List.mapM_cons, List.mapM_nil, wrap64, wrap8, Int.cast_ofNat_Int, Int.natCast_eq_zero, decide_eq_true_eq, Bool.or_false, Bool.or_true, Bool.or_self, Bool.false_or, Bool.true_or, Option.bind_eq_bind, Option.bind_some, Option.pure_def]
    · rintro ⟨k, hk, hkk⟩
      refine wT_of TryEnv ?_
      simp -implicitDefEqProofs only [go_sem, ↓reduceIte, Nat.reduceEqDiff, Nat.reduceAdd, Nat.reduceMul, Nat.reduceSub, Nat.reduceLeDiff, Nat.reduceLT, Nat.reducePow, reduceCtorEq, List.length_cons, List.length_nil, List.map_cons, List.map_nil,
      List.reverse_cons, List.reverse_nil, List.nil_append, List.cons_append, Bool.false_eq_true, Nat.zero_le, List.replicate_zero, List.replicate_succ, List.flatten_nil, List.flatten_cons, true_and, and_true, and_self, List.append_nil, Nat.zero_add, Nat.add_zero,
      List.contains_nil, Nat.le_refl, List.take_zero, List.take_succ_cons, List.drop_zero, List.drop_succ_cons, List.take_length, List.take_nil, List.drop_nil, Option.map_some, Option.map_none, List.getElem?_cons_zero, List.getElem?_cons_succ, List.getElem?_nil, Option.some.injEq,
      Int.toNat_zero, Int.reduceToNat, Int.reduceLT, Int.reduceLE, Int.reduceEq, Int.reduceAdd, Int.reduceSub, Int.reduceMul, Int.reduceNeg, decide_true, decide_false, Bool.not_true, Bool.not_false, beq_self_eq_true, List.mapM_cons, List.mapM_nil, wrap64, wrap8, Int.cast_ofNat_Int, Int.natCast_eq_zero, decide_eq_true_eq, Bool.or_false, Bool.or_true, Bool.or_self, Bool.false_or, Bool.true_or, Option.bind_eq_bind, Option.bind_some, Option.pure_def]
      refine wfork_intro (fun h1 => ?_) (fun h1 => ?_)
      · have h1 : k < a.length := by simpa using h1
        have h2 : k < b.length := by omega
        simp -implicitDefEqProofs only [go_sem, ↓reduceIte, Nat.reduceEqDiff, Nat.reduceAdd, Nat.reduceMul, Nat.reduceSub, Nat.reduceLeDiff, Nat.reduceLT, Nat.reducePow, reduceCtorEq, List.length_cons, List.length_nil, List.map_cons, List.map_nil,
      List.reverse_cons, List.reverse_nil, List.nil_append, List.cons_append, Bool.false_eq_true, Nat.zero_le, List.replicate_zero, List.replicate_succ, List.flatten_nil, List.flatten_cons, true_and, and_true, and_self, List.append_nil, Nat.zero_add, Nat.add_zero,
      List.contains_nil, Nat.le_refl, List.take_zero, List.take_succ_cons, List.drop_zero, List.drop_succ_cons, List.take_length, List.take_nil, List.drop_nil, Option.map_some, Option.map_none, List.getElem?_cons_zero, List.getElem?_cons_succ, List.getElem?_nil, Option.some.injEq,
      Int.toNat_zero, Int.reduceToNat, Int.reduceLT, Int.reduceLE, Int.reduceEq, Int.reduceAdd, Int.reduceSub, Int.reduceMul, Int.reduceNeg, decide_true, decide_false, Bool.not_true, Bool.not_false, beq_self_eq_true, List.mapM_cons, List.mapM_nil, wrap64, wrap8, Int.cast_ofNat_Int, Int.natCast_eq_zero, decide_eq_true_eq, Bool.or_false, Bool.or_true, Bool.or_self, Bool.false_or, Bool.true_or, Option.bind_eq_bind, Option.bind_some, Option.pure_def, strs_get, List.getElem?_eq_getElem h1, List.getElem?_eq_getElem h2, Int.toNat_natCast, Int.natCast_nonneg]
        refine wfork_intro (fun h3 => ?_) (fun h3 => ?_)
        · simp -implicitDefEqProofs only [go_sem, ↓reduceIte, Nat.reduceEqDiff, Nat.reduceAdd, Nat.reduceMul, Nat.reduceSub, Nat.reduceLeDiff, Nat.reduceLT, Nat.reducePow, reduceCtorEq, List.length_cons, List.length_nil, List.map_cons, List.map_nil,
      List.reverse_cons, List.reverse_nil, List.nil_append, List.cons_append, Bool.false_eq_true, Nat.zero_le, List.replicate_zero, List.replicate_succ, List.flatten_nil, List.flatten_cons, true_and, and_true, and_self, List.append_nil, Nat.zero_add, Nat.add_zero,
      List.contains_nil, Nat.le_refl, List.take_zero, List.take_succ_cons, List.drop_zero, List.drop_succ_cons, List.take_length, List.take_nil, List.drop_nil, Option.map_some, Option.map_none, List.getElem?_cons_zero, List.getElem?_cons_succ, List.getElem?_nil, Option.some.injEq,
      Int.toNat_zero, Int.reduceToNat, Int.reduceLT, Int.reduceLE, Int.reduceEq, Int.reduceAdd, Int.reduceSub, Int.reduceMul, Int.reduceNeg, decide_true, decide_false, Bool.not_true, Bool.not_false, beq_self_eq_true, List.mapM_cons, List.mapM_nil, wrap64, wrap8, Int.cast_ofNat_Int, Int.natCast_eq_zero, decide_eq_true_eq, Bool.or_false, Bool.or_true, Bool.or_self, Bool.false_or, Bool.true_or, Option.bind_eq_bind, Option.bind_some, Option.pure_def]
          have : isFront a b = false := by
            cases hf : isFront a b with
            | false => rfl
            | true =>
              have h4 := congrArg (fun l => l[k]?) ((isFront_iff a b).1 hf)
              simp only [List.getElem?_take, if_pos h1, keys_get h1, keys_get h2, Option.some.injEq] at h4
              simp [h4] at h3
          rw [this]
          exact .refl _
        · simp -implicitDefEqProofs only [go_sem, ↓reduceIte, Nat.reduceEqDiff, Nat.reduceAdd, Nat.reduceMul, Nat.reduceSub, Nat.reduceLeDiff, Nat.reduceLT, Nat.reducePow, reduceCtorEq, List.length_cons, List.length_nil, List.map_cons, List.map_nil,
      List.reverse_cons, List.reverse_nil, List.nil_append, List.cons_append, Bool.false_eq_true, Nat.zero_le, List.replicate_zero, List.replicate_succ, List.flatten_nil, List.flatten_cons, true_and, and_true, and_self, List.append_nil, Nat.zero_add, Nat.add_zero,
      List.contains_nil, Nat.le_refl, List.take_zero, List.take_succ_cons, List.drop_zero, List.drop_succ_cons, List.take_length, List.take_nil, List.drop_nil, Option.map_some, Option.map_none, List.getElem?_cons_zero, List.getElem?_cons_succ, List.getElem?_nil, Option.some.injEq,
      Int.toNat_zero, Int.reduceToNat, Int.reduceLT, Int.reduceLE, Int.reduceEq, Int.reduceAdd, Int.reduceSub, Int.reduceMul, Int.reduceNeg, decide_true, decide_false, Bool.not_true, Bool.not_false, beq_self_eq_true, List.mapM_cons, List.mapM_nil, wrap64, wrap8, Int.cast_ofNat_Int, Int.natCast_eq_zero, decide_eq_true_eq, Bool.or_false, Bool.or_true, Bool.or_self, Bool.false_or, Bool.true_or, Option.bind_eq_bind, Option.bind_some, Option.pure_def]
          have h4 : a[k].toList = b[k].toList := by simpa using h3
          refine ⟨⟨k + 1, by omega, ?_⟩, Wk.sub (by simp -implicitDefEqProofs only [go_sem, ↓reduceIte, Nat.reduceEqDiff, Nat.reduceAdd, Nat.reduceMul, Nat.reduceSub, Nat.reduceLeDiff, Nat.reduceLT, Nat.reducePow, reduceCtorEq, List.length_cons, List.length_nil, List.map_cons, List.map_nil,
      List.reverse_cons, List.reverse_nil, List.nil_append, List.cons_append, Bool.false_eq_true, Nat.zero_le, List.replicate_zero, List.replicate_succ, List.flatten_nil, List.flatten_cons, true_and, and_true, and_self, List.append_nil, Nat.zero_add, Nat.add_zero,
      List.contains_nil, Nat.le_refl, List.take_zero, List.take_succ_cons, List.drop_zero, List.drop_succ_cons, List.take_length, List.take_nil, List.drop_nil, Option.map_some, Option.map_none, List.getElem?_cons_zero, List.getElem?_cons_succ, List.getElem?_nil, Option.some.injEq,
      Int.toNat_zero, Int.reduceToNat, Int.reduceLT, Int.reduceLE, Int.reduceEq, Int.reduceAdd, Int.reduceSub, Int.reduceMul, Int.reduceNeg, decide_true, decide_false, Bool.not_true, Bool.not_false, beq_self_eq_true, List.mapM_cons, List.mapM_nil, wrap64, wrap8, Int.cast_ofNat_Int, Int.natCast_eq_zero, decide_eq_true_eq, Bool.or_false, Bool.or_true, Bool.or_self, Bool.false_or, Bool.true_or, Option.bind_eq_bind, Option.bind_some, Option.pure_def, wrap64 (show (-9223372036854775808 : Int) ≤ (k : Int) + 1 by omega) (show (k : Int) + 1 ≤ 9223372036854775807 by omega), Int.natCast_add, Int.cast_ofNat_Int, Int.natCast_one]) (by simp -implicitDefEqProofs only [go_sem, ↓reduceIte, Nat.reduceEqDiff, Nat.reduceAdd, Nat.reduceMul, Nat.reduceSub, Nat.reduceLeDiff, Nat.reduceLT, Nat.reducePow, reduceCtorEq, List.length_cons, List.length_nil, List.map_cons, List.map_nil,
      List.reverse_cons, List.reverse_nil, List.nil_append, List.cons_append, Bool.false_eq_true, Nat.zero_le, List.replicate_zero, List.replicate_succ, List.flatten_nil, List.flatten_cons, true_and, and_true, and_self, List.append_nil, Nat.zero_add, Nat.add_zero,
      List.contains_nil, Nat.le_refl, List.take_zero, List.take_succ_cons, List.drop_zero, List.drop_succ_cons, List.take_length, List.take_nil, List.drop_nil, Option.map_some, Option.map_none, List.getElem?_cons_zero, List.getElem?_cons_succ, List.getElem?_nil, Option.some.injEq,
      Int.toNat_zero, Int.reduceToNat, Int.reduceLT, Int.reduceLE, Int.reduceEq, Int.reduceAdd, Int.reduceSub, Int.reduceMul, Int.reduceNeg, decide_true, decide_false, Bool.not_true, Bool.not_false, beq_self_eq_true, List.mapM_cons, List.mapM_nil, wrap64, wrap8, Int.cast_ofNat_Int, Int.natCast_eq_zero, decide_eq_true_eq, Bool.or_false, Bool.or_true, Bool.or_self, Bool.false_or, Bool.true_or, Option.bind_eq_bind, Option.bind_some, Option.pure_def]) (by decide) (by decide) (by simp -implicitDefEqProofs only [go_sem, ↓reduceIte, Nat.reduceEqDiff, Nat.reduceAdd, Nat.reduceMul, Nat.reduceSub, Nat.reduceLeDiff, Nat.reduceLT, Nat.reducePow, reduceCtorEq, List.length_cons, List.length_nil, List.map_cons, List.map_nil,
      List.reverse_cons, List.reverse_nil, List.nil_append, List.cons_append, Bool.false_eq_true, Nat.zero_le, List.replicate_zero, List.replicate_succ, List.flatten_nil, List.flatten_cons, true_and, and_true, and_self, List.append_nil, Nat.zero_add, Nat.add_zero,
      List.contains_nil, Nat.le_refl, List.take_zero, List.take_succ_cons, List.drop_zero, List.drop_succ_cons, List.take_length, List.take_nil, List.drop_nil, Option.map_some, Option.map_none, List.getElem?_cons_zero, List.getElem?_cons_succ, List.getElem?_nil, Option.some.injEq,
      Int.toNat_zero, Int.reduceToNat, Int.reduceLT, Int.reduceLE, Int.reduceEq, Int.reduceAdd, Int.reduceSub, Int.reduceMul, Int.reduceNeg, decide_true, decide_false, Bool.not_true, Bool.not_false, beq_self_eq_true, List.mapM_cons, List.mapM_nil, wrap64, wrap8, Int.cast_ofNat_Int, Int.natCast_eq_zero, decide_eq_true_eq, Bool.or_false, Bool.or_true, Bool.or_self, Bool.false_or, Bool.true_or, Option.bind_eq_bind, Option.bind_some, Option.pure_def]) (by simp -implicitDefEqProofs only [go_sem, ↓reduceIte, Nat.reduceEqDiff, Nat.reduceAdd, Nat.reduceMul, Nat.reduceSub, Nat.reduceLeDiff, Nat.reduceLT, Nat.reducePow, reduceCtorEq, List.length_cons, List.length_nil, List.map_cons, List.map_nil,
      List.reverse_cons, List.reverse_nil, List.nil_append, List.cons_append, Bool.false_eq_true, Nat.zero_le, List.replicate_zero, List.replicate_succ, List.flatten_nil, List.flatten_cons, true_and, and_true, and_self, List.append_nil, Nat.zero_add, Nat.add_zero,
      List.contains_nil, Nat.le_refl, List.take_zero, List.take_succ_cons, List.drop_zero, List.drop_succ_cons, List.take_length, List.take_nil, List.drop_nil, Option.map_some, Option.map_none, List.getElem?_cons_zero, List.getElem?_cons_succ, List.getElem?_nil, Option.some.injEq,
      Int.toNat_zero, Int.reduceToNat, Int.reduceLT, Int.reduceLE, Int.reduceEq, Int.reduceAdd, Int.reduceSub, Int.reduceMul, Int.reduceNeg, decide_true, decide_false, Bool.not_true, Bool.not_false, beq_self_eq_true, List.mapM_cons, List.mapM_nil, wrap64, wrap8, Int.cast_ofNat_Int, Int.natCast_eq_zero, decide_eq_true_eq, Bool.or_false, Bool.or_true, Bool.or_self, Bool.false_or, Bool.true_or, Option.bind_eq_bind, Option.bind_some, Option.pure_def]), by simp; omega⟩
          rw [List.take_add_one, List.take_add_one, hkk, keys_get h1, keys_get h2, h4]
      · simp -implicitDefEqProofs only [go_sem, ↓reduceIte, Nat.reduceEqDiff, Nat.reduceAdd, Nat.reduceMul, Nat.reduceSub, Nat.reduceLeDiff, Nat.reduceLT, Nat.reducePow, reduceCtorEq, List.length_cons, List.length_nil, List.map_cons, List.map_nil,
      List.reverse_cons, List.reverse_nil, List.nil_append, List.cons_append, Bool.false_eq_true, Nat.zero_le, List.replicate_zero, List.replicate_succ, List.flatten_nil, List.flatten_cons, true_and, and_true, and_self, List.append_nil, Nat.zero_add, Nat.add_zero,
      List.contains_nil, Nat.le_refl, List.take_zero, List.take_succ_cons, List.drop_zero, List.drop_succ_cons, List.take_length, List.take_nil, List.drop_nil, Option.map_some, Option.map_none, List.getElem?_cons_zero, List.getElem?_cons_succ, List.getElem?_nil, Option.some.injEq,
      Int.toNat_zero, Int.reduceToNat, Int.reduceLT, Int.reduceLE, Int.reduceEq, Int.reduceAdd, Int.reduceSub, Int.reduceMul, Int.reduceNeg, decide_true, decide_false, Bool.not_true, Bool.not_false, beq_self_eq_true, List.mapM_cons, List.mapM_nil, wrap64, wrap8, Int.cast_ofNat_Int, Int.natCast_eq_zero, decide_eq_true_eq, Bool.or_false, Bool.or_true, Bool.or_self, Bool.false_or, Bool.true_or, Option.bind_eq_bind, Option.bind_some, Option.pure_def]
        have h1 : k = a.length := by
          have : ¬ k < a.length := by simpa using h1
          omega
        subst h1
        have : isFront a b = true := by
          rw [isFront_iff, ← hkk, List.take_of_length_le (by simp [keys_length])]
        rw [this]
        exact .refl _
end Go.Proofs.Ytehmaafnbgpkcaa

namespace Go.Proofs.Ytehmaafnbgpkcaa
open Go Go.Vs Go.Proofs

def isLines (a b : List ByteArray) : Bool := decide (a.length = b.length) && isFront a b

theorem lines (a b : List ByteArray) (ha : a.length ≤ 1000000) (hb : b.length ≤ 1000000) :
    Gives Try.prog 14 [.c (.sl 1 (strs a)), .c (.sl 1 (strs b))] (.c (.d (.bool (isLines a b)))) [] := by
  refine Gives.of_w TryEnv Try.func14 (by decide) TryL14_ok Try.ntmps14 (rs := [.tmp 4]) rfl (by simp) [] (by decide) ?_
  rw [TryL14]
  repeat' first
    | simp -implicitDefEqProofs only [go_sem, ↓reduceIte, Nat.reduceEqDiff, Nat.reduceAdd, Nat.reduceMul, Nat.reduceSub, Nat.reduceLeDiff, Nat.reduceLT, Nat.reducePow, reduceCtorEq, List.length_cons, List.length_nil, List.map_cons, List.map_nil,
      List.reverse_cons, List.reverse_nil, List.nil_append, List.cons_append, Bool.false_eq_true, Nat.zero_le, List.replicate_zero, List.replicate_succ, List.flatten_nil, List.flatten_cons, true_and, and_true, and_self, List.append_nil, Nat.zero_add, Nat.add_zero,
      List.contains_nil, Nat.le_refl, List.take_zero, List.take_succ_cons, List.drop_zero, List.drop_succ_cons, List.take_length, List.take_nil, List.drop_nil, Option.map_some, Option.map_none, List.getElem?_cons_zero, List.getElem?_cons_succ, List.getElem?_nil, Option.some.injEq,
      Int.toNat_zero, Int.reduceToNat, Int.reduceLT, Int.reduceLE, Int.reduceEq, Int.reduceAdd, Int.reduceSub, Int.reduceMul, Int.reduceNeg, decide_true, decide_false, Bool.not_true, Bool.not_false, beq_self_eq_true, List.mapM_cons, List.mapM_nil, wrap64, wrap8, Int.cast_ofNat_Int, Int.natCast_eq_zero, decide_eq_true_eq, Bool.or_false, Bool.or_true, Bool.or_self, Bool.false_or, Bool.true_or, Option.bind_eq_bind, Option.bind_some, Option.pure_def]
    | refine wfork_intro (fun h => ?_) (fun h => ?_)
    | (refine wCall_intro (front _ _ ?_ ?_) ?_ ?_ ?_; assumption; assumption; rfl; decide)
  all_goals refine DLe.of_eq ?_
  all_goals first
    | (simp_all [isLines]; done)
    | (simp_all [isLines]; intros; omega)

/-- Two nodes are the same. -/
def isSame (p e : Int) (l : List ByteArray) (b : Bool) (p' e' : Int) (l' : List ByteArray) (b' : Bool) : Bool :=
  decide (p = p') && decide (e = e') && (b == b') && isLines l l'

theorem same (p e : Int) (l : List ByteArray) (b : Bool) (p' e' : Int) (l' : List ByteArray) (b' : Bool) (ha : l.length ≤ 1000000) (hb : l'.length ≤ 1000000) :
    Gives Try.prog 28 [.agg [.int .i64 p, .int .i64 e, .sl 1 (strs l), .bool b], .agg [.int .i64 p', .int .i64 e', .sl 1 (strs l'), .bool b']] (.c (.d (.bool (isSame p e l b p' e' l' b')))) [] := by
  refine Gives.of_w TryEnv Try.func28 (by decide) TryL28_ok Try.ntmps28 (rs := [.tmp 4]) rfl (by simp) [] (by decide) ?_
  rw [TryL28]
  repeat' first
    | simp -implicitDefEqProofs only [go_sem, ↓reduceIte, Nat.reduceEqDiff, Nat.reduceAdd, Nat.reduceMul, Nat.reduceSub, Nat.reduceLeDiff, Nat.reduceLT, Nat.reducePow, reduceCtorEq, List.length_cons, List.length_nil, List.map_cons, List.map_nil,
      List.reverse_cons, List.reverse_nil, List.nil_append, List.cons_append, Bool.false_eq_true, Nat.zero_le, List.replicate_zero, List.replicate_succ, List.flatten_nil, List.flatten_cons, true_and, and_true, and_self, List.append_nil, Nat.zero_add, Nat.add_zero,
      List.contains_nil, Nat.le_refl, List.take_zero, List.take_succ_cons, List.drop_zero, List.drop_succ_cons, List.take_length, List.take_nil, List.drop_nil, Option.map_some, Option.map_none, List.getElem?_cons_zero, List.getElem?_cons_succ, List.getElem?_nil, Option.some.injEq,
      Int.toNat_zero, Int.reduceToNat, Int.reduceLT, Int.reduceLE, Int.reduceEq, Int.reduceAdd, Int.reduceSub, Int.reduceMul, Int.reduceNeg, decide_true, decide_false, Bool.not_true, Bool.not_false, beq_self_eq_true, List.mapM_cons, List.mapM_nil, wrap64, wrap8, Int.cast_ofNat_Int, Int.natCast_eq_zero, decide_eq_true_eq, Bool.or_false, Bool.or_true, Bool.or_self, Bool.false_or, Bool.true_or, Option.bind_eq_bind, Option.bind_some, Option.pure_def]
    | refine wfork_intro (fun h => ?_) (fun h => ?_)
    | (refine wCall_intro (lines _ _ ?_ ?_) ?_ ?_ ?_; assumption; assumption; rfl; decide)
  all_goals refine DLe.of_eq ?_
  all_goals simp_all [isSame]
end Go.Proofs.Ytehmaafnbgpkcaa

namespace Go.Proofs.Ytehmaafnbgpkcaa
open Go Go.Vs Go.Proofs

/-- A node. -/
structure Nd where
  p : Int
  e : Int
  log : List ByteArray
  lost : Bool

def Nd.zero : Nd := ⟨0, 0, [], false⟩

def promiseN (n : Nd) (e : Int) : Nd × Int :=
  if e < 1 then (Nd.zero, 1) else if n.lost then (Nd.zero, 7) else if e ≤ n.p then (Nd.zero, 15) else (⟨e, n.e, n.log, false⟩, 0)

theorem promise (p e : Int) (l : List ByteArray) (b : Bool) (n : Int) (h : l.length ≤ 1000000) :
    Gives Try.prog 22 [.agg [.int .i64 p, .int .i64 e, .sl 1 (strs l), .bool b], .c (.int .i64 n)]
     (.tup [.agg [.d (.int .i64 (promiseN ⟨p, e, l, b⟩ n).1.p), .d (.int .i64 (promiseN ⟨p, e, l, b⟩ n).1.e), .d (.sl 1 (strs (promiseN ⟨p, e, l, b⟩ n).1.log)), .d (.bool (promiseN ⟨p, e, l, b⟩ n).1.lost)],
       .c (.d (.int .i64 (promiseN ⟨p, e, l, b⟩ n).2))]) [] := by
  refine Gives.of_w TryEnv Try.func22 (by decide) TryL22_ok Try.ntmps22 (rs := [.cell 4 24, .tmp 5]) rfl (by simp) [] (by decide) ?_
  rw [TryL22]
  repeat' first
    | simp -implicitDefEqProofs only [go_sem, ↓reduceIte, Nat.reduceEqDiff, Nat.reduceAdd, Nat.reduceMul, Nat.reduceSub, Nat.reduceLeDiff, Nat.reduceLT, Nat.reducePow, reduceCtorEq, List.length_cons, List.length_nil, List.map_cons, List.map_nil,
      List.reverse_cons, List.reverse_nil, List.nil_append, List.cons_append, Bool.false_eq_true, Nat.zero_le, List.replicate_zero, List.replicate_succ, List.flatten_nil, List.flatten_cons, true_and, and_true, and_self, List.append_nil, Nat.zero_add, Nat.add_zero,
      List.contains_nil, Nat.le_refl, List.take_zero, List.take_succ_cons, List.drop_zero, List.drop_succ_cons, List.take_length, List.take_nil, List.drop_nil, Option.map_some, Option.map_none, List.getElem?_cons_zero, List.getElem?_cons_succ, List.getElem?_nil, Option.some.injEq,
      Int.toNat_zero, Int.reduceToNat, Int.reduceLT, Int.reduceLE, Int.reduceEq, Int.reduceAdd, Int.reduceSub, Int.reduceMul, Int.reduceNeg, decide_true, decide_false, Bool.not_true, Bool.not_false, beq_self_eq_true, List.mapM_cons, List.mapM_nil, wrap64, wrap8, Int.cast_ofNat_Int, Int.natCast_eq_zero, decide_eq_true_eq, Bool.or_false, Bool.or_true, Bool.or_self, Bool.false_or, Bool.true_or, Option.bind_eq_bind, Option.bind_some, Option.pure_def]
    | refine wfork_intro (fun h => ?_) (fun h => ?_)
    | (refine wCall_intro (clone _ ?_) ?_ ?_ ?_; assumption; rfl; decide)
    | refine Also.mk (by decide) ?_
  all_goals simp only [decide_eq_true_eq, decide_eq_false_iff_not, Bool.not_eq_true] at *
  all_goals simp [*, promiseN, Nd.zero, VLe_tup, VLe_agg, VLe_c, VsLe_nil, VsLe_cons, CsLe_nil, CsLe_cons, CLe_d, CLe_self, DLe_self, DLe_nil, strs_nil]
end Go.Proofs.Ytehmaafnbgpkcaa

namespace Go.Proofs.Ytehmaafnbgpkcaa
open Go Go.Vs Go.Proofs

theorem ownLog (l : List ByteArray) (h : l.length ≤ 1000000) : Gives Try.prog 39 [.c (.sl 1 (strs l))] (.c (.d (.sl 1 (strs l)))) [] := by
  refine Gives.of_w TryEnv Try.func39 (by decide) TryL39_ok Try.ntmps39 (rs := [.tmp 2]) rfl (by simp) [] (by decide) ?_
  rw [TryL39]
  cases l with
  | nil => simp -implicitDefEqProofs only [go_sem, ↓reduceIte, Nat.reduceEqDiff, Nat.reduceAdd, Nat.reduceMul, Nat.reduceSub, Nat.reduceLeDiff, Nat.reduceLT, Nat.reducePow, reduceCtorEq, List.length_cons, List.length_nil, List.map_cons, List.map_nil,
      List.reverse_cons, List.reverse_nil, List.nil_append, List.cons_append, Bool.false_eq_true, Nat.zero_le, List.replicate_zero, List.replicate_succ, List.flatten_nil, List.flatten_cons, true_and, and_true, and_self, List.append_nil, Nat.zero_add, Nat.add_zero,
      List.contains_nil, Nat.le_refl, List.take_zero, List.take_succ_cons, List.drop_zero, List.drop_succ_cons, List.take_length, List.take_nil, List.drop_nil, Option.map_some, Option.map_none, List.getElem?_cons_zero, List.getElem?_cons_succ, List.getElem?_nil, Option.some.injEq,
      Int.toNat_zero, Int.reduceToNat, Int.reduceLT, Int.reduceLE, Int.reduceEq, Int.reduceAdd, Int.reduceSub, Int.reduceMul, Int.reduceNeg, decide_true, decide_false, Bool.not_true, Bool.not_false, beq_self_eq_true, List.mapM_cons, List.mapM_nil, wrap64, wrap8, Int.cast_ofNat_Int, Int.natCast_eq_zero, decide_eq_true_eq, Bool.or_false, Bool.or_true, Bool.or_self, Bool.false_or, Bool.true_or, Option.bind_eq_bind, Option.bind_some, Option.pure_def]
  | cons s l =>
    have h' : (l.length + 1) * 16 ≤ mostBytes := by
      simp only [mostBytes, List.length_cons] at *
      omega
    simp -implicitDefEqProofs only [go_sem, ↓reduceIte, Nat.reduceEqDiff, Nat.reduceAdd, Nat.reduceMul, Nat.reduceSub, Nat.reduceLeDiff, Nat.reduceLT, Nat.reducePow, reduceCtorEq, List.length_cons, List.length_nil, List.map_cons, List.map_nil,
      List.reverse_cons, List.reverse_nil, List.nil_append, List.cons_append, Bool.false_eq_true, Nat.zero_le, List.replicate_zero, List.replicate_succ, List.flatten_nil, List.flatten_cons, true_and, and_true, and_self, List.append_nil, Nat.zero_add, Nat.add_zero,
      List.contains_nil, Nat.le_refl, List.take_zero, List.take_succ_cons, List.drop_zero, List.drop_succ_cons, List.take_length, List.take_nil, List.drop_nil, Option.map_some, Option.map_none, List.getElem?_cons_zero, List.getElem?_cons_succ, List.getElem?_nil, Option.some.injEq,
      Int.toNat_zero, Int.reduceToNat, Int.reduceLT, Int.reduceLE, Int.reduceEq, Int.reduceAdd, Int.reduceSub, Int.reduceMul, Int.reduceNeg, decide_true, decide_false, Bool.not_true, Bool.not_false, beq_self_eq_true, List.mapM_cons, List.mapM_nil, wrap64, wrap8, Int.cast_ofNat_Int, Int.natCast_eq_zero, decide_eq_true_eq, Bool.or_false, Bool.or_true, Bool.or_self, Bool.false_or, Bool.true_or, Option.bind_eq_bind, Option.bind_some, Option.pure_def, strs_cons, h']


theorem copied (p e : Int) (l : List ByteArray) (b : Bool) (h : l.length ≤ 1000000) :
    Gives Try.prog 46 [.agg [.int .i64 p, .int .i64 e, .sl 1 (strs l), .bool b]] (.agg [.d (.int .i64 p), .d (.int .i64 e), .d (.sl 1 (strs l)), .d (.bool b)]) [] := by
  refine Gives.of_w TryEnv Try.func46 (by decide) TryL46_ok Try.ntmps46 (rs := [.cell 2 24]) rfl (by simp) [] (by decide) ?_
  rw [TryL46]
  repeat' first
    | simp -implicitDefEqProofs only [go_sem, ↓reduceIte, Nat.reduceEqDiff, Nat.reduceAdd, Nat.reduceMul, Nat.reduceSub, Nat.reduceLeDiff, Nat.reduceLT, Nat.reducePow, reduceCtorEq, List.length_cons, List.length_nil, List.map_cons, List.map_nil,
      List.reverse_cons, List.reverse_nil, List.nil_append, List.cons_append, Bool.false_eq_true, Nat.zero_le, List.replicate_zero, List.replicate_succ, List.flatten_nil, List.flatten_cons, true_and, and_true, and_self, List.append_nil, Nat.zero_add, Nat.add_zero,
      List.contains_nil, Nat.le_refl, List.take_zero, List.take_succ_cons, List.drop_zero, List.drop_succ_cons, List.take_length, List.take_nil, List.drop_nil, Option.map_some, Option.map_none, List.getElem?_cons_zero, List.getElem?_cons_succ, List.getElem?_nil, Option.some.injEq,
      Int.toNat_zero, Int.reduceToNat, Int.reduceLT, Int.reduceLE, Int.reduceEq, Int.reduceAdd, Int.reduceSub, Int.reduceMul, Int.reduceNeg, decide_true, decide_false, Bool.not_true, Bool.not_false, beq_self_eq_true, List.mapM_cons, List.mapM_nil, wrap64, wrap8, Int.cast_ofNat_Int, Int.natCast_eq_zero, decide_eq_true_eq, Bool.or_false, Bool.or_true, Bool.or_self, Bool.false_or, Bool.true_or, Option.bind_eq_bind, Option.bind_some, Option.pure_def]
    | refine wfork_intro (fun h => ?_) (fun h => ?_)
    | refine Also.mk (by decide) ?_
    | (refine wCall_intro (ownLog _ ?_) ?_ ?_ ?_; assumption; rfl; decide)
  all_goals (try simp only [decide_eq_true_eq, decide_eq_false_iff_not, Bool.not_eq_true] at *)
  all_goals simp [*, Nd.zero, Nd.zero, VLe_tup, VLe_agg, VLe_c, VsLe_nil, VsLe_cons, CsLe_nil, CsLe_cons, CLe_d, CLe_self, DLe_self, DLe_nil, strs_nil]

theorem refPromise (p e : Int) (l : List ByteArray) (b : Bool) (n : Int) (h : l.length ≤ 1000000) :
    Gives Try.prog 23 [.agg [.int .i64 p, .int .i64 e, .sl 1 (strs l), .bool b], .c (.int .i64 n)]
     (.tup [.agg [.d (.int .i64 ((promiseN ⟨p, e, l, b⟩ n).1).p), .d (.int .i64 ((promiseN ⟨p, e, l, b⟩ n).1).e), .d (.sl 1 (strs ((promiseN ⟨p, e, l, b⟩ n).1).log)), .d (.bool ((promiseN ⟨p, e, l, b⟩ n).1).lost)], .c (.d (.int .i64 (promiseN ⟨p, e, l, b⟩ n).2))]) [] := by
  refine Gives.of_w TryEnv Try.func23 (by decide) TryL23_ok Try.ntmps23 (rs := [.cell 4 24, .tmp 5]) rfl (by simp) [] (by decide) ?_
  rw [TryL23]
  repeat' first
    | simp -implicitDefEqProofs only [go_sem, ↓reduceIte, Nat.reduceEqDiff, Nat.reduceAdd, Nat.reduceMul, Nat.reduceSub, Nat.reduceLeDiff, Nat.reduceLT, Nat.reducePow, reduceCtorEq, List.length_cons, List.length_nil, List.map_cons, List.map_nil,
      List.reverse_cons, List.reverse_nil, List.nil_append, List.cons_append, Bool.false_eq_true, Nat.zero_le, List.replicate_zero, List.replicate_succ, List.flatten_nil, List.flatten_cons, true_and, and_true, and_self, List.append_nil, Nat.zero_add, Nat.add_zero,
      List.contains_nil, Nat.le_refl, List.take_zero, List.take_succ_cons, List.drop_zero, List.drop_succ_cons, List.take_length, List.take_nil, List.drop_nil, Option.map_some, Option.map_none, List.getElem?_cons_zero, List.getElem?_cons_succ, List.getElem?_nil, Option.some.injEq,
      Int.toNat_zero, Int.reduceToNat, Int.reduceLT, Int.reduceLE, Int.reduceEq, Int.reduceAdd, Int.reduceSub, Int.reduceMul, Int.reduceNeg, decide_true, decide_false, Bool.not_true, Bool.not_false, beq_self_eq_true, List.mapM_cons, List.mapM_nil, wrap64, wrap8, Int.cast_ofNat_Int, Int.natCast_eq_zero, decide_eq_true_eq, Bool.or_false, Bool.or_true, Bool.or_self, Bool.false_or, Bool.true_or, Option.bind_eq_bind, Option.bind_some, Option.pure_def]
    | refine wfork_intro (fun h => ?_) (fun h => ?_)
    | refine Also.mk (by decide) ?_
    | (refine wCall_intro (copied _ _ _ _ ?_) ?_ ?_ ?_; assumption; rfl; decide)
  all_goals (try simp only [decide_eq_true_eq, decide_eq_false_iff_not, Bool.not_eq_true] at *)
  all_goals simp [*, promiseN, Nd.zero, VLe_tup, VLe_agg, VLe_c, VsLe_nil, VsLe_cons, CsLe_nil, CsLe_cons, CLe_d, CLe_self, DLe_self, DLe_nil, strs_nil]

end Go.Proofs.Ytehmaafnbgpkcaa

namespace Go.Proofs.Ytehmaafnbgpkcaa
open Go Go.Vs Go.Proofs

def boundN (e : Int) (l : List ByteArray) : Int := if e < 1 then 1 else if (400 : Int) < l.length then 3 else 0
def madeN (e : Int) (l : List ByteArray) : Nd := ⟨e, e, l, false⟩
def installN (n : Nd) (e : Int) (l : List ByteArray) : Nd × Int :=
  if boundN e l ≠ 0 then (Nd.zero, boundN e l) else if n.lost then (Nd.zero, 7) else if e < n.p then (Nd.zero, 15) else (madeN e l, 0)
def healN (n : Nd) (e : Int) (l : List ByteArray) : Nd × Int :=
  if boundN e l ≠ 0 then (Nd.zero, boundN e l) else if n.lost = false then (Nd.zero, 8) else (madeN e l, 0)
def arrivesN (r : Int) : Bool := decide (r = 0) || decide (r = 2)

theorem bound40 (n : Int) (m : List ByteArray) : Gives Try.prog 40 [.c (.int .i64 n), .c (.sl 1 (strs m))] (.c (.d (.int .i64 (boundN n m)))) [] := by
  refine Gives.of_w TryEnv Try.func40 (by decide) TryL40_ok Try.ntmps40 (rs := [.tmp 4]) rfl (by simp) [] (by decide) ?_
  rw [TryL40]
  repeat' first
    | simp -implicitDefEqProofs only [go_sem, ↓reduceIte, Nat.reduceEqDiff, Nat.reduceAdd, Nat.reduceMul, Nat.reduceSub, Nat.reduceLeDiff, Nat.reduceLT, Nat.reducePow, reduceCtorEq, List.length_cons, List.length_nil, List.map_cons, List.map_nil,
      List.reverse_cons, List.reverse_nil, List.nil_append, List.cons_append, Bool.false_eq_true, Nat.zero_le, List.replicate_zero, List.replicate_succ, List.flatten_nil, List.flatten_cons, true_and, and_true, and_self, List.append_nil, Nat.zero_add, Nat.add_zero,
      List.contains_nil, Nat.le_refl, List.take_zero, List.take_succ_cons, List.drop_zero, List.drop_succ_cons, List.take_length, List.take_nil, List.drop_nil, Option.map_some, Option.map_none, List.getElem?_cons_zero, List.getElem?_cons_succ, List.getElem?_nil, Option.some.injEq,
      Int.toNat_zero, Int.reduceToNat, Int.reduceLT, Int.reduceLE, Int.reduceEq, Int.reduceAdd, Int.reduceSub, Int.reduceMul, Int.reduceNeg, decide_true, decide_false, Bool.not_true, Bool.not_false, beq_self_eq_true, List.mapM_cons, List.mapM_nil, wrap64, wrap8, Int.cast_ofNat_Int, Int.natCast_eq_zero, decide_eq_true_eq, Bool.or_false, Bool.or_true, Bool.or_self, Bool.false_or, Bool.true_or, Option.bind_eq_bind, Option.bind_some, Option.pure_def]
    | refine wfork_intro (fun h => ?_) (fun h => ?_)
    | refine Also.mk (by decide) ?_
  all_goals (try simp only [decide_eq_true_eq, decide_eq_false_iff_not, Bool.not_eq_true] at *)
  all_goals simp [*, boundN, Nd.zero, VLe_tup, VLe_agg, VLe_c, VsLe_nil, VsLe_cons, CsLe_nil, CsLe_cons, CLe_d, CLe_self, DLe_self, DLe_nil, strs_nil]

theorem bound45 (n : Int) (m : List ByteArray) : Gives Try.prog 45 [.c (.int .i64 n), .c (.sl 1 (strs m))] (.c (.d (.int .i64 (boundN n m)))) [] := by
  refine Gives.of_w TryEnv Try.func45 (by decide) TryL45_ok Try.ntmps45 (rs := [.tmp 4]) rfl (by simp) [] (by decide) ?_
  rw [TryL45]
  repeat' first
    | simp -implicitDefEqProofs only [go_sem, ↓reduceIte, Nat.reduceEqDiff, Nat.reduceAdd, Nat.reduceMul, Nat.reduceSub, Nat.reduceLeDiff, Nat.reduceLT, Nat.reducePow, reduceCtorEq, List.length_cons, List.length_nil, List.map_cons, List.map_nil,
      List.reverse_cons, List.reverse_nil, List.nil_append, List.cons_append, Bool.false_eq_true, Nat.zero_le, List.replicate_zero, List.replicate_succ, List.flatten_nil, List.flatten_cons, true_and, and_true, and_self, List.append_nil, Nat.zero_add, Nat.add_zero,
      List.contains_nil, Nat.le_refl, List.take_zero, List.take_succ_cons, List.drop_zero, List.drop_succ_cons, List.take_length, List.take_nil, List.drop_nil, Option.map_some, Option.map_none, List.getElem?_cons_zero, List.getElem?_cons_succ, List.getElem?_nil, Option.some.injEq,
      Int.toNat_zero, Int.reduceToNat, Int.reduceLT, Int.reduceLE, Int.reduceEq, Int.reduceAdd, Int.reduceSub, Int.reduceMul, Int.reduceNeg, decide_true, decide_false, Bool.not_true, Bool.not_false, beq_self_eq_true, List.mapM_cons, List.mapM_nil, wrap64, wrap8, Int.cast_ofNat_Int, Int.natCast_eq_zero, decide_eq_true_eq, Bool.or_false, Bool.or_true, Bool.or_self, Bool.false_or, Bool.true_or, Option.bind_eq_bind, Option.bind_some, Option.pure_def]
    | refine wfork_intro (fun h => ?_) (fun h => ?_)
    | refine Also.mk (by decide) ?_
  all_goals (try simp only [decide_eq_true_eq, decide_eq_false_iff_not, Bool.not_eq_true] at *)
  all_goals simp [*, boundN, Nd.zero, VLe_tup, VLe_agg, VLe_c, VsLe_nil, VsLe_cons, CsLe_nil, CsLe_cons, CLe_d, CLe_self, DLe_self, DLe_nil, strs_nil]

theorem arrives44 (r : Int) : Gives Try.prog 44 [.c (.int .u8 r)] (.c (.d (.bool (arrivesN r)))) [] := by
  refine Gives.of_w TryEnv Try.func44 (by decide) TryL44_ok Try.ntmps44 (rs := [.tmp 2]) rfl (by simp) [] (by decide) ?_
  rw [TryL44]
  repeat' first
    | simp -implicitDefEqProofs only [go_sem, ↓reduceIte, Nat.reduceEqDiff, Nat.reduceAdd, Nat.reduceMul, Nat.reduceSub, Nat.reduceLeDiff, Nat.reduceLT, Nat.reducePow, reduceCtorEq, List.length_cons, List.length_nil, List.map_cons, List.map_nil,
      List.reverse_cons, List.reverse_nil, List.nil_append, List.cons_append, Bool.false_eq_true, Nat.zero_le, List.replicate_zero, List.replicate_succ, List.flatten_nil, List.flatten_cons, true_and, and_true, and_self, List.append_nil, Nat.zero_add, Nat.add_zero,
      List.contains_nil, Nat.le_refl, List.take_zero, List.take_succ_cons, List.drop_zero, List.drop_succ_cons, List.take_length, List.take_nil, List.drop_nil, Option.map_some, Option.map_none, List.getElem?_cons_zero, List.getElem?_cons_succ, List.getElem?_nil, Option.some.injEq,
      Int.toNat_zero, Int.reduceToNat, Int.reduceLT, Int.reduceLE, Int.reduceEq, Int.reduceAdd, Int.reduceSub, Int.reduceMul, Int.reduceNeg, decide_true, decide_false, Bool.not_true, Bool.not_false, beq_self_eq_true, List.mapM_cons, List.mapM_nil, wrap64, wrap8, Int.cast_ofNat_Int, Int.natCast_eq_zero, decide_eq_true_eq, Bool.or_false, Bool.or_true, Bool.or_self, Bool.false_or, Bool.true_or, Option.bind_eq_bind, Option.bind_some, Option.pure_def]
    | refine wfork_intro (fun h => ?_) (fun h => ?_)
    | refine Also.mk (by decide) ?_
  all_goals (try simp only [decide_eq_true_eq, decide_eq_false_iff_not, Bool.not_eq_true] at *)
  all_goals simp [*, arrivesN, Nd.zero, VLe_tup, VLe_agg, VLe_c, VsLe_nil, VsLe_cons, CsLe_nil, CsLe_cons, CLe_d, CLe_self, DLe_self, DLe_nil, strs_nil]

theorem arrives38 (r : Int) : Gives Try.prog 38 [.c (.int .u8 r)] (.c (.d (.bool (arrivesN r)))) [] := by
  refine Gives.of_w TryEnv Try.func38 (by decide) TryL38_ok Try.ntmps38 (rs := [.tmp 2]) rfl (by simp) [] (by decide) ?_
  rw [TryL38]
  repeat' first
    | simp -implicitDefEqProofs only [go_sem, ↓reduceIte, Nat.reduceEqDiff, Nat.reduceAdd, Nat.reduceMul, Nat.reduceSub, Nat.reduceLeDiff, Nat.reduceLT, Nat.reducePow, reduceCtorEq, List.length_cons, List.length_nil, List.map_cons, List.map_nil,
      List.reverse_cons, List.reverse_nil, List.nil_append, List.cons_append, Bool.false_eq_true, Nat.zero_le, List.replicate_zero, List.replicate_succ, List.flatten_nil, List.flatten_cons, true_and, and_true, and_self, List.append_nil, Nat.zero_add, Nat.add_zero,
      List.contains_nil, Nat.le_refl, List.take_zero, List.take_succ_cons, List.drop_zero, List.drop_succ_cons, List.take_length, List.take_nil, List.drop_nil, Option.map_some, Option.map_none, List.getElem?_cons_zero, List.getElem?_cons_succ, List.getElem?_nil, Option.some.injEq,
      Int.toNat_zero, Int.reduceToNat, Int.reduceLT, Int.reduceLE, Int.reduceEq, Int.reduceAdd, Int.reduceSub, Int.reduceMul, Int.reduceNeg, decide_true, decide_false, Bool.not_true, Bool.not_false, beq_self_eq_true, List.mapM_cons, List.mapM_nil, wrap64, wrap8, Int.cast_ofNat_Int, Int.natCast_eq_zero, decide_eq_true_eq, Bool.or_false, Bool.or_true, Bool.or_self, Bool.false_or, Bool.true_or, Option.bind_eq_bind, Option.bind_some, Option.pure_def]
    | refine wfork_intro (fun h => ?_) (fun h => ?_)
    | refine Also.mk (by decide) ?_
  all_goals (try simp only [decide_eq_true_eq, decide_eq_false_iff_not, Bool.not_eq_true] at *)
  all_goals simp [*, arrivesN, Nd.zero, VLe_tup, VLe_agg, VLe_c, VsLe_nil, VsLe_cons, CsLe_nil, CsLe_cons, CLe_d, CLe_self, DLe_self, DLe_nil, strs_nil]

theorem wipe29 (p e : Int) (l : List ByteArray) (b : Bool) : Gives Try.prog 29 [.agg [.int .i64 p, .int .i64 e, .sl 1 (strs l), .bool b]] (.agg [.d (.int .i64 0), .d (.int .i64 0), .d (.sl 1 []), .d (.bool true)]) [] := by
  refine Gives.of_w TryEnv Try.func29 (by decide) TryL29_ok Try.ntmps29 (rs := [.cell 2 24]) rfl (by simp) [] (by decide) ?_
  rw [TryL29]
  repeat' first
    | simp -implicitDefEqProofs only [go_sem, ↓reduceIte, Nat.reduceEqDiff, Nat.reduceAdd, Nat.reduceMul, Nat.reduceSub, Nat.reduceLeDiff, Nat.reduceLT, Nat.reducePow, reduceCtorEq, List.length_cons, List.length_nil, List.map_cons, List.map_nil,
      List.reverse_cons, List.reverse_nil, List.nil_append, List.cons_append, Bool.false_eq_true, Nat.zero_le, List.replicate_zero, List.replicate_succ, List.flatten_nil, List.flatten_cons, true_and, and_true, and_self, List.append_nil, Nat.zero_add, Nat.add_zero,
      List.contains_nil, Nat.le_refl, List.take_zero, List.take_succ_cons, List.drop_zero, List.drop_succ_cons, List.take_length, List.take_nil, List.drop_nil, Option.map_some, Option.map_none, List.getElem?_cons_zero, List.getElem?_cons_succ, List.getElem?_nil, Option.some.injEq,
      Int.toNat_zero, Int.reduceToNat, Int.reduceLT, Int.reduceLE, Int.reduceEq, Int.reduceAdd, Int.reduceSub, Int.reduceMul, Int.reduceNeg, decide_true, decide_false, Bool.not_true, Bool.not_false, beq_self_eq_true, List.mapM_cons, List.mapM_nil, wrap64, wrap8, Int.cast_ofNat_Int, Int.natCast_eq_zero, decide_eq_true_eq, Bool.or_false, Bool.or_true, Bool.or_self, Bool.false_or, Bool.true_or, Option.bind_eq_bind, Option.bind_some, Option.pure_def]
    | refine wfork_intro (fun h => ?_) (fun h => ?_)
    | refine Also.mk (by decide) ?_
  all_goals (try simp only [decide_eq_true_eq, decide_eq_false_iff_not, Bool.not_eq_true] at *)
  all_goals simp [*, Nd.zero, Nd.zero, VLe_tup, VLe_agg, VLe_c, VsLe_nil, VsLe_cons, CsLe_nil, CsLe_cons, CLe_d, CLe_self, DLe_self, DLe_nil, strs_nil]

theorem wipe30 (p e : Int) (l : List ByteArray) (b : Bool) : Gives Try.prog 30 [.agg [.int .i64 p, .int .i64 e, .sl 1 (strs l), .bool b]] (.agg [.d (.int .i64 0), .d (.int .i64 0), .d (.sl 1 []), .d (.bool true)]) [] := by
  refine Gives.of_w TryEnv Try.func30 (by decide) TryL30_ok Try.ntmps30 (rs := [.cell 2 24]) rfl (by simp) [] (by decide) ?_
  rw [TryL30]
  repeat' first
    | simp -implicitDefEqProofs only [go_sem, ↓reduceIte, Nat.reduceEqDiff, Nat.reduceAdd, Nat.reduceMul, Nat.reduceSub, Nat.reduceLeDiff, Nat.reduceLT, Nat.reducePow, reduceCtorEq, List.length_cons, List.length_nil, List.map_cons, List.map_nil,
      List.reverse_cons, List.reverse_nil, List.nil_append, List.cons_append, Bool.false_eq_true, Nat.zero_le, List.replicate_zero, List.replicate_succ, List.flatten_nil, List.flatten_cons, true_and, and_true, and_self, List.append_nil, Nat.zero_add, Nat.add_zero,
      List.contains_nil, Nat.le_refl, List.take_zero, List.take_succ_cons, List.drop_zero, List.drop_succ_cons, List.take_length, List.take_nil, List.drop_nil, Option.map_some, Option.map_none, List.getElem?_cons_zero, List.getElem?_cons_succ, List.getElem?_nil, Option.some.injEq,
      Int.toNat_zero, Int.reduceToNat, Int.reduceLT, Int.reduceLE, Int.reduceEq, Int.reduceAdd, Int.reduceSub, Int.reduceMul, Int.reduceNeg, decide_true, decide_false, Bool.not_true, Bool.not_false, beq_self_eq_true, List.mapM_cons, List.mapM_nil, wrap64, wrap8, Int.cast_ofNat_Int, Int.natCast_eq_zero, decide_eq_true_eq, Bool.or_false, Bool.or_true, Bool.or_self, Bool.false_or, Bool.true_or, Option.bind_eq_bind, Option.bind_some, Option.pure_def]
    | refine wfork_intro (fun h => ?_) (fun h => ?_)
    | refine Also.mk (by decide) ?_
  all_goals (try simp only [decide_eq_true_eq, decide_eq_false_iff_not, Bool.not_eq_true] at *)
  all_goals simp [*, Nd.zero, Nd.zero, VLe_tup, VLe_agg, VLe_c, VsLe_nil, VsLe_cons, CsLe_nil, CsLe_cons, CLe_d, CLe_self, DLe_self, DLe_nil, strs_nil]

theorem made (n : Int) (m : List ByteArray) (h : m.length ≤ 1000000) : Gives Try.prog 36 [.c (.int .i64 n), .c (.sl 1 (strs m))] (.agg [.d (.int .i64 (madeN n m).p), .d (.int .i64 (madeN n m).e), .d (.sl 1 (strs (madeN n m).log)), .d (.bool (madeN n m).lost)]) [] := by
  refine Gives.of_w TryEnv Try.func36 (by decide) TryL36_ok Try.ntmps36 (rs := [.cell 4 24]) rfl (by simp) [] (by decide) ?_
  rw [TryL36]
  repeat' first
    | simp -implicitDefEqProofs only [go_sem, ↓reduceIte, Nat.reduceEqDiff, Nat.reduceAdd, Nat.reduceMul, Nat.reduceSub, Nat.reduceLeDiff, Nat.reduceLT, Nat.reducePow, reduceCtorEq, List.length_cons, List.length_nil, List.map_cons, List.map_nil,
      List.reverse_cons, List.reverse_nil, List.nil_append, List.cons_append, Bool.false_eq_true, Nat.zero_le, List.replicate_zero, List.replicate_succ, List.flatten_nil, List.flatten_cons, true_and, and_true, and_self, List.append_nil, Nat.zero_add, Nat.add_zero,
      List.contains_nil, Nat.le_refl, List.take_zero, List.take_succ_cons, List.drop_zero, List.drop_succ_cons, List.take_length, List.take_nil, List.drop_nil, Option.map_some, Option.map_none, List.getElem?_cons_zero, List.getElem?_cons_succ, List.getElem?_nil, Option.some.injEq,
      Int.toNat_zero, Int.reduceToNat, Int.reduceLT, Int.reduceLE, Int.reduceEq, Int.reduceAdd, Int.reduceSub, Int.reduceMul, Int.reduceNeg, decide_true, decide_false, Bool.not_true, Bool.not_false, beq_self_eq_true, List.mapM_cons, List.mapM_nil, wrap64, wrap8, Int.cast_ofNat_Int, Int.natCast_eq_zero, decide_eq_true_eq, Bool.or_false, Bool.or_true, Bool.or_self, Bool.false_or, Bool.true_or, Option.bind_eq_bind, Option.bind_some, Option.pure_def]
    | refine wfork_intro (fun h => ?_) (fun h => ?_)
    | refine Also.mk (by decide) ?_
    | (refine wCall_intro (clone _ ?_) ?_ ?_ ?_; assumption; rfl; decide)
  all_goals (try simp only [decide_eq_true_eq, decide_eq_false_iff_not, Bool.not_eq_true] at *)
  all_goals simp [*, madeN, Nd.zero, VLe_tup, VLe_agg, VLe_c, VsLe_nil, VsLe_cons, CsLe_nil, CsLe_cons, CLe_d, CLe_self, DLe_self, DLe_nil, strs_nil]

end Go.Proofs.Ytehmaafnbgpkcaa

namespace Go.Proofs.Ytehmaafnbgpkcaa
open Go Go.Vs Go.Proofs

theorem install (p e : Int) (l : List ByteArray) (b : Bool) (n : Int) (m : List ByteArray) (hm : m.length ≤ 1000000) :
    Gives Try.prog 24 [.agg [.int .i64 p, .int .i64 e, .sl 1 (strs l), .bool b], .c (.int .i64 n), .c (.sl 1 (strs m))]
     (.tup [.agg [.d (.int .i64 ((installN ⟨p, e, l, b⟩ n m).1).p), .d (.int .i64 ((installN ⟨p, e, l, b⟩ n m).1).e), .d (.sl 1 (strs ((installN ⟨p, e, l, b⟩ n m).1).log)), .d (.bool ((installN ⟨p, e, l, b⟩ n m).1).lost)], .c (.d (.int .i64 (installN ⟨p, e, l, b⟩ n m).2))]) [] := by
  refine Gives.of_w TryEnv Try.func24 (by decide) TryL24_ok Try.ntmps24 (rs := [.cell 6 24, .tmp 7]) rfl (by simp) [] (by decide) ?_
  rw [TryL24]
  repeat' first
    | simp -implicitDefEqProofs only [go_sem, ↓reduceIte, Nat.reduceEqDiff, Nat.reduceAdd, Nat.reduceMul, Nat.reduceSub, Nat.reduceLeDiff, Nat.reduceLT, Nat.reducePow, reduceCtorEq, List.length_cons, List.length_nil, List.map_cons, List.map_nil,
      List.reverse_cons, List.reverse_nil, List.nil_append, List.cons_append, Bool.false_eq_true, Nat.zero_le, List.replicate_zero, List.replicate_succ, List.flatten_nil, List.flatten_cons, true_and, and_true, and_self, List.append_nil, Nat.zero_add, Nat.add_zero,
      List.contains_nil, Nat.le_refl, List.take_zero, List.take_succ_cons, List.drop_zero, List.drop_succ_cons, List.take_length, List.take_nil, List.drop_nil, Option.map_some, Option.map_none, List.getElem?_cons_zero, List.getElem?_cons_succ, List.getElem?_nil, Option.some.injEq,
      Int.toNat_zero, Int.reduceToNat, Int.reduceLT, Int.reduceLE, Int.reduceEq, Int.reduceAdd, Int.reduceSub, Int.reduceMul, Int.reduceNeg, decide_true, decide_false, Bool.not_true, Bool.not_false, beq_self_eq_true, List.mapM_cons, List.mapM_nil, wrap64, wrap8, Int.cast_ofNat_Int, Int.natCast_eq_zero, decide_eq_true_eq, Bool.or_false, Bool.or_true, Bool.or_self, Bool.false_or, Bool.true_or, Option.bind_eq_bind, Option.bind_some, Option.pure_def]
    | refine wfork_intro (fun h => ?_) (fun h => ?_)
    | refine Also.mk (by decide) ?_
    | (refine wCall_intro (bound40 _ _) ?_ ?_ ?_; rfl; decide)
    | (refine wCall_intro (made _ _ ?_) ?_ ?_ ?_; assumption; rfl; decide)
  all_goals (try simp only [decide_eq_true_eq, decide_eq_false_iff_not, Bool.not_eq_true, Bool.not_eq_true', Bool.not_eq_false'] at *)
  all_goals simp [*, installN, madeN, Nd.zero, VLe_tup, VLe_agg, VLe_c, VsLe_nil, VsLe_cons, CsLe_nil, CsLe_cons, CLe_d, CLe_self, DLe_self, DLe_nil, strs_nil]

theorem refInstall (p e : Int) (l : List ByteArray) (b : Bool) (n : Int) (m : List ByteArray) (hm : m.length ≤ 1000000) :
    Gives Try.prog 25 [.agg [.int .i64 p, .int .i64 e, .sl 1 (strs l), .bool b], .c (.int .i64 n), .c (.sl 1 (strs m))]
     (.tup [.agg [.d (.int .i64 ((installN ⟨p, e, l, b⟩ n m).1).p), .d (.int .i64 ((installN ⟨p, e, l, b⟩ n m).1).e), .d (.sl 1 (strs ((installN ⟨p, e, l, b⟩ n m).1).log)), .d (.bool ((installN ⟨p, e, l, b⟩ n m).1).lost)], .c (.d (.int .i64 (installN ⟨p, e, l, b⟩ n m).2))]) [] := by
  refine Gives.of_w TryEnv Try.func25 (by decide) TryL25_ok Try.ntmps25 (rs := [.cell 6 24, .tmp 7]) rfl (by simp) [] (by decide) ?_
  rw [TryL25]
  repeat' first
    | simp -implicitDefEqProofs only [go_sem, ↓reduceIte, Nat.reduceEqDiff, Nat.reduceAdd, Nat.reduceMul, Nat.reduceSub, Nat.reduceLeDiff, Nat.reduceLT, Nat.reducePow, reduceCtorEq, List.length_cons, List.length_nil, List.map_cons, List.map_nil,
      List.reverse_cons, List.reverse_nil, List.nil_append, List.cons_append, Bool.false_eq_true, Nat.zero_le, List.replicate_zero, List.replicate_succ, List.flatten_nil, List.flatten_cons, true_and, and_true, and_self, List.append_nil, Nat.zero_add, Nat.add_zero,
      List.contains_nil, Nat.le_refl, List.take_zero, List.take_succ_cons, List.drop_zero, List.drop_succ_cons, List.take_length, List.take_nil, List.drop_nil, Option.map_some, Option.map_none, List.getElem?_cons_zero, List.getElem?_cons_succ, List.getElem?_nil, Option.some.injEq,
      Int.toNat_zero, Int.reduceToNat, Int.reduceLT, Int.reduceLE, Int.reduceEq, Int.reduceAdd, Int.reduceSub, Int.reduceMul, Int.reduceNeg, decide_true, decide_false, Bool.not_true, Bool.not_false, beq_self_eq_true, List.mapM_cons, List.mapM_nil, wrap64, wrap8, Int.cast_ofNat_Int, Int.natCast_eq_zero, decide_eq_true_eq, Bool.or_false, Bool.or_true, Bool.or_self, Bool.false_or, Bool.true_or, Option.bind_eq_bind, Option.bind_some, Option.pure_def]
    | refine wfork_intro (fun h => ?_) (fun h => ?_)
    | refine Also.mk (by decide) ?_
    | (refine wCall_intro (bound45 _ _) ?_ ?_ ?_; rfl; decide)
    | (refine wCall_intro (ownLog _ ?_) ?_ ?_ ?_; assumption; rfl; decide)
  all_goals (try simp only [decide_eq_true_eq, decide_eq_false_iff_not, Bool.not_eq_true, Bool.not_eq_true', Bool.not_eq_false'] at *)
  all_goals simp [*, installN, madeN, Nd.zero, VLe_tup, VLe_agg, VLe_c, VsLe_nil, VsLe_cons, CsLe_nil, CsLe_cons, CLe_d, CLe_self, DLe_self, DLe_nil, strs_nil]

theorem heal (p e : Int) (l : List ByteArray) (b : Bool) (n : Int) (m : List ByteArray) (hm : m.length ≤ 1000000) :
    Gives Try.prog 26 [.agg [.int .i64 p, .int .i64 e, .sl 1 (strs l), .bool b], .c (.int .i64 n), .c (.sl 1 (strs m))]
     (.tup [.agg [.d (.int .i64 ((healN ⟨p, e, l, b⟩ n m).1).p), .d (.int .i64 ((healN ⟨p, e, l, b⟩ n m).1).e), .d (.sl 1 (strs ((healN ⟨p, e, l, b⟩ n m).1).log)), .d (.bool ((healN ⟨p, e, l, b⟩ n m).1).lost)], .c (.d (.int .i64 (healN ⟨p, e, l, b⟩ n m).2))]) [] := by
  refine Gives.of_w TryEnv Try.func26 (by decide) TryL26_ok Try.ntmps26 (rs := [.cell 6 24, .tmp 7]) rfl (by simp) [] (by decide) ?_
  rw [TryL26]
  repeat' first
    | simp -implicitDefEqProofs only [go_sem, ↓reduceIte, Nat.reduceEqDiff, Nat.reduceAdd, Nat.reduceMul, Nat.reduceSub, Nat.reduceLeDiff, Nat.reduceLT, Nat.reducePow, reduceCtorEq, List.length_cons, List.length_nil, List.map_cons, List.map_nil,
      List.reverse_cons, List.reverse_nil, List.nil_append, List.cons_append, Bool.false_eq_true, Nat.zero_le, List.replicate_zero, List.replicate_succ, List.flatten_nil, List.flatten_cons, true_and, and_true, and_self, List.append_nil, Nat.zero_add, Nat.add_zero,
      List.contains_nil, Nat.le_refl, List.take_zero, List.take_succ_cons, List.drop_zero, List.drop_succ_cons, List.take_length, List.take_nil, List.drop_nil, Option.map_some, Option.map_none, List.getElem?_cons_zero, List.getElem?_cons_succ, List.getElem?_nil, Option.some.injEq,
      Int.toNat_zero, Int.reduceToNat, Int.reduceLT, Int.reduceLE, Int.reduceEq, Int.reduceAdd, Int.reduceSub, Int.reduceMul, Int.reduceNeg, decide_true, decide_false, Bool.not_true, Bool.not_false, beq_self_eq_true, List.mapM_cons, List.mapM_nil, wrap64, wrap8, Int.cast_ofNat_Int, Int.natCast_eq_zero, decide_eq_true_eq, Bool.or_false, Bool.or_true, Bool.or_self, Bool.false_or, Bool.true_or, Option.bind_eq_bind, Option.bind_some, Option.pure_def]
    | refine wfork_intro (fun h => ?_) (fun h => ?_)
    | refine Also.mk (by decide) ?_
    | (refine wCall_intro (bound40 _ _) ?_ ?_ ?_; rfl; decide)
    | (refine wCall_intro (made _ _ ?_) ?_ ?_ ?_; assumption; rfl; decide)
  all_goals (try simp only [decide_eq_true_eq, decide_eq_false_iff_not, Bool.not_eq_true, Bool.not_eq_true', Bool.not_eq_false'] at *)
  all_goals simp [*, healN, madeN, Nd.zero, VLe_tup, VLe_agg, VLe_c, VsLe_nil, VsLe_cons, CsLe_nil, CsLe_cons, CLe_d, CLe_self, DLe_self, DLe_nil, strs_nil]

theorem refHeal (p e : Int) (l : List ByteArray) (b : Bool) (n : Int) (m : List ByteArray) (hm : m.length ≤ 1000000) :
    Gives Try.prog 27 [.agg [.int .i64 p, .int .i64 e, .sl 1 (strs l), .bool b], .c (.int .i64 n), .c (.sl 1 (strs m))]
     (.tup [.agg [.d (.int .i64 ((healN ⟨p, e, l, b⟩ n m).1).p), .d (.int .i64 ((healN ⟨p, e, l, b⟩ n m).1).e), .d (.sl 1 (strs ((healN ⟨p, e, l, b⟩ n m).1).log)), .d (.bool ((healN ⟨p, e, l, b⟩ n m).1).lost)], .c (.d (.int .i64 (healN ⟨p, e, l, b⟩ n m).2))]) [] := by
  refine Gives.of_w TryEnv Try.func27 (by decide) TryL27_ok Try.ntmps27 (rs := [.cell 6 24, .tmp 7]) rfl (by simp) [] (by decide) ?_
  rw [TryL27]
  repeat' first
    | simp -implicitDefEqProofs only [go_sem, ↓reduceIte, Nat.reduceEqDiff, Nat.reduceAdd, Nat.reduceMul, Nat.reduceSub, Nat.reduceLeDiff, Nat.reduceLT, Nat.reducePow, reduceCtorEq, List.length_cons, List.length_nil, List.map_cons, List.map_nil,
      List.reverse_cons, List.reverse_nil, List.nil_append, List.cons_append, Bool.false_eq_true, Nat.zero_le, List.replicate_zero, List.replicate_succ, List.flatten_nil, List.flatten_cons, true_and, and_true, and_self, List.append_nil, Nat.zero_add, Nat.add_zero,
      List.contains_nil, Nat.le_refl, List.take_zero, List.take_succ_cons, List.drop_zero, List.drop_succ_cons, List.take_length, List.take_nil, List.drop_nil, Option.map_some, Option.map_none, List.getElem?_cons_zero, List.getElem?_cons_succ, List.getElem?_nil, Option.some.injEq,
      Int.toNat_zero, Int.reduceToNat, Int.reduceLT, Int.reduceLE, Int.reduceEq, Int.reduceAdd, Int.reduceSub, Int.reduceMul, Int.reduceNeg, decide_true, decide_false, Bool.not_true, Bool.not_false, beq_self_eq_true, List.mapM_cons, List.mapM_nil, wrap64, wrap8, Int.cast_ofNat_Int, Int.natCast_eq_zero, decide_eq_true_eq, Bool.or_false, Bool.or_true, Bool.or_self, Bool.false_or, Bool.true_or, Option.bind_eq_bind, Option.bind_some, Option.pure_def]
    | refine wfork_intro (fun h => ?_) (fun h => ?_)
    | refine Also.mk (by decide) ?_
    | (refine wCall_intro (bound45 _ _) ?_ ?_ ?_; rfl; decide)
    | (refine wCall_intro (ownLog _ ?_) ?_ ?_ ?_; assumption; rfl; decide)
  all_goals (try simp only [decide_eq_true_eq, decide_eq_false_iff_not, Bool.not_eq_true, Bool.not_eq_true', Bool.not_eq_false'] at *)
  all_goals simp [*, healN, madeN, Nd.zero, VLe_tup, VLe_agg, VLe_c, VsLe_nil, VsLe_cons, CsLe_nil, CsLe_cons, CLe_d, CLe_self, DLe_self, DLe_nil, strs_nil]

def betterN (n m : Nd) : Bool := if n.e ≠ m.e then decide (m.e < n.e) else decide ((m.log.length : Int) < n.log.length)

theorem better (p e : Int) (l : List ByteArray) (b : Bool) (p' e' : Int) (l' : List ByteArray) (b' : Bool) :
    Gives Try.prog 34 [.agg [.int .i64 p, .int .i64 e, .sl 1 (strs l), .bool b], .agg [.int .i64 p', .int .i64 e', .sl 1 (strs l'), .bool b']] (.c (.d (.bool (betterN ⟨p, e, l, b⟩ ⟨p', e', l', b'⟩)))) [] := by
  refine Gives.of_w TryEnv Try.func34 (by decide) TryL34_ok Try.ntmps34 (rs := [.tmp 4]) rfl (by simp) [] (by decide) ?_
  rw [TryL34]
  repeat' first
    | simp -implicitDefEqProofs only [go_sem, ↓reduceIte, Nat.reduceEqDiff, Nat.reduceAdd, Nat.reduceMul, Nat.reduceSub, Nat.reduceLeDiff, Nat.reduceLT, Nat.reducePow, reduceCtorEq, List.length_cons, List.length_nil, List.map_cons, List.map_nil,
      List.reverse_cons, List.reverse_nil, List.nil_append, List.cons_append, Bool.false_eq_true, Nat.zero_le, List.replicate_zero, List.replicate_succ, List.flatten_nil, List.flatten_cons, true_and, and_true, and_self, List.append_nil, Nat.zero_add, Nat.add_zero,
      List.contains_nil, Nat.le_refl, List.take_zero, List.take_succ_cons, List.drop_zero, List.drop_succ_cons, List.take_length, List.take_nil, List.drop_nil, Option.map_some, Option.map_none, List.getElem?_cons_zero, List.getElem?_cons_succ, List.getElem?_nil, Option.some.injEq,
      Int.toNat_zero, Int.reduceToNat, Int.reduceLT, Int.reduceLE, Int.reduceEq, Int.reduceAdd, Int.reduceSub, Int.reduceMul, Int.reduceNeg, decide_true, decide_false, Bool.not_true, Bool.not_false, beq_self_eq_true, List.mapM_cons, List.mapM_nil, wrap64, wrap8, Int.cast_ofNat_Int, Int.natCast_eq_zero, decide_eq_true_eq, Bool.or_false, Bool.or_true, Bool.or_self, Bool.false_or, Bool.true_or, Option.bind_eq_bind, Option.bind_some, Option.pure_def]
    | refine wfork_intro (fun h => ?_) (fun h => ?_)
    | refine Also.mk (by decide) ?_
  all_goals (try simp only [decide_eq_true_eq, decide_eq_false_iff_not, Bool.not_eq_true, Bool.not_eq_true', Bool.not_eq_false'] at *)
  all_goals simp [*, betterN, Nd.zero, VLe_tup, VLe_agg, VLe_c, VsLe_nil, VsLe_cons, CsLe_nil, CsLe_cons, CLe_d, CLe_self, DLe_self, DLe_nil, strs_nil]
end Go.Proofs.Ytehmaafnbgpkcaa
