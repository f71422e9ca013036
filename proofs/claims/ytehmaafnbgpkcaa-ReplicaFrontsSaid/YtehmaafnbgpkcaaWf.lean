/- This text proves a part of what the claim needs: contracts of functions of the program. No condition. -/
import Derived.Test.YtehmaafnbgpkcaaWe
set_option linter.unusedSimpArgs false
set_option linter.unusedVariables false

namespace Go.Proofs.Ytehmaafnbgpkcaa
open Go Go.Vs Go.Proofs

theorem refInstall' (n : Nd) (e : Int) (m : List ByteArray) (h : m.length ≤ 1000000) :
    Gives Try.prog 25 [.agg [.int .i64 n.p, .int .i64 n.e, .sl 1 (strs n.log), .bool n.lost], .c (.int .i64 e), .c (.sl 1 (strs m))] (.tup [.agg [.d (.int .i64 ((installN n e m).1).p), .d (.int .i64 ((installN n e m).1).e), .d (.sl 1 (strs ((installN n e m).1).log)), .d (.bool ((installN n e m).1).lost)], .c (.d (.int .i64 (installN n e m).2))]) [] := refInstall _ _ _ _ _ _ h
theorem heal' (n : Nd) (e : Int) (m : List ByteArray) (h : m.length ≤ 1000000) :
    Gives Try.prog 26 [.agg [.int .i64 n.p, .int .i64 n.e, .sl 1 (strs n.log), .bool n.lost], .c (.int .i64 e), .c (.sl 1 (strs m))] (.tup [.agg [.d (.int .i64 ((healN n e m).1).p), .d (.int .i64 ((healN n e m).1).e), .d (.sl 1 (strs ((healN n e m).1).log)), .d (.bool ((healN n e m).1).lost)], .c (.d (.int .i64 (healN n e m).2))]) [] := heal _ _ _ _ _ _ h
theorem refHeal' (n : Nd) (e : Int) (m : List ByteArray) (h : m.length ≤ 1000000) :
    Gives Try.prog 27 [.agg [.int .i64 n.p, .int .i64 n.e, .sl 1 (strs n.log), .bool n.lost], .c (.int .i64 e), .c (.sl 1 (strs m))] (.tup [.agg [.d (.int .i64 ((healN n e m).1).p), .d (.int .i64 ((healN n e m).1).e), .d (.sl 1 (strs ((healN n e m).1).log)), .d (.bool ((healN n e m).1).lost)], .c (.d (.int .i64 (healN n e m).2))]) [] := refHeal _ _ _ _ _ _ h

theorem installN_len (n : Nd) (e : Int) (m : List ByteArray) : (installN n e m).1.log.length ≤ m.length := by
  unfold installN
  repeat' split
  all_goals simp [Nd.zero, madeN]
theorem healN_len (n : Nd) (e : Int) (m : List ByteArray) : (healN n e m).1.log.length ≤ m.length := by
  unfold healN
  repeat' split
  all_goals simp [Nd.zero, madeN]

theorem lawNodes (n : Nd) (e : Int) (m : List ByteArray) : Gives Try.prog 8 [.agg [.int .i64 n.p, .int .i64 n.e, .sl 1 (strs n.log), .bool n.lost], .c (.int .i64 e), .c (.sl 1 (strs m))] (.c (.d (.bool true))) [] := by
  have hm : (m.take 402).length ≤ 1000000 := by simp; omega
  have hn : (cutN n).log.length ≤ 1000000 := Nat.le_trans (cutN_len n) (by omega)
  have e0 : List.take ((if 402 < (m.length : Int) then 402 else (m.length : Int)) - 0).toNat m = m.take 402 := take_cut m
  have b1 : (0 : Int) ≤ (if 402 < (m.length : Int) then 402 else (m.length : Int)) := by split <;> omega
  have b2 : (if 402 < (m.length : Int) then 402 else (m.length : Int)) ≤ (m.length : Int) := by split <;> omega
  have c0 := cut n
  generalize cutN n = c at *
  generalize m.take 402 = l at *
  have h1 := promise' c e hn
  have h2 := refPromise' c e hn
  have h3 := install' c e l hm
  have h4 := refInstall' c e l hm
  have h5 := heal' c e l hm
  have h6 := refHeal' c e l hm
  have l1 : (promiseN c e).1.log.length ≤ 1000000 := Nat.le_trans (promiseN_len c e) hn
  have l2 : (installN c e l).1.log.length ≤ 1000000 := Nat.le_trans (installN_len c e l) hm
  have l3 : (healN c e l).1.log.length ≤ 1000000 := Nat.le_trans (healN_len c e l) hm
  have s1 := same' _ _ l1 l1
  have s2 := same' _ _ l2 l2
  have s3 := same' _ _ l3 l3
  have s4 := same' ⟨0, 0, [], true⟩ ⟨0, 0, [], true⟩ (by simp) (by simp)
  rw [isSameN_self] at s1 s2 s3 s4
  simp only [strs_nil] at s4
  refine Gives.of_w TryEnv Try.func8 (by decide) TryL8_ok Try.ntmps8 (rs := [.tmp 6]) rfl (by simp) [] (by decide) ?_
  rw [TryL8]
  repeat' first
    | simp -implicitDefEqProofs only [go_sem, ↓reduceIte, Nat.reduceEqDiff, Nat.reduceAdd, Nat.reduceMul, Nat.reduceSub, Nat.reduceLeDiff, Nat.reduceLT, Nat.reducePow, reduceCtorEq, List.length_cons, List.length_nil, List.map_cons, List.map_nil,
      List.reverse_cons, List.reverse_nil, List.nil_append, List.cons_append, Bool.false_eq_true, Nat.zero_le, List.replicate_zero, List.replicate_succ, List.flatten_nil, List.flatten_cons, true_and, and_true, and_self, List.append_nil, Nat.zero_add, Nat.add_zero,
      List.contains_nil, Nat.le_refl, List.take_zero, List.take_succ_cons, List.drop_zero, List.drop_succ_cons, List.take_length, List.take_nil, List.drop_nil, Option.map_some, Option.map_none, List.getElem?_cons_zero, List.getElem?_cons_succ, List.getElem?_nil, Option.some.injEq,
      Int.toNat_zero, Int.reduceToNat, Int.reduceLT, Int.reduceLE, Int.reduceEq, Int.reduceAdd, Int.reduceSub, Int.reduceMul, Int.reduceNeg, decide_true, decide_false, Bool.not_true, Bool.not_false, beq_self_eq_true, List.mapM_cons, List.mapM_nil, wrap64, wrap8, Int.cast_ofNat_Int, Int.natCast_eq_zero, decide_eq_true_eq, Bool.or_false, Bool.or_true, Bool.or_self, Bool.false_or, Bool.true_or, Option.bind_eq_bind, Option.bind_some, Option.pure_def, e0, b1, b2]
    | (refine wCall_intro c0 ?_ ?_ ?_; rfl; decide)
    | (refine wCall_intro h1 ?_ ?_ ?_; rfl; decide)
    | (refine wCall_intro h2 ?_ ?_ ?_; rfl; decide)
    | (refine wCall_intro h3 ?_ ?_ ?_; rfl; decide)
    | (refine wCall_intro h4 ?_ ?_ ?_; rfl; decide)
    | (refine wCall_intro h5 ?_ ?_ ?_; rfl; decide)
    | (refine wCall_intro h6 ?_ ?_ ?_; rfl; decide)
    | (refine wCall_intro s1 ?_ ?_ ?_; rfl; decide)
    | (refine wCall_intro s2 ?_ ?_ ?_; rfl; decide)
    | (refine wCall_intro s3 ?_ ?_ ?_; rfl; decide)
    | (refine wCall_intro s4 ?_ ?_ ?_; rfl; decide)
    | (refine wCall_intro (wipe29 _ _ _ _) ?_ ?_ ?_; rfl; decide)
    | (refine wCall_intro (wipe30 _ _ _ _) ?_ ?_ ?_; rfl; decide)
    | (refine wCall_intro lives ?_ ?_ ?_; rfl; decide)
    | refine Also.mk (by decide) ?_
    | refine wfork_intro (fun h => ?_) (fun h => ?_)
    | apply And.intro
end Go.Proofs.Ytehmaafnbgpkcaa
