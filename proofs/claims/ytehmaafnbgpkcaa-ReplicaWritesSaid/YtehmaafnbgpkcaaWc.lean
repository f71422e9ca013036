/- This text proves a part of what the claim needs: contracts of functions of the program. No condition. -/
import Derived.Test.YtehmaafnbgpkcaaWb
set_option linter.unusedSimpArgs false
set_option linter.unusedVariables false

namespace Go.Proofs.Ytehmaafnbgpkcaa
open Go Go.Vs Go.Proofs

theorem own' (ns : N3) (hs : ns.small 1000000) : Gives Try.prog 31 [.agg [.int .i64 ns.a.p, .int .i64 ns.a.e, .sl 1 (strs ns.a.log), .bool ns.a.lost, .int .i64 ns.b.p, .int .i64 ns.b.e, .sl 1 (strs ns.b.log), .bool ns.b.lost, .int .i64 ns.c.p, .int .i64 ns.c.e, .sl 1 (strs ns.c.log), .bool ns.c.lost]] (.agg [.d (.int .i64 ns.a.p), .d (.int .i64 ns.a.e), .d (.sl 1 (strs ns.a.log)), .d (.bool ns.a.lost), .d (.int .i64 ns.b.p), .d (.int .i64 ns.b.e), .d (.sl 1 (strs ns.b.log)), .d (.bool ns.b.lost), .d (.int .i64 ns.c.p), .d (.int .i64 ns.c.e), .d (.sl 1 (strs ns.c.log)), .d (.bool ns.c.lost)]) [] :=
  own _ _ _ _ _ _ _ _ _ _ _ _ hs.1 hs.2.1 hs.2.2

theorem better' (n m : Nd) : Gives Try.prog 34 [.agg [.int .i64 n.p, .int .i64 n.e, .sl 1 (strs n.log), .bool n.lost], .agg [.int .i64 m.p, .int .i64 m.e, .sl 1 (strs m.log), .bool m.lost]] (.c (.d (.bool (betterN n m)))) [] := better _ _ _ _ _ _ _ _

def N3.get (ns : N3) (i : Int) : Nd := if i = 0 then ns.a else if i = 1 then ns.b else ns.c
def N3.set (ns : N3) (i : Int) (n : Nd) : N3 := if i = 0 then ⟨n, ns.b, ns.c⟩ else if i = 1 then ⟨ns.a, n, ns.c⟩ else ⟨ns.a, ns.b, n⟩
def bestN (ns : N3) : List Int → Nd
  | [] => ns.a
  | i :: l => l.foldl (fun best j => if betterN (ns.get j) best then ns.get j else best) (ns.get i)
def recoverN (r : R3) (ns : N3) (e : Int) : N3 × List ByteArray × Int :=
  if e < 1 then (ns, [], 1) else
  if (callN (promiseN · e) r ns).2.length < 2 then ((callN (promiseN · e) r ns).1, [], 18)
  else ((callN (promiseN · e) r ns).2.foldl (fun m i => m.set i (madeN e (bestN (callN (promiseN · e) r ns).1 (callN (promiseN · e) r ns).2).log)) (callN (promiseN · e) r ns).1,
    (bestN (callN (promiseN · e) r ns).1 (callN (promiseN · e) r ns).2).log, 0)

theorem callN_cases (ask : Nd → Nd × Int) (r : R3) (ns : N3) : (callN ask r ns).2 = [] ∨ (callN ask r ns).2 = [0] ∨ (callN ask r ns).2 = [1] ∨ (callN ask r ns).2 = [2] ∨
    (callN ask r ns).2 = [0, 1] ∨ (callN ask r ns).2 = [0, 2] ∨ (callN ask r ns).2 = [1, 2] ∨ (callN ask r ns).2 = [0, 1, 2] := by
  have h : ∀ (r i : Int) (n : Nd) (l : List Int), (stepN ask r i n l).2 = l ∨ (stepN ask r i n l).2 = l ++ [i] := fun r i n l => by
    unfold stepN
    repeat' split
    all_goals simp
  simp only [callN, callK_3]
  rcases h r.a 0 ns.a [] with h1 | h1 <;> rcases h r.b 1 ns.b (stepN ask r.a 0 ns.a []).2 with h2 | h2 <;>
    rcases h r.c 2 ns.c (stepN ask r.b 1 ns.b (stepN ask r.a 0 ns.a []).2).2 with h3 | h3 <;> rw [h3, h2, h1] <;> simp

theorem promiseN_len (n : Nd) (e : Int) : (promiseN n e).1.log.length ≤ n.log.length := by
  unfold promiseN
  repeat' split
  all_goals simp [Nd.zero]

theorem stepN_log {ask : Nd → Nd × Int} {m : Nat} (h : ∀ n, n.log.length ≤ m → (ask n).1.log.length ≤ m) (r i : Int) (n : Nd) (l : List Int) (hn : n.log.length ≤ m) :
    (stepN ask r i n l).1.log.length ≤ m := by
  unfold stepN
  repeat' split
  all_goals first
    | exact hn
    | exact h n hn

theorem callN_small {ask : Nd → Nd × Int} {m : Nat} (h : ∀ n, n.log.length ≤ m → (ask n).1.log.length ≤ m) (r : R3) {ns : N3} (hs : ns.small m) : (callN ask r ns).1.small m := by
  obtain ⟨h1, h2, h3⟩ := hs
  exact ⟨stepN_log h _ _ _ _ h1, stepN_log h _ _ _ _ h2, stepN_log h _ _ _ _ h3⟩

set_option maxHeartbeats 4000000 in
theorem recover_ (ns : N3) (r : R3) (e : Int) (hs : ns.small 1000000) (X : N3 × List ByteArray × Int) (hX : X = recoverN r ns e) :
    Gives Try.prog 11 [.agg [.int .i64 ns.a.p, .int .i64 ns.a.e, .sl 1 (strs ns.a.log), .bool ns.a.lost, .int .i64 ns.b.p, .int .i64 ns.b.e, .sl 1 (strs ns.b.log), .bool ns.b.lost, .int .i64 ns.c.p, .int .i64 ns.c.e, .sl 1 (strs ns.c.log), .bool ns.c.lost], .agg [.int .u8 r.a, .int .u8 r.b, .int .u8 r.c], .c (.int .i64 e)]
    (.tup [.agg [.d (.int .i64 X.1.a.p), .d (.int .i64 X.1.a.e), .d (.sl 1 (strs X.1.a.log)), .d (.bool X.1.a.lost), .d (.int .i64 X.1.b.p), .d (.int .i64 X.1.b.e), .d (.sl 1 (strs X.1.b.log)), .d (.bool X.1.b.lost), .d (.int .i64 X.1.c.p), .d (.int .i64 X.1.c.e), .d (.sl 1 (strs X.1.c.log)), .d (.bool X.1.c.lost)], .c (.d (.sl 1 (strs X.2.1))), .c (.d (.int .i64 X.2.2))]) [] := by
  refine Gives.of_w TryEnv Try.func11 (by decide) TryL11_ok Try.ntmps11 (rs := [.cell 6 25, .tmp 7, .tmp 8]) rfl (by simp) [] (by decide) ?_
  rw [TryL11]
  repeat' first
    | simp -implicitDefEqProofs only [go_sem, ↓reduceIte, Nat.reduceEqDiff, Nat.reduceAdd, Nat.reduceMul, Nat.reduceSub, Nat.reduceLeDiff, Nat.reduceLT, Nat.reducePow, reduceCtorEq, List.length_cons, List.length_nil, List.map_cons, List.map_nil,
      List.reverse_cons, List.reverse_nil, List.nil_append, List.cons_append, Bool.false_eq_true, Nat.zero_le, List.replicate_zero, List.replicate_succ, List.flatten_nil, List.flatten_cons, true_and, and_true, and_self, List.append_nil, Nat.zero_add, Nat.add_zero,
      List.contains_nil, Nat.le_refl, List.take_zero, List.take_succ_cons, List.drop_zero, List.drop_succ_cons, List.take_length, List.take_nil, List.drop_nil, Option.map_some, Option.map_none, List.getElem?_cons_zero, List.getElem?_cons_succ, List.getElem?_nil, Option.some.injEq,
      Int.toNat_zero, Int.reduceToNat, Int.reduceLT, Int.reduceLE, Int.reduceEq, Int.reduceAdd, Int.reduceSub, Int.reduceMul, Int.reduceNeg, decide_true, decide_false, Bool.not_true, Bool.not_false, beq_self_eq_true, List.mapM_cons, List.mapM_nil, wrap64, wrap8, Int.cast_ofNat_Int, Int.natCast_eq_zero, decide_eq_true_eq, Bool.or_false, Bool.or_true, Bool.or_self, Bool.false_or, Bool.true_or, Option.bind_eq_bind, Option.bind_some, Option.pure_def]
    | refine wfork_intro (fun h => ?_) (fun h => ?_)
    | (refine wCall_intro (own' ns hs) ?_ ?_ ?_; rfl; decide)
  · simp only [decide_eq_true_eq] at h
    simp only [recoverN, if_pos h] at hX
    subst hX
    simp -implicitDefEqProofs only [go_sem, ↓reduceIte, Nat.reduceEqDiff, Nat.reduceAdd, Nat.reduceMul, Nat.reduceSub, Nat.reduceLeDiff, Nat.reduceLT, Nat.reducePow, reduceCtorEq, List.length_cons, List.length_nil, List.map_cons, List.map_nil,
      List.reverse_cons, List.reverse_nil, List.nil_append, List.cons_append, Bool.false_eq_true, Nat.zero_le, List.replicate_zero, List.replicate_succ, List.flatten_nil, List.flatten_cons, true_and, and_true, and_self, List.append_nil, Nat.zero_add, Nat.add_zero,
      List.contains_nil, Nat.le_refl, List.take_zero, List.take_succ_cons, List.drop_zero, List.drop_succ_cons, List.take_length, List.take_nil, List.drop_nil, Option.map_some, Option.map_none, List.getElem?_cons_zero, List.getElem?_cons_succ, List.getElem?_nil, Option.some.injEq,
      Int.toNat_zero, Int.reduceToNat, Int.reduceLT, Int.reduceLE, Int.reduceEq, Int.reduceAdd, Int.reduceSub, Int.reduceMul, Int.reduceNeg, decide_true, decide_false, Bool.not_true, Bool.not_false, beq_self_eq_true, List.mapM_cons, List.mapM_nil, wrap64, wrap8, Int.cast_ofNat_Int, Int.natCast_eq_zero, decide_eq_true_eq, Bool.or_false, Bool.or_true, Bool.or_self, Bool.false_or, Bool.true_or, Option.bind_eq_bind, Option.bind_some, Option.pure_def, strs_nil]
  · refine wDeep_go (call32 ns r e hs) ?_
    have hj := callN_cases (promiseN · e) r ns
    have hsm : (callN (promiseN · e) r ns).1.small 1000000 := callN_small (fun n hn => Nat.le_trans (promiseN_len n e) hn) r hs
    simp only [decide_eq_false_iff_not] at h
    simp only [recoverN, if_neg h] at hX
    generalize callN (promiseN · e) r ns = s at *
    obtain ⟨⟨a, b, c⟩, l⟩ := s
    obtain ⟨ha, hb, hc⟩ := hsm
    dsimp only at hj ha hb hc hX ⊢
    rcases hj with rfl | rfl | rfl | rfl | rfl | rfl | rfl | rfl
    all_goals repeat' first
      | simp -implicitDefEqProofs only [go_sem, ↓reduceIte, Nat.reduceEqDiff, Nat.reduceAdd, Nat.reduceMul, Nat.reduceSub, Nat.reduceLeDiff, Nat.reduceLT, Nat.reducePow, reduceCtorEq, List.length_cons, List.length_nil, List.map_cons, List.map_nil,
      List.reverse_cons, List.reverse_nil, List.nil_append, List.cons_append, Bool.false_eq_true, Nat.zero_le, List.replicate_zero, List.replicate_succ, List.flatten_nil, List.flatten_cons, true_and, and_true, and_self, List.append_nil, Nat.zero_add, Nat.add_zero,
      List.contains_nil, Nat.le_refl, List.take_zero, List.take_succ_cons, List.drop_zero, List.drop_succ_cons, List.take_length, List.take_nil, List.drop_nil, Option.map_some, Option.map_none, List.getElem?_cons_zero, List.getElem?_cons_succ, List.getElem?_nil, Option.some.injEq,
      Int.toNat_zero, Int.reduceToNat, Int.reduceLT, Int.reduceLE, Int.reduceEq, Int.reduceAdd, Int.reduceSub, Int.reduceMul, Int.reduceNeg, decide_true, decide_false, Bool.not_true, Bool.not_false, beq_self_eq_true, List.mapM_cons, List.mapM_nil, wrap64, wrap8, Int.cast_ofNat_Int, Int.natCast_eq_zero, decide_eq_true_eq, Bool.or_false, Bool.or_true, Bool.or_self, Bool.false_or, Bool.true_or, Option.bind_eq_bind, Option.bind_some, Option.pure_def, nums_cons, nums_nil]
      | refine wfork_intro (fun h => ?_) (fun h => ?_)
      | (refine wT_unroll TryEnv [(), (), (), ()] ?_)
      | (refine wCall_intro (better' _ _) ?_ ?_ ?_; rfl; decide)
      | (refine wCall_intro (made _ _ ?_) ?_ ?_ ?_; assumption; rfl; decide)
      | (refine wCall_intro (clone _ ?_) ?_ ?_ ?_; assumption; rfl; decide)
      | refine Also.mk (by decide) ?_
    all_goals subst hX
    all_goals simp only [go_sem, List.length_cons, List.length_nil, Nat.reduceAdd, Nat.reduceLT, ↓reduceIte, List.foldl_cons, List.foldl_nil, N3.set, N3.get, bestN, Int.reduceEq, strs_nil, Bool.false_eq_true, madeN, and_self, *]

theorem recover (ns : N3) (r : R3) (e : Int) (hs : ns.small 1000000) : Gives Try.prog 11 [.agg [.int .i64 ns.a.p, .int .i64 ns.a.e, .sl 1 (strs ns.a.log), .bool ns.a.lost, .int .i64 ns.b.p, .int .i64 ns.b.e, .sl 1 (strs ns.b.log), .bool ns.b.lost, .int .i64 ns.c.p, .int .i64 ns.c.e, .sl 1 (strs ns.c.log), .bool ns.c.lost], .agg [.int .u8 r.a, .int .u8 r.b, .int .u8 r.c], .c (.int .i64 e)]
    (.tup [.agg [.d (.int .i64 ((recoverN r ns e).1.a).p), .d (.int .i64 ((recoverN r ns e).1.a).e), .d (.sl 1 (strs ((recoverN r ns e).1.a).log)), .d (.bool ((recoverN r ns e).1.a).lost), .d (.int .i64 ((recoverN r ns e).1.b).p), .d (.int .i64 ((recoverN r ns e).1.b).e), .d (.sl 1 (strs ((recoverN r ns e).1.b).log)), .d (.bool ((recoverN r ns e).1.b).lost), .d (.int .i64 ((recoverN r ns e).1.c).p), .d (.int .i64 ((recoverN r ns e).1.c).e), .d (.sl 1 (strs ((recoverN r ns e).1.c).log)), .d (.bool ((recoverN r ns e).1.c).lost)], .c (.d (.sl 1 (strs (recoverN r ns e).2.1))), .c (.d (.int .i64 (recoverN r ns e).2.2))]) [] :=
  recover_ ns r e hs _ rfl
end Go.Proofs.Ytehmaafnbgpkcaa
