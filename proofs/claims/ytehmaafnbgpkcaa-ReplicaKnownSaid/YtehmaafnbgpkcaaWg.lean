/- This text proves a part of what the claim needs: contracts of functions of the program. No condition. -/
import Derived.Test.YtehmaafnbgpkcaaWf
set_option linter.unusedSimpArgs false
set_option linter.unusedVariables false

namespace Go.Proofs.Ytehmaafnbgpkcaa
open Go Go.Vs Go.Proofs

def sZ : ByteArray := ⟨#[122]⟩
def sW : ByteArray := ⟨#[119]⟩
def kw1 : N3 × Bool × Int := (⟨⟨1, 1, [sX], false⟩, ⟨1, 1, [sX], false⟩, Nd.zero⟩, false, 0)
def kw2 : N3 × Bool × Int := (⟨⟨1, 1, [sX], false⟩, ⟨1, 1, [sX, sY], false⟩, ⟨1, 1, [sX, sY], false⟩⟩, true, 0)
def kr2 : N3 × List ByteArray × Int := (⟨⟨2, 2, [sX, sY], false⟩, ⟨1, 1, [sX, sY], false⟩, ⟨2, 2, [sX, sY], false⟩⟩, [sX, sY], 0)
def kag : N3 × List ByteArray × Int := (⟨⟨2, 2, [sX, sY], false⟩, ⟨2, 1, [sX, sY], false⟩, ⟨2, 2, [sX, sY], false⟩⟩, [], 18)
def kw3 : N3 × Bool × Int := (⟨⟨2, 2, [sX, sY], false⟩, ⟨1, 1, [sX, sY, sZ], false⟩, ⟨2, 2, [sX, sY], false⟩⟩, false, 0)
def kn4 : N3 := ⟨⟨0, 0, [], true⟩, ⟨1, 1, [sX, sY, sZ], false⟩, ⟨2, 2, [sX, sY], false⟩⟩
def kw4 : N3 × Bool × Int := (⟨⟨2, 2, [sX, sY, sW], false⟩, ⟨2, 2, [sX, sY, sW], false⟩, ⟨2, 2, [sX, sY, sW], false⟩⟩, true, 0)
def kr3 : N3 × List ByteArray × Int := (⟨⟨9, 2, [sX, sY, sW], false⟩, ⟨9, 2, [sX, sY, sW], false⟩, ⟨2, 2, [sX, sY, sW], false⟩⟩, [], 18)
theorem kw1_eq : writeN ⟨0, 2, 1⟩ live1.1 1 [sX] = kw1 := by rfl
theorem kw2_eq : writeN ⟨1, 0, 0⟩ kw1.1 1 [sX, sY] = kw2 := by rfl
theorem kr2_eq : recoverN ⟨0, 1, 0⟩ kw2.1 2 = kr2 := by rfl
theorem kag_eq : recoverN ⟨0, 0, 0⟩ kr2.1 2 = kag := by rfl
theorem kw3_eq : writeN ⟨0, 0, 0⟩ kr2.1 1 [sX, sY, sZ] = kw3 := by rfl
theorem kw4_eq : writeN ⟨0, 0, 0⟩ kn4 2 [sX, sY, sW] = kw4 := by rfl
theorem kr3_eq : recoverN ⟨2, 0, 1⟩ kw4.1 9 = kr3 := by rfl

def longL : List ByteArray := List.replicate 401 ⟨#[]⟩
theorem longL_len : longL.length = 401 := List.length_replicate
def longS : List (List D) := strs longL
theorem long_gen (n : Nat) (s : ByteArray) : List.replicate n [D.str s] = strs (List.replicate n s) := by simp [strs]
theorem longS_eq : List.replicate 401 [D.str ⟨#[]⟩] = longS := long_gen 401 _
theorem longS_eq2 : List.replicate (Int.toNat 401) [D.str ⟨#[]⟩] = longS := long_gen 401 _
theorem longS_len : longS.length = 401 := by
  rw [longS, strs_length]
  exact longL_len
theorem longS_take : List.take 401 longS = longS := List.take_of_length_le (by rw [longS_len]; exact Nat.le_refl _)
theorem long_install : Gives Try.prog 24 [.agg [.int .i64 Nd.zero.p, .int .i64 Nd.zero.e, .sl 1 (strs Nd.zero.log), .bool Nd.zero.lost], .c (.int .i64 1), .c (.sl 1 longS)] (.tup [.agg [.d (.int .i64 Nd.zero.p), .d (.int .i64 Nd.zero.e), .d (.sl 1 (strs Nd.zero.log)), .d (.bool Nd.zero.lost)], .c (.d (.int .i64 3))]) [] := by
  have hl := longL_len
  have h := install' Nd.zero 1 longL (by omega)
  have e : installN Nd.zero 1 longL = (Nd.zero, 3) := by
    have : boundN 1 longL = 3 := by
      unfold boundN
      rw [if_neg (by omega), if_pos (by omega)]
    simp [installN, this]
  rw [e] at h
  exact h

set_option maxRecDepth 10000 in
set_option maxHeartbeats 2000000 in
theorem lawKnown : Gives Try.prog 9 [] (.c (.d (.bool true))) [] := by
  have h1 := recover zero3 ⟨0, 0, 1⟩ 1 ⟨by decide, by decide, by decide⟩
  have h2 := write live1.1 ⟨0, 2, 1⟩ 1 [sX] ⟨by decide, by decide, by decide⟩ (by decide)
  have h3 := write kw1.1 ⟨1, 0, 0⟩ 1 [sX, sY] ⟨by decide, by decide, by decide⟩ (by decide)
  have h4 := recover kw2.1 ⟨0, 1, 0⟩ 2 ⟨by decide, by decide, by decide⟩
  have h5 := recover kr2.1 ⟨0, 0, 0⟩ 2 ⟨by decide, by decide, by decide⟩
  have h6 := write kr2.1 ⟨0, 0, 0⟩ 1 [sX, sY, sZ] ⟨by decide, by decide, by decide⟩ (by decide)
  have h7 := write kn4 ⟨0, 0, 0⟩ 2 [sX, sY, sW] ⟨by decide, by decide, by decide⟩ (by decide)
  have h8 := recover kw4.1 ⟨2, 0, 1⟩ 9 ⟨by decide, by decide, by decide⟩
  have h9 := wipe29 2 2 [sX, sY] false
  have l1 := lines [sX] [sX] (by decide) (by decide)
  have l2 := lines [sX, sY] [sX, sY] (by decide) (by decide)
  have l3 := lines [sX, sY, sW] [sX, sY, sW] (by decide) (by decide)
  have s1 := same' Nd.zero Nd.zero (by decide) (by decide)
  have i1 := long_install
  have i2 := heal' Nd.zero 1 [] (by decide)
  have i3 := promise' ⟨0, 0, [], true⟩ 1 (by decide)
  have i4 := install' ⟨3, 0, [], false⟩ 2 [] (by decide)
  have i5 := promise' Nd.zero 0 (by decide)
  rw [live1_eq] at h1
  rw [kw1_eq] at h2
  rw [kw2_eq] at h3
  rw [kr2_eq] at h4
  rw [kag_eq] at h5
  rw [kw3_eq] at h6
  rw [kw4_eq] at h7
  rw [kr3_eq] at h8
  rw [isLines_self] at l1 l2 l3
  rw [isSameN_self] at s1
  rw [show healN Nd.zero 1 [] = (Nd.zero, 8) from rfl] at i2
  rw [show promiseN ⟨0, 0, [], true⟩ 1 = (Nd.zero, 7) from rfl] at i3
  rw [show installN ⟨3, 0, [], false⟩ 2 [] = (Nd.zero, 15) from rfl] at i4
  rw [show promiseN Nd.zero 0 = (Nd.zero, 1) from rfl] at i5
  simp only [live1, kw1, kw2, kr2, kag, kw3, kn4, kw4, kr3, zero3, Nd.zero, strs_nil, strs_cons, sX, sY, sZ, sW] at h1 h2 h3 h4 h5 h6 h7 h8 h9 l1 l2 l3 s1 i1 i2 i3 i4 i5
  refine Gives.of_w TryEnv Try.func9 (by decide) TryL9_ok Try.ntmps9 (rs := [.tmp 0]) rfl (by simp) [] (by decide) ?_
  rw [TryL9]
  repeat' first
    | simp -implicitDefEqProofs only [go_sem, ↓reduceIte, Nat.reduceEqDiff, Nat.reduceAdd, Nat.reduceMul, Nat.reduceSub, Nat.reduceLeDiff, Nat.reduceLT, Nat.reducePow, reduceCtorEq, List.length_cons, List.length_nil, List.map_cons, List.map_nil,
      List.reverse_cons, List.reverse_nil, List.nil_append, List.cons_append, Bool.false_eq_true, Nat.zero_le, List.replicate_zero, List.replicate_succ, List.flatten_nil, List.flatten_cons, true_and, and_true, and_self, List.append_nil, Nat.zero_add, Nat.add_zero,
      List.contains_nil, Nat.le_refl, List.take_zero, List.take_succ_cons, List.drop_zero, List.drop_succ_cons, List.take_length, List.take_nil, List.drop_nil, Option.map_some, Option.map_none, List.getElem?_cons_zero, List.getElem?_cons_succ, List.getElem?_nil, Option.some.injEq,
      Int.toNat_zero, Int.reduceToNat, Int.reduceLT, Int.reduceLE, Int.reduceEq, Int.reduceAdd, Int.reduceSub, Int.reduceMul, Int.reduceNeg, decide_true, decide_false, Bool.not_true, Bool.not_false, beq_self_eq_true, List.mapM_cons, List.mapM_nil, wrap64, wrap8, Int.cast_ofNat_Int, Int.natCast_eq_zero, decide_eq_true_eq, Bool.or_false, Bool.or_true, Bool.or_self, Bool.false_or, Bool.true_or, Option.bind_eq_bind, Option.bind_some, Option.pure_def, ↓longS_eq, ↓longS_eq2, longS_len, longS_take]
    | (show _ ≤ mostBytes; decide)
    | refine wLend_frz ?_
    | (refine wCall_le h1 ?_ ?_ ?_ ?_; simp -implicitDefEqProofs only [go_sem, ↓reduceIte, Nat.reduceEqDiff, Nat.reduceAdd, Nat.reduceMul, Nat.reduceSub, Nat.reduceLeDiff, Nat.reduceLT, Nat.reducePow, reduceCtorEq, List.length_cons, List.length_nil, List.map_cons, List.map_nil,
      List.reverse_cons, List.reverse_nil, List.nil_append, List.cons_append, Bool.false_eq_true, Nat.zero_le, List.replicate_zero, List.replicate_succ, List.flatten_nil, List.flatten_cons, true_and, and_true, and_self, List.append_nil, Nat.zero_add, Nat.add_zero,
      List.contains_nil, Nat.le_refl, List.take_zero, List.take_succ_cons, List.drop_zero, List.drop_succ_cons, List.take_length, List.take_nil, List.drop_nil, Option.map_some, Option.map_none, List.getElem?_cons_zero, List.getElem?_cons_succ, List.getElem?_nil, Option.some.injEq,
      Int.toNat_zero, Int.reduceToNat, Int.reduceLT, Int.reduceLE, Int.reduceEq, Int.reduceAdd, Int.reduceSub, Int.reduceMul, Int.reduceNeg, decide_true, decide_false, Bool.not_true, Bool.not_false, beq_self_eq_true, List.mapM_cons, List.mapM_nil, wrap64, wrap8, Int.cast_ofNat_Int, Int.natCast_eq_zero, decide_eq_true_eq, Bool.or_false, Bool.or_true, Bool.or_self, Bool.false_or, Bool.true_or, Option.bind_eq_bind, Option.bind_some, Option.pure_def]; rfl; decide)
    | (refine wCall_le h2 ?_ ?_ ?_ ?_; simp -implicitDefEqProofs only [go_sem, ↓reduceIte, Nat.reduceEqDiff, Nat.reduceAdd, Nat.reduceMul, Nat.reduceSub, Nat.reduceLeDiff, Nat.reduceLT, Nat.reducePow, reduceCtorEq, List.length_cons, List.length_nil, List.map_cons, List.map_nil,
      List.reverse_cons, List.reverse_nil, List.nil_append, List.cons_append, Bool.false_eq_true, Nat.zero_le, List.replicate_zero, List.replicate_succ, List.flatten_nil, List.flatten_cons, true_and, and_true, and_self, List.append_nil, Nat.zero_add, Nat.add_zero,
      List.contains_nil, Nat.le_refl, List.take_zero, List.take_succ_cons, List.drop_zero, List.drop_succ_cons, List.take_length, List.take_nil, List.drop_nil, Option.map_some, Option.map_none, List.getElem?_cons_zero, List.getElem?_cons_succ, List.getElem?_nil, Option.some.injEq,
      Int.toNat_zero, Int.reduceToNat, Int.reduceLT, Int.reduceLE, Int.reduceEq, Int.reduceAdd, Int.reduceSub, Int.reduceMul, Int.reduceNeg, decide_true, decide_false, Bool.not_true, Bool.not_false, beq_self_eq_true, List.mapM_cons, List.mapM_nil, wrap64, wrap8, Int.cast_ofNat_Int, Int.natCast_eq_zero, decide_eq_true_eq, Bool.or_false, Bool.or_true, Bool.or_self, Bool.false_or, Bool.true_or, Option.bind_eq_bind, Option.bind_some, Option.pure_def]; rfl; decide)
    | (refine wCall_le h3 ?_ ?_ ?_ ?_; simp -implicitDefEqProofs only [go_sem, ↓reduceIte, Nat.reduceEqDiff, Nat.reduceAdd, Nat.reduceMul, Nat.reduceSub, Nat.reduceLeDiff, Nat.reduceLT, Nat.reducePow, reduceCtorEq, List.length_cons, List.length_nil, List.map_cons, List.map_nil,
      List.reverse_cons, List.reverse_nil, List.nil_append, List.cons_append, Bool.false_eq_true, Nat.zero_le, List.replicate_zero, List.replicate_succ, List.flatten_nil, List.flatten_cons, true_and, and_true, and_self, List.append_nil, Nat.zero_add, Nat.add_zero,
      List.contains_nil, Nat.le_refl, List.take_zero, List.take_succ_cons, List.drop_zero, List.drop_succ_cons, List.take_length, List.take_nil, List.drop_nil, Option.map_some, Option.map_none, List.getElem?_cons_zero, List.getElem?_cons_succ, List.getElem?_nil, Option.some.injEq,
      Int.toNat_zero, Int.reduceToNat, Int.reduceLT, Int.reduceLE, Int.reduceEq, Int.reduceAdd, Int.reduceSub, Int.reduceMul, Int.reduceNeg, decide_true, decide_false, Bool.not_true, Bool.not_false, beq_self_eq_true, List.mapM_cons, List.mapM_nil, wrap64, wrap8, Int.cast_ofNat_Int, Int.natCast_eq_zero, decide_eq_true_eq, Bool.or_false, Bool.or_true, Bool.or_self, Bool.false_or, Bool.true_or, Option.bind_eq_bind, Option.bind_some, Option.pure_def]; rfl; decide)
    | (refine wCall_le h4 ?_ ?_ ?_ ?_; simp -implicitDefEqProofs only [go_sem, ↓reduceIte, Nat.reduceEqDiff, Nat.reduceAdd, Nat.reduceMul, Nat.reduceSub, Nat.reduceLeDiff, Nat.reduceLT, Nat.reducePow, reduceCtorEq, List.length_cons, List.length_nil, List.map_cons, List.map_nil,
      List.reverse_cons, List.reverse_nil, List.nil_append, List.cons_append, Bool.false_eq_true, Nat.zero_le, List.replicate_zero, List.replicate_succ, List.flatten_nil, List.flatten_cons, true_and, and_true, and_self, List.append_nil, Nat.zero_add, Nat.add_zero,
      List.contains_nil, Nat.le_refl, List.take_zero, List.take_succ_cons, List.drop_zero, List.drop_succ_cons, List.take_length, List.take_nil, List.drop_nil, Option.map_some, Option.map_none, List.getElem?_cons_zero, List.getElem?_cons_succ, List.getElem?_nil, Option.some.injEq,
      Int.toNat_zero, Int.reduceToNat, Int.reduceLT, Int.reduceLE, Int.reduceEq, Int.reduceAdd, Int.reduceSub, Int.reduceMul, Int.reduceNeg, decide_true, decide_false, Bool.not_true, Bool.not_false, beq_self_eq_true, List.mapM_cons, List.mapM_nil, wrap64, wrap8, Int.cast_ofNat_Int, Int.natCast_eq_zero, decide_eq_true_eq, Bool.or_false, Bool.or_true, Bool.or_self, Bool.false_or, Bool.true_or, Option.bind_eq_bind, Option.bind_some, Option.pure_def]; rfl; decide)
    | (refine wCall_le h5 ?_ ?_ ?_ ?_; simp -implicitDefEqProofs only [go_sem, ↓reduceIte, Nat.reduceEqDiff, Nat.reduceAdd, Nat.reduceMul, Nat.reduceSub, Nat.reduceLeDiff, Nat.reduceLT, Nat.reducePow, reduceCtorEq, List.length_cons, List.length_nil, List.map_cons, List.map_nil,
      List.reverse_cons, List.reverse_nil, List.nil_append, List.cons_append, Bool.false_eq_true, Nat.zero_le, List.replicate_zero, List.replicate_succ, List.flatten_nil, List.flatten_cons, true_and, and_true, and_self, List.append_nil, Nat.zero_add, Nat.add_zero,
      List.contains_nil, Nat.le_refl, List.take_zero, List.take_succ_cons, List.drop_zero, List.drop_succ_cons, List.take_length, List.take_nil, List.drop_nil, Option.map_some, Option.map_none, List.getElem?_cons_zero, List.getElem?_cons_succ, List.getElem?_nil, Option.some.injEq,
      Int.toNat_zero, Int.reduceToNat, Int.reduceLT, Int.reduceLE, Int.reduceEq, Int.reduceAdd, Int.reduceSub, Int.reduceMul, Int.reduceNeg, decide_true, decide_false, Bool.not_true, Bool.not_false, beq_self_eq_true, List.mapM_cons, List.mapM_nil, wrap64, wrap8, Int.cast_ofNat_Int, Int.natCast_eq_zero, decide_eq_true_eq, Bool.or_false, Bool.or_true, Bool.or_self, Bool.false_or, Bool.true_or, Option.bind_eq_bind, Option.bind_some, Option.pure_def]; rfl; decide)
    | (refine wCall_le h6 ?_ ?_ ?_ ?_; simp -implicitDefEqProofs only [go_sem, ↓reduceIte, Nat.reduceEqDiff, Nat.reduceAdd, Nat.reduceMul, Nat.reduceSub, Nat.reduceLeDiff, Nat.reduceLT, Nat.reducePow, reduceCtorEq, List.length_cons, List.length_nil, List.map_cons, List.map_nil,
      List.reverse_cons, List.reverse_nil, List.nil_append, List.cons_append, Bool.false_eq_true, Nat.zero_le, List.replicate_zero, List.replicate_succ, List.flatten_nil, List.flatten_cons, true_and, and_true, and_self, List.append_nil, Nat.zero_add, Nat.add_zero,
      List.contains_nil, Nat.le_refl, List.take_zero, List.take_succ_cons, List.drop_zero, List.drop_succ_cons, List.take_length, List.take_nil, List.drop_nil, Option.map_some, Option.map_none, List.getElem?_cons_zero, List.getElem?_cons_succ, List.getElem?_nil, Option.some.injEq,
      Int.toNat_zero, Int.reduceToNat, Int.reduceLT, Int.reduceLE, Int.reduceEq, Int.reduceAdd, Int.reduceSub, Int.reduceMul, Int.reduceNeg, decide_true, decide_false, Bool.not_true, Bool.not_false, beq_self_eq_true, List.mapM_cons, List.mapM_nil, wrap64, wrap8, Int.cast_ofNat_Int, Int.natCast_eq_zero, decide_eq_true_eq, Bool.or_false, Bool.or_true, Bool.or_self, Bool.false_or, Bool.true_or, Option.bind_eq_bind, Option.bind_some, Option.pure_def]; rfl; decide)
    | (refine wCall_le h7 ?_ ?_ ?_ ?_; simp -implicitDefEqProofs only [go_sem, ↓reduceIte, Nat.reduceEqDiff, Nat.reduceAdd, Nat.reduceMul, Nat.reduceSub, Nat.reduceLeDiff, Nat.reduceLT, Nat.reducePow, reduceCtorEq, List.length_cons, List.length_nil, List.map_cons, List.map_nil,
      List.reverse_cons, List.reverse_nil, List.nil_append, List.cons_append, Bool.false_eq_true, Nat.zero_le, List.replicate_zero, List.replicate_succ, List.flatten_nil, List.flatten_cons, true_and, and_true, and_self, List.append_nil, Nat.zero_add, Nat.add_zero,
      List.contains_nil, Nat.le_refl, List.take_zero, List.take_succ_cons, List.drop_zero, List.drop_succ_cons, List.take_length, List.take_nil, List.drop_nil, Option.map_some, Option.map_none, List.getElem?_cons_zero, List.getElem?_cons_succ, List.getElem?_nil, Option.some.injEq,
      Int.toNat_zero, Int.reduceToNat, Int.reduceLT, Int.reduceLE, Int.reduceEq, Int.reduceAdd, Int.reduceSub, Int.reduceMul, Int.reduceNeg, decide_true, decide_false, Bool.not_true, Bool.not_false, beq_self_eq_true, List.mapM_cons, List.mapM_nil, wrap64, wrap8, Int.cast_ofNat_Int, Int.natCast_eq_zero, decide_eq_true_eq, Bool.or_false, Bool.or_true, Bool.or_self, Bool.false_or, Bool.true_or, Option.bind_eq_bind, Option.bind_some, Option.pure_def]; rfl; decide)
    | (refine wCall_le h8 ?_ ?_ ?_ ?_; simp -implicitDefEqProofs only [go_sem, ↓reduceIte, Nat.reduceEqDiff, Nat.reduceAdd, Nat.reduceMul, Nat.reduceSub, Nat.reduceLeDiff, Nat.reduceLT, Nat.reducePow, reduceCtorEq, List.length_cons, List.length_nil, List.map_cons, List.map_nil,
      List.reverse_cons, List.reverse_nil, List.nil_append, List.cons_append, Bool.false_eq_true, Nat.zero_le, List.replicate_zero, List.replicate_succ, List.flatten_nil, List.flatten_cons, true_and, and_true, and_self, List.append_nil, Nat.zero_add, Nat.add_zero,
      List.contains_nil, Nat.le_refl, List.take_zero, List.take_succ_cons, List.drop_zero, List.drop_succ_cons, List.take_length, List.take_nil, List.drop_nil, Option.map_some, Option.map_none, List.getElem?_cons_zero, List.getElem?_cons_succ, List.getElem?_nil, Option.some.injEq,
      Int.toNat_zero, Int.reduceToNat, Int.reduceLT, Int.reduceLE, Int.reduceEq, Int.reduceAdd, Int.reduceSub, Int.reduceMul, Int.reduceNeg, decide_true, decide_false, Bool.not_true, Bool.not_false, beq_self_eq_true, List.mapM_cons, List.mapM_nil, wrap64, wrap8, Int.cast_ofNat_Int, Int.natCast_eq_zero, decide_eq_true_eq, Bool.or_false, Bool.or_true, Bool.or_self, Bool.false_or, Bool.true_or, Option.bind_eq_bind, Option.bind_some, Option.pure_def]; rfl; decide)
    | (refine wCall_le l1 ?_ ?_ ?_ ?_; simp -implicitDefEqProofs only [go_sem, ↓reduceIte, Nat.reduceEqDiff, Nat.reduceAdd, Nat.reduceMul, Nat.reduceSub, Nat.reduceLeDiff, Nat.reduceLT, Nat.reducePow, reduceCtorEq, List.length_cons, List.length_nil, List.map_cons, List.map_nil,
      List.reverse_cons, List.reverse_nil, List.nil_append, List.cons_append, Bool.false_eq_true, Nat.zero_le, List.replicate_zero, List.replicate_succ, List.flatten_nil, List.flatten_cons, true_and, and_true, and_self, List.append_nil, Nat.zero_add, Nat.add_zero,
      List.contains_nil, Nat.le_refl, List.take_zero, List.take_succ_cons, List.drop_zero, List.drop_succ_cons, List.take_length, List.take_nil, List.drop_nil, Option.map_some, Option.map_none, List.getElem?_cons_zero, List.getElem?_cons_succ, List.getElem?_nil, Option.some.injEq,
      Int.toNat_zero, Int.reduceToNat, Int.reduceLT, Int.reduceLE, Int.reduceEq, Int.reduceAdd, Int.reduceSub, Int.reduceMul, Int.reduceNeg, decide_true, decide_false, Bool.not_true, Bool.not_false, beq_self_eq_true, List.mapM_cons, List.mapM_nil, wrap64, wrap8, Int.cast_ofNat_Int, Int.natCast_eq_zero, decide_eq_true_eq, Bool.or_false, Bool.or_true, Bool.or_self, Bool.false_or, Bool.true_or, Option.bind_eq_bind, Option.bind_some, Option.pure_def]; rfl; decide)
    | (refine wCall_le l2 ?_ ?_ ?_ ?_; simp -implicitDefEqProofs only [go_sem, ↓reduceIte, Nat.reduceEqDiff, Nat.reduceAdd, Nat.reduceMul, Nat.reduceSub, Nat.reduceLeDiff, Nat.reduceLT, Nat.reducePow, reduceCtorEq, List.length_cons, List.length_nil, List.map_cons, List.map_nil,
      List.reverse_cons, List.reverse_nil, List.nil_append, List.cons_append, Bool.false_eq_true, Nat.zero_le, List.replicate_zero, List.replicate_succ, List.flatten_nil, List.flatten_cons, true_and, and_true, and_self, List.append_nil, Nat.zero_add, Nat.add_zero,
      List.contains_nil, Nat.le_refl, List.take_zero, List.take_succ_cons, List.drop_zero, List.drop_succ_cons, List.take_length, List.take_nil, List.drop_nil, Option.map_some, Option.map_none, List.getElem?_cons_zero, List.getElem?_cons_succ, List.getElem?_nil, Option.some.injEq,
      Int.toNat_zero, Int.reduceToNat, Int.reduceLT, Int.reduceLE, Int.reduceEq, Int.reduceAdd, Int.reduceSub, Int.reduceMul, Int.reduceNeg, decide_true, decide_false, Bool.not_true, Bool.not_false, beq_self_eq_true, List.mapM_cons, List.mapM_nil, wrap64, wrap8, Int.cast_ofNat_Int, Int.natCast_eq_zero, decide_eq_true_eq, Bool.or_false, Bool.or_true, Bool.or_self, Bool.false_or, Bool.true_or, Option.bind_eq_bind, Option.bind_some, Option.pure_def]; rfl; decide)
    | (refine wCall_le l3 ?_ ?_ ?_ ?_; simp -implicitDefEqProofs only [go_sem, ↓reduceIte, Nat.reduceEqDiff, Nat.reduceAdd, Nat.reduceMul, Nat.reduceSub, Nat.reduceLeDiff, Nat.reduceLT, Nat.reducePow, reduceCtorEq, List.length_cons, List.length_nil, List.map_cons, List.map_nil,
      List.reverse_cons, List.reverse_nil, List.nil_append, List.cons_append, Bool.false_eq_true, Nat.zero_le, List.replicate_zero, List.replicate_succ, List.flatten_nil, List.flatten_cons, true_and, and_true, and_self, List.append_nil, Nat.zero_add, Nat.add_zero,
      List.contains_nil, Nat.le_refl, List.take_zero, List.take_succ_cons, List.drop_zero, List.drop_succ_cons, List.take_length, List.take_nil, List.drop_nil, Option.map_some, Option.map_none, List.getElem?_cons_zero, List.getElem?_cons_succ, List.getElem?_nil, Option.some.injEq,
      Int.toNat_zero, Int.reduceToNat, Int.reduceLT, Int.reduceLE, Int.reduceEq, Int.reduceAdd, Int.reduceSub, Int.reduceMul, Int.reduceNeg, decide_true, decide_false, Bool.not_true, Bool.not_false, beq_self_eq_true, List.mapM_cons, List.mapM_nil, wrap64, wrap8, Int.cast_ofNat_Int, Int.natCast_eq_zero, decide_eq_true_eq, Bool.or_false, Bool.or_true, Bool.or_self, Bool.false_or, Bool.true_or, Option.bind_eq_bind, Option.bind_some, Option.pure_def]; rfl; decide)
    | (refine wCall_le s1 ?_ ?_ ?_ ?_; simp -implicitDefEqProofs only [go_sem, ↓reduceIte, Nat.reduceEqDiff, Nat.reduceAdd, Nat.reduceMul, Nat.reduceSub, Nat.reduceLeDiff, Nat.reduceLT, Nat.reducePow, reduceCtorEq, List.length_cons, List.length_nil, List.map_cons, List.map_nil,
      List.reverse_cons, List.reverse_nil, List.nil_append, List.cons_append, Bool.false_eq_true, Nat.zero_le, List.replicate_zero, List.replicate_succ, List.flatten_nil, List.flatten_cons, true_and, and_true, and_self, List.append_nil, Nat.zero_add, Nat.add_zero,
      List.contains_nil, Nat.le_refl, List.take_zero, List.take_succ_cons, List.drop_zero, List.drop_succ_cons, List.take_length, List.take_nil, List.drop_nil, Option.map_some, Option.map_none, List.getElem?_cons_zero, List.getElem?_cons_succ, List.getElem?_nil, Option.some.injEq,
      Int.toNat_zero, Int.reduceToNat, Int.reduceLT, Int.reduceLE, Int.reduceEq, Int.reduceAdd, Int.reduceSub, Int.reduceMul, Int.reduceNeg, decide_true, decide_false, Bool.not_true, Bool.not_false, beq_self_eq_true, List.mapM_cons, List.mapM_nil, wrap64, wrap8, Int.cast_ofNat_Int, Int.natCast_eq_zero, decide_eq_true_eq, Bool.or_false, Bool.or_true, Bool.or_self, Bool.false_or, Bool.true_or, Option.bind_eq_bind, Option.bind_some, Option.pure_def]; rfl; decide)
    | (refine wCall_le i1 ?_ ?_ ?_ ?_; simp -implicitDefEqProofs only [go_sem, ↓reduceIte, Nat.reduceEqDiff, Nat.reduceAdd, Nat.reduceMul, Nat.reduceSub, Nat.reduceLeDiff, Nat.reduceLT, Nat.reducePow, reduceCtorEq, List.length_cons, List.length_nil, List.map_cons, List.map_nil,
      List.reverse_cons, List.reverse_nil, List.nil_append, List.cons_append, Bool.false_eq_true, Nat.zero_le, List.replicate_zero, List.replicate_succ, List.flatten_nil, List.flatten_cons, true_and, and_true, and_self, List.append_nil, Nat.zero_add, Nat.add_zero,
      List.contains_nil, Nat.le_refl, List.take_zero, List.take_succ_cons, List.drop_zero, List.drop_succ_cons, List.take_length, List.take_nil, List.drop_nil, Option.map_some, Option.map_none, List.getElem?_cons_zero, List.getElem?_cons_succ, List.getElem?_nil, Option.some.injEq,
      Int.toNat_zero, Int.reduceToNat, Int.reduceLT, Int.reduceLE, Int.reduceEq, Int.reduceAdd, Int.reduceSub, Int.reduceMul, Int.reduceNeg, decide_true, decide_false, Bool.not_true, Bool.not_false, beq_self_eq_true, List.mapM_cons, List.mapM_nil, wrap64, wrap8, Int.cast_ofNat_Int, Int.natCast_eq_zero, decide_eq_true_eq, Bool.or_false, Bool.or_true, Bool.or_self, Bool.false_or, Bool.true_or, Option.bind_eq_bind, Option.bind_some, Option.pure_def]; rfl; decide)
    | (refine wCall_le i2 ?_ ?_ ?_ ?_; simp -implicitDefEqProofs only [go_sem, ↓reduceIte, Nat.reduceEqDiff, Nat.reduceAdd, Nat.reduceMul, Nat.reduceSub, Nat.reduceLeDiff, Nat.reduceLT, Nat.reducePow, reduceCtorEq, List.length_cons, List.length_nil, List.map_cons, List.map_nil,
      List.reverse_cons, List.reverse_nil, List.nil_append, List.cons_append, Bool.false_eq_true, Nat.zero_le, List.replicate_zero, List.replicate_succ, List.flatten_nil, List.flatten_cons, true_and, and_true, and_self, List.append_nil, Nat.zero_add, Nat.add_zero,
      List.contains_nil, Nat.le_refl, List.take_zero, List.take_succ_cons, List.drop_zero, List.drop_succ_cons, List.take_length, List.take_nil, List.drop_nil, Option.map_some, Option.map_none, List.getElem?_cons_zero, List.getElem?_cons_succ, List.getElem?_nil, Option.some.injEq,
      Int.toNat_zero, Int.reduceToNat, Int.reduceLT, Int.reduceLE, Int.reduceEq, Int.reduceAdd, Int.reduceSub, Int.reduceMul, Int.reduceNeg, decide_true, decide_false, Bool.not_true, Bool.not_false, beq_self_eq_true, List.mapM_cons, List.mapM_nil, wrap64, wrap8, Int.cast_ofNat_Int, Int.natCast_eq_zero, decide_eq_true_eq, Bool.or_false, Bool.or_true, Bool.or_self, Bool.false_or, Bool.true_or, Option.bind_eq_bind, Option.bind_some, Option.pure_def]; rfl; decide)
    | (refine wCall_le i3 ?_ ?_ ?_ ?_; simp -implicitDefEqProofs only [go_sem, ↓reduceIte, Nat.reduceEqDiff, Nat.reduceAdd, Nat.reduceMul, Nat.reduceSub, Nat.reduceLeDiff, Nat.reduceLT, Nat.reducePow, reduceCtorEq, List.length_cons, List.length_nil, List.map_cons, List.map_nil,
      List.reverse_cons, List.reverse_nil, List.nil_append, List.cons_append, Bool.false_eq_true, Nat.zero_le, List.replicate_zero, List.replicate_succ, List.flatten_nil, List.flatten_cons, true_and, and_true, and_self, List.append_nil, Nat.zero_add, Nat.add_zero,
      List.contains_nil, Nat.le_refl, List.take_zero, List.take_succ_cons, List.drop_zero, List.drop_succ_cons, List.take_length, List.take_nil, List.drop_nil, Option.map_some, Option.map_none, List.getElem?_cons_zero, List.getElem?_cons_succ, List.getElem?_nil, Option.some.injEq,
      Int.toNat_zero, Int.reduceToNat, Int.reduceLT, Int.reduceLE, Int.reduceEq, Int.reduceAdd, Int.reduceSub, Int.reduceMul, Int.reduceNeg, decide_true, decide_false, Bool.not_true, Bool.not_false, beq_self_eq_true, List.mapM_cons, List.mapM_nil, wrap64, wrap8, Int.cast_ofNat_Int, Int.natCast_eq_zero, decide_eq_true_eq, Bool.or_false, Bool.or_true, Bool.or_self, Bool.false_or, Bool.true_or, Option.bind_eq_bind, Option.bind_some, Option.pure_def]; rfl; decide)
    | (refine wCall_le i4 ?_ ?_ ?_ ?_; simp -implicitDefEqProofs only [go_sem, ↓reduceIte, Nat.reduceEqDiff, Nat.reduceAdd, Nat.reduceMul, Nat.reduceSub, Nat.reduceLeDiff, Nat.reduceLT, Nat.reducePow, reduceCtorEq, List.length_cons, List.length_nil, List.map_cons, List.map_nil,
      List.reverse_cons, List.reverse_nil, List.nil_append, List.cons_append, Bool.false_eq_true, Nat.zero_le, List.replicate_zero, List.replicate_succ, List.flatten_nil, List.flatten_cons, true_and, and_true, and_self, List.append_nil, Nat.zero_add, Nat.add_zero,
      List.contains_nil, Nat.le_refl, List.take_zero, List.take_succ_cons, List.drop_zero, List.drop_succ_cons, List.take_length, List.take_nil, List.drop_nil, Option.map_some, Option.map_none, List.getElem?_cons_zero, List.getElem?_cons_succ, List.getElem?_nil, Option.some.injEq,
      Int.toNat_zero, Int.reduceToNat, Int.reduceLT, Int.reduceLE, Int.reduceEq, Int.reduceAdd, Int.reduceSub, Int.reduceMul, Int.reduceNeg, decide_true, decide_false, Bool.not_true, Bool.not_false, beq_self_eq_true, List.mapM_cons, List.mapM_nil, wrap64, wrap8, Int.cast_ofNat_Int, Int.natCast_eq_zero, decide_eq_true_eq, Bool.or_false, Bool.or_true, Bool.or_self, Bool.false_or, Bool.true_or, Option.bind_eq_bind, Option.bind_some, Option.pure_def]; rfl; decide)
    | (refine wCall_le i5 ?_ ?_ ?_ ?_; simp -implicitDefEqProofs only [go_sem, ↓reduceIte, Nat.reduceEqDiff, Nat.reduceAdd, Nat.reduceMul, Nat.reduceSub, Nat.reduceLeDiff, Nat.reduceLT, Nat.reducePow, reduceCtorEq, List.length_cons, List.length_nil, List.map_cons, List.map_nil,
      List.reverse_cons, List.reverse_nil, List.nil_append, List.cons_append, Bool.false_eq_true, Nat.zero_le, List.replicate_zero, List.replicate_succ, List.flatten_nil, List.flatten_cons, true_and, and_true, and_self, List.append_nil, Nat.zero_add, Nat.add_zero,
      List.contains_nil, Nat.le_refl, List.take_zero, List.take_succ_cons, List.drop_zero, List.drop_succ_cons, List.take_length, List.take_nil, List.drop_nil, Option.map_some, Option.map_none, List.getElem?_cons_zero, List.getElem?_cons_succ, List.getElem?_nil, Option.some.injEq,
      Int.toNat_zero, Int.reduceToNat, Int.reduceLT, Int.reduceLE, Int.reduceEq, Int.reduceAdd, Int.reduceSub, Int.reduceMul, Int.reduceNeg, decide_true, decide_false, Bool.not_true, Bool.not_false, beq_self_eq_true, List.mapM_cons, List.mapM_nil, wrap64, wrap8, Int.cast_ofNat_Int, Int.natCast_eq_zero, decide_eq_true_eq, Bool.or_false, Bool.or_true, Bool.or_self, Bool.false_or, Bool.true_or, Option.bind_eq_bind, Option.bind_some, Option.pure_def]; rfl; decide)
    | (refine wCall_le h9 ?_ ?_ ?_ ?_; simp -implicitDefEqProofs only [go_sem, ↓reduceIte, Nat.reduceEqDiff, Nat.reduceAdd, Nat.reduceMul, Nat.reduceSub, Nat.reduceLeDiff, Nat.reduceLT, Nat.reducePow, reduceCtorEq, List.length_cons, List.length_nil, List.map_cons, List.map_nil,
      List.reverse_cons, List.reverse_nil, List.nil_append, List.cons_append, Bool.false_eq_true, Nat.zero_le, List.replicate_zero, List.replicate_succ, List.flatten_nil, List.flatten_cons, true_and, and_true, and_self, List.append_nil, Nat.zero_add, Nat.add_zero,
      List.contains_nil, Nat.le_refl, List.take_zero, List.take_succ_cons, List.drop_zero, List.drop_succ_cons, List.take_length, List.take_nil, List.drop_nil, Option.map_some, Option.map_none, List.getElem?_cons_zero, List.getElem?_cons_succ, List.getElem?_nil, Option.some.injEq,
      Int.toNat_zero, Int.reduceToNat, Int.reduceLT, Int.reduceLE, Int.reduceEq, Int.reduceAdd, Int.reduceSub, Int.reduceMul, Int.reduceNeg, decide_true, decide_false, Bool.not_true, Bool.not_false, beq_self_eq_true, List.mapM_cons, List.mapM_nil, wrap64, wrap8, Int.cast_ofNat_Int, Int.natCast_eq_zero, decide_eq_true_eq, Bool.or_false, Bool.or_true, Bool.or_self, Bool.false_or, Bool.true_or, Option.bind_eq_bind, Option.bind_some, Option.pure_def]; rfl; decide)
    | (refine wCall_intro lives ?_ ?_ ?_; rfl; decide)
    | refine Also.mk (by decide) ?_
    | apply And.intro
end Go.Proofs.Ytehmaafnbgpkcaa
