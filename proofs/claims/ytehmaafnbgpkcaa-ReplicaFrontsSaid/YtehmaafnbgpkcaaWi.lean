/- This text proves a part of what the claim needs: contracts of functions of the program. No condition. -/
import Derived.Test.YtehmaafnbgpkcaaWh
import Derived.Test.YtehmaafnbgpkcaaVsD
set_option linter.unusedSimpArgs false
set_option linter.unusedVariables false

namespace Go.Proofs.Ytehmaafnbgpkcaa
open Go Go.Vs Go.Proofs

def wrs (l : List Wr) : List (List D) := l.map fun w => [.int .i64 w.e, .sl 1 (strs w.log)]
def lgs (l : List (List ByteArray)) : List (List D) := l.map fun s => [.sl 1 (strs s)]
@[go_sem] theorem wrs_length (l : List Wr) : (wrs l).length = l.length := by simp [wrs]
@[go_sem] theorem lgs_length (l : List (List ByteArray)) : (lgs l).length = l.length := by simp [lgs]
theorem wrs_get (l : List Wr) (i : Nat) : (wrs l)[i]? = (l[i]?).map fun w => [.int .i64 w.e, .sl 1 (strs w.log)] := by simp [wrs]
theorem lgs_get (l : List (List ByteArray)) (i : Nat) : (lgs l)[i]? = (l[i]?).map fun s => [.sl 1 (strs s)] := by simp [lgs]
theorem wrs_snoc (l : List Wr) (e : Int) (g : List ByteArray) : wrs l ++ [[.int .i64 e, .sl 1 (strs g)]] = wrs (l ++ [⟨e, g⟩]) := by simp [wrs]
theorem lgs_snoc (l : List (List ByteArray)) (s : List ByteArray) : lgs l ++ [[.sl 1 (strs s)]] = lgs (l ++ [s]) := by simp [lgs]
theorem wrs_set (l : List Wr) (k : Nat) (e : Int) (g : List ByteArray) : (wrs l).set k [.int .i64 e, .sl 1 (strs g)] = wrs (l.set k ⟨e, g⟩) := by simp [wrs, List.map_set]

theorem wrs_set1 (l : List Wr) (k : Nat) (e : Int) (s : ByteArray) : (wrs l).set k [.int .i64 e, .sl 1 [[.str s]]] = wrs (l.set k ⟨e, [s]⟩) := by simp [wrs, strs, List.map_set]
theorem lgs_snoc1 (l : List (List ByteArray)) (s : ByteArray) : lgs l ++ [[.sl 1 [[.str s]]]] = lgs (l ++ [[s]]) := by simp [lgs, strs]

/-- The memory of a history. -/
def histHp (h : Hist) : Hp := [(4, .box [.d (.int .i64 h.ns.a.p), .d (.int .i64 h.ns.a.e), .d (.sl 1 (strs h.ns.a.log)), .d (.bool h.ns.a.lost), .d (.int .i64 h.ns.b.p), .d (.int .i64 h.ns.b.e), .d (.sl 1 (strs h.ns.b.log)), .d (.bool h.ns.b.lost), .d (.int .i64 h.ns.c.p), .d (.int .i64 h.ns.c.e), .d (.sl 1 (strs h.ns.c.log)), .d (.bool h.ns.c.lost), .ref 12 h.ws.length 0 h.ws.length, .d (.int .i64 h.tried), .ref 13 h.sure.length 0 h.sure.length]), (12, .sl 2 (wrs h.ws) false), (13, .sl 1 (lgs h.sure) false)]

set_option maxHeartbeats 4000000 in
theorem step20a (h : Hist) (n : Nat) (hg : Good h n) (hn : n < 400) (a : Act) (ha : a.what.tmod 8 < 2) (hr : 0 ≤ a.reach ∧ a.reach ≤ 255) :
    Deep Try.prog 20 [.c (.ptr 4 0), .agg [.d (.int .u8 a.what), .d (.int .u8 a.who), .d (.int .u8 a.reach), .d (.str a.line)]] (histHp h) 62
      (fun v hp k => v = .c (.d (.bool true)) ∧ hp = histHp (h.step a) ∧ k = 62) := by
  have hst : h.step a = h.reco (reachN a.reach) := by unfold Hist.step; rw [if_pos ha]
  rw [hst]
  have hc := reco_cases h (reachN a.reach) hg.tried0
  have hsm := recoverN_small (reachN a.reach) h.ns (h.tried + 1) n hg.nlen
  have hsu := reco_sure hg (reachN a.reach)
  have ht := hg.tried
  have ht0 := hg.tried0
  have hw : IntKind.i64.wrap (h.tried + 1) = h.tried + 1 := wrap64 (by omega) (by omega)
  have c1 := recover h.ns (reachN a.reach) (h.tried + 1) ⟨by have := hg.nlen.1; omega, by have := hg.nlen.2.1; omega, by have := hg.nlen.2.2; omega⟩
  unfold Hist.reco
  generalize recoverN (reachN a.reach) h.ns (h.tried + 1) = x at *
  rcases hc with ⟨e1, e2, _⟩ | ⟨e1, _, _, _⟩
  · rw [if_neg (by rw [e1]; simp)]
    refine Deep.of_w TryEnv Try.func20 (by decide) TryL20_ok Try.ntmps20 (rs := [.tmp 4]) rfl (by simp) ?_; rw [TryL20]
    rw [histHp]
    repeat' first
      | simp -implicitDefEqProofs only [go_sem, ↓reduceIte, Nat.reduceEqDiff, Nat.reduceAdd, Nat.reduceMul, Nat.reduceSub, Nat.reduceLeDiff, Nat.reduceLT, Nat.reducePow, reduceCtorEq, List.length_cons, List.length_nil, List.map_cons, List.map_nil,
      List.reverse_cons, List.reverse_nil, List.nil_append, List.cons_append, Bool.false_eq_true, Nat.zero_le, List.replicate_zero, List.replicate_succ, List.flatten_nil, List.flatten_cons, true_and, and_true, and_self, List.append_nil, Nat.zero_add, Nat.add_zero,
      List.contains_nil, Nat.le_refl, List.take_zero, List.take_succ_cons, List.drop_zero, List.drop_succ_cons, List.take_length, List.take_nil, List.drop_nil, Option.map_some, Option.map_none, List.getElem?_cons_zero, List.getElem?_cons_succ, List.getElem?_nil, Option.some.injEq,
      Int.toNat_zero, Int.reduceToNat, Int.reduceLT, Int.reduceLE, Int.reduceEq, Int.reduceAdd, Int.reduceSub, Int.reduceMul, Int.reduceNeg, decide_true, decide_false, Bool.not_true, Bool.not_false, beq_self_eq_true, List.mapM_cons, List.mapM_nil, wrap64, wrap8, Int.cast_ofNat_Int, Int.natCast_eq_zero, decide_eq_true_eq, Bool.or_false, Bool.or_true, Bool.or_self, Bool.false_or, Bool.true_or, Option.bind_eq_bind, Option.bind_some, Option.pure_def, Int.reduceTMod, Int.reduceTDiv, ha, hw, e1, e2]
      | (refine wCall_intro (reach19 a.reach hr.1 hr.2) ?_ ?_ ?_; rfl; decide)
      | (refine wCall_intro c1 ?_ ?_ ?_; rfl; decide)
      | refine Also.mk (by decide) ?_
      | (show (_ : Int) ≠ _; decide)
      | apply And.intro
    refine wEnd_intro (.refl _) (Wk.sub ?_ ?_ (by decide) (by decide) ?_ ?_) ⟨rfl, rfl, rfl⟩
    all_goals simp -implicitDefEqProofs only [go_sem, ↓reduceIte, Nat.reduceEqDiff, Nat.reduceAdd, Nat.reduceMul, Nat.reduceSub, Nat.reduceLeDiff, Nat.reduceLT, Nat.reducePow, reduceCtorEq, List.length_cons, List.length_nil, List.map_cons, List.map_nil,
      List.reverse_cons, List.reverse_nil, List.nil_append, List.cons_append, Bool.false_eq_true, Nat.zero_le, List.replicate_zero, List.replicate_succ, List.flatten_nil, List.flatten_cons, true_and, and_true, and_self, List.append_nil, Nat.zero_add, Nat.add_zero,
      List.contains_nil, Nat.le_refl, List.take_zero, List.take_succ_cons, List.drop_zero, List.drop_succ_cons, List.take_length, List.take_nil, List.drop_nil, Option.map_some, Option.map_none, List.getElem?_cons_zero, List.getElem?_cons_succ, List.getElem?_nil, Option.some.injEq,
      Int.toNat_zero, Int.reduceToNat, Int.reduceLT, Int.reduceLE, Int.reduceEq, Int.reduceAdd, Int.reduceSub, Int.reduceMul, Int.reduceNeg, decide_true, decide_false, Bool.not_true, Bool.not_false, beq_self_eq_true, List.mapM_cons, List.mapM_nil, wrap64, wrap8, Int.cast_ofNat_Int, Int.natCast_eq_zero, decide_eq_true_eq, Bool.or_false, Bool.or_true, Bool.or_self, Bool.false_or, Bool.true_or, Option.bind_eq_bind, Option.bind_some, Option.pure_def, Int.reduceTMod, Int.reduceTDiv, histHp]
  · rw [if_pos e1]
    have hsu := hsu e1
    obtain ⟨hsm1, hsm2⟩ := hsm
    refine Deep.of_w TryEnv Try.func20 (by decide) TryL20_ok Try.ntmps20 (rs := [.tmp 4]) rfl (by simp) ?_; rw [TryL20]
    rw [histHp]
    repeat' first
      | simp -implicitDefEqProofs only [go_sem, ↓reduceIte, Nat.reduceEqDiff, Nat.reduceAdd, Nat.reduceMul, Nat.reduceSub, Nat.reduceLeDiff, Nat.reduceLT, Nat.reducePow, reduceCtorEq, List.length_cons, List.length_nil, List.map_cons, List.map_nil,
      List.reverse_cons, List.reverse_nil, List.nil_append, List.cons_append, Bool.false_eq_true, Nat.zero_le, List.replicate_zero, List.replicate_succ, List.flatten_nil, List.flatten_cons, true_and, and_true, and_self, List.append_nil, Nat.zero_add, Nat.add_zero,
      List.contains_nil, Nat.le_refl, List.take_zero, List.take_succ_cons, List.drop_zero, List.drop_succ_cons, List.take_length, List.take_nil, List.drop_nil, Option.map_some, Option.map_none, List.getElem?_cons_zero, List.getElem?_cons_succ, List.getElem?_nil, Option.some.injEq,
      Int.toNat_zero, Int.reduceToNat, Int.reduceLT, Int.reduceLE, Int.reduceEq, Int.reduceAdd, Int.reduceSub, Int.reduceMul, Int.reduceNeg, decide_true, decide_false, Bool.not_true, Bool.not_false, beq_self_eq_true, List.mapM_cons, List.mapM_nil, wrap64, wrap8, Int.cast_ofNat_Int, Int.natCast_eq_zero, decide_eq_true_eq, Bool.or_false, Bool.or_true, Bool.or_self, Bool.false_or, Bool.true_or, Option.bind_eq_bind, Option.bind_some, Option.pure_def, Int.reduceTMod, Int.reduceTDiv, ha, hw, e1]
      | (refine wCall_intro (reach19 a.reach hr.1 hr.2) ?_ ?_ ?_; rfl; decide)
      | (refine wCall_intro c1 ?_ ?_ ?_; rfl; decide)
      | refine Also.mk (by decide) ?_
      | (show (_ : Int) ≠ _; decide)
      | apply And.intro
    clear c1
    have hsl := hg.slen
    have hwn := hg.wn
    have hsn := hg.sn
    have b1 : (h.ws.length + 1) * 32 ≤ mostBytes := by simp only [mostBytes]; omega
    have b2 : (h.sure.length + 1) * 24 ≤ mostBytes := by simp only [mostBytes]; omega
    refine wT_loop (fun k : { k : Nat // k ≤ h.sure.length } => ⟨[(0, .c (.ptr 4 0)), (6, .c (.d (.sl 1 (strs x.2.1)))), (8, .c (.d (.int .i64 (k.1 : Nat))))],
      [(4, .box [.d (.int .i64 x.1.a.p), .d (.int .i64 x.1.a.e), .d (.sl 1 (strs x.1.a.log)), .d (.bool x.1.a.lost), .d (.int .i64 x.1.b.p), .d (.int .i64 x.1.b.e), .d (.sl 1 (strs x.1.b.log)), .d (.bool x.1.b.lost), .d (.int .i64 x.1.c.p), .d (.int .i64 x.1.c.e), .d (.sl 1 (strs x.1.c.log)), .d (.bool x.1.c.lost), .ref 12 h.ws.length 0 h.ws.length, .d (.int .i64 (h.tried + 1)), .ref 13 h.sure.length 0 h.sure.length]), (12, .sl 2 (wrs h.ws) false), (13, .sl 1 (lgs h.sure) false)], 64⟩)
      (fun k => h.sure.length - k.1) ⟨0, Nat.zero_le _⟩ ?_ ?_
    · refine Wk.sub ?_ ?_ (by decide) (by decide) ?_ ?_
      all_goals simp -implicitDefEqProofs only [go_sem, ↓reduceIte, Nat.reduceEqDiff, Nat.reduceAdd, Nat.reduceMul, Nat.reduceSub, Nat.reduceLeDiff, Nat.reduceLT, Nat.reducePow, reduceCtorEq, List.length_cons, List.length_nil, List.map_cons, List.map_nil,
      List.reverse_cons, List.reverse_nil, List.nil_append, List.cons_append, Bool.false_eq_true, Nat.zero_le, List.replicate_zero, List.replicate_succ, List.flatten_nil, List.flatten_cons, true_and, and_true, and_self, List.append_nil, Nat.zero_add, Nat.add_zero,
      List.contains_nil, Nat.le_refl, List.take_zero, List.take_succ_cons, List.drop_zero, List.drop_succ_cons, List.take_length, List.take_nil, List.drop_nil, Option.map_some, Option.map_none, List.getElem?_cons_zero, List.getElem?_cons_succ, List.getElem?_nil, Option.some.injEq,
      Int.toNat_zero, Int.reduceToNat, Int.reduceLT, Int.reduceLE, Int.reduceEq, Int.reduceAdd, Int.reduceSub, Int.reduceMul, Int.reduceNeg, decide_true, decide_false, Bool.not_true, Bool.not_false, beq_self_eq_true, List.mapM_cons, List.mapM_nil, wrap64, wrap8, Int.cast_ofNat_Int, Int.natCast_eq_zero, decide_eq_true_eq, Bool.or_false, Bool.or_true, Bool.or_self, Bool.false_or, Bool.true_or, Option.bind_eq_bind, Option.bind_some, Option.pure_def, Int.reduceTMod, Int.reduceTDiv, Int.natCast_zero]
    · rintro ⟨k, hk⟩
      refine wT_of TryEnv ?_
      simp -implicitDefEqProofs only [go_sem, ↓reduceIte, Nat.reduceEqDiff, Nat.reduceAdd, Nat.reduceMul, Nat.reduceSub, Nat.reduceLeDiff, Nat.reduceLT, Nat.reducePow, reduceCtorEq, List.length_cons, List.length_nil, List.map_cons, List.map_nil,
      List.reverse_cons, List.reverse_nil, List.nil_append, List.cons_append, Bool.false_eq_true, Nat.zero_le, List.replicate_zero, List.replicate_succ, List.flatten_nil, List.flatten_cons, true_and, and_true, and_self, List.append_nil, Nat.zero_add, Nat.add_zero,
      List.contains_nil, Nat.le_refl, List.take_zero, List.take_succ_cons, List.drop_zero, List.drop_succ_cons, List.take_length, List.take_nil, List.drop_nil, Option.map_some, Option.map_none, List.getElem?_cons_zero, List.getElem?_cons_succ, List.getElem?_nil, Option.some.injEq,
      Int.toNat_zero, Int.reduceToNat, Int.reduceLT, Int.reduceLE, Int.reduceEq, Int.reduceAdd, Int.reduceSub, Int.reduceMul, Int.reduceNeg, decide_true, decide_false, Bool.not_true, Bool.not_false, beq_self_eq_true, List.mapM_cons, List.mapM_nil, wrap64, wrap8, Int.cast_ofNat_Int, Int.natCast_eq_zero, decide_eq_true_eq, Bool.or_false, Bool.or_true, Bool.or_self, Bool.false_or, Bool.true_or, Option.bind_eq_bind, Option.bind_some, Option.pure_def, Int.reduceTMod, Int.reduceTDiv]
      refine wfork_intro (fun h1 => ?_) (fun h1 => ?_)
      · have h1 : k < h.sure.length := by simpa using h1
        have hf := isFront_of (hsu _ (List.getElem_mem h1))
        have c2 := front h.sure[k] x.2.1 (by have := hsl _ (List.getElem_mem h1); omega) (by omega)
        rw [hf] at c2
        have hk1 : IntKind.i64.wrap ((k : Int) + 1) = ((k + 1 : Nat) : Int) := by rw [wrap64 (by omega) (by omega)]; rfl
        repeat' first
          | simp -implicitDefEqProofs only [go_sem, ↓reduceIte, Nat.reduceEqDiff, Nat.reduceAdd, Nat.reduceMul, Nat.reduceSub, Nat.reduceLeDiff, Nat.reduceLT, Nat.reducePow, reduceCtorEq, List.length_cons, List.length_nil, List.map_cons, List.map_nil,
      List.reverse_cons, List.reverse_nil, List.nil_append, List.cons_append, Bool.false_eq_true, Nat.zero_le, List.replicate_zero, List.replicate_succ, List.flatten_nil, List.flatten_cons, true_and, and_true, and_self, List.append_nil, Nat.zero_add, Nat.add_zero,
      List.contains_nil, Nat.le_refl, List.take_zero, List.take_succ_cons, List.drop_zero, List.drop_succ_cons, List.take_length, List.take_nil, List.drop_nil, Option.map_some, Option.map_none, List.getElem?_cons_zero, List.getElem?_cons_succ, List.getElem?_nil, Option.some.injEq,
      Int.toNat_zero, Int.reduceToNat, Int.reduceLT, Int.reduceLE, Int.reduceEq, Int.reduceAdd, Int.reduceSub, Int.reduceMul, Int.reduceNeg, decide_true, decide_false, Bool.not_true, Bool.not_false, beq_self_eq_true, List.mapM_cons, List.mapM_nil, wrap64, wrap8, Int.cast_ofNat_Int, Int.natCast_eq_zero, decide_eq_true_eq, Bool.or_false, Bool.or_true, Bool.or_self, Bool.false_or, Bool.true_or, Option.bind_eq_bind, Option.bind_some, Option.pure_def, Int.reduceTMod, Int.reduceTDiv, lgs_get, List.getElem?_eq_getElem h1, Int.toNat_natCast, Int.natCast_nonneg, Int.ofNat_lt, h1, hk1]
          | (refine wCall_intro c2 ?_ ?_ ?_; rfl; decide)
          | apply And.intro
        refine ⟨⟨k + 1, h1⟩, Wk.sub ?_ ?_ (by decide) (by decide) ?_ ?_, by simp; omega⟩
        all_goals simp -implicitDefEqProofs only [go_sem, ↓reduceIte, Nat.reduceEqDiff, Nat.reduceAdd, Nat.reduceMul, Nat.reduceSub, Nat.reduceLeDiff, Nat.reduceLT, Nat.reducePow, reduceCtorEq, List.length_cons, List.length_nil, List.map_cons, List.map_nil,
      List.reverse_cons, List.reverse_nil, List.nil_append, List.cons_append, Bool.false_eq_true, Nat.zero_le, List.replicate_zero, List.replicate_succ, List.flatten_nil, List.flatten_cons, true_and, and_true, and_self, List.append_nil, Nat.zero_add, Nat.add_zero,
      List.contains_nil, Nat.le_refl, List.take_zero, List.take_succ_cons, List.drop_zero, List.drop_succ_cons, List.take_length, List.take_nil, List.drop_nil, Option.map_some, Option.map_none, List.getElem?_cons_zero, List.getElem?_cons_succ, List.getElem?_nil, Option.some.injEq,
      Int.toNat_zero, Int.reduceToNat, Int.reduceLT, Int.reduceLE, Int.reduceEq, Int.reduceAdd, Int.reduceSub, Int.reduceMul, Int.reduceNeg, decide_true, decide_false, Bool.not_true, Bool.not_false, beq_self_eq_true, List.mapM_cons, List.mapM_nil, wrap64, wrap8, Int.cast_ofNat_Int, Int.natCast_eq_zero, decide_eq_true_eq, Bool.or_false, Bool.or_true, Bool.or_self, Bool.false_or, Bool.true_or, Option.bind_eq_bind, Option.bind_some, Option.pure_def, Int.reduceTMod, Int.reduceTDiv]
      · repeat' first
          | simp -implicitDefEqProofs only [go_sem, ↓reduceIte, Nat.reduceEqDiff, Nat.reduceAdd, Nat.reduceMul, Nat.reduceSub, Nat.reduceLeDiff, Nat.reduceLT, Nat.reducePow, reduceCtorEq, List.length_cons, List.length_nil, List.map_cons, List.map_nil,
      List.reverse_cons, List.reverse_nil, List.nil_append, List.cons_append, Bool.false_eq_true, Nat.zero_le, List.replicate_zero, List.replicate_succ, List.flatten_nil, List.flatten_cons, true_and, and_true, and_self, List.append_nil, Nat.zero_add, Nat.add_zero,
      List.contains_nil, Nat.le_refl, List.take_zero, List.take_succ_cons, List.drop_zero, List.drop_succ_cons, List.take_length, List.take_nil, List.drop_nil, Option.map_some, Option.map_none, List.getElem?_cons_zero, List.getElem?_cons_succ, List.getElem?_nil, Option.some.injEq,
      Int.toNat_zero, Int.reduceToNat, Int.reduceLT, Int.reduceLE, Int.reduceEq, Int.reduceAdd, Int.reduceSub, Int.reduceMul, Int.reduceNeg, decide_true, decide_false, Bool.not_true, Bool.not_false, beq_self_eq_true, List.mapM_cons, List.mapM_nil, wrap64, wrap8, Int.cast_ofNat_Int, Int.natCast_eq_zero, decide_eq_true_eq, Bool.or_false, Bool.or_true, Bool.or_self, Bool.false_or, Bool.true_or, Option.bind_eq_bind, Option.bind_some, Option.pure_def, Int.reduceTMod, Int.reduceTDiv, b1, b2, wrs_snoc, lgs_snoc]
          | refine Also.mk (by decide) ?_
          | apply And.intro
        refine wEnd_intro (.refl _) (Wk.sub ?_ ?_ (by decide) (by decide) ?_ ?_) ⟨rfl, rfl, rfl⟩
        all_goals simp -implicitDefEqProofs only [go_sem, ↓reduceIte, Nat.reduceEqDiff, Nat.reduceAdd, Nat.reduceMul, Nat.reduceSub, Nat.reduceLeDiff, Nat.reduceLT, Nat.reducePow, reduceCtorEq, List.length_cons, List.length_nil, List.map_cons, List.map_nil,
      List.reverse_cons, List.reverse_nil, List.nil_append, List.cons_append, Bool.false_eq_true, Nat.zero_le, List.replicate_zero, List.replicate_succ, List.flatten_nil, List.flatten_cons, true_and, and_true, and_self, List.append_nil, Nat.zero_add, Nat.add_zero,
      List.contains_nil, Nat.le_refl, List.take_zero, List.take_succ_cons, List.drop_zero, List.drop_succ_cons, List.take_length, List.take_nil, List.drop_nil, Option.map_some, Option.map_none, List.getElem?_cons_zero, List.getElem?_cons_succ, List.getElem?_nil, Option.some.injEq,
      Int.toNat_zero, Int.reduceToNat, Int.reduceLT, Int.reduceLE, Int.reduceEq, Int.reduceAdd, Int.reduceSub, Int.reduceMul, Int.reduceNeg, decide_true, decide_false, Bool.not_true, Bool.not_false, beq_self_eq_true, List.mapM_cons, List.mapM_nil, wrap64, wrap8, Int.cast_ofNat_Int, Int.natCast_eq_zero, decide_eq_true_eq, Bool.or_false, Bool.or_true, Bool.or_self, Bool.false_or, Bool.true_or, Option.bind_eq_bind, Option.bind_some, Option.pure_def, Int.reduceTMod, Int.reduceTDiv, histHp, List.length_append]
set_option maxHeartbeats 4000000 in
theorem step20b (h : Hist) (a : Act) (h2 : ¬ a.what.tmod 8 < 2) (h7 : a.what.tmod 8 = 7) (hw : 0 ≤ a.who ∧ a.who ≤ 255) :
    Deep Try.prog 20 [.c (.ptr 4 0), .agg [.d (.int .u8 a.what), .d (.int .u8 a.who), .d (.int .u8 a.reach), .d (.str a.line)]] (histHp h) 62
      (fun v hp k => v = .c (.d (.bool true)) ∧ hp = histHp (h.step a) ∧ k = 62) := by
  have hst : h.step a = h.lose (a.who.tmod 3) := by unfold Hist.step; rw [if_neg h2, if_pos h7]
  rw [hst]
  have hk : a.who.tmod 3 = 0 ∨ a.who.tmod 3 = 1 ∨ a.who.tmod 3 = 2 := by
    have h1 : a.who.tmod 3 = a.who % 3 := Int.tmod_eq_emod_of_nonneg hw.1
    omega
  unfold Hist.lose
  rcases hk with hk | hk | hk
  all_goals rw [hk]
  all_goals (refine Deep.of_w TryEnv Try.func20 (by decide) TryL20_ok Try.ntmps20 (rs := [.tmp 4]) rfl (by simp) ?_; rw [TryL20])
  all_goals rw [histHp]
  all_goals repeat' first
    | simp -implicitDefEqProofs only [go_sem, ↓reduceIte, Nat.reduceEqDiff, Nat.reduceAdd, Nat.reduceMul, Nat.reduceSub, Nat.reduceLeDiff, Nat.reduceLT, Nat.reducePow, reduceCtorEq, List.length_cons, List.length_nil, List.map_cons, List.map_nil,
      List.reverse_cons, List.reverse_nil, List.nil_append, List.cons_append, Bool.false_eq_true, Nat.zero_le, List.replicate_zero, List.replicate_succ, List.flatten_nil, List.flatten_cons, true_and, and_true, and_self, List.append_nil, Nat.zero_add, Nat.add_zero,
      List.contains_nil, Nat.le_refl, List.take_zero, List.take_succ_cons, List.drop_zero, List.drop_succ_cons, List.take_length, List.take_nil, List.drop_nil, Option.map_some, Option.map_none, List.getElem?_cons_zero, List.getElem?_cons_succ, List.getElem?_nil, Option.some.injEq,
      Int.toNat_zero, Int.reduceToNat, Int.reduceLT, Int.reduceLE, Int.reduceEq, Int.reduceAdd, Int.reduceSub, Int.reduceMul, Int.reduceNeg, decide_true, decide_false, Bool.not_true, Bool.not_false, beq_self_eq_true, List.mapM_cons, List.mapM_nil, wrap64, wrap8, Int.cast_ofNat_Int, Int.natCast_eq_zero, decide_eq_true_eq, Bool.or_false, Bool.or_true, Bool.or_self, Bool.false_or, Bool.true_or, Option.bind_eq_bind, Option.bind_some, Option.pure_def, Int.reduceTMod, Int.reduceTDiv, h2, h7, hk]
    | (refine wCall_intro (wipe29 _ _ _ _) ?_ ?_ ?_; rfl; decide)
    | refine Also.mk (by decide) ?_
    | refine wfork_intro (fun h => ?_) (fun h => ?_)
    | (show (_ : Int) ≠ _; decide)
    | (show (_ : Int) ≤ _; decide)
    | (show (_ : Int) < _; decide)
    | apply And.intro
  all_goals simp only [Bool.not_eq_true', Bool.not_eq_false', Bool.not_eq_true] at *
  all_goals refine wEnd_intro (.refl _) (Wk.sub ?_ ?_ (by decide) (by decide) ?_ ?_) ⟨rfl, rfl, rfl⟩
  all_goals simp -implicitDefEqProofs only [go_sem, ↓reduceIte, Nat.reduceEqDiff, Nat.reduceAdd, Nat.reduceMul, Nat.reduceSub, Nat.reduceLeDiff, Nat.reduceLT, Nat.reducePow, reduceCtorEq, List.length_cons, List.length_nil, List.map_cons, List.map_nil,
      List.reverse_cons, List.reverse_nil, List.nil_append, List.cons_append, Bool.false_eq_true, Nat.zero_le, List.replicate_zero, List.replicate_succ, List.flatten_nil, List.flatten_cons, true_and, and_true, and_self, List.append_nil, Nat.zero_add, Nat.add_zero,
      List.contains_nil, Nat.le_refl, List.take_zero, List.take_succ_cons, List.drop_zero, List.drop_succ_cons, List.take_length, List.take_nil, List.drop_nil, Option.map_some, Option.map_none, List.getElem?_cons_zero, List.getElem?_cons_succ, List.getElem?_nil, Option.some.injEq,
      Int.toNat_zero, Int.reduceToNat, Int.reduceLT, Int.reduceLE, Int.reduceEq, Int.reduceAdd, Int.reduceSub, Int.reduceMul, Int.reduceNeg, decide_true, decide_false, Bool.not_true, Bool.not_false, beq_self_eq_true, List.mapM_cons, List.mapM_nil, wrap64, wrap8, Int.cast_ofNat_Int, Int.natCast_eq_zero, decide_eq_true_eq, Bool.or_false, Bool.or_true, Bool.or_self, Bool.false_or, Bool.true_or, Option.bind_eq_bind, Option.bind_some, Option.pure_def, Int.reduceTMod, Int.reduceTDiv, histHp, N3.get, N3.set, wiped, strs_nil, and_false, false_and, *]

theorem Act.at_eq (a : Act) (h : Hist) (ha : 0 ≤ a.who) (hl : 0 < h.ws.length) : (h.ws.length : Int) - 1 - a.who.tmod h.ws.length = (a.at h : Int) ∧ a.at h < h.ws.length := by
  have h1 : a.who.tmod h.ws.length = ((a.who.toNat % h.ws.length : Nat) : Int) := by
    rw [Int.tmod_eq_emod_of_nonneg ha, Int.natCast_emod, Int.toNat_of_nonneg ha]
  have h2 := Nat.mod_lt a.who.toNat hl
  rw [h1, Act.at]
  omega

set_option maxRecDepth 5000 in
set_option maxHeartbeats 8000000 in
theorem step20c (h : Hist) (n : Nat) (hg : Good h n) (hn : n < 400) (a : Act) (h2 : ¬ a.what.tmod 8 < 2) (h7 : ¬ a.what.tmod 8 = 7) (hw : 0 ≤ a.who ∧ a.who ≤ 255) (hr : 0 ≤ a.reach ∧ a.reach ≤ 255) :
    Deep Try.prog 20 [.c (.ptr 4 0), .agg [.d (.int .u8 a.what), .d (.int .u8 a.who), .d (.int .u8 a.reach), .d (.str a.line)]] (histHp h) 62
      (fun v hp k => v = .c (.d (.bool true)) ∧ hp = histHp (h.step a) ∧ k = 62) := by
  have hwn := hg.wn
  have hsn := hg.sn
  have b2 : (h.sure.length + 1) * 24 ≤ mostBytes := by simp only [mostBytes]; omega
  rcases Nat.eq_zero_or_pos h.ws.length with h0 | h0
  · have hst : h.step a = h := by
      unfold Hist.step
      rw [if_neg h2, if_neg h7]
      have : h.ws = [] := List.length_eq_zero_iff.1 h0
      simp [this]
    rw [hst]
    have hnl : ¬ (0 : Int) < h.ws.length := by omega
    refine Deep.of_w TryEnv Try.func20 (by decide) TryL20_ok Try.ntmps20 (rs := [.tmp 4]) rfl (by simp) ?_; rw [TryL20]
    rw [histHp]
    repeat' first
      | simp -implicitDefEqProofs only [go_sem, ↓reduceIte, Nat.reduceEqDiff, Nat.reduceAdd, Nat.reduceMul, Nat.reduceSub, Nat.reduceLeDiff, Nat.reduceLT, Nat.reducePow, reduceCtorEq, List.length_cons, List.length_nil, List.map_cons, List.map_nil,
      List.reverse_cons, List.reverse_nil, List.nil_append, List.cons_append, Bool.false_eq_true, Nat.zero_le, List.replicate_zero, List.replicate_succ, List.flatten_nil, List.flatten_cons, true_and, and_true, and_self, List.append_nil, Nat.zero_add, Nat.add_zero,
      List.contains_nil, Nat.le_refl, List.take_zero, List.take_succ_cons, List.drop_zero, List.drop_succ_cons, List.take_length, List.take_nil, List.drop_nil, Option.map_some, Option.map_none, List.getElem?_cons_zero, List.getElem?_cons_succ, List.getElem?_nil, Option.some.injEq,
      Int.toNat_zero, Int.reduceToNat, Int.reduceLT, Int.reduceLE, Int.reduceEq, Int.reduceAdd, Int.reduceSub, Int.reduceMul, Int.reduceNeg, decide_true, decide_false, Bool.not_true, Bool.not_false, beq_self_eq_true, List.mapM_cons, List.mapM_nil, wrap64, wrap8, Int.cast_ofNat_Int, Int.natCast_eq_zero, decide_eq_true_eq, Bool.or_false, Bool.or_true, Bool.or_self, Bool.false_or, Bool.true_or, Option.bind_eq_bind, Option.bind_some, Option.pure_def, Int.reduceTMod, Int.reduceTDiv, h2, h7, hnl]
      | refine Also.mk (by decide) ?_
      | (show (_ : Int) ≠ _; decide)
      | apply And.intro
    refine wEnd_intro (.refl _) (Wk.sub ?_ ?_ (by decide) (by decide) ?_ ?_) ⟨rfl, rfl, rfl⟩
    all_goals simp -implicitDefEqProofs only [go_sem, ↓reduceIte, Nat.reduceEqDiff, Nat.reduceAdd, Nat.reduceMul, Nat.reduceSub, Nat.reduceLeDiff, Nat.reduceLT, Nat.reducePow, reduceCtorEq, List.length_cons, List.length_nil, List.map_cons, List.map_nil,
      List.reverse_cons, List.reverse_nil, List.nil_append, List.cons_append, Bool.false_eq_true, Nat.zero_le, List.replicate_zero, List.replicate_succ, List.flatten_nil, List.flatten_cons, true_and, and_true, and_self, List.append_nil, Nat.zero_add, Nat.add_zero,
      List.contains_nil, Nat.le_refl, List.take_zero, List.take_succ_cons, List.drop_zero, List.drop_succ_cons, List.take_length, List.take_nil, List.drop_nil, Option.map_some, Option.map_none, List.getElem?_cons_zero, List.getElem?_cons_succ, List.getElem?_nil, Option.some.injEq,
      Int.toNat_zero, Int.reduceToNat, Int.reduceLT, Int.reduceLE, Int.reduceEq, Int.reduceAdd, Int.reduceSub, Int.reduceMul, Int.reduceNeg, decide_true, decide_false, Bool.not_true, Bool.not_false, beq_self_eq_true, List.mapM_cons, List.mapM_nil, wrap64, wrap8, Int.cast_ofNat_Int, Int.natCast_eq_zero, decide_eq_true_eq, Bool.or_false, Bool.or_true, Bool.or_self, Bool.false_or, Bool.true_or, Option.bind_eq_bind, Option.bind_some, Option.pure_def, Int.reduceTMod, Int.reduceTDiv, histHp]
  · obtain ⟨hat, hlt⟩ := a.at_eq h hw.1 h0
    have hget : h.ws[a.at h]? = some h.ws[a.at h] := List.getElem?_eq_getElem hlt
    have hst : h.step a = h.wr (reachN a.reach) (a.at h) h.ws[a.at h] a.line := by
      unfold Hist.step
      rw [if_neg h2, if_neg h7, hget]
    rw [hst]
    have hok := hg.wr_ok hn (reachN a.reach) hget a.line
    have hwl := hg.wlen _ (List.getElem_mem hlt)
    have c1 := write h.ns (reachN a.reach) h.ws[a.at h].e (h.ws[a.at h].log ++ [a.line]) ⟨by have := hg.nlen.1; omega, by have := hg.nlen.2.1; omega, by have := hg.nlen.2.2; omega⟩ (by simp; omega)
    unfold Hist.wr
    have hpos : (0 : Int) < h.ws.length := by omega
    have w1 : IntKind.i64.wrap ((h.ws.length : Int) - 1) = (h.ws.length : Int) - 1 := wrap64 (by omega) (by omega)
    have w2 : IntKind.i64.wrap a.who = a.who := wrap64 (by omega) (by omega)
    have w3 : IntKind.i64.wrap ((h.ws.length : Int) - 1 - a.who.tmod h.ws.length) = (a.at h : Int) := by rw [hat]; exact wrap64 (by omega) (by omega)
    have hne : ¬ ((h.ws.length : Int) = 0) := by omega
    have hlt' : (a.at h : Int) < h.ws.length := by omega
    generalize h.ws[a.at h] = w at *
    generalize writeN (reachN a.reach) h.ns w.e (w.log ++ [a.line]) = x at *
    generalize a.at h = K at *
    refine Deep.of_w TryEnv Try.func20 (by decide) TryL20_ok Try.ntmps20 (rs := [.tmp 4]) rfl (by simp) ?_; rw [TryL20]
    rw [histHp]
    repeat' first
      | simp -implicitDefEqProofs only [go_sem, ↓reduceIte, Nat.reduceEqDiff, Nat.reduceAdd, Nat.reduceMul, Nat.reduceSub, Nat.reduceLeDiff, Nat.reduceLT, Nat.reducePow, reduceCtorEq, List.length_cons, List.length_nil, List.map_cons, List.map_nil,
      List.reverse_cons, List.reverse_nil, List.nil_append, List.cons_append, Bool.false_eq_true, Nat.zero_le, List.replicate_zero, List.replicate_succ, List.flatten_nil, List.flatten_cons, true_and, and_true, and_self, List.append_nil, Nat.zero_add, Nat.add_zero,
      List.contains_nil, Nat.le_refl, List.take_zero, List.take_succ_cons, List.drop_zero, List.drop_succ_cons, List.take_length, List.take_nil, List.drop_nil, Option.map_some, Option.map_none, List.getElem?_cons_zero, List.getElem?_cons_succ, List.getElem?_nil, Option.some.injEq,
      Int.toNat_zero, Int.reduceToNat, Int.reduceLT, Int.reduceLE, Int.reduceEq, Int.reduceAdd, Int.reduceSub, Int.reduceMul, Int.reduceNeg, decide_true, decide_false, Bool.not_true, Bool.not_false, beq_self_eq_true, List.mapM_cons, List.mapM_nil, wrap64, wrap8, Int.cast_ofNat_Int, Int.natCast_eq_zero, decide_eq_true_eq, Bool.or_false, Bool.or_true, Bool.or_self, Bool.false_or, Bool.true_or, Option.bind_eq_bind, Option.bind_some, Option.pure_def, Int.reduceTMod, Int.reduceTDiv, h2, h7, hpos, w1, w2, w3, hne, hlt', hlt, wrs_get, hget, Int.toNat_natCast, Int.natCast_nonneg, ne_eq, not_false_eq_true]
      | refine Also.mk (by decide) ?_
      | (show (_ : Int) ≠ _; decide)
      | apply And.intro
    have m1 : w.log.length * 16 ≤ mostBytes := by simp only [mostBytes]; omega
    have m2 : (w.log.length + 1) * 16 ≤ mostBytes := by simp only [mostBytes]; omega
    obtain ⟨we, lg⟩ := w
    dsimp only at *
    have hll : (lg ++ [a.line]).length = lg.length + 1 := by simp
    have htk : (lg ++ [a.line]).take (lg.length + 1) = lg ++ [a.line] := List.take_of_length_le (by rw [hll]; exact Nat.le_refl _)
    by_cases hl : lg = []
    · subst hl
      clear htk hll
      simp only [strs_nil, List.nil_append, strs_cons, if_true] at c1 ⊢
      repeat' first
        | simp -implicitDefEqProofs only [go_sem, ↓reduceIte, Nat.reduceEqDiff, Nat.reduceAdd, Nat.reduceMul, Nat.reduceSub, Nat.reduceLeDiff, Nat.reduceLT, Nat.reducePow, reduceCtorEq, List.length_cons, List.length_nil, List.map_cons, List.map_nil,
      List.reverse_cons, List.reverse_nil, List.nil_append, List.cons_append, Bool.false_eq_true, Nat.zero_le, List.replicate_zero, List.replicate_succ, List.flatten_nil, List.flatten_cons, true_and, and_true, and_self, List.append_nil, Nat.zero_add, Nat.add_zero,
      List.contains_nil, Nat.le_refl, List.take_zero, List.take_succ_cons, List.drop_zero, List.drop_succ_cons, List.take_length, List.take_nil, List.drop_nil, Option.map_some, Option.map_none, List.getElem?_cons_zero, List.getElem?_cons_succ, List.getElem?_nil, Option.some.injEq,
      Int.toNat_zero, Int.reduceToNat, Int.reduceLT, Int.reduceLE, Int.reduceEq, Int.reduceAdd, Int.reduceSub, Int.reduceMul, Int.reduceNeg, decide_true, decide_false, Bool.not_true, Bool.not_false, beq_self_eq_true, List.mapM_cons, List.mapM_nil, wrap64, wrap8, Int.cast_ofNat_Int, Int.natCast_eq_zero, decide_eq_true_eq, Bool.or_false, Bool.or_true, Bool.or_self, Bool.false_or, Bool.true_or, Option.bind_eq_bind, Option.bind_some, Option.pure_def, Int.reduceTMod, Int.reduceTDiv, wrs_set, wrs_get, hget, hlt', hlt, hok, b2, lgs_snoc, m1, m2, Int.toNat_natCast, Int.natCast_nonneg]
        | (refine wCall_intro (reach19 a.reach hr.1 hr.2) ?_ ?_ ?_; rfl; decide)
        | (refine wCall_intro c1 ?_ ?_ ?_; rfl; decide)
        | refine wfork_intro (fun h => ?_) (fun h => ?_)
        | refine Also.mk (by decide) ?_
        | (show (_ : Int) ≠ _; decide)
        | apply And.intro
      all_goals first
        | (show _ ≤ mostBytes; decide)
        | skip
      all_goals refine wEnd_intro (.refl _) (Wk.sub ?_ ?_ (by decide) (by decide) ?_ ?_) ⟨rfl, rfl, rfl⟩
      all_goals simp -implicitDefEqProofs only [go_sem, ↓reduceIte, Nat.reduceEqDiff, Nat.reduceAdd, Nat.reduceMul, Nat.reduceSub, Nat.reduceLeDiff, Nat.reduceLT, Nat.reducePow, reduceCtorEq, List.length_cons, List.length_nil, List.map_cons, List.map_nil,
      List.reverse_cons, List.reverse_nil, List.nil_append, List.cons_append, Bool.false_eq_true, Nat.zero_le, List.replicate_zero, List.replicate_succ, List.flatten_nil, List.flatten_cons, true_and, and_true, and_self, List.append_nil, Nat.zero_add, Nat.add_zero,
      List.contains_nil, Nat.le_refl, List.take_zero, List.take_succ_cons, List.drop_zero, List.drop_succ_cons, List.take_length, List.take_nil, List.drop_nil, Option.map_some, Option.map_none, List.getElem?_cons_zero, List.getElem?_cons_succ, List.getElem?_nil, Option.some.injEq,
      Int.toNat_zero, Int.reduceToNat, Int.reduceLT, Int.reduceLE, Int.reduceEq, Int.reduceAdd, Int.reduceSub, Int.reduceMul, Int.reduceNeg, decide_true, decide_false, Bool.not_true, Bool.not_false, beq_self_eq_true, List.mapM_cons, List.mapM_nil, wrap64, wrap8, Int.cast_ofNat_Int, Int.natCast_eq_zero, decide_eq_true_eq, Bool.or_false, Bool.or_true, Bool.or_self, Bool.false_or, Bool.true_or, Option.bind_eq_bind, Option.bind_some, Option.pure_def, Int.reduceTMod, Int.reduceTDiv, histHp, List.length_append, List.length_set, List.nil_append, wrs_set1, lgs_snoc1, *]
    · simp only [strs_eq_nil, hl, if_false]
      repeat' first
        | simp -implicitDefEqProofs only [go_sem, ↓reduceIte, Nat.reduceEqDiff, Nat.reduceAdd, Nat.reduceMul, Nat.reduceSub, Nat.reduceLeDiff, Nat.reduceLT, Nat.reducePow, reduceCtorEq, List.length_cons, List.length_nil, List.map_cons, List.map_nil,
      List.reverse_cons, List.reverse_nil, List.nil_append, List.cons_append, Bool.false_eq_true, Nat.zero_le, List.replicate_zero, List.replicate_succ, List.flatten_nil, List.flatten_cons, true_and, and_true, and_self, List.append_nil, Nat.zero_add, Nat.add_zero,
      List.contains_nil, Nat.le_refl, List.take_zero, List.take_succ_cons, List.drop_zero, List.drop_succ_cons, List.take_length, List.take_nil, List.drop_nil, Option.map_some, Option.map_none, List.getElem?_cons_zero, List.getElem?_cons_succ, List.getElem?_nil, Option.some.injEq,
      Int.toNat_zero, Int.reduceToNat, Int.reduceLT, Int.reduceLE, Int.reduceEq, Int.reduceAdd, Int.reduceSub, Int.reduceMul, Int.reduceNeg, decide_true, decide_false, Bool.not_true, Bool.not_false, beq_self_eq_true, List.mapM_cons, List.mapM_nil, wrap64, wrap8, Int.cast_ofNat_Int, Int.natCast_eq_zero, decide_eq_true_eq, Bool.or_false, Bool.or_true, Bool.or_self, Bool.false_or, Bool.true_or, Option.bind_eq_bind, Option.bind_some, Option.pure_def, Int.reduceTMod, Int.reduceTDiv, wrs_set, wrs_get, hget, hlt', hlt, hok, b2, lgs_snoc, m1, m2, hll, htk, Int.toNat_natCast, Int.natCast_nonneg]
        | (refine wCall_intro (reach19 a.reach hr.1 hr.2) ?_ ?_ ?_; rfl; decide)
        | (refine wCall_intro c1 ?_ ?_ ?_; rfl; decide)
        | refine wfork_intro (fun h => ?_) (fun h => ?_)
        | refine Also.mk (by decide) ?_
        | (show (_ : Int) ≠ _; decide)
        | apply And.intro
      all_goals refine wEnd_intro (.refl _) (Wk.sub ?_ ?_ (by decide) (by decide) ?_ ?_) ⟨rfl, rfl, rfl⟩
      all_goals simp -implicitDefEqProofs only [go_sem, ↓reduceIte, Nat.reduceEqDiff, Nat.reduceAdd, Nat.reduceMul, Nat.reduceSub, Nat.reduceLeDiff, Nat.reduceLT, Nat.reducePow, reduceCtorEq, List.length_cons, List.length_nil, List.map_cons, List.map_nil,
      List.reverse_cons, List.reverse_nil, List.nil_append, List.cons_append, Bool.false_eq_true, Nat.zero_le, List.replicate_zero, List.replicate_succ, List.flatten_nil, List.flatten_cons, true_and, and_true, and_self, List.append_nil, Nat.zero_add, Nat.add_zero,
      List.contains_nil, Nat.le_refl, List.take_zero, List.take_succ_cons, List.drop_zero, List.drop_succ_cons, List.take_length, List.take_nil, List.drop_nil, Option.map_some, Option.map_none, List.getElem?_cons_zero, List.getElem?_cons_succ, List.getElem?_nil, Option.some.injEq,
      Int.toNat_zero, Int.reduceToNat, Int.reduceLT, Int.reduceLE, Int.reduceEq, Int.reduceAdd, Int.reduceSub, Int.reduceMul, Int.reduceNeg, decide_true, decide_false, Bool.not_true, Bool.not_false, beq_self_eq_true, List.mapM_cons, List.mapM_nil, wrap64, wrap8, Int.cast_ofNat_Int, Int.natCast_eq_zero, decide_eq_true_eq, Bool.or_false, Bool.or_true, Bool.or_self, Bool.false_or, Bool.true_or, Option.bind_eq_bind, Option.bind_some, Option.pure_def, Int.reduceTMod, Int.reduceTDiv, histHp, List.length_append, List.length_set, List.nil_append, wrs_set, lgs_snoc, *]

end Go.Proofs.Ytehmaafnbgpkcaa

namespace Go.Proofs.Ytehmaafnbgpkcaa
open Go Go.Vs Go.Proofs

def Act.ok (a : Act) : Prop := (0 ≤ a.who ∧ a.who ≤ 255) ∧ (0 ≤ a.reach ∧ a.reach ≤ 255)

theorem step20 (h : Hist) (n : Nat) (hg : Good h n) (hn : n < 400) (a : Act) (ha : a.ok) :
    Deep Try.prog 20 [.c (.ptr 4 0), .agg [.d (.int .u8 a.what), .d (.int .u8 a.who), .d (.int .u8 a.reach), .d (.str a.line)]] (histHp h) 62
      (fun v hp k => v = .c (.d (.bool true)) ∧ hp = histHp (h.step a) ∧ k = 62) := by
  by_cases h2 : a.what.tmod 8 < 2
  · exact step20a h n hg hn a h2 ha.2
  · by_cases h7 : a.what.tmod 8 = 7
    · exact step20b h a h2 h7 ha.1
    · exact step20c h n hg hn a h2 h7 ha.1 ha.2

def acts (l : List Act) : List (List D) := l.map fun a => [.int .u8 a.what, .int .u8 a.who, .int .u8 a.reach, .str a.line]
@[go_sem] theorem acts_length (l : List Act) : (acts l).length = l.length := by simp [acts]
theorem acts_get (l : List Act) (i : Nat) : (acts l)[i]? = (l[i]?).map fun a => [.int .u8 a.what, .int .u8 a.who, .int .u8 a.reach, .str a.line] := by simp [acts]

def histAt (l : List Act) (k : Nat) : Hist := (l.take k).foldl Hist.step Hist.start
theorem histAt_succ {l : List Act} {k : Nat} (h : k < l.length) : histAt l (k + 1) = (histAt l k).step l[k] := by
  rw [histAt, List.take_add_one, List.getElem?_eq_getElem h, Option.toList_some, List.foldl_append]
  rfl
theorem histAt_good {l : List Act} (hl : ∀ a ∈ l, a.ok) : ∀ {k : Nat}, k ≤ l.length → k ≤ 400 → Good (histAt l k) k
  | 0, _, _ => Good.start
  | k + 1, h, h4 => by
    rw [histAt_succ h]
    exact (histAt_good hl (Nat.le_of_succ_le h) (by omega)).step (by omega) _ (hl _ (List.getElem_mem h)).1.1

theorem histHp_sub (h : Hist) : subL (histHp h) (histHp h) := by simp -implicitDefEqProofs only [go_sem, ↓reduceIte, Nat.reduceEqDiff, Nat.reduceAdd, Nat.reduceMul, Nat.reduceSub, Nat.reduceLeDiff, Nat.reduceLT, Nat.reducePow, reduceCtorEq, List.length_cons, List.length_nil, List.map_cons, List.map_nil,
      List.reverse_cons, List.reverse_nil, List.nil_append, List.cons_append, Bool.false_eq_true, Nat.zero_le, List.replicate_zero, List.replicate_succ, List.flatten_nil, List.flatten_cons, true_and, and_true, and_self, List.append_nil, Nat.zero_add, Nat.add_zero,
      List.contains_nil, Nat.le_refl, List.take_zero, List.take_succ_cons, List.drop_zero, List.drop_succ_cons, List.take_length, List.take_nil, List.drop_nil, Option.map_some, Option.map_none, List.getElem?_cons_zero, List.getElem?_cons_succ, List.getElem?_nil, Option.some.injEq,
      Int.toNat_zero, Int.reduceToNat, Int.reduceLT, Int.reduceLE, Int.reduceEq, Int.reduceAdd, Int.reduceSub, Int.reduceMul, Int.reduceNeg, decide_true, decide_false, Bool.not_true, Bool.not_false, beq_self_eq_true, List.mapM_cons, List.mapM_nil, wrap64, wrap8, Int.cast_ofNat_Int, Int.natCast_eq_zero, decide_eq_true_eq, Bool.or_false, Bool.or_true, Bool.or_self, Bool.false_or, Bool.true_or, Option.bind_eq_bind, Option.bind_some, Option.pure_def, Int.reduceTMod, Int.reduceTDiv, histHp]
theorem histHp_below (h : Hist) : hpBelow 14 (histHp h) := by simp -implicitDefEqProofs only [go_sem, ↓reduceIte, Nat.reduceEqDiff, Nat.reduceAdd, Nat.reduceMul, Nat.reduceSub, Nat.reduceLeDiff, Nat.reduceLT, Nat.reducePow, reduceCtorEq, List.length_cons, List.length_nil, List.map_cons, List.map_nil,
      List.reverse_cons, List.reverse_nil, List.nil_append, List.cons_append, Bool.false_eq_true, Nat.zero_le, List.replicate_zero, List.replicate_succ, List.flatten_nil, List.flatten_cons, true_and, and_true, and_self, List.append_nil, Nat.zero_add, Nat.add_zero,
      List.contains_nil, Nat.le_refl, List.take_zero, List.take_succ_cons, List.drop_zero, List.drop_succ_cons, List.take_length, List.take_nil, List.drop_nil, Option.map_some, Option.map_none, List.getElem?_cons_zero, List.getElem?_cons_succ, List.getElem?_nil, Option.some.injEq,
      Int.toNat_zero, Int.reduceToNat, Int.reduceLT, Int.reduceLE, Int.reduceEq, Int.reduceAdd, Int.reduceSub, Int.reduceMul, Int.reduceNeg, decide_true, decide_false, Bool.not_true, Bool.not_false, beq_self_eq_true, List.mapM_cons, List.mapM_nil, wrap64, wrap8, Int.cast_ofNat_Int, Int.natCast_eq_zero, decide_eq_true_eq, Bool.or_false, Bool.or_true, Bool.or_self, Bool.false_or, Bool.true_or, Option.bind_eq_bind, Option.bind_some, Option.pure_def, Int.reduceTMod, Int.reduceTDiv, histHp]

/-- The first history, in the memory that the program makes for it. -/
theorem histHp_start {n0 : Nat} {tm : Tm} : Wk n0 ⟨tm, [(4, .box [.d (.int .i64 0), .d (.int .i64 0), .d .nilSl, .d (.bool false), .d (.int .i64 0), .d (.int .i64 0), .d .nilSl, .d (.bool false), .d (.int .i64 0), .d (.int .i64 0), .d .nilSl, .d (.bool false), .d .nilSl, .d (.int .i64 0), .d .nilSl])], 12⟩ ⟨tm, histHp Hist.start, 14⟩ := by
  refine Wk.trans (Wk.cellNil 12 2 (b := 4) rfl rfl) ?_
  refine Wk.trans (Wk.cellNil 14 1 (b := 4) rfl rfl) ?_
  refine Wk.trans (Wk.boxLe (b := 4) (cs' := [.d (.int .i64 zero3.a.p), .d (.int .i64 zero3.a.e), .d (.sl 1 (strs zero3.a.log)), .d (.bool zero3.a.lost), .d (.int .i64 zero3.b.p), .d (.int .i64 zero3.b.e), .d (.sl 1 (strs zero3.b.log)), .d (.bool zero3.b.lost), .d (.int .i64 zero3.c.p), .d (.int .i64 zero3.c.e), .d (.sl 1 (strs zero3.c.log)), .d (.bool zero3.c.lost), .ref 12 0 0 0, .d (.int .i64 0), .ref 13 0 0 0]) rfl ?_) ?_
  · simp only [List.set_cons_succ, List.set_cons_zero, go_sem, zero3, Nd.zero, and_self]
  · exact Wk.refl

set_option maxHeartbeats 1000000 in
theorem lawKeeps (l : List Act) (hl : ∀ a ∈ l, a.ok) : Gives Try.prog 6 [.c (.sl 4 (acts l))] (.c (.d (.bool true))) [] := by
  refine Gives.of_w TryEnv Try.func6 (by decide) TryL6_ok Try.ntmps6 (rs := [.tmp 2]) rfl (by simp) [] (by decide) ?_; rw [TryL6]
  simp -implicitDefEqProofs only [go_sem, ↓reduceIte, Nat.reduceEqDiff, Nat.reduceAdd, Nat.reduceMul, Nat.reduceSub, Nat.reduceLeDiff, Nat.reduceLT, Nat.reducePow, reduceCtorEq, List.length_cons, List.length_nil, List.map_cons, List.map_nil,
      List.reverse_cons, List.reverse_nil, List.nil_append, List.cons_append, Bool.false_eq_true, Nat.zero_le, List.replicate_zero, List.replicate_succ, List.flatten_nil, List.flatten_cons, true_and, and_true, and_self, List.append_nil, Nat.zero_add, Nat.add_zero,
      List.contains_nil, Nat.le_refl, List.take_zero, List.take_succ_cons, List.drop_zero, List.drop_succ_cons, List.take_length, List.take_nil, List.drop_nil, Option.map_some, Option.map_none, List.getElem?_cons_zero, List.getElem?_cons_succ, List.getElem?_nil, Option.some.injEq,
      Int.toNat_zero, Int.reduceToNat, Int.reduceLT, Int.reduceLE, Int.reduceEq, Int.reduceAdd, Int.reduceSub, Int.reduceMul, Int.reduceNeg, decide_true, decide_false, Bool.not_true, Bool.not_false, beq_self_eq_true, List.mapM_cons, List.mapM_nil, wrap64, wrap8, Int.cast_ofNat_Int, Int.natCast_eq_zero, decide_eq_true_eq, Bool.or_false, Bool.or_true, Bool.or_self, Bool.false_or, Bool.true_or, Option.bind_eq_bind, Option.bind_some, Option.pure_def, Int.reduceTMod, Int.reduceTDiv]
  refine wT_wk histHp_start ?_
  refine wT_loop (fun k : { k : Nat // k ≤ l.length ∧ k ≤ 60 } => ⟨[(0, .c (.d (.sl 4 (acts l)))), (3, .c (.ptr 4 0)), (4, .c (.d (.int .i64 (k.1 : Nat))))], histHp (histAt l k.1), 14⟩)
    (fun k => 60 - k.1) ⟨0, by omega⟩ ?_ ?_
  · refine Wk.sub ?_ (histHp_sub Hist.start) (by decide) (by decide) ?_ (histHp_below _)
    all_goals simp -implicitDefEqProofs only [go_sem, ↓reduceIte, Nat.reduceEqDiff, Nat.reduceAdd, Nat.reduceMul, Nat.reduceSub, Nat.reduceLeDiff, Nat.reduceLT, Nat.reducePow, reduceCtorEq, List.length_cons, List.length_nil, List.map_cons, List.map_nil,
      List.reverse_cons, List.reverse_nil, List.nil_append, List.cons_append, Bool.false_eq_true, Nat.zero_le, List.replicate_zero, List.replicate_succ, List.flatten_nil, List.flatten_cons, true_and, and_true, and_self, List.append_nil, Nat.zero_add, Nat.add_zero,
      List.contains_nil, Nat.le_refl, List.take_zero, List.take_succ_cons, List.drop_zero, List.drop_succ_cons, List.take_length, List.take_nil, List.drop_nil, Option.map_some, Option.map_none, List.getElem?_cons_zero, List.getElem?_cons_succ, List.getElem?_nil, Option.some.injEq,
      Int.toNat_zero, Int.reduceToNat, Int.reduceLT, Int.reduceLE, Int.reduceEq, Int.reduceAdd, Int.reduceSub, Int.reduceMul, Int.reduceNeg, decide_true, decide_false, Bool.not_true, Bool.not_false, beq_self_eq_true, List.mapM_cons, List.mapM_nil, wrap64, wrap8, Int.cast_ofNat_Int, Int.natCast_eq_zero, decide_eq_true_eq, Bool.or_false, Bool.or_true, Bool.or_self, Bool.false_or, Bool.true_or, Option.bind_eq_bind, Option.bind_some, Option.pure_def, Int.reduceTMod, Int.reduceTDiv, Int.natCast_zero]
  · rintro ⟨k, hk, hk60⟩
    refine wT_of TryEnv ?_
    simp -implicitDefEqProofs only [go_sem, ↓reduceIte, Nat.reduceEqDiff, Nat.reduceAdd, Nat.reduceMul, Nat.reduceSub, Nat.reduceLeDiff, Nat.reduceLT, Nat.reducePow, reduceCtorEq, List.length_cons, List.length_nil, List.map_cons, List.map_nil,
      List.reverse_cons, List.reverse_nil, List.nil_append, List.cons_append, Bool.false_eq_true, Nat.zero_le, List.replicate_zero, List.replicate_succ, List.flatten_nil, List.flatten_cons, true_and, and_true, and_self, List.append_nil, Nat.zero_add, Nat.add_zero,
      List.contains_nil, Nat.le_refl, List.take_zero, List.take_succ_cons, List.drop_zero, List.drop_succ_cons, List.take_length, List.take_nil, List.drop_nil, Option.map_some, Option.map_none, List.getElem?_cons_zero, List.getElem?_cons_succ, List.getElem?_nil, Option.some.injEq,
      Int.toNat_zero, Int.reduceToNat, Int.reduceLT, Int.reduceLE, Int.reduceEq, Int.reduceAdd, Int.reduceSub, Int.reduceMul, Int.reduceNeg, decide_true, decide_false, Bool.not_true, Bool.not_false, beq_self_eq_true, List.mapM_cons, List.mapM_nil, wrap64, wrap8, Int.cast_ofNat_Int, Int.natCast_eq_zero, decide_eq_true_eq, Bool.or_false, Bool.or_true, Bool.or_self, Bool.false_or, Bool.true_or, Option.bind_eq_bind, Option.bind_some, Option.pure_def, Int.reduceTMod, Int.reduceTDiv]
    refine wfork_intro (fun h1 => ?_) (fun h1 => ?_)
    · have h1 : k < l.length := by simpa using h1
      simp -implicitDefEqProofs only [go_sem, ↓reduceIte, Nat.reduceEqDiff, Nat.reduceAdd, Nat.reduceMul, Nat.reduceSub, Nat.reduceLeDiff, Nat.reduceLT, Nat.reducePow, reduceCtorEq, List.length_cons, List.length_nil, List.map_cons, List.map_nil,
      List.reverse_cons, List.reverse_nil, List.nil_append, List.cons_append, Bool.false_eq_true, Nat.zero_le, List.replicate_zero, List.replicate_succ, List.flatten_nil, List.flatten_cons, true_and, and_true, and_self, List.append_nil, Nat.zero_add, Nat.add_zero,
      List.contains_nil, Nat.le_refl, List.take_zero, List.take_succ_cons, List.drop_zero, List.drop_succ_cons, List.take_length, List.take_nil, List.drop_nil, Option.map_some, Option.map_none, List.getElem?_cons_zero, List.getElem?_cons_succ, List.getElem?_nil, Option.some.injEq,
      Int.toNat_zero, Int.reduceToNat, Int.reduceLT, Int.reduceLE, Int.reduceEq, Int.reduceAdd, Int.reduceSub, Int.reduceMul, Int.reduceNeg, decide_true, decide_false, Bool.not_true, Bool.not_false, beq_self_eq_true, List.mapM_cons, List.mapM_nil, wrap64, wrap8, Int.cast_ofNat_Int, Int.natCast_eq_zero, decide_eq_true_eq, Bool.or_false, Bool.or_true, Bool.or_self, Bool.false_or, Bool.true_or, Option.bind_eq_bind, Option.bind_some, Option.pure_def, Int.reduceTMod, Int.reduceTDiv]
      refine wfork_intro (fun h2 => ?_) (fun h2 => ?_)
      · have h2 : k < 60 := by
          simp only [decide_eq_true_eq] at h2
          omega
        have hd := step20 (histAt l k) k (histAt_good hl hk (by omega)) (by omega) l[k] (hl _ (List.getElem_mem h1))
        rw [← histAt_succ h1] at hd
        have hk1 : IntKind.i64.wrap ((k : Int) + 1) = ((k + 1 : Nat) : Int) := by rw [wrap64 (by omega) (by omega)]; rfl
        repeat' first
          | simp -implicitDefEqProofs only [go_sem, ↓reduceIte, Nat.reduceEqDiff, Nat.reduceAdd, Nat.reduceMul, Nat.reduceSub, Nat.reduceLeDiff, Nat.reduceLT, Nat.reducePow, reduceCtorEq, List.length_cons, List.length_nil, List.map_cons, List.map_nil,
      List.reverse_cons, List.reverse_nil, List.nil_append, List.cons_append, Bool.false_eq_true, Nat.zero_le, List.replicate_zero, List.replicate_succ, List.flatten_nil, List.flatten_cons, true_and, and_true, and_self, List.append_nil, Nat.zero_add, Nat.add_zero,
      List.contains_nil, Nat.le_refl, List.take_zero, List.take_succ_cons, List.drop_zero, List.drop_succ_cons, List.take_length, List.take_nil, List.drop_nil, Option.map_some, Option.map_none, List.getElem?_cons_zero, List.getElem?_cons_succ, List.getElem?_nil, Option.some.injEq,
      Int.toNat_zero, Int.reduceToNat, Int.reduceLT, Int.reduceLE, Int.reduceEq, Int.reduceAdd, Int.reduceSub, Int.reduceMul, Int.reduceNeg, decide_true, decide_false, Bool.not_true, Bool.not_false, beq_self_eq_true, List.mapM_cons, List.mapM_nil, wrap64, wrap8, Int.cast_ofNat_Int, Int.natCast_eq_zero, decide_eq_true_eq, Bool.or_false, Bool.or_true, Bool.or_self, Bool.false_or, Bool.true_or, Option.bind_eq_bind, Option.bind_some, Option.pure_def, Int.reduceTMod, Int.reduceTDiv, acts_get, List.getElem?_eq_getElem h1, Int.toNat_natCast, Int.natCast_nonneg, hk1]
          | refine wDeep_go hd ?_
          | apply And.intro
        refine ⟨⟨k + 1, h1, h2⟩, Wk.sub ?_ (histHp_sub _) (by decide) (by decide) ?_ (histHp_below _), by simp; omega⟩
        all_goals simp -implicitDefEqProofs only [go_sem, ↓reduceIte, Nat.reduceEqDiff, Nat.reduceAdd, Nat.reduceMul, Nat.reduceSub, Nat.reduceLeDiff, Nat.reduceLT, Nat.reducePow, reduceCtorEq, List.length_cons, List.length_nil, List.map_cons, List.map_nil,
      List.reverse_cons, List.reverse_nil, List.nil_append, List.cons_append, Bool.false_eq_true, Nat.zero_le, List.replicate_zero, List.replicate_succ, List.flatten_nil, List.flatten_cons, true_and, and_true, and_self, List.append_nil, Nat.zero_add, Nat.add_zero,
      List.contains_nil, Nat.le_refl, List.take_zero, List.take_succ_cons, List.drop_zero, List.drop_succ_cons, List.take_length, List.take_nil, List.drop_nil, Option.map_some, Option.map_none, List.getElem?_cons_zero, List.getElem?_cons_succ, List.getElem?_nil, Option.some.injEq,
      Int.toNat_zero, Int.reduceToNat, Int.reduceLT, Int.reduceLE, Int.reduceEq, Int.reduceAdd, Int.reduceSub, Int.reduceMul, Int.reduceNeg, decide_true, decide_false, Bool.not_true, Bool.not_false, beq_self_eq_true, List.mapM_cons, List.mapM_nil, wrap64, wrap8, Int.cast_ofNat_Int, Int.natCast_eq_zero, decide_eq_true_eq, Bool.or_false, Bool.or_true, Bool.or_self, Bool.false_or, Bool.true_or, Option.bind_eq_bind, Option.bind_some, Option.pure_def, Int.reduceTMod, Int.reduceTDiv]
      · repeat' first
          | simp -implicitDefEqProofs only [go_sem, ↓reduceIte, Nat.reduceEqDiff, Nat.reduceAdd, Nat.reduceMul, Nat.reduceSub, Nat.reduceLeDiff, Nat.reduceLT, Nat.reducePow, reduceCtorEq, List.length_cons, List.length_nil, List.map_cons, List.map_nil,
      List.reverse_cons, List.reverse_nil, List.nil_append, List.cons_append, Bool.false_eq_true, Nat.zero_le, List.replicate_zero, List.replicate_succ, List.flatten_nil, List.flatten_cons, true_and, and_true, and_self, List.append_nil, Nat.zero_add, Nat.add_zero,
      List.contains_nil, Nat.le_refl, List.take_zero, List.take_succ_cons, List.drop_zero, List.drop_succ_cons, List.take_length, List.take_nil, List.drop_nil, Option.map_some, Option.map_none, List.getElem?_cons_zero, List.getElem?_cons_succ, List.getElem?_nil, Option.some.injEq,
      Int.toNat_zero, Int.reduceToNat, Int.reduceLT, Int.reduceLE, Int.reduceEq, Int.reduceAdd, Int.reduceSub, Int.reduceMul, Int.reduceNeg, decide_true, decide_false, Bool.not_true, Bool.not_false, beq_self_eq_true, List.mapM_cons, List.mapM_nil, wrap64, wrap8, Int.cast_ofNat_Int, Int.natCast_eq_zero, decide_eq_true_eq, Bool.or_false, Bool.or_true, Bool.or_self, Bool.false_or, Bool.true_or, Option.bind_eq_bind, Option.bind_some, Option.pure_def, Int.reduceTMod, Int.reduceTDiv]
          | (refine wCall_intro lives ?_ ?_ ?_; rfl; decide)
    · repeat' first
        | simp -implicitDefEqProofs only [go_sem, ↓reduceIte, Nat.reduceEqDiff, Nat.reduceAdd, Nat.reduceMul, Nat.reduceSub, Nat.reduceLeDiff, Nat.reduceLT, Nat.reducePow, reduceCtorEq, List.length_cons, List.length_nil, List.map_cons, List.map_nil,
      List.reverse_cons, List.reverse_nil, List.nil_append, List.cons_append, Bool.false_eq_true, Nat.zero_le, List.replicate_zero, List.replicate_succ, List.flatten_nil, List.flatten_cons, true_and, and_true, and_self, List.append_nil, Nat.zero_add, Nat.add_zero,
      List.contains_nil, Nat.le_refl, List.take_zero, List.take_succ_cons, List.drop_zero, List.drop_succ_cons, List.take_length, List.take_nil, List.drop_nil, Option.map_some, Option.map_none, List.getElem?_cons_zero, List.getElem?_cons_succ, List.getElem?_nil, Option.some.injEq,
      Int.toNat_zero, Int.reduceToNat, Int.reduceLT, Int.reduceLE, Int.reduceEq, Int.reduceAdd, Int.reduceSub, Int.reduceMul, Int.reduceNeg, decide_true, decide_false, Bool.not_true, Bool.not_false, beq_self_eq_true, List.mapM_cons, List.mapM_nil, wrap64, wrap8, Int.cast_ofNat_Int, Int.natCast_eq_zero, decide_eq_true_eq, Bool.or_false, Bool.or_true, Bool.or_self, Bool.false_or, Bool.true_or, Option.bind_eq_bind, Option.bind_some, Option.pure_def, Int.reduceTMod, Int.reduceTDiv]
        | (refine wCall_intro lives ?_ ?_ ?_; rfl; decide)
end Go.Proofs.Ytehmaafnbgpkcaa
