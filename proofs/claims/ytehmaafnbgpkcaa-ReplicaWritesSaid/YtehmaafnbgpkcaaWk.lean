/- This text proves a part of what the claim needs: contracts of functions of the program. No condition. -/
import Derived.Test.YtehmaafnbgpkcaaWe
import Derived.Test.YtehmaafnbgpkcaaVsD
set_option linter.unusedSimpArgs false
set_option linter.unusedVariables false

namespace Go.Proofs.Ytehmaafnbgpkcaa
open Go Go.Vs Go.Proofs

theorem copied' (n : Nd) (h : n.log.length ≤ 1000000) : Gives Try.prog 46 [.agg [.int .i64 n.p, .int .i64 n.e, .sl 1 (strs n.log), .bool n.lost]] (.agg [.d (.int .i64 n.p), .d (.int .i64 n.e), .d (.sl 1 (strs n.log)), .d (.bool n.lost)]) [] := copied _ _ _ _ h
theorem all37 (ns : N3) (hs : ns.small 1000000) : Gives Try.prog 37 [.agg [.int .i64 ns.a.p, .int .i64 ns.a.e, .sl 1 (strs ns.a.log), .bool ns.a.lost, .int .i64 ns.b.p, .int .i64 ns.b.e, .sl 1 (strs ns.b.log), .bool ns.b.lost, .int .i64 ns.c.p, .int .i64 ns.c.e, .sl 1 (strs ns.c.log), .bool ns.c.lost]] (.agg [.d (.int .i64 ns.a.p), .d (.int .i64 ns.a.e), .d (.sl 1 (strs ns.a.log)), .d (.bool ns.a.lost), .d (.int .i64 ns.b.p), .d (.int .i64 ns.b.e), .d (.sl 1 (strs ns.b.log)), .d (.bool ns.b.lost), .d (.int .i64 ns.c.p), .d (.int .i64 ns.c.e), .d (.sl 1 (strs ns.c.log)), .d (.bool ns.c.lost)]) [] := by
  obtain ⟨h1, h2, h3⟩ := hs
  refine Gives.of_w TryEnv Try.func37 (by decide) TryL37_ok Try.ntmps37 (rs := [.cell 2 25]) rfl (by simp) [] (by decide) ?_; rw [TryL37]
  repeat' first
    | simp -implicitDefEqProofs only [go_sem, ↓reduceIte, Nat.reduceEqDiff, Nat.reduceAdd, Nat.reduceMul, Nat.reduceSub, Nat.reduceLeDiff, Nat.reduceLT, Nat.reducePow, reduceCtorEq, Int.reduceToNat, Int.reduceLT, Int.reduceLE, Int.reduceEq, Int.reduceAdd, Int.reduceSub, Int.reduceMul, Int.reduceNeg, Int.reduceTMod, Int.reduceTDiv, List.replicate_zero, List.replicate_succ]
    | (refine wT_unroll TryEnv [(), (), (), ()] ?_)
    | (refine wCall_intro (copied' _ ?_) ?_ ?_ ?_; assumption; rfl; decide)
    | apply And.intro

theorem refInstall' (n : Nd) (e : Int) (m : List ByteArray) (h : m.length ≤ 1000000) :
    Gives Try.prog 25 [.agg [.int .i64 n.p, .int .i64 n.e, .sl 1 (strs n.log), .bool n.lost], .c (.int .i64 e), .c (.sl 1 (strs m))] (.tup [.agg [.d (.int .i64 ((installN n e m).1).p), .d (.int .i64 ((installN n e m).1).e), .d (.sl 1 (strs ((installN n e m).1).log)), .d (.bool ((installN n e m).1).lost)], .c (.d (.int .i64 (installN n e m).2))]) [] := refInstall _ _ _ _ _ _ h
theorem refHeal' (n : Nd) (e : Int) (m : List ByteArray) (h : m.length ≤ 1000000) :
    Gives Try.prog 27 [.agg [.int .i64 n.p, .int .i64 n.e, .sl 1 (strs n.log), .bool n.lost], .c (.int .i64 e), .c (.sl 1 (strs m))] (.tup [.agg [.d (.int .i64 ((healN n e m).1).p), .d (.int .i64 ((healN n e m).1).e), .d (.sl 1 (strs ((healN n e m).1).log)), .d (.bool ((healN n e m).1).lost)], .c (.d (.int .i64 (healN n e m).2))]) [] := refHeal _ _ _ _ _ _ h

end Go.Proofs.Ytehmaafnbgpkcaa

namespace Go.Proofs.Ytehmaafnbgpkcaa
open Go Go.Vs Go.Proofs

/-! ### Logs that are handed over -/

theorem idx1 (a : Nat) : List.idxOf a [a] = 0 := by simp
@[go_sem] theorem strs_isNil (l : List ByteArray) : (strs l = []) = (l = []) := by simp [strs]

theorem cloneR_slE : Gives Try.prog 35 [.c (.slE 1)] (.c (.ref 0 0 0 0)) [.sl 1 [] false] := by
  refine Gives.of_wT TryEnv Try.func35 (by decide) TryL35_ok Try.ntmps35 (rs := [.tmp 2]) rfl (by simp) [12] (by decide) ?_; rw [TryL35]
  refine wT_of TryEnv ?_
  simp -implicitDefEqProofs only [go_sem, ↓reduceIte, Nat.reduceEqDiff, Nat.reduceAdd, Nat.reduceMul, Nat.reduceSub, Nat.reduceLeDiff, Nat.reduceLT, Nat.reducePow, reduceCtorEq, Int.reduceToNat, Int.reduceLT, Int.reduceLE, Int.reduceEq, Int.reduceAdd, Int.reduceSub, Int.reduceMul, Int.reduceNeg, Int.reduceTMod, Int.reduceTDiv, List.replicate_zero, List.replicate_succ, List.contains_cons, idx1]
theorem cloneR_cons (e : List D) (es : List (List D)) (h : (es.length + 1) * 16 ≤ mostBytes) : Gives Try.prog 35 [.c (.sl 1 (e :: es))] (.c (.ref 0 (es.length + 1) 0 (es.length + 1))) [.sl 1 (e :: es) false] := by
  refine Gives.of_wT TryEnv Try.func35 (by decide) TryL35_ok Try.ntmps35 (rs := [.tmp 2]) rfl (by simp) [12] (by decide) ?_; rw [TryL35]
  refine wT_of TryEnv ?_
  simp -implicitDefEqProofs only [go_sem, ↓reduceIte, Nat.reduceEqDiff, Nat.reduceAdd, Nat.reduceMul, Nat.reduceSub, Nat.reduceLeDiff, Nat.reduceLT, Nat.reducePow, reduceCtorEq, Int.reduceToNat, Int.reduceLT, Int.reduceLE, Int.reduceEq, Int.reduceAdd, Int.reduceSub, Int.reduceMul, Int.reduceNeg, Int.reduceTMod, Int.reduceTDiv, List.replicate_zero, List.replicate_succ, h, List.contains_cons, idx1]
theorem cloneR (l : List ByteArray) (h : l.length ≤ 1000000) : Gives Try.prog 35 [.c (.sl 1 (strs l))] (.c (.ref 0 l.length 0 l.length)) [.sl 1 (strs l) false] := by
  cases l with
  | nil => exact Gives.empty (clone_nil.nilRef 1) cloneR_slE
  | cons s l =>
    have := cloneR_cons [.str s] (strs l) (by simp only [strs_length, mostBytes, List.length_cons] at *; omega)
    rw [strs_length] at this
    exact this

theorem madeR (n : Int) (m : List ByteArray) (h : m.length ≤ 1000000) : Gives Try.prog 36 [.c (.int .i64 n), .c (.sl 1 (strs m))] (.agg [.d (.int .i64 n), .d (.int .i64 n), .ref 0 m.length 0 m.length, .d (.bool false)]) [.sl 1 (strs m) false] := by
  refine Gives.of_wT TryEnv Try.func36 (by decide) TryL36_ok Try.ntmps36 (rs := [.cell 4 24]) rfl (by simp) [16] (by decide) ?_; rw [TryL36]
  refine wT_of TryEnv ?_
  repeat' first
    | simp -implicitDefEqProofs only [go_sem, ↓reduceIte, Nat.reduceEqDiff, Nat.reduceAdd, Nat.reduceMul, Nat.reduceSub, Nat.reduceLeDiff, Nat.reduceLT, Nat.reducePow, reduceCtorEq, Int.reduceToNat, Int.reduceLT, Int.reduceLE, Int.reduceEq, Int.reduceAdd, Int.reduceSub, Int.reduceMul, Int.reduceNeg, Int.reduceTMod, Int.reduceTDiv, List.replicate_zero, List.replicate_succ, List.contains_cons, idx1]
    | (refine wCall_intro (cloneR _ h) ?_ ?_ ?_; rfl; exact Nat.le_of_ble_eq_true rfl)

theorem installR (n : Nd) (e : Int) (m : List ByteArray) (hm : m.length ≤ 1000000) (h1 : boundN e m = 0) (h2 : n.lost = false) (h3 : ¬ e < n.p) :
    Gives Try.prog 24 [.agg [.int .i64 n.p, .int .i64 n.e, .sl 1 (strs n.log), .bool n.lost], .c (.int .i64 e), .c (.sl 1 (strs m))] (.tup [.agg [.d (.int .i64 e), .d (.int .i64 e), .ref 0 m.length 0 m.length, .d (.bool false)], .c (.d (.int .i64 0))]) [.sl 1 (strs m) false] := by
  have hb := bound40 e m
  rw [h1] at hb
  refine Gives.of_wT TryEnv Try.func24 (by decide) TryL24_ok Try.ntmps24 (rs := [.cell 6 24, .tmp 7]) rfl (by simp) [80] (by decide) ?_; rw [TryL24]
  refine wT_of TryEnv ?_
  repeat' first
    | simp -implicitDefEqProofs only [go_sem, ↓reduceIte, Nat.reduceEqDiff, Nat.reduceAdd, Nat.reduceMul, Nat.reduceSub, Nat.reduceLeDiff, Nat.reduceLT, Nat.reducePow, reduceCtorEq, Int.reduceToNat, Int.reduceLT, Int.reduceLE, Int.reduceEq, Int.reduceAdd, Int.reduceSub, Int.reduceMul, Int.reduceNeg, Int.reduceTMod, Int.reduceTDiv, List.replicate_zero, List.replicate_succ, List.contains_cons, idx1, h2, h3]
    | (refine wCall_intro hb ?_ ?_ ?_; rfl; decide)
    | (refine wCall_intro (madeR _ _ hm) ?_ ?_ ?_; rfl; exact Nat.le_of_ble_eq_true rfl)

theorem installE (n : Nd) (e : Int) (m : List ByteArray) (hm : m.length ≤ 1000000) (h1 : boundN e m = 0) (h : n.lost = true ∨ e < n.p) (c : Int) (hc : c = if n.lost then 7 else 15) :
    Gives Try.prog 24 [.agg [.int .i64 n.p, .int .i64 n.e, .sl 1 (strs n.log), .bool n.lost], .c (.int .i64 e), .c (.sl 1 (strs m))] (.tup [.agg [.d (.int .i64 0), .d (.int .i64 0), .d .nilSl, .d (.bool false)], .c (.d (.int .i64 c))]) [] := by
  have hb := bound40 e m
  rw [h1] at hb
  refine Gives.of_w TryEnv Try.func24 (by decide) TryL24_ok Try.ntmps24 (rs := [.cell 6 24, .tmp 7]) rfl (by simp) [] (by decide) ?_; rw [TryL24]
  cases hl : n.lost with
  | true =>
    have hc : c = 7 := by simp [hc, hl]
    subst hc
    repeat' first
      | simp -implicitDefEqProofs only [go_sem, ↓reduceIte, Nat.reduceEqDiff, Nat.reduceAdd, Nat.reduceMul, Nat.reduceSub, Nat.reduceLeDiff, Nat.reduceLT, Nat.reducePow, reduceCtorEq, Int.reduceToNat, Int.reduceLT, Int.reduceLE, Int.reduceEq, Int.reduceAdd, Int.reduceSub, Int.reduceMul, Int.reduceNeg, Int.reduceTMod, Int.reduceTDiv, List.replicate_zero, List.replicate_succ]
      | (refine wCall_intro hb ?_ ?_ ?_; rfl; decide)
  | false =>
    have hc : c = 15 := by simp [hc, hl]
    subst hc
    have h' : e < n.p := by simpa [hl] using h
    repeat' first
      | simp -implicitDefEqProofs only [go_sem, ↓reduceIte, Nat.reduceEqDiff, Nat.reduceAdd, Nat.reduceMul, Nat.reduceSub, Nat.reduceLeDiff, Nat.reduceLT, Nat.reducePow, reduceCtorEq, Int.reduceToNat, Int.reduceLT, Int.reduceLE, Int.reduceEq, Int.reduceAdd, Int.reduceSub, Int.reduceMul, Int.reduceNeg, Int.reduceTMod, Int.reduceTDiv, List.replicate_zero, List.replicate_succ, h']
      | (refine wCall_intro hb ?_ ?_ ?_; rfl; decide)

theorem ownR (ns : N3) (hs : ns.small 1000000) : Gives Try.prog 31 [.agg [.int .i64 ns.a.p, .int .i64 ns.a.e, .sl 1 (strs ns.a.log), .bool ns.a.lost, .int .i64 ns.b.p, .int .i64 ns.b.e, .sl 1 (strs ns.b.log), .bool ns.b.lost, .int .i64 ns.c.p, .int .i64 ns.c.e, .sl 1 (strs ns.c.log), .bool ns.c.lost]] (.agg [.d (.int .i64 ns.a.p), .d (.int .i64 ns.a.e), .ref 0 ns.a.log.length 0 ns.a.log.length, .d (.bool ns.a.lost), .d (.int .i64 ns.b.p), .d (.int .i64 ns.b.e), .ref 1 ns.b.log.length 0 ns.b.log.length, .d (.bool ns.b.lost), .d (.int .i64 ns.c.p), .d (.int .i64 ns.c.e), .ref 2 ns.c.log.length 0 ns.c.log.length, .d (.bool ns.c.lost)]) [.sl 1 (strs ns.a.log) false, .sl 1 (strs ns.b.log) false, .sl 1 (strs ns.c.log) false] := by
  obtain ⟨h1, h2, h3⟩ := hs
  refine Gives.of_wT TryEnv Try.func31 (by decide) TryL31_ok Try.ntmps31 (rs := [.cell 2 25]) rfl (by simp) [44, 100, 156] (by decide) ?_; rw [TryL31]
  refine wT_of TryEnv ?_
  repeat' first
    | simp -implicitDefEqProofs only [go_sem, ↓reduceIte, Nat.reduceEqDiff, Nat.reduceAdd, Nat.reduceMul, Nat.reduceSub, Nat.reduceLeDiff, Nat.reduceLT, Nat.reducePow, reduceCtorEq, Int.reduceToNat, Int.reduceLT, Int.reduceLE, Int.reduceEq, Int.reduceAdd, Int.reduceSub, Int.reduceMul, Int.reduceNeg, Int.reduceTMod, Int.reduceTDiv, List.replicate_zero, List.replicate_succ, List.contains_cons]
    | (refine wT_unroll TryEnv [(), (), (), ()] ?_)
    | (refine wCall_intro (cloneR _ h1) ?_ ?_ ?_; rfl; exact Nat.le_of_ble_eq_true rfl)
    | (refine wCall_intro (cloneR _ h2) ?_ ?_ ?_; rfl; exact Nat.le_of_ble_eq_true rfl)
    | (refine wCall_intro (cloneR _ h3) ?_ ?_ ?_; rfl; exact Nat.le_of_ble_eq_true rfl)
    | apply And.intro
  all_goals exact .refl _
end Go.Proofs.Ytehmaafnbgpkcaa

namespace Go.Proofs.Ytehmaafnbgpkcaa
open Go Go.Vs Go.Proofs

/-! ### One node is asked to install -/

theorem askOk0 (n : Nd) (e : Int) (m : List ByteArray) (hm : m.length ≤ 1000000) (h1 : boundN e m = 0) (h2 : n.lost = false) (h3 : ¬ e < n.p) (B0 B4 BZ BR BL X1 X2 : Blk) :
    Deep Try.prog 43 [.agg [.d (.int .i64 n.p), .d (.int .i64 n.e), .ref 32 n.log.length 0 n.log.length, .d (.bool n.lost)], .c (.ptr 8 0), .c (.ptr 12 0)] [(0, B0), (4, B4), (8, .box [.d (.int .i64 e)]), (12, .box [.d (.sl 1 (strs m))]), (16, BZ), (32, .sl 1 (strs n.log) false), (33, X1), (34, X2), (84, BR), (100, BL)] 157
    (fun v h k => v = .tup [.agg [.d (.int .i64 e), .d (.int .i64 e), .ref 181 m.length 0 m.length, .d (.bool false)], .c (.d (.int .i64 0))] ∧ h = [(0, B0), (4, B4), (8, .box [.d (.int .i64 e)]), (12, .box [.d (.sl 1 (strs m))]), (16, BZ), (33, X1), (34, X2), (84, BR), (100, BL), (181, .sl 1 (strs m) false)] ∧ k = 201) := by
  refine Deep.of_wTK TryEnv Try.func43 (by decide) TryL43_ok Try.ntmps43 (rs := [.cell 4 24, .tmp 5]) rfl (by simp) [181] ?_; rw [TryL43]
  refine wT_seq (wT_of TryEnv ?_)
  simp -implicitDefEqProofs only [go_sem, ↓reduceIte, Nat.reduceEqDiff, Nat.reduceAdd, Nat.reduceMul, Nat.reduceSub, Nat.reduceLeDiff, Nat.reduceLT, Nat.reducePow, reduceCtorEq, Int.reduceToNat, Int.reduceLT, Int.reduceLE, Int.reduceEq, Int.reduceAdd, Int.reduceSub, Int.reduceMul, Int.reduceNeg, Int.reduceTMod, Int.reduceTDiv, List.replicate_zero, List.replicate_succ]
  refine wT_wk (Wk.frz (b := 32) rfl) ?_
  refine wT_of TryEnv ?_
  repeat' first
    | simp -implicitDefEqProofs only [go_sem, ↓reduceIte, Nat.reduceEqDiff, Nat.reduceAdd, Nat.reduceMul, Nat.reduceSub, Nat.reduceLeDiff, Nat.reduceLT, Nat.reducePow, reduceCtorEq, Int.reduceToNat, Int.reduceLT, Int.reduceLE, Int.reduceEq, Int.reduceAdd, Int.reduceSub, Int.reduceMul, Int.reduceNeg, Int.reduceTMod, Int.reduceTDiv, List.replicate_zero, List.replicate_succ, List.contains_cons]
    | (refine wCall_intro (installR n e m hm h1 h2 h3) ?_ ?_ ?_; rfl; exact Nat.le_of_ble_eq_true rfl)
    | apply And.intro
  refine wEnd_intro (.refl _) (Wk.drop ?_ ?_) ⟨rfl, rfl, rfl⟩
  all_goals simp -implicitDefEqProofs only [go_sem, ↓reduceIte, Nat.reduceEqDiff, Nat.reduceAdd, Nat.reduceMul, Nat.reduceSub, Nat.reduceLeDiff, Nat.reduceLT, Nat.reducePow, reduceCtorEq, Int.reduceToNat, Int.reduceLT, Int.reduceLE, Int.reduceEq, Int.reduceAdd, Int.reduceSub, Int.reduceMul, Int.reduceNeg, Int.reduceTMod, Int.reduceTDiv, List.replicate_zero, List.replicate_succ]

theorem askNo0 (n : Nd) (e : Int) (m : List ByteArray) (hm : m.length ≤ 1000000) (h1 : boundN e m = 0) (h : n.lost = true ∨ e < n.p) (c : Int) (hc : c = if n.lost then 7 else 15) (B0 B4 BZ BR BL X1 X2 : Blk) :
    Deep Try.prog 43 [.agg [.d (.int .i64 n.p), .d (.int .i64 n.e), .ref 32 n.log.length 0 n.log.length, .d (.bool n.lost)], .c (.ptr 8 0), .c (.ptr 12 0)] [(0, B0), (4, B4), (8, .box [.d (.int .i64 e)]), (12, .box [.d (.sl 1 (strs m))]), (16, BZ), (32, .sl 1 (strs n.log) false), (33, X1), (34, X2), (84, BR), (100, BL)] 157
    (fun v h k => v = .tup [.agg [.d (.int .i64 0), .d (.int .i64 0), .d .nilSl, .d (.bool false)], .c (.d (.int .i64 c))] ∧ h = [(0, B0), (4, B4), (8, .box [.d (.int .i64 e)]), (12, .box [.d (.sl 1 (strs m))]), (16, BZ), (32, .sl 1 (strs n.log) false), (33, X1), (34, X2), (84, BR), (100, BL)] ∧ k = 201) := by
  refine Deep.of_wTK TryEnv Try.func43 (by decide) TryL43_ok Try.ntmps43 (rs := [.cell 4 24, .tmp 5]) rfl (by simp) [] ?_; rw [TryL43]
  refine wT_of TryEnv ?_
  repeat' first
    | simp -implicitDefEqProofs only [go_sem, ↓reduceIte, Nat.reduceEqDiff, Nat.reduceAdd, Nat.reduceMul, Nat.reduceSub, Nat.reduceLeDiff, Nat.reduceLT, Nat.reducePow, reduceCtorEq, Int.reduceToNat, Int.reduceLT, Int.reduceLE, Int.reduceEq, Int.reduceAdd, Int.reduceSub, Int.reduceMul, Int.reduceNeg, Int.reduceTMod, Int.reduceTDiv, List.replicate_zero, List.replicate_succ, List.contains_cons]
    | (refine wCall_intro (installE n e m hm h1 h c hc) ?_ ?_ ?_; rfl; exact Nat.le_of_ble_eq_true rfl)
    | apply And.intro
  refine wEnd_intro (.refl _) (Wk.drop ?_ ?_) ⟨rfl, rfl, rfl⟩
  all_goals simp -implicitDefEqProofs only [go_sem, ↓reduceIte, Nat.reduceEqDiff, Nat.reduceAdd, Nat.reduceMul, Nat.reduceSub, Nat.reduceLeDiff, Nat.reduceLT, Nat.reducePow, reduceCtorEq, Int.reduceToNat, Int.reduceLT, Int.reduceLE, Int.reduceEq, Int.reduceAdd, Int.reduceSub, Int.reduceMul, Int.reduceNeg, Int.reduceTMod, Int.reduceTDiv, List.replicate_zero, List.replicate_succ]

theorem askOk1o (n : Nd) (e : Int) (m : List ByteArray) (hm : m.length ≤ 1000000) (h1 : boundN e m = 0) (h2 : n.lost = false) (h3 : ¬ e < n.p) (B0 B4 BZ BR BL X0 X2 : Blk) :
    Deep Try.prog 43 [.agg [.d (.int .i64 n.p), .d (.int .i64 n.e), .ref 33 n.log.length 0 n.log.length, .d (.bool n.lost)], .c (.ptr 8 0), .c (.ptr 12 0)] [(0, B0), (4, B4), (8, .box [.d (.int .i64 e)]), (12, .box [.d (.sl 1 (strs m))]), (16, BZ), (32, X0), (33, .sl 1 (strs n.log) false), (34, X2), (84, BR), (100, BL)] 157
    (fun v h k => v = .tup [.agg [.d (.int .i64 e), .d (.int .i64 e), .ref 181 m.length 0 m.length, .d (.bool false)], .c (.d (.int .i64 0))] ∧ h = [(0, B0), (4, B4), (8, .box [.d (.int .i64 e)]), (12, .box [.d (.sl 1 (strs m))]), (16, BZ), (32, X0), (34, X2), (84, BR), (100, BL), (181, .sl 1 (strs m) false)] ∧ k = 201) := by
  refine Deep.of_wTK TryEnv Try.func43 (by decide) TryL43_ok Try.ntmps43 (rs := [.cell 4 24, .tmp 5]) rfl (by simp) [181] ?_; rw [TryL43]
  refine wT_seq (wT_of TryEnv ?_)
  simp -implicitDefEqProofs only [go_sem, ↓reduceIte, Nat.reduceEqDiff, Nat.reduceAdd, Nat.reduceMul, Nat.reduceSub, Nat.reduceLeDiff, Nat.reduceLT, Nat.reducePow, reduceCtorEq, Int.reduceToNat, Int.reduceLT, Int.reduceLE, Int.reduceEq, Int.reduceAdd, Int.reduceSub, Int.reduceMul, Int.reduceNeg, Int.reduceTMod, Int.reduceTDiv, List.replicate_zero, List.replicate_succ]
  refine wT_wk (Wk.frz (b := 33) rfl) ?_
  refine wT_of TryEnv ?_
  repeat' first
    | simp -implicitDefEqProofs only [go_sem, ↓reduceIte, Nat.reduceEqDiff, Nat.reduceAdd, Nat.reduceMul, Nat.reduceSub, Nat.reduceLeDiff, Nat.reduceLT, Nat.reducePow, reduceCtorEq, Int.reduceToNat, Int.reduceLT, Int.reduceLE, Int.reduceEq, Int.reduceAdd, Int.reduceSub, Int.reduceMul, Int.reduceNeg, Int.reduceTMod, Int.reduceTDiv, List.replicate_zero, List.replicate_succ, List.contains_cons]
    | (refine wCall_intro (installR n e m hm h1 h2 h3) ?_ ?_ ?_; rfl; exact Nat.le_of_ble_eq_true rfl)
    | apply And.intro
  refine wEnd_intro (.refl _) (Wk.drop ?_ ?_) ⟨rfl, rfl, rfl⟩
  all_goals simp -implicitDefEqProofs only [go_sem, ↓reduceIte, Nat.reduceEqDiff, Nat.reduceAdd, Nat.reduceMul, Nat.reduceSub, Nat.reduceLeDiff, Nat.reduceLT, Nat.reducePow, reduceCtorEq, Int.reduceToNat, Int.reduceLT, Int.reduceLE, Int.reduceEq, Int.reduceAdd, Int.reduceSub, Int.reduceMul, Int.reduceNeg, Int.reduceTMod, Int.reduceTDiv, List.replicate_zero, List.replicate_succ]

theorem askNo1o (n : Nd) (e : Int) (m : List ByteArray) (hm : m.length ≤ 1000000) (h1 : boundN e m = 0) (h : n.lost = true ∨ e < n.p) (c : Int) (hc : c = if n.lost then 7 else 15) (B0 B4 BZ BR BL X0 X2 : Blk) :
    Deep Try.prog 43 [.agg [.d (.int .i64 n.p), .d (.int .i64 n.e), .ref 33 n.log.length 0 n.log.length, .d (.bool n.lost)], .c (.ptr 8 0), .c (.ptr 12 0)] [(0, B0), (4, B4), (8, .box [.d (.int .i64 e)]), (12, .box [.d (.sl 1 (strs m))]), (16, BZ), (32, X0), (33, .sl 1 (strs n.log) false), (34, X2), (84, BR), (100, BL)] 157
    (fun v h k => v = .tup [.agg [.d (.int .i64 0), .d (.int .i64 0), .d .nilSl, .d (.bool false)], .c (.d (.int .i64 c))] ∧ h = [(0, B0), (4, B4), (8, .box [.d (.int .i64 e)]), (12, .box [.d (.sl 1 (strs m))]), (16, BZ), (32, X0), (33, .sl 1 (strs n.log) false), (34, X2), (84, BR), (100, BL)] ∧ k = 201) := by
  refine Deep.of_wTK TryEnv Try.func43 (by decide) TryL43_ok Try.ntmps43 (rs := [.cell 4 24, .tmp 5]) rfl (by simp) [] ?_; rw [TryL43]
  refine wT_of TryEnv ?_
  repeat' first
    | simp -implicitDefEqProofs only [go_sem, ↓reduceIte, Nat.reduceEqDiff, Nat.reduceAdd, Nat.reduceMul, Nat.reduceSub, Nat.reduceLeDiff, Nat.reduceLT, Nat.reducePow, reduceCtorEq, Int.reduceToNat, Int.reduceLT, Int.reduceLE, Int.reduceEq, Int.reduceAdd, Int.reduceSub, Int.reduceMul, Int.reduceNeg, Int.reduceTMod, Int.reduceTDiv, List.replicate_zero, List.replicate_succ, List.contains_cons]
    | (refine wCall_intro (installE n e m hm h1 h c hc) ?_ ?_ ?_; rfl; exact Nat.le_of_ble_eq_true rfl)
    | apply And.intro
  refine wEnd_intro (.refl _) (Wk.drop ?_ ?_) ⟨rfl, rfl, rfl⟩
  all_goals simp -implicitDefEqProofs only [go_sem, ↓reduceIte, Nat.reduceEqDiff, Nat.reduceAdd, Nat.reduceMul, Nat.reduceSub, Nat.reduceLeDiff, Nat.reduceLT, Nat.reducePow, reduceCtorEq, Int.reduceToNat, Int.reduceLT, Int.reduceLE, Int.reduceEq, Int.reduceAdd, Int.reduceSub, Int.reduceMul, Int.reduceNeg, Int.reduceTMod, Int.reduceTDiv, List.replicate_zero, List.replicate_succ]

theorem askOk1r (n : Nd) (e : Int) (m : List ByteArray) (hm : m.length ≤ 1000000) (h1 : boundN e m = 0) (h2 : n.lost = false) (h3 : ¬ e < n.p) (B0 B4 BZ BR BL X0 X2 : Blk) :
    Deep Try.prog 43 [.agg [.d (.int .i64 n.p), .d (.int .i64 n.e), .ref 33 n.log.length 0 n.log.length, .d (.bool n.lost)], .c (.ptr 8 0), .c (.ptr 12 0)] [(0, B0), (4, B4), (8, .box [.d (.int .i64 e)]), (12, .box [.d (.sl 1 (strs m))]), (16, BZ), (85, X0), (33, .sl 1 (strs n.log) false), (34, X2), (84, BR), (100, BL)] 157
    (fun v h k => v = .tup [.agg [.d (.int .i64 e), .d (.int .i64 e), .ref 181 m.length 0 m.length, .d (.bool false)], .c (.d (.int .i64 0))] ∧ h = [(0, B0), (4, B4), (8, .box [.d (.int .i64 e)]), (12, .box [.d (.sl 1 (strs m))]), (16, BZ), (85, X0), (34, X2), (84, BR), (100, BL), (181, .sl 1 (strs m) false)] ∧ k = 201) := by
  refine Deep.of_wTK TryEnv Try.func43 (by decide) TryL43_ok Try.ntmps43 (rs := [.cell 4 24, .tmp 5]) rfl (by simp) [181] ?_; rw [TryL43]
  refine wT_seq (wT_of TryEnv ?_)
  simp -implicitDefEqProofs only [go_sem, ↓reduceIte, Nat.reduceEqDiff, Nat.reduceAdd, Nat.reduceMul, Nat.reduceSub, Nat.reduceLeDiff, Nat.reduceLT, Nat.reducePow, reduceCtorEq, Int.reduceToNat, Int.reduceLT, Int.reduceLE, Int.reduceEq, Int.reduceAdd, Int.reduceSub, Int.reduceMul, Int.reduceNeg, Int.reduceTMod, Int.reduceTDiv, List.replicate_zero, List.replicate_succ]
  refine wT_wk (Wk.frz (b := 33) rfl) ?_
  refine wT_of TryEnv ?_
  repeat' first
    | simp -implicitDefEqProofs only [go_sem, ↓reduceIte, Nat.reduceEqDiff, Nat.reduceAdd, Nat.reduceMul, Nat.reduceSub, Nat.reduceLeDiff, Nat.reduceLT, Nat.reducePow, reduceCtorEq, Int.reduceToNat, Int.reduceLT, Int.reduceLE, Int.reduceEq, Int.reduceAdd, Int.reduceSub, Int.reduceMul, Int.reduceNeg, Int.reduceTMod, Int.reduceTDiv, List.replicate_zero, List.replicate_succ, List.contains_cons]
    | (refine wCall_intro (installR n e m hm h1 h2 h3) ?_ ?_ ?_; rfl; exact Nat.le_of_ble_eq_true rfl)
    | apply And.intro
  refine wEnd_intro (.refl _) (Wk.drop ?_ ?_) ⟨rfl, rfl, rfl⟩
  all_goals simp -implicitDefEqProofs only [go_sem, ↓reduceIte, Nat.reduceEqDiff, Nat.reduceAdd, Nat.reduceMul, Nat.reduceSub, Nat.reduceLeDiff, Nat.reduceLT, Nat.reducePow, reduceCtorEq, Int.reduceToNat, Int.reduceLT, Int.reduceLE, Int.reduceEq, Int.reduceAdd, Int.reduceSub, Int.reduceMul, Int.reduceNeg, Int.reduceTMod, Int.reduceTDiv, List.replicate_zero, List.replicate_succ]

theorem askNo1r (n : Nd) (e : Int) (m : List ByteArray) (hm : m.length ≤ 1000000) (h1 : boundN e m = 0) (h : n.lost = true ∨ e < n.p) (c : Int) (hc : c = if n.lost then 7 else 15) (B0 B4 BZ BR BL X0 X2 : Blk) :
    Deep Try.prog 43 [.agg [.d (.int .i64 n.p), .d (.int .i64 n.e), .ref 33 n.log.length 0 n.log.length, .d (.bool n.lost)], .c (.ptr 8 0), .c (.ptr 12 0)] [(0, B0), (4, B4), (8, .box [.d (.int .i64 e)]), (12, .box [.d (.sl 1 (strs m))]), (16, BZ), (85, X0), (33, .sl 1 (strs n.log) false), (34, X2), (84, BR), (100, BL)] 157
    (fun v h k => v = .tup [.agg [.d (.int .i64 0), .d (.int .i64 0), .d .nilSl, .d (.bool false)], .c (.d (.int .i64 c))] ∧ h = [(0, B0), (4, B4), (8, .box [.d (.int .i64 e)]), (12, .box [.d (.sl 1 (strs m))]), (16, BZ), (85, X0), (33, .sl 1 (strs n.log) false), (34, X2), (84, BR), (100, BL)] ∧ k = 201) := by
  refine Deep.of_wTK TryEnv Try.func43 (by decide) TryL43_ok Try.ntmps43 (rs := [.cell 4 24, .tmp 5]) rfl (by simp) [] ?_; rw [TryL43]
  refine wT_of TryEnv ?_
  repeat' first
    | simp -implicitDefEqProofs only [go_sem, ↓reduceIte, Nat.reduceEqDiff, Nat.reduceAdd, Nat.reduceMul, Nat.reduceSub, Nat.reduceLeDiff, Nat.reduceLT, Nat.reducePow, reduceCtorEq, Int.reduceToNat, Int.reduceLT, Int.reduceLE, Int.reduceEq, Int.reduceAdd, Int.reduceSub, Int.reduceMul, Int.reduceNeg, Int.reduceTMod, Int.reduceTDiv, List.replicate_zero, List.replicate_succ, List.contains_cons]
    | (refine wCall_intro (installE n e m hm h1 h c hc) ?_ ?_ ?_; rfl; exact Nat.le_of_ble_eq_true rfl)
    | apply And.intro
  refine wEnd_intro (.refl _) (Wk.drop ?_ ?_) ⟨rfl, rfl, rfl⟩
  all_goals simp -implicitDefEqProofs only [go_sem, ↓reduceIte, Nat.reduceEqDiff, Nat.reduceAdd, Nat.reduceMul, Nat.reduceSub, Nat.reduceLeDiff, Nat.reduceLT, Nat.reducePow, reduceCtorEq, Int.reduceToNat, Int.reduceLT, Int.reduceLE, Int.reduceEq, Int.reduceAdd, Int.reduceSub, Int.reduceMul, Int.reduceNeg, Int.reduceTMod, Int.reduceTDiv, List.replicate_zero, List.replicate_succ]

theorem askOk2oo (n : Nd) (e : Int) (m : List ByteArray) (hm : m.length ≤ 1000000) (h1 : boundN e m = 0) (h2 : n.lost = false) (h3 : ¬ e < n.p) (B0 B4 BZ BR BL X0 X1 : Blk) :
    Deep Try.prog 43 [.agg [.d (.int .i64 n.p), .d (.int .i64 n.e), .ref 34 n.log.length 0 n.log.length, .d (.bool n.lost)], .c (.ptr 8 0), .c (.ptr 12 0)] [(0, B0), (4, B4), (8, .box [.d (.int .i64 e)]), (12, .box [.d (.sl 1 (strs m))]), (16, BZ), (32, X0), (33, X1), (34, .sl 1 (strs n.log) false), (84, BR), (100, BL)] 157
    (fun v h k => v = .tup [.agg [.d (.int .i64 e), .d (.int .i64 e), .ref 181 m.length 0 m.length, .d (.bool false)], .c (.d (.int .i64 0))] ∧ h = [(0, B0), (4, B4), (8, .box [.d (.int .i64 e)]), (12, .box [.d (.sl 1 (strs m))]), (16, BZ), (32, X0), (33, X1), (84, BR), (100, BL), (181, .sl 1 (strs m) false)] ∧ k = 201) := by
  refine Deep.of_wTK TryEnv Try.func43 (by decide) TryL43_ok Try.ntmps43 (rs := [.cell 4 24, .tmp 5]) rfl (by simp) [181] ?_; rw [TryL43]
  refine wT_seq (wT_of TryEnv ?_)
  simp -implicitDefEqProofs only [go_sem, ↓reduceIte, Nat.reduceEqDiff, Nat.reduceAdd, Nat.reduceMul, Nat.reduceSub, Nat.reduceLeDiff, Nat.reduceLT, Nat.reducePow, reduceCtorEq, Int.reduceToNat, Int.reduceLT, Int.reduceLE, Int.reduceEq, Int.reduceAdd, Int.reduceSub, Int.reduceMul, Int.reduceNeg, Int.reduceTMod, Int.reduceTDiv, List.replicate_zero, List.replicate_succ]
  refine wT_wk (Wk.frz (b := 34) rfl) ?_
  refine wT_of TryEnv ?_
  repeat' first
    | simp -implicitDefEqProofs only [go_sem, ↓reduceIte, Nat.reduceEqDiff, Nat.reduceAdd, Nat.reduceMul, Nat.reduceSub, Nat.reduceLeDiff, Nat.reduceLT, Nat.reducePow, reduceCtorEq, Int.reduceToNat, Int.reduceLT, Int.reduceLE, Int.reduceEq, Int.reduceAdd, Int.reduceSub, Int.reduceMul, Int.reduceNeg, Int.reduceTMod, Int.reduceTDiv, List.replicate_zero, List.replicate_succ, List.contains_cons]
    | (refine wCall_intro (installR n e m hm h1 h2 h3) ?_ ?_ ?_; rfl; exact Nat.le_of_ble_eq_true rfl)
    | apply And.intro
  refine wEnd_intro (.refl _) (Wk.drop ?_ ?_) ⟨rfl, rfl, rfl⟩
  all_goals simp -implicitDefEqProofs only [go_sem, ↓reduceIte, Nat.reduceEqDiff, Nat.reduceAdd, Nat.reduceMul, Nat.reduceSub, Nat.reduceLeDiff, Nat.reduceLT, Nat.reducePow, reduceCtorEq, Int.reduceToNat, Int.reduceLT, Int.reduceLE, Int.reduceEq, Int.reduceAdd, Int.reduceSub, Int.reduceMul, Int.reduceNeg, Int.reduceTMod, Int.reduceTDiv, List.replicate_zero, List.replicate_succ]

theorem askNo2oo (n : Nd) (e : Int) (m : List ByteArray) (hm : m.length ≤ 1000000) (h1 : boundN e m = 0) (h : n.lost = true ∨ e < n.p) (c : Int) (hc : c = if n.lost then 7 else 15) (B0 B4 BZ BR BL X0 X1 : Blk) :
    Deep Try.prog 43 [.agg [.d (.int .i64 n.p), .d (.int .i64 n.e), .ref 34 n.log.length 0 n.log.length, .d (.bool n.lost)], .c (.ptr 8 0), .c (.ptr 12 0)] [(0, B0), (4, B4), (8, .box [.d (.int .i64 e)]), (12, .box [.d (.sl 1 (strs m))]), (16, BZ), (32, X0), (33, X1), (34, .sl 1 (strs n.log) false), (84, BR), (100, BL)] 157
    (fun v h k => v = .tup [.agg [.d (.int .i64 0), .d (.int .i64 0), .d .nilSl, .d (.bool false)], .c (.d (.int .i64 c))] ∧ h = [(0, B0), (4, B4), (8, .box [.d (.int .i64 e)]), (12, .box [.d (.sl 1 (strs m))]), (16, BZ), (32, X0), (33, X1), (34, .sl 1 (strs n.log) false), (84, BR), (100, BL)] ∧ k = 201) := by
  refine Deep.of_wTK TryEnv Try.func43 (by decide) TryL43_ok Try.ntmps43 (rs := [.cell 4 24, .tmp 5]) rfl (by simp) [] ?_; rw [TryL43]
  refine wT_of TryEnv ?_
  repeat' first
    | simp -implicitDefEqProofs only [go_sem, ↓reduceIte, Nat.reduceEqDiff, Nat.reduceAdd, Nat.reduceMul, Nat.reduceSub, Nat.reduceLeDiff, Nat.reduceLT, Nat.reducePow, reduceCtorEq, Int.reduceToNat, Int.reduceLT, Int.reduceLE, Int.reduceEq, Int.reduceAdd, Int.reduceSub, Int.reduceMul, Int.reduceNeg, Int.reduceTMod, Int.reduceTDiv, List.replicate_zero, List.replicate_succ, List.contains_cons]
    | (refine wCall_intro (installE n e m hm h1 h c hc) ?_ ?_ ?_; rfl; exact Nat.le_of_ble_eq_true rfl)
    | apply And.intro
  refine wEnd_intro (.refl _) (Wk.drop ?_ ?_) ⟨rfl, rfl, rfl⟩
  all_goals simp -implicitDefEqProofs only [go_sem, ↓reduceIte, Nat.reduceEqDiff, Nat.reduceAdd, Nat.reduceMul, Nat.reduceSub, Nat.reduceLeDiff, Nat.reduceLT, Nat.reducePow, reduceCtorEq, Int.reduceToNat, Int.reduceLT, Int.reduceLE, Int.reduceEq, Int.reduceAdd, Int.reduceSub, Int.reduceMul, Int.reduceNeg, Int.reduceTMod, Int.reduceTDiv, List.replicate_zero, List.replicate_succ]

theorem askOk2or (n : Nd) (e : Int) (m : List ByteArray) (hm : m.length ≤ 1000000) (h1 : boundN e m = 0) (h2 : n.lost = false) (h3 : ¬ e < n.p) (B0 B4 BZ BR BL X0 X1 : Blk) :
    Deep Try.prog 43 [.agg [.d (.int .i64 n.p), .d (.int .i64 n.e), .ref 34 n.log.length 0 n.log.length, .d (.bool n.lost)], .c (.ptr 8 0), .c (.ptr 12 0)] [(0, B0), (4, B4), (8, .box [.d (.int .i64 e)]), (12, .box [.d (.sl 1 (strs m))]), (16, BZ), (32, X0), (86, X1), (34, .sl 1 (strs n.log) false), (84, BR), (100, BL)] 157
    (fun v h k => v = .tup [.agg [.d (.int .i64 e), .d (.int .i64 e), .ref 181 m.length 0 m.length, .d (.bool false)], .c (.d (.int .i64 0))] ∧ h = [(0, B0), (4, B4), (8, .box [.d (.int .i64 e)]), (12, .box [.d (.sl 1 (strs m))]), (16, BZ), (32, X0), (86, X1), (84, BR), (100, BL), (181, .sl 1 (strs m) false)] ∧ k = 201) := by
  refine Deep.of_wTK TryEnv Try.func43 (by decide) TryL43_ok Try.ntmps43 (rs := [.cell 4 24, .tmp 5]) rfl (by simp) [181] ?_; rw [TryL43]
  refine wT_seq (wT_of TryEnv ?_)
  simp -implicitDefEqProofs only [go_sem, ↓reduceIte, Nat.reduceEqDiff, Nat.reduceAdd, Nat.reduceMul, Nat.reduceSub, Nat.reduceLeDiff, Nat.reduceLT, Nat.reducePow, reduceCtorEq, Int.reduceToNat, Int.reduceLT, Int.reduceLE, Int.reduceEq, Int.reduceAdd, Int.reduceSub, Int.reduceMul, Int.reduceNeg, Int.reduceTMod, Int.reduceTDiv, List.replicate_zero, List.replicate_succ]
  refine wT_wk (Wk.frz (b := 34) rfl) ?_
  refine wT_of TryEnv ?_
  repeat' first
    | simp -implicitDefEqProofs only [go_sem, ↓reduceIte, Nat.reduceEqDiff, Nat.reduceAdd, Nat.reduceMul, Nat.reduceSub, Nat.reduceLeDiff, Nat.reduceLT, Nat.reducePow, reduceCtorEq, Int.reduceToNat, Int.reduceLT, Int.reduceLE, Int.reduceEq, Int.reduceAdd, Int.reduceSub, Int.reduceMul, Int.reduceNeg, Int.reduceTMod, Int.reduceTDiv, List.replicate_zero, List.replicate_succ, List.contains_cons]
    | (refine wCall_intro (installR n e m hm h1 h2 h3) ?_ ?_ ?_; rfl; exact Nat.le_of_ble_eq_true rfl)
    | apply And.intro
  refine wEnd_intro (.refl _) (Wk.drop ?_ ?_) ⟨rfl, rfl, rfl⟩
  all_goals simp -implicitDefEqProofs only [go_sem, ↓reduceIte, Nat.reduceEqDiff, Nat.reduceAdd, Nat.reduceMul, Nat.reduceSub, Nat.reduceLeDiff, Nat.reduceLT, Nat.reducePow, reduceCtorEq, Int.reduceToNat, Int.reduceLT, Int.reduceLE, Int.reduceEq, Int.reduceAdd, Int.reduceSub, Int.reduceMul, Int.reduceNeg, Int.reduceTMod, Int.reduceTDiv, List.replicate_zero, List.replicate_succ]

theorem askNo2or (n : Nd) (e : Int) (m : List ByteArray) (hm : m.length ≤ 1000000) (h1 : boundN e m = 0) (h : n.lost = true ∨ e < n.p) (c : Int) (hc : c = if n.lost then 7 else 15) (B0 B4 BZ BR BL X0 X1 : Blk) :
    Deep Try.prog 43 [.agg [.d (.int .i64 n.p), .d (.int .i64 n.e), .ref 34 n.log.length 0 n.log.length, .d (.bool n.lost)], .c (.ptr 8 0), .c (.ptr 12 0)] [(0, B0), (4, B4), (8, .box [.d (.int .i64 e)]), (12, .box [.d (.sl 1 (strs m))]), (16, BZ), (32, X0), (86, X1), (34, .sl 1 (strs n.log) false), (84, BR), (100, BL)] 157
    (fun v h k => v = .tup [.agg [.d (.int .i64 0), .d (.int .i64 0), .d .nilSl, .d (.bool false)], .c (.d (.int .i64 c))] ∧ h = [(0, B0), (4, B4), (8, .box [.d (.int .i64 e)]), (12, .box [.d (.sl 1 (strs m))]), (16, BZ), (32, X0), (86, X1), (34, .sl 1 (strs n.log) false), (84, BR), (100, BL)] ∧ k = 201) := by
  refine Deep.of_wTK TryEnv Try.func43 (by decide) TryL43_ok Try.ntmps43 (rs := [.cell 4 24, .tmp 5]) rfl (by simp) [] ?_; rw [TryL43]
  refine wT_of TryEnv ?_
  repeat' first
    | simp -implicitDefEqProofs only [go_sem, ↓reduceIte, Nat.reduceEqDiff, Nat.reduceAdd, Nat.reduceMul, Nat.reduceSub, Nat.reduceLeDiff, Nat.reduceLT, Nat.reducePow, reduceCtorEq, Int.reduceToNat, Int.reduceLT, Int.reduceLE, Int.reduceEq, Int.reduceAdd, Int.reduceSub, Int.reduceMul, Int.reduceNeg, Int.reduceTMod, Int.reduceTDiv, List.replicate_zero, List.replicate_succ, List.contains_cons]
    | (refine wCall_intro (installE n e m hm h1 h c hc) ?_ ?_ ?_; rfl; exact Nat.le_of_ble_eq_true rfl)
    | apply And.intro
  refine wEnd_intro (.refl _) (Wk.drop ?_ ?_) ⟨rfl, rfl, rfl⟩
  all_goals simp -implicitDefEqProofs only [go_sem, ↓reduceIte, Nat.reduceEqDiff, Nat.reduceAdd, Nat.reduceMul, Nat.reduceSub, Nat.reduceLeDiff, Nat.reduceLT, Nat.reducePow, reduceCtorEq, Int.reduceToNat, Int.reduceLT, Int.reduceLE, Int.reduceEq, Int.reduceAdd, Int.reduceSub, Int.reduceMul, Int.reduceNeg, Int.reduceTMod, Int.reduceTDiv, List.replicate_zero, List.replicate_succ]

theorem askOk2ro (n : Nd) (e : Int) (m : List ByteArray) (hm : m.length ≤ 1000000) (h1 : boundN e m = 0) (h2 : n.lost = false) (h3 : ¬ e < n.p) (B0 B4 BZ BR BL X0 X1 : Blk) :
    Deep Try.prog 43 [.agg [.d (.int .i64 n.p), .d (.int .i64 n.e), .ref 34 n.log.length 0 n.log.length, .d (.bool n.lost)], .c (.ptr 8 0), .c (.ptr 12 0)] [(0, B0), (4, B4), (8, .box [.d (.int .i64 e)]), (12, .box [.d (.sl 1 (strs m))]), (16, BZ), (85, X0), (33, X1), (34, .sl 1 (strs n.log) false), (84, BR), (100, BL)] 157
    (fun v h k => v = .tup [.agg [.d (.int .i64 e), .d (.int .i64 e), .ref 181 m.length 0 m.length, .d (.bool false)], .c (.d (.int .i64 0))] ∧ h = [(0, B0), (4, B4), (8, .box [.d (.int .i64 e)]), (12, .box [.d (.sl 1 (strs m))]), (16, BZ), (85, X0), (33, X1), (84, BR), (100, BL), (181, .sl 1 (strs m) false)] ∧ k = 201) := by
  refine Deep.of_wTK TryEnv Try.func43 (by decide) TryL43_ok Try.ntmps43 (rs := [.cell 4 24, .tmp 5]) rfl (by simp) [181] ?_; rw [TryL43]
  refine wT_seq (wT_of TryEnv ?_)
  simp -implicitDefEqProofs only [go_sem, ↓reduceIte, Nat.reduceEqDiff, Nat.reduceAdd, Nat.reduceMul, Nat.reduceSub, Nat.reduceLeDiff, Nat.reduceLT, Nat.reducePow, reduceCtorEq, Int.reduceToNat, Int.reduceLT, Int.reduceLE, Int.reduceEq, Int.reduceAdd, Int.reduceSub, Int.reduceMul, Int.reduceNeg, Int.reduceTMod, Int.reduceTDiv, List.replicate_zero, List.replicate_succ]
  refine wT_wk (Wk.frz (b := 34) rfl) ?_
  refine wT_of TryEnv ?_
  repeat' first
    | simp -implicitDefEqProofs only [go_sem, ↓reduceIte, Nat.reduceEqDiff, Nat.reduceAdd, Nat.reduceMul, Nat.reduceSub, Nat.reduceLeDiff, Nat.reduceLT, Nat.reducePow, reduceCtorEq, Int.reduceToNat, Int.reduceLT, Int.reduceLE, Int.reduceEq, Int.reduceAdd, Int.reduceSub, Int.reduceMul, Int.reduceNeg, Int.reduceTMod, Int.reduceTDiv, List.replicate_zero, List.replicate_succ, List.contains_cons]
    | (refine wCall_intro (installR n e m hm h1 h2 h3) ?_ ?_ ?_; rfl; exact Nat.le_of_ble_eq_true rfl)
    | apply And.intro
  refine wEnd_intro (.refl _) (Wk.drop ?_ ?_) ⟨rfl, rfl, rfl⟩
  all_goals simp -implicitDefEqProofs only [go_sem, ↓reduceIte, Nat.reduceEqDiff, Nat.reduceAdd, Nat.reduceMul, Nat.reduceSub, Nat.reduceLeDiff, Nat.reduceLT, Nat.reducePow, reduceCtorEq, Int.reduceToNat, Int.reduceLT, Int.reduceLE, Int.reduceEq, Int.reduceAdd, Int.reduceSub, Int.reduceMul, Int.reduceNeg, Int.reduceTMod, Int.reduceTDiv, List.replicate_zero, List.replicate_succ]

theorem askNo2ro (n : Nd) (e : Int) (m : List ByteArray) (hm : m.length ≤ 1000000) (h1 : boundN e m = 0) (h : n.lost = true ∨ e < n.p) (c : Int) (hc : c = if n.lost then 7 else 15) (B0 B4 BZ BR BL X0 X1 : Blk) :
    Deep Try.prog 43 [.agg [.d (.int .i64 n.p), .d (.int .i64 n.e), .ref 34 n.log.length 0 n.log.length, .d (.bool n.lost)], .c (.ptr 8 0), .c (.ptr 12 0)] [(0, B0), (4, B4), (8, .box [.d (.int .i64 e)]), (12, .box [.d (.sl 1 (strs m))]), (16, BZ), (85, X0), (33, X1), (34, .sl 1 (strs n.log) false), (84, BR), (100, BL)] 157
    (fun v h k => v = .tup [.agg [.d (.int .i64 0), .d (.int .i64 0), .d .nilSl, .d (.bool false)], .c (.d (.int .i64 c))] ∧ h = [(0, B0), (4, B4), (8, .box [.d (.int .i64 e)]), (12, .box [.d (.sl 1 (strs m))]), (16, BZ), (85, X0), (33, X1), (34, .sl 1 (strs n.log) false), (84, BR), (100, BL)] ∧ k = 201) := by
  refine Deep.of_wTK TryEnv Try.func43 (by decide) TryL43_ok Try.ntmps43 (rs := [.cell 4 24, .tmp 5]) rfl (by simp) [] ?_; rw [TryL43]
  refine wT_of TryEnv ?_
  repeat' first
    | simp -implicitDefEqProofs only [go_sem, ↓reduceIte, Nat.reduceEqDiff, Nat.reduceAdd, Nat.reduceMul, Nat.reduceSub, Nat.reduceLeDiff, Nat.reduceLT, Nat.reducePow, reduceCtorEq, Int.reduceToNat, Int.reduceLT, Int.reduceLE, Int.reduceEq, Int.reduceAdd, Int.reduceSub, Int.reduceMul, Int.reduceNeg, Int.reduceTMod, Int.reduceTDiv, List.replicate_zero, List.replicate_succ, List.contains_cons]
    | (refine wCall_intro (installE n e m hm h1 h c hc) ?_ ?_ ?_; rfl; exact Nat.le_of_ble_eq_true rfl)
    | apply And.intro
  refine wEnd_intro (.refl _) (Wk.drop ?_ ?_) ⟨rfl, rfl, rfl⟩
  all_goals simp -implicitDefEqProofs only [go_sem, ↓reduceIte, Nat.reduceEqDiff, Nat.reduceAdd, Nat.reduceMul, Nat.reduceSub, Nat.reduceLeDiff, Nat.reduceLT, Nat.reducePow, reduceCtorEq, Int.reduceToNat, Int.reduceLT, Int.reduceLE, Int.reduceEq, Int.reduceAdd, Int.reduceSub, Int.reduceMul, Int.reduceNeg, Int.reduceTMod, Int.reduceTDiv, List.replicate_zero, List.replicate_succ]

theorem askOk2rr (n : Nd) (e : Int) (m : List ByteArray) (hm : m.length ≤ 1000000) (h1 : boundN e m = 0) (h2 : n.lost = false) (h3 : ¬ e < n.p) (B0 B4 BZ BR BL X0 X1 : Blk) :
    Deep Try.prog 43 [.agg [.d (.int .i64 n.p), .d (.int .i64 n.e), .ref 34 n.log.length 0 n.log.length, .d (.bool n.lost)], .c (.ptr 8 0), .c (.ptr 12 0)] [(0, B0), (4, B4), (8, .box [.d (.int .i64 e)]), (12, .box [.d (.sl 1 (strs m))]), (16, BZ), (85, X0), (86, X1), (34, .sl 1 (strs n.log) false), (84, BR), (100, BL)] 157
    (fun v h k => v = .tup [.agg [.d (.int .i64 e), .d (.int .i64 e), .ref 181 m.length 0 m.length, .d (.bool false)], .c (.d (.int .i64 0))] ∧ h = [(0, B0), (4, B4), (8, .box [.d (.int .i64 e)]), (12, .box [.d (.sl 1 (strs m))]), (16, BZ), (85, X0), (86, X1), (84, BR), (100, BL), (181, .sl 1 (strs m) false)] ∧ k = 201) := by
  refine Deep.of_wTK TryEnv Try.func43 (by decide) TryL43_ok Try.ntmps43 (rs := [.cell 4 24, .tmp 5]) rfl (by simp) [181] ?_; rw [TryL43]
  refine wT_seq (wT_of TryEnv ?_)
  simp -implicitDefEqProofs only [go_sem, ↓reduceIte, Nat.reduceEqDiff, Nat.reduceAdd, Nat.reduceMul, Nat.reduceSub, Nat.reduceLeDiff, Nat.reduceLT, Nat.reducePow, reduceCtorEq, Int.reduceToNat, Int.reduceLT, Int.reduceLE, Int.reduceEq, Int.reduceAdd, Int.reduceSub, Int.reduceMul, Int.reduceNeg, Int.reduceTMod, Int.reduceTDiv, List.replicate_zero, List.replicate_succ]
  refine wT_wk (Wk.frz (b := 34) rfl) ?_
  refine wT_of TryEnv ?_
  repeat' first
    | simp -implicitDefEqProofs only [go_sem, ↓reduceIte, Nat.reduceEqDiff, Nat.reduceAdd, Nat.reduceMul, Nat.reduceSub, Nat.reduceLeDiff, Nat.reduceLT, Nat.reducePow, reduceCtorEq, Int.reduceToNat, Int.reduceLT, Int.reduceLE, Int.reduceEq, Int.reduceAdd, Int.reduceSub, Int.reduceMul, Int.reduceNeg, Int.reduceTMod, Int.reduceTDiv, List.replicate_zero, List.replicate_succ, List.contains_cons]
    | (refine wCall_intro (installR n e m hm h1 h2 h3) ?_ ?_ ?_; rfl; exact Nat.le_of_ble_eq_true rfl)
    | apply And.intro
  refine wEnd_intro (.refl _) (Wk.drop ?_ ?_) ⟨rfl, rfl, rfl⟩
  all_goals simp -implicitDefEqProofs only [go_sem, ↓reduceIte, Nat.reduceEqDiff, Nat.reduceAdd, Nat.reduceMul, Nat.reduceSub, Nat.reduceLeDiff, Nat.reduceLT, Nat.reducePow, reduceCtorEq, Int.reduceToNat, Int.reduceLT, Int.reduceLE, Int.reduceEq, Int.reduceAdd, Int.reduceSub, Int.reduceMul, Int.reduceNeg, Int.reduceTMod, Int.reduceTDiv, List.replicate_zero, List.replicate_succ]

theorem askNo2rr (n : Nd) (e : Int) (m : List ByteArray) (hm : m.length ≤ 1000000) (h1 : boundN e m = 0) (h : n.lost = true ∨ e < n.p) (c : Int) (hc : c = if n.lost then 7 else 15) (B0 B4 BZ BR BL X0 X1 : Blk) :
    Deep Try.prog 43 [.agg [.d (.int .i64 n.p), .d (.int .i64 n.e), .ref 34 n.log.length 0 n.log.length, .d (.bool n.lost)], .c (.ptr 8 0), .c (.ptr 12 0)] [(0, B0), (4, B4), (8, .box [.d (.int .i64 e)]), (12, .box [.d (.sl 1 (strs m))]), (16, BZ), (85, X0), (86, X1), (34, .sl 1 (strs n.log) false), (84, BR), (100, BL)] 157
    (fun v h k => v = .tup [.agg [.d (.int .i64 0), .d (.int .i64 0), .d .nilSl, .d (.bool false)], .c (.d (.int .i64 c))] ∧ h = [(0, B0), (4, B4), (8, .box [.d (.int .i64 e)]), (12, .box [.d (.sl 1 (strs m))]), (16, BZ), (85, X0), (86, X1), (34, .sl 1 (strs n.log) false), (84, BR), (100, BL)] ∧ k = 201) := by
  refine Deep.of_wTK TryEnv Try.func43 (by decide) TryL43_ok Try.ntmps43 (rs := [.cell 4 24, .tmp 5]) rfl (by simp) [] ?_; rw [TryL43]
  refine wT_of TryEnv ?_
  repeat' first
    | simp -implicitDefEqProofs only [go_sem, ↓reduceIte, Nat.reduceEqDiff, Nat.reduceAdd, Nat.reduceMul, Nat.reduceSub, Nat.reduceLeDiff, Nat.reduceLT, Nat.reducePow, reduceCtorEq, Int.reduceToNat, Int.reduceLT, Int.reduceLE, Int.reduceEq, Int.reduceAdd, Int.reduceSub, Int.reduceMul, Int.reduceNeg, Int.reduceTMod, Int.reduceTDiv, List.replicate_zero, List.replicate_succ, List.contains_cons]
    | (refine wCall_intro (installE n e m hm h1 h c hc) ?_ ?_ ?_; rfl; exact Nat.le_of_ble_eq_true rfl)
    | apply And.intro
  refine wEnd_intro (.refl _) (Wk.drop ?_ ?_) ⟨rfl, rfl, rfl⟩
  all_goals simp -implicitDefEqProofs only [go_sem, ↓reduceIte, Nat.reduceEqDiff, Nat.reduceAdd, Nat.reduceMul, Nat.reduceSub, Nat.reduceLeDiff, Nat.reduceLT, Nat.reducePow, reduceCtorEq, Int.reduceToNat, Int.reduceLT, Int.reduceLE, Int.reduceEq, Int.reduceAdd, Int.reduceSub, Int.reduceMul, Int.reduceNeg, Int.reduceTMod, Int.reduceTDiv, List.replicate_zero, List.replicate_succ]
end Go.Proofs.Ytehmaafnbgpkcaa
