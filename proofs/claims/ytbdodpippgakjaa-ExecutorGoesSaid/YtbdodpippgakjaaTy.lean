/- This text proves a part of what the claim needs: contracts of functions of the program. No condition. -/
import Derived.Test.YtbdodpippgakjaaProg
import Derived.Test.YtbdodpippgakjaaVsC
import Derived.KernelRfl
set_option linter.unusedSimpArgs false
set_option linter.unusedVariables false

namespace Go.Proofs.Ytbdodpippgakjaa
open Go Go.Vs Go.Proofs
set_option maxRecDepth 10000

theorem int_inv {k : IntKind} {n : Int} {zs : List D} {xs : List Value} (h : kindsV (.int k n :: zs) xs = true) : ∃ a xs', xs = .int k a :: xs' ∧ kindsV zs xs' = true := by
  cases xs with
  | nil => simp [kindsV] at h
  | cons v xs =>
    cases v <;> simp [kindsV] at h
    obtain ⟨rfl, h⟩ := h
    exact ⟨_, _, rfl, h⟩

theorem eq_inv {k : IntKind} {a : Int} {xs ys : List Value} {r : Bool} (h : eqVals (.int k a :: xs) ys = some r) : ∃ b ys' r', ys = .int k b :: ys' ∧ eqVals xs ys' = some r' ∧ r = (decide (a = b) && r') := by
  cases ys with
  | nil => simp [eqVals] at h
  | cons v ys =>
    cases v
    case int k' b =>
      rw [eqVals] at h
      split at h
      · rename_i e
        subst e
        obtain ⟨r', h1, h2⟩ := Option.map_eq_some_iff.1 h
        exact ⟨b, ys, r', rfl, h1, h2.symm⟩
      · simp at h
    all_goals simp [eqVals] at h

theorem eq_nil {ys : List Value} {r : Bool} (h : eqVals [] ys = some r) : ys = [] ∧ r = true := by
  cases ys <;> simp [eqVals] at h
  exact ⟨rfl, by simpa using h⟩

theorem kinds_nil {xs : List Value} (h : kindsV [] xs = true) : xs = [] := by
  cases xs <;> simp [kindsV] at h
  rfl

theorem equal_intIn {t : Nat} {k k' : IntKind} {p q : Int} {w : World} (h : Try.prog.underlying t = some (.int k')) (d : Nat) : (Op.equalIn (d + 1) t (.int k p) (.int k q)).run Try.prog w = .ok (p == q) w := by
  simp [Op.equalIn, run_und h]

theorem equal42In {a0 a1 a2 b0 b1 b2 : Int} {w : World} (d : Nat) : (Op.equalIn (d + 2) 42 (.agg #[.int .i64 a0, .int .i64 a1, .int .u8 a2]) (.agg #[.int .i64 b0, .int .i64 b1, .int .u8 b2])).run Try.prog w = .ok (decide (a0 = b0) && (decide (a1 = b1) && (decide (a2 = b2) && true))) w := by
  have hst : Try.prog.stoodInHeld 42 = false := by kernel_rfl
  rw [show d + 2 = (d + 1) + 1 from rfl, Op.equalIn]
  simp [run_und Try.underlying42, hst, part, equal_intIn Try.underlying3, equal_intIn Try.underlying30, equal_intIn Try.underlying62]
  by_cases h0 : a0 = b0 <;> simp [h0]
  all_goals (try by_cases h1 : a1 = b1 <;> simp [h1])
  all_goals (try by_cases h2 : a2 = b2 <;> simp [h2])

theorem eq42 : EqOk Try.prog 42 [.int .i64 0, .int .i64 0, .int .u8 0] := by
  refine ⟨by kernel_rfl, fun w xs ys r h1 h2 => ?_⟩
  obtain ⟨a0, xs0, rfl, k0⟩ := int_inv h1
  obtain ⟨a1, xs1, rfl, k1⟩ := int_inv k0
  obtain ⟨a2, xs2, rfl, k2⟩ := int_inv k1
  cases kinds_nil k2
  obtain ⟨b0, ys0, r0, rfl, g0, rfl⟩ := eq_inv h2
  obtain ⟨b1, ys1, r1, rfl, g1, rfl⟩ := eq_inv g0
  obtain ⟨b2, ys2, r2, rfl, g2, rfl⟩ := eq_inv g1
  obtain ⟨rfl, rfl⟩ := eq_nil g2
  exact equal42In 9998

theorem equal64In {a0 a1 a2 a3 b0 b1 b2 b3 : Int} {w : World} (d : Nat) : (Op.equalIn (d + 2) 64 (.agg #[.int .u8 a0, .int .i64 a1, .int .i64 a2, .int .i64 a3]) (.agg #[.int .u8 b0, .int .i64 b1, .int .i64 b2, .int .i64 b3])).run Try.prog w = .ok (decide (a0 = b0) && (decide (a1 = b1) && (decide (a2 = b2) && (decide (a3 = b3) && true)))) w := by
  have hst : Try.prog.stoodInHeld 64 = false := by kernel_rfl
  rw [show d + 2 = (d + 1) + 1 from rfl, Op.equalIn]
  simp [run_und Try.underlying64, hst, part, equal_intIn Try.underlying3, equal_intIn Try.underlying30, equal_intIn Try.underlying62]
  by_cases h0 : a0 = b0 <;> simp [h0]
  all_goals (try by_cases h1 : a1 = b1 <;> simp [h1])
  all_goals (try by_cases h2 : a2 = b2 <;> simp [h2])
  all_goals (try by_cases h3 : a3 = b3 <;> simp [h3])

theorem eq64 : EqOk Try.prog 64 [.int .u8 0, .int .i64 0, .int .i64 0, .int .i64 0] := by
  refine ⟨by kernel_rfl, fun w xs ys r h1 h2 => ?_⟩
  obtain ⟨a0, xs0, rfl, k0⟩ := int_inv h1
  obtain ⟨a1, xs1, rfl, k1⟩ := int_inv k0
  obtain ⟨a2, xs2, rfl, k2⟩ := int_inv k1
  obtain ⟨a3, xs3, rfl, k3⟩ := int_inv k2
  cases kinds_nil k3
  obtain ⟨b0, ys0, r0, rfl, g0, rfl⟩ := eq_inv h2
  obtain ⟨b1, ys1, r1, rfl, g1, rfl⟩ := eq_inv g0
  obtain ⟨b2, ys2, r2, rfl, g2, rfl⟩ := eq_inv g1
  obtain ⟨b3, ys3, r3, rfl, g3, rfl⟩ := eq_inv g2
  obtain ⟨rfl, rfl⟩ := eq_nil g3
  exact equal64In 9998

theorem equal66In {a0 a1 a2 a3 a4 a5 b0 b1 b2 b3 b4 b5 : Int} {w : World} (d : Nat) : (Op.equalIn (d + 3) 66 (.agg #[.int .i64 a0, .int .i64 a1, .int .u8 a2, .int .i64 a3, .int .i64 a4, .int .i64 a5]) (.agg #[.int .i64 b0, .int .i64 b1, .int .u8 b2, .int .i64 b3, .int .i64 b4, .int .i64 b5])).run Try.prog w = .ok (decide (a0 = b0) && (decide (a1 = b1) && (decide (a2 = b2) && (decide (a3 = b3) && (decide (a4 = b4) && (decide (a5 = b5) && true)))))) w := by
  have hst : Try.prog.stoodInHeld 66 = false := by kernel_rfl
  rw [show d + 3 = (d + 2) + 1 from rfl, Op.equalIn]
  simp [run_und Try.underlying66, hst, part, equal_intIn Try.underlying3, equal_intIn Try.underlying30, equal_intIn Try.underlying62, show Try.t64.size = 4 from rfl, equal64In]
  by_cases h0 : a0 = b0 <;> simp [h0]
  all_goals (try by_cases h1 : a1 = b1 <;> simp [h1])
  all_goals (try by_cases h2 : a2 = b2 <;> simp [h2])
  all_goals (try by_cases h3 : a3 = b3 <;> simp [h3])
  all_goals (try by_cases h4 : a4 = b4 <;> simp [h4])
  all_goals (try by_cases h5 : a5 = b5 <;> simp [h5])

theorem eq66 : EqOk Try.prog 66 [.int .i64 0, .int .i64 0, .int .u8 0, .int .i64 0, .int .i64 0, .int .i64 0] := by
  refine ⟨by kernel_rfl, fun w xs ys r h1 h2 => ?_⟩
  obtain ⟨a0, xs0, rfl, k0⟩ := int_inv h1
  obtain ⟨a1, xs1, rfl, k1⟩ := int_inv k0
  obtain ⟨a2, xs2, rfl, k2⟩ := int_inv k1
  obtain ⟨a3, xs3, rfl, k3⟩ := int_inv k2
  obtain ⟨a4, xs4, rfl, k4⟩ := int_inv k3
  obtain ⟨a5, xs5, rfl, k5⟩ := int_inv k4
  cases kinds_nil k5
  obtain ⟨b0, ys0, r0, rfl, g0, rfl⟩ := eq_inv h2
  obtain ⟨b1, ys1, r1, rfl, g1, rfl⟩ := eq_inv g0
  obtain ⟨b2, ys2, r2, rfl, g2, rfl⟩ := eq_inv g1
  obtain ⟨b3, ys3, r3, rfl, g3, rfl⟩ := eq_inv g2
  obtain ⟨b4, ys4, r4, rfl, g4, rfl⟩ := eq_inv g3
  obtain ⟨b5, ys5, r5, rfl, g5, rfl⟩ := eq_inv g4
  obtain ⟨rfl, rfl⟩ := eq_nil g5
  exact equal66In 9997

end Go.Proofs.Ytbdodpippgakjaa

namespace Go.Proofs.Ytbdodpippgakjaa
open Go Go.Vs Go.Proofs

def TryTv : Tv := [
  (3, ⟨1, false, [.int .i64 0], false, .int .i64⟩),
  (4, ⟨1, false, [.bool false], false, .bool⟩),
  (5, ⟨1, false, [.int .u8 0], false, .int .u8⟩),
  (22, ⟨1, false, [.nilSl], false, .slc 4 32 [.int .u8 0, .int .i64 0, .int .i64 0, .int .i64 0]⟩),
  (23, ⟨1, false, [.nilSl], false, .slc 1 24 [.nilSl]⟩),
  (25, ⟨2, true, [.nilSl, .nilSl], false, .strct [(0, 1, false), (1, 1, false)]⟩),
  (26, ⟨1, false, [.nilSl], false, .slc 3 24 [.int .i64 0, .int .i64 0, .int .u8 0]⟩),
  (28, ⟨6, true, [.bool false, .bool false, .nilSl, .nilSl, .nilSl, .int .i64 0], false, .strct [(0, 1, false), (1, 1, false), (2, 2, true), (4, 1, false), (5, 1, false)]⟩),
  (29, ⟨1, false, [.int .u8 0], false, .int .u8⟩),
  (30, ⟨1, false, [.int .u8 0], false, .int .u8⟩),
  (32, ⟨7, true, [.int .u8 0, .int .i64 0, .int .i64 0, .int .i64 0, .int .u8 0, .nilSl, .nilSl], false, .strct [(0, 1, false), (1, 1, false), (2, 1, false), (3, 1, false), (4, 1, false), (5, 2, true)]⟩),
  (36, ⟨1, false, [.int .i64 0], false, .int .i64⟩),
  (42, ⟨3, true, [.int .i64 0, .int .i64 0, .int .u8 0], true, .strct [(0, 1, false), (1, 1, false), (2, 1, false)]⟩),
  (43, ⟨1, false, [.nilSl], false, .slc 1 8 [.int .i64 0]⟩),
  (48, ⟨1, false, [.nilSl], false, .slc 6 48 [.int .i64 0, .int .i64 0, .int .u8 0, .int .i64 0, .int .i64 0, .int .i64 0]⟩),
  (50, ⟨1, false, [.nilSl], false, .slc 7 88 [.int .u8 0, .int .i64 0, .int .i64 0, .int .i64 0, .int .u8 0, .nilSl, .nilSl]⟩),
  (55, ⟨1, false, [.nilSl], false, .slc 4 56 [.int .u8 0, .int .u8 0, .nilSl, .nilSl]⟩),
  (59, ⟨4, true, [.int .u8 0, .int .u8 0, .nilSl, .nilSl], false, .strct [(0, 1, false), (1, 1, false), (2, 2, true)]⟩),
  (64, ⟨4, true, [.int .u8 0, .int .i64 0, .int .i64 0, .int .i64 0], true, .strct [(0, 1, false), (1, 1, false), (2, 1, false), (3, 1, false)]⟩),
  (66, ⟨6, true, [.int .i64 0, .int .i64 0, .int .u8 0, .int .i64 0, .int .i64 0, .int .i64 0], true, .strct [(0, 1, false), (1, 1, false), (2, 4, true)]⟩),
  (74, ⟨1, false, [.nilMap], false, .map .u8 (.nilFn)⟩),
  (80, ⟨1, false, [.nilMap], false, .map .i64 (.nilSl)⟩),
  (84, ⟨1, false, [.nilSl], false, .slc 1 1 [.bool false]⟩)]
@[go_sem] theorem TryTv_3 : tyOf TryTv 3 = ⟨1, false, [.int .i64 0], false, .int .i64⟩ := rfl
@[go_sem] theorem TryTw_3 : Go.Vs.look TryTv 3 = some ⟨1, false, [.int .i64 0], false, .int .i64⟩ := rfl
@[go_sem] theorem TryTv_4 : tyOf TryTv 4 = ⟨1, false, [.bool false], false, .bool⟩ := rfl
@[go_sem] theorem TryTw_4 : Go.Vs.look TryTv 4 = some ⟨1, false, [.bool false], false, .bool⟩ := rfl
@[go_sem] theorem TryTv_5 : tyOf TryTv 5 = ⟨1, false, [.int .u8 0], false, .int .u8⟩ := rfl
@[go_sem] theorem TryTw_5 : Go.Vs.look TryTv 5 = some ⟨1, false, [.int .u8 0], false, .int .u8⟩ := rfl
@[go_sem] theorem TryTv_22 : tyOf TryTv 22 = ⟨1, false, [.nilSl], false, .slc 4 32 [.int .u8 0, .int .i64 0, .int .i64 0, .int .i64 0]⟩ := rfl
@[go_sem] theorem TryTw_22 : Go.Vs.look TryTv 22 = some ⟨1, false, [.nilSl], false, .slc 4 32 [.int .u8 0, .int .i64 0, .int .i64 0, .int .i64 0]⟩ := rfl
@[go_sem] theorem TryTv_23 : tyOf TryTv 23 = ⟨1, false, [.nilSl], false, .slc 1 24 [.nilSl]⟩ := rfl
@[go_sem] theorem TryTw_23 : Go.Vs.look TryTv 23 = some ⟨1, false, [.nilSl], false, .slc 1 24 [.nilSl]⟩ := rfl
@[go_sem] theorem TryTv_25 : tyOf TryTv 25 = ⟨2, true, [.nilSl, .nilSl], false, .strct [(0, 1, false), (1, 1, false)]⟩ := rfl
@[go_sem] theorem TryTw_25 : Go.Vs.look TryTv 25 = some ⟨2, true, [.nilSl, .nilSl], false, .strct [(0, 1, false), (1, 1, false)]⟩ := rfl
@[go_sem] theorem TryTv_26 : tyOf TryTv 26 = ⟨1, false, [.nilSl], false, .slc 3 24 [.int .i64 0, .int .i64 0, .int .u8 0]⟩ := rfl
@[go_sem] theorem TryTw_26 : Go.Vs.look TryTv 26 = some ⟨1, false, [.nilSl], false, .slc 3 24 [.int .i64 0, .int .i64 0, .int .u8 0]⟩ := rfl
@[go_sem] theorem TryTv_28 : tyOf TryTv 28 = ⟨6, true, [.bool false, .bool false, .nilSl, .nilSl, .nilSl, .int .i64 0], false, .strct [(0, 1, false), (1, 1, false), (2, 2, true), (4, 1, false), (5, 1, false)]⟩ := rfl
@[go_sem] theorem TryTw_28 : Go.Vs.look TryTv 28 = some ⟨6, true, [.bool false, .bool false, .nilSl, .nilSl, .nilSl, .int .i64 0], false, .strct [(0, 1, false), (1, 1, false), (2, 2, true), (4, 1, false), (5, 1, false)]⟩ := rfl
@[go_sem] theorem TryTv_29 : tyOf TryTv 29 = ⟨1, false, [.int .u8 0], false, .int .u8⟩ := rfl
@[go_sem] theorem TryTw_29 : Go.Vs.look TryTv 29 = some ⟨1, false, [.int .u8 0], false, .int .u8⟩ := rfl
@[go_sem] theorem TryTv_30 : tyOf TryTv 30 = ⟨1, false, [.int .u8 0], false, .int .u8⟩ := rfl
@[go_sem] theorem TryTw_30 : Go.Vs.look TryTv 30 = some ⟨1, false, [.int .u8 0], false, .int .u8⟩ := rfl
@[go_sem] theorem TryTv_32 : tyOf TryTv 32 = ⟨7, true, [.int .u8 0, .int .i64 0, .int .i64 0, .int .i64 0, .int .u8 0, .nilSl, .nilSl], false, .strct [(0, 1, false), (1, 1, false), (2, 1, false), (3, 1, false), (4, 1, false), (5, 2, true)]⟩ := rfl
@[go_sem] theorem TryTw_32 : Go.Vs.look TryTv 32 = some ⟨7, true, [.int .u8 0, .int .i64 0, .int .i64 0, .int .i64 0, .int .u8 0, .nilSl, .nilSl], false, .strct [(0, 1, false), (1, 1, false), (2, 1, false), (3, 1, false), (4, 1, false), (5, 2, true)]⟩ := rfl
@[go_sem] theorem TryTv_36 : tyOf TryTv 36 = ⟨1, false, [.int .i64 0], false, .int .i64⟩ := rfl
@[go_sem] theorem TryTw_36 : Go.Vs.look TryTv 36 = some ⟨1, false, [.int .i64 0], false, .int .i64⟩ := rfl
@[go_sem] theorem TryTv_42 : tyOf TryTv 42 = ⟨3, true, [.int .i64 0, .int .i64 0, .int .u8 0], true, .strct [(0, 1, false), (1, 1, false), (2, 1, false)]⟩ := rfl
@[go_sem] theorem TryTw_42 : Go.Vs.look TryTv 42 = some ⟨3, true, [.int .i64 0, .int .i64 0, .int .u8 0], true, .strct [(0, 1, false), (1, 1, false), (2, 1, false)]⟩ := rfl
@[go_sem] theorem TryTv_43 : tyOf TryTv 43 = ⟨1, false, [.nilSl], false, .slc 1 8 [.int .i64 0]⟩ := rfl
@[go_sem] theorem TryTw_43 : Go.Vs.look TryTv 43 = some ⟨1, false, [.nilSl], false, .slc 1 8 [.int .i64 0]⟩ := rfl
@[go_sem] theorem TryTv_48 : tyOf TryTv 48 = ⟨1, false, [.nilSl], false, .slc 6 48 [.int .i64 0, .int .i64 0, .int .u8 0, .int .i64 0, .int .i64 0, .int .i64 0]⟩ := rfl
@[go_sem] theorem TryTw_48 : Go.Vs.look TryTv 48 = some ⟨1, false, [.nilSl], false, .slc 6 48 [.int .i64 0, .int .i64 0, .int .u8 0, .int .i64 0, .int .i64 0, .int .i64 0]⟩ := rfl
@[go_sem] theorem TryTv_50 : tyOf TryTv 50 = ⟨1, false, [.nilSl], false, .slc 7 88 [.int .u8 0, .int .i64 0, .int .i64 0, .int .i64 0, .int .u8 0, .nilSl, .nilSl]⟩ := rfl
@[go_sem] theorem TryTw_50 : Go.Vs.look TryTv 50 = some ⟨1, false, [.nilSl], false, .slc 7 88 [.int .u8 0, .int .i64 0, .int .i64 0, .int .i64 0, .int .u8 0, .nilSl, .nilSl]⟩ := rfl
@[go_sem] theorem TryTv_55 : tyOf TryTv 55 = ⟨1, false, [.nilSl], false, .slc 4 56 [.int .u8 0, .int .u8 0, .nilSl, .nilSl]⟩ := rfl
@[go_sem] theorem TryTw_55 : Go.Vs.look TryTv 55 = some ⟨1, false, [.nilSl], false, .slc 4 56 [.int .u8 0, .int .u8 0, .nilSl, .nilSl]⟩ := rfl
@[go_sem] theorem TryTv_59 : tyOf TryTv 59 = ⟨4, true, [.int .u8 0, .int .u8 0, .nilSl, .nilSl], false, .strct [(0, 1, false), (1, 1, false), (2, 2, true)]⟩ := rfl
@[go_sem] theorem TryTw_59 : Go.Vs.look TryTv 59 = some ⟨4, true, [.int .u8 0, .int .u8 0, .nilSl, .nilSl], false, .strct [(0, 1, false), (1, 1, false), (2, 2, true)]⟩ := rfl
@[go_sem] theorem TryTv_64 : tyOf TryTv 64 = ⟨4, true, [.int .u8 0, .int .i64 0, .int .i64 0, .int .i64 0], true, .strct [(0, 1, false), (1, 1, false), (2, 1, false), (3, 1, false)]⟩ := rfl
@[go_sem] theorem TryTw_64 : Go.Vs.look TryTv 64 = some ⟨4, true, [.int .u8 0, .int .i64 0, .int .i64 0, .int .i64 0], true, .strct [(0, 1, false), (1, 1, false), (2, 1, false), (3, 1, false)]⟩ := rfl
@[go_sem] theorem TryTv_66 : tyOf TryTv 66 = ⟨6, true, [.int .i64 0, .int .i64 0, .int .u8 0, .int .i64 0, .int .i64 0, .int .i64 0], true, .strct [(0, 1, false), (1, 1, false), (2, 4, true)]⟩ := rfl
@[go_sem] theorem TryTw_66 : Go.Vs.look TryTv 66 = some ⟨6, true, [.int .i64 0, .int .i64 0, .int .u8 0, .int .i64 0, .int .i64 0, .int .i64 0], true, .strct [(0, 1, false), (1, 1, false), (2, 4, true)]⟩ := rfl
@[go_sem] theorem TryTv_74 : tyOf TryTv 74 = ⟨1, false, [.nilMap], false, .map .u8 (.nilFn)⟩ := rfl
@[go_sem] theorem TryTw_74 : Go.Vs.look TryTv 74 = some ⟨1, false, [.nilMap], false, .map .u8 (.nilFn)⟩ := rfl
@[go_sem] theorem TryTv_80 : tyOf TryTv 80 = ⟨1, false, [.nilMap], false, .map .i64 (.nilSl)⟩ := rfl
@[go_sem] theorem TryTw_80 : Go.Vs.look TryTv 80 = some ⟨1, false, [.nilMap], false, .map .i64 (.nilSl)⟩ := rfl
@[go_sem] theorem TryTv_84 : tyOf TryTv 84 = ⟨1, false, [.nilSl], false, .slc 1 1 [.bool false]⟩ := rfl
@[go_sem] theorem TryTw_84 : Go.Vs.look TryTv 84 = some ⟨1, false, [.nilSl], false, .slc 1 1 [.bool false]⟩ := rfl

theorem TryTok_3 : TyOk Try.prog 3 ⟨1, false, [.int .i64 0], false, .int .i64⟩ where
  info := ⟨Try.t3, Try.type3, rfl, rfl⟩
  und := ⟨_, Try.underlying3, rfl, rfl⟩
  flat := rfl
  one := by decide
  len := rfl
  eqf := by simp
theorem TryTok_4 : TyOk Try.prog 4 ⟨1, false, [.bool false], false, .bool⟩ where
  info := ⟨Try.t4, Try.type4, rfl, rfl⟩
  und := ⟨_, Try.underlying4, rfl, rfl⟩
  flat := rfl
  one := by decide
  len := rfl
  eqf := by simp
theorem TryTok_5 : TyOk Try.prog 5 ⟨1, false, [.int .u8 0], false, .int .u8⟩ where
  info := ⟨Try.t5, Try.type5, rfl, rfl⟩
  und := ⟨_, Try.underlying5, rfl, rfl⟩
  flat := rfl
  one := by decide
  len := rfl
  eqf := by simp
theorem TryTok_22 : TyOk Try.prog 22 ⟨1, false, [.nilSl], false, .slc 4 32 [.int .u8 0, .int .i64 0, .int .i64 0, .int .i64 0]⟩ where
  info := ⟨Try.t22, Try.type22, rfl, rfl⟩
  und := ⟨_, Try.underlying22, rfl, ⟨64, Try.t64, _, rfl, Try.type64, rfl, rfl, rfl, rfl, by decide, rfl, rfl, by decide⟩⟩
  flat := rfl
  one := by decide
  len := rfl
  eqf := by simp
theorem TryTok_23 : TyOk Try.prog 23 ⟨1, false, [.nilSl], false, .slc 1 24 [.nilSl]⟩ where
  info := ⟨Try.t23, Try.type23, rfl, rfl⟩
  und := ⟨_, Try.underlying23, rfl, ⟨43, Try.t43, _, rfl, Try.type43, rfl, rfl, rfl, rfl, by decide, rfl, rfl, by decide⟩⟩
  flat := rfl
  one := by decide
  len := rfl
  eqf := by simp
theorem TryTok_25 : TyOk Try.prog 25 ⟨2, true, [.nilSl, .nilSl], false, .strct [(0, 1, false), (1, 1, false)]⟩ where
  info := ⟨Try.t25, Try.type25, rfl, rfl⟩
  und := ⟨_, Try.underlying25, rfl, ⟨_, rfl, rfl⟩⟩
  flat := rfl
  one := by decide
  len := rfl
  eqf := by simp
theorem TryTok_26 : TyOk Try.prog 26 ⟨1, false, [.nilSl], false, .slc 3 24 [.int .i64 0, .int .i64 0, .int .u8 0]⟩ where
  info := ⟨Try.t26, Try.type26, rfl, rfl⟩
  und := ⟨_, Try.underlying26, rfl, ⟨42, Try.t42, _, rfl, Try.type42, rfl, rfl, rfl, rfl, by decide, rfl, rfl, by decide⟩⟩
  flat := rfl
  one := by decide
  len := rfl
  eqf := by simp
theorem TryTok_28 : TyOk Try.prog 28 ⟨6, true, [.bool false, .bool false, .nilSl, .nilSl, .nilSl, .int .i64 0], false, .strct [(0, 1, false), (1, 1, false), (2, 2, true), (4, 1, false), (5, 1, false)]⟩ where
  info := ⟨Try.t28, Try.type28, rfl, rfl⟩
  und := ⟨_, Try.underlying28, rfl, ⟨_, rfl, rfl⟩⟩
  flat := rfl
  one := by decide
  len := rfl
  eqf := by simp
theorem TryTok_29 : TyOk Try.prog 29 ⟨1, false, [.int .u8 0], false, .int .u8⟩ where
  info := ⟨Try.t29, Try.type29, rfl, rfl⟩
  und := ⟨_, Try.underlying29, rfl, rfl⟩
  flat := rfl
  one := by decide
  len := rfl
  eqf := by simp
theorem TryTok_30 : TyOk Try.prog 30 ⟨1, false, [.int .u8 0], false, .int .u8⟩ where
  info := ⟨Try.t30, Try.type30, rfl, rfl⟩
  und := ⟨_, Try.underlying30, rfl, rfl⟩
  flat := rfl
  one := by decide
  len := rfl
  eqf := by simp
theorem TryTok_32 : TyOk Try.prog 32 ⟨7, true, [.int .u8 0, .int .i64 0, .int .i64 0, .int .i64 0, .int .u8 0, .nilSl, .nilSl], false, .strct [(0, 1, false), (1, 1, false), (2, 1, false), (3, 1, false), (4, 1, false), (5, 2, true)]⟩ where
  info := ⟨Try.t32, Try.type32, rfl, rfl⟩
  und := ⟨_, Try.underlying32, rfl, ⟨_, rfl, rfl⟩⟩
  flat := rfl
  one := by decide
  len := rfl
  eqf := by simp
theorem TryTok_36 : TyOk Try.prog 36 ⟨1, false, [.int .i64 0], false, .int .i64⟩ where
  info := ⟨Try.t36, Try.type36, rfl, rfl⟩
  und := ⟨_, Try.underlying36, rfl, rfl⟩
  flat := rfl
  one := by decide
  len := rfl
  eqf := by simp
theorem TryTok_42 : TyOk Try.prog 42 ⟨3, true, [.int .i64 0, .int .i64 0, .int .u8 0], true, .strct [(0, 1, false), (1, 1, false), (2, 1, false)]⟩ where
  info := ⟨Try.t42, Try.type42, rfl, rfl⟩
  und := ⟨_, Try.underlying42, rfl, ⟨_, rfl, rfl⟩⟩
  flat := rfl
  one := by decide
  len := rfl
  eqf := fun _ => eq42
theorem TryTok_43 : TyOk Try.prog 43 ⟨1, false, [.nilSl], false, .slc 1 8 [.int .i64 0]⟩ where
  info := ⟨Try.t43, Try.type43, rfl, rfl⟩
  und := ⟨_, Try.underlying43, rfl, ⟨3, Try.t3, _, rfl, Try.type3, rfl, rfl, rfl, rfl, by decide, rfl, rfl, by decide⟩⟩
  flat := rfl
  one := by decide
  len := rfl
  eqf := by simp
theorem TryTok_48 : TyOk Try.prog 48 ⟨1, false, [.nilSl], false, .slc 6 48 [.int .i64 0, .int .i64 0, .int .u8 0, .int .i64 0, .int .i64 0, .int .i64 0]⟩ where
  info := ⟨Try.t48, Try.type48, rfl, rfl⟩
  und := ⟨_, Try.underlying48, rfl, ⟨66, Try.t66, _, rfl, Try.type66, rfl, rfl, rfl, rfl, by decide, rfl, rfl, by decide⟩⟩
  flat := rfl
  one := by decide
  len := rfl
  eqf := by simp
theorem TryTok_50 : TyOk Try.prog 50 ⟨1, false, [.nilSl], false, .slc 7 88 [.int .u8 0, .int .i64 0, .int .i64 0, .int .i64 0, .int .u8 0, .nilSl, .nilSl]⟩ where
  info := ⟨Try.t50, Try.type50, rfl, rfl⟩
  und := ⟨_, Try.underlying50, rfl, ⟨32, Try.t32, _, rfl, Try.type32, rfl, rfl, rfl, rfl, by decide, rfl, rfl, by decide⟩⟩
  flat := rfl
  one := by decide
  len := rfl
  eqf := by simp
theorem TryTok_55 : TyOk Try.prog 55 ⟨1, false, [.nilSl], false, .slc 4 56 [.int .u8 0, .int .u8 0, .nilSl, .nilSl]⟩ where
  info := ⟨Try.t55, Try.type55, rfl, rfl⟩
  und := ⟨_, Try.underlying55, rfl, ⟨59, Try.t59, _, rfl, Try.type59, rfl, rfl, rfl, rfl, by decide, rfl, rfl, by decide⟩⟩
  flat := rfl
  one := by decide
  len := rfl
  eqf := by simp
theorem TryTok_59 : TyOk Try.prog 59 ⟨4, true, [.int .u8 0, .int .u8 0, .nilSl, .nilSl], false, .strct [(0, 1, false), (1, 1, false), (2, 2, true)]⟩ where
  info := ⟨Try.t59, Try.type59, rfl, rfl⟩
  und := ⟨_, Try.underlying59, rfl, ⟨_, rfl, rfl⟩⟩
  flat := rfl
  one := by decide
  len := rfl
  eqf := by simp
theorem TryTok_64 : TyOk Try.prog 64 ⟨4, true, [.int .u8 0, .int .i64 0, .int .i64 0, .int .i64 0], true, .strct [(0, 1, false), (1, 1, false), (2, 1, false), (3, 1, false)]⟩ where
  info := ⟨Try.t64, Try.type64, rfl, rfl⟩
  und := ⟨_, Try.underlying64, rfl, ⟨_, rfl, rfl⟩⟩
  flat := rfl
  one := by decide
  len := rfl
  eqf := fun _ => eq64
theorem TryTok_66 : TyOk Try.prog 66 ⟨6, true, [.int .i64 0, .int .i64 0, .int .u8 0, .int .i64 0, .int .i64 0, .int .i64 0], true, .strct [(0, 1, false), (1, 1, false), (2, 4, true)]⟩ where
  info := ⟨Try.t66, Try.type66, rfl, rfl⟩
  und := ⟨_, Try.underlying66, rfl, ⟨_, rfl, rfl⟩⟩
  flat := rfl
  one := by decide
  len := rfl
  eqf := fun _ => eq66
theorem TryTok_74 : TyOk Try.prog 74 ⟨1, false, [.nilMap], false, .map .u8 (.nilFn)⟩ where
  info := ⟨Try.t74, Try.type74, rfl, rfl⟩
  und := ⟨_, Try.underlying74, rfl, ⟨29, 72, Try.t72, rfl, Try.underlying29, Try.type72, rfl, rfl⟩⟩
  flat := rfl
  one := by decide
  len := rfl
  eqf := by simp
theorem TryTok_80 : TyOk Try.prog 80 ⟨1, false, [.nilMap], false, .map .i64 (.nilSl)⟩ where
  info := ⟨Try.t80, Try.type80, rfl, rfl⟩
  und := ⟨_, Try.underlying80, rfl, ⟨3, 43, Try.t43, rfl, Try.underlying3, Try.type43, rfl, rfl⟩⟩
  flat := rfl
  one := by decide
  len := rfl
  eqf := by simp
theorem TryTok_84 : TyOk Try.prog 84 ⟨1, false, [.nilSl], false, .slc 1 1 [.bool false]⟩ where
  info := ⟨Try.t84, Try.type84, rfl, rfl⟩
  und := ⟨_, Try.underlying84, rfl, ⟨4, Try.t4, _, rfl, Try.type4, rfl, rfl, rfl, rfl, by decide, rfl, rfl, by decide⟩⟩
  flat := rfl
  one := by decide
  len := rfl
  eqf := by simp
theorem TryEnv : Env Try.prog TryTv where
  tv := TvOk.cons TryTok_3 <| TvOk.cons TryTok_4 <| TvOk.cons TryTok_5 <| TvOk.cons TryTok_22 <| TvOk.cons TryTok_23 <| TvOk.cons TryTok_25 <| TvOk.cons TryTok_26 <| TvOk.cons TryTok_28 <| TvOk.cons TryTok_29 <| TvOk.cons TryTok_30 <| TvOk.cons TryTok_32 <| TvOk.cons TryTok_36 <| TvOk.cons TryTok_42 <| TvOk.cons TryTok_43 <| TvOk.cons TryTok_48 <| TvOk.cons TryTok_50 <| TvOk.cons TryTok_55 <| TvOk.cons TryTok_59 <| TvOk.cons TryTok_64 <| TvOk.cons TryTok_66 <| TvOk.cons TryTok_74 <| TvOk.cons TryTok_80 <| TvOk.cons TryTok_84 <| TvOk.nil
  mix := rfl
end Go.Proofs.Ytbdodpippgakjaa
