/- This text proves a part of what the claim needs: contracts of functions of the program. No condition. -/
import Derived.Test.YtbdodpippgakjaaL
import Derived.Test.YtbdodpippgakjaaTy
import Derived.Test.YtbdodpippgakjaaVsD
set_option linter.unusedSimpArgs false
set_option linter.unusedVariables false

namespace Go.Proofs.Ytbdodpippgakjaa
open Go Go.Vs Go.Proofs

structure Stp where
  kind : Int
  host : Int
  svc : Int
  ver : Int
  deriving DecidableEq
structure Tr where
  id : Int
  lease : Int
  ans : Int
  deriving DecidableEq
structure Pl where
  steps : List Stp
  after : List (List Int)
  deriving DecidableEq
structure Ex where
  run : Bool
  stp : Bool
  plan : Pl
  tries : List Tr
  next : Int
  deriving DecidableEq
structure Rc where
  kind : Int
  place : Int
  id : Int
  lease : Int
  ans : Int
  plan : Pl
structure Rq where
  id : Int
  lease : Int
  step : Stp
  deriving DecidableEq

def stps (l : List Stp) : List (List D) := l.map fun s => [.int .u8 s.kind, .int .i64 s.host, .int .i64 s.svc, .int .i64 s.ver]
def trs (l : List Tr) : List (List D) := l.map fun s => [.int .i64 s.id, .int .i64 s.lease, .int .u8 s.ans]
def afts (l : List (List Int)) : List (List D) := l.map fun s => [.sl 1 (nums s)]
def rqs (l : List Rq) : List (List D) := l.map fun s => [.int .i64 s.id, .int .i64 s.lease, .int .u8 s.step.kind, .int .i64 s.step.host, .int .i64 s.step.svc, .int .i64 s.step.ver]
@[go_sem] theorem stps_length (l : List Stp) : (stps l).length = l.length := by simp [stps]
@[go_sem] theorem trs_length (l : List Tr) : (trs l).length = l.length := by simp [trs]
@[go_sem] theorem afts_length (l : List (List Int)) : (afts l).length = l.length := by simp [afts]
@[go_sem] theorem rqs_length (l : List Rq) : (rqs l).length = l.length := by simp [rqs]
theorem stps_get (l : List Stp) (i : Nat) : (stps l)[i]? = (l[i]?).map fun s => [.int .u8 s.kind, .int .i64 s.host, .int .i64 s.svc, .int .i64 s.ver] := by simp [stps]
theorem trs_get (l : List Tr) (i : Nat) : (trs l)[i]? = (l[i]?).map fun s => [.int .i64 s.id, .int .i64 s.lease, .int .u8 s.ans] := by simp [trs]
theorem afts_get (l : List (List Int)) (i : Nat) : (afts l)[i]? = (l[i]?).map fun s => [.sl 1 (nums s)] := by simp [afts]
theorem rqs_get (l : List Rq) (i : Nat) : (rqs l)[i]? = (l[i]?).map fun s => [.int .i64 s.id, .int .i64 s.lease, .int .u8 s.step.kind, .int .i64 s.step.host, .int .i64 s.step.svc, .int .i64 s.step.ver] := by simp [rqs]
@[go_sem] theorem stps_take (l : List Stp) (n : Nat) : (stps l).take n = stps (l.take n) := by simp [stps]
@[go_sem] theorem trs_take (l : List Tr) (n : Nat) : (trs l).take n = trs (l.take n) := by simp [trs]
@[go_sem] theorem afts_take (l : List (List Int)) (n : Nat) : (afts l).take n = afts (l.take n) := by simp [afts]
theorem afts_snoc (l : List (List Int)) (s : List Int) : afts l ++ [[.sl 1 (nums s)]] = afts (l ++ [s]) := by simp [afts]
theorem rqs_snoc (l : List Rq) (s : Rq) : rqs l ++ [[.int .i64 s.id, .int .i64 s.lease, .int .u8 s.step.kind, .int .i64 s.step.host, .int .i64 s.step.svc, .int .i64 s.step.ver]] = rqs (l ++ [s]) := by simp [rqs]
theorem trs_set (l : List Tr) (k : Nat) (i le a : Int) : (trs l).set k [.int .i64 i, .int .i64 le, .int .u8 a] = trs (l.set k ⟨i, le, a⟩) := by simp [trs, List.map_set]
@[go_sem] theorem nums_nil' : nums [] = [] := rfl
@[go_sem] theorem stps_nil : stps [] = [] := rfl
@[go_sem] theorem trs_nil : trs [] = [] := rfl
@[go_sem] theorem afts_nil : afts [] = [] := rfl
@[go_sem] theorem rqs_nil : rqs [] = [] := rfl

/-! ### Clones -/


theorem clone41_nil : Gives Try.prog 41 [.c .nilSl] (.c (.d .nilSl)) [] := by
  refine Gives.of_w TryEnv Try.func41 (by decide) TryL41_ok Try.ntmps41 (rs := [.tmp 2]) rfl (by simp) [] (by decide) ?_; rw [TryL41]
  simp -implicitDefEqProofs only [go_sem, ↓reduceIte, Nat.reduceEqDiff, Nat.reduceAdd, Nat.reduceMul, Nat.reduceSub, Nat.reduceLeDiff, Nat.reduceLT, Nat.reducePow, reduceCtorEq, Int.reduceToNat, Int.reduceLT, Int.reduceLE, Int.reduceEq, Int.reduceAdd, Int.reduceSub, Int.reduceMul, Int.reduceNeg, Int.reduceTMod, Int.reduceTDiv, List.replicate_zero, List.replicate_succ]
theorem clone41_slE : Gives Try.prog 41 [.c (.slE 3)] (.c (.d (.sl 3 []))) [] := by
  refine Gives.of_w TryEnv Try.func41 (by decide) TryL41_ok Try.ntmps41 (rs := [.tmp 2]) rfl (by simp) [] (by decide) ?_; rw [TryL41]
  simp -implicitDefEqProofs only [go_sem, ↓reduceIte, Nat.reduceEqDiff, Nat.reduceAdd, Nat.reduceMul, Nat.reduceSub, Nat.reduceLeDiff, Nat.reduceLT, Nat.reducePow, reduceCtorEq, Int.reduceToNat, Int.reduceLT, Int.reduceLE, Int.reduceEq, Int.reduceAdd, Int.reduceSub, Int.reduceMul, Int.reduceNeg, Int.reduceTMod, Int.reduceTDiv, List.replicate_zero, List.replicate_succ]
theorem clone41_cons (e : List D) (es : List (List D)) (h : (es.length + 1) * 24 ≤ mostBytes) : Gives Try.prog 41 [.c (.sl 3 (e :: es))] (.c (.d (.sl 3 (e :: es)))) [] := by
  refine Gives.of_w TryEnv Try.func41 (by decide) TryL41_ok Try.ntmps41 (rs := [.tmp 2]) rfl (by simp) [] (by decide) ?_; rw [TryL41]
  simp -implicitDefEqProofs only [go_sem, ↓reduceIte, Nat.reduceEqDiff, Nat.reduceAdd, Nat.reduceMul, Nat.reduceSub, Nat.reduceLeDiff, Nat.reduceLT, Nat.reducePow, reduceCtorEq, Int.reduceToNat, Int.reduceLT, Int.reduceLE, Int.reduceEq, Int.reduceAdd, Int.reduceSub, Int.reduceMul, Int.reduceNeg, Int.reduceTMod, Int.reduceTDiv, List.replicate_zero, List.replicate_succ, h]
theorem clone58_nil : Gives Try.prog 58 [.c .nilSl] (.c (.d .nilSl)) [] := by
  refine Gives.of_w TryEnv Try.func58 (by decide) TryL58_ok Try.ntmps58 (rs := [.tmp 2]) rfl (by simp) [] (by decide) ?_; rw [TryL58]
  simp -implicitDefEqProofs only [go_sem, ↓reduceIte, Nat.reduceEqDiff, Nat.reduceAdd, Nat.reduceMul, Nat.reduceSub, Nat.reduceLeDiff, Nat.reduceLT, Nat.reducePow, reduceCtorEq, Int.reduceToNat, Int.reduceLT, Int.reduceLE, Int.reduceEq, Int.reduceAdd, Int.reduceSub, Int.reduceMul, Int.reduceNeg, Int.reduceTMod, Int.reduceTDiv, List.replicate_zero, List.replicate_succ]
theorem clone58_slE : Gives Try.prog 58 [.c (.slE 4)] (.c (.d (.sl 4 []))) [] := by
  refine Gives.of_w TryEnv Try.func58 (by decide) TryL58_ok Try.ntmps58 (rs := [.tmp 2]) rfl (by simp) [] (by decide) ?_; rw [TryL58]
  simp -implicitDefEqProofs only [go_sem, ↓reduceIte, Nat.reduceEqDiff, Nat.reduceAdd, Nat.reduceMul, Nat.reduceSub, Nat.reduceLeDiff, Nat.reduceLT, Nat.reducePow, reduceCtorEq, Int.reduceToNat, Int.reduceLT, Int.reduceLE, Int.reduceEq, Int.reduceAdd, Int.reduceSub, Int.reduceMul, Int.reduceNeg, Int.reduceTMod, Int.reduceTDiv, List.replicate_zero, List.replicate_succ]
theorem clone58_cons (e : List D) (es : List (List D)) (h : (es.length + 1) * 32 ≤ mostBytes) : Gives Try.prog 58 [.c (.sl 4 (e :: es))] (.c (.d (.sl 4 (e :: es)))) [] := by
  refine Gives.of_w TryEnv Try.func58 (by decide) TryL58_ok Try.ntmps58 (rs := [.tmp 2]) rfl (by simp) [] (by decide) ?_; rw [TryL58]
  simp -implicitDefEqProofs only [go_sem, ↓reduceIte, Nat.reduceEqDiff, Nat.reduceAdd, Nat.reduceMul, Nat.reduceSub, Nat.reduceLeDiff, Nat.reduceLT, Nat.reducePow, reduceCtorEq, Int.reduceToNat, Int.reduceLT, Int.reduceLE, Int.reduceEq, Int.reduceAdd, Int.reduceSub, Int.reduceMul, Int.reduceNeg, Int.reduceTMod, Int.reduceTDiv, List.replicate_zero, List.replicate_succ, h]
theorem clone59_nil : Gives Try.prog 59 [.c .nilSl] (.c (.d .nilSl)) [] := by
  refine Gives.of_w TryEnv Try.func59 (by decide) TryL59_ok Try.ntmps59 (rs := [.tmp 2]) rfl (by simp) [] (by decide) ?_; rw [TryL59]
  simp -implicitDefEqProofs only [go_sem, ↓reduceIte, Nat.reduceEqDiff, Nat.reduceAdd, Nat.reduceMul, Nat.reduceSub, Nat.reduceLeDiff, Nat.reduceLT, Nat.reducePow, reduceCtorEq, Int.reduceToNat, Int.reduceLT, Int.reduceLE, Int.reduceEq, Int.reduceAdd, Int.reduceSub, Int.reduceMul, Int.reduceNeg, Int.reduceTMod, Int.reduceTDiv, List.replicate_zero, List.replicate_succ]
theorem clone59_slE : Gives Try.prog 59 [.c (.slE 1)] (.c (.d (.sl 1 []))) [] := by
  refine Gives.of_w TryEnv Try.func59 (by decide) TryL59_ok Try.ntmps59 (rs := [.tmp 2]) rfl (by simp) [] (by decide) ?_; rw [TryL59]
  simp -implicitDefEqProofs only [go_sem, ↓reduceIte, Nat.reduceEqDiff, Nat.reduceAdd, Nat.reduceMul, Nat.reduceSub, Nat.reduceLeDiff, Nat.reduceLT, Nat.reducePow, reduceCtorEq, Int.reduceToNat, Int.reduceLT, Int.reduceLE, Int.reduceEq, Int.reduceAdd, Int.reduceSub, Int.reduceMul, Int.reduceNeg, Int.reduceTMod, Int.reduceTDiv, List.replicate_zero, List.replicate_succ]
theorem clone59_cons (e : List D) (es : List (List D)) (h : (es.length + 1) * 8 ≤ mostBytes) : Gives Try.prog 59 [.c (.sl 1 (e :: es))] (.c (.d (.sl 1 (e :: es)))) [] := by
  refine Gives.of_w TryEnv Try.func59 (by decide) TryL59_ok Try.ntmps59 (rs := [.tmp 2]) rfl (by simp) [] (by decide) ?_; rw [TryL59]
  simp -implicitDefEqProofs only [go_sem, ↓reduceIte, Nat.reduceEqDiff, Nat.reduceAdd, Nat.reduceMul, Nat.reduceSub, Nat.reduceLeDiff, Nat.reduceLT, Nat.reducePow, reduceCtorEq, Int.reduceToNat, Int.reduceLT, Int.reduceLE, Int.reduceEq, Int.reduceAdd, Int.reduceSub, Int.reduceMul, Int.reduceNeg, Int.reduceTMod, Int.reduceTDiv, List.replicate_zero, List.replicate_succ, h]

theorem clone41 (l : List Tr) (h : l.length ≤ 1000000) : Gives Try.prog 41 [.c (.sl 3 (trs l))] (.c (.d (.sl 3 (trs l)))) [] := by
  cases l with
  | nil => exact Gives.empty (clone41_nil.nilE) clone41_slE
  | cons s l => exact clone41_cons _ _ (by simp only [List.length_map, mostBytes, List.length_cons] at *; omega)
theorem clone58 (l : List Stp) (h : l.length ≤ 1000000) : Gives Try.prog 58 [.c (.sl 4 (stps l))] (.c (.d (.sl 4 (stps l)))) [] := by
  cases l with
  | nil => exact Gives.empty (clone58_nil.nilE) clone58_slE
  | cons s l => exact clone58_cons _ _ (by simp only [List.length_map, mostBytes, List.length_cons] at *; omega)
theorem clone59 (l : List Int) (h : l.length ≤ 1000000) : Gives Try.prog 59 [.c (.sl 1 (nums l))] (.c (.d (.sl 1 (nums l)))) [] := by
  cases l with
  | nil => exact Gives.empty (clone59_nil.nilE) clone59_slE
  | cons s l => exact clone59_cons _ _ (by simp only [List.length_map, mostBytes, List.length_cons] at *; omega)
end Go.Proofs.Ytbdodpippgakjaa

namespace Go.Proofs.Ytbdodpippgakjaa
open Go Go.Vs Go.Proofs

def openT (t : Tr) : Bool := decide (t.id ≠ 0) && decide (t.ans = 0)
def doneT (t : Tr) : Bool := decide (t.ans = 1)

theorem open53 (t : Tr) : Gives Try.prog 53 [.agg [.int .i64 t.id, .int .i64 t.lease, .int .u8 t.ans]] (.c (.d (.bool (openT t)))) [] := by
  refine Gives.of_w TryEnv Try.func53 (by decide) TryL53_ok Try.ntmps53 (rs := [.tmp 2]) rfl (by simp) [] (by decide) ?_; rw [TryL53]
  repeat' first
    | simp -implicitDefEqProofs only [go_sem, ↓reduceIte, Nat.reduceEqDiff, Nat.reduceAdd, Nat.reduceMul, Nat.reduceSub, Nat.reduceLeDiff, Nat.reduceLT, Nat.reducePow, reduceCtorEq, Int.reduceToNat, Int.reduceLT, Int.reduceLE, Int.reduceEq, Int.reduceAdd, Int.reduceSub, Int.reduceMul, Int.reduceNeg, Int.reduceTMod, Int.reduceTDiv, List.replicate_zero, List.replicate_succ]
    | refine wfork_intro (fun h => ?_) (fun h => ?_)
  all_goals refine DLe.of_eq ?_
  all_goals simp_all [openT]
theorem open54 (t : Tr) : Gives Try.prog 54 [.agg [.int .i64 t.id, .int .i64 t.lease, .int .u8 t.ans]] (.c (.d (.bool (openT t)))) [] := by
  refine Gives.of_w TryEnv Try.func54 (by decide) TryL54_ok Try.ntmps54 (rs := [.tmp 2]) rfl (by simp) [] (by decide) ?_; rw [TryL54]
  repeat' first
    | simp -implicitDefEqProofs only [go_sem, ↓reduceIte, Nat.reduceEqDiff, Nat.reduceAdd, Nat.reduceMul, Nat.reduceSub, Nat.reduceLeDiff, Nat.reduceLT, Nat.reducePow, reduceCtorEq, Int.reduceToNat, Int.reduceLT, Int.reduceLE, Int.reduceEq, Int.reduceAdd, Int.reduceSub, Int.reduceMul, Int.reduceNeg, Int.reduceTMod, Int.reduceTDiv, List.replicate_zero, List.replicate_succ]
    | refine wfork_intro (fun h => ?_) (fun h => ?_)
  all_goals refine DLe.of_eq ?_
  all_goals simp_all [openT]
theorem done56 (t : Tr) : Gives Try.prog 56 [.agg [.int .i64 t.id, .int .i64 t.lease, .int .u8 t.ans]] (.c (.d (.bool (doneT t)))) [] := by
  refine Gives.of_w TryEnv Try.func56 (by decide) TryL56_ok Try.ntmps56 (rs := [.tmp 2]) rfl (by simp) [] (by decide) ?_; rw [TryL56]
  simp -implicitDefEqProofs only [go_sem, ↓reduceIte, Nat.reduceEqDiff, Nat.reduceAdd, Nat.reduceMul, Nat.reduceSub, Nat.reduceLeDiff, Nat.reduceLT, Nat.reducePow, reduceCtorEq, Int.reduceToNat, Int.reduceLT, Int.reduceLE, Int.reduceEq, Int.reduceAdd, Int.reduceSub, Int.reduceMul, Int.reduceNeg, Int.reduceTMod, Int.reduceTDiv, List.replicate_zero, List.replicate_succ, doneT]

/-- A plan of which every list is short. -/
def Pl.small (p : Pl) : Prop := p.steps.length ≤ 1000 ∧ p.after.length ≤ 1000 ∧ ∀ l ∈ p.after, l.length ≤ 1000

theorem own40 (p : Pl) (hp : p.small) : Gives Try.prog 40 [.agg [.sl 4 (stps p.steps), .sl 1 (afts p.after)]] (.agg [.d (.sl 4 (stps p.steps)), .d (.sl 1 (afts p.after))]) [] := by
  obtain ⟨h1, h2, h3⟩ := hp
  refine Gives.of_w TryEnv Try.func40 (by decide) TryL40_ok Try.ntmps40 (rs := [.cell 2 25]) rfl (by simp) [] (by decide) ?_; rw [TryL40]
  repeat' first
    | simp -implicitDefEqProofs only [go_sem, ↓reduceIte, Nat.reduceEqDiff, Nat.reduceAdd, Nat.reduceMul, Nat.reduceSub, Nat.reduceLeDiff, Nat.reduceLT, Nat.reducePow, reduceCtorEq, Int.reduceToNat, Int.reduceLT, Int.reduceLE, Int.reduceEq, Int.reduceAdd, Int.reduceSub, Int.reduceMul, Int.reduceNeg, Int.reduceTMod, Int.reduceTDiv, List.replicate_zero, List.replicate_succ]
    | (refine wCall_intro (clone58 _ ?_) ?_ ?_ ?_; omega; rfl; decide)
  refine wT_wk (Wk.cellNil 1 1 (b := 24) rfl rfl) ?_
  simp -implicitDefEqProofs only [go_sem, ↓reduceIte, Nat.reduceEqDiff, Nat.reduceAdd, Nat.reduceMul, Nat.reduceSub, Nat.reduceLeDiff, Nat.reduceLT, Nat.reducePow, reduceCtorEq, Int.reduceToNat, Int.reduceLT, Int.reduceLE, Int.reduceEq, Int.reduceAdd, Int.reduceSub, Int.reduceMul, Int.reduceNeg, Int.reduceTMod, Int.reduceTDiv, List.replicate_zero, List.replicate_succ, List.set_cons_succ, List.set_cons_zero]
  refine wT_loop (fun k : { k : Nat // k ≤ p.after.length } => ⟨[(2, .c (.ptr 4 0)), (3, .c (.ptr 24 0)), (11, .c (.d (.sl 1 (afts p.after)))), (12, .c (.d (.int .i64 (p.after.length : Nat)))), (13, .c (.d (.int .i64 (k.1 : Nat))))],
    [(4, .box [.d .nilSl, .d .nilSl]), (24, .box [.d (.sl 4 (stps p.steps)), .ref 48 k.1 0 k.1]), (48, .sl 1 (afts (p.after.take k.1)) false)], 49⟩) (fun k => p.after.length - k.1) ⟨0, Nat.zero_le _⟩ ?_ ?_
  · refine Wk.sub ?_ ?_ (by decide) (by decide) ?_ ?_
    all_goals simp -implicitDefEqProofs only [go_sem, ↓reduceIte, Nat.reduceEqDiff, Nat.reduceAdd, Nat.reduceMul, Nat.reduceSub, Nat.reduceLeDiff, Nat.reduceLT, Nat.reducePow, reduceCtorEq, Int.reduceToNat, Int.reduceLT, Int.reduceLE, Int.reduceEq, Int.reduceAdd, Int.reduceSub, Int.reduceMul, Int.reduceNeg, Int.reduceTMod, Int.reduceTDiv, List.replicate_zero, List.replicate_succ, Int.natCast_zero]
  · rintro ⟨k, hk⟩
    have hlt : (p.after.take k).length = k := by simp; omega
    refine wT_of TryEnv ?_
    simp -implicitDefEqProofs only [go_sem, ↓reduceIte, Nat.reduceEqDiff, Nat.reduceAdd, Nat.reduceMul, Nat.reduceSub, Nat.reduceLeDiff, Nat.reduceLT, Nat.reducePow, reduceCtorEq, Int.reduceToNat, Int.reduceLT, Int.reduceLE, Int.reduceEq, Int.reduceAdd, Int.reduceSub, Int.reduceMul, Int.reduceNeg, Int.reduceTMod, Int.reduceTDiv, List.replicate_zero, List.replicate_succ]
    refine wfork_intro (fun h => ?_) (fun h => ?_)
    · have h : k < p.after.length := by simpa using h
      have hg : p.after[k]? = some p.after[k] := List.getElem?_eq_getElem h
      have hl := h3 _ (List.getElem_mem h)
      have ht : p.after.take (k + 1) = p.after.take k ++ [p.after[k]] := by rw [List.take_add_one, hg]; rfl
      have hk1 : IntKind.i64.wrap ((k : Int) + 1) = ((k + 1 : Nat) : Int) := by rw [wrap64 (by omega) (by omega)]; rfl
      have hb : (k + 1) * 24 ≤ mostBytes := by simp only [mostBytes]; omega
      generalize p.after[k] = x at *
      repeat' first
        | simp -implicitDefEqProofs only [go_sem, ↓reduceIte, Nat.reduceEqDiff, Nat.reduceAdd, Nat.reduceMul, Nat.reduceSub, Nat.reduceLeDiff, Nat.reduceLT, Nat.reducePow, reduceCtorEq, Int.reduceToNat, Int.reduceLT, Int.reduceLE, Int.reduceEq, Int.reduceAdd, Int.reduceSub, Int.reduceMul, Int.reduceNeg, Int.reduceTMod, Int.reduceTDiv, List.replicate_zero, List.replicate_succ, afts_get, hg, Int.toNat_natCast, Int.natCast_nonneg, hlt, hb, hk1, afts_snoc]
        | (refine wCall_intro (clone59 _ ?_) ?_ ?_ ?_; omega; rfl; decide)
        | refine Also.mk (by decide) ?_
        | apply And.intro
      refine ⟨⟨k + 1, h⟩, Wk.sub ?_ ?_ (by decide) (by decide) ?_ ?_, by simp; omega⟩
      all_goals simp -implicitDefEqProofs only [go_sem, ↓reduceIte, Nat.reduceEqDiff, Nat.reduceAdd, Nat.reduceMul, Nat.reduceSub, Nat.reduceLeDiff, Nat.reduceLT, Nat.reducePow, reduceCtorEq, Int.reduceToNat, Int.reduceLT, Int.reduceLE, Int.reduceEq, Int.reduceAdd, Int.reduceSub, Int.reduceMul, Int.reduceNeg, Int.reduceTMod, Int.reduceTDiv, List.replicate_zero, List.replicate_succ, ht]
    · have h : k = p.after.length := by
        have : ¬ k < p.after.length := by simpa using h
        omega
      subst h
      simp -implicitDefEqProofs only [go_sem, ↓reduceIte, Nat.reduceEqDiff, Nat.reduceAdd, Nat.reduceMul, Nat.reduceSub, Nat.reduceLeDiff, Nat.reduceLT, Nat.reducePow, reduceCtorEq, Int.reduceToNat, Int.reduceLT, Int.reduceLE, Int.reduceEq, Int.reduceAdd, Int.reduceSub, Int.reduceMul, Int.reduceNeg, Int.reduceTMod, Int.reduceTDiv, List.replicate_zero, List.replicate_succ, List.take_length, hlt]
end Go.Proofs.Ytbdodpippgakjaa

namespace Go.Proofs.Ytbdodpippgakjaa
open Go Go.Vs Go.Proofs

theorem rq_same {x y : Rq} : (decide (x.id = y.id) && (decide (x.lease = y.lease) && (decide (x.step.kind = y.step.kind) && (decide (x.step.host = y.step.host) && (decide (x.step.svc = y.step.svc) && decide (x.step.ver = y.step.ver)))))) = decide (x = y) := by
  obtain ⟨a, b, c, d, e, f⟩ := x
  obtain ⟨a', b', c', d', e', f'⟩ := y
  simp [Bool.eq_iff_iff]
theorem stp_same {x y : Stp} : (decide (x.kind = y.kind) && (decide (x.host = y.host) && (decide (x.svc = y.svc) && decide (x.ver = y.ver)))) = decide (x = y) := by
  obtain ⟨a, b, c, d⟩ := x
  obtain ⟨a', b', c', d'⟩ := y
  simp [Bool.eq_iff_iff]
theorem tr_same {x y : Tr} : (decide (x.id = y.id) && (decide (x.lease = y.lease) && decide (x.ans = y.ans))) = decide (x = y) := by
  obtain ⟨a, b, c⟩ := x
  obtain ⟨a', b', c'⟩ := y
  simp [Bool.eq_iff_iff]

theorem numbers20 (a b : List Int) (ha : a.length ≤ 1000000) (hb : b.length ≤ 1000000) :
    Gives Try.prog 20 [.c (.sl 1 (nums a)), .c (.sl 1 (nums b))] (.c (.d (.bool (decide (a = b))))) [] := by
  refine Gives.of_w TryEnv Try.func20 (by decide) TryL20_ok Try.ntmps20 (rs := [.tmp 4]) rfl (by simp) [] (by decide) ?_; rw [TryL20]
  repeat' first
    | simp -implicitDefEqProofs only [go_sem, ↓reduceIte, Nat.reduceEqDiff, Nat.reduceAdd, Nat.reduceMul, Nat.reduceSub, Nat.reduceLeDiff, Nat.reduceLT, Nat.reducePow, reduceCtorEq, Int.reduceToNat, Int.reduceLT, Int.reduceLE, Int.reduceEq, Int.reduceAdd, Int.reduceSub, Int.reduceMul, Int.reduceNeg, Int.reduceTMod, Int.reduceTDiv, List.replicate_zero, List.replicate_succ]
    | refine wfork_intro (fun h => ?_) (fun h => ?_)
  · have h : ¬ a.length = b.length := by simp at h; omega
    have : ¬ a = b := fun e => h (congrArg _ e)
    rw [decide_eq_false this]
    exact .refl _
  · have hab : a.length = b.length := by simp at h; omega
    refine wT_loop (fun k : { k : Nat // k ≤ a.length ∧ a.take k = b.take k } => ⟨[(0, .c (.d (.sl 1 (nums a)))), (1, .c (.d (.sl 1 (nums b)))), (5, .c (.d (.int .i64 (k.1 : Nat))))], [], 28⟩) (fun k => a.length - k.1) ⟨0, by simp⟩ ?_ ?_
    · refine Wk.sub ?_ ?_ ?_ ?_ ?_ ?_
      all_goals simp -implicitDefEqProofs only [go_sem, ↓reduceIte, Nat.reduceEqDiff, Nat.reduceAdd, Nat.reduceMul, Nat.reduceSub, Nat.reduceLeDiff, Nat.reduceLT, Nat.reducePow, reduceCtorEq, Int.reduceToNat, Int.reduceLT, Int.reduceLE, Int.reduceEq, Int.reduceAdd, Int.reduceSub, Int.reduceMul, Int.reduceNeg, Int.reduceTMod, Int.reduceTDiv, List.replicate_zero, List.replicate_succ]
    · rintro ⟨k, hk, hkk⟩
      refine wT_of TryEnv ?_
      simp -implicitDefEqProofs only [go_sem, ↓reduceIte, Nat.reduceEqDiff, Nat.reduceAdd, Nat.reduceMul, Nat.reduceSub, Nat.reduceLeDiff, Nat.reduceLT, Nat.reducePow, reduceCtorEq, Int.reduceToNat, Int.reduceLT, Int.reduceLE, Int.reduceEq, Int.reduceAdd, Int.reduceSub, Int.reduceMul, Int.reduceNeg, Int.reduceTMod, Int.reduceTDiv, List.replicate_zero, List.replicate_succ]
      refine wfork_intro (fun h1 => ?_) (fun h1 => ?_)
      · have h1 : k < a.length := by simpa using h1
        have h2 : k < b.length := by omega
        repeat' first
          | simp -implicitDefEqProofs only [go_sem, ↓reduceIte, Nat.reduceEqDiff, Nat.reduceAdd, Nat.reduceMul, Nat.reduceSub, Nat.reduceLeDiff, Nat.reduceLT, Nat.reducePow, reduceCtorEq, Int.reduceToNat, Int.reduceLT, Int.reduceLE, Int.reduceEq, Int.reduceAdd, Int.reduceSub, Int.reduceMul, Int.reduceNeg, Int.reduceTMod, Int.reduceTDiv, List.replicate_zero, List.replicate_succ, nums_get, List.getElem?_eq_getElem h1, List.getElem?_eq_getElem h2, Int.toNat_natCast, Int.natCast_nonneg, rq_same]
          | refine Also.mk (by decide) ?_
          | refine wfork_intro (fun h3 => ?_) (fun h3 => ?_)
        · have h3 : ¬ a[k] = b[k] := by simpa using h3
          have : ¬ a = b := fun e => h3 (by simp [e])
          rw [decide_eq_false this]
          exact .refl _
        · have h4 : a[k] = b[k] := by simpa using h3
          refine ⟨⟨k + 1, by omega, ?_⟩, Wk.sub (by simp -implicitDefEqProofs only [go_sem, ↓reduceIte, Nat.reduceEqDiff, Nat.reduceAdd, Nat.reduceMul, Nat.reduceSub, Nat.reduceLeDiff, Nat.reduceLT, Nat.reducePow, reduceCtorEq, Int.reduceToNat, Int.reduceLT, Int.reduceLE, Int.reduceEq, Int.reduceAdd, Int.reduceSub, Int.reduceMul, Int.reduceNeg, Int.reduceTMod, Int.reduceTDiv, List.replicate_zero, List.replicate_succ, wrap64 (show (-9223372036854775808 : Int) ≤ (k : Int) + 1 by omega) (show (k : Int) + 1 ≤ 9223372036854775807 by omega), Int.natCast_add, Int.cast_ofNat_Int, Int.natCast_one]) (by simp -implicitDefEqProofs only [go_sem, ↓reduceIte, Nat.reduceEqDiff, Nat.reduceAdd, Nat.reduceMul, Nat.reduceSub, Nat.reduceLeDiff, Nat.reduceLT, Nat.reducePow, reduceCtorEq, Int.reduceToNat, Int.reduceLT, Int.reduceLE, Int.reduceEq, Int.reduceAdd, Int.reduceSub, Int.reduceMul, Int.reduceNeg, Int.reduceTMod, Int.reduceTDiv, List.replicate_zero, List.replicate_succ]) (by decide) (by decide) (by simp -implicitDefEqProofs only [go_sem, ↓reduceIte, Nat.reduceEqDiff, Nat.reduceAdd, Nat.reduceMul, Nat.reduceSub, Nat.reduceLeDiff, Nat.reduceLT, Nat.reducePow, reduceCtorEq, Int.reduceToNat, Int.reduceLT, Int.reduceLE, Int.reduceEq, Int.reduceAdd, Int.reduceSub, Int.reduceMul, Int.reduceNeg, Int.reduceTMod, Int.reduceTDiv, List.replicate_zero, List.replicate_succ]) (by simp -implicitDefEqProofs only [go_sem, ↓reduceIte, Nat.reduceEqDiff, Nat.reduceAdd, Nat.reduceMul, Nat.reduceSub, Nat.reduceLeDiff, Nat.reduceLT, Nat.reducePow, reduceCtorEq, Int.reduceToNat, Int.reduceLT, Int.reduceLE, Int.reduceEq, Int.reduceAdd, Int.reduceSub, Int.reduceMul, Int.reduceNeg, Int.reduceTMod, Int.reduceTDiv, List.replicate_zero, List.replicate_succ]), by simp; omega⟩
          rw [List.take_add_one, List.take_add_one, hkk, List.getElem?_eq_getElem h1, List.getElem?_eq_getElem h2, h4]
      · simp -implicitDefEqProofs only [go_sem, ↓reduceIte, Nat.reduceEqDiff, Nat.reduceAdd, Nat.reduceMul, Nat.reduceSub, Nat.reduceLeDiff, Nat.reduceLT, Nat.reducePow, reduceCtorEq, Int.reduceToNat, Int.reduceLT, Int.reduceLE, Int.reduceEq, Int.reduceAdd, Int.reduceSub, Int.reduceMul, Int.reduceNeg, Int.reduceTMod, Int.reduceTDiv, List.replicate_zero, List.replicate_succ]
        have h1 : k = a.length := by
          have : ¬ k < a.length := by simpa using h1
          omega
        subst h1
        have : a = b := by
          rw [List.take_length, hab, List.take_length] at hkk
          exact hkk
        rw [decide_eq_true this]
        exact .refl _

theorem numbers68 (a b : List Int) (ha : a.length ≤ 1000000) (hb : b.length ≤ 1000000) :
    Gives Try.prog 68 [.c (.sl 1 (nums a)), .c (.sl 1 (nums b))] (.c (.d (.bool (decide (a = b))))) [] := by
  refine Gives.of_w TryEnv Try.func68 (by decide) TryL68_ok Try.ntmps68 (rs := [.tmp 4]) rfl (by simp) [] (by decide) ?_; rw [TryL68]
  repeat' first
    | simp -implicitDefEqProofs only [go_sem, ↓reduceIte, Nat.reduceEqDiff, Nat.reduceAdd, Nat.reduceMul, Nat.reduceSub, Nat.reduceLeDiff, Nat.reduceLT, Nat.reducePow, reduceCtorEq, Int.reduceToNat, Int.reduceLT, Int.reduceLE, Int.reduceEq, Int.reduceAdd, Int.reduceSub, Int.reduceMul, Int.reduceNeg, Int.reduceTMod, Int.reduceTDiv, List.replicate_zero, List.replicate_succ]
    | refine wfork_intro (fun h => ?_) (fun h => ?_)
  · have h : ¬ a.length = b.length := by simp at h; omega
    have : ¬ a = b := fun e => h (congrArg _ e)
    rw [decide_eq_false this]
    exact .refl _
  · have hab : a.length = b.length := by simp at h; omega
    refine wT_loop (fun k : { k : Nat // k ≤ a.length ∧ a.take k = b.take k } => ⟨[(0, .c (.d (.sl 1 (nums a)))), (1, .c (.d (.sl 1 (nums b)))), (5, .c (.d (.int .i64 (k.1 : Nat))))], [], 28⟩) (fun k => a.length - k.1) ⟨0, by simp⟩ ?_ ?_
    · refine Wk.sub ?_ ?_ ?_ ?_ ?_ ?_
      all_goals simp -implicitDefEqProofs only [go_sem, ↓reduceIte, Nat.reduceEqDiff, Nat.reduceAdd, Nat.reduceMul, Nat.reduceSub, Nat.reduceLeDiff, Nat.reduceLT, Nat.reducePow, reduceCtorEq, Int.reduceToNat, Int.reduceLT, Int.reduceLE, Int.reduceEq, Int.reduceAdd, Int.reduceSub, Int.reduceMul, Int.reduceNeg, Int.reduceTMod, Int.reduceTDiv, List.replicate_zero, List.replicate_succ]
    · rintro ⟨k, hk, hkk⟩
      refine wT_of TryEnv ?_
      simp -implicitDefEqProofs only [go_sem, ↓reduceIte, Nat.reduceEqDiff, Nat.reduceAdd, Nat.reduceMul, Nat.reduceSub, Nat.reduceLeDiff, Nat.reduceLT, Nat.reducePow, reduceCtorEq, Int.reduceToNat, Int.reduceLT, Int.reduceLE, Int.reduceEq, Int.reduceAdd, Int.reduceSub, Int.reduceMul, Int.reduceNeg, Int.reduceTMod, Int.reduceTDiv, List.replicate_zero, List.replicate_succ]
      refine wfork_intro (fun h1 => ?_) (fun h1 => ?_)
      · have h1 : k < a.length := by simpa using h1
        have h2 : k < b.length := by omega
        repeat' first
          | simp -implicitDefEqProofs only [go_sem, ↓reduceIte, Nat.reduceEqDiff, Nat.reduceAdd, Nat.reduceMul, Nat.reduceSub, Nat.reduceLeDiff, Nat.reduceLT, Nat.reducePow, reduceCtorEq, Int.reduceToNat, Int.reduceLT, Int.reduceLE, Int.reduceEq, Int.reduceAdd, Int.reduceSub, Int.reduceMul, Int.reduceNeg, Int.reduceTMod, Int.reduceTDiv, List.replicate_zero, List.replicate_succ, nums_get, List.getElem?_eq_getElem h1, List.getElem?_eq_getElem h2, Int.toNat_natCast, Int.natCast_nonneg, rq_same]
          | refine Also.mk (by decide) ?_
          | refine wfork_intro (fun h3 => ?_) (fun h3 => ?_)
        · have h3 : ¬ a[k] = b[k] := by simpa using h3
          have : ¬ a = b := fun e => h3 (by simp [e])
          rw [decide_eq_false this]
          exact .refl _
        · have h4 : a[k] = b[k] := by simpa using h3
          refine ⟨⟨k + 1, by omega, ?_⟩, Wk.sub (by simp -implicitDefEqProofs only [go_sem, ↓reduceIte, Nat.reduceEqDiff, Nat.reduceAdd, Nat.reduceMul, Nat.reduceSub, Nat.reduceLeDiff, Nat.reduceLT, Nat.reducePow, reduceCtorEq, Int.reduceToNat, Int.reduceLT, Int.reduceLE, Int.reduceEq, Int.reduceAdd, Int.reduceSub, Int.reduceMul, Int.reduceNeg, Int.reduceTMod, Int.reduceTDiv, List.replicate_zero, List.replicate_succ, wrap64 (show (-9223372036854775808 : Int) ≤ (k : Int) + 1 by omega) (show (k : Int) + 1 ≤ 9223372036854775807 by omega), Int.natCast_add, Int.cast_ofNat_Int, Int.natCast_one]) (by simp -implicitDefEqProofs only [go_sem, ↓reduceIte, Nat.reduceEqDiff, Nat.reduceAdd, Nat.reduceMul, Nat.reduceSub, Nat.reduceLeDiff, Nat.reduceLT, Nat.reducePow, reduceCtorEq, Int.reduceToNat, Int.reduceLT, Int.reduceLE, Int.reduceEq, Int.reduceAdd, Int.reduceSub, Int.reduceMul, Int.reduceNeg, Int.reduceTMod, Int.reduceTDiv, List.replicate_zero, List.replicate_succ]) (by decide) (by decide) (by simp -implicitDefEqProofs only [go_sem, ↓reduceIte, Nat.reduceEqDiff, Nat.reduceAdd, Nat.reduceMul, Nat.reduceSub, Nat.reduceLeDiff, Nat.reduceLT, Nat.reducePow, reduceCtorEq, Int.reduceToNat, Int.reduceLT, Int.reduceLE, Int.reduceEq, Int.reduceAdd, Int.reduceSub, Int.reduceMul, Int.reduceNeg, Int.reduceTMod, Int.reduceTDiv, List.replicate_zero, List.replicate_succ]) (by simp -implicitDefEqProofs only [go_sem, ↓reduceIte, Nat.reduceEqDiff, Nat.reduceAdd, Nat.reduceMul, Nat.reduceSub, Nat.reduceLeDiff, Nat.reduceLT, Nat.reducePow, reduceCtorEq, Int.reduceToNat, Int.reduceLT, Int.reduceLE, Int.reduceEq, Int.reduceAdd, Int.reduceSub, Int.reduceMul, Int.reduceNeg, Int.reduceTMod, Int.reduceTDiv, List.replicate_zero, List.replicate_succ]), by simp; omega⟩
          rw [List.take_add_one, List.take_add_one, hkk, List.getElem?_eq_getElem h1, List.getElem?_eq_getElem h2, h4]
      · simp -implicitDefEqProofs only [go_sem, ↓reduceIte, Nat.reduceEqDiff, Nat.reduceAdd, Nat.reduceMul, Nat.reduceSub, Nat.reduceLeDiff, Nat.reduceLT, Nat.reducePow, reduceCtorEq, Int.reduceToNat, Int.reduceLT, Int.reduceLE, Int.reduceEq, Int.reduceAdd, Int.reduceSub, Int.reduceMul, Int.reduceNeg, Int.reduceTMod, Int.reduceTDiv, List.replicate_zero, List.replicate_succ]
        have h1 : k = a.length := by
          have : ¬ k < a.length := by simpa using h1
          omega
        subst h1
        have : a = b := by
          rw [List.take_length, hab, List.take_length] at hkk
          exact hkk
        rw [decide_eq_true this]
        exact .refl _

theorem requests23 (a b : List Rq) (ha : a.length ≤ 1000000) (hb : b.length ≤ 1000000) :
    Gives Try.prog 23 [.c (.sl 6 (rqs a)), .c (.sl 6 (rqs b))] (.c (.d (.bool (decide (a = b))))) [] := by
  refine Gives.of_w TryEnv Try.func23 (by decide) TryL23_ok Try.ntmps23 (rs := [.tmp 4]) rfl (by simp) [] (by decide) ?_; rw [TryL23]
  repeat' first
    | simp -implicitDefEqProofs only [go_sem, ↓reduceIte, Nat.reduceEqDiff, Nat.reduceAdd, Nat.reduceMul, Nat.reduceSub, Nat.reduceLeDiff, Nat.reduceLT, Nat.reducePow, reduceCtorEq, Int.reduceToNat, Int.reduceLT, Int.reduceLE, Int.reduceEq, Int.reduceAdd, Int.reduceSub, Int.reduceMul, Int.reduceNeg, Int.reduceTMod, Int.reduceTDiv, List.replicate_zero, List.replicate_succ]
    | refine wfork_intro (fun h => ?_) (fun h => ?_)
  · have h : ¬ a.length = b.length := by simp at h; omega
    have : ¬ a = b := fun e => h (congrArg _ e)
    rw [decide_eq_false this]
    exact .refl _
  · have hab : a.length = b.length := by simp at h; omega
    refine wT_loop (fun k : { k : Nat // k ≤ a.length ∧ a.take k = b.take k } => ⟨[(0, .c (.d (.sl 6 (rqs a)))), (1, .c (.d (.sl 6 (rqs b)))), (5, .c (.d (.int .i64 (k.1 : Nat))))], [], 28⟩) (fun k => a.length - k.1) ⟨0, by simp⟩ ?_ ?_
    · refine Wk.sub ?_ ?_ ?_ ?_ ?_ ?_
      all_goals simp -implicitDefEqProofs only [go_sem, ↓reduceIte, Nat.reduceEqDiff, Nat.reduceAdd, Nat.reduceMul, Nat.reduceSub, Nat.reduceLeDiff, Nat.reduceLT, Nat.reducePow, reduceCtorEq, Int.reduceToNat, Int.reduceLT, Int.reduceLE, Int.reduceEq, Int.reduceAdd, Int.reduceSub, Int.reduceMul, Int.reduceNeg, Int.reduceTMod, Int.reduceTDiv, List.replicate_zero, List.replicate_succ]
    · rintro ⟨k, hk, hkk⟩
      refine wT_of TryEnv ?_
      simp -implicitDefEqProofs only [go_sem, ↓reduceIte, Nat.reduceEqDiff, Nat.reduceAdd, Nat.reduceMul, Nat.reduceSub, Nat.reduceLeDiff, Nat.reduceLT, Nat.reducePow, reduceCtorEq, Int.reduceToNat, Int.reduceLT, Int.reduceLE, Int.reduceEq, Int.reduceAdd, Int.reduceSub, Int.reduceMul, Int.reduceNeg, Int.reduceTMod, Int.reduceTDiv, List.replicate_zero, List.replicate_succ]
      refine wfork_intro (fun h1 => ?_) (fun h1 => ?_)
      · have h1 : k < a.length := by simpa using h1
        have h2 : k < b.length := by omega
        repeat' first
          | simp -implicitDefEqProofs only [go_sem, ↓reduceIte, Nat.reduceEqDiff, Nat.reduceAdd, Nat.reduceMul, Nat.reduceSub, Nat.reduceLeDiff, Nat.reduceLT, Nat.reducePow, reduceCtorEq, Int.reduceToNat, Int.reduceLT, Int.reduceLE, Int.reduceEq, Int.reduceAdd, Int.reduceSub, Int.reduceMul, Int.reduceNeg, Int.reduceTMod, Int.reduceTDiv, List.replicate_zero, List.replicate_succ, rqs_get, List.getElem?_eq_getElem h1, List.getElem?_eq_getElem h2, Int.toNat_natCast, Int.natCast_nonneg, rq_same]
          | refine Also.mk (by decide) ?_
          | refine wfork_intro (fun h3 => ?_) (fun h3 => ?_)
        · have h3 : ¬ a[k] = b[k] := by simpa using h3
          have : ¬ a = b := fun e => h3 (by simp [e])
          rw [decide_eq_false this]
          exact .refl _
        · have h4 : a[k] = b[k] := by simpa using h3
          refine ⟨⟨k + 1, by omega, ?_⟩, Wk.sub (by simp -implicitDefEqProofs only [go_sem, ↓reduceIte, Nat.reduceEqDiff, Nat.reduceAdd, Nat.reduceMul, Nat.reduceSub, Nat.reduceLeDiff, Nat.reduceLT, Nat.reducePow, reduceCtorEq, Int.reduceToNat, Int.reduceLT, Int.reduceLE, Int.reduceEq, Int.reduceAdd, Int.reduceSub, Int.reduceMul, Int.reduceNeg, Int.reduceTMod, Int.reduceTDiv, List.replicate_zero, List.replicate_succ, wrap64 (show (-9223372036854775808 : Int) ≤ (k : Int) + 1 by omega) (show (k : Int) + 1 ≤ 9223372036854775807 by omega), Int.natCast_add, Int.cast_ofNat_Int, Int.natCast_one]) (by simp -implicitDefEqProofs only [go_sem, ↓reduceIte, Nat.reduceEqDiff, Nat.reduceAdd, Nat.reduceMul, Nat.reduceSub, Nat.reduceLeDiff, Nat.reduceLT, Nat.reducePow, reduceCtorEq, Int.reduceToNat, Int.reduceLT, Int.reduceLE, Int.reduceEq, Int.reduceAdd, Int.reduceSub, Int.reduceMul, Int.reduceNeg, Int.reduceTMod, Int.reduceTDiv, List.replicate_zero, List.replicate_succ]) (by decide) (by decide) (by simp -implicitDefEqProofs only [go_sem, ↓reduceIte, Nat.reduceEqDiff, Nat.reduceAdd, Nat.reduceMul, Nat.reduceSub, Nat.reduceLeDiff, Nat.reduceLT, Nat.reducePow, reduceCtorEq, Int.reduceToNat, Int.reduceLT, Int.reduceLE, Int.reduceEq, Int.reduceAdd, Int.reduceSub, Int.reduceMul, Int.reduceNeg, Int.reduceTMod, Int.reduceTDiv, List.replicate_zero, List.replicate_succ]) (by simp -implicitDefEqProofs only [go_sem, ↓reduceIte, Nat.reduceEqDiff, Nat.reduceAdd, Nat.reduceMul, Nat.reduceSub, Nat.reduceLeDiff, Nat.reduceLT, Nat.reducePow, reduceCtorEq, Int.reduceToNat, Int.reduceLT, Int.reduceLE, Int.reduceEq, Int.reduceAdd, Int.reduceSub, Int.reduceMul, Int.reduceNeg, Int.reduceTMod, Int.reduceTDiv, List.replicate_zero, List.replicate_succ]), by simp; omega⟩
          rw [List.take_add_one, List.take_add_one, hkk, List.getElem?_eq_getElem h1, List.getElem?_eq_getElem h2, h4]
      · simp -implicitDefEqProofs only [go_sem, ↓reduceIte, Nat.reduceEqDiff, Nat.reduceAdd, Nat.reduceMul, Nat.reduceSub, Nat.reduceLeDiff, Nat.reduceLT, Nat.reducePow, reduceCtorEq, Int.reduceToNat, Int.reduceLT, Int.reduceLE, Int.reduceEq, Int.reduceAdd, Int.reduceSub, Int.reduceMul, Int.reduceNeg, Int.reduceTMod, Int.reduceTDiv, List.replicate_zero, List.replicate_succ]
        have h1 : k = a.length := by
          have : ¬ k < a.length := by simpa using h1
          omega
        subst h1
        have : a = b := by
          rw [List.take_length, hab, List.take_length] at hkk
          exact hkk
        rw [decide_eq_true this]
        exact .refl _

end Go.Proofs.Ytbdodpippgakjaa

namespace Go.Proofs.Ytbdodpippgakjaa
open Go Go.Vs Go.Proofs

theorem ctr {k : Nat} (h : k ≤ 1000000) : IntKind.i64.wrap ((k : Int) + 1) = ((k + 1 : Nat) : Int) := by rw [wrap64 (by omega) (by omega)]; rfl

theorem samePlan46 (p q : Pl) (hp : p.small) (hq : q.small) : Gives Try.prog 46 [.agg [.sl 4 (stps p.steps), .sl 1 (afts p.after)], .agg [.sl 4 (stps q.steps), .sl 1 (afts q.after)]] (.c (.d (.bool (decide (p = q))))) [] := by
  obtain ⟨hp1, hp2, hp3⟩ := hp
  obtain ⟨hq1, hq2, hq3⟩ := hq
  refine Gives.of_w TryEnv Try.func46 (by decide) TryL46_ok Try.ntmps46 (rs := [.tmp 4]) rfl (by simp) [] (by decide) ?_; rw [TryL46]
  repeat' first
    | simp -implicitDefEqProofs only [go_sem, ↓reduceIte, Nat.reduceEqDiff, Nat.reduceAdd, Nat.reduceMul, Nat.reduceSub, Nat.reduceLeDiff, Nat.reduceLT, Nat.reducePow, reduceCtorEq, Int.reduceToNat, Int.reduceLT, Int.reduceLE, Int.reduceEq, Int.reduceAdd, Int.reduceSub, Int.reduceMul, Int.reduceNeg, Int.reduceTMod, Int.reduceTDiv, List.replicate_zero, List.replicate_succ]
    | refine wfork_intro (fun h => ?_) (fun h => ?_)
  · have : ¬ p = q := fun e => by simp [e] at *
    rw [decide_eq_false this]
    exact .refl _
  · have : ¬ p = q := fun e => by simp [e] at *
    rw [decide_eq_false this]
    exact .refl _
  · rename_i h1
    have h2 := h
    have h1 : p.steps.length = q.steps.length := by simp at h1; omega
    have h2 : p.after.length = q.after.length := by simp at h2; omega
    refine wT_loop (fun k : { k : Nat // k ≤ p.steps.length ∧ p.steps.take k = q.steps.take k } => ⟨[(2, .c (.ptr 0 0)), (3, .c (.ptr 4 0)), (5, .c (.d (.int .i64 (k.1 : Nat))))], [(0, .box [.d (.sl 4 (stps p.steps)), .d (.sl 1 (afts p.after))]), (4, .box [.d (.sl 4 (stps q.steps)), .d (.sl 1 (afts q.after))])], 5⟩) (fun k => p.steps.length - k.1) ⟨0, by simp⟩ ?_ ?_
    · refine Wk.sub ?_ ?_ ?_ ?_ ?_ ?_
      all_goals simp -implicitDefEqProofs only [go_sem, ↓reduceIte, Nat.reduceEqDiff, Nat.reduceAdd, Nat.reduceMul, Nat.reduceSub, Nat.reduceLeDiff, Nat.reduceLT, Nat.reducePow, reduceCtorEq, Int.reduceToNat, Int.reduceLT, Int.reduceLE, Int.reduceEq, Int.reduceAdd, Int.reduceSub, Int.reduceMul, Int.reduceNeg, Int.reduceTMod, Int.reduceTDiv, List.replicate_zero, List.replicate_succ]
    · rintro ⟨k, hk, hkk⟩
      refine wT_of TryEnv ?_
      simp -implicitDefEqProofs only [go_sem, ↓reduceIte, Nat.reduceEqDiff, Nat.reduceAdd, Nat.reduceMul, Nat.reduceSub, Nat.reduceLeDiff, Nat.reduceLT, Nat.reducePow, reduceCtorEq, Int.reduceToNat, Int.reduceLT, Int.reduceLE, Int.reduceEq, Int.reduceAdd, Int.reduceSub, Int.reduceMul, Int.reduceNeg, Int.reduceTMod, Int.reduceTDiv, List.replicate_zero, List.replicate_succ]
      refine wfork_intro (fun h3 => ?_) (fun h3 => ?_)
      · have h3 : k < p.steps.length := by simp at h3; omega
        have h4 : k < q.steps.length := by omega
        repeat' first
          | simp -implicitDefEqProofs only [go_sem, ↓reduceIte, Nat.reduceEqDiff, Nat.reduceAdd, Nat.reduceMul, Nat.reduceSub, Nat.reduceLeDiff, Nat.reduceLT, Nat.reducePow, reduceCtorEq, Int.reduceToNat, Int.reduceLT, Int.reduceLE, Int.reduceEq, Int.reduceAdd, Int.reduceSub, Int.reduceMul, Int.reduceNeg, Int.reduceTMod, Int.reduceTDiv, List.replicate_zero, List.replicate_succ, stps_get, List.getElem?_eq_getElem h3, List.getElem?_eq_getElem h4, Int.toNat_natCast, Int.natCast_nonneg, stp_same]
          | refine Also.mk (by decide) ?_
          | refine wfork_intro (fun h5 => ?_) (fun h5 => ?_)
        · have h5 : ¬ p.steps[k] = q.steps[k] := by simpa using h5
          have : ¬ p = q := fun e => h5 (by simp [e])
          rw [decide_eq_false this]
          exact .refl _
        · have h5 : p.steps[k] = q.steps[k] := by simpa using h5
          refine ⟨⟨k + 1, by omega, ?_⟩, Wk.sub (by simp -implicitDefEqProofs only [go_sem, ↓reduceIte, Nat.reduceEqDiff, Nat.reduceAdd, Nat.reduceMul, Nat.reduceSub, Nat.reduceLeDiff, Nat.reduceLT, Nat.reducePow, reduceCtorEq, Int.reduceToNat, Int.reduceLT, Int.reduceLE, Int.reduceEq, Int.reduceAdd, Int.reduceSub, Int.reduceMul, Int.reduceNeg, Int.reduceTMod, Int.reduceTDiv, List.replicate_zero, List.replicate_succ, ctr (show k ≤ 1000000 by omega)]) (by simp -implicitDefEqProofs only [go_sem, ↓reduceIte, Nat.reduceEqDiff, Nat.reduceAdd, Nat.reduceMul, Nat.reduceSub, Nat.reduceLeDiff, Nat.reduceLT, Nat.reducePow, reduceCtorEq, Int.reduceToNat, Int.reduceLT, Int.reduceLE, Int.reduceEq, Int.reduceAdd, Int.reduceSub, Int.reduceMul, Int.reduceNeg, Int.reduceTMod, Int.reduceTDiv, List.replicate_zero, List.replicate_succ]) (by decide) (by decide) (by simp -implicitDefEqProofs only [go_sem, ↓reduceIte, Nat.reduceEqDiff, Nat.reduceAdd, Nat.reduceMul, Nat.reduceSub, Nat.reduceLeDiff, Nat.reduceLT, Nat.reducePow, reduceCtorEq, Int.reduceToNat, Int.reduceLT, Int.reduceLE, Int.reduceEq, Int.reduceAdd, Int.reduceSub, Int.reduceMul, Int.reduceNeg, Int.reduceTMod, Int.reduceTDiv, List.replicate_zero, List.replicate_succ]) (by simp -implicitDefEqProofs only [go_sem, ↓reduceIte, Nat.reduceEqDiff, Nat.reduceAdd, Nat.reduceMul, Nat.reduceSub, Nat.reduceLeDiff, Nat.reduceLT, Nat.reducePow, reduceCtorEq, Int.reduceToNat, Int.reduceLT, Int.reduceLE, Int.reduceEq, Int.reduceAdd, Int.reduceSub, Int.reduceMul, Int.reduceNeg, Int.reduceTMod, Int.reduceTDiv, List.replicate_zero, List.replicate_succ]), by simp; omega⟩
          rw [List.take_add_one, List.take_add_one, hkk, List.getElem?_eq_getElem h3, List.getElem?_eq_getElem h4, h5]
      · have h3 : k = p.steps.length := by simp at h3; omega
        have e1 : p.steps = q.steps := by
          rw [h3, List.take_length, h1, List.take_length] at hkk
          exact hkk
        simp -implicitDefEqProofs only [go_sem, ↓reduceIte, Nat.reduceEqDiff, Nat.reduceAdd, Nat.reduceMul, Nat.reduceSub, Nat.reduceLeDiff, Nat.reduceLT, Nat.reducePow, reduceCtorEq, Int.reduceToNat, Int.reduceLT, Int.reduceLE, Int.reduceEq, Int.reduceAdd, Int.reduceSub, Int.reduceMul, Int.reduceNeg, Int.reduceTMod, Int.reduceTDiv, List.replicate_zero, List.replicate_succ]
        refine wT_loop (fun k : { k : Nat // k ≤ p.after.length ∧ p.after.take k = q.after.take k } => ⟨[(2, .c (.ptr 0 0)), (3, .c (.ptr 4 0)), (6, .c (.d (.int .i64 (k.1 : Nat))))], [(0, .box [.d (.sl 4 (stps p.steps)), .d (.sl 1 (afts p.after))]), (4, .box [.d (.sl 4 (stps q.steps)), .d (.sl 1 (afts q.after))])], 5⟩) (fun k => p.after.length - k.1) ⟨0, by simp⟩ ?_ ?_
        · refine Wk.sub ?_ ?_ ?_ ?_ ?_ ?_
          all_goals simp -implicitDefEqProofs only [go_sem, ↓reduceIte, Nat.reduceEqDiff, Nat.reduceAdd, Nat.reduceMul, Nat.reduceSub, Nat.reduceLeDiff, Nat.reduceLT, Nat.reducePow, reduceCtorEq, Int.reduceToNat, Int.reduceLT, Int.reduceLE, Int.reduceEq, Int.reduceAdd, Int.reduceSub, Int.reduceMul, Int.reduceNeg, Int.reduceTMod, Int.reduceTDiv, List.replicate_zero, List.replicate_succ]
        · rintro ⟨k, hk, hkk⟩
          refine wT_of TryEnv ?_
          simp -implicitDefEqProofs only [go_sem, ↓reduceIte, Nat.reduceEqDiff, Nat.reduceAdd, Nat.reduceMul, Nat.reduceSub, Nat.reduceLeDiff, Nat.reduceLT, Nat.reducePow, reduceCtorEq, Int.reduceToNat, Int.reduceLT, Int.reduceLE, Int.reduceEq, Int.reduceAdd, Int.reduceSub, Int.reduceMul, Int.reduceNeg, Int.reduceTMod, Int.reduceTDiv, List.replicate_zero, List.replicate_succ]
          refine wfork_intro (fun h3 => ?_) (fun h3 => ?_)
          · have h3 : k < p.after.length := by simp at h3; omega
            have h4 : k < q.after.length := by omega
            have l1 := hp3 _ (List.getElem_mem h3)
            have l2 := hq3 _ (List.getElem_mem h4)
            repeat' first
              | simp -implicitDefEqProofs only [go_sem, ↓reduceIte, Nat.reduceEqDiff, Nat.reduceAdd, Nat.reduceMul, Nat.reduceSub, Nat.reduceLeDiff, Nat.reduceLT, Nat.reducePow, reduceCtorEq, Int.reduceToNat, Int.reduceLT, Int.reduceLE, Int.reduceEq, Int.reduceAdd, Int.reduceSub, Int.reduceMul, Int.reduceNeg, Int.reduceTMod, Int.reduceTDiv, List.replicate_zero, List.replicate_succ, afts_get, List.getElem?_eq_getElem h3, List.getElem?_eq_getElem h4, Int.toNat_natCast, Int.natCast_nonneg]
              | refine Also.mk (by decide) ?_
              | (refine wCall_intro (numbers68 _ _ ?_ ?_) ?_ ?_ ?_; omega; omega; rfl; decide)
              | refine wfork_intro (fun h5 => ?_) (fun h5 => ?_)
            · have h5 : ¬ p.after[k] = q.after[k] := by simpa using h5
              have : ¬ p = q := fun e => h5 (by simp [e])
              rw [decide_eq_false this]
              exact .refl _
            · have h5 : p.after[k] = q.after[k] := by simpa using h5
              refine ⟨⟨k + 1, by omega, ?_⟩, Wk.sub (by simp -implicitDefEqProofs only [go_sem, ↓reduceIte, Nat.reduceEqDiff, Nat.reduceAdd, Nat.reduceMul, Nat.reduceSub, Nat.reduceLeDiff, Nat.reduceLT, Nat.reducePow, reduceCtorEq, Int.reduceToNat, Int.reduceLT, Int.reduceLE, Int.reduceEq, Int.reduceAdd, Int.reduceSub, Int.reduceMul, Int.reduceNeg, Int.reduceTMod, Int.reduceTDiv, List.replicate_zero, List.replicate_succ, ctr (show k ≤ 1000000 by omega)]) (by simp -implicitDefEqProofs only [go_sem, ↓reduceIte, Nat.reduceEqDiff, Nat.reduceAdd, Nat.reduceMul, Nat.reduceSub, Nat.reduceLeDiff, Nat.reduceLT, Nat.reducePow, reduceCtorEq, Int.reduceToNat, Int.reduceLT, Int.reduceLE, Int.reduceEq, Int.reduceAdd, Int.reduceSub, Int.reduceMul, Int.reduceNeg, Int.reduceTMod, Int.reduceTDiv, List.replicate_zero, List.replicate_succ]) (by decide) (by decide) (by simp -implicitDefEqProofs only [go_sem, ↓reduceIte, Nat.reduceEqDiff, Nat.reduceAdd, Nat.reduceMul, Nat.reduceSub, Nat.reduceLeDiff, Nat.reduceLT, Nat.reducePow, reduceCtorEq, Int.reduceToNat, Int.reduceLT, Int.reduceLE, Int.reduceEq, Int.reduceAdd, Int.reduceSub, Int.reduceMul, Int.reduceNeg, Int.reduceTMod, Int.reduceTDiv, List.replicate_zero, List.replicate_succ]) (by simp -implicitDefEqProofs only [go_sem, ↓reduceIte, Nat.reduceEqDiff, Nat.reduceAdd, Nat.reduceMul, Nat.reduceSub, Nat.reduceLeDiff, Nat.reduceLT, Nat.reducePow, reduceCtorEq, Int.reduceToNat, Int.reduceLT, Int.reduceLE, Int.reduceEq, Int.reduceAdd, Int.reduceSub, Int.reduceMul, Int.reduceNeg, Int.reduceTMod, Int.reduceTDiv, List.replicate_zero, List.replicate_succ]), by simp; omega⟩
              rw [List.take_add_one, List.take_add_one, hkk, List.getElem?_eq_getElem h3, List.getElem?_eq_getElem h4, h5]
          · have h3 : k = p.after.length := by simp at h3; omega
            have e2 : p.after = q.after := by
              rw [h3, List.take_length, h2, List.take_length] at hkk
              exact hkk
            simp -implicitDefEqProofs only [go_sem, ↓reduceIte, Nat.reduceEqDiff, Nat.reduceAdd, Nat.reduceMul, Nat.reduceSub, Nat.reduceLeDiff, Nat.reduceLT, Nat.reducePow, reduceCtorEq, Int.reduceToNat, Int.reduceLT, Int.reduceLE, Int.reduceEq, Int.reduceAdd, Int.reduceSub, Int.reduceMul, Int.reduceNeg, Int.reduceTMod, Int.reduceTDiv, List.replicate_zero, List.replicate_succ]
            have : p = q := by cases p; cases q; simp_all
            rw [decide_eq_true this]
            exact .refl _
/-- An execution of which every list is short. -/
def Ex.small (x : Ex) : Prop := x.plan.small ∧ x.tries.length ≤ 1000

theorem same15 (p q : Ex) (hp : p.small) (hq : q.small) : Gives Try.prog 15 [.agg [.bool p.run, .bool p.stp, .sl 4 (stps p.plan.steps), .sl 1 (afts p.plan.after), .sl 3 (trs p.tries), .int .i64 p.next], .agg [.bool q.run, .bool q.stp, .sl 4 (stps q.plan.steps), .sl 1 (afts q.plan.after), .sl 3 (trs q.tries), .int .i64 q.next]] (.c (.d (.bool (decide (p = q))))) [] := by
  obtain ⟨hp1, hp2⟩ := hp
  obtain ⟨hq1, hq2⟩ := hq
  refine Gives.of_w TryEnv Try.func15 (by decide) TryL15_ok Try.ntmps15 (rs := [.tmp 4]) rfl (by simp) [] (by decide) ?_; rw [TryL15]
  repeat' first
    | simp -implicitDefEqProofs only [go_sem, ↓reduceIte, Nat.reduceEqDiff, Nat.reduceAdd, Nat.reduceMul, Nat.reduceSub, Nat.reduceLeDiff, Nat.reduceLT, Nat.reducePow, reduceCtorEq, Int.reduceToNat, Int.reduceLT, Int.reduceLE, Int.reduceEq, Int.reduceAdd, Int.reduceSub, Int.reduceMul, Int.reduceNeg, Int.reduceTMod, Int.reduceTDiv, List.replicate_zero, List.replicate_succ]
    | refine wfork_intro (fun h => ?_) (fun h => ?_)
    | (refine wCall_intro (samePlan46 _ _ ?_ ?_) ?_ ?_ ?_; assumption; assumption; rfl; decide)
    | refine Also.mk (by decide) ?_
  all_goals try (
    have : ¬ p = q := fun e => by simp [e] at *
    rw [decide_eq_false this]
    exact .refl _)
  have e1 : p.run = q.run := by simp at *; assumption
  have e2 : p.stp = q.stp := by simp at *; assumption
  have e3 : p.next = q.next := by simp at *; assumption
  have e4 : p.plan = q.plan := by simp at *; assumption
  have e5 : p.tries.length = q.tries.length := by simp at h; omega
  refine wT_loop (fun k : { k : Nat // k ≤ p.tries.length ∧ p.tries.take k = q.tries.take k } => ⟨[(2, .c (.ptr 0 0)), (3, .c (.ptr 4 0)), (5, .c (.d (.int .i64 (k.1 : Nat))))], [(0, .box [.d (.bool p.run), .d (.bool p.stp), .d (.sl 4 (stps p.plan.steps)), .d (.sl 1 (afts p.plan.after)), .d (.sl 3 (trs p.tries)), .d (.int .i64 p.next)]), (4, .box [.d (.bool q.run), .d (.bool q.stp), .d (.sl 4 (stps q.plan.steps)), .d (.sl 1 (afts q.plan.after)), .d (.sl 3 (trs q.tries)), .d (.int .i64 q.next)])], 5⟩) (fun k => p.tries.length - k.1) ⟨0, by simp⟩ ?_ ?_
  · refine Wk.sub ?_ ?_ ?_ ?_ ?_ ?_
    all_goals simp -implicitDefEqProofs only [go_sem, ↓reduceIte, Nat.reduceEqDiff, Nat.reduceAdd, Nat.reduceMul, Nat.reduceSub, Nat.reduceLeDiff, Nat.reduceLT, Nat.reducePow, reduceCtorEq, Int.reduceToNat, Int.reduceLT, Int.reduceLE, Int.reduceEq, Int.reduceAdd, Int.reduceSub, Int.reduceMul, Int.reduceNeg, Int.reduceTMod, Int.reduceTDiv, List.replicate_zero, List.replicate_succ]
  · rintro ⟨k, hk, hkk⟩
    refine wT_of TryEnv ?_
    simp -implicitDefEqProofs only [go_sem, ↓reduceIte, Nat.reduceEqDiff, Nat.reduceAdd, Nat.reduceMul, Nat.reduceSub, Nat.reduceLeDiff, Nat.reduceLT, Nat.reducePow, reduceCtorEq, Int.reduceToNat, Int.reduceLT, Int.reduceLE, Int.reduceEq, Int.reduceAdd, Int.reduceSub, Int.reduceMul, Int.reduceNeg, Int.reduceTMod, Int.reduceTDiv, List.replicate_zero, List.replicate_succ]
    refine wfork_intro (fun h3 => ?_) (fun h3 => ?_)
    · have h3 : k < p.tries.length := by simp at h3; omega
      have h4 : k < q.tries.length := by omega
      repeat' first
        | simp -implicitDefEqProofs only [go_sem, ↓reduceIte, Nat.reduceEqDiff, Nat.reduceAdd, Nat.reduceMul, Nat.reduceSub, Nat.reduceLeDiff, Nat.reduceLT, Nat.reducePow, reduceCtorEq, Int.reduceToNat, Int.reduceLT, Int.reduceLE, Int.reduceEq, Int.reduceAdd, Int.reduceSub, Int.reduceMul, Int.reduceNeg, Int.reduceTMod, Int.reduceTDiv, List.replicate_zero, List.replicate_succ, trs_get, List.getElem?_eq_getElem h3, List.getElem?_eq_getElem h4, Int.toNat_natCast, Int.natCast_nonneg, tr_same]
        | refine Also.mk (by decide) ?_
        | refine wfork_intro (fun h5 => ?_) (fun h5 => ?_)
      · have h5 : ¬ p.tries[k] = q.tries[k] := by simpa using h5
        have : ¬ p = q := fun e => h5 (by simp [e])
        rw [decide_eq_false this]
        exact .refl _
      · have h5 : p.tries[k] = q.tries[k] := by simpa using h5
        refine ⟨⟨k + 1, by omega, ?_⟩, Wk.sub (by simp -implicitDefEqProofs only [go_sem, ↓reduceIte, Nat.reduceEqDiff, Nat.reduceAdd, Nat.reduceMul, Nat.reduceSub, Nat.reduceLeDiff, Nat.reduceLT, Nat.reducePow, reduceCtorEq, Int.reduceToNat, Int.reduceLT, Int.reduceLE, Int.reduceEq, Int.reduceAdd, Int.reduceSub, Int.reduceMul, Int.reduceNeg, Int.reduceTMod, Int.reduceTDiv, List.replicate_zero, List.replicate_succ, ctr (show k ≤ 1000000 by omega)]) (by simp -implicitDefEqProofs only [go_sem, ↓reduceIte, Nat.reduceEqDiff, Nat.reduceAdd, Nat.reduceMul, Nat.reduceSub, Nat.reduceLeDiff, Nat.reduceLT, Nat.reducePow, reduceCtorEq, Int.reduceToNat, Int.reduceLT, Int.reduceLE, Int.reduceEq, Int.reduceAdd, Int.reduceSub, Int.reduceMul, Int.reduceNeg, Int.reduceTMod, Int.reduceTDiv, List.replicate_zero, List.replicate_succ]) (by decide) (by decide) (by simp -implicitDefEqProofs only [go_sem, ↓reduceIte, Nat.reduceEqDiff, Nat.reduceAdd, Nat.reduceMul, Nat.reduceSub, Nat.reduceLeDiff, Nat.reduceLT, Nat.reducePow, reduceCtorEq, Int.reduceToNat, Int.reduceLT, Int.reduceLE, Int.reduceEq, Int.reduceAdd, Int.reduceSub, Int.reduceMul, Int.reduceNeg, Int.reduceTMod, Int.reduceTDiv, List.replicate_zero, List.replicate_succ]) (by simp -implicitDefEqProofs only [go_sem, ↓reduceIte, Nat.reduceEqDiff, Nat.reduceAdd, Nat.reduceMul, Nat.reduceSub, Nat.reduceLeDiff, Nat.reduceLT, Nat.reducePow, reduceCtorEq, Int.reduceToNat, Int.reduceLT, Int.reduceLE, Int.reduceEq, Int.reduceAdd, Int.reduceSub, Int.reduceMul, Int.reduceNeg, Int.reduceTMod, Int.reduceTDiv, List.replicate_zero, List.replicate_succ]), by simp; omega⟩
        rw [List.take_add_one, List.take_add_one, hkk, List.getElem?_eq_getElem h3, List.getElem?_eq_getElem h4, h5]
    · have h3 : k = p.tries.length := by simp at h3; omega
      have e6 : p.tries = q.tries := by
        rw [h3, List.take_length, e5, List.take_length] at hkk
        exact hkk
      simp -implicitDefEqProofs only [go_sem, ↓reduceIte, Nat.reduceEqDiff, Nat.reduceAdd, Nat.reduceMul, Nat.reduceSub, Nat.reduceLeDiff, Nat.reduceLT, Nat.reducePow, reduceCtorEq, Int.reduceToNat, Int.reduceLT, Int.reduceLE, Int.reduceEq, Int.reduceAdd, Int.reduceSub, Int.reduceMul, Int.reduceNeg, Int.reduceTMod, Int.reduceTDiv, List.replicate_zero, List.replicate_succ]
      have : p = q := by cases p; cases q; simp_all
      rw [decide_eq_true this]
      exact .refl _

theorem has35 (l : List Int) (n : Int) (hl : l.length ≤ 1000000) : Gives Try.prog 35 [.c (.sl 1 (nums l)), .c (.int .i64 n)] (.c (.d (.bool (decide (n ∈ l))))) [] := by
  refine Gives.of_w TryEnv Try.func35 (by decide) TryL35_ok Try.ntmps35 (rs := [.tmp 4]) rfl (by simp) [] (by decide) ?_; rw [TryL35]
  simp -implicitDefEqProofs only [go_sem, ↓reduceIte, Nat.reduceEqDiff, Nat.reduceAdd, Nat.reduceMul, Nat.reduceSub, Nat.reduceLeDiff, Nat.reduceLT, Nat.reducePow, reduceCtorEq, Int.reduceToNat, Int.reduceLT, Int.reduceLE, Int.reduceEq, Int.reduceAdd, Int.reduceSub, Int.reduceMul, Int.reduceNeg, Int.reduceTMod, Int.reduceTDiv, List.replicate_zero, List.replicate_succ]
  refine wT_loop (fun k : { k : Nat // k ≤ l.length ∧ ∀ j (h : j < l.length), j < k → l[j] ≠ n } => ⟨[(0, .c (.d (.sl 1 (nums l)))), (1, .c (.d (.int .i64 n))), (5, .c (.d (.int .i64 (k.1 : Nat))))], [], 0⟩) (fun k => l.length - k.1) ⟨0, by simp⟩ ?_ ?_
  · refine Wk.sub ?_ ?_ ?_ ?_ ?_ ?_
    all_goals simp -implicitDefEqProofs only [go_sem, ↓reduceIte, Nat.reduceEqDiff, Nat.reduceAdd, Nat.reduceMul, Nat.reduceSub, Nat.reduceLeDiff, Nat.reduceLT, Nat.reducePow, reduceCtorEq, Int.reduceToNat, Int.reduceLT, Int.reduceLE, Int.reduceEq, Int.reduceAdd, Int.reduceSub, Int.reduceMul, Int.reduceNeg, Int.reduceTMod, Int.reduceTDiv, List.replicate_zero, List.replicate_succ]
  · rintro ⟨k, hk, hkk⟩
    refine wT_of TryEnv ?_
    simp -implicitDefEqProofs only [go_sem, ↓reduceIte, Nat.reduceEqDiff, Nat.reduceAdd, Nat.reduceMul, Nat.reduceSub, Nat.reduceLeDiff, Nat.reduceLT, Nat.reducePow, reduceCtorEq, Int.reduceToNat, Int.reduceLT, Int.reduceLE, Int.reduceEq, Int.reduceAdd, Int.reduceSub, Int.reduceMul, Int.reduceNeg, Int.reduceTMod, Int.reduceTDiv, List.replicate_zero, List.replicate_succ]
    refine wfork_intro (fun h3 => ?_) (fun h3 => ?_)
    · have h3 : k < l.length := by simp at h3; omega
      repeat' first
        | simp -implicitDefEqProofs only [go_sem, ↓reduceIte, Nat.reduceEqDiff, Nat.reduceAdd, Nat.reduceMul, Nat.reduceSub, Nat.reduceLeDiff, Nat.reduceLT, Nat.reducePow, reduceCtorEq, Int.reduceToNat, Int.reduceLT, Int.reduceLE, Int.reduceEq, Int.reduceAdd, Int.reduceSub, Int.reduceMul, Int.reduceNeg, Int.reduceTMod, Int.reduceTDiv, List.replicate_zero, List.replicate_succ, nums_get, List.getElem?_eq_getElem h3, Int.toNat_natCast, Int.natCast_nonneg]
        | refine Also.mk (by decide) ?_
        | refine wfork_intro (fun h5 => ?_) (fun h5 => ?_)
      · have h5 : l[k] = n := by simpa using h5
        have : n ∈ l := by rw [← h5]; exact List.getElem_mem _
        rw [decide_eq_true this]
        exact .refl _
      · have h5 : ¬ l[k] = n := by simpa using h5
        refine ⟨⟨k + 1, by omega, fun j h hj => ?_⟩, Wk.sub (by simp -implicitDefEqProofs only [go_sem, ↓reduceIte, Nat.reduceEqDiff, Nat.reduceAdd, Nat.reduceMul, Nat.reduceSub, Nat.reduceLeDiff, Nat.reduceLT, Nat.reducePow, reduceCtorEq, Int.reduceToNat, Int.reduceLT, Int.reduceLE, Int.reduceEq, Int.reduceAdd, Int.reduceSub, Int.reduceMul, Int.reduceNeg, Int.reduceTMod, Int.reduceTDiv, List.replicate_zero, List.replicate_succ, ctr (show k ≤ 1000000 by omega)]) (by simp -implicitDefEqProofs only [go_sem, ↓reduceIte, Nat.reduceEqDiff, Nat.reduceAdd, Nat.reduceMul, Nat.reduceSub, Nat.reduceLeDiff, Nat.reduceLT, Nat.reducePow, reduceCtorEq, Int.reduceToNat, Int.reduceLT, Int.reduceLE, Int.reduceEq, Int.reduceAdd, Int.reduceSub, Int.reduceMul, Int.reduceNeg, Int.reduceTMod, Int.reduceTDiv, List.replicate_zero, List.replicate_succ]) (by decide) (by decide) (by simp -implicitDefEqProofs only [go_sem, ↓reduceIte, Nat.reduceEqDiff, Nat.reduceAdd, Nat.reduceMul, Nat.reduceSub, Nat.reduceLeDiff, Nat.reduceLT, Nat.reducePow, reduceCtorEq, Int.reduceToNat, Int.reduceLT, Int.reduceLE, Int.reduceEq, Int.reduceAdd, Int.reduceSub, Int.reduceMul, Int.reduceNeg, Int.reduceTMod, Int.reduceTDiv, List.replicate_zero, List.replicate_succ]) (by simp -implicitDefEqProofs only [go_sem, ↓reduceIte, Nat.reduceEqDiff, Nat.reduceAdd, Nat.reduceMul, Nat.reduceSub, Nat.reduceLeDiff, Nat.reduceLT, Nat.reducePow, reduceCtorEq, Int.reduceToNat, Int.reduceLT, Int.reduceLE, Int.reduceEq, Int.reduceAdd, Int.reduceSub, Int.reduceMul, Int.reduceNeg, Int.reduceTMod, Int.reduceTDiv, List.replicate_zero, List.replicate_succ]), by simp; omega⟩
        by_cases e : j = k
        · subst e; exact h5
        · exact hkk j h (by omega)
    · have h3 : k = l.length := by simp at h3; omega
      have : ¬ n ∈ l := fun hm => by
        obtain ⟨j, hj, e⟩ := List.getElem_of_mem hm
        exact hkk j hj (by omega) e
      simp -implicitDefEqProofs only [go_sem, ↓reduceIte, Nat.reduceEqDiff, Nat.reduceAdd, Nat.reduceMul, Nat.reduceSub, Nat.reduceLeDiff, Nat.reduceLT, Nat.reducePow, reduceCtorEq, Int.reduceToNat, Int.reduceLT, Int.reduceLE, Int.reduceEq, Int.reduceAdd, Int.reduceSub, Int.reduceMul, Int.reduceNeg, Int.reduceTMod, Int.reduceTDiv, List.replicate_zero, List.replicate_succ]
      rw [decide_eq_false this]
      exact .refl _

/-- The place of the open try with an id. -/
def placeL (ts : List Tr) (id : Int) (from_ : Nat) : Int := match ts with
  | [] => -1
  | t :: ts => if openT t && decide (t.id = id) then (from_ : Int) else placeL ts id (from_ + 1)
def placeN (x : Ex) (id : Int) : Int := placeL x.tries id 0
theorem placeL_skip (id : Int) : ∀ (ts : List Tr) (k n : Nat), (∀ j (h : j < ts.length), j < k → (openT ts[j] && decide (ts[j].id = id)) = false) → k ≤ ts.length → placeL ts id n = placeL (ts.drop k) id (n + k)
  | ts, 0, n, _, _ => by simp
  | [], k + 1, n, _, hk => by simp at hk
  | t :: ts, k + 1, n, h, hk => by
    have h0 := h 0 (by simp) (by omega)
    simp only [List.getElem_cons_zero] at h0
    rw [placeL, if_neg (by simp [h0]), List.drop_succ_cons, placeL_skip id ts k (n + 1) (fun j hj hjk => by have := h (j + 1) (by simpa using hj) (by omega); simpa only [List.getElem_cons_succ] using this) (by simpa using hk)]
    congr 1
    omega

theorem place44 (x : Ex) (id : Int) (hx : x.small) : Gives Try.prog 44 [.agg [.bool x.run, .bool x.stp, .sl 4 (stps x.plan.steps), .sl 1 (afts x.plan.after), .sl 3 (trs x.tries), .int .i64 x.next], .c (.int .i64 id)] (.c (.d (.int .i64 (placeN x id)))) [] := by
  obtain ⟨hx1, hx2⟩ := hx
  refine Gives.of_w TryEnv Try.func44 (by decide) TryL44_ok Try.ntmps44 (rs := [.tmp 4]) rfl (by simp) [] (by decide) ?_; rw [TryL44]
  simp -implicitDefEqProofs only [go_sem, ↓reduceIte, Nat.reduceEqDiff, Nat.reduceAdd, Nat.reduceMul, Nat.reduceSub, Nat.reduceLeDiff, Nat.reduceLT, Nat.reducePow, reduceCtorEq, Int.reduceToNat, Int.reduceLT, Int.reduceLE, Int.reduceEq, Int.reduceAdd, Int.reduceSub, Int.reduceMul, Int.reduceNeg, Int.reduceTMod, Int.reduceTDiv, List.replicate_zero, List.replicate_succ]
  refine wT_loop (fun k : { k : Nat // k ≤ x.tries.length ∧ ∀ j (h : j < x.tries.length), j < k → (openT x.tries[j] && decide (x.tries[j].id = id)) = false } => ⟨[(2, .c (.ptr 0 0)), (1, .c (.d (.int .i64 id))), (5, .c (.d (.int .i64 (k.1 : Nat))))], [(0, .box [.d (.bool x.run), .d (.bool x.stp), .d (.sl 4 (stps x.plan.steps)), .d (.sl 1 (afts x.plan.after)), .d (.sl 3 (trs x.tries)), .d (.int .i64 x.next)])], 1⟩) (fun k => x.tries.length - k.1) ⟨0, by simp⟩ ?_ ?_
  · refine Wk.sub ?_ ?_ ?_ ?_ ?_ ?_
    all_goals simp -implicitDefEqProofs only [go_sem, ↓reduceIte, Nat.reduceEqDiff, Nat.reduceAdd, Nat.reduceMul, Nat.reduceSub, Nat.reduceLeDiff, Nat.reduceLT, Nat.reducePow, reduceCtorEq, Int.reduceToNat, Int.reduceLT, Int.reduceLE, Int.reduceEq, Int.reduceAdd, Int.reduceSub, Int.reduceMul, Int.reduceNeg, Int.reduceTMod, Int.reduceTDiv, List.replicate_zero, List.replicate_succ]
  · rintro ⟨k, hk, hkk⟩
    refine wT_of TryEnv ?_
    simp -implicitDefEqProofs only [go_sem, ↓reduceIte, Nat.reduceEqDiff, Nat.reduceAdd, Nat.reduceMul, Nat.reduceSub, Nat.reduceLeDiff, Nat.reduceLT, Nat.reducePow, reduceCtorEq, Int.reduceToNat, Int.reduceLT, Int.reduceLE, Int.reduceEq, Int.reduceAdd, Int.reduceSub, Int.reduceMul, Int.reduceNeg, Int.reduceTMod, Int.reduceTDiv, List.replicate_zero, List.replicate_succ]
    refine wfork_intro (fun h3 => ?_) (fun h3 => ?_)
    · have h3 : k < x.tries.length := by simp at h3; omega
      have skip : placeN x id = placeL (x.tries.drop k) id (0 + k) := placeL_skip id _ k 0 hkk hk
      rw [List.drop_eq_getElem_cons h3, placeL] at skip
      have next : (openT x.tries[k] && decide (x.tries[k].id = id)) = false → ∀ j (h : j < x.tries.length), j < k + 1 → (openT x.tries[j] && decide (x.tries[j].id = id)) = false := fun h5 j h hj => by
        by_cases e : j = k
        · subst e; exact h5
        · exact hkk j h (by omega)
      have hg : x.tries[k]? = some x.tries[k] := List.getElem?_eq_getElem h3
      generalize x.tries[k] = t at *
      repeat' first
        | simp -implicitDefEqProofs only [go_sem, ↓reduceIte, Nat.reduceEqDiff, Nat.reduceAdd, Nat.reduceMul, Nat.reduceSub, Nat.reduceLeDiff, Nat.reduceLT, Nat.reducePow, reduceCtorEq, Int.reduceToNat, Int.reduceLT, Int.reduceLE, Int.reduceEq, Int.reduceAdd, Int.reduceSub, Int.reduceMul, Int.reduceNeg, Int.reduceTMod, Int.reduceTDiv, List.replicate_zero, List.replicate_succ, trs_get, hg, Int.toNat_natCast, Int.natCast_nonneg]
        | refine Also.mk (by decide) ?_
        | (refine wCall_intro (open54 _) ?_ ?_ ?_; rfl; decide)
        | refine wfork_intro (fun h5 => ?_) (fun h5 => ?_)
      · rw [if_pos (by simp_all)] at skip
        rw [skip]
        refine DLe.of_eq ?_
        simp
      · refine ⟨⟨k + 1, by omega, next (by simp_all)⟩, Wk.sub (by simp -implicitDefEqProofs only [go_sem, ↓reduceIte, Nat.reduceEqDiff, Nat.reduceAdd, Nat.reduceMul, Nat.reduceSub, Nat.reduceLeDiff, Nat.reduceLT, Nat.reducePow, reduceCtorEq, Int.reduceToNat, Int.reduceLT, Int.reduceLE, Int.reduceEq, Int.reduceAdd, Int.reduceSub, Int.reduceMul, Int.reduceNeg, Int.reduceTMod, Int.reduceTDiv, List.replicate_zero, List.replicate_succ, ctr (show k ≤ 1000000 by omega)]) (by simp -implicitDefEqProofs only [go_sem, ↓reduceIte, Nat.reduceEqDiff, Nat.reduceAdd, Nat.reduceMul, Nat.reduceSub, Nat.reduceLeDiff, Nat.reduceLT, Nat.reducePow, reduceCtorEq, Int.reduceToNat, Int.reduceLT, Int.reduceLE, Int.reduceEq, Int.reduceAdd, Int.reduceSub, Int.reduceMul, Int.reduceNeg, Int.reduceTMod, Int.reduceTDiv, List.replicate_zero, List.replicate_succ]) (by decide) (by decide) (by simp -implicitDefEqProofs only [go_sem, ↓reduceIte, Nat.reduceEqDiff, Nat.reduceAdd, Nat.reduceMul, Nat.reduceSub, Nat.reduceLeDiff, Nat.reduceLT, Nat.reducePow, reduceCtorEq, Int.reduceToNat, Int.reduceLT, Int.reduceLE, Int.reduceEq, Int.reduceAdd, Int.reduceSub, Int.reduceMul, Int.reduceNeg, Int.reduceTMod, Int.reduceTDiv, List.replicate_zero, List.replicate_succ]) (by simp -implicitDefEqProofs only [go_sem, ↓reduceIte, Nat.reduceEqDiff, Nat.reduceAdd, Nat.reduceMul, Nat.reduceSub, Nat.reduceLeDiff, Nat.reduceLT, Nat.reducePow, reduceCtorEq, Int.reduceToNat, Int.reduceLT, Int.reduceLE, Int.reduceEq, Int.reduceAdd, Int.reduceSub, Int.reduceMul, Int.reduceNeg, Int.reduceTMod, Int.reduceTDiv, List.replicate_zero, List.replicate_succ]), by simp; omega⟩
      · refine ⟨⟨k + 1, by omega, next (by simp_all)⟩, Wk.sub (by simp -implicitDefEqProofs only [go_sem, ↓reduceIte, Nat.reduceEqDiff, Nat.reduceAdd, Nat.reduceMul, Nat.reduceSub, Nat.reduceLeDiff, Nat.reduceLT, Nat.reducePow, reduceCtorEq, Int.reduceToNat, Int.reduceLT, Int.reduceLE, Int.reduceEq, Int.reduceAdd, Int.reduceSub, Int.reduceMul, Int.reduceNeg, Int.reduceTMod, Int.reduceTDiv, List.replicate_zero, List.replicate_succ, ctr (show k ≤ 1000000 by omega)]) (by simp -implicitDefEqProofs only [go_sem, ↓reduceIte, Nat.reduceEqDiff, Nat.reduceAdd, Nat.reduceMul, Nat.reduceSub, Nat.reduceLeDiff, Nat.reduceLT, Nat.reducePow, reduceCtorEq, Int.reduceToNat, Int.reduceLT, Int.reduceLE, Int.reduceEq, Int.reduceAdd, Int.reduceSub, Int.reduceMul, Int.reduceNeg, Int.reduceTMod, Int.reduceTDiv, List.replicate_zero, List.replicate_succ]) (by decide) (by decide) (by simp -implicitDefEqProofs only [go_sem, ↓reduceIte, Nat.reduceEqDiff, Nat.reduceAdd, Nat.reduceMul, Nat.reduceSub, Nat.reduceLeDiff, Nat.reduceLT, Nat.reducePow, reduceCtorEq, Int.reduceToNat, Int.reduceLT, Int.reduceLE, Int.reduceEq, Int.reduceAdd, Int.reduceSub, Int.reduceMul, Int.reduceNeg, Int.reduceTMod, Int.reduceTDiv, List.replicate_zero, List.replicate_succ]) (by simp -implicitDefEqProofs only [go_sem, ↓reduceIte, Nat.reduceEqDiff, Nat.reduceAdd, Nat.reduceMul, Nat.reduceSub, Nat.reduceLeDiff, Nat.reduceLT, Nat.reducePow, reduceCtorEq, Int.reduceToNat, Int.reduceLT, Int.reduceLE, Int.reduceEq, Int.reduceAdd, Int.reduceSub, Int.reduceMul, Int.reduceNeg, Int.reduceTMod, Int.reduceTDiv, List.replicate_zero, List.replicate_succ]), by simp; omega⟩
    · have h3 : k = x.tries.length := by simp at h3; omega
      have skip : placeN x id = placeL (x.tries.drop k) id (0 + k) := placeL_skip id _ k 0 hkk hk
      rw [h3, List.drop_length, placeL] at skip
      simp -implicitDefEqProofs only [go_sem, ↓reduceIte, Nat.reduceEqDiff, Nat.reduceAdd, Nat.reduceMul, Nat.reduceSub, Nat.reduceLeDiff, Nat.reduceLT, Nat.reducePow, reduceCtorEq, Int.reduceToNat, Int.reduceLT, Int.reduceLE, Int.reduceEq, Int.reduceAdd, Int.reduceSub, Int.reduceMul, Int.reduceNeg, Int.reduceTMod, Int.reduceTDiv, List.replicate_zero, List.replicate_succ]
      rw [skip]
      exact .refl _

/-- No try is open. -/
def settledN (x : Ex) : Bool := !x.tries.any openT

theorem settled45 (x : Ex) (hx : x.small) : Gives Try.prog 45 [.agg [.bool x.run, .bool x.stp, .sl 4 (stps x.plan.steps), .sl 1 (afts x.plan.after), .sl 3 (trs x.tries), .int .i64 x.next]] (.c (.d (.bool (settledN x)))) [] := by
  obtain ⟨hx1, hx2⟩ := hx
  refine Gives.of_w TryEnv Try.func45 (by decide) TryL45_ok Try.ntmps45 (rs := [.tmp 2]) rfl (by simp) [] (by decide) ?_; rw [TryL45]
  simp -implicitDefEqProofs only [go_sem, ↓reduceIte, Nat.reduceEqDiff, Nat.reduceAdd, Nat.reduceMul, Nat.reduceSub, Nat.reduceLeDiff, Nat.reduceLT, Nat.reducePow, reduceCtorEq, Int.reduceToNat, Int.reduceLT, Int.reduceLE, Int.reduceEq, Int.reduceAdd, Int.reduceSub, Int.reduceMul, Int.reduceNeg, Int.reduceTMod, Int.reduceTDiv, List.replicate_zero, List.replicate_succ]
  refine wT_loop (fun k : { k : Nat // k ≤ x.tries.length ∧ ∀ j (h : j < x.tries.length), j < k → openT x.tries[j] = false } => ⟨[(1, .c (.ptr 0 0)), (3, .c (.d (.int .i64 (k.1 : Nat))))], [(0, .box [.d (.bool x.run), .d (.bool x.stp), .d (.sl 4 (stps x.plan.steps)), .d (.sl 1 (afts x.plan.after)), .d (.sl 3 (trs x.tries)), .d (.int .i64 x.next)])], 1⟩) (fun k => x.tries.length - k.1) ⟨0, by simp⟩ ?_ ?_
  · refine Wk.sub ?_ ?_ ?_ ?_ ?_ ?_
    all_goals simp -implicitDefEqProofs only [go_sem, ↓reduceIte, Nat.reduceEqDiff, Nat.reduceAdd, Nat.reduceMul, Nat.reduceSub, Nat.reduceLeDiff, Nat.reduceLT, Nat.reducePow, reduceCtorEq, Int.reduceToNat, Int.reduceLT, Int.reduceLE, Int.reduceEq, Int.reduceAdd, Int.reduceSub, Int.reduceMul, Int.reduceNeg, Int.reduceTMod, Int.reduceTDiv, List.replicate_zero, List.replicate_succ]
  · rintro ⟨k, hk, hkk⟩
    refine wT_of TryEnv ?_
    simp -implicitDefEqProofs only [go_sem, ↓reduceIte, Nat.reduceEqDiff, Nat.reduceAdd, Nat.reduceMul, Nat.reduceSub, Nat.reduceLeDiff, Nat.reduceLT, Nat.reducePow, reduceCtorEq, Int.reduceToNat, Int.reduceLT, Int.reduceLE, Int.reduceEq, Int.reduceAdd, Int.reduceSub, Int.reduceMul, Int.reduceNeg, Int.reduceTMod, Int.reduceTDiv, List.replicate_zero, List.replicate_succ]
    refine wfork_intro (fun h3 => ?_) (fun h3 => ?_)
    · have h3 : k < x.tries.length := by simp at h3; omega
      have next : openT x.tries[k] = false → ∀ j (h : j < x.tries.length), j < k + 1 → openT x.tries[j] = false := fun h5 j h hj => by
        by_cases e : j = k
        · subst e; exact h5
        · exact hkk j h (by omega)
      have hg : x.tries[k]? = some x.tries[k] := List.getElem?_eq_getElem h3
      have hm : x.tries[k] ∈ x.tries := List.getElem_mem h3
      generalize x.tries[k] = t at *
      repeat' first
        | simp -implicitDefEqProofs only [go_sem, ↓reduceIte, Nat.reduceEqDiff, Nat.reduceAdd, Nat.reduceMul, Nat.reduceSub, Nat.reduceLeDiff, Nat.reduceLT, Nat.reducePow, reduceCtorEq, Int.reduceToNat, Int.reduceLT, Int.reduceLE, Int.reduceEq, Int.reduceAdd, Int.reduceSub, Int.reduceMul, Int.reduceNeg, Int.reduceTMod, Int.reduceTDiv, List.replicate_zero, List.replicate_succ, trs_get, hg, Int.toNat_natCast, Int.natCast_nonneg]
        | refine Also.mk (by decide) ?_
        | (refine wCall_intro (open54 _) ?_ ?_ ?_; rfl; decide)
        | refine wfork_intro (fun h5 => ?_) (fun h5 => ?_)
      · have : settledN x = false := by
          simp only [settledN, Bool.not_eq_false', List.any_eq_true]
          exact ⟨t, hm, h5⟩
        rw [this]
        exact .refl _
      · refine ⟨⟨k + 1, by omega, next h5⟩, Wk.sub (by simp -implicitDefEqProofs only [go_sem, ↓reduceIte, Nat.reduceEqDiff, Nat.reduceAdd, Nat.reduceMul, Nat.reduceSub, Nat.reduceLeDiff, Nat.reduceLT, Nat.reducePow, reduceCtorEq, Int.reduceToNat, Int.reduceLT, Int.reduceLE, Int.reduceEq, Int.reduceAdd, Int.reduceSub, Int.reduceMul, Int.reduceNeg, Int.reduceTMod, Int.reduceTDiv, List.replicate_zero, List.replicate_succ, ctr (show k ≤ 1000000 by omega)]) (by simp -implicitDefEqProofs only [go_sem, ↓reduceIte, Nat.reduceEqDiff, Nat.reduceAdd, Nat.reduceMul, Nat.reduceSub, Nat.reduceLeDiff, Nat.reduceLT, Nat.reducePow, reduceCtorEq, Int.reduceToNat, Int.reduceLT, Int.reduceLE, Int.reduceEq, Int.reduceAdd, Int.reduceSub, Int.reduceMul, Int.reduceNeg, Int.reduceTMod, Int.reduceTDiv, List.replicate_zero, List.replicate_succ]) (by decide) (by decide) (by simp -implicitDefEqProofs only [go_sem, ↓reduceIte, Nat.reduceEqDiff, Nat.reduceAdd, Nat.reduceMul, Nat.reduceSub, Nat.reduceLeDiff, Nat.reduceLT, Nat.reducePow, reduceCtorEq, Int.reduceToNat, Int.reduceLT, Int.reduceLE, Int.reduceEq, Int.reduceAdd, Int.reduceSub, Int.reduceMul, Int.reduceNeg, Int.reduceTMod, Int.reduceTDiv, List.replicate_zero, List.replicate_succ]) (by simp -implicitDefEqProofs only [go_sem, ↓reduceIte, Nat.reduceEqDiff, Nat.reduceAdd, Nat.reduceMul, Nat.reduceSub, Nat.reduceLeDiff, Nat.reduceLT, Nat.reducePow, reduceCtorEq, Int.reduceToNat, Int.reduceLT, Int.reduceLE, Int.reduceEq, Int.reduceAdd, Int.reduceSub, Int.reduceMul, Int.reduceNeg, Int.reduceTMod, Int.reduceTDiv, List.replicate_zero, List.replicate_succ]), by simp; omega⟩
    · have h3 : k = x.tries.length := by simp at h3; omega
      have : settledN x = true := by
        simp only [settledN, Bool.not_eq_true', List.any_eq_false, Bool.not_eq_true]
        intro t ht
        obtain ⟨j, hj, e⟩ := List.getElem_of_mem ht
        rw [← e]
        exact hkk j hj (by omega)
      simp -implicitDefEqProofs only [go_sem, ↓reduceIte, Nat.reduceEqDiff, Nat.reduceAdd, Nat.reduceMul, Nat.reduceSub, Nat.reduceLeDiff, Nat.reduceLT, Nat.reducePow, reduceCtorEq, Int.reduceToNat, Int.reduceLT, Int.reduceLE, Int.reduceEq, Int.reduceAdd, Int.reduceSub, Int.reduceMul, Int.reduceNeg, Int.reduceTMod, Int.reduceTDiv, List.replicate_zero, List.replicate_succ]
      rw [this]
      exact .refl _
end Go.Proofs.Ytbdodpippgakjaa

namespace Go.Proofs.Ytbdodpippgakjaa
open Go Go.Vs Go.Proofs

@[go_sem] theorem stps_isNil (l : List Stp) : (stps l = []) = (l = []) := by simp [stps]
@[go_sem] theorem trs_isNil (l : List Tr) : (trs l = []) = (l = []) := by simp [trs]
@[go_sem] theorem nums_isNil (l : List Int) : (nums l = []) = (l = []) := by simp [nums]

theorem afts_nilLe (l : List (List Int)) : ElsLe (afts l ++ [[.nilSl]]) (afts (l ++ [[]])) := by
  rw [← afts_snoc]
  exact ElsLe.app (ElsLe.self _) ⟨⟨.nil 1, trivial⟩, trivial⟩

theorem plan39 (p : Pl) (hp : p.small) : Gives Try.prog 39 [.agg [.sl 4 (stps p.steps), .sl 1 (afts p.after)]] (.agg [.d (.sl 4 (stps p.steps)), .d (.sl 1 (afts p.after))]) [] := by
  obtain ⟨hp1, hp2, hp3⟩ := hp
  have hb : p.steps.length * 32 ≤ mostBytes := by simp only [mostBytes]; omega
  refine Gives.of_w TryEnv Try.func39 (by decide) TryL39_ok Try.ntmps39 (rs := [.cell 2 25]) rfl (by simp) [] (by decide) ?_; rw [TryL39]
  by_cases hs : p.steps = []
  · have e0 : stps p.steps = [] := by simp [stps, hs]
    have hs : (p.steps = []) = True := by simp [hs]
    simp -implicitDefEqProofs only [go_sem, ↓reduceIte, Nat.reduceEqDiff, Nat.reduceAdd, Nat.reduceMul, Nat.reduceSub, Nat.reduceLeDiff, Nat.reduceLT, Nat.reducePow, reduceCtorEq, Int.reduceToNat, Int.reduceLT, Int.reduceLE, Int.reduceEq, Int.reduceAdd, Int.reduceSub, Int.reduceMul, Int.reduceNeg, Int.reduceTMod, Int.reduceTDiv, List.replicate_zero, List.replicate_succ, hs]
    refine wT_wk (Wk.boxLe (b := 8) (cs' := [.d (.sl 4 (stps p.steps)), .d .nilSl]) rfl (.cons (.d (by rw [e0]; exact .nil 4)) (.cons (.refl _) .nil))) ?_
    simp -implicitDefEqProofs only [go_sem, ↓reduceIte, Nat.reduceEqDiff, Nat.reduceAdd, Nat.reduceMul, Nat.reduceSub, Nat.reduceLeDiff, Nat.reduceLT, Nat.reducePow, reduceCtorEq, Int.reduceToNat, Int.reduceLT, Int.reduceLE, Int.reduceEq, Int.reduceAdd, Int.reduceSub, Int.reduceMul, Int.reduceNeg, Int.reduceTMod, Int.reduceTDiv, List.replicate_zero, List.replicate_succ]
    refine wT_wk (Wk.drop (tm' := [(1, .c (.ptr 0 0)), (2, .c (.ptr 4 0)), (3, .c (.ptr 8 0)), (4, .c (.d (.int .i64 0)))])
      (hp' := [(0, .box [.d (.sl 4 (stps p.steps)), .d (.sl 1 (afts p.after))]), (4, .box [.d .nilSl, .d .nilSl]), (8, .box [.d (.sl 4 (stps p.steps)), .d .nilSl])]) (by simp -implicitDefEqProofs only [go_sem, ↓reduceIte, Nat.reduceEqDiff, Nat.reduceAdd, Nat.reduceMul, Nat.reduceSub, Nat.reduceLeDiff, Nat.reduceLT, Nat.reducePow, reduceCtorEq, Int.reduceToNat, Int.reduceLT, Int.reduceLE, Int.reduceEq, Int.reduceAdd, Int.reduceSub, Int.reduceMul, Int.reduceNeg, Int.reduceTMod, Int.reduceTDiv, List.replicate_zero, List.replicate_succ]) (by simp -implicitDefEqProofs only [go_sem, ↓reduceIte, Nat.reduceEqDiff, Nat.reduceAdd, Nat.reduceMul, Nat.reduceSub, Nat.reduceLeDiff, Nat.reduceLT, Nat.reducePow, reduceCtorEq, Int.reduceToNat, Int.reduceLT, Int.reduceLE, Int.reduceEq, Int.reduceAdd, Int.reduceSub, Int.reduceMul, Int.reduceNeg, Int.reduceTMod, Int.reduceTDiv, List.replicate_zero, List.replicate_succ])) ?_
    refine wT_wk (Wk.cellNil 1 1 (b := 8) rfl rfl) ?_
    simp -implicitDefEqProofs only [go_sem, ↓reduceIte, Nat.reduceEqDiff, Nat.reduceAdd, Nat.reduceMul, Nat.reduceSub, Nat.reduceLeDiff, Nat.reduceLT, Nat.reducePow, reduceCtorEq, Int.reduceToNat, Int.reduceLT, Int.reduceLE, Int.reduceEq, Int.reduceAdd, Int.reduceSub, Int.reduceMul, Int.reduceNeg, Int.reduceTMod, Int.reduceTDiv, List.replicate_zero, List.replicate_succ, List.set_cons_succ, List.set_cons_zero]
    refine wT_loop (fun k : { k : Nat // k ≤ p.after.length } => ⟨[(1, .c (.ptr 0 0)), (2, .c (.ptr 4 0)), (3, .c (.ptr 8 0)), (4, .c (.d (.int .i64 (k.1 : Nat))))],
      [(0, .box [.d (.sl 4 (stps p.steps)), .d (.sl 1 (afts p.after))]), (4, .box [.d .nilSl, .d .nilSl]), (8, .box [.d (.sl 4 (stps p.steps)), .ref 44 k.1 0 k.1]), (44, .sl 1 (afts (p.after.take k.1)) false)], 45⟩) (fun k => p.after.length - k.1) ⟨0, Nat.zero_le _⟩ ?_ ?_
    · refine Wk.sub ?_ ?_ (by decide) (by decide) ?_ ?_
      all_goals simp -implicitDefEqProofs only [go_sem, ↓reduceIte, Nat.reduceEqDiff, Nat.reduceAdd, Nat.reduceMul, Nat.reduceSub, Nat.reduceLeDiff, Nat.reduceLT, Nat.reducePow, reduceCtorEq, Int.reduceToNat, Int.reduceLT, Int.reduceLE, Int.reduceEq, Int.reduceAdd, Int.reduceSub, Int.reduceMul, Int.reduceNeg, Int.reduceTMod, Int.reduceTDiv, List.replicate_zero, List.replicate_succ, Int.natCast_zero]
    · rintro ⟨k, hk⟩
      have hlt : (p.after.take k).length = k := by simp; omega
      refine wT_of TryEnv ?_
      simp -implicitDefEqProofs only [go_sem, ↓reduceIte, Nat.reduceEqDiff, Nat.reduceAdd, Nat.reduceMul, Nat.reduceSub, Nat.reduceLeDiff, Nat.reduceLT, Nat.reducePow, reduceCtorEq, Int.reduceToNat, Int.reduceLT, Int.reduceLE, Int.reduceEq, Int.reduceAdd, Int.reduceSub, Int.reduceMul, Int.reduceNeg, Int.reduceTMod, Int.reduceTDiv, List.replicate_zero, List.replicate_succ]
      refine wfork_intro (fun h => ?_) (fun h => ?_)
      · have h : k < p.after.length := by simpa using h
        have hg : p.after[k]? = some p.after[k] := List.getElem?_eq_getElem h
        have hl := hp3 _ (List.getElem_mem h)
        have ht : p.after.take (k + 1) = p.after.take k ++ [p.after[k]] := by rw [List.take_add_one, hg]; rfl
        have hk1 : IntKind.i64.wrap ((k : Int) + 1) = ((k + 1 : Nat) : Int) := ctr (by omega)
        have hb2 : (k + 1) * 24 ≤ mostBytes := by simp only [mostBytes]; omega
        generalize p.after[k] = x at *
        have hb3 : x.length * 8 ≤ mostBytes := by simp only [mostBytes]; omega
        by_cases hx : x = []
        · have hx' : (x = []) = True := by simp [hx]
          repeat' first
            | simp -implicitDefEqProofs only [go_sem, ↓reduceIte, Nat.reduceEqDiff, Nat.reduceAdd, Nat.reduceMul, Nat.reduceSub, Nat.reduceLeDiff, Nat.reduceLT, Nat.reducePow, reduceCtorEq, Int.reduceToNat, Int.reduceLT, Int.reduceLE, Int.reduceEq, Int.reduceAdd, Int.reduceSub, Int.reduceMul, Int.reduceNeg, Int.reduceTMod, Int.reduceTDiv, List.replicate_zero, List.replicate_succ, afts_get, hg, Int.toNat_natCast, Int.natCast_nonneg, hlt, hb2, hb3, hk1, hx']
            | refine Also.mk (by decide) ?_
            | apply And.intro
          subst hx
          refine ⟨⟨k + 1, h⟩, (Wk.blkLe (b := 44) (es' := afts (p.after.take (k + 1))) rfl (by rw [ht]; exact afts_nilLe _)).trans (Wk.sub ?_ ?_ (by decide) (by decide) ?_ ?_), by simp; omega⟩
          all_goals simp -implicitDefEqProofs only [go_sem, ↓reduceIte, Nat.reduceEqDiff, Nat.reduceAdd, Nat.reduceMul, Nat.reduceSub, Nat.reduceLeDiff, Nat.reduceLT, Nat.reducePow, reduceCtorEq, Int.reduceToNat, Int.reduceLT, Int.reduceLE, Int.reduceEq, Int.reduceAdd, Int.reduceSub, Int.reduceMul, Int.reduceNeg, Int.reduceTMod, Int.reduceTDiv, List.replicate_zero, List.replicate_succ, ht]
        · have hx' : (x = []) = False := by simp [hx]
          repeat' first
            | simp -implicitDefEqProofs only [go_sem, ↓reduceIte, Nat.reduceEqDiff, Nat.reduceAdd, Nat.reduceMul, Nat.reduceSub, Nat.reduceLeDiff, Nat.reduceLT, Nat.reducePow, reduceCtorEq, Int.reduceToNat, Int.reduceLT, Int.reduceLE, Int.reduceEq, Int.reduceAdd, Int.reduceSub, Int.reduceMul, Int.reduceNeg, Int.reduceTMod, Int.reduceTDiv, List.replicate_zero, List.replicate_succ, afts_get, hg, Int.toNat_natCast, Int.natCast_nonneg, hlt, hb2, hb3, hk1, hx', afts_snoc]
            | refine Also.mk (by decide) ?_
            | apply And.intro
          refine ⟨⟨k + 1, h⟩, Wk.sub ?_ ?_ (by decide) (by decide) ?_ ?_, by simp; omega⟩
          all_goals simp -implicitDefEqProofs only [go_sem, ↓reduceIte, Nat.reduceEqDiff, Nat.reduceAdd, Nat.reduceMul, Nat.reduceSub, Nat.reduceLeDiff, Nat.reduceLT, Nat.reducePow, reduceCtorEq, Int.reduceToNat, Int.reduceLT, Int.reduceLE, Int.reduceEq, Int.reduceAdd, Int.reduceSub, Int.reduceMul, Int.reduceNeg, Int.reduceTMod, Int.reduceTDiv, List.replicate_zero, List.replicate_succ, ht]
      · have h : k = p.after.length := by
          have : ¬ k < p.after.length := by simpa using h
          omega
        subst h
        simp -implicitDefEqProofs only [go_sem, ↓reduceIte, Nat.reduceEqDiff, Nat.reduceAdd, Nat.reduceMul, Nat.reduceSub, Nat.reduceLeDiff, Nat.reduceLT, Nat.reducePow, reduceCtorEq, Int.reduceToNat, Int.reduceLT, Int.reduceLE, Int.reduceEq, Int.reduceAdd, Int.reduceSub, Int.reduceMul, Int.reduceNeg, Int.reduceTMod, Int.reduceTDiv, List.replicate_zero, List.replicate_succ, List.take_length, hlt]
  · have hs : (p.steps = []) = False := by simp [hs]
    simp -implicitDefEqProofs only [go_sem, ↓reduceIte, Nat.reduceEqDiff, Nat.reduceAdd, Nat.reduceMul, Nat.reduceSub, Nat.reduceLeDiff, Nat.reduceLT, Nat.reducePow, reduceCtorEq, Int.reduceToNat, Int.reduceLT, Int.reduceLE, Int.reduceEq, Int.reduceAdd, Int.reduceSub, Int.reduceMul, Int.reduceNeg, Int.reduceTMod, Int.reduceTDiv, List.replicate_zero, List.replicate_succ, hs, hb]
    refine wT_wk (Wk.frz (b := 28) rfl) ?_
    simp -implicitDefEqProofs only [go_sem, ↓reduceIte, Nat.reduceEqDiff, Nat.reduceAdd, Nat.reduceMul, Nat.reduceSub, Nat.reduceLeDiff, Nat.reduceLT, Nat.reducePow, reduceCtorEq, Int.reduceToNat, Int.reduceLT, Int.reduceLE, Int.reduceEq, Int.reduceAdd, Int.reduceSub, Int.reduceMul, Int.reduceNeg, Int.reduceTMod, Int.reduceTDiv, List.replicate_zero, List.replicate_succ]
    refine wT_wk (Wk.cellData (b := 8) 0 rfl rfl rfl (by simp [stps]) (by simp)) ?_
    simp -implicitDefEqProofs only [go_sem, ↓reduceIte, Nat.reduceEqDiff, Nat.reduceAdd, Nat.reduceMul, Nat.reduceSub, Nat.reduceLeDiff, Nat.reduceLT, Nat.reducePow, reduceCtorEq, Int.reduceToNat, Int.reduceLT, Int.reduceLE, Int.reduceEq, Int.reduceAdd, Int.reduceSub, Int.reduceMul, Int.reduceNeg, Int.reduceTMod, Int.reduceTDiv, List.replicate_zero, List.replicate_succ, List.take_of_length_le]
    refine wT_wk (Wk.drop (tm' := [(1, .c (.ptr 0 0)), (2, .c (.ptr 4 0)), (3, .c (.ptr 8 0)), (4, .c (.d (.int .i64 0)))])
      (hp' := [(0, .box [.d (.sl 4 (stps p.steps)), .d (.sl 1 (afts p.after))]), (4, .box [.d .nilSl, .d .nilSl]), (8, .box [.d (.sl 4 (stps p.steps)), .d .nilSl])]) (by simp -implicitDefEqProofs only [go_sem, ↓reduceIte, Nat.reduceEqDiff, Nat.reduceAdd, Nat.reduceMul, Nat.reduceSub, Nat.reduceLeDiff, Nat.reduceLT, Nat.reducePow, reduceCtorEq, Int.reduceToNat, Int.reduceLT, Int.reduceLE, Int.reduceEq, Int.reduceAdd, Int.reduceSub, Int.reduceMul, Int.reduceNeg, Int.reduceTMod, Int.reduceTDiv, List.replicate_zero, List.replicate_succ]) (by simp -implicitDefEqProofs only [go_sem, ↓reduceIte, Nat.reduceEqDiff, Nat.reduceAdd, Nat.reduceMul, Nat.reduceSub, Nat.reduceLeDiff, Nat.reduceLT, Nat.reducePow, reduceCtorEq, Int.reduceToNat, Int.reduceLT, Int.reduceLE, Int.reduceEq, Int.reduceAdd, Int.reduceSub, Int.reduceMul, Int.reduceNeg, Int.reduceTMod, Int.reduceTDiv, List.replicate_zero, List.replicate_succ, List.set_cons_zero])) ?_
    refine wT_wk (Wk.cellNil 1 1 (b := 8) rfl rfl) ?_
    simp -implicitDefEqProofs only [go_sem, ↓reduceIte, Nat.reduceEqDiff, Nat.reduceAdd, Nat.reduceMul, Nat.reduceSub, Nat.reduceLeDiff, Nat.reduceLT, Nat.reducePow, reduceCtorEq, Int.reduceToNat, Int.reduceLT, Int.reduceLE, Int.reduceEq, Int.reduceAdd, Int.reduceSub, Int.reduceMul, Int.reduceNeg, Int.reduceTMod, Int.reduceTDiv, List.replicate_zero, List.replicate_succ, List.set_cons_succ, List.set_cons_zero]
    refine wT_loop (fun k : { k : Nat // k ≤ p.after.length } => ⟨[(1, .c (.ptr 0 0)), (2, .c (.ptr 4 0)), (3, .c (.ptr 8 0)), (4, .c (.d (.int .i64 (k.1 : Nat))))],
      [(0, .box [.d (.sl 4 (stps p.steps)), .d (.sl 1 (afts p.after))]), (4, .box [.d .nilSl, .d .nilSl]), (8, .box [.d (.sl 4 (stps p.steps)), .ref 44 k.1 0 k.1]), (44, .sl 1 (afts (p.after.take k.1)) false)], 45⟩) (fun k => p.after.length - k.1) ⟨0, Nat.zero_le _⟩ ?_ ?_
    · refine Wk.sub ?_ ?_ (by decide) (by decide) ?_ ?_
      all_goals simp -implicitDefEqProofs only [go_sem, ↓reduceIte, Nat.reduceEqDiff, Nat.reduceAdd, Nat.reduceMul, Nat.reduceSub, Nat.reduceLeDiff, Nat.reduceLT, Nat.reducePow, reduceCtorEq, Int.reduceToNat, Int.reduceLT, Int.reduceLE, Int.reduceEq, Int.reduceAdd, Int.reduceSub, Int.reduceMul, Int.reduceNeg, Int.reduceTMod, Int.reduceTDiv, List.replicate_zero, List.replicate_succ, Int.natCast_zero]
    · rintro ⟨k, hk⟩
      have hlt : (p.after.take k).length = k := by simp; omega
      refine wT_of TryEnv ?_
      simp -implicitDefEqProofs only [go_sem, ↓reduceIte, Nat.reduceEqDiff, Nat.reduceAdd, Nat.reduceMul, Nat.reduceSub, Nat.reduceLeDiff, Nat.reduceLT, Nat.reducePow, reduceCtorEq, Int.reduceToNat, Int.reduceLT, Int.reduceLE, Int.reduceEq, Int.reduceAdd, Int.reduceSub, Int.reduceMul, Int.reduceNeg, Int.reduceTMod, Int.reduceTDiv, List.replicate_zero, List.replicate_succ]
      refine wfork_intro (fun h => ?_) (fun h => ?_)
      · have h : k < p.after.length := by simpa using h
        have hg : p.after[k]? = some p.after[k] := List.getElem?_eq_getElem h
        have hl := hp3 _ (List.getElem_mem h)
        have ht : p.after.take (k + 1) = p.after.take k ++ [p.after[k]] := by rw [List.take_add_one, hg]; rfl
        have hk1 : IntKind.i64.wrap ((k : Int) + 1) = ((k + 1 : Nat) : Int) := ctr (by omega)
        have hb2 : (k + 1) * 24 ≤ mostBytes := by simp only [mostBytes]; omega
        generalize p.after[k] = x at *
        have hb3 : x.length * 8 ≤ mostBytes := by simp only [mostBytes]; omega
        by_cases hx : x = []
        · have hx' : (x = []) = True := by simp [hx]
          repeat' first
            | simp -implicitDefEqProofs only [go_sem, ↓reduceIte, Nat.reduceEqDiff, Nat.reduceAdd, Nat.reduceMul, Nat.reduceSub, Nat.reduceLeDiff, Nat.reduceLT, Nat.reducePow, reduceCtorEq, Int.reduceToNat, Int.reduceLT, Int.reduceLE, Int.reduceEq, Int.reduceAdd, Int.reduceSub, Int.reduceMul, Int.reduceNeg, Int.reduceTMod, Int.reduceTDiv, List.replicate_zero, List.replicate_succ, afts_get, hg, Int.toNat_natCast, Int.natCast_nonneg, hlt, hb2, hb3, hk1, hx']
            | refine Also.mk (by decide) ?_
            | apply And.intro
          subst hx
          refine ⟨⟨k + 1, h⟩, (Wk.blkLe (b := 44) (es' := afts (p.after.take (k + 1))) rfl (by rw [ht]; exact afts_nilLe _)).trans (Wk.sub ?_ ?_ (by decide) (by decide) ?_ ?_), by simp; omega⟩
          all_goals simp -implicitDefEqProofs only [go_sem, ↓reduceIte, Nat.reduceEqDiff, Nat.reduceAdd, Nat.reduceMul, Nat.reduceSub, Nat.reduceLeDiff, Nat.reduceLT, Nat.reducePow, reduceCtorEq, Int.reduceToNat, Int.reduceLT, Int.reduceLE, Int.reduceEq, Int.reduceAdd, Int.reduceSub, Int.reduceMul, Int.reduceNeg, Int.reduceTMod, Int.reduceTDiv, List.replicate_zero, List.replicate_succ, ht]
        · have hx' : (x = []) = False := by simp [hx]
          repeat' first
            | simp -implicitDefEqProofs only [go_sem, ↓reduceIte, Nat.reduceEqDiff, Nat.reduceAdd, Nat.reduceMul, Nat.reduceSub, Nat.reduceLeDiff, Nat.reduceLT, Nat.reducePow, reduceCtorEq, Int.reduceToNat, Int.reduceLT, Int.reduceLE, Int.reduceEq, Int.reduceAdd, Int.reduceSub, Int.reduceMul, Int.reduceNeg, Int.reduceTMod, Int.reduceTDiv, List.replicate_zero, List.replicate_succ, afts_get, hg, Int.toNat_natCast, Int.natCast_nonneg, hlt, hb2, hb3, hk1, hx', afts_snoc]
            | refine Also.mk (by decide) ?_
            | apply And.intro
          refine ⟨⟨k + 1, h⟩, Wk.sub ?_ ?_ (by decide) (by decide) ?_ ?_, by simp; omega⟩
          all_goals simp -implicitDefEqProofs only [go_sem, ↓reduceIte, Nat.reduceEqDiff, Nat.reduceAdd, Nat.reduceMul, Nat.reduceSub, Nat.reduceLeDiff, Nat.reduceLT, Nat.reducePow, reduceCtorEq, Int.reduceToNat, Int.reduceLT, Int.reduceLE, Int.reduceEq, Int.reduceAdd, Int.reduceSub, Int.reduceMul, Int.reduceNeg, Int.reduceTMod, Int.reduceTDiv, List.replicate_zero, List.replicate_succ, ht]
      · have h : k = p.after.length := by
          have : ¬ k < p.after.length := by simpa using h
          omega
        subst h
        simp -implicitDefEqProofs only [go_sem, ↓reduceIte, Nat.reduceEqDiff, Nat.reduceAdd, Nat.reduceMul, Nat.reduceSub, Nat.reduceLeDiff, Nat.reduceLT, Nat.reducePow, reduceCtorEq, Int.reduceToNat, Int.reduceLT, Int.reduceLE, Int.reduceEq, Int.reduceAdd, Int.reduceSub, Int.reduceMul, Int.reduceNeg, Int.reduceTMod, Int.reduceTDiv, List.replicate_zero, List.replicate_succ, List.take_length, hlt]
theorem own12 (x : Ex) (hx : x.small) : Gives Try.prog 12 [.agg [.bool x.run, .bool x.stp, .sl 4 (stps x.plan.steps), .sl 1 (afts x.plan.after), .sl 3 (trs x.tries), .int .i64 x.next]] (.agg [.d (.bool x.run), .d (.bool x.stp), .d (.sl 4 (stps x.plan.steps)), .d (.sl 1 (afts x.plan.after)), .d (.sl 3 (trs x.tries)), .d (.int .i64 x.next)]) [] := by
  obtain ⟨hx1, hx2⟩ := hx
  have hb : x.tries.length * 24 ≤ mostBytes := by simp only [mostBytes]; omega
  refine Gives.of_w TryEnv Try.func12 (by decide) TryL12_ok Try.ntmps12 (rs := [.cell 2 28]) rfl (by simp) [] (by decide) ?_; rw [TryL12]
  by_cases hs : x.tries = []
  · have e0 : trs x.tries = [] := by simp [trs, hs]
    have hs : (x.tries = []) = True := by simp [hs]
    repeat' first
      | simp -implicitDefEqProofs only [go_sem, ↓reduceIte, Nat.reduceEqDiff, Nat.reduceAdd, Nat.reduceMul, Nat.reduceSub, Nat.reduceLeDiff, Nat.reduceLT, Nat.reducePow, reduceCtorEq, Int.reduceToNat, Int.reduceLT, Int.reduceLE, Int.reduceEq, Int.reduceAdd, Int.reduceSub, Int.reduceMul, Int.reduceNeg, Int.reduceTMod, Int.reduceTDiv, List.replicate_zero, List.replicate_succ, hs]
      | (refine wCall_intro (plan39 _ ?_) ?_ ?_ ?_; assumption; rfl; decide)
    simp [*, VLe_tup, VLe_agg, VLe_c, VsLe_nil, VsLe_cons, CsLe_nil, CsLe_cons, CLe_d, CLe_self, DLe_self, DLe_nil, trs_nil]
  · have hs : (x.tries = []) = False := by simp [hs]
    repeat' first
      | simp -implicitDefEqProofs only [go_sem, ↓reduceIte, Nat.reduceEqDiff, Nat.reduceAdd, Nat.reduceMul, Nat.reduceSub, Nat.reduceLeDiff, Nat.reduceLT, Nat.reducePow, reduceCtorEq, Int.reduceToNat, Int.reduceLT, Int.reduceLE, Int.reduceEq, Int.reduceAdd, Int.reduceSub, Int.reduceMul, Int.reduceNeg, Int.reduceTMod, Int.reduceTDiv, List.replicate_zero, List.replicate_succ, hs, hb]
      | (refine wCall_intro (plan39 _ ?_) ?_ ?_ ?_; assumption; rfl; decide)
end Go.Proofs.Ytbdodpippgakjaa
