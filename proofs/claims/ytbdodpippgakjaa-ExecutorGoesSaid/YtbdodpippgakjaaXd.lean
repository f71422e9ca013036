/- This text proves a part of what the claim needs: contracts of functions of the program. No condition. -/
import Derived.Test.YtbdodpippgakjaaXc
set_option linter.unusedSimpArgs false
set_option linter.unusedVariables false

namespace Go.Proofs.Ytbdodpippgakjaa
open Go Go.Vs Go.Proofs

/-! ### What records do -/

def Rc.small (r : Rc) : Prop := r.plan.small
def begunN (x : Ex) (p : Pl) : Ex := ⟨true, false, p, List.replicate p.steps.length .zero, x.next⟩
def askedN (x : Ex) (r : Rc) : Ex := ⟨x.run, x.stp, x.plan, x.tries.set r.place.toNat ⟨r.id, r.lease, 0⟩, IntKind.i64.wrap (x.next + 1)⟩
def saidT (t : Tr) (a : Int) : Tr := ⟨t.id, t.lease, a⟩
def saidN (x : Ex) (i : Nat) (a : Int) : Ex := ⟨x.run, x.stp || decide (3 ≤ a), x.plan, x.tries.set i (saidT (x.tries.getD i .zero) a), x.next⟩
def completeN (x : Ex) : Bool := validN x && decide ((doneL x).length = x.tries.length)

def effectN (x : Ex) (r : Rc) : Option Ex :=
  if r.kind = 1 then (if x.run || !orderedN r.plan then none else some (begunN x r.plan))
  else if r.kind = 2 then (if !readyI x r.place || (!decide (r.id = x.next) || decide (r.lease < 0)) then none else some (askedN x r))
  else if r.kind = 3 then (if !x.run || (decide (placeN x r.id < 0) || (decide (r.ans < 1) || decide (4 < r.ans))) then none else some (saidN x (placeN x r.id).toNat r.ans))
  else if r.kind = 4 then (if !x.run || x.stp then none else some ⟨x.run, true, x.plan, x.tries, x.next⟩)
  else if r.kind = 5 then (if !x.run || (!settledN x || (!x.stp && !completeN x)) then none else some ⟨false, x.stp, x.plan, x.tries, x.next⟩)
  else none
def Ex.zero : Ex := ⟨false, false, ⟨[], []⟩, [], 0⟩
def nextN (x : Ex) (r : Rc) : Ex × Int :=
  if validN x then (match effectN x r with
    | some y => (y, 0)
    | none => (.zero, 8)) else (.zero, 1)

theorem trs_start (n : Nat) : List.replicate n [D.int .i64 0, .int .i64 0, .int .u8 0] = trs (List.replicate n .zero) := by simp [trs, Tr.zero]


theorem eff60 (x : Ex) (r : Rc) (hk : r.kind = 1) (hr : r.small) (B4 : Blk) : Deep Try.prog 60 [.c (.ptr 0 0), .agg [.d (.int .u8 r.kind), .d (.int .i64 r.place), .d (.int .i64 r.id), .d (.int .i64 r.lease), .d (.int .u8 r.ans), .d (.sl 4 (stps r.plan.steps)), .d (.sl 1 (afts r.plan.after))]] [(0, .box [.d (.bool x.run), .d (.bool x.stp), .d (.sl 4 (stps x.plan.steps)), .d (.sl 1 (afts x.plan.after)), .ref 48 x.tries.length 0 x.tries.length, .d (.int .i64 x.next)]), (4, B4), (8, .box [.d (.bool false), .d (.bool false), .d .nilSl, .d .nilSl, .d .nilSl, .d (.int .i64 0)]), (48, .sl 3 (trs x.tries) false)] 124
    (fun v h k => (effectN x r = none ∧ v = .c (.d (.bool false)) ∧ h = [(8, .box [.d (.bool false), .d (.bool false), .d .nilSl, .d .nilSl, .d .nilSl, .d (.int .i64 0)])] ∧ k = 124) ∨
      (∃ y, effectN x r = some y ∧ v = .c (.d (.bool true)) ∧ h = [(0, .box [.d (.bool y.run), .d (.bool y.stp), .d (.sl 4 (stps y.plan.steps)), .d (.sl 1 (afts y.plan.after)), .ref 216 y.tries.length 0 y.tries.length, .d (.int .i64 y.next)]), (8, .box [.d (.bool false), .d (.bool false), .d .nilSl, .d .nilSl, .d .nilSl, .d (.int .i64 0)]), (216, .sl 3 (trs y.tries) false)] ∧ k = 217)) := by
  refine Deep.of_w TryEnv Try.func60 (by decide) TryL60_ok Try.ntmps60 (rs := [.tmp 4]) rfl (by simp) ?_; rw [TryL60]
  repeat' first
    | simp -implicitDefEqProofs only [go_sem, ↓reduceIte, Nat.reduceEqDiff, Nat.reduceAdd, Nat.reduceMul, Nat.reduceSub, Nat.reduceLeDiff, Nat.reduceLT, Nat.reducePow, reduceCtorEq, Int.reduceToNat, Int.reduceLT, Int.reduceLE, Int.reduceEq, Int.reduceAdd, Int.reduceSub, Int.reduceMul, Int.reduceNeg, Int.reduceTMod, Int.reduceTDiv, List.replicate_zero, List.replicate_succ, Int.toNat_natCast, Int.natCast_nonneg]
    | (refine wCall_intro (ordered18 _ hr) ?_ ?_ ?_; rfl; decide)
    | (refine wCall_intro (own40 _ hr) ?_ ?_ ?_; rfl; decide)
    | (simp only [mostBytes, Int.toNat_natCast]; have := hr.1; omega)
    | (have := hr.1; omega)
    | refine wfork_intro (fun h => ?_) (fun h => ?_)
    | refine Also.mk (by decide) ?_
    | apply And.intro
  all_goals first
    | (have hn : effectN x r = none := by simp [effectN, *]
       refine wEnd_intro (.refl _) (Wk.sub (tm' := [(0, .c (.d (.bool false)))]) (hp' := [(8, .box [.d (.bool false), .d (.bool false), .d .nilSl, .d .nilSl, .d .nilSl, .d (.int .i64 0)])]) (nx' := 124) ?_ ?_ (by decide) (by decide) ?_ ?_) (.inl ⟨hn, rfl, rfl, rfl⟩)
       all_goals simp -implicitDefEqProofs only [go_sem, ↓reduceIte, Nat.reduceEqDiff, Nat.reduceAdd, Nat.reduceMul, Nat.reduceSub, Nat.reduceLeDiff, Nat.reduceLT, Nat.reducePow, reduceCtorEq, Int.reduceToNat, Int.reduceLT, Int.reduceLE, Int.reduceEq, Int.reduceAdd, Int.reduceSub, Int.reduceMul, Int.reduceNeg, Int.reduceTMod, Int.reduceTDiv, List.replicate_zero, List.replicate_succ]
       done)
    | (have hy : effectN x r = some (begunN x r.plan) := by simp [effectN, *]
       refine wEnd_intro (.refl _) (Wk.sub (tm' := [(0, .c (.d (.bool true)))]) (hp' := [(0, .box [.d (.bool (begunN x r.plan).run), .d (.bool (begunN x r.plan).stp), .d (.sl 4 (stps (begunN x r.plan).plan.steps)), .d (.sl 1 (afts (begunN x r.plan).plan.after)), .ref 216 (begunN x r.plan).tries.length 0 (begunN x r.plan).tries.length, .d (.int .i64 (begunN x r.plan).next)]), (8, .box [.d (.bool false), .d (.bool false), .d .nilSl, .d .nilSl, .d .nilSl, .d (.int .i64 0)]), (216, .sl 3 (trs (begunN x r.plan).tries) false)]) (nx' := 217) ?_ ?_ (by decide) (by decide) ?_ ?_) (.inr ⟨_, hy, rfl, rfl, rfl⟩)
       all_goals simp -implicitDefEqProofs only [go_sem, ↓reduceIte, Nat.reduceEqDiff, Nat.reduceAdd, Nat.reduceMul, Nat.reduceSub, Nat.reduceLeDiff, Nat.reduceLT, Nat.reducePow, reduceCtorEq, Int.reduceToNat, Int.reduceLT, Int.reduceLE, Int.reduceEq, Int.reduceAdd, Int.reduceSub, Int.reduceMul, Int.reduceNeg, Int.reduceTMod, Int.reduceTDiv, List.replicate_zero, List.replicate_succ, begunN, askedN, saidN, saidT, List.length_set, List.length_replicate, trs_start, Int.toNat_natCast]
       all_goals simp only [*, Bool.true_or, Bool.false_or]
       done)

theorem eff65 (x : Ex) (r : Rc) (hk : r.kind = 4) (B4 : Blk) : Deep Try.prog 65 [.c (.ptr 0 0), .agg [.d (.int .u8 r.kind), .d (.int .i64 r.place), .d (.int .i64 r.id), .d (.int .i64 r.lease), .d (.int .u8 r.ans), .d (.sl 4 (stps r.plan.steps)), .d (.sl 1 (afts r.plan.after))]] [(0, .box [.d (.bool x.run), .d (.bool x.stp), .d (.sl 4 (stps x.plan.steps)), .d (.sl 1 (afts x.plan.after)), .ref 48 x.tries.length 0 x.tries.length, .d (.int .i64 x.next)]), (4, B4), (8, .box [.d (.bool false), .d (.bool false), .d .nilSl, .d .nilSl, .d .nilSl, .d (.int .i64 0)]), (48, .sl 3 (trs x.tries) false)] 124
    (fun v h k => (effectN x r = none ∧ v = .c (.d (.bool false)) ∧ h = [(8, .box [.d (.bool false), .d (.bool false), .d .nilSl, .d .nilSl, .d .nilSl, .d (.int .i64 0)])] ∧ k = 124) ∨
      (∃ y, effectN x r = some y ∧ v = .c (.d (.bool true)) ∧ h = [(0, .box [.d (.bool y.run), .d (.bool y.stp), .d (.sl 4 (stps y.plan.steps)), .d (.sl 1 (afts y.plan.after)), .ref 48 y.tries.length 0 y.tries.length, .d (.int .i64 y.next)]), (8, .box [.d (.bool false), .d (.bool false), .d .nilSl, .d .nilSl, .d .nilSl, .d (.int .i64 0)]), (48, .sl 3 (trs y.tries) false)] ∧ k = 124)) := by
  refine Deep.of_w TryEnv Try.func65 (by decide) TryL65_ok Try.ntmps65 (rs := [.tmp 4]) rfl (by simp) ?_; rw [TryL65]
  repeat' first
    | simp -implicitDefEqProofs only [go_sem, ↓reduceIte, Nat.reduceEqDiff, Nat.reduceAdd, Nat.reduceMul, Nat.reduceSub, Nat.reduceLeDiff, Nat.reduceLT, Nat.reducePow, reduceCtorEq, Int.reduceToNat, Int.reduceLT, Int.reduceLE, Int.reduceEq, Int.reduceAdd, Int.reduceSub, Int.reduceMul, Int.reduceNeg, Int.reduceTMod, Int.reduceTDiv, List.replicate_zero, List.replicate_succ]
    | fail
    | refine wfork_intro (fun h => ?_) (fun h => ?_)
    | refine Also.mk (by decide) ?_
    | apply And.intro
  all_goals first
    | (have hn : effectN x r = none := by simp [effectN, *]
       refine wEnd_intro (.refl _) (Wk.sub (tm' := [(0, .c (.d (.bool false)))]) (hp' := [(8, .box [.d (.bool false), .d (.bool false), .d .nilSl, .d .nilSl, .d .nilSl, .d (.int .i64 0)])]) (nx' := 124) ?_ ?_ (by decide) (by decide) ?_ ?_) (.inl ⟨hn, rfl, rfl, rfl⟩)
       all_goals simp -implicitDefEqProofs only [go_sem, ↓reduceIte, Nat.reduceEqDiff, Nat.reduceAdd, Nat.reduceMul, Nat.reduceSub, Nat.reduceLeDiff, Nat.reduceLT, Nat.reducePow, reduceCtorEq, Int.reduceToNat, Int.reduceLT, Int.reduceLE, Int.reduceEq, Int.reduceAdd, Int.reduceSub, Int.reduceMul, Int.reduceNeg, Int.reduceTMod, Int.reduceTDiv, List.replicate_zero, List.replicate_succ]
       done)
    | (have hy : effectN x r = some (Ex.mk x.run true x.plan x.tries x.next) := by simp [effectN, *]
       refine wEnd_intro (.refl _) (Wk.sub (tm' := [(0, .c (.d (.bool true)))]) (hp' := [(0, .box [.d (.bool (Ex.mk x.run true x.plan x.tries x.next).run), .d (.bool (Ex.mk x.run true x.plan x.tries x.next).stp), .d (.sl 4 (stps (Ex.mk x.run true x.plan x.tries x.next).plan.steps)), .d (.sl 1 (afts (Ex.mk x.run true x.plan x.tries x.next).plan.after)), .ref 48 (Ex.mk x.run true x.plan x.tries x.next).tries.length 0 (Ex.mk x.run true x.plan x.tries x.next).tries.length, .d (.int .i64 (Ex.mk x.run true x.plan x.tries x.next).next)]), (8, .box [.d (.bool false), .d (.bool false), .d .nilSl, .d .nilSl, .d .nilSl, .d (.int .i64 0)]), (48, .sl 3 (trs (Ex.mk x.run true x.plan x.tries x.next).tries) false)]) (nx' := 124) ?_ ?_ (by decide) (by decide) ?_ ?_) (.inr ⟨_, hy, rfl, rfl, rfl⟩)
       all_goals simp -implicitDefEqProofs only [go_sem, ↓reduceIte, Nat.reduceEqDiff, Nat.reduceAdd, Nat.reduceMul, Nat.reduceSub, Nat.reduceLeDiff, Nat.reduceLT, Nat.reducePow, reduceCtorEq, Int.reduceToNat, Int.reduceLT, Int.reduceLE, Int.reduceEq, Int.reduceAdd, Int.reduceSub, Int.reduceMul, Int.reduceNeg, Int.reduceTMod, Int.reduceTDiv, List.replicate_zero, List.replicate_succ, begunN, askedN, saidN, saidT, List.length_set, List.length_replicate, trs_start, Int.toNat_natCast]
       all_goals simp only [*, Bool.true_or, Bool.false_or]
       done)

theorem readyI_place {x : Ex} {a : Int} (h : (!readyI x a) = false) : 0 ≤ a ∧ a < x.tries.length := by
  simp only [readyI, Bool.not_eq_false', Bool.and_eq_true, decide_eq_true_eq] at h
  exact ⟨h.2.2.1, h.2.2.2.1⟩
theorem placeL_lt (id : Int) : ∀ (l : List Tr) (n : Nat), 0 ≤ placeL l id n → placeL l id n < n + l.length
  | [], n, h => by simp [placeL] at h
  | t :: l, n, h => by
    rw [placeL] at *
    split
    · simp; omega
    · rename_i hn
      rw [if_neg hn] at h
      have := placeL_lt id l (n + 1) h
      simp only [List.length_cons]
      omega
theorem placeN_lt {x : Ex} {id : Int} (h : ¬ placeN x id < 0) : placeN x id < x.tries.length := by
  have := placeL_lt id x.tries 0 (by unfold placeN at h; omega)
  simpa [placeN] using this

theorem eff61 (x : Ex) (r : Rc) (hk : r.kind = 2) (hx : x.small) (hw : x.wf) (B4 : Blk) : Deep Try.prog 61 [.c (.ptr 0 0), .agg [.d (.int .u8 r.kind), .d (.int .i64 r.place), .d (.int .i64 r.id), .d (.int .i64 r.lease), .d (.int .u8 r.ans), .d (.sl 4 (stps r.plan.steps)), .d (.sl 1 (afts r.plan.after))]] [(0, .box [.d (.bool x.run), .d (.bool x.stp), .d (.sl 4 (stps x.plan.steps)), .d (.sl 1 (afts x.plan.after)), .ref 48 x.tries.length 0 x.tries.length, .d (.int .i64 x.next)]), (4, B4), (8, .box [.d (.bool false), .d (.bool false), .d .nilSl, .d .nilSl, .d .nilSl, .d (.int .i64 0)]), (48, .sl 3 (trs x.tries) false)] 124
    (fun v h k => (effectN x r = none ∧ v = .c (.d (.bool false)) ∧ h = [(8, .box [.d (.bool false), .d (.bool false), .d .nilSl, .d .nilSl, .d .nilSl, .d (.int .i64 0)])] ∧ k = 124) ∨
      (∃ y, effectN x r = some y ∧ v = .c (.d (.bool true)) ∧ h = [(0, .box [.d (.bool y.run), .d (.bool y.stp), .d (.sl 4 (stps y.plan.steps)), .d (.sl 1 (afts y.plan.after)), .ref 48 y.tries.length 0 y.tries.length, .d (.int .i64 y.next)]), (8, .box [.d (.bool false), .d (.bool false), .d .nilSl, .d .nilSl, .d .nilSl, .d (.int .i64 0)]), (48, .sl 3 (trs y.tries) false)] ∧ k = 124)) := by
  refine Deep.of_w TryEnv Try.func61 (by decide) TryL61_ok Try.ntmps61 (rs := [.tmp 4]) rfl (by simp) ?_; rw [TryL61]
  repeat' first
    | simp -implicitDefEqProofs only [go_sem, ↓reduceIte, Nat.reduceEqDiff, Nat.reduceAdd, Nat.reduceMul, Nat.reduceSub, Nat.reduceLeDiff, Nat.reduceLT, Nat.reducePow, reduceCtorEq, Int.reduceToNat, Int.reduceLT, Int.reduceLE, Int.reduceEq, Int.reduceAdd, Int.reduceSub, Int.reduceMul, Int.reduceNeg, Int.reduceTMod, Int.reduceTDiv, List.replicate_zero, List.replicate_succ]
    | (refine wCall_intro (ready51 _ _ hx hw) ?_ ?_ ?_; rfl; decide)
    | (rename (!readyI x r.place) = false => hR; obtain ⟨h0, h1⟩ := readyI_place hR
       have hg : x.tries[r.place.toNat]? = some (x.tries.getD r.place.toNat .zero) := by rw [getD_of (by omega)]; exact List.getElem?_eq_getElem (by omega)
       simp -implicitDefEqProofs only [go_sem, ↓reduceIte, Nat.reduceEqDiff, Nat.reduceAdd, Nat.reduceMul, Nat.reduceSub, Nat.reduceLeDiff, Nat.reduceLT, Nat.reducePow, reduceCtorEq, Int.reduceToNat, Int.reduceLT, Int.reduceLE, Int.reduceEq, Int.reduceAdd, Int.reduceSub, Int.reduceMul, Int.reduceNeg, Int.reduceTMod, Int.reduceTDiv, List.replicate_zero, List.replicate_succ, h0, h1, trs_get, hg, trs_set])
    | refine wfork_intro (fun h => ?_) (fun h => ?_)
    | refine Also.mk (by decide) ?_
    | apply And.intro
  all_goals first
    | (have hn : effectN x r = none := by simp [effectN, *]
       refine wEnd_intro (.refl _) (Wk.sub (tm' := [(0, .c (.d (.bool false)))]) (hp' := [(8, .box [.d (.bool false), .d (.bool false), .d .nilSl, .d .nilSl, .d .nilSl, .d (.int .i64 0)])]) (nx' := 124) ?_ ?_ (by decide) (by decide) ?_ ?_) (.inl ⟨hn, rfl, rfl, rfl⟩)
       all_goals simp -implicitDefEqProofs only [go_sem, ↓reduceIte, Nat.reduceEqDiff, Nat.reduceAdd, Nat.reduceMul, Nat.reduceSub, Nat.reduceLeDiff, Nat.reduceLT, Nat.reducePow, reduceCtorEq, Int.reduceToNat, Int.reduceLT, Int.reduceLE, Int.reduceEq, Int.reduceAdd, Int.reduceSub, Int.reduceMul, Int.reduceNeg, Int.reduceTMod, Int.reduceTDiv, List.replicate_zero, List.replicate_succ]
       done)
    | (have hy : effectN x r = some (askedN x r) := by simp [effectN, *]
       refine wEnd_intro (.refl _) (Wk.sub (tm' := [(0, .c (.d (.bool true)))]) (hp' := [(0, .box [.d (.bool (askedN x r).run), .d (.bool (askedN x r).stp), .d (.sl 4 (stps (askedN x r).plan.steps)), .d (.sl 1 (afts (askedN x r).plan.after)), .ref 48 (askedN x r).tries.length 0 (askedN x r).tries.length, .d (.int .i64 (askedN x r).next)]), (8, .box [.d (.bool false), .d (.bool false), .d .nilSl, .d .nilSl, .d .nilSl, .d (.int .i64 0)]), (48, .sl 3 (trs (askedN x r).tries) false)]) (nx' := 124) ?_ ?_ (by decide) (by decide) ?_ ?_) (.inr ⟨_, hy, rfl, rfl, rfl⟩)
       all_goals simp -implicitDefEqProofs only [go_sem, ↓reduceIte, Nat.reduceEqDiff, Nat.reduceAdd, Nat.reduceMul, Nat.reduceSub, Nat.reduceLeDiff, Nat.reduceLT, Nat.reducePow, reduceCtorEq, Int.reduceToNat, Int.reduceLT, Int.reduceLE, Int.reduceEq, Int.reduceAdd, Int.reduceSub, Int.reduceMul, Int.reduceNeg, Int.reduceTMod, Int.reduceTDiv, List.replicate_zero, List.replicate_succ, begunN, askedN, saidN, saidT, List.length_set, List.length_replicate, trs_start, Int.toNat_natCast]
       all_goals simp only [*, Bool.true_or, Bool.false_or]
       done)

theorem eff62 (x : Ex) (r : Rc) (hk : r.kind = 3) (hx : x.small) (B4 : Blk) : Deep Try.prog 62 [.c (.ptr 0 0), .agg [.d (.int .u8 r.kind), .d (.int .i64 r.place), .d (.int .i64 r.id), .d (.int .i64 r.lease), .d (.int .u8 r.ans), .d (.sl 4 (stps r.plan.steps)), .d (.sl 1 (afts r.plan.after))]] [(0, .box [.d (.bool x.run), .d (.bool x.stp), .d (.sl 4 (stps x.plan.steps)), .d (.sl 1 (afts x.plan.after)), .ref 48 x.tries.length 0 x.tries.length, .d (.int .i64 x.next)]), (4, B4), (8, .box [.d (.bool false), .d (.bool false), .d .nilSl, .d .nilSl, .d .nilSl, .d (.int .i64 0)]), (48, .sl 3 (trs x.tries) false)] 124
    (fun v h k => (effectN x r = none ∧ v = .c (.d (.bool false)) ∧ h = [(8, .box [.d (.bool false), .d (.bool false), .d .nilSl, .d .nilSl, .d .nilSl, .d (.int .i64 0)])] ∧ k = 124) ∨
      (∃ y, effectN x r = some y ∧ v = .c (.d (.bool true)) ∧ h = [(0, .box [.d (.bool y.run), .d (.bool y.stp), .d (.sl 4 (stps y.plan.steps)), .d (.sl 1 (afts y.plan.after)), .ref 48 y.tries.length 0 y.tries.length, .d (.int .i64 y.next)]), (8, .box [.d (.bool false), .d (.bool false), .d .nilSl, .d .nilSl, .d .nilSl, .d (.int .i64 0)]), (48, .sl 3 (trs y.tries) false)] ∧ k = 124)) := by
  refine Deep.of_w TryEnv Try.func62 (by decide) TryL62_ok Try.ntmps62 (rs := [.tmp 4]) rfl (by simp) ?_; rw [TryL62]
  repeat' first
    | simp -implicitDefEqProofs only [go_sem, ↓reduceIte, Nat.reduceEqDiff, Nat.reduceAdd, Nat.reduceMul, Nat.reduceSub, Nat.reduceLeDiff, Nat.reduceLT, Nat.reducePow, reduceCtorEq, Int.reduceToNat, Int.reduceLT, Int.reduceLE, Int.reduceEq, Int.reduceAdd, Int.reduceSub, Int.reduceMul, Int.reduceNeg, Int.reduceTMod, Int.reduceTDiv, List.replicate_zero, List.replicate_succ]
    | refine wLend_lend ?_
    | (refine wCall_intro (place63 x r hx) ?_ ?_ ?_; rfl; decide)
    | (rename decide (placeN x r.id < 0) = false => hR; have h1 := placeN_lt (of_decide_eq_false hR); have h0 : 0 ≤ placeN x r.id := by have := of_decide_eq_false hR; omega
       have hg : x.tries[(placeN x r.id).toNat]? = some (x.tries.getD (placeN x r.id).toNat .zero) := by rw [getD_of (by omega)]; exact List.getElem?_eq_getElem (by omega)
       simp -implicitDefEqProofs only [go_sem, ↓reduceIte, Nat.reduceEqDiff, Nat.reduceAdd, Nat.reduceMul, Nat.reduceSub, Nat.reduceLeDiff, Nat.reduceLT, Nat.reducePow, reduceCtorEq, Int.reduceToNat, Int.reduceLT, Int.reduceLE, Int.reduceEq, Int.reduceAdd, Int.reduceSub, Int.reduceMul, Int.reduceNeg, Int.reduceTMod, Int.reduceTDiv, List.replicate_zero, List.replicate_succ, h0, h1, trs_get, hg, trs_set])
    | refine wfork_intro (fun h => ?_) (fun h => ?_)
    | refine Also.mk (by decide) ?_
    | apply And.intro
  all_goals first
    | (have hn : effectN x r = none := by simp [effectN, *]
       refine wEnd_intro (.refl _) (Wk.sub (tm' := [(0, .c (.d (.bool false)))]) (hp' := [(8, .box [.d (.bool false), .d (.bool false), .d .nilSl, .d .nilSl, .d .nilSl, .d (.int .i64 0)])]) (nx' := 124) ?_ ?_ (by decide) (by decide) ?_ ?_) (.inl ⟨hn, rfl, rfl, rfl⟩)
       all_goals simp -implicitDefEqProofs only [go_sem, ↓reduceIte, Nat.reduceEqDiff, Nat.reduceAdd, Nat.reduceMul, Nat.reduceSub, Nat.reduceLeDiff, Nat.reduceLT, Nat.reducePow, reduceCtorEq, Int.reduceToNat, Int.reduceLT, Int.reduceLE, Int.reduceEq, Int.reduceAdd, Int.reduceSub, Int.reduceMul, Int.reduceNeg, Int.reduceTMod, Int.reduceTDiv, List.replicate_zero, List.replicate_succ]
       done)
    | (have hy : effectN x r = some (saidN x (placeN x r.id).toNat r.ans) := by simp [effectN, *]
       refine wEnd_intro (.refl _) (Wk.sub (tm' := [(0, .c (.d (.bool true)))]) (hp' := [(0, .box [.d (.bool (saidN x (placeN x r.id).toNat r.ans).run), .d (.bool (saidN x (placeN x r.id).toNat r.ans).stp), .d (.sl 4 (stps (saidN x (placeN x r.id).toNat r.ans).plan.steps)), .d (.sl 1 (afts (saidN x (placeN x r.id).toNat r.ans).plan.after)), .ref 48 (saidN x (placeN x r.id).toNat r.ans).tries.length 0 (saidN x (placeN x r.id).toNat r.ans).tries.length, .d (.int .i64 (saidN x (placeN x r.id).toNat r.ans).next)]), (8, .box [.d (.bool false), .d (.bool false), .d .nilSl, .d .nilSl, .d .nilSl, .d (.int .i64 0)]), (48, .sl 3 (trs (saidN x (placeN x r.id).toNat r.ans).tries) false)]) (nx' := 124) ?_ ?_ (by decide) (by decide) ?_ ?_) (.inr ⟨_, hy, rfl, rfl, rfl⟩)
       all_goals simp -implicitDefEqProofs only [go_sem, ↓reduceIte, Nat.reduceEqDiff, Nat.reduceAdd, Nat.reduceMul, Nat.reduceSub, Nat.reduceLeDiff, Nat.reduceLT, Nat.reducePow, reduceCtorEq, Int.reduceToNat, Int.reduceLT, Int.reduceLE, Int.reduceEq, Int.reduceAdd, Int.reduceSub, Int.reduceMul, Int.reduceNeg, Int.reduceTMod, Int.reduceTDiv, List.replicate_zero, List.replicate_succ, begunN, askedN, saidN, saidT, List.length_set, List.length_replicate, trs_start, Int.toNat_natCast]
       all_goals simp only [*, Bool.true_or, Bool.false_or]
       done)

theorem eff66 (x : Ex) (r : Rc) (hk : r.kind = 5) (hx : x.small) (B4 : Blk) : Deep Try.prog 66 [.c (.ptr 0 0), .agg [.d (.int .u8 r.kind), .d (.int .i64 r.place), .d (.int .i64 r.id), .d (.int .i64 r.lease), .d (.int .u8 r.ans), .d (.sl 4 (stps r.plan.steps)), .d (.sl 1 (afts r.plan.after))]] [(0, .box [.d (.bool x.run), .d (.bool x.stp), .d (.sl 4 (stps x.plan.steps)), .d (.sl 1 (afts x.plan.after)), .ref 48 x.tries.length 0 x.tries.length, .d (.int .i64 x.next)]), (4, B4), (8, .box [.d (.bool false), .d (.bool false), .d .nilSl, .d .nilSl, .d .nilSl, .d (.int .i64 0)]), (48, .sl 3 (trs x.tries) false)] 124
    (fun v h k => (effectN x r = none ∧ v = .c (.d (.bool false)) ∧ h = [(8, .box [.d (.bool false), .d (.bool false), .d .nilSl, .d .nilSl, .d .nilSl, .d (.int .i64 0)])] ∧ k = 124) ∨
      (∃ y, effectN x r = some y ∧ v = .c (.d (.bool true)) ∧ h = [(0, .box [.d (.bool y.run), .d (.bool y.stp), .d (.sl 4 (stps y.plan.steps)), .d (.sl 1 (afts y.plan.after)), .ref 48 y.tries.length 0 y.tries.length, .d (.int .i64 y.next)]), (8, .box [.d (.bool false), .d (.bool false), .d .nilSl, .d .nilSl, .d .nilSl, .d (.int .i64 0)]), (48, .sl 3 (trs y.tries) false)] ∧ k = 124)) := by
  refine Deep.of_w TryEnv Try.func66 (by decide) TryL66_ok Try.ntmps66 (rs := [.tmp 4]) rfl (by simp) ?_; rw [TryL66]
  repeat' first
    | simp -implicitDefEqProofs only [go_sem, ↓reduceIte, Nat.reduceEqDiff, Nat.reduceAdd, Nat.reduceMul, Nat.reduceSub, Nat.reduceLeDiff, Nat.reduceLT, Nat.reducePow, reduceCtorEq, Int.reduceToNat, Int.reduceLT, Int.reduceLE, Int.reduceEq, Int.reduceAdd, Int.reduceSub, Int.reduceMul, Int.reduceNeg, Int.reduceTMod, Int.reduceTDiv, List.replicate_zero, List.replicate_succ]
    | refine wLend_lend ?_
    | (refine wCall_intro (contains67 _ (by have := hx.2; omega)) ?_ ?_ ?_; rfl; decide)
    | (refine wCall_intro (complete28 x hx) ?_ ?_ ?_; rfl; decide)
    | refine wfork_intro (fun h => ?_) (fun h => ?_)
    | refine Also.mk (by decide) ?_
    | apply And.intro
  all_goals first
    | (have hn : effectN x r = none := by simp [effectN, settledN, completeN, *]
       refine wEnd_intro (.refl _) (Wk.sub (tm' := [(0, .c (.d (.bool false)))]) (hp' := [(8, .box [.d (.bool false), .d (.bool false), .d .nilSl, .d .nilSl, .d .nilSl, .d (.int .i64 0)])]) (nx' := 124) ?_ ?_ (by decide) (by decide) ?_ ?_) (.inl ⟨hn, rfl, rfl, rfl⟩)
       all_goals simp -implicitDefEqProofs only [go_sem, ↓reduceIte, Nat.reduceEqDiff, Nat.reduceAdd, Nat.reduceMul, Nat.reduceSub, Nat.reduceLeDiff, Nat.reduceLT, Nat.reducePow, reduceCtorEq, Int.reduceToNat, Int.reduceLT, Int.reduceLE, Int.reduceEq, Int.reduceAdd, Int.reduceSub, Int.reduceMul, Int.reduceNeg, Int.reduceTMod, Int.reduceTDiv, List.replicate_zero, List.replicate_succ]
       done)
    | (have hy : effectN x r = some (Ex.mk false x.stp x.plan x.tries x.next) := by simp [effectN, settledN, completeN, *]
       refine wEnd_intro (.refl _) (Wk.sub (tm' := [(0, .c (.d (.bool true)))]) (hp' := [(0, .box [.d (.bool (Ex.mk false x.stp x.plan x.tries x.next).run), .d (.bool (Ex.mk false x.stp x.plan x.tries x.next).stp), .d (.sl 4 (stps (Ex.mk false x.stp x.plan x.tries x.next).plan.steps)), .d (.sl 1 (afts (Ex.mk false x.stp x.plan x.tries x.next).plan.after)), .ref 48 (Ex.mk false x.stp x.plan x.tries x.next).tries.length 0 (Ex.mk false x.stp x.plan x.tries x.next).tries.length, .d (.int .i64 (Ex.mk false x.stp x.plan x.tries x.next).next)]), (8, .box [.d (.bool false), .d (.bool false), .d .nilSl, .d .nilSl, .d .nilSl, .d (.int .i64 0)]), (48, .sl 3 (trs (Ex.mk false x.stp x.plan x.tries x.next).tries) false)]) (nx' := 124) ?_ ?_ (by decide) (by decide) ?_ ?_) (.inr ⟨_, hy, rfl, rfl, rfl⟩)
       all_goals simp -implicitDefEqProofs only [go_sem, ↓reduceIte, Nat.reduceEqDiff, Nat.reduceAdd, Nat.reduceMul, Nat.reduceSub, Nat.reduceLeDiff, Nat.reduceLT, Nat.reducePow, reduceCtorEq, Int.reduceToNat, Int.reduceLT, Int.reduceLE, Int.reduceEq, Int.reduceAdd, Int.reduceSub, Int.reduceMul, Int.reduceNeg, Int.reduceTMod, Int.reduceTDiv, List.replicate_zero, List.replicate_succ, begunN, askedN, saidN, saidT, List.length_set, List.length_replicate, trs_start, Int.toNat_natCast]
       all_goals simp only [*, Bool.true_or, Bool.false_or]
       done)

end Go.Proofs.Ytbdodpippgakjaa

namespace Go.Proofs.Ytbdodpippgakjaa
open Go Go.Vs Go.Proofs


theorem next13_at (x : Ex) (r : Rc) (hx : x.small) (hr : r.small) (y : Ex × Int) (hy : y = nextN x r) : Gives Try.prog 13 [.agg [.bool x.run, .bool x.stp, .sl 4 (stps x.plan.steps), .sl 1 (afts x.plan.after), .sl 3 (trs x.tries), .int .i64 x.next], .agg [.int .u8 r.kind, .int .i64 r.place, .int .i64 r.id, .int .i64 r.lease, .int .u8 r.ans, .sl 4 (stps r.plan.steps), .sl 1 (afts r.plan.after)]] (.tup [.agg [.d (.bool y.1.run), .d (.bool y.1.stp), .d (.sl 4 (stps y.1.plan.steps)), .d (.sl 1 (afts y.1.plan.after)), .d (.sl 3 (trs y.1.tries)), .d (.int .i64 y.1.next)], .c (.d (.int .i64 y.2))]) [] := by
  refine Gives.of_w TryEnv Try.func13 (by decide) TryL13_ok Try.ntmps13 (rs := [.cell 4 28, .tmp 5]) rfl (by simp) [] (by decide) ?_; rw [TryL13]
  repeat' first
    | simp -implicitDefEqProofs only [go_sem, ↓reduceIte, Nat.reduceEqDiff, Nat.reduceAdd, Nat.reduceMul, Nat.reduceSub, Nat.reduceLeDiff, Nat.reduceLT, Nat.reducePow, reduceCtorEq, Int.reduceToNat, Int.reduceLT, Int.reduceLE, Int.reduceEq, Int.reduceAdd, Int.reduceSub, Int.reduceMul, Int.reduceNeg, Int.reduceTMod, Int.reduceTDiv, List.replicate_zero, List.replicate_succ]
    | (refine wCall_intro (valid16 _ hx) ?_ ?_ ?_; rfl; decide)
    | refine wfork_intro (fun h => ?_) (fun h => ?_)
  · have h : validN x = false := by simpa using h
    have hy : y = (.zero, 1) := by rw [hy, nextN, h]; rfl
    subst hy
    simp [Ex.zero, VLe_tup, VLe_agg, VLe_c, VsLe_nil, VsLe_cons, CsLe_nil, CsLe_cons, CLe_d, CLe_self, DLe_self, DLe_nil, trs_nil, stps_nil, afts_nil]
  · have h : validN x = true := by simpa using h
    have hw := validN_wf h
    have hN : nextN x r = match effectN x r with
      | some y => (y, 0)
      | none => (.zero, 8) := by rw [nextN, h]; rfl
    repeat' first
      | simp -implicitDefEqProofs only [go_sem, ↓reduceIte, Nat.reduceEqDiff, Nat.reduceAdd, Nat.reduceMul, Nat.reduceSub, Nat.reduceLeDiff, Nat.reduceLT, Nat.reducePow, reduceCtorEq, Int.reduceToNat, Int.reduceLT, Int.reduceLE, Int.reduceEq, Int.reduceAdd, Int.reduceSub, Int.reduceMul, Int.reduceNeg, Int.reduceTMod, Int.reduceTDiv, List.replicate_zero, List.replicate_succ]
      | (refine wCall_intro (own40 _ hx.1) ?_ ?_ ?_; rfl; decide)
      | (refine wCall_intro (clone41R _ (by have := hx.2; omega)) ?_ ?_ ?_; rfl; exact Nat.le_of_ble_eq_true rfl)
      | (refine wCall_intro effects42 ?_ ?_ ?_; rfl; decide)
      | refine Also.mk (by decide) ?_
      | refine wfork_intro (fun h => ?_) (fun h => ?_)
    by_cases k1 : r.kind = 1
    · have t1 : (r.kind = 1) = True := by simp [k1]
      repeat' first
        | simp -implicitDefEqProofs only [go_sem, ↓reduceIte, Nat.reduceEqDiff, Nat.reduceAdd, Nat.reduceMul, Nat.reduceSub, Nat.reduceLeDiff, Nat.reduceLT, Nat.reducePow, reduceCtorEq, Int.reduceToNat, Int.reduceLT, Int.reduceLE, Int.reduceEq, Int.reduceAdd, Int.reduceSub, Int.reduceMul, Int.reduceNeg, Int.reduceTMod, Int.reduceTDiv, List.replicate_zero, List.replicate_succ, t1]
        | refine wfork_intro (fun h => ?_) (fun h => ?_)
        | refine Also.mk (by decide) ?_
        | (refine wDeep_intro (eff60 x r k1 hr _) ?_
           rintro v h k (⟨he, rfl, rfl, rfl⟩ | ⟨y', he, rfl, rfl, rfl⟩))
      all_goals rw [hN, he] at hy
      all_goals subst hy
      all_goals simp [Ex.zero, VLe_tup, VLe_agg, VLe_c, VsLe_nil, VsLe_cons, CsLe_nil, CsLe_cons, CLe_d, CLe_self, DLe_self, DLe_nil, trs_nil, stps_nil, afts_nil, VLe_self]
    have f1 : (r.kind = 1) = False := by simp [k1]
    by_cases k2 : r.kind = 2
    · have t2 : (r.kind = 2) = True := by simp [k2]
      repeat' first
        | simp -implicitDefEqProofs only [go_sem, ↓reduceIte, Nat.reduceEqDiff, Nat.reduceAdd, Nat.reduceMul, Nat.reduceSub, Nat.reduceLeDiff, Nat.reduceLT, Nat.reducePow, reduceCtorEq, Int.reduceToNat, Int.reduceLT, Int.reduceLE, Int.reduceEq, Int.reduceAdd, Int.reduceSub, Int.reduceMul, Int.reduceNeg, Int.reduceTMod, Int.reduceTDiv, List.replicate_zero, List.replicate_succ, f1, t2]
        | refine wfork_intro (fun h => ?_) (fun h => ?_)
        | refine Also.mk (by decide) ?_
        | (refine wDeep_intro (eff61 x r k2 hx hw _) ?_
           rintro v h k (⟨he, rfl, rfl, rfl⟩ | ⟨y', he, rfl, rfl, rfl⟩))
      all_goals rw [hN, he] at hy
      all_goals subst hy
      all_goals simp [Ex.zero, VLe_tup, VLe_agg, VLe_c, VsLe_nil, VsLe_cons, CsLe_nil, CsLe_cons, CLe_d, CLe_self, DLe_self, DLe_nil, trs_nil, stps_nil, afts_nil, VLe_self]
    have f2 : (r.kind = 2) = False := by simp [k2]
    by_cases k3 : r.kind = 3
    · have t3 : (r.kind = 3) = True := by simp [k3]
      repeat' first
        | simp -implicitDefEqProofs only [go_sem, ↓reduceIte, Nat.reduceEqDiff, Nat.reduceAdd, Nat.reduceMul, Nat.reduceSub, Nat.reduceLeDiff, Nat.reduceLT, Nat.reducePow, reduceCtorEq, Int.reduceToNat, Int.reduceLT, Int.reduceLE, Int.reduceEq, Int.reduceAdd, Int.reduceSub, Int.reduceMul, Int.reduceNeg, Int.reduceTMod, Int.reduceTDiv, List.replicate_zero, List.replicate_succ, f1, f2, t3]
        | refine wfork_intro (fun h => ?_) (fun h => ?_)
        | refine Also.mk (by decide) ?_
        | (refine wDeep_intro (eff62 x r k3 hx _) ?_
           rintro v h k (⟨he, rfl, rfl, rfl⟩ | ⟨y', he, rfl, rfl, rfl⟩))
      all_goals rw [hN, he] at hy
      all_goals subst hy
      all_goals simp [Ex.zero, VLe_tup, VLe_agg, VLe_c, VsLe_nil, VsLe_cons, CsLe_nil, CsLe_cons, CLe_d, CLe_self, DLe_self, DLe_nil, trs_nil, stps_nil, afts_nil, VLe_self]
    have f3 : (r.kind = 3) = False := by simp [k3]
    by_cases k4 : r.kind = 4
    · have t4 : (r.kind = 4) = True := by simp [k4]
      repeat' first
        | simp -implicitDefEqProofs only [go_sem, ↓reduceIte, Nat.reduceEqDiff, Nat.reduceAdd, Nat.reduceMul, Nat.reduceSub, Nat.reduceLeDiff, Nat.reduceLT, Nat.reducePow, reduceCtorEq, Int.reduceToNat, Int.reduceLT, Int.reduceLE, Int.reduceEq, Int.reduceAdd, Int.reduceSub, Int.reduceMul, Int.reduceNeg, Int.reduceTMod, Int.reduceTDiv, List.replicate_zero, List.replicate_succ, f1, f2, f3, t4]
        | refine wfork_intro (fun h => ?_) (fun h => ?_)
        | refine Also.mk (by decide) ?_
        | (refine wDeep_intro (eff65 x r k4 _) ?_
           rintro v h k (⟨he, rfl, rfl, rfl⟩ | ⟨y', he, rfl, rfl, rfl⟩))
      all_goals rw [hN, he] at hy
      all_goals subst hy
      all_goals simp [Ex.zero, VLe_tup, VLe_agg, VLe_c, VsLe_nil, VsLe_cons, CsLe_nil, CsLe_cons, CLe_d, CLe_self, DLe_self, DLe_nil, trs_nil, stps_nil, afts_nil, VLe_self]
    have f4 : (r.kind = 4) = False := by simp [k4]
    by_cases k5 : r.kind = 5
    · have t5 : (r.kind = 5) = True := by simp [k5]
      repeat' first
        | simp -implicitDefEqProofs only [go_sem, ↓reduceIte, Nat.reduceEqDiff, Nat.reduceAdd, Nat.reduceMul, Nat.reduceSub, Nat.reduceLeDiff, Nat.reduceLT, Nat.reducePow, reduceCtorEq, Int.reduceToNat, Int.reduceLT, Int.reduceLE, Int.reduceEq, Int.reduceAdd, Int.reduceSub, Int.reduceMul, Int.reduceNeg, Int.reduceTMod, Int.reduceTDiv, List.replicate_zero, List.replicate_succ, f1, f2, f3, f4, t5]
        | refine wfork_intro (fun h => ?_) (fun h => ?_)
        | refine Also.mk (by decide) ?_
        | (refine wDeep_intro (eff66 x r k5 hx _) ?_
           rintro v h k (⟨he, rfl, rfl, rfl⟩ | ⟨y', he, rfl, rfl, rfl⟩))
      all_goals rw [hN, he] at hy
      all_goals subst hy
      all_goals simp [Ex.zero, VLe_tup, VLe_agg, VLe_c, VsLe_nil, VsLe_cons, CsLe_nil, CsLe_cons, CLe_d, CLe_self, DLe_self, DLe_nil, trs_nil, stps_nil, afts_nil, VLe_self]
    have f5 : (r.kind = 5) = False := by simp [k5]
    have he : effectN x r = none := by simp [effectN, *]
    repeat' first
      | simp -implicitDefEqProofs only [go_sem, ↓reduceIte, Nat.reduceEqDiff, Nat.reduceAdd, Nat.reduceMul, Nat.reduceSub, Nat.reduceLeDiff, Nat.reduceLT, Nat.reducePow, reduceCtorEq, Int.reduceToNat, Int.reduceLT, Int.reduceLE, Int.reduceEq, Int.reduceAdd, Int.reduceSub, Int.reduceMul, Int.reduceNeg, Int.reduceTMod, Int.reduceTDiv, List.replicate_zero, List.replicate_succ, f1, f2, f3, f4, f5]
      | refine wfork_intro (fun h => ?_) (fun h => ?_)
      | refine Also.mk (by decide) ?_
    all_goals rw [hN, he] at hy
    all_goals subst hy
    all_goals simp [Ex.zero, VLe_tup, VLe_agg, VLe_c, VsLe_nil, VsLe_cons, CsLe_nil, CsLe_cons, CLe_d, CLe_self, DLe_self, DLe_nil, trs_nil, stps_nil, afts_nil, VLe_self]

theorem next13 (x : Ex) (r : Rc) (hx : x.small) (hr : r.small) : Gives Try.prog 13 [.agg [.bool x.run, .bool x.stp, .sl 4 (stps x.plan.steps), .sl 1 (afts x.plan.after), .sl 3 (trs x.tries), .int .i64 x.next], .agg [.int .u8 r.kind, .int .i64 r.place, .int .i64 r.id, .int .i64 r.lease, .int .u8 r.ans, .sl 4 (stps r.plan.steps), .sl 1 (afts r.plan.after)]] (.tup [.agg [.d (.bool ((nextN x r).1).run), .d (.bool ((nextN x r).1).stp), .d (.sl 4 (stps ((nextN x r).1).plan.steps)), .d (.sl 1 (afts ((nextN x r).1).plan.after)), .d (.sl 3 (trs ((nextN x r).1).tries)), .d (.int .i64 ((nextN x r).1).next)], .c (.d (.int .i64 (nextN x r).2))]) [] :=
  next13_at x r hx hr _ rfl
end Go.Proofs.Ytbdodpippgakjaa

namespace Go.Proofs.Ytbdodpippgakjaa
open Go Go.Vs Go.Proofs
set_option maxRecDepth 20000

set_option maxHeartbeats 4000000 in
theorem refNext14_1 (x : Ex) (r : Rc) (hx : x.small) (hr : r.small) (h : validN x = true) (hk : r.kind = 1) (y : Ex × Int) (hy : y = nextN x r) : Gives Try.prog 14 [.agg [.bool x.run, .bool x.stp, .sl 4 (stps x.plan.steps), .sl 1 (afts x.plan.after), .sl 3 (trs x.tries), .int .i64 x.next], .agg [.int .u8 r.kind, .int .i64 r.place, .int .i64 r.id, .int .i64 r.lease, .int .u8 r.ans, .sl 4 (stps r.plan.steps), .sl 1 (afts r.plan.after)]] (.tup [.agg [.d (.bool y.1.run), .d (.bool y.1.stp), .d (.sl 4 (stps y.1.plan.steps)), .d (.sl 1 (afts y.1.plan.after)), .d (.sl 3 (trs y.1.tries)), .d (.int .i64 y.1.next)], .c (.d (.int .i64 y.2))]) [] := by
  have hv := refValid17 x hx
  rw [h] at hv
  have hw := validN_wf h
  have hN : nextN x r = match effectN x r with
    | some y => (y, 0)
    | none => (.zero, 8) := by rw [nextN, h]; rfl
  have g1 : (r.kind = 1) = True := by simp [hk]
  have g2 : (r.kind = 2) = False := by simp [hk]
  have g3 : (r.kind = 3) = False := by simp [hk]
  have g4 : (r.kind = 4) = False := by simp [hk]
  have g5 : (r.kind = 5) = False := by simp [hk]
  have b1 : r.plan.steps.length * 24 ≤ mostBytes := by have := hr.1; simp only [mostBytes]; omega
  have b2 : (r.plan.steps.length : Int) ≤ 70368744177664 := by have := hr.1; omega
  refine Gives.of_w TryEnv Try.func14 (by decide) TryL14_ok Try.ntmps14 (rs := [.cell 4 28, .tmp 5]) rfl (by simp) [] (by decide) ?_; rw [TryL14]
  repeat' first
    | simp -implicitDefEqProofs only [go_sem, ↓reduceIte, Nat.reduceEqDiff, Nat.reduceAdd, Nat.reduceMul, Nat.reduceSub, Nat.reduceLeDiff, Nat.reduceLT, Nat.reducePow, reduceCtorEq, Int.reduceToNat, Int.reduceLT, Int.reduceLE, Int.reduceEq, Int.reduceAdd, Int.reduceSub, Int.reduceMul, Int.reduceNeg, Int.reduceTMod, Int.reduceTDiv, List.replicate_zero, List.replicate_succ]
    | (refine wCall_intro hv ?_ ?_ ?_; rfl; decide)
  refine wCall_intro (own12R x hx) ?_ ?_ ?_
  · rfl
  · exact Nat.le_of_ble_eq_true rfl
  repeat' first
    | simp -implicitDefEqProofs only [go_sem, ↓reduceIte, Nat.reduceEqDiff, Nat.reduceAdd, Nat.reduceMul, Nat.reduceSub, Nat.reduceLeDiff, Nat.reduceLT, Nat.reducePow, reduceCtorEq, Int.reduceToNat, Int.reduceLT, Int.reduceLE, Int.reduceEq, Int.reduceAdd, Int.reduceSub, Int.reduceMul, Int.reduceNeg, Int.reduceTMod, Int.reduceTDiv, List.replicate_zero, List.replicate_succ, g1, g2, g3, g4, g5, Int.toNat_natCast, Int.natCast_nonneg, b1, b2]
    | refine wfork_intro (fun h => ?_) (fun h => ?_)
    | refine Also.mk (by decide) ?_
    | (refine wCall_intro (refOrdered19 _ hr) ?_ ?_ ?_; rfl; decide)
    | (refine wCall_intro (plan39 _ hr) ?_ ?_ ?_; rfl; decide)
  all_goals try simp only [Bool.not_eq_true', Bool.not_eq_false', decide_eq_true_eq, decide_eq_false_iff_not] at *
  all_goals first
    | (have he : effectN x r = none := by
         clear hy hN
         simp [effectN, *]
       rw [hN, he] at hy
       subst hy
       simp [Ex.zero, DLe_self, DLe_nil, trs_nil, stps_nil, afts_nil]
       done)
    | (have he : effectN x r = some (begunN x r.plan) := by
         clear hy hN
         simp [effectN, *]
       rw [hN, he] at hy
       subst hy
       simp [begunN, DLe_self, trs_start, List.take_of_length_le, trs]
       done)
end Go.Proofs.Ytbdodpippgakjaa

namespace Go.Proofs.Ytbdodpippgakjaa
open Go Go.Vs Go.Proofs
set_option maxRecDepth 20000

set_option maxHeartbeats 4000000 in
theorem refNext14_2 (x : Ex) (r : Rc) (hx : x.small) (hr : r.small) (h : validN x = true) (hk : r.kind = 2) (y : Ex × Int) (hy : y = nextN x r) : Gives Try.prog 14 [.agg [.bool x.run, .bool x.stp, .sl 4 (stps x.plan.steps), .sl 1 (afts x.plan.after), .sl 3 (trs x.tries), .int .i64 x.next], .agg [.int .u8 r.kind, .int .i64 r.place, .int .i64 r.id, .int .i64 r.lease, .int .u8 r.ans, .sl 4 (stps r.plan.steps), .sl 1 (afts r.plan.after)]] (.tup [.agg [.d (.bool y.1.run), .d (.bool y.1.stp), .d (.sl 4 (stps y.1.plan.steps)), .d (.sl 1 (afts y.1.plan.after)), .d (.sl 3 (trs y.1.tries)), .d (.int .i64 y.1.next)], .c (.d (.int .i64 y.2))]) [] := by
  have hv := refValid17 x hx
  rw [h] at hv
  have hw := validN_wf h
  have hN : nextN x r = match effectN x r with
    | some y => (y, 0)
    | none => (.zero, 8) := by rw [nextN, h]; rfl
  have g1 : (r.kind = 1) = False := by simp [hk]
  have g2 : (r.kind = 2) = True := by simp [hk]
  have g3 : (r.kind = 3) = False := by simp [hk]
  have g4 : (r.kind = 4) = False := by simp [hk]
  have g5 : (r.kind = 5) = False := by simp [hk]
  have b1 : r.plan.steps.length * 24 ≤ mostBytes := by have := hr.1; simp only [mostBytes]; omega
  have b2 : (r.plan.steps.length : Int) ≤ 70368744177664 := by have := hr.1; omega
  refine Gives.of_w TryEnv Try.func14 (by decide) TryL14_ok Try.ntmps14 (rs := [.cell 4 28, .tmp 5]) rfl (by simp) [] (by decide) ?_; rw [TryL14]
  repeat' first
    | simp -implicitDefEqProofs only [go_sem, ↓reduceIte, Nat.reduceEqDiff, Nat.reduceAdd, Nat.reduceMul, Nat.reduceSub, Nat.reduceLeDiff, Nat.reduceLT, Nat.reducePow, reduceCtorEq, Int.reduceToNat, Int.reduceLT, Int.reduceLE, Int.reduceEq, Int.reduceAdd, Int.reduceSub, Int.reduceMul, Int.reduceNeg, Int.reduceTMod, Int.reduceTDiv, List.replicate_zero, List.replicate_succ]
    | (refine wCall_intro hv ?_ ?_ ?_; rfl; decide)
  refine wCall_intro (own12R x hx) ?_ ?_ ?_
  · rfl
  · exact Nat.le_of_ble_eq_true rfl
  repeat' first
    | simp -implicitDefEqProofs only [go_sem, ↓reduceIte, Nat.reduceEqDiff, Nat.reduceAdd, Nat.reduceMul, Nat.reduceSub, Nat.reduceLeDiff, Nat.reduceLT, Nat.reducePow, reduceCtorEq, Int.reduceToNat, Int.reduceLT, Int.reduceLE, Int.reduceEq, Int.reduceAdd, Int.reduceSub, Int.reduceMul, Int.reduceNeg, Int.reduceTMod, Int.reduceTDiv, List.replicate_zero, List.replicate_succ, g1, g2, g3, g4, g5]
    | refine wfork_intro (fun h => ?_) (fun h => ?_)
    | refine Also.mk (by decide) ?_
    | (refine wCall_intro (refReady43 _ _ hx hw) ?_ ?_ ?_; rfl; decide)
    | (rename readyI x r.place = true => hR; obtain ⟨h0, h1⟩ := readyI_place (x := x) (a := r.place) (by rw [hR]; rfl)
       have hg : x.tries[r.place.toNat]? = some (x.tries.getD r.place.toNat .zero) := by rw [getD_of (by omega)]; exact List.getElem?_eq_getElem (by omega)
       simp -implicitDefEqProofs only [go_sem, ↓reduceIte, Nat.reduceEqDiff, Nat.reduceAdd, Nat.reduceMul, Nat.reduceSub, Nat.reduceLeDiff, Nat.reduceLT, Nat.reducePow, reduceCtorEq, Int.reduceToNat, Int.reduceLT, Int.reduceLE, Int.reduceEq, Int.reduceAdd, Int.reduceSub, Int.reduceMul, Int.reduceNeg, Int.reduceTMod, Int.reduceTDiv, List.replicate_zero, List.replicate_succ, h0, h1, trs_get, hg, trs_set])
  all_goals try simp only [Bool.not_eq_true', Bool.not_eq_false', decide_eq_true_eq, decide_eq_false_iff_not] at *
  all_goals first
    | (have he : effectN x r = none := by
         clear hy hN
         (first | (simp [effectN, *]; done) | (have e1 : r.lease < 0 := (by omega); simp [effectN, *]; done))
       rw [hN, he] at hy
       subst hy
       simp [Ex.zero, DLe_self, DLe_nil, trs_nil, stps_nil, afts_nil]
       done)
    | (have he : effectN x r = some (askedN x r) := by
         clear hy hN
         (have e1 : ¬ r.lease < 0 := (by omega); simp [effectN, *]; done)
       rw [hN, he] at hy
       subst hy
       simp [askedN, DLe_self, List.take_of_length_le, trs]
       done)
end Go.Proofs.Ytbdodpippgakjaa

namespace Go.Proofs.Ytbdodpippgakjaa
open Go Go.Vs Go.Proofs
set_option maxRecDepth 20000

set_option maxHeartbeats 4000000 in
theorem refNext14_3 (x : Ex) (r : Rc) (hx : x.small) (hr : r.small) (h : validN x = true) (hk : r.kind = 3) (y : Ex × Int) (hy : y = nextN x r) : Gives Try.prog 14 [.agg [.bool x.run, .bool x.stp, .sl 4 (stps x.plan.steps), .sl 1 (afts x.plan.after), .sl 3 (trs x.tries), .int .i64 x.next], .agg [.int .u8 r.kind, .int .i64 r.place, .int .i64 r.id, .int .i64 r.lease, .int .u8 r.ans, .sl 4 (stps r.plan.steps), .sl 1 (afts r.plan.after)]] (.tup [.agg [.d (.bool y.1.run), .d (.bool y.1.stp), .d (.sl 4 (stps y.1.plan.steps)), .d (.sl 1 (afts y.1.plan.after)), .d (.sl 3 (trs y.1.tries)), .d (.int .i64 y.1.next)], .c (.d (.int .i64 y.2))]) [] := by
  have hv := refValid17 x hx
  rw [h] at hv
  have hw := validN_wf h
  have hN : nextN x r = match effectN x r with
    | some y => (y, 0)
    | none => (.zero, 8) := by rw [nextN, h]; rfl
  have g1 : (r.kind = 1) = False := by simp [hk]
  have g2 : (r.kind = 2) = False := by simp [hk]
  have g3 : (r.kind = 3) = True := by simp [hk]
  have g4 : (r.kind = 4) = False := by simp [hk]
  have g5 : (r.kind = 5) = False := by simp [hk]
  have b1 : r.plan.steps.length * 24 ≤ mostBytes := by have := hr.1; simp only [mostBytes]; omega
  have b2 : (r.plan.steps.length : Int) ≤ 70368744177664 := by have := hr.1; omega
  refine Gives.of_w TryEnv Try.func14 (by decide) TryL14_ok Try.ntmps14 (rs := [.cell 4 28, .tmp 5]) rfl (by simp) [] (by decide) ?_; rw [TryL14]
  repeat' first
    | simp -implicitDefEqProofs only [go_sem, ↓reduceIte, Nat.reduceEqDiff, Nat.reduceAdd, Nat.reduceMul, Nat.reduceSub, Nat.reduceLeDiff, Nat.reduceLT, Nat.reducePow, reduceCtorEq, Int.reduceToNat, Int.reduceLT, Int.reduceLE, Int.reduceEq, Int.reduceAdd, Int.reduceSub, Int.reduceMul, Int.reduceNeg, Int.reduceTMod, Int.reduceTDiv, List.replicate_zero, List.replicate_succ]
    | (refine wCall_intro hv ?_ ?_ ?_; rfl; decide)
  refine wCall_intro (own12R x hx) ?_ ?_ ?_
  · rfl
  · exact Nat.le_of_ble_eq_true rfl
  repeat' first
    | simp -implicitDefEqProofs only [go_sem, ↓reduceIte, Nat.reduceEqDiff, Nat.reduceAdd, Nat.reduceMul, Nat.reduceSub, Nat.reduceLeDiff, Nat.reduceLT, Nat.reducePow, reduceCtorEq, Int.reduceToNat, Int.reduceLT, Int.reduceLE, Int.reduceEq, Int.reduceAdd, Int.reduceSub, Int.reduceMul, Int.reduceNeg, Int.reduceTMod, Int.reduceTDiv, List.replicate_zero, List.replicate_succ, g1, g2, g3, g4, g5]
    | refine wfork_intro (fun h => ?_) (fun h => ?_)
    | refine Also.mk (by decide) ?_
    | (refine wCall_intro (place44 _ _ hx) ?_ ?_ ?_; rfl; decide)
    | (rename decide (0 ≤ placeN x r.id) = true => hR; have h0 := of_decide_eq_true hR; have h1 := placeN_lt (x := x) (id := r.id) (by omega)
       have hg : x.tries[(placeN x r.id).toNat]? = some (x.tries.getD (placeN x r.id).toNat .zero) := by rw [getD_of (by omega)]; exact List.getElem?_eq_getElem (by omega)
       simp -implicitDefEqProofs only [go_sem, ↓reduceIte, Nat.reduceEqDiff, Nat.reduceAdd, Nat.reduceMul, Nat.reduceSub, Nat.reduceLeDiff, Nat.reduceLT, Nat.reducePow, reduceCtorEq, Int.reduceToNat, Int.reduceLT, Int.reduceLE, Int.reduceEq, Int.reduceAdd, Int.reduceSub, Int.reduceMul, Int.reduceNeg, Int.reduceTMod, Int.reduceTDiv, List.replicate_zero, List.replicate_succ, h0, h1, trs_get, hg, trs_set])
  all_goals try simp only [Bool.not_eq_true', Bool.not_eq_false', decide_eq_true_eq, decide_eq_false_iff_not] at *
  all_goals first
    | (have he : effectN x r = none := by
         clear hy hN
         (first | (simp [effectN, *]; done) | (have e1 : placeN x r.id < 0 := (by omega); simp [effectN, *]; done) | (have e1 : r.ans < 1 := (by omega); simp [effectN, *]; done) | (have e1 : 4 < r.ans := (by omega); simp [effectN, *]; done))
       rw [hN, he] at hy
       subst hy
       simp [Ex.zero, DLe_self, DLe_nil, trs_nil, stps_nil, afts_nil]
       done)
    | (have he : effectN x r = some (saidN x (placeN x r.id).toNat r.ans) := by
         clear hy hN
         (have e1 : ¬ placeN x r.id < 0 := (by omega); have e2 : ¬ r.ans < 1 := (by omega); have e3 : ¬ 4 < r.ans := (by omega); simp [effectN, *]; done)
       rw [hN, he] at hy
       subst hy
       (have hd : decide (3 ≤ r.ans) = (decide (r.ans = 3) || decide (r.ans = 4)) := (by rw [Bool.eq_iff_iff]; simp; omega); simp [saidN, saidT, hd, DLe_self, List.take_of_length_le, trs, *])
       done)
end Go.Proofs.Ytbdodpippgakjaa

namespace Go.Proofs.Ytbdodpippgakjaa
open Go Go.Vs Go.Proofs
set_option maxRecDepth 20000

set_option maxHeartbeats 4000000 in
theorem refNext14_4 (x : Ex) (r : Rc) (hx : x.small) (hr : r.small) (h : validN x = true) (hk : r.kind = 4) (y : Ex × Int) (hy : y = nextN x r) : Gives Try.prog 14 [.agg [.bool x.run, .bool x.stp, .sl 4 (stps x.plan.steps), .sl 1 (afts x.plan.after), .sl 3 (trs x.tries), .int .i64 x.next], .agg [.int .u8 r.kind, .int .i64 r.place, .int .i64 r.id, .int .i64 r.lease, .int .u8 r.ans, .sl 4 (stps r.plan.steps), .sl 1 (afts r.plan.after)]] (.tup [.agg [.d (.bool y.1.run), .d (.bool y.1.stp), .d (.sl 4 (stps y.1.plan.steps)), .d (.sl 1 (afts y.1.plan.after)), .d (.sl 3 (trs y.1.tries)), .d (.int .i64 y.1.next)], .c (.d (.int .i64 y.2))]) [] := by
  have hv := refValid17 x hx
  rw [h] at hv
  have hw := validN_wf h
  have hN : nextN x r = match effectN x r with
    | some y => (y, 0)
    | none => (.zero, 8) := by rw [nextN, h]; rfl
  have g1 : (r.kind = 1) = False := by simp [hk]
  have g2 : (r.kind = 2) = False := by simp [hk]
  have g3 : (r.kind = 3) = False := by simp [hk]
  have g4 : (r.kind = 4) = True := by simp [hk]
  have g5 : (r.kind = 5) = False := by simp [hk]
  have b1 : r.plan.steps.length * 24 ≤ mostBytes := by have := hr.1; simp only [mostBytes]; omega
  have b2 : (r.plan.steps.length : Int) ≤ 70368744177664 := by have := hr.1; omega
  refine Gives.of_w TryEnv Try.func14 (by decide) TryL14_ok Try.ntmps14 (rs := [.cell 4 28, .tmp 5]) rfl (by simp) [] (by decide) ?_; rw [TryL14]
  repeat' first
    | simp -implicitDefEqProofs only [go_sem, ↓reduceIte, Nat.reduceEqDiff, Nat.reduceAdd, Nat.reduceMul, Nat.reduceSub, Nat.reduceLeDiff, Nat.reduceLT, Nat.reducePow, reduceCtorEq, Int.reduceToNat, Int.reduceLT, Int.reduceLE, Int.reduceEq, Int.reduceAdd, Int.reduceSub, Int.reduceMul, Int.reduceNeg, Int.reduceTMod, Int.reduceTDiv, List.replicate_zero, List.replicate_succ]
    | (refine wCall_intro hv ?_ ?_ ?_; rfl; decide)
  refine wCall_intro (own12R x hx) ?_ ?_ ?_
  · rfl
  · exact Nat.le_of_ble_eq_true rfl
  repeat' first
    | simp -implicitDefEqProofs only [go_sem, ↓reduceIte, Nat.reduceEqDiff, Nat.reduceAdd, Nat.reduceMul, Nat.reduceSub, Nat.reduceLeDiff, Nat.reduceLT, Nat.reducePow, reduceCtorEq, Int.reduceToNat, Int.reduceLT, Int.reduceLE, Int.reduceEq, Int.reduceAdd, Int.reduceSub, Int.reduceMul, Int.reduceNeg, Int.reduceTMod, Int.reduceTDiv, List.replicate_zero, List.replicate_succ, g1, g2, g3, g4, g5]
    | refine wfork_intro (fun h => ?_) (fun h => ?_)
    | refine Also.mk (by decide) ?_
  all_goals try simp only [Bool.not_eq_true', Bool.not_eq_false', decide_eq_true_eq, decide_eq_false_iff_not] at *
  all_goals first
    | (have he : effectN x r = none := by
         clear hy hN
         simp [effectN, *]
       rw [hN, he] at hy
       subst hy
       simp [Ex.zero, DLe_self, DLe_nil, trs_nil, stps_nil, afts_nil]
       done)
    | (have he : effectN x r = some (Ex.mk x.run true x.plan x.tries x.next) := by
         clear hy hN
         simp [effectN, *]
       rw [hN, he] at hy
       subst hy
       simp [DLe_self, List.take_of_length_le, trs, *]
       done)
end Go.Proofs.Ytbdodpippgakjaa

namespace Go.Proofs.Ytbdodpippgakjaa
open Go Go.Vs Go.Proofs
set_option maxRecDepth 20000

set_option maxHeartbeats 4000000 in
theorem refNext14_5 (x : Ex) (r : Rc) (hx : x.small) (hr : r.small) (h : validN x = true) (hk : r.kind = 5) (y : Ex × Int) (hy : y = nextN x r) : Gives Try.prog 14 [.agg [.bool x.run, .bool x.stp, .sl 4 (stps x.plan.steps), .sl 1 (afts x.plan.after), .sl 3 (trs x.tries), .int .i64 x.next], .agg [.int .u8 r.kind, .int .i64 r.place, .int .i64 r.id, .int .i64 r.lease, .int .u8 r.ans, .sl 4 (stps r.plan.steps), .sl 1 (afts r.plan.after)]] (.tup [.agg [.d (.bool y.1.run), .d (.bool y.1.stp), .d (.sl 4 (stps y.1.plan.steps)), .d (.sl 1 (afts y.1.plan.after)), .d (.sl 3 (trs y.1.tries)), .d (.int .i64 y.1.next)], .c (.d (.int .i64 y.2))]) [] := by
  have hv := refValid17 x hx
  rw [h] at hv
  have hw := validN_wf h
  have hN : nextN x r = match effectN x r with
    | some y => (y, 0)
    | none => (.zero, 8) := by rw [nextN, h]; rfl
  have g1 : (r.kind = 1) = False := by simp [hk]
  have g2 : (r.kind = 2) = False := by simp [hk]
  have g3 : (r.kind = 3) = False := by simp [hk]
  have g4 : (r.kind = 4) = False := by simp [hk]
  have g5 : (r.kind = 5) = True := by simp [hk]
  have b1 : r.plan.steps.length * 24 ≤ mostBytes := by have := hr.1; simp only [mostBytes]; omega
  have b2 : (r.plan.steps.length : Int) ≤ 70368744177664 := by have := hr.1; omega
  refine Gives.of_w TryEnv Try.func14 (by decide) TryL14_ok Try.ntmps14 (rs := [.cell 4 28, .tmp 5]) rfl (by simp) [] (by decide) ?_; rw [TryL14]
  repeat' first
    | simp -implicitDefEqProofs only [go_sem, ↓reduceIte, Nat.reduceEqDiff, Nat.reduceAdd, Nat.reduceMul, Nat.reduceSub, Nat.reduceLeDiff, Nat.reduceLT, Nat.reducePow, reduceCtorEq, Int.reduceToNat, Int.reduceLT, Int.reduceLE, Int.reduceEq, Int.reduceAdd, Int.reduceSub, Int.reduceMul, Int.reduceNeg, Int.reduceTMod, Int.reduceTDiv, List.replicate_zero, List.replicate_succ]
    | (refine wCall_intro hv ?_ ?_ ?_; rfl; decide)
  refine wCall_intro (own12R x hx) ?_ ?_ ?_
  · rfl
  · exact Nat.le_of_ble_eq_true rfl
  repeat' first
    | simp -implicitDefEqProofs only [go_sem, ↓reduceIte, Nat.reduceEqDiff, Nat.reduceAdd, Nat.reduceMul, Nat.reduceSub, Nat.reduceLeDiff, Nat.reduceLT, Nat.reducePow, reduceCtorEq, Int.reduceToNat, Int.reduceLT, Int.reduceLE, Int.reduceEq, Int.reduceAdd, Int.reduceSub, Int.reduceMul, Int.reduceNeg, Int.reduceTMod, Int.reduceTDiv, List.replicate_zero, List.replicate_succ, g1, g2, g3, g4, g5]
    | refine wfork_intro (fun h => ?_) (fun h => ?_)
    | refine Also.mk (by decide) ?_
    | (refine wCall_intro (settled45 _ hx) ?_ ?_ ?_; rfl; decide)
    | (refine wCall_intro (show Gives Try.prog 29 [.agg [.bool x.run, .bool x.stp, .sl 4 (stps x.plan.steps), .sl 1 (afts x.plan.after), .sl 3 (trs x.tries), .int .i64 x.next]] (.c (.d (.bool (completeN x)))) [] from refComplete29 _ hx) ?_ ?_ ?_; rfl; decide)
  all_goals try simp only [Bool.not_eq_true', Bool.not_eq_false', decide_eq_true_eq, decide_eq_false_iff_not] at *
  all_goals first
    | (have he : effectN x r = none := by
         clear hy hN
         simp [effectN, *]
       rw [hN, he] at hy
       subst hy
       simp [Ex.zero, DLe_self, DLe_nil, trs_nil, stps_nil, afts_nil]
       done)
    | (have he : effectN x r = some (Ex.mk false x.stp x.plan x.tries x.next) := by
         clear hy hN
         simp [effectN, *]
       rw [hN, he] at hy
       subst hy
       simp [DLe_self, List.take_of_length_le, trs, *]
       done)
end Go.Proofs.Ytbdodpippgakjaa

namespace Go.Proofs.Ytbdodpippgakjaa
open Go Go.Vs Go.Proofs
set_option maxRecDepth 20000

set_option maxHeartbeats 4000000 in
theorem refNext14_6 (x : Ex) (r : Rc) (hx : x.small) (hr : r.small) (h : validN x = true) (hk : ¬ r.kind = 1 ∧ ¬ r.kind = 2 ∧ ¬ r.kind = 3 ∧ ¬ r.kind = 4 ∧ ¬ r.kind = 5) (y : Ex × Int) (hy : y = nextN x r) : Gives Try.prog 14 [.agg [.bool x.run, .bool x.stp, .sl 4 (stps x.plan.steps), .sl 1 (afts x.plan.after), .sl 3 (trs x.tries), .int .i64 x.next], .agg [.int .u8 r.kind, .int .i64 r.place, .int .i64 r.id, .int .i64 r.lease, .int .u8 r.ans, .sl 4 (stps r.plan.steps), .sl 1 (afts r.plan.after)]] (.tup [.agg [.d (.bool y.1.run), .d (.bool y.1.stp), .d (.sl 4 (stps y.1.plan.steps)), .d (.sl 1 (afts y.1.plan.after)), .d (.sl 3 (trs y.1.tries)), .d (.int .i64 y.1.next)], .c (.d (.int .i64 y.2))]) [] := by
  have hv := refValid17 x hx
  rw [h] at hv
  have hw := validN_wf h
  have hN : nextN x r = match effectN x r with
    | some y => (y, 0)
    | none => (.zero, 8) := by rw [nextN, h]; rfl
  have g1 : (r.kind = 1) = False := by simp [hk]
  have g2 : (r.kind = 2) = False := by simp [hk]
  have g3 : (r.kind = 3) = False := by simp [hk]
  have g4 : (r.kind = 4) = False := by simp [hk]
  have g5 : (r.kind = 5) = False := by simp [hk]
  have b1 : r.plan.steps.length * 24 ≤ mostBytes := by have := hr.1; simp only [mostBytes]; omega
  have b2 : (r.plan.steps.length : Int) ≤ 70368744177664 := by have := hr.1; omega
  refine Gives.of_w TryEnv Try.func14 (by decide) TryL14_ok Try.ntmps14 (rs := [.cell 4 28, .tmp 5]) rfl (by simp) [] (by decide) ?_; rw [TryL14]
  repeat' first
    | simp -implicitDefEqProofs only [go_sem, ↓reduceIte, Nat.reduceEqDiff, Nat.reduceAdd, Nat.reduceMul, Nat.reduceSub, Nat.reduceLeDiff, Nat.reduceLT, Nat.reducePow, reduceCtorEq, Int.reduceToNat, Int.reduceLT, Int.reduceLE, Int.reduceEq, Int.reduceAdd, Int.reduceSub, Int.reduceMul, Int.reduceNeg, Int.reduceTMod, Int.reduceTDiv, List.replicate_zero, List.replicate_succ]
    | (refine wCall_intro hv ?_ ?_ ?_; rfl; decide)
  refine wCall_intro (own12R x hx) ?_ ?_ ?_
  · rfl
  · exact Nat.le_of_ble_eq_true rfl
  repeat' first
    | simp -implicitDefEqProofs only [go_sem, ↓reduceIte, Nat.reduceEqDiff, Nat.reduceAdd, Nat.reduceMul, Nat.reduceSub, Nat.reduceLeDiff, Nat.reduceLT, Nat.reducePow, reduceCtorEq, Int.reduceToNat, Int.reduceLT, Int.reduceLE, Int.reduceEq, Int.reduceAdd, Int.reduceSub, Int.reduceMul, Int.reduceNeg, Int.reduceTMod, Int.reduceTDiv, List.replicate_zero, List.replicate_succ, g1, g2, g3, g4, g5]
    | refine wfork_intro (fun h => ?_) (fun h => ?_)
    | refine Also.mk (by decide) ?_
  all_goals try simp only [Bool.not_eq_true', Bool.not_eq_false', decide_eq_true_eq, decide_eq_false_iff_not] at *
  all_goals first
    | (have he : effectN x r = none := by
         clear hy hN
         simp [effectN, *]
       rw [hN, he] at hy
       subst hy
       simp [Ex.zero, DLe_self, DLe_nil, trs_nil, stps_nil, afts_nil]
       done)
    | (have he : effectN x r = some (x) := by
         clear hy hN
         fail
       rw [hN, he] at hy
       subst hy
       skip
       done)
end Go.Proofs.Ytbdodpippgakjaa

namespace Go.Proofs.Ytbdodpippgakjaa
open Go Go.Vs Go.Proofs

theorem refNext14_no (x : Ex) (r : Rc) (hx : x.small) (h : validN x = false) : Gives Try.prog 14 [.agg [.bool x.run, .bool x.stp, .sl 4 (stps x.plan.steps), .sl 1 (afts x.plan.after), .sl 3 (trs x.tries), .int .i64 x.next], .agg [.int .u8 r.kind, .int .i64 r.place, .int .i64 r.id, .int .i64 r.lease, .int .u8 r.ans, .sl 4 (stps r.plan.steps), .sl 1 (afts r.plan.after)]] (.tup [.agg [.d (.bool Ex.zero.run), .d (.bool Ex.zero.stp), .d (.sl 4 (stps Ex.zero.plan.steps)), .d (.sl 1 (afts Ex.zero.plan.after)), .d (.sl 3 (trs Ex.zero.tries)), .d (.int .i64 Ex.zero.next)], .c (.d (.int .i64 1))]) [] := by
  have hv := refValid17 x hx
  rw [h] at hv
  refine Gives.of_w TryEnv Try.func14 (by decide) TryL14_ok Try.ntmps14 (rs := [.cell 4 28, .tmp 5]) rfl (by simp) [] (by decide) ?_; rw [TryL14]
  repeat' first
    | simp -implicitDefEqProofs only [go_sem, ↓reduceIte, Nat.reduceEqDiff, Nat.reduceAdd, Nat.reduceMul, Nat.reduceSub, Nat.reduceLeDiff, Nat.reduceLT, Nat.reducePow, reduceCtorEq, Int.reduceToNat, Int.reduceLT, Int.reduceLE, Int.reduceEq, Int.reduceAdd, Int.reduceSub, Int.reduceMul, Int.reduceNeg, Int.reduceTMod, Int.reduceTDiv, List.replicate_zero, List.replicate_succ]
    | (refine wCall_intro hv ?_ ?_ ?_; rfl; decide)
  simp [Ex.zero, VLe_tup, VLe_agg, VLe_c, VsLe_nil, VsLe_cons, CsLe_nil, CsLe_cons, CLe_d, CLe_self, DLe_self, DLe_nil, trs_nil, stps_nil, afts_nil]

theorem refNext14 (x : Ex) (r : Rc) (hx : x.small) (hr : r.small) : Gives Try.prog 14 [.agg [.bool x.run, .bool x.stp, .sl 4 (stps x.plan.steps), .sl 1 (afts x.plan.after), .sl 3 (trs x.tries), .int .i64 x.next], .agg [.int .u8 r.kind, .int .i64 r.place, .int .i64 r.id, .int .i64 r.lease, .int .u8 r.ans, .sl 4 (stps r.plan.steps), .sl 1 (afts r.plan.after)]] (.tup [.agg [.d (.bool ((nextN x r).1).run), .d (.bool ((nextN x r).1).stp), .d (.sl 4 (stps ((nextN x r).1).plan.steps)), .d (.sl 1 (afts ((nextN x r).1).plan.after)), .d (.sl 3 (trs ((nextN x r).1).tries)), .d (.int .i64 ((nextN x r).1).next)], .c (.d (.int .i64 (nextN x r).2))]) [] := by
  cases h : validN x with
  | false =>
    have := refNext14_no x r hx h
    have hN : nextN x r = (.zero, 1) := by rw [nextN, h]; rfl
    rw [hN]
    exact this
  | true =>
    by_cases k1 : r.kind = 1
    · exact refNext14_1 x r hx hr h k1 _ rfl
    by_cases k2 : r.kind = 2
    · exact refNext14_2 x r hx hr h k2 _ rfl
    by_cases k3 : r.kind = 3
    · exact refNext14_3 x r hx hr h k3 _ rfl
    by_cases k4 : r.kind = 4
    · exact refNext14_4 x r hx hr h k4 _ rfl
    by_cases k5 : r.kind = 5
    · exact refNext14_5 x r hx hr h k5 _ rfl
    exact refNext14_6 x r hx hr h ⟨k1, k2, k3, k4, k5⟩ _ rfl
end Go.Proofs.Ytbdodpippgakjaa
