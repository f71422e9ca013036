/- This text proves a part of what the claim needs: contracts of functions of the program. No condition. -/
import Derived.Test.YtbdodpippgakjaaXd
import Derived.Test.YtbdodpippgakjaaVsD
set_option linter.unusedSimpArgs false
set_option linter.unusedVariables false

namespace Go.Proofs.Ytbdodpippgakjaa
open Go Go.Vs Go.Proofs

/-! ### Fresh clones -/

theorem flat_stps (l : List Stp) : flatRows (stps l) := by
  intro r hr d hd
  obtain ⟨s, _, rfl⟩ := List.mem_map.1 hr
  simp only [List.mem_cons, List.not_mem_nil, or_false] at hd
  rcases hd with rfl | rfl | rfl | rfl <;> rfl
theorem flat_trs (l : List Tr) : flatRows (trs l) := by
  intro r hr d hd
  obtain ⟨s, _, rfl⟩ := List.mem_map.1 hr
  simp only [List.mem_cons, List.not_mem_nil, or_false] at hd
  rcases hd with rfl | rfl | rfl <;> rfl
theorem flat_nums (l : List Int) : flatRows (nums l) := by
  intro r hr d hd
  obtain ⟨s, _, rfl⟩ := List.mem_map.1 hr
  simp only [List.mem_cons, List.not_mem_nil, or_false] at hd
  subst hd
  rfl

theorem clone58R_slE : Gives Try.prog 58 [.c (.slE 4)] (.c (.ref 0 0 0 0)) [.sl 4 [] false] := by
  refine Gives.of_w TryEnv Try.func58 (by decide) TryL58_ok Try.ntmps58 (rs := [.tmp 2]) rfl (by simp) [12] (by decide) ?_; rw [TryL58]
  simp -implicitDefEqProofs only [go_sem, ↓reduceIte, Nat.reduceEqDiff, Nat.reduceAdd, Nat.reduceMul, Nat.reduceSub, Nat.reduceLeDiff, Nat.reduceLT, Nat.reducePow, reduceCtorEq, Int.reduceToNat, Int.reduceLT, Int.reduceLE, Int.reduceEq, Int.reduceAdd, Int.reduceSub, Int.reduceMul, Int.reduceNeg, Int.reduceTMod, Int.reduceTDiv, List.replicate_zero, List.replicate_succ, List.contains_cons, Option.bind_some, idx1]
theorem clone58R_cons (e : List D) (es : List (List D)) (h : (es.length + 1) * 32 ≤ mostBytes) : Gives Try.prog 58 [.c (.sl 4 (e :: es))] (.c (.ref 0 (es.length + 1) 0 (es.length + 1))) [.sl 4 (e :: es) false] := by
  refine Gives.of_w TryEnv Try.func58 (by decide) TryL58_ok Try.ntmps58 (rs := [.tmp 2]) rfl (by simp) [12] (by decide) ?_; rw [TryL58]
  simp -implicitDefEqProofs only [go_sem, ↓reduceIte, Nat.reduceEqDiff, Nat.reduceAdd, Nat.reduceMul, Nat.reduceSub, Nat.reduceLeDiff, Nat.reduceLT, Nat.reducePow, reduceCtorEq, Int.reduceToNat, Int.reduceLT, Int.reduceLE, Int.reduceEq, Int.reduceAdd, Int.reduceSub, Int.reduceMul, Int.reduceNeg, Int.reduceTMod, Int.reduceTDiv, List.replicate_zero, List.replicate_succ, h, List.contains_cons, Option.bind_some, idx1]
theorem clone58R (l : List Stp) (h : l.length ≤ 1000000) : Gives Try.prog 58 [.c (.sl 4 (stps l))] (.c (.ref 0 (stps l).length 0 (stps l).length)) [.sl 4 (stps l) false] := by
  cases l with
  | nil => exact Gives.empty (clone58_nil.nilRef 4) clone58R_slE
  | cons s l => exact clone58R_cons _ (stps l) (by simp only [stps_length, mostBytes, List.length_cons] at *; omega)
theorem clone59R_slE : Gives Try.prog 59 [.c (.slE 1)] (.c (.ref 0 0 0 0)) [.sl 1 [] false] := by
  refine Gives.of_w TryEnv Try.func59 (by decide) TryL59_ok Try.ntmps59 (rs := [.tmp 2]) rfl (by simp) [12] (by decide) ?_; rw [TryL59]
  simp -implicitDefEqProofs only [go_sem, ↓reduceIte, Nat.reduceEqDiff, Nat.reduceAdd, Nat.reduceMul, Nat.reduceSub, Nat.reduceLeDiff, Nat.reduceLT, Nat.reducePow, reduceCtorEq, Int.reduceToNat, Int.reduceLT, Int.reduceLE, Int.reduceEq, Int.reduceAdd, Int.reduceSub, Int.reduceMul, Int.reduceNeg, Int.reduceTMod, Int.reduceTDiv, List.replicate_zero, List.replicate_succ, List.contains_cons, Option.bind_some, idx1]
theorem clone59R_cons (e : List D) (es : List (List D)) (h : (es.length + 1) * 8 ≤ mostBytes) : Gives Try.prog 59 [.c (.sl 1 (e :: es))] (.c (.ref 0 (es.length + 1) 0 (es.length + 1))) [.sl 1 (e :: es) false] := by
  refine Gives.of_w TryEnv Try.func59 (by decide) TryL59_ok Try.ntmps59 (rs := [.tmp 2]) rfl (by simp) [12] (by decide) ?_; rw [TryL59]
  simp -implicitDefEqProofs only [go_sem, ↓reduceIte, Nat.reduceEqDiff, Nat.reduceAdd, Nat.reduceMul, Nat.reduceSub, Nat.reduceLeDiff, Nat.reduceLT, Nat.reducePow, reduceCtorEq, Int.reduceToNat, Int.reduceLT, Int.reduceLE, Int.reduceEq, Int.reduceAdd, Int.reduceSub, Int.reduceMul, Int.reduceNeg, Int.reduceTMod, Int.reduceTDiv, List.replicate_zero, List.replicate_succ, h, List.contains_cons, Option.bind_some, idx1]
theorem clone59R (l : List Int) (h : l.length ≤ 1000000) : Gives Try.prog 59 [.c (.sl 1 (nums l))] (.c (.ref 0 (nums l).length 0 (nums l).length)) [.sl 1 (nums l) false] := by
  cases l with
  | nil => exact Gives.empty (clone59_nil.nilRef 1) clone59R_slE
  | cons s l => exact clone59R_cons _ (nums l) (by simp only [nums, List.length_map, mostBytes, List.length_cons] at *; omega)
theorem clone58F (l : List Stp) (h : l.length ≤ 1000000) : GivesF Try.prog 58 [.c (.sl 4 (stps l))] (.c (.d (.sl 4 (stps l)))) [] := .frz (flat_stps l) (clone58R l h)
theorem clone59F (l : List Int) (h : l.length ≤ 1000000) : GivesF Try.prog 59 [.c (.sl 1 (nums l))] (.c (.d (.sl 1 (nums l)))) [] := .frz (flat_nums l) (clone59R l h)
theorem clone41F (l : List Tr) (h : l.length ≤ 1000000) : GivesF Try.prog 41 [.c (.sl 3 (trs l))] (.c (.ref 0 l.length 0 l.length)) [.sl 3 (trs l) false] := by
  have h1 := clone41R l h
  rw [← trs_length l] at h1 ⊢
  exact .keep (flat_trs l) h1

theorem own40F (p : Pl) (hp : p.small) : GivesF Try.prog 40 [.agg [.sl 4 (stps p.steps), .sl 1 (afts p.after)]] (.agg [.d (.sl 4 (stps p.steps)), .d (.sl 1 (afts p.after))]) [] := by
  obtain ⟨h1, h2, h3⟩ := hp
  refine GivesF.of_w TryEnv Try.func40 (by decide) TryL40_ok Try.ntmps40 (rs := [.cell 2 25]) rfl (by simp) [] (by decide) ?_; rw [TryL40]
  repeat' first
    | simp -implicitDefEqProofs only [go_sem, ↓reduceIte, Nat.reduceEqDiff, Nat.reduceAdd, Nat.reduceMul, Nat.reduceSub, Nat.reduceLeDiff, Nat.reduceLT, Nat.reducePow, reduceCtorEq, Int.reduceToNat, Int.reduceLT, Int.reduceLE, Int.reduceEq, Int.reduceAdd, Int.reduceSub, Int.reduceMul, Int.reduceNeg, Int.reduceTMod, Int.reduceTDiv, List.replicate_zero, List.replicate_succ]
    | refine wCd_lend ?_
    | (refine wCall_fresh (clone58F _ ?_) ?_ ?_; omega; decide)
  refine wT_wk (Wk.cellNil 1 1 (b := 24) rfl rfl) ?_
  simp -implicitDefEqProofs only [go_sem, ↓reduceIte, Nat.reduceEqDiff, Nat.reduceAdd, Nat.reduceMul, Nat.reduceSub, Nat.reduceLeDiff, Nat.reduceLT, Nat.reducePow, reduceCtorEq, Int.reduceToNat, Int.reduceLT, Int.reduceLE, Int.reduceEq, Int.reduceAdd, Int.reduceSub, Int.reduceMul, Int.reduceNeg, Int.reduceTMod, Int.reduceTDiv, List.replicate_zero, List.replicate_succ, List.set_cons_succ, List.set_cons_zero]
  refine wT_loop (fun k : { k : Nat // k ≤ p.after.length } => ⟨[(2, .c (.ptr 4 0)), (3, .c (.ptr 24 0)), (11, .c (.cd false (.sl 1 (afts p.after)))), (12, .c (.d (.int .i64 (p.after.length : Nat)))), (13, .c (.d (.int .i64 (k.1 : Nat))))],
    [(4, .box [.d .nilSl, .d .nilSl]), (24, .box [.d (.sl 4 (stps p.steps)), .ref 48 k.1 0 k.1]), (48, .sl 1 (afts (p.after.take k.1)) false)], 49⟩) (fun k => p.after.length - k.1) ⟨0, Nat.zero_le _⟩ ?_ ?_
  · refine Wk.sub ?_ ?_ (by decide) (by decide) ?_ ?_
    all_goals simp -implicitDefEqProofs only [go_sem, ↓reduceIte, Nat.reduceEqDiff, Nat.reduceAdd, Nat.reduceMul, Nat.reduceSub, Nat.reduceLeDiff, Nat.reduceLT, Nat.reducePow, reduceCtorEq, Int.reduceToNat, Int.reduceLT, Int.reduceLE, Int.reduceEq, Int.reduceAdd, Int.reduceSub, Int.reduceMul, Int.reduceNeg, Int.reduceTMod, Int.reduceTDiv, List.replicate_zero, List.replicate_succ, Int.natCast_zero]
  · rintro ⟨k, hk⟩
    have hlt : (p.after.take k).length = k := by simp; omega
    refine wT_of TryEnv ?_
    simp -implicitDefEqProofs only [go_sem, ↓reduceIte, Nat.reduceEqDiff, Nat.reduceAdd, Nat.reduceMul, Nat.reduceSub, Nat.reduceLeDiff, Nat.reduceLT, Nat.reducePow, reduceCtorEq, Int.reduceToNat, Int.reduceLT, Int.reduceLE, Int.reduceEq, Int.reduceAdd, Int.reduceSub, Int.reduceMul, Int.reduceNeg, Int.reduceTMod, Int.reduceTDiv, List.replicate_zero, List.replicate_succ]
    refine wfork_intro (fun h => ?_) (fun h => ?_)
    · have h : k < p.after.length := by simpa using h
      have hg : p.after[k]? = some p.after[k] := List.getElem?_eq_getElem h
      have hl := h3 _ (List.getElem_mem h)
      have ht : p.after.take (k + 1) = p.after.take k ++ [p.after[k]] := by rw [List.take_add_one, hg]; rfl
      have hk1 : IntKind.i64.wrap ((k : Int) + 1) = ((k + 1 : Nat) : Int) := by rw [wrap64 (by omega) (by omega)]; rfl
      have hb : (k + 1) * 24 ≤ mostBytes := by simp only [mostBytes]; omega
      generalize p.after[k] = x at *
      repeat' first
        | simp -implicitDefEqProofs only [go_sem, ↓reduceIte, Nat.reduceEqDiff, Nat.reduceAdd, Nat.reduceMul, Nat.reduceSub, Nat.reduceLeDiff, Nat.reduceLT, Nat.reducePow, reduceCtorEq, Int.reduceToNat, Int.reduceLT, Int.reduceLE, Int.reduceEq, Int.reduceAdd, Int.reduceSub, Int.reduceMul, Int.reduceNeg, Int.reduceTMod, Int.reduceTDiv, List.replicate_zero, List.replicate_succ, afts_get, hg, Int.toNat_natCast, Int.natCast_nonneg, hlt, hb, hk1, afts_snoc]
        | refine wCd_lend ?_
        | (refine wCall_fresh (clone59F _ ?_) ?_ ?_; omega; decide)
        | refine Also.mk (by decide) ?_
        | apply And.intro
      refine ⟨⟨k + 1, h⟩, Wk.sub ?_ ?_ (by decide) (by decide) ?_ ?_, by simp; omega⟩
      all_goals simp -implicitDefEqProofs only [go_sem, ↓reduceIte, Nat.reduceEqDiff, Nat.reduceAdd, Nat.reduceMul, Nat.reduceSub, Nat.reduceLeDiff, Nat.reduceLT, Nat.reducePow, reduceCtorEq, Int.reduceToNat, Int.reduceLT, Int.reduceLE, Int.reduceEq, Int.reduceAdd, Int.reduceSub, Int.reduceMul, Int.reduceNeg, Int.reduceTMod, Int.reduceTDiv, List.replicate_zero, List.replicate_succ, ht]
    · have h : k = p.after.length := by
        have : ¬ k < p.after.length := by simpa using h
        omega
      subst h
      simp -implicitDefEqProofs only [go_sem, ↓reduceIte, Nat.reduceEqDiff, Nat.reduceAdd, Nat.reduceMul, Nat.reduceSub, Nat.reduceLeDiff, Nat.reduceLT, Nat.reducePow, reduceCtorEq, Int.reduceToNat, Int.reduceLT, Int.reduceLE, Int.reduceEq, Int.reduceAdd, Int.reduceSub, Int.reduceMul, Int.reduceNeg, Int.reduceTMod, Int.reduceTDiv, List.replicate_zero, List.replicate_succ, List.take_length, hlt]
end Go.Proofs.Ytbdodpippgakjaa

namespace Go.Proofs.Ytbdodpippgakjaa
open Go Go.Vs Go.Proofs


theorem eff60L (x : Ex) (r : Rc) (hk : r.kind = 1) (hr : r.small) (B4 : Blk) : Deep Try.prog 60 [.c (.ptr 0 0), .agg [.d (.int .u8 r.kind), .d (.int .i64 r.place), .d (.int .i64 r.id), .d (.int .i64 r.lease), .d (.int .u8 r.ans), .cd false (.sl 4 (stps r.plan.steps)), .cd false (.sl 1 (afts r.plan.after))]] [(0, .box [.d (.bool x.run), .d (.bool x.stp), .d (.sl 4 (stps x.plan.steps)), .d (.sl 1 (afts x.plan.after)), .ref 48 x.tries.length 0 x.tries.length, .d (.int .i64 x.next)]), (4, B4), (8, .box [.d (.bool false), .d (.bool false), .d .nilSl, .d .nilSl, .d .nilSl, .d (.int .i64 0)]), (48, .sl 3 (trs x.tries) false)] 124
    (fun v h k => (effectN x r = none ∧ v = .c (.d (.bool false)) ∧ h = [(8, .box [.d (.bool false), .d (.bool false), .d .nilSl, .d .nilSl, .d .nilSl, .d (.int .i64 0)])] ∧ k = 124) ∨
      (∃ y, effectN x r = some y ∧ v = .c (.d (.bool true)) ∧ h = [(0, .box [.d (.bool y.run), .d (.bool y.stp), .d (.sl 4 (stps y.plan.steps)), .d (.sl 1 (afts y.plan.after)), .ref 216 y.tries.length 0 y.tries.length, .d (.int .i64 y.next)]), (8, .box [.d (.bool false), .d (.bool false), .d .nilSl, .d .nilSl, .d .nilSl, .d (.int .i64 0)]), (216, .sl 3 (trs y.tries) false)] ∧ k = 217)) := by
  refine Deep.of_w TryEnv Try.func60 (by decide) TryL60_ok Try.ntmps60 (rs := [.tmp 4]) rfl (by simp) ?_; rw [TryL60]
  repeat' first
    | simp -implicitDefEqProofs only [go_sem, ↓reduceIte, Nat.reduceEqDiff, Nat.reduceAdd, Nat.reduceMul, Nat.reduceSub, Nat.reduceLeDiff, Nat.reduceLT, Nat.reducePow, reduceCtorEq, Int.reduceToNat, Int.reduceLT, Int.reduceLE, Int.reduceEq, Int.reduceAdd, Int.reduceSub, Int.reduceMul, Int.reduceNeg, Int.reduceTMod, Int.reduceTDiv, List.replicate_zero, List.replicate_succ, Int.toNat_natCast, Int.natCast_nonneg]
    | (refine wCall_intro (ordered18 _ hr) ?_ ?_ ?_; rfl; decide)
    | (refine wCall_fresh (own40F _ hr) ?_ ?_; decide)
    | (simp only [mostBytes, Int.toNat_natCast]; have := hr.1; omega)
    | (have := hr.1; omega)
    | refine wCd_lend ?_
    | refine wfork_intro (fun h => ?_) (fun h => ?_)
    | refine Also.mk (by decide) ?_
    | apply And.intro
  all_goals first
    | (have hn : effectN x r = none := by simp [effectN, *]
       refine wEnd_intro (.refl _) (Wk.sub (tm' := [(0, .c (.d (.bool false)))]) (hp' := [(8, .box [.d (.bool false), .d (.bool false), .d .nilSl, .d .nilSl, .d .nilSl, .d (.int .i64 0)])]) (nx' := 124) ?_ ?_ (by decide) (by decide) ?_ ?_) (.inl ⟨hn, rfl, rfl, rfl⟩)
       all_goals simp -implicitDefEqProofs only [go_sem, ↓reduceIte, Nat.reduceEqDiff, Nat.reduceAdd, Nat.reduceMul, Nat.reduceSub, Nat.reduceLeDiff, Nat.reduceLT, Nat.reducePow, reduceCtorEq, Int.reduceToNat, Int.reduceLT, Int.reduceLE, Int.reduceEq, Int.reduceAdd, Int.reduceSub, Int.reduceMul, Int.reduceNeg, Int.reduceTMod, Int.reduceTDiv, List.replicate_zero, List.replicate_succ]
       done)
    | (have hy : effectN x r = some (begunN x r.plan) := by simp [effectN, *]
       refine wEnd_intro (.refl _) (Wk.sub (tm' := [(0, .c (.d (.bool true)))]) (hp' := [(0, .box [.d (.bool (begunN x r.plan).run), .d (.bool (begunN x r.plan).stp), .d (.sl 4 (stps (begunN x r.plan).plan.steps)), .d (.sl 1 (afts (begunN x r.plan).plan.after)), .ref 216 (begunN x r.plan).tries.length 0 (begunN x r.plan).tries.length, .d (.int .i64 (begunN x r.plan).next)]), (8, .box [.d (.bool false), .d (.bool false), .d .nilSl, .d .nilSl, .d .nilSl, .d (.int .i64 0)]), (216, .sl 3 (trs (begunN x r.plan).tries) false)]) (nx' := 217) ?_ ?_ (by decide) (by decide) ?_ ?_) (.inr ⟨_, hy, rfl, rfl, rfl⟩)
       all_goals simp -implicitDefEqProofs only [go_sem, ↓reduceIte, Nat.reduceEqDiff, Nat.reduceAdd, Nat.reduceMul, Nat.reduceSub, Nat.reduceLeDiff, Nat.reduceLT, Nat.reducePow, reduceCtorEq, Int.reduceToNat, Int.reduceLT, Int.reduceLE, Int.reduceEq, Int.reduceAdd, Int.reduceSub, Int.reduceMul, Int.reduceNeg, Int.reduceTMod, Int.reduceTDiv, List.replicate_zero, List.replicate_succ, begunN, askedN, saidN, saidT, List.length_set, List.length_replicate, trs_start, Int.toNat_natCast]
       all_goals simp only [*, Bool.true_or, Bool.false_or]
       done)

theorem eff65L (x : Ex) (r : Rc) (hk : r.kind = 4) (B4 : Blk) : Deep Try.prog 65 [.c (.ptr 0 0), .agg [.d (.int .u8 r.kind), .d (.int .i64 r.place), .d (.int .i64 r.id), .d (.int .i64 r.lease), .d (.int .u8 r.ans), .cd false (.sl 4 (stps r.plan.steps)), .cd false (.sl 1 (afts r.plan.after))]] [(0, .box [.d (.bool x.run), .d (.bool x.stp), .d (.sl 4 (stps x.plan.steps)), .d (.sl 1 (afts x.plan.after)), .ref 48 x.tries.length 0 x.tries.length, .d (.int .i64 x.next)]), (4, B4), (8, .box [.d (.bool false), .d (.bool false), .d .nilSl, .d .nilSl, .d .nilSl, .d (.int .i64 0)]), (48, .sl 3 (trs x.tries) false)] 124
    (fun v h k => (effectN x r = none ∧ v = .c (.d (.bool false)) ∧ h = [(8, .box [.d (.bool false), .d (.bool false), .d .nilSl, .d .nilSl, .d .nilSl, .d (.int .i64 0)])] ∧ k = 124) ∨
      (∃ y, effectN x r = some y ∧ v = .c (.d (.bool true)) ∧ h = [(0, .box [.d (.bool y.run), .d (.bool y.stp), .d (.sl 4 (stps y.plan.steps)), .d (.sl 1 (afts y.plan.after)), .ref 48 y.tries.length 0 y.tries.length, .d (.int .i64 y.next)]), (8, .box [.d (.bool false), .d (.bool false), .d .nilSl, .d .nilSl, .d .nilSl, .d (.int .i64 0)]), (48, .sl 3 (trs y.tries) false)] ∧ k = 124)) := by
  refine Deep.of_w TryEnv Try.func65 (by decide) TryL65_ok Try.ntmps65 (rs := [.tmp 4]) rfl (by simp) ?_; rw [TryL65]
  repeat' first
    | simp -implicitDefEqProofs only [go_sem, ↓reduceIte, Nat.reduceEqDiff, Nat.reduceAdd, Nat.reduceMul, Nat.reduceSub, Nat.reduceLeDiff, Nat.reduceLT, Nat.reducePow, reduceCtorEq, Int.reduceToNat, Int.reduceLT, Int.reduceLE, Int.reduceEq, Int.reduceAdd, Int.reduceSub, Int.reduceMul, Int.reduceNeg, Int.reduceTMod, Int.reduceTDiv, List.replicate_zero, List.replicate_succ]
    | fail
    | refine wCd_lend ?_
    | refine wfork_intro (fun h => ?_) (fun h => ?_)
    | refine Also.mk (by decide) ?_
    | apply And.intro
  all_goals first
    | (have hn : effectN x r = none := by simp [effectN, *]
       refine wEnd_intro (.refl _) (Wk.sub (tm' := [(0, .c (.d (.bool false)))]) (hp' := [(8, .box [.d (.bool false), .d (.bool false), .d .nilSl, .d .nilSl, .d .nilSl, .d (.int .i64 0)])]) (nx' := 124) ?_ ?_ (by decide) (by decide) ?_ ?_) (.inl ⟨hn, rfl, rfl, rfl⟩)
       all_goals simp -implicitDefEqProofs only [go_sem, ↓reduceIte, Nat.reduceEqDiff, Nat.reduceAdd, Nat.reduceMul, Nat.reduceSub, Nat.reduceLeDiff, Nat.reduceLT, Nat.reducePow, reduceCtorEq, Int.reduceToNat, Int.reduceLT, Int.reduceLE, Int.reduceEq, Int.reduceAdd, Int.reduceSub, Int.reduceMul, Int.reduceNeg, Int.reduceTMod, Int.reduceTDiv, List.replicate_zero, List.replicate_succ]
       done)
    | (have hy : effectN x r = some (Ex.mk x.run true x.plan x.tries x.next) := by simp [effectN, *]
       refine wEnd_intro (.refl _) (Wk.sub (tm' := [(0, .c (.d (.bool true)))]) (hp' := [(0, .box [.d (.bool (Ex.mk x.run true x.plan x.tries x.next).run), .d (.bool (Ex.mk x.run true x.plan x.tries x.next).stp), .d (.sl 4 (stps (Ex.mk x.run true x.plan x.tries x.next).plan.steps)), .d (.sl 1 (afts (Ex.mk x.run true x.plan x.tries x.next).plan.after)), .ref 48 (Ex.mk x.run true x.plan x.tries x.next).tries.length 0 (Ex.mk x.run true x.plan x.tries x.next).tries.length, .d (.int .i64 (Ex.mk x.run true x.plan x.tries x.next).next)]), (8, .box [.d (.bool false), .d (.bool false), .d .nilSl, .d .nilSl, .d .nilSl, .d (.int .i64 0)]), (48, .sl 3 (trs (Ex.mk x.run true x.plan x.tries x.next).tries) false)]) (nx' := 124) ?_ ?_ (by decide) (by decide) ?_ ?_) (.inr ⟨_, hy, rfl, rfl, rfl⟩)
       all_goals simp -implicitDefEqProofs only [go_sem, ↓reduceIte, Nat.reduceEqDiff, Nat.reduceAdd, Nat.reduceMul, Nat.reduceSub, Nat.reduceLeDiff, Nat.reduceLT, Nat.reducePow, reduceCtorEq, Int.reduceToNat, Int.reduceLT, Int.reduceLE, Int.reduceEq, Int.reduceAdd, Int.reduceSub, Int.reduceMul, Int.reduceNeg, Int.reduceTMod, Int.reduceTDiv, List.replicate_zero, List.replicate_succ, begunN, askedN, saidN, saidT, List.length_set, List.length_replicate, trs_start, Int.toNat_natCast]
       all_goals simp only [*, Bool.true_or, Bool.false_or]
       done)

theorem eff61L (x : Ex) (r : Rc) (hk : r.kind = 2) (hx : x.small) (hw : x.wf) (B4 : Blk) : Deep Try.prog 61 [.c (.ptr 0 0), .agg [.d (.int .u8 r.kind), .d (.int .i64 r.place), .d (.int .i64 r.id), .d (.int .i64 r.lease), .d (.int .u8 r.ans), .cd false (.sl 4 (stps r.plan.steps)), .cd false (.sl 1 (afts r.plan.after))]] [(0, .box [.d (.bool x.run), .d (.bool x.stp), .d (.sl 4 (stps x.plan.steps)), .d (.sl 1 (afts x.plan.after)), .ref 48 x.tries.length 0 x.tries.length, .d (.int .i64 x.next)]), (4, B4), (8, .box [.d (.bool false), .d (.bool false), .d .nilSl, .d .nilSl, .d .nilSl, .d (.int .i64 0)]), (48, .sl 3 (trs x.tries) false)] 124
    (fun v h k => (effectN x r = none ∧ v = .c (.d (.bool false)) ∧ h = [(8, .box [.d (.bool false), .d (.bool false), .d .nilSl, .d .nilSl, .d .nilSl, .d (.int .i64 0)])] ∧ k = 124) ∨
      (∃ y, effectN x r = some y ∧ v = .c (.d (.bool true)) ∧ h = [(0, .box [.d (.bool y.run), .d (.bool y.stp), .d (.sl 4 (stps y.plan.steps)), .d (.sl 1 (afts y.plan.after)), .ref 48 y.tries.length 0 y.tries.length, .d (.int .i64 y.next)]), (8, .box [.d (.bool false), .d (.bool false), .d .nilSl, .d .nilSl, .d .nilSl, .d (.int .i64 0)]), (48, .sl 3 (trs y.tries) false)] ∧ k = 124)) := by
  refine Deep.of_w TryEnv Try.func61 (by decide) TryL61_ok Try.ntmps61 (rs := [.tmp 4]) rfl (by simp) ?_; rw [TryL61]
  repeat' first
    | simp -implicitDefEqProofs only [go_sem, ↓reduceIte, Nat.reduceEqDiff, Nat.reduceAdd, Nat.reduceMul, Nat.reduceSub, Nat.reduceLeDiff, Nat.reduceLT, Nat.reducePow, reduceCtorEq, Int.reduceToNat, Int.reduceLT, Int.reduceLE, Int.reduceEq, Int.reduceAdd, Int.reduceSub, Int.reduceMul, Int.reduceNeg, Int.reduceTMod, Int.reduceTDiv, List.replicate_zero, List.replicate_succ]
    | (refine wCall_intro (ready51 _ _ hx hw) ?_ ?_ ?_; rfl; decide)
    | (rename (!readyI x r.place) = false => hR; obtain ⟨h0, h1⟩ := readyI_place hR
       have hg : x.tries[r.place.toNat]? = some (x.tries.getD r.place.toNat .zero) := by rw [getD_of (by omega)]; exact List.getElem?_eq_getElem (by omega)
       simp -implicitDefEqProofs only [go_sem, ↓reduceIte, Nat.reduceEqDiff, Nat.reduceAdd, Nat.reduceMul, Nat.reduceSub, Nat.reduceLeDiff, Nat.reduceLT, Nat.reducePow, reduceCtorEq, Int.reduceToNat, Int.reduceLT, Int.reduceLE, Int.reduceEq, Int.reduceAdd, Int.reduceSub, Int.reduceMul, Int.reduceNeg, Int.reduceTMod, Int.reduceTDiv, List.replicate_zero, List.replicate_succ, h0, h1, trs_get, hg, trs_set])
    | refine wCd_lend ?_
    | refine wfork_intro (fun h => ?_) (fun h => ?_)
    | refine Also.mk (by decide) ?_
    | apply And.intro
  all_goals first
    | (have hn : effectN x r = none := by simp [effectN, *]
       refine wEnd_intro (.refl _) (Wk.sub (tm' := [(0, .c (.d (.bool false)))]) (hp' := [(8, .box [.d (.bool false), .d (.bool false), .d .nilSl, .d .nilSl, .d .nilSl, .d (.int .i64 0)])]) (nx' := 124) ?_ ?_ (by decide) (by decide) ?_ ?_) (.inl ⟨hn, rfl, rfl, rfl⟩)
       all_goals simp -implicitDefEqProofs only [go_sem, ↓reduceIte, Nat.reduceEqDiff, Nat.reduceAdd, Nat.reduceMul, Nat.reduceSub, Nat.reduceLeDiff, Nat.reduceLT, Nat.reducePow, reduceCtorEq, Int.reduceToNat, Int.reduceLT, Int.reduceLE, Int.reduceEq, Int.reduceAdd, Int.reduceSub, Int.reduceMul, Int.reduceNeg, Int.reduceTMod, Int.reduceTDiv, List.replicate_zero, List.replicate_succ]
       done)
    | (have hy : effectN x r = some (askedN x r) := by simp [effectN, *]
       refine wEnd_intro (.refl _) (Wk.sub (tm' := [(0, .c (.d (.bool true)))]) (hp' := [(0, .box [.d (.bool (askedN x r).run), .d (.bool (askedN x r).stp), .d (.sl 4 (stps (askedN x r).plan.steps)), .d (.sl 1 (afts (askedN x r).plan.after)), .ref 48 (askedN x r).tries.length 0 (askedN x r).tries.length, .d (.int .i64 (askedN x r).next)]), (8, .box [.d (.bool false), .d (.bool false), .d .nilSl, .d .nilSl, .d .nilSl, .d (.int .i64 0)]), (48, .sl 3 (trs (askedN x r).tries) false)]) (nx' := 124) ?_ ?_ (by decide) (by decide) ?_ ?_) (.inr ⟨_, hy, rfl, rfl, rfl⟩)
       all_goals simp -implicitDefEqProofs only [go_sem, ↓reduceIte, Nat.reduceEqDiff, Nat.reduceAdd, Nat.reduceMul, Nat.reduceSub, Nat.reduceLeDiff, Nat.reduceLT, Nat.reducePow, reduceCtorEq, Int.reduceToNat, Int.reduceLT, Int.reduceLE, Int.reduceEq, Int.reduceAdd, Int.reduceSub, Int.reduceMul, Int.reduceNeg, Int.reduceTMod, Int.reduceTDiv, List.replicate_zero, List.replicate_succ, begunN, askedN, saidN, saidT, List.length_set, List.length_replicate, trs_start, Int.toNat_natCast]
       all_goals simp only [*, Bool.true_or, Bool.false_or]
       done)

theorem eff62L (x : Ex) (r : Rc) (hk : r.kind = 3) (hx : x.small) (B4 : Blk) : Deep Try.prog 62 [.c (.ptr 0 0), .agg [.d (.int .u8 r.kind), .d (.int .i64 r.place), .d (.int .i64 r.id), .d (.int .i64 r.lease), .d (.int .u8 r.ans), .cd false (.sl 4 (stps r.plan.steps)), .cd false (.sl 1 (afts r.plan.after))]] [(0, .box [.d (.bool x.run), .d (.bool x.stp), .d (.sl 4 (stps x.plan.steps)), .d (.sl 1 (afts x.plan.after)), .ref 48 x.tries.length 0 x.tries.length, .d (.int .i64 x.next)]), (4, B4), (8, .box [.d (.bool false), .d (.bool false), .d .nilSl, .d .nilSl, .d .nilSl, .d (.int .i64 0)]), (48, .sl 3 (trs x.tries) false)] 124
    (fun v h k => (effectN x r = none ∧ v = .c (.d (.bool false)) ∧ h = [(8, .box [.d (.bool false), .d (.bool false), .d .nilSl, .d .nilSl, .d .nilSl, .d (.int .i64 0)])] ∧ k = 124) ∨
      (∃ y, effectN x r = some y ∧ v = .c (.d (.bool true)) ∧ h = [(0, .box [.d (.bool y.run), .d (.bool y.stp), .d (.sl 4 (stps y.plan.steps)), .d (.sl 1 (afts y.plan.after)), .ref 48 y.tries.length 0 y.tries.length, .d (.int .i64 y.next)]), (8, .box [.d (.bool false), .d (.bool false), .d .nilSl, .d .nilSl, .d .nilSl, .d (.int .i64 0)]), (48, .sl 3 (trs y.tries) false)] ∧ k = 124)) := by
  refine Deep.of_w TryEnv Try.func62 (by decide) TryL62_ok Try.ntmps62 (rs := [.tmp 4]) rfl (by simp) ?_; rw [TryL62]
  repeat' first
    | simp -implicitDefEqProofs only [go_sem, ↓reduceIte, Nat.reduceEqDiff, Nat.reduceAdd, Nat.reduceMul, Nat.reduceSub, Nat.reduceLeDiff, Nat.reduceLT, Nat.reducePow, reduceCtorEq, Int.reduceToNat, Int.reduceLT, Int.reduceLE, Int.reduceEq, Int.reduceAdd, Int.reduceSub, Int.reduceMul, Int.reduceNeg, Int.reduceTMod, Int.reduceTDiv, List.replicate_zero, List.replicate_succ]
    | refine wLend_lend ?_
    | (refine wCall_intro (place63 x r hx) ?_ ?_ ?_; rfl; decide)
    | (rename decide (placeN x r.id < 0) = false => hR; have h1 := placeN_lt (of_decide_eq_false hR); have h0 : 0 ≤ placeN x r.id := by have := of_decide_eq_false hR; omega
       have hg : x.tries[(placeN x r.id).toNat]? = some (x.tries.getD (placeN x r.id).toNat .zero) := by rw [getD_of (by omega)]; exact List.getElem?_eq_getElem (by omega)
       simp -implicitDefEqProofs only [go_sem, ↓reduceIte, Nat.reduceEqDiff, Nat.reduceAdd, Nat.reduceMul, Nat.reduceSub, Nat.reduceLeDiff, Nat.reduceLT, Nat.reducePow, reduceCtorEq, Int.reduceToNat, Int.reduceLT, Int.reduceLE, Int.reduceEq, Int.reduceAdd, Int.reduceSub, Int.reduceMul, Int.reduceNeg, Int.reduceTMod, Int.reduceTDiv, List.replicate_zero, List.replicate_succ, h0, h1, trs_get, hg, trs_set])
    | refine wCd_lend ?_
    | refine wfork_intro (fun h => ?_) (fun h => ?_)
    | refine Also.mk (by decide) ?_
    | apply And.intro
  all_goals first
    | (have hn : effectN x r = none := by simp [effectN, *]
       refine wEnd_intro (.refl _) (Wk.sub (tm' := [(0, .c (.d (.bool false)))]) (hp' := [(8, .box [.d (.bool false), .d (.bool false), .d .nilSl, .d .nilSl, .d .nilSl, .d (.int .i64 0)])]) (nx' := 124) ?_ ?_ (by decide) (by decide) ?_ ?_) (.inl ⟨hn, rfl, rfl, rfl⟩)
       all_goals simp -implicitDefEqProofs only [go_sem, ↓reduceIte, Nat.reduceEqDiff, Nat.reduceAdd, Nat.reduceMul, Nat.reduceSub, Nat.reduceLeDiff, Nat.reduceLT, Nat.reducePow, reduceCtorEq, Int.reduceToNat, Int.reduceLT, Int.reduceLE, Int.reduceEq, Int.reduceAdd, Int.reduceSub, Int.reduceMul, Int.reduceNeg, Int.reduceTMod, Int.reduceTDiv, List.replicate_zero, List.replicate_succ]
       done)
    | (have hy : effectN x r = some (saidN x (placeN x r.id).toNat r.ans) := by simp [effectN, *]
       refine wEnd_intro (.refl _) (Wk.sub (tm' := [(0, .c (.d (.bool true)))]) (hp' := [(0, .box [.d (.bool (saidN x (placeN x r.id).toNat r.ans).run), .d (.bool (saidN x (placeN x r.id).toNat r.ans).stp), .d (.sl 4 (stps (saidN x (placeN x r.id).toNat r.ans).plan.steps)), .d (.sl 1 (afts (saidN x (placeN x r.id).toNat r.ans).plan.after)), .ref 48 (saidN x (placeN x r.id).toNat r.ans).tries.length 0 (saidN x (placeN x r.id).toNat r.ans).tries.length, .d (.int .i64 (saidN x (placeN x r.id).toNat r.ans).next)]), (8, .box [.d (.bool false), .d (.bool false), .d .nilSl, .d .nilSl, .d .nilSl, .d (.int .i64 0)]), (48, .sl 3 (trs (saidN x (placeN x r.id).toNat r.ans).tries) false)]) (nx' := 124) ?_ ?_ (by decide) (by decide) ?_ ?_) (.inr ⟨_, hy, rfl, rfl, rfl⟩)
       all_goals simp -implicitDefEqProofs only [go_sem, ↓reduceIte, Nat.reduceEqDiff, Nat.reduceAdd, Nat.reduceMul, Nat.reduceSub, Nat.reduceLeDiff, Nat.reduceLT, Nat.reducePow, reduceCtorEq, Int.reduceToNat, Int.reduceLT, Int.reduceLE, Int.reduceEq, Int.reduceAdd, Int.reduceSub, Int.reduceMul, Int.reduceNeg, Int.reduceTMod, Int.reduceTDiv, List.replicate_zero, List.replicate_succ, begunN, askedN, saidN, saidT, List.length_set, List.length_replicate, trs_start, Int.toNat_natCast]
       all_goals simp only [*, Bool.true_or, Bool.false_or]
       done)

theorem eff66L (x : Ex) (r : Rc) (hk : r.kind = 5) (hx : x.small) (B4 : Blk) : Deep Try.prog 66 [.c (.ptr 0 0), .agg [.d (.int .u8 r.kind), .d (.int .i64 r.place), .d (.int .i64 r.id), .d (.int .i64 r.lease), .d (.int .u8 r.ans), .cd false (.sl 4 (stps r.plan.steps)), .cd false (.sl 1 (afts r.plan.after))]] [(0, .box [.d (.bool x.run), .d (.bool x.stp), .d (.sl 4 (stps x.plan.steps)), .d (.sl 1 (afts x.plan.after)), .ref 48 x.tries.length 0 x.tries.length, .d (.int .i64 x.next)]), (4, B4), (8, .box [.d (.bool false), .d (.bool false), .d .nilSl, .d .nilSl, .d .nilSl, .d (.int .i64 0)]), (48, .sl 3 (trs x.tries) false)] 124
    (fun v h k => (effectN x r = none ∧ v = .c (.d (.bool false)) ∧ h = [(8, .box [.d (.bool false), .d (.bool false), .d .nilSl, .d .nilSl, .d .nilSl, .d (.int .i64 0)])] ∧ k = 124) ∨
      (∃ y, effectN x r = some y ∧ v = .c (.d (.bool true)) ∧ h = [(0, .box [.d (.bool y.run), .d (.bool y.stp), .d (.sl 4 (stps y.plan.steps)), .d (.sl 1 (afts y.plan.after)), .ref 48 y.tries.length 0 y.tries.length, .d (.int .i64 y.next)]), (8, .box [.d (.bool false), .d (.bool false), .d .nilSl, .d .nilSl, .d .nilSl, .d (.int .i64 0)]), (48, .sl 3 (trs y.tries) false)] ∧ k = 124)) := by
  refine Deep.of_w TryEnv Try.func66 (by decide) TryL66_ok Try.ntmps66 (rs := [.tmp 4]) rfl (by simp) ?_; rw [TryL66]
  repeat' first
    | simp -implicitDefEqProofs only [go_sem, ↓reduceIte, Nat.reduceEqDiff, Nat.reduceAdd, Nat.reduceMul, Nat.reduceSub, Nat.reduceLeDiff, Nat.reduceLT, Nat.reducePow, reduceCtorEq, Int.reduceToNat, Int.reduceLT, Int.reduceLE, Int.reduceEq, Int.reduceAdd, Int.reduceSub, Int.reduceMul, Int.reduceNeg, Int.reduceTMod, Int.reduceTDiv, List.replicate_zero, List.replicate_succ]
    | refine wLend_lend ?_
    | (refine wCall_intro (contains67 _ (by have := hx.2; omega)) ?_ ?_ ?_; rfl; decide)
    | (refine wCall_intro (complete28 x hx) ?_ ?_ ?_; rfl; decide)
    | refine wCd_lend ?_
    | refine wfork_intro (fun h => ?_) (fun h => ?_)
    | refine Also.mk (by decide) ?_
    | apply And.intro
  all_goals first
    | (have hn : effectN x r = none := by simp [effectN, settledN, completeN, *]
       refine wEnd_intro (.refl _) (Wk.sub (tm' := [(0, .c (.d (.bool false)))]) (hp' := [(8, .box [.d (.bool false), .d (.bool false), .d .nilSl, .d .nilSl, .d .nilSl, .d (.int .i64 0)])]) (nx' := 124) ?_ ?_ (by decide) (by decide) ?_ ?_) (.inl ⟨hn, rfl, rfl, rfl⟩)
       all_goals simp -implicitDefEqProofs only [go_sem, ↓reduceIte, Nat.reduceEqDiff, Nat.reduceAdd, Nat.reduceMul, Nat.reduceSub, Nat.reduceLeDiff, Nat.reduceLT, Nat.reducePow, reduceCtorEq, Int.reduceToNat, Int.reduceLT, Int.reduceLE, Int.reduceEq, Int.reduceAdd, Int.reduceSub, Int.reduceMul, Int.reduceNeg, Int.reduceTMod, Int.reduceTDiv, List.replicate_zero, List.replicate_succ]
       done)
    | (have hy : effectN x r = some (Ex.mk false x.stp x.plan x.tries x.next) := by simp [effectN, settledN, completeN, *]
       refine wEnd_intro (.refl _) (Wk.sub (tm' := [(0, .c (.d (.bool true)))]) (hp' := [(0, .box [.d (.bool (Ex.mk false x.stp x.plan x.tries x.next).run), .d (.bool (Ex.mk false x.stp x.plan x.tries x.next).stp), .d (.sl 4 (stps (Ex.mk false x.stp x.plan x.tries x.next).plan.steps)), .d (.sl 1 (afts (Ex.mk false x.stp x.plan x.tries x.next).plan.after)), .ref 48 (Ex.mk false x.stp x.plan x.tries x.next).tries.length 0 (Ex.mk false x.stp x.plan x.tries x.next).tries.length, .d (.int .i64 (Ex.mk false x.stp x.plan x.tries x.next).next)]), (8, .box [.d (.bool false), .d (.bool false), .d .nilSl, .d .nilSl, .d .nilSl, .d (.int .i64 0)]), (48, .sl 3 (trs (Ex.mk false x.stp x.plan x.tries x.next).tries) false)]) (nx' := 124) ?_ ?_ (by decide) (by decide) ?_ ?_) (.inr ⟨_, hy, rfl, rfl, rfl⟩)
       all_goals simp -implicitDefEqProofs only [go_sem, ↓reduceIte, Nat.reduceEqDiff, Nat.reduceAdd, Nat.reduceMul, Nat.reduceSub, Nat.reduceLeDiff, Nat.reduceLT, Nat.reducePow, reduceCtorEq, Int.reduceToNat, Int.reduceLT, Int.reduceLE, Int.reduceEq, Int.reduceAdd, Int.reduceSub, Int.reduceMul, Int.reduceNeg, Int.reduceTMod, Int.reduceTDiv, List.replicate_zero, List.replicate_succ, begunN, askedN, saidN, saidT, List.length_set, List.length_replicate, trs_start, Int.toNat_natCast]
       all_goals simp only [*, Bool.true_or, Bool.false_or]
       done)

end Go.Proofs.Ytbdodpippgakjaa

namespace Go.Proofs.Ytbdodpippgakjaa
open Go Go.Vs Go.Proofs

theorem next13F_no (x : Ex) (r : Rc) (hx : x.small) (hr : r.small) (hy : validN x = true → effectN x r = none) : GivesF Try.prog 13 [.agg [.bool x.run, .bool x.stp, .sl 4 (stps x.plan.steps), .sl 1 (afts x.plan.after), .sl 3 (trs x.tries), .int .i64 x.next], .agg [.int .u8 r.kind, .int .i64 r.place, .int .i64 r.id, .int .i64 r.lease, .int .u8 r.ans, .sl 4 (stps r.plan.steps), .sl 1 (afts r.plan.after)]] (.tup [.agg [.d (.bool Ex.zero.run), .d (.bool Ex.zero.stp), .d (.sl 4 (stps Ex.zero.plan.steps)), .d (.sl 1 (afts Ex.zero.plan.after)), .d (.sl 3 (trs Ex.zero.tries)), .d (.int .i64 Ex.zero.next)], .c (.d (.int .i64 (nextN x r).2))]) [] := by
  refine GivesF.of_w TryEnv Try.func13 (by decide) TryL13_ok Try.ntmps13 (rs := [.cell 4 28, .tmp 5]) rfl (by simp) [] (by decide) ?_; rw [TryL13]
  repeat' first
    | simp -implicitDefEqProofs only [go_sem, ↓reduceIte, Nat.reduceEqDiff, Nat.reduceAdd, Nat.reduceMul, Nat.reduceSub, Nat.reduceLeDiff, Nat.reduceLT, Nat.reducePow, reduceCtorEq, Int.reduceToNat, Int.reduceLT, Int.reduceLE, Int.reduceEq, Int.reduceAdd, Int.reduceSub, Int.reduceMul, Int.reduceNeg, Int.reduceTMod, Int.reduceTDiv, List.replicate_zero, List.replicate_succ]
    | refine wCd_lend ?_
    | (refine wCall_intro (valid16 _ hx) ?_ ?_ ?_; rfl; decide)
    | refine wfork_intro (fun h => ?_) (fun h => ?_)
  · have h : validN x = false := by simpa using h
    have hy : (nextN x r).2 = 1 := by rw [nextN, h]; rfl
    rw [hy]
    simp [Ex.zero, VLe_tup, VLe_agg, VLe_c, VsLe_nil, VsLe_cons, CsLe_nil, CsLe_cons, CLe_d, CLe_self, DLe_self, DLe_nil, trs_nil, stps_nil, afts_nil, VLe_self]
  · have h : validN x = true := by simpa using h
    have hw := validN_wf h
    have hy := hy h
    have h8 : (nextN x r).2 = 8 := by rw [nextN, h, hy]; rfl
    rw [h8]
    repeat' first
      | simp -implicitDefEqProofs only [go_sem, ↓reduceIte, Nat.reduceEqDiff, Nat.reduceAdd, Nat.reduceMul, Nat.reduceSub, Nat.reduceLeDiff, Nat.reduceLT, Nat.reducePow, reduceCtorEq, Int.reduceToNat, Int.reduceLT, Int.reduceLE, Int.reduceEq, Int.reduceAdd, Int.reduceSub, Int.reduceMul, Int.reduceNeg, Int.reduceTMod, Int.reduceTDiv, List.replicate_zero, List.replicate_succ]
      | refine wCd_lend ?_
      | (refine wCall_fresh (own40F _ hx.1) ?_ ?_; decide)
      | (refine wCall_fresh (clone41F _ (by have := hx.2; omega)) ?_ ?_; exact Nat.le_of_ble_eq_true rfl)
      | (refine wCall_intro effects42 ?_ ?_ ?_; rfl; decide)
      | refine Also.mk (by decide) ?_
      | refine wfork_intro (fun h => ?_) (fun h => ?_)
    by_cases k1 : r.kind = 1
    · have t1 : (r.kind = 1) = True := by simp [k1]
      repeat' first
        | simp -implicitDefEqProofs only [go_sem, ↓reduceIte, Nat.reduceEqDiff, Nat.reduceAdd, Nat.reduceMul, Nat.reduceSub, Nat.reduceLeDiff, Nat.reduceLT, Nat.reducePow, reduceCtorEq, Int.reduceToNat, Int.reduceLT, Int.reduceLE, Int.reduceEq, Int.reduceAdd, Int.reduceSub, Int.reduceMul, Int.reduceNeg, Int.reduceTMod, Int.reduceTDiv, List.replicate_zero, List.replicate_succ, t1]
        | refine wfork_intro (fun h => ?_) (fun h => ?_)
        | refine Also.mk (by decide) ?_
        | (refine wDeep_intro (eff60L x r k1 hr _) ?_
           rintro v h k (⟨he, rfl, rfl, rfl⟩ | ⟨y', he, rfl, rfl, rfl⟩))
      all_goals first
        | (rw [hy] at he; cases he; done)
        | (simp [Ex.zero, VLe_tup, VLe_agg, VLe_c, VsLe_nil, VsLe_cons, CsLe_nil, CsLe_cons, CLe_d, CLe_self, DLe_self, DLe_nil, trs_nil, stps_nil, afts_nil, VLe_self]; done)
    have f1 : (r.kind = 1) = False := by simp [k1]
    by_cases k2 : r.kind = 2
    · have t2 : (r.kind = 2) = True := by simp [k2]
      repeat' first
        | simp -implicitDefEqProofs only [go_sem, ↓reduceIte, Nat.reduceEqDiff, Nat.reduceAdd, Nat.reduceMul, Nat.reduceSub, Nat.reduceLeDiff, Nat.reduceLT, Nat.reducePow, reduceCtorEq, Int.reduceToNat, Int.reduceLT, Int.reduceLE, Int.reduceEq, Int.reduceAdd, Int.reduceSub, Int.reduceMul, Int.reduceNeg, Int.reduceTMod, Int.reduceTDiv, List.replicate_zero, List.replicate_succ, f1, t2]
        | refine wfork_intro (fun h => ?_) (fun h => ?_)
        | refine Also.mk (by decide) ?_
        | (refine wDeep_intro (eff61L x r k2 hx hw _) ?_
           rintro v h k (⟨he, rfl, rfl, rfl⟩ | ⟨y', he, rfl, rfl, rfl⟩))
      all_goals first
        | (rw [hy] at he; cases he; done)
        | (simp [Ex.zero, VLe_tup, VLe_agg, VLe_c, VsLe_nil, VsLe_cons, CsLe_nil, CsLe_cons, CLe_d, CLe_self, DLe_self, DLe_nil, trs_nil, stps_nil, afts_nil, VLe_self]; done)
    have f2 : (r.kind = 2) = False := by simp [k2]
    by_cases k3 : r.kind = 3
    · have t3 : (r.kind = 3) = True := by simp [k3]
      repeat' first
        | simp -implicitDefEqProofs only [go_sem, ↓reduceIte, Nat.reduceEqDiff, Nat.reduceAdd, Nat.reduceMul, Nat.reduceSub, Nat.reduceLeDiff, Nat.reduceLT, Nat.reducePow, reduceCtorEq, Int.reduceToNat, Int.reduceLT, Int.reduceLE, Int.reduceEq, Int.reduceAdd, Int.reduceSub, Int.reduceMul, Int.reduceNeg, Int.reduceTMod, Int.reduceTDiv, List.replicate_zero, List.replicate_succ, f1, f2, t3]
        | refine wfork_intro (fun h => ?_) (fun h => ?_)
        | refine Also.mk (by decide) ?_
        | (refine wDeep_intro (eff62L x r k3 hx _) ?_
           rintro v h k (⟨he, rfl, rfl, rfl⟩ | ⟨y', he, rfl, rfl, rfl⟩))
      all_goals first
        | (rw [hy] at he; cases he; done)
        | (simp [Ex.zero, VLe_tup, VLe_agg, VLe_c, VsLe_nil, VsLe_cons, CsLe_nil, CsLe_cons, CLe_d, CLe_self, DLe_self, DLe_nil, trs_nil, stps_nil, afts_nil, VLe_self]; done)
    have f3 : (r.kind = 3) = False := by simp [k3]
    by_cases k4 : r.kind = 4
    · have t4 : (r.kind = 4) = True := by simp [k4]
      repeat' first
        | simp -implicitDefEqProofs only [go_sem, ↓reduceIte, Nat.reduceEqDiff, Nat.reduceAdd, Nat.reduceMul, Nat.reduceSub, Nat.reduceLeDiff, Nat.reduceLT, Nat.reducePow, reduceCtorEq, Int.reduceToNat, Int.reduceLT, Int.reduceLE, Int.reduceEq, Int.reduceAdd, Int.reduceSub, Int.reduceMul, Int.reduceNeg, Int.reduceTMod, Int.reduceTDiv, List.replicate_zero, List.replicate_succ, f1, f2, f3, t4]
        | refine wfork_intro (fun h => ?_) (fun h => ?_)
        | refine Also.mk (by decide) ?_
        | (refine wDeep_intro (eff65L x r k4 _) ?_
           rintro v h k (⟨he, rfl, rfl, rfl⟩ | ⟨y', he, rfl, rfl, rfl⟩))
      all_goals first
        | (rw [hy] at he; cases he; done)
        | (simp [Ex.zero, VLe_tup, VLe_agg, VLe_c, VsLe_nil, VsLe_cons, CsLe_nil, CsLe_cons, CLe_d, CLe_self, DLe_self, DLe_nil, trs_nil, stps_nil, afts_nil, VLe_self]; done)
    have f4 : (r.kind = 4) = False := by simp [k4]
    by_cases k5 : r.kind = 5
    · have t5 : (r.kind = 5) = True := by simp [k5]
      repeat' first
        | simp -implicitDefEqProofs only [go_sem, ↓reduceIte, Nat.reduceEqDiff, Nat.reduceAdd, Nat.reduceMul, Nat.reduceSub, Nat.reduceLeDiff, Nat.reduceLT, Nat.reducePow, reduceCtorEq, Int.reduceToNat, Int.reduceLT, Int.reduceLE, Int.reduceEq, Int.reduceAdd, Int.reduceSub, Int.reduceMul, Int.reduceNeg, Int.reduceTMod, Int.reduceTDiv, List.replicate_zero, List.replicate_succ, f1, f2, f3, f4, t5]
        | refine wfork_intro (fun h => ?_) (fun h => ?_)
        | refine Also.mk (by decide) ?_
        | (refine wDeep_intro (eff66L x r k5 hx _) ?_
           rintro v h k (⟨he, rfl, rfl, rfl⟩ | ⟨y', he, rfl, rfl, rfl⟩))
      all_goals first
        | (rw [hy] at he; cases he; done)
        | (simp [Ex.zero, VLe_tup, VLe_agg, VLe_c, VsLe_nil, VsLe_cons, CsLe_nil, CsLe_cons, CLe_d, CLe_self, DLe_self, DLe_nil, trs_nil, stps_nil, afts_nil, VLe_self]; done)
    have f5 : (r.kind = 5) = False := by simp [k5]
    repeat' first
      | simp -implicitDefEqProofs only [go_sem, ↓reduceIte, Nat.reduceEqDiff, Nat.reduceAdd, Nat.reduceMul, Nat.reduceSub, Nat.reduceLeDiff, Nat.reduceLT, Nat.reducePow, reduceCtorEq, Int.reduceToNat, Int.reduceLT, Int.reduceLE, Int.reduceEq, Int.reduceAdd, Int.reduceSub, Int.reduceMul, Int.reduceNeg, Int.reduceTMod, Int.reduceTDiv, List.replicate_zero, List.replicate_succ, f1, f2, f3, f4, f5]
      | refine wfork_intro (fun h => ?_) (fun h => ?_)
      | refine Also.mk (by decide) ?_
    all_goals simp [Ex.zero, VLe_tup, VLe_agg, VLe_c, VsLe_nil, VsLe_cons, CsLe_nil, CsLe_cons, CLe_d, CLe_self, DLe_self, DLe_nil, trs_nil, stps_nil, afts_nil, VLe_self]

theorem next13F_1 (x : Ex) (r : Rc) (hx : x.small) (hr : r.small) (y : Ex) (k1 : r.kind = 1) (hv : validN x = true) (hy : effectN x r = some y) : GivesF Try.prog 13 [.agg [.bool x.run, .bool x.stp, .sl 4 (stps x.plan.steps), .sl 1 (afts x.plan.after), .sl 3 (trs x.tries), .int .i64 x.next], .agg [.int .u8 r.kind, .int .i64 r.place, .int .i64 r.id, .int .i64 r.lease, .int .u8 r.ans, .sl 4 (stps r.plan.steps), .sl 1 (afts r.plan.after)]] (.tup [.agg [.d (.bool y.run), .d (.bool y.stp), .d (.sl 4 (stps y.plan.steps)), .d (.sl 1 (afts y.plan.after)), .ref 0 y.tries.length 0 y.tries.length, .d (.int .i64 y.next)], .c (.d (.int .i64 0))]) [.sl 3 (trs y.tries) false] := by
  have hw := validN_wf hv
  refine GivesF.of_w TryEnv Try.func13 (by decide) TryL13_ok Try.ntmps13 (rs := [.cell 4 28, .tmp 5]) rfl (by simp) [216] (by decide) ?_; rw [TryL13]
  repeat' first
    | simp -implicitDefEqProofs only [go_sem, ↓reduceIte, Nat.reduceEqDiff, Nat.reduceAdd, Nat.reduceMul, Nat.reduceSub, Nat.reduceLeDiff, Nat.reduceLT, Nat.reducePow, reduceCtorEq, Int.reduceToNat, Int.reduceLT, Int.reduceLE, Int.reduceEq, Int.reduceAdd, Int.reduceSub, Int.reduceMul, Int.reduceNeg, Int.reduceTMod, Int.reduceTDiv, List.replicate_zero, List.replicate_succ]
    | refine wCd_lend ?_
    | (refine wCall_intro (valid16 _ hx) ?_ ?_ ?_; rfl; decide)
    | refine wfork_intro (fun h => ?_) (fun h => ?_)
  · rw [hv] at h
    cases h
  · repeat' first
      | simp -implicitDefEqProofs only [go_sem, ↓reduceIte, Nat.reduceEqDiff, Nat.reduceAdd, Nat.reduceMul, Nat.reduceSub, Nat.reduceLeDiff, Nat.reduceLT, Nat.reducePow, reduceCtorEq, Int.reduceToNat, Int.reduceLT, Int.reduceLE, Int.reduceEq, Int.reduceAdd, Int.reduceSub, Int.reduceMul, Int.reduceNeg, Int.reduceTMod, Int.reduceTDiv, List.replicate_zero, List.replicate_succ]
      | refine wCd_lend ?_
      | (refine wCall_fresh (own40F _ hx.1) ?_ ?_; decide)
      | (refine wCall_fresh (clone41F _ (by have := hx.2; omega)) ?_ ?_; exact Nat.le_of_ble_eq_true rfl)
      | (refine wCall_intro effects42 ?_ ?_ ?_; rfl; decide)
      | refine Also.mk (by decide) ?_
      | refine wfork_intro (fun h => ?_) (fun h => ?_)
    have t1 : (r.kind = 1) = True := by simp [k1]
    repeat' first
      | simp -implicitDefEqProofs only [go_sem, ↓reduceIte, Nat.reduceEqDiff, Nat.reduceAdd, Nat.reduceMul, Nat.reduceSub, Nat.reduceLeDiff, Nat.reduceLT, Nat.reducePow, reduceCtorEq, Int.reduceToNat, Int.reduceLT, Int.reduceLE, Int.reduceEq, Int.reduceAdd, Int.reduceSub, Int.reduceMul, Int.reduceNeg, Int.reduceTMod, Int.reduceTDiv, List.replicate_zero, List.replicate_succ, t1]
      | refine wfork_intro (fun h => ?_) (fun h => ?_)
      | refine Also.mk (by decide) ?_
      | (refine wDeep_intro (eff60L x r k1 hr _) ?_
         rintro v h k (⟨he, rfl, rfl, rfl⟩ | ⟨y', he, rfl, rfl, rfl⟩))
    all_goals first
      | (rw [hy] at he; cases he; done)
      | (rw [hy] at he
         cases he
         simp -implicitDefEqProofs only [go_sem, ↓reduceIte, Nat.reduceEqDiff, Nat.reduceAdd, Nat.reduceMul, Nat.reduceSub, Nat.reduceLeDiff, Nat.reduceLT, Nat.reducePow, reduceCtorEq, Int.reduceToNat, Int.reduceLT, Int.reduceLE, Int.reduceEq, Int.reduceAdd, Int.reduceSub, Int.reduceMul, Int.reduceNeg, Int.reduceTMod, Int.reduceTDiv, List.replicate_zero, List.replicate_succ, List.contains_cons, Option.bind_some, idx1]
         done)

theorem next13F_2 (x : Ex) (r : Rc) (hx : x.small) (hr : r.small) (y : Ex) (k1 : ¬ r.kind = 1) (hv : validN x = true) (hy : effectN x r = some y) : GivesF Try.prog 13 [.agg [.bool x.run, .bool x.stp, .sl 4 (stps x.plan.steps), .sl 1 (afts x.plan.after), .sl 3 (trs x.tries), .int .i64 x.next], .agg [.int .u8 r.kind, .int .i64 r.place, .int .i64 r.id, .int .i64 r.lease, .int .u8 r.ans, .sl 4 (stps r.plan.steps), .sl 1 (afts r.plan.after)]] (.tup [.agg [.d (.bool y.run), .d (.bool y.stp), .d (.sl 4 (stps y.plan.steps)), .d (.sl 1 (afts y.plan.after)), .ref 0 y.tries.length 0 y.tries.length, .d (.int .i64 y.next)], .c (.d (.int .i64 0))]) [.sl 3 (trs y.tries) false] := by
  have hw := validN_wf hv
  refine GivesF.of_w TryEnv Try.func13 (by decide) TryL13_ok Try.ntmps13 (rs := [.cell 4 28, .tmp 5]) rfl (by simp) [48] (by decide) ?_; rw [TryL13]
  repeat' first
    | simp -implicitDefEqProofs only [go_sem, ↓reduceIte, Nat.reduceEqDiff, Nat.reduceAdd, Nat.reduceMul, Nat.reduceSub, Nat.reduceLeDiff, Nat.reduceLT, Nat.reducePow, reduceCtorEq, Int.reduceToNat, Int.reduceLT, Int.reduceLE, Int.reduceEq, Int.reduceAdd, Int.reduceSub, Int.reduceMul, Int.reduceNeg, Int.reduceTMod, Int.reduceTDiv, List.replicate_zero, List.replicate_succ]
    | refine wCd_lend ?_
    | (refine wCall_intro (valid16 _ hx) ?_ ?_ ?_; rfl; decide)
    | refine wfork_intro (fun h => ?_) (fun h => ?_)
  · rw [hv] at h
    cases h
  · repeat' first
      | simp -implicitDefEqProofs only [go_sem, ↓reduceIte, Nat.reduceEqDiff, Nat.reduceAdd, Nat.reduceMul, Nat.reduceSub, Nat.reduceLeDiff, Nat.reduceLT, Nat.reducePow, reduceCtorEq, Int.reduceToNat, Int.reduceLT, Int.reduceLE, Int.reduceEq, Int.reduceAdd, Int.reduceSub, Int.reduceMul, Int.reduceNeg, Int.reduceTMod, Int.reduceTDiv, List.replicate_zero, List.replicate_succ]
      | refine wCd_lend ?_
      | (refine wCall_fresh (own40F _ hx.1) ?_ ?_; decide)
      | (refine wCall_fresh (clone41F _ (by have := hx.2; omega)) ?_ ?_; exact Nat.le_of_ble_eq_true rfl)
      | (refine wCall_intro effects42 ?_ ?_ ?_; rfl; decide)
      | refine Also.mk (by decide) ?_
      | refine wfork_intro (fun h => ?_) (fun h => ?_)
    have f1 : (r.kind = 1) = False := by simp [k1]
    by_cases k2 : r.kind = 2
    · have t2 : (r.kind = 2) = True := by simp [k2]
      repeat' first
        | simp -implicitDefEqProofs only [go_sem, ↓reduceIte, Nat.reduceEqDiff, Nat.reduceAdd, Nat.reduceMul, Nat.reduceSub, Nat.reduceLeDiff, Nat.reduceLT, Nat.reducePow, reduceCtorEq, Int.reduceToNat, Int.reduceLT, Int.reduceLE, Int.reduceEq, Int.reduceAdd, Int.reduceSub, Int.reduceMul, Int.reduceNeg, Int.reduceTMod, Int.reduceTDiv, List.replicate_zero, List.replicate_succ, f1, t2]
        | refine wfork_intro (fun h => ?_) (fun h => ?_)
        | refine Also.mk (by decide) ?_
        | (refine wDeep_intro (eff61L x r k2 hx hw _) ?_
           rintro v h k (⟨he, rfl, rfl, rfl⟩ | ⟨y', he, rfl, rfl, rfl⟩))
      all_goals first
        | (rw [hy] at he; cases he; done)
        | (rw [hy] at he
           cases he
           simp -implicitDefEqProofs only [go_sem, ↓reduceIte, Nat.reduceEqDiff, Nat.reduceAdd, Nat.reduceMul, Nat.reduceSub, Nat.reduceLeDiff, Nat.reduceLT, Nat.reducePow, reduceCtorEq, Int.reduceToNat, Int.reduceLT, Int.reduceLE, Int.reduceEq, Int.reduceAdd, Int.reduceSub, Int.reduceMul, Int.reduceNeg, Int.reduceTMod, Int.reduceTDiv, List.replicate_zero, List.replicate_succ, List.contains_cons, Option.bind_some, idx1]
           done)
    have f2 : (r.kind = 2) = False := by simp [k2]
    by_cases k3 : r.kind = 3
    · have t3 : (r.kind = 3) = True := by simp [k3]
      repeat' first
        | simp -implicitDefEqProofs only [go_sem, ↓reduceIte, Nat.reduceEqDiff, Nat.reduceAdd, Nat.reduceMul, Nat.reduceSub, Nat.reduceLeDiff, Nat.reduceLT, Nat.reducePow, reduceCtorEq, Int.reduceToNat, Int.reduceLT, Int.reduceLE, Int.reduceEq, Int.reduceAdd, Int.reduceSub, Int.reduceMul, Int.reduceNeg, Int.reduceTMod, Int.reduceTDiv, List.replicate_zero, List.replicate_succ, f1, f2, t3]
        | refine wfork_intro (fun h => ?_) (fun h => ?_)
        | refine Also.mk (by decide) ?_
        | (refine wDeep_intro (eff62L x r k3 hx _) ?_
           rintro v h k (⟨he, rfl, rfl, rfl⟩ | ⟨y', he, rfl, rfl, rfl⟩))
      all_goals first
        | (rw [hy] at he; cases he; done)
        | (rw [hy] at he
           cases he
           simp -implicitDefEqProofs only [go_sem, ↓reduceIte, Nat.reduceEqDiff, Nat.reduceAdd, Nat.reduceMul, Nat.reduceSub, Nat.reduceLeDiff, Nat.reduceLT, Nat.reducePow, reduceCtorEq, Int.reduceToNat, Int.reduceLT, Int.reduceLE, Int.reduceEq, Int.reduceAdd, Int.reduceSub, Int.reduceMul, Int.reduceNeg, Int.reduceTMod, Int.reduceTDiv, List.replicate_zero, List.replicate_succ, List.contains_cons, Option.bind_some, idx1]
           done)
    have f3 : (r.kind = 3) = False := by simp [k3]
    by_cases k4 : r.kind = 4
    · have t4 : (r.kind = 4) = True := by simp [k4]
      repeat' first
        | simp -implicitDefEqProofs only [go_sem, ↓reduceIte, Nat.reduceEqDiff, Nat.reduceAdd, Nat.reduceMul, Nat.reduceSub, Nat.reduceLeDiff, Nat.reduceLT, Nat.reducePow, reduceCtorEq, Int.reduceToNat, Int.reduceLT, Int.reduceLE, Int.reduceEq, Int.reduceAdd, Int.reduceSub, Int.reduceMul, Int.reduceNeg, Int.reduceTMod, Int.reduceTDiv, List.replicate_zero, List.replicate_succ, f1, f2, f3, t4]
        | refine wfork_intro (fun h => ?_) (fun h => ?_)
        | refine Also.mk (by decide) ?_
        | (refine wDeep_intro (eff65L x r k4 _) ?_
           rintro v h k (⟨he, rfl, rfl, rfl⟩ | ⟨y', he, rfl, rfl, rfl⟩))
      all_goals first
        | (rw [hy] at he; cases he; done)
        | (rw [hy] at he
           cases he
           simp -implicitDefEqProofs only [go_sem, ↓reduceIte, Nat.reduceEqDiff, Nat.reduceAdd, Nat.reduceMul, Nat.reduceSub, Nat.reduceLeDiff, Nat.reduceLT, Nat.reducePow, reduceCtorEq, Int.reduceToNat, Int.reduceLT, Int.reduceLE, Int.reduceEq, Int.reduceAdd, Int.reduceSub, Int.reduceMul, Int.reduceNeg, Int.reduceTMod, Int.reduceTDiv, List.replicate_zero, List.replicate_succ, List.contains_cons, Option.bind_some, idx1]
           done)
    have f4 : (r.kind = 4) = False := by simp [k4]
    by_cases k5 : r.kind = 5
    · have t5 : (r.kind = 5) = True := by simp [k5]
      repeat' first
        | simp -implicitDefEqProofs only [go_sem, ↓reduceIte, Nat.reduceEqDiff, Nat.reduceAdd, Nat.reduceMul, Nat.reduceSub, Nat.reduceLeDiff, Nat.reduceLT, Nat.reducePow, reduceCtorEq, Int.reduceToNat, Int.reduceLT, Int.reduceLE, Int.reduceEq, Int.reduceAdd, Int.reduceSub, Int.reduceMul, Int.reduceNeg, Int.reduceTMod, Int.reduceTDiv, List.replicate_zero, List.replicate_succ, f1, f2, f3, f4, t5]
        | refine wfork_intro (fun h => ?_) (fun h => ?_)
        | refine Also.mk (by decide) ?_
        | (refine wDeep_intro (eff66L x r k5 hx _) ?_
           rintro v h k (⟨he, rfl, rfl, rfl⟩ | ⟨y', he, rfl, rfl, rfl⟩))
      all_goals first
        | (rw [hy] at he; cases he; done)
        | (rw [hy] at he
           cases he
           simp -implicitDefEqProofs only [go_sem, ↓reduceIte, Nat.reduceEqDiff, Nat.reduceAdd, Nat.reduceMul, Nat.reduceSub, Nat.reduceLeDiff, Nat.reduceLT, Nat.reducePow, reduceCtorEq, Int.reduceToNat, Int.reduceLT, Int.reduceLE, Int.reduceEq, Int.reduceAdd, Int.reduceSub, Int.reduceMul, Int.reduceNeg, Int.reduceTMod, Int.reduceTDiv, List.replicate_zero, List.replicate_succ, List.contains_cons, Option.bind_some, idx1]
           done)
    have f5 : (r.kind = 5) = False := by simp [k5]
    have he : effectN x r = none := by simp [effectN, *]
    rw [hy] at he
    cases he
end Go.Proofs.Ytbdodpippgakjaa
