/- This text proves a part of what the claim needs: contracts of functions of the program. No condition. -/
import Derived.Test.YtbdodpippgakjaaXh
set_option linter.unusedSimpArgs false
set_option linter.unusedVariables false

namespace Go.Proofs.Ytbdodpippgakjaa
open Go Go.Vs Go.Proofs
set_option maxRecDepth 20000

/-! ### Choices -/

structure Ch where
  dO : Int
  at_ : Int
  plan : Pl
def Ch.fits (c : Ch) : Prop := c.plan.fits ∧ (0 ≤ c.dO ∧ c.dO ≤ 255) ∧ (0 ≤ c.at_ ∧ c.at_ ≤ 255)
def chs (l : List Ch) : List (List D) := l.map fun c => [.int .u8 c.dO, .int .u8 c.at_, .sl 4 (stps c.plan.steps), .sl 1 (afts c.plan.after)]
@[go_sem] theorem chs_length (l : List Ch) : (chs l).length = l.length := by simp [chs]
theorem chs_get (l : List Ch) (i : Nat) : (chs l)[i]? = (l[i]?).map fun c => [.int .u8 c.dO, .int .u8 c.at_, .sl 4 (stps c.plan.steps), .sl 1 (afts c.plan.after)] := by simp [chs]

def Rq.zero : Rq := ⟨0, 0, .zero⟩
def planOf (p : Pl) : Rc := ⟨1, 0, 0, 0, 0, p⟩
def stopR : Rc := ⟨4, 0, 0, 0, 0, emptyP⟩
def endR : Rc := ⟨5, 0, 0, 0, 0, emptyP⟩
def zeroR : Rc := ⟨0, 0, 0, 0, 0, emptyP⟩
def saidA (a : Int) : Int := if 200 ≤ a then 1 + a.tmod 4 else 1
def recordN (x : Ex) (c : Ch) : Rc :=
  if c.dO.tmod 8 = 0 then planOf c.plan
  else if c.dO.tmod 8 ≤ 3 ∧ 0 < (readyL x).length then intentR ((readyL x).getD (c.at_.tmod (readyL x).length).toNat 0) x.next c.at_
  else if c.dO.tmod 8 ≤ 5 ∧ 0 < (openN x).length then answerR ((openN x).getD (c.at_.tmod (openN x).length).toNat .zero).id (saidA c.at_)
  else if c.dO = 255 then stopR else endR

theorem tmod_in {a : Int} {n : Nat} (ha : 0 ≤ a) (hn : 0 < n) : 0 ≤ a.tmod n ∧ a.tmod n < n := by
  rw [Int.tmod_eq_emod_of_nonneg ha]
  exact ⟨Int.emod_nonneg _ (by omega), Int.emod_lt_of_pos _ (by omega)⟩

theorem record57_at (x : Ex) (c : Ch) (hx : x.small) (hc : c.fits) (r : Rc) (hr : r = recordN x c) : Gives Try.prog 57 [.agg [.bool x.run, .bool x.stp, .sl 4 (stps x.plan.steps), .sl 1 (afts x.plan.after), .sl 3 (trs x.tries), .int .i64 x.next], .agg [.int .u8 c.dO, .int .u8 c.at_, .sl 4 (stps c.plan.steps), .sl 1 (afts c.plan.after)]] (.agg [.d (.int .u8 r.kind), .d (.int .i64 r.place), .d (.int .i64 r.id), .d (.int .i64 r.lease), .d (.int .u8 r.ans), .d (.sl 4 (stps r.plan.steps)), .d (.sl 1 (afts r.plan.after))]) [] := by
  obtain ⟨hc1, ⟨hd0, hd1⟩, ha0, ha1⟩ := hc
  have w1 : IntKind.i64.wrap c.at_ = c.at_ := wrap64 (by omega) (by omega)
  have w2 : IntKind.u8.wrap (1 + c.at_.tmod 4) = 1 + c.at_.tmod 4 := by
    have h12 : 0 ≤ c.at_.tmod 4 ∧ c.at_.tmod 4 < 4 := tmod_in (n := 4) ha0 (by omega)
    obtain ⟨h1, h2⟩ := h12
    exact wrap8 (by omega) (by omega)
  have hl1 : (readyL x).length ≤ 1000000 := readyL_len x hx _
  have hl2 : (openN x).length ≤ 1000000 := by
    have : (openL x).length ≤ 1000000 := readyL_len x hx _
    rw [openN, List.length_map]
    exact this
  have c1 := refReadyL22 x hx
  have c2 := refOpenL25 x hx
  unfold recordN at hr
  generalize readyL x = l1 at *
  generalize openN x = l2 at *
  have n8 : ¬ (8 : Int) = 0 := by decide
  have n4 : ¬ (4 : Int) = 0 := by decide
  refine Gives.of_w TryEnv Try.func57 (by decide) TryL57_ok Try.ntmps57 (rs := [.cell 4 32]) rfl (by simp) [] (by decide) ?_; rw [TryL57]
  repeat' first
    | simp -implicitDefEqProofs only [go_sem, ↓reduceIte, Nat.reduceEqDiff, Nat.reduceAdd, Nat.reduceMul, Nat.reduceSub, Nat.reduceLeDiff, Nat.reduceLT, Nat.reducePow, reduceCtorEq, Int.reduceToNat, Int.reduceLT, Int.reduceLE, Int.reduceEq, Int.reduceAdd, Int.reduceSub, Int.reduceMul, Int.reduceNeg, Int.reduceTMod, Int.reduceTDiv, List.replicate_zero, List.replicate_succ, w1, w2, ne_eq, not_false_eq_true, n8, n4, Int.natCast_nonneg]
    | refine wfork_intro (fun h => ?_) (fun h => ?_)
    | (refine wCall_intro c1 ?_ ?_ ?_; rfl; decide)
    | (refine wCall_intro c2 ?_ ?_ ?_; rfl; decide)
    | (refine wCall_intro (intent36 _ _ _) ?_ ?_ ?_; rfl; decide)
    | (refine wCall_intro (answer37 _ _) ?_ ?_ ?_; rfl; decide)
    | refine Also.mk (by decide) ?_
    | (rename decide ((0 : Int) < (l1.length : Int)) = true => hp
       have hp0 : 0 < l1.length := by simp at hp; omega
       obtain ⟨g0, g1⟩ := tmod_in ha0 hp0
       have hne : ¬ l1.length = 0 := by omega
       have hg : l1[(c.at_.tmod l1.length).toNat]? = some (l1.getD (c.at_.tmod l1.length).toNat 0) := by rw [getD_of (by omega)]; exact List.getElem?_eq_getElem (by omega)
       simp -implicitDefEqProofs only [go_sem, ↓reduceIte, Nat.reduceEqDiff, Nat.reduceAdd, Nat.reduceMul, Nat.reduceSub, Nat.reduceLeDiff, Nat.reduceLT, Nat.reducePow, reduceCtorEq, Int.reduceToNat, Int.reduceLT, Int.reduceLE, Int.reduceEq, Int.reduceAdd, Int.reduceSub, Int.reduceMul, Int.reduceNeg, Int.reduceTMod, Int.reduceTDiv, List.replicate_zero, List.replicate_succ, w1, w2, ne_eq, not_false_eq_true, n8, n4, hne, g0, g1, nums_get, hg])
    | (rename decide ((0 : Int) < (l2.length : Int)) = true => hp
       have hp0 : 0 < l2.length := by simp at hp; omega
       obtain ⟨g0, g1⟩ := tmod_in ha0 hp0
       have hne : ¬ l2.length = 0 := by omega
       have hg : l2[(c.at_.tmod l2.length).toNat]? = some (l2.getD (c.at_.tmod l2.length).toNat .zero) := by rw [getD_of (by omega)]; exact List.getElem?_eq_getElem (by omega)
       simp -implicitDefEqProofs only [go_sem, ↓reduceIte, Nat.reduceEqDiff, Nat.reduceAdd, Nat.reduceMul, Nat.reduceSub, Nat.reduceLeDiff, Nat.reduceLT, Nat.reducePow, reduceCtorEq, Int.reduceToNat, Int.reduceLT, Int.reduceLE, Int.reduceEq, Int.reduceAdd, Int.reduceSub, Int.reduceMul, Int.reduceNeg, Int.reduceTMod, Int.reduceTDiv, List.replicate_zero, List.replicate_succ, w1, w2, ne_eq, not_false_eq_true, n8, n4, hne, g0, g1, rqs_get, hg])
  all_goals clear c1 c2
  all_goals try simp only [decide_eq_true_eq, decide_eq_false_iff_not, Int.natCast_pos] at *
  all_goals try have hla : saidA c.at_ = 1 + c.at_.tmod 4 := if_pos (by assumption)
  all_goals try have hla : saidA c.at_ = 1 := if_neg (by assumption)
  all_goals rw [hr]
  all_goals simp [*, planOf, stopR, endR, emptyP, DLe_self, DLe_nil, stps_nil, afts_nil, CsLe_cons, CsLe_nil, CLe_d, VLe_agg]

theorem record57 (x : Ex) (c : Ch) (hx : x.small) (hc : c.fits) : Gives Try.prog 57 [.agg [.bool x.run, .bool x.stp, .sl 4 (stps x.plan.steps), .sl 1 (afts x.plan.after), .sl 3 (trs x.tries), .int .i64 x.next], .agg [.int .u8 c.dO, .int .u8 c.at_, .sl 4 (stps c.plan.steps), .sl 1 (afts c.plan.after)]] (.agg [.d (.int .u8 (recordN x c).kind), .d (.int .i64 (recordN x c).place), .d (.int .i64 (recordN x c).id), .d (.int .i64 (recordN x c).lease), .d (.int .u8 (recordN x c).ans), .d (.sl 4 (stps (recordN x c).plan.steps)), .d (.sl 1 (afts (recordN x c).plan.after))]) [] :=
  record57_at x c hx hc _ rfl

def stepC (x : Ex) (c : Ch) : Ex × Rc × Bool :=
  if lightN c.plan = false then (x, zeroR, false)
  else if (nextN x (recordN x c)).2 = 0 then ((nextN x (recordN x c)).1, recordN x c, true) else (x, recordN x c, false)

theorem recordN_small {x : Ex} {c : Ch} (hc : lightN c.plan = true) : (recordN x c).small := by
  unfold recordN Rc.small
  repeat' split
  · exact lightN_small hc
  all_goals exact emptyP_small

theorem step34_at (x : Ex) (c : Ch) (hx : x.small) (hc : c.fits) (y : Ex × Rc × Bool) (hy : y = stepC x c) :
    Gives Try.prog 34 [.agg [.bool x.run, .bool x.stp, .sl 4 (stps x.plan.steps), .sl 1 (afts x.plan.after), .sl 3 (trs x.tries), .int .i64 x.next], .agg [.int .u8 c.dO, .int .u8 c.at_, .sl 4 (stps c.plan.steps), .sl 1 (afts c.plan.after)]] (.tup [.agg [.d (.bool y.1.run), .d (.bool y.1.stp), .d (.sl 4 (stps y.1.plan.steps)), .d (.sl 1 (afts y.1.plan.after)), .d (.sl 3 (trs y.1.tries)), .d (.int .i64 y.1.next)], .agg [.d (.int .u8 y.2.1.kind), .d (.int .i64 y.2.1.place), .d (.int .i64 y.2.1.id), .d (.int .i64 y.2.1.lease), .d (.int .u8 y.2.1.ans), .d (.sl 4 (stps y.2.1.plan.steps)), .d (.sl 1 (afts y.2.1.plan.after))], .c (.d (.bool y.2.2))]) [] := by
  have c1 := light10 c.plan hc.1
  have c2 := record57 x c hx hc
  have c3 := fun h : lightN c.plan = true => next13 x (recordN x c) hx (recordN_small h)
  unfold stepC at hy
  generalize recordN x c = r at *
  generalize nextN x r = z at *
  obtain ⟨z, e⟩ := z
  refine Gives.of_w TryEnv Try.func34 (by decide) TryL34_ok Try.ntmps34 (rs := [.cell 4 28, .cell 5 32, .tmp 6]) rfl (by simp) [] (by decide) ?_; rw [TryL34]
  repeat' first
    | simp -implicitDefEqProofs only [go_sem, ↓reduceIte, Nat.reduceEqDiff, Nat.reduceAdd, Nat.reduceMul, Nat.reduceSub, Nat.reduceLeDiff, Nat.reduceLT, Nat.reducePow, reduceCtorEq, Int.reduceToNat, Int.reduceLT, Int.reduceLE, Int.reduceEq, Int.reduceAdd, Int.reduceSub, Int.reduceMul, Int.reduceNeg, Int.reduceTMod, Int.reduceTDiv, List.replicate_zero, List.replicate_succ]
    | refine wfork_intro (fun h => ?_) (fun h => ?_)
    | (refine wCall_intro c1 ?_ ?_ ?_; rfl; decide)
    | (refine wCall_intro c2 ?_ ?_ ?_; rfl; decide)
    | (rename (!lightN c.plan) = false => hl; refine wCall_intro (c3 (by rw [Bool.not_eq_false'] at hl; exact hl)) ?_ ?_ ?_; rfl; decide)
    | refine Also.mk (by decide) ?_
  all_goals clear c1 c2 c3
  all_goals try simp only [decide_eq_true_eq, decide_eq_false_iff_not, Bool.not_eq_true', Bool.not_eq_false'] at *
  all_goals rw [hy]
  all_goals simp [*, zeroR, emptyP, DLe_self, DLe_nil, stps_nil, afts_nil, CsLe_cons, CsLe_nil, CLe_d, VLe_agg]
theorem step34 (x : Ex) (c : Ch) (hx : x.small) (hc : c.fits) :
    Gives Try.prog 34 [.agg [.bool x.run, .bool x.stp, .sl 4 (stps x.plan.steps), .sl 1 (afts x.plan.after), .sl 3 (trs x.tries), .int .i64 x.next], .agg [.int .u8 c.dO, .int .u8 c.at_, .sl 4 (stps c.plan.steps), .sl 1 (afts c.plan.after)]] (.tup [.agg [.d (.bool ((stepC x c).1).run), .d (.bool ((stepC x c).1).stp), .d (.sl 4 (stps ((stepC x c).1).plan.steps)), .d (.sl 1 (afts ((stepC x c).1).plan.after)), .d (.sl 3 (trs ((stepC x c).1).tries)), .d (.int .i64 ((stepC x c).1).next)], .agg [.d (.int .u8 ((stepC x c).2.1).kind), .d (.int .i64 ((stepC x c).2.1).place), .d (.int .i64 ((stepC x c).2.1).id), .d (.int .i64 ((stepC x c).2.1).lease), .d (.int .u8 ((stepC x c).2.1).ans), .d (.sl 4 (stps ((stepC x c).2.1).plan.steps)), .d (.sl 1 (afts ((stepC x c).2.1).plan.after))], .c (.d (.bool (stepC x c).2.2))]) [] :=
  step34_at x c hx hc _ rfl
theorem stepC_small {x : Ex} {c : Ch} (hx : x.small) : (stepC x c).1.small := by
  unfold stepC
  split
  · exact hx
  · rename_i h
    split
    · exact nextN_small hx (recordN_small (by simpa using h))
    · exact hx
end Go.Proofs.Ytbdodpippgakjaa
