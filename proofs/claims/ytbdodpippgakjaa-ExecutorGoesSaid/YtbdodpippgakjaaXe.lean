/- This text proves a part of what the claim needs: contracts of functions of the program. No condition. -/
import Derived.Test.YtbdodpippgakjaaXd
import Derived.Test.YtbdodpippgakjaaVsC
set_option linter.unusedSimpArgs false
set_option linter.unusedVariables false

namespace Go.Proofs.Ytbdodpippgakjaa
open Go Go.Vs Go.Proofs

def firstN : Ex := ⟨false, false, ⟨[], []⟩, [], 1⟩
theorem firstN_small : firstN.small := by simp [firstN, Ex.small, Pl.small]

theorem first32 : Gives Try.prog 32 [] (.agg [.d (.bool firstN.run), .d (.bool firstN.stp), .d (.sl 4 (stps firstN.plan.steps)), .d (.sl 1 (afts firstN.plan.after)), .d (.sl 3 (trs firstN.tries)), .d (.int .i64 firstN.next)]) [] := by
  refine Gives.of_w TryEnv Try.func32 (by decide) TryL32_ok Try.ntmps32 (rs := [.cell 0 28]) rfl (by simp) [] (by decide) ?_; rw [TryL32]
  simp -implicitDefEqProofs only [go_sem, ↓reduceIte, Nat.reduceEqDiff, Nat.reduceAdd, Nat.reduceMul, Nat.reduceSub, Nat.reduceLeDiff, Nat.reduceLT, Nat.reducePow, reduceCtorEq, Int.reduceToNat, Int.reduceLT, Int.reduceLE, Int.reduceEq, Int.reduceAdd, Int.reduceSub, Int.reduceMul, Int.reduceNeg, Int.reduceTMod, Int.reduceTDiv, List.replicate_zero, List.replicate_succ]
  simp [firstN, VLe_tup, VLe_agg, VLe_c, VsLe_nil, VsLe_cons, CsLe_nil, CsLe_cons, CLe_d, CLe_self, DLe_self, DLe_nil, trs_nil, stps_nil, afts_nil]
theorem refFirst33 : Gives Try.prog 33 [] (.agg [.d (.bool firstN.run), .d (.bool firstN.stp), .d (.sl 4 (stps firstN.plan.steps)), .d (.sl 1 (afts firstN.plan.after)), .d (.sl 3 (trs firstN.tries)), .d (.int .i64 firstN.next)]) [] := by
  refine Gives.of_w TryEnv Try.func33 (by decide) TryL33_ok Try.ntmps33 (rs := [.cell 0 28]) rfl (by simp) [] (by decide) ?_; rw [TryL33]
  simp -implicitDefEqProofs only [go_sem, ↓reduceIte, Nat.reduceEqDiff, Nat.reduceAdd, Nat.reduceMul, Nat.reduceSub, Nat.reduceLeDiff, Nat.reduceLT, Nat.reducePow, reduceCtorEq, Int.reduceToNat, Int.reduceLT, Int.reduceLE, Int.reduceEq, Int.reduceAdd, Int.reduceSub, Int.reduceMul, Int.reduceNeg, Int.reduceTMod, Int.reduceTDiv, List.replicate_zero, List.replicate_succ]
  simp [firstN, VLe_tup, VLe_agg, VLe_c, VsLe_nil, VsLe_cons, CsLe_nil, CsLe_cons, CLe_d, CLe_self, DLe_self, DLe_nil, trs_nil, stps_nil, afts_nil]

def emptyP : Pl := ⟨[], []⟩
def intentR (p i l : Int) : Rc := ⟨2, p, i, l, 0, emptyP⟩
def answerR (i a : Int) : Rc := ⟨3, 0, i, 0, a, emptyP⟩
theorem intent36 (p i l : Int) : Gives Try.prog 36 [.c (.int .i64 p), .c (.int .i64 i), .c (.int .i64 l)] (.agg [.d (.int .u8 (intentR p i l).kind), .d (.int .i64 (intentR p i l).place), .d (.int .i64 (intentR p i l).id), .d (.int .i64 (intentR p i l).lease), .d (.int .u8 (intentR p i l).ans), .d (.sl 4 (stps (intentR p i l).plan.steps)), .d (.sl 1 (afts (intentR p i l).plan.after))]) [] := by
  refine Gives.of_w TryEnv Try.func36 (by decide) TryL36_ok Try.ntmps36 (rs := [.cell 6 32]) rfl (by simp) [] (by decide) ?_; rw [TryL36]
  simp -implicitDefEqProofs only [go_sem, ↓reduceIte, Nat.reduceEqDiff, Nat.reduceAdd, Nat.reduceMul, Nat.reduceSub, Nat.reduceLeDiff, Nat.reduceLT, Nat.reducePow, reduceCtorEq, Int.reduceToNat, Int.reduceLT, Int.reduceLE, Int.reduceEq, Int.reduceAdd, Int.reduceSub, Int.reduceMul, Int.reduceNeg, Int.reduceTMod, Int.reduceTDiv, List.replicate_zero, List.replicate_succ]
  simp [intentR, emptyP, VLe_tup, VLe_agg, VLe_c, VsLe_nil, VsLe_cons, CsLe_nil, CsLe_cons, CLe_d, CLe_self, DLe_self, DLe_nil, trs_nil, stps_nil, afts_nil]
theorem answer37 (i a : Int) : Gives Try.prog 37 [.c (.int .i64 i), .c (.int .u8 a)] (.agg [.d (.int .u8 (answerR i a).kind), .d (.int .i64 (answerR i a).place), .d (.int .i64 (answerR i a).id), .d (.int .i64 (answerR i a).lease), .d (.int .u8 (answerR i a).ans), .d (.sl 4 (stps (answerR i a).plan.steps)), .d (.sl 1 (afts (answerR i a).plan.after))]) [] := by
  refine Gives.of_w TryEnv Try.func37 (by decide) TryL37_ok Try.ntmps37 (rs := [.cell 4 32]) rfl (by simp) [] (by decide) ?_; rw [TryL37]
  simp -implicitDefEqProofs only [go_sem, ↓reduceIte, Nat.reduceEqDiff, Nat.reduceAdd, Nat.reduceMul, Nat.reduceSub, Nat.reduceLeDiff, Nat.reduceLT, Nat.reducePow, reduceCtorEq, Int.reduceToNat, Int.reduceLT, Int.reduceLE, Int.reduceEq, Int.reduceAdd, Int.reduceSub, Int.reduceMul, Int.reduceNeg, Int.reduceTMod, Int.reduceTDiv, List.replicate_zero, List.replicate_succ]
  simp [answerR, emptyP, VLe_tup, VLe_agg, VLe_c, VsLe_nil, VsLe_cons, CsLe_nil, CsLe_cons, CLe_d, CLe_self, DLe_self, DLe_nil, trs_nil, stps_nil, afts_nil]

def twoP : Pl := ⟨[⟨1, 1, 0, 0⟩, ⟨2, 2, 0, 0⟩], [[], [0]]⟩
theorem two38 : Gives Try.prog 38 [] (.agg [.d (.sl 4 (stps twoP.steps)), .d (.sl 1 (afts twoP.after))]) [] := by
  refine Gives.of_w TryEnv Try.func38 (by decide) TryL38_ok Try.ntmps38 (rs := [.cell 0 25]) rfl (by simp) [] (by decide) ?_; rw [TryL38]
  repeat' first
    | simp -implicitDefEqProofs only [go_sem, ↓reduceIte, Nat.reduceEqDiff, Nat.reduceAdd, Nat.reduceMul, Nat.reduceSub, Nat.reduceLeDiff, Nat.reduceLT, Nat.reducePow, reduceCtorEq, Int.reduceToNat, Int.reduceLT, Int.reduceLE, Int.reduceEq, Int.reduceAdd, Int.reduceSub, Int.reduceMul, Int.reduceNeg, Int.reduceTMod, Int.reduceTDiv, List.replicate_zero, List.replicate_succ]
    | refine Also.mk (by decide) ?_
    | apply And.intro
  all_goals simp [twoP, stps, afts, nums, VLe_tup, VLe_agg, VLe_c, VsLe_nil, VsLe_cons, CsLe_nil, CsLe_cons, CLe_d, CLe_self, DLe_self, DLe_nil, trs_nil, stps_nil, afts_nil]
  exact DLe.els ⟨⟨.nil 1, trivial⟩, ⟨.refl _, trivial⟩, trivial⟩

def rcs (l : List Rc) : List (List D) := l.map fun r => [.int .u8 r.kind, .int .i64 r.place, .int .i64 r.id, .int .i64 r.lease, .int .u8 r.ans, .sl 4 (stps r.plan.steps), .sl 1 (afts r.plan.after)]
@[go_sem] theorem rcs_length (l : List Rc) : (rcs l).length = l.length := by simp [rcs]
theorem rcs_get (l : List Rc) (i : Nat) : (rcs l)[i]? = (l[i]?).map fun r => [.int .u8 r.kind, .int .i64 r.place, .int .i64 r.id, .int .i64 r.lease, .int .u8 r.ans, .sl 4 (stps r.plan.steps), .sl 1 (afts r.plan.after)] := by simp [rcs]

def goN (x : Ex) (k : Nat) : List Rc → Ex × Int × Int
  | [] => (x, k, 0)
  | r :: l => if (nextN x r).2 = 0 then goN (nextN x r).1 (k + 1) l else (x, k, 8)
def replayN (l : List Rc) : Ex × Int × Int := if 400 < l.length then (firstN, 0, 3) else goN firstN 0 l

theorem effectN_small {x y : Ex} {r : Rc} (hx : x.small) (hr : r.small) (h : effectN x r = some y) : y.small := by
  unfold effectN at h
  obtain ⟨h1, h2⟩ := hx
  repeat' split at h
  all_goals first
    | (cases h; done)
    | (cases h
       first
         | exact ⟨hr, by simp [begunN]; exact hr.1⟩
         | exact ⟨h1, by simpa [askedN, saidN] using h2⟩)
theorem Ex.zero_small : Ex.zero.small := by simp [Ex.zero, Ex.small, Pl.small]
theorem nextN_small {x : Ex} {r : Rc} (hx : x.small) (hr : r.small) : (nextN x r).1.small := by
  unfold nextN
  split
  · split
    · rename_i y h
      exact effectN_small hx hr h
    · exact Ex.zero_small
  · exact Ex.zero_small
theorem goN_get {x : Ex} {l : List Rc} {k : Nat} (h : k < l.length) : goN x k (l.drop k) = if (nextN x l[k]).2 = 0 then goN (nextN x l[k]).1 (k + 1) (l.drop (k + 1)) else (x, (k : Int), 8) := by
  rw [List.drop_eq_getElem_cons h, goN]

theorem replay30 (l : List Rc) (hl : l.length ≤ 1000000) (hr : ∀ r ∈ l, r.small) : Gives Try.prog 30 [.c (.sl 7 (rcs l))] (.tup [.agg [.d (.bool ((replayN l).1).run), .d (.bool ((replayN l).1).stp), .d (.sl 4 (stps ((replayN l).1).plan.steps)), .d (.sl 1 (afts ((replayN l).1).plan.after)), .d (.sl 3 (trs ((replayN l).1).tries)), .d (.int .i64 ((replayN l).1).next)], .c (.d (.int .i64 (replayN l).2.1)), .c (.d (.int .i64 (replayN l).2.2))]) [] := by
  refine Gives.of_w TryEnv Try.func30 (by decide) TryL30_ok Try.ntmps30 (rs := [.cell 2 28, .tmp 3, .tmp 4]) rfl (by simp) [] (by decide) ?_; rw [TryL30]
  repeat' first
    | simp -implicitDefEqProofs only [go_sem, ↓reduceIte, Nat.reduceEqDiff, Nat.reduceAdd, Nat.reduceMul, Nat.reduceSub, Nat.reduceLeDiff, Nat.reduceLT, Nat.reducePow, reduceCtorEq, Int.reduceToNat, Int.reduceLT, Int.reduceLE, Int.reduceEq, Int.reduceAdd, Int.reduceSub, Int.reduceMul, Int.reduceNeg, Int.reduceTMod, Int.reduceTDiv, List.replicate_zero, List.replicate_succ]
    | (refine wCall_intro first32 ?_ ?_ ?_; rfl; decide)
    | refine wfork_intro (fun h => ?_) (fun h => ?_)
  · have h : 400 < l.length := by simp at h; omega
    have hN : replayN l = (firstN, 0, 3) := by rw [replayN, if_pos h]
    rw [hN]
    simp [VLe_tup, VLe_agg, VLe_c, VsLe_nil, VsLe_cons, CsLe_nil, CsLe_cons, CLe_d, CLe_self, DLe_self, DLe_nil, VLe_self]
  · have h : ¬ 400 < l.length := by simp at h; omega
    have hN : replayN l = goN firstN 0 l := by rw [replayN, if_neg h]
    generalize hR : replayN l = R at *
    refine wT_loop (fun k : { k : Nat × Ex // k.1 ≤ l.length ∧ R = goN k.2 k.1 (l.drop k.1) ∧ k.2.small } => ⟨[(0, .c (.d (.sl 7 (rcs l)))), (2, .c (.ptr 0 0)), (5, .c (.ptr 16 0)), (15, .c (.d (.sl 7 (rcs l)))), (16, .c (.d (.int .i64 (l.length : Nat)))), (17, .c (.d (.int .i64 (k.1.1 : Nat))))],
      [(0, .box [.d (.bool false), .d (.bool false), .d .nilSl, .d .nilSl, .d .nilSl, .d (.int .i64 0)]), (16, .box [.d (.bool k.1.2.run), .d (.bool k.1.2.stp), .d (.sl 4 (stps k.1.2.plan.steps)), .d (.sl 1 (afts k.1.2.plan.after)), .d (.sl 3 (trs k.1.2.tries)), .d (.int .i64 k.1.2.next)])], 17⟩) (fun k => l.length - k.1.1) ⟨(0, firstN), Nat.zero_le _, by simpa using hN, firstN_small⟩ ?_ ?_
    · refine Wk.sub ?_ ?_ (by decide) (by decide) ?_ ?_
      all_goals simp -implicitDefEqProofs only [go_sem, ↓reduceIte, Nat.reduceEqDiff, Nat.reduceAdd, Nat.reduceMul, Nat.reduceSub, Nat.reduceLeDiff, Nat.reduceLT, Nat.reducePow, reduceCtorEq, Int.reduceToNat, Int.reduceLT, Int.reduceLE, Int.reduceEq, Int.reduceAdd, Int.reduceSub, Int.reduceMul, Int.reduceNeg, Int.reduceTMod, Int.reduceTDiv, List.replicate_zero, List.replicate_succ, Int.natCast_zero]
    · rintro ⟨⟨k, x⟩, hk, hkk, hx⟩
      refine wT_of TryEnv ?_
      dsimp only at hk hkk hx ⊢
      simp -implicitDefEqProofs only [go_sem, ↓reduceIte, Nat.reduceEqDiff, Nat.reduceAdd, Nat.reduceMul, Nat.reduceSub, Nat.reduceLeDiff, Nat.reduceLT, Nat.reducePow, reduceCtorEq, Int.reduceToNat, Int.reduceLT, Int.reduceLE, Int.reduceEq, Int.reduceAdd, Int.reduceSub, Int.reduceMul, Int.reduceNeg, Int.reduceTMod, Int.reduceTDiv, List.replicate_zero, List.replicate_succ]
      refine wfork_intro (fun h3 => ?_) (fun h3 => ?_)
      · have h3 : k < l.length := by simp at h3; omega
        have hg : l[k]? = some l[k] := List.getElem?_eq_getElem h3
        have hm := hr _ (List.getElem_mem h3)
        rw [goN_get h3] at hkk
        generalize l[k] = r at *
        have hc := next13 x r hx hm
        have hs := nextN_small hx hm
        generalize nextN x r = y at *
        obtain ⟨y, e⟩ := y
        dsimp only at hkk hc hs
        repeat' first
          | simp -implicitDefEqProofs only [go_sem, ↓reduceIte, Nat.reduceEqDiff, Nat.reduceAdd, Nat.reduceMul, Nat.reduceSub, Nat.reduceLeDiff, Nat.reduceLT, Nat.reducePow, reduceCtorEq, Int.reduceToNat, Int.reduceLT, Int.reduceLE, Int.reduceEq, Int.reduceAdd, Int.reduceSub, Int.reduceMul, Int.reduceNeg, Int.reduceTMod, Int.reduceTDiv, List.replicate_zero, List.replicate_succ, rcs_get, hg, Int.toNat_natCast, Int.natCast_nonneg]
          | refine Also.mk (by decide) ?_
          | (refine wCall_intro hc ?_ ?_ ?_; rfl; decide)
          | refine wfork_intro (fun h5 => ?_) (fun h5 => ?_)
        · have h5 : ¬ e = 0 := by simpa using h5
          rw [if_neg h5] at hkk
          rw [hkk]
          simp [VLe_tup, VLe_agg, VLe_c, VsLe_nil, VsLe_cons, CsLe_nil, CsLe_cons, CLe_d, CLe_self, DLe_self, DLe_nil, VLe_self]
        · have h5 : e = 0 := by simpa using h5
          rw [if_pos h5] at hkk
          refine ⟨⟨(k + 1, y), by dsimp only; omega, hkk, hs⟩, Wk.sub (by simp -implicitDefEqProofs only [go_sem, ↓reduceIte, Nat.reduceEqDiff, Nat.reduceAdd, Nat.reduceMul, Nat.reduceSub, Nat.reduceLeDiff, Nat.reduceLT, Nat.reducePow, reduceCtorEq, Int.reduceToNat, Int.reduceLT, Int.reduceLE, Int.reduceEq, Int.reduceAdd, Int.reduceSub, Int.reduceMul, Int.reduceNeg, Int.reduceTMod, Int.reduceTDiv, List.replicate_zero, List.replicate_succ, ctr (show k ≤ 1000000 by omega)]) (by simp -implicitDefEqProofs only [go_sem, ↓reduceIte, Nat.reduceEqDiff, Nat.reduceAdd, Nat.reduceMul, Nat.reduceSub, Nat.reduceLeDiff, Nat.reduceLT, Nat.reducePow, reduceCtorEq, Int.reduceToNat, Int.reduceLT, Int.reduceLE, Int.reduceEq, Int.reduceAdd, Int.reduceSub, Int.reduceMul, Int.reduceNeg, Int.reduceTMod, Int.reduceTDiv, List.replicate_zero, List.replicate_succ]) (by decide) (by decide) (by simp -implicitDefEqProofs only [go_sem, ↓reduceIte, Nat.reduceEqDiff, Nat.reduceAdd, Nat.reduceMul, Nat.reduceSub, Nat.reduceLeDiff, Nat.reduceLT, Nat.reducePow, reduceCtorEq, Int.reduceToNat, Int.reduceLT, Int.reduceLE, Int.reduceEq, Int.reduceAdd, Int.reduceSub, Int.reduceMul, Int.reduceNeg, Int.reduceTMod, Int.reduceTDiv, List.replicate_zero, List.replicate_succ]) (by simp -implicitDefEqProofs only [go_sem, ↓reduceIte, Nat.reduceEqDiff, Nat.reduceAdd, Nat.reduceMul, Nat.reduceSub, Nat.reduceLeDiff, Nat.reduceLT, Nat.reducePow, reduceCtorEq, Int.reduceToNat, Int.reduceLT, Int.reduceLE, Int.reduceEq, Int.reduceAdd, Int.reduceSub, Int.reduceMul, Int.reduceNeg, Int.reduceTMod, Int.reduceTDiv, List.replicate_zero, List.replicate_succ]), by dsimp only; omega⟩
      · have h3 : k = l.length := by simp at h3; omega
        subst h3
        rw [List.drop_length, goN] at hkk
        simp -implicitDefEqProofs only [go_sem, ↓reduceIte, Nat.reduceEqDiff, Nat.reduceAdd, Nat.reduceMul, Nat.reduceSub, Nat.reduceLeDiff, Nat.reduceLT, Nat.reducePow, reduceCtorEq, Int.reduceToNat, Int.reduceLT, Int.reduceLE, Int.reduceEq, Int.reduceAdd, Int.reduceSub, Int.reduceMul, Int.reduceNeg, Int.reduceTMod, Int.reduceTDiv, List.replicate_zero, List.replicate_succ]
        rw [hkk]
        simp [VLe_tup, VLe_agg, VLe_c, VsLe_nil, VsLe_cons, CsLe_nil, CsLe_cons, CLe_d, CLe_self, DLe_self, DLe_nil, VLe_self]

theorem refReplay31 (l : List Rc) (hl : l.length ≤ 1000000) (hr : ∀ r ∈ l, r.small) : Gives Try.prog 31 [.c (.sl 7 (rcs l))] (.tup [.agg [.d (.bool ((replayN l).1).run), .d (.bool ((replayN l).1).stp), .d (.sl 4 (stps ((replayN l).1).plan.steps)), .d (.sl 1 (afts ((replayN l).1).plan.after)), .d (.sl 3 (trs ((replayN l).1).tries)), .d (.int .i64 ((replayN l).1).next)], .c (.d (.int .i64 (replayN l).2.1)), .c (.d (.int .i64 (replayN l).2.2))]) [] := by
  refine Gives.of_w TryEnv Try.func31 (by decide) TryL31_ok Try.ntmps31 (rs := [.cell 2 28, .tmp 3, .tmp 4]) rfl (by simp) [] (by decide) ?_; rw [TryL31]
  repeat' first
    | simp -implicitDefEqProofs only [go_sem, ↓reduceIte, Nat.reduceEqDiff, Nat.reduceAdd, Nat.reduceMul, Nat.reduceSub, Nat.reduceLeDiff, Nat.reduceLT, Nat.reducePow, reduceCtorEq, Int.reduceToNat, Int.reduceLT, Int.reduceLE, Int.reduceEq, Int.reduceAdd, Int.reduceSub, Int.reduceMul, Int.reduceNeg, Int.reduceTMod, Int.reduceTDiv, List.replicate_zero, List.replicate_succ]
    | (refine wCall_intro refFirst33 ?_ ?_ ?_; rfl; decide)
    | refine wfork_intro (fun h => ?_) (fun h => ?_)
  · have h : 400 < l.length := by simp at h; omega
    have hN : replayN l = (firstN, 0, 3) := by rw [replayN, if_pos h]
    rw [hN]
    simp [VLe_tup, VLe_agg, VLe_c, VsLe_nil, VsLe_cons, CsLe_nil, CsLe_cons, CLe_d, CLe_self, DLe_self, DLe_nil, VLe_self]
  · have h : ¬ 400 < l.length := by simp at h; omega
    have hN : replayN l = goN firstN 0 l := by rw [replayN, if_neg h]
    generalize hR : replayN l = R at *
    refine wT_loop (fun k : { k : Nat × Ex // k.1 ≤ l.length ∧ R = goN k.2 k.1 (l.drop k.1) ∧ k.2.small } => ⟨[(0, .c (.d (.sl 7 (rcs l)))), (2, .c (.ptr 0 0)), (5, .c (.ptr 16 0)), (6, .c (.d (.int .i64 (k.1.1 : Nat))))],
      [(0, .box [.d (.bool false), .d (.bool false), .d .nilSl, .d .nilSl, .d .nilSl, .d (.int .i64 0)]), (16, .box [.d (.bool k.1.2.run), .d (.bool k.1.2.stp), .d (.sl 4 (stps k.1.2.plan.steps)), .d (.sl 1 (afts k.1.2.plan.after)), .d (.sl 3 (trs k.1.2.tries)), .d (.int .i64 k.1.2.next)])], 17⟩) (fun k => l.length - k.1.1) ⟨(0, firstN), Nat.zero_le _, by simpa using hN, firstN_small⟩ ?_ ?_
    · refine Wk.sub ?_ ?_ (by decide) (by decide) ?_ ?_
      all_goals simp -implicitDefEqProofs only [go_sem, ↓reduceIte, Nat.reduceEqDiff, Nat.reduceAdd, Nat.reduceMul, Nat.reduceSub, Nat.reduceLeDiff, Nat.reduceLT, Nat.reducePow, reduceCtorEq, Int.reduceToNat, Int.reduceLT, Int.reduceLE, Int.reduceEq, Int.reduceAdd, Int.reduceSub, Int.reduceMul, Int.reduceNeg, Int.reduceTMod, Int.reduceTDiv, List.replicate_zero, List.replicate_succ, Int.natCast_zero]
    · rintro ⟨⟨k, x⟩, hk, hkk, hx⟩
      refine wT_of TryEnv ?_
      dsimp only at hk hkk hx ⊢
      simp -implicitDefEqProofs only [go_sem, ↓reduceIte, Nat.reduceEqDiff, Nat.reduceAdd, Nat.reduceMul, Nat.reduceSub, Nat.reduceLeDiff, Nat.reduceLT, Nat.reducePow, reduceCtorEq, Int.reduceToNat, Int.reduceLT, Int.reduceLE, Int.reduceEq, Int.reduceAdd, Int.reduceSub, Int.reduceMul, Int.reduceNeg, Int.reduceTMod, Int.reduceTDiv, List.replicate_zero, List.replicate_succ]
      refine wfork_intro (fun h3 => ?_) (fun h3 => ?_)
      · have h3 : k < l.length := by simp at h3; omega
        have hg : l[k]? = some l[k] := List.getElem?_eq_getElem h3
        have hm := hr _ (List.getElem_mem h3)
        rw [goN_get h3] at hkk
        generalize l[k] = r at *
        have hc := refNext14 x r hx hm
        have hs := nextN_small hx hm
        generalize nextN x r = y at *
        obtain ⟨y, e⟩ := y
        dsimp only at hkk hc hs
        repeat' first
          | simp -implicitDefEqProofs only [go_sem, ↓reduceIte, Nat.reduceEqDiff, Nat.reduceAdd, Nat.reduceMul, Nat.reduceSub, Nat.reduceLeDiff, Nat.reduceLT, Nat.reducePow, reduceCtorEq, Int.reduceToNat, Int.reduceLT, Int.reduceLE, Int.reduceEq, Int.reduceAdd, Int.reduceSub, Int.reduceMul, Int.reduceNeg, Int.reduceTMod, Int.reduceTDiv, List.replicate_zero, List.replicate_succ, rcs_get, hg, Int.toNat_natCast, Int.natCast_nonneg]
          | refine Also.mk (by decide) ?_
          | (refine wCall_intro hc ?_ ?_ ?_; rfl; decide)
          | refine wfork_intro (fun h5 => ?_) (fun h5 => ?_)
        · have h5 : ¬ e = 0 := by simpa using h5
          rw [if_neg h5] at hkk
          rw [hkk]
          simp [VLe_tup, VLe_agg, VLe_c, VsLe_nil, VsLe_cons, CsLe_nil, CsLe_cons, CLe_d, CLe_self, DLe_self, DLe_nil, VLe_self]
        · have h5 : e = 0 := by simpa using h5
          rw [if_pos h5] at hkk
          refine ⟨⟨(k + 1, y), by dsimp only; omega, hkk, hs⟩, Wk.sub (by simp -implicitDefEqProofs only [go_sem, ↓reduceIte, Nat.reduceEqDiff, Nat.reduceAdd, Nat.reduceMul, Nat.reduceSub, Nat.reduceLeDiff, Nat.reduceLT, Nat.reducePow, reduceCtorEq, Int.reduceToNat, Int.reduceLT, Int.reduceLE, Int.reduceEq, Int.reduceAdd, Int.reduceSub, Int.reduceMul, Int.reduceNeg, Int.reduceTMod, Int.reduceTDiv, List.replicate_zero, List.replicate_succ, ctr (show k ≤ 1000000 by omega)]) (by simp -implicitDefEqProofs only [go_sem, ↓reduceIte, Nat.reduceEqDiff, Nat.reduceAdd, Nat.reduceMul, Nat.reduceSub, Nat.reduceLeDiff, Nat.reduceLT, Nat.reducePow, reduceCtorEq, Int.reduceToNat, Int.reduceLT, Int.reduceLE, Int.reduceEq, Int.reduceAdd, Int.reduceSub, Int.reduceMul, Int.reduceNeg, Int.reduceTMod, Int.reduceTDiv, List.replicate_zero, List.replicate_succ]) (by decide) (by decide) (by simp -implicitDefEqProofs only [go_sem, ↓reduceIte, Nat.reduceEqDiff, Nat.reduceAdd, Nat.reduceMul, Nat.reduceSub, Nat.reduceLeDiff, Nat.reduceLT, Nat.reducePow, reduceCtorEq, Int.reduceToNat, Int.reduceLT, Int.reduceLE, Int.reduceEq, Int.reduceAdd, Int.reduceSub, Int.reduceMul, Int.reduceNeg, Int.reduceTMod, Int.reduceTDiv, List.replicate_zero, List.replicate_succ]) (by simp -implicitDefEqProofs only [go_sem, ↓reduceIte, Nat.reduceEqDiff, Nat.reduceAdd, Nat.reduceMul, Nat.reduceSub, Nat.reduceLeDiff, Nat.reduceLT, Nat.reducePow, reduceCtorEq, Int.reduceToNat, Int.reduceLT, Int.reduceLE, Int.reduceEq, Int.reduceAdd, Int.reduceSub, Int.reduceMul, Int.reduceNeg, Int.reduceTMod, Int.reduceTDiv, List.replicate_zero, List.replicate_succ]), by dsimp only; omega⟩
      · have h3 : k = l.length := by simp at h3; omega
        subst h3
        rw [List.drop_length, goN] at hkk
        simp -implicitDefEqProofs only [go_sem, ↓reduceIte, Nat.reduceEqDiff, Nat.reduceAdd, Nat.reduceMul, Nat.reduceSub, Nat.reduceLeDiff, Nat.reduceLT, Nat.reducePow, reduceCtorEq, Int.reduceToNat, Int.reduceLT, Int.reduceLE, Int.reduceEq, Int.reduceAdd, Int.reduceSub, Int.reduceMul, Int.reduceNeg, Int.reduceTMod, Int.reduceTDiv, List.replicate_zero, List.replicate_succ]
        rw [hkk]
        simp [VLe_tup, VLe_agg, VLe_c, VsLe_nil, VsLe_cons, CsLe_nil, CsLe_cons, CLe_d, CLe_self, DLe_self, DLe_nil, VLe_self]

end Go.Proofs.Ytbdodpippgakjaa

namespace Go.Proofs.Ytbdodpippgakjaa
open Go Go.Vs Go.Proofs

/-! ### What is small enough to be looked at -/

def sumK (p : Pl) (k : Nat) : Nat := p.steps.length + p.after.length + ((p.after.take k).map List.length).sum
def lightN (p : Pl) : Bool := decide (sumK p 50 ≤ 500) && decide (p.after.length ≤ 50)
def Pl.fits (p : Pl) : Prop := p.steps.length ≤ 140737488351232 ∧ p.after.length ≤ 140737488351232 ∧ ∀ l ∈ p.after, l.length ≤ 140737488351232

theorem sumK_succ (p : Pl) {k : Nat} (h : k < p.after.length) : sumK p (k + 1) = sumK p k + p.after[k].length := by
  unfold sumK
  rw [List.take_add_one, List.getElem?_eq_getElem h, List.map_append, List.sum_append]
  simp only [Option.toList_some, List.map_cons, List.map_nil, List.sum_cons, List.sum_nil]
  omega
theorem sumK_le (p : Pl) (hp : p.fits) (k : Nat) : sumK p k ≤ (k + 2) * 140737488351232 := by
  have : ∀ l : List (List Int), (∀ x ∈ l, x.length ≤ 140737488351232) → ∀ k, ((l.take k).map List.length).sum ≤ k * 140737488351232 := by
    intro l
    induction l with
    | nil => simp
    | cons a l ih =>
      intro hl k
      cases k with
      | zero => simp
      | succ k =>
        have h1 := hl a (List.mem_cons_self ..)
        have h2 := ih (fun x hx => hl x (List.mem_cons_of_mem _ hx)) k
        simp only [List.take_succ_cons, List.map_cons, List.sum_cons, Nat.add_mul, Nat.one_mul]
        omega
  have := this p.after hp.2.2 k
  have h1 := hp.1
  have h2 := hp.2.1
  simp only [sumK, Nat.add_mul]
  omega
theorem lightN_small {p : Pl} (h : lightN p = true) : p.small := by
  simp only [lightN, Bool.and_eq_true, decide_eq_true_eq] at h
  obtain ⟨h1, h2⟩ := h
  have ht : p.after.take 50 = p.after := List.take_of_length_le h2
  have hs : ∀ (l : List (List Int)) x, x ∈ l → x.length ≤ (l.map List.length).sum := by
    intro l
    induction l with
    | nil => simp
    | cons a l ih =>
      intro x hx
      simp only [List.map_cons, List.sum_cons]
      rcases List.mem_cons.1 hx with rfl | hx
      · omega
      · have := ih x hx; omega
  unfold sumK at h1
  rw [ht] at h1
  refine ⟨by omega, by omega, fun l hl => ?_⟩
  have := hs _ _ hl
  omega

theorem light10 (p : Pl) (hp : p.fits) : Gives Try.prog 10 [.agg [.sl 4 (stps p.steps), .sl 1 (afts p.after)]] (.c (.d (.bool (lightN p)))) [] := by
  have hw : ∀ k, k ≤ 50 → IntKind.i64.wrap (sumK p k : Nat) = (sumK p k : Nat) := fun k hk => by
    have h1 := sumK_le p hp k
    have h2 : (k + 2) * 140737488351232 ≤ 52 * 140737488351232 := Nat.mul_le_mul_right _ (by omega)
    have h3 : 52 * 140737488351232 ≤ 9223372036854775807 := by decide
    rw [wrap64 (by omega) (by omega)]
  have h0 : ((p.steps.length : Nat) : Int) + ((p.after.length : Nat) : Int) = ((sumK p 0 : Nat) : Int) := by simp [sumK]
  refine Gives.of_w TryEnv Try.func10 (by decide) TryL10_ok Try.ntmps10 (rs := [.tmp 2]) rfl (by simp) [] (by decide) ?_; rw [TryL10]
  simp -implicitDefEqProofs only [go_sem, ↓reduceIte, Nat.reduceEqDiff, Nat.reduceAdd, Nat.reduceMul, Nat.reduceSub, Nat.reduceLeDiff, Nat.reduceLT, Nat.reducePow, reduceCtorEq, Int.reduceToNat, Int.reduceLT, Int.reduceLE, Int.reduceEq, Int.reduceAdd, Int.reduceSub, Int.reduceMul, Int.reduceNeg, Int.reduceTMod, Int.reduceTDiv, List.replicate_zero, List.replicate_succ, h0, hw 0 (by omega)]
  refine wT_loop (fun k : { k : Nat // k ≤ p.after.length ∧ k ≤ 50 } => ⟨[(1, .c (.ptr 0 0)), (3, .c (.d (.int .i64 (sumK p k.1 : Nat)))), (4, .c (.d (.int .i64 (k.1 : Nat))))],
    [(0, .box [.d (.sl 4 (stps p.steps)), .d (.sl 1 (afts p.after))])], 1⟩) (fun k => 50 - k.1) ⟨0, Nat.zero_le _, Nat.zero_le _⟩ ?_ ?_
  · refine Wk.sub ?_ ?_ (by decide) (by decide) ?_ ?_
    all_goals simp -implicitDefEqProofs only [go_sem, ↓reduceIte, Nat.reduceEqDiff, Nat.reduceAdd, Nat.reduceMul, Nat.reduceSub, Nat.reduceLeDiff, Nat.reduceLT, Nat.reducePow, reduceCtorEq, Int.reduceToNat, Int.reduceLT, Int.reduceLE, Int.reduceEq, Int.reduceAdd, Int.reduceSub, Int.reduceMul, Int.reduceNeg, Int.reduceTMod, Int.reduceTDiv, List.replicate_zero, List.replicate_succ, Int.natCast_zero]
  · rintro ⟨k, hk, hk2⟩
    refine wT_of TryEnv ?_
    have hfin : ¬ (k < p.after.length ∧ k < 50) → sumK p k = sumK p 50 := fun hn => by
      by_cases e : k = 50
      · rw [e]
      · have : k = p.after.length := by omega
        unfold sumK
        rw [List.take_of_length_le (by omega), List.take_of_length_le (by omega)]
    repeat' first
      | simp -implicitDefEqProofs only [go_sem, ↓reduceIte, Nat.reduceEqDiff, Nat.reduceAdd, Nat.reduceMul, Nat.reduceSub, Nat.reduceLeDiff, Nat.reduceLT, Nat.reducePow, reduceCtorEq, Int.reduceToNat, Int.reduceLT, Int.reduceLE, Int.reduceEq, Int.reduceAdd, Int.reduceSub, Int.reduceMul, Int.reduceNeg, Int.reduceTMod, Int.reduceTDiv, List.replicate_zero, List.replicate_succ, h0, hw k hk2]
      | refine wfork_intro (fun h3 => ?_) (fun h3 => ?_)
      | (rename decide ((k : Int) < (p.after.length : Int)) = true => h4
         rename decide ((k : Int) < 50) = true => h5
         have h4 : k < p.after.length := by simp at h4; omega
         have h5 : k < 50 := by simp at h5; omega
         have hg : p.after[k]? = some p.after[k] := List.getElem?_eq_getElem h4
         have hs := sumK_succ p h4
         have hs2 : ((sumK p k : Nat) : Int) + (p.after[k].length : Nat) = ((sumK p (k + 1) : Nat) : Int) := by rw [hs]; simp
         simp -implicitDefEqProofs only [go_sem, ↓reduceIte, Nat.reduceEqDiff, Nat.reduceAdd, Nat.reduceMul, Nat.reduceSub, Nat.reduceLeDiff, Nat.reduceLT, Nat.reducePow, reduceCtorEq, Int.reduceToNat, Int.reduceLT, Int.reduceLE, Int.reduceEq, Int.reduceAdd, Int.reduceSub, Int.reduceMul, Int.reduceNeg, Int.reduceTMod, Int.reduceTDiv, List.replicate_zero, List.replicate_succ, afts_get, hg, Int.toNat_natCast, Int.natCast_nonneg, hs2, hw (k + 1) (by omega)]
         refine ⟨⟨k + 1, by omega, by omega⟩, Wk.sub (by simp -implicitDefEqProofs only [go_sem, ↓reduceIte, Nat.reduceEqDiff, Nat.reduceAdd, Nat.reduceMul, Nat.reduceSub, Nat.reduceLeDiff, Nat.reduceLT, Nat.reducePow, reduceCtorEq, Int.reduceToNat, Int.reduceLT, Int.reduceLE, Int.reduceEq, Int.reduceAdd, Int.reduceSub, Int.reduceMul, Int.reduceNeg, Int.reduceTMod, Int.reduceTDiv, List.replicate_zero, List.replicate_succ, ctr (show k ≤ 1000000 by omega)]) (by simp -implicitDefEqProofs only [go_sem, ↓reduceIte, Nat.reduceEqDiff, Nat.reduceAdd, Nat.reduceMul, Nat.reduceSub, Nat.reduceLeDiff, Nat.reduceLT, Nat.reducePow, reduceCtorEq, Int.reduceToNat, Int.reduceLT, Int.reduceLE, Int.reduceEq, Int.reduceAdd, Int.reduceSub, Int.reduceMul, Int.reduceNeg, Int.reduceTMod, Int.reduceTDiv, List.replicate_zero, List.replicate_succ]) (by decide) (by decide) (by simp -implicitDefEqProofs only [go_sem, ↓reduceIte, Nat.reduceEqDiff, Nat.reduceAdd, Nat.reduceMul, Nat.reduceSub, Nat.reduceLeDiff, Nat.reduceLT, Nat.reducePow, reduceCtorEq, Int.reduceToNat, Int.reduceLT, Int.reduceLE, Int.reduceEq, Int.reduceAdd, Int.reduceSub, Int.reduceMul, Int.reduceNeg, Int.reduceTMod, Int.reduceTDiv, List.replicate_zero, List.replicate_succ]) (by simp -implicitDefEqProofs only [go_sem, ↓reduceIte, Nat.reduceEqDiff, Nat.reduceAdd, Nat.reduceMul, Nat.reduceSub, Nat.reduceLeDiff, Nat.reduceLT, Nat.reducePow, reduceCtorEq, Int.reduceToNat, Int.reduceLT, Int.reduceLE, Int.reduceEq, Int.reduceAdd, Int.reduceSub, Int.reduceMul, Int.reduceNeg, Int.reduceTMod, Int.reduceTDiv, List.replicate_zero, List.replicate_succ]), by dsimp only; omega⟩)
    all_goals (try simp only [decide_eq_true_eq, decide_eq_false_iff_not] at *)
    all_goals refine DLe.of_eq ?_
    all_goals (have hf := hfin (by omega); rw [hf] at *; clear hf)
    all_goals simp only [lightN, D.bool.injEq]
    all_goals rw [Bool.eq_iff_iff]
    all_goals simp only [Bool.and_eq_true, decide_eq_true_eq, Bool.false_eq_true, false_iff, not_and]
    all_goals omega
end Go.Proofs.Ytbdodpippgakjaa

namespace Go.Proofs.Ytbdodpippgakjaa
open Go Go.Vs Go.Proofs
set_option maxRecDepth 20000

/-! ### The examples that every law looks at -/

def planR : Rc := ⟨1, 0, 0, 0, 0, twoP⟩
theorem twoP_small : twoP.small := by simp [twoP, Pl.small]
theorem emptyP_small : emptyP.small := by simp [emptyP, Pl.small]
def liveL1 : List Rc := [planR, intentR 0 1 20, answerR 1 1]
def liveL2 : List Rc := [planR, intentR 0 1 20, planR]
def liveX : Ex := ⟨true, false, twoP, [⟨1, 20, 1⟩, ⟨0, 0, 0⟩], 2⟩
def liveY : Ex := ⟨true, false, twoP, [⟨1, 20, 0⟩, ⟨0, 0, 0⟩], 2⟩
theorem liveX_small : liveX.small := ⟨twoP_small, by simp [liveX]⟩
theorem liveY_small : liveY.small := ⟨twoP_small, by simp [liveY]⟩
theorem live1 : replayN liveL1 = (liveX, 3, 0) := by decide
theorem live2 : replayN liveL2 = (liveY, 2, 8) := by decide
theorem live3 : readyL liveX = [1] := by decide
theorem live4 : doneL liveX = [0] := by decide
theorem live5 : openN liveY = [⟨1, 20, ⟨1, 1, 0, 0⟩⟩] := by decide

theorem recs_small {l : List Rc} (h : ∀ r ∈ l, r.plan = twoP ∨ r.plan = emptyP) : ∀ r ∈ l, r.small := fun r hr => by
  unfold Rc.small
  rcases h r hr with e | e <;> rw [e]
  · exact twoP_small
  · exact emptyP_small

set_option maxHeartbeats 2000000 in
theorem lives11 : Gives Try.prog 11 [] (.c (.d (.bool true))) [] := by
  have h1 := replay30 liveL1 (by decide) (recs_small (by simp [liveL1, planR, intentR, answerR]))
  have h2 := replay30 liveL2 (by decide) (recs_small (by simp [liveL2, planR, intentR, answerR]))
  have h3 := ready21 liveX liveX_small
  have h4 := done26 liveX liveX_small
  have h5 := open24 liveY liveY_small
  have h6 := numbers20 [1] [1] (by decide) (by decide)
  have h7 := numbers20 [0] [0] (by decide) (by decide)
  have h8 := requests23 [⟨1, 20, ⟨1, 1, 0, 0⟩⟩] [⟨1, 20, ⟨1, 1, 0, 0⟩⟩] (by decide) (by decide)
  have h9 : (stps twoP.steps)[0]? = some [.int .u8 1, .int .i64 1, .int .i64 0, .int .i64 0] := rfl
  rw [live1] at h1
  rw [live2] at h2
  rw [live3] at h3
  rw [live4] at h4
  rw [live5] at h5
  simp only [rcs, liveL1, liveL2, planR, List.map_cons, List.map_nil, nums, rqs, decide_true] at h1 h2 h3 h4 h5 h6 h7 h8
  refine Gives.of_w TryEnv Try.func11 (by decide) TryL11_ok Try.ntmps11 (rs := [.tmp 0]) rfl (by simp) [] (by decide) ?_; rw [TryL11]
  repeat' first
    | simp -implicitDefEqProofs only [go_sem, ↓reduceIte, Nat.reduceEqDiff, Nat.reduceAdd, Nat.reduceMul, Nat.reduceSub, Nat.reduceLeDiff, Nat.reduceLT, Nat.reducePow, reduceCtorEq, Int.reduceToNat, Int.reduceLT, Int.reduceLE, Int.reduceEq, Int.reduceAdd, Int.reduceSub, Int.reduceMul, Int.reduceNeg, Int.reduceTMod, Int.reduceTDiv, List.replicate_zero, List.replicate_succ, h9]
    | (refine wCall_intro two38 ?_ ?_ ?_; rfl; decide)
    | (refine wCall_intro (intent36 _ _ _) ?_ ?_ ?_; rfl; decide)
    | (refine wCall_intro (answer37 _ _) ?_ ?_ ?_; rfl; decide)
    | (refine wCall_intro h1 ?_ ?_ ?_; rfl; decide)
    | (refine wCall_intro h2 ?_ ?_ ?_; rfl; decide)
    | (refine wCall_intro h3 ?_ ?_ ?_; rfl; decide)
    | (refine wCall_intro h4 ?_ ?_ ?_; rfl; decide)
    | (refine wCall_intro h5 ?_ ?_ ?_; rfl; decide)
    | (refine wCall_intro h6 ?_ ?_ ?_; rfl; decide)
    | (refine wCall_intro h7 ?_ ?_ ?_; rfl; decide)
    | (refine wCall_intro h8 ?_ ?_ ?_; rfl; decide)
    | refine Also.mk (by decide) ?_
    | apply And.intro
end Go.Proofs.Ytbdodpippgakjaa
