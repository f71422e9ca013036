/- This text proves a part of what the claim needs: contracts of functions of the program. No condition. -/
import Derived.Test.YtehmaafnbgpkcaaWn
set_option linter.unusedSimpArgs false
set_option linter.unusedVariables false

namespace Go.Proofs.Ytehmaafnbgpkcaa
open Go Go.Vs Go.Proofs

theorem writeR_bound (ns : N3) (r : R3) (e : Int) (m : List ByteArray) (hs : ns.small 1000000) (hb : ¬ boundN e m = 0) :
    Gives Try.prog 17 [.agg [.int .i64 ns.a.p, .int .i64 ns.a.e, .sl 1 (strs ns.a.log), .bool ns.a.lost, .int .i64 ns.b.p, .int .i64 ns.b.e, .sl 1 (strs ns.b.log), .bool ns.b.lost, .int .i64 ns.c.p, .int .i64 ns.c.e, .sl 1 (strs ns.c.log), .bool ns.c.lost], .agg [.int .u8 r.a, .int .u8 r.b, .int .u8 r.c], .c (.int .i64 e), .c (.sl 1 (strs m))]
    (.tup [.agg [.d (.int .i64 ns.a.p), .d (.int .i64 ns.a.e), .ref 0 ns.a.log.length 0 ns.a.log.length, .d (.bool ns.a.lost), .d (.int .i64 ns.b.p), .d (.int .i64 ns.b.e), .ref 1 ns.b.log.length 0 ns.b.log.length, .d (.bool ns.b.lost), .d (.int .i64 ns.c.p), .d (.int .i64 ns.c.e), .ref 2 ns.c.log.length 0 ns.c.log.length, .d (.bool ns.c.lost)], .c (.d (.bool false)), .c (.d (.int .i64 (boundN e m)))]) [.sl 1 (strs ns.a.log) false, .sl 1 (strs ns.b.log) false, .sl 1 (strs ns.c.log) false] := by
  refine Gives.of_wT TryEnv Try.func17 (by decide) TryL17_ok Try.ntmps17 (rs := [.cell 8 25, .tmp 9, .tmp 10]) rfl (by simp) [32, 33, 34] (by decide) ?_; rw [TryL17]
  refine wT_of TryEnv ?_
  repeat' first
    | simp -implicitDefEqProofs only [go_sem, ↓reduceIte, Nat.reduceEqDiff, Nat.reduceAdd, Nat.reduceMul, Nat.reduceSub, Nat.reduceLeDiff, Nat.reduceLT, Nat.reducePow, reduceCtorEq, Int.reduceToNat, Int.reduceLT, Int.reduceLE, Int.reduceEq, Int.reduceAdd, Int.reduceSub, Int.reduceMul, Int.reduceNeg, Int.reduceTMod, Int.reduceTDiv, List.replicate_zero, List.replicate_succ, hb, List.contains_cons]
    | (refine wCall_intro (ownR ns hs) ?_ ?_ ?_; rfl; exact Nat.le_of_ble_eq_true rfl)
    | (refine wCall_intro (bound40 _ _) ?_ ?_ ?_; rfl; decide)
  all_goals simp [VLe_self, CLe_self, DLe_self, CLe.refl, own0, own1, own2]

theorem refWrite_bound (ns : N3) (r : R3) (e : Int) (m : List ByteArray) (hs : ns.small 1000000) (hb : ¬ boundN e m = 0) :
    Gives Try.prog 18 [.agg [.int .i64 ns.a.p, .int .i64 ns.a.e, .sl 1 (strs ns.a.log), .bool ns.a.lost, .int .i64 ns.b.p, .int .i64 ns.b.e, .sl 1 (strs ns.b.log), .bool ns.b.lost, .int .i64 ns.c.p, .int .i64 ns.c.e, .sl 1 (strs ns.c.log), .bool ns.c.lost], .agg [.int .u8 r.a, .int .u8 r.b, .int .u8 r.c], .c (.int .i64 e), .c (.sl 1 (strs m))]
    (.tup [.agg [.d (.int .i64 ns.a.p), .d (.int .i64 ns.a.e), .d (.sl 1 (strs ns.a.log)), .d (.bool ns.a.lost), .d (.int .i64 ns.b.p), .d (.int .i64 ns.b.e), .d (.sl 1 (strs ns.b.log)), .d (.bool ns.b.lost), .d (.int .i64 ns.c.p), .d (.int .i64 ns.c.e), .d (.sl 1 (strs ns.c.log)), .d (.bool ns.c.lost)], .c (.d (.bool false)), .c (.d (.int .i64 (boundN e m)))]) [] := by
  refine Gives.of_wT TryEnv Try.func18 (by decide) TryL18_ok Try.ntmps18 (rs := [.cell 8 25, .tmp 9, .tmp 10]) rfl (by simp) [] (by decide) ?_; rw [TryL18]
  refine wT_of TryEnv ?_
  repeat' first
    | simp -implicitDefEqProofs only [go_sem, ↓reduceIte, Nat.reduceEqDiff, Nat.reduceAdd, Nat.reduceMul, Nat.reduceSub, Nat.reduceLeDiff, Nat.reduceLT, Nat.reducePow, reduceCtorEq, Int.reduceToNat, Int.reduceLT, Int.reduceLE, Int.reduceEq, Int.reduceAdd, Int.reduceSub, Int.reduceMul, Int.reduceNeg, Int.reduceTMod, Int.reduceTDiv, List.replicate_zero, List.replicate_succ, hb]
    | (refine wCall_intro (all37 ns hs) ?_ ?_ ?_; rfl; decide)
    | (refine wCall_intro (bound45 _ _) ?_ ?_ ?_; rfl; decide)

theorem kind_of (n : Nd) (r e : Int) : (arrivesN r = true ∧ n.lost = false ∧ ¬ e < n.p) ∨ (arrivesN r = false ∨ arrivesN r = true ∧ (n.lost = true ∨ e < n.p)) := by
  cases arrivesN r <;> cases n.lost <;> by_cases h : e < n.p <;> simp [h]

theorem writeR (ns : N3) (r : R3) (e : Int) (m : List ByteArray) (hs : ns.small 1000000) (hm : m.length ≤ 1000000) :
    Gives Try.prog 17 [.agg [.int .i64 ns.a.p, .int .i64 ns.a.e, .sl 1 (strs ns.a.log), .bool ns.a.lost, .int .i64 ns.b.p, .int .i64 ns.b.e, .sl 1 (strs ns.b.log), .bool ns.b.lost, .int .i64 ns.c.p, .int .i64 ns.c.e, .sl 1 (strs ns.c.log), .bool ns.c.lost], .agg [.int .u8 r.a, .int .u8 r.b, .int .u8 r.c], .c (.int .i64 e), .c (.sl 1 (strs m))]
    (.tup [.agg [.d (.int .i64 ((writeN r ns e m).1.a).p), .d (.int .i64 ((writeN r ns e m).1.a).e), .ref 0 ((writeN r ns e m).1.a).log.length 0 ((writeN r ns e m).1.a).log.length, .d (.bool ((writeN r ns e m).1.a).lost), .d (.int .i64 ((writeN r ns e m).1.b).p), .d (.int .i64 ((writeN r ns e m).1.b).e), .ref 1 ((writeN r ns e m).1.b).log.length 0 ((writeN r ns e m).1.b).log.length, .d (.bool ((writeN r ns e m).1.b).lost), .d (.int .i64 ((writeN r ns e m).1.c).p), .d (.int .i64 ((writeN r ns e m).1.c).e), .ref 2 ((writeN r ns e m).1.c).log.length 0 ((writeN r ns e m).1.c).log.length, .d (.bool ((writeN r ns e m).1.c).lost)], .c (.d (.bool (writeN r ns e m).2.1)), .c (.d (.int .i64 (writeN r ns e m).2.2))])
      [.sl 1 (strs (writeN r ns e m).1.a.log) false, .sl 1 (strs (writeN r ns e m).1.b.log) false, .sl 1 (strs (writeN r ns e m).1.c.log) false] := by
  by_cases hb : boundN e m = 0
  · rcases kind_of ns.a r.a e with h0 | h0 <;> rcases kind_of ns.b r.b e with h1 | h1 <;> rcases kind_of ns.c r.c e with h2 | h2
    · exact writeR_111 ns r e m hs hm hb h0 h1 h2 _ rfl
    · exact writeR_110 ns r e m hs hm hb h0 h1 h2 _ rfl
    · exact writeR_101 ns r e m hs hm hb h0 h1 h2 _ rfl
    · exact writeR_100 ns r e m hs hm hb h0 h1 h2 _ rfl
    · exact writeR_011 ns r e m hs hm hb h0 h1 h2 _ rfl
    · exact writeR_010 ns r e m hs hm hb h0 h1 h2 _ rfl
    · exact writeR_001 ns r e m hs hm hb h0 h1 h2 _ rfl
    · exact writeR_000 ns r e m hs hm hb h0 h1 h2 _ rfl
  · have hw : writeN r ns e m = (ns, false, boundN e m) := by rw [writeN, if_pos hb]
    rw [hw]
    exact writeR_bound ns r e m hs hb

theorem refWrite (ns : N3) (r : R3) (e : Int) (m : List ByteArray) (hs : ns.small 1000000) (hm : m.length ≤ 1000000) :
    Gives Try.prog 18 [.agg [.int .i64 ns.a.p, .int .i64 ns.a.e, .sl 1 (strs ns.a.log), .bool ns.a.lost, .int .i64 ns.b.p, .int .i64 ns.b.e, .sl 1 (strs ns.b.log), .bool ns.b.lost, .int .i64 ns.c.p, .int .i64 ns.c.e, .sl 1 (strs ns.c.log), .bool ns.c.lost], .agg [.int .u8 r.a, .int .u8 r.b, .int .u8 r.c], .c (.int .i64 e), .c (.sl 1 (strs m))]
    (.tup [.agg [.d (.int .i64 ((writeN r ns e m).1.a).p), .d (.int .i64 ((writeN r ns e m).1.a).e), .d (.sl 1 (strs ((writeN r ns e m).1.a).log)), .d (.bool ((writeN r ns e m).1.a).lost), .d (.int .i64 ((writeN r ns e m).1.b).p), .d (.int .i64 ((writeN r ns e m).1.b).e), .d (.sl 1 (strs ((writeN r ns e m).1.b).log)), .d (.bool ((writeN r ns e m).1.b).lost), .d (.int .i64 ((writeN r ns e m).1.c).p), .d (.int .i64 ((writeN r ns e m).1.c).e), .d (.sl 1 (strs ((writeN r ns e m).1.c).log)), .d (.bool ((writeN r ns e m).1.c).lost)], .c (.d (.bool (writeN r ns e m).2.1)), .c (.d (.int .i64 (writeN r ns e m).2.2))]) [] := by
  by_cases hb : boundN e m = 0
  · have tf : ∀ b : Bool, b = false ∨ b = true := fun b => by cases b <;> simp
    rcases tf ns.a.lost with l0 | l0 <;> rcases tf ns.b.lost with l1 | l1 <;> rcases tf ns.c.lost with l2 | l2
    · exact refWrite_000 ns r e m hs hm hb l0 l1 l2 _ rfl
    · exact refWrite_001 ns r e m hs hm hb l0 l1 l2 _ rfl
    · exact refWrite_010 ns r e m hs hm hb l0 l1 l2 _ rfl
    · exact refWrite_011 ns r e m hs hm hb l0 l1 l2 _ rfl
    · exact refWrite_100 ns r e m hs hm hb l0 l1 l2 _ rfl
    · exact refWrite_101 ns r e m hs hm hb l0 l1 l2 _ rfl
    · exact refWrite_110 ns r e m hs hm hb l0 l1 l2 _ rfl
    · exact refWrite_111 ns r e m hs hm hb l0 l1 l2 _ rfl
  · have hw : writeN r ns e m = (ns, false, boundN e m) := by rw [writeN, if_pos hb]
    rw [hw]
    exact refWrite_bound ns r e m hs hb
end Go.Proofs.Ytehmaafnbgpkcaa

namespace Go.Proofs.Ytehmaafnbgpkcaa
open Go Go.Vs Go.Proofs

/-! ### ReplicaWrites -/

theorem stepN_P {P : List ByteArray → Prop} {e : Int} {m : List ByteArray} (hm : P m) (r i : Int) (n : Nd) (l : List Int) (hn : P n.log) : P (stepN (installN · e m) r i n l).1.log := by
  unfold stepN
  split
  · exact hn
  · split
    · exact hn
    · rename_i h
      have h : (installN n e m).2 = 0 := by simpa using h
      show P (installN n e m).1.log
      unfold installN at *
      split at h
      · rename_i h1; exact absurd h h1
      · rename_i h1
        rw [if_neg h1]
        split at h
        · cases h
        · rename_i h2
          rw [if_neg h2]
          split at h
          · cases h
          · rename_i h3
            rw [if_neg h3]
            exact hm
theorem writeN_P {P : List ByteArray → Prop} (r : R3) (ns : N3) (e : Int) (m : List ByteArray) (hm : P m) (h0 : P ns.a.log) (h1 : P ns.b.log) (h2 : P ns.c.log) :
    P (writeN r ns e m).1.a.log ∧ P (writeN r ns e m).1.b.log ∧ P (writeN r ns e m).1.c.log := by
  have hc : P (callN (installN · e m) r ns).1.a.log ∧ P (callN (installN · e m) r ns).1.b.log ∧ P (callN (installN · e m) r ns).1.c.log :=
    ⟨stepN_P hm _ _ _ _ h0, stepN_P hm _ _ _ _ h1, stepN_P hm _ _ _ _ h2⟩
  unfold writeN
  split
  · exact ⟨h0, h1, h2⟩
  · split
    · unfold N3.set
      split
      · exact ⟨hm, hc.2.1, hc.2.2⟩
      · split
        · exact ⟨hc.1, hm, hc.2.2⟩
        · exact ⟨hc.1, hc.2.1, hm⟩
    · exact hc

theorem strs_set (l : List ByteArray) (k : Nat) (s : ByteArray) : (strs l).set k [.str s] = strs (l.set k s) := by simp [strs, List.map_set]
theorem cutN_idem (n : Nd) : cutN (cutN n) = cutN n := by simp [cutN, List.take_take]
theorem cutsN_idem (n : N3) : cutsN (cutsN n) = cutsN n := by simp [cutsN, cutN_idem]
theorem ctr {k : Nat} (h : k ≤ 2000000) : IntKind.i64.wrap ((k : Int) + 1) = ((k + 1 : Nat) : Int) := by rw [wrap64 (by omega) (by omega)]; rfl
abbrev bound28 : Nat := 140737488351232
def okLog (l : List ByteArray) : Prop := l.length ≤ bound28 ∧ ∀ s ∈ l, s.size ≤ bound28

set_option maxHeartbeats 8000000 in
theorem lawWrites (ns : N3) (r : R3) (e : Int) (log : List ByteArray) (hl : okLog log) (ha : okLog ns.a.log) (hb : okLog ns.b.log) (hc : okLog ns.c.log) :
    Gives Try.prog 4 [.agg [.int .i64 ns.a.p, .int .i64 ns.a.e, .sl 1 (strs ns.a.log), .bool ns.a.lost, .int .i64 ns.b.p, .int .i64 ns.b.e, .sl 1 (strs ns.b.log), .bool ns.b.lost, .int .i64 ns.c.p, .int .i64 ns.c.e, .sl 1 (strs ns.c.log), .bool ns.c.lost], .agg [.int .u8 r.a, .int .u8 r.b, .int .u8 r.c], .c (.int .i64 e), .c (.sl 1 (strs log))] (.c (.d (.bool true))) [] := by
  have okt : ∀ l : List ByteArray, okLog l → okLog (l.take 402) := fun l h => ⟨by simp; have := h.1; omega, fun s hs => h.2 s (List.mem_of_mem_take hs)⟩
  have hX := writeN_P (P := fun l => okLog l ∧ l.length ≤ 1000000) r (cutsN ns) e (log.take 402) ⟨okt _ hl, by simp; omega⟩
    ⟨okt _ ha, Nat.le_trans (cutN_len ns.a) (by omega)⟩ ⟨okt _ hb, Nat.le_trans (cutN_len ns.b) (by omega)⟩ ⟨okt _ hc, Nat.le_trans (cutN_len ns.c) (by omega)⟩
  have hmm : (log.take 402).length ≤ 402 := by simp; omega
  have hcut : (cutN ⟨0, 0, log.take 402, false⟩).log = log.take 402 := by simp [cutN, List.take_take]
  have c1 := cuts ns
  have c2 := cuts (cutsN ns)
  rw [cutsN_idem] at c2
  have c3 := cut ⟨0, 0, log.take 402, false⟩
  rw [hcut] at c3
  have hcs := cutsN_small ns
  have c4 := writeR (cutsN ns) r e (log.take 402) hcs (by omega)
  have c5 := refWrite (cutsN ns) r e (log.take 402) hcs (by omega)
  have c6 := sameAll (cutsN ns) (cutsN ns) hcs hcs
  have c7 := lines (log.take 402) (log.take 402) (by omega) (by omega)
  have c8 := sameAll (writeN r (cutsN ns) e (log.take 402)).1 (writeN r (cutsN ns) e (log.take 402)).1 ⟨hX.1.2, hX.2.1.2, hX.2.2.2⟩ ⟨hX.1.2, hX.2.1.2, hX.2.2.2⟩
  rw [isSameAll_self] at c6 c8
  rw [isLines_self] at c7
  have hm : ∃ q : Int, (if (402 : Int) < log.length then (402 : Int) else log.length) = q ∧ 0 ≤ q ∧ q ≤ log.length := by
    split
    · exact ⟨402, rfl, by omega, by omega⟩
    · exact ⟨log.length, rfl, by omega, by omega⟩
  obtain ⟨q, hq, hq0, hq1⟩ := hm
  have hq2 : List.take (q - 0).toNat log = log.take 402 := by rw [← hq]; exact take_cut log

  generalize cutsN ns = cn at *
  generalize hmmD : log.take 402 = mm at *
  generalize writeN r cn e mm = X at *
  obtain ⟨⟨o0, z0⟩, ⟨o1, z1⟩, o2, z2⟩ := hX
  refine Gives.of_w TryEnv Try.func4 (by decide) TryL4_ok Try.ntmps4 (rs := [.tmp 8]) rfl (by simp) [] (by decide) ?_; rw [TryL4]
  repeat' first
    | simp -implicitDefEqProofs only [go_sem, ↓reduceIte, Nat.reduceEqDiff, Nat.reduceAdd, Nat.reduceMul, Nat.reduceSub, Nat.reduceLeDiff, Nat.reduceLT, Nat.reducePow, reduceCtorEq, Int.reduceToNat, Int.reduceLT, Int.reduceLE, Int.reduceEq, Int.reduceAdd, Int.reduceSub, Int.reduceMul, Int.reduceNeg, Int.reduceTMod, Int.reduceTDiv, List.replicate_zero, List.replicate_succ, hq, hq0, hq1, hq2]
    | (refine wCall_intro c1 ?_ ?_ ?_; rfl; decide)
    | (refine wCall_intro c2 ?_ ?_ ?_; rfl; decide)
    | (refine wCall_intro c3 ?_ ?_ ?_; rfl; decide)
    | (refine wCall_intro c4 ?_ ?_ ?_; rfl; exact Nat.le_of_ble_eq_true rfl)
    | (refine wCall_intro c5 ?_ ?_ ?_; rfl; decide)
    | (refine wCall_intro c8 ?_ ?_ ?_; rfl; decide)
    | refine wfork_intro (fun h => ?_) (fun h => ?_)
    | refine Also.mk (by decide) ?_
    | apply And.intro
  clear c1 c2 c3 c4 c5 c8 hcs
  obtain ⟨o0, p0⟩ := o0
  obtain ⟨o1, p1⟩ := o1
  obtain ⟨o2, p2⟩ := o2
  generalize hla : X.1.a.log = la at *
  generalize hlb : X.1.b.log = lb at *
  generalize hlc : X.1.c.log = lc at *
  refine wT_loop (fun q : { q : Int × List ByteArray × List ByteArray × List ByteArray // (0 ≤ q.1 ∧ q.1 ≤ 3) ∧ q.2.1.length = la.length ∧ q.2.2.1.length = lb.length ∧ q.2.2.2.length = lc.length ∧ (q.1 ≤ 0 → q.2.1 = la) ∧ (q.1 ≤ 1 → q.2.2.1 = lb) ∧ (q.1 ≤ 2 → q.2.2.2 = lc) } =>
    ⟨[(3, .c (.d (.sl 1 (strs mm)))), (4, .c (.ptr 0 0)), (9, .c (.ptr 72 0)), (10, .c (.d (.sl 1 (strs mm)))), (11, .c (.ptr 120 0)), (17, .c (.d (.int .i64 q.1.1)))], [(0, .box [.d (.int .i64 cn.a.p), .d (.int .i64 cn.a.e), .d (.sl 1 (strs cn.a.log)), .d (.bool cn.a.lost), .d (.int .i64 cn.b.p), .d (.int .i64 cn.b.e), .d (.sl 1 (strs cn.b.log)), .d (.bool cn.b.lost), .d (.int .i64 cn.c.p), .d (.int .i64 cn.c.e), .d (.sl 1 (strs cn.c.log)), .d (.bool cn.c.lost)]), (72, .box [.d (.int .i64 cn.a.p), .d (.int .i64 cn.a.e), .d (.sl 1 (strs cn.a.log)), .d (.bool cn.a.lost), .d (.int .i64 cn.b.p), .d (.int .i64 cn.b.e), .d (.sl 1 (strs cn.b.log)), .d (.bool cn.b.lost), .d (.int .i64 cn.c.p), .d (.int .i64 cn.c.e), .d (.sl 1 (strs cn.c.log)), .d (.bool cn.c.lost)]), (120, .box [.d (.int .i64 X.1.a.p), .d (.int .i64 X.1.a.e), .ref 100 la.length 0 la.length, .d (.bool X.1.a.lost), .d (.int .i64 X.1.b.p), .d (.int .i64 X.1.b.e), .ref 101 lb.length 0 lb.length, .d (.bool X.1.b.lost), .d (.int .i64 X.1.c.p), .d (.int .i64 X.1.c.e), .ref 102 lc.length 0 lc.length, .d (.bool X.1.c.lost)]), (100, .sl 1 (strs q.1.2.1) false), (101, .sl 1 (strs q.1.2.2.1) false), (102, .sl 1 (strs q.1.2.2.2) false)], 121⟩) (fun q => (3 - q.1.1).toNat) ⟨(0, la, lb, lc), ⟨Int.le_refl _, (by decide : (0:Int) ≤ 3)⟩, rfl, rfl, rfl, fun _ => rfl, fun _ => rfl, fun _ => rfl⟩ ?_ ?_
  · refine Wk.sub ?_ ?_ (by decide) (by decide) ?_ ?_
    all_goals simp -implicitDefEqProofs only [go_sem, ↓reduceIte, Nat.reduceEqDiff, Nat.reduceAdd, Nat.reduceMul, Nat.reduceSub, Nat.reduceLeDiff, Nat.reduceLT, Nat.reducePow, reduceCtorEq, Int.reduceToNat, Int.reduceLT, Int.reduceLE, Int.reduceEq, Int.reduceAdd, Int.reduceSub, Int.reduceMul, Int.reduceNeg, Int.reduceTMod, Int.reduceTDiv, List.replicate_zero, List.replicate_succ, hla, hlb, hlc]
  · rintro ⟨⟨i, s0, s1, s2⟩, ⟨hi0, hi3⟩, e0, e1, e2, f0, f1, f2⟩
    dsimp only at hi0 hi3 e0 e1 e2 f0 f1 f2
    rcases (by omega : i = 0 ∨ i = 1 ∨ i = 2 ∨ i = 3) with rfl | rfl | rfl | rfl
    · have hs := f0 (by decide)
      subst hs
      have hz : s0.length ≤ 1000000 := z0
      have hbd := p0
      refine wT_of TryEnv ?_
      simp -implicitDefEqProofs only [go_sem, ↓reduceIte, Nat.reduceEqDiff, Nat.reduceAdd, Nat.reduceMul, Nat.reduceSub, Nat.reduceLeDiff, Nat.reduceLT, Nat.reducePow, reduceCtorEq, Int.reduceToNat, Int.reduceLT, Int.reduceLE, Int.reduceEq, Int.reduceAdd, Int.reduceSub, Int.reduceMul, Int.reduceNeg, Int.reduceTMod, Int.reduceTDiv, List.replicate_zero, List.replicate_succ, hla, hlb, hlc]
      refine wT_loop (fun s : { s : Nat × List ByteArray // s.1 ≤ s.2.length ∧ s.2.length = s0.length ∧ ∀ j (h : j < s.2.length), s.1 ≤ j → s.2[j].size ≤ bound28 } =>
        ⟨[(3, .c (.d (.sl 1 (strs mm)))), (4, .c (.ptr 0 0)), (9, .c (.ptr 72 0)), (10, .c (.d (.sl 1 (strs mm)))), (11, .c (.ptr 120 0)), (17, .c (.d (.int .i64 0))), (18, .c (.d (.int .i64 (s.1.1 : Nat))))], [(0, .box [.d (.int .i64 cn.a.p), .d (.int .i64 cn.a.e), .d (.sl 1 (strs cn.a.log)), .d (.bool cn.a.lost), .d (.int .i64 cn.b.p), .d (.int .i64 cn.b.e), .d (.sl 1 (strs cn.b.log)), .d (.bool cn.b.lost), .d (.int .i64 cn.c.p), .d (.int .i64 cn.c.e), .d (.sl 1 (strs cn.c.log)), .d (.bool cn.c.lost)]), (72, .box [.d (.int .i64 cn.a.p), .d (.int .i64 cn.a.e), .d (.sl 1 (strs cn.a.log)), .d (.bool cn.a.lost), .d (.int .i64 cn.b.p), .d (.int .i64 cn.b.e), .d (.sl 1 (strs cn.b.log)), .d (.bool cn.b.lost), .d (.int .i64 cn.c.p), .d (.int .i64 cn.c.e), .d (.sl 1 (strs cn.c.log)), .d (.bool cn.c.lost)]), (120, .box [.d (.int .i64 X.1.a.p), .d (.int .i64 X.1.a.e), .ref 100 s0.length 0 s0.length, .d (.bool X.1.a.lost), .d (.int .i64 X.1.b.p), .d (.int .i64 X.1.b.e), .ref 101 lb.length 0 lb.length, .d (.bool X.1.b.lost), .d (.int .i64 X.1.c.p), .d (.int .i64 X.1.c.e), .ref 102 lc.length 0 lc.length, .d (.bool X.1.c.lost)]), (100, .sl 1 (strs s.1.2) false), (101, .sl 1 (strs s1) false), (102, .sl 1 (strs s2) false)], 121⟩) (fun s => s0.length - s.1.1) ⟨(0, s0), Nat.zero_le _, rfl, fun j h _ => hbd _ (List.getElem_mem h)⟩ ?_ ?_
      · refine Wk.sub ?_ ?_ (by decide) (by decide) ?_ ?_
        all_goals simp -implicitDefEqProofs only [go_sem, ↓reduceIte, Nat.reduceEqDiff, Nat.reduceAdd, Nat.reduceMul, Nat.reduceSub, Nat.reduceLeDiff, Nat.reduceLT, Nat.reducePow, reduceCtorEq, Int.reduceToNat, Int.reduceLT, Int.reduceLE, Int.reduceEq, Int.reduceAdd, Int.reduceSub, Int.reduceMul, Int.reduceNeg, Int.reduceTMod, Int.reduceTDiv, List.replicate_zero, List.replicate_succ, Int.natCast_zero]
      · rintro ⟨⟨j, s⟩, hj, hlen, hsz⟩
        dsimp only at hj hlen hsz
        refine wT_of TryEnv ?_
        simp -implicitDefEqProofs only [go_sem, ↓reduceIte, Nat.reduceEqDiff, Nat.reduceAdd, Nat.reduceMul, Nat.reduceSub, Nat.reduceLeDiff, Nat.reduceLT, Nat.reducePow, reduceCtorEq, Int.reduceToNat, Int.reduceLT, Int.reduceLE, Int.reduceEq, Int.reduceAdd, Int.reduceSub, Int.reduceMul, Int.reduceNeg, Int.reduceTMod, Int.reduceTDiv, List.replicate_zero, List.replicate_succ, hlen]
        refine wfork_intro (fun h3 => ?_) (fun h3 => ?_)
        · have h3 : j < s0.length := by simpa using h3
          have h4 : (j : Int) < (s0.length : Int) := by omega
          have hjs : j < s.length := by omega
          have hgj : s[j]? = some s[j] := List.getElem?_eq_getElem hjs
          have hsj := hsz j hjs (Nat.le_refl _)
          have hct := ctr (k := j) (by omega)
          generalize hv : s[j] = v at *
          repeat' first
            | simp -implicitDefEqProofs only [go_sem, ↓reduceIte, Nat.reduceEqDiff, Nat.reduceAdd, Nat.reduceMul, Nat.reduceSub, Nat.reduceLeDiff, Nat.reduceLT, Nat.reducePow, reduceCtorEq, Int.reduceToNat, Int.reduceLT, Int.reduceLE, Int.reduceEq, Int.reduceAdd, Int.reduceSub, Int.reduceMul, Int.reduceNeg, Int.reduceTMod, Int.reduceTDiv, List.replicate_zero, List.replicate_succ, hlen, strs_get, strs_set, hgj, hct, h4, Int.toNat_natCast, Int.natCast_nonneg]
            | apply And.intro
            | refine Also.mk (by decide) ?_
          · have h1 : ((v.size + ({ data := #[63] } : ByteArray).size : Nat) : Int) ≤ 9223372036854775807 := by
              have : ({ data := #[63] } : ByteArray).size = 1 := rfl
              have : v.size ≤ 140737488351232 := hsj
              omega
            exact h1
          · refine ⟨⟨(j + 1, s.set j (v ++ { data := #[63] })), by dsimp only; rw [List.length_set]; omega, by rw [List.length_set]; exact hlen, fun i h hi => ?_⟩, Wk.sub ?_ ?_ (by decide) (by decide) ?_ ?_, by dsimp only; omega⟩
            · rw [List.getElem_set_ne (by dsimp only at hi; omega)]
              exact hsz i (by rw [List.length_set] at h; exact h) (by dsimp only at hi; omega)
            all_goals simp -implicitDefEqProofs only [go_sem, ↓reduceIte, Nat.reduceEqDiff, Nat.reduceAdd, Nat.reduceMul, Nat.reduceSub, Nat.reduceLeDiff, Nat.reduceLT, Nat.reducePow, reduceCtorEq, Int.reduceToNat, Int.reduceLT, Int.reduceLE, Int.reduceEq, Int.reduceAdd, Int.reduceSub, Int.reduceMul, Int.reduceNeg, Int.reduceTMod, Int.reduceTDiv, List.replicate_zero, List.replicate_succ, Int.reduceAdd]
        · have h3 : j = s0.length := by simp at h3; omega
          simp -implicitDefEqProofs only [go_sem, ↓reduceIte, Nat.reduceEqDiff, Nat.reduceAdd, Nat.reduceMul, Nat.reduceSub, Nat.reduceLeDiff, Nat.reduceLT, Nat.reducePow, reduceCtorEq, Int.reduceToNat, Int.reduceLT, Int.reduceLE, Int.reduceEq, Int.reduceAdd, Int.reduceSub, Int.reduceMul, Int.reduceNeg, Int.reduceTMod, Int.reduceTDiv, List.replicate_zero, List.replicate_succ, hlen]
          refine ⟨⟨((0 : Int) + 1, s, s1, s2), by dsimp only; omega, hlen, e1, e2, fun h => absurd h (by dsimp only; omega), fun h => f1 (by dsimp only at h; omega), fun h => f2 (by dsimp only at h; omega)⟩, Wk.sub ?_ ?_ (by decide) (by decide) ?_ ?_, by dsimp only; omega⟩
          all_goals simp -implicitDefEqProofs only [go_sem, ↓reduceIte, Nat.reduceEqDiff, Nat.reduceAdd, Nat.reduceMul, Nat.reduceSub, Nat.reduceLeDiff, Nat.reduceLT, Nat.reducePow, reduceCtorEq, Int.reduceToNat, Int.reduceLT, Int.reduceLE, Int.reduceEq, Int.reduceAdd, Int.reduceSub, Int.reduceMul, Int.reduceNeg, Int.reduceTMod, Int.reduceTDiv, List.replicate_zero, List.replicate_succ, Int.reduceAdd]
    · have hs := f1 (by decide)
      subst hs
      have hz : s1.length ≤ 1000000 := z1
      have hbd := p1
      refine wT_of TryEnv ?_
      simp -implicitDefEqProofs only [go_sem, ↓reduceIte, Nat.reduceEqDiff, Nat.reduceAdd, Nat.reduceMul, Nat.reduceSub, Nat.reduceLeDiff, Nat.reduceLT, Nat.reducePow, reduceCtorEq, Int.reduceToNat, Int.reduceLT, Int.reduceLE, Int.reduceEq, Int.reduceAdd, Int.reduceSub, Int.reduceMul, Int.reduceNeg, Int.reduceTMod, Int.reduceTDiv, List.replicate_zero, List.replicate_succ, hla, hlb, hlc]
      refine wT_loop (fun s : { s : Nat × List ByteArray // s.1 ≤ s.2.length ∧ s.2.length = s1.length ∧ ∀ j (h : j < s.2.length), s.1 ≤ j → s.2[j].size ≤ bound28 } =>
        ⟨[(3, .c (.d (.sl 1 (strs mm)))), (4, .c (.ptr 0 0)), (9, .c (.ptr 72 0)), (10, .c (.d (.sl 1 (strs mm)))), (11, .c (.ptr 120 0)), (17, .c (.d (.int .i64 1))), (18, .c (.d (.int .i64 (s.1.1 : Nat))))], [(0, .box [.d (.int .i64 cn.a.p), .d (.int .i64 cn.a.e), .d (.sl 1 (strs cn.a.log)), .d (.bool cn.a.lost), .d (.int .i64 cn.b.p), .d (.int .i64 cn.b.e), .d (.sl 1 (strs cn.b.log)), .d (.bool cn.b.lost), .d (.int .i64 cn.c.p), .d (.int .i64 cn.c.e), .d (.sl 1 (strs cn.c.log)), .d (.bool cn.c.lost)]), (72, .box [.d (.int .i64 cn.a.p), .d (.int .i64 cn.a.e), .d (.sl 1 (strs cn.a.log)), .d (.bool cn.a.lost), .d (.int .i64 cn.b.p), .d (.int .i64 cn.b.e), .d (.sl 1 (strs cn.b.log)), .d (.bool cn.b.lost), .d (.int .i64 cn.c.p), .d (.int .i64 cn.c.e), .d (.sl 1 (strs cn.c.log)), .d (.bool cn.c.lost)]), (120, .box [.d (.int .i64 X.1.a.p), .d (.int .i64 X.1.a.e), .ref 100 la.length 0 la.length, .d (.bool X.1.a.lost), .d (.int .i64 X.1.b.p), .d (.int .i64 X.1.b.e), .ref 101 s1.length 0 s1.length, .d (.bool X.1.b.lost), .d (.int .i64 X.1.c.p), .d (.int .i64 X.1.c.e), .ref 102 lc.length 0 lc.length, .d (.bool X.1.c.lost)]), (100, .sl 1 (strs s0) false), (101, .sl 1 (strs s.1.2) false), (102, .sl 1 (strs s2) false)], 121⟩) (fun s => s1.length - s.1.1) ⟨(0, s1), Nat.zero_le _, rfl, fun j h _ => hbd _ (List.getElem_mem h)⟩ ?_ ?_
      · refine Wk.sub ?_ ?_ (by decide) (by decide) ?_ ?_
        all_goals simp -implicitDefEqProofs only [go_sem, ↓reduceIte, Nat.reduceEqDiff, Nat.reduceAdd, Nat.reduceMul, Nat.reduceSub, Nat.reduceLeDiff, Nat.reduceLT, Nat.reducePow, reduceCtorEq, Int.reduceToNat, Int.reduceLT, Int.reduceLE, Int.reduceEq, Int.reduceAdd, Int.reduceSub, Int.reduceMul, Int.reduceNeg, Int.reduceTMod, Int.reduceTDiv, List.replicate_zero, List.replicate_succ, Int.natCast_zero]
      · rintro ⟨⟨j, s⟩, hj, hlen, hsz⟩
        dsimp only at hj hlen hsz
        refine wT_of TryEnv ?_
        simp -implicitDefEqProofs only [go_sem, ↓reduceIte, Nat.reduceEqDiff, Nat.reduceAdd, Nat.reduceMul, Nat.reduceSub, Nat.reduceLeDiff, Nat.reduceLT, Nat.reducePow, reduceCtorEq, Int.reduceToNat, Int.reduceLT, Int.reduceLE, Int.reduceEq, Int.reduceAdd, Int.reduceSub, Int.reduceMul, Int.reduceNeg, Int.reduceTMod, Int.reduceTDiv, List.replicate_zero, List.replicate_succ, hlen]
        refine wfork_intro (fun h3 => ?_) (fun h3 => ?_)
        · have h3 : j < s1.length := by simpa using h3
          have h4 : (j : Int) < (s1.length : Int) := by omega
          have hjs : j < s.length := by omega
          have hgj : s[j]? = some s[j] := List.getElem?_eq_getElem hjs
          have hsj := hsz j hjs (Nat.le_refl _)
          have hct := ctr (k := j) (by omega)
          generalize hv : s[j] = v at *
          repeat' first
            | simp -implicitDefEqProofs only [go_sem, ↓reduceIte, Nat.reduceEqDiff, Nat.reduceAdd, Nat.reduceMul, Nat.reduceSub, Nat.reduceLeDiff, Nat.reduceLT, Nat.reducePow, reduceCtorEq, Int.reduceToNat, Int.reduceLT, Int.reduceLE, Int.reduceEq, Int.reduceAdd, Int.reduceSub, Int.reduceMul, Int.reduceNeg, Int.reduceTMod, Int.reduceTDiv, List.replicate_zero, List.replicate_succ, hlen, strs_get, strs_set, hgj, hct, h4, Int.toNat_natCast, Int.natCast_nonneg]
            | apply And.intro
            | refine Also.mk (by decide) ?_
          · have h1 : ((v.size + ({ data := #[63] } : ByteArray).size : Nat) : Int) ≤ 9223372036854775807 := by
              have : ({ data := #[63] } : ByteArray).size = 1 := rfl
              have : v.size ≤ 140737488351232 := hsj
              omega
            exact h1
          · refine ⟨⟨(j + 1, s.set j (v ++ { data := #[63] })), by dsimp only; rw [List.length_set]; omega, by rw [List.length_set]; exact hlen, fun i h hi => ?_⟩, Wk.sub ?_ ?_ (by decide) (by decide) ?_ ?_, by dsimp only; omega⟩
            · rw [List.getElem_set_ne (by dsimp only at hi; omega)]
              exact hsz i (by rw [List.length_set] at h; exact h) (by dsimp only at hi; omega)
            all_goals simp -implicitDefEqProofs only [go_sem, ↓reduceIte, Nat.reduceEqDiff, Nat.reduceAdd, Nat.reduceMul, Nat.reduceSub, Nat.reduceLeDiff, Nat.reduceLT, Nat.reducePow, reduceCtorEq, Int.reduceToNat, Int.reduceLT, Int.reduceLE, Int.reduceEq, Int.reduceAdd, Int.reduceSub, Int.reduceMul, Int.reduceNeg, Int.reduceTMod, Int.reduceTDiv, List.replicate_zero, List.replicate_succ, Int.reduceAdd]
        · have h3 : j = s1.length := by simp at h3; omega
          simp -implicitDefEqProofs only [go_sem, ↓reduceIte, Nat.reduceEqDiff, Nat.reduceAdd, Nat.reduceMul, Nat.reduceSub, Nat.reduceLeDiff, Nat.reduceLT, Nat.reducePow, reduceCtorEq, Int.reduceToNat, Int.reduceLT, Int.reduceLE, Int.reduceEq, Int.reduceAdd, Int.reduceSub, Int.reduceMul, Int.reduceNeg, Int.reduceTMod, Int.reduceTDiv, List.replicate_zero, List.replicate_succ, hlen]
          refine ⟨⟨((1 : Int) + 1, s0, s, s2), by dsimp only; omega, e0, hlen, e2, fun h => absurd h (by dsimp only; omega), fun h => absurd h (by dsimp only; omega), fun h => f2 (by dsimp only at h; omega)⟩, Wk.sub ?_ ?_ (by decide) (by decide) ?_ ?_, by dsimp only; omega⟩
          all_goals simp -implicitDefEqProofs only [go_sem, ↓reduceIte, Nat.reduceEqDiff, Nat.reduceAdd, Nat.reduceMul, Nat.reduceSub, Nat.reduceLeDiff, Nat.reduceLT, Nat.reducePow, reduceCtorEq, Int.reduceToNat, Int.reduceLT, Int.reduceLE, Int.reduceEq, Int.reduceAdd, Int.reduceSub, Int.reduceMul, Int.reduceNeg, Int.reduceTMod, Int.reduceTDiv, List.replicate_zero, List.replicate_succ, Int.reduceAdd]
    · have hs := f2 (by decide)
      subst hs
      have hz : s2.length ≤ 1000000 := z2
      have hbd := p2
      refine wT_of TryEnv ?_
      simp -implicitDefEqProofs only [go_sem, ↓reduceIte, Nat.reduceEqDiff, Nat.reduceAdd, Nat.reduceMul, Nat.reduceSub, Nat.reduceLeDiff, Nat.reduceLT, Nat.reducePow, reduceCtorEq, Int.reduceToNat, Int.reduceLT, Int.reduceLE, Int.reduceEq, Int.reduceAdd, Int.reduceSub, Int.reduceMul, Int.reduceNeg, Int.reduceTMod, Int.reduceTDiv, List.replicate_zero, List.replicate_succ, hla, hlb, hlc]
      refine wT_loop (fun s : { s : Nat × List ByteArray // s.1 ≤ s.2.length ∧ s.2.length = s2.length ∧ ∀ j (h : j < s.2.length), s.1 ≤ j → s.2[j].size ≤ bound28 } =>
        ⟨[(3, .c (.d (.sl 1 (strs mm)))), (4, .c (.ptr 0 0)), (9, .c (.ptr 72 0)), (10, .c (.d (.sl 1 (strs mm)))), (11, .c (.ptr 120 0)), (17, .c (.d (.int .i64 2))), (18, .c (.d (.int .i64 (s.1.1 : Nat))))], [(0, .box [.d (.int .i64 cn.a.p), .d (.int .i64 cn.a.e), .d (.sl 1 (strs cn.a.log)), .d (.bool cn.a.lost), .d (.int .i64 cn.b.p), .d (.int .i64 cn.b.e), .d (.sl 1 (strs cn.b.log)), .d (.bool cn.b.lost), .d (.int .i64 cn.c.p), .d (.int .i64 cn.c.e), .d (.sl 1 (strs cn.c.log)), .d (.bool cn.c.lost)]), (72, .box [.d (.int .i64 cn.a.p), .d (.int .i64 cn.a.e), .d (.sl 1 (strs cn.a.log)), .d (.bool cn.a.lost), .d (.int .i64 cn.b.p), .d (.int .i64 cn.b.e), .d (.sl 1 (strs cn.b.log)), .d (.bool cn.b.lost), .d (.int .i64 cn.c.p), .d (.int .i64 cn.c.e), .d (.sl 1 (strs cn.c.log)), .d (.bool cn.c.lost)]), (120, .box [.d (.int .i64 X.1.a.p), .d (.int .i64 X.1.a.e), .ref 100 la.length 0 la.length, .d (.bool X.1.a.lost), .d (.int .i64 X.1.b.p), .d (.int .i64 X.1.b.e), .ref 101 lb.length 0 lb.length, .d (.bool X.1.b.lost), .d (.int .i64 X.1.c.p), .d (.int .i64 X.1.c.e), .ref 102 s2.length 0 s2.length, .d (.bool X.1.c.lost)]), (100, .sl 1 (strs s0) false), (101, .sl 1 (strs s1) false), (102, .sl 1 (strs s.1.2) false)], 121⟩) (fun s => s2.length - s.1.1) ⟨(0, s2), Nat.zero_le _, rfl, fun j h _ => hbd _ (List.getElem_mem h)⟩ ?_ ?_
      · refine Wk.sub ?_ ?_ (by decide) (by decide) ?_ ?_
        all_goals simp -implicitDefEqProofs only [go_sem, ↓reduceIte, Nat.reduceEqDiff, Nat.reduceAdd, Nat.reduceMul, Nat.reduceSub, Nat.reduceLeDiff, Nat.reduceLT, Nat.reducePow, reduceCtorEq, Int.reduceToNat, Int.reduceLT, Int.reduceLE, Int.reduceEq, Int.reduceAdd, Int.reduceSub, Int.reduceMul, Int.reduceNeg, Int.reduceTMod, Int.reduceTDiv, List.replicate_zero, List.replicate_succ, Int.natCast_zero]
      · rintro ⟨⟨j, s⟩, hj, hlen, hsz⟩
        dsimp only at hj hlen hsz
        refine wT_of TryEnv ?_
        simp -implicitDefEqProofs only [go_sem, ↓reduceIte, Nat.reduceEqDiff, Nat.reduceAdd, Nat.reduceMul, Nat.reduceSub, Nat.reduceLeDiff, Nat.reduceLT, Nat.reducePow, reduceCtorEq, Int.reduceToNat, Int.reduceLT, Int.reduceLE, Int.reduceEq, Int.reduceAdd, Int.reduceSub, Int.reduceMul, Int.reduceNeg, Int.reduceTMod, Int.reduceTDiv, List.replicate_zero, List.replicate_succ, hlen]
        refine wfork_intro (fun h3 => ?_) (fun h3 => ?_)
        · have h3 : j < s2.length := by simpa using h3
          have h4 : (j : Int) < (s2.length : Int) := by omega
          have hjs : j < s.length := by omega
          have hgj : s[j]? = some s[j] := List.getElem?_eq_getElem hjs
          have hsj := hsz j hjs (Nat.le_refl _)
          have hct := ctr (k := j) (by omega)
          generalize hv : s[j] = v at *
          repeat' first
            | simp -implicitDefEqProofs only [go_sem, ↓reduceIte, Nat.reduceEqDiff, Nat.reduceAdd, Nat.reduceMul, Nat.reduceSub, Nat.reduceLeDiff, Nat.reduceLT, Nat.reducePow, reduceCtorEq, Int.reduceToNat, Int.reduceLT, Int.reduceLE, Int.reduceEq, Int.reduceAdd, Int.reduceSub, Int.reduceMul, Int.reduceNeg, Int.reduceTMod, Int.reduceTDiv, List.replicate_zero, List.replicate_succ, hlen, strs_get, strs_set, hgj, hct, h4, Int.toNat_natCast, Int.natCast_nonneg]
            | apply And.intro
            | refine Also.mk (by decide) ?_
          · have h1 : ((v.size + ({ data := #[63] } : ByteArray).size : Nat) : Int) ≤ 9223372036854775807 := by
              have : ({ data := #[63] } : ByteArray).size = 1 := rfl
              have : v.size ≤ 140737488351232 := hsj
              omega
            exact h1
          · refine ⟨⟨(j + 1, s.set j (v ++ { data := #[63] })), by dsimp only; rw [List.length_set]; omega, by rw [List.length_set]; exact hlen, fun i h hi => ?_⟩, Wk.sub ?_ ?_ (by decide) (by decide) ?_ ?_, by dsimp only; omega⟩
            · rw [List.getElem_set_ne (by dsimp only at hi; omega)]
              exact hsz i (by rw [List.length_set] at h; exact h) (by dsimp only at hi; omega)
            all_goals simp -implicitDefEqProofs only [go_sem, ↓reduceIte, Nat.reduceEqDiff, Nat.reduceAdd, Nat.reduceMul, Nat.reduceSub, Nat.reduceLeDiff, Nat.reduceLT, Nat.reducePow, reduceCtorEq, Int.reduceToNat, Int.reduceLT, Int.reduceLE, Int.reduceEq, Int.reduceAdd, Int.reduceSub, Int.reduceMul, Int.reduceNeg, Int.reduceTMod, Int.reduceTDiv, List.replicate_zero, List.replicate_succ, Int.reduceAdd]
        · have h3 : j = s2.length := by simp at h3; omega
          simp -implicitDefEqProofs only [go_sem, ↓reduceIte, Nat.reduceEqDiff, Nat.reduceAdd, Nat.reduceMul, Nat.reduceSub, Nat.reduceLeDiff, Nat.reduceLT, Nat.reducePow, reduceCtorEq, Int.reduceToNat, Int.reduceLT, Int.reduceLE, Int.reduceEq, Int.reduceAdd, Int.reduceSub, Int.reduceMul, Int.reduceNeg, Int.reduceTMod, Int.reduceTDiv, List.replicate_zero, List.replicate_succ, hlen]
          refine ⟨⟨((2 : Int) + 1, s0, s1, s), by dsimp only; omega, e0, e1, hlen, fun h => absurd h (by dsimp only; omega), fun h => absurd h (by dsimp only; omega), fun h => absurd h (by dsimp only; omega)⟩, Wk.sub ?_ ?_ (by decide) (by decide) ?_ ?_, by dsimp only; omega⟩
          all_goals simp -implicitDefEqProofs only [go_sem, ↓reduceIte, Nat.reduceEqDiff, Nat.reduceAdd, Nat.reduceMul, Nat.reduceSub, Nat.reduceLeDiff, Nat.reduceLT, Nat.reducePow, reduceCtorEq, Int.reduceToNat, Int.reduceLT, Int.reduceLE, Int.reduceEq, Int.reduceAdd, Int.reduceSub, Int.reduceMul, Int.reduceNeg, Int.reduceTMod, Int.reduceTDiv, List.replicate_zero, List.replicate_succ, Int.reduceAdd]
    · refine wT_of TryEnv ?_
      repeat' first
        | simp -implicitDefEqProofs only [go_sem, ↓reduceIte, Nat.reduceEqDiff, Nat.reduceAdd, Nat.reduceMul, Nat.reduceSub, Nat.reduceLeDiff, Nat.reduceLT, Nat.reducePow, reduceCtorEq, Int.reduceToNat, Int.reduceLT, Int.reduceLE, Int.reduceEq, Int.reduceAdd, Int.reduceSub, Int.reduceMul, Int.reduceNeg, Int.reduceTMod, Int.reduceTDiv, List.replicate_zero, List.replicate_succ]
        | (refine wCall_intro c6 ?_ ?_ ?_; rfl; decide)
        | (refine wCall_intro c7 ?_ ?_ ?_; rfl; decide)
        | (refine wCall_intro lives ?_ ?_ ?_; rfl; decide)
        | refine wfork_intro (fun h => ?_) (fun h => ?_)
        | refine Also.mk (by decide) ?_
        | apply And.intro
end Go.Proofs.Ytehmaafnbgpkcaa
