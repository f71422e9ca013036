/- This text proves a part of what the claim needs: contracts of functions of the program. No condition. -/
import Derived.Test.YtbdodpippgakjaaXa
set_option linter.unusedSimpArgs false
set_option linter.unusedVariables false

namespace Go.Proofs.Ytbdodpippgakjaa
open Go Go.Vs Go.Proofs

/-- The places that are left, as the map has them. -/
def mpL (l : List (Int × List Int)) : List (D × D) := l.map fun e => (.int .i64 e.1, .sl 1 (nums e.2))
def isKey (l : List (Int × List Int)) (a : Int) : Bool := l.any fun e => decide (e.1 = a)
def valOf (l : List (Int × List Int)) (a : Int) : Option (List Int) := (l.find? fun e => decide (e.1 = a)).map (·.2)

theorem mpLook_mpL (a : Int) : ∀ (l : List (Int × List Int)), mpLook (.int .i64 a) (mpL l) = some ((valOf l a).map fun v => .sl 1 (nums v))
  | [] => rfl
  | e :: l => by
    have ih := mpLook_mpL a l
    simp only [mpL, List.map_cons, mpLook, if_true, valOf, List.find?_cons] at *
    by_cases h : a = e.1
    · subst h; simp
    · have h' : ¬ e.1 = a := fun x => h x.symm
      simp only [h, h', if_false, decide_false]
      exact ih

theorem isKey_val (l : List (Int × List Int)) (a : Int) : isKey l a = (valOf l a).isSome := by
  induction l with
  | nil => rfl
  | cons e l ih =>
    simp only [isKey, valOf, List.any_cons, List.find?_cons] at *
    by_cases h : e.1 = a
    · simp [h]
    · simpa [h] using ih

theorem left47 (l : List (Int × List Int)) (a : Int) : Gives Try.prog 47 [.c (.int .i64 a), .c (.fp [.mp (mpL l)])] (.c (.d (.bool (isKey l a)))) [] := by
  refine Gives.of_w TryEnv Try.func47 (by decide) TryL47_ok Try.ntmps47 (rs := [.tmp 3]) rfl (by simp) [] (by decide) ?_; rw [TryL47]
  rw [isKey_val]
  cases h : valOf l a with
  | none => simp -implicitDefEqProofs only [go_sem, ↓reduceIte, Nat.reduceEqDiff, Nat.reduceAdd, Nat.reduceMul, Nat.reduceSub, Nat.reduceLeDiff, Nat.reduceLT, Nat.reducePow, reduceCtorEq, Int.reduceToNat, Int.reduceLT, Int.reduceLE, Int.reduceEq, Int.reduceAdd, Int.reduceSub, Int.reduceMul, Int.reduceNeg, Int.reduceTMod, Int.reduceTDiv, List.replicate_zero, List.replicate_succ, mpLook_mpL, h, Option.isSome_none]
  | some v => simp -implicitDefEqProofs only [go_sem, ↓reduceIte, Nat.reduceEqDiff, Nat.reduceAdd, Nat.reduceMul, Nat.reduceSub, Nat.reduceLeDiff, Nat.reduceLT, Nat.reducePow, reduceCtorEq, Int.reduceToNat, Int.reduceLT, Int.reduceLE, Int.reduceEq, Int.reduceAdd, Int.reduceSub, Int.reduceMul, Int.reduceNeg, Int.reduceTMod, Int.reduceTDiv, List.replicate_zero, List.replicate_succ, mpLook_mpL, h, Option.isSome_some]

/-- The first place of which the predicate is so. -/
def idx {α : Type} (p : α → Bool) (l : List α) (from_ : Nat) : Int := match l with
  | [] => -1
  | a :: l => if p a then (from_ : Int) else idx p l (from_ + 1)
theorem idx_skip {α : Type} (p : α → Bool) : ∀ (l : List α) (k n : Nat), (∀ j (h : j < l.length), j < k → p l[j] = false) → k ≤ l.length → idx p l n = idx p (l.drop k) (n + k)
  | l, 0, n, _, _ => by simp
  | [], k + 1, n, _, hk => by simp at hk
  | t :: ts, k + 1, n, h, hk => by
    have h0 := h 0 (by simp) (by omega)
    simp only [List.getElem_cons_zero] at h0
    rw [idx, if_neg (by simp [h0]), List.drop_succ_cons, idx_skip p ts k (n + 1) (fun j hj hjk => by have := h (j + 1) (by simpa using hj) (by omega); simpa only [List.getElem_cons_succ] using this) (by simpa using hk)]
    congr 1
    omega
theorem idx_any {α : Type} (p : α → Bool) : ∀ (l : List α) (n : Nat), decide ((0 : Int) ≤ idx p l n) = l.any p
  | [], n => rfl
  | a :: l, n => by
    rw [idx, List.any_cons]
    split
    · rename_i h; simp [h]
    · rename_i h
      rw [idx_any p l (n + 1)]
      simp [h]

/-- A predicate of numbers. -/
theorem index69 (f : Nat) (c : D) (p : Int → Bool) (l : List Int) (hl : l.length ≤ 1000000) (hp : ∀ a ∈ l, Gives Try.prog f [.c (.int .i64 a), .c c] (.c (.d (.bool (p a)))) []) :
    Gives Try.prog 69 [.c (.sl 1 (nums l)), .c (.fn f [c])] (.c (.d (.int .i64 (idx p l 0)))) [] := by
  refine Gives.of_w TryEnv Try.func69 (by decide) TryL69_ok Try.ntmps69 (rs := [.tmp 4]) rfl (by simp) [] (by decide) ?_; rw [TryL69]
  simp -implicitDefEqProofs only [go_sem, ↓reduceIte, Nat.reduceEqDiff, Nat.reduceAdd, Nat.reduceMul, Nat.reduceSub, Nat.reduceLeDiff, Nat.reduceLT, Nat.reducePow, reduceCtorEq, Int.reduceToNat, Int.reduceLT, Int.reduceLE, Int.reduceEq, Int.reduceAdd, Int.reduceSub, Int.reduceMul, Int.reduceNeg, Int.reduceTMod, Int.reduceTDiv, List.replicate_zero, List.replicate_succ]
  refine wT_loop (fun k : { k : Nat // k ≤ l.length ∧ ∀ j (h : j < l.length), j < k → p l[j] = false } => ⟨[(0, .c (.d (.sl 1 (nums l)))), (1, .c (.d (.fn f [c]))), (7, .c (.d (.int .i64 (l.length : Nat)))), (8, .c (.d (.int .i64 (k.1 : Nat))))], [], 0⟩) (fun k => l.length - k.1) ⟨0, by simp⟩ ?_ ?_
  · refine Wk.sub ?_ ?_ ?_ ?_ ?_ ?_
    all_goals simp -implicitDefEqProofs only [go_sem, ↓reduceIte, Nat.reduceEqDiff, Nat.reduceAdd, Nat.reduceMul, Nat.reduceSub, Nat.reduceLeDiff, Nat.reduceLT, Nat.reducePow, reduceCtorEq, Int.reduceToNat, Int.reduceLT, Int.reduceLE, Int.reduceEq, Int.reduceAdd, Int.reduceSub, Int.reduceMul, Int.reduceNeg, Int.reduceTMod, Int.reduceTDiv, List.replicate_zero, List.replicate_succ]
  · rintro ⟨k, hk, hkk⟩
    refine wT_of TryEnv ?_
    simp -implicitDefEqProofs only [go_sem, ↓reduceIte, Nat.reduceEqDiff, Nat.reduceAdd, Nat.reduceMul, Nat.reduceSub, Nat.reduceLeDiff, Nat.reduceLT, Nat.reducePow, reduceCtorEq, Int.reduceToNat, Int.reduceLT, Int.reduceLE, Int.reduceEq, Int.reduceAdd, Int.reduceSub, Int.reduceMul, Int.reduceNeg, Int.reduceTMod, Int.reduceTDiv, List.replicate_zero, List.replicate_succ]
    refine wfork_intro (fun h3 => ?_) (fun h3 => ?_)
    · have h3 : k < l.length := by simp at h3; omega
      have skip : idx p l 0 = idx p (l.drop k) (0 + k) := idx_skip p _ k 0 hkk hk
      rw [List.drop_eq_getElem_cons h3, idx] at skip
      have next : p l[k] = false → ∀ j (h : j < l.length), j < k + 1 → p l[j] = false := fun h5 j h hj => by
        by_cases e : j = k
        · subst e; exact h5
        · exact hkk j h (by omega)
      have hm := hp _ (List.getElem_mem h3)
      have hg : l[k]? = some l[k] := List.getElem?_eq_getElem h3
      generalize l[k] = t at *
      repeat' first
        | simp -implicitDefEqProofs only [go_sem, ↓reduceIte, Nat.reduceEqDiff, Nat.reduceAdd, Nat.reduceMul, Nat.reduceSub, Nat.reduceLeDiff, Nat.reduceLT, Nat.reducePow, reduceCtorEq, Int.reduceToNat, Int.reduceLT, Int.reduceLE, Int.reduceEq, Int.reduceAdd, Int.reduceSub, Int.reduceMul, Int.reduceNeg, Int.reduceTMod, Int.reduceTDiv, List.replicate_zero, List.replicate_succ, nums_get, hg, Int.toNat_natCast, Int.natCast_nonneg]
        | refine Also.mk (by decide) ?_
        | (refine wCall_intro hm ?_ ?_ ?_; rfl; decide)
        | refine wfork_intro (fun h5 => ?_) (fun h5 => ?_)
      · rw [if_pos h5] at skip
        rw [skip]
        refine DLe.of_eq ?_
        simp
      · refine ⟨⟨k + 1, by omega, next h5⟩, Wk.sub (by simp -implicitDefEqProofs only [go_sem, ↓reduceIte, Nat.reduceEqDiff, Nat.reduceAdd, Nat.reduceMul, Nat.reduceSub, Nat.reduceLeDiff, Nat.reduceLT, Nat.reducePow, reduceCtorEq, Int.reduceToNat, Int.reduceLT, Int.reduceLE, Int.reduceEq, Int.reduceAdd, Int.reduceSub, Int.reduceMul, Int.reduceNeg, Int.reduceTMod, Int.reduceTDiv, List.replicate_zero, List.replicate_succ, ctr (show k ≤ 1000000 by omega)]) (by simp -implicitDefEqProofs only [go_sem, ↓reduceIte, Nat.reduceEqDiff, Nat.reduceAdd, Nat.reduceMul, Nat.reduceSub, Nat.reduceLeDiff, Nat.reduceLT, Nat.reducePow, reduceCtorEq, Int.reduceToNat, Int.reduceLT, Int.reduceLE, Int.reduceEq, Int.reduceAdd, Int.reduceSub, Int.reduceMul, Int.reduceNeg, Int.reduceTMod, Int.reduceTDiv, List.replicate_zero, List.replicate_succ]) (by decide) (by decide) (by simp -implicitDefEqProofs only [go_sem, ↓reduceIte, Nat.reduceEqDiff, Nat.reduceAdd, Nat.reduceMul, Nat.reduceSub, Nat.reduceLeDiff, Nat.reduceLT, Nat.reducePow, reduceCtorEq, Int.reduceToNat, Int.reduceLT, Int.reduceLE, Int.reduceEq, Int.reduceAdd, Int.reduceSub, Int.reduceMul, Int.reduceNeg, Int.reduceTMod, Int.reduceTDiv, List.replicate_zero, List.replicate_succ]) (by simp -implicitDefEqProofs only [go_sem, ↓reduceIte, Nat.reduceEqDiff, Nat.reduceAdd, Nat.reduceMul, Nat.reduceSub, Nat.reduceLeDiff, Nat.reduceLT, Nat.reducePow, reduceCtorEq, Int.reduceToNat, Int.reduceLT, Int.reduceLE, Int.reduceEq, Int.reduceAdd, Int.reduceSub, Int.reduceMul, Int.reduceNeg, Int.reduceTMod, Int.reduceTDiv, List.replicate_zero, List.replicate_succ]), by simp; omega⟩
    · have h3 : k = l.length := by simp at h3; omega
      have skip : idx p l 0 = idx p (l.drop k) (0 + k) := idx_skip p _ k 0 hkk hk
      rw [h3, List.drop_length, idx] at skip
      simp -implicitDefEqProofs only [go_sem, ↓reduceIte, Nat.reduceEqDiff, Nat.reduceAdd, Nat.reduceMul, Nat.reduceSub, Nat.reduceLeDiff, Nat.reduceLT, Nat.reducePow, reduceCtorEq, Int.reduceToNat, Int.reduceLT, Int.reduceLE, Int.reduceEq, Int.reduceAdd, Int.reduceSub, Int.reduceMul, Int.reduceNeg, Int.reduceTMod, Int.reduceTDiv, List.replicate_zero, List.replicate_succ]
      rw [skip]
      exact .refl _

theorem contains48 (f : Nat) (c : D) (p : Int → Bool) (l : List Int) (hl : l.length ≤ 1000000) (hp : ∀ a ∈ l, Gives Try.prog f [.c (.int .i64 a), .c c] (.c (.d (.bool (p a)))) []) :
    Gives Try.prog 48 [.c (.sl 1 (nums l)), .c (.fn f [c])] (.c (.d (.bool (l.any p)))) [] := by
  refine Gives.of_w TryEnv Try.func48 (by decide) TryL48_ok Try.ntmps48 (rs := [.tmp 4]) rfl (by simp) [] (by decide) ?_; rw [TryL48]
  repeat' first
    | simp -implicitDefEqProofs only [go_sem, ↓reduceIte, Nat.reduceEqDiff, Nat.reduceAdd, Nat.reduceMul, Nat.reduceSub, Nat.reduceLeDiff, Nat.reduceLT, Nat.reducePow, reduceCtorEq, Int.reduceToNat, Int.reduceLT, Int.reduceLE, Int.reduceEq, Int.reduceAdd, Int.reduceSub, Int.reduceMul, Int.reduceNeg, Int.reduceTMod, Int.reduceTDiv, List.replicate_zero, List.replicate_succ]
    | (refine wCall_intro (index69 f c p l hl hp) ?_ ?_ ?_; rfl; decide)
  rw [idx_any]
  exact .refl _

/-- The same, of a nil slice. -/
theorem contains48_nil (f : Nat) (c : D) : Gives Try.prog 48 [.c .nilSl, .c (.fn f [c])] (.c (.d (.bool false))) [] := by
  have := contains48 f c (fun _ => false) [] (by simp) (by simp)
  refine this.args ?_
  exact ⟨.nil 1, .refl _, trivial⟩
end Go.Proofs.Ytbdodpippgakjaa

namespace Go.Proofs.Ytbdodpippgakjaa
open Go Go.Vs Go.Proofs

/-! ### What is ordered -/

/-- Is the number at place k of the list of step i one that may stand there? -/
def goodAt (n i : Nat) (l : List Int) (k : Nat) : Bool :=
  !(decide (l.getD k 0 < 0) || decide ((n : Int) ≤ l.getD k 0) || decide (l.getD k 0 = i) || (decide (0 < k) && decide (l.getD k 0 ≤ l.getD (k - 1) 0)))
def goodL (n i : Nat) (l : List Int) : Bool := (List.range l.length).all (goodAt n i l)
def goodP (p : Pl) : Bool := (List.range p.steps.length).all fun i => goodL p.steps.length i (p.after.getD i [])
/-- A step joins the row if all that it is after stand in it. -/
def stepIn (after : List (List Int)) (S : List Bool) (i : Nat) : List Bool := if (after.getD i []).all (fun a => S.getD a.toNat false) then S.set i true else S
def roundIn (after : List (List Int)) (n : Nat) (S : List Bool) : List Bool := (List.range n).foldl (stepIn after) S
def roundsIn (after : List (List Int)) (n r : Nat) : List Bool := (List.range r).foldl (fun S _ => roundIn after n S) (List.replicate n false)
def orderedN (p : Pl) : Bool := decide (p.steps.length ≤ 12) && (decide (p.after.length = p.steps.length) && (goodP p && (roundsIn p.after p.steps.length p.steps.length).all id))

theorem stepIn_len (after : List (List Int)) (S : List Bool) (i : Nat) : (stepIn after S i).length = S.length := by
  unfold stepIn
  split <;> simp
theorem foldIn_len (after : List (List Int)) : ∀ (l : List Nat) (S : List Bool), (l.foldl (stepIn after) S).length = S.length
  | [], S => rfl
  | i :: l, S => by rw [List.foldl_cons, foldIn_len after l, stepIn_len]
theorem roundsIn_len (after : List (List Int)) (n : Nat) : ∀ r, (roundsIn after n r).length = n
  | 0 => by simp [roundsIn]
  | r + 1 => by
    have := roundsIn_len after n r
    unfold roundsIn at *
    rw [List.range_succ, List.foldl_append, List.foldl_cons, List.foldl_nil, roundIn, foldIn_len, this]
theorem roundsIn_succ (after : List (List Int)) (n r : Nat) : roundsIn after n (r + 1) = roundIn after n (roundsIn after n r) := by
  unfold roundsIn
  rw [List.range_succ, List.foldl_append, List.foldl_cons, List.foldl_nil]
theorem foldIn_succ (after : List (List Int)) (S : List Bool) (i : Nat) : (List.range (i + 1)).foldl (stepIn after) S = stepIn after ((List.range i).foldl (stepIn after) S) i := by
  rw [List.range_succ, List.foldl_append, List.foldl_cons, List.foldl_nil]

/-- The steps before i, each in its turn. -/
def passIn (after : List (List Int)) (S : List Bool) (i : Nat) : List Bool := (List.range i).foldl (stepIn after) S
theorem passIn_zero (after : List (List Int)) (S : List Bool) : passIn after S 0 = S := rfl
theorem passIn_len (after : List (List Int)) (S : List Bool) (i : Nat) : (passIn after S i).length = S.length := foldIn_len after _ S
theorem passIn_succ (after : List (List Int)) (S : List Bool) (i : Nat) : passIn after S (i + 1) = stepIn after (passIn after S i) i := foldIn_succ after S i
theorem roundIn_pass (after : List (List Int)) (n : Nat) (S : List Bool) : roundIn after n S = passIn after S n := rfl

def mkL (after : List (List Int)) (q : Nat → Bool) (L : List Nat) : List (Int × List Int) := (L.filter q).map fun (i : Nat) => ((i : Int), after.getD i [])
def leftOf (after : List (List Int)) (n : Nat) (S : List Bool) : List (Int × List Int) := mkL after (fun i => !S.getD i false) (List.range n)

theorem val_mkL (after : List (List Int)) (q : Nat → Bool) (i : Nat) : ∀ (L : List Nat), valOf (mkL after q L) (i : Int) = if i ∈ L ∧ q i = true then some (after.getD i []) else none
  | [] => by simp [mkL, valOf]
  | j :: L => by
    have ih := val_mkL after q i L
    unfold mkL at *
    rw [List.filter_cons]
    cases hq : q j with
    | true =>
      rw [if_pos rfl, List.map_cons]
      by_cases hij : i = j
      · subst hij
        simp [valOf, hq]
      · have h2 : ¬ (j : Int) = (i : Int) := by omega
        have e : ∀ (x : List Int) (l : List (Int × List Int)), valOf (((j : Int), x) :: l) (i : Int) = valOf l (i : Int) := fun x l => by simp [valOf, List.find?_cons, h2]
        rw [e, ih]
        simp [hij]
    | false =>
      rw [if_neg (by simp), ih]
      by_cases hij : i = j
      · subst hij
        simp [hq]
      · simp [hij]

theorem del_mkL (after : List (List Int)) (q : Nat → Bool) (i : Nat) : ∀ (L : List Nat), L.Nodup → mpDel (i : Int) (mpL (mkL after q L)) = mpL (mkL after (fun j => q j && decide (j ≠ i)) L)
  | [], _ => by simp [mkL, mpL, mpDel]
  | j :: L, hn => by
    have hn' := List.nodup_cons.1 hn
    have ih := del_mkL after q i L hn'.2
    unfold mkL mpL at *
    rw [List.filter_cons, List.filter_cons]
    by_cases hq : q j = true
    · by_cases hij : (i : Int) = (j : Int)
      · have hij' : i = j := by omega
        subst hij'
        simp only [hq, if_true, List.map_cons, mpDel, ne_eq, not_true_eq_false, decide_false, Bool.and_false, Bool.false_eq_true, if_false]
        congr 2
        apply List.filter_congr
        intro x hx
        have : ¬ x = i := fun e => hn'.1 (e ▸ hx)
        simp [this]
      · have hij' : ¬ j = i := by omega
        simp only [hq, if_true, List.map_cons, mpDel, hij, if_false, hij', not_false_eq_true, decide_true, Bool.and_self, ne_eq] at *
        rw [ih]
    · simp only [hq, Bool.false_eq_true, if_false, Bool.false_and] at *
      exact ih

theorem left_val (after : List (List Int)) (n : Nat) (S : List Bool) (i : Nat) (hi : i < n) : valOf (leftOf after n S) (i : Int) = if S.getD i false then none else some (after.getD i []) := by
  rw [leftOf, val_mkL]
  cases S.getD i false <;> simp [hi]
theorem left_key (after : List (List Int)) (n : Nat) (S : List Bool) (a : Int) (h0 : 0 ≤ a) (h1 : a < n) : isKey (leftOf after n S) a = !S.getD a.toNat false := by
  have h : ((a.toNat : Nat) : Int) = a := Int.toNat_of_nonneg h0
  have := left_val after n S a.toNat (by omega)
  rw [h] at this
  rw [isKey_val, this]
  cases S.getD a.toNat false <;> rfl
theorem getD_set {α : Type} (S : List α) (i j : Nat) (x d : α) (hi : i < S.length) : (S.set i x).getD j d = if j = i then x else S.getD j d := by
  simp only [List.getD_eq_getElem?_getD, List.getElem?_set]
  by_cases h : j = i
  · subst h; simp [hi]
  · have : ¬ i = j := fun e => h e.symm
    simp [h, this]
theorem left_del (after : List (List Int)) (S : List Bool) (i : Nat) (hi : i < S.length) : mpDel (i : Int) (mpL (leftOf after S.length S)) = mpL (leftOf after S.length (S.set i true)) := by
  rw [leftOf, del_mkL after _ i _ List.nodup_range, leftOf]
  congr 2
  funext j
  rw [getD_set _ _ _ _ _ hi]
  by_cases h : j = i
  · simp [h]
  · simp [h]
theorem left_start (after : List (List Int)) (n : Nat) : leftOf after n (List.replicate n false) = (List.range n).map fun (i : Nat) => ((i : Int), after.getD i []) := by
  unfold leftOf mkL
  congr 1
  rw [List.filter_eq_self]
  intro i hi
  have : i < n := by simpa using hi
  simp [List.getD_eq_getElem?_getD, List.getElem?_replicate, this]
theorem left_none (after : List (List Int)) (S : List Bool) : decide ((mpL (leftOf after S.length S)).length = 0) = S.all id := by
  rw [mpL, List.length_map, leftOf, mkL, List.length_map, Bool.eq_iff_iff]
  simp only [decide_eq_true_eq, List.length_eq_zero_iff, List.filter_eq_nil_iff, List.mem_range, List.all_eq_true, id]
  constructor
  · intro h x hx
    obtain ⟨j, hj, e⟩ := List.getElem_of_mem hx
    have := h j hj
    simpa [List.getD_eq_getElem?_getD, hj, e] using this
  · intro h i hi
    have := h _ (List.getElem_mem hi)
    simp [List.getD_eq_getElem?_getD, hi, this]

/-- The start of the map: one entry for each place. -/
def startL (after : List (List Int)) (k : Nat) : List (Int × List Int) := (List.range k).map fun (i : Nat) => ((i : Int), after.getD i [])
theorem start_none (after : List (List Int)) (k : Nat) : valOf (startL after k) (k : Int) = none := by
  have e : startL after k = mkL after (fun _ => true) (List.range k) := by rw [mkL, List.filter_eq_self.2 (fun _ _ => rfl)]; rfl
  rw [e, val_mkL]
  simp
theorem start_succ (after : List (List Int)) (k : Nat) : mpL (startL after k) ++ [(.int .i64 (k : Int), .sl 1 (nums (after.getD k [])))] = mpL (startL after (k + 1)) := by
  simp [startL, mpL, List.range_succ]
theorem start_left (after : List (List Int)) (n : Nat) : startL after n = leftOf after n (List.replicate n false) := (left_start after n).symm

/-- Good numbers are places. -/
theorem goodL_mem {n i : Nat} {l : List Int} (h : goodL n i l = true) : ∀ a ∈ l, 0 ≤ a ∧ a < n := by
  intro a ha
  obtain ⟨k, hk, e⟩ := List.getElem_of_mem ha
  have := (List.all_eq_true.1 h) k (List.mem_range.2 hk)
  simp only [goodAt, List.getD_eq_getElem?_getD, List.getElem?_eq_getElem hk, Option.getD_some, e, Bool.not_eq_true', Bool.or_eq_false_iff, decide_eq_false_iff_not] at this
  omega

/-- Nothing that a step waits for is left: it joins. -/
theorem left_any (after : List (List Int)) (n : Nat) (S : List Bool) (l : List Int) (hl : ∀ a ∈ l, 0 ≤ a ∧ a < n) : l.any (isKey (leftOf after n S)) = !(l.all fun a => S.getD a.toNat false) := by
  induction l with
  | nil => rfl
  | cons a l ih =>
    obtain ⟨h0, h1⟩ := hl a (List.mem_cons_self ..)
    rw [List.any_cons, List.all_cons, ih fun b hb => hl b (List.mem_cons_of_mem _ hb), left_key after n S a h0 h1, Bool.not_and]

theorem range_all_succ (p : Nat → Bool) (k : Nat) : (List.range (k + 1)).all p = ((List.range k).all p && p k) := by
  rw [List.range_succ, List.all_append]
  simp
end Go.Proofs.Ytbdodpippgakjaa

namespace Go.Proofs.Ytbdodpippgakjaa
open Go Go.Vs Go.Proofs

theorem getD_of {α : Type} {l : List α} {k : Nat} (h : k < l.length) (d : α) : l.getD k d = l[k] := by simp [List.getD_eq_getElem?_getD, h]

set_option maxHeartbeats 2000000 in
theorem ordered18 (p : Pl) (hp : p.small) : Gives Try.prog 18 [.agg [.sl 4 (stps p.steps), .sl 1 (afts p.after)]] (.c (.d (.bool (orderedN p)))) [] := by
  obtain ⟨hp1, hp2, hp3⟩ := hp
  refine Gives.of_w TryEnv Try.func18 (by decide) TryL18_ok Try.ntmps18 (rs := [.tmp 2]) rfl (by simp) [] (by decide) ?_; rw [TryL18]
  repeat' first
    | simp -implicitDefEqProofs only [go_sem, ↓reduceIte, Nat.reduceEqDiff, Nat.reduceAdd, Nat.reduceMul, Nat.reduceSub, Nat.reduceLeDiff, Nat.reduceLT, Nat.reducePow, reduceCtorEq, Int.reduceToNat, Int.reduceLT, Int.reduceLE, Int.reduceEq, Int.reduceAdd, Int.reduceSub, Int.reduceMul, Int.reduceNeg, Int.reduceTMod, Int.reduceTDiv, List.replicate_zero, List.replicate_succ]
    | refine wfork_intro (fun h => ?_) (fun h => ?_)
  · have : orderedN p = false := by
      have h : ¬ p.steps.length ≤ 12 := by simp at h; omega
      simp [orderedN, h]
    rw [this]
    exact .refl _
  · have : orderedN p = false := by
      have h : ¬ p.after.length = p.steps.length := by simp at h; omega
      simp [orderedN, h]
    rw [this]
    exact .refl _
  · rename_i h1
    have h1 : p.steps.length ≤ 12 := by simp at h1; omega
    have h2 : p.after.length = p.steps.length := by simp at h; omega
    have hO : orderedN p = (goodP p && (roundsIn p.after p.steps.length p.steps.length).all id) := by simp [orderedN, h1, h2]
    clear h
    generalize hn : p.steps.length = n at *
    refine wT_loop (fun k : { k : Nat // k ≤ n ∧ (List.range k).all (fun i => goodL n i (p.after.getD i [])) = true } =>
      ⟨[(1, .c (.ptr 0 0)), (3, .c (.d (.int .i64 (n : Nat)))), (4, .c (.ptr 64 0)), (25, .c (.d (.sl 1 (afts p.after)))), (26, .c (.d (.int .i64 (p.after.length : Nat)))), (27, .c (.d (.int .i64 (k.1 : Nat))))],
      [(0, .box [.d (.sl 4 (stps p.steps)), .d (.sl 1 (afts p.after))]), (60, .mp (mpL (startL p.after k.1))), (64, .box [.mref 60])], 65⟩) (fun k => n - k.1) ⟨0, by simp⟩ ?_ ?_
    · refine Wk.sub ?_ ?_ (by decide) (by decide) ?_ ?_
      all_goals simp -implicitDefEqProofs only [go_sem, ↓reduceIte, Nat.reduceEqDiff, Nat.reduceAdd, Nat.reduceMul, Nat.reduceSub, Nat.reduceLeDiff, Nat.reduceLT, Nat.reducePow, reduceCtorEq, Int.reduceToNat, Int.reduceLT, Int.reduceLE, Int.reduceEq, Int.reduceAdd, Int.reduceSub, Int.reduceMul, Int.reduceNeg, Int.reduceTMod, Int.reduceTDiv, List.replicate_zero, List.replicate_succ, Int.natCast_zero, startL, mpL, List.range_zero]
    · rintro ⟨k, hk, hkk⟩
      refine wT_of TryEnv ?_
      simp -implicitDefEqProofs only [go_sem, ↓reduceIte, Nat.reduceEqDiff, Nat.reduceAdd, Nat.reduceMul, Nat.reduceSub, Nat.reduceLeDiff, Nat.reduceLT, Nat.reducePow, reduceCtorEq, Int.reduceToNat, Int.reduceLT, Int.reduceLE, Int.reduceEq, Int.reduceAdd, Int.reduceSub, Int.reduceMul, Int.reduceNeg, Int.reduceTMod, Int.reduceTDiv, List.replicate_zero, List.replicate_succ]
      refine wfork_intro (fun h => ?_) (fun h => ?_)
      · have h : k < p.after.length := by simp at h; omega
        have hl := hp3 _ (List.getElem_mem h)
        have hg : p.after[k]? = some p.after[k] := List.getElem?_eq_getElem h
        have hgd : p.after.getD k [] = p.after[k] := getD_of h _
        generalize p.after[k] = x at *
        simp -implicitDefEqProofs only [go_sem, ↓reduceIte, Nat.reduceEqDiff, Nat.reduceAdd, Nat.reduceMul, Nat.reduceSub, Nat.reduceLeDiff, Nat.reduceLT, Nat.reducePow, reduceCtorEq, Int.reduceToNat, Int.reduceLT, Int.reduceLE, Int.reduceEq, Int.reduceAdd, Int.reduceSub, Int.reduceMul, Int.reduceNeg, Int.reduceTMod, Int.reduceTDiv, List.replicate_zero, List.replicate_succ, afts_get, hg, Int.toNat_natCast, Int.natCast_nonneg]
        refine wT_loop (fun j : { j : Nat // j ≤ x.length ∧ (List.range j).all (goodAt n k x) = true } =>
          ⟨[(1, .c (.ptr 0 0)), (3, .c (.d (.int .i64 (n : Nat)))), (4, .c (.ptr 64 0)), (5, .c (.d (.int .i64 (k : Nat)))), (6, .c (.d (.sl 1 (nums x)))),
            (25, .c (.d (.sl 1 (afts p.after)))), (26, .c (.d (.int .i64 (p.after.length : Nat)))), (27, .c (.d (.int .i64 (k : Nat)))),
            (32, .c (.d (.sl 1 (nums x)))), (33, .c (.d (.int .i64 (x.length : Nat)))), (34, .c (.d (.int .i64 (j.1 : Nat))))],
          [(0, .box [.d (.sl 4 (stps p.steps)), .d (.sl 1 (afts p.after))]), (60, .mp (mpL (startL p.after k))), (64, .box [.mref 60])], 65⟩) (fun j => x.length - j.1) ⟨0, by simp⟩ ?_ ?_
        · refine Wk.sub ?_ ?_ (by decide) (by decide) ?_ ?_
          all_goals simp -implicitDefEqProofs only [go_sem, ↓reduceIte, Nat.reduceEqDiff, Nat.reduceAdd, Nat.reduceMul, Nat.reduceSub, Nat.reduceLeDiff, Nat.reduceLT, Nat.reducePow, reduceCtorEq, Int.reduceToNat, Int.reduceLT, Int.reduceLE, Int.reduceEq, Int.reduceAdd, Int.reduceSub, Int.reduceMul, Int.reduceNeg, Int.reduceTMod, Int.reduceTDiv, List.replicate_zero, List.replicate_succ, Int.natCast_zero]
        · rintro ⟨j, hj, hjj⟩
          refine wT_of TryEnv ?_
          simp -implicitDefEqProofs only [go_sem, ↓reduceIte, Nat.reduceEqDiff, Nat.reduceAdd, Nat.reduceMul, Nat.reduceSub, Nat.reduceLeDiff, Nat.reduceLT, Nat.reducePow, reduceCtorEq, Int.reduceToNat, Int.reduceLT, Int.reduceLE, Int.reduceEq, Int.reduceAdd, Int.reduceSub, Int.reduceMul, Int.reduceNeg, Int.reduceTMod, Int.reduceTDiv, List.replicate_zero, List.replicate_succ]
          refine wfork_intro (fun h3 => ?_) (fun h3 => ?_)
          · have h3 : j < x.length := by simp at h3; omega
            have hgj : x[j]? = some x[j] := List.getElem?_eq_getElem h3
            have hgdj : x.getD j 0 = x[j] := getD_of h3 _
            have bad : goodAt n k x j = false → orderedN p = false := fun hb => by
              have : goodL n k x = false := by
                rw [goodL, List.all_eq_false]
                exact ⟨j, List.mem_range.2 h3, by simp [hb]⟩
              have : goodP p = false := by
                rw [goodP, List.all_eq_false]
                exact ⟨k, List.mem_range.2 (by omega), by rw [hgd, hn, this]; simp⟩
              rw [hO, this]
              rfl
            have good : goodAt n k x j = !(decide (x[j] < 0) || decide ((n : Int) ≤ x[j]) || decide (x[j] = k) || (decide (0 < j) && decide (x[j] ≤ x.getD (j - 1) 0))) := by rw [goodAt, hgdj]
            have hj1 : ∀ _ : 0 < j, IntKind.i64.wrap ((j : Int) - 1) = ((j - 1 : Nat) : Int) := fun _ => by rw [wrap64 (by omega) (by omega)]; omega
            have hg1 : ∀ _ : 0 < j, x[j - 1]? = some (x.getD (j - 1) 0) := fun _ => by simp [List.getD_eq_getElem?_getD, show j - 1 < x.length by omega]
            generalize x[j] = a at *
            generalize x.getD (j - 1) 0 = b at *
            repeat' first
              | simp -implicitDefEqProofs only [go_sem, ↓reduceIte, Nat.reduceEqDiff, Nat.reduceAdd, Nat.reduceMul, Nat.reduceSub, Nat.reduceLeDiff, Nat.reduceLT, Nat.reducePow, reduceCtorEq, Int.reduceToNat, Int.reduceLT, Int.reduceLE, Int.reduceEq, Int.reduceAdd, Int.reduceSub, Int.reduceMul, Int.reduceNeg, Int.reduceTMod, Int.reduceTDiv, List.replicate_zero, List.replicate_succ, nums_get, hgj, Int.toNat_natCast, Int.natCast_nonneg]
              | refine Also.mk (by decide) ?_
              | refine wfork_intro (fun h5 => ?_) (fun h5 => ?_)
              | (rename decide ((0 : Int) < (j : Int)) = true => h6; have h6 : 0 < j := by simpa using h6
                 rw [hj1 h6])
              | simp -implicitDefEqProofs only [go_sem, ↓reduceIte, Nat.reduceEqDiff, Nat.reduceAdd, Nat.reduceMul, Nat.reduceSub, Nat.reduceLeDiff, Nat.reduceLT, Nat.reducePow, reduceCtorEq, Int.reduceToNat, Int.reduceLT, Int.reduceLE, Int.reduceEq, Int.reduceAdd, Int.reduceSub, Int.reduceMul, Int.reduceNeg, Int.reduceTMod, Int.reduceTDiv, List.replicate_zero, List.replicate_succ, nums_get, hg1 (by assumption), Int.toNat_natCast, Int.natCast_nonneg]
            all_goals simp only [decide_eq_true_eq, decide_eq_false_iff_not] at *
            all_goals first
              | (have hb : orderedN p = false := bad (by rw [good]; simp [*]; try omega)
                 rw [hb]
                 exact .refl _)
              | (have hgood : goodAt n k x j = true := by
                   rw [good]
                   simp [*]
                   try omega
                 refine ⟨⟨j + 1, by omega, by rw [range_all_succ, hjj, hgood]; rfl⟩, Wk.sub (by simp -implicitDefEqProofs only [go_sem, ↓reduceIte, Nat.reduceEqDiff, Nat.reduceAdd, Nat.reduceMul, Nat.reduceSub, Nat.reduceLeDiff, Nat.reduceLT, Nat.reducePow, reduceCtorEq, Int.reduceToNat, Int.reduceLT, Int.reduceLE, Int.reduceEq, Int.reduceAdd, Int.reduceSub, Int.reduceMul, Int.reduceNeg, Int.reduceTMod, Int.reduceTDiv, List.replicate_zero, List.replicate_succ, ctr (show j ≤ 1000000 by omega)]) (by simp -implicitDefEqProofs only [go_sem, ↓reduceIte, Nat.reduceEqDiff, Nat.reduceAdd, Nat.reduceMul, Nat.reduceSub, Nat.reduceLeDiff, Nat.reduceLT, Nat.reducePow, reduceCtorEq, Int.reduceToNat, Int.reduceLT, Int.reduceLE, Int.reduceEq, Int.reduceAdd, Int.reduceSub, Int.reduceMul, Int.reduceNeg, Int.reduceTMod, Int.reduceTDiv, List.replicate_zero, List.replicate_succ]) (by decide) (by decide) (by simp -implicitDefEqProofs only [go_sem, ↓reduceIte, Nat.reduceEqDiff, Nat.reduceAdd, Nat.reduceMul, Nat.reduceSub, Nat.reduceLeDiff, Nat.reduceLT, Nat.reducePow, reduceCtorEq, Int.reduceToNat, Int.reduceLT, Int.reduceLE, Int.reduceEq, Int.reduceAdd, Int.reduceSub, Int.reduceMul, Int.reduceNeg, Int.reduceTMod, Int.reduceTDiv, List.replicate_zero, List.replicate_succ]) (by simp -implicitDefEqProofs only [go_sem, ↓reduceIte, Nat.reduceEqDiff, Nat.reduceAdd, Nat.reduceMul, Nat.reduceSub, Nat.reduceLeDiff, Nat.reduceLT, Nat.reducePow, reduceCtorEq, Int.reduceToNat, Int.reduceLT, Int.reduceLE, Int.reduceEq, Int.reduceAdd, Int.reduceSub, Int.reduceMul, Int.reduceNeg, Int.reduceTMod, Int.reduceTDiv, List.replicate_zero, List.replicate_succ]), by simp; omega⟩)
          · have h3 : j = x.length := by simp at h3; omega
            subst h3
            have hv := start_none p.after k
            have hsucc := start_succ p.after k
            rw [hgd] at hsucc
            simp -implicitDefEqProofs only [go_sem, ↓reduceIte, Nat.reduceEqDiff, Nat.reduceAdd, Nat.reduceMul, Nat.reduceSub, Nat.reduceLeDiff, Nat.reduceLT, Nat.reducePow, reduceCtorEq, Int.reduceToNat, Int.reduceLT, Int.reduceLE, Int.reduceEq, Int.reduceAdd, Int.reduceSub, Int.reduceMul, Int.reduceNeg, Int.reduceTMod, Int.reduceTDiv, List.replicate_zero, List.replicate_succ, mpLook_mpL, hv, hsucc]
            refine ⟨⟨k + 1, by omega, by rw [range_all_succ, hkk, hgd]; simpa [goodL] using hjj⟩, Wk.sub (by simp -implicitDefEqProofs only [go_sem, ↓reduceIte, Nat.reduceEqDiff, Nat.reduceAdd, Nat.reduceMul, Nat.reduceSub, Nat.reduceLeDiff, Nat.reduceLT, Nat.reducePow, reduceCtorEq, Int.reduceToNat, Int.reduceLT, Int.reduceLE, Int.reduceEq, Int.reduceAdd, Int.reduceSub, Int.reduceMul, Int.reduceNeg, Int.reduceTMod, Int.reduceTDiv, List.replicate_zero, List.replicate_succ, ctr (show k ≤ 1000000 by omega)]) (by simp -implicitDefEqProofs only [go_sem, ↓reduceIte, Nat.reduceEqDiff, Nat.reduceAdd, Nat.reduceMul, Nat.reduceSub, Nat.reduceLeDiff, Nat.reduceLT, Nat.reducePow, reduceCtorEq, Int.reduceToNat, Int.reduceLT, Int.reduceLE, Int.reduceEq, Int.reduceAdd, Int.reduceSub, Int.reduceMul, Int.reduceNeg, Int.reduceTMod, Int.reduceTDiv, List.replicate_zero, List.replicate_succ]) (by decide) (by decide) (by simp -implicitDefEqProofs only [go_sem, ↓reduceIte, Nat.reduceEqDiff, Nat.reduceAdd, Nat.reduceMul, Nat.reduceSub, Nat.reduceLeDiff, Nat.reduceLT, Nat.reducePow, reduceCtorEq, Int.reduceToNat, Int.reduceLT, Int.reduceLE, Int.reduceEq, Int.reduceAdd, Int.reduceSub, Int.reduceMul, Int.reduceNeg, Int.reduceTMod, Int.reduceTDiv, List.replicate_zero, List.replicate_succ]) (by simp -implicitDefEqProofs only [go_sem, ↓reduceIte, Nat.reduceEqDiff, Nat.reduceAdd, Nat.reduceMul, Nat.reduceSub, Nat.reduceLeDiff, Nat.reduceLT, Nat.reducePow, reduceCtorEq, Int.reduceToNat, Int.reduceLT, Int.reduceLE, Int.reduceEq, Int.reduceAdd, Int.reduceSub, Int.reduceMul, Int.reduceNeg, Int.reduceTMod, Int.reduceTDiv, List.replicate_zero, List.replicate_succ]), by simp; omega⟩
      · have h : k = n := by simp at h; omega
        subst h
        have hP : goodP p = true := by rw [goodP, hn]; exact hkk
        have hG : ∀ i, i < k → ∀ a ∈ p.after.getD i [], 0 ≤ a ∧ a < k := fun i hi => goodL_mem ((List.all_eq_true.1 hkk) i (List.mem_range.2 hi))
        have hO : orderedN p = (roundsIn p.after k k).all id := by rw [hO, hP]; rfl
        have hL : ∀ i, i < k → (p.after.getD i []).length ≤ 1000000 := fun i hi => by
          rw [getD_of (by omega)]
          have := hp3 _ (List.getElem_mem (show i < p.after.length by omega))
          omega
        simp -implicitDefEqProofs only [go_sem, ↓reduceIte, Nat.reduceEqDiff, Nat.reduceAdd, Nat.reduceMul, Nat.reduceSub, Nat.reduceLeDiff, Nat.reduceLT, Nat.reducePow, reduceCtorEq, Int.reduceToNat, Int.reduceLT, Int.reduceLE, Int.reduceEq, Int.reduceAdd, Int.reduceSub, Int.reduceMul, Int.reduceNeg, Int.reduceTMod, Int.reduceTDiv, List.replicate_zero, List.replicate_succ]
        refine wT_loop (fun r : { r : Nat // r ≤ k } =>
          ⟨[(1, .c (.ptr 0 0)), (3, .c (.d (.int .i64 (k : Nat)))), (4, .c (.ptr 64 0)), (9, .c (.fn 47 [.ptr 64 0])), (70, .c (.d (.int .i64 (k : Nat)))), (71, .c (.d (.int .i64 (r.1 : Nat))))],
          [(0, .box [.d (.sl 4 (stps p.steps)), .d (.sl 1 (afts p.after))]), (60, .mp (mpL (leftOf p.after k (roundsIn p.after k r.1)))), (64, .box [.mref 60])], 65⟩) (fun r => k - r.1) ⟨0, by simp⟩ ?_ ?_
        · refine Wk.sub ?_ ?_ (by decide) (by decide) ?_ ?_
          all_goals simp -implicitDefEqProofs only [go_sem, ↓reduceIte, Nat.reduceEqDiff, Nat.reduceAdd, Nat.reduceMul, Nat.reduceSub, Nat.reduceLeDiff, Nat.reduceLT, Nat.reducePow, reduceCtorEq, Int.reduceToNat, Int.reduceLT, Int.reduceLE, Int.reduceEq, Int.reduceAdd, Int.reduceSub, Int.reduceMul, Int.reduceNeg, Int.reduceTMod, Int.reduceTDiv, List.replicate_zero, List.replicate_succ, Int.natCast_zero, start_left, show roundsIn p.after k 0 = List.replicate k false from rfl]
        · rintro ⟨r, hr⟩
          refine wT_of TryEnv ?_
          simp -implicitDefEqProofs only [go_sem, ↓reduceIte, Nat.reduceEqDiff, Nat.reduceAdd, Nat.reduceMul, Nat.reduceSub, Nat.reduceLeDiff, Nat.reduceLT, Nat.reducePow, reduceCtorEq, Int.reduceToNat, Int.reduceLT, Int.reduceLE, Int.reduceEq, Int.reduceAdd, Int.reduceSub, Int.reduceMul, Int.reduceNeg, Int.reduceTMod, Int.reduceTDiv, List.replicate_zero, List.replicate_succ]
          refine wfork_intro (fun h => ?_) (fun h => ?_)
          · have h : r < k := by simp at h; omega
            have hSl := roundsIn_len p.after k r
            have hS1 := roundsIn_succ p.after k r
            generalize roundsIn p.after k r = S at *
            simp -implicitDefEqProofs only [go_sem, ↓reduceIte, Nat.reduceEqDiff, Nat.reduceAdd, Nat.reduceMul, Nat.reduceSub, Nat.reduceLeDiff, Nat.reduceLT, Nat.reducePow, reduceCtorEq, Int.reduceToNat, Int.reduceLT, Int.reduceLE, Int.reduceEq, Int.reduceAdd, Int.reduceSub, Int.reduceMul, Int.reduceNeg, Int.reduceTMod, Int.reduceTDiv, List.replicate_zero, List.replicate_succ]
            refine wT_loop (fun i : { i : Nat // i ≤ k } =>
              ⟨[(1, .c (.ptr 0 0)), (3, .c (.d (.int .i64 (k : Nat)))), (4, .c (.ptr 64 0)), (9, .c (.fn 47 [.ptr 64 0])), (70, .c (.d (.int .i64 (k : Nat)))), (71, .c (.d (.int .i64 (r : Nat)))),
                (73, .c (.d (.int .i64 (k : Nat)))), (74, .c (.d (.int .i64 (i.1 : Nat))))],
              [(0, .box [.d (.sl 4 (stps p.steps)), .d (.sl 1 (afts p.after))]), (60, .mp (mpL (leftOf p.after k (passIn p.after S i.1)))), (64, .box [.mref 60])], 65⟩) (fun i => k - i.1) ⟨0, by simp⟩ ?_ ?_
            · refine Wk.sub ?_ ?_ (by decide) (by decide) ?_ ?_
              all_goals simp -implicitDefEqProofs only [go_sem, ↓reduceIte, Nat.reduceEqDiff, Nat.reduceAdd, Nat.reduceMul, Nat.reduceSub, Nat.reduceLeDiff, Nat.reduceLT, Nat.reducePow, reduceCtorEq, Int.reduceToNat, Int.reduceLT, Int.reduceLE, Int.reduceEq, Int.reduceAdd, Int.reduceSub, Int.reduceMul, Int.reduceNeg, Int.reduceTMod, Int.reduceTDiv, List.replicate_zero, List.replicate_succ, Int.natCast_zero, passIn_zero]
            · rintro ⟨i, hi⟩
              refine wT_of TryEnv ?_
              simp -implicitDefEqProofs only [go_sem, ↓reduceIte, Nat.reduceEqDiff, Nat.reduceAdd, Nat.reduceMul, Nat.reduceSub, Nat.reduceLeDiff, Nat.reduceLT, Nat.reducePow, reduceCtorEq, Int.reduceToNat, Int.reduceLT, Int.reduceLE, Int.reduceEq, Int.reduceAdd, Int.reduceSub, Int.reduceMul, Int.reduceNeg, Int.reduceTMod, Int.reduceTDiv, List.replicate_zero, List.replicate_succ]
              refine wfork_intro (fun h => ?_) (fun h => ?_)
              · have h : i < k := by simp at h; omega
                have hTl := passIn_len p.after S i
                have hT1 := passIn_succ p.after S i
                generalize passIn p.after S i = T at *
                have hv := left_val p.after k T i h
                have hd := left_del p.after T i (by omega)
                rw [hTl, hSl] at hd
                have hany := left_any p.after k T (p.after.getD i []) (hG i h)
                have hL := hL i h
                have hG := hG i h
                cases hTi : T.getD i false with
                | true =>
                  rw [if_pos hTi] at hv
                  have hset : T.set i true = T := by
                    apply List.ext_getElem?
                    intro j
                    rw [List.getElem?_set]
                    split
                    · rename_i e
                      subst e
                      rw [if_pos (by omega)]
                      rw [getD_of (by omega)] at hTi
                      rw [List.getElem?_eq_getElem (by omega), hTi]
                    · rfl
                  have hst : stepIn p.after T i = T := by
                    unfold stepIn
                    rw [hset]
                    split <;> rfl
                  rw [hst] at hT1
                  rw [hset] at hd
                  repeat' first
                    | simp -implicitDefEqProofs only [go_sem, ↓reduceIte, Nat.reduceEqDiff, Nat.reduceAdd, Nat.reduceMul, Nat.reduceSub, Nat.reduceLeDiff, Nat.reduceLT, Nat.reducePow, reduceCtorEq, Int.reduceToNat, Int.reduceLT, Int.reduceLE, Int.reduceEq, Int.reduceAdd, Int.reduceSub, Int.reduceMul, Int.reduceNeg, Int.reduceTMod, Int.reduceTDiv, List.replicate_zero, List.replicate_succ, mpLook_mpL, hv]
                    | refine Also.mk (by decide) ?_
                    | (refine wCall_intro (contains48_nil _ _) ?_ ?_ ?_; rfl; decide)
                    | refine wfork_intro (fun h5 => ?_) (fun h5 => ?_)
                  refine ⟨⟨i + 1, by omega⟩, Wk.sub (by simp -implicitDefEqProofs only [go_sem, ↓reduceIte, Nat.reduceEqDiff, Nat.reduceAdd, Nat.reduceMul, Nat.reduceSub, Nat.reduceLeDiff, Nat.reduceLT, Nat.reducePow, reduceCtorEq, Int.reduceToNat, Int.reduceLT, Int.reduceLE, Int.reduceEq, Int.reduceAdd, Int.reduceSub, Int.reduceMul, Int.reduceNeg, Int.reduceTMod, Int.reduceTDiv, List.replicate_zero, List.replicate_succ, ctr (show i ≤ 1000000 by omega)]) (by simp -implicitDefEqProofs only [go_sem, ↓reduceIte, Nat.reduceEqDiff, Nat.reduceAdd, Nat.reduceMul, Nat.reduceSub, Nat.reduceLeDiff, Nat.reduceLT, Nat.reducePow, reduceCtorEq, Int.reduceToNat, Int.reduceLT, Int.reduceLE, Int.reduceEq, Int.reduceAdd, Int.reduceSub, Int.reduceMul, Int.reduceNeg, Int.reduceTMod, Int.reduceTDiv, List.replicate_zero, List.replicate_succ, hd, hT1]) (by decide) (by decide) (by simp -implicitDefEqProofs only [go_sem, ↓reduceIte, Nat.reduceEqDiff, Nat.reduceAdd, Nat.reduceMul, Nat.reduceSub, Nat.reduceLeDiff, Nat.reduceLT, Nat.reducePow, reduceCtorEq, Int.reduceToNat, Int.reduceLT, Int.reduceLE, Int.reduceEq, Int.reduceAdd, Int.reduceSub, Int.reduceMul, Int.reduceNeg, Int.reduceTMod, Int.reduceTDiv, List.replicate_zero, List.replicate_succ]) (by simp -implicitDefEqProofs only [go_sem, ↓reduceIte, Nat.reduceEqDiff, Nat.reduceAdd, Nat.reduceMul, Nat.reduceSub, Nat.reduceLeDiff, Nat.reduceLT, Nat.reducePow, reduceCtorEq, Int.reduceToNat, Int.reduceLT, Int.reduceLE, Int.reduceEq, Int.reduceAdd, Int.reduceSub, Int.reduceMul, Int.reduceNeg, Int.reduceTMod, Int.reduceTDiv, List.replicate_zero, List.replicate_succ]), by simp; omega⟩
                | false =>
                  rw [hTi, if_neg (by simp)] at hv
                  have hst : stepIn p.after T i = if (p.after.getD i []).all (fun a => T.getD a.toNat false) then T.set i true else T := rfl
                  rw [hst] at hT1
                  generalize ((p.after.getD i []).all fun a => T.getD a.toNat false) = q at *
                  repeat' first
                    | simp -implicitDefEqProofs only [go_sem, ↓reduceIte, Nat.reduceEqDiff, Nat.reduceAdd, Nat.reduceMul, Nat.reduceSub, Nat.reduceLeDiff, Nat.reduceLT, Nat.reducePow, reduceCtorEq, Int.reduceToNat, Int.reduceLT, Int.reduceLE, Int.reduceEq, Int.reduceAdd, Int.reduceSub, Int.reduceMul, Int.reduceNeg, Int.reduceTMod, Int.reduceTDiv, List.replicate_zero, List.replicate_succ, mpLook_mpL, hv]
                    | refine Also.mk (by decide) ?_
                    | (refine wCall_intro (contains48 _ _ _ _ hL (fun a _ => left47 _ a)) ?_ ?_ ?_; rfl; decide)
                    | refine wfork_intro (fun h5 => ?_) (fun h5 => ?_)
                  · have hq : q = true := by rw [hany] at h5; simpa using h5
                    rw [hq, if_pos rfl] at hT1
                    refine ⟨⟨i + 1, by omega⟩, Wk.sub (by simp -implicitDefEqProofs only [go_sem, ↓reduceIte, Nat.reduceEqDiff, Nat.reduceAdd, Nat.reduceMul, Nat.reduceSub, Nat.reduceLeDiff, Nat.reduceLT, Nat.reducePow, reduceCtorEq, Int.reduceToNat, Int.reduceLT, Int.reduceLE, Int.reduceEq, Int.reduceAdd, Int.reduceSub, Int.reduceMul, Int.reduceNeg, Int.reduceTMod, Int.reduceTDiv, List.replicate_zero, List.replicate_succ, ctr (show i ≤ 1000000 by omega)]) (by simp -implicitDefEqProofs only [go_sem, ↓reduceIte, Nat.reduceEqDiff, Nat.reduceAdd, Nat.reduceMul, Nat.reduceSub, Nat.reduceLeDiff, Nat.reduceLT, Nat.reducePow, reduceCtorEq, Int.reduceToNat, Int.reduceLT, Int.reduceLE, Int.reduceEq, Int.reduceAdd, Int.reduceSub, Int.reduceMul, Int.reduceNeg, Int.reduceTMod, Int.reduceTDiv, List.replicate_zero, List.replicate_succ, hd, hT1]) (by decide) (by decide) (by simp -implicitDefEqProofs only [go_sem, ↓reduceIte, Nat.reduceEqDiff, Nat.reduceAdd, Nat.reduceMul, Nat.reduceSub, Nat.reduceLeDiff, Nat.reduceLT, Nat.reducePow, reduceCtorEq, Int.reduceToNat, Int.reduceLT, Int.reduceLE, Int.reduceEq, Int.reduceAdd, Int.reduceSub, Int.reduceMul, Int.reduceNeg, Int.reduceTMod, Int.reduceTDiv, List.replicate_zero, List.replicate_succ]) (by simp -implicitDefEqProofs only [go_sem, ↓reduceIte, Nat.reduceEqDiff, Nat.reduceAdd, Nat.reduceMul, Nat.reduceSub, Nat.reduceLeDiff, Nat.reduceLT, Nat.reducePow, reduceCtorEq, Int.reduceToNat, Int.reduceLT, Int.reduceLE, Int.reduceEq, Int.reduceAdd, Int.reduceSub, Int.reduceMul, Int.reduceNeg, Int.reduceTMod, Int.reduceTDiv, List.replicate_zero, List.replicate_succ]), by simp; omega⟩
                  · have hq : q = false := by rw [hany] at h5; simpa using h5
                    rw [hq, if_neg (by simp)] at hT1
                    refine ⟨⟨i + 1, by omega⟩, Wk.sub (by simp -implicitDefEqProofs only [go_sem, ↓reduceIte, Nat.reduceEqDiff, Nat.reduceAdd, Nat.reduceMul, Nat.reduceSub, Nat.reduceLeDiff, Nat.reduceLT, Nat.reducePow, reduceCtorEq, Int.reduceToNat, Int.reduceLT, Int.reduceLE, Int.reduceEq, Int.reduceAdd, Int.reduceSub, Int.reduceMul, Int.reduceNeg, Int.reduceTMod, Int.reduceTDiv, List.replicate_zero, List.replicate_succ, ctr (show i ≤ 1000000 by omega)]) (by simp -implicitDefEqProofs only [go_sem, ↓reduceIte, Nat.reduceEqDiff, Nat.reduceAdd, Nat.reduceMul, Nat.reduceSub, Nat.reduceLeDiff, Nat.reduceLT, Nat.reducePow, reduceCtorEq, Int.reduceToNat, Int.reduceLT, Int.reduceLE, Int.reduceEq, Int.reduceAdd, Int.reduceSub, Int.reduceMul, Int.reduceNeg, Int.reduceTMod, Int.reduceTDiv, List.replicate_zero, List.replicate_succ, hT1]) (by decide) (by decide) (by simp -implicitDefEqProofs only [go_sem, ↓reduceIte, Nat.reduceEqDiff, Nat.reduceAdd, Nat.reduceMul, Nat.reduceSub, Nat.reduceLeDiff, Nat.reduceLT, Nat.reducePow, reduceCtorEq, Int.reduceToNat, Int.reduceLT, Int.reduceLE, Int.reduceEq, Int.reduceAdd, Int.reduceSub, Int.reduceMul, Int.reduceNeg, Int.reduceTMod, Int.reduceTDiv, List.replicate_zero, List.replicate_succ]) (by simp -implicitDefEqProofs only [go_sem, ↓reduceIte, Nat.reduceEqDiff, Nat.reduceAdd, Nat.reduceMul, Nat.reduceSub, Nat.reduceLeDiff, Nat.reduceLT, Nat.reducePow, reduceCtorEq, Int.reduceToNat, Int.reduceLT, Int.reduceLE, Int.reduceEq, Int.reduceAdd, Int.reduceSub, Int.reduceMul, Int.reduceNeg, Int.reduceTMod, Int.reduceTDiv, List.replicate_zero, List.replicate_succ]), by simp; omega⟩
              · have h : i = k := by simp at h; omega
                subst h
                simp -implicitDefEqProofs only [go_sem, ↓reduceIte, Nat.reduceEqDiff, Nat.reduceAdd, Nat.reduceMul, Nat.reduceSub, Nat.reduceLeDiff, Nat.reduceLT, Nat.reducePow, reduceCtorEq, Int.reduceToNat, Int.reduceLT, Int.reduceLE, Int.reduceEq, Int.reduceAdd, Int.reduceSub, Int.reduceMul, Int.reduceNeg, Int.reduceTMod, Int.reduceTDiv, List.replicate_zero, List.replicate_succ]
                rename_i h9 _ _
                refine ⟨⟨r + 1, by omega⟩, Wk.sub (by simp -implicitDefEqProofs only [go_sem, ↓reduceIte, Nat.reduceEqDiff, Nat.reduceAdd, Nat.reduceMul, Nat.reduceSub, Nat.reduceLeDiff, Nat.reduceLT, Nat.reducePow, reduceCtorEq, Int.reduceToNat, Int.reduceLT, Int.reduceLE, Int.reduceEq, Int.reduceAdd, Int.reduceSub, Int.reduceMul, Int.reduceNeg, Int.reduceTMod, Int.reduceTDiv, List.replicate_zero, List.replicate_succ, ctr (show r ≤ 1000000 by omega)]) (by simp -implicitDefEqProofs only [go_sem, ↓reduceIte, Nat.reduceEqDiff, Nat.reduceAdd, Nat.reduceMul, Nat.reduceSub, Nat.reduceLeDiff, Nat.reduceLT, Nat.reducePow, reduceCtorEq, Int.reduceToNat, Int.reduceLT, Int.reduceLE, Int.reduceEq, Int.reduceAdd, Int.reduceSub, Int.reduceMul, Int.reduceNeg, Int.reduceTMod, Int.reduceTDiv, List.replicate_zero, List.replicate_succ, hS1, roundIn_pass]) (by decide) (by decide) (by simp -implicitDefEqProofs only [go_sem, ↓reduceIte, Nat.reduceEqDiff, Nat.reduceAdd, Nat.reduceMul, Nat.reduceSub, Nat.reduceLeDiff, Nat.reduceLT, Nat.reducePow, reduceCtorEq, Int.reduceToNat, Int.reduceLT, Int.reduceLE, Int.reduceEq, Int.reduceAdd, Int.reduceSub, Int.reduceMul, Int.reduceNeg, Int.reduceTMod, Int.reduceTDiv, List.replicate_zero, List.replicate_succ]) (by simp -implicitDefEqProofs only [go_sem, ↓reduceIte, Nat.reduceEqDiff, Nat.reduceAdd, Nat.reduceMul, Nat.reduceSub, Nat.reduceLeDiff, Nat.reduceLT, Nat.reducePow, reduceCtorEq, Int.reduceToNat, Int.reduceLT, Int.reduceLE, Int.reduceEq, Int.reduceAdd, Int.reduceSub, Int.reduceMul, Int.reduceNeg, Int.reduceTMod, Int.reduceTDiv, List.replicate_zero, List.replicate_succ]), by simp; omega⟩
          · have h : r = k := by simp at h; omega
            subst h
            have hf := left_none p.after (roundsIn p.after r r)
            rw [roundsIn_len] at hf
            simp -implicitDefEqProofs only [go_sem, ↓reduceIte, Nat.reduceEqDiff, Nat.reduceAdd, Nat.reduceMul, Nat.reduceSub, Nat.reduceLeDiff, Nat.reduceLT, Nat.reducePow, reduceCtorEq, Int.reduceToNat, Int.reduceLT, Int.reduceLE, Int.reduceEq, Int.reduceAdd, Int.reduceSub, Int.reduceMul, Int.reduceNeg, Int.reduceTMod, Int.reduceTDiv, List.replicate_zero, List.replicate_succ, Int.natCast_eq_zero]
            rw [hf, hO]
            exact .refl _
end Go.Proofs.Ytbdodpippgakjaa

namespace Go.Proofs.Ytbdodpippgakjaa
open Go Go.Vs Go.Proofs

def bls (l : List Bool) : List (List D) := l.map fun b => [.bool b]
@[go_sem] theorem bls_length (l : List Bool) : (bls l).length = l.length := by simp [bls]
theorem bls_get (l : List Bool) (i : Nat) : (bls l)[i]? = (l[i]?).map fun b => [.bool b] := by simp [bls]
theorem bls_set (l : List Bool) (k : Nat) (b : Bool) : (bls l).set k [.bool b] = bls (l.set k b) := by simp [bls, List.map_set]
theorem bls_start (n : Nat) : List.replicate n [D.bool false] = bls (List.replicate n false) := by simp [bls]

theorem set_same {α : Type} (S : List α) (i : Nat) (h : i < S.length) : S.set i S[i] = S := by
  apply List.ext_getElem?
  intro j
  rw [List.getElem?_set]
  split
  · rename_i e
    subst e
    rw [List.getElem?_eq_getElem h]
    try rfl
    try rw [if_pos h]
  · rfl

theorem stepIn_or (after : List (List Int)) (S : List Bool) (i : Nat) (h : i < S.length) : stepIn after S i = S.set i (S[i] || (after.getD i []).all (fun a => S.getD a.toNat false)) := by
  unfold stepIn
  cases hq : (after.getD i []).all (fun a => S.getD a.toNat false) with
  | true => simp
  | false => simp [set_same]

set_option maxHeartbeats 2000000 in
theorem refOrdered19 (p : Pl) (hp : p.small) : Gives Try.prog 19 [.agg [.sl 4 (stps p.steps), .sl 1 (afts p.after)]] (.c (.d (.bool (orderedN p)))) [] := by
  obtain ⟨hp1, hp2, hp3⟩ := hp
  refine Gives.of_w TryEnv Try.func19 (by decide) TryL19_ok Try.ntmps19 (rs := [.tmp 2]) rfl (by simp) [] (by decide) ?_; rw [TryL19]
  repeat' first
    | simp -implicitDefEqProofs only [go_sem, ↓reduceIte, Nat.reduceEqDiff, Nat.reduceAdd, Nat.reduceMul, Nat.reduceSub, Nat.reduceLeDiff, Nat.reduceLT, Nat.reducePow, reduceCtorEq, Int.reduceToNat, Int.reduceLT, Int.reduceLE, Int.reduceEq, Int.reduceAdd, Int.reduceSub, Int.reduceMul, Int.reduceNeg, Int.reduceTMod, Int.reduceTDiv, List.replicate_zero, List.replicate_succ]
    | refine wfork_intro (fun h => ?_) (fun h => ?_)
  · have : orderedN p = false := by
      have h : ¬ p.steps.length ≤ 12 := by simp at h; omega
      simp [orderedN, h]
    rw [this]
    exact .refl _
  · have : orderedN p = false := by
      have h : ¬ p.after.length = p.steps.length := by simp at h; omega
      simp [orderedN, h]
    rw [this]
    exact .refl _
  · rename_i h1
    have h1 : p.steps.length ≤ 12 := by simp at h1; omega
    have h2 : p.after.length = p.steps.length := by simp at h; omega
    have hO : orderedN p = (goodP p && (roundsIn p.after p.steps.length p.steps.length).all id) := by simp [orderedN, h1, h2]
    clear h
    generalize hn : p.steps.length = n at *
    refine wT_loop (fun k : { k : Nat // k ≤ n ∧ (List.range k).all (fun i => goodL n i (p.after.getD i [])) = true } =>
      ⟨[(1, .c (.ptr 0 0)), (3, .c (.d (.int .i64 (n : Nat)))), (4, .c (.d (.int .i64 (k.1 : Nat))))], [(0, .box [.d (.sl 4 (stps p.steps)), .d (.sl 1 (afts p.after))])], 60⟩) (fun k => n - k.1) ⟨0, by simp⟩ ?_ ?_
    · refine Wk.sub ?_ ?_ (by decide) (by decide) ?_ ?_
      all_goals simp -implicitDefEqProofs only [go_sem, ↓reduceIte, Nat.reduceEqDiff, Nat.reduceAdd, Nat.reduceMul, Nat.reduceSub, Nat.reduceLeDiff, Nat.reduceLT, Nat.reducePow, reduceCtorEq, Int.reduceToNat, Int.reduceLT, Int.reduceLE, Int.reduceEq, Int.reduceAdd, Int.reduceSub, Int.reduceMul, Int.reduceNeg, Int.reduceTMod, Int.reduceTDiv, List.replicate_zero, List.replicate_succ, Int.natCast_zero]
    · rintro ⟨k, hk, hkk⟩
      refine wT_of TryEnv ?_
      simp -implicitDefEqProofs only [go_sem, ↓reduceIte, Nat.reduceEqDiff, Nat.reduceAdd, Nat.reduceMul, Nat.reduceSub, Nat.reduceLeDiff, Nat.reduceLT, Nat.reducePow, reduceCtorEq, Int.reduceToNat, Int.reduceLT, Int.reduceLE, Int.reduceEq, Int.reduceAdd, Int.reduceSub, Int.reduceMul, Int.reduceNeg, Int.reduceTMod, Int.reduceTDiv, List.replicate_zero, List.replicate_succ]
      refine wfork_intro (fun h => ?_) (fun h => ?_)
      · have h : k < p.after.length := by simp at h; omega
        have hl := hp3 _ (List.getElem_mem h)
        have hg : p.after[k]? = some p.after[k] := List.getElem?_eq_getElem h
        have hgd : p.after.getD k [] = p.after[k] := getD_of h _
        generalize p.after[k] = x at *
        simp -implicitDefEqProofs only [go_sem, ↓reduceIte, Nat.reduceEqDiff, Nat.reduceAdd, Nat.reduceMul, Nat.reduceSub, Nat.reduceLeDiff, Nat.reduceLT, Nat.reducePow, reduceCtorEq, Int.reduceToNat, Int.reduceLT, Int.reduceLE, Int.reduceEq, Int.reduceAdd, Int.reduceSub, Int.reduceMul, Int.reduceNeg, Int.reduceTMod, Int.reduceTDiv, List.replicate_zero, List.replicate_succ]
        refine wT_loop (fun j : { j : Nat // j ≤ x.length ∧ (List.range j).all (goodAt n k x) = true } =>
          ⟨[(1, .c (.ptr 0 0)), (3, .c (.d (.int .i64 (n : Nat)))), (4, .c (.d (.int .i64 (k : Nat)))), (5, .c (.d (.int .i64 (j.1 : Nat))))], [(0, .box [.d (.sl 4 (stps p.steps)), .d (.sl 1 (afts p.after))])], 60⟩) (fun j => x.length - j.1) ⟨0, by simp⟩ ?_ ?_
        · refine Wk.sub ?_ ?_ (by decide) (by decide) ?_ ?_
          all_goals simp -implicitDefEqProofs only [go_sem, ↓reduceIte, Nat.reduceEqDiff, Nat.reduceAdd, Nat.reduceMul, Nat.reduceSub, Nat.reduceLeDiff, Nat.reduceLT, Nat.reducePow, reduceCtorEq, Int.reduceToNat, Int.reduceLT, Int.reduceLE, Int.reduceEq, Int.reduceAdd, Int.reduceSub, Int.reduceMul, Int.reduceNeg, Int.reduceTMod, Int.reduceTDiv, List.replicate_zero, List.replicate_succ, Int.natCast_zero]
        · rintro ⟨j, hj, hjj⟩
          refine wT_of TryEnv ?_
          simp -implicitDefEqProofs only [go_sem, ↓reduceIte, Nat.reduceEqDiff, Nat.reduceAdd, Nat.reduceMul, Nat.reduceSub, Nat.reduceLeDiff, Nat.reduceLT, Nat.reducePow, reduceCtorEq, Int.reduceToNat, Int.reduceLT, Int.reduceLE, Int.reduceEq, Int.reduceAdd, Int.reduceSub, Int.reduceMul, Int.reduceNeg, Int.reduceTMod, Int.reduceTDiv, List.replicate_zero, List.replicate_succ, afts_get, hg, Int.toNat_natCast, Int.natCast_nonneg]
          refine wfork_intro (fun h3 => ?_) (fun h3 => ?_)
          · have h3 : j < x.length := by simp at h3; omega
            have hgj : x[j]? = some x[j] := List.getElem?_eq_getElem h3
            have hgdj : x.getD j 0 = x[j] := getD_of h3 _
            have bad : goodAt n k x j = false → orderedN p = false := fun hb => by
              have : goodL n k x = false := by
                rw [goodL, List.all_eq_false]
                exact ⟨j, List.mem_range.2 h3, by simp [hb]⟩
              have : goodP p = false := by
                rw [goodP, List.all_eq_false]
                exact ⟨k, List.mem_range.2 (by omega), by rw [hgd, hn, this]; simp⟩
              rw [hO, this]
              rfl
            have good : goodAt n k x j = !(decide (x[j] < 0) || decide ((n : Int) ≤ x[j]) || decide (x[j] = k) || (decide (0 < j) && decide (x[j] ≤ x.getD (j - 1) 0))) := by rw [goodAt, hgdj]
            have hj1 : ∀ _ : 0 < j, IntKind.i64.wrap ((j : Int) - 1) = ((j - 1 : Nat) : Int) := fun _ => by rw [wrap64 (by omega) (by omega)]; omega
            have hg1 : ∀ _ : 0 < j, x[j - 1]? = some (x.getD (j - 1) 0) := fun _ => by simp [List.getD_eq_getElem?_getD, show j - 1 < x.length by omega]
            generalize x[j] = a at *
            generalize x.getD (j - 1) 0 = b at *
            repeat' first
              | simp -implicitDefEqProofs only [go_sem, ↓reduceIte, Nat.reduceEqDiff, Nat.reduceAdd, Nat.reduceMul, Nat.reduceSub, Nat.reduceLeDiff, Nat.reduceLT, Nat.reducePow, reduceCtorEq, Int.reduceToNat, Int.reduceLT, Int.reduceLE, Int.reduceEq, Int.reduceAdd, Int.reduceSub, Int.reduceMul, Int.reduceNeg, Int.reduceTMod, Int.reduceTDiv, List.replicate_zero, List.replicate_succ, afts_get, hg, nums_get, hgj, Int.toNat_natCast, Int.natCast_nonneg]
              | refine Also.mk (by decide) ?_
              | refine wfork_intro (fun h5 => ?_) (fun h5 => ?_)
              | (rename decide ((0 : Int) < (j : Int)) = true => h6; have h6 : 0 < j := by simpa using h6
                 rw [hj1 h6])
              | simp -implicitDefEqProofs only [go_sem, ↓reduceIte, Nat.reduceEqDiff, Nat.reduceAdd, Nat.reduceMul, Nat.reduceSub, Nat.reduceLeDiff, Nat.reduceLT, Nat.reducePow, reduceCtorEq, Int.reduceToNat, Int.reduceLT, Int.reduceLE, Int.reduceEq, Int.reduceAdd, Int.reduceSub, Int.reduceMul, Int.reduceNeg, Int.reduceTMod, Int.reduceTDiv, List.replicate_zero, List.replicate_succ, nums_get, hg1 (by assumption), Int.toNat_natCast, Int.natCast_nonneg]
            all_goals simp only [decide_eq_true_eq, decide_eq_false_iff_not] at *
            all_goals first
              | (have hb : orderedN p = false := bad (by rw [good]; simp [*]; try omega)
                 rw [hb]
                 exact .refl _)
              | (have hgood : goodAt n k x j = true := by
                   rw [good]
                   simp [*]
                   try omega
                 refine ⟨⟨j + 1, by omega, by rw [range_all_succ, hjj, hgood]; rfl⟩, Wk.sub (by simp -implicitDefEqProofs only [go_sem, ↓reduceIte, Nat.reduceEqDiff, Nat.reduceAdd, Nat.reduceMul, Nat.reduceSub, Nat.reduceLeDiff, Nat.reduceLT, Nat.reducePow, reduceCtorEq, Int.reduceToNat, Int.reduceLT, Int.reduceLE, Int.reduceEq, Int.reduceAdd, Int.reduceSub, Int.reduceMul, Int.reduceNeg, Int.reduceTMod, Int.reduceTDiv, List.replicate_zero, List.replicate_succ, ctr (show j ≤ 1000000 by omega)]) (by simp -implicitDefEqProofs only [go_sem, ↓reduceIte, Nat.reduceEqDiff, Nat.reduceAdd, Nat.reduceMul, Nat.reduceSub, Nat.reduceLeDiff, Nat.reduceLT, Nat.reducePow, reduceCtorEq, Int.reduceToNat, Int.reduceLT, Int.reduceLE, Int.reduceEq, Int.reduceAdd, Int.reduceSub, Int.reduceMul, Int.reduceNeg, Int.reduceTMod, Int.reduceTDiv, List.replicate_zero, List.replicate_succ]) (by decide) (by decide) (by simp -implicitDefEqProofs only [go_sem, ↓reduceIte, Nat.reduceEqDiff, Nat.reduceAdd, Nat.reduceMul, Nat.reduceSub, Nat.reduceLeDiff, Nat.reduceLT, Nat.reducePow, reduceCtorEq, Int.reduceToNat, Int.reduceLT, Int.reduceLE, Int.reduceEq, Int.reduceAdd, Int.reduceSub, Int.reduceMul, Int.reduceNeg, Int.reduceTMod, Int.reduceTDiv, List.replicate_zero, List.replicate_succ]) (by simp -implicitDefEqProofs only [go_sem, ↓reduceIte, Nat.reduceEqDiff, Nat.reduceAdd, Nat.reduceMul, Nat.reduceSub, Nat.reduceLeDiff, Nat.reduceLT, Nat.reducePow, reduceCtorEq, Int.reduceToNat, Int.reduceLT, Int.reduceLE, Int.reduceEq, Int.reduceAdd, Int.reduceSub, Int.reduceMul, Int.reduceNeg, Int.reduceTMod, Int.reduceTDiv, List.replicate_zero, List.replicate_succ]), by simp; omega⟩)
          · have h3 : j = x.length := by simp at h3; omega
            subst h3
            simp -implicitDefEqProofs only [go_sem, ↓reduceIte, Nat.reduceEqDiff, Nat.reduceAdd, Nat.reduceMul, Nat.reduceSub, Nat.reduceLeDiff, Nat.reduceLT, Nat.reducePow, reduceCtorEq, Int.reduceToNat, Int.reduceLT, Int.reduceLE, Int.reduceEq, Int.reduceAdd, Int.reduceSub, Int.reduceMul, Int.reduceNeg, Int.reduceTMod, Int.reduceTDiv, List.replicate_zero, List.replicate_succ]
            refine ⟨⟨k + 1, by omega, by rw [range_all_succ, hkk, hgd]; simpa [goodL] using hjj⟩, Wk.sub (by simp -implicitDefEqProofs only [go_sem, ↓reduceIte, Nat.reduceEqDiff, Nat.reduceAdd, Nat.reduceMul, Nat.reduceSub, Nat.reduceLeDiff, Nat.reduceLT, Nat.reducePow, reduceCtorEq, Int.reduceToNat, Int.reduceLT, Int.reduceLE, Int.reduceEq, Int.reduceAdd, Int.reduceSub, Int.reduceMul, Int.reduceNeg, Int.reduceTMod, Int.reduceTDiv, List.replicate_zero, List.replicate_succ, ctr (show k ≤ 1000000 by omega)]) (by simp -implicitDefEqProofs only [go_sem, ↓reduceIte, Nat.reduceEqDiff, Nat.reduceAdd, Nat.reduceMul, Nat.reduceSub, Nat.reduceLeDiff, Nat.reduceLT, Nat.reducePow, reduceCtorEq, Int.reduceToNat, Int.reduceLT, Int.reduceLE, Int.reduceEq, Int.reduceAdd, Int.reduceSub, Int.reduceMul, Int.reduceNeg, Int.reduceTMod, Int.reduceTDiv, List.replicate_zero, List.replicate_succ]) (by decide) (by decide) (by simp -implicitDefEqProofs only [go_sem, ↓reduceIte, Nat.reduceEqDiff, Nat.reduceAdd, Nat.reduceMul, Nat.reduceSub, Nat.reduceLeDiff, Nat.reduceLT, Nat.reducePow, reduceCtorEq, Int.reduceToNat, Int.reduceLT, Int.reduceLE, Int.reduceEq, Int.reduceAdd, Int.reduceSub, Int.reduceMul, Int.reduceNeg, Int.reduceTMod, Int.reduceTDiv, List.replicate_zero, List.replicate_succ]) (by simp -implicitDefEqProofs only [go_sem, ↓reduceIte, Nat.reduceEqDiff, Nat.reduceAdd, Nat.reduceMul, Nat.reduceSub, Nat.reduceLeDiff, Nat.reduceLT, Nat.reducePow, reduceCtorEq, Int.reduceToNat, Int.reduceLT, Int.reduceLE, Int.reduceEq, Int.reduceAdd, Int.reduceSub, Int.reduceMul, Int.reduceNeg, Int.reduceTMod, Int.reduceTDiv, List.replicate_zero, List.replicate_succ]), by simp; omega⟩
      · have h : k = n := by simp at h; omega
        subst h
        have hP : goodP p = true := by rw [goodP, hn]; exact hkk
        have hG : ∀ i, i < k → ∀ a ∈ p.after.getD i [], 0 ≤ a ∧ a < k := fun i hi => goodL_mem ((List.all_eq_true.1 hkk) i (List.mem_range.2 hi))
        have hO : orderedN p = (roundsIn p.after k k).all id := by rw [hO, hP]; rfl
        have hL : ∀ i, i < k → (p.after.getD i []).length ≤ 1000000 := fun i hi => by
          rw [getD_of (by omega)]
          have := hp3 _ (List.getElem_mem (show i < p.after.length by omega))
          omega
        repeat' first
          | simp -implicitDefEqProofs only [go_sem, ↓reduceIte, Nat.reduceEqDiff, Nat.reduceAdd, Nat.reduceMul, Nat.reduceSub, Nat.reduceLeDiff, Nat.reduceLT, Nat.reducePow, reduceCtorEq, Int.reduceToNat, Int.reduceLT, Int.reduceLE, Int.reduceEq, Int.reduceAdd, Int.reduceSub, Int.reduceMul, Int.reduceNeg, Int.reduceTMod, Int.reduceTDiv, List.replicate_zero, List.replicate_succ, Int.toNat_natCast, Int.natCast_nonneg]
          | apply And.intro
          | (simp only [mostBytes]; omega)
          | omega
        refine wT_loop (fun r : { r : Nat // r ≤ k } =>
          ⟨[(1, .c (.ptr 0 0)), (3, .c (.d (.int .i64 (k : Nat)))), (7, .c (.ref 76 k 0 k)), (8, .c (.d (.int .i64 (r.1 : Nat))))],
          [(0, .box [.d (.sl 4 (stps p.steps)), .d (.sl 1 (afts p.after))]), (76, .sl 1 (bls (roundsIn p.after k r.1)) false)], 77⟩) (fun r => k - r.1) ⟨0, by simp⟩ ?_ ?_
        · refine Wk.sub ?_ ?_ (by decide) (by decide) ?_ ?_
          all_goals simp -implicitDefEqProofs only [go_sem, ↓reduceIte, Nat.reduceEqDiff, Nat.reduceAdd, Nat.reduceMul, Nat.reduceSub, Nat.reduceLeDiff, Nat.reduceLT, Nat.reducePow, reduceCtorEq, Int.reduceToNat, Int.reduceLT, Int.reduceLE, Int.reduceEq, Int.reduceAdd, Int.reduceSub, Int.reduceMul, Int.reduceNeg, Int.reduceTMod, Int.reduceTDiv, List.replicate_zero, List.replicate_succ, Int.natCast_zero, bls_start, show roundsIn p.after k 0 = List.replicate k false from rfl]
        · rintro ⟨r, hr⟩
          refine wT_of TryEnv ?_
          simp -implicitDefEqProofs only [go_sem, ↓reduceIte, Nat.reduceEqDiff, Nat.reduceAdd, Nat.reduceMul, Nat.reduceSub, Nat.reduceLeDiff, Nat.reduceLT, Nat.reducePow, reduceCtorEq, Int.reduceToNat, Int.reduceLT, Int.reduceLE, Int.reduceEq, Int.reduceAdd, Int.reduceSub, Int.reduceMul, Int.reduceNeg, Int.reduceTMod, Int.reduceTDiv, List.replicate_zero, List.replicate_succ]
          refine wfork_intro (fun h => ?_) (fun h => ?_)
          · have h : r < k := by simp at h; omega
            have hSl := roundsIn_len p.after k r
            have hS1 := roundsIn_succ p.after k r
            generalize roundsIn p.after k r = S at *
            simp -implicitDefEqProofs only [go_sem, ↓reduceIte, Nat.reduceEqDiff, Nat.reduceAdd, Nat.reduceMul, Nat.reduceSub, Nat.reduceLeDiff, Nat.reduceLT, Nat.reducePow, reduceCtorEq, Int.reduceToNat, Int.reduceLT, Int.reduceLE, Int.reduceEq, Int.reduceAdd, Int.reduceSub, Int.reduceMul, Int.reduceNeg, Int.reduceTMod, Int.reduceTDiv, List.replicate_zero, List.replicate_succ]
            refine wT_loop (fun i : { i : Nat // i ≤ k } =>
              ⟨[(1, .c (.ptr 0 0)), (3, .c (.d (.int .i64 (k : Nat)))), (7, .c (.ref 76 k 0 k)), (8, .c (.d (.int .i64 (r : Nat)))), (9, .c (.d (.int .i64 (i.1 : Nat))))],
              [(0, .box [.d (.sl 4 (stps p.steps)), .d (.sl 1 (afts p.after))]), (76, .sl 1 (bls (passIn p.after S i.1)) false)], 77⟩) (fun i => k - i.1) ⟨0, by simp⟩ ?_ ?_
            · refine Wk.sub ?_ ?_ (by decide) (by decide) ?_ ?_
              all_goals simp -implicitDefEqProofs only [go_sem, ↓reduceIte, Nat.reduceEqDiff, Nat.reduceAdd, Nat.reduceMul, Nat.reduceSub, Nat.reduceLeDiff, Nat.reduceLT, Nat.reducePow, reduceCtorEq, Int.reduceToNat, Int.reduceLT, Int.reduceLE, Int.reduceEq, Int.reduceAdd, Int.reduceSub, Int.reduceMul, Int.reduceNeg, Int.reduceTMod, Int.reduceTDiv, List.replicate_zero, List.replicate_succ, Int.natCast_zero, passIn_zero]
            · rintro ⟨i, hi⟩
              refine wT_of TryEnv ?_
              simp -implicitDefEqProofs only [go_sem, ↓reduceIte, Nat.reduceEqDiff, Nat.reduceAdd, Nat.reduceMul, Nat.reduceSub, Nat.reduceLeDiff, Nat.reduceLT, Nat.reducePow, reduceCtorEq, Int.reduceToNat, Int.reduceLT, Int.reduceLE, Int.reduceEq, Int.reduceAdd, Int.reduceSub, Int.reduceMul, Int.reduceNeg, Int.reduceTMod, Int.reduceTDiv, List.replicate_zero, List.replicate_succ]
              refine wfork_intro (fun h => ?_) (fun h => ?_)
              · have h : i < k := by simp at h; omega
                have hTl := passIn_len p.after S i
                have hT1 := passIn_succ p.after S i
                generalize passIn p.after S i = T at *
                rw [stepIn_or _ _ _ (by omega)] at hT1
                have hTi : T[i]? = some T[i] := List.getElem?_eq_getElem (by omega)
                generalize T[i] = ti at *
                have hg : p.after[i]? = some (p.after.getD i []) := by rw [getD_of (by omega)]; exact List.getElem?_eq_getElem (by omega)
                have hL := hL i h
                have hG := hG i h
                generalize p.after.getD i [] = x at *
                have hTk : T.length = k := by omega
                simp -implicitDefEqProofs only [go_sem, ↓reduceIte, Nat.reduceEqDiff, Nat.reduceAdd, Nat.reduceMul, Nat.reduceSub, Nat.reduceLeDiff, Nat.reduceLT, Nat.reducePow, reduceCtorEq, Int.reduceToNat, Int.reduceLT, Int.reduceLE, Int.reduceEq, Int.reduceAdd, Int.reduceSub, Int.reduceMul, Int.reduceNeg, Int.reduceTMod, Int.reduceTDiv, List.replicate_zero, List.replicate_succ]
                refine wT_loop (fun j : { j : Nat // j ≤ x.length } =>
                  ⟨[(1, .c (.ptr 0 0)), (3, .c (.d (.int .i64 (k : Nat)))), (7, .c (.ref 76 k 0 k)), (8, .c (.d (.int .i64 (r : Nat)))), (9, .c (.d (.int .i64 (i : Nat)))),
                    (10, .c (.d (.bool ((x.take j.1).all fun a => T.getD a.toNat false)))), (11, .c (.d (.int .i64 (j.1 : Nat))))],
                  [(0, .box [.d (.sl 4 (stps p.steps)), .d (.sl 1 (afts p.after))]), (76, .sl 1 (bls T) false)], 77⟩) (fun j => x.length - j.1) ⟨0, by simp⟩ ?_ ?_
                · refine Wk.sub ?_ ?_ (by decide) (by decide) ?_ ?_
                  all_goals simp -implicitDefEqProofs only [go_sem, ↓reduceIte, Nat.reduceEqDiff, Nat.reduceAdd, Nat.reduceMul, Nat.reduceSub, Nat.reduceLeDiff, Nat.reduceLT, Nat.reducePow, reduceCtorEq, Int.reduceToNat, Int.reduceLT, Int.reduceLE, Int.reduceEq, Int.reduceAdd, Int.reduceSub, Int.reduceMul, Int.reduceNeg, Int.reduceTMod, Int.reduceTDiv, List.replicate_zero, List.replicate_succ, Int.natCast_zero, List.all_nil]
                · rintro ⟨j, hj⟩
                  refine wT_of TryEnv ?_
                  simp -implicitDefEqProofs only [go_sem, ↓reduceIte, Nat.reduceEqDiff, Nat.reduceAdd, Nat.reduceMul, Nat.reduceSub, Nat.reduceLeDiff, Nat.reduceLT, Nat.reducePow, reduceCtorEq, Int.reduceToNat, Int.reduceLT, Int.reduceLE, Int.reduceEq, Int.reduceAdd, Int.reduceSub, Int.reduceMul, Int.reduceNeg, Int.reduceTMod, Int.reduceTDiv, List.replicate_zero, List.replicate_succ, afts_get, hg, Int.toNat_natCast, Int.natCast_nonneg]
                  refine wfork_intro (fun h3 => ?_) (fun h3 => ?_)
                  · have h3 : j < x.length := by simp at h3; omega
                    have hgj : x[j]? = some x[j] := List.getElem?_eq_getElem h3
                    have ht : (x.take (j + 1)).all (fun a => T.getD a.toNat false) = ((x.take j).all (fun a => T.getD a.toNat false) && T.getD x[j].toNat false) := by
                      rw [List.take_add_one, hgj, List.all_append]
                      simp
                    obtain ⟨g0, g1⟩ := hG _ (List.getElem_mem h3)
                    have hga : T[x[j].toNat]? = some (T.getD x[j].toNat false) := by rw [getD_of (by omega)]; exact List.getElem?_eq_getElem (by omega)
                    generalize (x.take j).all (fun a => T.getD a.toNat false) = free at *
                    generalize x[j] = a at *
                    generalize T.getD a.toNat false = ta at *
                    repeat' first
                      | simp -implicitDefEqProofs only [go_sem, ↓reduceIte, Nat.reduceEqDiff, Nat.reduceAdd, Nat.reduceMul, Nat.reduceSub, Nat.reduceLeDiff, Nat.reduceLT, Nat.reducePow, reduceCtorEq, Int.reduceToNat, Int.reduceLT, Int.reduceLE, Int.reduceEq, Int.reduceAdd, Int.reduceSub, Int.reduceMul, Int.reduceNeg, Int.reduceTMod, Int.reduceTDiv, List.replicate_zero, List.replicate_succ, afts_get, hg, nums_get, hgj, bls_get, hga, hTk, g0, g1, Int.toNat_natCast, Int.natCast_nonneg]
                      | refine Also.mk (by decide) ?_
                      | refine wfork_intro (fun h5 => ?_) (fun h5 => ?_)
                      | apply And.intro
                    all_goals subst h5
                    all_goals refine ⟨⟨j + 1, by omega⟩, Wk.sub (by simp -implicitDefEqProofs only [go_sem, ↓reduceIte, Nat.reduceEqDiff, Nat.reduceAdd, Nat.reduceMul, Nat.reduceSub, Nat.reduceLeDiff, Nat.reduceLT, Nat.reducePow, reduceCtorEq, Int.reduceToNat, Int.reduceLT, Int.reduceLE, Int.reduceEq, Int.reduceAdd, Int.reduceSub, Int.reduceMul, Int.reduceNeg, Int.reduceTMod, Int.reduceTDiv, List.replicate_zero, List.replicate_succ, ctr (show j ≤ 1000000 by omega), ht]) (by simp -implicitDefEqProofs only [go_sem, ↓reduceIte, Nat.reduceEqDiff, Nat.reduceAdd, Nat.reduceMul, Nat.reduceSub, Nat.reduceLeDiff, Nat.reduceLT, Nat.reducePow, reduceCtorEq, Int.reduceToNat, Int.reduceLT, Int.reduceLE, Int.reduceEq, Int.reduceAdd, Int.reduceSub, Int.reduceMul, Int.reduceNeg, Int.reduceTMod, Int.reduceTDiv, List.replicate_zero, List.replicate_succ]) (by decide) (by decide) (by simp -implicitDefEqProofs only [go_sem, ↓reduceIte, Nat.reduceEqDiff, Nat.reduceAdd, Nat.reduceMul, Nat.reduceSub, Nat.reduceLeDiff, Nat.reduceLT, Nat.reducePow, reduceCtorEq, Int.reduceToNat, Int.reduceLT, Int.reduceLE, Int.reduceEq, Int.reduceAdd, Int.reduceSub, Int.reduceMul, Int.reduceNeg, Int.reduceTMod, Int.reduceTDiv, List.replicate_zero, List.replicate_succ]) (by simp -implicitDefEqProofs only [go_sem, ↓reduceIte, Nat.reduceEqDiff, Nat.reduceAdd, Nat.reduceMul, Nat.reduceSub, Nat.reduceLeDiff, Nat.reduceLT, Nat.reducePow, reduceCtorEq, Int.reduceToNat, Int.reduceLT, Int.reduceLE, Int.reduceEq, Int.reduceAdd, Int.reduceSub, Int.reduceMul, Int.reduceNeg, Int.reduceTMod, Int.reduceTDiv, List.replicate_zero, List.replicate_succ]), by simp; omega⟩
                  · have h3 : j = x.length := by simp at h3; omega
                    subst h3
                    rw [List.take_length]
                    generalize (x.all fun a => T.getD a.toNat false) = free at *
                    have hik : (i : Int) < (k : Int) := by omega
                    repeat' first
                      | simp -implicitDefEqProofs only [go_sem, ↓reduceIte, Nat.reduceEqDiff, Nat.reduceAdd, Nat.reduceMul, Nat.reduceSub, Nat.reduceLeDiff, Nat.reduceLT, Nat.reducePow, reduceCtorEq, Int.reduceToNat, Int.reduceLT, Int.reduceLE, Int.reduceEq, Int.reduceAdd, Int.reduceSub, Int.reduceMul, Int.reduceNeg, Int.reduceTMod, Int.reduceTDiv, List.replicate_zero, List.replicate_succ, bls_get, hTi, hTk, hik, Int.toNat_natCast, Int.natCast_nonneg, bls_set]
                      | refine Also.mk (by decide) ?_
                      | refine wfork_intro (fun h5 => ?_) (fun h5 => ?_)
                      | apply And.intro
                    all_goals subst h5
                    all_goals refine ⟨⟨i + 1, by omega⟩, Wk.sub (by simp -implicitDefEqProofs only [go_sem, ↓reduceIte, Nat.reduceEqDiff, Nat.reduceAdd, Nat.reduceMul, Nat.reduceSub, Nat.reduceLeDiff, Nat.reduceLT, Nat.reducePow, reduceCtorEq, Int.reduceToNat, Int.reduceLT, Int.reduceLE, Int.reduceEq, Int.reduceAdd, Int.reduceSub, Int.reduceMul, Int.reduceNeg, Int.reduceTMod, Int.reduceTDiv, List.replicate_zero, List.replicate_succ, ctr (show i ≤ 1000000 by omega)]) (by simp -implicitDefEqProofs only [go_sem, ↓reduceIte, Nat.reduceEqDiff, Nat.reduceAdd, Nat.reduceMul, Nat.reduceSub, Nat.reduceLeDiff, Nat.reduceLT, Nat.reducePow, reduceCtorEq, Int.reduceToNat, Int.reduceLT, Int.reduceLE, Int.reduceEq, Int.reduceAdd, Int.reduceSub, Int.reduceMul, Int.reduceNeg, Int.reduceTMod, Int.reduceTDiv, List.replicate_zero, List.replicate_succ, hT1]) (by decide) (by decide) (by simp -implicitDefEqProofs only [go_sem, ↓reduceIte, Nat.reduceEqDiff, Nat.reduceAdd, Nat.reduceMul, Nat.reduceSub, Nat.reduceLeDiff, Nat.reduceLT, Nat.reducePow, reduceCtorEq, Int.reduceToNat, Int.reduceLT, Int.reduceLE, Int.reduceEq, Int.reduceAdd, Int.reduceSub, Int.reduceMul, Int.reduceNeg, Int.reduceTMod, Int.reduceTDiv, List.replicate_zero, List.replicate_succ]) (by simp -implicitDefEqProofs only [go_sem, ↓reduceIte, Nat.reduceEqDiff, Nat.reduceAdd, Nat.reduceMul, Nat.reduceSub, Nat.reduceLeDiff, Nat.reduceLT, Nat.reducePow, reduceCtorEq, Int.reduceToNat, Int.reduceLT, Int.reduceLE, Int.reduceEq, Int.reduceAdd, Int.reduceSub, Int.reduceMul, Int.reduceNeg, Int.reduceTMod, Int.reduceTDiv, List.replicate_zero, List.replicate_succ]), by simp; omega⟩
              · have h : i = k := by simp at h; omega
                subst h
                simp -implicitDefEqProofs only [go_sem, ↓reduceIte, Nat.reduceEqDiff, Nat.reduceAdd, Nat.reduceMul, Nat.reduceSub, Nat.reduceLeDiff, Nat.reduceLT, Nat.reducePow, reduceCtorEq, Int.reduceToNat, Int.reduceLT, Int.reduceLE, Int.reduceEq, Int.reduceAdd, Int.reduceSub, Int.reduceMul, Int.reduceNeg, Int.reduceTMod, Int.reduceTDiv, List.replicate_zero, List.replicate_succ]
                refine ⟨⟨r + 1, by omega⟩, Wk.sub (by simp -implicitDefEqProofs only [go_sem, ↓reduceIte, Nat.reduceEqDiff, Nat.reduceAdd, Nat.reduceMul, Nat.reduceSub, Nat.reduceLeDiff, Nat.reduceLT, Nat.reducePow, reduceCtorEq, Int.reduceToNat, Int.reduceLT, Int.reduceLE, Int.reduceEq, Int.reduceAdd, Int.reduceSub, Int.reduceMul, Int.reduceNeg, Int.reduceTMod, Int.reduceTDiv, List.replicate_zero, List.replicate_succ, ctr (show r ≤ 1000000 by omega)]) (by simp -implicitDefEqProofs only [go_sem, ↓reduceIte, Nat.reduceEqDiff, Nat.reduceAdd, Nat.reduceMul, Nat.reduceSub, Nat.reduceLeDiff, Nat.reduceLT, Nat.reducePow, reduceCtorEq, Int.reduceToNat, Int.reduceLT, Int.reduceLE, Int.reduceEq, Int.reduceAdd, Int.reduceSub, Int.reduceMul, Int.reduceNeg, Int.reduceTMod, Int.reduceTDiv, List.replicate_zero, List.replicate_succ, hS1, roundIn_pass]) (by decide) (by decide) (by simp -implicitDefEqProofs only [go_sem, ↓reduceIte, Nat.reduceEqDiff, Nat.reduceAdd, Nat.reduceMul, Nat.reduceSub, Nat.reduceLeDiff, Nat.reduceLT, Nat.reducePow, reduceCtorEq, Int.reduceToNat, Int.reduceLT, Int.reduceLE, Int.reduceEq, Int.reduceAdd, Int.reduceSub, Int.reduceMul, Int.reduceNeg, Int.reduceTMod, Int.reduceTDiv, List.replicate_zero, List.replicate_succ]) (by simp -implicitDefEqProofs only [go_sem, ↓reduceIte, Nat.reduceEqDiff, Nat.reduceAdd, Nat.reduceMul, Nat.reduceSub, Nat.reduceLeDiff, Nat.reduceLT, Nat.reducePow, reduceCtorEq, Int.reduceToNat, Int.reduceLT, Int.reduceLE, Int.reduceEq, Int.reduceAdd, Int.reduceSub, Int.reduceMul, Int.reduceNeg, Int.reduceTMod, Int.reduceTDiv, List.replicate_zero, List.replicate_succ]), by simp; omega⟩
          · have h : r = k := by simp at h; omega
            subst h
            have hSl := roundsIn_len p.after r r
            generalize roundsIn p.after r r = S at *
            simp -implicitDefEqProofs only [go_sem, ↓reduceIte, Nat.reduceEqDiff, Nat.reduceAdd, Nat.reduceMul, Nat.reduceSub, Nat.reduceLeDiff, Nat.reduceLT, Nat.reducePow, reduceCtorEq, Int.reduceToNat, Int.reduceLT, Int.reduceLE, Int.reduceEq, Int.reduceAdd, Int.reduceSub, Int.reduceMul, Int.reduceNeg, Int.reduceTMod, Int.reduceTDiv, List.replicate_zero, List.replicate_succ]
            refine wT_loop (fun i : { i : Nat // i ≤ r ∧ ∀ j (h : j < S.length), j < i → S[j] = true } =>
              ⟨[(3, .c (.d (.int .i64 (r : Nat)))), (7, .c (.ref 76 r 0 r)), (12, .c (.d (.int .i64 (i.1 : Nat))))],
              [(76, .sl 1 (bls S) false)], 77⟩) (fun i => r - i.1) ⟨0, by simp⟩ ?_ ?_
            · refine Wk.sub ?_ ?_ (by decide) (by decide) ?_ ?_
              all_goals simp -implicitDefEqProofs only [go_sem, ↓reduceIte, Nat.reduceEqDiff, Nat.reduceAdd, Nat.reduceMul, Nat.reduceSub, Nat.reduceLeDiff, Nat.reduceLT, Nat.reducePow, reduceCtorEq, Int.reduceToNat, Int.reduceLT, Int.reduceLE, Int.reduceEq, Int.reduceAdd, Int.reduceSub, Int.reduceMul, Int.reduceNeg, Int.reduceTMod, Int.reduceTDiv, List.replicate_zero, List.replicate_succ, Int.natCast_zero]
            · rintro ⟨i, hi, hii⟩
              refine wT_of TryEnv ?_
              simp -implicitDefEqProofs only [go_sem, ↓reduceIte, Nat.reduceEqDiff, Nat.reduceAdd, Nat.reduceMul, Nat.reduceSub, Nat.reduceLeDiff, Nat.reduceLT, Nat.reducePow, reduceCtorEq, Int.reduceToNat, Int.reduceLT, Int.reduceLE, Int.reduceEq, Int.reduceAdd, Int.reduceSub, Int.reduceMul, Int.reduceNeg, Int.reduceTMod, Int.reduceTDiv, List.replicate_zero, List.replicate_succ]
              refine wfork_intro (fun h => ?_) (fun h => ?_)
              · have h : i < r := by simp at h; omega
                have hgi : S[i]? = some S[i] := List.getElem?_eq_getElem (by omega)
                have hm : S[i] ∈ S := List.getElem_mem _
                have next : S[i] = true → ∀ j (h : j < S.length), j < i + 1 → S[j] = true := fun h5 j h hj => by
                  by_cases e : j = i
                  · subst e; exact h5
                  · exact hii j h (by omega)
                generalize S[i] = si at *
                have hik : (i : Int) < (r : Int) := by omega
                repeat' first
                  | simp -implicitDefEqProofs only [go_sem, ↓reduceIte, Nat.reduceEqDiff, Nat.reduceAdd, Nat.reduceMul, Nat.reduceSub, Nat.reduceLeDiff, Nat.reduceLT, Nat.reducePow, reduceCtorEq, Int.reduceToNat, Int.reduceLT, Int.reduceLE, Int.reduceEq, Int.reduceAdd, Int.reduceSub, Int.reduceMul, Int.reduceNeg, Int.reduceTMod, Int.reduceTDiv, List.replicate_zero, List.replicate_succ, bls_get, hgi, hSl, hik, Int.toNat_natCast, Int.natCast_nonneg]
                  | refine Also.mk (by decide) ?_
                  | refine wfork_intro (fun h5 => ?_) (fun h5 => ?_)
                  | apply And.intro
                · have : S.all id = false := by
                    rw [List.all_eq_false]
                    exact ⟨si, hm, by simpa using h5⟩
                  rw [hO, this]
                  exact .refl _
                · have h5 : si = true := by simpa using h5
                  refine ⟨⟨i + 1, by omega, next h5⟩, Wk.sub (by simp -implicitDefEqProofs only [go_sem, ↓reduceIte, Nat.reduceEqDiff, Nat.reduceAdd, Nat.reduceMul, Nat.reduceSub, Nat.reduceLeDiff, Nat.reduceLT, Nat.reducePow, reduceCtorEq, Int.reduceToNat, Int.reduceLT, Int.reduceLE, Int.reduceEq, Int.reduceAdd, Int.reduceSub, Int.reduceMul, Int.reduceNeg, Int.reduceTMod, Int.reduceTDiv, List.replicate_zero, List.replicate_succ, ctr (show i ≤ 1000000 by omega)]) (by simp -implicitDefEqProofs only [go_sem, ↓reduceIte, Nat.reduceEqDiff, Nat.reduceAdd, Nat.reduceMul, Nat.reduceSub, Nat.reduceLeDiff, Nat.reduceLT, Nat.reducePow, reduceCtorEq, Int.reduceToNat, Int.reduceLT, Int.reduceLE, Int.reduceEq, Int.reduceAdd, Int.reduceSub, Int.reduceMul, Int.reduceNeg, Int.reduceTMod, Int.reduceTDiv, List.replicate_zero, List.replicate_succ]) (by decide) (by decide) (by simp -implicitDefEqProofs only [go_sem, ↓reduceIte, Nat.reduceEqDiff, Nat.reduceAdd, Nat.reduceMul, Nat.reduceSub, Nat.reduceLeDiff, Nat.reduceLT, Nat.reducePow, reduceCtorEq, Int.reduceToNat, Int.reduceLT, Int.reduceLE, Int.reduceEq, Int.reduceAdd, Int.reduceSub, Int.reduceMul, Int.reduceNeg, Int.reduceTMod, Int.reduceTDiv, List.replicate_zero, List.replicate_succ]) (by simp -implicitDefEqProofs only [go_sem, ↓reduceIte, Nat.reduceEqDiff, Nat.reduceAdd, Nat.reduceMul, Nat.reduceSub, Nat.reduceLeDiff, Nat.reduceLT, Nat.reducePow, reduceCtorEq, Int.reduceToNat, Int.reduceLT, Int.reduceLE, Int.reduceEq, Int.reduceAdd, Int.reduceSub, Int.reduceMul, Int.reduceNeg, Int.reduceTMod, Int.reduceTDiv, List.replicate_zero, List.replicate_succ]), by simp; omega⟩
              · have h : i = r := by simp at h; omega
                subst h
                simp -implicitDefEqProofs only [go_sem, ↓reduceIte, Nat.reduceEqDiff, Nat.reduceAdd, Nat.reduceMul, Nat.reduceSub, Nat.reduceLeDiff, Nat.reduceLT, Nat.reducePow, reduceCtorEq, Int.reduceToNat, Int.reduceLT, Int.reduceLE, Int.reduceEq, Int.reduceAdd, Int.reduceSub, Int.reduceMul, Int.reduceNeg, Int.reduceTMod, Int.reduceTDiv, List.replicate_zero, List.replicate_succ]
                have : S.all id = true := by
                  rw [List.all_eq_true]
                  intro b hb
                  obtain ⟨j, hj, e⟩ := List.getElem_of_mem hb
                  rw [← e]
                  exact hii j hj (by omega)
                rw [hO, this]
                exact .refl _
end Go.Proofs.Ytbdodpippgakjaa

namespace Go.Proofs.Ytbdodpippgakjaa
open Go Go.Vs Go.Proofs

def validN (x : Ex) : Bool := decide (x.tries.length = x.plan.steps.length) && (decide (1 ≤ x.next) && orderedN x.plan)

theorem valid16 (x : Ex) (hx : x.small) : Gives Try.prog 16 [.agg [.bool x.run, .bool x.stp, .sl 4 (stps x.plan.steps), .sl 1 (afts x.plan.after), .sl 3 (trs x.tries), .int .i64 x.next]] (.c (.d (.bool (validN x)))) [] := by
  obtain ⟨hx1, hx2⟩ := hx
  refine Gives.of_w TryEnv Try.func16 (by decide) TryL16_ok Try.ntmps16 (rs := [.tmp 2]) rfl (by simp) [] (by decide) ?_; rw [TryL16]
  repeat' first
    | simp -implicitDefEqProofs only [go_sem, ↓reduceIte, Nat.reduceEqDiff, Nat.reduceAdd, Nat.reduceMul, Nat.reduceSub, Nat.reduceLeDiff, Nat.reduceLT, Nat.reducePow, reduceCtorEq, Int.reduceToNat, Int.reduceLT, Int.reduceLE, Int.reduceEq, Int.reduceAdd, Int.reduceSub, Int.reduceMul, Int.reduceNeg, Int.reduceTMod, Int.reduceTDiv, List.replicate_zero, List.replicate_succ]
    | (refine wCall_intro (ordered18 _ ?_) ?_ ?_ ?_; assumption; rfl; decide)
    | refine wfork_intro (fun h => ?_) (fun h => ?_)
  all_goals refine DLe.of_eq ?_
  all_goals try simp only [decide_eq_true_eq, decide_eq_false_iff_not] at *
  · have h' : x.tries.length = x.plan.steps.length := by omega
    simp [validN, h', *]
  · simp [validN, *]
  · have h' : ¬ x.tries.length = x.plan.steps.length := by omega
    simp [validN, h']

theorem refValid17 (x : Ex) (hx : x.small) : Gives Try.prog 17 [.agg [.bool x.run, .bool x.stp, .sl 4 (stps x.plan.steps), .sl 1 (afts x.plan.after), .sl 3 (trs x.tries), .int .i64 x.next]] (.c (.d (.bool (validN x)))) [] := by
  obtain ⟨hx1, hx2⟩ := hx
  refine Gives.of_w TryEnv Try.func17 (by decide) TryL17_ok Try.ntmps17 (rs := [.tmp 2]) rfl (by simp) [] (by decide) ?_; rw [TryL17]
  repeat' first
    | simp -implicitDefEqProofs only [go_sem, ↓reduceIte, Nat.reduceEqDiff, Nat.reduceAdd, Nat.reduceMul, Nat.reduceSub, Nat.reduceLeDiff, Nat.reduceLT, Nat.reducePow, reduceCtorEq, Int.reduceToNat, Int.reduceLT, Int.reduceLE, Int.reduceEq, Int.reduceAdd, Int.reduceSub, Int.reduceMul, Int.reduceNeg, Int.reduceTMod, Int.reduceTDiv, List.replicate_zero, List.replicate_succ]
    | (refine wCall_intro (refOrdered19 _ ?_) ?_ ?_ ?_; assumption; rfl; decide)
    | refine wfork_intro (fun h => ?_) (fun h => ?_)
  all_goals refine DLe.of_eq ?_
  all_goals try simp only [decide_eq_true_eq, decide_eq_false_iff_not] at *
  · have h' : x.tries.length = x.plan.steps.length := by omega
    simp [validN, h', *]
  · have h' : ¬ x.tries.length = x.plan.steps.length := by omega
    simp [validN, h']
  · simp [validN, *]

/-- What a valid execution's lists are like. -/
structure Ex.wf (x : Ex) : Prop where
  aft : x.plan.after.length = x.tries.length
  stp : x.plan.steps.length = x.tries.length
  few : x.tries.length ≤ 12
  mem : ∀ i, i < x.tries.length → ∀ a ∈ x.plan.after.getD i [], 0 ≤ a ∧ a < x.tries.length

theorem validN_wf {x : Ex} (h : validN x = true) : x.wf := by
  simp only [validN, orderedN, Bool.and_eq_true, decide_eq_true_eq] at h
  obtain ⟨h1, _, h3, h4, h5, _⟩ := h
  refine ⟨by omega, by omega, by omega, fun i hi a ha => ?_⟩
  rw [h1]
  have := (List.all_eq_true.1 h5) i (List.mem_range.2 (by omega))
  exact goodL_mem this a ha

def Tr.zero : Tr := ⟨0, 0, 0⟩
/-- Is a place ready, in an execution that runs and is not stopped? -/
def readyN (x : Ex) (i : Nat) : Bool :=
  (decide ((x.tries.getD i .zero).id = 0) || decide ((x.tries.getD i .zero).ans = 2)) && (x.plan.after.getD i []).all fun a => doneT (x.tries.getD a.toNat .zero)
def readyI (x : Ex) (a : Int) : Bool := x.run && (!x.stp && (decide (0 ≤ a) && (decide (a < x.tries.length) && readyN x a.toNat)))

theorem ready70 (x : Ex) (a : Int) (h0 : 0 ≤ a) (h1 : a < x.tries.length) : Gives Try.prog 70 [.c (.int .i64 a), .c (.fp [.bool x.run, .bool x.stp, .sl 4 (stps x.plan.steps), .sl 1 (afts x.plan.after), .sl 3 (trs x.tries), .int .i64 x.next])] (.c (.d (.bool (!doneT (x.tries.getD a.toNat .zero))))) [] := by
  have hg : x.tries[a.toNat]? = some (x.tries.getD a.toNat .zero) := by rw [getD_of (by omega)]; exact List.getElem?_eq_getElem (by omega)
  generalize x.tries.getD a.toNat .zero = t at *
  refine Gives.of_w TryEnv Try.func70 (by decide) TryL70_ok Try.ntmps70 (rs := [.tmp 3]) rfl (by simp) [] (by decide) ?_; rw [TryL70]
  repeat' first
    | simp -implicitDefEqProofs only [go_sem, ↓reduceIte, Nat.reduceEqDiff, Nat.reduceAdd, Nat.reduceMul, Nat.reduceSub, Nat.reduceLeDiff, Nat.reduceLT, Nat.reducePow, reduceCtorEq, Int.reduceToNat, Int.reduceLT, Int.reduceLE, Int.reduceEq, Int.reduceAdd, Int.reduceSub, Int.reduceMul, Int.reduceNeg, Int.reduceTMod, Int.reduceTDiv, List.replicate_zero, List.replicate_succ, trs_get, hg, h0, h1]
    | (refine wCall_intro (done56 _) ?_ ?_ ?_; rfl; decide)
    | apply And.intro

theorem open52 (x : Ex) (i : Nat) (h : i < x.tries.length) : Gives Try.prog 52 [.c (.int .i64 (i : Nat)), .c (.fp [.bool x.run, .bool x.stp, .sl 4 (stps x.plan.steps), .sl 1 (afts x.plan.after), .sl 3 (trs x.tries), .int .i64 x.next])] (.c (.d (.bool (openT (x.tries.getD i .zero))))) [] := by
  have hg : x.tries[i]? = some (x.tries.getD i .zero) := by rw [getD_of (by omega)]; exact List.getElem?_eq_getElem (by omega)
  generalize x.tries.getD i .zero = t at *
  refine Gives.of_w TryEnv Try.func52 (by decide) TryL52_ok Try.ntmps52 (rs := [.tmp 3]) rfl (by simp) [] (by decide) ?_; rw [TryL52]
  repeat' first
    | simp -implicitDefEqProofs only [go_sem, ↓reduceIte, Nat.reduceEqDiff, Nat.reduceAdd, Nat.reduceMul, Nat.reduceSub, Nat.reduceLeDiff, Nat.reduceLT, Nat.reducePow, reduceCtorEq, Int.reduceToNat, Int.reduceLT, Int.reduceLE, Int.reduceEq, Int.reduceAdd, Int.reduceSub, Int.reduceMul, Int.reduceNeg, Int.reduceTMod, Int.reduceTDiv, List.replicate_zero, List.replicate_succ, trs_get, hg, Int.toNat_natCast, Int.natCast_nonneg]
    | (refine wCall_intro (open53 _) ?_ ?_ ?_; rfl; decide)
    | apply And.intro

theorem done55 (x : Ex) (i : Nat) (h : i < x.tries.length) : Gives Try.prog 55 [.c (.int .i64 (i : Nat)), .c (.fp [.bool x.run, .bool x.stp, .sl 4 (stps x.plan.steps), .sl 1 (afts x.plan.after), .sl 3 (trs x.tries), .int .i64 x.next])] (.c (.d (.bool (doneT (x.tries.getD i .zero))))) [] := by
  have hg : x.tries[i]? = some (x.tries.getD i .zero) := by rw [getD_of (by omega)]; exact List.getElem?_eq_getElem (by omega)
  generalize x.tries.getD i .zero = t at *
  refine Gives.of_w TryEnv Try.func55 (by decide) TryL55_ok Try.ntmps55 (rs := [.tmp 3]) rfl (by simp) [] (by decide) ?_; rw [TryL55]
  repeat' first
    | simp -implicitDefEqProofs only [go_sem, ↓reduceIte, Nat.reduceEqDiff, Nat.reduceAdd, Nat.reduceMul, Nat.reduceSub, Nat.reduceLeDiff, Nat.reduceLT, Nat.reducePow, reduceCtorEq, Int.reduceToNat, Int.reduceLT, Int.reduceLE, Int.reduceEq, Int.reduceAdd, Int.reduceSub, Int.reduceMul, Int.reduceNeg, Int.reduceTMod, Int.reduceTDiv, List.replicate_zero, List.replicate_succ, trs_get, hg, Int.toNat_natCast, Int.natCast_nonneg]
    | (refine wCall_intro (done56 _) ?_ ?_ ?_; rfl; decide)
    | apply And.intro

theorem any_not {α : Type} (l : List α) (p : α → Bool) : (!l.any fun a => !p a) = l.all p := by
  induction l with
  | nil => rfl
  | cons a l ih => rw [List.any_cons, List.all_cons, ← ih]; cases p a <;> simp

theorem ready51 (x : Ex) (a : Int) (hx : x.small) (hw : x.wf) : Gives Try.prog 51 [.agg [.bool x.run, .bool x.stp, .sl 4 (stps x.plan.steps), .sl 1 (afts x.plan.after), .sl 3 (trs x.tries), .int .i64 x.next], .c (.int .i64 a)] (.c (.d (.bool (readyI x a)))) [] := by
  obtain ⟨hx1, hx2⟩ := hx
  obtain ⟨hx3, hx4, hx5⟩ := hx1
  by_cases h0 : 0 ≤ a ∧ a < x.tries.length
  · obtain ⟨h0, h1⟩ := h0
    have hg : x.tries[a.toNat]? = some (x.tries.getD a.toNat .zero) := by rw [getD_of (by omega)]; exact List.getElem?_eq_getElem (by omega)
    have hga : x.plan.after[a.toNat]? = some (x.plan.after.getD a.toNat []) := by rw [getD_of (by have := hw.aft; omega)]; exact List.getElem?_eq_getElem (by have := hw.aft; omega)
    have hm := hw.mem a.toNat (by omega)
    have hl : (x.plan.after.getD a.toNat []).length ≤ 1000000 := by
      have hlt : a.toNat < x.plan.after.length := by have := hw.aft; omega
      rw [getD_of hlt]
      have := hx5 _ (List.getElem_mem hlt)
      omega
    have hr : readyI x a = (x.run && (!x.stp && ((decide ((x.tries.getD a.toNat .zero).id = 0) || decide ((x.tries.getD a.toNat .zero).ans = 2)) && (x.plan.after.getD a.toNat []).all fun a => doneT (x.tries.getD a.toNat .zero)))) := by
      simp [readyI, readyN, h0, h1]
    have h0' : decide (a < 0) = false := by simp; omega
    have h1' : decide ((x.tries.length : Int) ≤ a) = false := by simp; omega
    generalize x.tries.getD a.toNat .zero = t at hg hr
    generalize x.plan.after.getD a.toNat [] = l at *
    refine Gives.of_w TryEnv Try.func51 (by decide) TryL51_ok Try.ntmps51 (rs := [.tmp 4]) rfl (by simp) [] (by decide) ?_; rw [TryL51]
    repeat' first
      | simp -implicitDefEqProofs only [go_sem, ↓reduceIte, Nat.reduceEqDiff, Nat.reduceAdd, Nat.reduceMul, Nat.reduceSub, Nat.reduceLeDiff, Nat.reduceLT, Nat.reducePow, reduceCtorEq, Int.reduceToNat, Int.reduceLT, Int.reduceLE, Int.reduceEq, Int.reduceAdd, Int.reduceSub, Int.reduceMul, Int.reduceNeg, Int.reduceTMod, Int.reduceTDiv, List.replicate_zero, List.replicate_succ, trs_get, afts_get, hg, hga, h0, h1, h0', h1']
      | refine wfork_intro (fun h => ?_) (fun h => ?_)
      | apply And.intro
      | (refine wCall_intro (contains48 _ _ _ _ hl (fun a ha => ready70 x a (hm a ha).1 (hm a ha).2)) ?_ ?_ ?_; rfl; decide)
    all_goals refine DLe.of_eq ?_
    all_goals try simp only [any_not]
    all_goals rw [hr]
    all_goals simp_all
  · have hr : readyI x a = false := by
      simp only [readyI]
      by_cases h1 : 0 ≤ a
      · have : ¬ a < x.tries.length := fun h => h0 ⟨h1, h⟩
        simp [this]
      · simp [h1]
    rw [hr]
    refine Gives.of_w TryEnv Try.func51 (by decide) TryL51_ok Try.ntmps51 (rs := [.tmp 4]) rfl (by simp) [] (by decide) ?_; rw [TryL51]
    repeat' first
      | simp -implicitDefEqProofs only [go_sem, ↓reduceIte, Nat.reduceEqDiff, Nat.reduceAdd, Nat.reduceMul, Nat.reduceSub, Nat.reduceLeDiff, Nat.reduceLT, Nat.reducePow, reduceCtorEq, Int.reduceToNat, Int.reduceLT, Int.reduceLE, Int.reduceEq, Int.reduceAdd, Int.reduceSub, Int.reduceMul, Int.reduceNeg, Int.reduceTMod, Int.reduceTDiv, List.replicate_zero, List.replicate_succ]
      | refine wfork_intro (fun h => ?_) (fun h => ?_)
      | apply And.intro
    all_goals exfalso
    all_goals simp at *
    all_goals omega

theorem ready50 (x : Ex) (i : Nat) (hx : x.small) (hw : x.wf) : Gives Try.prog 50 [.c (.int .i64 (i : Nat)), .c (.fp [.bool x.run, .bool x.stp, .sl 4 (stps x.plan.steps), .sl 1 (afts x.plan.after), .sl 3 (trs x.tries), .int .i64 x.next])] (.c (.d (.bool (readyI x (i : Nat))))) [] := by
  refine Gives.of_w TryEnv Try.func50 (by decide) TryL50_ok Try.ntmps50 (rs := [.tmp 3]) rfl (by simp) [] (by decide) ?_; rw [TryL50]
  repeat' first
    | simp -implicitDefEqProofs only [go_sem, ↓reduceIte, Nat.reduceEqDiff, Nat.reduceAdd, Nat.reduceMul, Nat.reduceSub, Nat.reduceLeDiff, Nat.reduceLT, Nat.reducePow, reduceCtorEq, Int.reduceToNat, Int.reduceLT, Int.reduceLE, Int.reduceEq, Int.reduceAdd, Int.reduceSub, Int.reduceMul, Int.reduceNeg, Int.reduceTMod, Int.reduceTDiv, List.replicate_zero, List.replicate_succ]
    | (refine wCall_intro (ready51 _ _ hx hw) ?_ ?_ ?_; rfl; decide)
end Go.Proofs.Ytbdodpippgakjaa
