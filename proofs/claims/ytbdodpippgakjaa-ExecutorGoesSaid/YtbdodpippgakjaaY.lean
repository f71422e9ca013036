/- This text proves a part of what the claim needs: contracts of functions of the program. No condition. -/
import Derived.Test.YtbdodpippgakjaaXi
set_option linter.unusedSimpArgs false
set_option linter.unusedVariables false

namespace Go.Proofs.Ytbdodpippgakjaa
open Go Go.Vs Go.Proofs

/-! ### What holds behind any records -/

theorem getD_mem {α : Type} {l : List α} {i : Nat} (h : i < l.length) (d : α) : l.getD i d ∈ l := by rw [getD_of h]; exact List.getElem_mem h

structure Inv (x : Ex) (n : Nat) : Prop where
  val : validN x = true
  nxt : x.next = (n : Int) + 1
  idle : ∀ t ∈ x.tries, t.id = 0 → t.ans = 0
  ids : ∀ t ∈ x.tries, 0 ≤ t.id ∧ t.id ≤ n
  dist : ∀ i j, i < x.tries.length → j < x.tries.length → (x.tries.getD i .zero).id ≠ 0 → (x.tries.getD i .zero).id = (x.tries.getD j .zero).id → i = j
  asked : ∀ i, i < x.tries.length → (x.tries.getD i .zero).id ≠ 0 → ∀ a ∈ x.plan.after.getD i [], doneT (x.tries.getD a.toNat .zero) = true
  sane : x.stp = false → ∀ t ∈ x.tries, 0 ≤ t.ans ∧ t.ans ≤ 2
  rest : x.run = false → settledN x = true ∧ (x.stp = true ∨ completeN x = true)

theorem firstN_inv : Inv firstN 0 where
  val := by decide
  nxt := rfl
  idle := by simp [firstN]
  ids := by simp [firstN]
  dist := by simp [firstN]
  asked := by simp [firstN]
  sane := by simp [firstN]
  rest := fun _ => by decide

theorem set_mem {α : Type} {l : List α} {i : Nat} {a b : α} (h : b ∈ l.set i a) : b ∈ l ∨ b = a := List.mem_or_eq_of_mem_set h

theorem placeL_spec (id : Int) : ∀ (l : List Tr) (n : Nat), 0 ≤ placeL l id n → ∃ i, placeL l id n = ((n + i : Nat) : Int) ∧ i < l.length ∧ openT (l.getD i .zero) = true ∧ (l.getD i .zero).id = id
  | [], n, h => by simp [placeL] at h
  | t :: l, n, h => by
    rw [placeL] at *
    split
    · rename_i hb
      simp only [Bool.and_eq_true, decide_eq_true_eq] at hb
      exact ⟨0, rfl, by simp, by simpa using hb.1, by simpa using hb.2⟩
    · rename_i hb
      rw [if_neg hb] at h
      obtain ⟨i, h1, h2, h3, h4⟩ := placeL_spec id l (n + 1) h
      exact ⟨i + 1, by rw [h1]; congr 1; omega, by simp; omega, by simpa using h3, by simpa using h4⟩
theorem placeN_spec {x : Ex} {id : Int} (h : 0 ≤ placeN x id) : ∃ i : Nat, placeN x id = (i : Int) ∧ i < x.tries.length ∧ openT (x.tries.getD i .zero) = true ∧ (x.tries.getD i .zero).id = id := by
  obtain ⟨i, h1, h2⟩ := placeL_spec id x.tries 0 h
  exact ⟨i, by rw [placeN, h1]; simp, h2⟩
theorem placeL_ge (id : Int) : ∀ (l : List Tr) (n : Nat), (∃ t ∈ l, openT t = true ∧ t.id = id) → 0 ≤ placeL l id n
  | [], n, h => by simp at h
  | t :: l, n, ⟨u, hu, h1, h2⟩ => by
    rw [placeL]
    split
    · omega
    · rename_i hb
      rcases List.mem_cons.1 hu with rfl | hu
      · exact absurd (by simp [h1, h2]) hb
      · exact placeL_ge id l (n + 1) ⟨u, hu, h1, h2⟩

theorem completeN_run (x : Ex) (b s : Bool) : completeN ⟨b, s, x.plan, x.tries, x.next⟩ = completeN x := rfl
theorem settledN_run (x : Ex) (b s : Bool) : settledN ⟨b, s, x.plan, x.tries, x.next⟩ = settledN x := rfl
theorem validN_run (x : Ex) (b s : Bool) : validN ⟨b, s, x.plan, x.tries, x.next⟩ = validN x := rfl

theorem not_done_ready {t : Tr} (hi : t.id = 0 → t.ans = 0) (h : t.id = 0 ∨ t.ans = 2) : doneT t = false := by
  rcases h with h | h
  · simp [doneT, hi h]
  · simp [doneT, h]

theorem effectN_inv {x y : Ex} {r : Rc} {n : Nat} (hI : Inv x n) (hn : n ≤ 1000) (h : effectN x r = some y) :
    Inv y (n + if r.kind = 2 then 1 else 0) ∧ (r.kind = 2 → r.id = n + 1) := by
  unfold effectN at h
  split at h
  · -- a plan begins
    rename_i hk
    split at h
    · cases h
    · rename_i hb
      cases h
      simp only [Bool.or_eq_true, Bool.not_eq_true', not_or, Bool.not_eq_true, Bool.not_eq_false] at hb
      obtain ⟨hb1, hb2⟩ := hb
      have hz : ∀ t ∈ (begunN x r.plan).tries, t = .zero := fun t ht => (List.mem_replicate.1 ht).2
      have hz2 : ∀ i, (begunN x r.plan).tries.getD i .zero = .zero := fun i => by
        by_cases hi : i < (begunN x r.plan).tries.length
        · exact hz _ (getD_mem hi _)
        · simp [List.getD_eq_getElem?_getD, List.getElem?_eq_none (Nat.le_of_not_lt hi)]
      have hv := hI.val
      have hnx := hI.nxt
      refine ⟨?_, fun h2 => by omega⟩
      rw [if_neg (by omega)]
      exact {
        val := by
          have h1 : (1 : Int) ≤ x.next := by omega
          simp [validN, begunN, hb2, h1]
        nxt := hnx
        idle := fun t ht _ => by rw [hz t ht]; rfl
        ids := fun t ht => by rw [hz t ht]; simp [Tr.zero]
        dist := fun i j _ _ hid => by rw [hz2] at hid; exact absurd rfl hid
        asked := fun i _ hid => by rw [hz2] at hid; exact absurd rfl hid
        sane := fun _ t ht => by rw [hz t ht]; simp [Tr.zero]
        rest := fun h => by cases h }
  · rename_i hk1
    split at h
    · -- an intent
      rename_i hk
      split at h
      · cases h
      · rename_i hb
        cases h
        simp only [Bool.or_eq_true, Bool.not_eq_true', not_or, Bool.not_eq_false, decide_eq_true_eq, decide_eq_false_iff_not, Classical.not_not] at hb
        obtain ⟨hr, hid, hl⟩ := hb
        have hr' := hr
        simp only [readyI, readyN, Bool.and_eq_true, Bool.or_eq_true, Bool.not_eq_true', decide_eq_true_eq, List.all_eq_true] at hr'
        obtain ⟨hrun, hstp, h0, h1, h2, h3⟩ := hr'
        have hnx := hI.nxt
        have hw : IntKind.i64.wrap (x.next + 1) = (n : Int) + 2 := by rw [wrap64 (by omega) (by omega)]; omega
        obtain ⟨i, hi⟩ : ∃ i : Nat, r.place = (i : Int) := ⟨r.place.toNat, (Int.toNat_of_nonneg h0).symm⟩
        rw [hi] at h1 h2 h3
        simp only [Int.toNat_natCast] at h2 h3
        have hit : i < x.tries.length := by omega
        have hnd : doneT (x.tries.getD i .zero) = false := not_done_ready (hI.idle _ (getD_mem hit _)) h2
        have hy : askedN x r = ⟨x.run, x.stp, x.plan, x.tries.set i ⟨(n : Int) + 1, r.lease, 0⟩, (n : Int) + 2⟩ := by
          rw [askedN, hw, hi, Int.toNat_natCast, hid, hnx]
        rw [hy, if_pos hk]
        have keep : ∀ a, doneT (x.tries.getD a .zero) = true → doneT ((x.tries.set i ⟨(n : Int) + 1, r.lease, 0⟩).getD a .zero) = true := fun a ha => by
          have : a ≠ i := fun e => by rw [e, hnd] at ha; cases ha
          rw [getD_set _ _ _ _ _ hit, if_neg this]
          exact ha
        refine ⟨?_, fun _ => by omega⟩
        have hv := hI.val
        simp only [validN, Bool.and_eq_true, decide_eq_true_eq] at hv
        exact {
          val := by simp only [validN, Bool.and_eq_true, decide_eq_true_eq, List.length_set]; exact ⟨hv.1, by omega, hv.2.2⟩
          nxt := by show (n : Int) + 2 = ((n + 1 : Nat) : Int) + 1; omega
          idle := fun t ht h => by
            rcases set_mem ht with ht | rfl
            · exact hI.idle t ht h
            · rfl
          ids := fun t ht => by
            rcases set_mem ht with ht | rfl
            · have := hI.ids t ht; omega
            · constructor
              · show (0 : Int) ≤ (n : Int) + 1; omega
              · show (n : Int) + 1 ≤ ((n + 1 : Nat) : Int); omega
          dist := fun j k hj hk' hne he => by
            simp only [List.length_set] at hj hk'
            simp only [getD_set _ _ _ _ _ hit] at hne he
            by_cases ej : j = i
            · by_cases ek : k = i
              · omega
              · rw [if_pos ej, if_neg ek] at he
                have := (hI.ids _ (getD_mem hk' .zero)).2
                dsimp only at he
                omega
            · rw [if_neg ej] at hne he
              by_cases ek : k = i
              · rw [if_pos ek] at he
                have := (hI.ids _ (getD_mem hj .zero)).2
                dsimp only at he
                omega
              · rw [if_neg ek] at he
                exact hI.dist j k hj hk' hne he
          asked := fun j hj hne a ha => by
            simp only [List.length_set] at hj
            refine keep _ ?_
            by_cases ej : j = i
            · subst ej
              exact h3 a ha
            · rw [getD_set _ _ _ _ _ hit, if_neg ej] at hne
              exact hI.asked j hj hne a ha
          sane := fun hs t ht => by
            rcases set_mem ht with ht | rfl
            · exact hI.sane hs t ht
            · exact ⟨Int.le_refl _, by show (0 : Int) ≤ 2; omega⟩
          rest := fun h => by
            have h : x.run = false := h
            rw [hrun] at h; cases h }
    · rename_i hk2
      rw [if_neg hk2]
      refine ⟨?_, fun h => absurd h hk2⟩
      rw [Nat.add_zero]
      split at h
      · -- an answer
        split at h
        · cases h
        · rename_i hb
          cases h
          simp only [Bool.or_eq_true, Bool.not_eq_true', not_or, Bool.not_eq_false, decide_eq_true_eq] at hb
          obtain ⟨hrun, hp, ha1, ha4⟩ := hb
          obtain ⟨i, hi, hit, hop, hid⟩ := placeN_spec (x := x) (id := r.id) (by omega)
          rw [hi, Int.toNat_natCast]
          have hop' := hop
          simp only [openT, Bool.and_eq_true, decide_eq_true_eq] at hop'
          have hnd : doneT (x.tries.getD i .zero) = false := by rw [doneT, hop'.2]; rfl
          have keep : ∀ a, doneT (x.tries.getD a .zero) = true → doneT ((x.tries.set i (saidT (x.tries.getD i .zero) r.ans)).getD a .zero) = true := fun a ha => by
            have : a ≠ i := fun e => by rw [e, hnd] at ha; cases ha
            rw [getD_set _ _ _ _ _ hit, if_neg this]
            exact ha
          have same : ∀ a, ((x.tries.set i (saidT (x.tries.getD i .zero) r.ans)).getD a .zero).id = (x.tries.getD a .zero).id := fun a => by
            rw [getD_set _ _ _ _ _ hit]
            split
            · rename_i e; rw [e]; rfl
            · rfl
          have hv := hI.val
          simp only [validN, Bool.and_eq_true, decide_eq_true_eq] at hv
          exact {
            val := by simpa [validN, saidN] using hv
            nxt := hI.nxt
            idle := fun t ht h => by
              rcases set_mem ht with ht | rfl
              · exact hI.idle t ht h
              · exact absurd h hop'.1
            ids := fun t ht => by
              rcases set_mem ht with ht | rfl
              · exact hI.ids t ht
              · have := hI.ids _ (getD_mem hit .zero)
                exact this
            dist := fun j k hj hk' hne he => by
              simp only [saidN, List.length_set, same] at hj hk' hne he
              exact hI.dist j k hj hk' hne he
            asked := fun j hj hne a ha => by
              simp only [saidN, List.length_set, same] at hj hne ha
              exact keep _ (hI.asked j hj hne a ha)
            sane := fun hs t ht => by
              have hs : (x.stp || decide (3 ≤ r.ans)) = false := hs
              simp only [Bool.or_eq_false_iff, decide_eq_false_iff_not] at hs
              rcases set_mem ht with ht | rfl
              · exact hI.sane hs.1 t ht
              · show 0 ≤ r.ans ∧ r.ans ≤ 2
                omega
            rest := fun h => by
              have h : x.run = false := h
              rw [hrun] at h; cases h }
      · split at h
        · -- a stop
          split at h
          · cases h
          · rename_i hb
            cases h
            simp only [Bool.or_eq_true, Bool.not_eq_true', not_or, Bool.not_eq_false, Bool.not_eq_true] at hb
            exact { hI with
              sane := fun h => by cases h
              rest := fun h => by
                have h : x.run = false := h
                rw [hb.1] at h; cases h }
        · split at h
          · -- the end
            split at h
            · cases h
            · rename_i hb
              cases h
              simp only [Bool.or_eq_true, Bool.and_eq_true, Bool.not_eq_true', not_or, not_and, Bool.not_eq_false] at hb
              exact { hI with
                rest := fun _ => ⟨hb.2.1, by
                  by_cases hs : x.stp = true
                  · exact .inl hs
                  · exact .inr (hb.2.2 (by simpa using hs))⟩ }
          · cases h

theorem nextN_ok {x : Ex} {r : Rc} (h : (nextN x r).2 = 0) : effectN x r = some (nextN x r).1 := by
  unfold nextN at *
  split at h
  · rename_i hv
    rw [if_pos hv]
    split at h
    · rename_i y hy
      rw [hy]
    · cases h
  · cases h

theorem stepC_inv {x : Ex} {c : Ch} {n : Nat} (hI : Inv x n) (hn : n ≤ 1000) :
    Inv (stepC x c).1 (n + if (stepC x c).2.2 = true ∧ (stepC x c).2.1.kind = 2 then 1 else 0) ∧
      ((stepC x c).2.2 = true → effectN x (stepC x c).2.1 = some (stepC x c).1) ∧ ((stepC x c).2.2 = false → (stepC x c).1 = x) := by
  unfold stepC
  split
  · exact ⟨by simpa using hI, ⟨fun h => by simp at h, fun _ => rfl⟩⟩
  · split
    · rename_i h
      have he := nextN_ok h
      obtain ⟨h1, h2⟩ := effectN_inv hI hn he
      exact ⟨by simpa using h1, ⟨fun _ => he, fun h => by simp at h⟩⟩
    · exact ⟨by simpa using hI, ⟨fun h => by simp at h, fun _ => rfl⟩⟩
end Go.Proofs.Ytbdodpippgakjaa

namespace Go.Proofs.Ytbdodpippgakjaa
open Go Go.Vs Go.Proofs

/-! ### Ideals -/

theorem doneL_mem {x : Ex} (hv : validN x = true) {a : Int} (h0 : 0 ≤ a) (h1 : a < x.tries.length) (hd : doneT (x.tries.getD a.toNat .zero) = true) : a ∈ doneL x := by
  unfold doneL placesN
  rw [if_pos hv]
  refine List.mem_map.2 ⟨a.toNat, List.mem_filter.2 ⟨List.mem_range.2 (by omega), hd⟩, Int.toNat_of_nonneg h0⟩

theorem ideal_ok {x : Ex} {n : Nat} (hI : Inv x n) {p : Nat} (hp : p < x.tries.length) (hid : (x.tries.getD p .zero).id ≠ 0) : ∀ a ∈ x.plan.after.getD p [], a ∈ doneL x := fun a ha => by
  have hw := validN_wf hI.val
  obtain ⟨h0, h1⟩ := hw.mem p hp a ha
  exact doneL_mem hI.val h0 h1 (hI.asked p hp hid a ha)

/-! ### Answers -/

def overN (over : List Int) (r : Rc) (n : Nat) : List Int :=
  if r.kind = 3 then over ++ [r.id] else if r.kind = 5 then over ++ (List.range n).map (fun (i : Nat) => (i : Int) + 1) else over

structure Over (x : Ex) (n : Nat) (over : List Int) : Prop where
  le : ∀ o ∈ over, o ≤ n
  not_in : ∀ i, i < x.tries.length → openT (x.tries.getD i .zero) = true → (x.tries.getD i .zero).id ∉ over

theorem firstN_over : Over firstN 0 [] := ⟨by simp, by simp [firstN]⟩

theorem openT_id {t : Tr} (h : openT t = true) : t.id ≠ 0 ∧ t.ans = 0 := by simpa [openT] using h

theorem over_step {x y : Ex} {r : Rc} {n : Nat} {over : List Int} (hI : Inv x n) (hO : Over x n over) (h : effectN x r = some y) :
    Over y (n + if r.kind = 2 then 1 else 0) (overN over r n) ∧ (r.kind = 3 → r.id ∉ over) := by
  unfold effectN at h
  split at h
  · rename_i hk
    split at h
    · cases h
    · cases h
      have hz2 : ∀ i, (begunN x r.plan).tries.getD i .zero = .zero := fun i => by
        by_cases hi : i < (begunN x r.plan).tries.length
        · exact (List.mem_replicate.1 (getD_mem hi _)).2
        · simp [List.getD_eq_getElem?_getD, List.getElem?_eq_none (Nat.le_of_not_lt hi)]
      refine ⟨?_, fun h3 => by omega⟩
      rw [if_neg (by omega), overN, if_neg (by omega), if_neg (by omega)]
      exact ⟨hO.le, fun i _ ho => by rw [hz2] at ho; simp [openT, Tr.zero] at ho⟩
  · rename_i hk1
    split at h
    · rename_i hk
      split at h
      · cases h
      · rename_i hb
        cases h
        simp only [Bool.or_eq_true, Bool.not_eq_true', not_or, Bool.not_eq_false, decide_eq_true_eq, decide_eq_false_iff_not, Classical.not_not] at hb
        obtain ⟨hr, hid, hl⟩ := hb
        have hr' := readyI_place (x := x) (a := r.place) (by rw [hr]; rfl)
        have hnx := hI.nxt
        refine ⟨?_, fun h3 => by omega⟩
        rw [if_pos hk, overN, if_neg (by omega), if_neg (by omega)]
        refine ⟨fun o ho => by have := hO.le o ho; omega, fun i hi ho => ?_⟩
        simp only [askedN, List.length_set] at hi ho ⊢
        rw [getD_set _ _ _ _ _ (by omega)] at ho ⊢
        split
        · rename_i e
          intro hin
          have := hO.le _ hin
          dsimp only at this
          omega
        · rename_i e
          rw [if_neg e] at ho
          exact hO.not_in i hi ho
    · rename_i hk2
      rw [if_neg hk2, Nat.add_zero]
      split at h
      · rename_i hk3
        split at h
        · cases h
        · rename_i hb
          cases h
          simp only [Bool.or_eq_true, Bool.not_eq_true', not_or, Bool.not_eq_false, decide_eq_true_eq] at hb
          obtain ⟨hrun, hp, ha1, ha4⟩ := hb
          obtain ⟨i, hi, hit, hop, hid⟩ := placeN_spec (x := x) (id := r.id) (by omega)
          rw [hi, Int.toNat_natCast, overN, if_pos hk3]
          have hin := hO.not_in i hit hop
          rw [hid] at hin
          refine ⟨⟨fun o ho => ?_, fun j hj ho => ?_⟩, fun _ => hin⟩
          · rcases List.mem_append.1 ho with ho | ho
            · exact hO.le o ho
            · have : o = r.id := by simpa using ho
              have h2 := (hI.ids _ (getD_mem hit .zero)).2
              omega
          · simp only [saidN, List.length_set] at hj ho ⊢
            rw [getD_set _ _ _ _ _ hit] at ho ⊢
            by_cases e : j = i
            · rw [if_pos e] at ho
              have := (openT_id ho).2
              have this : r.ans = 0 := this
              omega
            · rw [if_neg e] at ho ⊢
              intro hm
              rcases List.mem_append.1 hm with hm | hm
              · exact hO.not_in j hj ho hm
              · have : (x.tries.getD j .zero).id = r.id := by simpa using hm
                exact e (hI.dist j i hj hit (openT_id ho).1 (this.trans hid.symm))
      · rename_i hk3
        split at h
        · rename_i hk4
          split at h
          · cases h
          · cases h
            rw [overN, if_neg hk3, if_neg (by omega)]
            exact ⟨⟨hO.le, hO.not_in⟩, fun h => absurd h hk3⟩
        · split at h
          · rename_i hk5
            split at h
            · cases h
            · rename_i hb
              cases h
              simp only [Bool.or_eq_true, Bool.and_eq_true, Bool.not_eq_true', not_or, not_and, Bool.not_eq_false] at hb
              rw [overN, if_neg hk3, if_pos hk5]
              refine ⟨⟨fun o ho => ?_, fun j hj ho => ?_⟩, fun h => absurd h hk3⟩
              · rcases List.mem_append.1 ho with ho | ho
                · exact hO.le o ho
                · obtain ⟨k, hk, rfl⟩ := List.mem_map.1 ho
                  have := List.mem_range.1 hk
                  omega
              · have hs : x.tries.any openT = false := by simpa [settledN] using hb.2.1
                have := (List.any_eq_false.1 hs) _ (getD_mem hj .zero)
                exact absurd ho this
          · cases h

theorem openN_mem {x : Ex} {q : Rq} (h : q ∈ openN x) : ∃ i, i < x.tries.length ∧ openT (x.tries.getD i .zero) = true ∧ q.id = (x.tries.getD i .zero).id := by
  obtain ⟨a, ha, rfl⟩ := List.mem_map.1 h
  obtain ⟨_, i, rfl, h1, h2⟩ := placesN_mem ha
  exact ⟨i, h1, h2, by simp [rqOf]⟩

/-! ### A plan goes on -/

theorem openN_nil {x : Ex} (hv : validN x = true) (h : (openN x).length = 0) : ∀ i, i < x.tries.length → openT (x.tries.getD i .zero) = false := fun i hi => by
  cases ho : openT (x.tries.getD i .zero) with
  | false => rfl
  | true =>
    have : (i : Int) ∈ openL x := by
      unfold openL placesN
      rw [if_pos hv]
      exact List.mem_map.2 ⟨i, List.mem_filter.2 ⟨List.mem_range.2 hi, ho⟩, rfl⟩
    have h0 : openL x = [] := by
      have : (openL x).length = 0 := by simpa [openN] using h
      exact List.eq_nil_of_length_eq_zero this
    rw [h0] at this
    cases this
theorem readyL_nil {x : Ex} (hv : validN x = true) (h : (readyL x).length = 0) : ∀ i, i < x.tries.length → readyI x (i : Nat) = false := fun i hi => by
  cases ho : readyI x (i : Nat) with
  | false => rfl
  | true =>
    have : (i : Int) ∈ readyL x := by
      unfold readyL placesN
      rw [if_pos hv]
      exact List.mem_map.2 ⟨i, List.mem_filter.2 ⟨List.mem_range.2 hi, ho⟩, rfl⟩
    have h0 : readyL x = [] := List.eq_nil_of_length_eq_zero h
    rw [h0] at this
    cases this

/-- What rounds reach is in each set that no step can join. -/
theorem stepIn_sub {after : List (List Int)} {D : Nat → Bool} (hD : ∀ i, D i = false → ∃ a ∈ after.getD i [], D a.toNat = false) {S : List Bool} (hS : ∀ j, S.getD j false = true → D j = true) (i : Nat) :
    ∀ j, (stepIn after S i).getD j false = true → D j = true := fun j hj => by
  unfold stepIn at hj
  split at hj
  · rename_i hall
    by_cases hi : i < S.length
    · rw [getD_set _ _ _ _ _ hi] at hj
      split at hj
      · rename_i e
        subst e
        cases hd : D j with
        | true => rfl
        | false =>
          obtain ⟨a, ha, hda⟩ := hD j hd
          have := hS _ ((List.all_eq_true.1 hall) a ha)
          rw [hda] at this
          cases this
      · exact hS j hj
    · rw [List.set_eq_of_length_le (by omega)] at hj
      exact hS j hj
  · exact hS j hj
theorem passIn_sub {after : List (List Int)} {D : Nat → Bool} (hD : ∀ i, D i = false → ∃ a ∈ after.getD i [], D a.toNat = false) {S : List Bool} (hS : ∀ j, S.getD j false = true → D j = true) :
    ∀ i j, (passIn after S i).getD j false = true → D j = true
  | 0 => hS
  | i + 1 => by
    rw [passIn_succ]
    exact stepIn_sub hD (passIn_sub hD hS i) i
theorem roundsIn_sub {after : List (List Int)} {D : Nat → Bool} (hD : ∀ i, D i = false → ∃ a ∈ after.getD i [], D a.toNat = false) (n : Nat) :
    ∀ r j, (roundsIn after n r).getD j false = true → D j = true
  | 0 => fun j hj => by
    have h : roundsIn after n 0 = List.replicate n false := rfl
    rw [h] at hj
    by_cases hj' : j < n
    · simp [List.getD_eq_getElem?_getD, List.getElem?_replicate, hj'] at hj
    · simp [List.getD_eq_getElem?_getD, List.getElem?_replicate, hj'] at hj
  | r + 1 => by
    rw [roundsIn_succ, roundIn_pass]
    exact passIn_sub hD (roundsIn_sub hD n r) n

theorem ordered_all {p : Pl} (h : orderedN p = true) {D : Nat → Bool} (hD : ∀ i, i < p.steps.length → D i = false → ∃ a ∈ p.after.getD i [], D a.toNat = false) (i : Nat) (hi : i < p.steps.length) : D i = true := by
  simp only [orderedN, Bool.and_eq_true, decide_eq_true_eq] at h
  obtain ⟨_, _, hg, hr⟩ := h
  have hl := roundsIn_len p.after p.steps.length p.steps.length
  have hin : (roundsIn p.after p.steps.length p.steps.length).getD i false = true := by
    rw [getD_of (by omega)]
    exact (List.all_eq_true.1 hr) _ (List.getElem_mem _)
  let E : Nat → Bool := fun j => if j < p.steps.length then D j else true
  have hE : ∀ j, E j = false → ∃ a ∈ p.after.getD j [], E a.toNat = false := fun j hj => by
    by_cases hjn : j < p.steps.length
    · have : D j = false := by simpa [E, hjn] using hj
      obtain ⟨a, ha, hd⟩ := hD j hjn this
      refine ⟨a, ha, ?_⟩
      by_cases han : a.toNat < p.steps.length
      · simp [E, han, hd]
      · -- a place beyond the plan does not stand in a good list
        have := (List.all_eq_true.1 hg) j (List.mem_range.2 hjn)
        obtain ⟨h0, h1⟩ := goodL_mem this a ha
        omega
    · simp [E, hjn] at hj
  have := roundsIn_sub hE _ _ i hin
  simpa [E, hi] using this

theorem all_done {x : Ex} {n : Nat} (hI : Inv x n) (hrun : x.run = true) (hs : x.stp = false) (ho : (openN x).length = 0) (hr : (readyL x).length = 0) :
    ∀ i, i < x.tries.length → doneT (x.tries.getD i .zero) = true := by
  have hw := validN_wf hI.val
  have hv := hI.val
  simp only [validN, Bool.and_eq_true, decide_eq_true_eq] at hv
  intro i hi
  refine ordered_all hv.2.2 (D := fun j => doneT (x.tries.getD j .zero)) (fun j hj hd => ?_) i (by omega)
  have hj : j < x.tries.length := by omega
  have h1 := readyL_nil hI.val hr j hj
  have h2 := openN_nil hI.val ho j hj
  have hask : (x.tries.getD j .zero).id = 0 ∨ (x.tries.getD j .zero).ans = 2 := by
    have hsane := hI.sane hs _ (getD_mem hj .zero)
    simp only [openT, Bool.and_eq_false_iff, decide_eq_false_iff_not, Classical.not_not] at h2
    simp only [doneT, decide_eq_false_iff_not] at hd
    rcases h2 with h2 | h2
    · exact .inl h2
    · exact .inr (by omega)
  have h1' : (x.plan.after.getD j []).all (fun a => doneT (x.tries.getD a.toNat .zero)) = false := by
    cases hall : (x.plan.after.getD j []).all fun a => doneT (x.tries.getD a.toNat .zero) with
    | false => rfl
    | true =>
      have : readyI x (j : Nat) = true := by
        simp only [readyI, readyN, Bool.and_eq_true, Bool.or_eq_true, Bool.not_eq_true', decide_eq_true_eq, Int.toNat_natCast]
        exact ⟨hrun, hs, by omega, by omega, hask, hall⟩
      rw [this] at h1
      cases h1
  obtain ⟨a, ha, hna⟩ := List.all_eq_false.1 h1'
  exact ⟨a, ha, by simpa using hna⟩

theorem complete_of {x : Ex} (hv : validN x = true) (h : ∀ i, i < x.tries.length → doneT (x.tries.getD i .zero) = true) : completeN x = true := by
  have : (doneL x).length = x.tries.length := by
    unfold doneL placesN placesK
    rw [if_pos hv, List.length_map, List.filter_eq_self.2 (fun i hi => h i (List.mem_range.1 hi)), List.length_range]
  simp [completeN, hv, this]

theorem settled_of {x : Ex} (h : ∀ i, i < x.tries.length → openT (x.tries.getD i .zero) = false) : settledN x = true := by
  simp only [settledN, Bool.not_eq_true', List.any_eq_false, Bool.not_eq_true]
  intro t ht
  obtain ⟨i, hi, e⟩ := List.getElem_of_mem ht
  have := h i hi
  rw [getD_of hi, e] at this
  exact this

theorem end_ok {x : Ex} {n : Nat} (hI : Inv x n) (hrun : x.run = true) (ho : (openN x).length = 0) (hr : (readyL x).length = 0) :
    effectN x endR = some ⟨false, x.stp, x.plan, x.tries, x.next⟩ := by
  have hs := settled_of (openN_nil hI.val ho)
  have hc : x.stp = true ∨ completeN x = true := by
    cases hs : x.stp with
    | true => exact .inl rfl
    | false => exact .inr (complete_of hI.val (all_done hI hrun hs ho hr))
  unfold effectN endR
  simp only [show ¬ ((5 : Int) = 1) by decide, show ¬ ((5 : Int) = 2) by decide, show ¬ ((5 : Int) = 3) by decide, show ¬ ((5 : Int) = 4) by decide, if_false, if_true, hrun, hs]
  rcases hc with hc | hc <;> simp [hc]

/-! ### And comes to its end -/

def weight (t : Tr) : Nat := if doneT t then 0 else if openT t then 1 else 2
def left_ (x : Ex) : Nat := (x.tries.map weight).sum + if x.run then 1 else 0

theorem sum_set (f : Tr → Nat) : ∀ (l : List Tr) (i : Nat) (b : Tr), i < l.length → ((l.set i b).map f).sum + f (l.getD i .zero) = (l.map f).sum + f b
  | [], i, b, h => by simp at h
  | t :: l, 0, b, _ => by simp; omega
  | t :: l, i + 1, b, h => by
    have := sum_set f l i b (by simpa using h)
    simp only [List.set_cons_succ, List.map_cons, List.sum_cons, List.getD_cons_succ]
    omega
theorem sum_le (l : List Tr) : (l.map weight).sum ≤ 2 * l.length := by
  induction l with
  | nil => simp
  | cons t l ih =>
    have : weight t ≤ 2 := by
      unfold weight
      repeat' split
      all_goals omega
    simp only [List.map_cons, List.sum_cons, List.length_cons]
    omega
theorem left_le {x : Ex} {n : Nat} (hI : Inv x n) : left_ x ≤ 25 := by
  have := sum_le x.tries
  have := (validN_wf hI.val).few
  unfold left_
  split <;> omega

def goR (x : Ex) : Rc :=
  if 0 < (openN x).length then answerR ((openN x).getD 0 .zero).id 1
  else if 0 < (readyL x).length then intentR ((readyL x).getD 0 0) x.next 0 else endR

theorem goR_small (x : Ex) : (goR x).small := by
  unfold goR Rc.small
  repeat' split
  all_goals exact emptyP_small

theorem go_ok {x : Ex} {n : Nat} (hI : Inv x n) (hn : n ≤ 1000) (hrun : x.run = true) : ∃ y, effectN x (goR x) = some y ∧ left_ y < left_ x := by
  unfold goR
  split
  · rename_i ho
    have hm : (openN x).getD 0 .zero ∈ openN x := getD_mem ho _
    obtain ⟨j, hj, hoj, hid⟩ := openN_mem hm
    have hge : 0 ≤ placeN x ((openN x).getD 0 .zero).id := placeL_ge _ _ _ ⟨_, getD_mem hj .zero, hoj, hid.symm⟩
    obtain ⟨i, hi, hit, hop, hii⟩ := placeN_spec hge
    generalize (openN x).getD 0 .zero = q at *
    refine ⟨saidN x i 1, ?_, ?_⟩
    · simp [effectN, answerR, hrun, hi]
    · have h1 := sum_set weight x.tries i (saidT (x.tries.getD i .zero) 1) hit
      have hop' := openT_id hop
      have w1 : weight (x.tries.getD i .zero) = 1 := by
        have : doneT (x.tries.getD i .zero) = false := by rw [doneT, hop'.2]; rfl
        rw [weight, if_neg (by rw [this]; simp), if_pos hop]
      have w2 : weight (saidT (x.tries.getD i .zero) 1) = 0 := by simp [weight, saidT, doneT]
      simp only [left_, saidN, hrun, if_true]
      omega
  · rename_i ho
    split
    · rename_i hr
      have hm : (readyL x).getD 0 0 ∈ readyL x := getD_mem hr _
      obtain ⟨_, i, hi, hit, hri⟩ := placesN_mem hm
      rw [hi]
      have hri' := hri
      simp only [readyI, readyN, Bool.and_eq_true, Bool.or_eq_true, Bool.not_eq_true', decide_eq_true_eq, List.all_eq_true, Int.toNat_natCast] at hri'
      obtain ⟨_, hstp, h0, h1, h2, h3⟩ := hri'
      have hnx := hI.nxt
      refine ⟨askedN x (intentR (i : Nat) x.next 0), ?_, ?_⟩
      · simp [effectN, intentR, hri]
      · have hs := sum_set weight x.tries i ⟨x.next, 0, 0⟩ hit
        have hnd := not_done_ready (hI.idle _ (getD_mem hit .zero)) h2
        have w1 : weight (x.tries.getD i .zero) = 2 := by
          have : openT (x.tries.getD i .zero) = false := by
            rcases h2 with h2 | h2
            · simp only [openT, h2]; rfl
            · simp only [openT, h2, Bool.and_eq_false_iff]; exact .inr rfl
          rw [weight, if_neg (by rw [hnd]; simp), if_neg (by rw [this]; simp)]
        have w2 : weight ⟨x.next, 0, 0⟩ = 1 := by
          have : ¬ x.next = 0 := by omega
          simp [weight, doneT, openT, this]
        simp only [left_, askedN, intentR, Int.toNat_natCast, hrun, if_true]
        omega
    · rename_i hr
      refine ⟨_, end_ok hI hrun (by omega) (by omega), ?_⟩
      simp [left_, hrun]
end Go.Proofs.Ytbdodpippgakjaa
