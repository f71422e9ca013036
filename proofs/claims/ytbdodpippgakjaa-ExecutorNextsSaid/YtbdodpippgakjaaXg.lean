/- This text proves a part of what the claim needs: contracts of functions of the program. No condition. -/
import Derived.Test.YtbdodpippgakjaaXf
import Derived.Test.YtbdodpippgakjaaXe
import Derived.Test.YtbdodpippgakjaaVsD
set_option linter.unusedSimpArgs false
set_option linter.unusedVariables false

namespace Go.Proofs.Ytbdodpippgakjaa
open Go Go.Vs Go.Proofs

/-! ### ExecutorNexts: from the call of Next on -/

def TryR3 : LC :=
    (.seq
     (.reg false [
       ⟨some 33, .load 28 (.tmp 2), none⟩,
       ⟨some 34, .load 32 (.tmp 3), none⟩,
       ⟨some 35, .call ⟨.value (.func 13), #[(.tmp 33), (.tmp 34)], #[28, 32]⟩, none⟩,
       ⟨some 32, .move (.tmp 35), none⟩,
       ⟨some 36, .extract (.tmp 32) 0, none⟩,
       ⟨some 37, .extract (.tmp 32) 1, none⟩,
       ⟨some 6, .alloc 28, none⟩,
       ⟨none, .store 28 (.tmp 6) (.tmp 36), none⟩,
       ⟨some 7, .assign (.tmp 37), none⟩] [])
     (.seq
      (.reg false [
        ⟨some 39, .load 28 (.tmp 2), none⟩,
        ⟨some 40, .load 32 (.tmp 3), none⟩,
        ⟨some 41, .call ⟨.value (.func 14), #[(.tmp 39), (.tmp 40)], #[28, 32]⟩, none⟩,
        ⟨some 38, .move (.tmp 41), none⟩,
        ⟨some 42, .extract (.tmp 38) 0, none⟩,
        ⟨some 43, .extract (.tmp 38) 1, none⟩,
        ⟨some 8, .alloc 28, none⟩,
        ⟨none, .store 28 (.tmp 8) (.tmp 42), none⟩,
        ⟨some 9, .assign (.tmp 43), none⟩] [])
      (.seq
       (.seq
        (.reg true [
          ⟨some 44, .load 28 (.tmp 6), none⟩,
          ⟨some 45, .load 28 (.tmp 8), none⟩,
          ⟨some 46, .call ⟨.value (.func 15), #[(.tmp 44), (.tmp 45)], #[28, 28]⟩, none⟩,
          ⟨some 47, .unOp .not 4 (.tmp 46), none⟩,
          ⟨some 48, .move (.tmp 47), none⟩,
          ⟨some 49, .move (.tmp 7), some (48, false)⟩,
          ⟨some 50, .move (.tmp 9), some (48, false)⟩,
          ⟨some 51, .binOp .neq 36 (.tmp 49) (.tmp 50) 36, some (48, false)⟩,
          ⟨some 52, .pick (.tmp 48) (.const (.bool true)) (.tmp 51), none⟩,
          ⟨some 53, .move (.tmp 52), none⟩,
          ⟨some 54, .load 28 (.tmp 2), some (53, false)⟩,
          ⟨some 55, .call ⟨.value (.func 16), #[(.tmp 54)], #[28]⟩, some (53, false)⟩,
          ⟨some 56, .load 28 (.tmp 2), some (53, false)⟩,
          ⟨some 57, .call ⟨.value (.func 17), #[(.tmp 56)], #[28]⟩, some (53, false)⟩,
          ⟨some 58, .binOp .neq 4 (.tmp 55) (.tmp 57) 4, some (53, false)⟩,
          ⟨some 59, .pick (.tmp 53) (.const (.bool true)) (.tmp 58), none⟩,
          ⟨some 60, .move (.tmp 59), none⟩,
          ⟨some 61, .fieldAddr 32 (.tmp 3) 5, some (60, false)⟩,
          ⟨some 62, .load 25 (.tmp 61), some (60, false)⟩,
          ⟨some 63, .call ⟨.value (.func 18), #[(.tmp 62)], #[25]⟩, some (60, false)⟩,
          ⟨some 64, .fieldAddr 32 (.tmp 3) 5, some (60, false)⟩,
          ⟨some 65, .load 25 (.tmp 64), some (60, false)⟩,
          ⟨some 66, .call ⟨.value (.func 19), #[(.tmp 65)], #[25]⟩, some (60, false)⟩,
          ⟨some 67, .binOp .neq 4 (.tmp 63) (.tmp 66) 4, some (60, false)⟩,
          ⟨some 68, .pick (.tmp 60) (.const (.bool true)) (.tmp 67), none⟩] [(11, 12), (19, 20), (19, 21)])
        (.cond (.tmp 68)
         (.seq
          (.reg false [
            ⟨some 4, .assign (.const (.bool false)), none⟩] [])
          .ret)
         .skip))
       (.seq
        (.seq
         (.reg false [
           ⟨some 10, .assign (.const (.int .i64 0)), none⟩] [])
         (.block 0
          (.loop
           (.seq
            (.seq
             (.reg false [
               ⟨some 69, .move (.tmp 10), none⟩,
               ⟨some 70, .fieldAddr 28 (.tmp 6) 3, none⟩,
               ⟨some 71, .load 26 (.tmp 70), none⟩,
               ⟨some 72, .call ⟨.builtin .len, #[(.tmp 71)], #[26]⟩, none⟩,
               ⟨some 73, .binOp .lss 3 (.tmp 69) (.tmp 72) 3, none⟩] [])
             (.cond (.tmp 73)
              .skip
              (.exit 0)))
            (.seq
             (.block 1
              (.reg false [
                ⟨some 76, .fieldAddr 28 (.tmp 6) 3, none⟩,
                ⟨some 77, .load 26 (.tmp 76), none⟩,
                ⟨some 78, .move (.tmp 10), none⟩,
                ⟨some 79, .indexAddr 26 (.tmp 77) (.tmp 78), none⟩,
                ⟨some 80, .fieldAddr 42 (.tmp 79) 0, none⟩,
                ⟨some 81, .load 3 (.tmp 80), none⟩,
                ⟨some 82, .binOp .add 3 (.tmp 81) (.const (.int .i64 1)) 3, none⟩,
                ⟨some 83, .indexAddr 26 (.tmp 77) (.tmp 78), none⟩,
                ⟨some 84, .fieldAddr 42 (.tmp 83) 0, none⟩,
                ⟨none, .store 3 (.tmp 84) (.tmp 82), none⟩] []))
             (.reg false [
               ⟨some 74, .move (.tmp 10), none⟩,
               ⟨some 75, .binOp .add 3 (.tmp 74) (.const (.int .i64 1)) 3, none⟩,
               ⟨some 10, .assign (.tmp 75), none⟩] []))))))
        (.seq
         (.seq
          (.reg false [
            ⟨some 11, .assign (.const (.int .i64 0)), none⟩] [])
          (.block 2
           (.loop
            (.seq
             (.seq
              (.reg false [
                ⟨some 85, .move (.tmp 11), none⟩,
                ⟨some 86, .fieldAddr 28 (.tmp 6) 2, none⟩,
                ⟨some 87, .fieldAddr 25 (.tmp 86) 1, none⟩,
                ⟨some 88, .load 23 (.tmp 87), none⟩,
                ⟨some 89, .call ⟨.builtin .len, #[(.tmp 88)], #[23]⟩, none⟩,
                ⟨some 90, .binOp .lss 3 (.tmp 85) (.tmp 89) 3, none⟩] [])
              (.cond (.tmp 90)
               .skip
               (.exit 2)))
             (.seq
              (.block 3
               (.seq
                (.reg false [
                  ⟨some 12, .assign (.const (.int .i64 0)), none⟩] [])
                (.block 4
                 (.loop
                  (.seq
                   (.seq
                    (.reg false [
                      ⟨some 93, .move (.tmp 12), none⟩,
                      ⟨some 94, .fieldAddr 28 (.tmp 6) 2, none⟩,
                      ⟨some 95, .fieldAddr 25 (.tmp 94) 1, none⟩,
                      ⟨some 96, .load 23 (.tmp 95), none⟩,
                      ⟨some 97, .move (.tmp 11), none⟩,
                      ⟨some 98, .indexAddr 23 (.tmp 96) (.tmp 97), none⟩,
                      ⟨some 99, .load 43 (.tmp 98), none⟩,
                      ⟨some 100, .call ⟨.builtin .len, #[(.tmp 99)], #[43]⟩, none⟩,
                      ⟨some 101, .binOp .lss 3 (.tmp 93) (.tmp 100) 3, none⟩] [])
                    (.cond (.tmp 101)
                     .skip
                     (.exit 4)))
                   (.seq
                    (.block 5
                     (.reg false [
                       ⟨some 104, .fieldAddr 28 (.tmp 6) 2, none⟩,
                       ⟨some 105, .fieldAddr 25 (.tmp 104) 1, none⟩,
                       ⟨some 106, .load 23 (.tmp 105), none⟩,
                       ⟨some 107, .move (.tmp 11), none⟩,
                       ⟨some 108, .indexAddr 23 (.tmp 106) (.tmp 107), none⟩,
                       ⟨some 109, .load 43 (.tmp 108), none⟩,
                       ⟨some 110, .move (.tmp 12), none⟩,
                       ⟨some 111, .indexAddr 43 (.tmp 109) (.tmp 110), none⟩,
                       ⟨some 112, .load 3 (.tmp 111), none⟩,
                       ⟨some 113, .binOp .add 3 (.tmp 112) (.const (.int .i64 1)) 3, none⟩,
                       ⟨some 114, .indexAddr 43 (.tmp 109) (.tmp 110), none⟩,
                       ⟨none, .store 3 (.tmp 114) (.tmp 113), none⟩] []))
                    (.reg false [
                      ⟨some 102, .move (.tmp 12), none⟩,
                      ⟨some 103, .binOp .add 3 (.tmp 102) (.const (.int .i64 1)) 3, none⟩,
                      ⟨some 12, .assign (.tmp 103), none⟩] [])))))))
              (.reg false [
                ⟨some 91, .move (.tmp 11), none⟩,
                ⟨some 92, .binOp .add 3 (.tmp 91) (.const (.int .i64 1)) 3, none⟩,
                ⟨some 11, .assign (.tmp 92), none⟩] []))))))
         (.seq
          (.reg false [
            ⟨some 115, .load 28 (.tmp 2), none⟩,
            ⟨some 116, .load 28 (.tmp 5), none⟩,
            ⟨some 117, .call ⟨.value (.func 15), #[(.tmp 115), (.tmp 116)], #[28, 28]⟩, none⟩,
            ⟨some 118, .move (.tmp 117), none⟩,
            ⟨some 119, .call ⟨.value (.func 11), #[], #[]⟩, some (118, true)⟩,
            ⟨some 120, .pick (.tmp 118) (.tmp 119) (.const (.bool false)), none⟩,
            ⟨some 4, .assign (.tmp 120), none⟩] [])
          .ret))))))

def TryP3 : List LOp := [
  ⟨some 104, .fieldAddr 28 (.tmp 6) 2, none⟩,
  ⟨some 105, .fieldAddr 25 (.tmp 104) 1, none⟩,
  ⟨some 106, .load 23 (.tmp 105), none⟩,
  ⟨some 107, .move (.tmp 11), none⟩,
  ⟨some 108, .indexAddr 23 (.tmp 106) (.tmp 107), none⟩,
  ⟨some 109, .load 43 (.tmp 108), none⟩,
  ⟨some 110, .move (.tmp 12), none⟩,
  ⟨some 111, .indexAddr 43 (.tmp 109) (.tmp 110), none⟩,
  ⟨some 112, .load 3 (.tmp 111), none⟩,
  ⟨some 113, .binOp .add 3 (.tmp 112) (.const (.int .i64 1)) 3, none⟩,
  ⟨some 114, .indexAddr 43 (.tmp 109) (.tmp 110), none⟩]

theorem lists_afts (A : List (List Int)) : lists A = afts A := rfl

abbrev sig3 (x : Ex) (r : Rc) : St := ⟨[(2, .c (.cd true (.fp [.bool x.run, .bool x.stp, .sl 4 (stps x.plan.steps), .sl 1 (afts x.plan.after), .sl 3 (trs x.tries), .int .i64 x.next]))), (3, .c (.cd true (.fp [.int .u8 r.kind, .int .i64 r.place, .int .i64 r.id, .int .i64 r.lease, .int .u8 r.ans, .sl 4 (stps r.plan.steps), .sl 1 (afts r.plan.after)]))), (5, .c (.cd true (.fp [.bool x.run, .bool x.stp, .sl 4 (stps x.plan.steps), .sl 1 (afts x.plan.after), .sl 3 (trs x.tries), .int .i64 x.next])))], [], 0⟩

theorem next13F_ok (x : Ex) (r : Rc) (hx : x.small) (hr : r.small) (y : Ex) (hv : validN x = true) (hy : effectN x r = some y) : GivesF Try.prog 13 [.agg [.bool x.run, .bool x.stp, .sl 4 (stps x.plan.steps), .sl 1 (afts x.plan.after), .sl 3 (trs x.tries), .int .i64 x.next], .agg [.int .u8 r.kind, .int .i64 r.place, .int .i64 r.id, .int .i64 r.lease, .int .u8 r.ans, .sl 4 (stps r.plan.steps), .sl 1 (afts r.plan.after)]] (.tup [.agg [.d (.bool y.run), .d (.bool y.stp), .d (.sl 4 (stps y.plan.steps)), .d (.sl 1 (afts y.plan.after)), .ref 0 y.tries.length 0 y.tries.length, .d (.int .i64 y.next)], .c (.d (.int .i64 0))]) [.sl 3 (trs y.tries) false] := by
  by_cases k1 : r.kind = 1
  · exact next13F_1 x r hx hr y k1 hv hy
  · exact next13F_2 x r hx hr y k1 hv hy

def TryA3 : LC :=
        (.seq
         (.seq
          (.reg false [
            ⟨some 11, .assign (.const (.int .i64 0)), none⟩] [])
          (.block 2
           (.loop
            (.seq
             (.seq
              (.reg false [
                ⟨some 85, .move (.tmp 11), none⟩,
                ⟨some 86, .fieldAddr 28 (.tmp 6) 2, none⟩,
                ⟨some 87, .fieldAddr 25 (.tmp 86) 1, none⟩,
                ⟨some 88, .load 23 (.tmp 87), none⟩,
                ⟨some 89, .call ⟨.builtin .len, #[(.tmp 88)], #[23]⟩, none⟩,
                ⟨some 90, .binOp .lss 3 (.tmp 85) (.tmp 89) 3, none⟩] [])
              (.cond (.tmp 90)
               .skip
               (.exit 2)))
             (.seq
              (.block 3
               (.seq
                (.reg false [
                  ⟨some 12, .assign (.const (.int .i64 0)), none⟩] [])
                (.block 4
                 (.loop
                  (.seq
                   (.seq
                    (.reg false [
                      ⟨some 93, .move (.tmp 12), none⟩,
                      ⟨some 94, .fieldAddr 28 (.tmp 6) 2, none⟩,
                      ⟨some 95, .fieldAddr 25 (.tmp 94) 1, none⟩,
                      ⟨some 96, .load 23 (.tmp 95), none⟩,
                      ⟨some 97, .move (.tmp 11), none⟩,
                      ⟨some 98, .indexAddr 23 (.tmp 96) (.tmp 97), none⟩,
                      ⟨some 99, .load 43 (.tmp 98), none⟩,
                      ⟨some 100, .call ⟨.builtin .len, #[(.tmp 99)], #[43]⟩, none⟩,
                      ⟨some 101, .binOp .lss 3 (.tmp 93) (.tmp 100) 3, none⟩] [])
                    (.cond (.tmp 101)
                     .skip
                     (.exit 4)))
                   (.seq
                    (.block 5
                     (.reg false [
                       ⟨some 104, .fieldAddr 28 (.tmp 6) 2, none⟩,
                       ⟨some 105, .fieldAddr 25 (.tmp 104) 1, none⟩,
                       ⟨some 106, .load 23 (.tmp 105), none⟩,
                       ⟨some 107, .move (.tmp 11), none⟩,
                       ⟨some 108, .indexAddr 23 (.tmp 106) (.tmp 107), none⟩,
                       ⟨some 109, .load 43 (.tmp 108), none⟩,
                       ⟨some 110, .move (.tmp 12), none⟩,
                       ⟨some 111, .indexAddr 43 (.tmp 109) (.tmp 110), none⟩,
                       ⟨some 112, .load 3 (.tmp 111), none⟩,
                       ⟨some 113, .binOp .add 3 (.tmp 112) (.const (.int .i64 1)) 3, none⟩,
                       ⟨some 114, .indexAddr 43 (.tmp 109) (.tmp 110), none⟩,
                       ⟨none, .store 3 (.tmp 114) (.tmp 113), none⟩] []))
                    (.reg false [
                      ⟨some 102, .move (.tmp 12), none⟩,
                      ⟨some 103, .binOp .add 3 (.tmp 102) (.const (.int .i64 1)) 3, none⟩,
                      ⟨some 12, .assign (.tmp 103), none⟩] [])))))))
              (.reg false [
                ⟨some 91, .move (.tmp 11), none⟩,
                ⟨some 92, .binOp .add 3 (.tmp 91) (.const (.int .i64 1)) 3, none⟩,
                ⟨some 11, .assign (.tmp 92), none⟩] []))))))
         (.seq
          (.reg false [
            ⟨some 115, .load 28 (.tmp 2), none⟩,
            ⟨some 116, .load 28 (.tmp 5), none⟩,
            ⟨some 117, .call ⟨.value (.func 15), #[(.tmp 115), (.tmp 116)], #[28, 28]⟩, none⟩,
            ⟨some 118, .move (.tmp 117), none⟩,
            ⟨some 119, .call ⟨.value (.func 11), #[], #[]⟩, some (118, true)⟩,
            ⟨some 120, .pick (.tmp 118) (.tmp 119) (.const (.bool false)), none⟩,
            ⟨some 4, .assign (.tmp 120), none⟩] [])
          .ret))

theorem shape_len {A B : List (List Int)} (h : A.map List.length = B.map List.length) : A.length = B.length := by
  have := congrArg List.length h
  simpa using this

set_option maxHeartbeats 4000000 in
theorem restAfter (x y : Ex) (hx : x.small) (hys : y.small) : wTT Try.prog 121 (L := ⟨TryA3⟩) ⟨[(2, .c (.cd true (.fp [.bool x.run, .bool x.stp, .sl 4 (stps x.plan.steps), .sl 1 (afts x.plan.after), .sl 3 (trs x.tries), .int .i64 x.next]))), (5, .c (.cd true (.fp [.bool x.run, .bool x.stp, .sl 4 (stps x.plan.steps), .sl 1 (afts x.plan.after), .sl 3 (trs x.tries), .int .i64 x.next]))), (6, .c (.ptr 24 0))], [(24, .box [.d (.bool y.run), .d (.bool y.stp), .junk, .d (.sl 1 (afts y.plan.after)), .junk, .d (.int .i64 y.next)])], 57⟩ (Q := ⟨endB 4 true⟩) := by
  have c15 := same15 x x hx hx
  rw [decide_eq_true rfl] at c15
  obtain ⟨⟨_, hya, hyl⟩, _⟩ := hys
  rw [TryA3]
  refine wTT_seq (wTT_seq (wTT_of (wT_of TryEnv ?_)))
  simp -implicitDefEqProofs only [go_sem, ↓reduceIte, Nat.reduceEqDiff, Nat.reduceAdd, Nat.reduceMul, Nat.reduceSub, Nat.reduceLeDiff, Nat.reduceLT, Nat.reducePow, reduceCtorEq, Int.reduceToNat, Int.reduceLT, Int.reduceLE, Int.reduceEq, Int.reduceAdd, Int.reduceSub, Int.reduceMul, Int.reduceNeg, Int.reduceTMod, Int.reduceTDiv, List.replicate_zero, List.replicate_succ]
  refine wTT_block ?_
  refine wTT_loop (fun p : { p : Nat × List (List Int) // p.1 ≤ p.2.length ∧ p.2.map List.length = y.plan.after.map List.length } => ⟨[(2, .c (.cd true (.fp [.bool x.run, .bool x.stp, .sl 4 (stps x.plan.steps), .sl 1 (afts x.plan.after), .sl 3 (trs x.tries), .int .i64 x.next]))), (5, .c (.cd true (.fp [.bool x.run, .bool x.stp, .sl 4 (stps x.plan.steps), .sl 1 (afts x.plan.after), .sl 3 (trs x.tries), .int .i64 x.next]))), (6, .c (.ptr 24 0)), (11, .c (.d (.int .i64 (p.1.1 : Nat))))], [(24, .box [.d (.bool y.run), .d (.bool y.stp), .junk, .d (.sl 1 (afts p.1.2)), .junk, .d (.int .i64 y.next)])], 57⟩)
    (fun p => p.1.2.length - p.1.1) ⟨(0, y.plan.after), Nat.zero_le _, rfl⟩ ?_ ?_
  · refine Wk.sub ?_ ?_ (by decide) (by decide) ?_ ?_
    all_goals simp -implicitDefEqProofs only [go_sem, ↓reduceIte, Nat.reduceEqDiff, Nat.reduceAdd, Nat.reduceMul, Nat.reduceSub, Nat.reduceLeDiff, Nat.reduceLT, Nat.reducePow, reduceCtorEq, Int.reduceToNat, Int.reduceLT, Int.reduceLE, Int.reduceEq, Int.reduceAdd, Int.reduceSub, Int.reduceMul, Int.reduceNeg, Int.reduceTMod, Int.reduceTDiv, List.replicate_zero, List.replicate_succ, Int.natCast_zero]
  · rintro ⟨⟨i, A⟩, hi, hA⟩
    dsimp only at hi hA
    have hAl := shape_len hA
    have hsm : ∀ l ∈ A, l.length ≤ 1000 := fun l hl => by
      have : l.length ∈ A.map List.length := List.mem_map_of_mem hl
      rw [hA] at this
      obtain ⟨l', h1, h2⟩ := List.mem_map.1 this
      rw [← h2]
      exact hyl l' h1
    refine wTT_seq (wTT_of (wT_of TryEnv ?_))
    simp -implicitDefEqProofs only [go_sem, ↓reduceIte, Nat.reduceEqDiff, Nat.reduceAdd, Nat.reduceMul, Nat.reduceSub, Nat.reduceLeDiff, Nat.reduceLT, Nat.reducePow, reduceCtorEq, Int.reduceToNat, Int.reduceLT, Int.reduceLE, Int.reduceEq, Int.reduceAdd, Int.reduceSub, Int.reduceMul, Int.reduceNeg, Int.reduceTMod, Int.reduceTDiv, List.replicate_zero, List.replicate_succ]
    refine wfork_intro (fun h => ?_) (fun h => ?_)
    · have h : i < A.length := by simpa using h
      simp -implicitDefEqProofs only [go_sem, ↓reduceIte, Nat.reduceEqDiff, Nat.reduceAdd, Nat.reduceMul, Nat.reduceSub, Nat.reduceLeDiff, Nat.reduceLT, Nat.reducePow, reduceCtorEq, Int.reduceToNat, Int.reduceLT, Int.reduceLE, Int.reduceEq, Int.reduceAdd, Int.reduceSub, Int.reduceMul, Int.reduceNeg, Int.reduceTMod, Int.reduceTDiv, List.replicate_zero, List.replicate_succ]
      refine wTT_seq (wTT_block (wTT_seq (wTT_of (wT_of TryEnv ?_))))
      simp -implicitDefEqProofs only [go_sem, ↓reduceIte, Nat.reduceEqDiff, Nat.reduceAdd, Nat.reduceMul, Nat.reduceSub, Nat.reduceLeDiff, Nat.reduceLT, Nat.reducePow, reduceCtorEq, Int.reduceToNat, Int.reduceLT, Int.reduceLE, Int.reduceEq, Int.reduceAdd, Int.reduceSub, Int.reduceMul, Int.reduceNeg, Int.reduceTMod, Int.reduceTDiv, List.replicate_zero, List.replicate_succ]
      refine wTT_block ?_
      refine wTT_loop (fun p : { p : Nat × List (List Int) // p.1 ≤ (p.2.getD i []).length ∧ p.2.map List.length = y.plan.after.map List.length } => ⟨[(2, .c (.cd true (.fp [.bool x.run, .bool x.stp, .sl 4 (stps x.plan.steps), .sl 1 (afts x.plan.after), .sl 3 (trs x.tries), .int .i64 x.next]))), (5, .c (.cd true (.fp [.bool x.run, .bool x.stp, .sl 4 (stps x.plan.steps), .sl 1 (afts x.plan.after), .sl 3 (trs x.tries), .int .i64 x.next]))), (6, .c (.ptr 24 0)), (11, .c (.d (.int .i64 (i : Nat)))), (12, .c (.d (.int .i64 (p.1.1 : Nat))))], [(24, .box [.d (.bool y.run), .d (.bool y.stp), .junk, .d (.sl 1 (afts p.1.2)), .junk, .d (.int .i64 y.next)])], 57⟩)
        (fun p => (p.1.2.getD i []).length - p.1.1) ⟨(0, A), Nat.zero_le _, hA⟩ ?_ ?_
      · refine Wk.sub ?_ ?_ (by decide) (by decide) ?_ ?_
        all_goals simp -implicitDefEqProofs only [go_sem, ↓reduceIte, Nat.reduceEqDiff, Nat.reduceAdd, Nat.reduceMul, Nat.reduceSub, Nat.reduceLeDiff, Nat.reduceLT, Nat.reducePow, reduceCtorEq, Int.reduceToNat, Int.reduceLT, Int.reduceLE, Int.reduceEq, Int.reduceAdd, Int.reduceSub, Int.reduceMul, Int.reduceNeg, Int.reduceTMod, Int.reduceTDiv, List.replicate_zero, List.replicate_succ, Int.natCast_zero]
      · rintro ⟨⟨j, B⟩, hj, hB⟩
        dsimp only at hj hB
        have hBl := shape_len hB
        have hiB : i < B.length := by omega
        have hgi : B[i]? = some B[i] := List.getElem?_eq_getElem hiB
        have hgd : B.getD i [] = B[i] := by rw [List.getD_eq_getElem?_getD, hgi]; rfl
        rw [hgd] at hj
        have hlen : ∀ C : List (List Int), C.map List.length = B.map List.length → (C.getD i []).length = B[i].length := fun C hC => by
          have h1 : i < C.length := by have := shape_len hC; omega
          have := congrArg (fun l => l[i]?) hC
          simp only [List.getElem?_map, List.getElem?_eq_getElem h1, hgi, Option.map_some, Option.some.injEq] at this
          rw [List.getD_eq_getElem?_getD, List.getElem?_eq_getElem h1]
          exact this
        have hs1 : B[i].length ≤ 1000 := by
          have h1 := hlen A (hA.trans hB.symm)
          rw [List.getD_eq_getElem?_getD, List.getElem?_eq_getElem h] at h1
          have := hsm A[i] (List.getElem_mem h)
          simp only [Option.getD_some] at h1
          omega
        generalize hu : B[i] = u at *
        refine wTT_seq (wTT_of (wT_of TryEnv ?_))
        simp -implicitDefEqProofs only [go_sem, ↓reduceIte, Nat.reduceEqDiff, Nat.reduceAdd, Nat.reduceMul, Nat.reduceSub, Nat.reduceLeDiff, Nat.reduceLT, Nat.reducePow, reduceCtorEq, Int.reduceToNat, Int.reduceLT, Int.reduceLE, Int.reduceEq, Int.reduceAdd, Int.reduceSub, Int.reduceMul, Int.reduceNeg, Int.reduceTMod, Int.reduceTDiv, List.replicate_zero, List.replicate_succ, afts_get, hgi, Int.toNat_natCast, Int.natCast_nonneg]
        refine wfork_intro (fun h2 => ?_) (fun h2 => ?_)
        · have h2 : j < u.length := by simpa using h2
          have hgj : u[j]? = some u[j] := List.getElem?_eq_getElem h2
          have hj1 : IntKind.i64.wrap ((j : Int) + 1) = ((j + 1 : Nat) : Int) := by rw [wrap64 (by omega) (by omega)]; rfl
          simp -implicitDefEqProofs only [go_sem, ↓reduceIte, Nat.reduceEqDiff, Nat.reduceAdd, Nat.reduceMul, Nat.reduceSub, Nat.reduceLeDiff, Nat.reduceLT, Nat.reducePow, reduceCtorEq, Int.reduceToNat, Int.reduceLT, Int.reduceLE, Int.reduceEq, Int.reduceAdd, Int.reduceSub, Int.reduceMul, Int.reduceNeg, Int.reduceTMod, Int.reduceTDiv, List.replicate_zero, List.replicate_succ]
          refine wTT_seq (wTT_block (wTT_bump (pre := TryP3) (A := B) (j := 3) (tmK := [(2, .c (.cd true (.fp [.bool x.run, .bool x.stp, .sl 4 (stps x.plan.steps), .sl 1 (afts x.plan.after), .sl 3 (trs x.tries), .int .i64 x.next]))), (5, .c (.cd true (.fp [.bool x.run, .bool x.stp, .sl 4 (stps x.plan.steps), .sl 1 (afts x.plan.after), .sl 3 (trs x.tries), .int .i64 x.next]))), (6, .c (.ptr 24 0)), (11, .c (.d (.int .i64 (i : Nat)))), (12, .c (.d (.int .i64 (j : Nat))))]) (nx' := 57) TryEnv rfl rfl rfl ?_ ?_ (by decide) ?_ ?_ ?_))
          · simp -implicitDefEqProofs only [go_sem, ↓reduceIte, Nat.reduceEqDiff, Nat.reduceAdd, Nat.reduceMul, Nat.reduceSub, Nat.reduceLeDiff, Nat.reduceLT, Nat.reducePow, reduceCtorEq, Int.reduceToNat, Int.reduceLT, Int.reduceLE, Int.reduceEq, Int.reduceAdd, Int.reduceSub, Int.reduceMul, Int.reduceNeg, Int.reduceTMod, Int.reduceTDiv, List.replicate_zero, List.replicate_succ]
            simp
          · simp -implicitDefEqProofs only [go_sem, ↓reduceIte, Nat.reduceEqDiff, Nat.reduceAdd, Nat.reduceMul, Nat.reduceSub, Nat.reduceLeDiff, Nat.reduceLT, Nat.reducePow, reduceCtorEq, Int.reduceToNat, Int.reduceLT, Int.reduceLE, Int.reduceEq, Int.reduceAdd, Int.reduceSub, Int.reduceMul, Int.reduceNeg, Int.reduceTMod, Int.reduceTDiv, List.replicate_zero, List.replicate_succ]
          · decide
          · rw [TryP3]
            simp -implicitDefEqProofs only [go_sem, ↓reduceIte, Nat.reduceEqDiff, Nat.reduceAdd, Nat.reduceMul, Nat.reduceSub, Nat.reduceLeDiff, Nat.reduceLT, Nat.reducePow, reduceCtorEq, Int.reduceToNat, Int.reduceLT, Int.reduceLE, Int.reduceEq, Int.reduceAdd, Int.reduceSub, Int.reduceMul, Int.reduceNeg, Int.reduceTMod, Int.reduceTDiv, List.replicate_zero, List.replicate_succ, afts_get, nums_get, hgi, hgj, Int.toNat_natCast, Int.natCast_nonneg]
            exact ⟨⟨_, _, rfl⟩, _, rfl⟩
          · intro F hF
            have hFl := hlen F hF
            simp -implicitDefEqProofs only [go_sem, ↓reduceIte, Nat.reduceEqDiff, Nat.reduceAdd, Nat.reduceMul, Nat.reduceSub, Nat.reduceLeDiff, Nat.reduceLT, Nat.reducePow, reduceCtorEq, Int.reduceToNat, Int.reduceLT, Int.reduceLE, Int.reduceEq, Int.reduceAdd, Int.reduceSub, Int.reduceMul, Int.reduceNeg, Int.reduceTMod, Int.reduceTDiv, List.replicate_zero, List.replicate_succ, lists_afts, List.set_cons_succ, List.set_cons_zero]
            refine wTT_of (wT_of TryEnv ?_)
            simp -implicitDefEqProofs only [go_sem, ↓reduceIte, Nat.reduceEqDiff, Nat.reduceAdd, Nat.reduceMul, Nat.reduceSub, Nat.reduceLeDiff, Nat.reduceLT, Nat.reducePow, reduceCtorEq, Int.reduceToNat, Int.reduceLT, Int.reduceLE, Int.reduceEq, Int.reduceAdd, Int.reduceSub, Int.reduceMul, Int.reduceNeg, Int.reduceTMod, Int.reduceTDiv, List.replicate_zero, List.replicate_succ, hj1]
            refine ⟨⟨(j + 1, F), by dsimp only; rw [hFl]; exact h2, hF.trans hB⟩, Wk.sub ?_ ?_ (by decide) (by decide) ?_ ?_, by dsimp only; rw [hFl, hgd]; omega⟩
            all_goals simp -implicitDefEqProofs only [go_sem, ↓reduceIte, Nat.reduceEqDiff, Nat.reduceAdd, Nat.reduceMul, Nat.reduceSub, Nat.reduceLeDiff, Nat.reduceLT, Nat.reducePow, reduceCtorEq, Int.reduceToNat, Int.reduceLT, Int.reduceLE, Int.reduceEq, Int.reduceAdd, Int.reduceSub, Int.reduceMul, Int.reduceNeg, Int.reduceTMod, Int.reduceTDiv, List.replicate_zero, List.replicate_succ]
        · simp -implicitDefEqProofs only [go_sem, ↓reduceIte, Nat.reduceEqDiff, Nat.reduceAdd, Nat.reduceMul, Nat.reduceSub, Nat.reduceLeDiff, Nat.reduceLT, Nat.reducePow, reduceCtorEq, Int.reduceToNat, Int.reduceLT, Int.reduceLE, Int.reduceEq, Int.reduceAdd, Int.reduceSub, Int.reduceMul, Int.reduceNeg, Int.reduceTMod, Int.reduceTDiv, List.replicate_zero, List.replicate_succ]
          have hi1 : IntKind.i64.wrap ((i : Int) + 1) = ((i + 1 : Nat) : Int) := by rw [wrap64 (by omega) (by omega)]; rfl
          refine wTT_of (wT_of TryEnv ?_)
          simp -implicitDefEqProofs only [go_sem, ↓reduceIte, Nat.reduceEqDiff, Nat.reduceAdd, Nat.reduceMul, Nat.reduceSub, Nat.reduceLeDiff, Nat.reduceLT, Nat.reducePow, reduceCtorEq, Int.reduceToNat, Int.reduceLT, Int.reduceLE, Int.reduceEq, Int.reduceAdd, Int.reduceSub, Int.reduceMul, Int.reduceNeg, Int.reduceTMod, Int.reduceTDiv, List.replicate_zero, List.replicate_succ, hi1]
          refine ⟨⟨(i + 1, B), by dsimp only; omega, hB⟩, Wk.sub ?_ ?_ (by decide) (by decide) ?_ ?_, by dsimp only; omega⟩
          all_goals simp -implicitDefEqProofs only [go_sem, ↓reduceIte, Nat.reduceEqDiff, Nat.reduceAdd, Nat.reduceMul, Nat.reduceSub, Nat.reduceLeDiff, Nat.reduceLT, Nat.reducePow, reduceCtorEq, Int.reduceToNat, Int.reduceLT, Int.reduceLE, Int.reduceEq, Int.reduceAdd, Int.reduceSub, Int.reduceMul, Int.reduceNeg, Int.reduceTMod, Int.reduceTDiv, List.replicate_zero, List.replicate_succ]
    · simp -implicitDefEqProofs only [go_sem, ↓reduceIte, Nat.reduceEqDiff, Nat.reduceAdd, Nat.reduceMul, Nat.reduceSub, Nat.reduceLeDiff, Nat.reduceLT, Nat.reducePow, reduceCtorEq, Int.reduceToNat, Int.reduceLT, Int.reduceLE, Int.reduceEq, Int.reduceAdd, Int.reduceSub, Int.reduceMul, Int.reduceNeg, Int.reduceTMod, Int.reduceTDiv, List.replicate_zero, List.replicate_succ]
      refine wTT_of (wT_of TryEnv ?_)
      repeat' first
        | simp -implicitDefEqProofs only [go_sem, ↓reduceIte, Nat.reduceEqDiff, Nat.reduceAdd, Nat.reduceMul, Nat.reduceSub, Nat.reduceLeDiff, Nat.reduceLT, Nat.reducePow, reduceCtorEq, Int.reduceToNat, Int.reduceLT, Int.reduceLE, Int.reduceEq, Int.reduceAdd, Int.reduceSub, Int.reduceMul, Int.reduceNeg, Int.reduceTMod, Int.reduceTDiv, List.replicate_zero, List.replicate_succ]
        | (refine wCall_intro c15 ?_ ?_ ?_; rfl; decide)
        | (refine wCall_intro lives11 ?_ ?_ ?_; rfl; decide)
        | refine wCd_lend ?_

set_option maxHeartbeats 4000000 in
theorem restYes (x : Ex) (r : Rc) (hx : x.small) (hr : r.small) (y : Ex) (hv : validN x = true) (hy : effectN x r = some y) : wTT Try.prog 121 (L := ⟨TryR3⟩) (sig3 x r) (Q := ⟨endB 4 true⟩) := by
  have hys : y.small := effectN_small hx hr hy
  have hn : nextN x r = (y, 0) := by rw [nextN, hv, hy]; rfl
  have c14 := refNext14 x r hx hr
  rw [hn] at c14
  have c15 := same15 y y hys hys
  rw [decide_eq_true rfl] at c15
  rw [TryR3]
  refine wTT_seq (wTT_of (wT_of TryEnv ?_))
  repeat' first
    | simp -implicitDefEqProofs only [go_sem, ↓reduceIte, Nat.reduceEqDiff, Nat.reduceAdd, Nat.reduceMul, Nat.reduceSub, Nat.reduceLeDiff, Nat.reduceLT, Nat.reducePow, reduceCtorEq, Int.reduceToNat, Int.reduceLT, Int.reduceLE, Int.reduceEq, Int.reduceAdd, Int.reduceSub, Int.reduceMul, Int.reduceNeg, Int.reduceTMod, Int.reduceTDiv, List.replicate_zero, List.replicate_succ]
    | refine wCd_lend ?_
    | (refine wCall_fresh (next13F_ok x r hx hr y hv hy) ?_ ?_; exact Nat.le_of_ble_eq_true rfl)
  refine wTT_seq (wTT_of (wT_of TryEnv ?_))
  repeat' first
    | simp -implicitDefEqProofs only [go_sem, ↓reduceIte, Nat.reduceEqDiff, Nat.reduceAdd, Nat.reduceMul, Nat.reduceSub, Nat.reduceLeDiff, Nat.reduceLT, Nat.reducePow, reduceCtorEq, Int.reduceToNat, Int.reduceLT, Int.reduceLE, Int.reduceEq, Int.reduceAdd, Int.reduceSub, Int.reduceMul, Int.reduceNeg, Int.reduceTMod, Int.reduceTDiv, List.replicate_zero, List.replicate_succ]
    | (refine wCd_go (Deep.of_gives rfl c14) ?_)
  refine wTT_seq (wTT_of (wT_of TryEnv ?_))
  repeat' first
    | simp -implicitDefEqProofs only [go_sem, ↓reduceIte, Nat.reduceEqDiff, Nat.reduceAdd, Nat.reduceMul, Nat.reduceSub, Nat.reduceLeDiff, Nat.reduceLT, Nat.reducePow, reduceCtorEq, Int.reduceToNat, Int.reduceLT, Int.reduceLE, Int.reduceEq, Int.reduceAdd, Int.reduceSub, Int.reduceMul, Int.reduceNeg, Int.reduceTMod, Int.reduceTDiv, List.replicate_zero, List.replicate_succ]
    | refine wfork_intro (fun h => ?_) (fun h => ?_)
    | (refine wCall_intro c15 ?_ ?_ ?_; rfl; decide)
    | (refine wCall_intro (valid16 _ hx) ?_ ?_ ?_; rfl; decide)
    | (refine wCall_intro (refValid17 _ hx) ?_ ?_ ?_; rfl; decide)
    | (refine wCall_intro (ordered18 _ hr) ?_ ?_ ?_; rfl; decide)
    | (refine wCall_intro (refOrdered19 _ hr) ?_ ?_ ?_; rfl; decide)
    | refine Also.mk (by decide) ?_
  -- the tries
  refine wTT_wk (Wk.sub (tm' := [(2, .c (.cd true (.fp [.bool x.run, .bool x.stp, .sl 4 (stps x.plan.steps), .sl 1 (afts x.plan.after), .sl 3 (trs x.tries), .int .i64 x.next]))), (5, .c (.cd true (.fp [.bool x.run, .bool x.stp, .sl 4 (stps x.plan.steps), .sl 1 (afts x.plan.after), .sl 3 (trs x.tries), .int .i64 x.next]))), (6, .c (.ptr 24 0))]) (hp' := [(24, .box [.d (.bool y.run), .d (.bool y.stp), .d (.sl 4 (stps y.plan.steps)), .d (.sl 1 (afts y.plan.after)), .ref 8 y.tries.length 0 y.tries.length, .d (.int .i64 y.next)]), (8, .sl 3 (trs y.tries) false)]) (nx' := 57) ?_ ?_ (by decide) (by decide) ?_ ?_) ?_
  iterate 4 (rotate_left)
  all_goals try (simp -implicitDefEqProofs only [go_sem, ↓reduceIte, Nat.reduceEqDiff, Nat.reduceAdd, Nat.reduceMul, Nat.reduceSub, Nat.reduceLeDiff, Nat.reduceLT, Nat.reducePow, reduceCtorEq, Int.reduceToNat, Int.reduceLT, Int.reduceLE, Int.reduceEq, Int.reduceAdd, Int.reduceSub, Int.reduceMul, Int.reduceNeg, Int.reduceTMod, Int.reduceTDiv, List.replicate_zero, List.replicate_succ]; done)
  refine wTT_seq (wTT_of (wT_of TryEnv ?_))
  simp -implicitDefEqProofs only [go_sem, ↓reduceIte, Nat.reduceEqDiff, Nat.reduceAdd, Nat.reduceMul, Nat.reduceSub, Nat.reduceLeDiff, Nat.reduceLT, Nat.reducePow, reduceCtorEq, Int.reduceToNat, Int.reduceLT, Int.reduceLE, Int.reduceEq, Int.reduceAdd, Int.reduceSub, Int.reduceMul, Int.reduceNeg, Int.reduceTMod, Int.reduceTDiv, List.replicate_zero, List.replicate_succ]
  have hyt := hys.2
  refine wT_loop (fun p : { p : Nat × List Tr // p.1 ≤ p.2.length ∧ p.2.length = y.tries.length } => ⟨[(2, .c (.cd true (.fp [.bool x.run, .bool x.stp, .sl 4 (stps x.plan.steps), .sl 1 (afts x.plan.after), .sl 3 (trs x.tries), .int .i64 x.next]))), (5, .c (.cd true (.fp [.bool x.run, .bool x.stp, .sl 4 (stps x.plan.steps), .sl 1 (afts x.plan.after), .sl 3 (trs x.tries), .int .i64 x.next]))), (6, .c (.ptr 24 0)), (10, .c (.d (.int .i64 (p.1.1 : Nat))))], [(24, .box [.d (.bool y.run), .d (.bool y.stp), .d (.sl 4 (stps y.plan.steps)), .d (.sl 1 (afts y.plan.after)), .ref 8 y.tries.length 0 y.tries.length, .d (.int .i64 y.next)]), (8, .sl 3 (trs p.1.2) false)], 57⟩)
    (fun p => p.1.2.length - p.1.1) ⟨(0, y.tries), Nat.zero_le _, rfl⟩ ?_ ?_
  · refine Wk.sub ?_ ?_ (by decide) (by decide) ?_ ?_
    all_goals simp -implicitDefEqProofs only [go_sem, ↓reduceIte, Nat.reduceEqDiff, Nat.reduceAdd, Nat.reduceMul, Nat.reduceSub, Nat.reduceLeDiff, Nat.reduceLT, Nat.reducePow, reduceCtorEq, Int.reduceToNat, Int.reduceLT, Int.reduceLE, Int.reduceEq, Int.reduceAdd, Int.reduceSub, Int.reduceMul, Int.reduceNeg, Int.reduceTMod, Int.reduceTDiv, List.replicate_zero, List.replicate_succ, Int.natCast_zero]
  · rintro ⟨⟨j, l⟩, hj, hl⟩
    dsimp only at hj hl
    refine wT_of TryEnv ?_
    simp -implicitDefEqProofs only [go_sem, ↓reduceIte, Nat.reduceEqDiff, Nat.reduceAdd, Nat.reduceMul, Nat.reduceSub, Nat.reduceLeDiff, Nat.reduceLT, Nat.reducePow, reduceCtorEq, Int.reduceToNat, Int.reduceLT, Int.reduceLE, Int.reduceEq, Int.reduceAdd, Int.reduceSub, Int.reduceMul, Int.reduceNeg, Int.reduceTMod, Int.reduceTDiv, List.replicate_zero, List.replicate_succ, hl]
    refine wfork_intro (fun h => ?_) (fun h => ?_)
    · have h : j < l.length := by simp at h; omega
      have hlt : (j : Int) < (y.tries.length : Int) := by omega
      have hg : l[j]? = some l[j] := List.getElem?_eq_getElem h
      have hj1 : IntKind.i64.wrap ((j : Int) + 1) = ((j + 1 : Nat) : Int) := by rw [wrap64 (by omega) (by omega)]; rfl
      generalize l[j] = u at *
      repeat' first
        | simp -implicitDefEqProofs only [go_sem, ↓reduceIte, Nat.reduceEqDiff, Nat.reduceAdd, Nat.reduceMul, Nat.reduceSub, Nat.reduceLeDiff, Nat.reduceLT, Nat.reducePow, reduceCtorEq, Int.reduceToNat, Int.reduceLT, Int.reduceLE, Int.reduceEq, Int.reduceAdd, Int.reduceSub, Int.reduceMul, Int.reduceNeg, Int.reduceTMod, Int.reduceTDiv, List.replicate_zero, List.replicate_succ, hl, trs_get, hg, trs_set, hj1, hlt, Int.toNat_natCast, Int.natCast_nonneg]
        | apply And.intro
      refine ⟨⟨(j + 1, l.set j ⟨IntKind.i64.wrap (u.id + 1), u.lease, u.ans⟩), by dsimp only; rw [List.length_set]; omega, by rw [List.length_set]; exact hl⟩, Wk.sub ?_ ?_ (by decide) (by decide) ?_ ?_, by dsimp only; rw [List.length_set]; omega⟩
      all_goals simp -implicitDefEqProofs only [go_sem, ↓reduceIte, Nat.reduceEqDiff, Nat.reduceAdd, Nat.reduceMul, Nat.reduceSub, Nat.reduceLeDiff, Nat.reduceLT, Nat.reducePow, reduceCtorEq, Int.reduceToNat, Int.reduceLT, Int.reduceLE, Int.reduceEq, Int.reduceAdd, Int.reduceSub, Int.reduceMul, Int.reduceNeg, Int.reduceTMod, Int.reduceTDiv, List.replicate_zero, List.replicate_succ]
    · simp -implicitDefEqProofs only [go_sem, ↓reduceIte, Nat.reduceEqDiff, Nat.reduceAdd, Nat.reduceMul, Nat.reduceSub, Nat.reduceLeDiff, Nat.reduceLT, Nat.reducePow, reduceCtorEq, Int.reduceToNat, Int.reduceLT, Int.reduceLE, Int.reduceEq, Int.reduceAdd, Int.reduceSub, Int.reduceMul, Int.reduceNeg, Int.reduceTMod, Int.reduceTDiv, List.replicate_zero, List.replicate_succ]
      -- the lists of the plan
      refine wTT_wk (((Wk.sub (tm' := [(2, .c (.cd true (.fp [.bool x.run, .bool x.stp, .sl 4 (stps x.plan.steps), .sl 1 (afts x.plan.after), .sl 3 (trs x.tries), .int .i64 x.next]))), (5, .c (.cd true (.fp [.bool x.run, .bool x.stp, .sl 4 (stps x.plan.steps), .sl 1 (afts x.plan.after), .sl 3 (trs x.tries), .int .i64 x.next]))), (6, .c (.ptr 24 0))]) (hp' := [(24, .box [.d (.bool y.run), .d (.bool y.stp), .d (.sl 4 (stps y.plan.steps)), .d (.sl 1 (afts y.plan.after)), .ref 8 y.tries.length 0 y.tries.length, .d (.int .i64 y.next)])]) (nx' := 57) ?_ ?_ (by decide) (by decide) ?_ ?_)).trans
        (Wk.boxJunk (b := 24) (cs' := [.d (.bool y.run), .d (.bool y.stp), .junk, .d (.sl 1 (afts y.plan.after)), .junk, .d (.int .i64 y.next)]) rfl (by simp [JuL]))) ?_
      iterate 4 (rotate_left)
      all_goals try (simp -implicitDefEqProofs only [go_sem, ↓reduceIte, Nat.reduceEqDiff, Nat.reduceAdd, Nat.reduceMul, Nat.reduceSub, Nat.reduceLeDiff, Nat.reduceLT, Nat.reducePow, reduceCtorEq, Int.reduceToNat, Int.reduceLT, Int.reduceLE, Int.reduceEq, Int.reduceAdd, Int.reduceSub, Int.reduceMul, Int.reduceNeg, Int.reduceTMod, Int.reduceTDiv, List.replicate_zero, List.replicate_succ]; done)
      exact restAfter x y hx hys
end Go.Proofs.Ytbdodpippgakjaa

namespace Go.Proofs.Ytbdodpippgakjaa
open Go Go.Vs Go.Proofs

set_option maxHeartbeats 4000000 in
theorem restNo (x : Ex) (r : Rc) (hx : x.small) (hr : r.small) (hy : validN x = true → effectN x r = none) : wTT Try.prog 121 (L := ⟨TryR3⟩) (sig3 x r) (Q := ⟨endB 4 true⟩) := by
  have hys := Ex.zero_small
  have hn : (nextN x r).1 = .zero := by
    unfold nextN
    split
    · rename_i h
      rw [hy h]
    · rfl
  have c14 := refNext14 x r hx hr
  have c13 := next13F_no x r hx hr hy
  rw [hn] at c14
  have c15 := same15 .zero .zero hys hys
  rw [decide_eq_true rfl] at c15
  generalize (nextN x r).2 = e at *
  rw [TryR3]
  refine wTT_seq (wTT_of (wT_of TryEnv ?_))
  repeat' first
    | simp -implicitDefEqProofs only [go_sem, ↓reduceIte, Nat.reduceEqDiff, Nat.reduceAdd, Nat.reduceMul, Nat.reduceSub, Nat.reduceLeDiff, Nat.reduceLT, Nat.reducePow, reduceCtorEq, Int.reduceToNat, Int.reduceLT, Int.reduceLE, Int.reduceEq, Int.reduceAdd, Int.reduceSub, Int.reduceMul, Int.reduceNeg, Int.reduceTMod, Int.reduceTDiv, List.replicate_zero, List.replicate_succ]
    | refine wCd_lend ?_
    | (refine wCall_fresh c13 ?_ ?_; exact Nat.le_of_ble_eq_true rfl)
  refine wTT_seq (wTT_of (wT_of TryEnv ?_))
  repeat' first
    | simp -implicitDefEqProofs only [go_sem, ↓reduceIte, Nat.reduceEqDiff, Nat.reduceAdd, Nat.reduceMul, Nat.reduceSub, Nat.reduceLeDiff, Nat.reduceLT, Nat.reducePow, reduceCtorEq, Int.reduceToNat, Int.reduceLT, Int.reduceLE, Int.reduceEq, Int.reduceAdd, Int.reduceSub, Int.reduceMul, Int.reduceNeg, Int.reduceTMod, Int.reduceTDiv, List.replicate_zero, List.replicate_succ]
    | (refine wCd_go (Deep.of_gives rfl c14) ?_)
  refine wTT_seq (wTT_of (wT_of TryEnv ?_))
  repeat' first
    | simp -implicitDefEqProofs only [go_sem, ↓reduceIte, Nat.reduceEqDiff, Nat.reduceAdd, Nat.reduceMul, Nat.reduceSub, Nat.reduceLeDiff, Nat.reduceLT, Nat.reducePow, reduceCtorEq, Int.reduceToNat, Int.reduceLT, Int.reduceLE, Int.reduceEq, Int.reduceAdd, Int.reduceSub, Int.reduceMul, Int.reduceNeg, Int.reduceTMod, Int.reduceTDiv, List.replicate_zero, List.replicate_succ]
    | refine wfork_intro (fun h => ?_) (fun h => ?_)
    | (refine wCall_intro c15 ?_ ?_ ?_; rfl; decide)
    | (refine wCall_intro (valid16 _ hx) ?_ ?_ ?_; rfl; decide)
    | (refine wCall_intro (refValid17 _ hx) ?_ ?_ ?_; rfl; decide)
    | (refine wCall_intro (ordered18 _ hr) ?_ ?_ ?_; rfl; decide)
    | (refine wCall_intro (refOrdered19 _ hr) ?_ ?_ ?_; rfl; decide)
    | refine Also.mk (by decide) ?_
  refine wTT_wk (Wk.sub (tm' := [(2, .c (.cd true (.fp [.bool x.run, .bool x.stp, .sl 4 (stps x.plan.steps), .sl 1 (afts x.plan.after), .sl 3 (trs x.tries), .int .i64 x.next]))), (5, .c (.cd true (.fp [.bool x.run, .bool x.stp, .sl 4 (stps x.plan.steps), .sl 1 (afts x.plan.after), .sl 3 (trs x.tries), .int .i64 x.next]))), (6, .c (.ptr 24 0))]) (hp' := [(24, .box [.d (.bool Ex.zero.run), .d (.bool Ex.zero.stp), .d (.sl 4 (stps Ex.zero.plan.steps)), .d (.sl 1 (afts Ex.zero.plan.after)), .d (.sl 3 (trs Ex.zero.tries)), .d (.int .i64 Ex.zero.next)])]) (nx' := 57) ?_ ?_ (by decide) (by decide) ?_ ?_) ?_
  iterate 4 (rotate_left)
  all_goals try (simp -implicitDefEqProofs only [go_sem, ↓reduceIte, Nat.reduceEqDiff, Nat.reduceAdd, Nat.reduceMul, Nat.reduceSub, Nat.reduceLeDiff, Nat.reduceLT, Nat.reducePow, reduceCtorEq, Int.reduceToNat, Int.reduceLT, Int.reduceLE, Int.reduceEq, Int.reduceAdd, Int.reduceSub, Int.reduceMul, Int.reduceNeg, Int.reduceTMod, Int.reduceTDiv, List.replicate_zero, List.replicate_succ]; done)
  refine wTT_seq (wTT_of (wT_of TryEnv ?_))
  simp -implicitDefEqProofs only [go_sem, ↓reduceIte, Nat.reduceEqDiff, Nat.reduceAdd, Nat.reduceMul, Nat.reduceSub, Nat.reduceLeDiff, Nat.reduceLT, Nat.reducePow, reduceCtorEq, Int.reduceToNat, Int.reduceLT, Int.reduceLE, Int.reduceEq, Int.reduceAdd, Int.reduceSub, Int.reduceMul, Int.reduceNeg, Int.reduceTMod, Int.reduceTDiv, List.replicate_zero, List.replicate_succ]
  have e0 : Ex.zero.tries = [] := rfl
  refine wT_unroll TryEnv [()] ?_
  simp -implicitDefEqProofs only [go_sem, ↓reduceIte, Nat.reduceEqDiff, Nat.reduceAdd, Nat.reduceMul, Nat.reduceSub, Nat.reduceLeDiff, Nat.reduceLT, Nat.reducePow, reduceCtorEq, Int.reduceToNat, Int.reduceLT, Int.reduceLE, Int.reduceEq, Int.reduceAdd, Int.reduceSub, Int.reduceMul, Int.reduceNeg, Int.reduceTMod, Int.reduceTDiv, List.replicate_zero, List.replicate_succ, e0, Int.natCast_zero, List.length_nil]
  refine wTT_wk (((Wk.sub (tm' := [(2, .c (.cd true (.fp [.bool x.run, .bool x.stp, .sl 4 (stps x.plan.steps), .sl 1 (afts x.plan.after), .sl 3 (trs x.tries), .int .i64 x.next]))), (5, .c (.cd true (.fp [.bool x.run, .bool x.stp, .sl 4 (stps x.plan.steps), .sl 1 (afts x.plan.after), .sl 3 (trs x.tries), .int .i64 x.next]))), (6, .c (.ptr 24 0))]) (hp' := [(24, .box [.d (.bool Ex.zero.run), .d (.bool Ex.zero.stp), .d (.sl 4 (stps Ex.zero.plan.steps)), .d (.sl 1 (afts Ex.zero.plan.after)), .d (.sl 3 (trs Ex.zero.tries)), .d (.int .i64 Ex.zero.next)])]) (nx' := 57) ?_ ?_ (by decide) (by decide) ?_ ?_)).trans
    (Wk.boxJunk (b := 24) (cs' := [.d (.bool Ex.zero.run), .d (.bool Ex.zero.stp), .junk, .d (.sl 1 (afts Ex.zero.plan.after)), .junk, .d (.int .i64 Ex.zero.next)]) rfl (by simp [JuL]))) ?_
  iterate 4 (rotate_left)
  all_goals try (simp -implicitDefEqProofs only [go_sem, ↓reduceIte, Nat.reduceEqDiff, Nat.reduceAdd, Nat.reduceMul, Nat.reduceSub, Nat.reduceLeDiff, Nat.reduceLT, Nat.reducePow, reduceCtorEq, Int.reduceToNat, Int.reduceLT, Int.reduceLE, Int.reduceEq, Int.reduceAdd, Int.reduceSub, Int.reduceMul, Int.reduceNeg, Int.reduceTMod, Int.reduceTDiv, List.replicate_zero, List.replicate_succ, e0, trs_nil]; done)
  exact restAfter x .zero hx hys

theorem rest3 (x : Ex) (r : Rc) (hx : x.small) (hr : r.small) : wTT Try.prog 121 (L := ⟨TryR3⟩) (sig3 x r) (Q := ⟨endB 4 true⟩) := by
  by_cases hv : validN x = true
  · cases hy : effectN x r with
    | some y => exact restYes x r hx hr y hv hy
    | none => exact restNo x r hx hr fun _ => hy
  · exact restNo x r hx hr fun h => absurd h hv

set_option maxHeartbeats 4000000 in
theorem lawNexts (x : Ex) (r : Rc) (hx : x.plan.fits) (hr : r.plan.fits) : Gives Try.prog 3 [.agg [.bool x.run, .bool x.stp, .sl 4 (stps x.plan.steps), .sl 1 (afts x.plan.after), .sl 3 (trs x.tries), .int .i64 x.next], .agg [.int .u8 r.kind, .int .i64 r.place, .int .i64 r.id, .int .i64 r.lease, .int .u8 r.ans, .sl 4 (stps r.plan.steps), .sl 1 (afts r.plan.after)]] (.c (.d (.bool true))) [] := by
  refine Gives.of_wT TryEnv Try.func3 (by decide) TryL3_ok Try.ntmps3 (rs := [.tmp 4]) rfl (by simp) [] (by decide) ?_; rw [TryL3]
  refine wT_seq (wT_of TryEnv ?_)
  simp -implicitDefEqProofs only [go_sem, ↓reduceIte, Nat.reduceEqDiff, Nat.reduceAdd, Nat.reduceMul, Nat.reduceSub, Nat.reduceLeDiff, Nat.reduceLT, Nat.reducePow, reduceCtorEq, Int.reduceToNat, Int.reduceLT, Int.reduceLE, Int.reduceEq, Int.reduceAdd, Int.reduceSub, Int.reduceMul, Int.reduceNeg, Int.reduceTMod, Int.reduceTDiv, List.replicate_zero, List.replicate_succ]
  refine wT_seq (wT_of TryEnv ?_)
  repeat' first
    | simp -implicitDefEqProofs only [go_sem, ↓reduceIte, Nat.reduceEqDiff, Nat.reduceAdd, Nat.reduceMul, Nat.reduceSub, Nat.reduceLeDiff, Nat.reduceLT, Nat.reducePow, reduceCtorEq, Int.reduceToNat, Int.reduceLT, Int.reduceLE, Int.reduceEq, Int.reduceAdd, Int.reduceSub, Int.reduceMul, Int.reduceNeg, Int.reduceTMod, Int.reduceTDiv, List.replicate_zero, List.replicate_succ]
    | refine wfork_intro (fun h => ?_) (fun h => ?_)
    | (refine wCall_intro (light10 _ hx) ?_ ?_ ?_; rfl; decide)
    | (refine wCall_intro (light10 _ hr) ?_ ?_ ?_; rfl; decide)
    | (refine wCall_intro lives11 ?_ ?_ ?_; rfl; decide)
  have hl : lightN x.plan = true := by simp_all
  have hl2 : lightN r.plan = true := by simp_all
  have hs : x.small := ⟨lightN_small hl, by simp at *; omega⟩
  have hr2 : r.small := lightN_small hl2
  refine wT_seq (wT_of TryEnv ?_)
  repeat' first
    | simp -implicitDefEqProofs only [go_sem, ↓reduceIte, Nat.reduceEqDiff, Nat.reduceAdd, Nat.reduceMul, Nat.reduceSub, Nat.reduceLeDiff, Nat.reduceLT, Nat.reducePow, reduceCtorEq, Int.reduceToNat, Int.reduceLT, Int.reduceLE, Int.reduceEq, Int.reduceAdd, Int.reduceSub, Int.reduceMul, Int.reduceNeg, Int.reduceTMod, Int.reduceTDiv, List.replicate_zero, List.replicate_succ]
    | (refine wCall_intro (own12 _ hs) ?_ ?_ ?_; rfl; decide)
  refine wT_protect [2, 3, 5] [.c (.fp [.bool x.run, .bool x.stp, .sl 4 (stps x.plan.steps), .sl 1 (afts x.plan.after), .sl 3 (trs x.tries), .int .i64 x.next]), .c (.fp [.int .u8 r.kind, .int .i64 r.place, .int .i64 r.id, .int .i64 r.lease, .int .u8 r.ans, .sl 4 (stps r.plan.steps), .sl 1 (afts r.plan.after)]), .c (.fp [.bool x.run, .bool x.stp, .sl 4 (stps x.plan.steps), .sl 1 (afts x.plan.after), .sl 3 (trs x.tries), .int .i64 x.next])] 4 true ?_ ?_ (rest3 x r hs hr2)
  · simp -implicitDefEqProofs only [go_sem, ↓reduceIte, Nat.reduceEqDiff, Nat.reduceAdd, Nat.reduceMul, Nat.reduceSub, Nat.reduceLeDiff, Nat.reduceLT, Nat.reducePow, reduceCtorEq, Int.reduceToNat, Int.reduceLT, Int.reduceLE, Int.reduceEq, Int.reduceAdd, Int.reduceSub, Int.reduceMul, Int.reduceNeg, Int.reduceTMod, Int.reduceTDiv, List.replicate_zero, List.replicate_succ]
  · simp -implicitDefEqProofs only [go_sem, ↓reduceIte, Nat.reduceEqDiff, Nat.reduceAdd, Nat.reduceMul, Nat.reduceSub, Nat.reduceLeDiff, Nat.reduceLT, Nat.reducePow, reduceCtorEq, Int.reduceToNat, Int.reduceLT, Int.reduceLE, Int.reduceEq, Int.reduceAdd, Int.reduceSub, Int.reduceMul, Int.reduceNeg, Int.reduceTMod, Int.reduceTDiv, List.replicate_zero, List.replicate_succ]
end Go.Proofs.Ytbdodpippgakjaa
