/- This text proves a part of what the claim needs: contracts of functions of the program. No condition. -/
import Derived.Test.YtbdodpippgakjaaProg
import Derived.Test.YtbdodpippgakjaaVsC
set_option linter.unusedSimpArgs false
set_option linter.unusedVariables false

namespace Go.Proofs.Ytbdodpippgakjaa
open Go Go.Vs Go.Proofs
set_option maxRecDepth 100000

def TryL2 : LC :=
 (.reg false [
   ⟨some 0, .call ⟨.value (.func 1), #[], #[]⟩, none⟩] [])
theorem TryL2_ok : Try.f2.body.bind (light Try.f2.ntmps) = some TryL2 := rfl

def TryL3 : LC :=
 (.seq
  (.reg false [
    ⟨some 2, .box 28 (.tmp 0), none⟩,
    ⟨some 3, .box 32 (.tmp 1), none⟩,
    ⟨some 4, .assign (.const (.bool false)), none⟩] [])
  (.seq
   (.seq
    (.reg false [
      ⟨some 13, .fieldAddr 28 (.tmp 2) 2, none⟩,
      ⟨some 14, .load 25 (.tmp 13), none⟩,
      ⟨some 15, .call ⟨.value (.func 10), #[(.tmp 14)], #[25]⟩, none⟩,
      ⟨some 16, .unOp .not 4 (.tmp 15), none⟩,
      ⟨some 17, .move (.tmp 16), none⟩,
      ⟨some 18, .fieldAddr 32 (.tmp 3) 5, some (17, false)⟩,
      ⟨some 19, .load 25 (.tmp 18), some (17, false)⟩,
      ⟨some 20, .call ⟨.value (.func 10), #[(.tmp 19)], #[25]⟩, some (17, false)⟩,
      ⟨some 21, .unOp .not 4 (.tmp 20), some (17, false)⟩,
      ⟨some 22, .pick (.tmp 17) (.const (.bool true)) (.tmp 21), none⟩,
      ⟨some 23, .move (.tmp 22), none⟩,
      ⟨some 24, .fieldAddr 28 (.tmp 2) 3, some (23, false)⟩,
      ⟨some 25, .load 26 (.tmp 24), some (23, false)⟩,
      ⟨some 26, .call ⟨.builtin .len, #[(.tmp 25)], #[26]⟩, some (23, false)⟩,
      ⟨some 27, .binOp .gtr 3 (.tmp 26) (.const (.int .i64 100)) 3, some (23, false)⟩,
      ⟨some 28, .pick (.tmp 23) (.const (.bool true)) (.tmp 27), none⟩] [])
    (.cond (.tmp 28)
     (.seq
      (.reg false [
        ⟨some 29, .call ⟨.value (.func 11), #[], #[]⟩, none⟩,
        ⟨some 4, .assign (.tmp 29), none⟩] [])
      .ret)
     .skip))
   (.seq
    (.reg false [
      ⟨some 30, .load 28 (.tmp 2), none⟩,
      ⟨some 31, .call ⟨.value (.func 12), #[(.tmp 30)], #[28]⟩, none⟩,
      ⟨some 5, .alloc 28, none⟩,
      ⟨none, .store 28 (.tmp 5) (.tmp 31), none⟩] [])
    (.seq
     (.reg false [
       ⟨some 33, .load 28 (.tmp 2), none⟩,
       ⟨some 34, .load 32 (.tmp 3), none⟩,
       ⟨some 35, .call ⟨.value (.func 13), #[(.tmp 33), (.tmp 34)], #[28, 32]⟩, none⟩,
       ⟨some 32, .move (.tmp 35), none⟩,
       ⟨some 36, .extract (.tmp 32) 0, none⟩,
       ⟨some 37, .extract (.tmp 32) 1, none⟩,
       ⟨some 6, .alloc 28, none⟩,
       ⟨none, .store 28 (.tmp 6) (.tmp 36), none⟩,
       ⟨some 7, .assign (.tmp 37), none⟩] [])
     (.seq
      (.reg false [
        ⟨some 39, .load 28 (.tmp 2), none⟩,
        ⟨some 40, .load 32 (.tmp 3), none⟩,
        ⟨some 41, .call ⟨.value (.func 14), #[(.tmp 39), (.tmp 40)], #[28, 32]⟩, none⟩,
        ⟨some 38, .move (.tmp 41), none⟩,
        ⟨some 42, .extract (.tmp 38) 0, none⟩,
        ⟨some 43, .extract (.tmp 38) 1, none⟩,
        ⟨some 8, .alloc 28, none⟩,
        ⟨none, .store 28 (.tmp 8) (.tmp 42), none⟩,
        ⟨some 9, .assign (.tmp 43), none⟩] [])
      (.seq
       (.seq
        (.reg true [
          ⟨some 44, .load 28 (.tmp 6), none⟩,
          ⟨some 45, .load 28 (.tmp 8), none⟩,
          ⟨some 46, .call ⟨.value (.func 15), #[(.tmp 44), (.tmp 45)], #[28, 28]⟩, none⟩,
          ⟨some 47, .unOp .not 4 (.tmp 46), none⟩,
          ⟨some 48, .move (.tmp 47), none⟩,
          ⟨some 49, .move (.tmp 7), some (48, false)⟩,
          ⟨some 50, .move (.tmp 9), some (48, false)⟩,
          ⟨some 51, .binOp .neq 36 (.tmp 49) (.tmp 50) 36, some (48, false)⟩,
          ⟨some 52, .pick (.tmp 48) (.const (.bool true)) (.tmp 51), none⟩,
          ⟨some 53, .move (.tmp 52), none⟩,
          ⟨some 54, .load 28 (.tmp 2), some (53, false)⟩,
          ⟨some 55, .call ⟨.value (.func 16), #[(.tmp 54)], #[28]⟩, some (53, false)⟩,
          ⟨some 56, .load 28 (.tmp 2), some (53, false)⟩,
          ⟨some 57, .call ⟨.value (.func 17), #[(.tmp 56)], #[28]⟩, some (53, false)⟩,
          ⟨some 58, .binOp .neq 4 (.tmp 55) (.tmp 57) 4, some (53, false)⟩,
          ⟨some 59, .pick (.tmp 53) (.const (.bool true)) (.tmp 58), none⟩,
          ⟨some 60, .move (.tmp 59), none⟩,
          ⟨some 61, .fieldAddr 32 (.tmp 3) 5, some (60, false)⟩,
          ⟨some 62, .load 25 (.tmp 61), some (60, false)⟩,
          ⟨some 63, .call ⟨.value (.func 18), #[(.tmp 62)], #[25]⟩, some (60, false)⟩,
          ⟨some 64, .fieldAddr 32 (.tmp 3) 5, some (60, false)⟩,
          ⟨some 65, .load 25 (.tmp 64), some (60, false)⟩,
          ⟨some 66, .call ⟨.value (.func 19), #[(.tmp 65)], #[25]⟩, some (60, false)⟩,
          ⟨some 67, .binOp .neq 4 (.tmp 63) (.tmp 66) 4, some (60, false)⟩,
          ⟨some 68, .pick (.tmp 60) (.const (.bool true)) (.tmp 67), none⟩] [(11, 12), (19, 20), (19, 21)])
        (.cond (.tmp 68)
         (.seq
          (.reg false [
            ⟨some 4, .assign (.const (.bool false)), none⟩] [])
          .ret)
         .skip))
       (.seq
        (.seq
         (.reg false [
           ⟨some 10, .assign (.const (.int .i64 0)), none⟩] [])
         (.block 0
          (.loop
           (.seq
            (.seq
             (.reg false [
               ⟨some 69, .move (.tmp 10), none⟩,
               ⟨some 70, .fieldAddr 28 (.tmp 6) 3, none⟩,
               ⟨some 71, .load 26 (.tmp 70), none⟩,
               ⟨some 72, .call ⟨.builtin .len, #[(.tmp 71)], #[26]⟩, none⟩,
               ⟨some 73, .binOp .lss 3 (.tmp 69) (.tmp 72) 3, none⟩] [])
             (.cond (.tmp 73)
              .skip
              (.exit 0)))
            (.seq
             (.block 1
              (.reg false [
                ⟨some 76, .fieldAddr 28 (.tmp 6) 3, none⟩,
                ⟨some 77, .load 26 (.tmp 76), none⟩,
                ⟨some 78, .move (.tmp 10), none⟩,
                ⟨some 79, .indexAddr 26 (.tmp 77) (.tmp 78), none⟩,
                ⟨some 80, .fieldAddr 42 (.tmp 79) 0, none⟩,
                ⟨some 81, .load 3 (.tmp 80), none⟩,
                ⟨some 82, .binOp .add 3 (.tmp 81) (.const (.int .i64 1)) 3, none⟩,
                ⟨some 83, .indexAddr 26 (.tmp 77) (.tmp 78), none⟩,
                ⟨some 84, .fieldAddr 42 (.tmp 83) 0, none⟩,
                ⟨none, .store 3 (.tmp 84) (.tmp 82), none⟩] []))
             (.reg false [
               ⟨some 74, .move (.tmp 10), none⟩,
               ⟨some 75, .binOp .add 3 (.tmp 74) (.const (.int .i64 1)) 3, none⟩,
               ⟨some 10, .assign (.tmp 75), none⟩] []))))))
        (.seq
         (.seq
          (.reg false [
            ⟨some 11, .assign (.const (.int .i64 0)), none⟩] [])
          (.block 2
           (.loop
            (.seq
             (.seq
              (.reg false [
                ⟨some 85, .move (.tmp 11), none⟩,
                ⟨some 86, .fieldAddr 28 (.tmp 6) 2, none⟩,
                ⟨some 87, .fieldAddr 25 (.tmp 86) 1, none⟩,
                ⟨some 88, .load 23 (.tmp 87), none⟩,
                ⟨some 89, .call ⟨.builtin .len, #[(.tmp 88)], #[23]⟩, none⟩,
                ⟨some 90, .binOp .lss 3 (.tmp 85) (.tmp 89) 3, none⟩] [])
              (.cond (.tmp 90)
               .skip
               (.exit 2)))
             (.seq
              (.block 3
               (.seq
                (.reg false [
                  ⟨some 12, .assign (.const (.int .i64 0)), none⟩] [])
                (.block 4
                 (.loop
                  (.seq
                   (.seq
                    (.reg false [
                      ⟨some 93, .move (.tmp 12), none⟩,
                      ⟨some 94, .fieldAddr 28 (.tmp 6) 2, none⟩,
                      ⟨some 95, .fieldAddr 25 (.tmp 94) 1, none⟩,
                      ⟨some 96, .load 23 (.tmp 95), none⟩,
                      ⟨some 97, .move (.tmp 11), none⟩,
                      ⟨some 98, .indexAddr 23 (.tmp 96) (.tmp 97), none⟩,
                      ⟨some 99, .load 43 (.tmp 98), none⟩,
                      ⟨some 100, .call ⟨.builtin .len, #[(.tmp 99)], #[43]⟩, none⟩,
                      ⟨some 101, .binOp .lss 3 (.tmp 93) (.tmp 100) 3, none⟩] [])
                    (.cond (.tmp 101)
                     .skip
                     (.exit 4)))
                   (.seq
                    (.block 5
                     (.reg false [
                       ⟨some 104, .fieldAddr 28 (.tmp 6) 2, none⟩,
                       ⟨some 105, .fieldAddr 25 (.tmp 104) 1, none⟩,
                       ⟨some 106, .load 23 (.tmp 105), none⟩,
                       ⟨some 107, .move (.tmp 11), none⟩,
                       ⟨some 108, .indexAddr 23 (.tmp 106) (.tmp 107), none⟩,
                       ⟨some 109, .load 43 (.tmp 108), none⟩,
                       ⟨some 110, .move (.tmp 12), none⟩,
                       ⟨some 111, .indexAddr 43 (.tmp 109) (.tmp 110), none⟩,
                       ⟨some 112, .load 3 (.tmp 111), none⟩,
                       ⟨some 113, .binOp .add 3 (.tmp 112) (.const (.int .i64 1)) 3, none⟩,
                       ⟨some 114, .indexAddr 43 (.tmp 109) (.tmp 110), none⟩,
                       ⟨none, .store 3 (.tmp 114) (.tmp 113), none⟩] []))
                    (.reg false [
                      ⟨some 102, .move (.tmp 12), none⟩,
                      ⟨some 103, .binOp .add 3 (.tmp 102) (.const (.int .i64 1)) 3, none⟩,
                      ⟨some 12, .assign (.tmp 103), none⟩] [])))))))
              (.reg false [
                ⟨some 91, .move (.tmp 11), none⟩,
                ⟨some 92, .binOp .add 3 (.tmp 91) (.const (.int .i64 1)) 3, none⟩,
                ⟨some 11, .assign (.tmp 92), none⟩] []))))))
         (.seq
          (.reg false [
            ⟨some 115, .load 28 (.tmp 2), none⟩,
            ⟨some 116, .load 28 (.tmp 5), none⟩,
            ⟨some 117, .call ⟨.value (.func 15), #[(.tmp 115), (.tmp 116)], #[28, 28]⟩, none⟩,
            ⟨some 118, .move (.tmp 117), none⟩,
            ⟨some 119, .call ⟨.value (.func 11), #[], #[]⟩, some (118, true)⟩,
            ⟨some 120, .pick (.tmp 118) (.tmp 119) (.const (.bool false)), none⟩,
            ⟨some 4, .assign (.tmp 120), none⟩] [])
          .ret)))))))))
theorem TryL3_ok : Try.f3.body.bind (light Try.f3.ntmps) = some TryL3 := rfl

def TryL4 : LC :=
 (.seq
  (.reg false [
    ⟨some 1, .box 28 (.tmp 0), none⟩,
    ⟨some 2, .assign (.const (.bool false)), none⟩] [])
  (.seq
   (.seq
    (.reg false [
      ⟨some 3, .fieldAddr 28 (.tmp 1) 2, none⟩,
      ⟨some 4, .load 25 (.tmp 3), none⟩,
      ⟨some 5, .call ⟨.value (.func 10), #[(.tmp 4)], #[25]⟩, none⟩,
      ⟨some 6, .unOp .not 4 (.tmp 5), none⟩,
      ⟨some 7, .move (.tmp 6), none⟩,
      ⟨some 8, .fieldAddr 28 (.tmp 1) 3, some (7, false)⟩,
      ⟨some 9, .load 26 (.tmp 8), some (7, false)⟩,
      ⟨some 10, .call ⟨.builtin .len, #[(.tmp 9)], #[26]⟩, some (7, false)⟩,
      ⟨some 11, .binOp .gtr 3 (.tmp 10) (.const (.int .i64 100)) 3, some (7, false)⟩,
      ⟨some 12, .pick (.tmp 7) (.const (.bool true)) (.tmp 11), none⟩] [])
    (.cond (.tmp 12)
     (.seq
      (.reg false [
        ⟨some 13, .call ⟨.value (.func 11), #[], #[]⟩, none⟩,
        ⟨some 2, .assign (.tmp 13), none⟩] [])
      .ret)
     .skip))
   (.seq
    (.reg true [
      ⟨some 14, .load 28 (.tmp 1), none⟩,
      ⟨some 15, .call ⟨.value (.func 21), #[(.tmp 14)], #[28]⟩, none⟩,
      ⟨some 16, .load 28 (.tmp 1), none⟩,
      ⟨some 17, .call ⟨.value (.func 22), #[(.tmp 16)], #[28]⟩, none⟩,
      ⟨some 18, .call ⟨.value (.func 20), #[(.tmp 15), (.tmp 17)], #[43, 43]⟩, none⟩,
      ⟨some 19, .move (.tmp 18), none⟩,
      ⟨some 20, .load 28 (.tmp 1), some (19, true)⟩,
      ⟨some 21, .call ⟨.value (.func 24), #[(.tmp 20)], #[28]⟩, some (19, true)⟩,
      ⟨some 22, .load 28 (.tmp 1), some (19, true)⟩,
      ⟨some 23, .call ⟨.value (.func 25), #[(.tmp 22)], #[28]⟩, some (19, true)⟩,
      ⟨some 24, .call ⟨.value (.func 23), #[(.tmp 21), (.tmp 23)], #[48, 48]⟩, some (19, true)⟩,
      ⟨some 25, .pick (.tmp 19) (.tmp 24) (.const (.bool false)), none⟩,
      ⟨some 26, .move (.tmp 25), none⟩,
      ⟨some 27, .load 28 (.tmp 1), some (26, true)⟩,
      ⟨some 28, .call ⟨.value (.func 26), #[(.tmp 27)], #[28]⟩, some (26, true)⟩,
      ⟨some 29, .load 28 (.tmp 1), some (26, true)⟩,
      ⟨some 30, .call ⟨.value (.func 27), #[(.tmp 29)], #[28]⟩, some (26, true)⟩,
      ⟨some 31, .call ⟨.value (.func 20), #[(.tmp 28), (.tmp 30)], #[43, 43]⟩, some (26, true)⟩,
      ⟨some 32, .pick (.tmp 26) (.tmp 31) (.const (.bool false)), none⟩,
      ⟨some 33, .move (.tmp 32), none⟩,
      ⟨some 34, .load 28 (.tmp 1), some (33, true)⟩,
      ⟨some 35, .call ⟨.value (.func 28), #[(.tmp 34)], #[28]⟩, some (33, true)⟩,
      ⟨some 36, .load 28 (.tmp 1), some (33, true)⟩,
      ⟨some 37, .call ⟨.value (.func 29), #[(.tmp 36)], #[28]⟩, some (33, true)⟩,
      ⟨some 38, .binOp .eql 4 (.tmp 35) (.tmp 37) 4, some (33, true)⟩,
      ⟨some 39, .pick (.tmp 33) (.tmp 38) (.const (.bool false)), none⟩,
      ⟨some 40, .move (.tmp 39), none⟩,
      ⟨some 41, .call ⟨.value (.func 11), #[], #[]⟩, some (40, true)⟩,
      ⟨some 42, .pick (.tmp 40) (.tmp 41) (.const (.bool false)), none⟩,
      ⟨some 2, .assign (.tmp 42), none⟩] [(1, 2), (7, 8), (14, 15), (21, 22)])
    .ret)))
theorem TryL4_ok : Try.f4.body.bind (light Try.f4.ntmps) = some TryL4 := rfl

def TryL5 : LC :=
 (.seq
  (.reg false [
    ⟨some 2, .assign (.const (.bool false)), none⟩] [])
  (.seq
   (.reg false [
     ⟨some 10, .move (.tmp 0), none⟩,
     ⟨some 11, .move (.tmp 0), none⟩,
     ⟨some 12, .call ⟨.builtin .len, #[(.tmp 11)], #[50]⟩, none⟩,
     ⟨some 13, .call ⟨.builtin .min, #[(.tmp 12), (.const (.int .i64 402))], #[3, 3]⟩, none⟩,
     ⟨some 14, .slice 50 (.tmp 10) none (some (.tmp 13)) none, none⟩,
     ⟨some 0, .assign (.tmp 14), none⟩] [])
   (.seq
    (.seq
     (.reg false [
       ⟨some 3, .assign (.const (.int .i64 0)), none⟩] [])
     (.block 0
      (.loop
       (.seq
        (.seq
         (.reg false [
           ⟨some 15, .move (.tmp 3), none⟩,
           ⟨some 16, .move (.tmp 0), none⟩,
           ⟨some 17, .call ⟨.builtin .len, #[(.tmp 16)], #[50]⟩, none⟩,
           ⟨some 18, .binOp .lss 3 (.tmp 15) (.tmp 17) 3, none⟩] [])
         (.cond (.tmp 18)
          .skip
          (.exit 0)))
        (.seq
         (.block 1
          (.seq
           (.reg false [
             ⟨some 21, .move (.tmp 0), none⟩,
             ⟨some 22, .move (.tmp 3), none⟩,
             ⟨some 23, .indexAddr 50 (.tmp 21) (.tmp 22), none⟩,
             ⟨some 24, .fieldAddr 32 (.tmp 23) 5, none⟩,
             ⟨some 25, .load 25 (.tmp 24), none⟩,
             ⟨some 26, .call ⟨.value (.func 10), #[(.tmp 25)], #[25]⟩, none⟩,
             ⟨some 27, .unOp .not 4 (.tmp 26), none⟩] [])
           (.cond (.tmp 27)
            (.seq
             (.reg false [
               ⟨some 28, .call ⟨.value (.func 11), #[], #[]⟩, none⟩,
               ⟨some 2, .assign (.tmp 28), none⟩] [])
             .ret)
            .skip)))
         (.reg false [
           ⟨some 19, .move (.tmp 3), none⟩,
           ⟨some 20, .binOp .add 3 (.tmp 19) (.const (.int .i64 1)) 3, none⟩,
           ⟨some 3, .assign (.tmp 20), none⟩] []))))))
    (.seq
     (.reg false [
       ⟨some 30, .move (.tmp 0), none⟩,
       ⟨some 31, .call ⟨.value (.func 30), #[(.tmp 30)], #[50]⟩, none⟩,
       ⟨some 29, .move (.tmp 31), none⟩,
       ⟨some 32, .extract (.tmp 29) 0, none⟩,
       ⟨some 33, .extract (.tmp 29) 1, none⟩,
       ⟨some 34, .extract (.tmp 29) 2, none⟩,
       ⟨some 4, .alloc 28, none⟩,
       ⟨none, .store 28 (.tmp 4) (.tmp 32), none⟩,
       ⟨some 5, .assign (.tmp 33), none⟩,
       ⟨some 6, .assign (.tmp 34), none⟩] [])
     (.seq
      (.reg false [
        ⟨some 36, .move (.tmp 0), none⟩,
        ⟨some 37, .call ⟨.value (.func 31), #[(.tmp 36)], #[50]⟩, none⟩,
        ⟨some 35, .move (.tmp 37), none⟩,
        ⟨some 38, .extract (.tmp 35) 0, none⟩,
        ⟨some 39, .extract (.tmp 35) 1, none⟩,
        ⟨some 40, .extract (.tmp 35) 2, none⟩,
        ⟨some 7, .alloc 28, none⟩,
        ⟨none, .store 28 (.tmp 7) (.tmp 38), none⟩,
        ⟨some 8, .assign (.tmp 39), none⟩,
        ⟨some 9, .assign (.tmp 40), none⟩] [])
      (.seq
       (.reg false [
         ⟨some 41, .call ⟨.value (.func 32), #[], #[]⟩, none⟩,
         ⟨some 42, .call ⟨.value (.func 33), #[], #[]⟩, none⟩,
         ⟨some 43, .call ⟨.value (.func 15), #[(.tmp 41), (.tmp 42)], #[28, 28]⟩, none⟩,
         ⟨some 44, .move (.tmp 43), none⟩,
         ⟨some 45, .load 28 (.tmp 4), some (44, true)⟩,
         ⟨some 46, .load 28 (.tmp 7), some (44, true)⟩,
         ⟨some 47, .call ⟨.value (.func 15), #[(.tmp 45), (.tmp 46)], #[28, 28]⟩, some (44, true)⟩,
         ⟨some 48, .pick (.tmp 44) (.tmp 47) (.const (.bool false)), none⟩,
         ⟨some 49, .move (.tmp 48), none⟩,
         ⟨some 50, .move (.tmp 5), some (49, true)⟩,
         ⟨some 51, .move (.tmp 8), some (49, true)⟩,
         ⟨some 52, .binOp .eql 3 (.tmp 50) (.tmp 51) 3, some (49, true)⟩,
         ⟨some 53, .pick (.tmp 49) (.tmp 52) (.const (.bool false)), none⟩,
         ⟨some 54, .move (.tmp 53), none⟩,
         ⟨some 55, .move (.tmp 6), some (54, true)⟩,
         ⟨some 56, .move (.tmp 9), some (54, true)⟩,
         ⟨some 57, .binOp .eql 36 (.tmp 55) (.tmp 56) 36, some (54, true)⟩,
         ⟨some 58, .pick (.tmp 54) (.tmp 57) (.const (.bool false)), none⟩,
         ⟨some 59, .move (.tmp 58), none⟩,
         ⟨some 60, .call ⟨.value (.func 11), #[], #[]⟩, some (59, true)⟩,
         ⟨some 61, .pick (.tmp 59) (.tmp 60) (.const (.bool false)), none⟩,
         ⟨some 2, .assign (.tmp 61), none⟩] [])
       .ret))))))
theorem TryL5_ok : Try.f5.body.bind (light Try.f5.ntmps) = some TryL5 := rfl

def TryL6 : LC :=
 (.seq
  (.reg false [
    ⟨some 2, .assign (.const (.bool false)), none⟩] [])
  (.seq
   (.reg false [
     ⟨some 8, .call ⟨.value (.func 32), #[], #[]⟩, none⟩,
     ⟨some 3, .alloc 28, none⟩,
     ⟨none, .store 28 (.tmp 3) (.tmp 8), none⟩] [])
   (.seq
    (.seq
     (.reg false [
       ⟨some 4, .assign (.const (.int .i64 0)), none⟩] [])
     (.block 0
      (.loop
       (.seq
        (.seq
         (.reg false [
           ⟨some 9, .move (.tmp 4), none⟩,
           ⟨some 10, .move (.tmp 0), none⟩,
           ⟨some 11, .call ⟨.builtin .len, #[(.tmp 10)], #[55]⟩, none⟩,
           ⟨some 12, .binOp .lss 3 (.tmp 9) (.tmp 11) 3, none⟩,
           ⟨some 13, .move (.tmp 12), none⟩,
           ⟨some 14, .move (.tmp 4), some (13, true)⟩,
           ⟨some 15, .binOp .lss 3 (.tmp 14) (.const (.int .i64 60)) 3, some (13, true)⟩,
           ⟨some 16, .pick (.tmp 13) (.tmp 15) (.const (.bool false)), none⟩] [])
         (.cond (.tmp 16)
          .skip
          (.exit 0)))
        (.seq
         (.block 1
          (.seq
           (.reg true [
             ⟨some 20, .load 28 (.tmp 3), none⟩,
             ⟨some 21, .move (.tmp 0), none⟩,
             ⟨some 22, .move (.tmp 4), none⟩,
             ⟨some 23, .indexAddr 55 (.tmp 21) (.tmp 22), none⟩,
             ⟨some 24, .load 59 (.tmp 23), none⟩,
             ⟨some 25, .call ⟨.value (.func 34), #[(.tmp 20), (.tmp 24)], #[28, 59]⟩, none⟩,
             ⟨some 19, .move (.tmp 25), none⟩,
             ⟨some 26, .extract (.tmp 19) 0, none⟩,
             ⟨some 27, .extract (.tmp 19) 1, none⟩,
             ⟨some 28, .extract (.tmp 19) 2, none⟩,
             ⟨none, .store 28 (.tmp 3) (.tmp 26), none⟩] [])
           (.seq
            (.reg false [
              ⟨some 29, .load 28 (.tmp 3), none⟩,
              ⟨some 30, .call ⟨.value (.func 26), #[(.tmp 29)], #[28]⟩, none⟩,
              ⟨some 5, .assign (.tmp 30), none⟩] [])
            (.seq
             (.seq
              (.reg false [
                ⟨some 31, .fieldAddr 28 (.tmp 3) 3, none⟩,
                ⟨some 32, .load 26 (.tmp 31), none⟩,
                ⟨some 33, .call ⟨.builtin .len, #[(.tmp 32)], #[26]⟩, none⟩,
                ⟨some 34, .fieldAddr 28 (.tmp 3) 2, none⟩,
                ⟨some 35, .fieldAddr 25 (.tmp 34) 1, none⟩,
                ⟨some 36, .load 23 (.tmp 35), none⟩,
                ⟨some 37, .call ⟨.builtin .len, #[(.tmp 36)], #[23]⟩, none⟩,
                ⟨some 38, .binOp .neq 3 (.tmp 33) (.tmp 37) 3, none⟩] [])
              (.cond (.tmp 38)
               (.seq
                (.reg false [
                  ⟨some 2, .assign (.const (.bool false)), none⟩] [])
                .ret)
               .skip))
             (.seq
              (.reg false [
                ⟨some 6, .assign (.const (.int .i64 0)), none⟩] [])
              (.block 2
               (.loop
                (.seq
                 (.seq
                  (.reg false [
                    ⟨some 39, .move (.tmp 6), none⟩,
                    ⟨some 40, .fieldAddr 28 (.tmp 3) 3, none⟩,
                    ⟨some 41, .load 26 (.tmp 40), none⟩,
                    ⟨some 42, .call ⟨.builtin .len, #[(.tmp 41)], #[26]⟩, none⟩,
                    ⟨some 43, .binOp .lss 3 (.tmp 39) (.tmp 42) 3, none⟩] [])
                  (.cond (.tmp 43)
                   .skip
                   (.exit 2)))
                 (.seq
                  (.block 3
                   (.seq
                    (.reg false [
                      ⟨some 7, .assign (.const (.int .i64 0)), none⟩] [])
                    (.block 4
                     (.loop
                      (.seq
                       (.seq
                        (.reg false [
                          ⟨some 46, .move (.tmp 7), none⟩,
                          ⟨some 47, .fieldAddr 28 (.tmp 3) 2, none⟩,
                          ⟨some 48, .fieldAddr 25 (.tmp 47) 1, none⟩,
                          ⟨some 49, .load 23 (.tmp 48), none⟩,
                          ⟨some 50, .move (.tmp 6), none⟩,
                          ⟨some 51, .indexAddr 23 (.tmp 49) (.tmp 50), none⟩,
                          ⟨some 52, .load 43 (.tmp 51), none⟩,
                          ⟨some 53, .call ⟨.builtin .len, #[(.tmp 52)], #[43]⟩, none⟩,
                          ⟨some 54, .binOp .lss 3 (.tmp 46) (.tmp 53) 3, none⟩,
                          ⟨some 55, .move (.tmp 54), none⟩,
                          ⟨some 56, .fieldAddr 28 (.tmp 3) 3, some (55, true)⟩,
                          ⟨some 57, .load 26 (.tmp 56), some (55, true)⟩,
                          ⟨some 58, .move (.tmp 6), some (55, true)⟩,
                          ⟨some 59, .indexAddr 26 (.tmp 57) (.tmp 58), some (55, true)⟩,
                          ⟨some 60, .fieldAddr 42 (.tmp 59) 0, some (55, true)⟩,
                          ⟨some 61, .load 3 (.tmp 60), some (55, true)⟩,
                          ⟨some 62, .binOp .neq 3 (.tmp 61) (.const (.int .i64 0)) 3, some (55, true)⟩,
                          ⟨some 63, .pick (.tmp 55) (.tmp 62) (.const (.bool false)), none⟩] [])
                        (.cond (.tmp 63)
                         .skip
                         (.exit 4)))
                       (.seq
                        (.block 5
                         (.seq
                          (.reg false [
                            ⟨some 66, .move (.tmp 5), none⟩,
                            ⟨some 67, .fieldAddr 28 (.tmp 3) 2, none⟩,
                            ⟨some 68, .fieldAddr 25 (.tmp 67) 1, none⟩,
                            ⟨some 69, .load 23 (.tmp 68), none⟩,
                            ⟨some 70, .move (.tmp 6), none⟩,
                            ⟨some 71, .indexAddr 23 (.tmp 69) (.tmp 70), none⟩,
                            ⟨some 72, .load 43 (.tmp 71), none⟩,
                            ⟨some 73, .move (.tmp 7), none⟩,
                            ⟨some 74, .indexAddr 43 (.tmp 72) (.tmp 73), none⟩,
                            ⟨some 75, .load 3 (.tmp 74), none⟩,
                            ⟨some 76, .call ⟨.value (.func 35), #[(.tmp 66), (.tmp 75)], #[43, 3]⟩, none⟩,
                            ⟨some 77, .unOp .not 4 (.tmp 76), none⟩] [])
                          (.cond (.tmp 77)
                           (.seq
                            (.reg false [
                              ⟨some 2, .assign (.const (.bool false)), none⟩] [])
                            .ret)
                           .skip)))
                        (.reg false [
                          ⟨some 64, .move (.tmp 7), none⟩,
                          ⟨some 65, .binOp .add 3 (.tmp 64) (.const (.int .i64 1)) 3, none⟩,
                          ⟨some 7, .assign (.tmp 65), none⟩] [])))))))
                  (.reg false [
                    ⟨some 44, .move (.tmp 6), none⟩,
                    ⟨some 45, .binOp .add 3 (.tmp 44) (.const (.int .i64 1)) 3, none⟩,
                    ⟨some 6, .assign (.tmp 45), none⟩] []))))))))))
         (.reg false [
           ⟨some 17, .move (.tmp 4), none⟩,
           ⟨some 18, .binOp .add 3 (.tmp 17) (.const (.int .i64 1)) 3, none⟩,
           ⟨some 4, .assign (.tmp 18), none⟩] []))))))
    (.seq
     (.reg false [
       ⟨some 78, .call ⟨.value (.func 11), #[], #[]⟩, none⟩,
       ⟨some 2, .assign (.tmp 78), none⟩] [])
     .ret))))
theorem TryL6_ok : Try.f6.body.bind (light Try.f6.ntmps) = some TryL6 := rfl

def TryL7 : LC :=
 (.seq
  (.reg false [
    ⟨some 2, .assign (.const (.bool false)), none⟩] [])
  (.seq
   (.reg false [
     ⟨some 13, .call ⟨.value (.func 32), #[], #[]⟩, none⟩,
     ⟨some 3, .alloc 28, none⟩,
     ⟨none, .store 28 (.tmp 3) (.tmp 13), none⟩] [])
   (.seq
    (.reg false [
      ⟨some 4, .assign (.const (.int .i64 0)), none⟩] [])
    (.seq
     (.reg false [
       ⟨some 5, .assign (.const (.slice none 0 0)), none⟩] [])
     (.seq
      (.seq
       (.reg false [
         ⟨some 6, .assign (.const (.int .i64 0)), none⟩] [])
       (.block 0
        (.loop
         (.seq
          (.seq
           (.reg false [
             ⟨some 14, .move (.tmp 6), none⟩,
             ⟨some 15, .move (.tmp 0), none⟩,
             ⟨some 16, .call ⟨.builtin .len, #[(.tmp 15)], #[55]⟩, none⟩,
             ⟨some 17, .binOp .lss 3 (.tmp 14) (.tmp 16) 3, none⟩,
             ⟨some 18, .move (.tmp 17), none⟩,
             ⟨some 19, .move (.tmp 6), some (18, true)⟩,
             ⟨some 20, .binOp .lss 3 (.tmp 19) (.const (.int .i64 80)) 3, some (18, true)⟩,
             ⟨some 21, .pick (.tmp 18) (.tmp 20) (.const (.bool false)), none⟩] [])
           (.cond (.tmp 21)
            .skip
            (.exit 0)))
          (.seq
           (.block 1
            (.seq
             (.reg true [
               ⟨some 25, .load 28 (.tmp 3), none⟩,
               ⟨some 26, .move (.tmp 0), none⟩,
               ⟨some 27, .move (.tmp 6), none⟩,
               ⟨some 28, .indexAddr 55 (.tmp 26) (.tmp 27), none⟩,
               ⟨some 29, .load 59 (.tmp 28), none⟩,
               ⟨some 30, .call ⟨.value (.func 34), #[(.tmp 25), (.tmp 29)], #[28, 59]⟩, none⟩,
               ⟨some 24, .move (.tmp 30), none⟩,
               ⟨some 31, .extract (.tmp 24) 0, none⟩,
               ⟨some 32, .extract (.tmp 24) 1, none⟩,
               ⟨some 33, .extract (.tmp 24) 2, none⟩,
               ⟨some 7, .alloc 28, none⟩,
               ⟨some 8, .alloc 32, none⟩,
               ⟨none, .store 28 (.tmp 7) (.tmp 31), none⟩,
               ⟨none, .store 32 (.tmp 8) (.tmp 32), none⟩,
               ⟨some 9, .assign (.tmp 33), none⟩] [(0, 10), (3, 10), (4, 10), (5, 10), (0, 11), (3, 11), (4, 11), (5, 11), (10, 11)])
             (.seq
              (.reg false [
                ⟨some 34, .load 28 (.tmp 7), none⟩,
                ⟨none, .store 28 (.tmp 3) (.tmp 34), none⟩] [])
              (.seq
               (.seq
                (.reg false [
                  ⟨some 35, .move (.tmp 9), none⟩,
                  ⟨some 36, .move (.tmp 35), none⟩,
                  ⟨some 37, .fieldAddr 32 (.tmp 8) 0, some (36, true)⟩,
                  ⟨some 38, .load 29 (.tmp 37), some (36, true)⟩,
                  ⟨some 39, .binOp .eql 29 (.tmp 38) (.const (.int .u8 2)) 29, some (36, true)⟩,
                  ⟨some 40, .pick (.tmp 36) (.tmp 39) (.const (.bool false)), none⟩] [])
                (.cond (.tmp 40)
                 (.seq
                  (.reg false [
                    ⟨some 41, .move (.tmp 4), none⟩,
                    ⟨some 42, .binOp .add 3 (.tmp 41) (.const (.int .i64 1)) 3, none⟩,
                    ⟨some 4, .assign (.tmp 42), none⟩] [])
                  (.seq
                   (.reg false [
                     ⟨some 43, .fieldAddr 32 (.tmp 8) 2, none⟩,
                     ⟨some 44, .load 3 (.tmp 43), none⟩,
                     ⟨some 45, .move (.tmp 4), none⟩,
                     ⟨some 46, .binOp .neq 3 (.tmp 44) (.tmp 45) 3, none⟩] [])
                   (.cond (.tmp 46)
                    (.seq
                     (.reg false [
                       ⟨some 2, .assign (.const (.bool false)), none⟩] [])
                     .ret)
                    .skip)))
                 .skip))
               (.seq
                (.seq
                 (.reg false [
                   ⟨some 47, .move (.tmp 9), none⟩,
                   ⟨some 48, .move (.tmp 47), none⟩,
                   ⟨some 49, .fieldAddr 32 (.tmp 8) 0, some (48, true)⟩,
                   ⟨some 50, .load 29 (.tmp 49), some (48, true)⟩,
                   ⟨some 51, .binOp .eql 29 (.tmp 50) (.const (.int .u8 3)) 29, some (48, true)⟩,
                   ⟨some 52, .pick (.tmp 48) (.tmp 51) (.const (.bool false)), none⟩] [])
                 (.cond (.tmp 52)
                  (.seq
                   (.seq
                    (.reg false [
                      ⟨some 53, .move (.tmp 5), none⟩,
                      ⟨some 54, .fieldAddr 32 (.tmp 8) 2, none⟩,
                      ⟨some 55, .load 3 (.tmp 54), none⟩,
                      ⟨some 56, .call ⟨.value (.func 35), #[(.tmp 53), (.tmp 55)], #[43, 3]⟩, none⟩] [])
                    (.cond (.tmp 56)
                     (.seq
                      (.reg false [
                        ⟨some 2, .assign (.const (.bool false)), none⟩] [])
                      .ret)
                     .skip))
                   (.reg false [
                     ⟨some 57, .move (.tmp 5), none⟩,
                     ⟨some 58, .fieldAddr 32 (.tmp 8) 2, none⟩,
                     ⟨some 59, .load 3 (.tmp 58), none⟩,
                     ⟨some 60, .buildSlice 43 1 #[(0, (.tmp 59))], none⟩,
                     ⟨some 61, .call ⟨.builtin .append, #[(.tmp 57), (.tmp 60)], #[43, 43]⟩, none⟩,
                     ⟨some 5, .assign (.tmp 61), none⟩] []))
                  .skip))
                (.seq
                 (.seq
                  (.reg false [
                    ⟨some 62, .move (.tmp 9), none⟩,
                    ⟨some 63, .move (.tmp 62), none⟩,
                    ⟨some 64, .fieldAddr 32 (.tmp 8) 0, some (63, true)⟩,
                    ⟨some 65, .load 29 (.tmp 64), some (63, true)⟩,
                    ⟨some 66, .binOp .eql 29 (.tmp 65) (.const (.int .u8 5)) 29, some (63, true)⟩,
                    ⟨some 67, .pick (.tmp 63) (.tmp 66) (.const (.bool false)), none⟩] [])
                  (.cond (.tmp 67)
                   (.seq
                    (.reg false [
                      ⟨some 10, .assign (.const (.int .i64 1)), none⟩] [])
                    (.block 2
                     (.loop
                      (.seq
                       (.seq
                        (.reg false [
                          ⟨some 68, .move (.tmp 10), none⟩,
                          ⟨some 69, .move (.tmp 4), none⟩,
                          ⟨some 70, .binOp .leq 3 (.tmp 68) (.tmp 69) 3, none⟩] [])
                        (.cond (.tmp 70)
                         .skip
                         (.exit 2)))
                       (.seq
                        (.block 3
                         (.reg false [
                           ⟨some 73, .move (.tmp 5), none⟩,
                           ⟨some 74, .move (.tmp 10), none⟩,
                           ⟨some 75, .buildSlice 43 1 #[(0, (.tmp 74))], none⟩,
                           ⟨some 76, .call ⟨.builtin .append, #[(.tmp 73), (.tmp 75)], #[43, 43]⟩, none⟩,
                           ⟨some 5, .assign (.tmp 76), none⟩] []))
                        (.reg false [
                          ⟨some 71, .move (.tmp 10), none⟩,
                          ⟨some 72, .binOp .add 3 (.tmp 71) (.const (.int .i64 1)) 3, none⟩,
                          ⟨some 10, .assign (.tmp 72), none⟩] []))))))
                   .skip))
                 (.seq
                  (.reg false [
                    ⟨some 77, .load 28 (.tmp 3), none⟩,
                    ⟨some 78, .call ⟨.value (.func 24), #[(.tmp 77)], #[28]⟩, none⟩,
                    ⟨some 11, .assign (.tmp 78), none⟩] [])
                  (.seq
                   (.reg false [
                     ⟨some 12, .assign (.const (.int .i64 0)), none⟩] [])
                   (.block 4
                    (.loop
                     (.seq
                      (.seq
                       (.reg false [
                         ⟨some 79, .move (.tmp 12), none⟩,
                         ⟨some 80, .move (.tmp 11), none⟩,
                         ⟨some 81, .call ⟨.builtin .len, #[(.tmp 80)], #[48]⟩, none⟩,
                         ⟨some 82, .binOp .lss 3 (.tmp 79) (.tmp 81) 3, none⟩] [])
                       (.cond (.tmp 82)
                        .skip
                        (.exit 4)))
                      (.seq
                       (.block 5
                        (.seq
                         (.reg false [
                           ⟨some 85, .move (.tmp 5), none⟩,
                           ⟨some 86, .move (.tmp 11), none⟩,
                           ⟨some 87, .move (.tmp 12), none⟩,
                           ⟨some 88, .indexAddr 48 (.tmp 86) (.tmp 87), none⟩,
                           ⟨some 89, .fieldAddr 66 (.tmp 88) 0, none⟩,
                           ⟨some 90, .load 3 (.tmp 89), none⟩,
                           ⟨some 91, .call ⟨.value (.func 35), #[(.tmp 85), (.tmp 90)], #[43, 3]⟩, none⟩,
                           ⟨some 92, .move (.tmp 91), none⟩,
                           ⟨some 93, .move (.tmp 11), some (92, false)⟩,
                           ⟨some 94, .move (.tmp 12), some (92, false)⟩,
                           ⟨some 95, .indexAddr 48 (.tmp 93) (.tmp 94), some (92, false)⟩,
                           ⟨some 96, .fieldAddr 66 (.tmp 95) 0, some (92, false)⟩,
                           ⟨some 97, .load 3 (.tmp 96), some (92, false)⟩,
                           ⟨some 98, .move (.tmp 4), some (92, false)⟩,
                           ⟨some 99, .binOp .gtr 3 (.tmp 97) (.tmp 98) 3, some (92, false)⟩,
                           ⟨some 100, .pick (.tmp 92) (.const (.bool true)) (.tmp 99), none⟩,
                           ⟨some 101, .move (.tmp 100), none⟩,
                           ⟨some 102, .move (.tmp 11), some (101, false)⟩,
                           ⟨some 103, .move (.tmp 12), some (101, false)⟩,
                           ⟨some 104, .indexAddr 48 (.tmp 102) (.tmp 103), some (101, false)⟩,
                           ⟨some 105, .fieldAddr 66 (.tmp 104) 0, some (101, false)⟩,
                           ⟨some 106, .load 3 (.tmp 105), some (101, false)⟩,
                           ⟨some 107, .binOp .lss 3 (.tmp 106) (.const (.int .i64 1)) 3, some (101, false)⟩,
                           ⟨some 108, .pick (.tmp 101) (.const (.bool true)) (.tmp 107), none⟩] [])
                         (.cond (.tmp 108)
                          (.seq
                           (.reg false [
                             ⟨some 2, .assign (.const (.bool false)), none⟩] [])
                           .ret)
                          .skip)))
                       (.reg false [
                         ⟨some 83, .move (.tmp 12), none⟩,
                         ⟨some 84, .binOp .add 3 (.tmp 83) (.const (.int .i64 1)) 3, none⟩,
                         ⟨some 12, .assign (.tmp 84), none⟩] [])))))))))))))
           (.reg false [
             ⟨some 22, .move (.tmp 6), none⟩,
             ⟨some 23, .binOp .add 3 (.tmp 22) (.const (.int .i64 1)) 3, none⟩,
             ⟨some 6, .assign (.tmp 23), none⟩] []))))))
      (.seq
       (.reg false [
         ⟨some 109, .fieldAddr 28 (.tmp 3) 4, none⟩,
         ⟨some 110, .load 3 (.tmp 109), none⟩,
         ⟨some 111, .move (.tmp 4), none⟩,
         ⟨some 112, .binOp .add 3 (.tmp 111) (.const (.int .i64 1)) 3, none⟩,
         ⟨some 113, .binOp .eql 3 (.tmp 110) (.tmp 112) 3, none⟩,
         ⟨some 114, .move (.tmp 113), none⟩,
         ⟨some 115, .call ⟨.value (.func 11), #[], #[]⟩, some (114, true)⟩,
         ⟨some 116, .pick (.tmp 114) (.tmp 115) (.const (.bool false)), none⟩,
         ⟨some 2, .assign (.tmp 116), none⟩] [])
       .ret))))))
theorem TryL7_ok : Try.f7.body.bind (light Try.f7.ntmps) = some TryL7 := rfl

def TryL8 : LC :=
 (.seq
  (.reg false [
    ⟨some 2, .assign (.const (.bool false)), none⟩] [])
  (.seq
   (.reg false [
     ⟨some 13, .call ⟨.value (.func 32), #[], #[]⟩, none⟩,
     ⟨some 3, .alloc 28, none⟩,
     ⟨none, .store 28 (.tmp 3) (.tmp 13), none⟩] [])
   (.seq
    (.seq
     (.reg false [
       ⟨some 4, .assign (.const (.int .i64 0)), none⟩] [])
     (.block 0
      (.loop
       (.seq
        (.seq
         (.reg false [
           ⟨some 14, .move (.tmp 4), none⟩,
           ⟨some 15, .move (.tmp 0), none⟩,
           ⟨some 16, .call ⟨.builtin .len, #[(.tmp 15)], #[55]⟩, none⟩,
           ⟨some 17, .binOp .lss 3 (.tmp 14) (.tmp 16) 3, none⟩,
           ⟨some 18, .move (.tmp 17), none⟩,
           ⟨some 19, .move (.tmp 4), some (18, true)⟩,
           ⟨some 20, .binOp .lss 3 (.tmp 19) (.const (.int .i64 60)) 3, some (18, true)⟩,
           ⟨some 21, .pick (.tmp 18) (.tmp 20) (.const (.bool false)), none⟩] [])
         (.cond (.tmp 21)
          .skip
          (.exit 0)))
        (.seq
         (.block 1
          (.seq
           (.reg true [
             ⟨some 25, .load 28 (.tmp 3), none⟩,
             ⟨some 26, .move (.tmp 0), none⟩,
             ⟨some 27, .move (.tmp 4), none⟩,
             ⟨some 28, .indexAddr 55 (.tmp 26) (.tmp 27), none⟩,
             ⟨some 29, .load 59 (.tmp 28), none⟩,
             ⟨some 30, .call ⟨.value (.func 34), #[(.tmp 25), (.tmp 29)], #[28, 59]⟩, none⟩,
             ⟨some 24, .move (.tmp 30), none⟩,
             ⟨some 31, .extract (.tmp 24) 0, none⟩,
             ⟨some 32, .extract (.tmp 24) 1, none⟩,
             ⟨some 33, .extract (.tmp 24) 2, none⟩,
             ⟨none, .store 28 (.tmp 3) (.tmp 31), none⟩] [])
           (.seq
            (.reg false [
              ⟨some 35, .load 28 (.tmp 3), none⟩,
              ⟨some 36, .build 32 #[(0, (.const (.int .u8 5)))], none⟩,
              ⟨some 37, .call ⟨.value (.func 13), #[(.tmp 35), (.tmp 36)], #[28, 32]⟩, none⟩,
              ⟨some 34, .move (.tmp 37), none⟩,
              ⟨some 38, .extract (.tmp 34) 0, none⟩,
              ⟨some 39, .extract (.tmp 34) 1, none⟩,
              ⟨some 5, .alloc 28, none⟩,
              ⟨none, .store 28 (.tmp 5) (.tmp 38), none⟩,
              ⟨some 6, .assign (.tmp 39), none⟩] [])
            (.seq
             (.reg false [
               ⟨some 40, .fieldAddr 28 (.tmp 3) 0, none⟩,
               ⟨some 41, .load 4 (.tmp 40), none⟩,
               ⟨some 42, .move (.tmp 41), none⟩,
               ⟨some 43, .load 28 (.tmp 3), some (42, true)⟩,
               ⟨some 44, .call ⟨.value (.func 21), #[(.tmp 43)], #[28]⟩, some (42, true)⟩,
               ⟨some 45, .call ⟨.builtin .len, #[(.tmp 44)], #[43]⟩, some (42, true)⟩,
               ⟨some 46, .binOp .eql 3 (.tmp 45) (.const (.int .i64 0)) 3, some (42, true)⟩,
               ⟨some 47, .pick (.tmp 42) (.tmp 46) (.const (.bool false)), none⟩,
               ⟨some 48, .move (.tmp 47), none⟩,
               ⟨some 49, .load 28 (.tmp 3), some (48, true)⟩,
               ⟨some 50, .call ⟨.value (.func 24), #[(.tmp 49)], #[28]⟩, some (48, true)⟩,
               ⟨some 51, .call ⟨.builtin .len, #[(.tmp 50)], #[48]⟩, some (48, true)⟩,
               ⟨some 52, .binOp .eql 3 (.tmp 51) (.const (.int .i64 0)) 3, some (48, true)⟩,
               ⟨some 53, .pick (.tmp 48) (.tmp 52) (.const (.bool false)), none⟩,
               ⟨some 54, .move (.tmp 53), none⟩,
               ⟨some 55, .move (.tmp 6), some (54, true)⟩,
               ⟨some 56, .binOp .neq 36 (.tmp 55) (.const (.int .i64 0)) 36, some (54, true)⟩,
               ⟨some 57, .pick (.tmp 54) (.tmp 56) (.const (.bool false)), none⟩] [])
             (.cond (.tmp 57)
              (.seq
               (.reg false [
                 ⟨some 2, .assign (.const (.bool false)), none⟩] [])
               .ret)
              .skip)))))
         (.reg false [
           ⟨some 22, .move (.tmp 4), none⟩,
           ⟨some 23, .binOp .add 3 (.tmp 22) (.const (.int .i64 1)) 3, none⟩,
           ⟨some 4, .assign (.tmp 23), none⟩] []))))))
    (.seq
     (.seq
      (.reg false [
        ⟨some 7, .assign (.const (.int .i64 0)), none⟩] [])
      (.block 2
       (.loop
        (.seq
         (.seq
          (.reg false [
            ⟨some 58, .move (.tmp 7), none⟩,
            ⟨some 59, .binOp .lss 3 (.tmp 58) (.const (.int .i64 40)) 3, none⟩,
            ⟨some 60, .move (.tmp 59), none⟩,
            ⟨some 61, .fieldAddr 28 (.tmp 3) 0, some (60, true)⟩,
            ⟨some 62, .load 4 (.tmp 61), some (60, true)⟩,
            ⟨some 63, .pick (.tmp 60) (.tmp 62) (.const (.bool false)), none⟩] [])
          (.cond (.tmp 63)
           .skip
           (.exit 2)))
         (.seq
          (.block 3
           (.seq
            (.reg true [
              ⟨some 66, .load 28 (.tmp 3), none⟩,
              ⟨some 67, .call ⟨.value (.func 21), #[(.tmp 66)], #[28]⟩, none⟩,
              ⟨some 68, .load 28 (.tmp 3), none⟩,
              ⟨some 69, .call ⟨.value (.func 24), #[(.tmp 68)], #[28]⟩, none⟩,
              ⟨some 8, .assign (.tmp 67), none⟩,
              ⟨some 9, .assign (.tmp 69), none⟩] [(1, 2)])
            (.seq
             (.reg false [
               ⟨some 70, .build 32 #[(0, (.const (.int .u8 5)))], none⟩,
               ⟨some 10, .alloc 32, none⟩,
               ⟨none, .store 32 (.tmp 10) (.tmp 70), none⟩] [])
             (.seq
              (.seq
               (.reg false [
                 ⟨some 71, .move (.tmp 8), none⟩,
                 ⟨some 72, .call ⟨.builtin .len, #[(.tmp 71)], #[43]⟩, none⟩,
                 ⟨some 73, .binOp .gtr 3 (.tmp 72) (.const (.int .i64 0)) 3, none⟩] [])
               (.cond (.tmp 73)
                (.reg true [
                  ⟨some 74, .move (.tmp 8), none⟩,
                  ⟨some 75, .indexAddr 43 (.tmp 74) (.const (.int .i64 0)), none⟩,
                  ⟨some 76, .load 3 (.tmp 75), none⟩,
                  ⟨some 77, .fieldAddr 28 (.tmp 3) 4, none⟩,
                  ⟨some 78, .load 3 (.tmp 77), none⟩,
                  ⟨some 79, .call ⟨.value (.func 36), #[(.tmp 76), (.tmp 78), (.const (.int .i64 0))], #[3, 3, 3]⟩, none⟩,
                  ⟨none, .store 32 (.tmp 10) (.tmp 79), none⟩] [])
                .skip))
              (.seq
               (.seq
                (.reg false [
                  ⟨some 80, .move (.tmp 9), none⟩,
                  ⟨some 81, .call ⟨.builtin .len, #[(.tmp 80)], #[48]⟩, none⟩,
                  ⟨some 82, .binOp .gtr 3 (.tmp 81) (.const (.int .i64 0)) 3, none⟩] [])
                (.cond (.tmp 82)
                 (.reg false [
                   ⟨some 83, .move (.tmp 9), none⟩,
                   ⟨some 84, .indexAddr 48 (.tmp 83) (.const (.int .i64 0)), none⟩,
                   ⟨some 85, .fieldAddr 66 (.tmp 84) 0, none⟩,
                   ⟨some 86, .load 3 (.tmp 85), none⟩,
                   ⟨some 87, .call ⟨.value (.func 37), #[(.tmp 86), (.const (.int .u8 1))], #[3, 30]⟩, none⟩,
                   ⟨none, .store 32 (.tmp 10) (.tmp 87), none⟩] [])
                 .skip))
               (.seq
                (.reg false [
                  ⟨some 89, .load 28 (.tmp 3), none⟩,
                  ⟨some 90, .load 32 (.tmp 10), none⟩,
                  ⟨some 91, .call ⟨.value (.func 13), #[(.tmp 89), (.tmp 90)], #[28, 32]⟩, none⟩,
                  ⟨some 88, .move (.tmp 91), none⟩,
                  ⟨some 92, .extract (.tmp 88) 0, none⟩,
                  ⟨some 93, .extract (.tmp 88) 1, none⟩,
                  ⟨some 11, .alloc 28, none⟩,
                  ⟨none, .store 28 (.tmp 11) (.tmp 92), none⟩,
                  ⟨some 12, .assign (.tmp 93), none⟩] [])
                (.seq
                 (.seq
                  (.reg false [
                    ⟨some 94, .move (.tmp 12), none⟩,
                    ⟨some 95, .binOp .neq 36 (.tmp 94) (.const (.int .i64 0)) 36, none⟩] [])
                  (.cond (.tmp 95)
                   (.seq
                    (.reg false [
                      ⟨some 2, .assign (.const (.bool false)), none⟩] [])
                    .ret)
                   .skip))
                 (.reg false [
                   ⟨some 96, .load 28 (.tmp 11), none⟩,
                   ⟨none, .store 28 (.tmp 3) (.tmp 96), none⟩] []))))))))
          (.reg false [
            ⟨some 64, .move (.tmp 7), none⟩,
            ⟨some 65, .binOp .add 3 (.tmp 64) (.const (.int .i64 1)) 3, none⟩,
            ⟨some 7, .assign (.tmp 65), none⟩] []))))))
     (.seq
      (.reg false [
        ⟨some 97, .fieldAddr 28 (.tmp 3) 0, none⟩,
        ⟨some 98, .load 4 (.tmp 97), none⟩,
        ⟨some 99, .unOp .not 4 (.tmp 98), none⟩,
        ⟨some 100, .move (.tmp 99), none⟩,
        ⟨some 101, .fieldAddr 28 (.tmp 3) 1, some (100, true)⟩,
        ⟨some 102, .load 4 (.tmp 101), some (100, true)⟩,
        ⟨some 103, .move (.tmp 102), some (100, true)⟩,
        ⟨some 104, .load 28 (.tmp 3), some (103, false)⟩,
        ⟨some 105, .call ⟨.value (.func 28), #[(.tmp 104)], #[28]⟩, some (103, false)⟩,
        ⟨some 106, .pick (.tmp 103) (.const (.bool true)) (.tmp 105), some (100, true)⟩,
        ⟨some 107, .pick (.tmp 100) (.tmp 106) (.const (.bool false)), none⟩,
        ⟨some 108, .move (.tmp 107), none⟩,
        ⟨some 109, .call ⟨.value (.func 11), #[], #[]⟩, some (108, true)⟩,
        ⟨some 110, .pick (.tmp 108) (.tmp 109) (.const (.bool false)), none⟩,
        ⟨some 2, .assign (.tmp 110), none⟩] [])
      .ret)))))
theorem TryL8_ok : Try.f8.body.bind (light Try.f8.ntmps) = some TryL8 := rfl

def TryL9 : LC :=
 (.seq
  (.reg false [
    ⟨some 0, .assign (.const (.bool false)), none⟩] [])
  (.seq
   (.reg false [
     ⟨some 34, .call ⟨.value (.func 38), #[], #[]⟩, none⟩,
     ⟨some 35, .build 32 #[(0, (.const (.int .u8 1))), (5, (.tmp 34))], none⟩,
     ⟨some 1, .alloc 32, none⟩,
     ⟨none, .store 32 (.tmp 1) (.tmp 35), none⟩] [])
   (.seq
    (.reg false [
      ⟨some 37, .call ⟨.value (.func 30), #[(.const (.slice none 0 0))], #[50]⟩, none⟩,
      ⟨some 36, .move (.tmp 37), none⟩,
      ⟨some 38, .extract (.tmp 36) 0, none⟩,
      ⟨some 39, .extract (.tmp 36) 1, none⟩,
      ⟨some 40, .extract (.tmp 36) 2, none⟩,
      ⟨some 2, .alloc 28, none⟩,
      ⟨none, .store 28 (.tmp 2) (.tmp 38), none⟩,
      ⟨some 3, .assign (.tmp 39), none⟩,
      ⟨some 4, .assign (.tmp 40), none⟩] [])
    (.seq
     (.reg false [
       ⟨some 42, .load 32 (.tmp 1), none⟩,
       ⟨some 43, .buildSlice 50 1 #[(0, (.tmp 42))], none⟩,
       ⟨some 44, .call ⟨.value (.func 30), #[(.tmp 43)], #[50]⟩, none⟩,
       ⟨some 41, .move (.tmp 44), none⟩,
       ⟨some 45, .extract (.tmp 41) 0, none⟩,
       ⟨some 46, .extract (.tmp 41) 1, none⟩,
       ⟨some 47, .extract (.tmp 41) 2, none⟩,
       ⟨some 5, .alloc 28, none⟩,
       ⟨none, .store 28 (.tmp 5) (.tmp 45), none⟩,
       ⟨some 6, .assign (.tmp 46), none⟩,
       ⟨some 7, .assign (.tmp 47), none⟩] [])
     (.seq
      (.reg true [
        ⟨some 49, .load 32 (.tmp 1), none⟩,
        ⟨some 50, .call ⟨.value (.func 36), #[(.const (.int .i64 0)), (.const (.int .i64 1)), (.const (.int .i64 20))], #[3, 3, 3]⟩, none⟩,
        ⟨some 51, .buildSlice 50 2 #[(0, (.tmp 49)), (1, (.tmp 50))], none⟩,
        ⟨some 52, .call ⟨.value (.func 30), #[(.tmp 51)], #[50]⟩, none⟩,
        ⟨some 48, .move (.tmp 52), none⟩,
        ⟨some 53, .extract (.tmp 48) 0, none⟩,
        ⟨some 54, .extract (.tmp 48) 1, none⟩,
        ⟨some 55, .extract (.tmp 48) 2, none⟩,
        ⟨some 8, .alloc 28, none⟩,
        ⟨none, .store 28 (.tmp 8) (.tmp 53), none⟩,
        ⟨some 9, .assign (.tmp 54), none⟩,
        ⟨some 10, .assign (.tmp 55), none⟩] [(0, 1), (0, 8), (1, 8), (2, 8), (3, 8)])
      (.seq
       (.reg true [
         ⟨some 57, .load 32 (.tmp 1), none⟩,
         ⟨some 58, .call ⟨.value (.func 36), #[(.const (.int .i64 0)), (.const (.int .i64 1)), (.const (.int .i64 20))], #[3, 3, 3]⟩, none⟩,
         ⟨some 59, .call ⟨.value (.func 37), #[(.const (.int .i64 1)), (.const (.int .u8 2))], #[3, 30]⟩, none⟩,
         ⟨some 60, .buildSlice 50 3 #[(0, (.tmp 57)), (1, (.tmp 58)), (2, (.tmp 59))], none⟩,
         ⟨some 61, .call ⟨.value (.func 30), #[(.tmp 60)], #[50]⟩, none⟩,
         ⟨some 56, .move (.tmp 61), none⟩,
         ⟨some 62, .extract (.tmp 56) 0, none⟩,
         ⟨some 63, .extract (.tmp 56) 1, none⟩,
         ⟨some 64, .extract (.tmp 56) 2, none⟩,
         ⟨some 11, .alloc 28, none⟩,
         ⟨none, .store 28 (.tmp 11) (.tmp 62), none⟩,
         ⟨some 12, .assign (.tmp 63), none⟩,
         ⟨some 13, .assign (.tmp 64), none⟩] [(0, 1), (0, 2), (0, 9), (1, 9), (2, 9), (3, 9), (4, 9)])
       (.seq
        (.reg false [
          ⟨some 65, .move (.tmp 4), none⟩,
          ⟨some 66, .binOp .eql 36 (.tmp 65) (.const (.int .i64 0)) 36, none⟩,
          ⟨some 67, .move (.tmp 66), none⟩,
          ⟨some 68, .fieldAddr 28 (.tmp 2) 4, some (67, true)⟩,
          ⟨some 69, .load 3 (.tmp 68), some (67, true)⟩,
          ⟨some 70, .binOp .eql 3 (.tmp 69) (.const (.int .i64 1)) 3, some (67, true)⟩,
          ⟨some 71, .pick (.tmp 67) (.tmp 70) (.const (.bool false)), none⟩,
          ⟨some 72, .move (.tmp 71), none⟩,
          ⟨some 73, .fieldAddr 28 (.tmp 2) 0, some (72, true)⟩,
          ⟨some 74, .load 4 (.tmp 73), some (72, true)⟩,
          ⟨some 75, .unOp .not 4 (.tmp 74), some (72, true)⟩,
          ⟨some 76, .pick (.tmp 72) (.tmp 75) (.const (.bool false)), none⟩,
          ⟨some 77, .move (.tmp 76), none⟩,
          ⟨some 78, .load 28 (.tmp 5), some (77, true)⟩,
          ⟨some 79, .call ⟨.value (.func 21), #[(.tmp 78)], #[28]⟩, some (77, true)⟩,
          ⟨some 80, .buildSlice 43 1 #[(0, (.const (.int .i64 0)))], some (77, true)⟩,
          ⟨some 81, .call ⟨.value (.func 20), #[(.tmp 79), (.tmp 80)], #[43, 43]⟩, some (77, true)⟩,
          ⟨some 82, .pick (.tmp 77) (.tmp 81) (.const (.bool false)), none⟩,
          ⟨some 83, .move (.tmp 82), none⟩,
          ⟨some 84, .load 28 (.tmp 5), some (83, true)⟩,
          ⟨some 85, .call ⟨.value (.func 24), #[(.tmp 84)], #[28]⟩, some (83, true)⟩,
          ⟨some 86, .call ⟨.builtin .len, #[(.tmp 85)], #[48]⟩, some (83, true)⟩,
          ⟨some 87, .binOp .eql 3 (.tmp 86) (.const (.int .i64 0)) 3, some (83, true)⟩,
          ⟨some 88, .pick (.tmp 83) (.tmp 87) (.const (.bool false)), none⟩,
          ⟨some 89, .move (.tmp 88), none⟩,
          ⟨some 90, .load 28 (.tmp 8), some (89, true)⟩,
          ⟨some 91, .call ⟨.value (.func 21), #[(.tmp 90)], #[28]⟩, some (89, true)⟩,
          ⟨some 92, .call ⟨.builtin .len, #[(.tmp 91)], #[43]⟩, some (89, true)⟩,
          ⟨some 93, .binOp .eql 3 (.tmp 92) (.const (.int .i64 0)) 3, some (89, true)⟩,
          ⟨some 94, .pick (.tmp 89) (.tmp 93) (.const (.bool false)), none⟩,
          ⟨some 95, .move (.tmp 94), none⟩,
          ⟨some 96, .load 28 (.tmp 8), some (95, true)⟩,
          ⟨some 97, .call ⟨.value (.func 24), #[(.tmp 96)], #[28]⟩, some (95, true)⟩,
          ⟨some 98, .call ⟨.builtin .len, #[(.tmp 97)], #[48]⟩, some (95, true)⟩,
          ⟨some 99, .binOp .eql 3 (.tmp 98) (.const (.int .i64 1)) 3, some (95, true)⟩,
          ⟨some 100, .pick (.tmp 95) (.tmp 99) (.const (.bool false)), none⟩,
          ⟨some 101, .move (.tmp 100), none⟩,
          ⟨some 102, .load 28 (.tmp 11), some (101, true)⟩,
          ⟨some 103, .call ⟨.value (.func 21), #[(.tmp 102)], #[28]⟩, some (101, true)⟩,
          ⟨some 104, .buildSlice 43 1 #[(0, (.const (.int .i64 0)))], some (101, true)⟩,
          ⟨some 105, .call ⟨.value (.func 20), #[(.tmp 103), (.tmp 104)], #[43, 43]⟩, some (101, true)⟩,
          ⟨some 106, .pick (.tmp 101) (.tmp 105) (.const (.bool false)), none⟩,
          ⟨some 107, .move (.tmp 106), none⟩,
          ⟨some 108, .fieldAddr 28 (.tmp 11) 4, some (107, true)⟩,
          ⟨some 109, .load 3 (.tmp 108), some (107, true)⟩,
          ⟨some 110, .binOp .eql 3 (.tmp 109) (.const (.int .i64 2)) 3, some (107, true)⟩,
          ⟨some 111, .pick (.tmp 107) (.tmp 110) (.const (.bool false)), none⟩,
          ⟨some 14, .assign (.tmp 111), none⟩] [])
        (.seq
         (.reg true [
           ⟨some 113, .load 32 (.tmp 1), none⟩,
           ⟨some 114, .call ⟨.value (.func 36), #[(.const (.int .i64 1)), (.const (.int .i64 1)), (.const (.int .i64 20))], #[3, 3, 3]⟩, none⟩,
           ⟨some 115, .buildSlice 50 2 #[(0, (.tmp 113)), (1, (.tmp 114))], none⟩,
           ⟨some 116, .call ⟨.value (.func 30), #[(.tmp 115)], #[50]⟩, none⟩,
           ⟨some 112, .move (.tmp 116), none⟩,
           ⟨some 117, .extract (.tmp 112) 0, none⟩,
           ⟨some 118, .extract (.tmp 112) 1, none⟩,
           ⟨some 119, .extract (.tmp 112) 2, none⟩,
           ⟨some 15, .alloc 28, none⟩,
           ⟨none, .store 28 (.tmp 15) (.tmp 117), none⟩,
           ⟨some 16, .assign (.tmp 118), none⟩,
           ⟨some 17, .assign (.tmp 119), none⟩] [(0, 1), (0, 8), (1, 8), (2, 8), (3, 8)])
         (.seq
          (.reg false [
            ⟨some 121, .load 32 (.tmp 1), none⟩,
            ⟨some 122, .load 32 (.tmp 1), none⟩,
            ⟨some 123, .buildSlice 50 2 #[(0, (.tmp 121)), (1, (.tmp 122))], none⟩,
            ⟨some 124, .call ⟨.value (.func 30), #[(.tmp 123)], #[50]⟩, none⟩,
            ⟨some 120, .move (.tmp 124), none⟩,
            ⟨some 125, .extract (.tmp 120) 0, none⟩,
            ⟨some 126, .extract (.tmp 120) 1, none⟩,
            ⟨some 127, .extract (.tmp 120) 2, none⟩,
            ⟨some 18, .alloc 28, none⟩,
            ⟨none, .store 28 (.tmp 18) (.tmp 125), none⟩,
            ⟨some 19, .assign (.tmp 126), none⟩,
            ⟨some 20, .assign (.tmp 127), none⟩] [])
          (.seq
           (.reg false [
             ⟨some 129, .call ⟨.value (.func 37), #[(.const (.int .i64 1)), (.const (.int .u8 1))], #[3, 30]⟩, none⟩,
             ⟨some 130, .buildSlice 50 1 #[(0, (.tmp 129))], none⟩,
             ⟨some 131, .call ⟨.value (.func 30), #[(.tmp 130)], #[50]⟩, none⟩,
             ⟨some 128, .move (.tmp 131), none⟩,
             ⟨some 132, .extract (.tmp 128) 0, none⟩,
             ⟨some 133, .extract (.tmp 128) 1, none⟩,
             ⟨some 134, .extract (.tmp 128) 2, none⟩,
             ⟨some 21, .alloc 28, none⟩,
             ⟨none, .store 28 (.tmp 21) (.tmp 132), none⟩,
             ⟨some 22, .assign (.tmp 133), none⟩,
             ⟨some 23, .assign (.tmp 134), none⟩] [])
           (.seq
            (.reg true [
              ⟨some 136, .load 32 (.tmp 1), none⟩,
              ⟨some 137, .call ⟨.value (.func 36), #[(.const (.int .i64 0)), (.const (.int .i64 1)), (.const (.int .i64 20))], #[3, 3, 3]⟩, none⟩,
              ⟨some 138, .call ⟨.value (.func 37), #[(.const (.int .i64 1)), (.const (.int .u8 4))], #[3, 30]⟩, none⟩,
              ⟨some 139, .build 32 #[(0, (.const (.int .u8 5)))], none⟩,
              ⟨some 140, .buildSlice 50 4 #[(0, (.tmp 136)), (1, (.tmp 137)), (2, (.tmp 138)), (3, (.tmp 139))], none⟩,
              ⟨some 141, .call ⟨.value (.func 30), #[(.tmp 140)], #[50]⟩, none⟩,
              ⟨some 135, .move (.tmp 141), none⟩,
              ⟨some 142, .extract (.tmp 135) 0, none⟩,
              ⟨some 143, .extract (.tmp 135) 1, none⟩,
              ⟨some 144, .extract (.tmp 135) 2, none⟩,
              ⟨some 24, .alloc 28, none⟩,
              ⟨none, .store 28 (.tmp 24) (.tmp 142), none⟩,
              ⟨some 25, .assign (.tmp 143), none⟩,
              ⟨some 26, .assign (.tmp 144), none⟩] [(0, 1), (0, 2), (0, 10), (1, 10), (2, 10), (4, 10), (5, 10)])
            (.seq
             (.reg false [
               ⟨some 145, .move (.tmp 16), none⟩,
               ⟨some 146, .binOp .eql 3 (.tmp 145) (.const (.int .i64 1)) 3, none⟩,
               ⟨some 147, .move (.tmp 146), none⟩,
               ⟨some 148, .move (.tmp 17), some (147, true)⟩,
               ⟨some 149, .binOp .eql 36 (.tmp 148) (.const (.int .i64 8)) 36, some (147, true)⟩,
               ⟨some 150, .pick (.tmp 147) (.tmp 149) (.const (.bool false)), none⟩,
               ⟨some 151, .move (.tmp 150), none⟩,
               ⟨some 152, .move (.tmp 19), some (151, true)⟩,
               ⟨some 153, .binOp .eql 3 (.tmp 152) (.const (.int .i64 1)) 3, some (151, true)⟩,
               ⟨some 154, .pick (.tmp 151) (.tmp 153) (.const (.bool false)), none⟩,
               ⟨some 155, .move (.tmp 154), none⟩,
               ⟨some 156, .move (.tmp 20), some (155, true)⟩,
               ⟨some 157, .binOp .eql 36 (.tmp 156) (.const (.int .i64 8)) 36, some (155, true)⟩,
               ⟨some 158, .pick (.tmp 155) (.tmp 157) (.const (.bool false)), none⟩,
               ⟨some 159, .move (.tmp 158), none⟩,
               ⟨some 160, .move (.tmp 22), some (159, true)⟩,
               ⟨some 161, .binOp .eql 3 (.tmp 160) (.const (.int .i64 0)) 3, some (159, true)⟩,
               ⟨some 162, .pick (.tmp 159) (.tmp 161) (.const (.bool false)), none⟩,
               ⟨some 163, .move (.tmp 162), none⟩,
               ⟨some 164, .move (.tmp 23), some (163, true)⟩,
               ⟨some 165, .binOp .eql 36 (.tmp 164) (.const (.int .i64 8)) 36, some (163, true)⟩,
               ⟨some 166, .pick (.tmp 163) (.tmp 165) (.const (.bool false)), none⟩,
               ⟨some 167, .move (.tmp 166), none⟩,
               ⟨some 168, .move (.tmp 26), some (167, true)⟩,
               ⟨some 169, .binOp .eql 36 (.tmp 168) (.const (.int .i64 0)) 36, some (167, true)⟩,
               ⟨some 170, .pick (.tmp 167) (.tmp 169) (.const (.bool false)), none⟩,
               ⟨some 171, .move (.tmp 170), none⟩,
               ⟨some 172, .fieldAddr 28 (.tmp 24) 0, some (171, true)⟩,
               ⟨some 173, .load 4 (.tmp 172), some (171, true)⟩,
               ⟨some 174, .unOp .not 4 (.tmp 173), some (171, true)⟩,
               ⟨some 175, .pick (.tmp 171) (.tmp 174) (.const (.bool false)), none⟩,
               ⟨some 176, .move (.tmp 175), none⟩,
               ⟨some 177, .fieldAddr 28 (.tmp 24) 1, some (176, true)⟩,
               ⟨some 178, .load 4 (.tmp 177), some (176, true)⟩,
               ⟨some 179, .pick (.tmp 176) (.tmp 178) (.const (.bool false)), none⟩,
               ⟨some 180, .move (.tmp 179), none⟩,
               ⟨some 181, .load 28 (.tmp 24), some (180, true)⟩,
               ⟨some 182, .call ⟨.value (.func 26), #[(.tmp 181)], #[28]⟩, some (180, true)⟩,
               ⟨some 183, .call ⟨.builtin .len, #[(.tmp 182)], #[43]⟩, some (180, true)⟩,
               ⟨some 184, .binOp .eql 3 (.tmp 183) (.const (.int .i64 0)) 3, some (180, true)⟩,
               ⟨some 185, .pick (.tmp 180) (.tmp 184) (.const (.bool false)), none⟩,
               ⟨some 27, .assign (.tmp 185), none⟩] [])
             (.seq
              (.reg false [
                ⟨some 187, .makeSlice 50 (.const (.int .i64 401)) (.const (.int .i64 401)), none⟩,
                ⟨some 188, .call ⟨.value (.func 30), #[(.tmp 187)], #[50]⟩, none⟩,
                ⟨some 186, .move (.tmp 188), none⟩,
                ⟨some 189, .extract (.tmp 186) 0, none⟩,
                ⟨some 190, .extract (.tmp 186) 1, none⟩,
                ⟨some 191, .extract (.tmp 186) 2, none⟩,
                ⟨some 28, .alloc 28, none⟩,
                ⟨none, .store 28 (.tmp 28) (.tmp 189), none⟩,
                ⟨some 29, .assign (.tmp 190), none⟩,
                ⟨some 30, .assign (.tmp 191), none⟩] [])
              (.seq
               (.reg false [
                 ⟨some 193, .build 28 #[], none⟩,
                 ⟨some 194, .load 32 (.tmp 1), none⟩,
                 ⟨some 195, .call ⟨.value (.func 13), #[(.tmp 193), (.tmp 194)], #[28, 32]⟩, none⟩,
                 ⟨some 192, .move (.tmp 195), none⟩,
                 ⟨some 196, .extract (.tmp 192) 0, none⟩,
                 ⟨some 197, .extract (.tmp 192) 1, none⟩,
                 ⟨some 31, .alloc 28, none⟩,
                 ⟨none, .store 28 (.tmp 31) (.tmp 196), none⟩,
                 ⟨some 32, .assign (.tmp 197), none⟩] [])
               (.seq
                (.reg false [
                  ⟨some 198, .makeSlice 22 (.const (.int .i64 2)) (.const (.int .i64 2)), none⟩,
                  ⟨some 199, .buildSlice 43 1 #[(0, (.const (.int .i64 1)))], none⟩,
                  ⟨some 200, .buildSlice 43 1 #[(0, (.const (.int .i64 0)))], none⟩,
                  ⟨some 201, .buildSlice 23 2 #[(0, (.tmp 199)), (1, (.tmp 200))], none⟩,
                  ⟨some 202, .build 25 #[(0, (.tmp 198)), (1, (.tmp 201))], none⟩,
                  ⟨some 33, .alloc 25, none⟩,
                  ⟨none, .store 25 (.tmp 33) (.tmp 202), none⟩] [])
                (.seq
                 (.reg false [
                   ⟨some 203, .move (.tmp 14), none⟩,
                   ⟨some 204, .move (.tmp 203), none⟩,
                   ⟨some 205, .move (.tmp 27), some (204, true)⟩,
                   ⟨some 206, .pick (.tmp 204) (.tmp 205) (.const (.bool false)), none⟩,
                   ⟨some 207, .move (.tmp 206), none⟩,
                   ⟨some 208, .move (.tmp 29), some (207, true)⟩,
                   ⟨some 209, .binOp .eql 3 (.tmp 208) (.const (.int .i64 0)) 3, some (207, true)⟩,
                   ⟨some 210, .pick (.tmp 207) (.tmp 209) (.const (.bool false)), none⟩,
                   ⟨some 211, .move (.tmp 210), none⟩,
                   ⟨some 212, .move (.tmp 30), some (211, true)⟩,
                   ⟨some 213, .binOp .eql 36 (.tmp 212) (.const (.int .i64 3)) 36, some (211, true)⟩,
                   ⟨some 214, .pick (.tmp 211) (.tmp 213) (.const (.bool false)), none⟩,
                   ⟨some 215, .move (.tmp 214), none⟩,
                   ⟨some 216, .move (.tmp 32), some (215, true)⟩,
                   ⟨some 217, .binOp .eql 36 (.tmp 216) (.const (.int .i64 1)) 36, some (215, true)⟩,
                   ⟨some 218, .pick (.tmp 215) (.tmp 217) (.const (.bool false)), none⟩,
                   ⟨some 219, .move (.tmp 218), none⟩,
                   ⟨some 220, .load 25 (.tmp 33), some (219, true)⟩,
                   ⟨some 221, .call ⟨.value (.func 18), #[(.tmp 220)], #[25]⟩, some (219, true)⟩,
                   ⟨some 222, .unOp .not 4 (.tmp 221), some (219, true)⟩,
                   ⟨some 223, .pick (.tmp 219) (.tmp 222) (.const (.bool false)), none⟩,
                   ⟨some 224, .move (.tmp 223), none⟩,
                   ⟨some 225, .build 25 #[], some (224, true)⟩,
                   ⟨some 226, .call ⟨.value (.func 18), #[(.tmp 225)], #[25]⟩, some (224, true)⟩,
                   ⟨some 227, .pick (.tmp 224) (.tmp 226) (.const (.bool false)), none⟩,
                   ⟨some 228, .move (.tmp 227), none⟩,
                   ⟨some 229, .call ⟨.value (.func 11), #[], #[]⟩, some (228, true)⟩,
                   ⟨some 230, .pick (.tmp 228) (.tmp 229) (.const (.bool false)), none⟩,
                   ⟨some 0, .assign (.tmp 230), none⟩] [])
                 .ret))))))))))))))))
theorem TryL9_ok : Try.f9.body.bind (light Try.f9.ntmps) = some TryL9 := rfl

def TryL10 : LC :=
 (.seq
  (.reg false [
    ⟨some 1, .box 25 (.tmp 0), none⟩,
    ⟨some 2, .assign (.const (.bool false)), none⟩] [])
  (.seq
   (.reg false [
     ⟨some 5, .fieldAddr 25 (.tmp 1) 0, none⟩,
     ⟨some 6, .load 22 (.tmp 5), none⟩,
     ⟨some 7, .call ⟨.builtin .len, #[(.tmp 6)], #[22]⟩, none⟩,
     ⟨some 8, .fieldAddr 25 (.tmp 1) 1, none⟩,
     ⟨some 9, .load 23 (.tmp 8), none⟩,
     ⟨some 10, .call ⟨.builtin .len, #[(.tmp 9)], #[23]⟩, none⟩,
     ⟨some 11, .binOp .add 3 (.tmp 7) (.tmp 10) 3, none⟩,
     ⟨some 3, .assign (.tmp 11), none⟩] [])
   (.seq
    (.seq
     (.reg false [
       ⟨some 4, .assign (.const (.int .i64 0)), none⟩] [])
     (.block 0
      (.loop
       (.seq
        (.seq
         (.reg false [
           ⟨some 12, .move (.tmp 4), none⟩,
           ⟨some 13, .fieldAddr 25 (.tmp 1) 1, none⟩,
           ⟨some 14, .load 23 (.tmp 13), none⟩,
           ⟨some 15, .call ⟨.builtin .len, #[(.tmp 14)], #[23]⟩, none⟩,
           ⟨some 16, .binOp .lss 3 (.tmp 12) (.tmp 15) 3, none⟩,
           ⟨some 17, .move (.tmp 16), none⟩,
           ⟨some 18, .move (.tmp 4), some (17, true)⟩,
           ⟨some 19, .binOp .lss 3 (.tmp 18) (.const (.int .i64 50)) 3, some (17, true)⟩,
           ⟨some 20, .pick (.tmp 17) (.tmp 19) (.const (.bool false)), none⟩] [])
         (.cond (.tmp 20)
          .skip
          (.exit 0)))
        (.seq
         (.block 1
          (.reg false [
            ⟨some 23, .move (.tmp 3), none⟩,
            ⟨some 24, .fieldAddr 25 (.tmp 1) 1, none⟩,
            ⟨some 25, .load 23 (.tmp 24), none⟩,
            ⟨some 26, .move (.tmp 4), none⟩,
            ⟨some 27, .indexAddr 23 (.tmp 25) (.tmp 26), none⟩,
            ⟨some 28, .load 43 (.tmp 27), none⟩,
            ⟨some 29, .call ⟨.builtin .len, #[(.tmp 28)], #[43]⟩, none⟩,
            ⟨some 30, .binOp .add 3 (.tmp 23) (.tmp 29) 3, none⟩,
            ⟨some 3, .assign (.tmp 30), none⟩] []))
         (.reg false [
           ⟨some 21, .move (.tmp 4), none⟩,
           ⟨some 22, .binOp .add 3 (.tmp 21) (.const (.int .i64 1)) 3, none⟩,
           ⟨some 4, .assign (.tmp 22), none⟩] []))))))
    (.seq
     (.reg false [
       ⟨some 31, .move (.tmp 3), none⟩,
       ⟨some 32, .binOp .leq 3 (.tmp 31) (.const (.int .i64 500)) 3, none⟩,
       ⟨some 33, .move (.tmp 32), none⟩,
       ⟨some 34, .fieldAddr 25 (.tmp 1) 1, some (33, true)⟩,
       ⟨some 35, .load 23 (.tmp 34), some (33, true)⟩,
       ⟨some 36, .call ⟨.builtin .len, #[(.tmp 35)], #[23]⟩, some (33, true)⟩,
       ⟨some 37, .binOp .leq 3 (.tmp 36) (.const (.int .i64 50)) 3, some (33, true)⟩,
       ⟨some 38, .pick (.tmp 33) (.tmp 37) (.const (.bool false)), none⟩,
       ⟨some 2, .assign (.tmp 38), none⟩] [])
     .ret))))
theorem TryL10_ok : Try.f10.body.bind (light Try.f10.ntmps) = some TryL10 := rfl

def TryL11 : LC :=
 (.seq
  (.reg false [
    ⟨some 0, .assign (.const (.bool false)), none⟩] [])
  (.seq
   (.reg false [
     ⟨some 8, .call ⟨.value (.func 38), #[], #[]⟩, none⟩,
     ⟨some 9, .build 32 #[(0, (.const (.int .u8 1))), (5, (.tmp 8))], none⟩,
     ⟨some 1, .alloc 32, none⟩,
     ⟨none, .store 32 (.tmp 1) (.tmp 9), none⟩] [])
   (.seq
    (.reg true [
      ⟨some 11, .load 32 (.tmp 1), none⟩,
      ⟨some 12, .call ⟨.value (.func 36), #[(.const (.int .i64 0)), (.const (.int .i64 1)), (.const (.int .i64 20))], #[3, 3, 3]⟩, none⟩,
      ⟨some 13, .call ⟨.value (.func 37), #[(.const (.int .i64 1)), (.const (.int .u8 1))], #[3, 30]⟩, none⟩,
      ⟨some 14, .buildSlice 50 3 #[(0, (.tmp 11)), (1, (.tmp 12)), (2, (.tmp 13))], none⟩,
      ⟨some 15, .call ⟨.value (.func 30), #[(.tmp 14)], #[50]⟩, none⟩,
      ⟨some 10, .move (.tmp 15), none⟩,
      ⟨some 16, .extract (.tmp 10) 0, none⟩,
      ⟨some 17, .extract (.tmp 10) 1, none⟩,
      ⟨some 18, .extract (.tmp 10) 2, none⟩,
      ⟨some 2, .alloc 28, none⟩,
      ⟨none, .store 28 (.tmp 2) (.tmp 16), none⟩,
      ⟨some 3, .assign (.tmp 17), none⟩,
      ⟨some 4, .assign (.tmp 18), none⟩] [(0, 1), (0, 2), (0, 9), (1, 9), (2, 9), (3, 9), (4, 9)])
    (.seq
     (.reg true [
       ⟨some 20, .load 32 (.tmp 1), none⟩,
       ⟨some 21, .call ⟨.value (.func 36), #[(.const (.int .i64 0)), (.const (.int .i64 1)), (.const (.int .i64 20))], #[3, 3, 3]⟩, none⟩,
       ⟨some 22, .load 32 (.tmp 1), none⟩,
       ⟨some 23, .buildSlice 50 3 #[(0, (.tmp 20)), (1, (.tmp 21)), (2, (.tmp 22))], none⟩,
       ⟨some 24, .call ⟨.value (.func 30), #[(.tmp 23)], #[50]⟩, none⟩,
       ⟨some 19, .move (.tmp 24), none⟩,
       ⟨some 25, .extract (.tmp 19) 0, none⟩,
       ⟨some 26, .extract (.tmp 19) 1, none⟩,
       ⟨some 27, .extract (.tmp 19) 2, none⟩,
       ⟨some 5, .alloc 28, none⟩,
       ⟨none, .store 28 (.tmp 5) (.tmp 25), none⟩,
       ⟨some 6, .assign (.tmp 26), none⟩,
       ⟨some 7, .assign (.tmp 27), none⟩] [(0, 1), (1, 2), (0, 9), (1, 9), (2, 9), (3, 9), (4, 9)])
     (.seq
      (.reg false [
        ⟨some 28, .move (.tmp 4), none⟩,
        ⟨some 29, .binOp .eql 36 (.tmp 28) (.const (.int .i64 0)) 36, none⟩,
        ⟨some 30, .move (.tmp 29), none⟩,
        ⟨some 31, .move (.tmp 3), some (30, true)⟩,
        ⟨some 32, .binOp .eql 3 (.tmp 31) (.const (.int .i64 3)) 3, some (30, true)⟩,
        ⟨some 33, .pick (.tmp 30) (.tmp 32) (.const (.bool false)), none⟩,
        ⟨some 34, .move (.tmp 33), none⟩,
        ⟨some 35, .load 28 (.tmp 2), some (34, true)⟩,
        ⟨some 36, .call ⟨.value (.func 21), #[(.tmp 35)], #[28]⟩, some (34, true)⟩,
        ⟨some 37, .buildSlice 43 1 #[(0, (.const (.int .i64 1)))], some (34, true)⟩,
        ⟨some 38, .call ⟨.value (.func 20), #[(.tmp 36), (.tmp 37)], #[43, 43]⟩, some (34, true)⟩,
        ⟨some 39, .pick (.tmp 34) (.tmp 38) (.const (.bool false)), none⟩,
        ⟨some 40, .move (.tmp 39), none⟩,
        ⟨some 41, .load 28 (.tmp 2), some (40, true)⟩,
        ⟨some 42, .call ⟨.value (.func 26), #[(.tmp 41)], #[28]⟩, some (40, true)⟩,
        ⟨some 43, .buildSlice 43 1 #[(0, (.const (.int .i64 0)))], some (40, true)⟩,
        ⟨some 44, .call ⟨.value (.func 20), #[(.tmp 42), (.tmp 43)], #[43, 43]⟩, some (40, true)⟩,
        ⟨some 45, .pick (.tmp 40) (.tmp 44) (.const (.bool false)), none⟩,
        ⟨some 46, .move (.tmp 45), none⟩,
        ⟨some 47, .move (.tmp 7), some (46, true)⟩,
        ⟨some 48, .binOp .eql 36 (.tmp 47) (.const (.int .i64 8)) 36, some (46, true)⟩,
        ⟨some 49, .pick (.tmp 46) (.tmp 48) (.const (.bool false)), none⟩,
        ⟨some 50, .move (.tmp 49), none⟩,
        ⟨some 51, .move (.tmp 6), some (50, true)⟩,
        ⟨some 52, .binOp .eql 3 (.tmp 51) (.const (.int .i64 2)) 3, some (50, true)⟩,
        ⟨some 53, .pick (.tmp 50) (.tmp 52) (.const (.bool false)), none⟩,
        ⟨some 54, .move (.tmp 53), none⟩,
        ⟨some 55, .load 28 (.tmp 5), some (54, true)⟩,
        ⟨some 56, .call ⟨.value (.func 24), #[(.tmp 55)], #[28]⟩, some (54, true)⟩,
        ⟨some 57, .call ⟨.value (.func 38), #[], #[]⟩, some (54, true)⟩,
        ⟨some 58, .field 25 (.tmp 57) 0, some (54, true)⟩,
        ⟨some 59, .indexAddr 22 (.tmp 58) (.const (.int .i64 0)), some (54, true)⟩,
        ⟨some 60, .load 64 (.tmp 59), some (54, true)⟩,
        ⟨some 61, .build 66 #[(0, (.const (.int .i64 1))), (1, (.const (.int .i64 20))), (2, (.tmp 60))], some (54, true)⟩,
        ⟨some 62, .buildSlice 48 1 #[(0, (.tmp 61))], some (54, true)⟩,
        ⟨some 63, .call ⟨.value (.func 23), #[(.tmp 56), (.tmp 62)], #[48, 48]⟩, some (54, true)⟩,
        ⟨some 64, .pick (.tmp 54) (.tmp 63) (.const (.bool false)), none⟩,
        ⟨some 0, .assign (.tmp 64), none⟩] [])
      .ret)))))
theorem TryL11_ok : Try.f11.body.bind (light Try.f11.ntmps) = some TryL11 := rfl

def TryL12 : LC :=
 (.seq
  (.reg false [
    ⟨some 1, .box 28 (.tmp 0), none⟩,
    ⟨some 2, .alloc 28, none⟩] [])
  (.seq
   (.reg false [
     ⟨some 4, .fieldAddr 28 (.tmp 1) 2, none⟩,
     ⟨some 5, .load 25 (.tmp 4), none⟩,
     ⟨some 6, .call ⟨.value (.func 39), #[(.tmp 5)], #[25]⟩, none⟩,
     ⟨some 7, .fieldAddr 28 (.tmp 1) 2, none⟩,
     ⟨none, .store 25 (.tmp 7) (.tmp 6), none⟩] [])
   (.seq
    (.reg false [
      ⟨some 3, .assign (.const (.slice none 0 0)), none⟩] [])
    (.seq
     (.reg false [
       ⟨some 8, .move (.tmp 3), none⟩,
       ⟨some 9, .fieldAddr 28 (.tmp 1) 3, none⟩,
       ⟨some 10, .load 26 (.tmp 9), none⟩,
       ⟨some 11, .call ⟨.builtin .append, #[(.tmp 8), (.tmp 10)], #[26, 26]⟩, none⟩,
       ⟨some 12, .fieldAddr 28 (.tmp 1) 3, none⟩,
       ⟨none, .store 26 (.tmp 12) (.tmp 11), none⟩] [])
     (.seq
      (.reg false [
        ⟨some 13, .load 28 (.tmp 1), none⟩,
        ⟨none, .store 28 (.tmp 2) (.tmp 13), none⟩] [])
      .ret)))))
theorem TryL12_ok : Try.f12.body.bind (light Try.f12.ntmps) = some TryL12 := rfl

def TryL13 : LC :=
 (.seq
  (.reg false [
    ⟨some 2, .box 28 (.tmp 0), none⟩,
    ⟨some 3, .box 32 (.tmp 1), none⟩,
    ⟨some 4, .alloc 28, none⟩,
    ⟨some 5, .assign (.const (.int .i64 0)), none⟩] [])
  (.seq
   (.seq
    (.reg false [
      ⟨some 8, .load 28 (.tmp 2), none⟩,
      ⟨some 9, .call ⟨.value (.func 16), #[(.tmp 8)], #[28]⟩, none⟩,
      ⟨some 10, .unOp .not 4 (.tmp 9), none⟩] [])
    (.cond (.tmp 10)
     (.seq
      (.reg false [
        ⟨some 11, .build 28 #[], none⟩,
        ⟨none, .store 28 (.tmp 4) (.tmp 11), none⟩,
        ⟨some 5, .assign (.const (.int .i64 1)), none⟩] [])
      .ret)
     .skip))
   (.seq
    (.reg true [
      ⟨some 12, .fieldAddr 28 (.tmp 2) 2, none⟩,
      ⟨some 13, .load 25 (.tmp 12), none⟩,
      ⟨some 14, .call ⟨.value (.func 40), #[(.tmp 13)], #[25]⟩, none⟩,
      ⟨some 15, .fieldAddr 28 (.tmp 2) 3, none⟩,
      ⟨some 16, .load 26 (.tmp 15), none⟩,
      ⟨some 17, .call ⟨.value (.func 41), #[(.tmp 16)], #[26]⟩, none⟩,
      ⟨some 18, .fieldAddr 28 (.tmp 2) 2, none⟩,
      ⟨none, .store 25 (.tmp 18) (.tmp 14), none⟩,
      ⟨some 19, .fieldAddr 28 (.tmp 2) 3, none⟩,
      ⟨none, .store 26 (.tmp 19) (.tmp 17), none⟩] [(2, 3), (2, 4)])
    (.seq
     (.reg true [
       ⟨some 21, .call ⟨.value (.func 42), #[], #[]⟩, none⟩,
       ⟨some 22, .fieldAddr 32 (.tmp 3) 0, none⟩,
       ⟨some 23, .load 29 (.tmp 22), none⟩,
       ⟨some 24, .lookup 74 (.tmp 21) (.tmp 23) true, none⟩,
       ⟨some 20, .move (.tmp 24), none⟩,
       ⟨some 25, .extract (.tmp 20) 0, none⟩,
       ⟨some 26, .extract (.tmp 20) 1, none⟩,
       ⟨some 6, .assign (.tmp 25), none⟩,
       ⟨some 7, .assign (.tmp 26), none⟩] [(0, 1), (0, 2)])
     (.seq
      (.seq
       (.reg false [
         ⟨some 27, .move (.tmp 7), none⟩,
         ⟨some 28, .unOp .not 4 (.tmp 27), none⟩,
         ⟨some 29, .move (.tmp 28), none⟩,
         ⟨some 30, .move (.tmp 6), some (29, false)⟩,
         ⟨some 31, .load 32 (.tmp 3), some (29, false)⟩,
         ⟨some 32, .call ⟨.value (.tmp 30), #[(.tmp 2), (.tmp 31)], #[76, 32]⟩, some (29, false)⟩,
         ⟨some 33, .unOp .not 4 (.tmp 32), some (29, false)⟩,
         ⟨some 34, .pick (.tmp 29) (.const (.bool true)) (.tmp 33), none⟩] [])
       (.cond (.tmp 34)
        (.seq
         (.reg false [
           ⟨some 35, .build 28 #[], none⟩,
           ⟨none, .store 28 (.tmp 4) (.tmp 35), none⟩,
           ⟨some 5, .assign (.const (.int .i64 8)), none⟩] [])
         .ret)
        .skip))
      (.seq
       (.reg false [
         ⟨some 36, .load 28 (.tmp 2), none⟩,
         ⟨none, .store 28 (.tmp 4) (.tmp 36), none⟩,
         ⟨some 5, .assign (.const (.int .i64 0)), none⟩] [])
       .ret))))))
theorem TryL13_ok : Try.f13.body.bind (light Try.f13.ntmps) = some TryL13 := rfl

def TryL14 : LC :=
 (.seq
  (.reg false [
    ⟨some 2, .box 28 (.tmp 0), none⟩,
    ⟨some 3, .box 32 (.tmp 1), none⟩,
    ⟨some 4, .alloc 28, none⟩,
    ⟨some 5, .assign (.const (.int .i64 0)), none⟩] [])
  (.seq
   (.seq
    (.reg false [
      ⟨some 6, .load 28 (.tmp 2), none⟩,
      ⟨some 7, .call ⟨.value (.func 17), #[(.tmp 6)], #[28]⟩, none⟩,
      ⟨some 8, .unOp .not 4 (.tmp 7), none⟩] [])
    (.cond (.tmp 8)
     (.seq
      (.reg false [
        ⟨some 9, .build 28 #[], none⟩,
        ⟨none, .store 28 (.tmp 4) (.tmp 9), none⟩,
        ⟨some 5, .assign (.const (.int .i64 1)), none⟩] [])
      .ret)
     .skip))
   (.seq
    (.reg false [
      ⟨some 10, .load 28 (.tmp 2), none⟩,
      ⟨some 11, .call ⟨.value (.func 12), #[(.tmp 10)], #[28]⟩, none⟩,
      ⟨none, .store 28 (.tmp 2) (.tmp 11), none⟩] [])
    (.seq
     (.block 0
      (.seq
       (.reg false [
         ⟨some 14, .fieldAddr 32 (.tmp 3) 0, none⟩,
         ⟨some 15, .load 29 (.tmp 14), none⟩,
         ⟨some 16, .binOp .eql 29 (.tmp 15) (.const (.int .u8 1)) 29, none⟩,
         ⟨some 17, .move (.tmp 16), none⟩,
         ⟨some 18, .fieldAddr 28 (.tmp 2) 0, some (17, true)⟩,
         ⟨some 19, .load 4 (.tmp 18), some (17, true)⟩,
         ⟨some 20, .unOp .not 4 (.tmp 19), some (17, true)⟩,
         ⟨some 21, .pick (.tmp 17) (.tmp 20) (.const (.bool false)), none⟩,
         ⟨some 22, .move (.tmp 21), none⟩,
         ⟨some 23, .fieldAddr 32 (.tmp 3) 5, some (22, true)⟩,
         ⟨some 24, .load 25 (.tmp 23), some (22, true)⟩,
         ⟨some 25, .call ⟨.value (.func 19), #[(.tmp 24)], #[25]⟩, some (22, true)⟩,
         ⟨some 26, .pick (.tmp 22) (.tmp 25) (.const (.bool false)), none⟩,
         ⟨some 13, .assign (.tmp 26), none⟩] [])
       (.cond (.tmp 13)
        (.seq
         (.reg false [
           ⟨some 27, .fieldAddr 32 (.tmp 3) 5, none⟩,
           ⟨some 28, .load 25 (.tmp 27), none⟩,
           ⟨some 29, .call ⟨.value (.func 39), #[(.tmp 28)], #[25]⟩, none⟩,
           ⟨some 30, .fieldAddr 28 (.tmp 2) 0, none⟩,
           ⟨none, .store 4 (.tmp 30) (.const (.bool true)), none⟩,
           ⟨some 31, .fieldAddr 28 (.tmp 2) 1, none⟩,
           ⟨none, .store 4 (.tmp 31) (.const (.bool false)), none⟩,
           ⟨some 32, .fieldAddr 28 (.tmp 2) 2, none⟩,
           ⟨none, .store 25 (.tmp 32) (.tmp 29), none⟩] [])
         (.reg false [
           ⟨some 33, .fieldAddr 32 (.tmp 3) 5, none⟩,
           ⟨some 34, .fieldAddr 25 (.tmp 33) 0, none⟩,
           ⟨some 35, .load 22 (.tmp 34), none⟩,
           ⟨some 36, .call ⟨.builtin .len, #[(.tmp 35)], #[22]⟩, none⟩,
           ⟨some 37, .makeSlice 26 (.tmp 36) (.tmp 36), none⟩,
           ⟨some 38, .fieldAddr 28 (.tmp 2) 3, none⟩,
           ⟨none, .store 26 (.tmp 38) (.tmp 37), none⟩] []))
        (.seq
         (.reg false [
           ⟨some 40, .fieldAddr 32 (.tmp 3) 0, none⟩,
           ⟨some 41, .load 29 (.tmp 40), none⟩,
           ⟨some 42, .binOp .eql 29 (.tmp 41) (.const (.int .u8 2)) 29, none⟩,
           ⟨some 43, .move (.tmp 42), none⟩,
           ⟨some 44, .load 28 (.tmp 2), some (43, true)⟩,
           ⟨some 45, .fieldAddr 32 (.tmp 3) 1, some (43, true)⟩,
           ⟨some 46, .load 3 (.tmp 45), some (43, true)⟩,
           ⟨some 47, .call ⟨.value (.func 43), #[(.tmp 44), (.tmp 46)], #[28, 3]⟩, some (43, true)⟩,
           ⟨some 48, .pick (.tmp 43) (.tmp 47) (.const (.bool false)), none⟩,
           ⟨some 49, .move (.tmp 48), none⟩,
           ⟨some 50, .fieldAddr 32 (.tmp 3) 2, some (49, true)⟩,
           ⟨some 51, .load 3 (.tmp 50), some (49, true)⟩,
           ⟨some 52, .fieldAddr 28 (.tmp 2) 4, some (49, true)⟩,
           ⟨some 53, .load 3 (.tmp 52), some (49, true)⟩,
           ⟨some 54, .binOp .eql 3 (.tmp 51) (.tmp 53) 3, some (49, true)⟩,
           ⟨some 55, .pick (.tmp 49) (.tmp 54) (.const (.bool false)), none⟩,
           ⟨some 56, .move (.tmp 55), none⟩,
           ⟨some 57, .fieldAddr 32 (.tmp 3) 3, some (56, true)⟩,
           ⟨some 58, .load 3 (.tmp 57), some (56, true)⟩,
           ⟨some 59, .binOp .geq 3 (.tmp 58) (.const (.int .i64 0)) 3, some (56, true)⟩,
           ⟨some 60, .pick (.tmp 56) (.tmp 59) (.const (.bool false)), none⟩,
           ⟨some 39, .assign (.tmp 60), none⟩] [])
         (.cond (.tmp 39)
          (.seq
           (.reg false [
             ⟨some 61, .fieldAddr 28 (.tmp 2) 3, none⟩,
             ⟨some 62, .load 26 (.tmp 61), none⟩,
             ⟨some 63, .fieldAddr 32 (.tmp 3) 1, none⟩,
             ⟨some 64, .load 3 (.tmp 63), none⟩,
             ⟨some 65, .fieldAddr 32 (.tmp 3) 2, none⟩,
             ⟨some 66, .load 3 (.tmp 65), none⟩,
             ⟨some 67, .fieldAddr 32 (.tmp 3) 3, none⟩,
             ⟨some 68, .load 3 (.tmp 67), none⟩,
             ⟨some 69, .build 42 #[(0, (.tmp 66)), (1, (.tmp 68))], none⟩,
             ⟨some 70, .indexAddr 26 (.tmp 62) (.tmp 64), none⟩,
             ⟨none, .store 42 (.tmp 70) (.tmp 69), none⟩] [])
           (.reg false [
             ⟨some 71, .fieldAddr 28 (.tmp 2) 4, none⟩,
             ⟨some 72, .load 3 (.tmp 71), none⟩,
             ⟨some 73, .binOp .add 3 (.tmp 72) (.const (.int .i64 1)) 3, none⟩,
             ⟨some 74, .fieldAddr 28 (.tmp 2) 4, none⟩,
             ⟨none, .store 3 (.tmp 74) (.tmp 73), none⟩] []))
          (.seq
           (.reg false [
             ⟨some 76, .fieldAddr 32 (.tmp 3) 0, none⟩,
             ⟨some 77, .load 29 (.tmp 76), none⟩,
             ⟨some 78, .binOp .eql 29 (.tmp 77) (.const (.int .u8 3)) 29, none⟩,
             ⟨some 79, .move (.tmp 78), none⟩,
             ⟨some 80, .fieldAddr 28 (.tmp 2) 0, some (79, true)⟩,
             ⟨some 81, .load 4 (.tmp 80), some (79, true)⟩,
             ⟨some 82, .pick (.tmp 79) (.tmp 81) (.const (.bool false)), none⟩,
             ⟨some 83, .move (.tmp 82), none⟩,
             ⟨some 84, .load 28 (.tmp 2), some (83, true)⟩,
             ⟨some 85, .fieldAddr 32 (.tmp 3) 2, some (83, true)⟩,
             ⟨some 86, .load 3 (.tmp 85), some (83, true)⟩,
             ⟨some 87, .call ⟨.value (.func 44), #[(.tmp 84), (.tmp 86)], #[28, 3]⟩, some (83, true)⟩,
             ⟨some 88, .binOp .geq 3 (.tmp 87) (.const (.int .i64 0)) 3, some (83, true)⟩,
             ⟨some 89, .pick (.tmp 83) (.tmp 88) (.const (.bool false)), none⟩,
             ⟨some 90, .move (.tmp 89), none⟩,
             ⟨some 91, .fieldAddr 32 (.tmp 3) 4, some (90, true)⟩,
             ⟨some 92, .load 30 (.tmp 91), some (90, true)⟩,
             ⟨some 93, .binOp .geq 30 (.tmp 92) (.const (.int .u8 1)) 30, some (90, true)⟩,
             ⟨some 94, .pick (.tmp 90) (.tmp 93) (.const (.bool false)), none⟩,
             ⟨some 95, .move (.tmp 94), none⟩,
             ⟨some 96, .fieldAddr 32 (.tmp 3) 4, some (95, true)⟩,
             ⟨some 97, .load 30 (.tmp 96), some (95, true)⟩,
             ⟨some 98, .binOp .leq 30 (.tmp 97) (.const (.int .u8 4)) 30, some (95, true)⟩,
             ⟨some 99, .pick (.tmp 95) (.tmp 98) (.const (.bool false)), none⟩,
             ⟨some 75, .assign (.tmp 99), none⟩] [])
           (.cond (.tmp 75)
            (.seq
             (.reg true [
               ⟨some 100, .fieldAddr 28 (.tmp 2) 3, none⟩,
               ⟨some 101, .load 26 (.tmp 100), none⟩,
               ⟨some 102, .load 28 (.tmp 2), none⟩,
               ⟨some 103, .fieldAddr 32 (.tmp 3) 2, none⟩,
               ⟨some 104, .load 3 (.tmp 103), none⟩,
               ⟨some 105, .call ⟨.value (.func 44), #[(.tmp 102), (.tmp 104)], #[28, 3]⟩, none⟩,
               ⟨some 106, .fieldAddr 32 (.tmp 3) 4, none⟩,
               ⟨some 107, .load 30 (.tmp 106), none⟩,
               ⟨some 108, .indexAddr 26 (.tmp 101) (.tmp 105), none⟩,
               ⟨some 109, .fieldAddr 42 (.tmp 108) 2, none⟩,
               ⟨none, .store 30 (.tmp 109) (.tmp 107), none⟩] [(0, 5), (1, 5), (5, 6), (5, 7)])
             (.reg false [
               ⟨some 110, .fieldAddr 28 (.tmp 2) 1, none⟩,
               ⟨some 111, .load 4 (.tmp 110), none⟩,
               ⟨some 112, .move (.tmp 111), none⟩,
               ⟨some 113, .fieldAddr 32 (.tmp 3) 4, some (112, false)⟩,
               ⟨some 114, .load 30 (.tmp 113), some (112, false)⟩,
               ⟨some 115, .binOp .eql 30 (.tmp 114) (.const (.int .u8 3)) 30, some (112, false)⟩,
               ⟨some 116, .pick (.tmp 112) (.const (.bool true)) (.tmp 115), none⟩,
               ⟨some 117, .move (.tmp 116), none⟩,
               ⟨some 118, .fieldAddr 32 (.tmp 3) 4, some (117, false)⟩,
               ⟨some 119, .load 30 (.tmp 118), some (117, false)⟩,
               ⟨some 120, .binOp .eql 30 (.tmp 119) (.const (.int .u8 4)) 30, some (117, false)⟩,
               ⟨some 121, .pick (.tmp 117) (.const (.bool true)) (.tmp 120), none⟩,
               ⟨some 122, .fieldAddr 28 (.tmp 2) 1, none⟩,
               ⟨none, .store 4 (.tmp 122) (.tmp 121), none⟩] []))
            (.seq
             (.reg false [
               ⟨some 124, .fieldAddr 32 (.tmp 3) 0, none⟩,
               ⟨some 125, .load 29 (.tmp 124), none⟩,
               ⟨some 126, .binOp .eql 29 (.tmp 125) (.const (.int .u8 4)) 29, none⟩,
               ⟨some 127, .move (.tmp 126), none⟩,
               ⟨some 128, .fieldAddr 28 (.tmp 2) 0, some (127, true)⟩,
               ⟨some 129, .load 4 (.tmp 128), some (127, true)⟩,
               ⟨some 130, .pick (.tmp 127) (.tmp 129) (.const (.bool false)), none⟩,
               ⟨some 131, .move (.tmp 130), none⟩,
               ⟨some 132, .fieldAddr 28 (.tmp 2) 1, some (131, true)⟩,
               ⟨some 133, .load 4 (.tmp 132), some (131, true)⟩,
               ⟨some 134, .unOp .not 4 (.tmp 133), some (131, true)⟩,
               ⟨some 135, .pick (.tmp 131) (.tmp 134) (.const (.bool false)), none⟩,
               ⟨some 123, .assign (.tmp 135), none⟩] [])
             (.cond (.tmp 123)
              (.reg false [
                ⟨some 136, .fieldAddr 28 (.tmp 2) 1, none⟩,
                ⟨none, .store 4 (.tmp 136) (.const (.bool true)), none⟩] [])
              (.seq
               (.reg false [
                 ⟨some 138, .fieldAddr 32 (.tmp 3) 0, none⟩,
                 ⟨some 139, .load 29 (.tmp 138), none⟩,
                 ⟨some 140, .binOp .eql 29 (.tmp 139) (.const (.int .u8 5)) 29, none⟩,
                 ⟨some 141, .move (.tmp 140), none⟩,
                 ⟨some 142, .fieldAddr 28 (.tmp 2) 0, some (141, true)⟩,
                 ⟨some 143, .load 4 (.tmp 142), some (141, true)⟩,
                 ⟨some 144, .pick (.tmp 141) (.tmp 143) (.const (.bool false)), none⟩,
                 ⟨some 145, .move (.tmp 144), none⟩,
                 ⟨some 146, .load 28 (.tmp 2), some (145, true)⟩,
                 ⟨some 147, .call ⟨.value (.func 45), #[(.tmp 146)], #[28]⟩, some (145, true)⟩,
                 ⟨some 148, .pick (.tmp 145) (.tmp 147) (.const (.bool false)), none⟩,
                 ⟨some 149, .move (.tmp 148), none⟩,
                 ⟨some 150, .fieldAddr 28 (.tmp 2) 1, some (149, true)⟩,
                 ⟨some 151, .load 4 (.tmp 150), some (149, true)⟩,
                 ⟨some 152, .move (.tmp 151), some (149, true)⟩,
                 ⟨some 153, .load 28 (.tmp 2), some (152, false)⟩,
                 ⟨some 154, .call ⟨.value (.func 29), #[(.tmp 153)], #[28]⟩, some (152, false)⟩,
                 ⟨some 155, .pick (.tmp 152) (.const (.bool true)) (.tmp 154), some (149, true)⟩,
                 ⟨some 156, .pick (.tmp 149) (.tmp 155) (.const (.bool false)), none⟩,
                 ⟨some 137, .assign (.tmp 156), none⟩] [])
               (.cond (.tmp 137)
                (.reg false [
                  ⟨some 157, .fieldAddr 28 (.tmp 2) 0, none⟩,
                  ⟨none, .store 4 (.tmp 157) (.const (.bool false)), none⟩] [])
                (.seq
                 (.reg false [
                   ⟨some 12, .build 28 #[], none⟩,
                   ⟨none, .store 28 (.tmp 4) (.tmp 12), none⟩,
                   ⟨some 5, .assign (.const (.int .i64 8)), none⟩] [])
                 .ret))))))))))))
     (.seq
      (.reg false [
        ⟨some 158, .load 28 (.tmp 2), none⟩,
        ⟨none, .store 28 (.tmp 4) (.tmp 158), none⟩,
        ⟨some 5, .assign (.const (.int .i64 0)), none⟩] [])
      .ret)))))
theorem TryL14_ok : Try.f14.body.bind (light Try.f14.ntmps) = some TryL14 := rfl

def TryL15 : LC :=
 (.seq
  (.reg false [
    ⟨some 2, .box 28 (.tmp 0), none⟩,
    ⟨some 3, .box 28 (.tmp 1), none⟩,
    ⟨some 4, .assign (.const (.bool false)), none⟩] [])
  (.seq
   (.seq
    (.reg false [
      ⟨some 6, .fieldAddr 28 (.tmp 2) 0, none⟩,
      ⟨some 7, .load 4 (.tmp 6), none⟩,
      ⟨some 8, .fieldAddr 28 (.tmp 3) 0, none⟩,
      ⟨some 9, .load 4 (.tmp 8), none⟩,
      ⟨some 10, .binOp .neq 4 (.tmp 7) (.tmp 9) 4, none⟩,
      ⟨some 11, .move (.tmp 10), none⟩,
      ⟨some 12, .fieldAddr 28 (.tmp 2) 1, some (11, false)⟩,
      ⟨some 13, .load 4 (.tmp 12), some (11, false)⟩,
      ⟨some 14, .fieldAddr 28 (.tmp 3) 1, some (11, false)⟩,
      ⟨some 15, .load 4 (.tmp 14), some (11, false)⟩,
      ⟨some 16, .binOp .neq 4 (.tmp 13) (.tmp 15) 4, some (11, false)⟩,
      ⟨some 17, .pick (.tmp 11) (.const (.bool true)) (.tmp 16), none⟩,
      ⟨some 18, .move (.tmp 17), none⟩,
      ⟨some 19, .fieldAddr 28 (.tmp 2) 4, some (18, false)⟩,
      ⟨some 20, .load 3 (.tmp 19), some (18, false)⟩,
      ⟨some 21, .fieldAddr 28 (.tmp 3) 4, some (18, false)⟩,
      ⟨some 22, .load 3 (.tmp 21), some (18, false)⟩,
      ⟨some 23, .binOp .neq 3 (.tmp 20) (.tmp 22) 3, some (18, false)⟩,
      ⟨some 24, .pick (.tmp 18) (.const (.bool true)) (.tmp 23), none⟩,
      ⟨some 25, .move (.tmp 24), none⟩,
      ⟨some 26, .fieldAddr 28 (.tmp 2) 2, some (25, false)⟩,
      ⟨some 27, .load 25 (.tmp 26), some (25, false)⟩,
      ⟨some 28, .fieldAddr 28 (.tmp 3) 2, some (25, false)⟩,
      ⟨some 29, .load 25 (.tmp 28), some (25, false)⟩,
      ⟨some 30, .call ⟨.value (.func 46), #[(.tmp 27), (.tmp 29)], #[25, 25]⟩, some (25, false)⟩,
      ⟨some 31, .unOp .not 4 (.tmp 30), some (25, false)⟩,
      ⟨some 32, .pick (.tmp 25) (.const (.bool true)) (.tmp 31), none⟩,
      ⟨some 33, .move (.tmp 32), none⟩,
      ⟨some 34, .fieldAddr 28 (.tmp 2) 3, some (33, false)⟩,
      ⟨some 35, .load 26 (.tmp 34), some (33, false)⟩,
      ⟨some 36, .call ⟨.builtin .len, #[(.tmp 35)], #[26]⟩, some (33, false)⟩,
      ⟨some 37, .fieldAddr 28 (.tmp 3) 3, some (33, false)⟩,
      ⟨some 38, .load 26 (.tmp 37), some (33, false)⟩,
      ⟨some 39, .call ⟨.builtin .len, #[(.tmp 38)], #[26]⟩, some (33, false)⟩,
      ⟨some 40, .binOp .neq 3 (.tmp 36) (.tmp 39) 3, some (33, false)⟩,
      ⟨some 41, .pick (.tmp 33) (.const (.bool true)) (.tmp 40), none⟩] [])
    (.cond (.tmp 41)
     (.seq
      (.reg false [
        ⟨some 4, .assign (.const (.bool false)), none⟩] [])
      .ret)
     .skip))
   (.seq
    (.seq
     (.reg false [
       ⟨some 5, .assign (.const (.int .i64 0)), none⟩] [])
     (.block 0
      (.loop
       (.seq
        (.seq
         (.reg false [
           ⟨some 42, .move (.tmp 5), none⟩,
           ⟨some 43, .fieldAddr 28 (.tmp 2) 3, none⟩,
           ⟨some 44, .load 26 (.tmp 43), none⟩,
           ⟨some 45, .call ⟨.builtin .len, #[(.tmp 44)], #[26]⟩, none⟩,
           ⟨some 46, .binOp .lss 3 (.tmp 42) (.tmp 45) 3, none⟩] [])
         (.cond (.tmp 46)
          .skip
          (.exit 0)))
        (.seq
         (.block 1
          (.seq
           (.reg true [
             ⟨some 49, .fieldAddr 28 (.tmp 2) 3, none⟩,
             ⟨some 50, .load 26 (.tmp 49), none⟩,
             ⟨some 51, .move (.tmp 5), none⟩,
             ⟨some 52, .indexAddr 26 (.tmp 50) (.tmp 51), none⟩,
             ⟨some 53, .load 42 (.tmp 52), none⟩,
             ⟨some 54, .fieldAddr 28 (.tmp 3) 3, none⟩,
             ⟨some 55, .load 26 (.tmp 54), none⟩,
             ⟨some 56, .move (.tmp 5), none⟩,
             ⟨some 57, .indexAddr 26 (.tmp 55) (.tmp 56), none⟩,
             ⟨some 58, .load 42 (.tmp 57), none⟩,
             ⟨some 59, .binOp .neq 42 (.tmp 53) (.tmp 58) 42, none⟩] [])
           (.cond (.tmp 59)
            (.seq
             (.reg false [
               ⟨some 4, .assign (.const (.bool false)), none⟩] [])
             .ret)
            .skip)))
         (.reg false [
           ⟨some 47, .move (.tmp 5), none⟩,
           ⟨some 48, .binOp .add 3 (.tmp 47) (.const (.int .i64 1)) 3, none⟩,
           ⟨some 5, .assign (.tmp 48), none⟩] []))))))
    (.seq
     (.reg false [
       ⟨some 4, .assign (.const (.bool true)), none⟩] [])
     .ret))))
theorem TryL15_ok : Try.f15.body.bind (light Try.f15.ntmps) = some TryL15 := rfl

def TryL16 : LC :=
 (.seq
  (.reg false [
    ⟨some 1, .box 28 (.tmp 0), none⟩,
    ⟨some 2, .assign (.const (.bool false)), none⟩] [])
  (.seq
   (.reg false [
     ⟨some 3, .fieldAddr 28 (.tmp 1) 3, none⟩,
     ⟨some 4, .load 26 (.tmp 3), none⟩,
     ⟨some 5, .call ⟨.builtin .len, #[(.tmp 4)], #[26]⟩, none⟩,
     ⟨some 6, .fieldAddr 28 (.tmp 1) 2, none⟩,
     ⟨some 7, .fieldAddr 25 (.tmp 6) 0, none⟩,
     ⟨some 8, .load 22 (.tmp 7), none⟩,
     ⟨some 9, .call ⟨.builtin .len, #[(.tmp 8)], #[22]⟩, none⟩,
     ⟨some 10, .binOp .eql 3 (.tmp 5) (.tmp 9) 3, none⟩,
     ⟨some 11, .move (.tmp 10), none⟩,
     ⟨some 12, .fieldAddr 28 (.tmp 1) 4, some (11, true)⟩,
     ⟨some 13, .load 3 (.tmp 12), some (11, true)⟩,
     ⟨some 14, .binOp .geq 3 (.tmp 13) (.const (.int .i64 1)) 3, some (11, true)⟩,
     ⟨some 15, .pick (.tmp 11) (.tmp 14) (.const (.bool false)), none⟩,
     ⟨some 16, .move (.tmp 15), none⟩,
     ⟨some 17, .fieldAddr 28 (.tmp 1) 2, some (16, true)⟩,
     ⟨some 18, .load 25 (.tmp 17), some (16, true)⟩,
     ⟨some 19, .call ⟨.value (.func 18), #[(.tmp 18)], #[25]⟩, some (16, true)⟩,
     ⟨some 20, .pick (.tmp 16) (.tmp 19) (.const (.bool false)), none⟩,
     ⟨some 2, .assign (.tmp 20), none⟩] [])
   .ret))
theorem TryL16_ok : Try.f16.body.bind (light Try.f16.ntmps) = some TryL16 := rfl

def TryL17 : LC :=
 (.seq
  (.reg false [
    ⟨some 1, .box 28 (.tmp 0), none⟩,
    ⟨some 2, .assign (.const (.bool false)), none⟩] [])
  (.seq
   (.reg false [
     ⟨some 3, .fieldAddr 28 (.tmp 1) 2, none⟩,
     ⟨some 4, .load 25 (.tmp 3), none⟩,
     ⟨some 5, .call ⟨.value (.func 19), #[(.tmp 4)], #[25]⟩, none⟩,
     ⟨some 6, .move (.tmp 5), none⟩,
     ⟨some 7, .fieldAddr 28 (.tmp 1) 3, some (6, true)⟩,
     ⟨some 8, .load 26 (.tmp 7), some (6, true)⟩,
     ⟨some 9, .call ⟨.builtin .len, #[(.tmp 8)], #[26]⟩, some (6, true)⟩,
     ⟨some 10, .fieldAddr 28 (.tmp 1) 2, some (6, true)⟩,
     ⟨some 11, .fieldAddr 25 (.tmp 10) 0, some (6, true)⟩,
     ⟨some 12, .load 22 (.tmp 11), some (6, true)⟩,
     ⟨some 13, .call ⟨.builtin .len, #[(.tmp 12)], #[22]⟩, some (6, true)⟩,
     ⟨some 14, .binOp .eql 3 (.tmp 9) (.tmp 13) 3, some (6, true)⟩,
     ⟨some 15, .pick (.tmp 6) (.tmp 14) (.const (.bool false)), none⟩,
     ⟨some 16, .move (.tmp 15), none⟩,
     ⟨some 17, .fieldAddr 28 (.tmp 1) 4, some (16, true)⟩,
     ⟨some 18, .load 3 (.tmp 17), some (16, true)⟩,
     ⟨some 19, .binOp .geq 3 (.tmp 18) (.const (.int .i64 1)) 3, some (16, true)⟩,
     ⟨some 20, .pick (.tmp 16) (.tmp 19) (.const (.bool false)), none⟩,
     ⟨some 2, .assign (.tmp 20), none⟩] [])
   .ret))
theorem TryL17_ok : Try.f17.body.bind (light Try.f17.ntmps) = some TryL17 := rfl

def TryL18 : LC :=
 (.seq
  (.reg false [
    ⟨some 1, .box 25 (.tmp 0), none⟩,
    ⟨some 2, .assign (.const (.bool false)), none⟩] [])
  (.seq
   (.reg false [
     ⟨some 11, .fieldAddr 25 (.tmp 1) 0, none⟩,
     ⟨some 12, .load 22 (.tmp 11), none⟩,
     ⟨some 13, .call ⟨.builtin .len, #[(.tmp 12)], #[22]⟩, none⟩,
     ⟨some 3, .assign (.tmp 13), none⟩] [])
   (.seq
    (.seq
     (.reg false [
       ⟨some 14, .move (.tmp 3), none⟩,
       ⟨some 15, .binOp .gtr 3 (.tmp 14) (.const (.int .i64 12)) 3, none⟩,
       ⟨some 16, .move (.tmp 15), none⟩,
       ⟨some 17, .fieldAddr 25 (.tmp 1) 1, some (16, false)⟩,
       ⟨some 18, .load 23 (.tmp 17), some (16, false)⟩,
       ⟨some 19, .call ⟨.builtin .len, #[(.tmp 18)], #[23]⟩, some (16, false)⟩,
       ⟨some 20, .move (.tmp 3), some (16, false)⟩,
       ⟨some 21, .binOp .neq 3 (.tmp 19) (.tmp 20) 3, some (16, false)⟩,
       ⟨some 22, .pick (.tmp 16) (.const (.bool true)) (.tmp 21), none⟩] [])
     (.cond (.tmp 22)
      (.seq
       (.reg false [
         ⟨some 2, .assign (.const (.bool false)), none⟩] [])
       .ret)
      .skip))
    (.seq
     (.reg false [
       ⟨some 23, .makeMap 80 none, none⟩,
       ⟨some 4, .alloc 80, none⟩,
       ⟨none, .store 80 (.tmp 4) (.tmp 23), none⟩] [])
     (.seq
      (.seq
       (.reg false [
         ⟨some 24, .fieldAddr 25 (.tmp 1) 1, none⟩,
         ⟨some 25, .load 23 (.tmp 24), none⟩,
         ⟨some 26, .call ⟨.builtin .len, #[(.tmp 25)], #[23]⟩, none⟩,
         ⟨some 27, .move (.const (.int .i64 0)), none⟩] [])
       (.block 0
        (.loop
         (.seq
          (.reg false [
            ⟨some 28, .binOp .lss 3 (.tmp 27) (.tmp 26) 3, none⟩] [])
          (.seq
           (.cond (.tmp 28)
            .skip
            (.exit 0))
           (.seq
            (.block 1
             (.seq
              (.reg false [
                ⟨some 29, .move (.tmp 27), none⟩,
                ⟨some 30, .indexAddr 23 (.tmp 25) (.tmp 27), none⟩,
                ⟨some 31, .load 43 (.tmp 30), none⟩,
                ⟨some 5, .assign (.tmp 29), none⟩,
                ⟨some 6, .assign (.tmp 31), none⟩] [])
              (.seq
               (.seq
                (.reg false [
                  ⟨some 32, .move (.tmp 6), none⟩,
                  ⟨some 33, .call ⟨.builtin .len, #[(.tmp 32)], #[43]⟩, none⟩,
                  ⟨some 34, .move (.const (.int .i64 0)), none⟩] [])
                (.block 2
                 (.loop
                  (.seq
                   (.reg false [
                     ⟨some 35, .binOp .lss 3 (.tmp 34) (.tmp 33) 3, none⟩] [])
                   (.seq
                    (.cond (.tmp 35)
                     .skip
                     (.exit 2))
                    (.seq
                     (.block 3
                      (.seq
                       (.reg false [
                         ⟨some 36, .move (.tmp 34), none⟩,
                         ⟨some 37, .indexAddr 43 (.tmp 32) (.tmp 34), none⟩,
                         ⟨some 38, .load 3 (.tmp 37), none⟩,
                         ⟨some 7, .assign (.tmp 36), none⟩,
                         ⟨some 8, .assign (.tmp 38), none⟩] [])
                       (.seq
                        (.reg false [
                          ⟨some 39, .move (.tmp 8), none⟩,
                          ⟨some 40, .binOp .lss 3 (.tmp 39) (.const (.int .i64 0)) 3, none⟩,
                          ⟨some 41, .move (.tmp 40), none⟩,
                          ⟨some 42, .move (.tmp 8), some (41, false)⟩,
                          ⟨some 43, .move (.tmp 3), some (41, false)⟩,
                          ⟨some 44, .binOp .geq 3 (.tmp 42) (.tmp 43) 3, some (41, false)⟩,
                          ⟨some 45, .pick (.tmp 41) (.const (.bool true)) (.tmp 44), none⟩,
                          ⟨some 46, .move (.tmp 45), none⟩,
                          ⟨some 47, .move (.tmp 8), some (46, false)⟩,
                          ⟨some 48, .move (.tmp 5), some (46, false)⟩,
                          ⟨some 49, .binOp .eql 3 (.tmp 47) (.tmp 48) 3, some (46, false)⟩,
                          ⟨some 50, .pick (.tmp 46) (.const (.bool true)) (.tmp 49), none⟩,
                          ⟨some 51, .move (.tmp 50), none⟩,
                          ⟨some 52, .move (.tmp 7), some (51, false)⟩,
                          ⟨some 53, .binOp .gtr 3 (.tmp 52) (.const (.int .i64 0)) 3, some (51, false)⟩,
                          ⟨some 54, .move (.tmp 53), some (51, false)⟩,
                          ⟨some 55, .move (.tmp 6), some (54, true)⟩,
                          ⟨some 56, .move (.tmp 7), some (54, true)⟩,
                          ⟨some 57, .binOp .sub 3 (.tmp 56) (.const (.int .i64 1)) 3, some (54, true)⟩,
                          ⟨some 58, .indexAddr 43 (.tmp 55) (.tmp 57), some (54, true)⟩,
                          ⟨some 59, .load 3 (.tmp 58), some (54, true)⟩,
                          ⟨some 60, .move (.tmp 8), some (54, true)⟩,
                          ⟨some 61, .binOp .geq 3 (.tmp 59) (.tmp 60) 3, some (54, true)⟩,
                          ⟨some 62, .pick (.tmp 54) (.tmp 61) (.const (.bool false)), some (51, false)⟩,
                          ⟨some 63, .pick (.tmp 51) (.const (.bool true)) (.tmp 62), none⟩] [])
                        (.cond (.tmp 63)
                         (.seq
                          (.reg false [
                            ⟨some 2, .assign (.const (.bool false)), none⟩] [])
                          .ret)
                         .skip))))
                     (.reg false [
                       ⟨some 64, .binOp .add 3 (.tmp 34) (.const (.int .i64 1)) 3, none⟩,
                       ⟨some 34, .move (.tmp 64), none⟩] [])))))))
               (.reg false [
                 ⟨some 65, .load 80 (.tmp 4), none⟩,
                 ⟨some 66, .move (.tmp 5), none⟩,
                 ⟨some 67, .move (.tmp 6), none⟩,
                 ⟨none, .mapUpdate 80 (.tmp 65) (.tmp 66) (.tmp 67), none⟩] []))))
            (.reg false [
              ⟨some 68, .binOp .add 3 (.tmp 27) (.const (.int .i64 1)) 3, none⟩,
              ⟨some 27, .move (.tmp 68), none⟩] [])))))))
      (.seq
       (.reg false [
         ⟨some 69, .makeFunc (.func 47) #[] #[(.tmp 4)], none⟩,
         ⟨some 9, .assign (.tmp 69), none⟩] [])
       (.seq
        (.seq
         (.reg false [
           ⟨some 70, .move (.tmp 3), none⟩,
           ⟨some 71, .move (.const (.int .i64 0)), none⟩] [])
         (.block 4
          (.loop
           (.seq
            (.reg false [
              ⟨some 72, .binOp .lss 3 (.tmp 71) (.tmp 70) 3, none⟩] [])
            (.seq
             (.cond (.tmp 72)
              .skip
              (.exit 4))
             (.seq
              (.block 5
               (.seq
                (.reg false [
                  ⟨some 73, .move (.tmp 3), none⟩,
                  ⟨some 74, .move (.const (.int .i64 0)), none⟩] [])
                (.block 6
                 (.loop
                  (.seq
                   (.reg false [
                     ⟨some 75, .binOp .lss 3 (.tmp 74) (.tmp 73) 3, none⟩] [])
                   (.seq
                    (.cond (.tmp 75)
                     .skip
                     (.exit 6))
                    (.seq
                     (.block 7
                      (.seq
                       (.reg false [
                         ⟨some 76, .move (.tmp 74), none⟩,
                         ⟨some 10, .assign (.tmp 76), none⟩] [])
                       (.seq
                        (.reg false [
                          ⟨some 77, .load 80 (.tmp 4), none⟩,
                          ⟨some 78, .move (.tmp 10), none⟩,
                          ⟨some 79, .lookup 80 (.tmp 77) (.tmp 78) false, none⟩,
                          ⟨some 80, .move (.tmp 9), none⟩,
                          ⟨some 81, .call ⟨.value (.func 48), #[(.tmp 79), (.tmp 80)], #[43, 82]⟩, none⟩,
                          ⟨some 82, .unOp .not 4 (.tmp 81), none⟩] [])
                        (.cond (.tmp 82)
                         (.reg false [
                           ⟨some 83, .load 80 (.tmp 4), none⟩,
                           ⟨some 84, .move (.tmp 10), none⟩,
                           ⟨none, .call ⟨.builtin .delete, #[(.tmp 83), (.tmp 84)], #[80, 3]⟩, none⟩] [])
                         .skip))))
                     (.reg false [
                       ⟨some 85, .binOp .add 3 (.tmp 74) (.const (.int .i64 1)) 3, none⟩,
                       ⟨some 74, .move (.tmp 85), none⟩] []))))))))
              (.reg false [
                ⟨some 86, .binOp .add 3 (.tmp 71) (.const (.int .i64 1)) 3, none⟩,
                ⟨some 71, .move (.tmp 86), none⟩] [])))))))
        (.seq
         (.reg false [
           ⟨some 87, .load 80 (.tmp 4), none⟩,
           ⟨some 88, .call ⟨.builtin .len, #[(.tmp 87)], #[80]⟩, none⟩,
           ⟨some 89, .binOp .eql 3 (.tmp 88) (.const (.int .i64 0)) 3, none⟩,
           ⟨some 2, .assign (.tmp 89), none⟩] [])
         .ret))))))))
theorem TryL18_ok : Try.f18.body.bind (light Try.f18.ntmps) = some TryL18 := rfl

def TryL19 : LC :=
 (.seq
  (.reg false [
    ⟨some 1, .box 25 (.tmp 0), none⟩,
    ⟨some 2, .assign (.const (.bool false)), none⟩] [])
  (.seq
   (.reg false [
     ⟨some 13, .fieldAddr 25 (.tmp 1) 0, none⟩,
     ⟨some 14, .load 22 (.tmp 13), none⟩,
     ⟨some 15, .call ⟨.builtin .len, #[(.tmp 14)], #[22]⟩, none⟩,
     ⟨some 3, .assign (.tmp 15), none⟩] [])
   (.seq
    (.seq
     (.reg false [
       ⟨some 16, .move (.tmp 3), none⟩,
       ⟨some 17, .binOp .gtr 3 (.tmp 16) (.const (.int .i64 12)) 3, none⟩,
       ⟨some 18, .move (.tmp 17), none⟩,
       ⟨some 19, .fieldAddr 25 (.tmp 1) 1, some (18, false)⟩,
       ⟨some 20, .load 23 (.tmp 19), some (18, false)⟩,
       ⟨some 21, .call ⟨.builtin .len, #[(.tmp 20)], #[23]⟩, some (18, false)⟩,
       ⟨some 22, .move (.tmp 3), some (18, false)⟩,
       ⟨some 23, .binOp .neq 3 (.tmp 21) (.tmp 22) 3, some (18, false)⟩,
       ⟨some 24, .pick (.tmp 18) (.const (.bool true)) (.tmp 23), none⟩] [])
     (.cond (.tmp 24)
      (.seq
       (.reg false [
         ⟨some 2, .assign (.const (.bool false)), none⟩] [])
       .ret)
      .skip))
    (.seq
     (.seq
      (.reg false [
        ⟨some 4, .assign (.const (.int .i64 0)), none⟩] [])
      (.block 0
       (.loop
        (.seq
         (.seq
          (.reg false [
            ⟨some 25, .move (.tmp 4), none⟩,
            ⟨some 26, .move (.tmp 3), none⟩,
            ⟨some 27, .binOp .lss 3 (.tmp 25) (.tmp 26) 3, none⟩] [])
          (.cond (.tmp 27)
           .skip
           (.exit 0)))
         (.seq
          (.block 1
           (.seq
            (.reg false [
              ⟨some 5, .assign (.const (.int .i64 0)), none⟩] [])
            (.block 2
             (.loop
              (.seq
               (.seq
                (.reg false [
                  ⟨some 30, .move (.tmp 5), none⟩,
                  ⟨some 31, .fieldAddr 25 (.tmp 1) 1, none⟩,
                  ⟨some 32, .load 23 (.tmp 31), none⟩,
                  ⟨some 33, .move (.tmp 4), none⟩,
                  ⟨some 34, .indexAddr 23 (.tmp 32) (.tmp 33), none⟩,
                  ⟨some 35, .load 43 (.tmp 34), none⟩,
                  ⟨some 36, .call ⟨.builtin .len, #[(.tmp 35)], #[43]⟩, none⟩,
                  ⟨some 37, .binOp .lss 3 (.tmp 30) (.tmp 36) 3, none⟩] [])
                (.cond (.tmp 37)
                 .skip
                 (.exit 2)))
               (.seq
                (.block 3
                 (.seq
                  (.reg false [
                    ⟨some 40, .fieldAddr 25 (.tmp 1) 1, none⟩,
                    ⟨some 41, .load 23 (.tmp 40), none⟩,
                    ⟨some 42, .move (.tmp 4), none⟩,
                    ⟨some 43, .indexAddr 23 (.tmp 41) (.tmp 42), none⟩,
                    ⟨some 44, .load 43 (.tmp 43), none⟩,
                    ⟨some 45, .move (.tmp 5), none⟩,
                    ⟨some 46, .indexAddr 43 (.tmp 44) (.tmp 45), none⟩,
                    ⟨some 47, .load 3 (.tmp 46), none⟩,
                    ⟨some 6, .assign (.tmp 47), none⟩] [])
                  (.seq
                   (.reg false [
                     ⟨some 48, .move (.tmp 6), none⟩,
                     ⟨some 49, .binOp .lss 3 (.tmp 48) (.const (.int .i64 0)) 3, none⟩,
                     ⟨some 50, .move (.tmp 49), none⟩,
                     ⟨some 51, .move (.tmp 6), some (50, false)⟩,
                     ⟨some 52, .move (.tmp 3), some (50, false)⟩,
                     ⟨some 53, .binOp .geq 3 (.tmp 51) (.tmp 52) 3, some (50, false)⟩,
                     ⟨some 54, .pick (.tmp 50) (.const (.bool true)) (.tmp 53), none⟩,
                     ⟨some 55, .move (.tmp 54), none⟩,
                     ⟨some 56, .move (.tmp 6), some (55, false)⟩,
                     ⟨some 57, .move (.tmp 4), some (55, false)⟩,
                     ⟨some 58, .binOp .eql 3 (.tmp 56) (.tmp 57) 3, some (55, false)⟩,
                     ⟨some 59, .pick (.tmp 55) (.const (.bool true)) (.tmp 58), none⟩,
                     ⟨some 60, .move (.tmp 59), none⟩,
                     ⟨some 61, .move (.tmp 5), some (60, false)⟩,
                     ⟨some 62, .binOp .gtr 3 (.tmp 61) (.const (.int .i64 0)) 3, some (60, false)⟩,
                     ⟨some 63, .move (.tmp 62), some (60, false)⟩,
                     ⟨some 64, .fieldAddr 25 (.tmp 1) 1, some (63, true)⟩,
                     ⟨some 65, .load 23 (.tmp 64), some (63, true)⟩,
                     ⟨some 66, .move (.tmp 4), some (63, true)⟩,
                     ⟨some 67, .indexAddr 23 (.tmp 65) (.tmp 66), some (63, true)⟩,
                     ⟨some 68, .load 43 (.tmp 67), some (63, true)⟩,
                     ⟨some 69, .move (.tmp 5), some (63, true)⟩,
                     ⟨some 70, .binOp .sub 3 (.tmp 69) (.const (.int .i64 1)) 3, some (63, true)⟩,
                     ⟨some 71, .indexAddr 43 (.tmp 68) (.tmp 70), some (63, true)⟩,
                     ⟨some 72, .load 3 (.tmp 71), some (63, true)⟩,
                     ⟨some 73, .move (.tmp 6), some (63, true)⟩,
                     ⟨some 74, .binOp .geq 3 (.tmp 72) (.tmp 73) 3, some (63, true)⟩,
                     ⟨some 75, .pick (.tmp 63) (.tmp 74) (.const (.bool false)), some (60, false)⟩,
                     ⟨some 76, .pick (.tmp 60) (.const (.bool true)) (.tmp 75), none⟩] [])
                   (.cond (.tmp 76)
                    (.seq
                     (.reg false [
                       ⟨some 2, .assign (.const (.bool false)), none⟩] [])
                     .ret)
                    .skip))))
                (.reg false [
                  ⟨some 38, .move (.tmp 5), none⟩,
                  ⟨some 39, .binOp .add 3 (.tmp 38) (.const (.int .i64 1)) 3, none⟩,
                  ⟨some 5, .assign (.tmp 39), none⟩] [])))))))
          (.reg false [
            ⟨some 28, .move (.tmp 4), none⟩,
            ⟨some 29, .binOp .add 3 (.tmp 28) (.const (.int .i64 1)) 3, none⟩,
            ⟨some 4, .assign (.tmp 29), none⟩] []))))))
     (.seq
      (.reg false [
        ⟨some 77, .move (.tmp 3), none⟩,
        ⟨some 78, .makeSlice 84 (.tmp 77) (.tmp 77), none⟩,
        ⟨some 7, .assign (.tmp 78), none⟩] [])
      (.seq
       (.seq
        (.reg false [
          ⟨some 8, .assign (.const (.int .i64 0)), none⟩] [])
        (.block 4
         (.loop
          (.seq
           (.seq
            (.reg false [
              ⟨some 79, .move (.tmp 8), none⟩,
              ⟨some 80, .move (.tmp 3), none⟩,
              ⟨some 81, .binOp .lss 3 (.tmp 79) (.tmp 80) 3, none⟩] [])
            (.cond (.tmp 81)
             .skip
             (.exit 4)))
           (.seq
            (.block 5
             (.seq
              (.reg false [
                ⟨some 9, .assign (.const (.int .i64 0)), none⟩] [])
              (.block 6
               (.loop
                (.seq
                 (.seq
                  (.reg false [
                    ⟨some 84, .move (.tmp 9), none⟩,
                    ⟨some 85, .move (.tmp 3), none⟩,
                    ⟨some 86, .binOp .lss 3 (.tmp 84) (.tmp 85) 3, none⟩] [])
                  (.cond (.tmp 86)
                   .skip
                   (.exit 6)))
                 (.seq
                  (.block 7
                   (.seq
                    (.reg false [
                      ⟨some 10, .assign (.const (.bool true)), none⟩] [])
                    (.seq
                     (.seq
                      (.reg false [
                        ⟨some 11, .assign (.const (.int .i64 0)), none⟩] [])
                      (.block 8
                       (.loop
                        (.seq
                         (.seq
                          (.reg false [
                            ⟨some 89, .move (.tmp 11), none⟩,
                            ⟨some 90, .fieldAddr 25 (.tmp 1) 1, none⟩,
                            ⟨some 91, .load 23 (.tmp 90), none⟩,
                            ⟨some 92, .move (.tmp 9), none⟩,
                            ⟨some 93, .indexAddr 23 (.tmp 91) (.tmp 92), none⟩,
                            ⟨some 94, .load 43 (.tmp 93), none⟩,
                            ⟨some 95, .call ⟨.builtin .len, #[(.tmp 94)], #[43]⟩, none⟩,
                            ⟨some 96, .binOp .lss 3 (.tmp 89) (.tmp 95) 3, none⟩] [])
                          (.cond (.tmp 96)
                           .skip
                           (.exit 8)))
                         (.seq
                          (.block 9
                           (.reg false [
                             ⟨some 99, .move (.tmp 10), none⟩,
                             ⟨some 100, .move (.tmp 99), none⟩,
                             ⟨some 101, .move (.tmp 7), some (100, true)⟩,
                             ⟨some 102, .fieldAddr 25 (.tmp 1) 1, some (100, true)⟩,
                             ⟨some 103, .load 23 (.tmp 102), some (100, true)⟩,
                             ⟨some 104, .move (.tmp 9), some (100, true)⟩,
                             ⟨some 105, .indexAddr 23 (.tmp 103) (.tmp 104), some (100, true)⟩,
                             ⟨some 106, .load 43 (.tmp 105), some (100, true)⟩,
                             ⟨some 107, .move (.tmp 11), some (100, true)⟩,
                             ⟨some 108, .indexAddr 43 (.tmp 106) (.tmp 107), some (100, true)⟩,
                             ⟨some 109, .load 3 (.tmp 108), some (100, true)⟩,
                             ⟨some 110, .indexAddr 84 (.tmp 101) (.tmp 109), some (100, true)⟩,
                             ⟨some 111, .load 4 (.tmp 110), some (100, true)⟩,
                             ⟨some 112, .pick (.tmp 100) (.tmp 111) (.const (.bool false)), none⟩,
                             ⟨some 10, .assign (.tmp 112), none⟩] []))
                          (.reg false [
                            ⟨some 97, .move (.tmp 11), none⟩,
                            ⟨some 98, .binOp .add 3 (.tmp 97) (.const (.int .i64 1)) 3, none⟩,
                            ⟨some 11, .assign (.tmp 98), none⟩] []))))))
                     (.reg false [
                       ⟨some 113, .move (.tmp 7), none⟩,
                       ⟨some 114, .move (.tmp 9), none⟩,
                       ⟨some 115, .move (.tmp 7), none⟩,
                       ⟨some 116, .move (.tmp 9), none⟩,
                       ⟨some 117, .indexAddr 84 (.tmp 115) (.tmp 116), none⟩,
                       ⟨some 118, .load 4 (.tmp 117), none⟩,
                       ⟨some 119, .move (.tmp 118), none⟩,
                       ⟨some 120, .move (.tmp 10), some (119, false)⟩,
                       ⟨some 121, .pick (.tmp 119) (.const (.bool true)) (.tmp 120), none⟩,
                       ⟨some 122, .indexAddr 84 (.tmp 113) (.tmp 114), none⟩,
                       ⟨none, .store 4 (.tmp 122) (.tmp 121), none⟩] []))))
                  (.reg false [
                    ⟨some 87, .move (.tmp 9), none⟩,
                    ⟨some 88, .binOp .add 3 (.tmp 87) (.const (.int .i64 1)) 3, none⟩,
                    ⟨some 9, .assign (.tmp 88), none⟩] [])))))))
            (.reg false [
              ⟨some 82, .move (.tmp 8), none⟩,
              ⟨some 83, .binOp .add 3 (.tmp 82) (.const (.int .i64 1)) 3, none⟩,
              ⟨some 8, .assign (.tmp 83), none⟩] []))))))
       (.seq
        (.seq
         (.reg false [
           ⟨some 12, .assign (.const (.int .i64 0)), none⟩] [])
         (.block 10
          (.loop
           (.seq
            (.seq
             (.reg false [
               ⟨some 123, .move (.tmp 12), none⟩,
               ⟨some 124, .move (.tmp 3), none⟩,
               ⟨some 125, .binOp .lss 3 (.tmp 123) (.tmp 124) 3, none⟩] [])
             (.cond (.tmp 125)
              .skip
              (.exit 10)))
            (.seq
             (.block 11
              (.seq
               (.reg false [
                 ⟨some 128, .move (.tmp 7), none⟩,
                 ⟨some 129, .move (.tmp 12), none⟩,
                 ⟨some 130, .indexAddr 84 (.tmp 128) (.tmp 129), none⟩,
                 ⟨some 131, .load 4 (.tmp 130), none⟩,
                 ⟨some 132, .unOp .not 4 (.tmp 131), none⟩] [])
               (.cond (.tmp 132)
                (.seq
                 (.reg false [
                   ⟨some 2, .assign (.const (.bool false)), none⟩] [])
                 .ret)
                .skip)))
             (.reg false [
               ⟨some 126, .move (.tmp 12), none⟩,
               ⟨some 127, .binOp .add 3 (.tmp 126) (.const (.int .i64 1)) 3, none⟩,
               ⟨some 12, .assign (.tmp 127), none⟩] []))))))
        (.seq
         (.reg false [
           ⟨some 2, .assign (.const (.bool true)), none⟩] [])
         .ret))))))))
theorem TryL19_ok : Try.f19.body.bind (light Try.f19.ntmps) = some TryL19 := rfl

def TryL20 : LC :=
 (.seq
  (.reg false [
    ⟨some 4, .assign (.const (.bool false)), none⟩] [])
  (.seq
   (.seq
    (.reg false [
      ⟨some 6, .move (.tmp 0), none⟩,
      ⟨some 7, .call ⟨.builtin .len, #[(.tmp 6)], #[43]⟩, none⟩,
      ⟨some 8, .move (.tmp 1), none⟩,
      ⟨some 9, .call ⟨.builtin .len, #[(.tmp 8)], #[43]⟩, none⟩,
      ⟨some 10, .binOp .neq 3 (.tmp 7) (.tmp 9) 3, none⟩] [])
    (.cond (.tmp 10)
     (.seq
      (.reg false [
        ⟨some 4, .assign (.const (.bool false)), none⟩] [])
      .ret)
     .skip))
   (.seq
    (.seq
     (.reg false [
       ⟨some 5, .assign (.const (.int .i64 0)), none⟩] [])
     (.block 0
      (.loop
       (.seq
        (.seq
         (.reg false [
           ⟨some 11, .move (.tmp 5), none⟩,
           ⟨some 12, .move (.tmp 0), none⟩,
           ⟨some 13, .call ⟨.builtin .len, #[(.tmp 12)], #[43]⟩, none⟩,
           ⟨some 14, .binOp .lss 3 (.tmp 11) (.tmp 13) 3, none⟩] [])
         (.cond (.tmp 14)
          .skip
          (.exit 0)))
        (.seq
         (.block 1
          (.seq
           (.reg true [
             ⟨some 17, .move (.tmp 0), none⟩,
             ⟨some 18, .move (.tmp 5), none⟩,
             ⟨some 19, .indexAddr 43 (.tmp 17) (.tmp 18), none⟩,
             ⟨some 20, .load 3 (.tmp 19), none⟩,
             ⟨some 21, .move (.tmp 1), none⟩,
             ⟨some 22, .move (.tmp 5), none⟩,
             ⟨some 23, .indexAddr 43 (.tmp 21) (.tmp 22), none⟩,
             ⟨some 24, .load 3 (.tmp 23), none⟩,
             ⟨some 25, .binOp .neq 3 (.tmp 20) (.tmp 24) 3, none⟩] [])
           (.cond (.tmp 25)
            (.seq
             (.reg false [
               ⟨some 4, .assign (.const (.bool false)), none⟩] [])
             .ret)
            .skip)))
         (.reg false [
           ⟨some 15, .move (.tmp 5), none⟩,
           ⟨some 16, .binOp .add 3 (.tmp 15) (.const (.int .i64 1)) 3, none⟩,
           ⟨some 5, .assign (.tmp 16), none⟩] []))))))
    (.seq
     (.reg false [
       ⟨some 4, .assign (.const (.bool true)), none⟩] [])
     .ret))))
theorem TryL20_ok : Try.f20.body.bind (light Try.f20.ntmps) = some TryL20 := rfl

def TryL21 : LC :=
 (.seq
  (.reg false [
    ⟨some 1, .box 28 (.tmp 0), none⟩,
    ⟨some 2, .assign (.const (.slice none 0 0)), none⟩] [])
  (.seq
   (.reg false [
     ⟨some 3, .load 28 (.tmp 1), none⟩,
     ⟨some 4, .makeFunc (.func 50) #[] #[(.tmp 1)], none⟩,
     ⟨some 5, .call ⟨.value (.func 49), #[(.tmp 3), (.tmp 4)], #[28, 82]⟩, none⟩,
     ⟨some 2, .assign (.tmp 5), none⟩] [])
   .ret))
theorem TryL21_ok : Try.f21.body.bind (light Try.f21.ntmps) = some TryL21 := rfl

def TryL22 : LC :=
 (.seq
  (.reg false [
    ⟨some 1, .box 28 (.tmp 0), none⟩,
    ⟨some 2, .assign (.const (.slice none 0 0)), none⟩] [])
  (.seq
   (.reg false [
     ⟨some 3, .assign (.const (.slice none 0 0)), none⟩] [])
   (.seq
    (.seq
     (.reg false [
       ⟨some 4, .assign (.const (.int .i64 0)), none⟩] [])
     (.block 0
      (.loop
       (.seq
        (.seq
         (.reg false [
           ⟨some 5, .move (.tmp 4), none⟩,
           ⟨some 6, .fieldAddr 28 (.tmp 1) 3, none⟩,
           ⟨some 7, .load 26 (.tmp 6), none⟩,
           ⟨some 8, .call ⟨.builtin .len, #[(.tmp 7)], #[26]⟩, none⟩,
           ⟨some 9, .binOp .lss 3 (.tmp 5) (.tmp 8) 3, none⟩,
           ⟨some 10, .move (.tmp 9), none⟩,
           ⟨some 11, .load 28 (.tmp 1), some (10, true)⟩,
           ⟨some 12, .call ⟨.value (.func 17), #[(.tmp 11)], #[28]⟩, some (10, true)⟩,
           ⟨some 13, .pick (.tmp 10) (.tmp 12) (.const (.bool false)), none⟩] [])
         (.cond (.tmp 13)
          .skip
          (.exit 0)))
        (.seq
         (.block 1
          (.seq
           (.reg false [
             ⟨some 16, .load 28 (.tmp 1), none⟩,
             ⟨some 17, .move (.tmp 4), none⟩,
             ⟨some 18, .call ⟨.value (.func 43), #[(.tmp 16), (.tmp 17)], #[28, 3]⟩, none⟩] [])
           (.cond (.tmp 18)
            (.reg false [
              ⟨some 19, .move (.tmp 3), none⟩,
              ⟨some 20, .move (.tmp 4), none⟩,
              ⟨some 21, .buildSlice 43 1 #[(0, (.tmp 20))], none⟩,
              ⟨some 22, .call ⟨.builtin .append, #[(.tmp 19), (.tmp 21)], #[43, 43]⟩, none⟩,
              ⟨some 3, .assign (.tmp 22), none⟩] [])
            .skip)))
         (.reg false [
           ⟨some 14, .move (.tmp 4), none⟩,
           ⟨some 15, .binOp .add 3 (.tmp 14) (.const (.int .i64 1)) 3, none⟩,
           ⟨some 4, .assign (.tmp 15), none⟩] []))))))
    (.seq
     (.reg false [
       ⟨some 23, .move (.tmp 3), none⟩,
       ⟨some 2, .assign (.tmp 23), none⟩] [])
     .ret))))
theorem TryL22_ok : Try.f22.body.bind (light Try.f22.ntmps) = some TryL22 := rfl

def TryL23 : LC :=
 (.seq
  (.reg false [
    ⟨some 4, .assign (.const (.bool false)), none⟩] [])
  (.seq
   (.seq
    (.reg false [
      ⟨some 6, .move (.tmp 0), none⟩,
      ⟨some 7, .call ⟨.builtin .len, #[(.tmp 6)], #[48]⟩, none⟩,
      ⟨some 8, .move (.tmp 1), none⟩,
      ⟨some 9, .call ⟨.builtin .len, #[(.tmp 8)], #[48]⟩, none⟩,
      ⟨some 10, .binOp .neq 3 (.tmp 7) (.tmp 9) 3, none⟩] [])
    (.cond (.tmp 10)
     (.seq
      (.reg false [
        ⟨some 4, .assign (.const (.bool false)), none⟩] [])
      .ret)
     .skip))
   (.seq
    (.seq
     (.reg false [
       ⟨some 5, .assign (.const (.int .i64 0)), none⟩] [])
     (.block 0
      (.loop
       (.seq
        (.seq
         (.reg false [
           ⟨some 11, .move (.tmp 5), none⟩,
           ⟨some 12, .move (.tmp 0), none⟩,
           ⟨some 13, .call ⟨.builtin .len, #[(.tmp 12)], #[48]⟩, none⟩,
           ⟨some 14, .binOp .lss 3 (.tmp 11) (.tmp 13) 3, none⟩] [])
         (.cond (.tmp 14)
          .skip
          (.exit 0)))
        (.seq
         (.block 1
          (.seq
           (.reg true [
             ⟨some 17, .move (.tmp 0), none⟩,
             ⟨some 18, .move (.tmp 5), none⟩,
             ⟨some 19, .indexAddr 48 (.tmp 17) (.tmp 18), none⟩,
             ⟨some 20, .load 66 (.tmp 19), none⟩,
             ⟨some 21, .move (.tmp 1), none⟩,
             ⟨some 22, .move (.tmp 5), none⟩,
             ⟨some 23, .indexAddr 48 (.tmp 21) (.tmp 22), none⟩,
             ⟨some 24, .load 66 (.tmp 23), none⟩,
             ⟨some 25, .binOp .neq 66 (.tmp 20) (.tmp 24) 66, none⟩] [])
           (.cond (.tmp 25)
            (.seq
             (.reg false [
               ⟨some 4, .assign (.const (.bool false)), none⟩] [])
             .ret)
            .skip)))
         (.reg false [
           ⟨some 15, .move (.tmp 5), none⟩,
           ⟨some 16, .binOp .add 3 (.tmp 15) (.const (.int .i64 1)) 3, none⟩,
           ⟨some 5, .assign (.tmp 16), none⟩] []))))))
    (.seq
     (.reg false [
       ⟨some 4, .assign (.const (.bool true)), none⟩] [])
     .ret))))
theorem TryL23_ok : Try.f23.body.bind (light Try.f23.ntmps) = some TryL23 := rfl

def TryL24 : LC :=
 (.seq
  (.reg false [
    ⟨some 1, .box 28 (.tmp 0), none⟩,
    ⟨some 2, .assign (.const (.slice none 0 0)), none⟩] [])
  (.seq
   (.reg false [
     ⟨some 3, .assign (.const (.slice none 0 0)), none⟩] [])
   (.seq
    (.seq
     (.reg false [
       ⟨some 6, .load 28 (.tmp 1), none⟩,
       ⟨some 7, .makeFunc (.func 52) #[] #[(.tmp 1)], none⟩,
       ⟨some 8, .call ⟨.value (.func 49), #[(.tmp 6), (.tmp 7)], #[28, 82]⟩, none⟩,
       ⟨some 9, .call ⟨.builtin .len, #[(.tmp 8)], #[43]⟩, none⟩,
       ⟨some 10, .move (.const (.int .i64 0)), none⟩] [])
     (.block 0
      (.loop
       (.seq
        (.reg false [
          ⟨some 11, .binOp .lss 3 (.tmp 10) (.tmp 9) 3, none⟩] [])
        (.seq
         (.cond (.tmp 11)
          .skip
          (.exit 0))
         (.seq
          (.block 1
           (.seq
            (.reg false [
              ⟨some 12, .indexAddr 43 (.tmp 8) (.tmp 10), none⟩,
              ⟨some 13, .load 3 (.tmp 12), none⟩,
              ⟨some 5, .assign (.tmp 13), none⟩] [])
            (.reg true [
              ⟨some 14, .move (.tmp 3), none⟩,
              ⟨some 15, .fieldAddr 28 (.tmp 1) 3, none⟩,
              ⟨some 16, .load 26 (.tmp 15), none⟩,
              ⟨some 17, .move (.tmp 5), none⟩,
              ⟨some 18, .indexAddr 26 (.tmp 16) (.tmp 17), none⟩,
              ⟨some 19, .fieldAddr 42 (.tmp 18) 0, none⟩,
              ⟨some 20, .load 3 (.tmp 19), none⟩,
              ⟨some 21, .fieldAddr 28 (.tmp 1) 3, none⟩,
              ⟨some 22, .load 26 (.tmp 21), none⟩,
              ⟨some 23, .move (.tmp 5), none⟩,
              ⟨some 24, .indexAddr 26 (.tmp 22) (.tmp 23), none⟩,
              ⟨some 25, .fieldAddr 42 (.tmp 24) 1, none⟩,
              ⟨some 26, .load 3 (.tmp 25), none⟩,
              ⟨some 27, .fieldAddr 28 (.tmp 1) 2, none⟩,
              ⟨some 28, .fieldAddr 25 (.tmp 27) 0, none⟩,
              ⟨some 29, .load 22 (.tmp 28), none⟩,
              ⟨some 30, .move (.tmp 5), none⟩,
              ⟨some 31, .indexAddr 22 (.tmp 29) (.tmp 30), none⟩,
              ⟨some 32, .load 64 (.tmp 31), none⟩,
              ⟨some 33, .build 66 #[(0, (.tmp 20)), (1, (.tmp 26)), (2, (.tmp 32))], none⟩,
              ⟨some 34, .buildSlice 48 1 #[(0, (.tmp 33))], none⟩,
              ⟨some 35, .call ⟨.builtin .append, #[(.tmp 14), (.tmp 34)], #[48, 48]⟩, none⟩,
              ⟨some 3, .assign (.tmp 35), none⟩] [])))
          (.reg false [
            ⟨some 36, .binOp .add 3 (.tmp 10) (.const (.int .i64 1)) 3, none⟩,
            ⟨some 10, .move (.tmp 36), none⟩] [])))))))
    (.seq
     (.reg false [
       ⟨some 37, .move (.tmp 3), none⟩,
       ⟨some 2, .assign (.tmp 37), none⟩] [])
     .ret))))
theorem TryL24_ok : Try.f24.body.bind (light Try.f24.ntmps) = some TryL24 := rfl

def TryL25 : LC :=
 (.seq
  (.reg false [
    ⟨some 1, .box 28 (.tmp 0), none⟩,
    ⟨some 2, .assign (.const (.slice none 0 0)), none⟩] [])
  (.seq
   (.reg false [
     ⟨some 3, .assign (.const (.slice none 0 0)), none⟩] [])
   (.seq
    (.seq
     (.reg false [
       ⟨some 4, .assign (.const (.int .i64 0)), none⟩] [])
     (.block 0
      (.loop
       (.seq
        (.seq
         (.reg false [
           ⟨some 5, .move (.tmp 4), none⟩,
           ⟨some 6, .fieldAddr 28 (.tmp 1) 3, none⟩,
           ⟨some 7, .load 26 (.tmp 6), none⟩,
           ⟨some 8, .call ⟨.builtin .len, #[(.tmp 7)], #[26]⟩, none⟩,
           ⟨some 9, .binOp .lss 3 (.tmp 5) (.tmp 8) 3, none⟩,
           ⟨some 10, .move (.tmp 9), none⟩,
           ⟨some 11, .load 28 (.tmp 1), some (10, true)⟩,
           ⟨some 12, .call ⟨.value (.func 17), #[(.tmp 11)], #[28]⟩, some (10, true)⟩,
           ⟨some 13, .pick (.tmp 10) (.tmp 12) (.const (.bool false)), none⟩] [])
         (.cond (.tmp 13)
          .skip
          (.exit 0)))
        (.seq
         (.block 1
          (.seq
           (.reg false [
             ⟨some 16, .fieldAddr 28 (.tmp 1) 3, none⟩,
             ⟨some 17, .load 26 (.tmp 16), none⟩,
             ⟨some 18, .move (.tmp 4), none⟩,
             ⟨some 19, .indexAddr 26 (.tmp 17) (.tmp 18), none⟩,
             ⟨some 20, .load 42 (.tmp 19), none⟩,
             ⟨some 21, .call ⟨.value (.func 54), #[(.tmp 20)], #[42]⟩, none⟩] [])
           (.cond (.tmp 21)
            (.reg true [
              ⟨some 22, .move (.tmp 3), none⟩,
              ⟨some 23, .fieldAddr 28 (.tmp 1) 3, none⟩,
              ⟨some 24, .load 26 (.tmp 23), none⟩,
              ⟨some 25, .move (.tmp 4), none⟩,
              ⟨some 26, .indexAddr 26 (.tmp 24) (.tmp 25), none⟩,
              ⟨some 27, .fieldAddr 42 (.tmp 26) 0, none⟩,
              ⟨some 28, .load 3 (.tmp 27), none⟩,
              ⟨some 29, .fieldAddr 28 (.tmp 1) 3, none⟩,
              ⟨some 30, .load 26 (.tmp 29), none⟩,
              ⟨some 31, .move (.tmp 4), none⟩,
              ⟨some 32, .indexAddr 26 (.tmp 30) (.tmp 31), none⟩,
              ⟨some 33, .fieldAddr 42 (.tmp 32) 1, none⟩,
              ⟨some 34, .load 3 (.tmp 33), none⟩,
              ⟨some 35, .fieldAddr 28 (.tmp 1) 2, none⟩,
              ⟨some 36, .fieldAddr 25 (.tmp 35) 0, none⟩,
              ⟨some 37, .load 22 (.tmp 36), none⟩,
              ⟨some 38, .move (.tmp 4), none⟩,
              ⟨some 39, .indexAddr 22 (.tmp 37) (.tmp 38), none⟩,
              ⟨some 40, .load 64 (.tmp 39), none⟩,
              ⟨some 41, .build 66 #[(0, (.tmp 28)), (1, (.tmp 34)), (2, (.tmp 40))], none⟩,
              ⟨some 42, .buildSlice 48 1 #[(0, (.tmp 41))], none⟩,
              ⟨some 43, .call ⟨.builtin .append, #[(.tmp 22), (.tmp 42)], #[48, 48]⟩, none⟩,
              ⟨some 3, .assign (.tmp 43), none⟩] [])
            .skip)))
         (.reg false [
           ⟨some 14, .move (.tmp 4), none⟩,
           ⟨some 15, .binOp .add 3 (.tmp 14) (.const (.int .i64 1)) 3, none⟩,
           ⟨some 4, .assign (.tmp 15), none⟩] []))))))
    (.seq
     (.reg false [
       ⟨some 44, .move (.tmp 3), none⟩,
       ⟨some 2, .assign (.tmp 44), none⟩] [])
     .ret))))
theorem TryL25_ok : Try.f25.body.bind (light Try.f25.ntmps) = some TryL25 := rfl

def TryL26 : LC :=
 (.seq
  (.reg false [
    ⟨some 1, .box 28 (.tmp 0), none⟩,
    ⟨some 2, .assign (.const (.slice none 0 0)), none⟩] [])
  (.seq
   (.reg false [
     ⟨some 3, .load 28 (.tmp 1), none⟩,
     ⟨some 4, .makeFunc (.func 55) #[] #[(.tmp 1)], none⟩,
     ⟨some 5, .call ⟨.value (.func 49), #[(.tmp 3), (.tmp 4)], #[28, 82]⟩, none⟩,
     ⟨some 2, .assign (.tmp 5), none⟩] [])
   .ret))
theorem TryL26_ok : Try.f26.body.bind (light Try.f26.ntmps) = some TryL26 := rfl

def TryL27 : LC :=
 (.seq
  (.reg false [
    ⟨some 1, .box 28 (.tmp 0), none⟩,
    ⟨some 2, .assign (.const (.slice none 0 0)), none⟩] [])
  (.seq
   (.reg false [
     ⟨some 3, .assign (.const (.slice none 0 0)), none⟩] [])
   (.seq
    (.seq
     (.reg false [
       ⟨some 4, .assign (.const (.int .i64 0)), none⟩] [])
     (.block 0
      (.loop
       (.seq
        (.seq
         (.reg false [
           ⟨some 5, .move (.tmp 4), none⟩,
           ⟨some 6, .fieldAddr 28 (.tmp 1) 3, none⟩,
           ⟨some 7, .load 26 (.tmp 6), none⟩,
           ⟨some 8, .call ⟨.builtin .len, #[(.tmp 7)], #[26]⟩, none⟩,
           ⟨some 9, .binOp .lss 3 (.tmp 5) (.tmp 8) 3, none⟩,
           ⟨some 10, .move (.tmp 9), none⟩,
           ⟨some 11, .load 28 (.tmp 1), some (10, true)⟩,
           ⟨some 12, .call ⟨.value (.func 17), #[(.tmp 11)], #[28]⟩, some (10, true)⟩,
           ⟨some 13, .pick (.tmp 10) (.tmp 12) (.const (.bool false)), none⟩] [])
         (.cond (.tmp 13)
          .skip
          (.exit 0)))
        (.seq
         (.block 1
          (.seq
           (.reg false [
             ⟨some 16, .fieldAddr 28 (.tmp 1) 3, none⟩,
             ⟨some 17, .load 26 (.tmp 16), none⟩,
             ⟨some 18, .move (.tmp 4), none⟩,
             ⟨some 19, .indexAddr 26 (.tmp 17) (.tmp 18), none⟩,
             ⟨some 20, .fieldAddr 42 (.tmp 19) 2, none⟩,
             ⟨some 21, .load 30 (.tmp 20), none⟩,
             ⟨some 22, .binOp .eql 30 (.tmp 21) (.const (.int .u8 1)) 30, none⟩] [])
           (.cond (.tmp 22)
            (.reg false [
              ⟨some 23, .move (.tmp 3), none⟩,
              ⟨some 24, .move (.tmp 4), none⟩,
              ⟨some 25, .buildSlice 43 1 #[(0, (.tmp 24))], none⟩,
              ⟨some 26, .call ⟨.builtin .append, #[(.tmp 23), (.tmp 25)], #[43, 43]⟩, none⟩,
              ⟨some 3, .assign (.tmp 26), none⟩] [])
            .skip)))
         (.reg false [
           ⟨some 14, .move (.tmp 4), none⟩,
           ⟨some 15, .binOp .add 3 (.tmp 14) (.const (.int .i64 1)) 3, none⟩,
           ⟨some 4, .assign (.tmp 15), none⟩] []))))))
    (.seq
     (.reg false [
       ⟨some 27, .move (.tmp 3), none⟩,
       ⟨some 2, .assign (.tmp 27), none⟩] [])
     .ret))))
theorem TryL27_ok : Try.f27.body.bind (light Try.f27.ntmps) = some TryL27 := rfl

def TryL28 : LC :=
 (.seq
  (.reg false [
    ⟨some 1, .box 28 (.tmp 0), none⟩,
    ⟨some 2, .assign (.const (.bool false)), none⟩] [])
  (.seq
   (.reg true [
     ⟨some 3, .load 28 (.tmp 1), none⟩,
     ⟨some 4, .call ⟨.value (.func 16), #[(.tmp 3)], #[28]⟩, none⟩,
     ⟨some 5, .move (.tmp 4), none⟩,
     ⟨some 6, .load 28 (.tmp 1), some (5, true)⟩,
     ⟨some 7, .call ⟨.value (.func 26), #[(.tmp 6)], #[28]⟩, some (5, true)⟩,
     ⟨some 8, .call ⟨.builtin .len, #[(.tmp 7)], #[43]⟩, some (5, true)⟩,
     ⟨some 9, .fieldAddr 28 (.tmp 1) 3, some (5, true)⟩,
     ⟨some 10, .load 26 (.tmp 9), some (5, true)⟩,
     ⟨some 11, .call ⟨.builtin .len, #[(.tmp 10)], #[26]⟩, some (5, true)⟩,
     ⟨some 12, .binOp .eql 3 (.tmp 8) (.tmp 11) 3, some (5, true)⟩,
     ⟨some 13, .pick (.tmp 5) (.tmp 12) (.const (.bool false)), none⟩,
     ⟨some 2, .assign (.tmp 13), none⟩] [(4, 6), (4, 7), (4, 8)])
   .ret))
theorem TryL28_ok : Try.f28.body.bind (light Try.f28.ntmps) = some TryL28 := rfl

def TryL29 : LC :=
 (.seq
  (.reg false [
    ⟨some 1, .box 28 (.tmp 0), none⟩,
    ⟨some 2, .assign (.const (.bool false)), none⟩] [])
  (.seq
   (.reg true [
     ⟨some 3, .load 28 (.tmp 1), none⟩,
     ⟨some 4, .call ⟨.value (.func 17), #[(.tmp 3)], #[28]⟩, none⟩,
     ⟨some 5, .move (.tmp 4), none⟩,
     ⟨some 6, .load 28 (.tmp 1), some (5, true)⟩,
     ⟨some 7, .call ⟨.value (.func 27), #[(.tmp 6)], #[28]⟩, some (5, true)⟩,
     ⟨some 8, .call ⟨.builtin .len, #[(.tmp 7)], #[43]⟩, some (5, true)⟩,
     ⟨some 9, .fieldAddr 28 (.tmp 1) 3, some (5, true)⟩,
     ⟨some 10, .load 26 (.tmp 9), some (5, true)⟩,
     ⟨some 11, .call ⟨.builtin .len, #[(.tmp 10)], #[26]⟩, some (5, true)⟩,
     ⟨some 12, .binOp .eql 3 (.tmp 8) (.tmp 11) 3, some (5, true)⟩,
     ⟨some 13, .pick (.tmp 5) (.tmp 12) (.const (.bool false)), none⟩,
     ⟨some 2, .assign (.tmp 13), none⟩] [(4, 6), (4, 7), (4, 8)])
   .ret))
theorem TryL29_ok : Try.f29.body.bind (light Try.f29.ntmps) = some TryL29 := rfl

def TryL30 : LC :=
 (.seq
  (.reg false [
    ⟨some 2, .alloc 28, none⟩,
    ⟨some 3, .assign (.const (.int .i64 0)), none⟩,
    ⟨some 4, .assign (.const (.int .i64 0)), none⟩] [])
  (.seq
   (.reg false [
     ⟨some 10, .call ⟨.value (.func 32), #[], #[]⟩, none⟩,
     ⟨some 5, .alloc 28, none⟩,
     ⟨none, .store 28 (.tmp 5) (.tmp 10), none⟩] [])
   (.seq
    (.seq
     (.reg false [
       ⟨some 11, .move (.tmp 0), none⟩,
       ⟨some 12, .call ⟨.builtin .len, #[(.tmp 11)], #[50]⟩, none⟩,
       ⟨some 13, .binOp .gtr 3 (.tmp 12) (.const (.int .i64 400)) 3, none⟩] [])
     (.cond (.tmp 13)
      (.seq
       (.reg false [
         ⟨some 14, .load 28 (.tmp 5), none⟩,
         ⟨none, .store 28 (.tmp 2) (.tmp 14), none⟩,
         ⟨some 3, .assign (.const (.int .i64 0)), none⟩,
         ⟨some 4, .assign (.const (.int .i64 3)), none⟩] [])
       .ret)
      .skip))
    (.seq
     (.seq
      (.reg false [
        ⟨some 15, .move (.tmp 0), none⟩,
        ⟨some 16, .call ⟨.builtin .len, #[(.tmp 15)], #[50]⟩, none⟩,
        ⟨some 17, .move (.const (.int .i64 0)), none⟩] [])
      (.block 0
       (.loop
        (.seq
         (.reg false [
           ⟨some 18, .binOp .lss 3 (.tmp 17) (.tmp 16) 3, none⟩] [])
         (.seq
          (.cond (.tmp 18)
           .skip
           (.exit 0))
          (.seq
           (.block 1
            (.seq
             (.reg false [
               ⟨some 19, .move (.tmp 17), none⟩,
               ⟨some 20, .indexAddr 50 (.tmp 15) (.tmp 17), none⟩,
               ⟨some 21, .load 32 (.tmp 20), none⟩,
               ⟨some 7, .alloc 32, none⟩,
               ⟨some 6, .assign (.tmp 19), none⟩,
               ⟨none, .store 32 (.tmp 7) (.tmp 21), none⟩] [])
             (.seq
              (.reg false [
                ⟨some 23, .load 28 (.tmp 5), none⟩,
                ⟨some 24, .load 32 (.tmp 7), none⟩,
                ⟨some 25, .call ⟨.value (.func 13), #[(.tmp 23), (.tmp 24)], #[28, 32]⟩, none⟩,
                ⟨some 22, .move (.tmp 25), none⟩,
                ⟨some 26, .extract (.tmp 22) 0, none⟩,
                ⟨some 27, .extract (.tmp 22) 1, none⟩,
                ⟨some 8, .alloc 28, none⟩,
                ⟨none, .store 28 (.tmp 8) (.tmp 26), none⟩,
                ⟨some 9, .assign (.tmp 27), none⟩] [])
              (.seq
               (.seq
                (.reg false [
                  ⟨some 28, .move (.tmp 9), none⟩,
                  ⟨some 29, .binOp .neq 36 (.tmp 28) (.const (.int .i64 0)) 36, none⟩] [])
                (.cond (.tmp 29)
                 (.seq
                  (.reg false [
                    ⟨some 30, .load 28 (.tmp 5), none⟩,
                    ⟨some 31, .move (.tmp 6), none⟩,
                    ⟨none, .store 28 (.tmp 2) (.tmp 30), none⟩,
                    ⟨some 3, .assign (.tmp 31), none⟩,
                    ⟨some 4, .assign (.const (.int .i64 8)), none⟩] [])
                  .ret)
                 .skip))
               (.reg false [
                 ⟨some 32, .load 28 (.tmp 8), none⟩,
                 ⟨none, .store 28 (.tmp 5) (.tmp 32), none⟩] [])))))
           (.reg false [
             ⟨some 33, .binOp .add 3 (.tmp 17) (.const (.int .i64 1)) 3, none⟩,
             ⟨some 17, .move (.tmp 33), none⟩] [])))))))
     (.seq
      (.reg false [
        ⟨some 34, .load 28 (.tmp 5), none⟩,
        ⟨some 35, .move (.tmp 0), none⟩,
        ⟨some 36, .call ⟨.builtin .len, #[(.tmp 35)], #[50]⟩, none⟩,
        ⟨none, .store 28 (.tmp 2) (.tmp 34), none⟩,
        ⟨some 3, .assign (.tmp 36), none⟩,
        ⟨some 4, .assign (.const (.int .i64 0)), none⟩] [])
      .ret)))))
theorem TryL30_ok : Try.f30.body.bind (light Try.f30.ntmps) = some TryL30 := rfl

def TryL31 : LC :=
 (.seq
  (.reg false [
    ⟨some 2, .alloc 28, none⟩,
    ⟨some 3, .assign (.const (.int .i64 0)), none⟩,
    ⟨some 4, .assign (.const (.int .i64 0)), none⟩] [])
  (.seq
   (.reg false [
     ⟨some 9, .call ⟨.value (.func 33), #[], #[]⟩, none⟩,
     ⟨some 5, .alloc 28, none⟩,
     ⟨none, .store 28 (.tmp 5) (.tmp 9), none⟩] [])
   (.seq
    (.seq
     (.reg false [
       ⟨some 10, .move (.tmp 0), none⟩,
       ⟨some 11, .call ⟨.builtin .len, #[(.tmp 10)], #[50]⟩, none⟩,
       ⟨some 12, .binOp .gtr 3 (.tmp 11) (.const (.int .i64 400)) 3, none⟩] [])
     (.cond (.tmp 12)
      (.seq
       (.reg false [
         ⟨some 13, .load 28 (.tmp 5), none⟩,
         ⟨none, .store 28 (.tmp 2) (.tmp 13), none⟩,
         ⟨some 3, .assign (.const (.int .i64 0)), none⟩,
         ⟨some 4, .assign (.const (.int .i64 3)), none⟩] [])
       .ret)
      .skip))
    (.seq
     (.seq
      (.reg false [
        ⟨some 6, .assign (.const (.int .i64 0)), none⟩] [])
      (.block 0
       (.loop
        (.seq
         (.seq
          (.reg false [
            ⟨some 14, .move (.tmp 6), none⟩,
            ⟨some 15, .move (.tmp 0), none⟩,
            ⟨some 16, .call ⟨.builtin .len, #[(.tmp 15)], #[50]⟩, none⟩,
            ⟨some 17, .binOp .lss 3 (.tmp 14) (.tmp 16) 3, none⟩] [])
          (.cond (.tmp 17)
           .skip
           (.exit 0)))
         (.seq
          (.block 1
           (.seq
            (.reg true [
              ⟨some 21, .load 28 (.tmp 5), none⟩,
              ⟨some 22, .move (.tmp 0), none⟩,
              ⟨some 23, .move (.tmp 6), none⟩,
              ⟨some 24, .indexAddr 50 (.tmp 22) (.tmp 23), none⟩,
              ⟨some 25, .load 32 (.tmp 24), none⟩,
              ⟨some 26, .call ⟨.value (.func 14), #[(.tmp 21), (.tmp 25)], #[28, 32]⟩, none⟩,
              ⟨some 20, .move (.tmp 26), none⟩,
              ⟨some 27, .extract (.tmp 20) 0, none⟩,
              ⟨some 28, .extract (.tmp 20) 1, none⟩,
              ⟨some 7, .alloc 28, none⟩,
              ⟨none, .store 28 (.tmp 7) (.tmp 27), none⟩,
              ⟨some 8, .assign (.tmp 28), none⟩] [(0, 9), (3, 9), (4, 9), (5, 9)])
            (.seq
             (.seq
              (.reg false [
                ⟨some 29, .move (.tmp 8), none⟩,
                ⟨some 30, .binOp .neq 36 (.tmp 29) (.const (.int .i64 0)) 36, none⟩] [])
              (.cond (.tmp 30)
               (.seq
                (.reg false [
                  ⟨some 31, .load 28 (.tmp 5), none⟩,
                  ⟨some 32, .move (.tmp 6), none⟩,
                  ⟨none, .store 28 (.tmp 2) (.tmp 31), none⟩,
                  ⟨some 3, .assign (.tmp 32), none⟩,
                  ⟨some 4, .assign (.const (.int .i64 8)), none⟩] [])
                .ret)
               .skip))
             (.reg false [
               ⟨some 33, .load 28 (.tmp 7), none⟩,
               ⟨none, .store 28 (.tmp 5) (.tmp 33), none⟩] []))))
          (.reg false [
            ⟨some 18, .move (.tmp 6), none⟩,
            ⟨some 19, .binOp .add 3 (.tmp 18) (.const (.int .i64 1)) 3, none⟩,
            ⟨some 6, .assign (.tmp 19), none⟩] []))))))
     (.seq
      (.reg false [
        ⟨some 34, .load 28 (.tmp 5), none⟩,
        ⟨some 35, .move (.tmp 0), none⟩,
        ⟨some 36, .call ⟨.builtin .len, #[(.tmp 35)], #[50]⟩, none⟩,
        ⟨none, .store 28 (.tmp 2) (.tmp 34), none⟩,
        ⟨some 3, .assign (.tmp 36), none⟩,
        ⟨some 4, .assign (.const (.int .i64 0)), none⟩] [])
      .ret)))))
theorem TryL31_ok : Try.f31.body.bind (light Try.f31.ntmps) = some TryL31 := rfl

def TryL32 : LC :=
 (.seq
  (.reg false [
    ⟨some 0, .alloc 28, none⟩] [])
  (.seq
   (.reg false [
     ⟨some 1, .build 28 #[(4, (.const (.int .i64 1)))], none⟩,
     ⟨none, .store 28 (.tmp 0) (.tmp 1), none⟩] [])
   .ret))
theorem TryL32_ok : Try.f32.body.bind (light Try.f32.ntmps) = some TryL32 := rfl

def TryL33 : LC :=
 (.seq
  (.reg false [
    ⟨some 0, .alloc 28, none⟩] [])
  (.seq
   (.reg false [
     ⟨some 1, .build 28 #[(4, (.const (.int .i64 1)))], none⟩,
     ⟨none, .store 28 (.tmp 0) (.tmp 1), none⟩] [])
   .ret))
theorem TryL33_ok : Try.f33.body.bind (light Try.f33.ntmps) = some TryL33 := rfl

def TryL34 : LC :=
 (.seq
  (.reg false [
    ⟨some 2, .box 28 (.tmp 0), none⟩,
    ⟨some 3, .box 59 (.tmp 1), none⟩,
    ⟨some 4, .alloc 28, none⟩,
    ⟨some 5, .alloc 32, none⟩,
    ⟨some 6, .assign (.const (.bool false)), none⟩] [])
  (.seq
   (.seq
    (.reg false [
      ⟨some 10, .fieldAddr 59 (.tmp 3) 2, none⟩,
      ⟨some 11, .load 25 (.tmp 10), none⟩,
      ⟨some 12, .call ⟨.value (.func 10), #[(.tmp 11)], #[25]⟩, none⟩,
      ⟨some 13, .unOp .not 4 (.tmp 12), none⟩] [])
    (.cond (.tmp 13)
     (.seq
      (.reg false [
        ⟨some 14, .load 28 (.tmp 2), none⟩,
        ⟨some 15, .build 32 #[], none⟩,
        ⟨none, .store 28 (.tmp 4) (.tmp 14), none⟩,
        ⟨none, .store 32 (.tmp 5) (.tmp 15), none⟩,
        ⟨some 6, .assign (.const (.bool false)), none⟩] [])
      .ret)
     .skip))
   (.seq
    (.reg false [
      ⟨some 16, .load 28 (.tmp 2), none⟩,
      ⟨some 17, .load 59 (.tmp 3), none⟩,
      ⟨some 18, .call ⟨.value (.func 57), #[(.tmp 16), (.tmp 17)], #[28, 59]⟩, none⟩,
      ⟨some 7, .alloc 32, none⟩,
      ⟨none, .store 32 (.tmp 7) (.tmp 18), none⟩] [])
    (.seq
     (.reg false [
       ⟨some 20, .load 28 (.tmp 2), none⟩,
       ⟨some 21, .load 32 (.tmp 7), none⟩,
       ⟨some 22, .call ⟨.value (.func 13), #[(.tmp 20), (.tmp 21)], #[28, 32]⟩, none⟩,
       ⟨some 19, .move (.tmp 22), none⟩,
       ⟨some 23, .extract (.tmp 19) 0, none⟩,
       ⟨some 24, .extract (.tmp 19) 1, none⟩,
       ⟨some 8, .alloc 28, none⟩,
       ⟨none, .store 28 (.tmp 8) (.tmp 23), none⟩,
       ⟨some 9, .assign (.tmp 24), none⟩] [])
     (.seq
      (.seq
       (.reg false [
         ⟨some 25, .move (.tmp 9), none⟩,
         ⟨some 26, .binOp .neq 36 (.tmp 25) (.const (.int .i64 0)) 36, none⟩] [])
       (.cond (.tmp 26)
        (.seq
         (.reg true [
           ⟨some 27, .load 28 (.tmp 2), none⟩,
           ⟨some 28, .load 32 (.tmp 7), none⟩,
           ⟨none, .store 28 (.tmp 4) (.tmp 27), none⟩,
           ⟨none, .store 32 (.tmp 5) (.tmp 28), none⟩,
           ⟨some 6, .assign (.const (.bool false)), none⟩] [(1, 2)])
         .ret)
        .skip))
      (.seq
       (.reg true [
         ⟨some 29, .load 28 (.tmp 8), none⟩,
         ⟨some 30, .load 32 (.tmp 7), none⟩,
         ⟨none, .store 28 (.tmp 4) (.tmp 29), none⟩,
         ⟨none, .store 32 (.tmp 5) (.tmp 30), none⟩,
         ⟨some 6, .assign (.const (.bool true)), none⟩] [(1, 2)])
       .ret))))))
theorem TryL34_ok : Try.f34.body.bind (light Try.f34.ntmps) = some TryL34 := rfl

def TryL35 : LC :=
 (.seq
  (.reg false [
    ⟨some 4, .assign (.const (.bool false)), none⟩] [])
  (.seq
   (.seq
    (.reg false [
      ⟨some 5, .assign (.const (.int .i64 0)), none⟩] [])
    (.block 0
     (.loop
      (.seq
       (.seq
        (.reg false [
          ⟨some 6, .move (.tmp 5), none⟩,
          ⟨some 7, .move (.tmp 0), none⟩,
          ⟨some 8, .call ⟨.builtin .len, #[(.tmp 7)], #[43]⟩, none⟩,
          ⟨some 9, .binOp .lss 3 (.tmp 6) (.tmp 8) 3, none⟩] [])
        (.cond (.tmp 9)
         .skip
         (.exit 0)))
       (.seq
        (.block 1
         (.seq
          (.reg false [
            ⟨some 12, .move (.tmp 0), none⟩,
            ⟨some 13, .move (.tmp 5), none⟩,
            ⟨some 14, .indexAddr 43 (.tmp 12) (.tmp 13), none⟩,
            ⟨some 15, .load 3 (.tmp 14), none⟩,
            ⟨some 16, .move (.tmp 1), none⟩,
            ⟨some 17, .binOp .eql 3 (.tmp 15) (.tmp 16) 3, none⟩] [])
          (.cond (.tmp 17)
           (.seq
            (.reg false [
              ⟨some 4, .assign (.const (.bool true)), none⟩] [])
            .ret)
           .skip)))
        (.reg false [
          ⟨some 10, .move (.tmp 5), none⟩,
          ⟨some 11, .binOp .add 3 (.tmp 10) (.const (.int .i64 1)) 3, none⟩,
          ⟨some 5, .assign (.tmp 11), none⟩] []))))))
   (.seq
    (.reg false [
      ⟨some 4, .assign (.const (.bool false)), none⟩] [])
    .ret)))
theorem TryL35_ok : Try.f35.body.bind (light Try.f35.ntmps) = some TryL35 := rfl

def TryL36 : LC :=
 (.seq
  (.reg false [
    ⟨some 6, .alloc 32, none⟩] [])
  (.seq
   (.reg false [
     ⟨some 7, .move (.tmp 0), none⟩,
     ⟨some 8, .move (.tmp 1), none⟩,
     ⟨some 9, .move (.tmp 2), none⟩,
     ⟨some 10, .build 32 #[(0, (.const (.int .u8 2))), (1, (.tmp 7)), (2, (.tmp 8)), (3, (.tmp 9))], none⟩,
     ⟨none, .store 32 (.tmp 6) (.tmp 10), none⟩] [])
   .ret))
theorem TryL36_ok : Try.f36.body.bind (light Try.f36.ntmps) = some TryL36 := rfl

def TryL37 : LC :=
 (.seq
  (.reg false [
    ⟨some 4, .alloc 32, none⟩] [])
  (.seq
   (.reg false [
     ⟨some 5, .move (.tmp 0), none⟩,
     ⟨some 6, .move (.tmp 1), none⟩,
     ⟨some 7, .build 32 #[(0, (.const (.int .u8 3))), (2, (.tmp 5)), (4, (.tmp 6))], none⟩,
     ⟨none, .store 32 (.tmp 4) (.tmp 7), none⟩] [])
   .ret))
theorem TryL37_ok : Try.f37.body.bind (light Try.f37.ntmps) = some TryL37 := rfl

def TryL38 : LC :=
 (.seq
  (.reg false [
    ⟨some 0, .alloc 25, none⟩] [])
  (.seq
   (.reg false [
     ⟨some 1, .build 64 #[(0, (.const (.int .u8 1))), (1, (.const (.int .i64 1)))], none⟩,
     ⟨some 2, .build 64 #[(0, (.const (.int .u8 2))), (1, (.const (.int .i64 2)))], none⟩,
     ⟨some 3, .buildSlice 22 2 #[(0, (.tmp 1)), (1, (.tmp 2))], none⟩,
     ⟨some 4, .buildSlice 43 1 #[(0, (.const (.int .i64 0)))], none⟩,
     ⟨some 5, .buildSlice 23 2 #[(0, (.const (.slice none 0 0))), (1, (.tmp 4))], none⟩,
     ⟨some 6, .build 25 #[(0, (.tmp 3)), (1, (.tmp 5))], none⟩,
     ⟨none, .store 25 (.tmp 0) (.tmp 6), none⟩] [])
   .ret))
theorem TryL38_ok : Try.f38.body.bind (light Try.f38.ntmps) = some TryL38 := rfl

def TryL39 : LC :=
 (.seq
  (.reg false [
    ⟨some 1, .box 25 (.tmp 0), none⟩,
    ⟨some 2, .alloc 25, none⟩] [])
  (.seq
   (.reg false [
     ⟨some 3, .alloc 25, none⟩] [])
   (.seq
    (.reg false [
      ⟨some 6, .fieldAddr 25 (.tmp 3) 0, none⟩,
      ⟨some 7, .load 22 (.tmp 6), none⟩,
      ⟨some 8, .fieldAddr 25 (.tmp 1) 0, none⟩,
      ⟨some 9, .load 22 (.tmp 8), none⟩,
      ⟨some 10, .call ⟨.builtin .append, #[(.tmp 7), (.tmp 9)], #[22, 22]⟩, none⟩,
      ⟨some 11, .fieldAddr 25 (.tmp 3) 0, none⟩,
      ⟨none, .store 22 (.tmp 11) (.tmp 10), none⟩] [])
    (.seq
     (.seq
      (.reg false [
        ⟨some 4, .assign (.const (.int .i64 0)), none⟩] [])
      (.block 0
       (.loop
        (.seq
         (.seq
          (.reg false [
            ⟨some 12, .move (.tmp 4), none⟩,
            ⟨some 13, .fieldAddr 25 (.tmp 1) 1, none⟩,
            ⟨some 14, .load 23 (.tmp 13), none⟩,
            ⟨some 15, .call ⟨.builtin .len, #[(.tmp 14)], #[23]⟩, none⟩,
            ⟨some 16, .binOp .lss 3 (.tmp 12) (.tmp 15) 3, none⟩] [])
          (.cond (.tmp 16)
           .skip
           (.exit 0)))
         (.seq
          (.block 1
           (.seq
            (.reg false [
              ⟨some 5, .assign (.const (.slice none 0 0)), none⟩] [])
            (.reg true [
              ⟨some 19, .fieldAddr 25 (.tmp 3) 1, none⟩,
              ⟨some 20, .load 23 (.tmp 19), none⟩,
              ⟨some 21, .move (.tmp 5), none⟩,
              ⟨some 22, .fieldAddr 25 (.tmp 1) 1, none⟩,
              ⟨some 23, .load 23 (.tmp 22), none⟩,
              ⟨some 24, .move (.tmp 4), none⟩,
              ⟨some 25, .indexAddr 23 (.tmp 23) (.tmp 24), none⟩,
              ⟨some 26, .load 43 (.tmp 25), none⟩,
              ⟨some 27, .call ⟨.builtin .append, #[(.tmp 21), (.tmp 26)], #[43, 43]⟩, none⟩,
              ⟨some 28, .buildSlice 23 1 #[(0, (.tmp 27))], none⟩,
              ⟨some 29, .call ⟨.builtin .append, #[(.tmp 20), (.tmp 28)], #[23, 23]⟩, none⟩,
              ⟨some 30, .fieldAddr 25 (.tmp 3) 1, none⟩,
              ⟨none, .store 23 (.tmp 30) (.tmp 29), none⟩] [(0, 8), (1, 8), (0, 9), (1, 9)])))
          (.reg false [
            ⟨some 17, .move (.tmp 4), none⟩,
            ⟨some 18, .binOp .add 3 (.tmp 17) (.const (.int .i64 1)) 3, none⟩,
            ⟨some 4, .assign (.tmp 18), none⟩] []))))))
     (.seq
      (.reg false [
        ⟨some 31, .load 25 (.tmp 3), none⟩,
        ⟨none, .store 25 (.tmp 2) (.tmp 31), none⟩] [])
      .ret)))))
theorem TryL39_ok : Try.f39.body.bind (light Try.f39.ntmps) = some TryL39 := rfl

def TryL40 : LC :=
 (.seq
  (.reg false [
    ⟨some 1, .box 25 (.tmp 0), none⟩,
    ⟨some 2, .alloc 25, none⟩] [])
  (.seq
   (.reg false [
     ⟨some 6, .fieldAddr 25 (.tmp 1) 0, none⟩,
     ⟨some 7, .load 22 (.tmp 6), none⟩,
     ⟨some 8, .call ⟨.value (.func 58), #[(.tmp 7)], #[22]⟩, none⟩,
     ⟨some 9, .build 25 #[(0, (.tmp 8))], none⟩,
     ⟨some 3, .alloc 25, none⟩,
     ⟨none, .store 25 (.tmp 3) (.tmp 9), none⟩] [])
   (.seq
    (.seq
     (.reg false [
       ⟨some 10, .fieldAddr 25 (.tmp 1) 1, none⟩,
       ⟨some 11, .load 23 (.tmp 10), none⟩,
       ⟨some 12, .call ⟨.builtin .len, #[(.tmp 11)], #[23]⟩, none⟩,
       ⟨some 13, .move (.const (.int .i64 0)), none⟩] [])
     (.block 0
      (.loop
       (.seq
        (.reg false [
          ⟨some 14, .binOp .lss 3 (.tmp 13) (.tmp 12) 3, none⟩] [])
        (.seq
         (.cond (.tmp 14)
          .skip
          (.exit 0))
         (.seq
          (.block 1
           (.seq
            (.reg false [
              ⟨some 15, .indexAddr 23 (.tmp 11) (.tmp 13), none⟩,
              ⟨some 16, .load 43 (.tmp 15), none⟩,
              ⟨some 5, .assign (.tmp 16), none⟩] [])
            (.reg true [
              ⟨some 17, .fieldAddr 25 (.tmp 3) 1, none⟩,
              ⟨some 18, .load 23 (.tmp 17), none⟩,
              ⟨some 19, .move (.tmp 5), none⟩,
              ⟨some 20, .call ⟨.value (.func 59), #[(.tmp 19)], #[43]⟩, none⟩,
              ⟨some 21, .buildSlice 23 1 #[(0, (.tmp 20))], none⟩,
              ⟨some 22, .call ⟨.builtin .append, #[(.tmp 18), (.tmp 21)], #[23, 23]⟩, none⟩,
              ⟨some 23, .fieldAddr 25 (.tmp 3) 1, none⟩,
              ⟨none, .store 23 (.tmp 23) (.tmp 22), none⟩] [(0, 3), (1, 3), (0, 4), (1, 4)])))
          (.reg false [
            ⟨some 24, .binOp .add 3 (.tmp 13) (.const (.int .i64 1)) 3, none⟩,
            ⟨some 13, .move (.tmp 24), none⟩] [])))))))
    (.seq
     (.reg false [
       ⟨some 25, .load 25 (.tmp 3), none⟩,
       ⟨none, .store 25 (.tmp 2) (.tmp 25), none⟩] [])
     .ret))))
theorem TryL40_ok : Try.f40.body.bind (light Try.f40.ntmps) = some TryL40 := rfl

def TryL41 : LC :=
 (.seq
  (.reg false [
    ⟨some 2, .assign (.const (.slice none 0 0)), none⟩] [])
  (.seq
   (.seq
    (.reg false [
      ⟨some 3, .move (.tmp 0), none⟩,
      ⟨some 4, .binOp .eql 26 (.tmp 3) (.const (.slice none 0 0)) 26, none⟩] [])
    (.cond (.tmp 4)
     (.seq
      (.reg false [
        ⟨some 2, .assign (.const (.slice none 0 0)), none⟩] [])
      .ret)
     .skip))
   (.seq
    (.reg false [
      ⟨some 5, .buildSlice 26 0 #[], none⟩,
      ⟨some 6, .move (.tmp 0), none⟩,
      ⟨some 7, .call ⟨.builtin .append, #[(.tmp 5), (.tmp 6)], #[26, 26]⟩, none⟩,
      ⟨some 2, .assign (.tmp 7), none⟩] [])
    .ret)))
theorem TryL41_ok : Try.f41.body.bind (light Try.f41.ntmps) = some TryL41 := rfl

def TryL42 : LC :=
 (.seq
  (.reg false [
    ⟨some 0, .assign (.const (.map none)), none⟩] [])
  (.seq
   (.reg false [
     ⟨some 1, .makeMap 74 none, none⟩,
     ⟨none, .insert 74 (.tmp 1) (.const (.int .u8 1)) (.func 60), none⟩,
     ⟨none, .insert 74 (.tmp 1) (.const (.int .u8 2)) (.func 61), none⟩,
     ⟨none, .insert 74 (.tmp 1) (.const (.int .u8 3)) (.func 62), none⟩,
     ⟨none, .insert 74 (.tmp 1) (.const (.int .u8 4)) (.func 65), none⟩,
     ⟨none, .insert 74 (.tmp 1) (.const (.int .u8 5)) (.func 66), none⟩,
     ⟨some 2, .move (.tmp 1), none⟩,
     ⟨some 0, .assign (.tmp 2), none⟩] [])
   .ret))
theorem TryL42_ok : Try.f42.body.bind (light Try.f42.ntmps) = some TryL42 := rfl

def TryL43 : LC :=
 (.seq
  (.reg false [
    ⟨some 2, .box 28 (.tmp 0), none⟩,
    ⟨some 4, .assign (.const (.bool false)), none⟩] [])
  (.seq
   (.seq
    (.reg false [
      ⟨some 7, .fieldAddr 28 (.tmp 2) 0, none⟩,
      ⟨some 8, .load 4 (.tmp 7), none⟩,
      ⟨some 9, .unOp .not 4 (.tmp 8), none⟩,
      ⟨some 10, .move (.tmp 9), none⟩,
      ⟨some 11, .fieldAddr 28 (.tmp 2) 1, some (10, false)⟩,
      ⟨some 12, .load 4 (.tmp 11), some (10, false)⟩,
      ⟨some 13, .pick (.tmp 10) (.const (.bool true)) (.tmp 12), none⟩,
      ⟨some 14, .move (.tmp 13), none⟩,
      ⟨some 15, .move (.tmp 1), some (14, false)⟩,
      ⟨some 16, .binOp .lss 3 (.tmp 15) (.const (.int .i64 0)) 3, some (14, false)⟩,
      ⟨some 17, .pick (.tmp 14) (.const (.bool true)) (.tmp 16), none⟩,
      ⟨some 18, .move (.tmp 17), none⟩,
      ⟨some 19, .move (.tmp 1), some (18, false)⟩,
      ⟨some 20, .fieldAddr 28 (.tmp 2) 3, some (18, false)⟩,
      ⟨some 21, .load 26 (.tmp 20), some (18, false)⟩,
      ⟨some 22, .call ⟨.builtin .len, #[(.tmp 21)], #[26]⟩, some (18, false)⟩,
      ⟨some 23, .binOp .geq 3 (.tmp 19) (.tmp 22) 3, some (18, false)⟩,
      ⟨some 24, .pick (.tmp 18) (.const (.bool true)) (.tmp 23), none⟩] [])
    (.cond (.tmp 24)
     (.seq
      (.reg false [
        ⟨some 4, .assign (.const (.bool false)), none⟩] [])
      .ret)
     .skip))
   (.seq
    (.reg false [
      ⟨some 25, .fieldAddr 28 (.tmp 2) 3, none⟩,
      ⟨some 26, .load 26 (.tmp 25), none⟩,
      ⟨some 27, .move (.tmp 1), none⟩,
      ⟨some 28, .indexAddr 26 (.tmp 26) (.tmp 27), none⟩,
      ⟨some 29, .load 42 (.tmp 28), none⟩,
      ⟨some 5, .alloc 42, none⟩,
      ⟨none, .store 42 (.tmp 5) (.tmp 29), none⟩] [])
    (.seq
     (.seq
      (.reg false [
        ⟨some 30, .fieldAddr 42 (.tmp 5) 0, none⟩,
        ⟨some 31, .load 3 (.tmp 30), none⟩,
        ⟨some 32, .binOp .neq 3 (.tmp 31) (.const (.int .i64 0)) 3, none⟩,
        ⟨some 33, .move (.tmp 32), none⟩,
        ⟨some 34, .fieldAddr 42 (.tmp 5) 2, some (33, true)⟩,
        ⟨some 35, .load 30 (.tmp 34), some (33, true)⟩,
        ⟨some 36, .binOp .neq 30 (.tmp 35) (.const (.int .u8 2)) 30, some (33, true)⟩,
        ⟨some 37, .pick (.tmp 33) (.tmp 36) (.const (.bool false)), none⟩] [])
      (.cond (.tmp 37)
       (.seq
        (.reg false [
          ⟨some 4, .assign (.const (.bool false)), none⟩] [])
        .ret)
       .skip))
     (.seq
      (.seq
       (.reg false [
         ⟨some 6, .assign (.const (.int .i64 0)), none⟩] [])
       (.block 0
        (.loop
         (.seq
          (.seq
           (.reg false [
             ⟨some 38, .move (.tmp 6), none⟩,
             ⟨some 39, .fieldAddr 28 (.tmp 2) 2, none⟩,
             ⟨some 40, .fieldAddr 25 (.tmp 39) 1, none⟩,
             ⟨some 41, .load 23 (.tmp 40), none⟩,
             ⟨some 42, .move (.tmp 1), none⟩,
             ⟨some 43, .indexAddr 23 (.tmp 41) (.tmp 42), none⟩,
             ⟨some 44, .load 43 (.tmp 43), none⟩,
             ⟨some 45, .call ⟨.builtin .len, #[(.tmp 44)], #[43]⟩, none⟩,
             ⟨some 46, .binOp .lss 3 (.tmp 38) (.tmp 45) 3, none⟩] [])
           (.cond (.tmp 46)
            .skip
            (.exit 0)))
          (.seq
           (.block 1
            (.seq
             (.reg true [
               ⟨some 49, .fieldAddr 28 (.tmp 2) 3, none⟩,
               ⟨some 50, .load 26 (.tmp 49), none⟩,
               ⟨some 51, .fieldAddr 28 (.tmp 2) 2, none⟩,
               ⟨some 52, .fieldAddr 25 (.tmp 51) 1, none⟩,
               ⟨some 53, .load 23 (.tmp 52), none⟩,
               ⟨some 54, .move (.tmp 1), none⟩,
               ⟨some 55, .indexAddr 23 (.tmp 53) (.tmp 54), none⟩,
               ⟨some 56, .load 43 (.tmp 55), none⟩,
               ⟨some 57, .move (.tmp 6), none⟩,
               ⟨some 58, .indexAddr 43 (.tmp 56) (.tmp 57), none⟩,
               ⟨some 59, .load 3 (.tmp 58), none⟩,
               ⟨some 60, .indexAddr 26 (.tmp 50) (.tmp 59), none⟩,
               ⟨some 61, .fieldAddr 42 (.tmp 60) 2, none⟩,
               ⟨some 62, .load 30 (.tmp 61), none⟩,
               ⟨some 63, .binOp .neq 30 (.tmp 62) (.const (.int .u8 1)) 30, none⟩] [])
             (.cond (.tmp 63)
              (.seq
               (.reg false [
                 ⟨some 4, .assign (.const (.bool false)), none⟩] [])
               .ret)
              .skip)))
           (.reg false [
             ⟨some 47, .move (.tmp 6), none⟩,
             ⟨some 48, .binOp .add 3 (.tmp 47) (.const (.int .i64 1)) 3, none⟩,
             ⟨some 6, .assign (.tmp 48), none⟩] []))))))
      (.seq
       (.reg false [
         ⟨some 4, .assign (.const (.bool true)), none⟩] [])
       .ret))))))
theorem TryL43_ok : Try.f43.body.bind (light Try.f43.ntmps) = some TryL43 := rfl

def TryL44 : LC :=
 (.seq
  (.reg false [
    ⟨some 2, .box 28 (.tmp 0), none⟩,
    ⟨some 4, .assign (.const (.int .i64 0)), none⟩] [])
  (.seq
   (.seq
    (.reg false [
      ⟨some 5, .assign (.const (.int .i64 0)), none⟩] [])
    (.block 0
     (.loop
      (.seq
       (.seq
        (.reg false [
          ⟨some 6, .move (.tmp 5), none⟩,
          ⟨some 7, .fieldAddr 28 (.tmp 2) 3, none⟩,
          ⟨some 8, .load 26 (.tmp 7), none⟩,
          ⟨some 9, .call ⟨.builtin .len, #[(.tmp 8)], #[26]⟩, none⟩,
          ⟨some 10, .binOp .lss 3 (.tmp 6) (.tmp 9) 3, none⟩] [])
        (.cond (.tmp 10)
         .skip
         (.exit 0)))
       (.seq
        (.block 1
         (.seq
          (.reg false [
            ⟨some 13, .fieldAddr 28 (.tmp 2) 3, none⟩,
            ⟨some 14, .load 26 (.tmp 13), none⟩,
            ⟨some 15, .move (.tmp 5), none⟩,
            ⟨some 16, .indexAddr 26 (.tmp 14) (.tmp 15), none⟩,
            ⟨some 17, .load 42 (.tmp 16), none⟩,
            ⟨some 18, .call ⟨.value (.func 54), #[(.tmp 17)], #[42]⟩, none⟩,
            ⟨some 19, .move (.tmp 18), none⟩,
            ⟨some 20, .fieldAddr 28 (.tmp 2) 3, some (19, true)⟩,
            ⟨some 21, .load 26 (.tmp 20), some (19, true)⟩,
            ⟨some 22, .move (.tmp 5), some (19, true)⟩,
            ⟨some 23, .indexAddr 26 (.tmp 21) (.tmp 22), some (19, true)⟩,
            ⟨some 24, .fieldAddr 42 (.tmp 23) 0, some (19, true)⟩,
            ⟨some 25, .load 3 (.tmp 24), some (19, true)⟩,
            ⟨some 26, .move (.tmp 1), some (19, true)⟩,
            ⟨some 27, .binOp .eql 3 (.tmp 25) (.tmp 26) 3, some (19, true)⟩,
            ⟨some 28, .pick (.tmp 19) (.tmp 27) (.const (.bool false)), none⟩] [])
          (.cond (.tmp 28)
           (.seq
            (.reg false [
              ⟨some 29, .move (.tmp 5), none⟩,
              ⟨some 4, .assign (.tmp 29), none⟩] [])
            .ret)
           .skip)))
        (.reg false [
          ⟨some 11, .move (.tmp 5), none⟩,
          ⟨some 12, .binOp .add 3 (.tmp 11) (.const (.int .i64 1)) 3, none⟩,
          ⟨some 5, .assign (.tmp 12), none⟩] []))))))
   (.seq
    (.reg false [
      ⟨some 4, .assign (.const (.int .i64 (-1))), none⟩] [])
    .ret)))
theorem TryL44_ok : Try.f44.body.bind (light Try.f44.ntmps) = some TryL44 := rfl

def TryL45 : LC :=
 (.seq
  (.reg false [
    ⟨some 1, .box 28 (.tmp 0), none⟩,
    ⟨some 2, .assign (.const (.bool false)), none⟩] [])
  (.seq
   (.seq
    (.reg false [
      ⟨some 3, .assign (.const (.int .i64 0)), none⟩] [])
    (.block 0
     (.loop
      (.seq
       (.seq
        (.reg false [
          ⟨some 4, .move (.tmp 3), none⟩,
          ⟨some 5, .fieldAddr 28 (.tmp 1) 3, none⟩,
          ⟨some 6, .load 26 (.tmp 5), none⟩,
          ⟨some 7, .call ⟨.builtin .len, #[(.tmp 6)], #[26]⟩, none⟩,
          ⟨some 8, .binOp .lss 3 (.tmp 4) (.tmp 7) 3, none⟩] [])
        (.cond (.tmp 8)
         .skip
         (.exit 0)))
       (.seq
        (.block 1
         (.seq
          (.reg false [
            ⟨some 11, .fieldAddr 28 (.tmp 1) 3, none⟩,
            ⟨some 12, .load 26 (.tmp 11), none⟩,
            ⟨some 13, .move (.tmp 3), none⟩,
            ⟨some 14, .indexAddr 26 (.tmp 12) (.tmp 13), none⟩,
            ⟨some 15, .load 42 (.tmp 14), none⟩,
            ⟨some 16, .call ⟨.value (.func 54), #[(.tmp 15)], #[42]⟩, none⟩] [])
          (.cond (.tmp 16)
           (.seq
            (.reg false [
              ⟨some 2, .assign (.const (.bool false)), none⟩] [])
            .ret)
           .skip)))
        (.reg false [
          ⟨some 9, .move (.tmp 3), none⟩,
          ⟨some 10, .binOp .add 3 (.tmp 9) (.const (.int .i64 1)) 3, none⟩,
          ⟨some 3, .assign (.tmp 10), none⟩] []))))))
   (.seq
    (.reg false [
      ⟨some 2, .assign (.const (.bool true)), none⟩] [])
    .ret)))
theorem TryL45_ok : Try.f45.body.bind (light Try.f45.ntmps) = some TryL45 := rfl

def TryL46 : LC :=
 (.seq
  (.reg false [
    ⟨some 2, .box 25 (.tmp 0), none⟩,
    ⟨some 3, .box 25 (.tmp 1), none⟩,
    ⟨some 4, .assign (.const (.bool false)), none⟩] [])
  (.seq
   (.seq
    (.reg false [
      ⟨some 7, .fieldAddr 25 (.tmp 2) 0, none⟩,
      ⟨some 8, .load 22 (.tmp 7), none⟩,
      ⟨some 9, .call ⟨.builtin .len, #[(.tmp 8)], #[22]⟩, none⟩,
      ⟨some 10, .fieldAddr 25 (.tmp 3) 0, none⟩,
      ⟨some 11, .load 22 (.tmp 10), none⟩,
      ⟨some 12, .call ⟨.builtin .len, #[(.tmp 11)], #[22]⟩, none⟩,
      ⟨some 13, .binOp .neq 3 (.tmp 9) (.tmp 12) 3, none⟩,
      ⟨some 14, .move (.tmp 13), none⟩,
      ⟨some 15, .fieldAddr 25 (.tmp 2) 1, some (14, false)⟩,
      ⟨some 16, .load 23 (.tmp 15), some (14, false)⟩,
      ⟨some 17, .call ⟨.builtin .len, #[(.tmp 16)], #[23]⟩, some (14, false)⟩,
      ⟨some 18, .fieldAddr 25 (.tmp 3) 1, some (14, false)⟩,
      ⟨some 19, .load 23 (.tmp 18), some (14, false)⟩,
      ⟨some 20, .call ⟨.builtin .len, #[(.tmp 19)], #[23]⟩, some (14, false)⟩,
      ⟨some 21, .binOp .neq 3 (.tmp 17) (.tmp 20) 3, some (14, false)⟩,
      ⟨some 22, .pick (.tmp 14) (.const (.bool true)) (.tmp 21), none⟩] [])
    (.cond (.tmp 22)
     (.seq
      (.reg false [
        ⟨some 4, .assign (.const (.bool false)), none⟩] [])
      .ret)
     .skip))
   (.seq
    (.seq
     (.reg false [
       ⟨some 5, .assign (.const (.int .i64 0)), none⟩] [])
     (.block 0
      (.loop
       (.seq
        (.seq
         (.reg false [
           ⟨some 23, .move (.tmp 5), none⟩,
           ⟨some 24, .fieldAddr 25 (.tmp 2) 0, none⟩,
           ⟨some 25, .load 22 (.tmp 24), none⟩,
           ⟨some 26, .call ⟨.builtin .len, #[(.tmp 25)], #[22]⟩, none⟩,
           ⟨some 27, .binOp .lss 3 (.tmp 23) (.tmp 26) 3, none⟩] [])
         (.cond (.tmp 27)
          .skip
          (.exit 0)))
        (.seq
         (.block 1
          (.seq
           (.reg true [
             ⟨some 30, .fieldAddr 25 (.tmp 2) 0, none⟩,
             ⟨some 31, .load 22 (.tmp 30), none⟩,
             ⟨some 32, .move (.tmp 5), none⟩,
             ⟨some 33, .indexAddr 22 (.tmp 31) (.tmp 32), none⟩,
             ⟨some 34, .load 64 (.tmp 33), none⟩,
             ⟨some 35, .fieldAddr 25 (.tmp 3) 0, none⟩,
             ⟨some 36, .load 22 (.tmp 35), none⟩,
             ⟨some 37, .move (.tmp 5), none⟩,
             ⟨some 38, .indexAddr 22 (.tmp 36) (.tmp 37), none⟩,
             ⟨some 39, .load 64 (.tmp 38), none⟩,
             ⟨some 40, .binOp .neq 64 (.tmp 34) (.tmp 39) 64, none⟩] [])
           (.cond (.tmp 40)
            (.seq
             (.reg false [
               ⟨some 4, .assign (.const (.bool false)), none⟩] [])
             .ret)
            .skip)))
         (.reg false [
           ⟨some 28, .move (.tmp 5), none⟩,
           ⟨some 29, .binOp .add 3 (.tmp 28) (.const (.int .i64 1)) 3, none⟩,
           ⟨some 5, .assign (.tmp 29), none⟩] []))))))
    (.seq
     (.seq
      (.reg false [
        ⟨some 6, .assign (.const (.int .i64 0)), none⟩] [])
      (.block 2
       (.loop
        (.seq
         (.seq
          (.reg false [
            ⟨some 41, .move (.tmp 6), none⟩,
            ⟨some 42, .fieldAddr 25 (.tmp 2) 1, none⟩,
            ⟨some 43, .load 23 (.tmp 42), none⟩,
            ⟨some 44, .call ⟨.builtin .len, #[(.tmp 43)], #[23]⟩, none⟩,
            ⟨some 45, .binOp .lss 3 (.tmp 41) (.tmp 44) 3, none⟩] [])
          (.cond (.tmp 45)
           .skip
           (.exit 2)))
         (.seq
          (.block 3
           (.seq
            (.reg true [
              ⟨some 48, .fieldAddr 25 (.tmp 2) 1, none⟩,
              ⟨some 49, .load 23 (.tmp 48), none⟩,
              ⟨some 50, .move (.tmp 6), none⟩,
              ⟨some 51, .indexAddr 23 (.tmp 49) (.tmp 50), none⟩,
              ⟨some 52, .load 43 (.tmp 51), none⟩,
              ⟨some 53, .fieldAddr 25 (.tmp 3) 1, none⟩,
              ⟨some 54, .load 23 (.tmp 53), none⟩,
              ⟨some 55, .move (.tmp 6), none⟩,
              ⟨some 56, .indexAddr 23 (.tmp 54) (.tmp 55), none⟩,
              ⟨some 57, .load 43 (.tmp 56), none⟩,
              ⟨some 58, .call ⟨.value (.func 68), #[(.tmp 52), (.tmp 57)], #[43, 43]⟩, none⟩,
              ⟨some 59, .unOp .not 4 (.tmp 58), none⟩] [])
            (.cond (.tmp 59)
             (.seq
              (.reg false [
                ⟨some 4, .assign (.const (.bool false)), none⟩] [])
              .ret)
             .skip)))
          (.reg false [
            ⟨some 46, .move (.tmp 6), none⟩,
            ⟨some 47, .binOp .add 3 (.tmp 46) (.const (.int .i64 1)) 3, none⟩,
            ⟨some 6, .assign (.tmp 47), none⟩] []))))))
     (.seq
      (.reg false [
        ⟨some 4, .assign (.const (.bool true)), none⟩] [])
      .ret)))))
theorem TryL46_ok : Try.f46.body.bind (light Try.f46.ntmps) = some TryL46 := rfl

def TryL47 : LC :=
 (.seq
  (.reg false [
    ⟨some 3, .assign (.const (.bool false)), none⟩] [])
  (.seq
   (.reg false [
     ⟨some 7, .load 80 (.tmp 1), none⟩,
     ⟨some 8, .move (.tmp 0), none⟩,
     ⟨some 9, .lookup 80 (.tmp 7) (.tmp 8) true, none⟩,
     ⟨some 6, .move (.tmp 9), none⟩,
     ⟨some 10, .extract (.tmp 6) 0, none⟩,
     ⟨some 11, .extract (.tmp 6) 1, none⟩,
     ⟨some 4, .assign (.tmp 10), none⟩,
     ⟨some 5, .assign (.tmp 11), none⟩] [])
   (.seq
    (.reg false [
      ⟨some 12, .move (.tmp 5), none⟩,
      ⟨some 3, .assign (.tmp 12), none⟩] [])
    .ret)))
theorem TryL47_ok : Try.f47.body.bind (light Try.f47.ntmps) = some TryL47 := rfl

def TryL48 : LC :=
 (.seq
  (.reg false [
    ⟨some 4, .assign (.const (.bool false)), none⟩] [])
  (.seq
   (.reg false [
     ⟨some 5, .move (.tmp 0), none⟩,
     ⟨some 6, .move (.tmp 1), none⟩,
     ⟨some 7, .call ⟨.value (.func 69), #[(.tmp 5), (.tmp 6)], #[43, 82]⟩, none⟩,
     ⟨some 8, .binOp .geq 3 (.tmp 7) (.const (.int .i64 0)) 3, none⟩,
     ⟨some 4, .assign (.tmp 8), none⟩] [])
   .ret))
theorem TryL48_ok : Try.f48.body.bind (light Try.f48.ntmps) = some TryL48 := rfl

def TryL49 : LC :=
 (.seq
  (.reg false [
    ⟨some 2, .box 28 (.tmp 0), none⟩,
    ⟨some 4, .assign (.const (.slice none 0 0)), none⟩] [])
  (.seq
   (.reg false [
     ⟨some 5, .assign (.const (.slice none 0 0)), none⟩] [])
   (.seq
    (.seq
     (.reg false [
       ⟨some 7, .load 28 (.tmp 2), none⟩,
       ⟨some 8, .call ⟨.value (.func 16), #[(.tmp 7)], #[28]⟩, none⟩,
       ⟨some 9, .unOp .not 4 (.tmp 8), none⟩] [])
     (.cond (.tmp 9)
      (.seq
       (.reg false [
         ⟨some 4, .assign (.const (.slice none 0 0)), none⟩] [])
       .ret)
      .skip))
    (.seq
     (.seq
      (.reg false [
        ⟨some 10, .fieldAddr 28 (.tmp 2) 3, none⟩,
        ⟨some 11, .load 26 (.tmp 10), none⟩,
        ⟨some 12, .call ⟨.builtin .len, #[(.tmp 11)], #[26]⟩, none⟩,
        ⟨some 13, .move (.const (.int .i64 0)), none⟩] [])
      (.block 0
       (.loop
        (.seq
         (.reg false [
           ⟨some 14, .binOp .lss 3 (.tmp 13) (.tmp 12) 3, none⟩] [])
         (.seq
          (.cond (.tmp 14)
           .skip
           (.exit 0))
          (.seq
           (.block 1
            (.seq
             (.reg false [
               ⟨some 15, .move (.tmp 13), none⟩,
               ⟨some 6, .assign (.tmp 15), none⟩] [])
             (.seq
              (.reg false [
                ⟨some 16, .move (.tmp 1), none⟩,
                ⟨some 17, .move (.tmp 6), none⟩,
                ⟨some 18, .call ⟨.value (.tmp 16), #[(.tmp 17)], #[3]⟩, none⟩] [])
              (.cond (.tmp 18)
               (.reg false [
                 ⟨some 19, .move (.tmp 5), none⟩,
                 ⟨some 20, .move (.tmp 6), none⟩,
                 ⟨some 21, .buildSlice 43 1 #[(0, (.tmp 20))], none⟩,
                 ⟨some 22, .call ⟨.builtin .append, #[(.tmp 19), (.tmp 21)], #[43, 43]⟩, none⟩,
                 ⟨some 5, .assign (.tmp 22), none⟩] [])
               .skip))))
           (.reg false [
             ⟨some 23, .binOp .add 3 (.tmp 13) (.const (.int .i64 1)) 3, none⟩,
             ⟨some 13, .move (.tmp 23), none⟩] [])))))))
     (.seq
      (.reg false [
        ⟨some 24, .move (.tmp 5), none⟩,
        ⟨some 4, .assign (.tmp 24), none⟩] [])
      .ret)))))
theorem TryL49_ok : Try.f49.body.bind (light Try.f49.ntmps) = some TryL49 := rfl

def TryL50 : LC :=
 (.seq
  (.reg false [
    ⟨some 3, .assign (.const (.bool false)), none⟩] [])
  (.seq
   (.reg false [
     ⟨some 4, .load 28 (.tmp 1), none⟩,
     ⟨some 5, .move (.tmp 0), none⟩,
     ⟨some 6, .call ⟨.value (.func 51), #[(.tmp 4), (.tmp 5)], #[28, 3]⟩, none⟩,
     ⟨some 3, .assign (.tmp 6), none⟩] [])
   .ret))
theorem TryL50_ok : Try.f50.body.bind (light Try.f50.ntmps) = some TryL50 := rfl

def TryL51 : LC :=
 (.seq
  (.reg false [
    ⟨some 2, .box 28 (.tmp 0), none⟩,
    ⟨some 4, .assign (.const (.bool false)), none⟩] [])
  (.seq
   (.seq
    (.reg false [
      ⟨some 6, .fieldAddr 28 (.tmp 2) 0, none⟩,
      ⟨some 7, .load 4 (.tmp 6), none⟩,
      ⟨some 8, .unOp .not 4 (.tmp 7), none⟩,
      ⟨some 9, .move (.tmp 8), none⟩,
      ⟨some 10, .fieldAddr 28 (.tmp 2) 1, some (9, false)⟩,
      ⟨some 11, .load 4 (.tmp 10), some (9, false)⟩,
      ⟨some 12, .pick (.tmp 9) (.const (.bool true)) (.tmp 11), none⟩,
      ⟨some 13, .move (.tmp 12), none⟩,
      ⟨some 14, .move (.tmp 1), some (13, false)⟩,
      ⟨some 15, .binOp .lss 3 (.tmp 14) (.const (.int .i64 0)) 3, some (13, false)⟩,
      ⟨some 16, .pick (.tmp 13) (.const (.bool true)) (.tmp 15), none⟩,
      ⟨some 17, .move (.tmp 16), none⟩,
      ⟨some 18, .move (.tmp 1), some (17, false)⟩,
      ⟨some 19, .fieldAddr 28 (.tmp 2) 3, some (17, false)⟩,
      ⟨some 20, .load 26 (.tmp 19), some (17, false)⟩,
      ⟨some 21, .call ⟨.builtin .len, #[(.tmp 20)], #[26]⟩, some (17, false)⟩,
      ⟨some 22, .binOp .geq 3 (.tmp 18) (.tmp 21) 3, some (17, false)⟩,
      ⟨some 23, .pick (.tmp 17) (.const (.bool true)) (.tmp 22), none⟩] [])
    (.cond (.tmp 23)
     (.seq
      (.reg false [
        ⟨some 4, .assign (.const (.bool false)), none⟩] [])
      .ret)
     .skip))
   (.seq
    (.seq
     (.reg false [
       ⟨some 24, .fieldAddr 28 (.tmp 2) 3, none⟩,
       ⟨some 25, .load 26 (.tmp 24), none⟩,
       ⟨some 26, .move (.tmp 1), none⟩,
       ⟨some 27, .indexAddr 26 (.tmp 25) (.tmp 26), none⟩,
       ⟨some 28, .load 42 (.tmp 27), none⟩,
       ⟨some 5, .alloc 42, none⟩,
       ⟨none, .store 42 (.tmp 5) (.tmp 28), none⟩] [])
     (.seq
      (.reg false [
        ⟨some 29, .fieldAddr 42 (.tmp 5) 0, none⟩,
        ⟨some 30, .load 3 (.tmp 29), none⟩,
        ⟨some 31, .binOp .neq 3 (.tmp 30) (.const (.int .i64 0)) 3, none⟩,
        ⟨some 32, .move (.tmp 31), none⟩,
        ⟨some 33, .fieldAddr 42 (.tmp 5) 2, some (32, true)⟩,
        ⟨some 34, .load 30 (.tmp 33), some (32, true)⟩,
        ⟨some 35, .binOp .neq 30 (.tmp 34) (.const (.int .u8 2)) 30, some (32, true)⟩,
        ⟨some 36, .pick (.tmp 32) (.tmp 35) (.const (.bool false)), none⟩] [])
      (.cond (.tmp 36)
       (.seq
        (.reg false [
          ⟨some 4, .assign (.const (.bool false)), none⟩] [])
        .ret)
       .skip)))
    (.seq
     (.reg false [
       ⟨some 37, .fieldAddr 28 (.tmp 2) 2, none⟩,
       ⟨some 38, .fieldAddr 25 (.tmp 37) 1, none⟩,
       ⟨some 39, .load 23 (.tmp 38), none⟩,
       ⟨some 40, .move (.tmp 1), none⟩,
       ⟨some 41, .indexAddr 23 (.tmp 39) (.tmp 40), none⟩,
       ⟨some 42, .load 43 (.tmp 41), none⟩,
       ⟨some 43, .makeFunc (.func 70) #[] #[(.tmp 2)], none⟩,
       ⟨some 44, .call ⟨.value (.func 48), #[(.tmp 42), (.tmp 43)], #[43, 82]⟩, none⟩,
       ⟨some 45, .unOp .not 4 (.tmp 44), none⟩,
       ⟨some 4, .assign (.tmp 45), none⟩] [])
     .ret))))
theorem TryL51_ok : Try.f51.body.bind (light Try.f51.ntmps) = some TryL51 := rfl

def TryL52 : LC :=
 (.seq
  (.reg false [
    ⟨some 3, .assign (.const (.bool false)), none⟩] [])
  (.seq
   (.reg false [
     ⟨some 4, .fieldAddr 28 (.tmp 1) 3, none⟩,
     ⟨some 5, .load 26 (.tmp 4), none⟩,
     ⟨some 6, .move (.tmp 0), none⟩,
     ⟨some 7, .indexAddr 26 (.tmp 5) (.tmp 6), none⟩,
     ⟨some 8, .load 42 (.tmp 7), none⟩,
     ⟨some 9, .call ⟨.value (.func 53), #[(.tmp 8)], #[42]⟩, none⟩,
     ⟨some 3, .assign (.tmp 9), none⟩] [])
   .ret))
theorem TryL52_ok : Try.f52.body.bind (light Try.f52.ntmps) = some TryL52 := rfl

def TryL53 : LC :=
 (.seq
  (.reg false [
    ⟨some 1, .box 42 (.tmp 0), none⟩,
    ⟨some 2, .assign (.const (.bool false)), none⟩] [])
  (.seq
   (.reg false [
     ⟨some 3, .fieldAddr 42 (.tmp 1) 0, none⟩,
     ⟨some 4, .load 3 (.tmp 3), none⟩,
     ⟨some 5, .binOp .neq 3 (.tmp 4) (.const (.int .i64 0)) 3, none⟩,
     ⟨some 6, .move (.tmp 5), none⟩,
     ⟨some 7, .fieldAddr 42 (.tmp 1) 2, some (6, true)⟩,
     ⟨some 8, .load 30 (.tmp 7), some (6, true)⟩,
     ⟨some 9, .binOp .eql 30 (.tmp 8) (.const (.int .u8 0)) 30, some (6, true)⟩,
     ⟨some 10, .pick (.tmp 6) (.tmp 9) (.const (.bool false)), none⟩,
     ⟨some 2, .assign (.tmp 10), none⟩] [])
   .ret))
theorem TryL53_ok : Try.f53.body.bind (light Try.f53.ntmps) = some TryL53 := rfl

def TryL54 : LC :=
 (.seq
  (.reg false [
    ⟨some 1, .box 42 (.tmp 0), none⟩,
    ⟨some 2, .assign (.const (.bool false)), none⟩] [])
  (.seq
   (.reg false [
     ⟨some 3, .fieldAddr 42 (.tmp 1) 0, none⟩,
     ⟨some 4, .load 3 (.tmp 3), none⟩,
     ⟨some 5, .binOp .neq 3 (.tmp 4) (.const (.int .i64 0)) 3, none⟩,
     ⟨some 6, .move (.tmp 5), none⟩,
     ⟨some 7, .fieldAddr 42 (.tmp 1) 2, some (6, true)⟩,
     ⟨some 8, .load 30 (.tmp 7), some (6, true)⟩,
     ⟨some 9, .binOp .eql 30 (.tmp 8) (.const (.int .u8 0)) 30, some (6, true)⟩,
     ⟨some 10, .pick (.tmp 6) (.tmp 9) (.const (.bool false)), none⟩,
     ⟨some 2, .assign (.tmp 10), none⟩] [])
   .ret))
theorem TryL54_ok : Try.f54.body.bind (light Try.f54.ntmps) = some TryL54 := rfl

def TryL55 : LC :=
 (.seq
  (.reg false [
    ⟨some 3, .assign (.const (.bool false)), none⟩] [])
  (.seq
   (.reg false [
     ⟨some 4, .fieldAddr 28 (.tmp 1) 3, none⟩,
     ⟨some 5, .load 26 (.tmp 4), none⟩,
     ⟨some 6, .move (.tmp 0), none⟩,
     ⟨some 7, .indexAddr 26 (.tmp 5) (.tmp 6), none⟩,
     ⟨some 8, .load 42 (.tmp 7), none⟩,
     ⟨some 9, .call ⟨.value (.func 56), #[(.tmp 8)], #[42]⟩, none⟩,
     ⟨some 3, .assign (.tmp 9), none⟩] [])
   .ret))
theorem TryL55_ok : Try.f55.body.bind (light Try.f55.ntmps) = some TryL55 := rfl

def TryL56 : LC :=
 (.seq
  (.reg false [
    ⟨some 1, .box 42 (.tmp 0), none⟩,
    ⟨some 2, .assign (.const (.bool false)), none⟩] [])
  (.seq
   (.reg false [
     ⟨some 3, .fieldAddr 42 (.tmp 1) 2, none⟩,
     ⟨some 4, .load 30 (.tmp 3), none⟩,
     ⟨some 5, .binOp .eql 30 (.tmp 4) (.const (.int .u8 1)) 30, none⟩,
     ⟨some 2, .assign (.tmp 5), none⟩] [])
   .ret))
theorem TryL56_ok : Try.f56.body.bind (light Try.f56.ntmps) = some TryL56 := rfl

def TryL57 : LC :=
 (.seq
  (.reg false [
    ⟨some 2, .box 28 (.tmp 0), none⟩,
    ⟨some 3, .box 59 (.tmp 1), none⟩,
    ⟨some 4, .alloc 32, none⟩] [])
  (.seq
   (.reg true [
     ⟨some 8, .load 28 (.tmp 2), none⟩,
     ⟨some 9, .call ⟨.value (.func 22), #[(.tmp 8)], #[28]⟩, none⟩,
     ⟨some 10, .load 28 (.tmp 2), none⟩,
     ⟨some 11, .call ⟨.value (.func 25), #[(.tmp 10)], #[28]⟩, none⟩,
     ⟨some 5, .assign (.tmp 9), none⟩,
     ⟨some 6, .assign (.tmp 11), none⟩] [(1, 2)])
   (.seq
    (.block 0
     (.seq
      (.reg false [
        ⟨some 13, .fieldAddr 59 (.tmp 3) 0, none⟩,
        ⟨some 14, .load 5 (.tmp 13), none⟩,
        ⟨some 15, .binOp .rem 5 (.tmp 14) (.const (.int .u8 8)) 5, none⟩,
        ⟨some 16, .binOp .eql 5 (.tmp 15) (.const (.int .u8 0)) 5, none⟩,
        ⟨some 12, .assign (.tmp 16), none⟩] [])
      (.cond (.tmp 12)
       (.seq
        (.reg false [
          ⟨some 17, .fieldAddr 59 (.tmp 3) 2, none⟩,
          ⟨some 18, .load 25 (.tmp 17), none⟩,
          ⟨some 19, .build 32 #[(0, (.const (.int .u8 1))), (5, (.tmp 18))], none⟩,
          ⟨none, .store 32 (.tmp 4) (.tmp 19), none⟩] [])
        .ret)
       (.seq
        (.reg false [
          ⟨some 21, .fieldAddr 59 (.tmp 3) 0, none⟩,
          ⟨some 22, .load 5 (.tmp 21), none⟩,
          ⟨some 23, .binOp .rem 5 (.tmp 22) (.const (.int .u8 8)) 5, none⟩,
          ⟨some 24, .binOp .leq 5 (.tmp 23) (.const (.int .u8 3)) 5, none⟩,
          ⟨some 25, .move (.tmp 24), none⟩,
          ⟨some 26, .move (.tmp 5), some (25, true)⟩,
          ⟨some 27, .call ⟨.builtin .len, #[(.tmp 26)], #[43]⟩, some (25, true)⟩,
          ⟨some 28, .binOp .gtr 3 (.tmp 27) (.const (.int .i64 0)) 3, some (25, true)⟩,
          ⟨some 29, .pick (.tmp 25) (.tmp 28) (.const (.bool false)), none⟩,
          ⟨some 20, .assign (.tmp 29), none⟩] [])
        (.cond (.tmp 20)
         (.seq
          (.reg true [
            ⟨some 30, .move (.tmp 5), none⟩,
            ⟨some 31, .fieldAddr 59 (.tmp 3) 1, none⟩,
            ⟨some 32, .load 5 (.tmp 31), none⟩,
            ⟨some 33, .convert 5 3 (.tmp 32), none⟩,
            ⟨some 34, .move (.tmp 5), none⟩,
            ⟨some 35, .call ⟨.builtin .len, #[(.tmp 34)], #[43]⟩, none⟩,
            ⟨some 36, .binOp .rem 3 (.tmp 33) (.tmp 35) 3, none⟩,
            ⟨some 37, .indexAddr 43 (.tmp 30) (.tmp 36), none⟩,
            ⟨some 38, .load 3 (.tmp 37), none⟩,
            ⟨some 39, .fieldAddr 28 (.tmp 2) 4, none⟩,
            ⟨some 40, .load 3 (.tmp 39), none⟩,
            ⟨some 41, .fieldAddr 59 (.tmp 3) 1, none⟩,
            ⟨some 42, .load 5 (.tmp 41), none⟩,
            ⟨some 43, .convert 5 3 (.tmp 42), none⟩,
            ⟨some 44, .call ⟨.value (.func 36), #[(.tmp 38), (.tmp 40), (.tmp 43)], #[3, 3, 3]⟩, none⟩,
            ⟨none, .store 32 (.tmp 4) (.tmp 44), none⟩] [])
          .ret)
         (.seq
          (.reg false [
            ⟨some 46, .fieldAddr 59 (.tmp 3) 0, none⟩,
            ⟨some 47, .load 5 (.tmp 46), none⟩,
            ⟨some 48, .binOp .rem 5 (.tmp 47) (.const (.int .u8 8)) 5, none⟩,
            ⟨some 49, .binOp .leq 5 (.tmp 48) (.const (.int .u8 5)) 5, none⟩,
            ⟨some 50, .move (.tmp 49), none⟩,
            ⟨some 51, .move (.tmp 6), some (50, true)⟩,
            ⟨some 52, .call ⟨.builtin .len, #[(.tmp 51)], #[48]⟩, some (50, true)⟩,
            ⟨some 53, .binOp .gtr 3 (.tmp 52) (.const (.int .i64 0)) 3, some (50, true)⟩,
            ⟨some 54, .pick (.tmp 50) (.tmp 53) (.const (.bool false)), none⟩,
            ⟨some 45, .assign (.tmp 54), none⟩] [])
          (.cond (.tmp 45)
           (.seq
            (.reg false [
              ⟨some 7, .assign (.const (.int .u8 1)), none⟩] [])
            (.seq
             (.seq
              (.reg false [
                ⟨some 55, .fieldAddr 59 (.tmp 3) 1, none⟩,
                ⟨some 56, .load 5 (.tmp 55), none⟩,
                ⟨some 57, .binOp .geq 5 (.tmp 56) (.const (.int .u8 200)) 5, none⟩] [])
              (.cond (.tmp 57)
               (.reg false [
                 ⟨some 58, .fieldAddr 59 (.tmp 3) 1, none⟩,
                 ⟨some 59, .load 5 (.tmp 58), none⟩,
                 ⟨some 60, .binOp .rem 5 (.tmp 59) (.const (.int .u8 4)) 5, none⟩,
                 ⟨some 61, .binOp .add 5 (.const (.int .u8 1)) (.tmp 60) 5, none⟩,
                 ⟨some 7, .assign (.tmp 61), none⟩] [])
               .skip))
             (.seq
              (.reg false [
                ⟨some 62, .move (.tmp 6), none⟩,
                ⟨some 63, .fieldAddr 59 (.tmp 3) 1, none⟩,
                ⟨some 64, .load 5 (.tmp 63), none⟩,
                ⟨some 65, .convert 5 3 (.tmp 64), none⟩,
                ⟨some 66, .move (.tmp 6), none⟩,
                ⟨some 67, .call ⟨.builtin .len, #[(.tmp 66)], #[48]⟩, none⟩,
                ⟨some 68, .binOp .rem 3 (.tmp 65) (.tmp 67) 3, none⟩,
                ⟨some 69, .indexAddr 48 (.tmp 62) (.tmp 68), none⟩,
                ⟨some 70, .fieldAddr 66 (.tmp 69) 0, none⟩,
                ⟨some 71, .load 3 (.tmp 70), none⟩,
                ⟨some 72, .move (.tmp 7), none⟩,
                ⟨some 73, .call ⟨.value (.func 37), #[(.tmp 71), (.tmp 72)], #[3, 30]⟩, none⟩,
                ⟨none, .store 32 (.tmp 4) (.tmp 73), none⟩] [])
              .ret)))
           (.seq
            (.reg false [
              ⟨some 75, .fieldAddr 59 (.tmp 3) 0, none⟩,
              ⟨some 76, .load 5 (.tmp 75), none⟩,
              ⟨some 77, .binOp .eql 5 (.tmp 76) (.const (.int .u8 255)) 5, none⟩,
              ⟨some 74, .assign (.tmp 77), none⟩] [])
            (.cond (.tmp 74)
             (.seq
              (.reg false [
                ⟨some 78, .build 32 #[(0, (.const (.int .u8 4)))], none⟩,
                ⟨none, .store 32 (.tmp 4) (.tmp 78), none⟩] [])
              .ret)
             .skip)))))))))
    (.seq
     (.reg false [
       ⟨some 79, .build 32 #[(0, (.const (.int .u8 5)))], none⟩,
       ⟨none, .store 32 (.tmp 4) (.tmp 79), none⟩] [])
     .ret))))
theorem TryL57_ok : Try.f57.body.bind (light Try.f57.ntmps) = some TryL57 := rfl

def TryL58 : LC :=
 (.seq
  (.reg false [
    ⟨some 2, .assign (.const (.slice none 0 0)), none⟩] [])
  (.seq
   (.seq
    (.reg false [
      ⟨some 3, .move (.tmp 0), none⟩,
      ⟨some 4, .binOp .eql 22 (.tmp 3) (.const (.slice none 0 0)) 22, none⟩] [])
    (.cond (.tmp 4)
     (.seq
      (.reg false [
        ⟨some 2, .assign (.const (.slice none 0 0)), none⟩] [])
      .ret)
     .skip))
   (.seq
    (.reg false [
      ⟨some 5, .buildSlice 22 0 #[], none⟩,
      ⟨some 6, .move (.tmp 0), none⟩,
      ⟨some 7, .call ⟨.builtin .append, #[(.tmp 5), (.tmp 6)], #[22, 22]⟩, none⟩,
      ⟨some 2, .assign (.tmp 7), none⟩] [])
    .ret)))
theorem TryL58_ok : Try.f58.body.bind (light Try.f58.ntmps) = some TryL58 := rfl

def TryL59 : LC :=
 (.seq
  (.reg false [
    ⟨some 2, .assign (.const (.slice none 0 0)), none⟩] [])
  (.seq
   (.seq
    (.reg false [
      ⟨some 3, .move (.tmp 0), none⟩,
      ⟨some 4, .binOp .eql 43 (.tmp 3) (.const (.slice none 0 0)) 43, none⟩] [])
    (.cond (.tmp 4)
     (.seq
      (.reg false [
        ⟨some 2, .assign (.const (.slice none 0 0)), none⟩] [])
      .ret)
     .skip))
   (.seq
    (.reg false [
      ⟨some 5, .buildSlice 43 0 #[], none⟩,
      ⟨some 6, .move (.tmp 0), none⟩,
      ⟨some 7, .call ⟨.builtin .append, #[(.tmp 5), (.tmp 6)], #[43, 43]⟩, none⟩,
      ⟨some 2, .assign (.tmp 7), none⟩] [])
    .ret)))
theorem TryL59_ok : Try.f59.body.bind (light Try.f59.ntmps) = some TryL59 := rfl

def TryL60 : LC :=
 (.seq
  (.reg false [
    ⟨some 3, .box 32 (.tmp 1), none⟩,
    ⟨some 4, .assign (.const (.bool false)), none⟩] [])
  (.seq
   (.seq
    (.reg false [
      ⟨some 5, .move (.tmp 0), none⟩,
      ⟨some 6, .nilCheck (.tmp 5), none⟩,
      ⟨some 7, .fieldAddr 28 (.tmp 6) 0, none⟩,
      ⟨some 8, .load 4 (.tmp 7), none⟩,
      ⟨some 9, .move (.tmp 8), none⟩,
      ⟨some 10, .fieldAddr 32 (.tmp 3) 5, some (9, false)⟩,
      ⟨some 11, .load 25 (.tmp 10), some (9, false)⟩,
      ⟨some 12, .call ⟨.value (.func 18), #[(.tmp 11)], #[25]⟩, some (9, false)⟩,
      ⟨some 13, .unOp .not 4 (.tmp 12), some (9, false)⟩,
      ⟨some 14, .pick (.tmp 9) (.const (.bool true)) (.tmp 13), none⟩] [])
    (.cond (.tmp 14)
     (.seq
      (.reg false [
        ⟨some 4, .assign (.const (.bool false)), none⟩] [])
      .ret)
     .skip))
   (.seq
    (.reg true [
      ⟨some 15, .move (.tmp 0), none⟩,
      ⟨some 16, .move (.tmp 0), none⟩,
      ⟨some 17, .move (.tmp 0), none⟩,
      ⟨some 18, .move (.tmp 0), none⟩,
      ⟨some 19, .fieldAddr 32 (.tmp 3) 5, none⟩,
      ⟨some 20, .load 25 (.tmp 19), none⟩,
      ⟨some 21, .call ⟨.value (.func 40), #[(.tmp 20)], #[25]⟩, none⟩,
      ⟨some 22, .fieldAddr 32 (.tmp 3) 5, none⟩,
      ⟨some 23, .fieldAddr 25 (.tmp 22) 0, none⟩,
      ⟨some 24, .load 22 (.tmp 23), none⟩,
      ⟨some 25, .call ⟨.builtin .len, #[(.tmp 24)], #[22]⟩, none⟩,
      ⟨some 26, .makeSlice 26 (.tmp 25) (.tmp 25), none⟩,
      ⟨some 27, .nilCheck (.tmp 15), none⟩,
      ⟨some 28, .fieldAddr 28 (.tmp 27) 0, none⟩,
      ⟨none, .store 4 (.tmp 28) (.const (.bool true)), none⟩,
      ⟨some 29, .nilCheck (.tmp 16), none⟩,
      ⟨some 30, .fieldAddr 28 (.tmp 29) 1, none⟩,
      ⟨none, .store 4 (.tmp 30) (.const (.bool false)), none⟩,
      ⟨some 31, .nilCheck (.tmp 17), none⟩,
      ⟨some 32, .fieldAddr 28 (.tmp 31) 2, none⟩,
      ⟨none, .store 25 (.tmp 32) (.tmp 21), none⟩,
      ⟨some 33, .nilCheck (.tmp 18), none⟩,
      ⟨some 34, .fieldAddr 28 (.tmp 33) 3, none⟩,
      ⟨none, .store 26 (.tmp 34) (.tmp 26), none⟩] [(6, 7), (6, 8), (6, 9), (6, 10), (4, 11), (5, 11), (6, 11), (11, 12), (11, 13), (7, 14), (8, 14), (9, 14), (10, 14), (11, 14), (11, 15), (11, 16), (7, 17), (8, 17), (9, 17), (10, 17), (11, 17), (11, 18), (11, 19), (7, 20), (8, 20), (9, 20), (10, 20), (11, 20)])
    (.seq
     (.reg false [
       ⟨some 4, .assign (.const (.bool true)), none⟩] [])
     .ret))))
theorem TryL60_ok : Try.f60.body.bind (light Try.f60.ntmps) = some TryL60 := rfl

def TryL61 : LC :=
 (.seq
  (.reg false [
    ⟨some 3, .box 32 (.tmp 1), none⟩,
    ⟨some 4, .assign (.const (.bool false)), none⟩] [])
  (.seq
   (.seq
    (.reg true [
      ⟨some 5, .move (.tmp 0), none⟩,
      ⟨some 6, .nilCheck (.tmp 5), none⟩,
      ⟨some 7, .load 28 (.tmp 6), none⟩,
      ⟨some 8, .fieldAddr 32 (.tmp 3) 1, none⟩,
      ⟨some 9, .load 3 (.tmp 8), none⟩,
      ⟨some 10, .call ⟨.value (.func 51), #[(.tmp 7), (.tmp 9)], #[28, 3]⟩, none⟩,
      ⟨some 11, .unOp .not 4 (.tmp 10), none⟩,
      ⟨some 12, .move (.tmp 11), none⟩,
      ⟨some 13, .fieldAddr 32 (.tmp 3) 2, some (12, false)⟩,
      ⟨some 14, .load 3 (.tmp 13), some (12, false)⟩,
      ⟨some 15, .move (.tmp 0), some (12, false)⟩,
      ⟨some 16, .nilCheck (.tmp 15), some (12, false)⟩,
      ⟨some 17, .fieldAddr 28 (.tmp 16) 4, some (12, false)⟩,
      ⟨some 18, .load 3 (.tmp 17), some (12, false)⟩,
      ⟨some 19, .binOp .neq 3 (.tmp 14) (.tmp 18) 3, some (12, false)⟩,
      ⟨some 20, .pick (.tmp 12) (.const (.bool true)) (.tmp 19), none⟩,
      ⟨some 21, .move (.tmp 20), none⟩,
      ⟨some 22, .fieldAddr 32 (.tmp 3) 3, some (21, false)⟩,
      ⟨some 23, .load 3 (.tmp 22), some (21, false)⟩,
      ⟨some 24, .binOp .lss 3 (.tmp 23) (.const (.int .i64 0)) 3, some (21, false)⟩,
      ⟨some 25, .pick (.tmp 21) (.const (.bool true)) (.tmp 24), none⟩] [])
    (.cond (.tmp 25)
     (.seq
      (.reg false [
        ⟨some 4, .assign (.const (.bool false)), none⟩] [])
      .ret)
     .skip))
   (.seq
    (.reg true [
      ⟨some 26, .move (.tmp 0), none⟩,
      ⟨some 27, .nilCheck (.tmp 26), none⟩,
      ⟨some 28, .fieldAddr 28 (.tmp 27) 3, none⟩,
      ⟨some 29, .load 26 (.tmp 28), none⟩,
      ⟨some 30, .fieldAddr 32 (.tmp 3) 1, none⟩,
      ⟨some 31, .load 3 (.tmp 30), none⟩,
      ⟨some 32, .fieldAddr 32 (.tmp 3) 2, none⟩,
      ⟨some 33, .load 3 (.tmp 32), none⟩,
      ⟨some 34, .fieldAddr 32 (.tmp 3) 3, none⟩,
      ⟨some 35, .load 3 (.tmp 34), none⟩,
      ⟨some 36, .build 42 #[(0, (.tmp 33)), (1, (.tmp 35))], none⟩,
      ⟨some 37, .indexAddr 26 (.tmp 29) (.tmp 31), none⟩,
      ⟨none, .store 42 (.tmp 37) (.tmp 36), none⟩] [])
    (.seq
     (.reg false [
       ⟨some 38, .move (.tmp 0), none⟩,
       ⟨some 39, .nilCheck (.tmp 38), none⟩,
       ⟨some 40, .fieldAddr 28 (.tmp 39) 4, none⟩,
       ⟨some 41, .load 3 (.tmp 40), none⟩,
       ⟨some 42, .binOp .add 3 (.tmp 41) (.const (.int .i64 1)) 3, none⟩,
       ⟨some 43, .nilCheck (.tmp 38), none⟩,
       ⟨some 44, .fieldAddr 28 (.tmp 43) 4, none⟩,
       ⟨none, .store 3 (.tmp 44) (.tmp 42), none⟩] [])
     (.seq
      (.reg false [
        ⟨some 4, .assign (.const (.bool true)), none⟩] [])
      .ret)))))
theorem TryL61_ok : Try.f61.body.bind (light Try.f61.ntmps) = some TryL61 := rfl

def TryL62 : LC :=
 (.seq
  (.reg false [
    ⟨some 3, .box 32 (.tmp 1), none⟩,
    ⟨some 4, .assign (.const (.bool false)), none⟩] [])
  (.seq
   (.reg false [
     ⟨some 6, .move (.tmp 0), none⟩,
     ⟨some 7, .nilCheck (.tmp 6), none⟩,
     ⟨some 8, .fieldAddr 28 (.tmp 7) 3, none⟩,
     ⟨some 9, .load 26 (.tmp 8), none⟩,
     ⟨some 10, .makeFunc (.func 64) #[] #[(.tmp 3)], none⟩,
     ⟨some 11, .call ⟨.value (.func 63), #[(.tmp 9), (.tmp 10)], #[26, 86]⟩, none⟩,
     ⟨some 5, .assign (.tmp 11), none⟩] [])
   (.seq
    (.seq
     (.reg false [
       ⟨some 12, .move (.tmp 0), none⟩,
       ⟨some 13, .nilCheck (.tmp 12), none⟩,
       ⟨some 14, .fieldAddr 28 (.tmp 13) 0, none⟩,
       ⟨some 15, .load 4 (.tmp 14), none⟩,
       ⟨some 16, .unOp .not 4 (.tmp 15), none⟩,
       ⟨some 17, .move (.tmp 16), none⟩,
       ⟨some 18, .move (.tmp 5), some (17, false)⟩,
       ⟨some 19, .binOp .lss 3 (.tmp 18) (.const (.int .i64 0)) 3, some (17, false)⟩,
       ⟨some 20, .pick (.tmp 17) (.const (.bool true)) (.tmp 19), none⟩,
       ⟨some 21, .move (.tmp 20), none⟩,
       ⟨some 22, .fieldAddr 32 (.tmp 3) 4, some (21, false)⟩,
       ⟨some 23, .load 30 (.tmp 22), some (21, false)⟩,
       ⟨some 24, .binOp .lss 30 (.tmp 23) (.const (.int .u8 1)) 30, some (21, false)⟩,
       ⟨some 25, .pick (.tmp 21) (.const (.bool true)) (.tmp 24), none⟩,
       ⟨some 26, .move (.tmp 25), none⟩,
       ⟨some 27, .fieldAddr 32 (.tmp 3) 4, some (26, false)⟩,
       ⟨some 28, .load 30 (.tmp 27), some (26, false)⟩,
       ⟨some 29, .binOp .gtr 30 (.tmp 28) (.const (.int .u8 4)) 30, some (26, false)⟩,
       ⟨some 30, .pick (.tmp 26) (.const (.bool true)) (.tmp 29), none⟩] [])
     (.cond (.tmp 30)
      (.seq
       (.reg false [
         ⟨some 4, .assign (.const (.bool false)), none⟩] [])
       .ret)
      .skip))
    (.seq
     (.reg true [
       ⟨some 31, .move (.tmp 0), none⟩,
       ⟨some 32, .nilCheck (.tmp 31), none⟩,
       ⟨some 33, .fieldAddr 28 (.tmp 32) 3, none⟩,
       ⟨some 34, .load 26 (.tmp 33), none⟩,
       ⟨some 35, .move (.tmp 5), none⟩,
       ⟨some 36, .fieldAddr 32 (.tmp 3) 4, none⟩,
       ⟨some 37, .load 30 (.tmp 36), none⟩,
       ⟨some 38, .indexAddr 26 (.tmp 34) (.tmp 35), none⟩,
       ⟨some 39, .fieldAddr 42 (.tmp 38) 2, none⟩,
       ⟨none, .store 30 (.tmp 39) (.tmp 37), none⟩] [])
     (.seq
      (.reg false [
        ⟨some 40, .move (.tmp 0), none⟩,
        ⟨some 41, .move (.tmp 0), none⟩,
        ⟨some 42, .nilCheck (.tmp 41), none⟩,
        ⟨some 43, .fieldAddr 28 (.tmp 42) 1, none⟩,
        ⟨some 44, .load 4 (.tmp 43), none⟩,
        ⟨some 45, .move (.tmp 44), none⟩,
        ⟨some 46, .fieldAddr 32 (.tmp 3) 4, some (45, false)⟩,
        ⟨some 47, .load 30 (.tmp 46), some (45, false)⟩,
        ⟨some 48, .binOp .geq 30 (.tmp 47) (.const (.int .u8 3)) 30, some (45, false)⟩,
        ⟨some 49, .pick (.tmp 45) (.const (.bool true)) (.tmp 48), none⟩,
        ⟨some 50, .nilCheck (.tmp 40), none⟩,
        ⟨some 51, .fieldAddr 28 (.tmp 50) 1, none⟩,
        ⟨none, .store 4 (.tmp 51) (.tmp 49), none⟩] [])
      (.seq
       (.reg false [
         ⟨some 4, .assign (.const (.bool true)), none⟩] [])
       .ret))))))
theorem TryL62_ok : Try.f62.body.bind (light Try.f62.ntmps) = some TryL62 := rfl

def TryL63 : LC :=
 (.seq
  (.reg false [
    ⟨some 4, .assign (.const (.int .i64 0)), none⟩] [])
  (.seq
   (.seq
    (.reg false [
      ⟨some 6, .move (.tmp 0), none⟩,
      ⟨some 7, .call ⟨.builtin .len, #[(.tmp 6)], #[26]⟩, none⟩,
      ⟨some 8, .move (.const (.int .i64 0)), none⟩] [])
    (.block 0
     (.loop
      (.seq
       (.reg false [
         ⟨some 9, .binOp .lss 3 (.tmp 8) (.tmp 7) 3, none⟩] [])
       (.seq
        (.cond (.tmp 9)
         .skip
         (.exit 0))
        (.seq
         (.block 1
          (.seq
           (.reg false [
             ⟨some 10, .move (.tmp 8), none⟩,
             ⟨some 5, .assign (.tmp 10), none⟩] [])
           (.seq
            (.reg false [
              ⟨some 11, .move (.tmp 1), none⟩,
              ⟨some 12, .move (.tmp 0), none⟩,
              ⟨some 13, .move (.tmp 5), none⟩,
              ⟨some 14, .indexAddr 26 (.tmp 12) (.tmp 13), none⟩,
              ⟨some 15, .load 42 (.tmp 14), none⟩,
              ⟨some 16, .call ⟨.value (.tmp 11), #[(.tmp 15)], #[42]⟩, none⟩] [])
            (.cond (.tmp 16)
             (.seq
              (.reg false [
                ⟨some 17, .move (.tmp 5), none⟩,
                ⟨some 4, .assign (.tmp 17), none⟩] [])
              .ret)
             .skip))))
         (.reg false [
           ⟨some 18, .binOp .add 3 (.tmp 8) (.const (.int .i64 1)) 3, none⟩,
           ⟨some 8, .move (.tmp 18), none⟩] [])))))))
   (.seq
    (.reg false [
      ⟨some 4, .assign (.const (.int .i64 (-1))), none⟩] [])
    .ret)))
theorem TryL63_ok : Try.f63.body.bind (light Try.f63.ntmps) = some TryL63 := rfl

def TryL64 : LC :=
 (.seq
  (.reg false [
    ⟨some 2, .box 42 (.tmp 0), none⟩,
    ⟨some 3, .assign (.const (.bool false)), none⟩] [])
  (.seq
   (.reg false [
     ⟨some 4, .load 42 (.tmp 2), none⟩,
     ⟨some 5, .call ⟨.value (.func 53), #[(.tmp 4)], #[42]⟩, none⟩,
     ⟨some 6, .move (.tmp 5), none⟩,
     ⟨some 7, .fieldAddr 42 (.tmp 2) 0, some (6, true)⟩,
     ⟨some 8, .load 3 (.tmp 7), some (6, true)⟩,
     ⟨some 9, .fieldAddr 32 (.tmp 1) 2, some (6, true)⟩,
     ⟨some 10, .load 3 (.tmp 9), some (6, true)⟩,
     ⟨some 11, .binOp .eql 3 (.tmp 8) (.tmp 10) 3, some (6, true)⟩,
     ⟨some 12, .pick (.tmp 6) (.tmp 11) (.const (.bool false)), none⟩,
     ⟨some 3, .assign (.tmp 12), none⟩] [])
   .ret))
theorem TryL64_ok : Try.f64.body.bind (light Try.f64.ntmps) = some TryL64 := rfl

def TryL65 : LC :=
 (.seq
  (.reg false [
    ⟨some 3, .box 32 (.tmp 1), none⟩,
    ⟨some 4, .assign (.const (.bool false)), none⟩] [])
  (.seq
   (.seq
    (.reg false [
      ⟨some 5, .move (.tmp 0), none⟩,
      ⟨some 6, .nilCheck (.tmp 5), none⟩,
      ⟨some 7, .fieldAddr 28 (.tmp 6) 0, none⟩,
      ⟨some 8, .load 4 (.tmp 7), none⟩,
      ⟨some 9, .unOp .not 4 (.tmp 8), none⟩,
      ⟨some 10, .move (.tmp 9), none⟩,
      ⟨some 11, .move (.tmp 0), some (10, false)⟩,
      ⟨some 12, .nilCheck (.tmp 11), some (10, false)⟩,
      ⟨some 13, .fieldAddr 28 (.tmp 12) 1, some (10, false)⟩,
      ⟨some 14, .load 4 (.tmp 13), some (10, false)⟩,
      ⟨some 15, .pick (.tmp 10) (.const (.bool true)) (.tmp 14), none⟩] [])
    (.cond (.tmp 15)
     (.seq
      (.reg false [
        ⟨some 4, .assign (.const (.bool false)), none⟩] [])
      .ret)
     .skip))
   (.seq
    (.reg false [
      ⟨some 16, .move (.tmp 0), none⟩,
      ⟨some 17, .nilCheck (.tmp 16), none⟩,
      ⟨some 18, .fieldAddr 28 (.tmp 17) 1, none⟩,
      ⟨none, .store 4 (.tmp 18) (.const (.bool true)), none⟩] [])
    (.seq
     (.reg false [
       ⟨some 4, .assign (.const (.bool true)), none⟩] [])
     .ret))))
theorem TryL65_ok : Try.f65.body.bind (light Try.f65.ntmps) = some TryL65 := rfl

def TryL66 : LC :=
 (.seq
  (.reg false [
    ⟨some 3, .box 32 (.tmp 1), none⟩,
    ⟨some 4, .assign (.const (.bool false)), none⟩] [])
  (.seq
   (.seq
    (.reg false [
      ⟨some 5, .move (.tmp 0), none⟩,
      ⟨some 6, .nilCheck (.tmp 5), none⟩,
      ⟨some 7, .fieldAddr 28 (.tmp 6) 0, none⟩,
      ⟨some 8, .load 4 (.tmp 7), none⟩,
      ⟨some 9, .unOp .not 4 (.tmp 8), none⟩,
      ⟨some 10, .move (.tmp 9), none⟩,
      ⟨some 11, .move (.tmp 0), some (10, false)⟩,
      ⟨some 12, .nilCheck (.tmp 11), some (10, false)⟩,
      ⟨some 13, .fieldAddr 28 (.tmp 12) 3, some (10, false)⟩,
      ⟨some 14, .load 26 (.tmp 13), some (10, false)⟩,
      ⟨some 15, .call ⟨.value (.func 67), #[(.tmp 14), (.func 53)], #[26, 86]⟩, some (10, false)⟩,
      ⟨some 16, .pick (.tmp 10) (.const (.bool true)) (.tmp 15), none⟩,
      ⟨some 17, .move (.tmp 16), none⟩,
      ⟨some 18, .move (.tmp 0), some (17, false)⟩,
      ⟨some 19, .nilCheck (.tmp 18), some (17, false)⟩,
      ⟨some 20, .fieldAddr 28 (.tmp 19) 1, some (17, false)⟩,
      ⟨some 21, .load 4 (.tmp 20), some (17, false)⟩,
      ⟨some 22, .unOp .not 4 (.tmp 21), some (17, false)⟩,
      ⟨some 23, .move (.tmp 22), some (17, false)⟩,
      ⟨some 24, .move (.tmp 0), some (23, true)⟩,
      ⟨some 25, .nilCheck (.tmp 24), some (23, true)⟩,
      ⟨some 26, .load 28 (.tmp 25), some (23, true)⟩,
      ⟨some 27, .call ⟨.value (.func 28), #[(.tmp 26)], #[28]⟩, some (23, true)⟩,
      ⟨some 28, .unOp .not 4 (.tmp 27), some (23, true)⟩,
      ⟨some 29, .pick (.tmp 23) (.tmp 28) (.const (.bool false)), some (17, false)⟩,
      ⟨some 30, .pick (.tmp 17) (.const (.bool true)) (.tmp 29), none⟩] [])
    (.cond (.tmp 30)
     (.seq
      (.reg false [
        ⟨some 4, .assign (.const (.bool false)), none⟩] [])
      .ret)
     .skip))
   (.seq
    (.reg false [
      ⟨some 31, .move (.tmp 0), none⟩,
      ⟨some 32, .nilCheck (.tmp 31), none⟩,
      ⟨some 33, .fieldAddr 28 (.tmp 32) 0, none⟩,
      ⟨none, .store 4 (.tmp 33) (.const (.bool false)), none⟩] [])
    (.seq
     (.reg false [
       ⟨some 4, .assign (.const (.bool true)), none⟩] [])
     .ret))))
theorem TryL66_ok : Try.f66.body.bind (light Try.f66.ntmps) = some TryL66 := rfl

def TryL67 : LC :=
 (.seq
  (.reg false [
    ⟨some 4, .assign (.const (.bool false)), none⟩] [])
  (.seq
   (.reg false [
     ⟨some 5, .move (.tmp 0), none⟩,
     ⟨some 6, .move (.tmp 1), none⟩,
     ⟨some 7, .call ⟨.value (.func 63), #[(.tmp 5), (.tmp 6)], #[26, 86]⟩, none⟩,
     ⟨some 8, .binOp .geq 3 (.tmp 7) (.const (.int .i64 0)) 3, none⟩,
     ⟨some 4, .assign (.tmp 8), none⟩] [])
   .ret))
theorem TryL67_ok : Try.f67.body.bind (light Try.f67.ntmps) = some TryL67 := rfl

def TryL68 : LC :=
 (.seq
  (.reg false [
    ⟨some 4, .assign (.const (.bool false)), none⟩] [])
  (.seq
   (.seq
    (.reg false [
      ⟨some 6, .move (.tmp 0), none⟩,
      ⟨some 7, .call ⟨.builtin .len, #[(.tmp 6)], #[43]⟩, none⟩,
      ⟨some 8, .move (.tmp 1), none⟩,
      ⟨some 9, .call ⟨.builtin .len, #[(.tmp 8)], #[43]⟩, none⟩,
      ⟨some 10, .binOp .neq 3 (.tmp 7) (.tmp 9) 3, none⟩] [])
    (.cond (.tmp 10)
     (.seq
      (.reg false [
        ⟨some 4, .assign (.const (.bool false)), none⟩] [])
      .ret)
     .skip))
   (.seq
    (.seq
     (.reg false [
       ⟨some 5, .assign (.const (.int .i64 0)), none⟩] [])
     (.block 0
      (.loop
       (.seq
        (.seq
         (.reg false [
           ⟨some 11, .move (.tmp 5), none⟩,
           ⟨some 12, .move (.tmp 0), none⟩,
           ⟨some 13, .call ⟨.builtin .len, #[(.tmp 12)], #[43]⟩, none⟩,
           ⟨some 14, .binOp .lss 3 (.tmp 11) (.tmp 13) 3, none⟩] [])
         (.cond (.tmp 14)
          .skip
          (.exit 0)))
        (.seq
         (.block 1
          (.seq
           (.reg true [
             ⟨some 17, .move (.tmp 0), none⟩,
             ⟨some 18, .move (.tmp 5), none⟩,
             ⟨some 19, .indexAddr 43 (.tmp 17) (.tmp 18), none⟩,
             ⟨some 20, .load 3 (.tmp 19), none⟩,
             ⟨some 21, .move (.tmp 1), none⟩,
             ⟨some 22, .move (.tmp 5), none⟩,
             ⟨some 23, .indexAddr 43 (.tmp 21) (.tmp 22), none⟩,
             ⟨some 24, .load 3 (.tmp 23), none⟩,
             ⟨some 25, .binOp .neq 3 (.tmp 20) (.tmp 24) 3, none⟩] [])
           (.cond (.tmp 25)
            (.seq
             (.reg false [
               ⟨some 4, .assign (.const (.bool false)), none⟩] [])
             .ret)
            .skip)))
         (.reg false [
           ⟨some 15, .move (.tmp 5), none⟩,
           ⟨some 16, .binOp .add 3 (.tmp 15) (.const (.int .i64 1)) 3, none⟩,
           ⟨some 5, .assign (.tmp 16), none⟩] []))))))
    (.seq
     (.reg false [
       ⟨some 4, .assign (.const (.bool true)), none⟩] [])
     .ret))))
theorem TryL68_ok : Try.f68.body.bind (light Try.f68.ntmps) = some TryL68 := rfl

def TryL69 : LC :=
 (.seq
  (.reg false [
    ⟨some 4, .assign (.const (.int .i64 0)), none⟩] [])
  (.seq
   (.seq
    (.reg false [
      ⟨some 6, .move (.tmp 0), none⟩,
      ⟨some 7, .call ⟨.builtin .len, #[(.tmp 6)], #[43]⟩, none⟩,
      ⟨some 8, .move (.const (.int .i64 0)), none⟩] [])
    (.block 0
     (.loop
      (.seq
       (.reg false [
         ⟨some 9, .binOp .lss 3 (.tmp 8) (.tmp 7) 3, none⟩] [])
       (.seq
        (.cond (.tmp 9)
         .skip
         (.exit 0))
        (.seq
         (.block 1
          (.seq
           (.reg false [
             ⟨some 10, .move (.tmp 8), none⟩,
             ⟨some 5, .assign (.tmp 10), none⟩] [])
           (.seq
            (.reg false [
              ⟨some 11, .move (.tmp 1), none⟩,
              ⟨some 12, .move (.tmp 0), none⟩,
              ⟨some 13, .move (.tmp 5), none⟩,
              ⟨some 14, .indexAddr 43 (.tmp 12) (.tmp 13), none⟩,
              ⟨some 15, .load 3 (.tmp 14), none⟩,
              ⟨some 16, .call ⟨.value (.tmp 11), #[(.tmp 15)], #[3]⟩, none⟩] [])
            (.cond (.tmp 16)
             (.seq
              (.reg false [
                ⟨some 17, .move (.tmp 5), none⟩,
                ⟨some 4, .assign (.tmp 17), none⟩] [])
              .ret)
             .skip))))
         (.reg false [
           ⟨some 18, .binOp .add 3 (.tmp 8) (.const (.int .i64 1)) 3, none⟩,
           ⟨some 8, .move (.tmp 18), none⟩] [])))))))
   (.seq
    (.reg false [
      ⟨some 4, .assign (.const (.int .i64 (-1))), none⟩] [])
    .ret)))
theorem TryL69_ok : Try.f69.body.bind (light Try.f69.ntmps) = some TryL69 := rfl

def TryL70 : LC :=
 (.seq
  (.reg false [
    ⟨some 3, .assign (.const (.bool false)), none⟩] [])
  (.seq
   (.reg false [
     ⟨some 4, .fieldAddr 28 (.tmp 1) 3, none⟩,
     ⟨some 5, .load 26 (.tmp 4), none⟩,
     ⟨some 6, .move (.tmp 0), none⟩,
     ⟨some 7, .indexAddr 26 (.tmp 5) (.tmp 6), none⟩,
     ⟨some 8, .load 42 (.tmp 7), none⟩,
     ⟨some 9, .call ⟨.value (.func 56), #[(.tmp 8)], #[42]⟩, none⟩,
     ⟨some 10, .unOp .not 4 (.tmp 9), none⟩,
     ⟨some 3, .assign (.tmp 10), none⟩] [])
   .ret))
theorem TryL70_ok : Try.f70.body.bind (light Try.f70.ntmps) = some TryL70 := rfl

end Go.Proofs.Ytbdodpippgakjaa
