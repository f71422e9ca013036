/- This text proves a part of what the claim needs: contracts of functions of the program. No condition. -/
import Derived.Test.YtehmaafnbgpkcaaProg
import Derived.Test.YtehmaafnbgpkcaaVsC
set_option linter.unusedSimpArgs false
set_option linter.unusedVariables false

namespace Go.Proofs.Ytehmaafnbgpkcaa
open Go Go.Vs Go.Proofs
set_option maxRecDepth 100000

def TryL2 : LC :=
 (.reg false [
   ⟨some 0, .call ⟨.value (.func 1), #[], #[]⟩, none⟩] [])
theorem TryL2_ok : Try.f2.body.bind (light Try.f2.ntmps) = some TryL2 := rfl

def TryL3 : LC :=
 (.seq
  (.reg false [
    ⟨some 3, .box 25 (.tmp 0), none⟩,
    ⟨some 4, .box 27 (.tmp 1), none⟩,
    ⟨some 6, .assign (.const (.bool false)), none⟩] [])
  (.seq
   (.reg false [
     ⟨some 13, .load 25 (.tmp 3), none⟩,
     ⟨some 14, .call ⟨.value (.func 10), #[(.tmp 13)], #[25]⟩, none⟩,
     ⟨none, .store 25 (.tmp 3) (.tmp 14), none⟩] [])
   (.seq
    (.reg false [
      ⟨some 16, .load 25 (.tmp 3), none⟩,
      ⟨some 17, .load 27 (.tmp 4), none⟩,
      ⟨some 18, .move (.tmp 2), none⟩,
      ⟨some 19, .call ⟨.value (.func 11), #[(.tmp 16), (.tmp 17), (.tmp 18)], #[25, 27, 3]⟩, none⟩,
      ⟨some 15, .move (.tmp 19), none⟩,
      ⟨some 20, .extract (.tmp 15) 0, none⟩,
      ⟨some 21, .extract (.tmp 15) 1, none⟩,
      ⟨some 22, .extract (.tmp 15) 2, none⟩,
      ⟨some 7, .alloc 25, none⟩,
      ⟨none, .store 25 (.tmp 7) (.tmp 20), none⟩,
      ⟨some 8, .assign (.tmp 21), none⟩,
      ⟨some 9, .assign (.tmp 22), none⟩] [])
    (.seq
     (.reg false [
       ⟨some 24, .load 25 (.tmp 3), none⟩,
       ⟨some 25, .load 27 (.tmp 4), none⟩,
       ⟨some 26, .move (.tmp 2), none⟩,
       ⟨some 27, .call ⟨.value (.func 12), #[(.tmp 24), (.tmp 25), (.tmp 26)], #[25, 27, 3]⟩, none⟩,
       ⟨some 23, .move (.tmp 27), none⟩,
       ⟨some 28, .extract (.tmp 23) 0, none⟩,
       ⟨some 29, .extract (.tmp 23) 1, none⟩,
       ⟨some 30, .extract (.tmp 23) 2, none⟩,
       ⟨some 10, .alloc 25, none⟩,
       ⟨none, .store 25 (.tmp 10) (.tmp 28), none⟩,
       ⟨some 11, .assign (.tmp 29), none⟩,
       ⟨some 12, .assign (.tmp 30), none⟩] [])
     (.seq
      (.reg false [
        ⟨some 31, .load 25 (.tmp 7), none⟩,
        ⟨some 32, .load 25 (.tmp 10), none⟩,
        ⟨some 33, .call ⟨.value (.func 13), #[(.tmp 31), (.tmp 32)], #[25, 25]⟩, none⟩,
        ⟨some 34, .move (.tmp 33), none⟩,
        ⟨some 35, .move (.tmp 8), some (34, true)⟩,
        ⟨some 36, .move (.tmp 11), some (34, true)⟩,
        ⟨some 37, .call ⟨.value (.func 14), #[(.tmp 35), (.tmp 36)], #[22, 22]⟩, some (34, true)⟩,
        ⟨some 38, .pick (.tmp 34) (.tmp 37) (.const (.bool false)), none⟩,
        ⟨some 39, .move (.tmp 38), none⟩,
        ⟨some 40, .move (.tmp 9), some (39, true)⟩,
        ⟨some 41, .move (.tmp 12), some (39, true)⟩,
        ⟨some 42, .binOp .eql 29 (.tmp 40) (.tmp 41) 29, some (39, true)⟩,
        ⟨some 43, .pick (.tmp 39) (.tmp 42) (.const (.bool false)), none⟩,
        ⟨some 44, .move (.tmp 43), none⟩,
        ⟨some 45, .call ⟨.value (.func 15), #[], #[]⟩, some (44, true)⟩,
        ⟨some 46, .pick (.tmp 44) (.tmp 45) (.const (.bool false)), none⟩,
        ⟨some 6, .assign (.tmp 46), none⟩] [])
      .ret)))))
theorem TryL3_ok : Try.f3.body.bind (light Try.f3.ntmps) = some TryL3 := rfl

def TryL4 : LC :=
 (.seq
  (.reg false [
    ⟨some 4, .box 25 (.tmp 0), none⟩,
    ⟨some 5, .box 27 (.tmp 1), none⟩,
    ⟨some 8, .assign (.const (.bool false)), none⟩] [])
  (.seq
   (.reg true [
     ⟨some 19, .load 25 (.tmp 4), none⟩,
     ⟨some 20, .call ⟨.value (.func 10), #[(.tmp 19)], #[25]⟩, none⟩,
     ⟨some 21, .move (.tmp 3), none⟩,
     ⟨some 22, .move (.tmp 3), none⟩,
     ⟨some 23, .call ⟨.builtin .len, #[(.tmp 22)], #[22]⟩, none⟩,
     ⟨some 24, .call ⟨.builtin .min, #[(.tmp 23), (.const (.int .i64 402))], #[3, 3]⟩, none⟩,
     ⟨some 25, .slice 22 (.tmp 21) none (some (.tmp 24)) none, none⟩,
     ⟨none, .store 25 (.tmp 4) (.tmp 20), none⟩,
     ⟨some 3, .assign (.tmp 25), none⟩] [(1, 4), (0, 6), (1, 6), (4, 7), (6, 7)])
   (.seq
    (.reg false [
      ⟨some 26, .load 25 (.tmp 4), none⟩,
      ⟨some 27, .call ⟨.value (.func 10), #[(.tmp 26)], #[25]⟩, none⟩,
      ⟨some 28, .move (.tmp 3), none⟩,
      ⟨some 29, .build 24 #[(2, (.tmp 28))], none⟩,
      ⟨some 30, .call ⟨.value (.func 16), #[(.tmp 29)], #[24]⟩, none⟩,
      ⟨some 31, .field 24 (.tmp 30) 2, none⟩,
      ⟨some 9, .alloc 25, none⟩,
      ⟨none, .store 25 (.tmp 9) (.tmp 27), none⟩,
      ⟨some 10, .assign (.tmp 31), none⟩] [])
    (.seq
     (.reg false [
       ⟨some 33, .load 25 (.tmp 4), none⟩,
       ⟨some 34, .load 27 (.tmp 5), none⟩,
       ⟨some 35, .move (.tmp 2), none⟩,
       ⟨some 36, .move (.tmp 3), none⟩,
       ⟨some 37, .call ⟨.value (.func 17), #[(.tmp 33), (.tmp 34), (.tmp 35), (.tmp 36)], #[25, 27, 3, 22]⟩, none⟩,
       ⟨some 32, .move (.tmp 37), none⟩,
       ⟨some 38, .extract (.tmp 32) 0, none⟩,
       ⟨some 39, .extract (.tmp 32) 1, none⟩,
       ⟨some 40, .extract (.tmp 32) 2, none⟩,
       ⟨some 11, .alloc 25, none⟩,
       ⟨none, .store 25 (.tmp 11) (.tmp 38), none⟩,
       ⟨some 12, .assign (.tmp 39), none⟩,
       ⟨some 13, .assign (.tmp 40), none⟩] [])
     (.seq
      (.reg false [
        ⟨some 42, .load 25 (.tmp 4), none⟩,
        ⟨some 43, .load 27 (.tmp 5), none⟩,
        ⟨some 44, .move (.tmp 2), none⟩,
        ⟨some 45, .move (.tmp 3), none⟩,
        ⟨some 46, .call ⟨.value (.func 18), #[(.tmp 42), (.tmp 43), (.tmp 44), (.tmp 45)], #[25, 27, 3, 22]⟩, none⟩,
        ⟨some 41, .move (.tmp 46), none⟩,
        ⟨some 47, .extract (.tmp 41) 0, none⟩,
        ⟨some 48, .extract (.tmp 41) 1, none⟩,
        ⟨some 49, .extract (.tmp 41) 2, none⟩,
        ⟨some 14, .alloc 25, none⟩,
        ⟨none, .store 25 (.tmp 14) (.tmp 47), none⟩,
        ⟨some 15, .assign (.tmp 48), none⟩,
        ⟨some 16, .assign (.tmp 49), none⟩] [])
      (.seq
       (.seq
        (.reg false [
          ⟨some 50, .load 25 (.tmp 11), none⟩,
          ⟨some 51, .load 25 (.tmp 14), none⟩,
          ⟨some 52, .call ⟨.value (.func 13), #[(.tmp 50), (.tmp 51)], #[25, 25]⟩, none⟩,
          ⟨some 53, .unOp .not 4 (.tmp 52), none⟩,
          ⟨some 54, .move (.tmp 53), none⟩,
          ⟨some 55, .move (.tmp 12), some (54, false)⟩,
          ⟨some 56, .move (.tmp 15), some (54, false)⟩,
          ⟨some 57, .binOp .neq 4 (.tmp 55) (.tmp 56) 4, some (54, false)⟩,
          ⟨some 58, .pick (.tmp 54) (.const (.bool true)) (.tmp 57), none⟩,
          ⟨some 59, .move (.tmp 58), none⟩,
          ⟨some 60, .move (.tmp 13), some (59, false)⟩,
          ⟨some 61, .move (.tmp 16), some (59, false)⟩,
          ⟨some 62, .binOp .neq 29 (.tmp 60) (.tmp 61) 29, some (59, false)⟩,
          ⟨some 63, .pick (.tmp 59) (.const (.bool true)) (.tmp 62), none⟩] [])
        (.cond (.tmp 63)
         (.seq
          (.reg false [
            ⟨some 8, .assign (.const (.bool false)), none⟩] [])
          .ret)
         .skip))
       (.seq
        (.seq
         (.reg false [
           ⟨some 17, .assign (.const (.int .i64 0)), none⟩] [])
         (.block 0
          (.loop
           (.seq
            (.seq
             (.reg false [
               ⟨some 64, .move (.tmp 17), none⟩,
               ⟨some 65, .binOp .lss 3 (.tmp 64) (.const (.int .i64 3)) 3, none⟩] [])
             (.cond (.tmp 65)
              .skip
              (.exit 0)))
            (.seq
             (.block 1
              (.seq
               (.reg false [
                 ⟨some 18, .assign (.const (.int .i64 0)), none⟩] [])
               (.block 2
                (.loop
                 (.seq
                  (.seq
                   (.reg false [
                     ⟨some 68, .move (.tmp 18), none⟩,
                     ⟨some 69, .move (.tmp 17), none⟩,
                     ⟨some 70, .indexAddr 25 (.tmp 11) (.tmp 69), none⟩,
                     ⟨some 71, .fieldAddr 24 (.tmp 70) 2, none⟩,
                     ⟨some 72, .load 22 (.tmp 71), none⟩,
                     ⟨some 73, .call ⟨.builtin .len, #[(.tmp 72)], #[22]⟩, none⟩,
                     ⟨some 74, .binOp .lss 3 (.tmp 68) (.tmp 73) 3, none⟩] [])
                   (.cond (.tmp 74)
                    .skip
                    (.exit 2)))
                  (.seq
                   (.block 3
                    (.reg true [
                      ⟨some 77, .move (.tmp 17), none⟩,
                      ⟨some 78, .indexAddr 25 (.tmp 11) (.tmp 77), none⟩,
                      ⟨some 79, .fieldAddr 24 (.tmp 78) 2, none⟩,
                      ⟨some 80, .load 22 (.tmp 79), none⟩,
                      ⟨some 81, .move (.tmp 18), none⟩,
                      ⟨some 82, .move (.tmp 17), none⟩,
                      ⟨some 83, .indexAddr 25 (.tmp 11) (.tmp 82), none⟩,
                      ⟨some 84, .fieldAddr 24 (.tmp 83) 2, none⟩,
                      ⟨some 85, .load 22 (.tmp 84), none⟩,
                      ⟨some 86, .move (.tmp 18), none⟩,
                      ⟨some 87, .indexAddr 22 (.tmp 85) (.tmp 86), none⟩,
                      ⟨some 88, .load 9 (.tmp 87), none⟩,
                      ⟨some 89, .binOp .add 9 (.tmp 88) (.const (.string ⟨#[63]⟩)) 9, none⟩,
                      ⟨some 90, .indexAddr 22 (.tmp 80) (.tmp 81), none⟩,
                      ⟨none, .store 9 (.tmp 90) (.tmp 89), none⟩] []))
                   (.reg false [
                     ⟨some 75, .move (.tmp 18), none⟩,
                     ⟨some 76, .binOp .add 3 (.tmp 75) (.const (.int .i64 1)) 3, none⟩,
                     ⟨some 18, .assign (.tmp 76), none⟩] [])))))))
             (.reg false [
               ⟨some 66, .move (.tmp 17), none⟩,
               ⟨some 67, .binOp .add 3 (.tmp 66) (.const (.int .i64 1)) 3, none⟩,
               ⟨some 17, .assign (.tmp 67), none⟩] []))))))
        (.seq
         (.reg false [
           ⟨some 91, .load 25 (.tmp 4), none⟩,
           ⟨some 92, .load 25 (.tmp 9), none⟩,
           ⟨some 93, .call ⟨.value (.func 13), #[(.tmp 91), (.tmp 92)], #[25, 25]⟩, none⟩,
           ⟨some 94, .move (.tmp 93), none⟩,
           ⟨some 95, .move (.tmp 3), some (94, true)⟩,
           ⟨some 96, .move (.tmp 10), some (94, true)⟩,
           ⟨some 97, .call ⟨.value (.func 14), #[(.tmp 95), (.tmp 96)], #[22, 22]⟩, some (94, true)⟩,
           ⟨some 98, .pick (.tmp 94) (.tmp 97) (.const (.bool false)), none⟩,
           ⟨some 99, .move (.tmp 98), none⟩,
           ⟨some 100, .call ⟨.value (.func 15), #[], #[]⟩, some (99, true)⟩,
           ⟨some 101, .pick (.tmp 99) (.tmp 100) (.const (.bool false)), none⟩,
           ⟨some 8, .assign (.tmp 101), none⟩] [])
         .ret))))))))
theorem TryL4_ok : Try.f4.body.bind (light Try.f4.ntmps) = some TryL4 := rfl

def TryL5 : LC :=
 (.seq
  (.reg false [
    ⟨some 5, .box 25 (.tmp 0), none⟩,
    ⟨some 10, .assign (.const (.bool false)), none⟩] [])
  (.seq
   (.reg false [
     ⟨some 20, .load 25 (.tmp 5), none⟩,
     ⟨some 21, .call ⟨.value (.func 10), #[(.tmp 20)], #[25]⟩, none⟩,
     ⟨none, .store 25 (.tmp 5) (.tmp 21), none⟩] [])
   (.seq
    (.reg true [
      ⟨some 23, .load 25 (.tmp 5), none⟩,
      ⟨some 24, .move (.tmp 1), none⟩,
      ⟨some 25, .call ⟨.value (.func 19), #[(.tmp 24)], #[5]⟩, none⟩,
      ⟨some 26, .move (.tmp 3), none⟩,
      ⟨some 27, .call ⟨.value (.func 11), #[(.tmp 23), (.tmp 25), (.tmp 26)], #[25, 27, 3]⟩, none⟩,
      ⟨some 22, .move (.tmp 27), none⟩,
      ⟨some 28, .extract (.tmp 22) 0, none⟩,
      ⟨some 29, .extract (.tmp 22) 1, none⟩,
      ⟨some 30, .extract (.tmp 22) 2, none⟩,
      ⟨some 11, .alloc 25, none⟩,
      ⟨none, .store 25 (.tmp 11) (.tmp 28), none⟩,
      ⟨some 12, .assign (.tmp 29), none⟩,
      ⟨some 13, .assign (.tmp 30), none⟩] [(0, 2), (0, 9), (2, 9), (4, 9)])
    (.seq
     (.reg true [
       ⟨some 32, .load 25 (.tmp 11), none⟩,
       ⟨some 33, .move (.tmp 2), none⟩,
       ⟨some 34, .call ⟨.value (.func 19), #[(.tmp 33)], #[5]⟩, none⟩,
       ⟨some 35, .move (.tmp 3), none⟩,
       ⟨some 36, .call ⟨.value (.func 11), #[(.tmp 32), (.tmp 34), (.tmp 35)], #[25, 27, 3]⟩, none⟩,
       ⟨some 31, .move (.tmp 36), none⟩,
       ⟨some 37, .extract (.tmp 31) 0, none⟩,
       ⟨some 38, .extract (.tmp 31) 1, none⟩,
       ⟨some 39, .extract (.tmp 31) 2, none⟩,
       ⟨some 14, .alloc 25, none⟩,
       ⟨none, .store 25 (.tmp 14) (.tmp 37), none⟩,
       ⟨some 15, .assign (.tmp 38), none⟩,
       ⟨some 16, .assign (.tmp 39), none⟩] [(0, 2), (0, 9), (2, 9), (4, 9)])
     (.seq
      (.seq
       (.reg false [
         ⟨some 40, .move (.tmp 13), none⟩,
         ⟨some 41, .binOp .neq 29 (.tmp 40) (.const (.int .i64 0)) 29, none⟩] [])
       (.cond (.tmp 41)
        (.seq
         (.reg false [
           ⟨some 42, .call ⟨.value (.func 15), #[], #[]⟩, none⟩,
           ⟨some 10, .assign (.tmp 42), none⟩] [])
         .ret)
        .skip))
      (.seq
       (.reg true [
         ⟨some 44, .load 25 (.tmp 11), none⟩,
         ⟨some 45, .move (.tmp 2), none⟩,
         ⟨some 46, .call ⟨.value (.func 19), #[(.tmp 45)], #[5]⟩, none⟩,
         ⟨some 47, .move (.tmp 3), none⟩,
         ⟨some 48, .binOp .sub 3 (.tmp 47) (.const (.int .i64 1)) 3, none⟩,
         ⟨some 49, .move (.tmp 4), none⟩,
         ⟨some 50, .convert 5 3 (.tmp 49), none⟩,
         ⟨some 51, .binOp .sub 3 (.tmp 48) (.tmp 50) 3, none⟩,
         ⟨some 52, .buildSlice 22 1 #[(0, (.const (.string ⟨#[108, 97, 116, 101]⟩)))], none⟩,
         ⟨some 53, .call ⟨.value (.func 17), #[(.tmp 44), (.tmp 46), (.tmp 51), (.tmp 52)], #[25, 27, 3, 22]⟩, none⟩,
         ⟨some 43, .move (.tmp 53), none⟩,
         ⟨some 54, .extract (.tmp 43) 0, none⟩,
         ⟨some 55, .extract (.tmp 43) 1, none⟩,
         ⟨some 56, .extract (.tmp 43) 2, none⟩,
         ⟨some 17, .alloc 25, none⟩,
         ⟨none, .store 25 (.tmp 17) (.tmp 54), none⟩,
         ⟨some 18, .assign (.tmp 55), none⟩,
         ⟨some 19, .assign (.tmp 56), none⟩] [(0, 2), (0, 8), (2, 8), (0, 14), (2, 14), (8, 14), (9, 14)])
       (.seq
        (.reg false [
          ⟨some 57, .move (.tmp 16), none⟩,
          ⟨some 58, .binOp .eql 29 (.tmp 57) (.const (.int .i64 18)) 29, none⟩,
          ⟨some 59, .move (.tmp 58), none⟩,
          ⟨some 60, .move (.tmp 18), some (59, true)⟩,
          ⟨some 61, .unOp .not 4 (.tmp 60), some (59, true)⟩,
          ⟨some 62, .pick (.tmp 59) (.tmp 61) (.const (.bool false)), none⟩,
          ⟨some 63, .move (.tmp 62), none⟩,
          ⟨some 64, .call ⟨.value (.func 15), #[], #[]⟩, some (63, true)⟩,
          ⟨some 65, .pick (.tmp 63) (.tmp 64) (.const (.bool false)), none⟩,
          ⟨some 10, .assign (.tmp 65), none⟩] [])
        .ret)))))))
theorem TryL5_ok : Try.f5.body.bind (light Try.f5.ntmps) = some TryL5 := rfl

def TryL6 : LC :=
 (.seq
  (.reg false [
    ⟨some 2, .assign (.const (.bool false)), none⟩] [])
  (.seq
   (.reg false [
     ⟨some 3, .alloc 46, none⟩] [])
   (.seq
    (.seq
     (.reg false [
       ⟨some 4, .assign (.const (.int .i64 0)), none⟩] [])
     (.block 0
      (.loop
       (.seq
        (.seq
         (.reg false [
           ⟨some 5, .move (.tmp 4), none⟩,
           ⟨some 6, .move (.tmp 0), none⟩,
           ⟨some 7, .call ⟨.builtin .len, #[(.tmp 6)], #[42]⟩, none⟩,
           ⟨some 8, .binOp .lss 3 (.tmp 5) (.tmp 7) 3, none⟩,
           ⟨some 9, .move (.tmp 8), none⟩,
           ⟨some 10, .move (.tmp 4), some (9, true)⟩,
           ⟨some 11, .binOp .lss 3 (.tmp 10) (.const (.int .i64 60)) 3, some (9, true)⟩,
           ⟨some 12, .pick (.tmp 9) (.tmp 11) (.const (.bool false)), none⟩] [])
         (.cond (.tmp 12)
          .skip
          (.exit 0)))
        (.seq
         (.block 1
          (.seq
           (.reg false [
             ⟨some 15, .move (.tmp 0), none⟩,
             ⟨some 16, .move (.tmp 4), none⟩,
             ⟨some 17, .indexAddr 42 (.tmp 15) (.tmp 16), none⟩,
             ⟨some 18, .load 49 (.tmp 17), none⟩,
             ⟨some 19, .call ⟨.value (.func 20), #[(.tmp 3), (.tmp 18)], #[46, 49]⟩, none⟩,
             ⟨some 20, .unOp .not 4 (.tmp 19), none⟩] [])
           (.cond (.tmp 20)
            (.seq
             (.reg false [
               ⟨some 2, .assign (.const (.bool false)), none⟩] [])
             .ret)
            .skip)))
         (.reg false [
           ⟨some 13, .move (.tmp 4), none⟩,
           ⟨some 14, .binOp .add 3 (.tmp 13) (.const (.int .i64 1)) 3, none⟩,
           ⟨some 4, .assign (.tmp 14), none⟩] []))))))
    (.seq
     (.reg false [
       ⟨some 21, .call ⟨.value (.func 15), #[], #[]⟩, none⟩,
       ⟨some 2, .assign (.tmp 21), none⟩] [])
     .ret))))
theorem TryL6_ok : Try.f6.body.bind (light Try.f6.ntmps) = some TryL6 := rfl

def TryL7 : LC :=
 (.seq
  (.reg false [
    ⟨some 2, .assign (.const (.bool false)), none⟩] [])
  (.seq
   (.reg false [
     ⟨some 3, .alloc 46, none⟩] [])
   (.seq
    (.seq
     (.reg false [
       ⟨some 4, .assign (.const (.int .i64 0)), none⟩] [])
     (.block 0
      (.loop
       (.seq
        (.seq
         (.reg false [
           ⟨some 11, .move (.tmp 4), none⟩,
           ⟨some 12, .move (.tmp 0), none⟩,
           ⟨some 13, .call ⟨.builtin .len, #[(.tmp 12)], #[42]⟩, none⟩,
           ⟨some 14, .binOp .lss 3 (.tmp 11) (.tmp 13) 3, none⟩,
           ⟨some 15, .move (.tmp 14), none⟩,
           ⟨some 16, .move (.tmp 4), some (15, true)⟩,
           ⟨some 17, .binOp .lss 3 (.tmp 16) (.const (.int .i64 40)) 3, some (15, true)⟩,
           ⟨some 18, .pick (.tmp 15) (.tmp 17) (.const (.bool false)), none⟩] [])
         (.cond (.tmp 18)
          .skip
          (.exit 0)))
        (.seq
         (.block 1
          (.seq
           (.seq
            (.reg false [
              ⟨some 21, .move (.tmp 0), none⟩,
              ⟨some 22, .move (.tmp 4), none⟩,
              ⟨some 23, .indexAddr 42 (.tmp 21) (.tmp 22), none⟩,
              ⟨some 24, .load 49 (.tmp 23), none⟩,
              ⟨some 25, .call ⟨.value (.func 20), #[(.tmp 3), (.tmp 24)], #[46, 49]⟩, none⟩,
              ⟨some 26, .unOp .not 4 (.tmp 25), none⟩] [])
            (.cond (.tmp 26)
             (.seq
              (.reg false [
                ⟨some 2, .assign (.const (.bool false)), none⟩] [])
              .ret)
             .skip))
           (.seq
            (.seq
             (.reg false [
               ⟨some 5, .assign (.const (.int .i64 0)), none⟩] [])
             (.block 2
              (.loop
               (.seq
                (.seq
                 (.reg false [
                   ⟨some 27, .move (.tmp 5), none⟩,
                   ⟨some 28, .binOp .lss 3 (.tmp 27) (.const (.int .i64 3)) 3, none⟩] [])
                 (.cond (.tmp 28)
                  .skip
                  (.exit 2)))
                (.seq
                 (.block 3
                  (.seq
                   (.reg true [
                     ⟨some 31, .move (.tmp 5), none⟩,
                     ⟨some 32, .fieldAddr 46 (.tmp 3) 0, none⟩,
                     ⟨some 33, .indexAddr 25 (.tmp 32) (.tmp 31), none⟩,
                     ⟨some 34, .load 24 (.tmp 33), none⟩,
                     ⟨some 35, .move (.tmp 5), none⟩,
                     ⟨some 36, .binOp .add 3 (.tmp 35) (.const (.int .i64 1)) 3, none⟩,
                     ⟨some 37, .binOp .rem 3 (.tmp 36) (.const (.int .i64 3)) 3, none⟩,
                     ⟨some 38, .fieldAddr 46 (.tmp 3) 0, none⟩,
                     ⟨some 39, .indexAddr 25 (.tmp 38) (.tmp 37), none⟩,
                     ⟨some 40, .load 24 (.tmp 39), none⟩,
                     ⟨some 6, .alloc 24, none⟩,
                     ⟨some 7, .alloc 24, none⟩,
                     ⟨none, .store 24 (.tmp 6) (.tmp 34), none⟩,
                     ⟨none, .store 24 (.tmp 7) (.tmp 40), none⟩] [(1, 10), (2, 10), (3, 10), (7, 10), (8, 10), (9, 10), (1, 11), (2, 11), (3, 11), (7, 11), (8, 11), (9, 11), (10, 11), (7, 12), (8, 12), (9, 12)])
                   (.seq
                    (.reg false [
                      ⟨some 41, .fieldAddr 24 (.tmp 6) 3, none⟩,
                      ⟨some 42, .load 4 (.tmp 41), none⟩,
                      ⟨some 43, .unOp .not 4 (.tmp 42), none⟩,
                      ⟨some 44, .move (.tmp 43), none⟩,
                      ⟨some 45, .fieldAddr 24 (.tmp 7) 3, some (44, true)⟩,
                      ⟨some 46, .load 4 (.tmp 45), some (44, true)⟩,
                      ⟨some 47, .unOp .not 4 (.tmp 46), some (44, true)⟩,
                      ⟨some 48, .pick (.tmp 44) (.tmp 47) (.const (.bool false)), none⟩,
                      ⟨some 49, .move (.tmp 48), none⟩,
                      ⟨some 50, .fieldAddr 24 (.tmp 6) 1, some (49, true)⟩,
                      ⟨some 51, .load 3 (.tmp 50), some (49, true)⟩,
                      ⟨some 52, .fieldAddr 24 (.tmp 7) 1, some (49, true)⟩,
                      ⟨some 53, .load 3 (.tmp 52), some (49, true)⟩,
                      ⟨some 54, .binOp .eql 3 (.tmp 51) (.tmp 53) 3, some (49, true)⟩,
                      ⟨some 55, .pick (.tmp 49) (.tmp 54) (.const (.bool false)), none⟩,
                      ⟨some 56, .move (.tmp 55), none⟩,
                      ⟨some 57, .fieldAddr 24 (.tmp 6) 2, some (56, true)⟩,
                      ⟨some 58, .load 22 (.tmp 57), some (56, true)⟩,
                      ⟨some 59, .fieldAddr 24 (.tmp 7) 2, some (56, true)⟩,
                      ⟨some 60, .load 22 (.tmp 59), some (56, true)⟩,
                      ⟨some 61, .call ⟨.value (.func 21), #[(.tmp 58), (.tmp 60)], #[22, 22]⟩, some (56, true)⟩,
                      ⟨some 62, .unOp .not 4 (.tmp 61), some (56, true)⟩,
                      ⟨some 63, .pick (.tmp 56) (.tmp 62) (.const (.bool false)), none⟩,
                      ⟨some 64, .move (.tmp 63), none⟩,
                      ⟨some 65, .fieldAddr 24 (.tmp 7) 2, some (64, true)⟩,
                      ⟨some 66, .load 22 (.tmp 65), some (64, true)⟩,
                      ⟨some 67, .fieldAddr 24 (.tmp 6) 2, some (64, true)⟩,
                      ⟨some 68, .load 22 (.tmp 67), some (64, true)⟩,
                      ⟨some 69, .call ⟨.value (.func 21), #[(.tmp 66), (.tmp 68)], #[22, 22]⟩, some (64, true)⟩,
                      ⟨some 70, .unOp .not 4 (.tmp 69), some (64, true)⟩,
                      ⟨some 71, .pick (.tmp 64) (.tmp 70) (.const (.bool false)), none⟩] [])
                    (.cond (.tmp 71)
                     (.seq
                      (.reg false [
                        ⟨some 2, .assign (.const (.bool false)), none⟩] [])
                      .ret)
                     .skip))))
                 (.reg false [
                   ⟨some 29, .move (.tmp 5), none⟩,
                   ⟨some 30, .binOp .add 3 (.tmp 29) (.const (.int .i64 1)) 3, none⟩,
                   ⟨some 5, .assign (.tmp 30), none⟩] []))))))
            (.seq
             (.reg false [
               ⟨some 8, .assign (.const (.int .i64 0)), none⟩] [])
             (.block 4
              (.loop
               (.seq
                (.seq
                 (.reg false [
                   ⟨some 72, .move (.tmp 8), none⟩,
                   ⟨some 73, .fieldAddr 46 (.tmp 3) 3, none⟩,
                   ⟨some 74, .load 44 (.tmp 73), none⟩,
                   ⟨some 75, .call ⟨.builtin .len, #[(.tmp 74)], #[44]⟩, none⟩,
                   ⟨some 76, .binOp .lss 3 (.tmp 72) (.tmp 75) 3, none⟩] [])
                 (.cond (.tmp 76)
                  .skip
                  (.exit 4)))
                (.seq
                 (.block 5
                  (.seq
                   (.reg false [
                     ⟨some 9, .assign (.const (.bool false)), none⟩] [])
                   (.seq
                    (.seq
                     (.reg false [
                       ⟨some 10, .assign (.const (.int .i64 0)), none⟩] [])
                     (.block 6
                      (.loop
                       (.seq
                        (.seq
                         (.reg false [
                           ⟨some 79, .move (.tmp 10), none⟩,
                           ⟨some 80, .binOp .lss 3 (.tmp 79) (.const (.int .i64 3)) 3, none⟩] [])
                         (.cond (.tmp 80)
                          .skip
                          (.exit 6)))
                        (.seq
                         (.block 7
                          (.reg true [
                            ⟨some 83, .move (.tmp 9), none⟩,
                            ⟨some 84, .move (.tmp 83), none⟩,
                            ⟨some 85, .move (.tmp 10), some (84, false)⟩,
                            ⟨some 86, .fieldAddr 46 (.tmp 3) 0, some (84, false)⟩,
                            ⟨some 87, .indexAddr 25 (.tmp 86) (.tmp 85), some (84, false)⟩,
                            ⟨some 88, .fieldAddr 24 (.tmp 87) 3, some (84, false)⟩,
                            ⟨some 89, .load 4 (.tmp 88), some (84, false)⟩,
                            ⟨some 90, .unOp .not 4 (.tmp 89), some (84, false)⟩,
                            ⟨some 91, .move (.tmp 90), some (84, false)⟩,
                            ⟨some 92, .fieldAddr 46 (.tmp 3) 3, some (91, true)⟩,
                            ⟨some 93, .load 44 (.tmp 92), some (91, true)⟩,
                            ⟨some 94, .move (.tmp 8), some (91, true)⟩,
                            ⟨some 95, .indexAddr 44 (.tmp 93) (.tmp 94), some (91, true)⟩,
                            ⟨some 96, .load 22 (.tmp 95), some (91, true)⟩,
                            ⟨some 97, .move (.tmp 10), some (91, true)⟩,
                            ⟨some 98, .fieldAddr 46 (.tmp 3) 0, some (91, true)⟩,
                            ⟨some 99, .indexAddr 25 (.tmp 98) (.tmp 97), some (91, true)⟩,
                            ⟨some 100, .fieldAddr 24 (.tmp 99) 2, some (91, true)⟩,
                            ⟨some 101, .load 22 (.tmp 100), some (91, true)⟩,
                            ⟨some 102, .call ⟨.value (.func 21), #[(.tmp 96), (.tmp 101)], #[22, 22]⟩, some (91, true)⟩,
                            ⟨some 103, .pick (.tmp 91) (.tmp 102) (.const (.bool false)), some (84, false)⟩,
                            ⟨some 104, .pick (.tmp 84) (.const (.bool true)) (.tmp 103), none⟩,
                            ⟨some 9, .assign (.tmp 104), none⟩] []))
                         (.reg false [
                           ⟨some 81, .move (.tmp 10), none⟩,
                           ⟨some 82, .binOp .add 3 (.tmp 81) (.const (.int .i64 1)) 3, none⟩,
                           ⟨some 10, .assign (.tmp 82), none⟩] []))))))
                    (.seq
                     (.reg false [
                       ⟨some 105, .move (.tmp 9), none⟩,
                       ⟨some 106, .unOp .not 4 (.tmp 105), none⟩] [])
                     (.cond (.tmp 106)
                      (.seq
                       (.reg false [
                         ⟨some 2, .assign (.const (.bool false)), none⟩] [])
                       .ret)
                      .skip)))))
                 (.reg false [
                   ⟨some 77, .move (.tmp 8), none⟩,
                   ⟨some 78, .binOp .add 3 (.tmp 77) (.const (.int .i64 1)) 3, none⟩,
                   ⟨some 8, .assign (.tmp 78), none⟩] [])))))))))
         (.reg false [
           ⟨some 19, .move (.tmp 4), none⟩,
           ⟨some 20, .binOp .add 3 (.tmp 19) (.const (.int .i64 1)) 3, none⟩,
           ⟨some 4, .assign (.tmp 20), none⟩] []))))))
    (.seq
     (.reg false [
       ⟨some 107, .call ⟨.value (.func 15), #[], #[]⟩, none⟩,
       ⟨some 2, .assign (.tmp 107), none⟩] [])
     .ret))))
theorem TryL7_ok : Try.f7.body.bind (light Try.f7.ntmps) = some TryL7 := rfl

def TryL8 : LC :=
 (.seq
  (.reg false [
    ⟨some 3, .box 24 (.tmp 0), none⟩,
    ⟨some 6, .assign (.const (.bool false)), none⟩] [])
  (.seq
   (.reg true [
     ⟨some 19, .load 24 (.tmp 3), none⟩,
     ⟨some 20, .call ⟨.value (.func 16), #[(.tmp 19)], #[24]⟩, none⟩,
     ⟨some 21, .move (.tmp 2), none⟩,
     ⟨some 22, .move (.tmp 2), none⟩,
     ⟨some 23, .call ⟨.builtin .len, #[(.tmp 22)], #[22]⟩, none⟩,
     ⟨some 24, .call ⟨.builtin .min, #[(.tmp 23), (.const (.int .i64 402))], #[3, 3]⟩, none⟩,
     ⟨some 25, .slice 22 (.tmp 21) none (some (.tmp 24)) none, none⟩,
     ⟨none, .store 24 (.tmp 3) (.tmp 20), none⟩,
     ⟨some 2, .assign (.tmp 25), none⟩] [(1, 4), (0, 6), (1, 6), (4, 7), (6, 7)])
   (.seq
    (.reg false [
      ⟨some 27, .load 24 (.tmp 3), none⟩,
      ⟨some 28, .move (.tmp 1), none⟩,
      ⟨some 29, .call ⟨.value (.func 22), #[(.tmp 27), (.tmp 28)], #[24, 3]⟩, none⟩,
      ⟨some 26, .move (.tmp 29), none⟩,
      ⟨some 30, .extract (.tmp 26) 0, none⟩,
      ⟨some 31, .extract (.tmp 26) 1, none⟩,
      ⟨some 7, .alloc 24, none⟩,
      ⟨none, .store 24 (.tmp 7) (.tmp 30), none⟩,
      ⟨some 8, .assign (.tmp 31), none⟩] [])
    (.seq
     (.reg false [
       ⟨some 33, .load 24 (.tmp 3), none⟩,
       ⟨some 34, .move (.tmp 1), none⟩,
       ⟨some 35, .call ⟨.value (.func 23), #[(.tmp 33), (.tmp 34)], #[24, 3]⟩, none⟩,
       ⟨some 32, .move (.tmp 35), none⟩,
       ⟨some 36, .extract (.tmp 32) 0, none⟩,
       ⟨some 37, .extract (.tmp 32) 1, none⟩,
       ⟨some 9, .alloc 24, none⟩,
       ⟨none, .store 24 (.tmp 9) (.tmp 36), none⟩,
       ⟨some 10, .assign (.tmp 37), none⟩] [])
     (.seq
      (.reg false [
        ⟨some 39, .load 24 (.tmp 3), none⟩,
        ⟨some 40, .move (.tmp 1), none⟩,
        ⟨some 41, .move (.tmp 2), none⟩,
        ⟨some 42, .call ⟨.value (.func 24), #[(.tmp 39), (.tmp 40), (.tmp 41)], #[24, 3, 22]⟩, none⟩,
        ⟨some 38, .move (.tmp 42), none⟩,
        ⟨some 43, .extract (.tmp 38) 0, none⟩,
        ⟨some 44, .extract (.tmp 38) 1, none⟩,
        ⟨some 11, .alloc 24, none⟩,
        ⟨none, .store 24 (.tmp 11) (.tmp 43), none⟩,
        ⟨some 12, .assign (.tmp 44), none⟩] [])
      (.seq
       (.reg false [
         ⟨some 46, .load 24 (.tmp 3), none⟩,
         ⟨some 47, .move (.tmp 1), none⟩,
         ⟨some 48, .move (.tmp 2), none⟩,
         ⟨some 49, .call ⟨.value (.func 25), #[(.tmp 46), (.tmp 47), (.tmp 48)], #[24, 3, 22]⟩, none⟩,
         ⟨some 45, .move (.tmp 49), none⟩,
         ⟨some 50, .extract (.tmp 45) 0, none⟩,
         ⟨some 51, .extract (.tmp 45) 1, none⟩,
         ⟨some 13, .alloc 24, none⟩,
         ⟨none, .store 24 (.tmp 13) (.tmp 50), none⟩,
         ⟨some 14, .assign (.tmp 51), none⟩] [])
       (.seq
        (.reg false [
          ⟨some 53, .load 24 (.tmp 3), none⟩,
          ⟨some 54, .move (.tmp 1), none⟩,
          ⟨some 55, .move (.tmp 2), none⟩,
          ⟨some 56, .call ⟨.value (.func 26), #[(.tmp 53), (.tmp 54), (.tmp 55)], #[24, 3, 22]⟩, none⟩,
          ⟨some 52, .move (.tmp 56), none⟩,
          ⟨some 57, .extract (.tmp 52) 0, none⟩,
          ⟨some 58, .extract (.tmp 52) 1, none⟩,
          ⟨some 15, .alloc 24, none⟩,
          ⟨none, .store 24 (.tmp 15) (.tmp 57), none⟩,
          ⟨some 16, .assign (.tmp 58), none⟩] [])
        (.seq
         (.reg false [
           ⟨some 60, .load 24 (.tmp 3), none⟩,
           ⟨some 61, .move (.tmp 1), none⟩,
           ⟨some 62, .move (.tmp 2), none⟩,
           ⟨some 63, .call ⟨.value (.func 27), #[(.tmp 60), (.tmp 61), (.tmp 62)], #[24, 3, 22]⟩, none⟩,
           ⟨some 59, .move (.tmp 63), none⟩,
           ⟨some 64, .extract (.tmp 59) 0, none⟩,
           ⟨some 65, .extract (.tmp 59) 1, none⟩,
           ⟨some 17, .alloc 24, none⟩,
           ⟨none, .store 24 (.tmp 17) (.tmp 64), none⟩,
           ⟨some 18, .assign (.tmp 65), none⟩] [])
         (.seq
          (.reg true [
            ⟨some 66, .load 24 (.tmp 7), none⟩,
            ⟨some 67, .load 24 (.tmp 9), none⟩,
            ⟨some 68, .call ⟨.value (.func 28), #[(.tmp 66), (.tmp 67)], #[24, 24]⟩, none⟩,
            ⟨some 69, .move (.tmp 68), none⟩,
            ⟨some 70, .move (.tmp 8), some (69, true)⟩,
            ⟨some 71, .move (.tmp 10), some (69, true)⟩,
            ⟨some 72, .binOp .eql 29 (.tmp 70) (.tmp 71) 29, some (69, true)⟩,
            ⟨some 73, .pick (.tmp 69) (.tmp 72) (.const (.bool false)), none⟩,
            ⟨some 74, .move (.tmp 73), none⟩,
            ⟨some 75, .load 24 (.tmp 11), some (74, true)⟩,
            ⟨some 76, .load 24 (.tmp 13), some (74, true)⟩,
            ⟨some 77, .call ⟨.value (.func 28), #[(.tmp 75), (.tmp 76)], #[24, 24]⟩, some (74, true)⟩,
            ⟨some 78, .pick (.tmp 74) (.tmp 77) (.const (.bool false)), none⟩,
            ⟨some 79, .move (.tmp 78), none⟩,
            ⟨some 80, .move (.tmp 12), some (79, true)⟩,
            ⟨some 81, .move (.tmp 14), some (79, true)⟩,
            ⟨some 82, .binOp .eql 29 (.tmp 80) (.tmp 81) 29, some (79, true)⟩,
            ⟨some 83, .pick (.tmp 79) (.tmp 82) (.const (.bool false)), none⟩,
            ⟨some 84, .move (.tmp 83), none⟩,
            ⟨some 85, .load 24 (.tmp 15), some (84, true)⟩,
            ⟨some 86, .load 24 (.tmp 17), some (84, true)⟩,
            ⟨some 87, .call ⟨.value (.func 28), #[(.tmp 85), (.tmp 86)], #[24, 24]⟩, some (84, true)⟩,
            ⟨some 88, .pick (.tmp 84) (.tmp 87) (.const (.bool false)), none⟩,
            ⟨some 89, .move (.tmp 88), none⟩,
            ⟨some 90, .move (.tmp 16), some (89, true)⟩,
            ⟨some 91, .move (.tmp 18), some (89, true)⟩,
            ⟨some 92, .binOp .eql 29 (.tmp 90) (.tmp 91) 29, some (89, true)⟩,
            ⟨some 93, .pick (.tmp 89) (.tmp 92) (.const (.bool false)), none⟩,
            ⟨some 94, .move (.tmp 93), none⟩,
            ⟨some 95, .load 24 (.tmp 3), some (94, true)⟩,
            ⟨some 96, .call ⟨.value (.func 29), #[(.tmp 95)], #[24]⟩, some (94, true)⟩,
            ⟨some 97, .load 24 (.tmp 3), some (94, true)⟩,
            ⟨some 98, .call ⟨.value (.func 30), #[(.tmp 97)], #[24]⟩, some (94, true)⟩,
            ⟨some 99, .call ⟨.value (.func 28), #[(.tmp 96), (.tmp 98)], #[24, 24]⟩, some (94, true)⟩,
            ⟨some 100, .pick (.tmp 94) (.tmp 99) (.const (.bool false)), none⟩,
            ⟨some 101, .move (.tmp 100), none⟩,
            ⟨some 102, .call ⟨.value (.func 15), #[], #[]⟩, some (101, true)⟩,
            ⟨some 103, .pick (.tmp 101) (.tmp 102) (.const (.bool false)), none⟩,
            ⟨some 6, .assign (.tmp 103), none⟩] [(30, 31)])
          .ret)))))))))
theorem TryL8_ok : Try.f8.body.bind (light Try.f8.ntmps) = some TryL8 := rfl

def TryL9 : LC :=
 (.seq
  (.reg false [
    ⟨some 0, .assign (.const (.bool false)), none⟩] [])
  (.seq
   (.reg false [
     ⟨some 1, .assign (.const (.int .u8 0)), none⟩,
     ⟨some 2, .assign (.const (.int .u8 1)), none⟩,
     ⟨some 3, .assign (.const (.int .u8 2)), none⟩] [])
   (.seq
    (.reg false [
      ⟨some 30, .build 25 #[], none⟩,
      ⟨some 31, .move (.tmp 1), none⟩,
      ⟨some 32, .move (.tmp 1), none⟩,
      ⟨some 33, .move (.tmp 2), none⟩,
      ⟨some 34, .build 27 #[(0, (.tmp 31)), (1, (.tmp 32)), (2, (.tmp 33))], none⟩,
      ⟨some 35, .call ⟨.value (.func 11), #[(.tmp 30), (.tmp 34), (.const (.int .i64 1))], #[25, 27, 3]⟩, none⟩,
      ⟨some 29, .move (.tmp 35), none⟩,
      ⟨some 36, .extract (.tmp 29) 0, none⟩,
      ⟨some 37, .extract (.tmp 29) 1, none⟩,
      ⟨some 38, .extract (.tmp 29) 2, none⟩,
      ⟨some 4, .alloc 25, none⟩,
      ⟨none, .store 25 (.tmp 4) (.tmp 36), none⟩,
      ⟨some 5, .assign (.tmp 37), none⟩,
      ⟨some 6, .assign (.tmp 38), none⟩] [])
    (.seq
     (.reg false [
       ⟨some 39, .move (.tmp 5), none⟩,
       ⟨some 40, .call ⟨.builtin .len, #[(.tmp 39)], #[22]⟩, none⟩,
       ⟨some 41, .binOp .eql 3 (.tmp 40) (.const (.int .i64 0)) 3, none⟩,
       ⟨some 42, .move (.tmp 41), none⟩,
       ⟨some 43, .move (.tmp 6), some (42, true)⟩,
       ⟨some 44, .binOp .eql 29 (.tmp 43) (.const (.int .i64 0)) 29, some (42, true)⟩,
       ⟨some 45, .pick (.tmp 42) (.tmp 44) (.const (.bool false)), none⟩,
       ⟨some 46, .move (.tmp 45), none⟩,
       ⟨some 47, .indexAddr 25 (.tmp 4) (.const (.int .i64 2)), some (46, true)⟩,
       ⟨some 48, .load 24 (.tmp 47), some (46, true)⟩,
       ⟨some 49, .build 24 #[], some (46, true)⟩,
       ⟨some 50, .call ⟨.value (.func 28), #[(.tmp 48), (.tmp 49)], #[24, 24]⟩, some (46, true)⟩,
       ⟨some 51, .pick (.tmp 46) (.tmp 50) (.const (.bool false)), none⟩,
       ⟨some 52, .move (.tmp 51), none⟩,
       ⟨some 53, .indexAddr 25 (.tmp 4) (.const (.int .i64 1)), some (52, true)⟩,
       ⟨some 54, .fieldAddr 24 (.tmp 53) 0, some (52, true)⟩,
       ⟨some 55, .load 3 (.tmp 54), some (52, true)⟩,
       ⟨some 56, .binOp .eql 3 (.tmp 55) (.const (.int .i64 1)) 3, some (52, true)⟩,
       ⟨some 57, .pick (.tmp 52) (.tmp 56) (.const (.bool false)), none⟩,
       ⟨some 7, .assign (.tmp 57), none⟩] [])
     (.seq
      (.reg false [
        ⟨some 59, .load 25 (.tmp 4), none⟩,
        ⟨some 60, .move (.tmp 1), none⟩,
        ⟨some 61, .move (.tmp 3), none⟩,
        ⟨some 62, .move (.tmp 2), none⟩,
        ⟨some 63, .build 27 #[(0, (.tmp 60)), (1, (.tmp 61)), (2, (.tmp 62))], none⟩,
        ⟨some 64, .buildSlice 22 1 #[(0, (.const (.string ⟨#[120]⟩)))], none⟩,
        ⟨some 65, .call ⟨.value (.func 17), #[(.tmp 59), (.tmp 63), (.const (.int .i64 1)), (.tmp 64)], #[25, 27, 3, 22]⟩, none⟩,
        ⟨some 58, .move (.tmp 65), none⟩,
        ⟨some 66, .extract (.tmp 58) 0, none⟩,
        ⟨some 67, .extract (.tmp 58) 1, none⟩,
        ⟨some 68, .extract (.tmp 58) 2, none⟩,
        ⟨none, .store 25 (.tmp 4) (.tmp 66), none⟩,
        ⟨some 8, .assign (.tmp 67), none⟩,
        ⟨some 9, .assign (.tmp 68), none⟩] [])
      (.seq
       (.reg false [
         ⟨some 70, .load 25 (.tmp 4), none⟩,
         ⟨some 71, .move (.tmp 2), none⟩,
         ⟨some 72, .move (.tmp 1), none⟩,
         ⟨some 73, .move (.tmp 1), none⟩,
         ⟨some 74, .build 27 #[(0, (.tmp 71)), (1, (.tmp 72)), (2, (.tmp 73))], none⟩,
         ⟨some 75, .buildSlice 22 2 #[(0, (.const (.string ⟨#[120]⟩))), (1, (.const (.string ⟨#[121]⟩)))], none⟩,
         ⟨some 76, .call ⟨.value (.func 17), #[(.tmp 70), (.tmp 74), (.const (.int .i64 1)), (.tmp 75)], #[25, 27, 3, 22]⟩, none⟩,
         ⟨some 69, .move (.tmp 76), none⟩,
         ⟨some 77, .extract (.tmp 69) 0, none⟩,
         ⟨some 78, .extract (.tmp 69) 1, none⟩,
         ⟨some 79, .extract (.tmp 69) 2, none⟩,
         ⟨none, .store 25 (.tmp 4) (.tmp 77), none⟩,
         ⟨some 10, .assign (.tmp 78), none⟩,
         ⟨some 11, .assign (.tmp 79), none⟩] [])
       (.seq
        (.reg false [
          ⟨some 80, .move (.tmp 7), none⟩,
          ⟨some 81, .move (.tmp 80), none⟩,
          ⟨some 82, .move (.tmp 8), some (81, true)⟩,
          ⟨some 83, .unOp .not 4 (.tmp 82), some (81, true)⟩,
          ⟨some 84, .pick (.tmp 81) (.tmp 83) (.const (.bool false)), none⟩,
          ⟨some 85, .move (.tmp 84), none⟩,
          ⟨some 86, .move (.tmp 10), some (85, true)⟩,
          ⟨some 87, .pick (.tmp 85) (.tmp 86) (.const (.bool false)), none⟩,
          ⟨some 88, .move (.tmp 87), none⟩,
          ⟨some 89, .indexAddr 25 (.tmp 4) (.const (.int .i64 0)), some (88, true)⟩,
          ⟨some 90, .fieldAddr 24 (.tmp 89) 2, some (88, true)⟩,
          ⟨some 91, .load 22 (.tmp 90), some (88, true)⟩,
          ⟨some 92, .buildSlice 22 1 #[(0, (.const (.string ⟨#[120]⟩)))], some (88, true)⟩,
          ⟨some 93, .call ⟨.value (.func 14), #[(.tmp 91), (.tmp 92)], #[22, 22]⟩, some (88, true)⟩,
          ⟨some 94, .pick (.tmp 88) (.tmp 93) (.const (.bool false)), none⟩,
          ⟨some 95, .move (.tmp 94), none⟩,
          ⟨some 96, .indexAddr 25 (.tmp 4) (.const (.int .i64 1)), some (95, true)⟩,
          ⟨some 97, .fieldAddr 24 (.tmp 96) 2, some (95, true)⟩,
          ⟨some 98, .load 22 (.tmp 97), some (95, true)⟩,
          ⟨some 99, .buildSlice 22 2 #[(0, (.const (.string ⟨#[120]⟩))), (1, (.const (.string ⟨#[121]⟩)))], some (95, true)⟩,
          ⟨some 100, .call ⟨.value (.func 14), #[(.tmp 98), (.tmp 99)], #[22, 22]⟩, some (95, true)⟩,
          ⟨some 101, .pick (.tmp 95) (.tmp 100) (.const (.bool false)), none⟩,
          ⟨some 7, .assign (.tmp 101), none⟩] [])
        (.seq
         (.reg false [
           ⟨some 103, .load 25 (.tmp 4), none⟩,
           ⟨some 104, .move (.tmp 1), none⟩,
           ⟨some 105, .move (.tmp 2), none⟩,
           ⟨some 106, .move (.tmp 1), none⟩,
           ⟨some 107, .build 27 #[(0, (.tmp 104)), (1, (.tmp 105)), (2, (.tmp 106))], none⟩,
           ⟨some 108, .call ⟨.value (.func 11), #[(.tmp 103), (.tmp 107), (.const (.int .i64 2))], #[25, 27, 3]⟩, none⟩,
           ⟨some 102, .move (.tmp 108), none⟩,
           ⟨some 109, .extract (.tmp 102) 0, none⟩,
           ⟨some 110, .extract (.tmp 102) 1, none⟩,
           ⟨some 111, .extract (.tmp 102) 2, none⟩,
           ⟨none, .store 25 (.tmp 4) (.tmp 109), none⟩,
           ⟨some 5, .assign (.tmp 110), none⟩,
           ⟨some 6, .assign (.tmp 111), none⟩] [])
         (.seq
          (.reg false [
            ⟨some 112, .move (.tmp 7), none⟩,
            ⟨some 113, .move (.tmp 112), none⟩,
            ⟨some 114, .move (.tmp 6), some (113, true)⟩,
            ⟨some 115, .binOp .eql 29 (.tmp 114) (.const (.int .i64 0)) 29, some (113, true)⟩,
            ⟨some 116, .pick (.tmp 113) (.tmp 115) (.const (.bool false)), none⟩,
            ⟨some 117, .move (.tmp 116), none⟩,
            ⟨some 118, .move (.tmp 5), some (117, true)⟩,
            ⟨some 119, .buildSlice 22 2 #[(0, (.const (.string ⟨#[120]⟩))), (1, (.const (.string ⟨#[121]⟩)))], some (117, true)⟩,
            ⟨some 120, .call ⟨.value (.func 14), #[(.tmp 118), (.tmp 119)], #[22, 22]⟩, some (117, true)⟩,
            ⟨some 121, .pick (.tmp 117) (.tmp 120) (.const (.bool false)), none⟩,
            ⟨some 122, .move (.tmp 121), none⟩,
            ⟨some 123, .indexAddr 25 (.tmp 4) (.const (.int .i64 1)), some (122, true)⟩,
            ⟨some 124, .fieldAddr 24 (.tmp 123) 0, some (122, true)⟩,
            ⟨some 125, .load 3 (.tmp 124), some (122, true)⟩,
            ⟨some 126, .binOp .eql 3 (.tmp 125) (.const (.int .i64 1)) 3, some (122, true)⟩,
            ⟨some 127, .pick (.tmp 122) (.tmp 126) (.const (.bool false)), none⟩,
            ⟨some 7, .assign (.tmp 127), none⟩] [])
          (.seq
           (.reg false [
             ⟨some 129, .load 25 (.tmp 4), none⟩,
             ⟨some 130, .build 27 #[], none⟩,
             ⟨some 131, .call ⟨.value (.func 11), #[(.tmp 129), (.tmp 130), (.const (.int .i64 2))], #[25, 27, 3]⟩, none⟩,
             ⟨some 128, .move (.tmp 131), none⟩,
             ⟨some 132, .extract (.tmp 128) 0, none⟩,
             ⟨some 133, .extract (.tmp 128) 1, none⟩,
             ⟨some 134, .extract (.tmp 128) 2, none⟩,
             ⟨some 12, .alloc 25, none⟩,
             ⟨none, .store 25 (.tmp 12) (.tmp 132), none⟩,
             ⟨some 13, .assign (.tmp 133), none⟩,
             ⟨some 14, .assign (.tmp 134), none⟩] [])
           (.seq
            (.reg false [
              ⟨some 135, .move (.tmp 7), none⟩,
              ⟨some 136, .move (.tmp 135), none⟩,
              ⟨some 137, .move (.tmp 14), some (136, true)⟩,
              ⟨some 138, .binOp .eql 29 (.tmp 137) (.const (.int .i64 18)) 29, some (136, true)⟩,
              ⟨some 139, .pick (.tmp 136) (.tmp 138) (.const (.bool false)), none⟩,
              ⟨some 140, .move (.tmp 139), none⟩,
              ⟨some 141, .indexAddr 25 (.tmp 12) (.const (.int .i64 1)), some (140, true)⟩,
              ⟨some 142, .fieldAddr 24 (.tmp 141) 0, some (140, true)⟩,
              ⟨some 143, .load 3 (.tmp 142), some (140, true)⟩,
              ⟨some 144, .binOp .eql 3 (.tmp 143) (.const (.int .i64 2)) 3, some (140, true)⟩,
              ⟨some 145, .pick (.tmp 140) (.tmp 144) (.const (.bool false)), none⟩,
              ⟨some 7, .assign (.tmp 145), none⟩] [])
            (.seq
             (.reg false [
               ⟨some 147, .load 25 (.tmp 4), none⟩,
               ⟨some 148, .build 27 #[], none⟩,
               ⟨some 149, .buildSlice 22 3 #[(0, (.const (.string ⟨#[120]⟩))), (1, (.const (.string ⟨#[121]⟩))), (2, (.const (.string ⟨#[122]⟩)))], none⟩,
               ⟨some 150, .call ⟨.value (.func 17), #[(.tmp 147), (.tmp 148), (.const (.int .i64 1)), (.tmp 149)], #[25, 27, 3, 22]⟩, none⟩,
               ⟨some 146, .move (.tmp 150), none⟩,
               ⟨some 151, .extract (.tmp 146) 0, none⟩,
               ⟨some 152, .extract (.tmp 146) 1, none⟩,
               ⟨some 153, .extract (.tmp 146) 2, none⟩,
               ⟨none, .store 25 (.tmp 4) (.tmp 151), none⟩,
               ⟨some 8, .assign (.tmp 152), none⟩] [])
             (.seq
              (.reg false [
                ⟨some 154, .move (.tmp 8), none⟩,
                ⟨some 155, .unOp .not 4 (.tmp 154), none⟩,
                ⟨some 156, .move (.tmp 155), none⟩,
                ⟨some 157, .indexAddr 25 (.tmp 4) (.const (.int .i64 0)), some (156, true)⟩,
                ⟨some 158, .fieldAddr 24 (.tmp 157) 2, some (156, true)⟩,
                ⟨some 159, .load 22 (.tmp 158), some (156, true)⟩,
                ⟨some 160, .call ⟨.builtin .len, #[(.tmp 159)], #[22]⟩, some (156, true)⟩,
                ⟨some 161, .binOp .eql 3 (.tmp 160) (.const (.int .i64 2)) 3, some (156, true)⟩,
                ⟨some 162, .pick (.tmp 156) (.tmp 161) (.const (.bool false)), none⟩,
                ⟨some 163, .move (.tmp 162), none⟩,
                ⟨some 164, .indexAddr 25 (.tmp 4) (.const (.int .i64 1)), some (163, true)⟩,
                ⟨some 165, .fieldAddr 24 (.tmp 164) 2, some (163, true)⟩,
                ⟨some 166, .load 22 (.tmp 165), some (163, true)⟩,
                ⟨some 167, .call ⟨.builtin .len, #[(.tmp 166)], #[22]⟩, some (163, true)⟩,
                ⟨some 168, .binOp .eql 3 (.tmp 167) (.const (.int .i64 3)) 3, some (163, true)⟩,
                ⟨some 169, .pick (.tmp 163) (.tmp 168) (.const (.bool false)), none⟩,
                ⟨some 170, .move (.tmp 169), none⟩,
                ⟨some 171, .indexAddr 25 (.tmp 4) (.const (.int .i64 2)), some (170, true)⟩,
                ⟨some 172, .fieldAddr 24 (.tmp 171) 2, some (170, true)⟩,
                ⟨some 173, .load 22 (.tmp 172), some (170, true)⟩,
                ⟨some 174, .call ⟨.builtin .len, #[(.tmp 173)], #[22]⟩, some (170, true)⟩,
                ⟨some 175, .binOp .eql 3 (.tmp 174) (.const (.int .i64 2)) 3, some (170, true)⟩,
                ⟨some 176, .pick (.tmp 170) (.tmp 175) (.const (.bool false)), none⟩,
                ⟨some 15, .assign (.tmp 176), none⟩] [])
              (.seq
               (.reg false [
                 ⟨some 177, .indexAddr 25 (.tmp 4) (.const (.int .i64 0)), none⟩,
                 ⟨some 178, .load 24 (.tmp 177), none⟩,
                 ⟨some 179, .call ⟨.value (.func 29), #[(.tmp 178)], #[24]⟩, none⟩,
                 ⟨some 180, .indexAddr 25 (.tmp 4) (.const (.int .i64 0)), none⟩,
                 ⟨none, .store 24 (.tmp 180) (.tmp 179), none⟩] [])
               (.seq
                (.reg false [
                  ⟨some 182, .load 25 (.tmp 4), none⟩,
                  ⟨some 183, .build 27 #[], none⟩,
                  ⟨some 184, .buildSlice 22 3 #[(0, (.const (.string ⟨#[120]⟩))), (1, (.const (.string ⟨#[121]⟩))), (2, (.const (.string ⟨#[119]⟩)))], none⟩,
                  ⟨some 185, .call ⟨.value (.func 17), #[(.tmp 182), (.tmp 183), (.const (.int .i64 2)), (.tmp 184)], #[25, 27, 3, 22]⟩, none⟩,
                  ⟨some 181, .move (.tmp 185), none⟩,
                  ⟨some 186, .extract (.tmp 181) 0, none⟩,
                  ⟨some 187, .extract (.tmp 181) 1, none⟩,
                  ⟨some 188, .extract (.tmp 181) 2, none⟩,
                  ⟨none, .store 25 (.tmp 4) (.tmp 186), none⟩,
                  ⟨some 8, .assign (.tmp 187), none⟩] [])
                (.seq
                 (.reg false [
                   ⟨some 189, .move (.tmp 15), none⟩,
                   ⟨some 190, .move (.tmp 189), none⟩,
                   ⟨some 191, .move (.tmp 8), some (190, true)⟩,
                   ⟨some 192, .pick (.tmp 190) (.tmp 191) (.const (.bool false)), none⟩,
                   ⟨some 193, .move (.tmp 192), none⟩,
                   ⟨some 194, .indexAddr 25 (.tmp 4) (.const (.int .i64 0)), some (193, true)⟩,
                   ⟨some 195, .fieldAddr 24 (.tmp 194) 3, some (193, true)⟩,
                   ⟨some 196, .load 4 (.tmp 195), some (193, true)⟩,
                   ⟨some 197, .unOp .not 4 (.tmp 196), some (193, true)⟩,
                   ⟨some 198, .pick (.tmp 193) (.tmp 197) (.const (.bool false)), none⟩,
                   ⟨some 199, .move (.tmp 198), none⟩,
                   ⟨some 200, .indexAddr 25 (.tmp 4) (.const (.int .i64 0)), some (199, true)⟩,
                   ⟨some 201, .fieldAddr 24 (.tmp 200) 2, some (199, true)⟩,
                   ⟨some 202, .load 22 (.tmp 201), some (199, true)⟩,
                   ⟨some 203, .buildSlice 22 3 #[(0, (.const (.string ⟨#[120]⟩))), (1, (.const (.string ⟨#[121]⟩))), (2, (.const (.string ⟨#[119]⟩)))], some (199, true)⟩,
                   ⟨some 204, .call ⟨.value (.func 14), #[(.tmp 202), (.tmp 203)], #[22, 22]⟩, some (199, true)⟩,
                   ⟨some 205, .pick (.tmp 199) (.tmp 204) (.const (.bool false)), none⟩,
                   ⟨some 206, .move (.tmp 205), none⟩,
                   ⟨some 207, .indexAddr 25 (.tmp 4) (.const (.int .i64 0)), some (206, true)⟩,
                   ⟨some 208, .fieldAddr 24 (.tmp 207) 0, some (206, true)⟩,
                   ⟨some 209, .load 3 (.tmp 208), some (206, true)⟩,
                   ⟨some 210, .binOp .eql 3 (.tmp 209) (.const (.int .i64 2)) 3, some (206, true)⟩,
                   ⟨some 211, .pick (.tmp 206) (.tmp 210) (.const (.bool false)), none⟩,
                   ⟨some 15, .assign (.tmp 211), none⟩] [])
                 (.seq
                  (.reg false [
                    ⟨some 213, .load 25 (.tmp 4), none⟩,
                    ⟨some 214, .move (.tmp 3), none⟩,
                    ⟨some 215, .move (.tmp 1), none⟩,
                    ⟨some 216, .move (.tmp 2), none⟩,
                    ⟨some 217, .build 27 #[(0, (.tmp 214)), (1, (.tmp 215)), (2, (.tmp 216))], none⟩,
                    ⟨some 218, .call ⟨.value (.func 11), #[(.tmp 213), (.tmp 217), (.const (.int .i64 9))], #[25, 27, 3]⟩, none⟩,
                    ⟨some 212, .move (.tmp 218), none⟩,
                    ⟨some 219, .extract (.tmp 212) 0, none⟩,
                    ⟨some 220, .extract (.tmp 212) 1, none⟩,
                    ⟨some 221, .extract (.tmp 212) 2, none⟩,
                    ⟨none, .store 25 (.tmp 4) (.tmp 219), none⟩,
                    ⟨some 16, .assign (.tmp 220), none⟩,
                    ⟨some 17, .assign (.tmp 221), none⟩] [])
                  (.seq
                   (.reg false [
                     ⟨some 222, .move (.tmp 15), none⟩,
                     ⟨some 223, .move (.tmp 222), none⟩,
                     ⟨some 224, .move (.tmp 17), some (223, true)⟩,
                     ⟨some 225, .binOp .eql 29 (.tmp 224) (.const (.int .i64 18)) 29, some (223, true)⟩,
                     ⟨some 226, .pick (.tmp 223) (.tmp 225) (.const (.bool false)), none⟩,
                     ⟨some 227, .move (.tmp 226), none⟩,
                     ⟨some 228, .indexAddr 25 (.tmp 4) (.const (.int .i64 0)), some (227, true)⟩,
                     ⟨some 229, .fieldAddr 24 (.tmp 228) 0, some (227, true)⟩,
                     ⟨some 230, .load 3 (.tmp 229), some (227, true)⟩,
                     ⟨some 231, .binOp .eql 3 (.tmp 230) (.const (.int .i64 9)) 3, some (227, true)⟩,
                     ⟨some 232, .pick (.tmp 227) (.tmp 231) (.const (.bool false)), none⟩,
                     ⟨some 233, .move (.tmp 232), none⟩,
                     ⟨some 234, .indexAddr 25 (.tmp 4) (.const (.int .i64 1)), some (233, true)⟩,
                     ⟨some 235, .fieldAddr 24 (.tmp 234) 0, some (233, true)⟩,
                     ⟨some 236, .load 3 (.tmp 235), some (233, true)⟩,
                     ⟨some 237, .binOp .eql 3 (.tmp 236) (.const (.int .i64 9)) 3, some (233, true)⟩,
                     ⟨some 238, .pick (.tmp 233) (.tmp 237) (.const (.bool false)), none⟩,
                     ⟨some 239, .move (.tmp 238), none⟩,
                     ⟨some 240, .indexAddr 25 (.tmp 4) (.const (.int .i64 2)), some (239, true)⟩,
                     ⟨some 241, .fieldAddr 24 (.tmp 240) 0, some (239, true)⟩,
                     ⟨some 242, .load 3 (.tmp 241), some (239, true)⟩,
                     ⟨some 243, .binOp .eql 3 (.tmp 242) (.const (.int .i64 2)) 3, some (239, true)⟩,
                     ⟨some 244, .pick (.tmp 239) (.tmp 243) (.const (.bool false)), none⟩,
                     ⟨some 15, .assign (.tmp 244), none⟩] [])
                   (.seq
                    (.reg false [
                      ⟨some 245, .makeSlice 22 (.const (.int .i64 401)) (.const (.int .i64 401)), none⟩,
                      ⟨some 18, .assign (.tmp 245), none⟩] [])
                    (.seq
                     (.reg false [
                       ⟨some 247, .build 24 #[], none⟩,
                       ⟨some 248, .move (.tmp 18), none⟩,
                       ⟨some 249, .call ⟨.value (.func 24), #[(.tmp 247), (.const (.int .i64 1)), (.tmp 248)], #[24, 3, 22]⟩, none⟩,
                       ⟨some 246, .move (.tmp 249), none⟩,
                       ⟨some 250, .extract (.tmp 246) 0, none⟩,
                       ⟨some 251, .extract (.tmp 246) 1, none⟩,
                       ⟨some 19, .alloc 24, none⟩,
                       ⟨none, .store 24 (.tmp 19) (.tmp 250), none⟩,
                       ⟨some 20, .assign (.tmp 251), none⟩] [])
                     (.seq
                      (.reg false [
                        ⟨some 253, .build 24 #[], none⟩,
                        ⟨some 254, .call ⟨.value (.func 26), #[(.tmp 253), (.const (.int .i64 1)), (.const (.slice none 0 0))], #[24, 3, 22]⟩, none⟩,
                        ⟨some 252, .move (.tmp 254), none⟩,
                        ⟨some 255, .extract (.tmp 252) 0, none⟩,
                        ⟨some 256, .extract (.tmp 252) 1, none⟩,
                        ⟨some 21, .alloc 24, none⟩,
                        ⟨none, .store 24 (.tmp 21) (.tmp 255), none⟩,
                        ⟨some 22, .assign (.tmp 256), none⟩] [])
                      (.seq
                       (.reg false [
                         ⟨some 258, .build 24 #[(3, (.const (.bool true)))], none⟩,
                         ⟨some 259, .call ⟨.value (.func 22), #[(.tmp 258), (.const (.int .i64 1))], #[24, 3]⟩, none⟩,
                         ⟨some 257, .move (.tmp 259), none⟩,
                         ⟨some 260, .extract (.tmp 257) 0, none⟩,
                         ⟨some 261, .extract (.tmp 257) 1, none⟩,
                         ⟨some 23, .alloc 24, none⟩,
                         ⟨none, .store 24 (.tmp 23) (.tmp 260), none⟩,
                         ⟨some 24, .assign (.tmp 261), none⟩] [])
                       (.seq
                        (.reg false [
                          ⟨some 263, .build 24 #[(0, (.const (.int .i64 3)))], none⟩,
                          ⟨some 264, .call ⟨.value (.func 24), #[(.tmp 263), (.const (.int .i64 2)), (.const (.slice none 0 0))], #[24, 3, 22]⟩, none⟩,
                          ⟨some 262, .move (.tmp 264), none⟩,
                          ⟨some 265, .extract (.tmp 262) 0, none⟩,
                          ⟨some 266, .extract (.tmp 262) 1, none⟩,
                          ⟨some 25, .alloc 24, none⟩,
                          ⟨none, .store 24 (.tmp 25) (.tmp 265), none⟩,
                          ⟨some 26, .assign (.tmp 266), none⟩] [])
                        (.seq
                         (.reg false [
                           ⟨some 268, .build 24 #[], none⟩,
                           ⟨some 269, .call ⟨.value (.func 22), #[(.tmp 268), (.const (.int .i64 0))], #[24, 3]⟩, none⟩,
                           ⟨some 267, .move (.tmp 269), none⟩,
                           ⟨some 270, .extract (.tmp 267) 0, none⟩,
                           ⟨some 271, .extract (.tmp 267) 1, none⟩,
                           ⟨some 27, .alloc 24, none⟩,
                           ⟨none, .store 24 (.tmp 27) (.tmp 270), none⟩,
                           ⟨some 28, .assign (.tmp 271), none⟩] [])
                         (.seq
                          (.reg false [
                            ⟨some 272, .move (.tmp 7), none⟩,
                            ⟨some 273, .move (.tmp 272), none⟩,
                            ⟨some 274, .move (.tmp 15), some (273, true)⟩,
                            ⟨some 275, .pick (.tmp 273) (.tmp 274) (.const (.bool false)), none⟩,
                            ⟨some 276, .move (.tmp 275), none⟩,
                            ⟨some 277, .move (.tmp 20), some (276, true)⟩,
                            ⟨some 278, .binOp .eql 29 (.tmp 277) (.const (.int .i64 3)) 29, some (276, true)⟩,
                            ⟨some 279, .pick (.tmp 276) (.tmp 278) (.const (.bool false)), none⟩,
                            ⟨some 280, .move (.tmp 279), none⟩,
                            ⟨some 281, .move (.tmp 22), some (280, true)⟩,
                            ⟨some 282, .binOp .eql 29 (.tmp 281) (.const (.int .i64 8)) 29, some (280, true)⟩,
                            ⟨some 283, .pick (.tmp 280) (.tmp 282) (.const (.bool false)), none⟩,
                            ⟨some 284, .move (.tmp 283), none⟩,
                            ⟨some 285, .move (.tmp 24), some (284, true)⟩,
                            ⟨some 286, .binOp .eql 29 (.tmp 285) (.const (.int .i64 7)) 29, some (284, true)⟩,
                            ⟨some 287, .pick (.tmp 284) (.tmp 286) (.const (.bool false)), none⟩,
                            ⟨some 288, .move (.tmp 287), none⟩,
                            ⟨some 289, .move (.tmp 26), some (288, true)⟩,
                            ⟨some 290, .binOp .eql 29 (.tmp 289) (.const (.int .i64 15)) 29, some (288, true)⟩,
                            ⟨some 291, .pick (.tmp 288) (.tmp 290) (.const (.bool false)), none⟩,
                            ⟨some 292, .move (.tmp 291), none⟩,
                            ⟨some 293, .move (.tmp 28), some (292, true)⟩,
                            ⟨some 294, .binOp .eql 29 (.tmp 293) (.const (.int .i64 1)) 29, some (292, true)⟩,
                            ⟨some 295, .pick (.tmp 292) (.tmp 294) (.const (.bool false)), none⟩,
                            ⟨some 296, .move (.tmp 295), none⟩,
                            ⟨some 297, .call ⟨.value (.func 15), #[], #[]⟩, some (296, true)⟩,
                            ⟨some 298, .pick (.tmp 296) (.tmp 297) (.const (.bool false)), none⟩,
                            ⟨some 0, .assign (.tmp 298), none⟩] [])
                          .ret)))))))))))))))))))))))))
theorem TryL9_ok : Try.f9.body.bind (light Try.f9.ntmps) = some TryL9 := rfl

def TryL10 : LC :=
 (.seq
  (.reg false [
    ⟨some 1, .box 25 (.tmp 0), none⟩,
    ⟨some 2, .alloc 25, none⟩] [])
  (.seq
   (.reg true [
     ⟨some 3, .indexAddr 25 (.tmp 1) (.const (.int .i64 0)), none⟩,
     ⟨some 4, .load 24 (.tmp 3), none⟩,
     ⟨some 5, .call ⟨.value (.func 16), #[(.tmp 4)], #[24]⟩, none⟩,
     ⟨some 6, .indexAddr 25 (.tmp 1) (.const (.int .i64 1)), none⟩,
     ⟨some 7, .load 24 (.tmp 6), none⟩,
     ⟨some 8, .call ⟨.value (.func 16), #[(.tmp 7)], #[24]⟩, none⟩,
     ⟨some 9, .indexAddr 25 (.tmp 1) (.const (.int .i64 2)), none⟩,
     ⟨some 10, .load 24 (.tmp 9), none⟩,
     ⟨some 11, .call ⟨.value (.func 16), #[(.tmp 10)], #[24]⟩, none⟩,
     ⟨some 12, .build 25 #[(0, (.tmp 5)), (1, (.tmp 8)), (2, (.tmp 11))], none⟩,
     ⟨none, .store 25 (.tmp 2) (.tmp 12), none⟩] [(2, 3), (2, 4), (2, 6), (5, 6), (2, 7), (5, 7)])
   .ret))
theorem TryL10_ok : Try.f10.body.bind (light Try.f10.ntmps) = some TryL10 := rfl

def TryL11 : LC :=
 (.seq
  (.reg false [
    ⟨some 3, .box 25 (.tmp 0), none⟩,
    ⟨some 4, .box 27 (.tmp 1), none⟩,
    ⟨some 5, .box 3 (.tmp 2), none⟩,
    ⟨some 6, .alloc 25, none⟩,
    ⟨some 7, .assign (.const (.slice none 0 0)), none⟩,
    ⟨some 8, .assign (.const (.int .i64 0)), none⟩] [])
  (.seq
   (.reg false [
     ⟨some 16, .load 25 (.tmp 3), none⟩,
     ⟨some 17, .call ⟨.value (.func 31), #[(.tmp 16)], #[25]⟩, none⟩,
     ⟨none, .store 25 (.tmp 3) (.tmp 17), none⟩] [])
   (.seq
    (.seq
     (.reg false [
       ⟨some 18, .load 3 (.tmp 5), none⟩,
       ⟨some 19, .binOp .lss 3 (.tmp 18) (.const (.int .i64 1)) 3, none⟩] [])
     (.cond (.tmp 19)
      (.seq
       (.reg false [
         ⟨some 20, .load 25 (.tmp 3), none⟩,
         ⟨none, .store 25 (.tmp 6) (.tmp 20), none⟩,
         ⟨some 7, .assign (.const (.slice none 0 0)), none⟩,
         ⟨some 8, .assign (.const (.int .i64 1)), none⟩] [])
       .ret)
      .skip))
    (.seq
     (.reg false [
       ⟨some 21, .load 27 (.tmp 4), none⟩,
       ⟨some 22, .makeFunc (.func 33) #[] #[(.tmp 5)], none⟩,
       ⟨some 23, .call ⟨.value (.func 32), #[(.tmp 3), (.tmp 21), (.tmp 22)], #[58, 27, 59]⟩, none⟩,
       ⟨some 9, .assign (.tmp 23), none⟩] [])
     (.seq
      (.seq
       (.reg false [
         ⟨some 24, .move (.tmp 9), none⟩,
         ⟨some 25, .call ⟨.builtin .len, #[(.tmp 24)], #[56]⟩, none⟩,
         ⟨some 26, .binOp .lss 3 (.tmp 25) (.const (.int .i64 2)) 3, none⟩] [])
       (.cond (.tmp 26)
        (.seq
         (.reg false [
           ⟨some 27, .load 25 (.tmp 3), none⟩,
           ⟨none, .store 25 (.tmp 6) (.tmp 27), none⟩,
           ⟨some 7, .assign (.const (.slice none 0 0)), none⟩,
           ⟨some 8, .assign (.const (.int .i64 18)), none⟩] [])
         .ret)
        .skip))
      (.seq
       (.reg false [
         ⟨some 28, .move (.tmp 9), none⟩,
         ⟨some 29, .indexAddr 56 (.tmp 28) (.const (.int .i64 0)), none⟩,
         ⟨some 30, .load 3 (.tmp 29), none⟩,
         ⟨some 31, .indexAddr 25 (.tmp 3) (.tmp 30), none⟩,
         ⟨some 32, .load 24 (.tmp 31), none⟩,
         ⟨some 10, .alloc 24, none⟩,
         ⟨none, .store 24 (.tmp 10) (.tmp 32), none⟩] [])
       (.seq
        (.seq
         (.reg false [
           ⟨some 33, .move (.tmp 9), none⟩,
           ⟨some 34, .slice 56 (.tmp 33) (some (.const (.int .i64 1))) none none, none⟩,
           ⟨some 35, .call ⟨.builtin .len, #[(.tmp 34)], #[56]⟩, none⟩,
           ⟨some 36, .move (.const (.int .i64 0)), none⟩] [])
         (.block 0
          (.loop
           (.seq
            (.reg false [
              ⟨some 37, .binOp .lss 3 (.tmp 36) (.tmp 35) 3, none⟩] [])
            (.seq
             (.cond (.tmp 37)
              .skip
              (.exit 0))
             (.seq
              (.block 1
               (.seq
                (.reg false [
                  ⟨some 38, .indexAddr 56 (.tmp 34) (.tmp 36), none⟩,
                  ⟨some 39, .load 3 (.tmp 38), none⟩,
                  ⟨some 12, .assign (.tmp 39), none⟩] [])
                (.seq
                 (.reg true [
                   ⟨some 40, .move (.tmp 12), none⟩,
                   ⟨some 41, .indexAddr 25 (.tmp 3) (.tmp 40), none⟩,
                   ⟨some 42, .load 24 (.tmp 41), none⟩,
                   ⟨some 43, .load 24 (.tmp 10), none⟩,
                   ⟨some 44, .call ⟨.value (.func 34), #[(.tmp 42), (.tmp 43)], #[24, 24]⟩, none⟩] [])
                 (.cond (.tmp 44)
                  (.reg false [
                    ⟨some 45, .move (.tmp 12), none⟩,
                    ⟨some 46, .indexAddr 25 (.tmp 3) (.tmp 45), none⟩,
                    ⟨some 47, .load 24 (.tmp 46), none⟩,
                    ⟨none, .store 24 (.tmp 10) (.tmp 47), none⟩] [])
                  .skip))))
              (.reg false [
                ⟨some 48, .binOp .add 3 (.tmp 36) (.const (.int .i64 1)) 3, none⟩,
                ⟨some 36, .move (.tmp 48), none⟩] [])))))))
        (.seq
         (.reg false [
           ⟨some 49, .fieldAddr 24 (.tmp 10) 2, none⟩,
           ⟨some 50, .load 22 (.tmp 49), none⟩,
           ⟨some 51, .call ⟨.value (.func 35), #[(.tmp 50)], #[22]⟩, none⟩,
           ⟨some 13, .assign (.tmp 51), none⟩] [])
         (.seq
          (.seq
           (.reg false [
             ⟨some 52, .move (.tmp 9), none⟩,
             ⟨some 53, .call ⟨.builtin .len, #[(.tmp 52)], #[56]⟩, none⟩,
             ⟨some 54, .move (.const (.int .i64 0)), none⟩] [])
           (.block 2
            (.loop
             (.seq
              (.reg false [
                ⟨some 55, .binOp .lss 3 (.tmp 54) (.tmp 53) 3, none⟩] [])
              (.seq
               (.cond (.tmp 55)
                .skip
                (.exit 2))
               (.seq
                (.block 3
                 (.seq
                  (.reg false [
                    ⟨some 56, .indexAddr 56 (.tmp 52) (.tmp 54), none⟩,
                    ⟨some 57, .load 3 (.tmp 56), none⟩,
                    ⟨some 15, .assign (.tmp 57), none⟩] [])
                  (.reg false [
                    ⟨some 58, .move (.tmp 15), none⟩,
                    ⟨some 59, .load 3 (.tmp 5), none⟩,
                    ⟨some 60, .move (.tmp 13), none⟩,
                    ⟨some 61, .call ⟨.value (.func 36), #[(.tmp 59), (.tmp 60)], #[3, 22]⟩, none⟩,
                    ⟨some 62, .indexAddr 25 (.tmp 3) (.tmp 58), none⟩,
                    ⟨none, .store 24 (.tmp 62) (.tmp 61), none⟩] [])))
                (.reg false [
                  ⟨some 63, .binOp .add 3 (.tmp 54) (.const (.int .i64 1)) 3, none⟩,
                  ⟨some 54, .move (.tmp 63), none⟩] [])))))))
          (.seq
           (.reg false [
             ⟨some 64, .load 25 (.tmp 3), none⟩,
             ⟨some 65, .move (.tmp 13), none⟩,
             ⟨none, .store 25 (.tmp 6) (.tmp 64), none⟩,
             ⟨some 7, .assign (.tmp 65), none⟩,
             ⟨some 8, .assign (.const (.int .i64 0)), none⟩] [])
           .ret))))))))))
theorem TryL11_ok : Try.f11.body.bind (light Try.f11.ntmps) = some TryL11 := rfl

def TryL12 : LC :=
 (.seq
  (.reg false [
    ⟨some 3, .box 25 (.tmp 0), none⟩,
    ⟨some 4, .box 27 (.tmp 1), none⟩,
    ⟨some 6, .alloc 25, none⟩,
    ⟨some 7, .assign (.const (.slice none 0 0)), none⟩,
    ⟨some 8, .assign (.const (.int .i64 0)), none⟩] [])
  (.seq
   (.reg false [
     ⟨some 17, .load 25 (.tmp 3), none⟩,
     ⟨some 18, .call ⟨.value (.func 37), #[(.tmp 17)], #[25]⟩, none⟩,
     ⟨none, .store 25 (.tmp 3) (.tmp 18), none⟩] [])
   (.seq
    (.seq
     (.reg false [
       ⟨some 19, .move (.tmp 2), none⟩,
       ⟨some 20, .binOp .lss 3 (.tmp 19) (.const (.int .i64 1)) 3, none⟩] [])
     (.cond (.tmp 20)
      (.seq
       (.reg false [
         ⟨some 21, .load 25 (.tmp 3), none⟩,
         ⟨none, .store 25 (.tmp 6) (.tmp 21), none⟩,
         ⟨some 7, .assign (.const (.slice none 0 0)), none⟩,
         ⟨some 8, .assign (.const (.int .i64 1)), none⟩] [])
       .ret)
      .skip))
    (.seq
     (.reg false [
       ⟨some 9, .assign (.const (.slice none 0 0)), none⟩] [])
     (.seq
      (.seq
       (.reg false [
         ⟨some 10, .assign (.const (.int .i64 0)), none⟩] [])
       (.block 0
        (.loop
         (.seq
          (.seq
           (.reg false [
             ⟨some 22, .move (.tmp 10), none⟩,
             ⟨some 23, .binOp .lss 3 (.tmp 22) (.const (.int .i64 3)) 3, none⟩] [])
           (.cond (.tmp 23)
            .skip
            (.exit 0)))
          (.seq
           (.block 1
            (.seq
             (.reg false [
               ⟨some 27, .move (.tmp 10), none⟩,
               ⟨some 28, .indexAddr 25 (.tmp 3) (.tmp 27), none⟩,
               ⟨some 29, .load 24 (.tmp 28), none⟩,
               ⟨some 30, .move (.tmp 2), none⟩,
               ⟨some 31, .call ⟨.value (.func 23), #[(.tmp 29), (.tmp 30)], #[24, 3]⟩, none⟩,
               ⟨some 26, .move (.tmp 31), none⟩,
               ⟨some 32, .extract (.tmp 26) 0, none⟩,
               ⟨some 33, .extract (.tmp 26) 1, none⟩,
               ⟨some 11, .alloc 24, none⟩,
               ⟨none, .store 24 (.tmp 11) (.tmp 32), none⟩,
               ⟨some 12, .assign (.tmp 33), none⟩] [])
             (.seq
              (.seq
               (.reg false [
                 ⟨some 34, .move (.tmp 10), none⟩,
                 ⟨some 35, .indexAddr 27 (.tmp 4) (.tmp 34), none⟩,
                 ⟨some 36, .load 26 (.tmp 35), none⟩,
                 ⟨some 37, .call ⟨.value (.func 38), #[(.tmp 36)], #[26]⟩, none⟩,
                 ⟨some 38, .unOp .not 4 (.tmp 37), none⟩,
                 ⟨some 39, .move (.tmp 38), none⟩,
                 ⟨some 40, .move (.tmp 12), some (39, false)⟩,
                 ⟨some 41, .binOp .neq 29 (.tmp 40) (.const (.int .i64 0)) 29, some (39, false)⟩,
                 ⟨some 42, .pick (.tmp 39) (.const (.bool true)) (.tmp 41), none⟩] [])
               (.cond (.tmp 42)
                (.exit 1)
                .skip))
              (.seq
               (.reg false [
                 ⟨some 43, .move (.tmp 10), none⟩,
                 ⟨some 44, .load 24 (.tmp 11), none⟩,
                 ⟨some 45, .indexAddr 25 (.tmp 3) (.tmp 43), none⟩,
                 ⟨none, .store 24 (.tmp 45) (.tmp 44), none⟩] [])
               (.seq
                (.reg false [
                  ⟨some 46, .move (.tmp 10), none⟩,
                  ⟨some 47, .indexAddr 27 (.tmp 4) (.tmp 46), none⟩,
                  ⟨some 48, .load 26 (.tmp 47), none⟩,
                  ⟨some 49, .binOp .eql 26 (.tmp 48) (.const (.int .u8 0)) 26, none⟩] [])
                (.cond (.tmp 49)
                 (.reg false [
                   ⟨some 50, .move (.tmp 9), none⟩,
                   ⟨some 51, .move (.tmp 10), none⟩,
                   ⟨some 52, .buildSlice 56 1 #[(0, (.tmp 51))], none⟩,
                   ⟨some 53, .call ⟨.builtin .append, #[(.tmp 50), (.tmp 52)], #[56, 56]⟩, none⟩,
                   ⟨some 9, .assign (.tmp 53), none⟩] [])
                 .skip))))))
           (.reg false [
             ⟨some 24, .move (.tmp 10), none⟩,
             ⟨some 25, .binOp .add 3 (.tmp 24) (.const (.int .i64 1)) 3, none⟩,
             ⟨some 10, .assign (.tmp 25), none⟩] []))))))
      (.seq
       (.seq
        (.reg false [
          ⟨some 54, .move (.tmp 9), none⟩,
          ⟨some 55, .call ⟨.builtin .len, #[(.tmp 54)], #[56]⟩, none⟩,
          ⟨some 56, .binOp .lss 3 (.tmp 55) (.const (.int .i64 2)) 3, none⟩] [])
        (.cond (.tmp 56)
         (.seq
          (.reg false [
            ⟨some 57, .load 25 (.tmp 3), none⟩,
            ⟨none, .store 25 (.tmp 6) (.tmp 57), none⟩,
            ⟨some 7, .assign (.const (.slice none 0 0)), none⟩,
            ⟨some 8, .assign (.const (.int .i64 18)), none⟩] [])
          .ret)
         .skip))
       (.seq
        (.reg false [
          ⟨some 58, .move (.tmp 9), none⟩,
          ⟨some 59, .indexAddr 56 (.tmp 58) (.const (.int .i64 0)), none⟩,
          ⟨some 60, .load 3 (.tmp 59), none⟩,
          ⟨some 61, .indexAddr 25 (.tmp 3) (.tmp 60), none⟩,
          ⟨some 62, .load 24 (.tmp 61), none⟩,
          ⟨some 13, .alloc 24, none⟩,
          ⟨none, .store 24 (.tmp 13) (.tmp 62), none⟩] [])
        (.seq
         (.seq
          (.reg false [
            ⟨some 14, .assign (.const (.int .i64 1)), none⟩] [])
          (.block 2
           (.loop
            (.seq
             (.seq
              (.reg false [
                ⟨some 63, .move (.tmp 14), none⟩,
                ⟨some 64, .move (.tmp 9), none⟩,
                ⟨some 65, .call ⟨.builtin .len, #[(.tmp 64)], #[56]⟩, none⟩,
                ⟨some 66, .binOp .lss 3 (.tmp 63) (.tmp 65) 3, none⟩] [])
              (.cond (.tmp 66)
               .skip
               (.exit 2)))
             (.seq
              (.block 3
               (.seq
                (.reg false [
                  ⟨some 69, .move (.tmp 9), none⟩,
                  ⟨some 70, .move (.tmp 14), none⟩,
                  ⟨some 71, .indexAddr 56 (.tmp 69) (.tmp 70), none⟩,
                  ⟨some 72, .load 3 (.tmp 71), none⟩,
                  ⟨some 73, .indexAddr 25 (.tmp 3) (.tmp 72), none⟩,
                  ⟨some 74, .load 24 (.tmp 73), none⟩,
                  ⟨some 15, .alloc 24, none⟩,
                  ⟨none, .store 24 (.tmp 15) (.tmp 74), none⟩] [])
                (.seq
                 (.reg false [
                   ⟨some 75, .fieldAddr 24 (.tmp 15) 1, none⟩,
                   ⟨some 76, .load 3 (.tmp 75), none⟩,
                   ⟨some 77, .fieldAddr 24 (.tmp 13) 1, none⟩,
                   ⟨some 78, .load 3 (.tmp 77), none⟩,
                   ⟨some 79, .binOp .gtr 3 (.tmp 76) (.tmp 78) 3, none⟩,
                   ⟨some 80, .move (.tmp 79), none⟩,
                   ⟨some 81, .fieldAddr 24 (.tmp 15) 1, some (80, false)⟩,
                   ⟨some 82, .load 3 (.tmp 81), some (80, false)⟩,
                   ⟨some 83, .fieldAddr 24 (.tmp 13) 1, some (80, false)⟩,
                   ⟨some 84, .load 3 (.tmp 83), some (80, false)⟩,
                   ⟨some 85, .binOp .eql 3 (.tmp 82) (.tmp 84) 3, some (80, false)⟩,
                   ⟨some 86, .move (.tmp 85), some (80, false)⟩,
                   ⟨some 87, .fieldAddr 24 (.tmp 15) 2, some (86, true)⟩,
                   ⟨some 88, .load 22 (.tmp 87), some (86, true)⟩,
                   ⟨some 89, .call ⟨.builtin .len, #[(.tmp 88)], #[22]⟩, some (86, true)⟩,
                   ⟨some 90, .fieldAddr 24 (.tmp 13) 2, some (86, true)⟩,
                   ⟨some 91, .load 22 (.tmp 90), some (86, true)⟩,
                   ⟨some 92, .call ⟨.builtin .len, #[(.tmp 91)], #[22]⟩, some (86, true)⟩,
                   ⟨some 93, .binOp .gtr 3 (.tmp 89) (.tmp 92) 3, some (86, true)⟩,
                   ⟨some 94, .pick (.tmp 86) (.tmp 93) (.const (.bool false)), some (80, false)⟩,
                   ⟨some 95, .pick (.tmp 80) (.const (.bool true)) (.tmp 94), none⟩] [])
                 (.cond (.tmp 95)
                  (.reg false [
                    ⟨some 96, .load 24 (.tmp 15), none⟩,
                    ⟨none, .store 24 (.tmp 13) (.tmp 96), none⟩] [])
                  .skip))))
              (.reg false [
                ⟨some 67, .move (.tmp 14), none⟩,
                ⟨some 68, .binOp .add 3 (.tmp 67) (.const (.int .i64 1)) 3, none⟩,
                ⟨some 14, .assign (.tmp 68), none⟩] []))))))
         (.seq
          (.seq
           (.reg false [
             ⟨some 16, .assign (.const (.int .i64 0)), none⟩] [])
           (.block 4
            (.loop
             (.seq
              (.seq
               (.reg false [
                 ⟨some 97, .move (.tmp 16), none⟩,
                 ⟨some 98, .move (.tmp 9), none⟩,
                 ⟨some 99, .call ⟨.builtin .len, #[(.tmp 98)], #[56]⟩, none⟩,
                 ⟨some 100, .binOp .lss 3 (.tmp 97) (.tmp 99) 3, none⟩] [])
               (.cond (.tmp 100)
                .skip
                (.exit 4)))
              (.seq
               (.block 5
                (.reg true [
                  ⟨some 103, .move (.tmp 9), none⟩,
                  ⟨some 104, .move (.tmp 16), none⟩,
                  ⟨some 105, .indexAddr 56 (.tmp 103) (.tmp 104), none⟩,
                  ⟨some 106, .load 3 (.tmp 105), none⟩,
                  ⟨some 107, .move (.tmp 2), none⟩,
                  ⟨some 108, .move (.tmp 2), none⟩,
                  ⟨some 109, .fieldAddr 24 (.tmp 13) 2, none⟩,
                  ⟨some 110, .load 22 (.tmp 109), none⟩,
                  ⟨some 111, .call ⟨.value (.func 39), #[(.tmp 110)], #[22]⟩, none⟩,
                  ⟨some 112, .build 24 #[(0, (.tmp 107)), (1, (.tmp 108)), (2, (.tmp 111))], none⟩,
                  ⟨some 113, .indexAddr 25 (.tmp 3) (.tmp 106), none⟩,
                  ⟨none, .store 24 (.tmp 113) (.tmp 112), none⟩] [(2, 8), (3, 8)]))
               (.reg false [
                 ⟨some 101, .move (.tmp 16), none⟩,
                 ⟨some 102, .binOp .add 3 (.tmp 101) (.const (.int .i64 1)) 3, none⟩,
                 ⟨some 16, .assign (.tmp 102), none⟩] []))))))
          (.seq
           (.reg true [
             ⟨some 114, .load 25 (.tmp 3), none⟩,
             ⟨some 115, .fieldAddr 24 (.tmp 13) 2, none⟩,
             ⟨some 116, .load 22 (.tmp 115), none⟩,
             ⟨some 117, .call ⟨.value (.func 39), #[(.tmp 116)], #[22]⟩, none⟩,
             ⟨none, .store 25 (.tmp 6) (.tmp 114), none⟩,
             ⟨some 7, .assign (.tmp 117), none⟩,
             ⟨some 8, .assign (.const (.int .i64 0)), none⟩] [(0, 3)])
           .ret))))))))))
theorem TryL12_ok : Try.f12.body.bind (light Try.f12.ntmps) = some TryL12 := rfl

def TryL13 : LC :=
 (.seq
  (.reg false [
    ⟨some 2, .box 25 (.tmp 0), none⟩,
    ⟨some 3, .box 25 (.tmp 1), none⟩,
    ⟨some 4, .assign (.const (.bool false)), none⟩] [])
  (.seq
   (.reg false [
     ⟨some 5, .indexAddr 25 (.tmp 2) (.const (.int .i64 0)), none⟩,
     ⟨some 6, .load 24 (.tmp 5), none⟩,
     ⟨some 7, .indexAddr 25 (.tmp 3) (.const (.int .i64 0)), none⟩,
     ⟨some 8, .load 24 (.tmp 7), none⟩,
     ⟨some 9, .call ⟨.value (.func 28), #[(.tmp 6), (.tmp 8)], #[24, 24]⟩, none⟩,
     ⟨some 10, .move (.tmp 9), none⟩,
     ⟨some 11, .indexAddr 25 (.tmp 2) (.const (.int .i64 1)), some (10, true)⟩,
     ⟨some 12, .load 24 (.tmp 11), some (10, true)⟩,
     ⟨some 13, .indexAddr 25 (.tmp 3) (.const (.int .i64 1)), some (10, true)⟩,
     ⟨some 14, .load 24 (.tmp 13), some (10, true)⟩,
     ⟨some 15, .call ⟨.value (.func 28), #[(.tmp 12), (.tmp 14)], #[24, 24]⟩, some (10, true)⟩,
     ⟨some 16, .pick (.tmp 10) (.tmp 15) (.const (.bool false)), none⟩,
     ⟨some 17, .move (.tmp 16), none⟩,
     ⟨some 18, .indexAddr 25 (.tmp 2) (.const (.int .i64 2)), some (17, true)⟩,
     ⟨some 19, .load 24 (.tmp 18), some (17, true)⟩,
     ⟨some 20, .indexAddr 25 (.tmp 3) (.const (.int .i64 2)), some (17, true)⟩,
     ⟨some 21, .load 24 (.tmp 20), some (17, true)⟩,
     ⟨some 22, .call ⟨.value (.func 28), #[(.tmp 19), (.tmp 21)], #[24, 24]⟩, some (17, true)⟩,
     ⟨some 23, .pick (.tmp 17) (.tmp 22) (.const (.bool false)), none⟩,
     ⟨some 4, .assign (.tmp 23), none⟩] [])
   .ret))
theorem TryL13_ok : Try.f13.body.bind (light Try.f13.ntmps) = some TryL13 := rfl

def TryL14 : LC :=
 (.seq
  (.reg false [
    ⟨some 4, .assign (.const (.bool false)), none⟩] [])
  (.seq
   (.reg false [
     ⟨some 5, .move (.tmp 0), none⟩,
     ⟨some 6, .call ⟨.builtin .len, #[(.tmp 5)], #[22]⟩, none⟩,
     ⟨some 7, .move (.tmp 1), none⟩,
     ⟨some 8, .call ⟨.builtin .len, #[(.tmp 7)], #[22]⟩, none⟩,
     ⟨some 9, .binOp .eql 3 (.tmp 6) (.tmp 8) 3, none⟩,
     ⟨some 10, .move (.tmp 9), none⟩,
     ⟨some 11, .move (.tmp 0), some (10, true)⟩,
     ⟨some 12, .move (.tmp 1), some (10, true)⟩,
     ⟨some 13, .call ⟨.value (.func 21), #[(.tmp 11), (.tmp 12)], #[22, 22]⟩, some (10, true)⟩,
     ⟨some 14, .pick (.tmp 10) (.tmp 13) (.const (.bool false)), none⟩,
     ⟨some 4, .assign (.tmp 14), none⟩] [])
   .ret))
theorem TryL14_ok : Try.f14.body.bind (light Try.f14.ntmps) = some TryL14 := rfl

def TryL15 : LC :=
 (.seq
  (.reg false [
    ⟨some 0, .assign (.const (.bool false)), none⟩] [])
  (.seq
   (.reg false [
     ⟨some 10, .build 27 #[], none⟩,
     ⟨some 1, .alloc 27, none⟩,
     ⟨none, .store 27 (.tmp 1) (.tmp 10), none⟩] [])
   (.seq
    (.reg false [
      ⟨some 12, .build 25 #[], none⟩,
      ⟨some 13, .build 27 #[(0, (.const (.int .u8 0))), (1, (.const (.int .u8 0))), (2, (.const (.int .u8 1)))], none⟩,
      ⟨some 14, .call ⟨.value (.func 11), #[(.tmp 12), (.tmp 13), (.const (.int .i64 1))], #[25, 27, 3]⟩, none⟩,
      ⟨some 11, .move (.tmp 14), none⟩,
      ⟨some 15, .extract (.tmp 11) 0, none⟩,
      ⟨some 16, .extract (.tmp 11) 1, none⟩,
      ⟨some 17, .extract (.tmp 11) 2, none⟩,
      ⟨some 2, .alloc 25, none⟩,
      ⟨none, .store 25 (.tmp 2) (.tmp 15), none⟩,
      ⟨some 3, .assign (.tmp 16), none⟩,
      ⟨some 4, .assign (.tmp 17), none⟩] [])
    (.seq
     (.reg false [
       ⟨some 19, .load 25 (.tmp 2), none⟩,
       ⟨some 20, .build 27 #[(0, (.const (.int .u8 1))), (1, (.const (.int .u8 0))), (2, (.const (.int .u8 0)))], none⟩,
       ⟨some 21, .buildSlice 22 2 #[(0, (.const (.string ⟨#[120]⟩))), (1, (.const (.string ⟨#[121]⟩)))], none⟩,
       ⟨some 22, .call ⟨.value (.func 17), #[(.tmp 19), (.tmp 20), (.const (.int .i64 1)), (.tmp 21)], #[25, 27, 3, 22]⟩, none⟩,
       ⟨some 18, .move (.tmp 22), none⟩,
       ⟨some 23, .extract (.tmp 18) 0, none⟩,
       ⟨some 24, .extract (.tmp 18) 1, none⟩,
       ⟨some 25, .extract (.tmp 18) 2, none⟩,
       ⟨none, .store 25 (.tmp 2) (.tmp 23), none⟩,
       ⟨some 5, .assign (.tmp 24), none⟩,
       ⟨some 6, .assign (.tmp 25), none⟩] [])
     (.seq
      (.reg false [
        ⟨some 27, .load 25 (.tmp 2), none⟩,
        ⟨some 28, .load 27 (.tmp 1), none⟩,
        ⟨some 29, .call ⟨.value (.func 11), #[(.tmp 27), (.tmp 28), (.const (.int .i64 2))], #[25, 27, 3]⟩, none⟩,
        ⟨some 26, .move (.tmp 29), none⟩,
        ⟨some 30, .extract (.tmp 26) 0, none⟩,
        ⟨some 31, .extract (.tmp 26) 1, none⟩,
        ⟨some 32, .extract (.tmp 26) 2, none⟩,
        ⟨some 7, .alloc 25, none⟩,
        ⟨none, .store 25 (.tmp 7) (.tmp 30), none⟩,
        ⟨some 8, .assign (.tmp 31), none⟩,
        ⟨some 9, .assign (.tmp 32), none⟩] [])
      (.seq
       (.reg false [
         ⟨some 33, .move (.tmp 3), none⟩,
         ⟨some 34, .call ⟨.builtin .len, #[(.tmp 33)], #[22]⟩, none⟩,
         ⟨some 35, .binOp .eql 3 (.tmp 34) (.const (.int .i64 0)) 3, none⟩,
         ⟨some 36, .move (.tmp 35), none⟩,
         ⟨some 37, .move (.tmp 4), some (36, true)⟩,
         ⟨some 38, .binOp .eql 29 (.tmp 37) (.const (.int .i64 0)) 29, some (36, true)⟩,
         ⟨some 39, .pick (.tmp 36) (.tmp 38) (.const (.bool false)), none⟩,
         ⟨some 40, .move (.tmp 39), none⟩,
         ⟨some 41, .move (.tmp 5), some (40, true)⟩,
         ⟨some 42, .pick (.tmp 40) (.tmp 41) (.const (.bool false)), none⟩,
         ⟨some 43, .move (.tmp 42), none⟩,
         ⟨some 44, .move (.tmp 6), some (43, true)⟩,
         ⟨some 45, .binOp .eql 29 (.tmp 44) (.const (.int .i64 0)) 29, some (43, true)⟩,
         ⟨some 46, .pick (.tmp 43) (.tmp 45) (.const (.bool false)), none⟩,
         ⟨some 47, .move (.tmp 46), none⟩,
         ⟨some 48, .move (.tmp 9), some (47, true)⟩,
         ⟨some 49, .binOp .eql 29 (.tmp 48) (.const (.int .i64 0)) 29, some (47, true)⟩,
         ⟨some 50, .pick (.tmp 47) (.tmp 49) (.const (.bool false)), none⟩,
         ⟨some 51, .move (.tmp 50), none⟩,
         ⟨some 52, .move (.tmp 8), some (51, true)⟩,
         ⟨some 53, .buildSlice 22 2 #[(0, (.const (.string ⟨#[120]⟩))), (1, (.const (.string ⟨#[121]⟩)))], some (51, true)⟩,
         ⟨some 54, .call ⟨.value (.func 14), #[(.tmp 52), (.tmp 53)], #[22, 22]⟩, some (51, true)⟩,
         ⟨some 55, .pick (.tmp 51) (.tmp 54) (.const (.bool false)), none⟩,
         ⟨some 0, .assign (.tmp 55), none⟩] [])
       .ret))))))
theorem TryL15_ok : Try.f15.body.bind (light Try.f15.ntmps) = some TryL15 := rfl

def TryL16 : LC :=
 (.seq
  (.reg false [
    ⟨some 1, .box 24 (.tmp 0), none⟩,
    ⟨some 2, .alloc 24, none⟩] [])
  (.seq
   (.reg false [
     ⟨some 3, .assign (.const (.slice none 0 0)), none⟩] [])
   (.seq
    (.reg false [
      ⟨some 4, .move (.tmp 3), none⟩,
      ⟨some 5, .fieldAddr 24 (.tmp 1) 2, none⟩,
      ⟨some 6, .load 22 (.tmp 5), none⟩,
      ⟨some 7, .fieldAddr 24 (.tmp 1) 2, none⟩,
      ⟨some 8, .load 22 (.tmp 7), none⟩,
      ⟨some 9, .call ⟨.builtin .len, #[(.tmp 8)], #[22]⟩, none⟩,
      ⟨some 10, .call ⟨.builtin .min, #[(.tmp 9), (.const (.int .i64 402))], #[3, 3]⟩, none⟩,
      ⟨some 11, .slice 22 (.tmp 6) none (some (.tmp 10)) none, none⟩,
      ⟨some 12, .call ⟨.builtin .append, #[(.tmp 4), (.tmp 11)], #[22, 22]⟩, none⟩,
      ⟨some 13, .fieldAddr 24 (.tmp 1) 2, none⟩,
      ⟨none, .store 22 (.tmp 13) (.tmp 12), none⟩] [])
    (.seq
     (.reg false [
       ⟨some 14, .load 24 (.tmp 1), none⟩,
       ⟨none, .store 24 (.tmp 2) (.tmp 14), none⟩] [])
     .ret))))
theorem TryL16_ok : Try.f16.body.bind (light Try.f16.ntmps) = some TryL16 := rfl

def TryL17 : LC :=
 (.seq
  (.reg false [
    ⟨some 4, .box 25 (.tmp 0), none⟩,
    ⟨some 5, .box 27 (.tmp 1), none⟩,
    ⟨some 6, .box 3 (.tmp 2), none⟩,
    ⟨some 7, .box 22 (.tmp 3), none⟩,
    ⟨some 8, .alloc 25, none⟩,
    ⟨some 9, .assign (.const (.bool false)), none⟩,
    ⟨some 10, .assign (.const (.int .i64 0)), none⟩] [])
  (.seq
   (.reg false [
     ⟨some 15, .load 25 (.tmp 4), none⟩,
     ⟨some 16, .call ⟨.value (.func 31), #[(.tmp 15)], #[25]⟩, none⟩,
     ⟨none, .store 25 (.tmp 4) (.tmp 16), none⟩] [])
   (.seq
    (.seq
     (.reg false [
       ⟨some 17, .load 3 (.tmp 6), none⟩,
       ⟨some 18, .load 22 (.tmp 7), none⟩,
       ⟨some 19, .call ⟨.value (.func 40), #[(.tmp 17), (.tmp 18)], #[3, 22]⟩, none⟩,
       ⟨some 11, .assign (.tmp 19), none⟩] [])
     (.seq
      (.reg false [
        ⟨some 20, .move (.tmp 11), none⟩,
        ⟨some 21, .binOp .neq 29 (.tmp 20) (.const (.int .i64 0)) 29, none⟩] [])
      (.cond (.tmp 21)
       (.seq
        (.reg false [
          ⟨some 22, .load 25 (.tmp 4), none⟩,
          ⟨some 23, .move (.tmp 11), none⟩,
          ⟨none, .store 25 (.tmp 8) (.tmp 22), none⟩,
          ⟨some 9, .assign (.const (.bool false)), none⟩,
          ⟨some 10, .assign (.tmp 23), none⟩] [])
        .ret)
       .skip)))
    (.seq
     (.reg false [
       ⟨some 24, .slice 25 (.tmp 4) none none none, none⟩,
       ⟨some 25, .call ⟨.value (.func 41), #[(.tmp 24), (.func 42)], #[65, 66]⟩, none⟩,
       ⟨some 12, .assign (.tmp 25), none⟩] [])
     (.seq
      (.reg false [
        ⟨some 26, .load 27 (.tmp 5), none⟩,
        ⟨some 27, .makeFunc (.func 43) #[] #[(.tmp 6), (.tmp 7)], none⟩,
        ⟨some 28, .call ⟨.value (.func 32), #[(.tmp 4), (.tmp 26), (.tmp 27)], #[58, 27, 59]⟩, none⟩,
        ⟨some 13, .assign (.tmp 28), none⟩] [])
      (.seq
       (.reg false [
         ⟨some 29, .move (.tmp 13), none⟩,
         ⟨some 30, .call ⟨.builtin .len, #[(.tmp 29)], #[56]⟩, none⟩,
         ⟨some 31, .binOp .geq 3 (.tmp 30) (.const (.int .i64 2)) 3, none⟩,
         ⟨some 14, .assign (.tmp 31), none⟩] [])
       (.seq
        (.seq
         (.reg false [
           ⟨some 32, .move (.tmp 14), none⟩,
           ⟨some 33, .move (.tmp 32), none⟩,
           ⟨some 34, .move (.tmp 12), some (33, true)⟩,
           ⟨some 35, .binOp .geq 3 (.tmp 34) (.const (.int .i64 0)) 3, some (33, true)⟩,
           ⟨some 36, .pick (.tmp 33) (.tmp 35) (.const (.bool false)), none⟩,
           ⟨some 37, .move (.tmp 36), none⟩,
           ⟨some 38, .move (.tmp 12), some (37, true)⟩,
           ⟨some 39, .indexAddr 27 (.tmp 5) (.tmp 38), some (37, true)⟩,
           ⟨some 40, .load 26 (.tmp 39), some (37, true)⟩,
           ⟨some 41, .call ⟨.value (.func 44), #[(.tmp 40)], #[26]⟩, some (37, true)⟩,
           ⟨some 42, .pick (.tmp 37) (.tmp 41) (.const (.bool false)), none⟩] [])
         (.cond (.tmp 42)
          (.reg false [
            ⟨some 43, .move (.tmp 12), none⟩,
            ⟨some 44, .load 3 (.tmp 6), none⟩,
            ⟨some 45, .load 22 (.tmp 7), none⟩,
            ⟨some 46, .call ⟨.value (.func 36), #[(.tmp 44), (.tmp 45)], #[3, 22]⟩, none⟩,
            ⟨some 47, .indexAddr 25 (.tmp 4) (.tmp 43), none⟩,
            ⟨none, .store 24 (.tmp 47) (.tmp 46), none⟩] [])
          .skip))
        (.seq
         (.reg false [
           ⟨some 48, .load 25 (.tmp 4), none⟩,
           ⟨some 49, .move (.tmp 14), none⟩,
           ⟨none, .store 25 (.tmp 8) (.tmp 48), none⟩,
           ⟨some 9, .assign (.tmp 49), none⟩,
           ⟨some 10, .assign (.const (.int .i64 0)), none⟩] [])
         .ret))))))))
theorem TryL17_ok : Try.f17.body.bind (light Try.f17.ntmps) = some TryL17 := rfl

def TryL18 : LC :=
 (.seq
  (.reg false [
    ⟨some 4, .box 25 (.tmp 0), none⟩,
    ⟨some 5, .box 27 (.tmp 1), none⟩,
    ⟨some 8, .alloc 25, none⟩,
    ⟨some 9, .assign (.const (.bool false)), none⟩,
    ⟨some 10, .assign (.const (.int .i64 0)), none⟩] [])
  (.seq
   (.reg false [
     ⟨some 18, .load 25 (.tmp 4), none⟩,
     ⟨some 19, .call ⟨.value (.func 37), #[(.tmp 18)], #[25]⟩, none⟩,
     ⟨none, .store 25 (.tmp 4) (.tmp 19), none⟩] [])
   (.seq
    (.reg false [
      ⟨some 20, .move (.tmp 2), none⟩,
      ⟨some 21, .move (.tmp 3), none⟩,
      ⟨some 22, .call ⟨.value (.func 45), #[(.tmp 20), (.tmp 21)], #[3, 22]⟩, none⟩,
      ⟨some 11, .assign (.tmp 22), none⟩] [])
    (.seq
     (.seq
      (.reg false [
        ⟨some 23, .move (.tmp 11), none⟩,
        ⟨some 24, .binOp .neq 29 (.tmp 23) (.const (.int .i64 0)) 29, none⟩] [])
      (.cond (.tmp 24)
       (.seq
        (.reg false [
          ⟨some 25, .load 25 (.tmp 4), none⟩,
          ⟨some 26, .move (.tmp 11), none⟩,
          ⟨none, .store 25 (.tmp 8) (.tmp 25), none⟩,
          ⟨some 9, .assign (.const (.bool false)), none⟩,
          ⟨some 10, .assign (.tmp 26), none⟩] [])
        .ret)
       .skip))
     (.seq
      (.reg false [
        ⟨some 12, .assign (.const (.int .i64 0)), none⟩,
        ⟨some 13, .assign (.const (.int .i64 0)), none⟩,
        ⟨some 14, .assign (.const (.int .i64 (-1))), none⟩] [])
      (.seq
       (.seq
        (.reg false [
          ⟨some 15, .assign (.const (.int .i64 0)), none⟩] [])
        (.block 0
         (.loop
          (.seq
           (.seq
            (.reg false [
              ⟨some 27, .move (.tmp 15), none⟩,
              ⟨some 28, .binOp .lss 3 (.tmp 27) (.const (.int .i64 3)) 3, none⟩] [])
            (.cond (.tmp 28)
             .skip
             (.exit 0)))
           (.seq
            (.block 1
             (.seq
              (.seq
               (.reg false [
                 ⟨some 31, .move (.tmp 15), none⟩,
                 ⟨some 32, .indexAddr 25 (.tmp 4) (.tmp 31), none⟩,
                 ⟨some 33, .fieldAddr 24 (.tmp 32) 3, none⟩,
                 ⟨some 34, .load 4 (.tmp 33), none⟩] [])
               (.cond (.tmp 34)
                (.seq
                 (.reg false [
                   ⟨some 35, .move (.tmp 15), none⟩,
                   ⟨some 14, .assign (.tmp 35), none⟩] [])
                 (.exit 1))
                .skip))
              (.seq
               (.reg false [
                 ⟨some 36, .move (.tmp 12), none⟩,
                 ⟨some 37, .binOp .add 3 (.tmp 36) (.const (.int .i64 1)) 3, none⟩,
                 ⟨some 12, .assign (.tmp 37), none⟩] [])
               (.seq
                (.reg false [
                  ⟨some 39, .move (.tmp 15), none⟩,
                  ⟨some 40, .indexAddr 25 (.tmp 4) (.tmp 39), none⟩,
                  ⟨some 41, .load 24 (.tmp 40), none⟩,
                  ⟨some 42, .move (.tmp 2), none⟩,
                  ⟨some 43, .move (.tmp 3), none⟩,
                  ⟨some 44, .call ⟨.value (.func 25), #[(.tmp 41), (.tmp 42), (.tmp 43)], #[24, 3, 22]⟩, none⟩,
                  ⟨some 38, .move (.tmp 44), none⟩,
                  ⟨some 45, .extract (.tmp 38) 0, none⟩,
                  ⟨some 46, .extract (.tmp 38) 1, none⟩,
                  ⟨some 16, .alloc 24, none⟩,
                  ⟨none, .store 24 (.tmp 16) (.tmp 45), none⟩,
                  ⟨some 17, .assign (.tmp 46), none⟩] [])
                (.seq
                 (.seq
                  (.reg false [
                    ⟨some 47, .move (.tmp 15), none⟩,
                    ⟨some 48, .indexAddr 27 (.tmp 5) (.tmp 47), none⟩,
                    ⟨some 49, .load 26 (.tmp 48), none⟩,
                    ⟨some 50, .call ⟨.value (.func 38), #[(.tmp 49)], #[26]⟩, none⟩,
                    ⟨some 51, .unOp .not 4 (.tmp 50), none⟩,
                    ⟨some 52, .move (.tmp 51), none⟩,
                    ⟨some 53, .move (.tmp 17), some (52, false)⟩,
                    ⟨some 54, .binOp .neq 29 (.tmp 53) (.const (.int .i64 0)) 29, some (52, false)⟩,
                    ⟨some 55, .pick (.tmp 52) (.const (.bool true)) (.tmp 54), none⟩] [])
                  (.cond (.tmp 55)
                   (.exit 1)
                   .skip))
                 (.seq
                  (.reg false [
                    ⟨some 56, .move (.tmp 15), none⟩,
                    ⟨some 57, .load 24 (.tmp 16), none⟩,
                    ⟨some 58, .indexAddr 25 (.tmp 4) (.tmp 56), none⟩,
                    ⟨none, .store 24 (.tmp 58) (.tmp 57), none⟩] [])
                  (.seq
                   (.reg false [
                     ⟨some 59, .move (.tmp 15), none⟩,
                     ⟨some 60, .indexAddr 27 (.tmp 5) (.tmp 59), none⟩,
                     ⟨some 61, .load 26 (.tmp 60), none⟩,
                     ⟨some 62, .binOp .eql 26 (.tmp 61) (.const (.int .u8 0)) 26, none⟩] [])
                   (.cond (.tmp 62)
                    (.reg false [
                      ⟨some 63, .move (.tmp 13), none⟩,
                      ⟨some 64, .binOp .add 3 (.tmp 63) (.const (.int .i64 1)) 3, none⟩,
                      ⟨some 13, .assign (.tmp 64), none⟩] [])
                    .skip))))))))
            (.reg false [
              ⟨some 29, .move (.tmp 15), none⟩,
              ⟨some 30, .binOp .add 3 (.tmp 29) (.const (.int .i64 1)) 3, none⟩,
              ⟨some 15, .assign (.tmp 30), none⟩] []))))))
       (.seq
        (.seq
         (.reg false [
           ⟨some 65, .move (.tmp 12), none⟩,
           ⟨some 66, .binOp .eql 3 (.tmp 65) (.const (.int .i64 2)) 3, none⟩,
           ⟨some 67, .move (.tmp 66), none⟩,
           ⟨some 68, .move (.tmp 13), some (67, true)⟩,
           ⟨some 69, .binOp .eql 3 (.tmp 68) (.const (.int .i64 2)) 3, some (67, true)⟩,
           ⟨some 70, .pick (.tmp 67) (.tmp 69) (.const (.bool false)), none⟩,
           ⟨some 71, .move (.tmp 70), none⟩,
           ⟨some 72, .move (.tmp 14), some (71, true)⟩,
           ⟨some 73, .indexAddr 27 (.tmp 5) (.tmp 72), some (71, true)⟩,
           ⟨some 74, .load 26 (.tmp 73), some (71, true)⟩,
           ⟨some 75, .call ⟨.value (.func 38), #[(.tmp 74)], #[26]⟩, some (71, true)⟩,
           ⟨some 76, .pick (.tmp 71) (.tmp 75) (.const (.bool false)), none⟩] [])
         (.cond (.tmp 76)
          (.reg false [
            ⟨some 78, .move (.tmp 14), none⟩,
            ⟨some 79, .move (.tmp 14), none⟩,
            ⟨some 80, .indexAddr 25 (.tmp 4) (.tmp 79), none⟩,
            ⟨some 81, .load 24 (.tmp 80), none⟩,
            ⟨some 82, .move (.tmp 2), none⟩,
            ⟨some 83, .move (.tmp 3), none⟩,
            ⟨some 84, .call ⟨.value (.func 27), #[(.tmp 81), (.tmp 82), (.tmp 83)], #[24, 3, 22]⟩, none⟩,
            ⟨some 77, .move (.tmp 84), none⟩,
            ⟨some 85, .extract (.tmp 77) 0, none⟩,
            ⟨some 86, .extract (.tmp 77) 1, none⟩,
            ⟨some 87, .indexAddr 25 (.tmp 4) (.tmp 78), none⟩,
            ⟨none, .store 24 (.tmp 87) (.tmp 85), none⟩] [])
          .skip))
        (.seq
         (.reg false [
           ⟨some 88, .load 25 (.tmp 4), none⟩,
           ⟨some 89, .move (.tmp 13), none⟩,
           ⟨some 90, .binOp .geq 3 (.tmp 89) (.const (.int .i64 2)) 3, none⟩,
           ⟨none, .store 25 (.tmp 8) (.tmp 88), none⟩,
           ⟨some 9, .assign (.tmp 90), none⟩,
           ⟨some 10, .assign (.const (.int .i64 0)), none⟩] [])
         .ret))))))))
theorem TryL18_ok : Try.f18.body.bind (light Try.f18.ntmps) = some TryL18 := rfl

def TryL19 : LC :=
 (.seq
  (.reg false [
    ⟨some 2, .alloc 27, none⟩] [])
  (.seq
   (.reg false [
     ⟨some 3, .move (.tmp 0), none⟩,
     ⟨some 4, .binOp .rem 5 (.tmp 3) (.const (.int .u8 3)) 5, none⟩,
     ⟨some 5, .move (.tmp 0), none⟩,
     ⟨some 6, .binOp .quo 5 (.tmp 5) (.const (.int .u8 3)) 5, none⟩,
     ⟨some 7, .binOp .rem 5 (.tmp 6) (.const (.int .u8 3)) 5, none⟩,
     ⟨some 8, .move (.tmp 0), none⟩,
     ⟨some 9, .binOp .quo 5 (.tmp 8) (.const (.int .u8 9)) 5, none⟩,
     ⟨some 10, .binOp .rem 5 (.tmp 9) (.const (.int .u8 3)) 5, none⟩,
     ⟨some 11, .build 27 #[(0, (.tmp 4)), (1, (.tmp 7)), (2, (.tmp 10))], none⟩,
     ⟨none, .store 27 (.tmp 2) (.tmp 11), none⟩] [])
   .ret))
theorem TryL19_ok : Try.f19.body.bind (light Try.f19.ntmps) = some TryL19 := rfl

def TryL20 : LC :=
 (.seq
  (.reg false [
    ⟨some 3, .box 49 (.tmp 1), none⟩,
    ⟨some 4, .assign (.const (.bool false)), none⟩] [])
  (.seq
   (.block 0
    (.seq
     (.reg false [
       ⟨some 17, .fieldAddr 49 (.tmp 3) 0, none⟩,
       ⟨some 18, .load 5 (.tmp 17), none⟩,
       ⟨some 19, .binOp .rem 5 (.tmp 18) (.const (.int .u8 8)) 5, none⟩,
       ⟨some 20, .binOp .lss 5 (.tmp 19) (.const (.int .u8 2)) 5, none⟩,
       ⟨some 16, .assign (.tmp 20), none⟩] [])
     (.cond (.tmp 16)
      (.seq
       (.reg false [
         ⟨some 21, .move (.tmp 0), none⟩,
         ⟨some 22, .nilCheck (.tmp 21), none⟩,
         ⟨some 23, .fieldAddr 46 (.tmp 22) 2, none⟩,
         ⟨some 24, .load 3 (.tmp 23), none⟩,
         ⟨some 25, .binOp .add 3 (.tmp 24) (.const (.int .i64 1)) 3, none⟩,
         ⟨some 26, .nilCheck (.tmp 21), none⟩,
         ⟨some 27, .fieldAddr 46 (.tmp 26) 2, none⟩,
         ⟨none, .store 3 (.tmp 27) (.tmp 25), none⟩] [])
       (.seq
        (.reg true [
          ⟨some 29, .move (.tmp 0), none⟩,
          ⟨some 30, .nilCheck (.tmp 29), none⟩,
          ⟨some 31, .fieldAddr 46 (.tmp 30) 0, none⟩,
          ⟨some 32, .load 25 (.tmp 31), none⟩,
          ⟨some 33, .fieldAddr 49 (.tmp 3) 2, none⟩,
          ⟨some 34, .load 5 (.tmp 33), none⟩,
          ⟨some 35, .call ⟨.value (.func 19), #[(.tmp 34)], #[5]⟩, none⟩,
          ⟨some 36, .move (.tmp 0), none⟩,
          ⟨some 37, .nilCheck (.tmp 36), none⟩,
          ⟨some 38, .fieldAddr 46 (.tmp 37) 2, none⟩,
          ⟨some 39, .load 3 (.tmp 38), none⟩,
          ⟨some 40, .call ⟨.value (.func 11), #[(.tmp 32), (.tmp 35), (.tmp 39)], #[25, 27, 3]⟩, none⟩,
          ⟨some 28, .move (.tmp 40), none⟩,
          ⟨some 41, .extract (.tmp 28) 0, none⟩,
          ⟨some 42, .extract (.tmp 28) 1, none⟩,
          ⟨some 43, .extract (.tmp 28) 2, none⟩,
          ⟨some 5, .alloc 25, none⟩,
          ⟨none, .store 25 (.tmp 5) (.tmp 41), none⟩,
          ⟨some 6, .assign (.tmp 42), none⟩,
          ⟨some 7, .assign (.tmp 43), none⟩] [(1, 6), (2, 6), (3, 6), (6, 8), (6, 9), (6, 10), (1, 16), (2, 16), (3, 16), (4, 16), (5, 16), (6, 16), (8, 16), (9, 16), (10, 16), (11, 16)])
        (.seq
         (.reg false [
           ⟨some 44, .move (.tmp 0), none⟩,
           ⟨some 45, .load 25 (.tmp 5), none⟩,
           ⟨some 46, .nilCheck (.tmp 44), none⟩,
           ⟨some 47, .fieldAddr 46 (.tmp 46) 0, none⟩,
           ⟨none, .store 25 (.tmp 47) (.tmp 45), none⟩] [])
         (.seq
          (.seq
           (.reg false [
             ⟨some 48, .move (.tmp 7), none⟩,
             ⟨some 49, .binOp .neq 29 (.tmp 48) (.const (.int .i64 0)) 29, none⟩] [])
           (.cond (.tmp 49)
            (.seq
             (.reg false [
               ⟨some 50, .move (.tmp 7), none⟩,
               ⟨some 51, .binOp .eql 29 (.tmp 50) (.const (.int .i64 18)) 29, none⟩,
               ⟨some 52, .move (.tmp 51), none⟩,
               ⟨some 53, .move (.tmp 6), some (52, true)⟩,
               ⟨some 54, .call ⟨.builtin .len, #[(.tmp 53)], #[22]⟩, some (52, true)⟩,
               ⟨some 55, .binOp .eql 3 (.tmp 54) (.const (.int .i64 0)) 3, some (52, true)⟩,
               ⟨some 56, .pick (.tmp 52) (.tmp 55) (.const (.bool false)), none⟩,
               ⟨some 4, .assign (.tmp 56), none⟩] [])
             .ret)
            .skip))
          (.seq
           (.seq
            (.reg false [
              ⟨some 8, .assign (.const (.int .i64 0)), none⟩] [])
            (.block 1
             (.loop
              (.seq
               (.seq
                (.reg false [
                  ⟨some 57, .move (.tmp 8), none⟩,
                  ⟨some 58, .move (.tmp 0), none⟩,
                  ⟨some 59, .nilCheck (.tmp 58), none⟩,
                  ⟨some 60, .fieldAddr 46 (.tmp 59) 3, none⟩,
                  ⟨some 61, .load 44 (.tmp 60), none⟩,
                  ⟨some 62, .call ⟨.builtin .len, #[(.tmp 61)], #[44]⟩, none⟩,
                  ⟨some 63, .binOp .lss 3 (.tmp 57) (.tmp 62) 3, none⟩] [])
                (.cond (.tmp 63)
                 .skip
                 (.exit 1)))
               (.seq
                (.block 2
                 (.seq
                  (.reg false [
                    ⟨some 66, .move (.tmp 0), none⟩,
                    ⟨some 67, .nilCheck (.tmp 66), none⟩,
                    ⟨some 68, .fieldAddr 46 (.tmp 67) 3, none⟩,
                    ⟨some 69, .load 44 (.tmp 68), none⟩,
                    ⟨some 70, .move (.tmp 8), none⟩,
                    ⟨some 71, .indexAddr 44 (.tmp 69) (.tmp 70), none⟩,
                    ⟨some 72, .load 22 (.tmp 71), none⟩,
                    ⟨some 73, .move (.tmp 6), none⟩,
                    ⟨some 74, .call ⟨.value (.func 21), #[(.tmp 72), (.tmp 73)], #[22, 22]⟩, none⟩,
                    ⟨some 75, .unOp .not 4 (.tmp 74), none⟩] [])
                  (.cond (.tmp 75)
                   (.seq
                    (.reg false [
                      ⟨some 4, .assign (.const (.bool false)), none⟩] [])
                    .ret)
                   .skip)))
                (.reg false [
                  ⟨some 64, .move (.tmp 8), none⟩,
                  ⟨some 65, .binOp .add 3 (.tmp 64) (.const (.int .i64 1)) 3, none⟩,
                  ⟨some 8, .assign (.tmp 65), none⟩] []))))))
           (.seq
            (.reg true [
              ⟨some 76, .move (.tmp 0), none⟩,
              ⟨some 77, .move (.tmp 0), none⟩,
              ⟨some 78, .nilCheck (.tmp 77), none⟩,
              ⟨some 79, .fieldAddr 46 (.tmp 78) 1, none⟩,
              ⟨some 80, .load 43 (.tmp 79), none⟩,
              ⟨some 81, .move (.tmp 0), none⟩,
              ⟨some 82, .nilCheck (.tmp 81), none⟩,
              ⟨some 83, .fieldAddr 46 (.tmp 82) 2, none⟩,
              ⟨some 84, .load 3 (.tmp 83), none⟩,
              ⟨some 85, .move (.tmp 6), none⟩,
              ⟨some 86, .build 69 #[(0, (.tmp 84)), (1, (.tmp 85))], none⟩,
              ⟨some 87, .buildSlice 43 1 #[(0, (.tmp 86))], none⟩,
              ⟨some 88, .call ⟨.builtin .append, #[(.tmp 80), (.tmp 87)], #[43, 43]⟩, none⟩,
              ⟨some 89, .nilCheck (.tmp 76), none⟩,
              ⟨some 90, .fieldAddr 46 (.tmp 89) 1, none⟩,
              ⟨none, .store 43 (.tmp 90) (.tmp 88), none⟩] [(2, 11), (3, 11), (4, 11)])
            (.reg false [
              ⟨some 91, .move (.tmp 0), none⟩,
              ⟨some 92, .move (.tmp 0), none⟩,
              ⟨some 93, .nilCheck (.tmp 92), none⟩,
              ⟨some 94, .fieldAddr 46 (.tmp 93) 3, none⟩,
              ⟨some 95, .load 44 (.tmp 94), none⟩,
              ⟨some 96, .move (.tmp 6), none⟩,
              ⟨some 97, .buildSlice 44 1 #[(0, (.tmp 96))], none⟩,
              ⟨some 98, .call ⟨.builtin .append, #[(.tmp 95), (.tmp 97)], #[44, 44]⟩, none⟩,
              ⟨some 99, .nilCheck (.tmp 91), none⟩,
              ⟨some 100, .fieldAddr 46 (.tmp 99) 3, none⟩,
              ⟨none, .store 44 (.tmp 100) (.tmp 98), none⟩] [])))))))
      (.seq
       (.reg false [
         ⟨some 102, .fieldAddr 49 (.tmp 3) 0, none⟩,
         ⟨some 103, .load 5 (.tmp 102), none⟩,
         ⟨some 104, .binOp .rem 5 (.tmp 103) (.const (.int .u8 8)) 5, none⟩,
         ⟨some 105, .binOp .eql 5 (.tmp 104) (.const (.int .u8 7)) 5, none⟩,
         ⟨some 101, .assign (.tmp 105), none⟩] [])
       (.cond (.tmp 101)
        (.seq
         (.reg false [
           ⟨some 106, .fieldAddr 49 (.tmp 3) 1, none⟩,
           ⟨some 107, .load 5 (.tmp 106), none⟩,
           ⟨some 108, .binOp .rem 5 (.tmp 107) (.const (.int .u8 3)) 5, none⟩,
           ⟨some 109, .convert 5 3 (.tmp 108), none⟩,
           ⟨some 9, .assign (.tmp 109), none⟩] [])
         (.seq
          (.reg false [
            ⟨some 110, .move (.tmp 0), none⟩,
            ⟨some 111, .move (.tmp 9), none⟩,
            ⟨some 112, .binOp .add 3 (.tmp 111) (.const (.int .i64 1)) 3, none⟩,
            ⟨some 113, .binOp .rem 3 (.tmp 112) (.const (.int .i64 3)) 3, none⟩,
            ⟨some 114, .nilCheck (.tmp 110), none⟩,
            ⟨some 115, .fieldAddr 46 (.tmp 114) 0, none⟩,
            ⟨some 116, .indexAddr 25 (.tmp 115) (.tmp 113), none⟩,
            ⟨some 117, .fieldAddr 24 (.tmp 116) 3, none⟩,
            ⟨some 118, .load 4 (.tmp 117), none⟩,
            ⟨some 119, .unOp .not 4 (.tmp 118), none⟩,
            ⟨some 120, .move (.tmp 119), none⟩,
            ⟨some 121, .move (.tmp 0), some (120, true)⟩,
            ⟨some 122, .move (.tmp 9), some (120, true)⟩,
            ⟨some 123, .binOp .add 3 (.tmp 122) (.const (.int .i64 2)) 3, some (120, true)⟩,
            ⟨some 124, .binOp .rem 3 (.tmp 123) (.const (.int .i64 3)) 3, some (120, true)⟩,
            ⟨some 125, .nilCheck (.tmp 121), some (120, true)⟩,
            ⟨some 126, .fieldAddr 46 (.tmp 125) 0, some (120, true)⟩,
            ⟨some 127, .indexAddr 25 (.tmp 126) (.tmp 124), some (120, true)⟩,
            ⟨some 128, .fieldAddr 24 (.tmp 127) 3, some (120, true)⟩,
            ⟨some 129, .load 4 (.tmp 128), some (120, true)⟩,
            ⟨some 130, .unOp .not 4 (.tmp 129), some (120, true)⟩,
            ⟨some 131, .pick (.tmp 120) (.tmp 130) (.const (.bool false)), none⟩] [])
          (.cond (.tmp 131)
           (.reg true [
             ⟨some 132, .move (.tmp 0), none⟩,
             ⟨some 133, .move (.tmp 9), none⟩,
             ⟨some 134, .move (.tmp 0), none⟩,
             ⟨some 135, .move (.tmp 9), none⟩,
             ⟨some 136, .nilCheck (.tmp 134), none⟩,
             ⟨some 137, .fieldAddr 46 (.tmp 136) 0, none⟩,
             ⟨some 138, .indexAddr 25 (.tmp 137) (.tmp 135), none⟩,
             ⟨some 139, .load 24 (.tmp 138), none⟩,
             ⟨some 140, .call ⟨.value (.func 29), #[(.tmp 139)], #[24]⟩, none⟩,
             ⟨some 141, .nilCheck (.tmp 132), none⟩,
             ⟨some 142, .fieldAddr 46 (.tmp 141) 0, none⟩,
             ⟨some 143, .indexAddr 25 (.tmp 142) (.tmp 133), none⟩,
             ⟨none, .store 24 (.tmp 143) (.tmp 140), none⟩] [(8, 9), (8, 10)])
           .skip)))
        (.seq
         (.reg false [
           ⟨some 145, .move (.tmp 0), none⟩,
           ⟨some 146, .nilCheck (.tmp 145), none⟩,
           ⟨some 147, .fieldAddr 46 (.tmp 146) 1, none⟩,
           ⟨some 148, .load 43 (.tmp 147), none⟩,
           ⟨some 149, .call ⟨.builtin .len, #[(.tmp 148)], #[43]⟩, none⟩,
           ⟨some 150, .binOp .gtr 3 (.tmp 149) (.const (.int .i64 0)) 3, none⟩,
           ⟨some 144, .assign (.tmp 150), none⟩] [])
         (.cond (.tmp 144)
          (.seq
           (.reg true [
             ⟨some 151, .move (.tmp 0), none⟩,
             ⟨some 152, .nilCheck (.tmp 151), none⟩,
             ⟨some 153, .fieldAddr 46 (.tmp 152) 1, none⟩,
             ⟨some 154, .load 43 (.tmp 153), none⟩,
             ⟨some 155, .call ⟨.builtin .len, #[(.tmp 154)], #[43]⟩, none⟩,
             ⟨some 156, .binOp .sub 3 (.tmp 155) (.const (.int .i64 1)) 3, none⟩,
             ⟨some 157, .fieldAddr 49 (.tmp 3) 1, none⟩,
             ⟨some 158, .load 5 (.tmp 157), none⟩,
             ⟨some 159, .convert 5 3 (.tmp 158), none⟩,
             ⟨some 160, .move (.tmp 0), none⟩,
             ⟨some 161, .nilCheck (.tmp 160), none⟩,
             ⟨some 162, .fieldAddr 46 (.tmp 161) 1, none⟩,
             ⟨some 163, .load 43 (.tmp 162), none⟩,
             ⟨some 164, .call ⟨.builtin .len, #[(.tmp 163)], #[43]⟩, none⟩,
             ⟨some 165, .binOp .rem 3 (.tmp 159) (.tmp 164) 3, none⟩,
             ⟨some 166, .binOp .sub 3 (.tmp 156) (.tmp 165) 3, none⟩,
             ⟨some 10, .assign (.tmp 166), none⟩] [])
           (.seq
            (.reg false [
              ⟨some 167, .move (.tmp 0), none⟩,
              ⟨some 168, .nilCheck (.tmp 167), none⟩,
              ⟨some 169, .fieldAddr 46 (.tmp 168) 1, none⟩,
              ⟨some 170, .load 43 (.tmp 169), none⟩,
              ⟨some 171, .move (.tmp 10), none⟩,
              ⟨some 172, .indexAddr 43 (.tmp 170) (.tmp 171), none⟩,
              ⟨some 173, .load 69 (.tmp 172), none⟩,
              ⟨some 11, .alloc 69, none⟩,
              ⟨none, .store 69 (.tmp 11) (.tmp 173), none⟩] [])
            (.seq
             (.reg false [
               ⟨some 12, .assign (.const (.slice none 0 0)), none⟩] [])
             (.seq
              (.reg true [
                ⟨some 174, .move (.tmp 12), none⟩,
                ⟨some 175, .fieldAddr 69 (.tmp 11) 1, none⟩,
                ⟨some 176, .load 22 (.tmp 175), none⟩,
                ⟨some 177, .call ⟨.builtin .append, #[(.tmp 174), (.tmp 176)], #[22, 22]⟩, none⟩,
                ⟨some 178, .fieldAddr 49 (.tmp 3) 3, none⟩,
                ⟨some 179, .load 9 (.tmp 178), none⟩,
                ⟨some 180, .buildSlice 22 1 #[(0, (.tmp 179))], none⟩,
                ⟨some 181, .call ⟨.builtin .append, #[(.tmp 177), (.tmp 180)], #[22, 22]⟩, none⟩,
                ⟨some 182, .fieldAddr 69 (.tmp 11) 1, none⟩,
                ⟨none, .store 22 (.tmp 182) (.tmp 181), none⟩] [(3, 4), (3, 5), (1, 6), (2, 6), (3, 6)])
              (.seq
               (.reg true [
                 ⟨some 183, .move (.tmp 0), none⟩,
                 ⟨some 184, .nilCheck (.tmp 183), none⟩,
                 ⟨some 185, .fieldAddr 46 (.tmp 184) 1, none⟩,
                 ⟨some 186, .load 43 (.tmp 185), none⟩,
                 ⟨some 187, .move (.tmp 10), none⟩,
                 ⟨some 188, .load 69 (.tmp 11), none⟩,
                 ⟨some 189, .indexAddr 43 (.tmp 186) (.tmp 187), none⟩,
                 ⟨none, .store 69 (.tmp 189) (.tmp 188), none⟩] [])
               (.seq
                (.reg true [
                  ⟨some 191, .move (.tmp 0), none⟩,
                  ⟨some 192, .nilCheck (.tmp 191), none⟩,
                  ⟨some 193, .fieldAddr 46 (.tmp 192) 0, none⟩,
                  ⟨some 194, .load 25 (.tmp 193), none⟩,
                  ⟨some 195, .fieldAddr 49 (.tmp 3) 2, none⟩,
                  ⟨some 196, .load 5 (.tmp 195), none⟩,
                  ⟨some 197, .call ⟨.value (.func 19), #[(.tmp 196)], #[5]⟩, none⟩,
                  ⟨some 198, .fieldAddr 69 (.tmp 11) 0, none⟩,
                  ⟨some 199, .load 3 (.tmp 198), none⟩,
                  ⟨some 200, .fieldAddr 69 (.tmp 11) 1, none⟩,
                  ⟨some 201, .load 22 (.tmp 200), none⟩,
                  ⟨some 202, .call ⟨.value (.func 17), #[(.tmp 194), (.tmp 197), (.tmp 199), (.tmp 201)], #[25, 27, 3, 22]⟩, none⟩,
                  ⟨some 190, .move (.tmp 202), none⟩,
                  ⟨some 203, .extract (.tmp 190) 0, none⟩,
                  ⟨some 204, .extract (.tmp 190) 1, none⟩,
                  ⟨some 205, .extract (.tmp 190) 2, none⟩,
                  ⟨some 13, .alloc 25, none⟩,
                  ⟨none, .store 25 (.tmp 13) (.tmp 203), none⟩,
                  ⟨some 14, .assign (.tmp 204), none⟩,
                  ⟨some 15, .assign (.tmp 205), none⟩] [(1, 6), (2, 6), (3, 6), (6, 7), (6, 8), (6, 9), (6, 10), (1, 16), (2, 16), (3, 16), (4, 16), (5, 16), (6, 16), (7, 16), (8, 16), (9, 16), (10, 16), (11, 16)])
                (.seq
                 (.reg false [
                   ⟨some 206, .move (.tmp 0), none⟩,
                   ⟨some 207, .load 25 (.tmp 13), none⟩,
                   ⟨some 208, .nilCheck (.tmp 206), none⟩,
                   ⟨some 209, .fieldAddr 46 (.tmp 208) 0, none⟩,
                   ⟨none, .store 25 (.tmp 209) (.tmp 207), none⟩] [])
                 (.seq
                  (.seq
                   (.reg false [
                     ⟨some 210, .move (.tmp 14), none⟩] [])
                   (.cond (.tmp 210)
                    (.reg true [
                      ⟨some 211, .move (.tmp 0), none⟩,
                      ⟨some 212, .move (.tmp 0), none⟩,
                      ⟨some 213, .nilCheck (.tmp 212), none⟩,
                      ⟨some 214, .fieldAddr 46 (.tmp 213) 3, none⟩,
                      ⟨some 215, .load 44 (.tmp 214), none⟩,
                      ⟨some 216, .fieldAddr 69 (.tmp 11) 1, none⟩,
                      ⟨some 217, .load 22 (.tmp 216), none⟩,
                      ⟨some 218, .buildSlice 44 1 #[(0, (.tmp 217))], none⟩,
                      ⟨some 219, .call ⟨.builtin .append, #[(.tmp 215), (.tmp 218)], #[44, 44]⟩, none⟩,
                      ⟨some 220, .nilCheck (.tmp 211), none⟩,
                      ⟨some 221, .fieldAddr 46 (.tmp 220) 3, none⟩,
                      ⟨none, .store 44 (.tmp 221) (.tmp 219), none⟩] [(2, 7), (3, 7), (4, 7)])
                    .skip))
                  (.seq
                   (.reg false [
                     ⟨some 222, .move (.tmp 15), none⟩,
                     ⟨some 223, .binOp .eql 29 (.tmp 222) (.const (.int .i64 0)) 29, none⟩,
                     ⟨some 4, .assign (.tmp 223), none⟩] [])
                   .ret)))))))))
          .skip)))))))
   (.seq
    (.reg false [
      ⟨some 4, .assign (.const (.bool true)), none⟩] [])
    .ret)))
theorem TryL20_ok : Try.f20.body.bind (light Try.f20.ntmps) = some TryL20 := rfl

def TryL21 : LC :=
 (.seq
  (.reg false [
    ⟨some 4, .assign (.const (.bool false)), none⟩] [])
  (.seq
   (.seq
    (.reg false [
      ⟨some 6, .move (.tmp 0), none⟩,
      ⟨some 7, .call ⟨.builtin .len, #[(.tmp 6)], #[22]⟩, none⟩,
      ⟨some 8, .move (.tmp 1), none⟩,
      ⟨some 9, .call ⟨.builtin .len, #[(.tmp 8)], #[22]⟩, none⟩,
      ⟨some 10, .binOp .gtr 3 (.tmp 7) (.tmp 9) 3, none⟩] [])
    (.cond (.tmp 10)
     (.seq
      (.reg false [
        ⟨some 4, .assign (.const (.bool false)), none⟩] [])
      .ret)
     .skip))
   (.seq
    (.seq
     (.reg false [
       ⟨some 5, .assign (.const (.int .i64 0)), none⟩] [])
     (.block 0
      (.loop
       (.seq
        (.seq
         (.reg false [
           ⟨some 11, .move (.tmp 5), none⟩,
           ⟨some 12, .move (.tmp 0), none⟩,
           ⟨some 13, .call ⟨.builtin .len, #[(.tmp 12)], #[22]⟩, none⟩,
           ⟨some 14, .binOp .lss 3 (.tmp 11) (.tmp 13) 3, none⟩] [])
         (.cond (.tmp 14)
          .skip
          (.exit 0)))
        (.seq
         (.block 1
          (.seq
           (.reg true [
             ⟨some 17, .move (.tmp 0), none⟩,
             ⟨some 18, .move (.tmp 5), none⟩,
             ⟨some 19, .indexAddr 22 (.tmp 17) (.tmp 18), none⟩,
             ⟨some 20, .load 9 (.tmp 19), none⟩,
             ⟨some 21, .move (.tmp 1), none⟩,
             ⟨some 22, .move (.tmp 5), none⟩,
             ⟨some 23, .indexAddr 22 (.tmp 21) (.tmp 22), none⟩,
             ⟨some 24, .load 9 (.tmp 23), none⟩,
             ⟨some 25, .binOp .neq 9 (.tmp 20) (.tmp 24) 9, none⟩] [])
           (.cond (.tmp 25)
            (.seq
             (.reg false [
               ⟨some 4, .assign (.const (.bool false)), none⟩] [])
             .ret)
            .skip)))
         (.reg false [
           ⟨some 15, .move (.tmp 5), none⟩,
           ⟨some 16, .binOp .add 3 (.tmp 15) (.const (.int .i64 1)) 3, none⟩,
           ⟨some 5, .assign (.tmp 16), none⟩] []))))))
    (.seq
     (.reg false [
       ⟨some 4, .assign (.const (.bool true)), none⟩] [])
     .ret))))
theorem TryL21_ok : Try.f21.body.bind (light Try.f21.ntmps) = some TryL21 := rfl

def TryL22 : LC :=
 (.seq
  (.reg false [
    ⟨some 2, .box 24 (.tmp 0), none⟩,
    ⟨some 4, .alloc 24, none⟩,
    ⟨some 5, .assign (.const (.int .i64 0)), none⟩] [])
  (.seq
   (.block 0
    (.seq
     (.reg false [
       ⟨some 7, .move (.tmp 1), none⟩,
       ⟨some 8, .binOp .lss 3 (.tmp 7) (.const (.int .i64 1)) 3, none⟩,
       ⟨some 6, .assign (.tmp 8), none⟩] [])
     (.cond (.tmp 6)
      (.seq
       (.reg false [
         ⟨some 9, .build 24 #[], none⟩,
         ⟨none, .store 24 (.tmp 4) (.tmp 9), none⟩,
         ⟨some 5, .assign (.const (.int .i64 1)), none⟩] [])
       .ret)
      (.seq
       (.reg false [
         ⟨some 11, .fieldAddr 24 (.tmp 2) 3, none⟩,
         ⟨some 12, .load 4 (.tmp 11), none⟩,
         ⟨some 10, .assign (.tmp 12), none⟩] [])
       (.cond (.tmp 10)
        (.seq
         (.reg false [
           ⟨some 13, .build 24 #[], none⟩,
           ⟨none, .store 24 (.tmp 4) (.tmp 13), none⟩,
           ⟨some 5, .assign (.const (.int .i64 7)), none⟩] [])
         .ret)
        (.seq
         (.reg false [
           ⟨some 15, .move (.tmp 1), none⟩,
           ⟨some 16, .fieldAddr 24 (.tmp 2) 0, none⟩,
           ⟨some 17, .load 3 (.tmp 16), none⟩,
           ⟨some 18, .binOp .leq 3 (.tmp 15) (.tmp 17) 3, none⟩,
           ⟨some 14, .assign (.tmp 18), none⟩] [])
         (.cond (.tmp 14)
          (.seq
           (.reg false [
             ⟨some 19, .build 24 #[], none⟩,
             ⟨none, .store 24 (.tmp 4) (.tmp 19), none⟩,
             ⟨some 5, .assign (.const (.int .i64 15)), none⟩] [])
           .ret)
          .skip)))))))
   (.seq
    (.reg true [
      ⟨some 20, .move (.tmp 1), none⟩,
      ⟨some 21, .fieldAddr 24 (.tmp 2) 1, none⟩,
      ⟨some 22, .load 3 (.tmp 21), none⟩,
      ⟨some 23, .fieldAddr 24 (.tmp 2) 2, none⟩,
      ⟨some 24, .load 22 (.tmp 23), none⟩,
      ⟨some 25, .call ⟨.value (.func 35), #[(.tmp 24)], #[22]⟩, none⟩,
      ⟨some 26, .build 24 #[(0, (.tmp 20)), (1, (.tmp 22)), (2, (.tmp 25))], none⟩,
      ⟨none, .store 24 (.tmp 4) (.tmp 26), none⟩,
      ⟨some 5, .assign (.const (.int .i64 0)), none⟩] [(1, 5), (2, 5)])
    .ret)))
theorem TryL22_ok : Try.f22.body.bind (light Try.f22.ntmps) = some TryL22 := rfl

def TryL23 : LC :=
 (.seq
  (.reg false [
    ⟨some 2, .box 24 (.tmp 0), none⟩,
    ⟨some 4, .alloc 24, none⟩,
    ⟨some 5, .assign (.const (.int .i64 0)), none⟩] [])
  (.seq
   (.seq
    (.reg false [
      ⟨some 6, .move (.tmp 1), none⟩,
      ⟨some 7, .binOp .lss 3 (.tmp 6) (.const (.int .i64 1)) 3, none⟩] [])
    (.cond (.tmp 7)
     (.seq
      (.reg false [
        ⟨some 8, .build 24 #[], none⟩,
        ⟨none, .store 24 (.tmp 4) (.tmp 8), none⟩,
        ⟨some 5, .assign (.const (.int .i64 1)), none⟩] [])
      .ret)
     .skip))
   (.seq
    (.seq
     (.reg false [
       ⟨some 9, .fieldAddr 24 (.tmp 2) 3, none⟩,
       ⟨some 10, .load 4 (.tmp 9), none⟩] [])
     (.cond (.tmp 10)
      (.seq
       (.reg false [
         ⟨some 11, .build 24 #[], none⟩,
         ⟨none, .store 24 (.tmp 4) (.tmp 11), none⟩,
         ⟨some 5, .assign (.const (.int .i64 7)), none⟩] [])
       .ret)
      .skip))
    (.seq
     (.seq
      (.reg false [
        ⟨some 12, .fieldAddr 24 (.tmp 2) 0, none⟩,
        ⟨some 13, .load 3 (.tmp 12), none⟩,
        ⟨some 14, .move (.tmp 1), none⟩,
        ⟨some 15, .binOp .geq 3 (.tmp 13) (.tmp 14) 3, none⟩] [])
      (.cond (.tmp 15)
       (.seq
        (.reg false [
          ⟨some 16, .build 24 #[], none⟩,
          ⟨none, .store 24 (.tmp 4) (.tmp 16), none⟩,
          ⟨some 5, .assign (.const (.int .i64 15)), none⟩] [])
        .ret)
       .skip))
     (.seq
      (.reg false [
        ⟨some 17, .load 24 (.tmp 2), none⟩,
        ⟨some 18, .call ⟨.value (.func 46), #[(.tmp 17)], #[24]⟩, none⟩,
        ⟨none, .store 24 (.tmp 2) (.tmp 18), none⟩] [])
      (.seq
       (.reg false [
         ⟨some 19, .move (.tmp 1), none⟩,
         ⟨some 20, .fieldAddr 24 (.tmp 2) 0, none⟩,
         ⟨none, .store 3 (.tmp 20) (.tmp 19), none⟩] [])
       (.seq
        (.reg false [
          ⟨some 21, .load 24 (.tmp 2), none⟩,
          ⟨none, .store 24 (.tmp 4) (.tmp 21), none⟩,
          ⟨some 5, .assign (.const (.int .i64 0)), none⟩] [])
        .ret)))))))
theorem TryL23_ok : Try.f23.body.bind (light Try.f23.ntmps) = some TryL23 := rfl

def TryL24 : LC :=
 (.seq
  (.reg false [
    ⟨some 3, .box 24 (.tmp 0), none⟩,
    ⟨some 6, .alloc 24, none⟩,
    ⟨some 7, .assign (.const (.int .i64 0)), none⟩] [])
  (.seq
   (.reg false [
     ⟨some 9, .move (.tmp 1), none⟩,
     ⟨some 10, .move (.tmp 2), none⟩,
     ⟨some 11, .call ⟨.value (.func 40), #[(.tmp 9), (.tmp 10)], #[3, 22]⟩, none⟩,
     ⟨some 8, .assign (.tmp 11), none⟩] [])
   (.seq
    (.block 0
     (.seq
      (.reg false [
        ⟨some 13, .move (.tmp 8), none⟩,
        ⟨some 14, .binOp .neq 29 (.tmp 13) (.const (.int .i64 0)) 29, none⟩,
        ⟨some 12, .assign (.tmp 14), none⟩] [])
      (.cond (.tmp 12)
       (.seq
        (.reg false [
          ⟨some 15, .build 24 #[], none⟩,
          ⟨some 16, .move (.tmp 8), none⟩,
          ⟨none, .store 24 (.tmp 6) (.tmp 15), none⟩,
          ⟨some 7, .assign (.tmp 16), none⟩] [])
        .ret)
       (.seq
        (.reg false [
          ⟨some 18, .fieldAddr 24 (.tmp 3) 3, none⟩,
          ⟨some 19, .load 4 (.tmp 18), none⟩,
          ⟨some 17, .assign (.tmp 19), none⟩] [])
        (.cond (.tmp 17)
         (.seq
          (.reg false [
            ⟨some 20, .build 24 #[], none⟩,
            ⟨none, .store 24 (.tmp 6) (.tmp 20), none⟩,
            ⟨some 7, .assign (.const (.int .i64 7)), none⟩] [])
          .ret)
         (.seq
          (.reg false [
            ⟨some 22, .move (.tmp 1), none⟩,
            ⟨some 23, .fieldAddr 24 (.tmp 3) 0, none⟩,
            ⟨some 24, .load 3 (.tmp 23), none⟩,
            ⟨some 25, .binOp .lss 3 (.tmp 22) (.tmp 24) 3, none⟩,
            ⟨some 21, .assign (.tmp 25), none⟩] [])
          (.cond (.tmp 21)
           (.seq
            (.reg false [
              ⟨some 26, .build 24 #[], none⟩,
              ⟨none, .store 24 (.tmp 6) (.tmp 26), none⟩,
              ⟨some 7, .assign (.const (.int .i64 15)), none⟩] [])
            .ret)
           .skip)))))))
    (.seq
     (.reg false [
       ⟨some 27, .move (.tmp 1), none⟩,
       ⟨some 28, .move (.tmp 2), none⟩,
       ⟨some 29, .call ⟨.value (.func 36), #[(.tmp 27), (.tmp 28)], #[3, 22]⟩, none⟩,
       ⟨none, .store 24 (.tmp 6) (.tmp 29), none⟩,
       ⟨some 7, .assign (.const (.int .i64 0)), none⟩] [])
     .ret))))
theorem TryL24_ok : Try.f24.body.bind (light Try.f24.ntmps) = some TryL24 := rfl

def TryL25 : LC :=
 (.seq
  (.reg false [
    ⟨some 3, .box 24 (.tmp 0), none⟩,
    ⟨some 6, .alloc 24, none⟩,
    ⟨some 7, .assign (.const (.int .i64 0)), none⟩] [])
  (.seq
   (.reg false [
     ⟨some 9, .move (.tmp 1), none⟩,
     ⟨some 10, .move (.tmp 2), none⟩,
     ⟨some 11, .call ⟨.value (.func 45), #[(.tmp 9), (.tmp 10)], #[3, 22]⟩, none⟩,
     ⟨some 8, .assign (.tmp 11), none⟩] [])
   (.seq
    (.seq
     (.reg false [
       ⟨some 12, .move (.tmp 8), none⟩,
       ⟨some 13, .binOp .neq 29 (.tmp 12) (.const (.int .i64 0)) 29, none⟩] [])
     (.cond (.tmp 13)
      (.seq
       (.reg false [
         ⟨some 14, .build 24 #[], none⟩,
         ⟨some 15, .move (.tmp 8), none⟩,
         ⟨none, .store 24 (.tmp 6) (.tmp 14), none⟩,
         ⟨some 7, .assign (.tmp 15), none⟩] [])
       .ret)
      .skip))
    (.seq
     (.seq
      (.reg false [
        ⟨some 16, .fieldAddr 24 (.tmp 3) 3, none⟩,
        ⟨some 17, .load 4 (.tmp 16), none⟩] [])
      (.cond (.tmp 17)
       (.seq
        (.reg false [
          ⟨some 18, .build 24 #[], none⟩,
          ⟨none, .store 24 (.tmp 6) (.tmp 18), none⟩,
          ⟨some 7, .assign (.const (.int .i64 7)), none⟩] [])
        .ret)
       .skip))
     (.seq
      (.seq
       (.reg false [
         ⟨some 19, .fieldAddr 24 (.tmp 3) 0, none⟩,
         ⟨some 20, .load 3 (.tmp 19), none⟩,
         ⟨some 21, .move (.tmp 1), none⟩,
         ⟨some 22, .binOp .gtr 3 (.tmp 20) (.tmp 21) 3, none⟩] [])
       (.cond (.tmp 22)
        (.seq
         (.reg false [
           ⟨some 23, .build 24 #[], none⟩,
           ⟨none, .store 24 (.tmp 6) (.tmp 23), none⟩,
           ⟨some 7, .assign (.const (.int .i64 15)), none⟩] [])
         .ret)
        .skip))
      (.seq
       (.reg false [
         ⟨some 24, .move (.tmp 1), none⟩,
         ⟨some 25, .move (.tmp 1), none⟩,
         ⟨some 26, .move (.tmp 2), none⟩,
         ⟨some 27, .call ⟨.value (.func 39), #[(.tmp 26)], #[22]⟩, none⟩,
         ⟨some 28, .build 24 #[(0, (.tmp 24)), (1, (.tmp 25)), (2, (.tmp 27))], none⟩,
         ⟨none, .store 24 (.tmp 6) (.tmp 28), none⟩,
         ⟨some 7, .assign (.const (.int .i64 0)), none⟩] [])
       .ret))))))
theorem TryL25_ok : Try.f25.body.bind (light Try.f25.ntmps) = some TryL25 := rfl

def TryL26 : LC :=
 (.seq
  (.reg false [
    ⟨some 3, .box 24 (.tmp 0), none⟩,
    ⟨some 6, .alloc 24, none⟩,
    ⟨some 7, .assign (.const (.int .i64 0)), none⟩] [])
  (.seq
   (.reg false [
     ⟨some 9, .move (.tmp 1), none⟩,
     ⟨some 10, .move (.tmp 2), none⟩,
     ⟨some 11, .call ⟨.value (.func 40), #[(.tmp 9), (.tmp 10)], #[3, 22]⟩, none⟩,
     ⟨some 8, .assign (.tmp 11), none⟩] [])
   (.seq
    (.block 0
     (.seq
      (.reg false [
        ⟨some 13, .move (.tmp 8), none⟩,
        ⟨some 14, .binOp .neq 29 (.tmp 13) (.const (.int .i64 0)) 29, none⟩,
        ⟨some 12, .assign (.tmp 14), none⟩] [])
      (.cond (.tmp 12)
       (.seq
        (.reg false [
          ⟨some 15, .build 24 #[], none⟩,
          ⟨some 16, .move (.tmp 8), none⟩,
          ⟨none, .store 24 (.tmp 6) (.tmp 15), none⟩,
          ⟨some 7, .assign (.tmp 16), none⟩] [])
        .ret)
       (.seq
        (.reg false [
          ⟨some 18, .fieldAddr 24 (.tmp 3) 3, none⟩,
          ⟨some 19, .load 4 (.tmp 18), none⟩,
          ⟨some 20, .unOp .not 4 (.tmp 19), none⟩,
          ⟨some 17, .assign (.tmp 20), none⟩] [])
        (.cond (.tmp 17)
         (.seq
          (.reg false [
            ⟨some 21, .build 24 #[], none⟩,
            ⟨none, .store 24 (.tmp 6) (.tmp 21), none⟩,
            ⟨some 7, .assign (.const (.int .i64 8)), none⟩] [])
          .ret)
         .skip)))))
    (.seq
     (.reg false [
       ⟨some 22, .move (.tmp 1), none⟩,
       ⟨some 23, .move (.tmp 2), none⟩,
       ⟨some 24, .call ⟨.value (.func 36), #[(.tmp 22), (.tmp 23)], #[3, 22]⟩, none⟩,
       ⟨none, .store 24 (.tmp 6) (.tmp 24), none⟩,
       ⟨some 7, .assign (.const (.int .i64 0)), none⟩] [])
     .ret))))
theorem TryL26_ok : Try.f26.body.bind (light Try.f26.ntmps) = some TryL26 := rfl

def TryL27 : LC :=
 (.seq
  (.reg false [
    ⟨some 3, .box 24 (.tmp 0), none⟩,
    ⟨some 6, .alloc 24, none⟩,
    ⟨some 7, .assign (.const (.int .i64 0)), none⟩] [])
  (.seq
   (.reg false [
     ⟨some 9, .move (.tmp 1), none⟩,
     ⟨some 10, .move (.tmp 2), none⟩,
     ⟨some 11, .call ⟨.value (.func 45), #[(.tmp 9), (.tmp 10)], #[3, 22]⟩, none⟩,
     ⟨some 8, .assign (.tmp 11), none⟩] [])
   (.seq
    (.seq
     (.reg false [
       ⟨some 12, .move (.tmp 8), none⟩,
       ⟨some 13, .binOp .neq 29 (.tmp 12) (.const (.int .i64 0)) 29, none⟩] [])
     (.cond (.tmp 13)
      (.seq
       (.reg false [
         ⟨some 14, .build 24 #[], none⟩,
         ⟨some 15, .move (.tmp 8), none⟩,
         ⟨none, .store 24 (.tmp 6) (.tmp 14), none⟩,
         ⟨some 7, .assign (.tmp 15), none⟩] [])
       .ret)
      .skip))
    (.seq
     (.seq
      (.reg false [
        ⟨some 16, .fieldAddr 24 (.tmp 3) 3, none⟩,
        ⟨some 17, .load 4 (.tmp 16), none⟩,
        ⟨some 18, .unOp .not 4 (.tmp 17), none⟩] [])
      (.cond (.tmp 18)
       (.seq
        (.reg false [
          ⟨some 19, .build 24 #[], none⟩,
          ⟨none, .store 24 (.tmp 6) (.tmp 19), none⟩,
          ⟨some 7, .assign (.const (.int .i64 8)), none⟩] [])
        .ret)
       .skip))
     (.seq
      (.reg false [
        ⟨some 20, .move (.tmp 1), none⟩,
        ⟨some 21, .move (.tmp 1), none⟩,
        ⟨some 22, .move (.tmp 2), none⟩,
        ⟨some 23, .call ⟨.value (.func 39), #[(.tmp 22)], #[22]⟩, none⟩,
        ⟨some 24, .build 24 #[(0, (.tmp 20)), (1, (.tmp 21)), (2, (.tmp 23))], none⟩,
        ⟨none, .store 24 (.tmp 6) (.tmp 24), none⟩,
        ⟨some 7, .assign (.const (.int .i64 0)), none⟩] [])
      .ret)))))
theorem TryL27_ok : Try.f27.body.bind (light Try.f27.ntmps) = some TryL27 := rfl

def TryL28 : LC :=
 (.seq
  (.reg false [
    ⟨some 2, .box 24 (.tmp 0), none⟩,
    ⟨some 3, .box 24 (.tmp 1), none⟩,
    ⟨some 4, .assign (.const (.bool false)), none⟩] [])
  (.seq
   (.reg false [
     ⟨some 5, .fieldAddr 24 (.tmp 2) 0, none⟩,
     ⟨some 6, .load 3 (.tmp 5), none⟩,
     ⟨some 7, .fieldAddr 24 (.tmp 3) 0, none⟩,
     ⟨some 8, .load 3 (.tmp 7), none⟩,
     ⟨some 9, .binOp .eql 3 (.tmp 6) (.tmp 8) 3, none⟩,
     ⟨some 10, .move (.tmp 9), none⟩,
     ⟨some 11, .fieldAddr 24 (.tmp 2) 1, some (10, true)⟩,
     ⟨some 12, .load 3 (.tmp 11), some (10, true)⟩,
     ⟨some 13, .fieldAddr 24 (.tmp 3) 1, some (10, true)⟩,
     ⟨some 14, .load 3 (.tmp 13), some (10, true)⟩,
     ⟨some 15, .binOp .eql 3 (.tmp 12) (.tmp 14) 3, some (10, true)⟩,
     ⟨some 16, .pick (.tmp 10) (.tmp 15) (.const (.bool false)), none⟩,
     ⟨some 17, .move (.tmp 16), none⟩,
     ⟨some 18, .fieldAddr 24 (.tmp 2) 3, some (17, true)⟩,
     ⟨some 19, .load 4 (.tmp 18), some (17, true)⟩,
     ⟨some 20, .fieldAddr 24 (.tmp 3) 3, some (17, true)⟩,
     ⟨some 21, .load 4 (.tmp 20), some (17, true)⟩,
     ⟨some 22, .binOp .eql 4 (.tmp 19) (.tmp 21) 4, some (17, true)⟩,
     ⟨some 23, .pick (.tmp 17) (.tmp 22) (.const (.bool false)), none⟩,
     ⟨some 24, .move (.tmp 23), none⟩,
     ⟨some 25, .fieldAddr 24 (.tmp 2) 2, some (24, true)⟩,
     ⟨some 26, .load 22 (.tmp 25), some (24, true)⟩,
     ⟨some 27, .fieldAddr 24 (.tmp 3) 2, some (24, true)⟩,
     ⟨some 28, .load 22 (.tmp 27), some (24, true)⟩,
     ⟨some 29, .call ⟨.value (.func 14), #[(.tmp 26), (.tmp 28)], #[22, 22]⟩, some (24, true)⟩,
     ⟨some 30, .pick (.tmp 24) (.tmp 29) (.const (.bool false)), none⟩,
     ⟨some 4, .assign (.tmp 30), none⟩] [])
   .ret))
theorem TryL28_ok : Try.f28.body.bind (light Try.f28.ntmps) = some TryL28 := rfl

def TryL29 : LC :=
 (.seq
  (.reg false [
    ⟨some 1, .box 24 (.tmp 0), none⟩,
    ⟨some 2, .alloc 24, none⟩] [])
  (.seq
   (.reg false [
     ⟨some 3, .build 24 #[(3, (.const (.bool true)))], none⟩,
     ⟨none, .store 24 (.tmp 2) (.tmp 3), none⟩] [])
   .ret))
theorem TryL29_ok : Try.f29.body.bind (light Try.f29.ntmps) = some TryL29 := rfl

def TryL30 : LC :=
 (.seq
  (.reg false [
    ⟨some 1, .box 24 (.tmp 0), none⟩,
    ⟨some 2, .alloc 24, none⟩] [])
  (.seq
   (.reg false [
     ⟨some 3, .build 24 #[(3, (.const (.bool true)))], none⟩,
     ⟨none, .store 24 (.tmp 2) (.tmp 3), none⟩] [])
   .ret))
theorem TryL30_ok : Try.f30.body.bind (light Try.f30.ntmps) = some TryL30 := rfl

def TryL31 : LC :=
 (.seq
  (.reg false [
    ⟨some 1, .box 25 (.tmp 0), none⟩,
    ⟨some 2, .alloc 25, none⟩] [])
  (.seq
   (.seq
    (.reg false [
      ⟨some 4, .move (.const (.int .i64 0)), none⟩] [])
    (.block 0
     (.loop
      (.seq
       (.reg false [
         ⟨some 5, .binOp .lss 3 (.tmp 4) (.const (.int .i64 3)) 3, none⟩] [])
       (.seq
        (.cond (.tmp 5)
         .skip
         (.exit 0))
        (.seq
         (.block 1
          (.seq
           (.reg false [
             ⟨some 6, .move (.tmp 4), none⟩,
             ⟨some 3, .assign (.tmp 6), none⟩] [])
           (.reg false [
             ⟨some 7, .move (.tmp 3), none⟩,
             ⟨some 8, .move (.tmp 3), none⟩,
             ⟨some 9, .indexAddr 25 (.tmp 1) (.tmp 8), none⟩,
             ⟨some 10, .fieldAddr 24 (.tmp 9) 2, none⟩,
             ⟨some 11, .load 22 (.tmp 10), none⟩,
             ⟨some 12, .call ⟨.value (.func 35), #[(.tmp 11)], #[22]⟩, none⟩,
             ⟨some 13, .indexAddr 25 (.tmp 1) (.tmp 7), none⟩,
             ⟨some 14, .fieldAddr 24 (.tmp 13) 2, none⟩,
             ⟨none, .store 22 (.tmp 14) (.tmp 12), none⟩] [])))
         (.reg false [
           ⟨some 15, .binOp .add 3 (.tmp 4) (.const (.int .i64 1)) 3, none⟩,
           ⟨some 4, .move (.tmp 15), none⟩] [])))))))
   (.seq
    (.reg false [
      ⟨some 16, .load 25 (.tmp 1), none⟩,
      ⟨none, .store 25 (.tmp 2) (.tmp 16), none⟩] [])
    .ret)))
theorem TryL31_ok : Try.f31.body.bind (light Try.f31.ntmps) = some TryL31 := rfl

def TryL32 : LC :=
 (.seq
  (.reg false [
    ⟨some 4, .box 27 (.tmp 1), none⟩,
    ⟨some 6, .assign (.const (.slice none 0 0)), none⟩] [])
  (.seq
   (.reg false [
     ⟨some 7, .assign (.const (.slice none 0 0)), none⟩] [])
   (.seq
    (.seq
     (.reg false [
       ⟨some 11, .move (.const (.int .i64 0)), none⟩] [])
     (.block 0
      (.loop
       (.seq
        (.reg false [
          ⟨some 12, .binOp .lss 3 (.tmp 11) (.const (.int .i64 3)) 3, none⟩] [])
        (.seq
         (.cond (.tmp 12)
          .skip
          (.exit 0))
         (.seq
          (.block 1
           (.seq
            (.reg false [
              ⟨some 13, .move (.tmp 11), none⟩,
              ⟨some 8, .assign (.tmp 13), none⟩] [])
            (.seq
             (.seq
              (.reg false [
                ⟨some 14, .move (.tmp 8), none⟩,
                ⟨some 15, .indexAddr 27 (.tmp 4) (.tmp 14), none⟩,
                ⟨some 16, .load 26 (.tmp 15), none⟩,
                ⟨some 17, .call ⟨.value (.func 44), #[(.tmp 16)], #[26]⟩, none⟩,
                ⟨some 18, .unOp .not 4 (.tmp 17), none⟩] [])
              (.cond (.tmp 18)
               (.exit 1)
               .skip))
             (.seq
              (.reg false [
                ⟨some 20, .move (.tmp 2), none⟩,
                ⟨some 21, .move (.tmp 0), none⟩,
                ⟨some 22, .move (.tmp 8), none⟩,
                ⟨some 23, .nilCheck (.tmp 21), none⟩,
                ⟨some 24, .indexAddr 25 (.tmp 23) (.tmp 22), none⟩,
                ⟨some 25, .load 24 (.tmp 24), none⟩,
                ⟨some 26, .call ⟨.value (.tmp 20), #[(.tmp 25)], #[24]⟩, none⟩,
                ⟨some 19, .move (.tmp 26), none⟩,
                ⟨some 27, .extract (.tmp 19) 0, none⟩,
                ⟨some 28, .extract (.tmp 19) 1, none⟩,
                ⟨some 9, .alloc 24, none⟩,
                ⟨none, .store 24 (.tmp 9) (.tmp 27), none⟩,
                ⟨some 10, .assign (.tmp 28), none⟩] [])
              (.seq
               (.seq
                (.reg false [
                  ⟨some 29, .move (.tmp 10), none⟩,
                  ⟨some 30, .binOp .neq 29 (.tmp 29) (.const (.int .i64 0)) 29, none⟩] [])
                (.cond (.tmp 30)
                 (.exit 1)
                 .skip))
               (.seq
                (.reg true [
                  ⟨some 31, .move (.tmp 0), none⟩,
                  ⟨some 32, .move (.tmp 8), none⟩,
                  ⟨some 33, .load 24 (.tmp 9), none⟩,
                  ⟨some 34, .nilCheck (.tmp 31), none⟩,
                  ⟨some 35, .indexAddr 25 (.tmp 34) (.tmp 32), none⟩,
                  ⟨none, .store 24 (.tmp 35) (.tmp 33), none⟩] [])
                (.seq
                 (.reg false [
                   ⟨some 36, .move (.tmp 8), none⟩,
                   ⟨some 37, .indexAddr 27 (.tmp 4) (.tmp 36), none⟩,
                   ⟨some 38, .load 26 (.tmp 37), none⟩,
                   ⟨some 39, .binOp .eql 26 (.tmp 38) (.const (.int .u8 0)) 26, none⟩] [])
                 (.cond (.tmp 39)
                  (.reg false [
                    ⟨some 40, .move (.tmp 7), none⟩,
                    ⟨some 41, .move (.tmp 8), none⟩,
                    ⟨some 42, .buildSlice 56 1 #[(0, (.tmp 41))], none⟩,
                    ⟨some 43, .call ⟨.builtin .append, #[(.tmp 40), (.tmp 42)], #[56, 56]⟩, none⟩,
                    ⟨some 7, .assign (.tmp 43), none⟩] [])
                  .skip))))))))
          (.reg false [
            ⟨some 44, .binOp .add 3 (.tmp 11) (.const (.int .i64 1)) 3, none⟩,
            ⟨some 11, .move (.tmp 44), none⟩] [])))))))
    (.seq
     (.reg false [
       ⟨some 45, .move (.tmp 7), none⟩,
       ⟨some 6, .assign (.tmp 45), none⟩] [])
     .ret))))
theorem TryL32_ok : Try.f32.body.bind (light Try.f32.ntmps) = some TryL32 := rfl

def TryL33 : LC :=
 (.seq
  (.reg false [
    ⟨some 2, .box 24 (.tmp 0), none⟩,
    ⟨some 3, .alloc 24, none⟩,
    ⟨some 4, .assign (.const (.int .i64 0)), none⟩] [])
  (.seq
   (.reg false [
     ⟨some 5, .load 24 (.tmp 2), none⟩,
     ⟨some 6, .load 3 (.tmp 1), none⟩,
     ⟨some 7, .call ⟨.value (.func 22), #[(.tmp 5), (.tmp 6)], #[24, 3]⟩, none⟩,
     ⟨some 8, .extract (.tmp 7) 0, none⟩,
     ⟨some 9, .extract (.tmp 7) 1, none⟩,
     ⟨none, .store 24 (.tmp 3) (.tmp 8), none⟩,
     ⟨some 4, .assign (.tmp 9), none⟩] [])
   .ret))
theorem TryL33_ok : Try.f33.body.bind (light Try.f33.ntmps) = some TryL33 := rfl

def TryL34 : LC :=
 (.seq
  (.reg false [
    ⟨some 2, .box 24 (.tmp 0), none⟩,
    ⟨some 3, .box 24 (.tmp 1), none⟩,
    ⟨some 4, .assign (.const (.bool false)), none⟩] [])
  (.seq
   (.seq
    (.reg false [
      ⟨some 5, .fieldAddr 24 (.tmp 2) 1, none⟩,
      ⟨some 6, .load 3 (.tmp 5), none⟩,
      ⟨some 7, .fieldAddr 24 (.tmp 3) 1, none⟩,
      ⟨some 8, .load 3 (.tmp 7), none⟩,
      ⟨some 9, .binOp .neq 3 (.tmp 6) (.tmp 8) 3, none⟩] [])
    (.cond (.tmp 9)
     (.seq
      (.reg false [
        ⟨some 10, .fieldAddr 24 (.tmp 2) 1, none⟩,
        ⟨some 11, .load 3 (.tmp 10), none⟩,
        ⟨some 12, .fieldAddr 24 (.tmp 3) 1, none⟩,
        ⟨some 13, .load 3 (.tmp 12), none⟩,
        ⟨some 14, .binOp .gtr 3 (.tmp 11) (.tmp 13) 3, none⟩,
        ⟨some 4, .assign (.tmp 14), none⟩] [])
      .ret)
     .skip))
   (.seq
    (.reg false [
      ⟨some 15, .fieldAddr 24 (.tmp 2) 2, none⟩,
      ⟨some 16, .load 22 (.tmp 15), none⟩,
      ⟨some 17, .call ⟨.builtin .len, #[(.tmp 16)], #[22]⟩, none⟩,
      ⟨some 18, .fieldAddr 24 (.tmp 3) 2, none⟩,
      ⟨some 19, .load 22 (.tmp 18), none⟩,
      ⟨some 20, .call ⟨.builtin .len, #[(.tmp 19)], #[22]⟩, none⟩,
      ⟨some 21, .binOp .gtr 3 (.tmp 17) (.tmp 20) 3, none⟩,
      ⟨some 4, .assign (.tmp 21), none⟩] [])
    .ret)))
theorem TryL34_ok : Try.f34.body.bind (light Try.f34.ntmps) = some TryL34 := rfl

def TryL35 : LC :=
 (.seq
  (.reg false [
    ⟨some 2, .assign (.const (.slice none 0 0)), none⟩] [])
  (.seq
   (.seq
    (.reg false [
      ⟨some 3, .move (.tmp 0), none⟩,
      ⟨some 4, .binOp .eql 22 (.tmp 3) (.const (.slice none 0 0)) 22, none⟩] [])
    (.cond (.tmp 4)
     (.seq
      (.reg false [
        ⟨some 2, .assign (.const (.slice none 0 0)), none⟩] [])
      .ret)
     .skip))
   (.seq
    (.reg false [
      ⟨some 5, .buildSlice 22 0 #[], none⟩,
      ⟨some 6, .move (.tmp 0), none⟩,
      ⟨some 7, .call ⟨.builtin .append, #[(.tmp 5), (.tmp 6)], #[22, 22]⟩, none⟩,
      ⟨some 2, .assign (.tmp 7), none⟩] [])
    .ret)))
theorem TryL35_ok : Try.f35.body.bind (light Try.f35.ntmps) = some TryL35 := rfl

def TryL36 : LC :=
 (.seq
  (.reg false [
    ⟨some 4, .alloc 24, none⟩] [])
  (.seq
   (.reg false [
     ⟨some 5, .move (.tmp 0), none⟩,
     ⟨some 6, .move (.tmp 0), none⟩,
     ⟨some 7, .move (.tmp 1), none⟩,
     ⟨some 8, .call ⟨.value (.func 35), #[(.tmp 7)], #[22]⟩, none⟩,
     ⟨some 9, .build 24 #[(0, (.tmp 5)), (1, (.tmp 6)), (2, (.tmp 8))], none⟩,
     ⟨none, .store 24 (.tmp 4) (.tmp 9), none⟩] [])
   .ret))
theorem TryL36_ok : Try.f36.body.bind (light Try.f36.ntmps) = some TryL36 := rfl

def TryL37 : LC :=
 (.seq
  (.reg false [
    ⟨some 1, .box 25 (.tmp 0), none⟩,
    ⟨some 2, .alloc 25, none⟩] [])
  (.seq
   (.seq
    (.reg false [
      ⟨some 3, .assign (.const (.int .i64 0)), none⟩] [])
    (.block 0
     (.loop
      (.seq
       (.seq
        (.reg false [
          ⟨some 4, .move (.tmp 3), none⟩,
          ⟨some 5, .binOp .lss 3 (.tmp 4) (.const (.int .i64 3)) 3, none⟩] [])
        (.cond (.tmp 5)
         .skip
         (.exit 0)))
       (.seq
        (.block 1
         (.reg false [
           ⟨some 8, .move (.tmp 3), none⟩,
           ⟨some 9, .move (.tmp 3), none⟩,
           ⟨some 10, .indexAddr 25 (.tmp 1) (.tmp 9), none⟩,
           ⟨some 11, .load 24 (.tmp 10), none⟩,
           ⟨some 12, .call ⟨.value (.func 46), #[(.tmp 11)], #[24]⟩, none⟩,
           ⟨some 13, .indexAddr 25 (.tmp 1) (.tmp 8), none⟩,
           ⟨none, .store 24 (.tmp 13) (.tmp 12), none⟩] []))
        (.reg false [
          ⟨some 6, .move (.tmp 3), none⟩,
          ⟨some 7, .binOp .add 3 (.tmp 6) (.const (.int .i64 1)) 3, none⟩,
          ⟨some 3, .assign (.tmp 7), none⟩] []))))))
   (.seq
    (.reg false [
      ⟨some 14, .load 25 (.tmp 1), none⟩,
      ⟨none, .store 25 (.tmp 2) (.tmp 14), none⟩] [])
    .ret)))
theorem TryL37_ok : Try.f37.body.bind (light Try.f37.ntmps) = some TryL37 := rfl

def TryL38 : LC :=
 (.seq
  (.reg false [
    ⟨some 2, .assign (.const (.bool false)), none⟩] [])
  (.seq
   (.reg false [
     ⟨some 3, .move (.tmp 0), none⟩,
     ⟨some 4, .binOp .eql 26 (.tmp 3) (.const (.int .u8 0)) 26, none⟩,
     ⟨some 5, .move (.tmp 4), none⟩,
     ⟨some 6, .move (.tmp 0), some (5, false)⟩,
     ⟨some 7, .binOp .eql 26 (.tmp 6) (.const (.int .u8 2)) 26, some (5, false)⟩,
     ⟨some 8, .pick (.tmp 5) (.const (.bool true)) (.tmp 7), none⟩,
     ⟨some 2, .assign (.tmp 8), none⟩] [])
   .ret))
theorem TryL38_ok : Try.f38.body.bind (light Try.f38.ntmps) = some TryL38 := rfl

def TryL39 : LC :=
 (.seq
  (.reg false [
    ⟨some 2, .assign (.const (.slice none 0 0)), none⟩] [])
  (.seq
   (.reg false [
     ⟨some 3, .assign (.const (.slice none 0 0)), none⟩] [])
   (.seq
    (.reg false [
      ⟨some 4, .move (.tmp 3), none⟩,
      ⟨some 5, .move (.tmp 0), none⟩,
      ⟨some 6, .call ⟨.builtin .append, #[(.tmp 4), (.tmp 5)], #[22, 22]⟩, none⟩,
      ⟨some 2, .assign (.tmp 6), none⟩] [])
    .ret)))
theorem TryL39_ok : Try.f39.body.bind (light Try.f39.ntmps) = some TryL39 := rfl

def TryL40 : LC :=
 (.seq
  (.reg false [
    ⟨some 4, .assign (.const (.int .i64 0)), none⟩] [])
  (.seq
   (.block 0
    (.seq
     (.reg false [
       ⟨some 6, .move (.tmp 0), none⟩,
       ⟨some 7, .binOp .lss 3 (.tmp 6) (.const (.int .i64 1)) 3, none⟩,
       ⟨some 5, .assign (.tmp 7), none⟩] [])
     (.cond (.tmp 5)
      (.seq
       (.reg false [
         ⟨some 4, .assign (.const (.int .i64 1)), none⟩] [])
       .ret)
      (.seq
       (.reg false [
         ⟨some 9, .move (.tmp 1), none⟩,
         ⟨some 10, .call ⟨.builtin .len, #[(.tmp 9)], #[22]⟩, none⟩,
         ⟨some 11, .binOp .gtr 3 (.tmp 10) (.const (.int .i64 400)) 3, none⟩,
         ⟨some 8, .assign (.tmp 11), none⟩] [])
       (.cond (.tmp 8)
        (.seq
         (.reg false [
           ⟨some 4, .assign (.const (.int .i64 3)), none⟩] [])
         .ret)
        .skip)))))
   (.seq
    (.reg false [
      ⟨some 4, .assign (.const (.int .i64 0)), none⟩] [])
    .ret)))
theorem TryL40_ok : Try.f40.body.bind (light Try.f40.ntmps) = some TryL40 := rfl

def TryL41 : LC :=
 (.seq
  (.reg false [
    ⟨some 4, .assign (.const (.int .i64 0)), none⟩] [])
  (.seq
   (.seq
    (.reg false [
      ⟨some 6, .move (.tmp 0), none⟩,
      ⟨some 7, .call ⟨.builtin .len, #[(.tmp 6)], #[65]⟩, none⟩,
      ⟨some 8, .move (.const (.int .i64 0)), none⟩] [])
    (.block 0
     (.loop
      (.seq
       (.reg false [
         ⟨some 9, .binOp .lss 3 (.tmp 8) (.tmp 7) 3, none⟩] [])
       (.seq
        (.cond (.tmp 9)
         .skip
         (.exit 0))
        (.seq
         (.block 1
          (.seq
           (.reg false [
             ⟨some 10, .move (.tmp 8), none⟩,
             ⟨some 5, .assign (.tmp 10), none⟩] [])
           (.seq
            (.reg false [
              ⟨some 11, .move (.tmp 1), none⟩,
              ⟨some 12, .move (.tmp 0), none⟩,
              ⟨some 13, .move (.tmp 5), none⟩,
              ⟨some 14, .indexAddr 65 (.tmp 12) (.tmp 13), none⟩,
              ⟨some 15, .load 24 (.tmp 14), none⟩,
              ⟨some 16, .call ⟨.value (.tmp 11), #[(.tmp 15)], #[24]⟩, none⟩] [])
            (.cond (.tmp 16)
             (.seq
              (.reg false [
                ⟨some 17, .move (.tmp 5), none⟩,
                ⟨some 4, .assign (.tmp 17), none⟩] [])
              .ret)
             .skip))))
         (.reg false [
           ⟨some 18, .binOp .add 3 (.tmp 8) (.const (.int .i64 1)) 3, none⟩,
           ⟨some 8, .move (.tmp 18), none⟩] [])))))))
   (.seq
    (.reg false [
      ⟨some 4, .assign (.const (.int .i64 (-1))), none⟩] [])
    .ret)))
theorem TryL41_ok : Try.f41.body.bind (light Try.f41.ntmps) = some TryL41 := rfl

def TryL42 : LC :=
 (.seq
  (.reg false [
    ⟨some 1, .box 24 (.tmp 0), none⟩,
    ⟨some 2, .assign (.const (.bool false)), none⟩] [])
  (.seq
   (.reg false [
     ⟨some 3, .fieldAddr 24 (.tmp 1) 3, none⟩,
     ⟨some 4, .load 4 (.tmp 3), none⟩,
     ⟨some 2, .assign (.tmp 4), none⟩] [])
   .ret))
theorem TryL42_ok : Try.f42.body.bind (light Try.f42.ntmps) = some TryL42 := rfl

def TryL43 : LC :=
 (.seq
  (.reg false [
    ⟨some 3, .box 24 (.tmp 0), none⟩,
    ⟨some 4, .alloc 24, none⟩,
    ⟨some 5, .assign (.const (.int .i64 0)), none⟩] [])
  (.seq
   (.reg false [
     ⟨some 6, .load 24 (.tmp 3), none⟩,
     ⟨some 7, .load 3 (.tmp 1), none⟩,
     ⟨some 8, .load 22 (.tmp 2), none⟩,
     ⟨some 9, .call ⟨.value (.func 24), #[(.tmp 6), (.tmp 7), (.tmp 8)], #[24, 3, 22]⟩, none⟩,
     ⟨some 10, .extract (.tmp 9) 0, none⟩,
     ⟨some 11, .extract (.tmp 9) 1, none⟩,
     ⟨none, .store 24 (.tmp 4) (.tmp 10), none⟩,
     ⟨some 5, .assign (.tmp 11), none⟩] [])
   .ret))
theorem TryL43_ok : Try.f43.body.bind (light Try.f43.ntmps) = some TryL43 := rfl

def TryL44 : LC :=
 (.seq
  (.reg false [
    ⟨some 2, .assign (.const (.bool false)), none⟩] [])
  (.seq
   (.reg false [
     ⟨some 3, .move (.tmp 0), none⟩,
     ⟨some 4, .binOp .eql 26 (.tmp 3) (.const (.int .u8 0)) 26, none⟩,
     ⟨some 5, .move (.tmp 4), none⟩,
     ⟨some 6, .move (.tmp 0), some (5, false)⟩,
     ⟨some 7, .binOp .eql 26 (.tmp 6) (.const (.int .u8 2)) 26, some (5, false)⟩,
     ⟨some 8, .pick (.tmp 5) (.const (.bool true)) (.tmp 7), none⟩,
     ⟨some 2, .assign (.tmp 8), none⟩] [])
   .ret))
theorem TryL44_ok : Try.f44.body.bind (light Try.f44.ntmps) = some TryL44 := rfl

def TryL45 : LC :=
 (.seq
  (.reg false [
    ⟨some 4, .assign (.const (.int .i64 0)), none⟩] [])
  (.seq
   (.seq
    (.reg false [
      ⟨some 5, .move (.tmp 0), none⟩,
      ⟨some 6, .binOp .lss 3 (.tmp 5) (.const (.int .i64 1)) 3, none⟩] [])
    (.cond (.tmp 6)
     (.seq
      (.reg false [
        ⟨some 4, .assign (.const (.int .i64 1)), none⟩] [])
      .ret)
     .skip))
   (.seq
    (.seq
     (.reg false [
       ⟨some 7, .move (.tmp 1), none⟩,
       ⟨some 8, .call ⟨.builtin .len, #[(.tmp 7)], #[22]⟩, none⟩,
       ⟨some 9, .binOp .gtr 3 (.tmp 8) (.const (.int .i64 400)) 3, none⟩] [])
     (.cond (.tmp 9)
      (.seq
       (.reg false [
         ⟨some 4, .assign (.const (.int .i64 3)), none⟩] [])
       .ret)
      .skip))
    (.seq
     (.reg false [
       ⟨some 4, .assign (.const (.int .i64 0)), none⟩] [])
     .ret))))
theorem TryL45_ok : Try.f45.body.bind (light Try.f45.ntmps) = some TryL45 := rfl

def TryL46 : LC :=
 (.seq
  (.reg false [
    ⟨some 1, .box 24 (.tmp 0), none⟩,
    ⟨some 2, .alloc 24, none⟩] [])
  (.seq
   (.reg false [
     ⟨some 3, .fieldAddr 24 (.tmp 1) 2, none⟩,
     ⟨some 4, .load 22 (.tmp 3), none⟩,
     ⟨some 5, .call ⟨.value (.func 39), #[(.tmp 4)], #[22]⟩, none⟩,
     ⟨some 6, .fieldAddr 24 (.tmp 1) 2, none⟩,
     ⟨none, .store 22 (.tmp 6) (.tmp 5), none⟩] [])
   (.seq
    (.reg false [
      ⟨some 7, .load 24 (.tmp 1), none⟩,
      ⟨none, .store 24 (.tmp 2) (.tmp 7), none⟩] [])
    .ret)))
theorem TryL46_ok : Try.f46.body.bind (light Try.f46.ntmps) = some TryL46 := rfl

end Go.Proofs.Ytehmaafnbgpkcaa
