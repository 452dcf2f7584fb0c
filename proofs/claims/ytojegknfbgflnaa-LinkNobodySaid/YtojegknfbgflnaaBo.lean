/- The bodies of some functions of the program, without their noise, and that they are these. Conditions: none. Written by a program of this workplace (Print.lean). -/
import Derived.Test.YtojegknfbgflnaaProg
import Derived.Test.YtojegknfbgflnaaSlM
import Derived.KernelRfl
namespace Go.Proofs.Ytojegknfbgflnaa
open Go Go.SL
set_option maxRecDepth 100000

/-- (*leapfrog/link.Links).All -/
def c37 : CC :=
  .seq (.ops (
    .st ⟨some 2, .mv (.const (.slice none 0 0)), none⟩ <|
    .done)) <|
  .seq (.seq (.ops (
    .st ⟨some 7, .mv (.tmp 0), none⟩ <|
    .st ⟨some 8, .call (.func 59) [.tmp 7], none⟩ <|
    .st ⟨some 9, .un .not (.tmp 8), none⟩ <|
    .done)) <|
  .cond (.tmp 9) (.seq (.ops (
      .st ⟨some 2, .mv (.const (.slice none 0 0)), none⟩ <|
      .done)) <|
    .ret) (.skip)) <|
  .seq (.ops (
    .st ⟨some 3, .mv (.const (.slice none 0 0)), none⟩ <|
    .done)) <|
  .seq (.seq (.ops (
    .st ⟨some 10, .mv (.tmp 0), none⟩ <|
    .st ⟨some 11, .nilc (.tmp 10), none⟩ <|
    .st ⟨some 12, .fa 5 (.tmp 11), none⟩ <|
    .st ⟨some 13, .ld none (.tmp 12), none⟩ <|
    .st ⟨some 14, .rng (.tmp 13), none⟩ <|
    .done)) <|
  .block 0 (.loop (.seq (.ops (
        .st ⟨some 15, .nxt (.tmp 14), none⟩ <|
        .st ⟨some 16, .ext (.tmp 15) 0, none⟩ <|
        .done)) <|
      .seq (.cond (.tmp 16) (.skip) (.exit 0)) <|
      .block 1 (.seq (.ops (
          .st ⟨some 17, .ent (.tmp 14), none⟩ <|
          .st ⟨some 18, .ext (.tmp 17) 0, none⟩ <|
          .st ⟨some 19, .ext (.tmp 17) 1, none⟩ <|
          .st ⟨some 4, .new 55 #[.int .i64 0, .int .u64 0], none⟩ <|
          .st ⟨none, .st 2 (.tmp 4) (.tmp 18), none⟩ <|
          .st ⟨some 5, .mv (.tmp 19), none⟩ <|
          .done)) <|
        .seq (.ops (
          .st ⟨some 20, .mv (.tmp 5), none⟩ <|
          .st ⟨some 21, .ld (some 2) (.tmp 4), none⟩ <|
          .st ⟨some 22, .call (.func 61) [.tmp 20, .tmp 21], none⟩ <|
          .st ⟨some 6, .new 62 #[.int .i64 0, .int .u64 0, .int .i64 0, .int .i64 0, .int .u64 0, .int .i64 0, .int .u64 0, .int .i64 0, .int .i64 0, .int .u64 0, .int .i64 0, .int .u64 0, .bool false, .int .i64 0, .int .i64 0, .slice none 0 0], none⟩ <|
          .st ⟨none, .st 16 (.tmp 6) (.tmp 22), none⟩ <|
          .done)) <|
        .seq (.ops (
          .st ⟨some 23, .mv (.tmp 0), none⟩ <|
          .st ⟨some 24, .call (.func 65) [.tmp 23], none⟩ <|
          .st ⟨some 25, .un .not (.tmp 24), none⟩ <|
          .st ⟨some 26, .mv (.tmp 25), none⟩ <|
          .st ⟨some 27, .ld (some 16) (.tmp 6), some (26, false)⟩ <|
          .st ⟨some 28, .mv (.tmp 0), some (26, false)⟩ <|
          .st ⟨some 30, .ld (some 2) (.tmp 4), some (26, false)⟩ <|
          .st ⟨some 29, .call (.func 75) [.tmp 28], some (26, false)⟩ <|
          .ag ⟨some 27, .ld (some 16) (.tmp 6), some (26, false)⟩ <|
          .ag ⟨some 30, .ld (some 2) (.tmp 4), some (26, false)⟩ <|
          .st ⟨some 31, .call (.func 61) [.tmp 29, .tmp 30], some (26, false)⟩ <|
          .ag ⟨some 27, .ld (some 16) (.tmp 6), some (26, false)⟩ <|
          .st ⟨some 32, .call (.func 27) [.tmp 27, .tmp 31], some (26, false)⟩ <|
          .st ⟨some 33, .un .not (.tmp 32), some (26, false)⟩ <|
          .st ⟨some 34, .pick (.tmp 26) (.const (.bool true)) (.tmp 33), none⟩ <|
          .done)) <|
        .cond (.tmp 34) (.ops (
            .st ⟨some 35, .mv (.tmp 3), none⟩ <|
            .st ⟨some 36, .ld (some 16) (.tmp 6), none⟩ <|
            .st ⟨some 37, .bsl 62 [.c (.tmp 36) 0 16, .c (.tmp 36) 1 16, .c (.tmp 36) 2 16, .c (.tmp 36) 3 16, .c (.tmp 36) 4 16, .c (.tmp 36) 5 16, .c (.tmp 36) 6 16, .c (.tmp 36) 7 16, .c (.tmp 36) 8 16, .c (.tmp 36) 9 16, .c (.tmp 36) 10 16, .c (.tmp 36) 11 16, .c (.tmp 36) 12 16, .c (.tmp 36) 13 16, .c (.tmp 36) 14 16, .c (.tmp 36) 15 16] 1, none⟩ <|
            .st ⟨some 38, .ap 62 16 144 #[.int .i64 0, .int .u64 0, .int .i64 0, .int .i64 0, .int .u64 0, .int .i64 0, .int .u64 0, .int .i64 0, .int .i64 0, .int .u64 0, .int .i64 0, .int .u64 0, .bool false, .int .i64 0, .int .i64 0, .slice none 0 0] (.tmp 35) (.tmp 37), none⟩ <|
            .st ⟨some 3, .mv (.tmp 38), none⟩ <|
            .done)) (.skip))))) <|
  .seq (.ops (
    .st ⟨some 39, .mv (.tmp 3), none⟩ <|
    .st ⟨some 40, .call (.func 76) [.tmp 39, .func 77], none⟩ <|
    .done)) <|
  .seq (.ops (
    .st ⟨some 41, .mv (.tmp 3), none⟩ <|
    .st ⟨some 2, .mv (.tmp 41), none⟩ <|
    .done)) <|
  .ret
theorem b37 : bodyOf Try.prog 37 = some (42, [.t 2], c37) := by kernel_rfl
theorem k37 : callOk Try.prog 37 = true := by kernel_rfl

/-- leapfrog/leapfroglaw08.LinkNobody -/
def c13 : CC :=
  .seq (.ops (
    .st ⟨some 1, .box 66 (.tmp 0), none⟩ <|
    .st ⟨some 2, .mv (.const (.bool false)), none⟩ <|
    .done)) <|
  .seq (.ops (
    .st ⟨some 3, .mv (.const (.pointer none)), none⟩ <|
    .done)) <|
  .seq (.seq (.ops (
    .st ⟨some 15, .mv (.tmp 3), none⟩ <|
    .st ⟨some 16, .agg [.z (.int .i64 0), .z (.int .i64 0), .z (.int .u64 0), .z (.int .i64 0), .z (.int .u64 0), .z (.map none)], none⟩ <|
    .st ⟨some 17, .box 93 (.tmp 16), none⟩ <|
    .st ⟨some 18, .bsl 67 [.c (.tmp 15) 0 1, .c (.tmp 17) 0 1] 2, none⟩ <|
    .st ⟨some 19, .ln (.tmp 18), none⟩ <|
    .st ⟨some 20, .mv (.const (.int .i64 0)), none⟩ <|
    .done)) <|
  .block 0 (.loop (.seq (.ops (
        .st ⟨some 21, .bini .lss (.tmp 20) (.tmp 19), none⟩ <|
        .done)) <|
      .seq (.cond (.tmp 21) (.skip) (.exit 0)) <|
      .seq (.block 1 (.seq (.ops (
          .st ⟨some 22, .ia 1 (.tmp 18) (.tmp 20), none⟩ <|
          .st ⟨some 23, .ld none (.tmp 22), none⟩ <|
          .st ⟨some 5, .mv (.tmp 23), none⟩ <|
          .done)) <|
        .seq (.ops (
          .st ⟨some 25, .mv (.tmp 5), none⟩ <|
          .st ⟨some 26, .fa 1 (.tmp 1), none⟩ <|
          .st ⟨some 27, .ld (some 2) (.tmp 26), none⟩ <|
          .st ⟨some 28, .call (.func 30) [.tmp 25, .tmp 27], none⟩ <|
          .st ⟨some 24, .mv (.tmp 28), none⟩ <|
          .st ⟨some 29, .ext (.tmp 24) 0, none⟩ <|
          .st ⟨some 30, .ext (.tmp 24) 1, none⟩ <|
          .st ⟨some 6, .new 62 #[.int .i64 0, .int .u64 0, .int .i64 0, .int .i64 0, .int .u64 0, .int .i64 0, .int .u64 0, .int .i64 0, .int .i64 0, .int .u64 0, .int .i64 0, .int .u64 0, .bool false, .int .i64 0, .int .i64 0, .slice none 0 0], none⟩ <|
          .st ⟨none, .st 16 (.tmp 6) (.tmp 29), none⟩ <|
          .st ⟨some 7, .mv (.tmp 30), none⟩ <|
          .done)) <|
        .seq (.ops (
          .st ⟨some 32, .mv (.tmp 5), none⟩ <|
          .st ⟨some 33, .fa 1 (.tmp 1), none⟩ <|
          .st ⟨some 34, .ld (some 2) (.tmp 33), none⟩ <|
          .st ⟨some 35, .fa 13 (.tmp 1), none⟩ <|
          .st ⟨some 36, .ld (some 2) (.tmp 35), none⟩ <|
          .st ⟨some 37, .call (.func 32) [.tmp 32, .tmp 34, .tmp 36], none⟩ <|
          .st ⟨some 31, .mv (.tmp 37), none⟩ <|
          .st ⟨some 38, .ext (.tmp 31) 0, none⟩ <|
          .st ⟨some 39, .ext (.tmp 31) 1, none⟩ <|
          .st ⟨some 8, .mv (.tmp 38), none⟩ <|
          .st ⟨some 9, .mv (.tmp 39), none⟩ <|
          .done)) <|
        .seq (.ops (
          .st ⟨some 41, .mv (.tmp 5), none⟩ <|
          .st ⟨some 42, .fa 1 (.tmp 1), none⟩ <|
          .st ⟨some 43, .ld (some 2) (.tmp 42), none⟩ <|
          .st ⟨some 44, .fa 13 (.tmp 1), none⟩ <|
          .st ⟨some 45, .ld (some 2) (.tmp 44), none⟩ <|
          .st ⟨some 46, .call (.func 41) [.tmp 41, .tmp 43, .tmp 45], none⟩ <|
          .st ⟨some 40, .mv (.tmp 46), none⟩ <|
          .st ⟨some 47, .ext (.tmp 40) 0, none⟩ <|
          .st ⟨some 48, .ext (.tmp 40) 1, none⟩ <|
          .st ⟨some 10, .mv (.tmp 47), none⟩ <|
          .st ⟨some 11, .mv (.tmp 48), none⟩ <|
          .done)) <|
        .seq (.ops (
          .st ⟨some 50, .mv (.tmp 5), none⟩ <|
          .st ⟨some 51, .fa 1 (.tmp 1), none⟩ <|
          .st ⟨some 52, .ld (some 2) (.tmp 51), none⟩ <|
          .st ⟨some 53, .fa 13 (.tmp 1), none⟩ <|
          .st ⟨some 54, .ld (some 2) (.tmp 53), none⟩ <|
          .st ⟨some 55, .call (.func 42) [.tmp 50, .tmp 52, .tmp 54], none⟩ <|
          .st ⟨some 49, .mv (.tmp 55), none⟩ <|
          .st ⟨some 56, .ext (.tmp 49) 0, none⟩ <|
          .st ⟨some 57, .ext (.tmp 49) 1, none⟩ <|
          .st ⟨some 58, .ext (.tmp 49) 2, none⟩ <|
          .st ⟨some 12, .new 29 #[.int .i64 0, .int .i64 0], none⟩ <|
          .st ⟨none, .st 2 (.tmp 12) (.tmp 56), none⟩ <|
          .st ⟨some 13, .mv (.tmp 57), none⟩ <|
          .st ⟨some 14, .mv (.tmp 58), none⟩ <|
          .done)) <|
        .seq (.seq (.ops (
          .st ⟨some 59, .mv (.tmp 5), none⟩ <|
          .st ⟨some 60, .fa 1 (.tmp 1), none⟩ <|
          .st ⟨some 61, .ld (some 2) (.tmp 60), none⟩ <|
          .st ⟨some 62, .fa 3 (.tmp 1), none⟩ <|
          .st ⟨some 63, .ld (some 5) (.tmp 62), none⟩ <|
          .st ⟨some 64, .fa 8 (.tmp 1), none⟩ <|
          .st ⟨some 65, .ld (some 5) (.tmp 64), none⟩ <|
          .st ⟨some 66, .fa 13 (.tmp 1), none⟩ <|
          .st ⟨some 67, .ld (some 2) (.tmp 66), none⟩ <|
          .st ⟨some 68, .call (.func 34) [.tmp 59, .tmp 61, .tmp 63, .tmp 65, .tmp 67], none⟩ <|
          .st ⟨some 69, .bini .neq (.tmp 68) (.const (.int .i64 4)), none⟩ <|
          .st ⟨some 70, .mv (.tmp 69), none⟩ <|
          .st ⟨some 71, .mv (.tmp 5), some (70, false)⟩ <|
          .st ⟨some 72, .fa 1 (.tmp 1), some (70, false)⟩ <|
          .st ⟨some 73, .ld (some 2) (.tmp 72), some (70, false)⟩ <|
          .st ⟨some 74, .fa 3 (.tmp 1), some (70, false)⟩ <|
          .st ⟨some 75, .ld (some 5) (.tmp 74), some (70, false)⟩ <|
          .st ⟨some 76, .call (.func 43) [.tmp 71, .tmp 73, .tmp 75], some (70, false)⟩ <|
          .st ⟨some 77, .bini .neq (.tmp 76) (.const (.int .i64 4)), some (70, false)⟩ <|
          .st ⟨some 78, .pick (.tmp 70) (.const (.bool true)) (.tmp 77), none⟩ <|
          .st ⟨some 79, .mv (.tmp 78), none⟩ <|
          .st ⟨some 80, .mv (.tmp 5), some (79, false)⟩ <|
          .st ⟨some 81, .fa 1 (.tmp 1), some (79, false)⟩ <|
          .st ⟨some 82, .ld (some 2) (.tmp 81), some (79, false)⟩ <|
          .st ⟨some 83, .fa 3 (.tmp 1), some (79, false)⟩ <|
          .st ⟨some 84, .ld (some 5) (.tmp 83), some (79, false)⟩ <|
          .st ⟨some 85, .fa 13 (.tmp 1), some (79, false)⟩ <|
          .st ⟨some 86, .ld (some 2) (.tmp 85), some (79, false)⟩ <|
          .st ⟨some 87, .call (.func 44) [.tmp 80, .tmp 82, .tmp 84, .tmp 86], some (79, false)⟩ <|
          .st ⟨some 88, .bini .neq (.tmp 87) (.const (.int .i64 4)), some (79, false)⟩ <|
          .st ⟨some 89, .pick (.tmp 79) (.const (.bool true)) (.tmp 88), none⟩ <|
          .st ⟨some 90, .mv (.tmp 89), none⟩ <|
          .st ⟨some 91, .mv (.tmp 9), some (90, false)⟩ <|
          .st ⟨some 92, .bini .neq (.tmp 91) (.const (.int .i64 4)), some (90, false)⟩ <|
          .st ⟨some 93, .pick (.tmp 90) (.const (.bool true)) (.tmp 92), none⟩ <|
          .st ⟨some 94, .mv (.tmp 93), none⟩ <|
          .st ⟨some 95, .mv (.tmp 11), some (94, false)⟩ <|
          .st ⟨some 96, .bini .neq (.tmp 95) (.const (.int .i64 4)), some (94, false)⟩ <|
          .st ⟨some 97, .pick (.tmp 94) (.const (.bool true)) (.tmp 96), none⟩ <|
          .st ⟨some 98, .mv (.tmp 97), none⟩ <|
          .st ⟨some 99, .mv (.tmp 14), some (98, false)⟩ <|
          .st ⟨some 100, .bini .neq (.tmp 99) (.const (.int .i64 4)), some (98, false)⟩ <|
          .st ⟨some 101, .pick (.tmp 98) (.const (.bool true)) (.tmp 100), none⟩ <|
          .done)) <|
        .cond (.tmp 101) (.seq (.ops (
            .st ⟨some 2, .mv (.const (.bool false)), none⟩ <|
            .done)) <|
          .ret) (.skip)) <|
        .seq (.ops (
          .st ⟨some 102, .mv (.tmp 5), none⟩ <|
          .st ⟨some 103, .fa 1 (.tmp 1), none⟩ <|
          .st ⟨some 104, .ld (some 2) (.tmp 103), none⟩ <|
          .st ⟨some 105, .call (.func 40) [.tmp 102, .tmp 104], none⟩ <|
          .st ⟨some 106, .mv (.tmp 105), none⟩ <|
          .st ⟨some 107, .mv (.tmp 7), some (106, false)⟩ <|
          .st ⟨some 108, .pick (.tmp 106) (.const (.bool true)) (.tmp 107), none⟩ <|
          .st ⟨some 109, .mv (.tmp 108), none⟩ <|
          .st ⟨some 110, .mv (.tmp 10), some (109, false)⟩ <|
          .st ⟨some 111, .pick (.tmp 109) (.const (.bool true)) (.tmp 110), none⟩ <|
          .st ⟨some 112, .mv (.tmp 111), none⟩ <|
          .st ⟨some 113, .mv (.tmp 13), some (112, false)⟩ <|
          .st ⟨some 114, .pick (.tmp 112) (.const (.bool true)) (.tmp 113), none⟩ <|
          .st ⟨some 115, .mv (.tmp 114), none⟩ <|
          .st ⟨some 116, .ld (some 2) (.tmp 12), some (115, false)⟩ <|
          .st ⟨some 117, .agg [.z (.int .i64 0), .z (.int .i64 0)], some (115, false)⟩ <|
          .st ⟨some 118, .eqs true [.i, .i] (.tmp 116) (.tmp 117), some (115, false)⟩ <|
          .st ⟨some 119, .pick (.tmp 115) (.const (.bool true)) (.tmp 118), none⟩ <|
          .st ⟨some 120, .mv (.tmp 119), none⟩ <|
          .st ⟨some 121, .ld (some 16) (.tmp 6), some (120, false)⟩ <|
          .st ⟨some 122, .agg [.z (.int .i64 0), .z (.int .u64 0), .z (.int .i64 0), .z (.int .i64 0), .z (.int .u64 0), .z (.int .i64 0), .z (.int .u64 0), .z (.int .i64 0), .z (.int .i64 0), .z (.int .u64 0), .z (.int .i64 0), .z (.int .u64 0), .z (.bool false), .z (.int .i64 0), .z (.int .i64 0), .z (.slice none 0 0)], some (120, false)⟩ <|
          .st ⟨some 123, .call (.func 28) [.tmp 121, .tmp 122], some (120, false)⟩ <|
          .st ⟨some 124, .un .not (.tmp 123), some (120, false)⟩ <|
          .st ⟨some 125, .pick (.tmp 120) (.const (.bool true)) (.tmp 124), none⟩ <|
          .st ⟨some 126, .mv (.tmp 125), none⟩ <|
          .st ⟨some 127, .mv (.tmp 8), some (126, false)⟩ <|
          .st ⟨some 128, .ln (.tmp 127), some (126, false)⟩ <|
          .st ⟨some 129, .mv (.tmp 5), some (126, false)⟩ <|
          .st ⟨some 130, .call (.func 37) [.tmp 129], some (126, false)⟩ <|
          .st ⟨some 131, .ln (.tmp 130), some (126, false)⟩ <|
          .st ⟨some 132, .bini .add (.tmp 128) (.tmp 131), some (126, false)⟩ <|
          .st ⟨some 133, .bini .neq (.tmp 132) (.const (.int .i64 0)), some (126, false)⟩ <|
          .st ⟨some 134, .pick (.tmp 126) (.const (.bool true)) (.tmp 133), none⟩ <|
          .done)) <|
        .cond (.tmp 134) (.seq (.ops (
            .st ⟨some 2, .mv (.const (.bool false)), none⟩ <|
            .done)) <|
          .ret) (.skip))) <|
      .ops (
        .st ⟨some 135, .bini .add (.tmp 20) (.const (.int .i64 1)), none⟩ <|
        .st ⟨some 20, .mv (.tmp 135), none⟩ <|
        .done)))) <|
  .seq (.ops (
    .st ⟨some 136, .call (.func 26) [], none⟩ <|
    .st ⟨some 2, .mv (.tmp 136), none⟩ <|
    .done)) <|
  .ret
theorem b13 : bodyOf Try.prog 13 = some (137, [.t 2], c13) := by kernel_rfl
theorem k13 : callOk Try.prog 13 = true := by kernel_rfl

end Go.Proofs.Ytojegknfbgflnaa
