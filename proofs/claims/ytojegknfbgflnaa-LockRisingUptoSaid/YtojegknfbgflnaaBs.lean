/- The bodies of some functions of the program, without their noise, and that they are these. Conditions: none. Written by a program of this workplace (Print.lean). -/
import Derived.Test.YtojegknfbgflnaaProg
import Derived.Test.YtojegknfbgflnaaSlM
import Derived.KernelRfl
namespace Go.Proofs.Ytojegknfbgflnaa
open Go Go.SL
set_option maxRecDepth 100000

/-- leapfrog/lock.Stuck -/
def c35 : CC :=
  .seq (.ops (
    .st ⟨some 2, .mv (.const (.slice none 0 0)), none⟩ <|
    .st ⟨some 3, .mv (.const (.int .i64 0)), none⟩ <|
    .done)) <|
  .seq (.ops (
    .st ⟨some 16, .mkm, none⟩ <|
    .st ⟨some 17, .mkm, none⟩ <|
    .st ⟨some 18, .mkm, none⟩ <|
    .st ⟨some 19, .agg [.c (.tmp 16) 0 1, .c (.tmp 17) 0 1, .z (.slice none 0 0), .c (.tmp 18) 0 1], none⟩ <|
    .st ⟨some 20, .box 123 (.tmp 19), none⟩ <|
    .st ⟨some 4, .mv (.tmp 20), none⟩ <|
    .done)) <|
  .seq (.seq (.ops (
    .st ⟨some 21, .mv (.tmp 0), none⟩ <|
    .st ⟨some 22, .ln (.tmp 21), none⟩ <|
    .st ⟨some 23, .mv (.const (.int .i64 0)), none⟩ <|
    .done)) <|
  .block 0 (.loop (.seq (.ops (
        .st ⟨some 24, .bini .lss (.tmp 23) (.tmp 22), none⟩ <|
        .done)) <|
      .seq (.cond (.tmp 24) (.skip) (.exit 0)) <|
      .seq (.block 1 (.seq (.ops (
          .st ⟨some 25, .ia 4 (.tmp 21) (.tmp 23), none⟩ <|
          .st ⟨some 26, .ld (some 4) (.tmp 25), none⟩ <|
          .st ⟨some 6, .new 84 #[.int .i64 0, .int .i64 0, .int .i64 0, .bool false], none⟩ <|
          .st ⟨none, .st 4 (.tmp 6) (.tmp 26), none⟩ <|
          .done)) <|
        .seq (.ops (
          .st ⟨some 27, .fa 0 (.tmp 6), none⟩ <|
          .st ⟨some 28, .ld (some 2) (.tmp 27), none⟩ <|
          .st ⟨some 29, .call (.func 23) [.tmp 28], none⟩ <|
          .st ⟨some 7, .mv (.tmp 29), none⟩ <|
          .done)) <|
        .seq (.ops (
          .st ⟨some 30, .mv (.tmp 7), none⟩ <|
          .st ⟨some 31, .bini .neq (.tmp 30) (.const (.int .i64 0)), none⟩ <|
          .done)) <|
        .cond (.tmp 31) (.seq (.ops (
            .st ⟨some 32, .mv (.tmp 7), none⟩ <|
            .st ⟨some 2, .mv (.const (.slice none 0 0)), none⟩ <|
            .st ⟨some 3, .mv (.tmp 32), none⟩ <|
            .done)) <|
          .ret) (.skip))) <|
      .ops (
        .st ⟨some 33, .bini .add (.tmp 23) (.const (.int .i64 1)), none⟩ <|
        .st ⟨some 23, .mv (.tmp 33), none⟩ <|
        .done)))) <|
  .seq (.seq (.ops (
    .st ⟨some 34, .mv (.tmp 0), none⟩ <|
    .st ⟨some 35, .ln (.tmp 34), none⟩ <|
    .st ⟨some 36, .bini .gtr (.tmp 35) (.const (.int .i64 4096)), none⟩ <|
    .done)) <|
  .cond (.tmp 36) (.seq (.ops (
      .st ⟨some 2, .mv (.const (.slice none 0 0)), none⟩ <|
      .st ⟨some 3, .mv (.const (.int .i64 3)), none⟩ <|
      .done)) <|
    .ret) (.skip)) <|
  .seq (.seq (.ops (
    .st ⟨some 37, .mv (.tmp 0), none⟩ <|
    .st ⟨some 38, .ln (.tmp 37), none⟩ <|
    .st ⟨some 39, .mv (.const (.int .i64 0)), none⟩ <|
    .done)) <|
  .block 2 (.loop (.seq (.ops (
        .st ⟨some 40, .bini .lss (.tmp 39) (.tmp 38), none⟩ <|
        .done)) <|
      .seq (.cond (.tmp 40) (.skip) (.exit 2)) <|
      .seq (.block 3 (.seq (.ops (
          .st ⟨some 41, .ia 4 (.tmp 37) (.tmp 39), none⟩ <|
          .st ⟨some 42, .ld (some 4) (.tmp 41), none⟩ <|
          .st ⟨some 9, .new 84 #[.int .i64 0, .int .i64 0, .int .i64 0, .bool false], none⟩ <|
          .st ⟨none, .st 4 (.tmp 9) (.tmp 42), none⟩ <|
          .done)) <|
        .seq (.ops (
          .st ⟨some 43, .mv (.tmp 4), none⟩ <|
          .st ⟨some 44, .mv (.tmp 4), none⟩ <|
          .st ⟨some 45, .nilc (.tmp 44), none⟩ <|
          .st ⟨some 46, .fa 2 (.tmp 45), none⟩ <|
          .st ⟨some 47, .ld none (.tmp 46), none⟩ <|
          .st ⟨some 48, .fa 0 (.tmp 9), none⟩ <|
          .st ⟨some 49, .ld (some 2) (.tmp 48), none⟩ <|
          .st ⟨some 50, .bsl 29 [.c (.tmp 49) 0 2, .c (.tmp 49) 1 2] 1, none⟩ <|
          .st ⟨some 51, .ap 29 2 16 #[.int .i64 0, .int .i64 0] (.tmp 47) (.tmp 50), none⟩ <|
          .st ⟨some 52, .nilc (.tmp 43), none⟩ <|
          .st ⟨some 53, .fa 2 (.tmp 52), none⟩ <|
          .st ⟨none, .st 1 (.tmp 53) (.tmp 51), none⟩ <|
          .done)) <|
        .seq (.ops (
          .st ⟨some 54, .fa 3 (.tmp 9), none⟩ <|
          .st ⟨some 55, .ld none (.tmp 54), none⟩ <|
          .done)) <|
        .cond (.tmp 55) (.ops (
            .st ⟨some 56, .mv (.tmp 4), none⟩ <|
            .st ⟨some 57, .nilc (.tmp 56), none⟩ <|
            .st ⟨some 58, .fa 0 (.tmp 57), none⟩ <|
            .st ⟨some 59, .ld none (.tmp 58), none⟩ <|
            .st ⟨some 60, .fa 2 (.tmp 9), none⟩ <|
            .st ⟨some 61, .ld none (.tmp 60), none⟩ <|
            .st ⟨some 62, .mv (.tmp 4), none⟩ <|
            .st ⟨some 63, .nilc (.tmp 62), none⟩ <|
            .st ⟨some 64, .fa 0 (.tmp 63), none⟩ <|
            .st ⟨some 65, .ld none (.tmp 64), none⟩ <|
            .st ⟨some 66, .fa 2 (.tmp 9), none⟩ <|
            .st ⟨some 67, .ld none (.tmp 66), none⟩ <|
            .st ⟨some 68, .lkp false 3 (.slice none 0 0) (.tmp 65) (.tmp 67), none⟩ <|
            .st ⟨some 69, .fa 0 (.tmp 9), none⟩ <|
            .st ⟨some 70, .ld (some 2) (.tmp 69), none⟩ <|
            .st ⟨some 71, .bsl 29 [.c (.tmp 70) 0 2, .c (.tmp 70) 1 2] 1, none⟩ <|
            .st ⟨some 72, .ap 29 2 16 #[.int .i64 0, .int .i64 0] (.tmp 68) (.tmp 71), none⟩ <|
            .ag ⟨some 59, .ld none (.tmp 58), none⟩ <|
            .ag ⟨some 61, .ld none (.tmp 60), none⟩ <|
            .st ⟨none, .mup 3 (.tmp 59) (.tmp 61) (.tmp 72), none⟩ <|
            .done)) (.ops (
            .st ⟨some 73, .mv (.tmp 4), none⟩ <|
            .st ⟨some 74, .nilc (.tmp 73), none⟩ <|
            .st ⟨some 75, .fa 1 (.tmp 74), none⟩ <|
            .st ⟨some 76, .ld none (.tmp 75), none⟩ <|
            .st ⟨some 77, .fa 0 (.tmp 9), none⟩ <|
            .st ⟨some 78, .ld (some 2) (.tmp 77), none⟩ <|
            .st ⟨some 79, .fa 2 (.tmp 9), none⟩ <|
            .st ⟨some 80, .ld none (.tmp 79), none⟩ <|
            .st ⟨some 81, .agg [.c (.tmp 78) 0 2, .c (.tmp 78) 1 2, .c (.tmp 80) 0 1], none⟩ <|
            .st ⟨none, .mup 125 (.tmp 76) (.tmp 81) (.const (.bool true)), none⟩ <|
            .done)))) <|
      .ops (
        .st ⟨some 82, .bini .add (.tmp 39) (.const (.int .i64 1)), none⟩ <|
        .st ⟨some 39, .mv (.tmp 82), none⟩ <|
        .done)))) <|
  .seq (.ops (
    .st ⟨some 83, .mv (.tmp 4), none⟩ <|
    .st ⟨some 84, .nilc (.tmp 83), none⟩ <|
    .st ⟨some 85, .fa 2 (.tmp 84), none⟩ <|
    .st ⟨some 86, .ld none (.tmp 85), none⟩ <|
    .st ⟨some 87, .call (.func 68) [.tmp 86, .func 69], none⟩ <|
    .done)) <|
  .seq (.ops (
    .st ⟨some 88, .mv (.tmp 4), none⟩ <|
    .st ⟨some 89, .mv (.tmp 4), none⟩ <|
    .st ⟨some 90, .nilc (.tmp 89), none⟩ <|
    .st ⟨some 91, .fa 2 (.tmp 90), none⟩ <|
    .st ⟨some 92, .ld none (.tmp 91), none⟩ <|
    .st ⟨some 93, .call (.func 70) [.tmp 92], none⟩ <|
    .st ⟨some 94, .nilc (.tmp 88), none⟩ <|
    .st ⟨some 95, .fa 2 (.tmp 94), none⟩ <|
    .st ⟨none, .st 1 (.tmp 95) (.tmp 93), none⟩ <|
    .done)) <|
  .seq (.seq (.ops (
    .st ⟨some 10, .mv (.const (.bool true)), none⟩ <|
    .done)) <|
  .block 4 (.loop (.seq (.seq (.ops (
        .st ⟨some 96, .mv (.tmp 10), none⟩ <|
        .done)) <|
      .cond (.tmp 96) (.skip) (.exit 4)) <|
      .block 5 (.seq (.ops (
          .st ⟨some 10, .mv (.const (.bool false)), none⟩ <|
          .done)) <|
        .seq (.ops (
          .st ⟨some 97, .mv (.tmp 4), none⟩ <|
          .st ⟨some 98, .nilc (.tmp 97), none⟩ <|
          .st ⟨some 99, .fa 2 (.tmp 98), none⟩ <|
          .st ⟨some 100, .ld none (.tmp 99), none⟩ <|
          .st ⟨some 101, .ln (.tmp 100), none⟩ <|
          .st ⟨some 102, .mv (.const (.int .i64 0)), none⟩ <|
          .done)) <|
        .block 6 (.loop (.seq (.ops (
              .st ⟨some 103, .bini .lss (.tmp 102) (.tmp 101), none⟩ <|
              .done)) <|
            .seq (.cond (.tmp 103) (.skip) (.exit 6)) <|
            .seq (.block 7 (.seq (.ops (
                .st ⟨some 104, .ia 2 (.tmp 100) (.tmp 102), none⟩ <|
                .st ⟨some 105, .ld (some 2) (.tmp 104), none⟩ <|
                .st ⟨some 12, .new 29 #[.int .i64 0, .int .i64 0], none⟩ <|
                .st ⟨none, .st 2 (.tmp 12) (.tmp 105), none⟩ <|
                .done)) <|
              .seq (.ops (
                .st ⟨some 106, .mv (.tmp 4), none⟩ <|
                .st ⟨some 107, .nilc (.tmp 106), none⟩ <|
                .st ⟨some 108, .fa 3 (.tmp 107), none⟩ <|
                .st ⟨some 109, .ld none (.tmp 108), none⟩ <|
                .st ⟨some 110, .ld (some 2) (.tmp 12), none⟩ <|
                .st ⟨some 111, .lkp false 29 (.bool false) (.tmp 109) (.tmp 110), none⟩ <|
                .st ⟨some 112, .un .not (.tmp 111), none⟩ <|
                .st ⟨some 113, .mv (.tmp 112), none⟩ <|
                .st ⟨some 114, .mv (.tmp 4), some (113, true)⟩ <|
                .st ⟨some 115, .ld (some 2) (.tmp 12), some (113, true)⟩ <|
                .st ⟨some 116, .call (.func 71) [.tmp 114, .tmp 115], some (113, true)⟩ <|
                .st ⟨some 117, .pick (.tmp 113) (.tmp 116) (.const (.bool false)), none⟩ <|
                .done)) <|
              .cond (.tmp 117) (.ops (
                  .st ⟨some 118, .mv (.tmp 4), none⟩ <|
                  .st ⟨some 119, .nilc (.tmp 118), none⟩ <|
                  .st ⟨some 120, .fa 3 (.tmp 119), none⟩ <|
                  .st ⟨some 121, .ld none (.tmp 120), none⟩ <|
                  .st ⟨some 122, .ld (some 2) (.tmp 12), none⟩ <|
                  .st ⟨some 123, .mpe 29 (.bool false) (.tmp 121) (.tmp 122), none⟩ <|
                  .st ⟨some 124, .ext (.tmp 123) 1, none⟩ <|
                  .st ⟨none, .ens (.tmp 121) (.tmp 124) (.const (.bool true)), none⟩ <|
                  .st ⟨some 10, .mv (.const (.bool true)), none⟩ <|
                  .done)) (.skip))) <|
            .ops (
              .st ⟨some 125, .bini .add (.tmp 102) (.const (.int .i64 1)), none⟩ <|
              .st ⟨some 102, .mv (.tmp 125), none⟩ <|
              .done))))))) <|
  .seq (.ops (
    .st ⟨some 13, .mv (.const (.slice none 0 0)), none⟩ <|
    .done)) <|
  .seq (.seq (.ops (
    .st ⟨some 126, .mv (.tmp 4), none⟩ <|
    .st ⟨some 127, .nilc (.tmp 126), none⟩ <|
    .st ⟨some 128, .fa 2 (.tmp 127), none⟩ <|
    .st ⟨some 129, .ld none (.tmp 128), none⟩ <|
    .st ⟨some 130, .ln (.tmp 129), none⟩ <|
    .st ⟨some 131, .mv (.const (.int .i64 0)), none⟩ <|
    .done)) <|
  .block 8 (.loop (.seq (.ops (
        .st ⟨some 132, .bini .lss (.tmp 131) (.tmp 130), none⟩ <|
        .done)) <|
      .seq (.cond (.tmp 132) (.skip) (.exit 8)) <|
      .seq (.block 9 (.seq (.ops (
          .st ⟨some 133, .ia 2 (.tmp 129) (.tmp 131), none⟩ <|
          .st ⟨some 134, .ld (some 2) (.tmp 133), none⟩ <|
          .st ⟨some 15, .new 29 #[.int .i64 0, .int .i64 0], none⟩ <|
          .st ⟨none, .st 2 (.tmp 15) (.tmp 134), none⟩ <|
          .done)) <|
        .seq (.ops (
          .st ⟨some 135, .mv (.tmp 4), none⟩ <|
          .st ⟨some 136, .nilc (.tmp 135), none⟩ <|
          .st ⟨some 137, .fa 3 (.tmp 136), none⟩ <|
          .st ⟨some 138, .ld none (.tmp 137), none⟩ <|
          .st ⟨some 139, .ld (some 2) (.tmp 15), none⟩ <|
          .st ⟨some 140, .lkp false 29 (.bool false) (.tmp 138) (.tmp 139), none⟩ <|
          .st ⟨some 141, .un .not (.tmp 140), none⟩ <|
          .done)) <|
        .cond (.tmp 141) (.ops (
            .st ⟨some 142, .mv (.tmp 13), none⟩ <|
            .st ⟨some 143, .ld (some 2) (.tmp 15), none⟩ <|
            .st ⟨some 144, .bsl 29 [.c (.tmp 143) 0 2, .c (.tmp 143) 1 2] 1, none⟩ <|
            .st ⟨some 145, .ap 29 2 16 #[.int .i64 0, .int .i64 0] (.tmp 142) (.tmp 144), none⟩ <|
            .st ⟨some 13, .mv (.tmp 145), none⟩ <|
            .done)) (.skip))) <|
      .ops (
        .st ⟨some 146, .bini .add (.tmp 131) (.const (.int .i64 1)), none⟩ <|
        .st ⟨some 131, .mv (.tmp 146), none⟩ <|
        .done)))) <|
  .seq (.ops (
    .st ⟨some 147, .mv (.tmp 13), none⟩ <|
    .st ⟨some 2, .mv (.tmp 147), none⟩ <|
    .st ⟨some 3, .mv (.const (.int .i64 0)), none⟩ <|
    .done)) <|
  .ret
theorem b35 : bodyOf Try.prog 35 = some (148, [.t 2, .t 3], c35) := by kernel_rfl
theorem k35 : callOk Try.prog 35 = true := by kernel_rfl

/-- leapfrog/lock.order -/
def c69 : CC :=
  .seq (.ops (
    .st ⟨some 2, .box 29 (.tmp 0), none⟩ <|
    .st ⟨some 3, .box 29 (.tmp 1), none⟩ <|
    .st ⟨some 4, .mv (.const (.int .i64 0)), none⟩ <|
    .done)) <|
  .seq (.ops (
    .st ⟨some 5, .fa 0 (.tmp 2), none⟩ <|
    .st ⟨some 6, .ld none (.tmp 5), none⟩ <|
    .st ⟨some 7, .fa 0 (.tmp 3), none⟩ <|
    .st ⟨some 8, .ld none (.tmp 7), none⟩ <|
    .st ⟨some 10, .fa 1 (.tmp 2), none⟩ <|
    .st ⟨some 11, .ld none (.tmp 10), none⟩ <|
    .st ⟨some 12, .fa 1 (.tmp 3), none⟩ <|
    .st ⟨some 13, .ld none (.tmp 12), none⟩ <|
    .st ⟨some 9, .call (.func 89) [.tmp 6, .tmp 8], none⟩ <|
    .ag ⟨some 11, .ld none (.tmp 10), none⟩ <|
    .ag ⟨some 13, .ld none (.tmp 12), none⟩ <|
    .st ⟨some 14, .call (.func 89) [.tmp 11, .tmp 13], none⟩ <|
    .st ⟨some 15, .bsl 3 [.c (.tmp 9) 0 1, .c (.tmp 14) 0 1] 2, none⟩ <|
    .st ⟨some 16, .call (.func 88) [.tmp 15], none⟩ <|
    .st ⟨some 4, .mv (.tmp 16), none⟩ <|
    .done)) <|
  .ret
theorem b69 : bodyOf Try.prog 69 = some (17, [.t 4], c69) := by kernel_rfl
theorem k69 : callOk Try.prog 69 = true := by kernel_rfl

/-- (*leapfrog/lock.book).ready -/
def c71 : CC :=
  .seq (.ops (
    .st ⟨some 3, .box 29 (.tmp 1), none⟩ <|
    .st ⟨some 4, .mv (.const (.bool false)), none⟩ <|
    .done)) <|
  .seq (.seq (.ops (
    .st ⟨some 8, .mv (.tmp 0), none⟩ <|
    .st ⟨some 9, .nilc (.tmp 8), none⟩ <|
    .st ⟨some 10, .fa 1 (.tmp 9), none⟩ <|
    .st ⟨some 11, .ld none (.tmp 10), none⟩ <|
    .st ⟨some 12, .rng (.tmp 11), none⟩ <|
    .done)) <|
  .block 0 (.loop (.seq (.ops (
        .st ⟨some 13, .nxt (.tmp 12), none⟩ <|
        .st ⟨some 14, .ext (.tmp 13) 0, none⟩ <|
        .done)) <|
      .seq (.cond (.tmp 14) (.skip) (.exit 0)) <|
      .block 1 (.seq (.ops (
          .st ⟨some 15, .ent (.tmp 12), none⟩ <|
          .st ⟨some 16, .ext (.tmp 15) 0, none⟩ <|
          .st ⟨some 5, .new 125 #[.int .i64 0, .int .i64 0, .int .i64 0], none⟩ <|
          .st ⟨none, .st 3 (.tmp 5) (.tmp 16), none⟩ <|
          .done)) <|
        .seq (.seq (.ops (
          .st ⟨some 17, .fa 0 (.tmp 5), none⟩ <|
          .st ⟨some 18, .ld (some 2) (.tmp 17), none⟩ <|
          .st ⟨some 19, .ld (some 2) (.tmp 3), none⟩ <|
          .st ⟨some 20, .eqs true [.i, .i] (.tmp 18) (.tmp 19), none⟩ <|
          .done)) <|
        .cond (.tmp 20) (.exit 1) (.skip)) <|
        .seq (.ops (
          .st ⟨some 21, .mv (.tmp 0), none⟩ <|
          .st ⟨some 22, .nilc (.tmp 21), none⟩ <|
          .st ⟨some 23, .fa 0 (.tmp 22), none⟩ <|
          .st ⟨some 24, .ld none (.tmp 23), none⟩ <|
          .st ⟨some 25, .fa 2 (.tmp 5), none⟩ <|
          .st ⟨some 26, .ld none (.tmp 25), none⟩ <|
          .st ⟨some 27, .lkp false 3 (.slice none 0 0) (.tmp 24) (.tmp 26), none⟩ <|
          .st ⟨some 28, .ln (.tmp 27), none⟩ <|
          .st ⟨some 29, .mv (.const (.int .i64 0)), none⟩ <|
          .done)) <|
        .block 2 (.loop (.seq (.ops (
              .st ⟨some 30, .bini .lss (.tmp 29) (.tmp 28), none⟩ <|
              .done)) <|
            .seq (.cond (.tmp 30) (.skip) (.exit 2)) <|
            .seq (.block 3 (.seq (.ops (
                .st ⟨some 31, .ia 2 (.tmp 27) (.tmp 29), none⟩ <|
                .st ⟨some 32, .ld (some 2) (.tmp 31), none⟩ <|
                .st ⟨some 7, .new 29 #[.int .i64 0, .int .i64 0], none⟩ <|
                .st ⟨none, .st 2 (.tmp 7) (.tmp 32), none⟩ <|
                .done)) <|
              .seq (.ops (
                .st ⟨some 33, .ld (some 2) (.tmp 7), none⟩ <|
                .st ⟨some 34, .ld (some 2) (.tmp 3), none⟩ <|
                .st ⟨some 35, .eqs true [.i, .i] (.tmp 33) (.tmp 34), none⟩ <|
                .st ⟨some 36, .mv (.tmp 35), none⟩ <|
                .st ⟨some 37, .mv (.tmp 0), some (36, true)⟩ <|
                .st ⟨some 38, .nilc (.tmp 37), some (36, true)⟩ <|
                .st ⟨some 39, .fa 3 (.tmp 38), some (36, true)⟩ <|
                .st ⟨some 40, .ld none (.tmp 39), some (36, true)⟩ <|
                .st ⟨some 41, .ld (some 2) (.tmp 7), some (36, true)⟩ <|
                .st ⟨some 42, .lkp false 29 (.bool false) (.tmp 40) (.tmp 41), some (36, true)⟩ <|
                .st ⟨some 43, .un .not (.tmp 42), some (36, true)⟩ <|
                .st ⟨some 44, .pick (.tmp 36) (.tmp 43) (.const (.bool false)), none⟩ <|
                .done)) <|
              .cond (.tmp 44) (.seq (.ops (
                  .st ⟨some 4, .mv (.const (.bool false)), none⟩ <|
                  .done)) <|
                .ret) (.skip))) <|
            .ops (
              .st ⟨some 45, .bini .add (.tmp 29) (.const (.int .i64 1)), none⟩ <|
              .st ⟨some 29, .mv (.tmp 45), none⟩ <|
              .done))))))) <|
  .seq (.ops (
    .st ⟨some 4, .mv (.const (.bool true)), none⟩ <|
    .done)) <|
  .ret
theorem b71 : bodyOf Try.prog 71 = some (46, [.t 4], c71) := by kernel_rfl
theorem k71 : callOk Try.prog 71 = true := by kernel_rfl

/-- slices.Compact[[]leapfrog/api.Owner,leapfrog/api.Owner] -/
def c70 : CC :=
  .seq (.ops (
    .st ⟨some 2, .mv (.const (.slice none 0 0)), none⟩ <|
    .done)) <|
  .seq (.seq (.ops (
    .st ⟨some 6, .mv (.tmp 0), none⟩ <|
    .st ⟨some 7, .ln (.tmp 6), none⟩ <|
    .st ⟨some 8, .bini .lss (.tmp 7) (.const (.int .i64 2)), none⟩ <|
    .done)) <|
  .cond (.tmp 8) (.seq (.ops (
      .st ⟨some 9, .mv (.tmp 0), none⟩ <|
      .st ⟨some 2, .mv (.tmp 9), none⟩ <|
      .done)) <|
    .ret) (.skip)) <|
  .seq (.seq (.ops (
    .st ⟨some 3, .mv (.const (.int .i64 1)), none⟩ <|
    .done)) <|
  .block 0 (.loop (.seq (.seq (.ops (
        .st ⟨some 10, .mv (.tmp 3), none⟩ <|
        .st ⟨some 11, .mv (.tmp 0), none⟩ <|
        .st ⟨some 12, .ln (.tmp 11), none⟩ <|
        .st ⟨some 13, .bini .lss (.tmp 10) (.tmp 12), none⟩ <|
        .done)) <|
      .cond (.tmp 13) (.skip) (.exit 0)) <|
      .seq (.block 1 (.seq (.ops (
          .st ⟨some 16, .mv (.tmp 0), none⟩ <|
          .st ⟨some 17, .mv (.tmp 3), none⟩ <|
          .st ⟨some 18, .ia 2 (.tmp 16) (.tmp 17), none⟩ <|
          .st ⟨some 19, .ld (some 2) (.tmp 18), none⟩ <|
          .st ⟨some 20, .mv (.tmp 0), none⟩ <|
          .st ⟨some 21, .mv (.tmp 3), none⟩ <|
          .st ⟨some 22, .bini .sub (.tmp 21) (.const (.int .i64 1)), none⟩ <|
          .st ⟨some 23, .ia 2 (.tmp 20) (.tmp 22), none⟩ <|
          .st ⟨some 24, .ld (some 2) (.tmp 23), none⟩ <|
          .st ⟨some 25, .eqs false [.i, .i] (.tmp 19) (.tmp 24), none⟩ <|
          .done)) <|
        .cond (.tmp 25) (.seq (.ops (
            .st ⟨some 26, .mv (.tmp 0), none⟩ <|
            .st ⟨some 27, .mv (.tmp 3), none⟩ <|
            .st ⟨some 28, .sl 2 (.tmp 26) (some (.tmp 27)) none none, none⟩ <|
            .st ⟨some 4, .mv (.tmp 28), none⟩ <|
            .done)) <|
          .seq (.seq (.ops (
            .st ⟨some 5, .mv (.const (.int .i64 1)), none⟩ <|
            .done)) <|
          .block 2 (.loop (.seq (.seq (.ops (
                .st ⟨some 29, .mv (.tmp 5), none⟩ <|
                .st ⟨some 30, .mv (.tmp 4), none⟩ <|
                .st ⟨some 31, .ln (.tmp 30), none⟩ <|
                .st ⟨some 32, .bini .lss (.tmp 29) (.tmp 31), none⟩ <|
                .done)) <|
              .cond (.tmp 32) (.skip) (.exit 2)) <|
              .seq (.block 3 (.seq (.ops (
                  .st ⟨some 35, .mv (.tmp 4), none⟩ <|
                  .st ⟨some 36, .mv (.tmp 5), none⟩ <|
                  .st ⟨some 37, .ia 2 (.tmp 35) (.tmp 36), none⟩ <|
                  .st ⟨some 38, .ld (some 2) (.tmp 37), none⟩ <|
                  .st ⟨some 39, .mv (.tmp 4), none⟩ <|
                  .st ⟨some 40, .mv (.tmp 5), none⟩ <|
                  .st ⟨some 41, .bini .sub (.tmp 40) (.const (.int .i64 1)), none⟩ <|
                  .st ⟨some 42, .ia 2 (.tmp 39) (.tmp 41), none⟩ <|
                  .st ⟨some 43, .ld (some 2) (.tmp 42), none⟩ <|
                  .st ⟨some 44, .eqs true [.i, .i] (.tmp 38) (.tmp 43), none⟩ <|
                  .done)) <|
                .cond (.tmp 44) (.seq (.ops (
                    .st ⟨some 45, .mv (.tmp 0), none⟩ <|
                    .st ⟨some 46, .mv (.tmp 3), none⟩ <|
                    .st ⟨some 47, .mv (.tmp 4), none⟩ <|
                    .st ⟨some 48, .mv (.tmp 5), none⟩ <|
                    .st ⟨some 49, .ia 2 (.tmp 47) (.tmp 48), none⟩ <|
                    .st ⟨some 50, .ld (some 2) (.tmp 49), none⟩ <|
                    .st ⟨some 51, .ia 2 (.tmp 45) (.tmp 46), none⟩ <|
                    .st ⟨none, .st 2 (.tmp 51) (.tmp 50), none⟩ <|
                    .done)) <|
                  .ops (
                    .st ⟨some 52, .mv (.tmp 3), none⟩ <|
                    .st ⟨some 53, .bini .add (.tmp 52) (.const (.int .i64 1)), none⟩ <|
                    .st ⟨some 3, .mv (.tmp 53), none⟩ <|
                    .done)) (.skip))) <|
              .ops (
                .st ⟨some 33, .mv (.tmp 5), none⟩ <|
                .st ⟨some 34, .bini .add (.tmp 33) (.const (.int .i64 1)), none⟩ <|
                .st ⟨some 5, .mv (.tmp 34), none⟩ <|
                .done)))) <|
          .seq (.ops (
            .st ⟨some 54, .mv (.tmp 0), none⟩ <|
            .st ⟨some 55, .mv (.tmp 3), none⟩ <|
            .st ⟨some 56, .sl 2 (.tmp 54) (some (.tmp 55)) none none, none⟩ <|
            .st ⟨none, .clr #[.int .i64 0, .int .i64 0] (.tmp 56), none⟩ <|
            .done)) <|
          .seq (.ops (
            .st ⟨some 57, .mv (.tmp 0), none⟩ <|
            .st ⟨some 58, .mv (.tmp 3), none⟩ <|
            .st ⟨some 59, .sl 2 (.tmp 57) none (some (.tmp 58)) none, none⟩ <|
            .st ⟨some 2, .mv (.tmp 59), none⟩ <|
            .done)) <|
          .ret) (.skip))) <|
      .ops (
        .st ⟨some 14, .mv (.tmp 3), none⟩ <|
        .st ⟨some 15, .bini .add (.tmp 14) (.const (.int .i64 1)), none⟩ <|
        .st ⟨some 3, .mv (.tmp 15), none⟩ <|
        .done)))) <|
  .seq (.ops (
    .st ⟨some 60, .mv (.tmp 0), none⟩ <|
    .st ⟨some 2, .mv (.tmp 60), none⟩ <|
    .done)) <|
  .ret
theorem b70 : bodyOf Try.prog 70 = some (61, [.t 2], c70) := by kernel_rfl
theorem k70 : callOk Try.prog 70 = true := by kernel_rfl

/-- leapfrog/leapfrogref07.Stuck -/
def c36 : CC :=
  .seq (.ops (
    .st ⟨some 2, .mv (.const (.slice none 0 0)), none⟩ <|
    .st ⟨some 3, .mv (.const (.int .i64 0)), none⟩ <|
    .done)) <|
  .seq (.seq (.ops (
    .st ⟨some 12, .mv (.tmp 0), none⟩ <|
    .st ⟨some 13, .ln (.tmp 12), none⟩ <|
    .st ⟨some 14, .bini .gtr (.tmp 13) (.const (.int .i64 4096)), none⟩ <|
    .done)) <|
  .cond (.tmp 14) (.seq (.seq (.ops (
      .st ⟨some 4, .mv (.const (.int .i64 0)), none⟩ <|
      .done)) <|
    .block 0 (.loop (.seq (.seq (.ops (
          .st ⟨some 15, .mv (.tmp 4), none⟩ <|
          .st ⟨some 16, .mv (.tmp 0), none⟩ <|
          .st ⟨some 17, .ln (.tmp 16), none⟩ <|
          .st ⟨some 18, .bini .lss (.tmp 15) (.tmp 17), none⟩ <|
          .done)) <|
        .cond (.tmp 18) (.skip) (.exit 0)) <|
        .seq (.block 1 (.seq (.ops (
            .st ⟨some 21, .mv (.tmp 0), none⟩ <|
            .st ⟨some 22, .mv (.tmp 4), none⟩ <|
            .st ⟨some 23, .ia 4 (.tmp 21) (.tmp 22), none⟩ <|
            .st ⟨some 24, .fa 0 (.tmp 23), none⟩ <|
            .st ⟨some 25, .ld (some 2) (.tmp 24), none⟩ <|
            .st ⟨some 26, .call (.func 24) [.tmp 25], none⟩ <|
            .st ⟨some 27, .un .not (.tmp 26), none⟩ <|
            .done)) <|
          .cond (.tmp 27) (.seq (.ops (
              .st ⟨some 2, .mv (.const (.slice none 0 0)), none⟩ <|
              .st ⟨some 3, .mv (.const (.int .i64 70)), none⟩ <|
              .done)) <|
            .ret) (.skip))) <|
        .ops (
          .st ⟨some 19, .mv (.tmp 4), none⟩ <|
          .st ⟨some 20, .bini .add (.tmp 19) (.const (.int .i64 1)), none⟩ <|
          .st ⟨some 4, .mv (.tmp 20), none⟩ <|
          .done)))) <|
    .seq (.ops (
      .st ⟨some 2, .mv (.const (.slice none 0 0)), none⟩ <|
      .st ⟨some 3, .mv (.const (.int .i64 3)), none⟩ <|
      .done)) <|
    .ret) (.skip)) <|
  .seq (.ops (
    .st ⟨some 5, .mv (.const (.slice none 0 0)), none⟩ <|
    .st ⟨some 6, .mv (.const (.slice none 0 0)), none⟩ <|
    .done)) <|
  .seq (.seq (.ops (
    .st ⟨some 7, .mv (.const (.int .i64 0)), none⟩ <|
    .done)) <|
  .block 2 (.loop (.seq (.seq (.ops (
        .st ⟨some 28, .mv (.tmp 7), none⟩ <|
        .st ⟨some 29, .mv (.tmp 0), none⟩ <|
        .st ⟨some 30, .ln (.tmp 29), none⟩ <|
        .st ⟨some 31, .bini .lss (.tmp 28) (.tmp 30), none⟩ <|
        .done)) <|
      .cond (.tmp 31) (.skip) (.exit 2)) <|
      .seq (.block 3 (.seq (.seq (.ops (
          .st ⟨some 34, .mv (.tmp 0), none⟩ <|
          .st ⟨some 35, .mv (.tmp 7), none⟩ <|
          .st ⟨some 36, .ia 4 (.tmp 34) (.tmp 35), none⟩ <|
          .st ⟨some 37, .fa 0 (.tmp 36), none⟩ <|
          .st ⟨some 38, .ld (some 2) (.tmp 37), none⟩ <|
          .st ⟨some 39, .call (.func 24) [.tmp 38], none⟩ <|
          .st ⟨some 40, .un .not (.tmp 39), none⟩ <|
          .done)) <|
        .cond (.tmp 40) (.seq (.ops (
            .st ⟨some 2, .mv (.const (.slice none 0 0)), none⟩ <|
            .st ⟨some 3, .mv (.const (.int .i64 70)), none⟩ <|
            .done)) <|
          .ret) (.skip)) <|
        .ops (
          .st ⟨some 41, .mv (.tmp 5), none⟩ <|
          .st ⟨some 42, .mv (.tmp 0), none⟩ <|
          .st ⟨some 43, .mv (.tmp 7), none⟩ <|
          .st ⟨some 44, .ia 4 (.tmp 42) (.tmp 43), none⟩ <|
          .st ⟨some 45, .fa 0 (.tmp 44), none⟩ <|
          .st ⟨some 46, .ld (some 2) (.tmp 45), none⟩ <|
          .st ⟨some 47, .call (.func 72) [.tmp 41, .tmp 46], none⟩ <|
          .st ⟨some 5, .mv (.tmp 47), none⟩ <|
          .done))) <|
      .ops (
        .st ⟨some 32, .mv (.tmp 7), none⟩ <|
        .st ⟨some 33, .bini .add (.tmp 32) (.const (.int .i64 1)), none⟩ <|
        .st ⟨some 7, .mv (.tmp 33), none⟩ <|
        .done)))) <|
  .seq (.seq (.ops (
    .st ⟨some 8, .mv (.const (.int .i64 0)), none⟩ <|
    .done)) <|
  .block 4 (.loop (.seq (.seq (.ops (
        .st ⟨some 48, .mv (.tmp 8), none⟩ <|
        .st ⟨some 49, .mv (.tmp 5), none⟩ <|
        .st ⟨some 50, .ln (.tmp 49), none⟩ <|
        .st ⟨some 51, .bini .leq (.tmp 48) (.tmp 50), none⟩ <|
        .done)) <|
      .cond (.tmp 51) (.skip) (.exit 4)) <|
      .seq (.block 5 (.seq (.ops (
          .st ⟨some 9, .mv (.const (.int .i64 0)), none⟩ <|
          .done)) <|
        .block 6 (.loop (.seq (.seq (.ops (
              .st ⟨some 54, .mv (.tmp 9), none⟩ <|
              .st ⟨some 55, .mv (.tmp 5), none⟩ <|
              .st ⟨some 56, .ln (.tmp 55), none⟩ <|
              .st ⟨some 57, .bini .lss (.tmp 54) (.tmp 56), none⟩ <|
              .done)) <|
            .cond (.tmp 57) (.skip) (.exit 6)) <|
            .seq (.block 7 (.seq (.ops (
                .st ⟨some 60, .mv (.tmp 6), none⟩ <|
                .st ⟨some 61, .mv (.tmp 5), none⟩ <|
                .st ⟨some 62, .mv (.tmp 9), none⟩ <|
                .st ⟨some 63, .ia 2 (.tmp 61) (.tmp 62), none⟩ <|
                .st ⟨some 64, .ld (some 2) (.tmp 63), none⟩ <|
                .st ⟨some 65, .call (.func 73) [.tmp 60, .tmp 64], none⟩ <|
                .st ⟨some 66, .un .not (.tmp 65), none⟩ <|
                .st ⟨some 67, .mv (.tmp 66), none⟩ <|
                .st ⟨some 68, .mv (.tmp 0), some (67, true)⟩ <|
                .st ⟨some 69, .mv (.tmp 5), some (67, true)⟩ <|
                .st ⟨some 70, .mv (.tmp 9), some (67, true)⟩ <|
                .st ⟨some 71, .ia 2 (.tmp 69) (.tmp 70), some (67, true)⟩ <|
                .st ⟨some 72, .ld (some 2) (.tmp 71), some (67, true)⟩ <|
                .st ⟨some 73, .mv (.tmp 6), some (67, true)⟩ <|
                .st ⟨some 74, .call (.func 74) [.tmp 68, .tmp 72, .tmp 73], some (67, true)⟩ <|
                .st ⟨some 75, .pick (.tmp 67) (.tmp 74) (.const (.bool false)), none⟩ <|
                .done)) <|
              .cond (.tmp 75) (.ops (
                  .st ⟨some 76, .mv (.tmp 6), none⟩ <|
                  .st ⟨some 77, .mv (.tmp 5), none⟩ <|
                  .st ⟨some 78, .mv (.tmp 9), none⟩ <|
                  .st ⟨some 79, .ia 2 (.tmp 77) (.tmp 78), none⟩ <|
                  .st ⟨some 80, .ld (some 2) (.tmp 79), none⟩ <|
                  .st ⟨some 81, .bsl 29 [.c (.tmp 80) 0 2, .c (.tmp 80) 1 2] 1, none⟩ <|
                  .st ⟨some 82, .ap 29 2 16 #[.int .i64 0, .int .i64 0] (.tmp 76) (.tmp 81), none⟩ <|
                  .st ⟨some 6, .mv (.tmp 82), none⟩ <|
                  .done)) (.skip))) <|
            .ops (
              .st ⟨some 58, .mv (.tmp 9), none⟩ <|
              .st ⟨some 59, .bini .add (.tmp 58) (.const (.int .i64 1)), none⟩ <|
              .st ⟨some 9, .mv (.tmp 59), none⟩ <|
              .done))))) <|
      .ops (
        .st ⟨some 52, .mv (.tmp 8), none⟩ <|
        .st ⟨some 53, .bini .add (.tmp 52) (.const (.int .i64 1)), none⟩ <|
        .st ⟨some 8, .mv (.tmp 53), none⟩ <|
        .done)))) <|
  .seq (.ops (
    .st ⟨some 10, .mv (.const (.slice none 0 0)), none⟩ <|
    .done)) <|
  .seq (.seq (.ops (
    .st ⟨some 11, .mv (.const (.int .i64 0)), none⟩ <|
    .done)) <|
  .block 8 (.loop (.seq (.seq (.ops (
        .st ⟨some 83, .mv (.tmp 11), none⟩ <|
        .st ⟨some 84, .mv (.tmp 5), none⟩ <|
        .st ⟨some 85, .ln (.tmp 84), none⟩ <|
        .st ⟨some 86, .bini .lss (.tmp 83) (.tmp 85), none⟩ <|
        .done)) <|
      .cond (.tmp 86) (.skip) (.exit 8)) <|
      .seq (.block 9 (.seq (.ops (
          .st ⟨some 89, .mv (.tmp 6), none⟩ <|
          .st ⟨some 90, .mv (.tmp 5), none⟩ <|
          .st ⟨some 91, .mv (.tmp 11), none⟩ <|
          .st ⟨some 92, .ia 2 (.tmp 90) (.tmp 91), none⟩ <|
          .st ⟨some 93, .ld (some 2) (.tmp 92), none⟩ <|
          .st ⟨some 94, .call (.func 73) [.tmp 89, .tmp 93], none⟩ <|
          .st ⟨some 95, .un .not (.tmp 94), none⟩ <|
          .done)) <|
        .cond (.tmp 95) (.ops (
            .st ⟨some 96, .mv (.tmp 10), none⟩ <|
            .st ⟨some 97, .mv (.tmp 5), none⟩ <|
            .st ⟨some 98, .mv (.tmp 11), none⟩ <|
            .st ⟨some 99, .ia 2 (.tmp 97) (.tmp 98), none⟩ <|
            .st ⟨some 100, .ld (some 2) (.tmp 99), none⟩ <|
            .st ⟨some 101, .bsl 29 [.c (.tmp 100) 0 2, .c (.tmp 100) 1 2] 1, none⟩ <|
            .st ⟨some 102, .ap 29 2 16 #[.int .i64 0, .int .i64 0] (.tmp 96) (.tmp 101), none⟩ <|
            .st ⟨some 10, .mv (.tmp 102), none⟩ <|
            .done)) (.skip))) <|
      .ops (
        .st ⟨some 87, .mv (.tmp 11), none⟩ <|
        .st ⟨some 88, .bini .add (.tmp 87) (.const (.int .i64 1)), none⟩ <|
        .st ⟨some 11, .mv (.tmp 88), none⟩ <|
        .done)))) <|
  .seq (.ops (
    .st ⟨some 103, .mv (.tmp 10), none⟩ <|
    .st ⟨some 2, .mv (.tmp 103), none⟩ <|
    .st ⟨some 3, .mv (.const (.int .i64 0)), none⟩ <|
    .done)) <|
  .ret
theorem b36 : bodyOf Try.prog 36 = some (104, [.t 2, .t 3], c36) := by kernel_rfl
theorem k36 : callOk Try.prog 36 = true := by kernel_rfl

/-- leapfrog/leapfrogref07.put -/
def c72 : CC :=
  .seq (.ops (
    .st ⟨some 3, .box 29 (.tmp 1), none⟩ <|
    .st ⟨some 4, .mv (.const (.slice none 0 0)), none⟩ <|
    .done)) <|
  .seq (.ops (
    .st ⟨some 5, .mv (.const (.int .i64 0)), none⟩ <|
    .done)) <|
  .seq (.block 0 (.loop (.seq (.seq (.ops (
        .st ⟨some 6, .mv (.tmp 5), none⟩ <|
        .st ⟨some 7, .mv (.tmp 0), none⟩ <|
        .st ⟨some 8, .ln (.tmp 7), none⟩ <|
        .st ⟨some 9, .bini .lss (.tmp 6) (.tmp 8), none⟩ <|
        .st ⟨some 10, .mv (.tmp 9), none⟩ <|
        .st ⟨some 11, .mv (.tmp 0), some (10, true)⟩ <|
        .st ⟨some 12, .mv (.tmp 5), some (10, true)⟩ <|
        .st ⟨some 13, .ia 2 (.tmp 11) (.tmp 12), some (10, true)⟩ <|
        .st ⟨some 14, .ld (some 2) (.tmp 13), some (10, true)⟩ <|
        .st ⟨some 15, .ld (some 2) (.tmp 3), some (10, true)⟩ <|
        .st ⟨some 16, .call (.func 90) [.tmp 14, .tmp 15], some (10, true)⟩ <|
        .st ⟨some 17, .pick (.tmp 10) (.tmp 16) (.const (.bool false)), none⟩ <|
        .done)) <|
      .cond (.tmp 17) (.skip) (.exit 0)) <|
      .block 1 (.ops (
          .st ⟨some 18, .mv (.tmp 5), none⟩ <|
          .st ⟨some 19, .bini .add (.tmp 18) (.const (.int .i64 1)), none⟩ <|
          .st ⟨some 5, .mv (.tmp 19), none⟩ <|
          .done))))) <|
  .seq (.seq (.ops (
    .st ⟨some 20, .mv (.tmp 5), none⟩ <|
    .st ⟨some 21, .mv (.tmp 0), none⟩ <|
    .st ⟨some 22, .ln (.tmp 21), none⟩ <|
    .st ⟨some 23, .bini .lss (.tmp 20) (.tmp 22), none⟩ <|
    .st ⟨some 24, .mv (.tmp 23), none⟩ <|
    .st ⟨some 25, .mv (.tmp 0), some (24, true)⟩ <|
    .st ⟨some 26, .mv (.tmp 5), some (24, true)⟩ <|
    .st ⟨some 27, .ia 2 (.tmp 25) (.tmp 26), some (24, true)⟩ <|
    .st ⟨some 28, .ld (some 2) (.tmp 27), some (24, true)⟩ <|
    .st ⟨some 29, .ld (some 2) (.tmp 3), some (24, true)⟩ <|
    .st ⟨some 30, .eqs false [.i, .i] (.tmp 28) (.tmp 29), some (24, true)⟩ <|
    .st ⟨some 31, .pick (.tmp 24) (.tmp 30) (.const (.bool false)), none⟩ <|
    .done)) <|
  .cond (.tmp 31) (.seq (.ops (
      .st ⟨some 32, .mv (.tmp 0), none⟩ <|
      .st ⟨some 4, .mv (.tmp 32), none⟩ <|
      .done)) <|
    .ret) (.skip)) <|
  .seq (.ops (
    .st ⟨some 34, .mv (.tmp 0), none⟩ <|
    .st ⟨some 35, .mv (.tmp 5), none⟩ <|
    .st ⟨some 36, .sl 2 (.tmp 34) none (some (.tmp 35)) none, none⟩ <|
    .st ⟨some 38, .ld (some 2) (.tmp 3), none⟩ <|
    .st ⟨some 41, .mv (.tmp 0), none⟩ <|
    .st ⟨some 42, .mv (.tmp 5), none⟩ <|
    .st ⟨some 43, .sl 2 (.tmp 41) (some (.tmp 42)) none none, none⟩ <|
    .both (
      .st ⟨some 33, .bsl 29 [] 0, none⟩ <|
      .both (
        .st ⟨some 37, .ap 29 2 16 #[.int .i64 0, .int .i64 0] (.tmp 33) (.tmp 36), none⟩ <|
        .ag ⟨some 38, .ld (some 2) (.tmp 3), none⟩ <|
        .st ⟨some 39, .bsl 29 [.c (.tmp 38) 0 2, .c (.tmp 38) 1 2] 1, none⟩ <|
        .st ⟨some 40, .ap 29 2 16 #[.int .i64 0, .int .i64 0] (.tmp 37) (.tmp 39), none⟩ <|
        .st ⟨some 44, .ap 29 2 16 #[.int .i64 0, .int .i64 0] (.tmp 40) (.tmp 43), none⟩ <|
        .st ⟨some 4, .mv (.tmp 44), none⟩ <|
        .done) (
        .st ⟨some 39, .bsl 29 [.c (.tmp 38) 0 2, .c (.tmp 38) 1 2] 1, none⟩ <|
        .st ⟨some 37, .ap 29 2 16 #[.int .i64 0, .int .i64 0] (.tmp 33) (.tmp 36), none⟩ <|
        .ag ⟨some 38, .ld (some 2) (.tmp 3), none⟩ <|
        .st ⟨some 40, .ap 29 2 16 #[.int .i64 0, .int .i64 0] (.tmp 37) (.tmp 39), none⟩ <|
        .st ⟨some 44, .ap 29 2 16 #[.int .i64 0, .int .i64 0] (.tmp 40) (.tmp 43), none⟩ <|
        .st ⟨some 4, .mv (.tmp 44), none⟩ <|
        .done)) (
      .st ⟨some 39, .bsl 29 [.c (.tmp 38) 0 2, .c (.tmp 38) 1 2] 1, none⟩ <|
      .st ⟨some 33, .bsl 29 [] 0, none⟩ <|
      .st ⟨some 37, .ap 29 2 16 #[.int .i64 0, .int .i64 0] (.tmp 33) (.tmp 36), none⟩ <|
      .ag ⟨some 38, .ld (some 2) (.tmp 3), none⟩ <|
      .st ⟨some 40, .ap 29 2 16 #[.int .i64 0, .int .i64 0] (.tmp 37) (.tmp 39), none⟩ <|
      .st ⟨some 44, .ap 29 2 16 #[.int .i64 0, .int .i64 0] (.tmp 40) (.tmp 43), none⟩ <|
      .st ⟨some 4, .mv (.tmp 44), none⟩ <|
      .done))) <|
  .ret
theorem b72 : bodyOf Try.prog 72 = some (45, [.t 4], c72) := by kernel_rfl
theorem k72 : callOk Try.prog 72 = true := by kernel_rfl

/-- leapfrog/leapfrogref07.has -/
def c73 : CC :=
  .seq (.ops (
    .st ⟨some 3, .box 29 (.tmp 1), none⟩ <|
    .st ⟨some 4, .mv (.const (.bool false)), none⟩ <|
    .done)) <|
  .seq (.seq (.ops (
    .st ⟨some 5, .mv (.const (.int .i64 0)), none⟩ <|
    .done)) <|
  .block 0 (.loop (.seq (.seq (.ops (
        .st ⟨some 6, .mv (.tmp 5), none⟩ <|
        .st ⟨some 7, .mv (.tmp 0), none⟩ <|
        .st ⟨some 8, .ln (.tmp 7), none⟩ <|
        .st ⟨some 9, .bini .lss (.tmp 6) (.tmp 8), none⟩ <|
        .done)) <|
      .cond (.tmp 9) (.skip) (.exit 0)) <|
      .seq (.block 1 (.seq (.ops (
          .st ⟨some 12, .mv (.tmp 0), none⟩ <|
          .st ⟨some 13, .mv (.tmp 5), none⟩ <|
          .st ⟨some 14, .ia 2 (.tmp 12) (.tmp 13), none⟩ <|
          .st ⟨some 15, .ld (some 2) (.tmp 14), none⟩ <|
          .st ⟨some 16, .ld (some 2) (.tmp 3), none⟩ <|
          .st ⟨some 17, .eqs false [.i, .i] (.tmp 15) (.tmp 16), none⟩ <|
          .done)) <|
        .cond (.tmp 17) (.seq (.ops (
            .st ⟨some 4, .mv (.const (.bool true)), none⟩ <|
            .done)) <|
          .ret) (.skip))) <|
      .ops (
        .st ⟨some 10, .mv (.tmp 5), none⟩ <|
        .st ⟨some 11, .bini .add (.tmp 10) (.const (.int .i64 1)), none⟩ <|
        .st ⟨some 5, .mv (.tmp 11), none⟩ <|
        .done)))) <|
  .seq (.ops (
    .st ⟨some 4, .mv (.const (.bool false)), none⟩ <|
    .done)) <|
  .ret
theorem b73 : bodyOf Try.prog 73 = some (18, [.t 4], c73) := by kernel_rfl
theorem k73 : callOk Try.prog 73 = true := by kernel_rfl

/-- leapfrog/leapfrogref07.free -/
def c74 : CC :=
  .seq (.ops (
    .st ⟨some 4, .box 29 (.tmp 1), none⟩ <|
    .st ⟨some 6, .mv (.const (.bool false)), none⟩ <|
    .done)) <|
  .seq (.seq (.ops (
    .st ⟨some 7, .mv (.const (.int .i64 0)), none⟩ <|
    .done)) <|
  .block 0 (.loop (.seq (.seq (.ops (
        .st ⟨some 9, .mv (.tmp 7), none⟩ <|
        .st ⟨some 10, .mv (.tmp 0), none⟩ <|
        .st ⟨some 11, .ln (.tmp 10), none⟩ <|
        .st ⟨some 12, .bini .lss (.tmp 9) (.tmp 11), none⟩ <|
        .done)) <|
      .cond (.tmp 12) (.skip) (.exit 0)) <|
      .seq (.block 1 (.seq (.seq (.ops (
          .st ⟨some 15, .mv (.tmp 0), none⟩ <|
          .st ⟨some 16, .mv (.tmp 7), none⟩ <|
          .st ⟨some 17, .ia 4 (.tmp 15) (.tmp 16), none⟩ <|
          .st ⟨some 18, .fa 0 (.tmp 17), none⟩ <|
          .st ⟨some 19, .ld (some 2) (.tmp 18), none⟩ <|
          .st ⟨some 20, .ld (some 2) (.tmp 4), none⟩ <|
          .st ⟨some 21, .eqs true [.i, .i] (.tmp 19) (.tmp 20), none⟩ <|
          .st ⟨some 22, .mv (.tmp 21), none⟩ <|
          .st ⟨some 23, .mv (.tmp 0), some (22, false)⟩ <|
          .st ⟨some 24, .mv (.tmp 7), some (22, false)⟩ <|
          .st ⟨some 25, .ia 4 (.tmp 23) (.tmp 24), some (22, false)⟩ <|
          .st ⟨some 26, .fa 3 (.tmp 25), some (22, false)⟩ <|
          .st ⟨some 27, .ld none (.tmp 26), some (22, false)⟩ <|
          .st ⟨some 28, .pick (.tmp 22) (.const (.bool true)) (.tmp 27), none⟩ <|
          .done)) <|
        .cond (.tmp 28) (.exit 1) (.skip)) <|
        .seq (.ops (
          .st ⟨some 8, .mv (.const (.int .i64 0)), none⟩ <|
          .done)) <|
        .block 2 (.loop (.seq (.seq (.ops (
              .st ⟨some 29, .mv (.tmp 8), none⟩ <|
              .st ⟨some 30, .mv (.tmp 0), none⟩ <|
              .st ⟨some 31, .ln (.tmp 30), none⟩ <|
              .st ⟨some 32, .bini .lss (.tmp 29) (.tmp 31), none⟩ <|
              .done)) <|
            .cond (.tmp 32) (.skip) (.exit 2)) <|
            .seq (.block 3 (.seq (.ops (
                .st ⟨some 35, .mv (.tmp 0), none⟩ <|
                .st ⟨some 36, .mv (.tmp 8), none⟩ <|
                .st ⟨some 37, .ia 4 (.tmp 35) (.tmp 36), none⟩ <|
                .st ⟨some 38, .fa 3 (.tmp 37), none⟩ <|
                .st ⟨some 39, .ld none (.tmp 38), none⟩ <|
                .st ⟨some 40, .mv (.tmp 39), none⟩ <|
                .st ⟨some 41, .mv (.tmp 0), some (40, true)⟩ <|
                .st ⟨some 42, .mv (.tmp 8), some (40, true)⟩ <|
                .st ⟨some 43, .ia 4 (.tmp 41) (.tmp 42), some (40, true)⟩ <|
                .st ⟨some 44, .fa 2 (.tmp 43), some (40, true)⟩ <|
                .st ⟨some 45, .ld none (.tmp 44), some (40, true)⟩ <|
                .st ⟨some 46, .mv (.tmp 0), some (40, true)⟩ <|
                .st ⟨some 47, .mv (.tmp 7), some (40, true)⟩ <|
                .st ⟨some 48, .ia 4 (.tmp 46) (.tmp 47), some (40, true)⟩ <|
                .st ⟨some 49, .fa 2 (.tmp 48), some (40, true)⟩ <|
                .st ⟨some 50, .ld none (.tmp 49), some (40, true)⟩ <|
                .st ⟨some 51, .bini .eql (.tmp 45) (.tmp 50), some (40, true)⟩ <|
                .st ⟨some 52, .pick (.tmp 40) (.tmp 51) (.const (.bool false)), none⟩ <|
                .st ⟨some 53, .mv (.tmp 52), none⟩ <|
                .st ⟨some 54, .mv (.tmp 0), some (53, true)⟩ <|
                .st ⟨some 55, .mv (.tmp 8), some (53, true)⟩ <|
                .st ⟨some 56, .ia 4 (.tmp 54) (.tmp 55), some (53, true)⟩ <|
                .st ⟨some 57, .fa 0 (.tmp 56), some (53, true)⟩ <|
                .st ⟨some 58, .ld (some 2) (.tmp 57), some (53, true)⟩ <|
                .st ⟨some 59, .ld (some 2) (.tmp 4), some (53, true)⟩ <|
                .st ⟨some 60, .eqs true [.i, .i] (.tmp 58) (.tmp 59), some (53, true)⟩ <|
                .st ⟨some 61, .pick (.tmp 53) (.tmp 60) (.const (.bool false)), none⟩ <|
                .st ⟨some 62, .mv (.tmp 61), none⟩ <|
                .st ⟨some 63, .mv (.tmp 2), some (62, true)⟩ <|
                .st ⟨some 64, .mv (.tmp 0), some (62, true)⟩ <|
                .st ⟨some 65, .mv (.tmp 8), some (62, true)⟩ <|
                .st ⟨some 66, .ia 4 (.tmp 64) (.tmp 65), some (62, true)⟩ <|
                .st ⟨some 67, .fa 0 (.tmp 66), some (62, true)⟩ <|
                .st ⟨some 68, .ld (some 2) (.tmp 67), some (62, true)⟩ <|
                .st ⟨some 69, .call (.func 73) [.tmp 63, .tmp 68], some (62, true)⟩ <|
                .st ⟨some 70, .un .not (.tmp 69), some (62, true)⟩ <|
                .st ⟨some 71, .pick (.tmp 62) (.tmp 70) (.const (.bool false)), none⟩ <|
                .done)) <|
              .cond (.tmp 71) (.seq (.ops (
                  .st ⟨some 6, .mv (.const (.bool false)), none⟩ <|
                  .done)) <|
                .ret) (.skip))) <|
            .ops (
              .st ⟨some 33, .mv (.tmp 8), none⟩ <|
              .st ⟨some 34, .bini .add (.tmp 33) (.const (.int .i64 1)), none⟩ <|
              .st ⟨some 8, .mv (.tmp 34), none⟩ <|
              .done))))) <|
      .ops (
        .st ⟨some 13, .mv (.tmp 7), none⟩ <|
        .st ⟨some 14, .bini .add (.tmp 13) (.const (.int .i64 1)), none⟩ <|
        .st ⟨some 7, .mv (.tmp 14), none⟩ <|
        .done)))) <|
  .seq (.ops (
    .st ⟨some 6, .mv (.const (.bool true)), none⟩ <|
    .done)) <|
  .ret
theorem b74 : bodyOf Try.prog 74 = some (72, [.t 6], c74) := by kernel_rfl
theorem k74 : callOk Try.prog 74 = true := by kernel_rfl

/-- leapfrog/leapfrogref07.Less -/
def c90 : CC :=
  .seq (.ops (
    .st ⟨some 2, .box 29 (.tmp 0), none⟩ <|
    .st ⟨some 3, .box 29 (.tmp 1), none⟩ <|
    .st ⟨some 4, .mv (.const (.bool false)), none⟩ <|
    .done)) <|
  .seq (.ops (
    .st ⟨some 5, .fa 0 (.tmp 2), none⟩ <|
    .st ⟨some 6, .ld none (.tmp 5), none⟩ <|
    .st ⟨some 7, .fa 0 (.tmp 3), none⟩ <|
    .st ⟨some 8, .ld none (.tmp 7), none⟩ <|
    .st ⟨some 9, .bini .lss (.tmp 6) (.tmp 8), none⟩ <|
    .st ⟨some 10, .mv (.tmp 9), none⟩ <|
    .st ⟨some 11, .fa 0 (.tmp 2), some (10, false)⟩ <|
    .st ⟨some 12, .ld none (.tmp 11), some (10, false)⟩ <|
    .st ⟨some 13, .fa 0 (.tmp 3), some (10, false)⟩ <|
    .st ⟨some 14, .ld none (.tmp 13), some (10, false)⟩ <|
    .st ⟨some 15, .bini .eql (.tmp 12) (.tmp 14), some (10, false)⟩ <|
    .st ⟨some 16, .mv (.tmp 15), some (10, false)⟩ <|
    .st ⟨some 17, .fa 1 (.tmp 2), some (16, true)⟩ <|
    .st ⟨some 18, .ld none (.tmp 17), some (16, true)⟩ <|
    .st ⟨some 19, .fa 1 (.tmp 3), some (16, true)⟩ <|
    .st ⟨some 20, .ld none (.tmp 19), some (16, true)⟩ <|
    .st ⟨some 21, .bini .lss (.tmp 18) (.tmp 20), some (16, true)⟩ <|
    .st ⟨some 22, .pick (.tmp 16) (.tmp 21) (.const (.bool false)), some (10, false)⟩ <|
    .st ⟨some 23, .pick (.tmp 10) (.const (.bool true)) (.tmp 22), none⟩ <|
    .st ⟨some 4, .mv (.tmp 23), none⟩ <|
    .done)) <|
  .ret
theorem b90 : bodyOf Try.prog 90 = some (24, [.t 4], c90) := by kernel_rfl
theorem k90 : callOk Try.prog 90 = true := by kernel_rfl

/-- leapfrog/leapfroglaw07.LockStuck -/
def c10 : CC :=
  .seq (.ops (
    .st ⟨some 2, .mv (.const (.bool false)), none⟩ <|
    .done)) <|
  .seq (.seq (.ops (
    .st ⟨some 7, .mv (.tmp 0), none⟩ <|
    .st ⟨some 8, .ln (.tmp 7), none⟩ <|
    .st ⟨some 9, .bini .gtr (.tmp 8) (.const (.int .i64 40)), none⟩ <|
    .done)) <|
  .cond (.tmp 9) (.ops (
      .st ⟨some 10, .mv (.tmp 0), none⟩ <|
      .st ⟨some 11, .sl 4 (.tmp 10) none (some (.const (.int .i64 40))) none, none⟩ <|
      .st ⟨some 0, .mv (.tmp 11), none⟩ <|
      .done)) (.skip)) <|
  .seq (.ops (
    .st ⟨some 13, .mv (.tmp 0), none⟩ <|
    .st ⟨some 14, .call (.func 35) [.tmp 13], none⟩ <|
    .st ⟨some 12, .mv (.tmp 14), none⟩ <|
    .st ⟨some 15, .ext (.tmp 12) 0, none⟩ <|
    .st ⟨some 16, .ext (.tmp 12) 1, none⟩ <|
    .st ⟨some 3, .mv (.tmp 15), none⟩ <|
    .st ⟨some 4, .mv (.tmp 16), none⟩ <|
    .done)) <|
  .seq (.ops (
    .st ⟨some 18, .mv (.tmp 0), none⟩ <|
    .st ⟨some 19, .call (.func 36) [.tmp 18], none⟩ <|
    .st ⟨some 17, .mv (.tmp 19), none⟩ <|
    .st ⟨some 20, .ext (.tmp 17) 0, none⟩ <|
    .st ⟨some 21, .ext (.tmp 17) 1, none⟩ <|
    .st ⟨some 5, .mv (.tmp 20), none⟩ <|
    .st ⟨some 6, .mv (.tmp 21), none⟩ <|
    .done)) <|
  .seq (.ops (
    .st ⟨some 22, .mv (.tmp 3), none⟩ <|
    .st ⟨some 23, .mv (.tmp 5), none⟩ <|
    .st ⟨some 24, .call (.func 21) [.tmp 22, .tmp 23], none⟩ <|
    .st ⟨some 25, .mv (.tmp 24), none⟩ <|
    .st ⟨some 26, .mv (.tmp 4), some (25, true)⟩ <|
    .st ⟨some 27, .mv (.tmp 6), some (25, true)⟩ <|
    .st ⟨some 28, .bini .eql (.tmp 26) (.tmp 27), some (25, true)⟩ <|
    .st ⟨some 29, .pick (.tmp 25) (.tmp 28) (.const (.bool false)), none⟩ <|
    .st ⟨some 30, .mv (.tmp 29), none⟩ <|
    .st ⟨some 31, .call (.func 14) [], some (30, true)⟩ <|
    .st ⟨some 32, .pick (.tmp 30) (.tmp 31) (.const (.bool false)), none⟩ <|
    .st ⟨some 2, .mv (.tmp 32), none⟩ <|
    .done)) <|
  .ret
theorem b10 : bodyOf Try.prog 10 = some (33, [.t 2], c10) := by kernel_rfl
theorem k10 : callOk Try.prog 10 = true := by kernel_rfl

/-- leapfrog/leapfroglaw07.LockRising -/
def c11 : CC :=
  .seq (.ops (
    .st ⟨some 2, .mv (.const (.bool false)), none⟩ <|
    .done)) <|
  .seq (.ops (
    .st ⟨some 3, .mv (.const (.slice none 0 0)), none⟩ <|
    .done)) <|
  .seq (.seq (.ops (
    .st ⟨some 4, .mv (.const (.int .i64 0)), none⟩ <|
    .done)) <|
  .block 0 (.loop (.seq (.seq (.ops (
        .st ⟨some 11, .mv (.tmp 4), none⟩ <|
        .st ⟨some 12, .mv (.tmp 0), none⟩ <|
        .st ⟨some 13, .ln (.tmp 12), none⟩ <|
        .st ⟨some 14, .bini .lss (.tmp 11) (.tmp 13), none⟩ <|
        .st ⟨some 15, .mv (.tmp 14), none⟩ <|
        .st ⟨some 16, .mv (.tmp 4), some (15, true)⟩ <|
        .st ⟨some 17, .bini .lss (.tmp 16) (.const (.int .i64 40)), some (15, true)⟩ <|
        .st ⟨some 18, .pick (.tmp 15) (.tmp 17) (.const (.bool false)), none⟩ <|
        .done)) <|
      .cond (.tmp 18) (.skip) (.exit 0)) <|
      .seq (.block 1 (.seq (.ops (
          .st ⟨some 21, .mv (.tmp 0), none⟩ <|
          .st ⟨some 22, .mv (.tmp 4), none⟩ <|
          .st ⟨some 23, .ia 4 (.tmp 21) (.tmp 22), none⟩ <|
          .st ⟨some 24, .ld (some 4) (.tmp 23), none⟩ <|
          .st ⟨some 5, .new 84 #[.int .i64 0, .int .i64 0, .int .i64 0, .bool false], none⟩ <|
          .st ⟨none, .st 4 (.tmp 5) (.tmp 24), none⟩ <|
          .done)) <|
        .seq (.ops (
          .st ⟨some 25, .fa 0 (.tmp 5), none⟩ <|
          .st ⟨some 26, .ld (some 2) (.tmp 25), none⟩ <|
          .st ⟨some 27, .call (.func 24) [.tmp 26], none⟩ <|
          .st ⟨some 6, .mv (.tmp 27), none⟩ <|
          .done)) <|
        .seq (.seq (.ops (
          .st ⟨some 7, .mv (.const (.int .i64 0)), none⟩ <|
          .done)) <|
        .block 2 (.loop (.seq (.seq (.ops (
              .st ⟨some 28, .mv (.tmp 7), none⟩ <|
              .st ⟨some 29, .mv (.tmp 3), none⟩ <|
              .st ⟨some 30, .ln (.tmp 29), none⟩ <|
              .st ⟨some 31, .bini .lss (.tmp 28) (.tmp 30), none⟩ <|
              .done)) <|
            .cond (.tmp 31) (.skip) (.exit 2)) <|
            .seq (.block 3 (.seq (.ops (
                .st ⟨some 34, .mv (.tmp 3), none⟩ <|
                .st ⟨some 35, .mv (.tmp 7), none⟩ <|
                .st ⟨some 36, .ia 4 (.tmp 34) (.tmp 35), none⟩ <|
                .st ⟨some 37, .ld (some 4) (.tmp 36), none⟩ <|
                .st ⟨some 8, .new 84 #[.int .i64 0, .int .i64 0, .int .i64 0, .bool false], none⟩ <|
                .st ⟨none, .st 4 (.tmp 8) (.tmp 37), none⟩ <|
                .done)) <|
              .seq (.seq (.ops (
                .st ⟨some 38, .fa 3 (.tmp 5), none⟩ <|
                .st ⟨some 39, .ld none (.tmp 38), none⟩ <|
                .st ⟨some 40, .mv (.tmp 39), none⟩ <|
                .st ⟨some 41, .fa 3 (.tmp 8), some (40, true)⟩ <|
                .st ⟨some 42, .ld none (.tmp 41), some (40, true)⟩ <|
                .st ⟨some 43, .pick (.tmp 40) (.tmp 42) (.const (.bool false)), none⟩ <|
                .st ⟨some 44, .mv (.tmp 43), none⟩ <|
                .st ⟨some 45, .fa 2 (.tmp 5), some (44, true)⟩ <|
                .st ⟨some 46, .ld none (.tmp 45), some (44, true)⟩ <|
                .st ⟨some 47, .fa 2 (.tmp 8), some (44, true)⟩ <|
                .st ⟨some 48, .ld none (.tmp 47), some (44, true)⟩ <|
                .st ⟨some 49, .bini .eql (.tmp 46) (.tmp 48), some (44, true)⟩ <|
                .st ⟨some 50, .pick (.tmp 44) (.tmp 49) (.const (.bool false)), none⟩ <|
                .st ⟨some 51, .mv (.tmp 50), none⟩ <|
                .st ⟨some 52, .fa 0 (.tmp 5), some (51, true)⟩ <|
                .st ⟨some 53, .ld (some 2) (.tmp 52), some (51, true)⟩ <|
                .st ⟨some 54, .fa 0 (.tmp 8), some (51, true)⟩ <|
                .st ⟨some 55, .ld (some 2) (.tmp 54), some (51, true)⟩ <|
                .st ⟨some 56, .eqs true [.i, .i] (.tmp 53) (.tmp 55), some (51, true)⟩ <|
                .st ⟨some 57, .pick (.tmp 51) (.tmp 56) (.const (.bool false)), none⟩ <|
                .done)) <|
              .cond (.tmp 57) (.ops (
                  .st ⟨some 6, .mv (.const (.bool false)), none⟩ <|
                  .done)) (.skip)) <|
              .seq (.ops (
                .st ⟨some 58, .fa 0 (.tmp 5), none⟩ <|
                .st ⟨some 59, .ld (some 2) (.tmp 58), none⟩ <|
                .st ⟨some 60, .fa 0 (.tmp 8), none⟩ <|
                .st ⟨some 61, .ld (some 2) (.tmp 60), none⟩ <|
                .st ⟨some 62, .eqs false [.i, .i] (.tmp 59) (.tmp 61), none⟩ <|
                .st ⟨some 63, .mv (.tmp 62), none⟩ <|
                .st ⟨some 64, .fa 3 (.tmp 5), some (63, true)⟩ <|
                .st ⟨some 65, .ld none (.tmp 64), some (63, true)⟩ <|
                .st ⟨some 66, .mv (.tmp 65), some (63, true)⟩ <|
                .st ⟨some 67, .fa 3 (.tmp 8), some (66, true)⟩ <|
                .st ⟨some 68, .ld none (.tmp 67), some (66, true)⟩ <|
                .st ⟨some 69, .un .not (.tmp 68), some (66, true)⟩ <|
                .st ⟨some 70, .pick (.tmp 66) (.tmp 69) (.const (.bool false)), some (63, true)⟩ <|
                .st ⟨some 71, .mv (.tmp 70), some (63, true)⟩ <|
                .st ⟨some 72, .fa 2 (.tmp 8), some (71, true)⟩ <|
                .st ⟨some 73, .ld none (.tmp 72), some (71, true)⟩ <|
                .st ⟨some 74, .fa 2 (.tmp 5), some (71, true)⟩ <|
                .st ⟨some 75, .ld none (.tmp 74), some (71, true)⟩ <|
                .st ⟨some 76, .bini .leq (.tmp 73) (.tmp 75), some (71, true)⟩ <|
                .st ⟨some 77, .pick (.tmp 71) (.tmp 76) (.const (.bool false)), some (63, true)⟩ <|
                .st ⟨some 78, .mv (.tmp 77), some (63, true)⟩ <|
                .st ⟨some 79, .fa 3 (.tmp 5), some (78, false)⟩ <|
                .st ⟨some 80, .ld none (.tmp 79), some (78, false)⟩ <|
                .st ⟨some 81, .un .not (.tmp 80), some (78, false)⟩ <|
                .st ⟨some 82, .mv (.tmp 81), some (78, false)⟩ <|
                .st ⟨some 83, .fa 3 (.tmp 8), some (82, true)⟩ <|
                .st ⟨some 84, .ld none (.tmp 83), some (82, true)⟩ <|
                .st ⟨some 85, .pick (.tmp 82) (.tmp 84) (.const (.bool false)), some (78, false)⟩ <|
                .st ⟨some 86, .mv (.tmp 85), some (78, false)⟩ <|
                .st ⟨some 87, .fa 2 (.tmp 5), some (86, true)⟩ <|
                .st ⟨some 88, .ld none (.tmp 87), some (86, true)⟩ <|
                .st ⟨some 89, .fa 2 (.tmp 8), some (86, true)⟩ <|
                .st ⟨some 90, .ld none (.tmp 89), some (86, true)⟩ <|
                .st ⟨some 91, .bini .leq (.tmp 88) (.tmp 90), some (86, true)⟩ <|
                .st ⟨some 92, .pick (.tmp 86) (.tmp 91) (.const (.bool false)), some (78, false)⟩ <|
                .st ⟨some 93, .pick (.tmp 78) (.const (.bool true)) (.tmp 92), some (63, true)⟩ <|
                .st ⟨some 94, .pick (.tmp 63) (.tmp 93) (.const (.bool false)), none⟩ <|
                .done)) <|
              .cond (.tmp 94) (.ops (
                  .st ⟨some 6, .mv (.const (.bool false)), none⟩ <|
                  .done)) (.skip))) <|
            .ops (
              .st ⟨some 32, .mv (.tmp 7), none⟩ <|
              .st ⟨some 33, .bini .add (.tmp 32) (.const (.int .i64 1)), none⟩ <|
              .st ⟨some 7, .mv (.tmp 33), none⟩ <|
              .done)))) <|
        .seq (.ops (
          .st ⟨some 95, .mv (.tmp 6), none⟩ <|
          .done)) <|
        .cond (.tmp 95) (.ops (
            .st ⟨some 96, .mv (.tmp 3), none⟩ <|
            .st ⟨some 97, .ld (some 4) (.tmp 5), none⟩ <|
            .st ⟨some 98, .bsl 84 [.c (.tmp 97) 0 4, .c (.tmp 97) 1 4, .c (.tmp 97) 2 4, .c (.tmp 97) 3 4] 1, none⟩ <|
            .st ⟨some 99, .ap 84 4 32 #[.int .i64 0, .int .i64 0, .int .i64 0, .bool false] (.tmp 96) (.tmp 98), none⟩ <|
            .st ⟨some 3, .mv (.tmp 99), none⟩ <|
            .done)) (.skip))) <|
      .ops (
        .st ⟨some 19, .mv (.tmp 4), none⟩ <|
        .st ⟨some 20, .bini .add (.tmp 19) (.const (.int .i64 1)), none⟩ <|
        .st ⟨some 4, .mv (.tmp 20), none⟩ <|
        .done)))) <|
  .seq (.ops (
    .st ⟨some 101, .mv (.tmp 3), none⟩ <|
    .st ⟨some 102, .call (.func 35) [.tmp 101], none⟩ <|
    .st ⟨some 100, .mv (.tmp 102), none⟩ <|
    .st ⟨some 103, .ext (.tmp 100) 0, none⟩ <|
    .st ⟨some 104, .ext (.tmp 100) 1, none⟩ <|
    .st ⟨some 9, .mv (.tmp 103), none⟩ <|
    .st ⟨some 10, .mv (.tmp 104), none⟩ <|
    .done)) <|
  .seq (.ops (
    .st ⟨some 105, .mv (.tmp 10), none⟩ <|
    .st ⟨some 106, .bini .eql (.tmp 105) (.const (.int .i64 0)), none⟩ <|
    .st ⟨some 107, .mv (.tmp 106), none⟩ <|
    .st ⟨some 108, .mv (.tmp 9), some (107, true)⟩ <|
    .st ⟨some 109, .ln (.tmp 108), some (107, true)⟩ <|
    .st ⟨some 110, .bini .eql (.tmp 109) (.const (.int .i64 0)), some (107, true)⟩ <|
    .st ⟨some 111, .pick (.tmp 107) (.tmp 110) (.const (.bool false)), none⟩ <|
    .st ⟨some 112, .mv (.tmp 111), none⟩ <|
    .st ⟨some 113, .call (.func 14) [], some (112, true)⟩ <|
    .st ⟨some 114, .pick (.tmp 112) (.tmp 113) (.const (.bool false)), none⟩ <|
    .st ⟨some 2, .mv (.tmp 114), none⟩ <|
    .done)) <|
  .ret
theorem b11 : bodyOf Try.prog 11 = some (115, [.t 2], c11) := by kernel_rfl
theorem k11 : callOk Try.prog 11 = true := by kernel_rfl

end Go.Proofs.Ytojegknfbgflnaa
