/- The bodies of some functions of the program, without their noise, and that they are these. Conditions: none. Written by a program of this workplace (Print.lean). -/
import Derived.Test.YtojegknfbgflnaaProg
import Derived.Test.YtojegknfbgflnaaSlM
import Derived.KernelRfl
namespace Go.Proofs.Ytojegknfbgflnaa
open Go Go.SL
set_option maxRecDepth 100000

/-- leapfrog/leapfrogref08.Same -/
def c28 : CC :=
  .seq (.ops (
    .st ⟨some 2, .box 62 (.tmp 0), none⟩ <|
    .st ⟨some 3, .box 62 (.tmp 1), none⟩ <|
    .st ⟨some 4, .mv (.const (.bool false)), none⟩ <|
    .done)) <|
  .seq (.seq (.ops (
    .st ⟨some 5, .fa 0 (.tmp 2), none⟩ <|
    .st ⟨some 6, .ld (some 2) (.tmp 5), none⟩ <|
    .st ⟨some 7, .fa 0 (.tmp 3), none⟩ <|
    .st ⟨some 8, .ld (some 2) (.tmp 7), none⟩ <|
    .st ⟨some 9, .eqs true [.i, .i] (.tmp 6) (.tmp 8), none⟩ <|
    .st ⟨some 10, .mv (.tmp 9), none⟩ <|
    .st ⟨some 11, .fa 2 (.tmp 2), some (10, false)⟩ <|
    .st ⟨some 12, .ld (some 5) (.tmp 11), some (10, false)⟩ <|
    .st ⟨some 13, .fa 2 (.tmp 3), some (10, false)⟩ <|
    .st ⟨some 14, .ld (some 5) (.tmp 13), some (10, false)⟩ <|
    .st ⟨some 15, .eqs true [.i, .i, .i, .i, .i] (.tmp 12) (.tmp 14), some (10, false)⟩ <|
    .st ⟨some 16, .pick (.tmp 10) (.const (.bool true)) (.tmp 15), none⟩ <|
    .st ⟨some 17, .mv (.tmp 16), none⟩ <|
    .st ⟨some 18, .fa 7 (.tmp 2), some (17, false)⟩ <|
    .st ⟨some 19, .ld (some 5) (.tmp 18), some (17, false)⟩ <|
    .st ⟨some 20, .fa 7 (.tmp 3), some (17, false)⟩ <|
    .st ⟨some 21, .ld (some 5) (.tmp 20), some (17, false)⟩ <|
    .st ⟨some 22, .eqs true [.i, .i, .i, .i, .i] (.tmp 19) (.tmp 21), some (17, false)⟩ <|
    .st ⟨some 23, .pick (.tmp 17) (.const (.bool true)) (.tmp 22), none⟩ <|
    .st ⟨some 24, .mv (.tmp 23), none⟩ <|
    .st ⟨some 25, .fa 12 (.tmp 2), some (24, false)⟩ <|
    .st ⟨some 26, .ld none (.tmp 25), some (24, false)⟩ <|
    .st ⟨some 27, .fa 12 (.tmp 3), some (24, false)⟩ <|
    .st ⟨some 28, .ld none (.tmp 27), some (24, false)⟩ <|
    .st ⟨some 29, .cmp .b true (.tmp 26) (.tmp 28), some (24, false)⟩ <|
    .st ⟨some 30, .pick (.tmp 24) (.const (.bool true)) (.tmp 29), none⟩ <|
    .st ⟨some 31, .mv (.tmp 30), none⟩ <|
    .st ⟨some 32, .fa 13 (.tmp 2), some (31, false)⟩ <|
    .st ⟨some 33, .ld (some 2) (.tmp 32), some (31, false)⟩ <|
    .st ⟨some 34, .fa 13 (.tmp 3), some (31, false)⟩ <|
    .st ⟨some 35, .ld (some 2) (.tmp 34), some (31, false)⟩ <|
    .st ⟨some 36, .eqs true [.i, .i] (.tmp 33) (.tmp 35), some (31, false)⟩ <|
    .st ⟨some 37, .pick (.tmp 31) (.const (.bool true)) (.tmp 36), none⟩ <|
    .done)) <|
  .cond (.tmp 37) (.seq (.ops (
      .st ⟨some 4, .mv (.const (.bool false)), none⟩ <|
      .done)) <|
    .ret) (.skip)) <|
  .seq (.ops (
    .st ⟨some 38, .fa 15 (.tmp 2), none⟩ <|
    .st ⟨some 39, .ld none (.tmp 38), none⟩ <|
    .st ⟨some 40, .fa 15 (.tmp 3), none⟩ <|
    .st ⟨some 41, .ld none (.tmp 40), none⟩ <|
    .st ⟨some 42, .call (.func 58) [.tmp 39, .tmp 41], none⟩ <|
    .st ⟨some 4, .mv (.tmp 42), none⟩ <|
    .done)) <|
  .ret
theorem b28 : bodyOf Try.prog 28 = some (43, [.t 4], c28) := by kernel_rfl
theorem k28 : callOk Try.prog 28 = true := by kernel_rfl

/-- leapfrog/leapfrogref08.SameOwners -/
def c58 : CC :=
  .seq (.ops (
    .st ⟨some 4, .mv (.const (.bool false)), none⟩ <|
    .done)) <|
  .seq (.seq (.ops (
    .st ⟨some 6, .mv (.tmp 0), none⟩ <|
    .st ⟨some 7, .ln (.tmp 6), none⟩ <|
    .st ⟨some 8, .mv (.tmp 1), none⟩ <|
    .st ⟨some 9, .ln (.tmp 8), none⟩ <|
    .st ⟨some 10, .bini .neq (.tmp 7) (.tmp 9), none⟩ <|
    .done)) <|
  .cond (.tmp 10) (.seq (.ops (
      .st ⟨some 4, .mv (.const (.bool false)), none⟩ <|
      .done)) <|
    .ret) (.skip)) <|
  .seq (.seq (.ops (
    .st ⟨some 5, .mv (.const (.int .i64 0)), none⟩ <|
    .done)) <|
  .block 0 (.loop (.seq (.seq (.ops (
        .st ⟨some 11, .mv (.tmp 5), none⟩ <|
        .st ⟨some 12, .mv (.tmp 0), none⟩ <|
        .st ⟨some 13, .ln (.tmp 12), none⟩ <|
        .st ⟨some 14, .bini .lss (.tmp 11) (.tmp 13), none⟩ <|
        .done)) <|
      .cond (.tmp 14) (.skip) (.exit 0)) <|
      .seq (.block 1 (.seq (.ops (
          .st ⟨some 17, .mv (.tmp 0), none⟩ <|
          .st ⟨some 18, .mv (.tmp 5), none⟩ <|
          .st ⟨some 19, .ia 2 (.tmp 17) (.tmp 18), none⟩ <|
          .st ⟨some 20, .ld (some 2) (.tmp 19), none⟩ <|
          .st ⟨some 21, .mv (.tmp 1), none⟩ <|
          .st ⟨some 22, .mv (.tmp 5), none⟩ <|
          .st ⟨some 23, .ia 2 (.tmp 21) (.tmp 22), none⟩ <|
          .st ⟨some 24, .ld (some 2) (.tmp 23), none⟩ <|
          .st ⟨some 25, .eqs true [.i, .i] (.tmp 20) (.tmp 24), none⟩ <|
          .done)) <|
        .cond (.tmp 25) (.seq (.ops (
            .st ⟨some 4, .mv (.const (.bool false)), none⟩ <|
            .done)) <|
          .ret) (.skip))) <|
      .ops (
        .st ⟨some 15, .mv (.tmp 5), none⟩ <|
        .st ⟨some 16, .bini .add (.tmp 15) (.const (.int .i64 1)), none⟩ <|
        .st ⟨some 5, .mv (.tmp 16), none⟩ <|
        .done)))) <|
  .seq (.ops (
    .st ⟨some 4, .mv (.const (.bool true)), none⟩ <|
    .done)) <|
  .ret
theorem b58 : bodyOf Try.prog 58 = some (26, [.t 4], c58) := by kernel_rfl
theorem k58 : callOk Try.prog 58 = true := by kernel_rfl

/-- leapfrog/leapfroglaw08.play -/
def c29 : CC :=
  .seq (.ops (
    .st ⟨some 2, .box 60 (.tmp 0), none⟩ <|
    .st ⟨some 4, .mv (.const (.pointer none)), none⟩ <|
    .done)) <|
  .seq (.ops (
    .st ⟨some 9, .ld (some 5) (.tmp 2), none⟩ <|
    .st ⟨some 10, .call (.func 33) [.tmp 9], none⟩ <|
    .st ⟨some 8, .mv (.tmp 10), none⟩ <|
    .st ⟨some 11, .ext (.tmp 8) 0, none⟩ <|
    .st ⟨some 12, .ext (.tmp 8) 1, none⟩ <|
    .st ⟨some 5, .mv (.tmp 11), none⟩ <|
    .st ⟨some 6, .mv (.tmp 12), none⟩ <|
    .done)) <|
  .seq (.seq (.ops (
    .st ⟨some 13, .mv (.tmp 6), none⟩ <|
    .st ⟨some 14, .bini .neq (.tmp 13) (.const (.int .i64 0)), none⟩ <|
    .done)) <|
  .cond (.tmp 14) (.seq (.ops (
      .st ⟨some 4, .mv (.const (.pointer none)), none⟩ <|
      .done)) <|
    .ret) (.skip)) <|
  .seq (.seq (.ops (
    .st ⟨some 7, .mv (.const (.int .i64 0)), none⟩ <|
    .done)) <|
  .block 0 (.loop (.seq (.seq (.ops (
        .st ⟨some 15, .mv (.tmp 7), none⟩ <|
        .st ⟨some 16, .mv (.tmp 1), none⟩ <|
        .st ⟨some 17, .ln (.tmp 16), none⟩ <|
        .st ⟨some 18, .bini .lss (.tmp 15) (.tmp 17), none⟩ <|
        .st ⟨some 19, .mv (.tmp 18), none⟩ <|
        .st ⟨some 20, .mv (.tmp 7), some (19, true)⟩ <|
        .st ⟨some 21, .bini .lss (.tmp 20) (.const (.int .i64 60)), some (19, true)⟩ <|
        .st ⟨some 22, .pick (.tmp 19) (.tmp 21) (.const (.bool false)), none⟩ <|
        .done)) <|
      .cond (.tmp 22) (.skip) (.exit 0)) <|
      .seq (.block 1 (.ops (
          .st ⟨some 25, .mv (.tmp 5), none⟩ <|
          .st ⟨some 26, .mv (.tmp 1), none⟩ <|
          .st ⟨some 27, .mv (.tmp 7), none⟩ <|
          .st ⟨some 28, .ia 15 (.tmp 26) (.tmp 27), none⟩ <|
          .st ⟨some 29, .ld (some 15) (.tmp 28), none⟩ <|
          .st ⟨some 30, .call (.func 31) [.tmp 25, .tmp 29], none⟩ <|
          .done))) <|
      .ops (
        .st ⟨some 23, .mv (.tmp 7), none⟩ <|
        .st ⟨some 24, .bini .add (.tmp 23) (.const (.int .i64 1)), none⟩ <|
        .st ⟨some 7, .mv (.tmp 24), none⟩ <|
        .done)))) <|
  .seq (.ops (
    .st ⟨some 31, .mv (.tmp 5), none⟩ <|
    .st ⟨some 4, .mv (.tmp 31), none⟩ <|
    .done)) <|
  .ret
theorem b29 : bodyOf Try.prog 29 = some (32, [.t 4], c29) := by kernel_rfl
theorem k29 : callOk Try.prog 29 = true := by kernel_rfl

/-- leapfrog/leapfroglaw08.do -/
def c31 : CC :=
  .seq (.ops (
    .st ⟨some 3, .box 66 (.tmp 1), none⟩ <|
    .st ⟨some 4, .mv (.const (.int .i64 0)), none⟩ <|
    .done)) <|
  .seq (.ops (
    .st ⟨some 5, .mv (.const (.int .i64 0)), none⟩ <|
    .done)) <|
  .seq (.seq (.ops (
    .st ⟨some 6, .fa 0 (.tmp 3), none⟩ <|
    .st ⟨some 7, .ld none (.tmp 6), none⟩ <|
    .done)) <|
  .block 0 (.seq (.ops (
      .st ⟨some 9, .bini .eql (.tmp 7) (.const (.int .i64 1)), none⟩ <|
      .st ⟨some 8, .mv (.tmp 9), none⟩ <|
      .done)) <|
    .cond (.tmp 8) (.ops (
        .st ⟨some 10, .mv (.tmp 0), none⟩ <|
        .st ⟨some 11, .fa 1 (.tmp 3), none⟩ <|
        .st ⟨some 12, .ld (some 2) (.tmp 11), none⟩ <|
        .st ⟨some 13, .fa 3 (.tmp 3), none⟩ <|
        .st ⟨some 14, .ld (some 5) (.tmp 13), none⟩ <|
        .st ⟨some 15, .fa 8 (.tmp 3), none⟩ <|
        .st ⟨some 16, .ld (some 5) (.tmp 15), none⟩ <|
        .st ⟨some 17, .fa 13 (.tmp 3), none⟩ <|
        .st ⟨some 18, .ld (some 2) (.tmp 17), none⟩ <|
        .st ⟨some 19, .call (.func 34) [.tmp 10, .tmp 12, .tmp 14, .tmp 16, .tmp 18], none⟩ <|
        .st ⟨some 5, .mv (.tmp 19), none⟩ <|
        .done)) (.seq (.ops (
        .st ⟨some 21, .bini .eql (.tmp 7) (.const (.int .i64 2)), none⟩ <|
        .st ⟨some 20, .mv (.tmp 21), none⟩ <|
        .done)) <|
      .cond (.tmp 20) (.ops (
          .st ⟨some 23, .mv (.tmp 0), none⟩ <|
          .st ⟨some 24, .fa 1 (.tmp 3), none⟩ <|
          .st ⟨some 25, .ld (some 2) (.tmp 24), none⟩ <|
          .st ⟨some 26, .fa 13 (.tmp 3), none⟩ <|
          .st ⟨some 27, .ld (some 2) (.tmp 26), none⟩ <|
          .st ⟨some 28, .call (.func 32) [.tmp 23, .tmp 25, .tmp 27], none⟩ <|
          .st ⟨some 22, .mv (.tmp 28), none⟩ <|
          .st ⟨some 29, .ext (.tmp 22) 0, none⟩ <|
          .st ⟨some 30, .ext (.tmp 22) 1, none⟩ <|
          .st ⟨some 5, .mv (.tmp 30), none⟩ <|
          .done)) (.seq (.ops (
          .st ⟨some 32, .bini .eql (.tmp 7) (.const (.int .i64 3)), none⟩ <|
          .st ⟨some 31, .mv (.tmp 32), none⟩ <|
          .done)) <|
        .cond (.tmp 31) (.ops (
            .st ⟨some 33, .mv (.tmp 0), none⟩ <|
            .st ⟨some 34, .fa 1 (.tmp 3), none⟩ <|
            .st ⟨some 35, .ld (some 2) (.tmp 34), none⟩ <|
            .st ⟨some 36, .fa 3 (.tmp 3), none⟩ <|
            .st ⟨some 37, .ld (some 5) (.tmp 36), none⟩ <|
            .st ⟨some 38, .call (.func 43) [.tmp 33, .tmp 35, .tmp 37], none⟩ <|
            .st ⟨some 5, .mv (.tmp 38), none⟩ <|
            .done)) (.seq (.ops (
            .st ⟨some 40, .bini .eql (.tmp 7) (.const (.int .i64 4)), none⟩ <|
            .st ⟨some 39, .mv (.tmp 40), none⟩ <|
            .done)) <|
          .cond (.tmp 39) (.ops (
              .st ⟨some 41, .mv (.tmp 0), none⟩ <|
              .st ⟨some 42, .fa 1 (.tmp 3), none⟩ <|
              .st ⟨some 43, .ld (some 2) (.tmp 42), none⟩ <|
              .st ⟨some 44, .fa 3 (.tmp 3), none⟩ <|
              .st ⟨some 45, .ld (some 5) (.tmp 44), none⟩ <|
              .st ⟨some 46, .fa 13 (.tmp 3), none⟩ <|
              .st ⟨some 47, .ld (some 2) (.tmp 46), none⟩ <|
              .st ⟨some 48, .call (.func 44) [.tmp 41, .tmp 43, .tmp 45, .tmp 47], none⟩ <|
              .st ⟨some 5, .mv (.tmp 48), none⟩ <|
              .done)) (.seq (.ops (
              .st ⟨some 50, .bini .eql (.tmp 7) (.const (.int .i64 5)), none⟩ <|
              .st ⟨some 49, .mv (.tmp 50), none⟩ <|
              .done)) <|
            .cond (.tmp 49) (.ops (
                .st ⟨some 52, .mv (.tmp 0), none⟩ <|
                .st ⟨some 53, .fa 1 (.tmp 3), none⟩ <|
                .st ⟨some 54, .ld (some 2) (.tmp 53), none⟩ <|
                .st ⟨some 55, .fa 13 (.tmp 3), none⟩ <|
                .st ⟨some 56, .ld (some 2) (.tmp 55), none⟩ <|
                .st ⟨some 57, .call (.func 41) [.tmp 52, .tmp 54, .tmp 56], none⟩ <|
                .st ⟨some 51, .mv (.tmp 57), none⟩ <|
                .st ⟨some 58, .ext (.tmp 51) 0, none⟩ <|
                .st ⟨some 59, .ext (.tmp 51) 1, none⟩ <|
                .st ⟨some 5, .mv (.tmp 59), none⟩ <|
                .done)) (.seq (.ops (
                .st ⟨some 61, .bini .eql (.tmp 7) (.const (.int .i64 6)), none⟩ <|
                .st ⟨some 60, .mv (.tmp 61), none⟩ <|
                .done)) <|
              .cond (.tmp 60) (.ops (
                  .st ⟨some 63, .mv (.tmp 0), none⟩ <|
                  .st ⟨some 64, .fa 1 (.tmp 3), none⟩ <|
                  .st ⟨some 65, .ld (some 2) (.tmp 64), none⟩ <|
                  .st ⟨some 66, .fa 13 (.tmp 3), none⟩ <|
                  .st ⟨some 67, .ld (some 2) (.tmp 66), none⟩ <|
                  .st ⟨some 68, .call (.func 42) [.tmp 63, .tmp 65, .tmp 67], none⟩ <|
                  .st ⟨some 62, .mv (.tmp 68), none⟩ <|
                  .st ⟨some 69, .ext (.tmp 62) 0, none⟩ <|
                  .st ⟨some 70, .ext (.tmp 62) 1, none⟩ <|
                  .st ⟨some 71, .ext (.tmp 62) 2, none⟩ <|
                  .st ⟨some 5, .mv (.tmp 71), none⟩ <|
                  .done)) (.skip)))))))) <|
  .seq (.ops (
    .st ⟨some 72, .mv (.tmp 5), none⟩ <|
    .st ⟨some 4, .mv (.tmp 72), none⟩ <|
    .done)) <|
  .ret
theorem b31 : bodyOf Try.prog 31 = some (73, [.t 4], c31) := by kernel_rfl
theorem k31 : callOk Try.prog 31 = true := by kernel_rfl

/-- leapfrog/leapfroglaw08.LinkSame -/
def c7 : CC :=
  .seq (.ops (
    .st ⟨some 2, .box 62 (.tmp 0), none⟩ <|
    .st ⟨some 3, .box 62 (.tmp 1), none⟩ <|
    .st ⟨some 4, .mv (.const (.bool false)), none⟩ <|
    .done)) <|
  .seq (.seq (.ops (
    .st ⟨some 5, .fa 15 (.tmp 2), none⟩ <|
    .st ⟨some 6, .ld none (.tmp 5), none⟩ <|
    .st ⟨some 7, .ln (.tmp 6), none⟩ <|
    .st ⟨some 8, .bini .gtr (.tmp 7) (.const (.int .i64 200)), none⟩ <|
    .st ⟨some 9, .mv (.tmp 8), none⟩ <|
    .st ⟨some 10, .fa 15 (.tmp 3), some (9, false)⟩ <|
    .st ⟨some 11, .ld none (.tmp 10), some (9, false)⟩ <|
    .st ⟨some 12, .ln (.tmp 11), some (9, false)⟩ <|
    .st ⟨some 13, .bini .gtr (.tmp 12) (.const (.int .i64 200)), some (9, false)⟩ <|
    .st ⟨some 14, .pick (.tmp 9) (.const (.bool true)) (.tmp 13), none⟩ <|
    .done)) <|
  .cond (.tmp 14) (.seq (.ops (
      .st ⟨some 15, .call (.func 26) [], none⟩ <|
      .st ⟨some 4, .mv (.tmp 15), none⟩ <|
      .done)) <|
    .ret) (.skip)) <|
  .seq (.ops (
    .st ⟨some 16, .ld (some 16) (.tmp 2), none⟩ <|
    .st ⟨some 17, .ld (some 16) (.tmp 3), none⟩ <|
    .st ⟨some 19, .ld (some 16) (.tmp 2), none⟩ <|
    .st ⟨some 20, .ld (some 16) (.tmp 3), none⟩ <|
    .st ⟨some 18, .call (.func 27) [.tmp 16, .tmp 17], none⟩ <|
    .ag ⟨some 19, .ld (some 16) (.tmp 2), none⟩ <|
    .ag ⟨some 20, .ld (some 16) (.tmp 3), none⟩ <|
    .st ⟨some 21, .call (.func 28) [.tmp 19, .tmp 20], none⟩ <|
    .st ⟨some 22, .cmp .b false (.tmp 18) (.tmp 21), none⟩ <|
    .st ⟨some 23, .mv (.tmp 22), none⟩ <|
    .st ⟨some 24, .ld (some 16) (.tmp 2), some (23, true)⟩ <|
    .st ⟨some 25, .ld (some 16) (.tmp 2), some (23, true)⟩ <|
    .st ⟨some 26, .call (.func 27) [.tmp 24, .tmp 25], some (23, true)⟩ <|
    .st ⟨some 27, .pick (.tmp 23) (.tmp 26) (.const (.bool false)), none⟩ <|
    .st ⟨some 28, .mv (.tmp 27), none⟩ <|
    .st ⟨some 29, .call (.func 26) [], some (28, true)⟩ <|
    .st ⟨some 30, .pick (.tmp 28) (.tmp 29) (.const (.bool false)), none⟩ <|
    .st ⟨some 4, .mv (.tmp 30), none⟩ <|
    .done)) <|
  .ret
theorem b7 : bodyOf Try.prog 7 = some (31, [.t 4], c7) := by kernel_rfl
theorem k7 : callOk Try.prog 7 = true := by kernel_rfl

/-- leapfrog/leapfroglaw08.LinkApart -/
def c8 : CC :=
  .seq (.ops (
    .st ⟨some 4, .box 60 (.tmp 0), none⟩ <|
    .st ⟨some 6, .box 66 (.tmp 2), none⟩ <|
    .st ⟨some 7, .box 55 (.tmp 3), none⟩ <|
    .st ⟨some 8, .mv (.const (.bool false)), none⟩ <|
    .done)) <|
  .seq (.seq (.ops (
    .st ⟨some 15, .call (.func 26) [], none⟩ <|
    .st ⟨some 16, .un .not (.tmp 15), none⟩ <|
    .done)) <|
  .cond (.tmp 16) (.seq (.ops (
      .st ⟨some 8, .mv (.const (.bool false)), none⟩ <|
      .done)) <|
    .ret) (.skip)) <|
  .seq (.ops (
    .st ⟨some 17, .ld (some 5) (.tmp 4), none⟩ <|
    .st ⟨some 18, .mv (.tmp 1), none⟩ <|
    .st ⟨some 19, .call (.func 29) [.tmp 17, .tmp 18], none⟩ <|
    .st ⟨some 9, .mv (.tmp 19), none⟩ <|
    .done)) <|
  .seq (.seq (.ops (
    .st ⟨some 20, .mv (.tmp 9), none⟩ <|
    .st ⟨some 21, .cmp .p false (.tmp 20) (.const (.pointer none)), none⟩ <|
    .done)) <|
  .cond (.tmp 21) (.seq (.ops (
      .st ⟨some 8, .mv (.const (.bool true)), none⟩ <|
      .done)) <|
    .ret) (.skip)) <|
  .seq (.ops (
    .st ⟨some 23, .mv (.tmp 9), none⟩ <|
    .st ⟨some 24, .ld (some 2) (.tmp 7), none⟩ <|
    .st ⟨some 25, .call (.func 30) [.tmp 23, .tmp 24], none⟩ <|
    .st ⟨some 22, .mv (.tmp 25), none⟩ <|
    .st ⟨some 26, .ext (.tmp 22) 0, none⟩ <|
    .st ⟨some 27, .ext (.tmp 22) 1, none⟩ <|
    .st ⟨some 10, .new 62 #[.int .i64 0, .int .u64 0, .int .i64 0, .int .i64 0, .int .u64 0, .int .i64 0, .int .u64 0, .int .i64 0, .int .i64 0, .int .u64 0, .int .i64 0, .int .u64 0, .bool false, .int .i64 0, .int .i64 0, .slice none 0 0], none⟩ <|
    .st ⟨none, .st 16 (.tmp 10) (.tmp 26), none⟩ <|
    .st ⟨some 11, .mv (.tmp 27), none⟩ <|
    .done)) <|
  .seq (.ops (
    .st ⟨some 28, .mv (.tmp 9), none⟩ <|
    .st ⟨some 29, .ld (some 15) (.tmp 6), none⟩ <|
    .st ⟨some 30, .call (.func 31) [.tmp 28, .tmp 29], none⟩ <|
    .st ⟨some 12, .mv (.tmp 30), none⟩ <|
    .done)) <|
  .seq (.ops (
    .st ⟨some 32, .mv (.tmp 9), none⟩ <|
    .st ⟨some 33, .ld (some 2) (.tmp 7), none⟩ <|
    .st ⟨some 34, .call (.func 30) [.tmp 32, .tmp 33], none⟩ <|
    .st ⟨some 31, .mv (.tmp 34), none⟩ <|
    .st ⟨some 35, .ext (.tmp 31) 0, none⟩ <|
    .st ⟨some 36, .ext (.tmp 31) 1, none⟩ <|
    .st ⟨some 13, .new 62 #[.int .i64 0, .int .u64 0, .int .i64 0, .int .i64 0, .int .u64 0, .int .i64 0, .int .u64 0, .int .i64 0, .int .i64 0, .int .u64 0, .int .i64 0, .int .u64 0, .bool false, .int .i64 0, .int .i64 0, .slice none 0 0], none⟩ <|
    .st ⟨none, .st 16 (.tmp 13) (.tmp 35), none⟩ <|
    .st ⟨some 14, .mv (.tmp 36), none⟩ <|
    .done)) <|
  .seq (.ops (
    .st ⟨some 37, .ld (some 2) (.tmp 7), none⟩ <|
    .st ⟨some 38, .fa 1 (.tmp 6), none⟩ <|
    .st ⟨some 39, .ld (some 2) (.tmp 38), none⟩ <|
    .st ⟨some 40, .eqs false [.i, .i] (.tmp 37) (.tmp 39), none⟩ <|
    .st ⟨some 41, .mv (.tmp 40), none⟩ <|
    .st ⟨some 42, .mv (.tmp 12), some (41, true)⟩ <|
    .st ⟨some 43, .bini .eql (.tmp 42) (.const (.int .i64 0)), some (41, true)⟩ <|
    .st ⟨some 44, .pick (.tmp 41) (.tmp 43) (.const (.bool false)), none⟩ <|
    .st ⟨some 45, .mv (.tmp 44), none⟩ <|
    .st ⟨some 46, .mv (.tmp 11), some (45, false)⟩ <|
    .st ⟨some 47, .mv (.tmp 14), some (45, false)⟩ <|
    .st ⟨some 48, .cmp .b false (.tmp 46) (.tmp 47), some (45, false)⟩ <|
    .st ⟨some 49, .mv (.tmp 48), some (45, false)⟩ <|
    .st ⟨some 50, .ld (some 16) (.tmp 10), some (49, true)⟩ <|
    .st ⟨some 51, .ld (some 16) (.tmp 13), some (49, true)⟩ <|
    .st ⟨some 52, .call (.func 28) [.tmp 50, .tmp 51], some (49, true)⟩ <|
    .st ⟨some 53, .pick (.tmp 49) (.tmp 52) (.const (.bool false)), some (45, false)⟩ <|
    .st ⟨some 54, .pick (.tmp 45) (.const (.bool true)) (.tmp 53), none⟩ <|
    .st ⟨some 8, .mv (.tmp 54), none⟩ <|
    .done)) <|
  .ret
theorem b8 : bodyOf Try.prog 8 = some (55, [.t 8], c8) := by kernel_rfl
theorem k8 : callOk Try.prog 8 = true := by kernel_rfl

/-- leapfrog/leapfroglaw08.LinkAgain -/
def c9 : CC :=
  .seq (.ops (
    .st ⟨some 6, .box 60 (.tmp 0), none⟩ <|
    .st ⟨some 8, .box 55 (.tmp 2), none⟩ <|
    .st ⟨some 9, .box 60 (.tmp 3), none⟩ <|
    .st ⟨some 10, .box 60 (.tmp 4), none⟩ <|
    .st ⟨some 11, .box 29 (.tmp 5), none⟩ <|
    .st ⟨some 12, .mv (.const (.bool false)), none⟩ <|
    .done)) <|
  .seq (.seq (.ops (
    .st ⟨some 26, .call (.func 26) [], none⟩ <|
    .st ⟨some 27, .un .not (.tmp 26), none⟩ <|
    .done)) <|
  .cond (.tmp 27) (.seq (.ops (
      .st ⟨some 12, .mv (.const (.bool false)), none⟩ <|
      .done)) <|
    .ret) (.skip)) <|
  .seq (.ops (
    .st ⟨some 28, .ld (some 5) (.tmp 6), none⟩ <|
    .st ⟨some 29, .mv (.tmp 1), none⟩ <|
    .st ⟨some 30, .call (.func 29) [.tmp 28, .tmp 29], none⟩ <|
    .st ⟨some 13, .mv (.tmp 30), none⟩ <|
    .done)) <|
  .seq (.seq (.ops (
    .st ⟨some 31, .mv (.tmp 13), none⟩ <|
    .st ⟨some 32, .cmp .p false (.tmp 31) (.const (.pointer none)), none⟩ <|
    .done)) <|
  .cond (.tmp 32) (.seq (.ops (
      .st ⟨some 12, .mv (.const (.bool true)), none⟩ <|
      .done)) <|
    .ret) (.skip)) <|
  .seq (.ops (
    .st ⟨some 34, .mv (.tmp 13), none⟩ <|
    .st ⟨some 35, .ld (some 2) (.tmp 8), none⟩ <|
    .st ⟨some 36, .call (.func 30) [.tmp 34, .tmp 35], none⟩ <|
    .st ⟨some 33, .mv (.tmp 36), none⟩ <|
    .st ⟨some 37, .ext (.tmp 33) 0, none⟩ <|
    .st ⟨some 38, .ext (.tmp 33) 1, none⟩ <|
    .st ⟨some 14, .new 62 #[.int .i64 0, .int .u64 0, .int .i64 0, .int .i64 0, .int .u64 0, .int .i64 0, .int .u64 0, .int .i64 0, .int .i64 0, .int .u64 0, .int .i64 0, .int .u64 0, .bool false, .int .i64 0, .int .i64 0, .slice none 0 0], none⟩ <|
    .st ⟨none, .st 16 (.tmp 14) (.tmp 37), none⟩ <|
    .st ⟨some 15, .mv (.tmp 38), none⟩ <|
    .done)) <|
  .seq (.seq (.ops (
    .st ⟨some 39, .mv (.tmp 15), none⟩ <|
    .done)) <|
  .cond (.tmp 39) (.seq (.ops (
      .st ⟨some 41, .mv (.tmp 13), none⟩ <|
      .st ⟨some 42, .ld (some 2) (.tmp 8), none⟩ <|
      .st ⟨some 43, .fa 13 (.tmp 14), none⟩ <|
      .st ⟨some 44, .ld (some 2) (.tmp 43), none⟩ <|
      .st ⟨some 45, .call (.func 32) [.tmp 41, .tmp 42, .tmp 44], none⟩ <|
      .st ⟨some 40, .mv (.tmp 45), none⟩ <|
      .st ⟨some 46, .ext (.tmp 40) 0, none⟩ <|
      .st ⟨some 47, .ext (.tmp 40) 1, none⟩ <|
      .st ⟨some 16, .mv (.tmp 46), none⟩ <|
      .st ⟨some 17, .mv (.tmp 47), none⟩ <|
      .done)) <|
    .seq (.seq (.ops (
      .st ⟨some 48, .mv (.tmp 17), none⟩ <|
      .st ⟨some 49, .bini .eql (.tmp 48) (.const (.int .i64 0)), none⟩ <|
      .st ⟨some 50, .fa 12 (.tmp 14), none⟩ <|
      .st ⟨some 51, .ld none (.tmp 50), none⟩ <|
      .st ⟨some 52, .mv (.tmp 51), none⟩ <|
      .st ⟨some 53, .fa 1 (.tmp 6), some (52, true)⟩ <|
      .st ⟨some 54, .fa 0 (.tmp 53), some (52, true)⟩ <|
      .st ⟨some 55, .ld none (.tmp 54), some (52, true)⟩ <|
      .st ⟨some 56, .bini .eql (.tmp 55) (.const (.int .i64 2)), some (52, true)⟩ <|
      .st ⟨some 57, .pick (.tmp 52) (.tmp 56) (.const (.bool false)), none⟩ <|
      .st ⟨some 58, .cmp .b true (.tmp 49) (.tmp 57), none⟩ <|
      .done)) <|
    .cond (.tmp 58) (.seq (.ops (
        .st ⟨some 12, .mv (.const (.bool false)), none⟩ <|
        .done)) <|
      .ret) (.skip)) <|
    .seq (.ops (
      .st ⟨some 59, .mv (.tmp 17), none⟩ <|
      .st ⟨some 60, .bini .neq (.tmp 59) (.const (.int .i64 0)), none⟩ <|
      .done)) <|
    .cond (.tmp 60) (.seq (.ops (
        .st ⟨some 12, .mv (.const (.bool true)), none⟩ <|
        .done)) <|
      .ret) (.skip)) (.skip)) <|
  .seq (.ops (
    .st ⟨some 62, .ld (some 5) (.tmp 6), none⟩ <|
    .st ⟨some 63, .call (.func 33) [.tmp 62], none⟩ <|
    .st ⟨some 61, .mv (.tmp 63), none⟩ <|
    .st ⟨some 64, .ext (.tmp 61) 0, none⟩ <|
    .st ⟨some 65, .ext (.tmp 61) 1, none⟩ <|
    .st ⟨some 18, .mv (.tmp 64), none⟩ <|
    .st ⟨some 19, .mv (.tmp 65), none⟩ <|
    .done)) <|
  .seq (.ops (
    .st ⟨some 66, .mv (.tmp 13), none⟩ <|
    .st ⟨some 67, .ld (some 2) (.tmp 8), none⟩ <|
    .st ⟨some 68, .ld (some 5) (.tmp 9), none⟩ <|
    .st ⟨some 69, .ld (some 5) (.tmp 10), none⟩ <|
    .st ⟨some 70, .ld (some 2) (.tmp 11), none⟩ <|
    .st ⟨some 72, .mv (.tmp 18), none⟩ <|
    .st ⟨some 73, .ld (some 2) (.tmp 8), none⟩ <|
    .st ⟨some 74, .ld (some 5) (.tmp 9), none⟩ <|
    .st ⟨some 75, .ld (some 5) (.tmp 10), none⟩ <|
    .st ⟨some 76, .ld (some 2) (.tmp 11), none⟩ <|
    .st ⟨some 71, .call (.func 34) [.tmp 66, .tmp 67, .tmp 68, .tmp 69, .tmp 70], none⟩ <|
    .ag ⟨some 73, .ld (some 2) (.tmp 8), none⟩ <|
    .ag ⟨some 74, .ld (some 5) (.tmp 9), none⟩ <|
    .ag ⟨some 75, .ld (some 5) (.tmp 10), none⟩ <|
    .ag ⟨some 76, .ld (some 2) (.tmp 11), none⟩ <|
    .st ⟨some 77, .call (.func 34) [.tmp 72, .tmp 73, .tmp 74, .tmp 75, .tmp 76], none⟩ <|
    .st ⟨some 20, .mv (.tmp 71), none⟩ <|
    .st ⟨some 21, .mv (.tmp 77), none⟩ <|
    .done)) <|
  .seq (.ops (
    .st ⟨some 79, .mv (.tmp 13), none⟩ <|
    .st ⟨some 80, .ld (some 2) (.tmp 8), none⟩ <|
    .st ⟨some 81, .call (.func 30) [.tmp 79, .tmp 80], none⟩ <|
    .st ⟨some 78, .mv (.tmp 81), none⟩ <|
    .st ⟨some 82, .ext (.tmp 78) 0, none⟩ <|
    .st ⟨some 83, .ext (.tmp 78) 1, none⟩ <|
    .st ⟨some 22, .new 62 #[.int .i64 0, .int .u64 0, .int .i64 0, .int .i64 0, .int .u64 0, .int .i64 0, .int .u64 0, .int .i64 0, .int .i64 0, .int .u64 0, .int .i64 0, .int .u64 0, .bool false, .int .i64 0, .int .i64 0, .slice none 0 0], none⟩ <|
    .st ⟨none, .st 16 (.tmp 22) (.tmp 82), none⟩ <|
    .st ⟨some 23, .mv (.tmp 83), none⟩ <|
    .done)) <|
  .seq (.ops (
    .st ⟨some 85, .mv (.tmp 18), none⟩ <|
    .st ⟨some 86, .ld (some 2) (.tmp 8), none⟩ <|
    .st ⟨some 87, .call (.func 30) [.tmp 85, .tmp 86], none⟩ <|
    .st ⟨some 84, .mv (.tmp 87), none⟩ <|
    .st ⟨some 88, .ext (.tmp 84) 0, none⟩ <|
    .st ⟨some 89, .ext (.tmp 84) 1, none⟩ <|
    .st ⟨some 24, .new 62 #[.int .i64 0, .int .u64 0, .int .i64 0, .int .i64 0, .int .u64 0, .int .i64 0, .int .u64 0, .int .i64 0, .int .i64 0, .int .u64 0, .int .i64 0, .int .u64 0, .bool false, .int .i64 0, .int .i64 0, .slice none 0 0], none⟩ <|
    .st ⟨none, .st 16 (.tmp 24) (.tmp 88), none⟩ <|
    .st ⟨some 25, .mv (.tmp 89), none⟩ <|
    .done)) <|
  .seq (.ops (
    .st ⟨some 90, .mv (.tmp 20), none⟩ <|
    .st ⟨some 91, .mv (.tmp 21), none⟩ <|
    .st ⟨some 92, .bini .eql (.tmp 90) (.tmp 91), none⟩ <|
    .st ⟨some 93, .mv (.tmp 92), none⟩ <|
    .st ⟨some 94, .mv (.tmp 23), some (93, true)⟩ <|
    .st ⟨some 95, .mv (.tmp 25), some (93, true)⟩ <|
    .st ⟨some 96, .cmp .b false (.tmp 94) (.tmp 95), some (93, true)⟩ <|
    .st ⟨some 97, .pick (.tmp 93) (.tmp 96) (.const (.bool false)), none⟩ <|
    .st ⟨some 98, .mv (.tmp 97), none⟩ <|
    .st ⟨some 99, .ld (some 16) (.tmp 22), some (98, true)⟩ <|
    .st ⟨some 100, .ld (some 16) (.tmp 24), some (98, true)⟩ <|
    .st ⟨some 101, .call (.func 28) [.tmp 99, .tmp 100], some (98, true)⟩ <|
    .st ⟨some 102, .pick (.tmp 98) (.tmp 101) (.const (.bool false)), none⟩ <|
    .st ⟨some 12, .mv (.tmp 102), none⟩ <|
    .done)) <|
  .ret
theorem b9 : bodyOf Try.prog 9 = some (103, [.t 12], c9) := by kernel_rfl
theorem k9 : callOk Try.prog 9 = true := by kernel_rfl

end Go.Proofs.Ytojegknfbgflnaa
