/- The bodies of some functions of the program, without their noise, and that they are these. Conditions: none. Written by a program of this workplace (Print.lean). -/
import Derived.Test.YtojegknfbgflnaaProg
import Derived.Test.YtojegknfbgflnaaSlM
import Derived.KernelRfl
namespace Go.Proofs.Ytojegknfbgflnaa
open Go Go.SL
set_option maxRecDepth 100000

/-- leapfrog/lock.New -/
def c15 : CC :=
  .seq (.ops (
    .st ⟨some 0, .mv (.const (.pointer none)), none⟩ <|
    .done)) <|
  .seq (.ops (
    .st ⟨some 1, .agg [.c (.const (.bool true)) 0 1, .z (.bool false), .z (.int .i64 0), .z (.int .i64 0), .z (.slice none 0 0)], none⟩ <|
    .st ⟨some 2, .box 49 (.tmp 1), none⟩ <|
    .st ⟨some 0, .mv (.tmp 2), none⟩ <|
    .done)) <|
  .ret
theorem b15 : bodyOf Try.prog 15 = some (3, [.t 0], c15) := by kernel_rfl
theorem k15 : callOk Try.prog 15 = true := by kernel_rfl

/-- (*leapfrog/lock.Lock).Ask -/
def c16 : CC :=
  .seq (.ops (
    .st ⟨some 3, .box 29 (.tmp 1), none⟩ <|
    .st ⟨some 4, .mv (.const (.bool false)), none⟩ <|
    .st ⟨some 5, .mv (.const (.int .i64 0)), none⟩ <|
    .done)) <|
  .seq (.seq (.ops (
    .st ⟨some 7, .mv (.tmp 0), none⟩ <|
    .st ⟨some 8, .ld (some 2) (.tmp 3), none⟩ <|
    .st ⟨some 9, .call (.func 45) [.tmp 7, .tmp 8], none⟩ <|
    .st ⟨some 6, .mv (.tmp 9), none⟩ <|
    .done)) <|
  .seq (.ops (
    .st ⟨some 10, .mv (.tmp 6), none⟩ <|
    .st ⟨some 11, .bini .neq (.tmp 10) (.const (.int .i64 0)), none⟩ <|
    .done)) <|
  .cond (.tmp 11) (.seq (.ops (
      .st ⟨some 12, .mv (.tmp 6), none⟩ <|
      .st ⟨some 4, .mv (.const (.bool false)), none⟩ <|
      .st ⟨some 5, .mv (.tmp 12), none⟩ <|
      .done)) <|
    .ret) (.skip)) <|
  .seq (.block 0 (.seq (.ops (
      .st ⟨some 14, .mv (.tmp 0), none⟩ <|
      .st ⟨some 15, .nilc (.tmp 14), none⟩ <|
      .st ⟨some 16, .fa 1 (.tmp 15), none⟩ <|
      .st ⟨some 17, .ld none (.tmp 16), none⟩ <|
      .st ⟨some 18, .mv (.tmp 17), none⟩ <|
      .st ⟨some 19, .mv (.tmp 0), some (18, true)⟩ <|
      .st ⟨some 20, .nilc (.tmp 19), some (18, true)⟩ <|
      .st ⟨some 21, .fa 2 (.tmp 20), some (18, true)⟩ <|
      .st ⟨some 22, .ld (some 2) (.tmp 21), some (18, true)⟩ <|
      .st ⟨some 23, .ld (some 2) (.tmp 3), some (18, true)⟩ <|
      .st ⟨some 24, .eqs false [.i, .i] (.tmp 22) (.tmp 23), some (18, true)⟩ <|
      .st ⟨some 25, .pick (.tmp 18) (.tmp 24) (.const (.bool false)), none⟩ <|
      .st ⟨some 13, .mv (.tmp 25), none⟩ <|
      .done)) <|
    .cond (.tmp 13) (.seq (.ops (
        .st ⟨some 4, .mv (.const (.bool true)), none⟩ <|
        .st ⟨some 5, .mv (.const (.int .i64 0)), none⟩ <|
        .done)) <|
      .ret) (.seq (.ops (
        .st ⟨some 27, .mv (.tmp 0), none⟩ <|
        .st ⟨some 28, .nilc (.tmp 27), none⟩ <|
        .st ⟨some 29, .fa 4 (.tmp 28), none⟩ <|
        .st ⟨some 30, .ld none (.tmp 29), none⟩ <|
        .st ⟨some 31, .ld (some 2) (.tmp 3), none⟩ <|
        .st ⟨some 32, .call (.func 46) [.tmp 30, .tmp 31], none⟩ <|
        .st ⟨some 26, .mv (.tmp 32), none⟩ <|
        .done)) <|
      .cond (.tmp 26) (.seq (.ops (
          .st ⟨some 4, .mv (.const (.bool false)), none⟩ <|
          .st ⟨some 5, .mv (.const (.int .i64 0)), none⟩ <|
          .done)) <|
        .ret) (.seq (.ops (
          .st ⟨some 34, .mv (.tmp 0), none⟩ <|
          .st ⟨some 35, .nilc (.tmp 34), none⟩ <|
          .st ⟨some 36, .fa 1 (.tmp 35), none⟩ <|
          .st ⟨some 37, .ld none (.tmp 36), none⟩ <|
          .st ⟨some 38, .un .not (.tmp 37), none⟩ <|
          .st ⟨some 33, .mv (.tmp 38), none⟩ <|
          .done)) <|
        .cond (.tmp 33) (.seq (.ops (
            .st ⟨some 39, .mv (.tmp 0), none⟩ <|
            .st ⟨some 40, .mv (.tmp 0), none⟩ <|
            .st ⟨some 41, .ld (some 2) (.tmp 3), none⟩ <|
            .st ⟨some 42, .nilc (.tmp 39), none⟩ <|
            .st ⟨some 43, .fa 1 (.tmp 42), none⟩ <|
            .st ⟨none, .st 1 (.tmp 43) (.const (.bool true)), none⟩ <|
            .ag ⟨some 41, .ld (some 2) (.tmp 3), none⟩ <|
            .st ⟨some 44, .nilc (.tmp 40), none⟩ <|
            .st ⟨some 45, .fa 2 (.tmp 44), none⟩ <|
            .st ⟨none, .st 2 (.tmp 45) (.tmp 41), none⟩ <|
            .done)) <|
          .seq (.ops (
            .st ⟨some 4, .mv (.const (.bool true)), none⟩ <|
            .st ⟨some 5, .mv (.const (.int .i64 0)), none⟩ <|
            .done)) <|
          .ret) (.seq (.ops (
            .st ⟨some 47, .mv (.tmp 0), none⟩ <|
            .st ⟨some 48, .nilc (.tmp 47), none⟩ <|
            .st ⟨some 49, .fa 4 (.tmp 48), none⟩ <|
            .st ⟨some 50, .ld none (.tmp 49), none⟩ <|
            .st ⟨some 51, .ln (.tmp 50), none⟩ <|
            .st ⟨some 52, .bini .geq (.tmp 51) (.const (.int .i64 64)), none⟩ <|
            .st ⟨some 46, .mv (.tmp 52), none⟩ <|
            .done)) <|
          .cond (.tmp 46) (.seq (.ops (
              .st ⟨some 4, .mv (.const (.bool false)), none⟩ <|
              .st ⟨some 5, .mv (.const (.int .i64 3)), none⟩ <|
              .done)) <|
            .ret) (.skip)))))) <|
  .seq (.ops (
    .st ⟨some 53, .mv (.tmp 0), none⟩ <|
    .st ⟨some 54, .mv (.tmp 0), none⟩ <|
    .st ⟨some 55, .nilc (.tmp 54), none⟩ <|
    .st ⟨some 56, .fa 4 (.tmp 55), none⟩ <|
    .st ⟨some 57, .ld none (.tmp 56), none⟩ <|
    .st ⟨some 58, .mv (.tmp 0), none⟩ <|
    .st ⟨some 59, .nilc (.tmp 58), none⟩ <|
    .st ⟨some 60, .fa 4 (.tmp 59), none⟩ <|
    .st ⟨some 61, .ld none (.tmp 60), none⟩ <|
    .st ⟨some 62, .ln (.tmp 61), none⟩ <|
    .st ⟨some 63, .mv (.tmp 0), none⟩ <|
    .st ⟨some 64, .nilc (.tmp 63), none⟩ <|
    .st ⟨some 65, .fa 4 (.tmp 64), none⟩ <|
    .st ⟨some 66, .ld none (.tmp 65), none⟩ <|
    .st ⟨some 67, .ln (.tmp 66), none⟩ <|
    .st ⟨some 68, .sl 2 (.tmp 57) none (some (.tmp 62)) (some (.tmp 67)), none⟩ <|
    .st ⟨some 69, .ld (some 2) (.tmp 3), none⟩ <|
    .st ⟨some 70, .bsl 29 [.c (.tmp 69) 0 2, .c (.tmp 69) 1 2] 1, none⟩ <|
    .st ⟨some 71, .ap 29 2 16 #[.int .i64 0, .int .i64 0] (.tmp 68) (.tmp 70), none⟩ <|
    .st ⟨some 72, .nilc (.tmp 53), none⟩ <|
    .st ⟨some 73, .fa 4 (.tmp 72), none⟩ <|
    .st ⟨none, .st 1 (.tmp 73) (.tmp 71), none⟩ <|
    .done)) <|
  .seq (.ops (
    .st ⟨some 4, .mv (.const (.bool false)), none⟩ <|
    .st ⟨some 5, .mv (.const (.int .i64 0)), none⟩ <|
    .done)) <|
  .ret
theorem b16 : bodyOf Try.prog 16 = some (74, [.t 4, .t 5], c16) := by kernel_rfl
theorem k16 : callOk Try.prog 16 = true := by kernel_rfl

/-- (*leapfrog/lock.Lock).Waits -/
def c17 : CC :=
  .seq (.ops (
    .st ⟨some 2, .mv (.const (.slice none 0 0)), none⟩ <|
    .done)) <|
  .seq (.seq (.ops (
    .st ⟨some 3, .mv (.tmp 0), none⟩ <|
    .st ⟨some 4, .call (.func 47) [.tmp 3], none⟩ <|
    .st ⟨some 5, .un .not (.tmp 4), none⟩ <|
    .done)) <|
  .cond (.tmp 5) (.seq (.ops (
      .st ⟨some 2, .mv (.const (.slice none 0 0)), none⟩ <|
      .done)) <|
    .ret) (.skip)) <|
  .seq (.ops (
    .st ⟨some 6, .mv (.tmp 0), none⟩ <|
    .st ⟨some 7, .nilc (.tmp 6), none⟩ <|
    .st ⟨some 8, .fa 4 (.tmp 7), none⟩ <|
    .st ⟨some 9, .ld none (.tmp 8), none⟩ <|
    .st ⟨some 10, .call (.func 48) [.tmp 9], none⟩ <|
    .st ⟨some 2, .mv (.tmp 10), none⟩ <|
    .done)) <|
  .ret
theorem b17 : bodyOf Try.prog 17 = some (11, [.t 2], c17) := by kernel_rfl
theorem k17 : callOk Try.prog 17 = true := by kernel_rfl

/-- (*leapfrog/lock.Lock).Free -/
def c18 : CC :=
  .seq (.ops (
    .st ⟨some 3, .box 29 (.tmp 1), none⟩ <|
    .st ⟨some 4, .new 29 #[.int .i64 0, .int .i64 0], none⟩ <|
    .st ⟨some 5, .mv (.const (.bool false)), none⟩ <|
    .st ⟨some 6, .mv (.const (.int .i64 0)), none⟩ <|
    .done)) <|
  .seq (.seq (.ops (
    .st ⟨some 8, .mv (.tmp 0), none⟩ <|
    .st ⟨some 9, .ld (some 2) (.tmp 3), none⟩ <|
    .st ⟨some 10, .call (.func 45) [.tmp 8, .tmp 9], none⟩ <|
    .st ⟨some 7, .mv (.tmp 10), none⟩ <|
    .done)) <|
  .seq (.ops (
    .st ⟨some 11, .mv (.tmp 7), none⟩ <|
    .st ⟨some 12, .bini .neq (.tmp 11) (.const (.int .i64 0)), none⟩ <|
    .done)) <|
  .cond (.tmp 12) (.seq (.ops (
      .st ⟨some 13, .agg [.z (.int .i64 0), .z (.int .i64 0)], none⟩ <|
      .st ⟨some 14, .mv (.tmp 7), none⟩ <|
      .st ⟨none, .st 2 (.tmp 4) (.tmp 13), none⟩ <|
      .st ⟨some 5, .mv (.const (.bool false)), none⟩ <|
      .st ⟨some 6, .mv (.tmp 14), none⟩ <|
      .done)) <|
    .ret) (.skip)) <|
  .seq (.seq (.ops (
    .st ⟨some 15, .mv (.tmp 0), none⟩ <|
    .st ⟨some 16, .nilc (.tmp 15), none⟩ <|
    .st ⟨some 17, .fa 1 (.tmp 16), none⟩ <|
    .st ⟨some 18, .ld none (.tmp 17), none⟩ <|
    .st ⟨some 19, .un .not (.tmp 18), none⟩ <|
    .st ⟨some 20, .mv (.tmp 19), none⟩ <|
    .st ⟨some 21, .mv (.tmp 0), some (20, false)⟩ <|
    .st ⟨some 22, .nilc (.tmp 21), some (20, false)⟩ <|
    .st ⟨some 23, .fa 2 (.tmp 22), some (20, false)⟩ <|
    .st ⟨some 24, .ld (some 2) (.tmp 23), some (20, false)⟩ <|
    .st ⟨some 25, .ld (some 2) (.tmp 3), some (20, false)⟩ <|
    .st ⟨some 26, .eqs true [.i, .i] (.tmp 24) (.tmp 25), some (20, false)⟩ <|
    .st ⟨some 27, .pick (.tmp 20) (.const (.bool true)) (.tmp 26), none⟩ <|
    .done)) <|
  .cond (.tmp 27) (.seq (.ops (
      .st ⟨some 28, .agg [.z (.int .i64 0), .z (.int .i64 0)], none⟩ <|
      .st ⟨none, .st 2 (.tmp 4) (.tmp 28), none⟩ <|
      .st ⟨some 5, .mv (.const (.bool false)), none⟩ <|
      .st ⟨some 6, .mv (.const (.int .i64 71)), none⟩ <|
      .done)) <|
    .ret) (.skip)) <|
  .seq (.seq (.ops (
    .st ⟨some 29, .mv (.tmp 0), none⟩ <|
    .st ⟨some 30, .nilc (.tmp 29), none⟩ <|
    .st ⟨some 31, .fa 4 (.tmp 30), none⟩ <|
    .st ⟨some 32, .ld none (.tmp 31), none⟩ <|
    .st ⟨some 33, .ln (.tmp 32), none⟩ <|
    .st ⟨some 34, .bini .eql (.tmp 33) (.const (.int .i64 0)), none⟩ <|
    .done)) <|
  .cond (.tmp 34) (.seq (.ops (
      .st ⟨some 35, .mv (.tmp 0), none⟩ <|
      .st ⟨some 36, .mv (.tmp 0), none⟩ <|
      .st ⟨some 37, .agg [.z (.int .i64 0), .z (.int .i64 0)], none⟩ <|
      .st ⟨some 38, .nilc (.tmp 35), none⟩ <|
      .st ⟨some 39, .fa 1 (.tmp 38), none⟩ <|
      .st ⟨none, .st 1 (.tmp 39) (.const (.bool false)), none⟩ <|
      .st ⟨some 40, .nilc (.tmp 36), none⟩ <|
      .st ⟨some 41, .fa 2 (.tmp 40), none⟩ <|
      .st ⟨none, .st 2 (.tmp 41) (.tmp 37), none⟩ <|
      .done)) <|
    .seq (.ops (
      .st ⟨some 42, .agg [.z (.int .i64 0), .z (.int .i64 0)], none⟩ <|
      .st ⟨none, .st 2 (.tmp 4) (.tmp 42), none⟩ <|
      .st ⟨some 5, .mv (.const (.bool false)), none⟩ <|
      .st ⟨some 6, .mv (.const (.int .i64 0)), none⟩ <|
      .done)) <|
    .ret) (.skip)) <|
  .seq (.ops (
    .st ⟨some 43, .mv (.tmp 0), none⟩ <|
    .st ⟨some 44, .mv (.tmp 0), none⟩ <|
    .st ⟨some 45, .mv (.tmp 0), none⟩ <|
    .st ⟨some 46, .nilc (.tmp 45), none⟩ <|
    .st ⟨some 47, .fa 4 (.tmp 46), none⟩ <|
    .st ⟨some 48, .ld none (.tmp 47), none⟩ <|
    .st ⟨some 49, .ia 2 (.tmp 48) (.const (.int .i64 0)), none⟩ <|
    .st ⟨some 50, .ld (some 2) (.tmp 49), none⟩ <|
    .st ⟨some 51, .mv (.tmp 0), none⟩ <|
    .st ⟨some 52, .nilc (.tmp 51), none⟩ <|
    .st ⟨some 53, .fa 4 (.tmp 52), none⟩ <|
    .st ⟨some 54, .ld none (.tmp 53), none⟩ <|
    .st ⟨some 55, .mv (.tmp 0), none⟩ <|
    .st ⟨some 56, .nilc (.tmp 55), none⟩ <|
    .st ⟨some 57, .fa 4 (.tmp 56), none⟩ <|
    .st ⟨some 58, .ld none (.tmp 57), none⟩ <|
    .st ⟨some 59, .ln (.tmp 58), none⟩ <|
    .st ⟨some 60, .mv (.tmp 0), none⟩ <|
    .st ⟨some 61, .nilc (.tmp 60), none⟩ <|
    .st ⟨some 62, .fa 4 (.tmp 61), none⟩ <|
    .st ⟨some 63, .ld none (.tmp 62), none⟩ <|
    .st ⟨some 64, .ln (.tmp 63), none⟩ <|
    .st ⟨some 65, .sl 2 (.tmp 54) (some (.const (.int .i64 1))) (some (.tmp 59)) (some (.tmp 64)), none⟩ <|
    .st ⟨some 66, .nilc (.tmp 43), none⟩ <|
    .st ⟨some 67, .fa 2 (.tmp 66), none⟩ <|
    .st ⟨none, .st 2 (.tmp 67) (.tmp 50), none⟩ <|
    .st ⟨some 68, .nilc (.tmp 44), none⟩ <|
    .st ⟨some 69, .fa 4 (.tmp 68), none⟩ <|
    .st ⟨none, .st 1 (.tmp 69) (.tmp 65), none⟩ <|
    .done)) <|
  .seq (.ops (
    .st ⟨some 70, .mv (.tmp 0), none⟩ <|
    .st ⟨some 71, .nilc (.tmp 70), none⟩ <|
    .st ⟨some 72, .fa 2 (.tmp 71), none⟩ <|
    .st ⟨some 73, .ld (some 2) (.tmp 72), none⟩ <|
    .st ⟨none, .st 2 (.tmp 4) (.tmp 73), none⟩ <|
    .st ⟨some 5, .mv (.const (.bool true)), none⟩ <|
    .st ⟨some 6, .mv (.const (.int .i64 0)), none⟩ <|
    .done)) <|
  .ret
theorem b18 : bodyOf Try.prog 18 = some (74, [.c 4 (some 2), .t 5, .t 6], c18) := by kernel_rfl
theorem k18 : callOk Try.prog 18 = true := by kernel_rfl

/-- (*leapfrog/lock.Lock).Leave -/
def c19 : CC :=
  .seq (.ops (
    .st ⟨some 3, .box 29 (.tmp 1), none⟩ <|
    .st ⟨some 4, .mv (.const (.bool false)), none⟩ <|
    .st ⟨some 5, .mv (.const (.int .i64 0)), none⟩ <|
    .done)) <|
  .seq (.seq (.ops (
    .st ⟨some 8, .mv (.tmp 0), none⟩ <|
    .st ⟨some 9, .ld (some 2) (.tmp 3), none⟩ <|
    .st ⟨some 10, .call (.func 45) [.tmp 8, .tmp 9], none⟩ <|
    .st ⟨some 6, .mv (.tmp 10), none⟩ <|
    .done)) <|
  .seq (.ops (
    .st ⟨some 11, .mv (.tmp 6), none⟩ <|
    .st ⟨some 12, .bini .neq (.tmp 11) (.const (.int .i64 0)), none⟩ <|
    .done)) <|
  .cond (.tmp 12) (.seq (.ops (
      .st ⟨some 13, .mv (.tmp 6), none⟩ <|
      .st ⟨some 4, .mv (.const (.bool false)), none⟩ <|
      .st ⟨some 5, .mv (.tmp 13), none⟩ <|
      .done)) <|
    .ret) (.skip)) <|
  .seq (.ops (
    .st ⟨some 14, .mv (.tmp 0), none⟩ <|
    .st ⟨some 15, .nilc (.tmp 14), none⟩ <|
    .st ⟨some 16, .fa 4 (.tmp 15), none⟩ <|
    .st ⟨some 17, .ld none (.tmp 16), none⟩ <|
    .st ⟨some 18, .ld (some 2) (.tmp 3), none⟩ <|
    .st ⟨some 19, .call (.func 49) [.tmp 17, .tmp 18], none⟩ <|
    .st ⟨some 7, .mv (.tmp 19), none⟩ <|
    .done)) <|
  .seq (.seq (.ops (
    .st ⟨some 20, .mv (.tmp 7), none⟩ <|
    .st ⟨some 21, .bini .lss (.tmp 20) (.const (.int .i64 0)), none⟩ <|
    .done)) <|
  .cond (.tmp 21) (.seq (.ops (
      .st ⟨some 4, .mv (.const (.bool false)), none⟩ <|
      .st ⟨some 5, .mv (.const (.int .i64 0)), none⟩ <|
      .done)) <|
    .ret) (.skip)) <|
  .seq (.ops (
    .st ⟨some 22, .mv (.tmp 0), none⟩ <|
    .st ⟨some 23, .mv (.tmp 0), none⟩ <|
    .st ⟨some 24, .nilc (.tmp 23), none⟩ <|
    .st ⟨some 25, .fa 4 (.tmp 24), none⟩ <|
    .st ⟨some 26, .ld none (.tmp 25), none⟩ <|
    .st ⟨some 27, .mv (.tmp 7), none⟩ <|
    .st ⟨some 28, .mv (.tmp 7), none⟩ <|
    .st ⟨some 29, .sl 2 (.tmp 26) none (some (.tmp 27)) (some (.tmp 28)), none⟩ <|
    .st ⟨some 30, .mv (.tmp 0), none⟩ <|
    .st ⟨some 31, .nilc (.tmp 30), none⟩ <|
    .st ⟨some 32, .fa 4 (.tmp 31), none⟩ <|
    .st ⟨some 33, .ld none (.tmp 32), none⟩ <|
    .st ⟨some 34, .mv (.tmp 7), none⟩ <|
    .st ⟨some 35, .bini .add (.tmp 34) (.const (.int .i64 1)), none⟩ <|
    .st ⟨some 36, .sl 2 (.tmp 33) (some (.tmp 35)) none none, none⟩ <|
    .st ⟨some 37, .ap 29 2 16 #[.int .i64 0, .int .i64 0] (.tmp 29) (.tmp 36), none⟩ <|
    .st ⟨some 38, .nilc (.tmp 22), none⟩ <|
    .st ⟨some 39, .fa 4 (.tmp 38), none⟩ <|
    .st ⟨none, .st 1 (.tmp 39) (.tmp 37), none⟩ <|
    .done)) <|
  .seq (.ops (
    .st ⟨some 4, .mv (.const (.bool true)), none⟩ <|
    .st ⟨some 5, .mv (.const (.int .i64 0)), none⟩ <|
    .done)) <|
  .ret
theorem b19 : bodyOf Try.prog 19 = some (40, [.t 4, .t 5], c19) := by kernel_rfl
theorem k19 : callOk Try.prog 19 = true := by kernel_rfl

/-- (*leapfrog/lock.Lock).Holder -/
def c20 : CC :=
  .seq (.ops (
    .st ⟨some 2, .new 29 #[.int .i64 0, .int .i64 0], none⟩ <|
    .st ⟨some 3, .mv (.const (.bool false)), none⟩ <|
    .done)) <|
  .seq (.seq (.ops (
    .st ⟨some 4, .mv (.tmp 0), none⟩ <|
    .st ⟨some 5, .call (.func 47) [.tmp 4], none⟩ <|
    .st ⟨some 6, .un .not (.tmp 5), none⟩ <|
    .done)) <|
  .cond (.tmp 6) (.seq (.ops (
      .st ⟨some 7, .agg [.z (.int .i64 0), .z (.int .i64 0)], none⟩ <|
      .st ⟨none, .st 2 (.tmp 2) (.tmp 7), none⟩ <|
      .st ⟨some 3, .mv (.const (.bool false)), none⟩ <|
      .done)) <|
    .ret) (.skip)) <|
  .seq (.ops (
    .st ⟨some 8, .mv (.tmp 0), none⟩ <|
    .st ⟨some 9, .nilc (.tmp 8), none⟩ <|
    .st ⟨some 10, .fa 2 (.tmp 9), none⟩ <|
    .st ⟨some 11, .ld (some 2) (.tmp 10), none⟩ <|
    .st ⟨some 12, .mv (.tmp 0), none⟩ <|
    .st ⟨some 13, .nilc (.tmp 12), none⟩ <|
    .st ⟨some 14, .fa 1 (.tmp 13), none⟩ <|
    .st ⟨some 15, .ld none (.tmp 14), none⟩ <|
    .st ⟨none, .st 2 (.tmp 2) (.tmp 11), none⟩ <|
    .ag ⟨some 15, .ld none (.tmp 14), none⟩ <|
    .st ⟨some 3, .mv (.tmp 15), none⟩ <|
    .done)) <|
  .ret
theorem b20 : bodyOf Try.prog 20 = some (16, [.c 2 (some 2), .t 3], c20) := by kernel_rfl
theorem k20 : callOk Try.prog 20 = true := by kernel_rfl

/-- (*leapfrog/lock.Lock).End -/
def c25 : CC :=
  .seq (.ops (
    .st ⟨some 2, .mv (.const (.slice none 0 0)), none⟩ <|
    .st ⟨some 3, .mv (.const (.int .i64 0)), none⟩ <|
    .done)) <|
  .seq (.seq (.ops (
    .st ⟨some 5, .mv (.tmp 0), none⟩ <|
    .st ⟨some 6, .call (.func 47) [.tmp 5], none⟩ <|
    .st ⟨some 7, .un .not (.tmp 6), none⟩ <|
    .done)) <|
  .cond (.tmp 7) (.seq (.ops (
      .st ⟨some 2, .mv (.const (.slice none 0 0)), none⟩ <|
      .st ⟨some 3, .mv (.const (.int .i64 4)), none⟩ <|
      .done)) <|
    .ret) (.skip)) <|
  .seq (.ops (
    .st ⟨some 8, .mv (.tmp 0), none⟩ <|
    .st ⟨some 9, .nilc (.tmp 8), none⟩ <|
    .st ⟨some 10, .fa 4 (.tmp 9), none⟩ <|
    .st ⟨some 11, .ld none (.tmp 10), none⟩ <|
    .st ⟨some 4, .mv (.tmp 11), none⟩ <|
    .done)) <|
  .seq (.ops (
    .st ⟨some 12, .mv (.tmp 0), none⟩ <|
    .st ⟨some 13, .mv (.tmp 0), none⟩ <|
    .st ⟨some 14, .mv (.tmp 0), none⟩ <|
    .st ⟨some 15, .agg [.z (.int .i64 0), .z (.int .i64 0)], none⟩ <|
    .st ⟨some 16, .nilc (.tmp 12), none⟩ <|
    .st ⟨some 17, .fa 1 (.tmp 16), none⟩ <|
    .st ⟨none, .st 1 (.tmp 17) (.const (.bool false)), none⟩ <|
    .st ⟨some 18, .nilc (.tmp 13), none⟩ <|
    .st ⟨some 19, .fa 2 (.tmp 18), none⟩ <|
    .st ⟨none, .st 2 (.tmp 19) (.tmp 15), none⟩ <|
    .st ⟨some 20, .nilc (.tmp 14), none⟩ <|
    .st ⟨some 21, .fa 4 (.tmp 20), none⟩ <|
    .st ⟨none, .st 1 (.tmp 21) (.const (.slice none 0 0)), none⟩ <|
    .done)) <|
  .seq (.ops (
    .st ⟨some 22, .mv (.tmp 4), none⟩ <|
    .st ⟨some 23, .call (.func 48) [.tmp 22], none⟩ <|
    .st ⟨some 2, .mv (.tmp 23), none⟩ <|
    .st ⟨some 3, .mv (.const (.int .i64 0)), none⟩ <|
    .done)) <|
  .ret
theorem b25 : bodyOf Try.prog 25 = some (24, [.t 2, .t 3], c25) := by kernel_rfl
theorem k25 : callOk Try.prog 25 = true := by kernel_rfl

/-- leapfrog/lock.Check -/
def c23 : CC :=
  .seq (.ops (
    .st ⟨some 1, .box 29 (.tmp 0), none⟩ <|
    .st ⟨some 2, .mv (.const (.int .i64 0)), none⟩ <|
    .done)) <|
  .seq (.seq (.ops (
    .st ⟨some 3, .fa 0 (.tmp 1), none⟩ <|
    .st ⟨some 4, .ld none (.tmp 3), none⟩ <|
    .st ⟨some 5, .bini .lss (.tmp 4) (.const (.int .i64 0)), none⟩ <|
    .st ⟨some 6, .mv (.tmp 5), none⟩ <|
    .st ⟨some 7, .fa 0 (.tmp 1), some (6, false)⟩ <|
    .st ⟨some 8, .ld none (.tmp 7), some (6, false)⟩ <|
    .st ⟨some 9, .bini .geq (.tmp 8) (.const (.int .i64 1024)), some (6, false)⟩ <|
    .st ⟨some 10, .pick (.tmp 6) (.const (.bool true)) (.tmp 9), none⟩ <|
    .st ⟨some 11, .mv (.tmp 10), none⟩ <|
    .st ⟨some 12, .fa 1 (.tmp 1), some (11, false)⟩ <|
    .st ⟨some 13, .ld none (.tmp 12), some (11, false)⟩ <|
    .st ⟨some 14, .bini .lss (.tmp 13) (.const (.int .i64 1)), some (11, false)⟩ <|
    .st ⟨some 15, .pick (.tmp 11) (.const (.bool true)) (.tmp 14), none⟩ <|
    .st ⟨some 16, .mv (.tmp 15), none⟩ <|
    .st ⟨some 17, .fa 1 (.tmp 1), some (16, false)⟩ <|
    .st ⟨some 18, .ld none (.tmp 17), some (16, false)⟩ <|
    .st ⟨some 19, .bini .gtr (.tmp 18) (.const (.int .i64 1073741824)), some (16, false)⟩ <|
    .st ⟨some 20, .pick (.tmp 16) (.const (.bool true)) (.tmp 19), none⟩ <|
    .done)) <|
  .cond (.tmp 20) (.seq (.ops (
      .st ⟨some 2, .mv (.const (.int .i64 70)), none⟩ <|
      .done)) <|
    .ret) (.skip)) <|
  .seq (.ops (
    .st ⟨some 2, .mv (.const (.int .i64 0)), none⟩ <|
    .done)) <|
  .ret
theorem b23 : bodyOf Try.prog 23 = some (21, [.t 2], c23) := by kernel_rfl
theorem k23 : callOk Try.prog 23 = true := by kernel_rfl

/-- (*leapfrog/lock.Lock).asked -/
def c45 : CC :=
  .seq (.ops (
    .st ⟨some 3, .box 29 (.tmp 1), none⟩ <|
    .st ⟨some 4, .mv (.const (.int .i64 0)), none⟩ <|
    .done)) <|
  .seq (.seq (.ops (
    .st ⟨some 5, .mv (.tmp 0), none⟩ <|
    .st ⟨some 6, .call (.func 47) [.tmp 5], none⟩ <|
    .st ⟨some 7, .un .not (.tmp 6), none⟩ <|
    .done)) <|
  .cond (.tmp 7) (.seq (.ops (
      .st ⟨some 4, .mv (.const (.int .i64 4)), none⟩ <|
      .done)) <|
    .ret) (.skip)) <|
  .seq (.ops (
    .st ⟨some 8, .ld (some 2) (.tmp 3), none⟩ <|
    .st ⟨some 9, .call (.func 23) [.tmp 8], none⟩ <|
    .st ⟨some 4, .mv (.tmp 9), none⟩ <|
    .done)) <|
  .ret
theorem b45 : bodyOf Try.prog 45 = some (10, [.t 4], c45) := by kernel_rfl
theorem k45 : callOk Try.prog 45 = true := by kernel_rfl

/-- (*leapfrog/lock.Lock).there -/
def c47 : CC :=
  .seq (.ops (
    .st ⟨some 2, .mv (.const (.bool false)), none⟩ <|
    .done)) <|
  .seq (.ops (
    .st ⟨some 3, .mv (.tmp 0), none⟩ <|
    .st ⟨some 4, .cmp .p true (.tmp 3) (.const (.pointer none)), none⟩ <|
    .st ⟨some 5, .mv (.tmp 4), none⟩ <|
    .st ⟨some 6, .mv (.tmp 0), some (5, true)⟩ <|
    .st ⟨some 7, .nilc (.tmp 6), some (5, true)⟩ <|
    .st ⟨some 8, .fa 0 (.tmp 7), some (5, true)⟩ <|
    .st ⟨some 9, .ld none (.tmp 8), some (5, true)⟩ <|
    .st ⟨some 10, .pick (.tmp 5) (.tmp 9) (.const (.bool false)), none⟩ <|
    .st ⟨some 2, .mv (.tmp 10), none⟩ <|
    .done)) <|
  .ret
theorem b47 : bodyOf Try.prog 47 = some (11, [.t 2], c47) := by kernel_rfl
theorem k47 : callOk Try.prog 47 = true := by kernel_rfl

/-- slices.Contains[[]leapfrog/api.Owner,leapfrog/api.Owner] -/
def c46 : CC :=
  .seq (.ops (
    .st ⟨some 3, .box 29 (.tmp 1), none⟩ <|
    .st ⟨some 4, .mv (.const (.bool false)), none⟩ <|
    .done)) <|
  .seq (.ops (
    .st ⟨some 5, .mv (.tmp 0), none⟩ <|
    .st ⟨some 6, .ld (some 2) (.tmp 3), none⟩ <|
    .st ⟨some 7, .call (.func 49) [.tmp 5, .tmp 6], none⟩ <|
    .st ⟨some 8, .bini .geq (.tmp 7) (.const (.int .i64 0)), none⟩ <|
    .st ⟨some 4, .mv (.tmp 8), none⟩ <|
    .done)) <|
  .ret
theorem b46 : bodyOf Try.prog 46 = some (9, [.t 4], c46) := by kernel_rfl
theorem k46 : callOk Try.prog 46 = true := by kernel_rfl

/-- slices.Clone[[]leapfrog/api.Owner,leapfrog/api.Owner] -/
def c48 : CC :=
  .seq (.ops (
    .st ⟨some 2, .mv (.const (.slice none 0 0)), none⟩ <|
    .done)) <|
  .seq (.seq (.ops (
    .st ⟨some 3, .mv (.tmp 0), none⟩ <|
    .st ⟨some 4, .cmp .sl false (.tmp 3) (.const (.slice none 0 0)), none⟩ <|
    .done)) <|
  .cond (.tmp 4) (.seq (.ops (
      .st ⟨some 2, .mv (.const (.slice none 0 0)), none⟩ <|
      .done)) <|
    .ret) (.skip)) <|
  .seq (.ops (
    .st ⟨some 5, .bsl 29 [] 0, none⟩ <|
    .st ⟨some 6, .mv (.tmp 0), none⟩ <|
    .st ⟨some 7, .ap 29 2 16 #[.int .i64 0, .int .i64 0] (.tmp 5) (.tmp 6), none⟩ <|
    .st ⟨some 2, .mv (.tmp 7), none⟩ <|
    .done)) <|
  .ret
theorem b48 : bodyOf Try.prog 48 = some (8, [.t 2], c48) := by kernel_rfl
theorem k48 : callOk Try.prog 48 = true := by kernel_rfl

/-- slices.Index[[]leapfrog/api.Owner,leapfrog/api.Owner] -/
def c49 : CC :=
  .seq (.ops (
    .st ⟨some 3, .box 29 (.tmp 1), none⟩ <|
    .st ⟨some 4, .mv (.const (.int .i64 0)), none⟩ <|
    .done)) <|
  .seq (.seq (.ops (
    .st ⟨some 6, .mv (.tmp 0), none⟩ <|
    .st ⟨some 7, .ln (.tmp 6), none⟩ <|
    .st ⟨some 8, .mv (.const (.int .i64 0)), none⟩ <|
    .done)) <|
  .block 0 (.loop (.seq (.ops (
        .st ⟨some 9, .bini .lss (.tmp 8) (.tmp 7), none⟩ <|
        .done)) <|
      .seq (.cond (.tmp 9) (.skip) (.exit 0)) <|
      .seq (.block 1 (.seq (.ops (
          .st ⟨some 10, .mv (.tmp 8), none⟩ <|
          .st ⟨some 5, .mv (.tmp 10), none⟩ <|
          .done)) <|
        .seq (.ops (
          .st ⟨some 11, .ld (some 2) (.tmp 3), none⟩ <|
          .st ⟨some 12, .mv (.tmp 0), none⟩ <|
          .st ⟨some 13, .mv (.tmp 5), none⟩ <|
          .st ⟨some 14, .ia 2 (.tmp 12) (.tmp 13), none⟩ <|
          .st ⟨some 15, .ld (some 2) (.tmp 14), none⟩ <|
          .st ⟨some 16, .eqs false [.i, .i] (.tmp 11) (.tmp 15), none⟩ <|
          .done)) <|
        .cond (.tmp 16) (.seq (.ops (
            .st ⟨some 17, .mv (.tmp 5), none⟩ <|
            .st ⟨some 4, .mv (.tmp 17), none⟩ <|
            .done)) <|
          .ret) (.skip))) <|
      .ops (
        .st ⟨some 18, .bini .add (.tmp 8) (.const (.int .i64 1)), none⟩ <|
        .st ⟨some 8, .mv (.tmp 18), none⟩ <|
        .done)))) <|
  .seq (.ops (
    .st ⟨some 4, .mv (.const (.int .i64 (-1))), none⟩ <|
    .done)) <|
  .ret
theorem b49 : bodyOf Try.prog 49 = some (19, [.t 4], c49) := by kernel_rfl
theorem k49 : callOk Try.prog 49 = true := by kernel_rfl

/-- leapfrog/leapfroglaw07.alive -/
def c14 : CC :=
  .seq (.ops (
    .st ⟨some 0, .mv (.const (.bool false)), none⟩ <|
    .done)) <|
  .seq (.ops (
    .st ⟨some 14, .call (.func 15) [], none⟩ <|
    .st ⟨some 1, .mv (.tmp 14), none⟩ <|
    .done)) <|
  .seq (.seq (.ops (
    .st ⟨some 15, .mv (.tmp 1), none⟩ <|
    .st ⟨some 16, .cmp .p false (.tmp 15) (.const (.pointer none)), none⟩ <|
    .done)) <|
  .cond (.tmp 16) (.seq (.ops (
      .st ⟨some 0, .mv (.const (.bool false)), none⟩ <|
      .done)) <|
    .ret) (.skip)) <|
  .seq (.ops (
    .st ⟨some 17, .agg [.z (.int .i64 0), .c (.const (.int .i64 1)) 0 1], none⟩ <|
    .st ⟨some 18, .agg [.z (.int .i64 0), .c (.const (.int .i64 2)) 0 1], none⟩ <|
    .st ⟨some 19, .agg [.c (.const (.int .i64 3)) 0 1, .c (.const (.int .i64 1)) 0 1], none⟩ <|
    .st ⟨some 2, .new 29 #[.int .i64 0, .int .i64 0], none⟩ <|
    .st ⟨some 3, .new 29 #[.int .i64 0, .int .i64 0], none⟩ <|
    .st ⟨some 4, .new 29 #[.int .i64 0, .int .i64 0], none⟩ <|
    .st ⟨none, .st 2 (.tmp 2) (.tmp 17), none⟩ <|
    .st ⟨none, .st 2 (.tmp 3) (.tmp 18), none⟩ <|
    .st ⟨none, .st 2 (.tmp 4) (.tmp 19), none⟩ <|
    .done)) <|
  .seq (.ops (
    .st ⟨some 21, .mv (.tmp 1), none⟩ <|
    .st ⟨some 22, .ld (some 2) (.tmp 2), none⟩ <|
    .st ⟨some 23, .call (.func 16) [.tmp 21, .tmp 22], none⟩ <|
    .st ⟨some 20, .mv (.tmp 23), none⟩ <|
    .st ⟨some 24, .ext (.tmp 20) 0, none⟩ <|
    .st ⟨some 25, .ext (.tmp 20) 1, none⟩ <|
    .st ⟨some 5, .mv (.tmp 24), none⟩ <|
    .st ⟨some 6, .mv (.tmp 25), none⟩ <|
    .done)) <|
  .seq (.ops (
    .st ⟨some 27, .mv (.tmp 1), none⟩ <|
    .st ⟨some 28, .ld (some 2) (.tmp 3), none⟩ <|
    .st ⟨some 29, .call (.func 16) [.tmp 27, .tmp 28], none⟩ <|
    .st ⟨some 26, .mv (.tmp 29), none⟩ <|
    .st ⟨some 30, .ext (.tmp 26) 0, none⟩ <|
    .st ⟨some 31, .ext (.tmp 26) 1, none⟩ <|
    .st ⟨some 7, .mv (.tmp 30), none⟩ <|
    .st ⟨some 8, .mv (.tmp 31), none⟩ <|
    .done)) <|
  .seq (.ops (
    .st ⟨some 32, .mv (.tmp 1), none⟩ <|
    .st ⟨some 33, .ld (some 2) (.tmp 4), none⟩ <|
    .st ⟨some 34, .call (.func 16) [.tmp 32, .tmp 33], none⟩ <|
    .done)) <|
  .seq (.ops (
    .st ⟨some 36, .mv (.tmp 1), none⟩ <|
    .st ⟨some 37, .ld (some 2) (.tmp 3), none⟩ <|
    .st ⟨some 38, .call (.func 19) [.tmp 36, .tmp 37], none⟩ <|
    .st ⟨some 35, .mv (.tmp 38), none⟩ <|
    .st ⟨some 39, .ext (.tmp 35) 0, none⟩ <|
    .st ⟨some 40, .ext (.tmp 35) 1, none⟩ <|
    .st ⟨some 9, .mv (.tmp 39), none⟩ <|
    .st ⟨some 10, .mv (.tmp 40), none⟩ <|
    .done)) <|
  .seq (.ops (
    .st ⟨some 42, .mv (.tmp 1), none⟩ <|
    .st ⟨some 43, .ld (some 2) (.tmp 2), none⟩ <|
    .st ⟨some 44, .call (.func 18) [.tmp 42, .tmp 43], none⟩ <|
    .st ⟨some 41, .mv (.tmp 44), none⟩ <|
    .st ⟨some 45, .ext (.tmp 41) 0, none⟩ <|
    .st ⟨some 46, .ext (.tmp 41) 1, none⟩ <|
    .st ⟨some 47, .ext (.tmp 41) 2, none⟩ <|
    .st ⟨some 11, .new 29 #[.int .i64 0, .int .i64 0], none⟩ <|
    .st ⟨none, .st 2 (.tmp 11) (.tmp 45), none⟩ <|
    .st ⟨some 12, .mv (.tmp 46), none⟩ <|
    .st ⟨some 13, .mv (.tmp 47), none⟩ <|
    .done)) <|
  .seq (.ops (
    .st ⟨some 48, .mv (.tmp 5), none⟩ <|
    .st ⟨some 49, .mv (.tmp 48), none⟩ <|
    .st ⟨some 50, .mv (.tmp 7), some (49, true)⟩ <|
    .st ⟨some 51, .un .not (.tmp 50), some (49, true)⟩ <|
    .st ⟨some 52, .pick (.tmp 49) (.tmp 51) (.const (.bool false)), none⟩ <|
    .st ⟨some 53, .mv (.tmp 52), none⟩ <|
    .st ⟨some 54, .mv (.tmp 9), some (53, true)⟩ <|
    .st ⟨some 55, .pick (.tmp 53) (.tmp 54) (.const (.bool false)), none⟩ <|
    .st ⟨some 56, .mv (.tmp 55), none⟩ <|
    .st ⟨some 57, .mv (.tmp 6), some (56, true)⟩ <|
    .st ⟨some 58, .bini .eql (.tmp 57) (.const (.int .i64 0)), some (56, true)⟩ <|
    .st ⟨some 59, .pick (.tmp 56) (.tmp 58) (.const (.bool false)), none⟩ <|
    .st ⟨some 60, .mv (.tmp 59), none⟩ <|
    .st ⟨some 61, .mv (.tmp 8), some (60, true)⟩ <|
    .st ⟨some 62, .bini .eql (.tmp 61) (.const (.int .i64 0)), some (60, true)⟩ <|
    .st ⟨some 63, .pick (.tmp 60) (.tmp 62) (.const (.bool false)), none⟩ <|
    .st ⟨some 64, .mv (.tmp 63), none⟩ <|
    .st ⟨some 65, .mv (.tmp 10), some (64, true)⟩ <|
    .st ⟨some 66, .bini .eql (.tmp 65) (.const (.int .i64 0)), some (64, true)⟩ <|
    .st ⟨some 67, .pick (.tmp 64) (.tmp 66) (.const (.bool false)), none⟩ <|
    .st ⟨some 68, .mv (.tmp 67), none⟩ <|
    .st ⟨some 69, .mv (.tmp 13), some (68, true)⟩ <|
    .st ⟨some 70, .bini .eql (.tmp 69) (.const (.int .i64 0)), some (68, true)⟩ <|
    .st ⟨some 71, .pick (.tmp 68) (.tmp 70) (.const (.bool false)), none⟩ <|
    .st ⟨some 72, .mv (.tmp 71), none⟩ <|
    .st ⟨some 73, .mv (.tmp 12), some (72, true)⟩ <|
    .st ⟨some 74, .pick (.tmp 72) (.tmp 73) (.const (.bool false)), none⟩ <|
    .st ⟨some 75, .mv (.tmp 74), none⟩ <|
    .st ⟨some 76, .ld (some 2) (.tmp 11), some (75, true)⟩ <|
    .st ⟨some 77, .ld (some 2) (.tmp 4), some (75, true)⟩ <|
    .st ⟨some 78, .eqs false [.i, .i] (.tmp 76) (.tmp 77), some (75, true)⟩ <|
    .st ⟨some 79, .pick (.tmp 75) (.tmp 78) (.const (.bool false)), none⟩ <|
    .st ⟨some 80, .mv (.tmp 79), none⟩ <|
    .st ⟨some 81, .mv (.tmp 1), some (80, true)⟩ <|
    .st ⟨some 82, .call (.func 17) [.tmp 81], some (80, true)⟩ <|
    .st ⟨some 83, .ln (.tmp 82), some (80, true)⟩ <|
    .st ⟨some 84, .bini .eql (.tmp 83) (.const (.int .i64 0)), some (80, true)⟩ <|
    .st ⟨some 85, .pick (.tmp 80) (.tmp 84) (.const (.bool false)), none⟩ <|
    .st ⟨some 0, .mv (.tmp 85), none⟩ <|
    .done)) <|
  .ret
theorem b14 : bodyOf Try.prog 14 = some (86, [.t 0], c14) := by kernel_rfl
theorem k14 : callOk Try.prog 14 = true := by kernel_rfl

/-- leapfrog/leapfroglaw07.LockFull -/
def c3 : CC :=
  .seq (.ops (
    .st ⟨some 2, .mv (.const (.bool false)), none⟩ <|
    .done)) <|
  .seq (.seq (.ops (
    .st ⟨some 7, .mv (.tmp 0), none⟩ <|
    .st ⟨some 8, .bini .lss (.tmp 7) (.const (.int .i64 1)), none⟩ <|
    .st ⟨some 9, .mv (.tmp 8), none⟩ <|
    .st ⟨some 10, .mv (.tmp 0), some (9, false)⟩ <|
    .st ⟨some 11, .bini .gtr (.tmp 10) (.const (.int .i64 1024)), some (9, false)⟩ <|
    .st ⟨some 12, .pick (.tmp 9) (.const (.bool true)) (.tmp 11), none⟩ <|
    .done)) <|
  .cond (.tmp 12) (.seq (.ops (
      .st ⟨some 13, .call (.func 14) [], none⟩ <|
      .st ⟨some 2, .mv (.tmp 13), none⟩ <|
      .done)) <|
    .ret) (.skip)) <|
  .seq (.ops (
    .st ⟨some 14, .call (.func 15) [], none⟩ <|
    .st ⟨some 3, .mv (.tmp 14), none⟩ <|
    .done)) <|
  .seq (.seq (.ops (
    .st ⟨some 15, .mv (.tmp 3), none⟩ <|
    .st ⟨some 16, .cmp .p false (.tmp 15) (.const (.pointer none)), none⟩ <|
    .done)) <|
  .cond (.tmp 16) (.seq (.ops (
      .st ⟨some 2, .mv (.const (.bool false)), none⟩ <|
      .done)) <|
    .ret) (.skip)) <|
  .seq (.seq (.ops (
    .st ⟨some 4, .mv (.const (.int .i64 0)), none⟩ <|
    .done)) <|
  .block 0 (.loop (.seq (.seq (.ops (
        .st ⟨some 17, .mv (.tmp 4), none⟩ <|
        .st ⟨some 18, .mv (.tmp 0), none⟩ <|
        .st ⟨some 19, .bini .lss (.tmp 17) (.tmp 18), none⟩ <|
        .done)) <|
      .cond (.tmp 19) (.skip) (.exit 0)) <|
      .seq (.block 1 (.seq (.ops (
          .st ⟨some 23, .mv (.tmp 3), none⟩ <|
          .st ⟨some 24, .mv (.tmp 4), none⟩ <|
          .st ⟨some 25, .agg [.c (.tmp 24) 0 1, .c (.const (.int .i64 1)) 0 1], none⟩ <|
          .st ⟨some 26, .call (.func 16) [.tmp 23, .tmp 25], none⟩ <|
          .st ⟨some 22, .mv (.tmp 26), none⟩ <|
          .st ⟨some 27, .ext (.tmp 22) 0, none⟩ <|
          .st ⟨some 28, .ext (.tmp 22) 1, none⟩ <|
          .st ⟨some 5, .mv (.tmp 27), none⟩ <|
          .st ⟨some 6, .mv (.tmp 28), none⟩ <|
          .done)) <|
        .seq (.ops (
          .st ⟨some 29, .mv (.tmp 5), none⟩ <|
          .st ⟨some 30, .mv (.tmp 4), none⟩ <|
          .st ⟨some 31, .bini .eql (.tmp 30) (.const (.int .i64 0)), none⟩ <|
          .st ⟨some 32, .cmp .b true (.tmp 29) (.tmp 31), none⟩ <|
          .st ⟨some 33, .mv (.tmp 32), none⟩ <|
          .st ⟨some 34, .mv (.tmp 6), some (33, false)⟩ <|
          .st ⟨some 35, .bini .eql (.tmp 34) (.const (.int .i64 3)), some (33, false)⟩ <|
          .st ⟨some 36, .mv (.tmp 4), some (33, false)⟩ <|
          .st ⟨some 37, .bini .gtr (.tmp 36) (.const (.int .i64 64)), some (33, false)⟩ <|
          .st ⟨some 38, .cmp .b true (.tmp 35) (.tmp 37), some (33, false)⟩ <|
          .st ⟨some 39, .pick (.tmp 33) (.const (.bool true)) (.tmp 38), none⟩ <|
          .st ⟨some 40, .mv (.tmp 39), none⟩ <|
          .st ⟨some 41, .mv (.tmp 6), some (40, false)⟩ <|
          .st ⟨some 42, .bini .neq (.tmp 41) (.const (.int .i64 0)), some (40, false)⟩ <|
          .st ⟨some 43, .mv (.tmp 42), some (40, false)⟩ <|
          .st ⟨some 44, .mv (.tmp 6), some (43, true)⟩ <|
          .st ⟨some 45, .bini .neq (.tmp 44) (.const (.int .i64 3)), some (43, true)⟩ <|
          .st ⟨some 46, .pick (.tmp 43) (.tmp 45) (.const (.bool false)), some (40, false)⟩ <|
          .st ⟨some 47, .pick (.tmp 40) (.const (.bool true)) (.tmp 46), none⟩ <|
          .done)) <|
        .cond (.tmp 47) (.seq (.ops (
            .st ⟨some 2, .mv (.const (.bool false)), none⟩ <|
            .done)) <|
          .ret) (.skip))) <|
      .ops (
        .st ⟨some 20, .mv (.tmp 4), none⟩ <|
        .st ⟨some 21, .bini .add (.tmp 20) (.const (.int .i64 1)), none⟩ <|
        .st ⟨some 4, .mv (.tmp 21), none⟩ <|
        .done)))) <|
  .seq (.ops (
    .st ⟨some 48, .mv (.tmp 3), none⟩ <|
    .st ⟨some 49, .call (.func 17) [.tmp 48], none⟩ <|
    .st ⟨some 50, .ln (.tmp 49), none⟩ <|
    .st ⟨some 51, .mv (.tmp 0), none⟩ <|
    .st ⟨some 52, .bini .sub (.tmp 51) (.const (.int .i64 1)), none⟩ <|
    .st ⟨some 53, .mm false (.tmp 52) (.const (.int .i64 64)), none⟩ <|
    .st ⟨some 54, .bini .eql (.tmp 50) (.tmp 53), none⟩ <|
    .st ⟨some 55, .mv (.tmp 54), none⟩ <|
    .st ⟨some 56, .call (.func 14) [], some (55, true)⟩ <|
    .st ⟨some 57, .pick (.tmp 55) (.tmp 56) (.const (.bool false)), none⟩ <|
    .st ⟨some 2, .mv (.tmp 57), none⟩ <|
    .done)) <|
  .ret
theorem b3 : bodyOf Try.prog 3 = some (58, [.t 2], c3) := by kernel_rfl
theorem k3 : callOk Try.prog 3 = true := by kernel_rfl

/-- leapfrog/leapfroglaw07.LockTurns -/
def c4 : CC :=
  .seq (.ops (
    .st ⟨some 2, .mv (.const (.bool false)), none⟩ <|
    .done)) <|
  .seq (.ops (
    .st ⟨some 18, .call (.func 15) [], none⟩ <|
    .st ⟨some 3, .mv (.tmp 18), none⟩ <|
    .done)) <|
  .seq (.seq (.ops (
    .st ⟨some 19, .mv (.tmp 3), none⟩ <|
    .st ⟨some 20, .cmp .p false (.tmp 19) (.const (.pointer none)), none⟩ <|
    .done)) <|
  .cond (.tmp 20) (.seq (.ops (
      .st ⟨some 2, .mv (.const (.bool false)), none⟩ <|
      .done)) <|
    .ret) (.skip)) <|
  .seq (.ops (
    .st ⟨some 4, .mv (.const (.slice none 0 0)), none⟩ <|
    .done)) <|
  .seq (.seq (.ops (
    .st ⟨some 5, .mv (.const (.int .i64 0)), none⟩ <|
    .done)) <|
  .block 0 (.loop (.seq (.seq (.ops (
        .st ⟨some 21, .mv (.tmp 5), none⟩ <|
        .st ⟨some 22, .mv (.tmp 0), none⟩ <|
        .st ⟨some 23, .ln (.tmp 22), none⟩ <|
        .st ⟨some 24, .bini .lss (.tmp 21) (.tmp 23), none⟩ <|
        .st ⟨some 25, .mv (.tmp 24), none⟩ <|
        .st ⟨some 26, .mv (.tmp 5), some (25, true)⟩ <|
        .st ⟨some 27, .bini .lss (.tmp 26) (.const (.int .i64 150)), some (25, true)⟩ <|
        .st ⟨some 28, .pick (.tmp 25) (.tmp 27) (.const (.bool false)), none⟩ <|
        .done)) <|
      .cond (.tmp 28) (.skip) (.exit 0)) <|
      .seq (.block 1 (.seq (.ops (
          .st ⟨some 31, .mv (.tmp 0), none⟩ <|
          .st ⟨some 32, .mv (.tmp 5), none⟩ <|
          .st ⟨some 33, .ia 3 (.tmp 31) (.tmp 32), none⟩ <|
          .st ⟨some 34, .ld (some 3) (.tmp 33), none⟩ <|
          .st ⟨some 6, .new 35 #[.int .i64 0, .int .i64 0, .int .i64 0], none⟩ <|
          .st ⟨none, .st 3 (.tmp 6) (.tmp 34), none⟩ <|
          .done)) <|
        .seq (.ops (
          .st ⟨some 7, .mv (.const (.int .i64 (-1))), none⟩ <|
          .done)) <|
        .seq (.seq (.ops (
          .st ⟨some 8, .mv (.const (.int .i64 0)), none⟩ <|
          .done)) <|
        .block 2 (.loop (.seq (.seq (.ops (
              .st ⟨some 35, .mv (.tmp 8), none⟩ <|
              .st ⟨some 36, .mv (.tmp 4), none⟩ <|
              .st ⟨some 37, .ln (.tmp 36), none⟩ <|
              .st ⟨some 38, .bini .lss (.tmp 35) (.tmp 37), none⟩ <|
              .done)) <|
            .cond (.tmp 38) (.skip) (.exit 2)) <|
            .seq (.block 3 (.seq (.ops (
                .st ⟨some 41, .mv (.tmp 4), none⟩ <|
                .st ⟨some 42, .mv (.tmp 8), none⟩ <|
                .st ⟨some 43, .ia 2 (.tmp 41) (.tmp 42), none⟩ <|
                .st ⟨some 44, .ld (some 2) (.tmp 43), none⟩ <|
                .st ⟨some 45, .fa 1 (.tmp 6), none⟩ <|
                .st ⟨some 46, .ld (some 2) (.tmp 45), none⟩ <|
                .st ⟨some 47, .eqs false [.i, .i] (.tmp 44) (.tmp 46), none⟩ <|
                .done)) <|
              .cond (.tmp 47) (.ops (
                  .st ⟨some 48, .mv (.tmp 8), none⟩ <|
                  .st ⟨some 7, .mv (.tmp 48), none⟩ <|
                  .done)) (.skip))) <|
            .ops (
              .st ⟨some 39, .mv (.tmp 8), none⟩ <|
              .st ⟨some 40, .bini .add (.tmp 39) (.const (.int .i64 1)), none⟩ <|
              .st ⟨some 8, .mv (.tmp 40), none⟩ <|
              .done)))) <|
        .seq (.seq (.ops (
          .st ⟨some 49, .fa 0 (.tmp 6), none⟩ <|
          .st ⟨some 50, .ld none (.tmp 49), none⟩ <|
          .done)) <|
        .block 4 (.seq (.ops (
            .st ⟨some 52, .bini .eql (.tmp 50) (.const (.int .i64 1)), none⟩ <|
            .st ⟨some 51, .mv (.tmp 52), none⟩ <|
            .done)) <|
          .cond (.tmp 51) (.seq (.ops (
              .st ⟨some 54, .mv (.tmp 3), none⟩ <|
              .st ⟨some 55, .fa 1 (.tmp 6), none⟩ <|
              .st ⟨some 56, .ld (some 2) (.tmp 55), none⟩ <|
              .st ⟨some 57, .call (.func 16) [.tmp 54, .tmp 56], none⟩ <|
              .st ⟨some 53, .mv (.tmp 57), none⟩ <|
              .st ⟨some 58, .ext (.tmp 53) 0, none⟩ <|
              .st ⟨some 59, .ext (.tmp 53) 1, none⟩ <|
              .st ⟨some 9, .mv (.tmp 58), none⟩ <|
              .st ⟨some 10, .mv (.tmp 59), none⟩ <|
              .done)) <|
            .seq (.ops (
              .st ⟨some 60, .mv (.tmp 10), none⟩ <|
              .st ⟨some 61, .bini .eql (.tmp 60) (.const (.int .i64 0)), none⟩ <|
              .st ⟨some 62, .mv (.tmp 61), none⟩ <|
              .st ⟨some 63, .mv (.tmp 7), some (62, true)⟩ <|
              .st ⟨some 64, .bini .lss (.tmp 63) (.const (.int .i64 0)), some (62, true)⟩ <|
              .st ⟨some 65, .pick (.tmp 62) (.tmp 64) (.const (.bool false)), none⟩ <|
              .done)) <|
            .cond (.tmp 65) (.ops (
                .st ⟨some 66, .mv (.tmp 4), none⟩ <|
                .st ⟨some 67, .fa 1 (.tmp 6), none⟩ <|
                .st ⟨some 68, .ld (some 2) (.tmp 67), none⟩ <|
                .st ⟨some 69, .bsl 29 [.c (.tmp 68) 0 2, .c (.tmp 68) 1 2] 1, none⟩ <|
                .st ⟨some 70, .ap 29 2 16 #[.int .i64 0, .int .i64 0] (.tmp 66) (.tmp 69), none⟩ <|
                .st ⟨some 4, .mv (.tmp 70), none⟩ <|
                .done)) (.skip)) (.seq (.ops (
              .st ⟨some 72, .bini .eql (.tmp 50) (.const (.int .i64 2)), none⟩ <|
              .st ⟨some 71, .mv (.tmp 72), none⟩ <|
              .done)) <|
            .cond (.tmp 71) (.seq (.ops (
                .st ⟨some 74, .mv (.tmp 3), none⟩ <|
                .st ⟨some 75, .fa 1 (.tmp 6), none⟩ <|
                .st ⟨some 76, .ld (some 2) (.tmp 75), none⟩ <|
                .st ⟨some 77, .call (.func 18) [.tmp 74, .tmp 76], none⟩ <|
                .st ⟨some 73, .mv (.tmp 77), none⟩ <|
                .st ⟨some 78, .ext (.tmp 73) 0, none⟩ <|
                .st ⟨some 79, .ext (.tmp 73) 1, none⟩ <|
                .st ⟨some 80, .ext (.tmp 73) 2, none⟩ <|
                .st ⟨some 11, .new 29 #[.int .i64 0, .int .i64 0], none⟩ <|
                .st ⟨none, .st 2 (.tmp 11) (.tmp 78), none⟩ <|
                .st ⟨some 12, .mv (.tmp 79), none⟩ <|
                .st ⟨some 13, .mv (.tmp 80), none⟩ <|
                .done)) <|
              .seq (.seq (.ops (
                .st ⟨some 81, .mv (.tmp 13), none⟩ <|
                .st ⟨some 82, .bini .eql (.tmp 81) (.const (.int .i64 0)), none⟩ <|
                .st ⟨some 83, .mv (.tmp 7), none⟩ <|
                .st ⟨some 84, .bini .eql (.tmp 83) (.const (.int .i64 0)), none⟩ <|
                .st ⟨some 85, .cmp .b true (.tmp 82) (.tmp 84), none⟩ <|
                .done)) <|
              .cond (.tmp 85) (.seq (.ops (
                  .st ⟨some 2, .mv (.const (.bool false)), none⟩ <|
                  .done)) <|
                .ret) (.skip)) <|
              .seq (.ops (
                .st ⟨some 86, .mv (.tmp 7), none⟩ <|
                .st ⟨some 87, .bini .eql (.tmp 86) (.const (.int .i64 0)), none⟩ <|
                .done)) <|
              .cond (.tmp 87) (.ops (
                  .st ⟨some 88, .bsl 29 [] 0, none⟩ <|
                  .st ⟨some 89, .mv (.tmp 4), none⟩ <|
                  .st ⟨some 90, .sl 2 (.tmp 89) (some (.const (.int .i64 1))) none none, none⟩ <|
                  .st ⟨some 91, .ap 29 2 16 #[.int .i64 0, .int .i64 0] (.tmp 88) (.tmp 90), none⟩ <|
                  .st ⟨some 4, .mv (.tmp 91), none⟩ <|
                  .done)) (.skip)) (.seq (.ops (
                .st ⟨some 93, .bini .eql (.tmp 50) (.const (.int .i64 3)), none⟩ <|
                .st ⟨some 92, .mv (.tmp 93), none⟩ <|
                .done)) <|
              .cond (.tmp 92) (.seq (.ops (
                  .st ⟨some 95, .mv (.tmp 3), none⟩ <|
                  .st ⟨some 96, .fa 1 (.tmp 6), none⟩ <|
                  .st ⟨some 97, .ld (some 2) (.tmp 96), none⟩ <|
                  .st ⟨some 98, .call (.func 19) [.tmp 95, .tmp 97], none⟩ <|
                  .st ⟨some 94, .mv (.tmp 98), none⟩ <|
                  .st ⟨some 99, .ext (.tmp 94) 0, none⟩ <|
                  .st ⟨some 100, .ext (.tmp 94) 1, none⟩ <|
                  .st ⟨some 14, .mv (.tmp 99), none⟩ <|
                  .st ⟨some 15, .mv (.tmp 100), none⟩ <|
                  .done)) <|
                .seq (.seq (.ops (
                  .st ⟨some 101, .mv (.tmp 14), none⟩ <|
                  .st ⟨some 102, .mv (.tmp 7), none⟩ <|
                  .st ⟨some 103, .bini .gtr (.tmp 102) (.const (.int .i64 0)), none⟩ <|
                  .st ⟨some 104, .cmp .b true (.tmp 101) (.tmp 103), none⟩ <|
                  .done)) <|
                .cond (.tmp 104) (.seq (.ops (
                    .st ⟨some 2, .mv (.const (.bool false)), none⟩ <|
                    .done)) <|
                  .ret) (.skip)) <|
                .seq (.ops (
                  .st ⟨some 105, .mv (.tmp 7), none⟩ <|
                  .st ⟨some 106, .bini .gtr (.tmp 105) (.const (.int .i64 0)), none⟩ <|
                  .done)) <|
                .cond (.tmp 106) (.ops (
                    .st ⟨some 108, .mv (.tmp 4), none⟩ <|
                    .st ⟨some 109, .mv (.tmp 7), none⟩ <|
                    .st ⟨some 110, .sl 2 (.tmp 108) none (some (.tmp 109)) none, none⟩ <|
                    .st ⟨some 112, .mv (.tmp 4), none⟩ <|
                    .st ⟨some 113, .mv (.tmp 7), none⟩ <|
                    .st ⟨some 114, .bini .add (.tmp 113) (.const (.int .i64 1)), none⟩ <|
                    .st ⟨some 115, .sl 2 (.tmp 112) (some (.tmp 114)) none none, none⟩ <|
                    .st ⟨some 107, .bsl 29 [] 0, none⟩ <|
                    .st ⟨some 111, .ap 29 2 16 #[.int .i64 0, .int .i64 0] (.tmp 107) (.tmp 110), none⟩ <|
                    .st ⟨some 116, .ap 29 2 16 #[.int .i64 0, .int .i64 0] (.tmp 111) (.tmp 115), none⟩ <|
                    .st ⟨some 4, .mv (.tmp 116), none⟩ <|
                    .done)) (.skip)) (.exit 1))))) <|
        .seq (.ops (
          .st ⟨some 118, .mv (.tmp 3), none⟩ <|
          .st ⟨some 119, .call (.func 20) [.tmp 118], none⟩ <|
          .st ⟨some 117, .mv (.tmp 119), none⟩ <|
          .st ⟨some 120, .ext (.tmp 117) 0, none⟩ <|
          .st ⟨some 121, .ext (.tmp 117) 1, none⟩ <|
          .st ⟨some 16, .new 29 #[.int .i64 0, .int .i64 0], none⟩ <|
          .st ⟨none, .st 2 (.tmp 16) (.tmp 120), none⟩ <|
          .st ⟨some 17, .mv (.tmp 121), none⟩ <|
          .done)) <|
        .seq (.ops (
          .st ⟨some 122, .mv (.tmp 17), none⟩ <|
          .st ⟨some 123, .mv (.tmp 4), none⟩ <|
          .st ⟨some 124, .ln (.tmp 123), none⟩ <|
          .st ⟨some 125, .bini .gtr (.tmp 124) (.const (.int .i64 0)), none⟩ <|
          .st ⟨some 126, .cmp .b true (.tmp 122) (.tmp 125), none⟩ <|
          .st ⟨some 127, .mv (.tmp 126), none⟩ <|
          .st ⟨some 128, .mv (.tmp 17), some (127, false)⟩ <|
          .st ⟨some 129, .mv (.tmp 128), some (127, false)⟩ <|
          .st ⟨some 130, .ld (some 2) (.tmp 16), some (129, true)⟩ <|
          .st ⟨some 131, .mv (.tmp 4), some (129, true)⟩ <|
          .st ⟨some 132, .ia 2 (.tmp 131) (.const (.int .i64 0)), some (129, true)⟩ <|
          .st ⟨some 133, .ld (some 2) (.tmp 132), some (129, true)⟩ <|
          .st ⟨some 134, .eqs true [.i, .i] (.tmp 130) (.tmp 133), some (129, true)⟩ <|
          .st ⟨some 135, .mv (.tmp 134), some (129, true)⟩ <|
          .st ⟨some 136, .mv (.tmp 3), some (135, false)⟩ <|
          .st ⟨some 138, .mv (.tmp 4), some (135, false)⟩ <|
          .st ⟨some 139, .sl 2 (.tmp 138) (some (.const (.int .i64 1))) none none, some (135, false)⟩ <|
          .st ⟨some 137, .call (.func 17) [.tmp 136], some (135, false)⟩ <|
          .st ⟨some 140, .call (.func 21) [.tmp 137, .tmp 139], some (135, false)⟩ <|
          .st ⟨some 141, .un .not (.tmp 140), some (135, false)⟩ <|
          .st ⟨some 142, .pick (.tmp 135) (.const (.bool true)) (.tmp 141), some (129, true)⟩ <|
          .st ⟨some 143, .pick (.tmp 129) (.tmp 142) (.const (.bool false)), some (127, false)⟩ <|
          .st ⟨some 144, .pick (.tmp 127) (.const (.bool true)) (.tmp 143), none⟩ <|
          .st ⟨some 145, .mv (.tmp 144), none⟩ <|
          .st ⟨some 146, .mv (.tmp 17), some (145, false)⟩ <|
          .st ⟨some 147, .un .not (.tmp 146), some (145, false)⟩ <|
          .st ⟨some 148, .mv (.tmp 147), some (145, false)⟩ <|
          .st ⟨some 149, .mv (.tmp 3), some (148, true)⟩ <|
          .st ⟨some 150, .call (.func 17) [.tmp 149], some (148, true)⟩ <|
          .st ⟨some 151, .ln (.tmp 150), some (148, true)⟩ <|
          .st ⟨some 152, .bini .gtr (.tmp 151) (.const (.int .i64 0)), some (148, true)⟩ <|
          .st ⟨some 153, .pick (.tmp 148) (.tmp 152) (.const (.bool false)), some (145, false)⟩ <|
          .st ⟨some 154, .pick (.tmp 145) (.const (.bool true)) (.tmp 153), none⟩ <|
          .done)) <|
        .cond (.tmp 154) (.seq (.ops (
            .st ⟨some 2, .mv (.const (.bool false)), none⟩ <|
            .done)) <|
          .ret) (.skip))) <|
      .ops (
        .st ⟨some 29, .mv (.tmp 5), none⟩ <|
        .st ⟨some 30, .bini .add (.tmp 29) (.const (.int .i64 1)), none⟩ <|
        .st ⟨some 5, .mv (.tmp 30), none⟩ <|
        .done)))) <|
  .seq (.ops (
    .st ⟨some 155, .call (.func 14) [], none⟩ <|
    .st ⟨some 2, .mv (.tmp 155), none⟩ <|
    .done)) <|
  .ret
theorem b4 : bodyOf Try.prog 4 = some (156, [.t 2], c4) := by kernel_rfl
theorem k4 : callOk Try.prog 4 = true := by kernel_rfl

/-- leapfrog/leapfroglaw07.LockRuns -/
def c5 : CC :=
  .seq (.ops (
    .st ⟨some 2, .mv (.const (.bool false)), none⟩ <|
    .done)) <|
  .seq (.ops (
    .st ⟨some 8, .call (.func 15) [], none⟩ <|
    .st ⟨some 9, .agg [.z (.bool false), .z (.int .i64 0), .z (.int .i64 0), .z (.slice none 0 0)], none⟩ <|
    .st ⟨some 10, .box 44 (.tmp 9), none⟩ <|
    .st ⟨some 3, .mv (.tmp 8), none⟩ <|
    .st ⟨some 4, .mv (.tmp 10), none⟩ <|
    .done)) <|
  .seq (.seq (.ops (
    .st ⟨some 11, .mv (.tmp 3), none⟩ <|
    .st ⟨some 12, .cmp .p false (.tmp 11) (.const (.pointer none)), none⟩ <|
    .done)) <|
  .cond (.tmp 12) (.seq (.ops (
      .st ⟨some 2, .mv (.const (.bool false)), none⟩ <|
      .done)) <|
    .ret) (.skip)) <|
  .seq (.seq (.ops (
    .st ⟨some 5, .mv (.const (.int .i64 0)), none⟩ <|
    .done)) <|
  .block 0 (.loop (.seq (.seq (.ops (
        .st ⟨some 13, .mv (.tmp 5), none⟩ <|
        .st ⟨some 14, .mv (.tmp 0), none⟩ <|
        .st ⟨some 15, .ln (.tmp 14), none⟩ <|
        .st ⟨some 16, .bini .lss (.tmp 13) (.tmp 15), none⟩ <|
        .st ⟨some 17, .mv (.tmp 16), none⟩ <|
        .st ⟨some 18, .mv (.tmp 5), some (17, true)⟩ <|
        .st ⟨some 19, .bini .lss (.tmp 18) (.const (.int .i64 150)), some (17, true)⟩ <|
        .st ⟨some 20, .pick (.tmp 17) (.tmp 19) (.const (.bool false)), none⟩ <|
        .done)) <|
      .cond (.tmp 20) (.skip) (.exit 0)) <|
      .seq (.block 1 (.seq (.seq (.ops (
          .st ⟨some 23, .mv (.tmp 3), none⟩ <|
          .st ⟨some 24, .mv (.tmp 4), none⟩ <|
          .st ⟨some 25, .mv (.tmp 0), none⟩ <|
          .st ⟨some 26, .mv (.tmp 5), none⟩ <|
          .st ⟨some 27, .ia 3 (.tmp 25) (.tmp 26), none⟩ <|
          .st ⟨some 28, .ld (some 3) (.tmp 27), none⟩ <|
          .st ⟨some 29, .call (.func 22) [.tmp 23, .tmp 24, .tmp 28], none⟩ <|
          .st ⟨some 30, .un .not (.tmp 29), none⟩ <|
          .st ⟨some 31, .mv (.tmp 30), none⟩ <|
          .st ⟨some 32, .mv (.tmp 0), some (31, false)⟩ <|
          .st ⟨some 33, .mv (.tmp 5), some (31, false)⟩ <|
          .st ⟨some 34, .ia 3 (.tmp 32) (.tmp 33), some (31, false)⟩ <|
          .st ⟨some 35, .fa 1 (.tmp 34), some (31, false)⟩ <|
          .st ⟨some 36, .ld (some 2) (.tmp 35), some (31, false)⟩ <|
          .st ⟨some 39, .mv (.tmp 0), some (31, false)⟩ <|
          .st ⟨some 40, .mv (.tmp 5), some (31, false)⟩ <|
          .st ⟨some 41, .ia 3 (.tmp 39) (.tmp 40), some (31, false)⟩ <|
          .st ⟨some 42, .fa 1 (.tmp 41), some (31, false)⟩ <|
          .st ⟨some 43, .ld (some 2) (.tmp 42), some (31, false)⟩ <|
          .st ⟨some 37, .call (.func 23) [.tmp 36], some (31, false)⟩ <|
          .ag ⟨some 43, .ld (some 2) (.tmp 42), some (31, false)⟩ <|
          .st ⟨some 38, .bini .eql (.tmp 37) (.const (.int .i64 0)), some (31, false)⟩ <|
          .st ⟨some 44, .call (.func 24) [.tmp 43], some (31, false)⟩ <|
          .st ⟨some 45, .cmp .b true (.tmp 38) (.tmp 44), some (31, false)⟩ <|
          .st ⟨some 46, .pick (.tmp 31) (.const (.bool true)) (.tmp 45), none⟩ <|
          .done)) <|
        .cond (.tmp 46) (.seq (.ops (
            .st ⟨some 2, .mv (.const (.bool false)), none⟩ <|
            .done)) <|
          .ret) (.skip)) <|
        .seq (.ops (
          .st ⟨some 48, .mv (.tmp 3), none⟩ <|
          .st ⟨some 49, .call (.func 20) [.tmp 48], none⟩ <|
          .st ⟨some 47, .mv (.tmp 49), none⟩ <|
          .st ⟨some 50, .ext (.tmp 47) 0, none⟩ <|
          .st ⟨some 51, .ext (.tmp 47) 1, none⟩ <|
          .st ⟨some 6, .new 29 #[.int .i64 0, .int .i64 0], none⟩ <|
          .st ⟨none, .st 2 (.tmp 6) (.tmp 50), none⟩ <|
          .st ⟨some 7, .mv (.tmp 51), none⟩ <|
          .done)) <|
        .seq (.ops (
          .st ⟨some 52, .mv (.tmp 7), none⟩ <|
          .st ⟨some 53, .mv (.tmp 4), none⟩ <|
          .st ⟨some 54, .nilc (.tmp 53), none⟩ <|
          .st ⟨some 55, .fa 0 (.tmp 54), none⟩ <|
          .st ⟨some 56, .ld none (.tmp 55), none⟩ <|
          .st ⟨some 57, .cmp .b true (.tmp 52) (.tmp 56), none⟩ <|
          .st ⟨some 58, .mv (.tmp 57), none⟩ <|
          .st ⟨some 59, .ld (some 2) (.tmp 6), some (58, false)⟩ <|
          .st ⟨some 60, .mv (.tmp 4), some (58, false)⟩ <|
          .st ⟨some 61, .nilc (.tmp 60), some (58, false)⟩ <|
          .st ⟨some 62, .fa 1 (.tmp 61), some (58, false)⟩ <|
          .st ⟨some 63, .ld (some 2) (.tmp 62), some (58, false)⟩ <|
          .st ⟨some 64, .eqs true [.i, .i] (.tmp 59) (.tmp 63), some (58, false)⟩ <|
          .st ⟨some 65, .pick (.tmp 58) (.const (.bool true)) (.tmp 64), none⟩ <|
          .st ⟨some 66, .mv (.tmp 65), none⟩ <|
          .st ⟨some 67, .mv (.tmp 3), some (66, false)⟩ <|
          .st ⟨some 69, .mv (.tmp 4), some (66, false)⟩ <|
          .st ⟨some 70, .nilc (.tmp 69), some (66, false)⟩ <|
          .st ⟨some 71, .fa 3 (.tmp 70), some (66, false)⟩ <|
          .st ⟨some 72, .ld none (.tmp 71), some (66, false)⟩ <|
          .st ⟨some 68, .call (.func 17) [.tmp 67], some (66, false)⟩ <|
          .ag ⟨some 72, .ld none (.tmp 71), some (66, false)⟩ <|
          .st ⟨some 73, .call (.func 21) [.tmp 68, .tmp 72], some (66, false)⟩ <|
          .st ⟨some 74, .un .not (.tmp 73), some (66, false)⟩ <|
          .st ⟨some 75, .pick (.tmp 66) (.const (.bool true)) (.tmp 74), none⟩ <|
          .done)) <|
        .cond (.tmp 75) (.seq (.ops (
            .st ⟨some 2, .mv (.const (.bool false)), none⟩ <|
            .done)) <|
          .ret) (.skip))) <|
      .ops (
        .st ⟨some 21, .mv (.tmp 5), none⟩ <|
        .st ⟨some 22, .bini .add (.tmp 21) (.const (.int .i64 1)), none⟩ <|
        .st ⟨some 5, .mv (.tmp 22), none⟩ <|
        .done)))) <|
  .seq (.ops (
    .st ⟨some 76, .call (.func 14) [], none⟩ <|
    .st ⟨some 2, .mv (.tmp 76), none⟩ <|
    .done)) <|
  .ret
theorem b5 : bodyOf Try.prog 5 = some (77, [.t 2], c5) := by kernel_rfl
theorem k5 : callOk Try.prog 5 = true := by kernel_rfl

/-- leapfrog/leapfroglaw07.LockNobody -/
def c6 : CC :=
  .seq (.ops (
    .st ⟨some 1, .box 29 (.tmp 0), none⟩ <|
    .st ⟨some 2, .mv (.const (.bool false)), none⟩ <|
    .done)) <|
  .seq (.ops (
    .st ⟨some 3, .mv (.const (.pointer none)), none⟩ <|
    .done)) <|
  .seq (.seq (.ops (
    .st ⟨some 17, .mv (.tmp 3), none⟩ <|
    .st ⟨some 18, .agg [.z (.bool false), .z (.bool false), .z (.int .i64 0), .z (.int .i64 0), .z (.slice none 0 0)], none⟩ <|
    .st ⟨some 19, .box 49 (.tmp 18), none⟩ <|
    .st ⟨some 20, .bsl 23 [.c (.tmp 17) 0 1, .c (.tmp 19) 0 1] 2, none⟩ <|
    .st ⟨some 21, .ln (.tmp 20), none⟩ <|
    .st ⟨some 22, .mv (.const (.int .i64 0)), none⟩ <|
    .done)) <|
  .block 0 (.loop (.seq (.ops (
        .st ⟨some 23, .bini .lss (.tmp 22) (.tmp 21), none⟩ <|
        .done)) <|
      .seq (.cond (.tmp 23) (.skip) (.exit 0)) <|
      .seq (.block 1 (.seq (.ops (
          .st ⟨some 24, .ia 1 (.tmp 20) (.tmp 22), none⟩ <|
          .st ⟨some 25, .ld none (.tmp 24), none⟩ <|
          .st ⟨some 5, .mv (.tmp 25), none⟩ <|
          .done)) <|
        .seq (.ops (
          .st ⟨some 27, .mv (.tmp 5), none⟩ <|
          .st ⟨some 28, .ld (some 2) (.tmp 1), none⟩ <|
          .st ⟨some 29, .call (.func 16) [.tmp 27, .tmp 28], none⟩ <|
          .st ⟨some 26, .mv (.tmp 29), none⟩ <|
          .st ⟨some 30, .ext (.tmp 26) 0, none⟩ <|
          .st ⟨some 31, .ext (.tmp 26) 1, none⟩ <|
          .st ⟨some 6, .mv (.tmp 30), none⟩ <|
          .st ⟨some 7, .mv (.tmp 31), none⟩ <|
          .done)) <|
        .seq (.ops (
          .st ⟨some 33, .mv (.tmp 5), none⟩ <|
          .st ⟨some 34, .ld (some 2) (.tmp 1), none⟩ <|
          .st ⟨some 35, .call (.func 18) [.tmp 33, .tmp 34], none⟩ <|
          .st ⟨some 32, .mv (.tmp 35), none⟩ <|
          .st ⟨some 36, .ext (.tmp 32) 0, none⟩ <|
          .st ⟨some 37, .ext (.tmp 32) 1, none⟩ <|
          .st ⟨some 38, .ext (.tmp 32) 2, none⟩ <|
          .st ⟨some 8, .new 29 #[.int .i64 0, .int .i64 0], none⟩ <|
          .st ⟨none, .st 2 (.tmp 8) (.tmp 36), none⟩ <|
          .st ⟨some 9, .mv (.tmp 37), none⟩ <|
          .st ⟨some 10, .mv (.tmp 38), none⟩ <|
          .done)) <|
        .seq (.ops (
          .st ⟨some 40, .mv (.tmp 5), none⟩ <|
          .st ⟨some 41, .ld (some 2) (.tmp 1), none⟩ <|
          .st ⟨some 42, .call (.func 19) [.tmp 40, .tmp 41], none⟩ <|
          .st ⟨some 39, .mv (.tmp 42), none⟩ <|
          .st ⟨some 43, .ext (.tmp 39) 0, none⟩ <|
          .st ⟨some 44, .ext (.tmp 39) 1, none⟩ <|
          .st ⟨some 11, .mv (.tmp 43), none⟩ <|
          .st ⟨some 12, .mv (.tmp 44), none⟩ <|
          .done)) <|
        .seq (.ops (
          .st ⟨some 46, .mv (.tmp 5), none⟩ <|
          .st ⟨some 47, .call (.func 25) [.tmp 46], none⟩ <|
          .st ⟨some 45, .mv (.tmp 47), none⟩ <|
          .st ⟨some 48, .ext (.tmp 45) 0, none⟩ <|
          .st ⟨some 49, .ext (.tmp 45) 1, none⟩ <|
          .st ⟨some 13, .mv (.tmp 48), none⟩ <|
          .st ⟨some 14, .mv (.tmp 49), none⟩ <|
          .done)) <|
        .seq (.ops (
          .st ⟨some 51, .mv (.tmp 5), none⟩ <|
          .st ⟨some 52, .call (.func 20) [.tmp 51], none⟩ <|
          .st ⟨some 50, .mv (.tmp 52), none⟩ <|
          .st ⟨some 53, .ext (.tmp 50) 0, none⟩ <|
          .st ⟨some 54, .ext (.tmp 50) 1, none⟩ <|
          .st ⟨some 15, .new 29 #[.int .i64 0, .int .i64 0], none⟩ <|
          .st ⟨none, .st 2 (.tmp 15) (.tmp 53), none⟩ <|
          .st ⟨some 16, .mv (.tmp 54), none⟩ <|
          .done)) <|
        .seq (.ops (
          .st ⟨some 55, .mv (.tmp 7), none⟩ <|
          .st ⟨some 56, .bini .neq (.tmp 55) (.const (.int .i64 4)), none⟩ <|
          .st ⟨some 57, .mv (.tmp 56), none⟩ <|
          .st ⟨some 58, .mv (.tmp 10), some (57, false)⟩ <|
          .st ⟨some 59, .bini .neq (.tmp 58) (.const (.int .i64 4)), some (57, false)⟩ <|
          .st ⟨some 60, .pick (.tmp 57) (.const (.bool true)) (.tmp 59), none⟩ <|
          .st ⟨some 61, .mv (.tmp 60), none⟩ <|
          .st ⟨some 62, .mv (.tmp 12), some (61, false)⟩ <|
          .st ⟨some 63, .bini .neq (.tmp 62) (.const (.int .i64 4)), some (61, false)⟩ <|
          .st ⟨some 64, .pick (.tmp 61) (.const (.bool true)) (.tmp 63), none⟩ <|
          .st ⟨some 65, .mv (.tmp 64), none⟩ <|
          .st ⟨some 66, .mv (.tmp 14), some (65, false)⟩ <|
          .st ⟨some 67, .bini .neq (.tmp 66) (.const (.int .i64 4)), some (65, false)⟩ <|
          .st ⟨some 68, .pick (.tmp 65) (.const (.bool true)) (.tmp 67), none⟩ <|
          .st ⟨some 69, .mv (.tmp 68), none⟩ <|
          .st ⟨some 70, .mv (.tmp 6), some (69, false)⟩ <|
          .st ⟨some 71, .pick (.tmp 69) (.const (.bool true)) (.tmp 70), none⟩ <|
          .st ⟨some 72, .mv (.tmp 71), none⟩ <|
          .st ⟨some 73, .mv (.tmp 9), some (72, false)⟩ <|
          .st ⟨some 74, .pick (.tmp 72) (.const (.bool true)) (.tmp 73), none⟩ <|
          .st ⟨some 75, .mv (.tmp 74), none⟩ <|
          .st ⟨some 76, .mv (.tmp 11), some (75, false)⟩ <|
          .st ⟨some 77, .pick (.tmp 75) (.const (.bool true)) (.tmp 76), none⟩ <|
          .st ⟨some 78, .mv (.tmp 77), none⟩ <|
          .st ⟨some 79, .mv (.tmp 16), some (78, false)⟩ <|
          .st ⟨some 80, .pick (.tmp 78) (.const (.bool true)) (.tmp 79), none⟩ <|
          .st ⟨some 81, .mv (.tmp 80), none⟩ <|
          .st ⟨some 82, .ld (some 2) (.tmp 8), some (81, false)⟩ <|
          .st ⟨some 83, .agg [.z (.int .i64 0), .z (.int .i64 0)], some (81, false)⟩ <|
          .st ⟨some 84, .eqs true [.i, .i] (.tmp 82) (.tmp 83), some (81, false)⟩ <|
          .st ⟨some 85, .pick (.tmp 81) (.const (.bool true)) (.tmp 84), none⟩ <|
          .st ⟨some 86, .mv (.tmp 85), none⟩ <|
          .st ⟨some 87, .ld (some 2) (.tmp 15), some (86, false)⟩ <|
          .st ⟨some 88, .ld (some 2) (.tmp 8), some (86, false)⟩ <|
          .st ⟨some 89, .eqs true [.i, .i] (.tmp 87) (.tmp 88), some (86, false)⟩ <|
          .st ⟨some 90, .pick (.tmp 86) (.const (.bool true)) (.tmp 89), none⟩ <|
          .st ⟨some 91, .mv (.tmp 90), none⟩ <|
          .st ⟨some 92, .mv (.tmp 13), some (91, false)⟩ <|
          .st ⟨some 93, .ln (.tmp 92), some (91, false)⟩ <|
          .st ⟨some 94, .mv (.tmp 5), some (91, false)⟩ <|
          .st ⟨some 95, .call (.func 17) [.tmp 94], some (91, false)⟩ <|
          .st ⟨some 96, .ln (.tmp 95), some (91, false)⟩ <|
          .st ⟨some 97, .bini .add (.tmp 93) (.tmp 96), some (91, false)⟩ <|
          .st ⟨some 98, .bini .neq (.tmp 97) (.const (.int .i64 0)), some (91, false)⟩ <|
          .st ⟨some 99, .pick (.tmp 91) (.const (.bool true)) (.tmp 98), none⟩ <|
          .done)) <|
        .cond (.tmp 99) (.seq (.ops (
            .st ⟨some 2, .mv (.const (.bool false)), none⟩ <|
            .done)) <|
          .ret) (.skip))) <|
      .ops (
        .st ⟨some 100, .bini .add (.tmp 22) (.const (.int .i64 1)), none⟩ <|
        .st ⟨some 22, .mv (.tmp 100), none⟩ <|
        .done)))) <|
  .seq (.ops (
    .st ⟨some 101, .call (.func 14) [], none⟩ <|
    .st ⟨some 2, .mv (.tmp 101), none⟩ <|
    .done)) <|
  .ret
theorem b6 : bodyOf Try.prog 6 = some (102, [.t 2], c6) := by kernel_rfl
theorem k6 : callOk Try.prog 6 = true := by kernel_rfl

/-- leapfrog/leapfroglaw07.step -/
def c22 : CC :=
  .seq (.ops (
    .st ⟨some 5, .box 35 (.tmp 2), none⟩ <|
    .st ⟨some 6, .mv (.const (.bool false)), none⟩ <|
    .done)) <|
  .seq (.seq (.ops (
    .st ⟨some 23, .fa 0 (.tmp 5), none⟩ <|
    .st ⟨some 24, .ld none (.tmp 23), none⟩ <|
    .done)) <|
  .block 0 (.seq (.ops (
      .st ⟨some 26, .bini .eql (.tmp 24) (.const (.int .i64 1)), none⟩ <|
      .st ⟨some 25, .mv (.tmp 26), none⟩ <|
      .done)) <|
    .cond (.tmp 25) (.seq (.ops (
        .st ⟨some 28, .mv (.tmp 0), none⟩ <|
        .st ⟨some 29, .fa 1 (.tmp 5), none⟩ <|
        .st ⟨some 30, .ld (some 2) (.tmp 29), none⟩ <|
        .st ⟨some 31, .call (.func 16) [.tmp 28, .tmp 30], none⟩ <|
        .st ⟨some 27, .mv (.tmp 31), none⟩ <|
        .st ⟨some 32, .ext (.tmp 27) 0, none⟩ <|
        .st ⟨some 33, .ext (.tmp 27) 1, none⟩ <|
        .st ⟨some 7, .mv (.tmp 32), none⟩ <|
        .st ⟨some 8, .mv (.tmp 33), none⟩ <|
        .done)) <|
      .seq (.ops (
        .st ⟨some 35, .mv (.tmp 1), none⟩ <|
        .st ⟨some 36, .fa 1 (.tmp 5), none⟩ <|
        .st ⟨some 37, .ld (some 2) (.tmp 36), none⟩ <|
        .st ⟨some 38, .call (.func 50) [.tmp 35, .tmp 37], none⟩ <|
        .st ⟨some 34, .mv (.tmp 38), none⟩ <|
        .st ⟨some 39, .ext (.tmp 34) 0, none⟩ <|
        .st ⟨some 40, .ext (.tmp 34) 1, none⟩ <|
        .st ⟨some 9, .mv (.tmp 39), none⟩ <|
        .st ⟨some 10, .mv (.tmp 40), none⟩ <|
        .done)) <|
      .seq (.ops (
        .st ⟨some 41, .mv (.tmp 7), none⟩ <|
        .st ⟨some 42, .mv (.tmp 9), none⟩ <|
        .st ⟨some 43, .cmp .b false (.tmp 41) (.tmp 42), none⟩ <|
        .st ⟨some 44, .mv (.tmp 43), none⟩ <|
        .st ⟨some 45, .mv (.tmp 8), some (44, true)⟩ <|
        .st ⟨some 46, .mv (.tmp 10), some (44, true)⟩ <|
        .st ⟨some 47, .bini .eql (.tmp 45) (.tmp 46), some (44, true)⟩ <|
        .st ⟨some 48, .pick (.tmp 44) (.tmp 47) (.const (.bool false)), none⟩ <|
        .st ⟨some 6, .mv (.tmp 48), none⟩ <|
        .done)) <|
      .ret) (.seq (.ops (
        .st ⟨some 50, .bini .eql (.tmp 24) (.const (.int .i64 2)), none⟩ <|
        .st ⟨some 49, .mv (.tmp 50), none⟩ <|
        .done)) <|
      .cond (.tmp 49) (.seq (.ops (
          .st ⟨some 52, .mv (.tmp 0), none⟩ <|
          .st ⟨some 53, .fa 1 (.tmp 5), none⟩ <|
          .st ⟨some 54, .ld (some 2) (.tmp 53), none⟩ <|
          .st ⟨some 55, .call (.func 18) [.tmp 52, .tmp 54], none⟩ <|
          .st ⟨some 51, .mv (.tmp 55), none⟩ <|
          .st ⟨some 56, .ext (.tmp 51) 0, none⟩ <|
          .st ⟨some 57, .ext (.tmp 51) 1, none⟩ <|
          .st ⟨some 58, .ext (.tmp 51) 2, none⟩ <|
          .st ⟨some 11, .new 29 #[.int .i64 0, .int .i64 0], none⟩ <|
          .st ⟨none, .st 2 (.tmp 11) (.tmp 56), none⟩ <|
          .st ⟨some 12, .mv (.tmp 57), none⟩ <|
          .st ⟨some 13, .mv (.tmp 58), none⟩ <|
          .done)) <|
        .seq (.ops (
          .st ⟨some 60, .mv (.tmp 1), none⟩ <|
          .st ⟨some 61, .fa 1 (.tmp 5), none⟩ <|
          .st ⟨some 62, .ld (some 2) (.tmp 61), none⟩ <|
          .st ⟨some 63, .call (.func 51) [.tmp 60, .tmp 62], none⟩ <|
          .st ⟨some 59, .mv (.tmp 63), none⟩ <|
          .st ⟨some 64, .ext (.tmp 59) 0, none⟩ <|
          .st ⟨some 65, .ext (.tmp 59) 1, none⟩ <|
          .st ⟨some 66, .ext (.tmp 59) 2, none⟩ <|
          .st ⟨some 14, .new 29 #[.int .i64 0, .int .i64 0], none⟩ <|
          .st ⟨none, .st 2 (.tmp 14) (.tmp 64), none⟩ <|
          .st ⟨some 15, .mv (.tmp 65), none⟩ <|
          .st ⟨some 16, .mv (.tmp 66), none⟩ <|
          .done)) <|
        .seq (.ops (
          .st ⟨some 67, .ld (some 2) (.tmp 11), none⟩ <|
          .st ⟨some 68, .ld (some 2) (.tmp 14), none⟩ <|
          .st ⟨some 69, .eqs false [.i, .i] (.tmp 67) (.tmp 68), none⟩ <|
          .st ⟨some 70, .mv (.tmp 69), none⟩ <|
          .st ⟨some 71, .mv (.tmp 12), some (70, true)⟩ <|
          .st ⟨some 72, .mv (.tmp 15), some (70, true)⟩ <|
          .st ⟨some 73, .cmp .b false (.tmp 71) (.tmp 72), some (70, true)⟩ <|
          .st ⟨some 74, .pick (.tmp 70) (.tmp 73) (.const (.bool false)), none⟩ <|
          .st ⟨some 75, .mv (.tmp 74), none⟩ <|
          .st ⟨some 76, .mv (.tmp 13), some (75, true)⟩ <|
          .st ⟨some 77, .mv (.tmp 16), some (75, true)⟩ <|
          .st ⟨some 78, .bini .eql (.tmp 76) (.tmp 77), some (75, true)⟩ <|
          .st ⟨some 79, .pick (.tmp 75) (.tmp 78) (.const (.bool false)), none⟩ <|
          .st ⟨some 6, .mv (.tmp 79), none⟩ <|
          .done)) <|
        .ret) (.seq (.ops (
          .st ⟨some 81, .bini .eql (.tmp 24) (.const (.int .i64 3)), none⟩ <|
          .st ⟨some 80, .mv (.tmp 81), none⟩ <|
          .done)) <|
        .cond (.tmp 80) (.seq (.ops (
            .st ⟨some 83, .mv (.tmp 0), none⟩ <|
            .st ⟨some 84, .fa 1 (.tmp 5), none⟩ <|
            .st ⟨some 85, .ld (some 2) (.tmp 84), none⟩ <|
            .st ⟨some 86, .call (.func 19) [.tmp 83, .tmp 85], none⟩ <|
            .st ⟨some 82, .mv (.tmp 86), none⟩ <|
            .st ⟨some 87, .ext (.tmp 82) 0, none⟩ <|
            .st ⟨some 88, .ext (.tmp 82) 1, none⟩ <|
            .st ⟨some 17, .mv (.tmp 87), none⟩ <|
            .st ⟨some 18, .mv (.tmp 88), none⟩ <|
            .done)) <|
          .seq (.ops (
            .st ⟨some 90, .mv (.tmp 1), none⟩ <|
            .st ⟨some 91, .fa 1 (.tmp 5), none⟩ <|
            .st ⟨some 92, .ld (some 2) (.tmp 91), none⟩ <|
            .st ⟨some 93, .call (.func 52) [.tmp 90, .tmp 92], none⟩ <|
            .st ⟨some 89, .mv (.tmp 93), none⟩ <|
            .st ⟨some 94, .ext (.tmp 89) 0, none⟩ <|
            .st ⟨some 95, .ext (.tmp 89) 1, none⟩ <|
            .st ⟨some 19, .mv (.tmp 94), none⟩ <|
            .st ⟨some 20, .mv (.tmp 95), none⟩ <|
            .done)) <|
          .seq (.ops (
            .st ⟨some 96, .mv (.tmp 17), none⟩ <|
            .st ⟨some 97, .mv (.tmp 19), none⟩ <|
            .st ⟨some 98, .cmp .b false (.tmp 96) (.tmp 97), none⟩ <|
            .st ⟨some 99, .mv (.tmp 98), none⟩ <|
            .st ⟨some 100, .mv (.tmp 18), some (99, true)⟩ <|
            .st ⟨some 101, .mv (.tmp 20), some (99, true)⟩ <|
            .st ⟨some 102, .bini .eql (.tmp 100) (.tmp 101), some (99, true)⟩ <|
            .st ⟨some 103, .pick (.tmp 99) (.tmp 102) (.const (.bool false)), none⟩ <|
            .st ⟨some 6, .mv (.tmp 103), none⟩ <|
            .done)) <|
          .ret) (.seq (.ops (
            .st ⟨some 105, .bini .eql (.tmp 24) (.const (.int .i64 4)), none⟩ <|
            .st ⟨some 104, .mv (.tmp 105), none⟩ <|
            .done)) <|
          .cond (.tmp 104) (.seq (.ops (
              .st ⟨some 107, .mv (.tmp 0), none⟩ <|
              .st ⟨some 108, .call (.func 25) [.tmp 107], none⟩ <|
              .st ⟨some 106, .mv (.tmp 108), none⟩ <|
              .st ⟨some 109, .ext (.tmp 106) 0, none⟩ <|
              .st ⟨some 110, .ext (.tmp 106) 1, none⟩ <|
              .st ⟨some 21, .mv (.tmp 109), none⟩ <|
              .st ⟨some 22, .mv (.tmp 110), none⟩ <|
              .done)) <|
            .seq (.ops (
              .st ⟨some 111, .mv (.tmp 21), none⟩ <|
              .st ⟨some 112, .mv (.tmp 1), none⟩ <|
              .st ⟨some 113, .call (.func 53) [.tmp 112], none⟩ <|
              .st ⟨some 114, .call (.func 21) [.tmp 111, .tmp 113], none⟩ <|
              .st ⟨some 115, .mv (.tmp 114), none⟩ <|
              .st ⟨some 116, .mv (.tmp 22), some (115, true)⟩ <|
              .st ⟨some 117, .bini .eql (.tmp 116) (.const (.int .i64 0)), some (115, true)⟩ <|
              .st ⟨some 118, .pick (.tmp 115) (.tmp 117) (.const (.bool false)), none⟩ <|
              .st ⟨some 6, .mv (.tmp 118), none⟩ <|
              .done)) <|
            .ret) (.skip)))))) <|
  .seq (.ops (
    .st ⟨some 6, .mv (.const (.bool true)), none⟩ <|
    .done)) <|
  .ret
theorem b22 : bodyOf Try.prog 22 = some (119, [.t 6], c22) := by kernel_rfl
theorem k22 : callOk Try.prog 22 = true := by kernel_rfl

/-- leapfrog/leapfrogref07.Same -/
def c21 : CC :=
  .seq (.ops (
    .st ⟨some 4, .mv (.const (.bool false)), none⟩ <|
    .done)) <|
  .seq (.seq (.ops (
    .st ⟨some 6, .mv (.tmp 0), none⟩ <|
    .st ⟨some 7, .ln (.tmp 6), none⟩ <|
    .st ⟨some 8, .mv (.tmp 1), none⟩ <|
    .st ⟨some 9, .ln (.tmp 8), none⟩ <|
    .st ⟨some 10, .bini .neq (.tmp 7) (.tmp 9), none⟩ <|
    .done)) <|
  .cond (.tmp 10) (.seq (.ops (
      .st ⟨some 4, .mv (.const (.bool false)), none⟩ <|
      .done)) <|
    .ret) (.skip)) <|
  .seq (.seq (.ops (
    .st ⟨some 5, .mv (.const (.int .i64 0)), none⟩ <|
    .done)) <|
  .block 0 (.loop (.seq (.seq (.ops (
        .st ⟨some 11, .mv (.tmp 5), none⟩ <|
        .st ⟨some 12, .mv (.tmp 0), none⟩ <|
        .st ⟨some 13, .ln (.tmp 12), none⟩ <|
        .st ⟨some 14, .bini .lss (.tmp 11) (.tmp 13), none⟩ <|
        .done)) <|
      .cond (.tmp 14) (.skip) (.exit 0)) <|
      .seq (.block 1 (.seq (.ops (
          .st ⟨some 17, .mv (.tmp 0), none⟩ <|
          .st ⟨some 18, .mv (.tmp 5), none⟩ <|
          .st ⟨some 19, .ia 2 (.tmp 17) (.tmp 18), none⟩ <|
          .st ⟨some 20, .ld (some 2) (.tmp 19), none⟩ <|
          .st ⟨some 21, .mv (.tmp 1), none⟩ <|
          .st ⟨some 22, .mv (.tmp 5), none⟩ <|
          .st ⟨some 23, .ia 2 (.tmp 21) (.tmp 22), none⟩ <|
          .st ⟨some 24, .ld (some 2) (.tmp 23), none⟩ <|
          .st ⟨some 25, .eqs true [.i, .i] (.tmp 20) (.tmp 24), none⟩ <|
          .done)) <|
        .cond (.tmp 25) (.seq (.ops (
            .st ⟨some 4, .mv (.const (.bool false)), none⟩ <|
            .done)) <|
          .ret) (.skip))) <|
      .ops (
        .st ⟨some 15, .mv (.tmp 5), none⟩ <|
        .st ⟨some 16, .bini .add (.tmp 15) (.const (.int .i64 1)), none⟩ <|
        .st ⟨some 5, .mv (.tmp 16), none⟩ <|
        .done)))) <|
  .seq (.ops (
    .st ⟨some 4, .mv (.const (.bool true)), none⟩ <|
    .done)) <|
  .ret
theorem b21 : bodyOf Try.prog 21 = some (26, [.t 4], c21) := by kernel_rfl
theorem k21 : callOk Try.prog 21 = true := by kernel_rfl

/-- leapfrog/leapfrogref07.IsOwner -/
def c24 : CC :=
  .seq (.ops (
    .st ⟨some 1, .box 29 (.tmp 0), none⟩ <|
    .st ⟨some 2, .mv (.const (.bool false)), none⟩ <|
    .done)) <|
  .seq (.ops (
    .st ⟨some 3, .fa 0 (.tmp 1), none⟩ <|
    .st ⟨some 4, .ld none (.tmp 3), none⟩ <|
    .st ⟨some 5, .bini .geq (.tmp 4) (.const (.int .i64 0)), none⟩ <|
    .st ⟨some 6, .mv (.tmp 5), none⟩ <|
    .st ⟨some 7, .fa 0 (.tmp 1), some (6, true)⟩ <|
    .st ⟨some 8, .ld none (.tmp 7), some (6, true)⟩ <|
    .st ⟨some 9, .bini .lss (.tmp 8) (.const (.int .i64 1024)), some (6, true)⟩ <|
    .st ⟨some 10, .pick (.tmp 6) (.tmp 9) (.const (.bool false)), none⟩ <|
    .st ⟨some 11, .mv (.tmp 10), none⟩ <|
    .st ⟨some 12, .fa 1 (.tmp 1), some (11, true)⟩ <|
    .st ⟨some 13, .ld none (.tmp 12), some (11, true)⟩ <|
    .st ⟨some 14, .bini .geq (.tmp 13) (.const (.int .i64 1)), some (11, true)⟩ <|
    .st ⟨some 15, .pick (.tmp 11) (.tmp 14) (.const (.bool false)), none⟩ <|
    .st ⟨some 16, .mv (.tmp 15), none⟩ <|
    .st ⟨some 17, .fa 1 (.tmp 1), some (16, true)⟩ <|
    .st ⟨some 18, .ld none (.tmp 17), some (16, true)⟩ <|
    .st ⟨some 19, .bini .leq (.tmp 18) (.const (.int .i64 1073741824)), some (16, true)⟩ <|
    .st ⟨some 20, .pick (.tmp 16) (.tmp 19) (.const (.bool false)), none⟩ <|
    .st ⟨some 2, .mv (.tmp 20), none⟩ <|
    .done)) <|
  .ret
theorem b24 : bodyOf Try.prog 24 = some (21, [.t 2], c24) := by kernel_rfl
theorem k24 : callOk Try.prog 24 = true := by kernel_rfl

/-- (*leapfrog/leapfrogref07.Lock).Ask -/
def c50 : CC :=
  .seq (.ops (
    .st ⟨some 3, .box 29 (.tmp 1), none⟩ <|
    .st ⟨some 4, .mv (.const (.bool false)), none⟩ <|
    .st ⟨some 5, .mv (.const (.int .i64 0)), none⟩ <|
    .done)) <|
  .seq (.block 0 (.seq (.ops (
      .st ⟨some 7, .ld (some 2) (.tmp 3), none⟩ <|
      .st ⟨some 8, .call (.func 24) [.tmp 7], none⟩ <|
      .st ⟨some 9, .un .not (.tmp 8), none⟩ <|
      .st ⟨some 6, .mv (.tmp 9), none⟩ <|
      .done)) <|
    .cond (.tmp 6) (.seq (.ops (
        .st ⟨some 4, .mv (.const (.bool false)), none⟩ <|
        .st ⟨some 5, .mv (.const (.int .i64 70)), none⟩ <|
        .done)) <|
      .ret) (.seq (.ops (
        .st ⟨some 11, .mv (.tmp 0), none⟩ <|
        .st ⟨some 12, .nilc (.tmp 11), none⟩ <|
        .st ⟨some 13, .fa 0 (.tmp 12), none⟩ <|
        .st ⟨some 14, .ld none (.tmp 13), none⟩ <|
        .st ⟨some 15, .mv (.tmp 14), none⟩ <|
        .st ⟨some 16, .mv (.tmp 0), some (15, true)⟩ <|
        .st ⟨some 17, .nilc (.tmp 16), some (15, true)⟩ <|
        .st ⟨some 18, .fa 1 (.tmp 17), some (15, true)⟩ <|
        .st ⟨some 19, .ld (some 2) (.tmp 18), some (15, true)⟩ <|
        .st ⟨some 20, .ld (some 2) (.tmp 3), some (15, true)⟩ <|
        .st ⟨some 21, .eqs false [.i, .i] (.tmp 19) (.tmp 20), some (15, true)⟩ <|
        .st ⟨some 22, .pick (.tmp 15) (.tmp 21) (.const (.bool false)), none⟩ <|
        .st ⟨some 10, .mv (.tmp 22), none⟩ <|
        .done)) <|
      .cond (.tmp 10) (.seq (.ops (
          .st ⟨some 4, .mv (.const (.bool true)), none⟩ <|
          .st ⟨some 5, .mv (.const (.int .i64 0)), none⟩ <|
          .done)) <|
        .ret) (.seq (.ops (
          .st ⟨some 24, .mv (.tmp 0), none⟩ <|
          .st ⟨some 25, .ld (some 2) (.tmp 3), none⟩ <|
          .st ⟨some 26, .call (.func 81) [.tmp 24, .tmp 25], none⟩ <|
          .st ⟨some 27, .bini .geq (.tmp 26) (.const (.int .i64 0)), none⟩ <|
          .st ⟨some 23, .mv (.tmp 27), none⟩ <|
          .done)) <|
        .cond (.tmp 23) (.seq (.ops (
            .st ⟨some 4, .mv (.const (.bool false)), none⟩ <|
            .st ⟨some 5, .mv (.const (.int .i64 0)), none⟩ <|
            .done)) <|
          .ret) (.seq (.ops (
            .st ⟨some 29, .mv (.tmp 0), none⟩ <|
            .st ⟨some 30, .nilc (.tmp 29), none⟩ <|
            .st ⟨some 31, .fa 0 (.tmp 30), none⟩ <|
            .st ⟨some 32, .ld none (.tmp 31), none⟩ <|
            .st ⟨some 33, .un .not (.tmp 32), none⟩ <|
            .st ⟨some 28, .mv (.tmp 33), none⟩ <|
            .done)) <|
          .cond (.tmp 28) (.seq (.ops (
              .st ⟨some 34, .mv (.tmp 0), none⟩ <|
              .st ⟨some 35, .mv (.tmp 0), none⟩ <|
              .st ⟨some 36, .ld (some 2) (.tmp 3), none⟩ <|
              .st ⟨some 37, .nilc (.tmp 34), none⟩ <|
              .st ⟨some 38, .fa 0 (.tmp 37), none⟩ <|
              .st ⟨none, .st 1 (.tmp 38) (.const (.bool true)), none⟩ <|
              .ag ⟨some 36, .ld (some 2) (.tmp 3), none⟩ <|
              .st ⟨some 39, .nilc (.tmp 35), none⟩ <|
              .st ⟨some 40, .fa 1 (.tmp 39), none⟩ <|
              .st ⟨none, .st 2 (.tmp 40) (.tmp 36), none⟩ <|
              .done)) <|
            .seq (.ops (
              .st ⟨some 4, .mv (.const (.bool true)), none⟩ <|
              .st ⟨some 5, .mv (.const (.int .i64 0)), none⟩ <|
              .done)) <|
            .ret) (.seq (.ops (
              .st ⟨some 42, .mv (.tmp 0), none⟩ <|
              .st ⟨some 43, .nilc (.tmp 42), none⟩ <|
              .st ⟨some 44, .fa 3 (.tmp 43), none⟩ <|
              .st ⟨some 45, .ld none (.tmp 44), none⟩ <|
              .st ⟨some 46, .ln (.tmp 45), none⟩ <|
              .st ⟨some 47, .bini .geq (.tmp 46) (.const (.int .i64 64)), none⟩ <|
              .st ⟨some 41, .mv (.tmp 47), none⟩ <|
              .done)) <|
            .cond (.tmp 41) (.seq (.ops (
                .st ⟨some 4, .mv (.const (.bool false)), none⟩ <|
                .st ⟨some 5, .mv (.const (.int .i64 3)), none⟩ <|
                .done)) <|
              .ret) (.skip))))))) <|
  .seq (.ops (
    .st ⟨some 48, .mv (.tmp 0), none⟩ <|
    .st ⟨some 50, .mv (.tmp 0), none⟩ <|
    .st ⟨some 51, .nilc (.tmp 50), none⟩ <|
    .st ⟨some 52, .fa 3 (.tmp 51), none⟩ <|
    .st ⟨some 53, .ld none (.tmp 52), none⟩ <|
    .st ⟨some 55, .ld (some 2) (.tmp 3), none⟩ <|
    .both (
      .st ⟨some 49, .bsl 29 [] 0, none⟩ <|
      .both (
        .st ⟨some 54, .ap 29 2 16 #[.int .i64 0, .int .i64 0] (.tmp 49) (.tmp 53), none⟩ <|
        .ag ⟨some 55, .ld (some 2) (.tmp 3), none⟩ <|
        .st ⟨some 56, .bsl 29 [.c (.tmp 55) 0 2, .c (.tmp 55) 1 2] 1, none⟩ <|
        .st ⟨some 57, .ap 29 2 16 #[.int .i64 0, .int .i64 0] (.tmp 54) (.tmp 56), none⟩ <|
        .st ⟨some 58, .nilc (.tmp 48), none⟩ <|
        .st ⟨some 59, .fa 3 (.tmp 58), none⟩ <|
        .st ⟨none, .st 1 (.tmp 59) (.tmp 57), none⟩ <|
        .done) (
        .st ⟨some 56, .bsl 29 [.c (.tmp 55) 0 2, .c (.tmp 55) 1 2] 1, none⟩ <|
        .st ⟨some 54, .ap 29 2 16 #[.int .i64 0, .int .i64 0] (.tmp 49) (.tmp 53), none⟩ <|
        .ag ⟨some 55, .ld (some 2) (.tmp 3), none⟩ <|
        .st ⟨some 57, .ap 29 2 16 #[.int .i64 0, .int .i64 0] (.tmp 54) (.tmp 56), none⟩ <|
        .st ⟨some 58, .nilc (.tmp 48), none⟩ <|
        .st ⟨some 59, .fa 3 (.tmp 58), none⟩ <|
        .st ⟨none, .st 1 (.tmp 59) (.tmp 57), none⟩ <|
        .done)) (
      .st ⟨some 56, .bsl 29 [.c (.tmp 55) 0 2, .c (.tmp 55) 1 2] 1, none⟩ <|
      .st ⟨some 49, .bsl 29 [] 0, none⟩ <|
      .st ⟨some 54, .ap 29 2 16 #[.int .i64 0, .int .i64 0] (.tmp 49) (.tmp 53), none⟩ <|
      .ag ⟨some 55, .ld (some 2) (.tmp 3), none⟩ <|
      .st ⟨some 57, .ap 29 2 16 #[.int .i64 0, .int .i64 0] (.tmp 54) (.tmp 56), none⟩ <|
      .st ⟨some 58, .nilc (.tmp 48), none⟩ <|
      .st ⟨some 59, .fa 3 (.tmp 58), none⟩ <|
      .st ⟨none, .st 1 (.tmp 59) (.tmp 57), none⟩ <|
      .done))) <|
  .seq (.ops (
    .st ⟨some 4, .mv (.const (.bool false)), none⟩ <|
    .st ⟨some 5, .mv (.const (.int .i64 0)), none⟩ <|
    .done)) <|
  .ret
theorem b50 : bodyOf Try.prog 50 = some (60, [.t 4, .t 5], c50) := by kernel_rfl
theorem k50 : callOk Try.prog 50 = true := by kernel_rfl

/-- (*leapfrog/leapfrogref07.Lock).Free -/
def c51 : CC :=
  .seq (.ops (
    .st ⟨some 3, .box 29 (.tmp 1), none⟩ <|
    .st ⟨some 4, .new 29 #[.int .i64 0, .int .i64 0], none⟩ <|
    .st ⟨some 5, .mv (.const (.bool false)), none⟩ <|
    .st ⟨some 6, .mv (.const (.int .i64 0)), none⟩ <|
    .done)) <|
  .seq (.seq (.ops (
    .st ⟨some 7, .ld (some 2) (.tmp 3), none⟩ <|
    .st ⟨some 8, .call (.func 24) [.tmp 7], none⟩ <|
    .st ⟨some 9, .un .not (.tmp 8), none⟩ <|
    .done)) <|
  .cond (.tmp 9) (.seq (.ops (
      .st ⟨some 10, .agg [.z (.int .i64 0), .z (.int .i64 0)], none⟩ <|
      .st ⟨none, .st 2 (.tmp 4) (.tmp 10), none⟩ <|
      .st ⟨some 5, .mv (.const (.bool false)), none⟩ <|
      .st ⟨some 6, .mv (.const (.int .i64 70)), none⟩ <|
      .done)) <|
    .ret) (.skip)) <|
  .seq (.seq (.ops (
    .st ⟨some 11, .mv (.tmp 0), none⟩ <|
    .st ⟨some 12, .nilc (.tmp 11), none⟩ <|
    .st ⟨some 13, .fa 0 (.tmp 12), none⟩ <|
    .st ⟨some 14, .ld none (.tmp 13), none⟩ <|
    .st ⟨some 15, .un .not (.tmp 14), none⟩ <|
    .st ⟨some 16, .mv (.tmp 15), none⟩ <|
    .st ⟨some 17, .mv (.tmp 0), some (16, false)⟩ <|
    .st ⟨some 18, .nilc (.tmp 17), some (16, false)⟩ <|
    .st ⟨some 19, .fa 1 (.tmp 18), some (16, false)⟩ <|
    .st ⟨some 20, .ld (some 2) (.tmp 19), some (16, false)⟩ <|
    .st ⟨some 21, .ld (some 2) (.tmp 3), some (16, false)⟩ <|
    .st ⟨some 22, .eqs true [.i, .i] (.tmp 20) (.tmp 21), some (16, false)⟩ <|
    .st ⟨some 23, .pick (.tmp 16) (.const (.bool true)) (.tmp 22), none⟩ <|
    .done)) <|
  .cond (.tmp 23) (.seq (.ops (
      .st ⟨some 24, .agg [.z (.int .i64 0), .z (.int .i64 0)], none⟩ <|
      .st ⟨none, .st 2 (.tmp 4) (.tmp 24), none⟩ <|
      .st ⟨some 5, .mv (.const (.bool false)), none⟩ <|
      .st ⟨some 6, .mv (.const (.int .i64 71)), none⟩ <|
      .done)) <|
    .ret) (.skip)) <|
  .seq (.seq (.ops (
    .st ⟨some 25, .mv (.tmp 0), none⟩ <|
    .st ⟨some 26, .nilc (.tmp 25), none⟩ <|
    .st ⟨some 27, .fa 3 (.tmp 26), none⟩ <|
    .st ⟨some 28, .ld none (.tmp 27), none⟩ <|
    .st ⟨some 29, .ln (.tmp 28), none⟩ <|
    .st ⟨some 30, .bini .eql (.tmp 29) (.const (.int .i64 0)), none⟩ <|
    .done)) <|
  .cond (.tmp 30) (.seq (.ops (
      .st ⟨some 31, .mv (.tmp 0), none⟩ <|
      .st ⟨some 32, .mv (.tmp 0), none⟩ <|
      .st ⟨some 33, .agg [.z (.int .i64 0), .z (.int .i64 0)], none⟩ <|
      .st ⟨some 34, .nilc (.tmp 31), none⟩ <|
      .st ⟨some 35, .fa 0 (.tmp 34), none⟩ <|
      .st ⟨none, .st 1 (.tmp 35) (.const (.bool false)), none⟩ <|
      .st ⟨some 36, .nilc (.tmp 32), none⟩ <|
      .st ⟨some 37, .fa 1 (.tmp 36), none⟩ <|
      .st ⟨none, .st 2 (.tmp 37) (.tmp 33), none⟩ <|
      .done)) <|
    .seq (.ops (
      .st ⟨some 38, .agg [.z (.int .i64 0), .z (.int .i64 0)], none⟩ <|
      .st ⟨none, .st 2 (.tmp 4) (.tmp 38), none⟩ <|
      .st ⟨some 5, .mv (.const (.bool false)), none⟩ <|
      .st ⟨some 6, .mv (.const (.int .i64 0)), none⟩ <|
      .done)) <|
    .ret) (.skip)) <|
  .seq (.ops (
    .st ⟨some 39, .mv (.tmp 0), none⟩ <|
    .st ⟨some 40, .mv (.tmp 0), none⟩ <|
    .st ⟨some 41, .nilc (.tmp 40), none⟩ <|
    .st ⟨some 42, .fa 3 (.tmp 41), none⟩ <|
    .st ⟨some 43, .ld none (.tmp 42), none⟩ <|
    .st ⟨some 44, .ia 2 (.tmp 43) (.const (.int .i64 0)), none⟩ <|
    .st ⟨some 45, .ld (some 2) (.tmp 44), none⟩ <|
    .st ⟨some 46, .nilc (.tmp 39), none⟩ <|
    .st ⟨some 47, .fa 1 (.tmp 46), none⟩ <|
    .st ⟨none, .st 2 (.tmp 47) (.tmp 45), none⟩ <|
    .done)) <|
  .seq (.ops (
    .st ⟨some 48, .mv (.tmp 0), none⟩ <|
    .st ⟨some 49, .bsl 29 [] 0, none⟩ <|
    .st ⟨some 50, .mv (.tmp 0), none⟩ <|
    .st ⟨some 51, .nilc (.tmp 50), none⟩ <|
    .st ⟨some 52, .fa 3 (.tmp 51), none⟩ <|
    .st ⟨some 53, .ld none (.tmp 52), none⟩ <|
    .st ⟨some 54, .sl 2 (.tmp 53) (some (.const (.int .i64 1))) none none, none⟩ <|
    .st ⟨some 55, .ap 29 2 16 #[.int .i64 0, .int .i64 0] (.tmp 49) (.tmp 54), none⟩ <|
    .st ⟨some 56, .nilc (.tmp 48), none⟩ <|
    .st ⟨some 57, .fa 3 (.tmp 56), none⟩ <|
    .st ⟨none, .st 1 (.tmp 57) (.tmp 55), none⟩ <|
    .done)) <|
  .seq (.ops (
    .st ⟨some 58, .mv (.tmp 0), none⟩ <|
    .st ⟨some 59, .nilc (.tmp 58), none⟩ <|
    .st ⟨some 60, .fa 1 (.tmp 59), none⟩ <|
    .st ⟨some 61, .ld (some 2) (.tmp 60), none⟩ <|
    .st ⟨none, .st 2 (.tmp 4) (.tmp 61), none⟩ <|
    .st ⟨some 5, .mv (.const (.bool true)), none⟩ <|
    .st ⟨some 6, .mv (.const (.int .i64 0)), none⟩ <|
    .done)) <|
  .ret
theorem b51 : bodyOf Try.prog 51 = some (62, [.c 4 (some 2), .t 5, .t 6], c51) := by kernel_rfl
theorem k51 : callOk Try.prog 51 = true := by kernel_rfl

/-- (*leapfrog/leapfrogref07.Lock).Leave -/
def c52 : CC :=
  .seq (.ops (
    .st ⟨some 3, .box 29 (.tmp 1), none⟩ <|
    .st ⟨some 4, .mv (.const (.bool false)), none⟩ <|
    .st ⟨some 5, .mv (.const (.int .i64 0)), none⟩ <|
    .done)) <|
  .seq (.seq (.ops (
    .st ⟨some 7, .ld (some 2) (.tmp 3), none⟩ <|
    .st ⟨some 8, .call (.func 24) [.tmp 7], none⟩ <|
    .st ⟨some 9, .un .not (.tmp 8), none⟩ <|
    .done)) <|
  .cond (.tmp 9) (.seq (.ops (
      .st ⟨some 4, .mv (.const (.bool false)), none⟩ <|
      .st ⟨some 5, .mv (.const (.int .i64 70)), none⟩ <|
      .done)) <|
    .ret) (.skip)) <|
  .seq (.ops (
    .st ⟨some 10, .mv (.tmp 0), none⟩ <|
    .st ⟨some 11, .ld (some 2) (.tmp 3), none⟩ <|
    .st ⟨some 12, .call (.func 81) [.tmp 10, .tmp 11], none⟩ <|
    .st ⟨some 6, .mv (.tmp 12), none⟩ <|
    .done)) <|
  .seq (.seq (.ops (
    .st ⟨some 13, .mv (.tmp 6), none⟩ <|
    .st ⟨some 14, .bini .lss (.tmp 13) (.const (.int .i64 0)), none⟩ <|
    .done)) <|
  .cond (.tmp 14) (.seq (.ops (
      .st ⟨some 4, .mv (.const (.bool false)), none⟩ <|
      .st ⟨some 5, .mv (.const (.int .i64 0)), none⟩ <|
      .done)) <|
    .ret) (.skip)) <|
  .seq (.ops (
    .st ⟨some 15, .mv (.tmp 0), none⟩ <|
    .st ⟨some 17, .mv (.tmp 0), none⟩ <|
    .st ⟨some 18, .nilc (.tmp 17), none⟩ <|
    .st ⟨some 19, .fa 3 (.tmp 18), none⟩ <|
    .st ⟨some 20, .ld none (.tmp 19), none⟩ <|
    .st ⟨some 21, .mv (.tmp 6), none⟩ <|
    .st ⟨some 22, .sl 2 (.tmp 20) none (some (.tmp 21)) none, none⟩ <|
    .st ⟨some 24, .mv (.tmp 0), none⟩ <|
    .st ⟨some 25, .nilc (.tmp 24), none⟩ <|
    .st ⟨some 26, .fa 3 (.tmp 25), none⟩ <|
    .st ⟨some 27, .ld none (.tmp 26), none⟩ <|
    .st ⟨some 28, .mv (.tmp 6), none⟩ <|
    .st ⟨some 29, .bini .add (.tmp 28) (.const (.int .i64 1)), none⟩ <|
    .st ⟨some 30, .sl 2 (.tmp 27) (some (.tmp 29)) none none, none⟩ <|
    .st ⟨some 16, .bsl 29 [] 0, none⟩ <|
    .st ⟨some 23, .ap 29 2 16 #[.int .i64 0, .int .i64 0] (.tmp 16) (.tmp 22), none⟩ <|
    .ag ⟨some 27, .ld none (.tmp 26), none⟩ <|
    .st ⟨some 31, .ap 29 2 16 #[.int .i64 0, .int .i64 0] (.tmp 23) (.tmp 30), none⟩ <|
    .st ⟨some 32, .nilc (.tmp 15), none⟩ <|
    .st ⟨some 33, .fa 3 (.tmp 32), none⟩ <|
    .st ⟨none, .st 1 (.tmp 33) (.tmp 31), none⟩ <|
    .done)) <|
  .seq (.ops (
    .st ⟨some 4, .mv (.const (.bool true)), none⟩ <|
    .st ⟨some 5, .mv (.const (.int .i64 0)), none⟩ <|
    .done)) <|
  .ret
theorem b52 : bodyOf Try.prog 52 = some (34, [.t 4, .t 5], c52) := by kernel_rfl
theorem k52 : callOk Try.prog 52 = true := by kernel_rfl

/-- (*leapfrog/leapfrogref07.Lock).End -/
def c53 : CC :=
  .seq (.ops (
    .st ⟨some 2, .mv (.const (.slice none 0 0)), none⟩ <|
    .done)) <|
  .seq (.ops (
    .st ⟨some 4, .mv (.tmp 0), none⟩ <|
    .st ⟨some 5, .nilc (.tmp 4), none⟩ <|
    .st ⟨some 6, .fa 3 (.tmp 5), none⟩ <|
    .st ⟨some 7, .ld none (.tmp 6), none⟩ <|
    .st ⟨some 3, .mv (.tmp 7), none⟩ <|
    .done)) <|
  .seq (.ops (
    .st ⟨some 8, .mv (.tmp 0), none⟩ <|
    .st ⟨some 9, .mv (.tmp 0), none⟩ <|
    .st ⟨some 10, .mv (.tmp 0), none⟩ <|
    .st ⟨some 11, .agg [.z (.int .i64 0), .z (.int .i64 0)], none⟩ <|
    .st ⟨some 12, .nilc (.tmp 8), none⟩ <|
    .st ⟨some 13, .fa 0 (.tmp 12), none⟩ <|
    .st ⟨none, .st 1 (.tmp 13) (.const (.bool false)), none⟩ <|
    .st ⟨some 14, .nilc (.tmp 9), none⟩ <|
    .st ⟨some 15, .fa 1 (.tmp 14), none⟩ <|
    .st ⟨none, .st 2 (.tmp 15) (.tmp 11), none⟩ <|
    .st ⟨some 16, .nilc (.tmp 10), none⟩ <|
    .st ⟨some 17, .fa 3 (.tmp 16), none⟩ <|
    .st ⟨none, .st 1 (.tmp 17) (.const (.slice none 0 0)), none⟩ <|
    .done)) <|
  .seq (.ops (
    .st ⟨some 18, .mv (.tmp 3), none⟩ <|
    .st ⟨some 2, .mv (.tmp 18), none⟩ <|
    .done)) <|
  .ret
theorem b53 : bodyOf Try.prog 53 = some (19, [.t 2], c53) := by kernel_rfl
theorem k53 : callOk Try.prog 53 = true := by kernel_rfl

/-- (*leapfrog/leapfrogref07.Lock).place -/
def c81 : CC :=
  .seq (.ops (
    .st ⟨some 3, .box 29 (.tmp 1), none⟩ <|
    .st ⟨some 4, .mv (.const (.int .i64 0)), none⟩ <|
    .done)) <|
  .seq (.seq (.ops (
    .st ⟨some 5, .mv (.const (.int .i64 0)), none⟩ <|
    .done)) <|
  .block 0 (.loop (.seq (.seq (.ops (
        .st ⟨some 6, .mv (.tmp 5), none⟩ <|
        .st ⟨some 7, .mv (.tmp 0), none⟩ <|
        .st ⟨some 8, .nilc (.tmp 7), none⟩ <|
        .st ⟨some 9, .fa 3 (.tmp 8), none⟩ <|
        .st ⟨some 10, .ld none (.tmp 9), none⟩ <|
        .st ⟨some 11, .ln (.tmp 10), none⟩ <|
        .st ⟨some 12, .bini .lss (.tmp 6) (.tmp 11), none⟩ <|
        .done)) <|
      .cond (.tmp 12) (.skip) (.exit 0)) <|
      .seq (.block 1 (.seq (.ops (
          .st ⟨some 15, .mv (.tmp 0), none⟩ <|
          .st ⟨some 16, .nilc (.tmp 15), none⟩ <|
          .st ⟨some 17, .fa 3 (.tmp 16), none⟩ <|
          .st ⟨some 18, .ld none (.tmp 17), none⟩ <|
          .st ⟨some 19, .mv (.tmp 5), none⟩ <|
          .st ⟨some 20, .ia 2 (.tmp 18) (.tmp 19), none⟩ <|
          .st ⟨some 21, .ld (some 2) (.tmp 20), none⟩ <|
          .st ⟨some 22, .ld (some 2) (.tmp 3), none⟩ <|
          .st ⟨some 23, .eqs false [.i, .i] (.tmp 21) (.tmp 22), none⟩ <|
          .done)) <|
        .cond (.tmp 23) (.seq (.ops (
            .st ⟨some 24, .mv (.tmp 5), none⟩ <|
            .st ⟨some 4, .mv (.tmp 24), none⟩ <|
            .done)) <|
          .ret) (.skip))) <|
      .ops (
        .st ⟨some 13, .mv (.tmp 5), none⟩ <|
        .st ⟨some 14, .bini .add (.tmp 13) (.const (.int .i64 1)), none⟩ <|
        .st ⟨some 5, .mv (.tmp 14), none⟩ <|
        .done)))) <|
  .seq (.ops (
    .st ⟨some 4, .mv (.const (.int .i64 (-1))), none⟩ <|
    .done)) <|
  .ret
theorem b81 : bodyOf Try.prog 81 = some (25, [.t 4], c81) := by kernel_rfl
theorem k81 : callOk Try.prog 81 = true := by kernel_rfl

end Go.Proofs.Ytojegknfbgflnaa
