/- The bodies of some functions of the program, without their noise, and that they are these. Conditions: none. Written by a program of this workplace (Print.lean). -/
import Derived.Test.YtojegknfbgflnaaProg
import Derived.Test.YtojegknfbgflnaaSlM
import Derived.KernelRfl
namespace Go.Proofs.Ytojegknfbgflnaa
open Go Go.SL
set_option maxRecDepth 100000

/-- leapfrog/vec.Right -/
def c64 : CC :=
  .seq (.ops (
    .st ⟨some 1, .box 55 (.tmp 0), none⟩ <|
    .st ⟨some 2, .mv (.const (.int .i64 0)), none⟩ <|
    .done)) <|
  .seq (.seq (.ops (
    .st ⟨some 3, .fa 0 (.tmp 1), none⟩ <|
    .st ⟨some 4, .ld none (.tmp 3), none⟩ <|
    .st ⟨some 5, .bini .lss (.tmp 4) (.const (.int .i64 0)), none⟩ <|
    .st ⟨some 6, .mv (.tmp 5), none⟩ <|
    .st ⟨some 7, .fa 0 (.tmp 1), some (6, false)⟩ <|
    .st ⟨some 8, .ld none (.tmp 7), some (6, false)⟩ <|
    .st ⟨some 9, .bini .gtr (.tmp 8) (.const (.int .i64 32)), some (6, false)⟩ <|
    .st ⟨some 10, .pick (.tmp 6) (.const (.bool true)) (.tmp 9), none⟩ <|
    .st ⟨some 11, .mv (.tmp 10), none⟩ <|
    .st ⟨some 12, .fa 1 (.tmp 1), some (11, false)⟩ <|
    .st ⟨some 13, .ld none (.tmp 12), some (11, false)⟩ <|
    .st ⟨some 14, .fa 0 (.tmp 1), some (11, false)⟩ <|
    .st ⟨some 15, .ld none (.tmp 14), some (11, false)⟩ <|
    .st ⟨some 16, .call (.func 82) [.tmp 15], some (11, false)⟩ <|
    .ag ⟨some 13, .ld none (.tmp 12), some (11, false)⟩ <|
    .st ⟨some 17, .bini .gtr (.tmp 13) (.tmp 16), some (11, false)⟩ <|
    .st ⟨some 18, .pick (.tmp 11) (.const (.bool true)) (.tmp 17), none⟩ <|
    .done)) <|
  .cond (.tmp 18) (.seq (.ops (
      .st ⟨some 2, .mv (.const (.int .i64 10)), none⟩ <|
      .done)) <|
    .ret) (.skip)) <|
  .seq (.ops (
    .st ⟨some 2, .mv (.const (.int .i64 0)), none⟩ <|
    .done)) <|
  .ret
theorem b64 : bodyOf Try.prog 64 = some (19, [.t 2], c64) := by kernel_rfl
theorem k64 : callOk Try.prog 64 = true := by kernel_rfl

/-- leapfrog/vec.low -/
def c82 : CC :=
  .seq (.ops (
    .st ⟨some 2, .mv (.const (.int .u64 0)), none⟩ <|
    .done)) <|
  .seq (.ops (
    .st ⟨some 3, .mv (.tmp 0), none⟩ <|
    .st ⟨some 4, .cv .u64 (.tmp 3), none⟩ <|
    .st ⟨some 5, .bini .shl (.const (.int .u64 1)) (.tmp 4), none⟩ <|
    .st ⟨some 6, .bini .sub (.tmp 5) (.const (.int .u64 1)), none⟩ <|
    .st ⟨some 2, .mv (.tmp 6), none⟩ <|
    .done)) <|
  .ret
theorem b82 : bodyOf Try.prog 82 = some (7, [.t 2], c82) := by kernel_rfl
theorem k82 : callOk Try.prog 82 = true := by kernel_rfl

/-- leapfrog/vec.Begins -/
def c80 : CC :=
  .seq (.ops (
    .st ⟨some 2, .box 55 (.tmp 0), none⟩ <|
    .st ⟨some 3, .box 55 (.tmp 1), none⟩ <|
    .st ⟨some 4, .mv (.const (.bool false)), none⟩ <|
    .done)) <|
  .seq (.ops (
    .st ⟨some 5, .ld (some 2) (.tmp 2), none⟩ <|
    .st ⟨some 6, .call (.func 64) [.tmp 5], none⟩ <|
    .st ⟨some 7, .bini .eql (.tmp 6) (.const (.int .i64 0)), none⟩ <|
    .st ⟨some 8, .mv (.tmp 7), none⟩ <|
    .st ⟨some 9, .ld (some 2) (.tmp 3), some (8, true)⟩ <|
    .st ⟨some 10, .call (.func 64) [.tmp 9], some (8, true)⟩ <|
    .st ⟨some 11, .bini .eql (.tmp 10) (.const (.int .i64 0)), some (8, true)⟩ <|
    .st ⟨some 12, .pick (.tmp 8) (.tmp 11) (.const (.bool false)), none⟩ <|
    .st ⟨some 13, .mv (.tmp 12), none⟩ <|
    .st ⟨some 14, .fa 0 (.tmp 3), some (13, true)⟩ <|
    .st ⟨some 15, .ld none (.tmp 14), some (13, true)⟩ <|
    .st ⟨some 16, .fa 0 (.tmp 2), some (13, true)⟩ <|
    .st ⟨some 17, .ld none (.tmp 16), some (13, true)⟩ <|
    .st ⟨some 18, .bini .leq (.tmp 15) (.tmp 17), some (13, true)⟩ <|
    .st ⟨some 19, .pick (.tmp 13) (.tmp 18) (.const (.bool false)), none⟩ <|
    .st ⟨some 20, .mv (.tmp 19), none⟩ <|
    .st ⟨some 21, .ld (some 2) (.tmp 2), some (20, true)⟩ <|
    .st ⟨some 22, .fa 0 (.tmp 3), some (20, true)⟩ <|
    .st ⟨some 23, .ld none (.tmp 22), some (20, true)⟩ <|
    .st ⟨some 25, .ld (some 2) (.tmp 3), some (20, true)⟩ <|
    .st ⟨some 24, .call (.func 95) [.tmp 21, .tmp 23], some (20, true)⟩ <|
    .ag ⟨some 25, .ld (some 2) (.tmp 3), some (20, true)⟩ <|
    .st ⟨some 26, .eqs false [.i, .i] (.tmp 24) (.tmp 25), some (20, true)⟩ <|
    .st ⟨some 27, .pick (.tmp 20) (.tmp 26) (.const (.bool false)), none⟩ <|
    .st ⟨some 4, .mv (.tmp 27), none⟩ <|
    .done)) <|
  .ret
theorem b80 : bodyOf Try.prog 80 = some (28, [.t 4], c80) := by kernel_rfl
theorem k80 : callOk Try.prog 80 = true := by kernel_rfl

/-- leapfrog/vec.prefix -/
def c95 : CC :=
  .seq (.ops (
    .st ⟨some 2, .box 55 (.tmp 0), none⟩ <|
    .st ⟨some 4, .new 55 #[.int .i64 0, .int .u64 0], none⟩ <|
    .done)) <|
  .seq (.ops (
    .st ⟨some 5, .mv (.tmp 1), none⟩ <|
    .st ⟨some 6, .fa 1 (.tmp 2), none⟩ <|
    .st ⟨some 7, .ld none (.tmp 6), none⟩ <|
    .st ⟨some 8, .fa 0 (.tmp 2), none⟩ <|
    .st ⟨some 9, .ld none (.tmp 8), none⟩ <|
    .st ⟨some 10, .mv (.tmp 1), none⟩ <|
    .st ⟨some 11, .bini .sub (.tmp 9) (.tmp 10), none⟩ <|
    .st ⟨some 12, .cv .u64 (.tmp 11), none⟩ <|
    .st ⟨some 13, .bini .shr (.tmp 7) (.tmp 12), none⟩ <|
    .st ⟨some 14, .agg [.c (.tmp 5) 0 1, .c (.tmp 13) 0 1], none⟩ <|
    .st ⟨none, .st 2 (.tmp 4) (.tmp 14), none⟩ <|
    .done)) <|
  .ret
theorem b95 : bodyOf Try.prog 95 = some (15, [.c 4 (some 2)], c95) := by kernel_rfl
theorem k95 : callOk Try.prog 95 = true := by kernel_rfl

/-- leapfrog/key.Check -/
def c63 : CC :=
  .seq (.ops (
    .st ⟨some 1, .box 58 (.tmp 0), none⟩ <|
    .st ⟨some 2, .mv (.const (.int .i64 0)), none⟩ <|
    .done)) <|
  .seq (.seq (.ops (
    .st ⟨some 3, .fa 0 (.tmp 1), none⟩ <|
    .st ⟨some 4, .ld none (.tmp 3), none⟩ <|
    .st ⟨some 5, .bini .eql (.tmp 4) (.const (.int .i64 2)), none⟩ <|
    .st ⟨some 6, .mv (.tmp 5), none⟩ <|
    .st ⟨some 7, .fa 0 (.tmp 1), some (6, false)⟩ <|
    .st ⟨some 8, .ld none (.tmp 7), some (6, false)⟩ <|
    .st ⟨some 9, .bini .eql (.tmp 8) (.const (.int .i64 1)), some (6, false)⟩ <|
    .st ⟨some 10, .mv (.tmp 9), some (6, false)⟩ <|
    .st ⟨some 11, .fa 0 (.tmp 1), some (10, false)⟩ <|
    .st ⟨some 12, .ld none (.tmp 11), some (10, false)⟩ <|
    .st ⟨some 13, .bini .eql (.tmp 12) (.const (.int .i64 3)), some (10, false)⟩ <|
    .st ⟨some 14, .pick (.tmp 10) (.const (.bool true)) (.tmp 13), some (6, false)⟩ <|
    .st ⟨some 15, .mv (.tmp 14), some (6, false)⟩ <|
    .st ⟨some 16, .fa 1 (.tmp 1), some (15, true)⟩ <|
    .st ⟨some 17, .ld none (.tmp 16), some (15, true)⟩ <|
    .st ⟨some 18, .bini .eql (.tmp 17) (.const (.int .u64 0)), some (15, true)⟩ <|
    .st ⟨some 19, .pick (.tmp 15) (.tmp 18) (.const (.bool false)), some (6, false)⟩ <|
    .st ⟨some 20, .pick (.tmp 6) (.const (.bool true)) (.tmp 19), none⟩ <|
    .done)) <|
  .cond (.tmp 20) (.seq (.ops (
      .st ⟨some 2, .mv (.const (.int .i64 0)), none⟩ <|
      .done)) <|
    .ret) (.skip)) <|
  .seq (.ops (
    .st ⟨some 2, .mv (.const (.int .i64 20)), none⟩ <|
    .done)) <|
  .ret
theorem b63 : bodyOf Try.prog 63 = some (21, [.t 2], c63) := by kernel_rfl
theorem k63 : callOk Try.prog 63 = true := by kernel_rfl

/-- leapfrog/key.Less -/
def c85 : CC :=
  .seq (.ops (
    .st ⟨some 2, .box 58 (.tmp 0), none⟩ <|
    .st ⟨some 3, .box 58 (.tmp 1), none⟩ <|
    .st ⟨some 4, .mv (.const (.bool false)), none⟩ <|
    .done)) <|
  .seq (.ops (
    .st ⟨some 5, .ld (some 2) (.tmp 2), none⟩ <|
    .st ⟨some 6, .ld (some 2) (.tmp 3), none⟩ <|
    .st ⟨some 7, .call (.func 96) [.tmp 5, .tmp 6], none⟩ <|
    .st ⟨some 8, .bini .lss (.tmp 7) (.const (.int .i64 0)), none⟩ <|
    .st ⟨some 4, .mv (.tmp 8), none⟩ <|
    .done)) <|
  .ret
theorem b85 : bodyOf Try.prog 85 = some (9, [.t 4], c85) := by kernel_rfl
theorem k85 : callOk Try.prog 85 = true := by kernel_rfl

/-- leapfrog/key.Compare -/
def c96 : CC :=
  .seq (.ops (
    .st ⟨some 2, .box 58 (.tmp 0), none⟩ <|
    .st ⟨some 3, .box 58 (.tmp 1), none⟩ <|
    .st ⟨some 4, .mv (.const (.int .i64 0)), none⟩ <|
    .done)) <|
  .seq (.ops (
    .st ⟨some 5, .fa 0 (.tmp 2), none⟩ <|
    .st ⟨some 6, .ld none (.tmp 5), none⟩ <|
    .st ⟨some 7, .fa 0 (.tmp 3), none⟩ <|
    .st ⟨some 8, .ld none (.tmp 7), none⟩ <|
    .st ⟨some 10, .fa 1 (.tmp 2), none⟩ <|
    .st ⟨some 11, .ld none (.tmp 10), none⟩ <|
    .st ⟨some 12, .fa 1 (.tmp 3), none⟩ <|
    .st ⟨some 13, .ld none (.tmp 12), none⟩ <|
    .st ⟨some 9, .call (.func 116) [.tmp 6, .tmp 8], none⟩ <|
    .ag ⟨some 11, .ld none (.tmp 10), none⟩ <|
    .ag ⟨some 13, .ld none (.tmp 12), none⟩ <|
    .st ⟨some 14, .call (.func 117) [.tmp 11, .tmp 13], none⟩ <|
    .st ⟨some 15, .bsl 3 [.c (.tmp 9) 0 1, .c (.tmp 14) 0 1] 2, none⟩ <|
    .st ⟨some 16, .call (.func 88) [.tmp 15], none⟩ <|
    .st ⟨some 4, .mv (.tmp 16), none⟩ <|
    .done)) <|
  .ret
theorem b96 : bodyOf Try.prog 96 = some (17, [.t 4], c96) := by kernel_rfl
theorem k96 : callOk Try.prog 96 = true := by kernel_rfl

/-- cmp.Or[int] -/
def c88 : CC :=
  .seq (.ops (
    .st ⟨some 2, .mv (.const (.int .i64 0)), none⟩ <|
    .done)) <|
  .seq (.ops (
    .st ⟨some 3, .mv (.const (.int .i64 0)), none⟩ <|
    .done)) <|
  .seq (.seq (.ops (
    .st ⟨some 6, .mv (.tmp 0), none⟩ <|
    .st ⟨some 7, .ln (.tmp 6), none⟩ <|
    .st ⟨some 8, .mv (.const (.int .i64 0)), none⟩ <|
    .done)) <|
  .block 0 (.loop (.seq (.ops (
        .st ⟨some 9, .bini .lss (.tmp 8) (.tmp 7), none⟩ <|
        .done)) <|
      .seq (.cond (.tmp 9) (.skip) (.exit 0)) <|
      .seq (.block 1 (.seq (.ops (
          .st ⟨some 10, .ia 1 (.tmp 6) (.tmp 8), none⟩ <|
          .st ⟨some 11, .ld none (.tmp 10), none⟩ <|
          .st ⟨some 5, .mv (.tmp 11), none⟩ <|
          .done)) <|
        .seq (.ops (
          .st ⟨some 12, .mv (.tmp 5), none⟩ <|
          .st ⟨some 13, .mv (.tmp 3), none⟩ <|
          .st ⟨some 14, .bini .neq (.tmp 12) (.tmp 13), none⟩ <|
          .done)) <|
        .cond (.tmp 14) (.seq (.ops (
            .st ⟨some 15, .mv (.tmp 5), none⟩ <|
            .st ⟨some 2, .mv (.tmp 15), none⟩ <|
            .done)) <|
          .ret) (.skip))) <|
      .ops (
        .st ⟨some 16, .bini .add (.tmp 8) (.const (.int .i64 1)), none⟩ <|
        .st ⟨some 8, .mv (.tmp 16), none⟩ <|
        .done)))) <|
  .seq (.ops (
    .st ⟨some 17, .mv (.tmp 3), none⟩ <|
    .st ⟨some 2, .mv (.tmp 17), none⟩ <|
    .done)) <|
  .ret
theorem b88 : bodyOf Try.prog 88 = some (18, [.t 2], c88) := by kernel_rfl
theorem k88 : callOk Try.prog 88 = true := by kernel_rfl

/-- cmp.Compare[int] -/
def c89 : CC :=
  .seq (.ops (
    .st ⟨some 4, .mv (.const (.int .i64 0)), none⟩ <|
    .done)) <|
  .seq (.ops (
    .st ⟨some 7, .mv (.tmp 0), none⟩ <|
    .st ⟨some 8, .call (.func 107) [.tmp 7], none⟩ <|
    .st ⟨some 5, .mv (.tmp 8), none⟩ <|
    .done)) <|
  .seq (.ops (
    .st ⟨some 9, .mv (.tmp 1), none⟩ <|
    .st ⟨some 10, .call (.func 107) [.tmp 9], none⟩ <|
    .st ⟨some 6, .mv (.tmp 10), none⟩ <|
    .done)) <|
  .seq (.seq (.ops (
    .st ⟨some 11, .mv (.tmp 5), none⟩ <|
    .done)) <|
  .cond (.tmp 11) (.seq (.seq (.ops (
      .st ⟨some 12, .mv (.tmp 6), none⟩ <|
      .done)) <|
    .cond (.tmp 12) (.seq (.ops (
        .st ⟨some 4, .mv (.const (.int .i64 0)), none⟩ <|
        .done)) <|
      .ret) (.skip)) <|
    .seq (.ops (
      .st ⟨some 4, .mv (.const (.int .i64 (-1))), none⟩ <|
      .done)) <|
    .ret) (.skip)) <|
  .seq (.seq (.ops (
    .st ⟨some 13, .mv (.tmp 6), none⟩ <|
    .done)) <|
  .cond (.tmp 13) (.seq (.ops (
      .st ⟨some 4, .mv (.const (.int .i64 1)), none⟩ <|
      .done)) <|
    .ret) (.skip)) <|
  .seq (.seq (.ops (
    .st ⟨some 14, .mv (.tmp 0), none⟩ <|
    .st ⟨some 15, .mv (.tmp 1), none⟩ <|
    .st ⟨some 16, .bini .lss (.tmp 14) (.tmp 15), none⟩ <|
    .done)) <|
  .cond (.tmp 16) (.seq (.ops (
      .st ⟨some 4, .mv (.const (.int .i64 (-1))), none⟩ <|
      .done)) <|
    .ret) (.skip)) <|
  .seq (.seq (.ops (
    .st ⟨some 17, .mv (.tmp 0), none⟩ <|
    .st ⟨some 18, .mv (.tmp 1), none⟩ <|
    .st ⟨some 19, .bini .gtr (.tmp 17) (.tmp 18), none⟩ <|
    .done)) <|
  .cond (.tmp 19) (.seq (.ops (
      .st ⟨some 4, .mv (.const (.int .i64 1)), none⟩ <|
      .done)) <|
    .ret) (.skip)) <|
  .seq (.ops (
    .st ⟨some 4, .mv (.const (.int .i64 0)), none⟩ <|
    .done)) <|
  .ret
theorem b89 : bodyOf Try.prog 89 = some (20, [.t 4], c89) := by kernel_rfl
theorem k89 : callOk Try.prog 89 = true := by kernel_rfl

/-- cmp.Compare[leapfrog/api.Rank] -/
def c116 : CC :=
  .seq (.ops (
    .st ⟨some 4, .mv (.const (.int .i64 0)), none⟩ <|
    .done)) <|
  .seq (.ops (
    .st ⟨some 7, .mv (.tmp 0), none⟩ <|
    .st ⟨some 8, .call (.func 126) [.tmp 7], none⟩ <|
    .st ⟨some 5, .mv (.tmp 8), none⟩ <|
    .done)) <|
  .seq (.ops (
    .st ⟨some 9, .mv (.tmp 1), none⟩ <|
    .st ⟨some 10, .call (.func 126) [.tmp 9], none⟩ <|
    .st ⟨some 6, .mv (.tmp 10), none⟩ <|
    .done)) <|
  .seq (.seq (.ops (
    .st ⟨some 11, .mv (.tmp 5), none⟩ <|
    .done)) <|
  .cond (.tmp 11) (.seq (.seq (.ops (
      .st ⟨some 12, .mv (.tmp 6), none⟩ <|
      .done)) <|
    .cond (.tmp 12) (.seq (.ops (
        .st ⟨some 4, .mv (.const (.int .i64 0)), none⟩ <|
        .done)) <|
      .ret) (.skip)) <|
    .seq (.ops (
      .st ⟨some 4, .mv (.const (.int .i64 (-1))), none⟩ <|
      .done)) <|
    .ret) (.skip)) <|
  .seq (.seq (.ops (
    .st ⟨some 13, .mv (.tmp 6), none⟩ <|
    .done)) <|
  .cond (.tmp 13) (.seq (.ops (
      .st ⟨some 4, .mv (.const (.int .i64 1)), none⟩ <|
      .done)) <|
    .ret) (.skip)) <|
  .seq (.seq (.ops (
    .st ⟨some 14, .mv (.tmp 0), none⟩ <|
    .st ⟨some 15, .mv (.tmp 1), none⟩ <|
    .st ⟨some 16, .bini .lss (.tmp 14) (.tmp 15), none⟩ <|
    .done)) <|
  .cond (.tmp 16) (.seq (.ops (
      .st ⟨some 4, .mv (.const (.int .i64 (-1))), none⟩ <|
      .done)) <|
    .ret) (.skip)) <|
  .seq (.seq (.ops (
    .st ⟨some 17, .mv (.tmp 0), none⟩ <|
    .st ⟨some 18, .mv (.tmp 1), none⟩ <|
    .st ⟨some 19, .bini .gtr (.tmp 17) (.tmp 18), none⟩ <|
    .done)) <|
  .cond (.tmp 19) (.seq (.ops (
      .st ⟨some 4, .mv (.const (.int .i64 1)), none⟩ <|
      .done)) <|
    .ret) (.skip)) <|
  .seq (.ops (
    .st ⟨some 4, .mv (.const (.int .i64 0)), none⟩ <|
    .done)) <|
  .ret
theorem b116 : bodyOf Try.prog 116 = some (20, [.t 4], c116) := by kernel_rfl
theorem k116 : callOk Try.prog 116 = true := by kernel_rfl

/-- cmp.Compare[uint64] -/
def c117 : CC :=
  .seq (.ops (
    .st ⟨some 4, .mv (.const (.int .i64 0)), none⟩ <|
    .done)) <|
  .seq (.ops (
    .st ⟨some 7, .mv (.tmp 0), none⟩ <|
    .st ⟨some 8, .call (.func 127) [.tmp 7], none⟩ <|
    .st ⟨some 5, .mv (.tmp 8), none⟩ <|
    .done)) <|
  .seq (.ops (
    .st ⟨some 9, .mv (.tmp 1), none⟩ <|
    .st ⟨some 10, .call (.func 127) [.tmp 9], none⟩ <|
    .st ⟨some 6, .mv (.tmp 10), none⟩ <|
    .done)) <|
  .seq (.seq (.ops (
    .st ⟨some 11, .mv (.tmp 5), none⟩ <|
    .done)) <|
  .cond (.tmp 11) (.seq (.seq (.ops (
      .st ⟨some 12, .mv (.tmp 6), none⟩ <|
      .done)) <|
    .cond (.tmp 12) (.seq (.ops (
        .st ⟨some 4, .mv (.const (.int .i64 0)), none⟩ <|
        .done)) <|
      .ret) (.skip)) <|
    .seq (.ops (
      .st ⟨some 4, .mv (.const (.int .i64 (-1))), none⟩ <|
      .done)) <|
    .ret) (.skip)) <|
  .seq (.seq (.ops (
    .st ⟨some 13, .mv (.tmp 6), none⟩ <|
    .done)) <|
  .cond (.tmp 13) (.seq (.ops (
      .st ⟨some 4, .mv (.const (.int .i64 1)), none⟩ <|
      .done)) <|
    .ret) (.skip)) <|
  .seq (.seq (.ops (
    .st ⟨some 14, .mv (.tmp 0), none⟩ <|
    .st ⟨some 15, .mv (.tmp 1), none⟩ <|
    .st ⟨some 16, .bini .lss (.tmp 14) (.tmp 15), none⟩ <|
    .done)) <|
  .cond (.tmp 16) (.seq (.ops (
      .st ⟨some 4, .mv (.const (.int .i64 (-1))), none⟩ <|
      .done)) <|
    .ret) (.skip)) <|
  .seq (.seq (.ops (
    .st ⟨some 17, .mv (.tmp 0), none⟩ <|
    .st ⟨some 18, .mv (.tmp 1), none⟩ <|
    .st ⟨some 19, .bini .gtr (.tmp 17) (.tmp 18), none⟩ <|
    .done)) <|
  .cond (.tmp 19) (.seq (.ops (
      .st ⟨some 4, .mv (.const (.int .i64 1)), none⟩ <|
      .done)) <|
    .ret) (.skip)) <|
  .seq (.ops (
    .st ⟨some 4, .mv (.const (.int .i64 0)), none⟩ <|
    .done)) <|
  .ret
theorem b117 : bodyOf Try.prog 117 = some (20, [.t 4], c117) := by kernel_rfl
theorem k117 : callOk Try.prog 117 = true := by kernel_rfl

/-- cmp.isNaN[int] -/
def c107 : CC :=
  .seq (.ops (
    .st ⟨some 2, .mv (.const (.bool false)), none⟩ <|
    .done)) <|
  .seq (.ops (
    .st ⟨some 3, .mv (.tmp 0), none⟩ <|
    .st ⟨some 4, .mv (.tmp 0), none⟩ <|
    .st ⟨some 5, .bini .neq (.tmp 3) (.tmp 4), none⟩ <|
    .st ⟨some 2, .mv (.tmp 5), none⟩ <|
    .done)) <|
  .ret
theorem b107 : bodyOf Try.prog 107 = some (6, [.t 2], c107) := by kernel_rfl
theorem k107 : callOk Try.prog 107 = true := by kernel_rfl

/-- cmp.isNaN[leapfrog/api.Rank] -/
def c126 : CC :=
  .seq (.ops (
    .st ⟨some 2, .mv (.const (.bool false)), none⟩ <|
    .done)) <|
  .seq (.ops (
    .st ⟨some 3, .mv (.tmp 0), none⟩ <|
    .st ⟨some 4, .mv (.tmp 0), none⟩ <|
    .st ⟨some 5, .bini .neq (.tmp 3) (.tmp 4), none⟩ <|
    .st ⟨some 2, .mv (.tmp 5), none⟩ <|
    .done)) <|
  .ret
theorem b126 : bodyOf Try.prog 126 = some (6, [.t 2], c126) := by kernel_rfl
theorem k126 : callOk Try.prog 126 = true := by kernel_rfl

/-- cmp.isNaN[uint64] -/
def c127 : CC :=
  .seq (.ops (
    .st ⟨some 2, .mv (.const (.bool false)), none⟩ <|
    .done)) <|
  .seq (.ops (
    .st ⟨some 3, .mv (.tmp 0), none⟩ <|
    .st ⟨some 4, .mv (.tmp 0), none⟩ <|
    .st ⟨some 5, .bini .neq (.tmp 3) (.tmp 4), none⟩ <|
    .st ⟨some 2, .mv (.tmp 5), none⟩ <|
    .done)) <|
  .ret
theorem b127 : bodyOf Try.prog 127 = some (6, [.t 2], c127) := by kernel_rfl
theorem k127 : callOk Try.prog 127 = true := by kernel_rfl

/-- leapfrog/leapfrogref02.At -/
def c54 : CC :=
  .seq (.ops (
    .st ⟨some 2, .new 58 #[.int .i64 0, .int .u64 0], none⟩ <|
    .done)) <|
  .seq (.ops (
    .st ⟨some 3, .mv (.tmp 0), none⟩ <|
    .st ⟨some 4, .agg [.c (.const (.int .i64 2)) 0 1, .c (.tmp 3) 0 1], none⟩ <|
    .st ⟨none, .st 2 (.tmp 2) (.tmp 4), none⟩ <|
    .done)) <|
  .ret
theorem b54 : bodyOf Try.prog 54 = some (5, [.c 2 (some 2)], c54) := by kernel_rfl
theorem k54 : callOk Try.prog 54 = true := by kernel_rfl

end Go.Proofs.Ytojegknfbgflnaa
