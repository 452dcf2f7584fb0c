/- The bodies of some functions of the program, without their noise, and that they are these. Conditions: none. Written by a program of this workplace (Print.lean). -/
import Derived.Test.YtojegknfbgflnaaProg
import Derived.Test.YtojegknfbgflnaaSlM
import Derived.KernelRfl
namespace Go.Proofs.Ytojegknfbgflnaa
open Go Go.SL
set_option maxRecDepth 100000

/-- (*leapfrog/link.Links).is -/
def c59 : CC :=
  .seq (.ops (
    .st ⟨some 2, .mv (.const (.bool false)), none⟩ <|
    .done)) <|
  .seq (.ops (
    .st ⟨some 3, .mv (.tmp 0), none⟩ <|
    .st ⟨some 4, .cmp .p true (.tmp 3) (.const (.pointer none)), none⟩ <|
    .st ⟨some 5, .mv (.tmp 4), none⟩ <|
    .st ⟨some 6, .mv (.tmp 0), some (5, true)⟩ <|
    .st ⟨some 7, .nilc (.tmp 6), some (5, true)⟩ <|
    .st ⟨some 8, .fa 5 (.tmp 7), some (5, true)⟩ <|
    .st ⟨some 9, .ld none (.tmp 8), some (5, true)⟩ <|
    .st ⟨some 10, .cmp .m true (.tmp 9) (.const (.map none)), some (5, true)⟩ <|
    .st ⟨some 11, .pick (.tmp 5) (.tmp 10) (.const (.bool false)), none⟩ <|
    .st ⟨some 2, .mv (.tmp 11), none⟩ <|
    .done)) <|
  .ret
theorem b59 : bodyOf Try.prog 59 = some (12, [.t 2], c59) := by kernel_rfl
theorem k59 : callOk Try.prog 59 = true := by kernel_rfl

/-- (*leapfrog/link.Links).head -/
def c83 : CC :=
  .seq (.ops (
    .st ⟨some 2, .mv (.const (.bool false)), none⟩ <|
    .done)) <|
  .seq (.ops (
    .st ⟨some 3, .mv (.tmp 0), none⟩ <|
    .st ⟨some 4, .nilc (.tmp 3), none⟩ <|
    .st ⟨some 5, .fa 0 (.tmp 4), none⟩ <|
    .st ⟨some 6, .fa 1 (.tmp 5), none⟩ <|
    .st ⟨some 7, .fa 0 (.tmp 6), none⟩ <|
    .st ⟨some 8, .ld none (.tmp 7), none⟩ <|
    .st ⟨some 9, .bini .eql (.tmp 8) (.const (.int .i64 1)), none⟩ <|
    .st ⟨some 2, .mv (.tmp 9), none⟩ <|
    .done)) <|
  .ret
theorem b83 : bodyOf Try.prog 83 = some (10, [.t 2], c83) := by kernel_rfl
theorem k83 : callOk Try.prog 83 = true := by kernel_rfl

/-- (*leapfrog/link.Links).tail -/
def c84 : CC :=
  .seq (.ops (
    .st ⟨some 2, .mv (.const (.bool false)), none⟩ <|
    .done)) <|
  .seq (.ops (
    .st ⟨some 3, .mv (.tmp 0), none⟩ <|
    .st ⟨some 4, .nilc (.tmp 3), none⟩ <|
    .st ⟨some 5, .fa 0 (.tmp 4), none⟩ <|
    .st ⟨some 6, .fa 1 (.tmp 5), none⟩ <|
    .st ⟨some 7, .fa 0 (.tmp 6), none⟩ <|
    .st ⟨some 8, .ld none (.tmp 7), none⟩ <|
    .st ⟨some 9, .bini .eql (.tmp 8) (.const (.int .i64 3)), none⟩ <|
    .st ⟨some 2, .mv (.tmp 9), none⟩ <|
    .done)) <|
  .ret
theorem b84 : bodyOf Try.prog 84 = some (10, [.t 2], c84) := by kernel_rfl
theorem k84 : callOk Try.prog 84 = true := by kernel_rfl

/-- (*leapfrog/link.Links).end -/
def c65 : CC :=
  .seq (.ops (
    .st ⟨some 2, .mv (.const (.bool false)), none⟩ <|
    .done)) <|
  .seq (.ops (
    .st ⟨some 3, .mv (.tmp 0), none⟩ <|
    .st ⟨some 4, .call (.func 83) [.tmp 3], none⟩ <|
    .st ⟨some 5, .mv (.tmp 4), none⟩ <|
    .st ⟨some 6, .mv (.tmp 0), some (5, false)⟩ <|
    .st ⟨some 7, .call (.func 84) [.tmp 6], some (5, false)⟩ <|
    .st ⟨some 8, .pick (.tmp 5) (.const (.bool true)) (.tmp 7), none⟩ <|
    .st ⟨some 2, .mv (.tmp 8), none⟩ <|
    .done)) <|
  .ret
theorem b65 : bodyOf Try.prog 65 = some (9, [.t 2], c65) := by kernel_rfl
theorem k65 : callOk Try.prog 65 = true := by kernel_rfl

/-- leapfrog/link.New -/
def c33 : CC :=
  .seq (.ops (
    .st ⟨some 1, .box 60 (.tmp 0), none⟩ <|
    .st ⟨some 2, .mv (.const (.pointer none)), none⟩ <|
    .st ⟨some 3, .mv (.const (.int .i64 0)), none⟩ <|
    .done)) <|
  .seq (.seq (.ops (
    .st ⟨some 4, .fa 1 (.tmp 1), none⟩ <|
    .st ⟨some 5, .ld (some 2) (.tmp 4), none⟩ <|
    .st ⟨some 6, .call (.func 63) [.tmp 5], none⟩ <|
    .st ⟨some 7, .bini .neq (.tmp 6) (.const (.int .i64 0)), none⟩ <|
    .st ⟨some 8, .mv (.tmp 7), none⟩ <|
    .st ⟨some 9, .fa 3 (.tmp 1), some (8, false)⟩ <|
    .st ⟨some 10, .ld (some 2) (.tmp 9), some (8, false)⟩ <|
    .st ⟨some 11, .call (.func 64) [.tmp 10], some (8, false)⟩ <|
    .st ⟨some 12, .bini .neq (.tmp 11) (.const (.int .i64 0)), some (8, false)⟩ <|
    .st ⟨some 13, .pick (.tmp 8) (.const (.bool true)) (.tmp 12), none⟩ <|
    .done)) <|
  .cond (.tmp 13) (.seq (.ops (
      .st ⟨some 2, .mv (.const (.pointer none)), none⟩ <|
      .st ⟨some 3, .mv (.const (.int .i64 80)), none⟩ <|
      .done)) <|
    .ret) (.skip)) <|
  .seq (.ops (
    .st ⟨some 14, .ld (some 5) (.tmp 1), none⟩ <|
    .st ⟨some 15, .mkm, none⟩ <|
    .st ⟨some 16, .agg [.c (.tmp 14) 0 5, .c (.tmp 14) 1 5, .c (.tmp 14) 2 5, .c (.tmp 14) 3 5, .c (.tmp 14) 4 5, .c (.tmp 15) 0 1], none⟩ <|
    .st ⟨some 17, .box 93 (.tmp 16), none⟩ <|
    .st ⟨some 2, .mv (.tmp 17), none⟩ <|
    .st ⟨some 3, .mv (.const (.int .i64 0)), none⟩ <|
    .done)) <|
  .ret
theorem b33 : bodyOf Try.prog 33 = some (18, [.t 2, .t 3], c33) := by kernel_rfl
theorem k33 : callOk Try.prog 33 = true := by kernel_rfl

/-- (*leapfrog/link.Links).May -/
def c40 : CC :=
  .seq (.ops (
    .st ⟨some 3, .box 55 (.tmp 1), none⟩ <|
    .st ⟨some 4, .mv (.const (.bool false)), none⟩ <|
    .done)) <|
  .seq (.seq (.ops (
    .st ⟨some 5, .mv (.tmp 0), none⟩ <|
    .st ⟨some 6, .call (.func 59) [.tmp 5], none⟩ <|
    .st ⟨some 7, .un .not (.tmp 6), none⟩ <|
    .done)) <|
  .cond (.tmp 7) (.seq (.ops (
      .st ⟨some 4, .mv (.const (.bool false)), none⟩ <|
      .done)) <|
    .ret) (.skip)) <|
  .seq (.seq (.ops (
    .st ⟨some 8, .mv (.tmp 0), none⟩ <|
    .st ⟨some 9, .call (.func 65) [.tmp 8], none⟩ <|
    .done)) <|
  .cond (.tmp 9) (.seq (.ops (
      .st ⟨some 10, .ld (some 2) (.tmp 3), none⟩ <|
      .st ⟨some 11, .call (.func 64) [.tmp 10], none⟩ <|
      .st ⟨some 12, .bini .eql (.tmp 11) (.const (.int .i64 0)), none⟩ <|
      .st ⟨some 13, .mv (.tmp 12), none⟩ <|
      .st ⟨some 14, .fa 0 (.tmp 3), some (13, true)⟩ <|
      .st ⟨some 15, .ld none (.tmp 14), some (13, true)⟩ <|
      .st ⟨some 16, .mv (.tmp 0), some (13, true)⟩ <|
      .st ⟨some 17, .nilc (.tmp 16), some (13, true)⟩ <|
      .st ⟨some 18, .fa 0 (.tmp 17), some (13, true)⟩ <|
      .st ⟨some 19, .fa 3 (.tmp 18), some (13, true)⟩ <|
      .st ⟨some 20, .fa 0 (.tmp 19), some (13, true)⟩ <|
      .st ⟨some 21, .ld none (.tmp 20), some (13, true)⟩ <|
      .st ⟨some 22, .bini .leq (.tmp 15) (.tmp 21), some (13, true)⟩ <|
      .st ⟨some 23, .pick (.tmp 13) (.tmp 22) (.const (.bool false)), none⟩ <|
      .st ⟨some 4, .mv (.tmp 23), none⟩ <|
      .done)) <|
    .ret) (.skip)) <|
  .seq (.ops (
    .st ⟨some 24, .mv (.tmp 0), none⟩ <|
    .st ⟨some 25, .nilc (.tmp 24), none⟩ <|
    .st ⟨some 26, .fa 0 (.tmp 25), none⟩ <|
    .st ⟨some 27, .fa 3 (.tmp 26), none⟩ <|
    .st ⟨some 28, .ld (some 2) (.tmp 27), none⟩ <|
    .st ⟨some 29, .ld (some 2) (.tmp 3), none⟩ <|
    .st ⟨some 30, .call (.func 80) [.tmp 28, .tmp 29], none⟩ <|
    .st ⟨some 4, .mv (.tmp 30), none⟩ <|
    .done)) <|
  .ret
theorem b40 : bodyOf Try.prog 40 = some (31, [.t 4], c40) := by kernel_rfl
theorem k40 : callOk Try.prog 40 = true := by kernel_rfl

/-- (*leapfrog/link.Links).first -/
def c75 : CC :=
  .seq (.ops (
    .st ⟨some 2, .mv (.const (.pointer none)), none⟩ <|
    .done)) <|
  .seq (.ops (
    .st ⟨some 4, .call (.func 15) [], none⟩ <|
    .st ⟨some 5, .agg [.z (.int .i64 0), .z (.int .i64 0), .z (.int .u64 0), .z (.int .i64 0), .z (.int .u64 0), .z (.int .i64 0), .z (.int .i64 0), .z (.int .u64 0), .z (.int .i64 0), .z (.int .u64 0), .c (.tmp 4) 0 1], none⟩ <|
    .st ⟨some 6, .box 115 (.tmp 5), none⟩ <|
    .st ⟨some 3, .mv (.tmp 6), none⟩ <|
    .done)) <|
  .seq (.seq (.ops (
    .st ⟨some 7, .mv (.tmp 0), none⟩ <|
    .st ⟨some 8, .call (.func 83) [.tmp 7], none⟩ <|
    .done)) <|
  .cond (.tmp 8) (.ops (
      .st ⟨some 9, .mv (.tmp 3), none⟩ <|
      .st ⟨some 10, .agg [.c (.const (.int .i64 3)) 0 1, .z (.int .u64 0)], none⟩ <|
      .st ⟨some 11, .mv (.tmp 0), none⟩ <|
      .st ⟨some 12, .nilc (.tmp 11), none⟩ <|
      .st ⟨some 13, .fa 0 (.tmp 12), none⟩ <|
      .st ⟨some 14, .fa 3 (.tmp 13), none⟩ <|
      .st ⟨some 15, .ld (some 2) (.tmp 14), none⟩ <|
      .st ⟨some 16, .agg [.c (.const (.int .i64 1)) 0 1, .c (.tmp 10) 0 2, .c (.tmp 10) 1 2, .c (.tmp 15) 0 2, .c (.tmp 15) 1 2], none⟩ <|
      .st ⟨some 17, .nilc (.tmp 9), none⟩ <|
      .st ⟨some 18, .fa 5 (.tmp 17), none⟩ <|
      .st ⟨none, .st 5 (.tmp 18) (.tmp 16), none⟩ <|
      .done)) (.ops (
      .st ⟨some 19, .mv (.tmp 3), none⟩ <|
      .st ⟨some 20, .agg [.c (.const (.int .i64 1)) 0 1, .z (.int .u64 0)], none⟩ <|
      .st ⟨some 21, .mv (.tmp 0), none⟩ <|
      .st ⟨some 22, .nilc (.tmp 21), none⟩ <|
      .st ⟨some 23, .fa 0 (.tmp 22), none⟩ <|
      .st ⟨some 24, .fa 3 (.tmp 23), none⟩ <|
      .st ⟨some 25, .ld (some 2) (.tmp 24), none⟩ <|
      .st ⟨some 26, .agg [.z (.int .i64 0), .c (.tmp 20) 0 2, .c (.tmp 20) 1 2, .c (.tmp 25) 0 2, .c (.tmp 25) 1 2], none⟩ <|
      .st ⟨some 27, .nilc (.tmp 19), none⟩ <|
      .st ⟨some 28, .fa 0 (.tmp 27), none⟩ <|
      .st ⟨none, .st 5 (.tmp 28) (.tmp 26), none⟩ <|
      .done))) <|
  .seq (.ops (
    .st ⟨some 29, .mv (.tmp 3), none⟩ <|
    .st ⟨some 2, .mv (.tmp 29), none⟩ <|
    .done)) <|
  .ret
theorem b75 : bodyOf Try.prog 75 = some (30, [.t 2], c75) := by kernel_rfl
theorem k75 : callOk Try.prog 75 = true := by kernel_rfl

/-- (*leapfrog/link.Links).in -/
def c60 : CC :=
  .seq (.ops (
    .st ⟨some 3, .box 55 (.tmp 1), none⟩ <|
    .st ⟨some 4, .mv (.const (.pointer none)), none⟩ <|
    .done)) <|
  .seq (.seq (.ops (
    .st ⟨some 9, .mv (.tmp 0), none⟩ <|
    .st ⟨some 10, .nilc (.tmp 9), none⟩ <|
    .st ⟨some 11, .fa 5 (.tmp 10), none⟩ <|
    .st ⟨some 12, .ld none (.tmp 11), none⟩ <|
    .st ⟨some 13, .ld (some 2) (.tmp 3), none⟩ <|
    .st ⟨some 14, .lkp true 55 (.pointer none) (.tmp 12) (.tmp 13), none⟩ <|
    .st ⟨some 8, .mv (.tmp 14), none⟩ <|
    .st ⟨some 15, .ext (.tmp 8) 0, none⟩ <|
    .st ⟨some 16, .ext (.tmp 8) 1, none⟩ <|
    .st ⟨some 5, .mv (.tmp 15), none⟩ <|
    .st ⟨some 6, .mv (.tmp 16), none⟩ <|
    .done)) <|
  .seq (.ops (
    .st ⟨some 17, .mv (.tmp 6), none⟩ <|
    .done)) <|
  .cond (.tmp 17) (.seq (.ops (
      .st ⟨some 18, .mv (.tmp 5), none⟩ <|
      .st ⟨some 4, .mv (.tmp 18), none⟩ <|
      .done)) <|
    .ret) (.skip)) <|
  .seq (.seq (.ops (
    .st ⟨some 19, .mv (.tmp 0), none⟩ <|
    .st ⟨some 20, .call (.func 65) [.tmp 19], none⟩ <|
    .st ⟨some 21, .un .not (.tmp 20), none⟩ <|
    .st ⟨some 22, .mv (.tmp 21), none⟩ <|
    .st ⟨some 23, .mv (.tmp 0), some (22, false)⟩ <|
    .st ⟨some 24, .ld (some 2) (.tmp 3), some (22, false)⟩ <|
    .st ⟨some 25, .call (.func 40) [.tmp 23, .tmp 24], some (22, false)⟩ <|
    .st ⟨some 26, .un .not (.tmp 25), some (22, false)⟩ <|
    .st ⟨some 27, .pick (.tmp 22) (.const (.bool true)) (.tmp 26), none⟩ <|
    .done)) <|
  .cond (.tmp 27) (.seq (.ops (
      .st ⟨some 4, .mv (.const (.pointer none)), none⟩ <|
      .done)) <|
    .ret) (.skip)) <|
  .seq (.ops (
    .st ⟨some 28, .mv (.tmp 0), none⟩ <|
    .st ⟨some 29, .call (.func 75) [.tmp 28], none⟩ <|
    .st ⟨some 7, .mv (.tmp 29), none⟩ <|
    .done)) <|
  .seq (.ops (
    .st ⟨some 30, .mv (.tmp 0), none⟩ <|
    .st ⟨some 31, .nilc (.tmp 30), none⟩ <|
    .st ⟨some 32, .fa 5 (.tmp 31), none⟩ <|
    .st ⟨some 33, .ld none (.tmp 32), none⟩ <|
    .st ⟨some 34, .ld (some 2) (.tmp 3), none⟩ <|
    .st ⟨some 35, .mv (.tmp 7), none⟩ <|
    .st ⟨none, .mup 55 (.tmp 33) (.tmp 34) (.tmp 35), none⟩ <|
    .done)) <|
  .seq (.ops (
    .st ⟨some 36, .mv (.tmp 7), none⟩ <|
    .st ⟨some 4, .mv (.tmp 36), none⟩ <|
    .done)) <|
  .ret
theorem b60 : bodyOf Try.prog 60 = some (37, [.t 4], c60) := by kernel_rfl
theorem k60 : callOk Try.prog 60 = true := by kernel_rfl

/-- (*leapfrog/link.record).state -/
def c61 : CC :=
  .seq (.ops (
    .st ⟨some 3, .box 55 (.tmp 1), none⟩ <|
    .st ⟨some 4, .new 62 #[.int .i64 0, .int .u64 0, .int .i64 0, .int .i64 0, .int .u64 0, .int .i64 0, .int .u64 0, .int .i64 0, .int .i64 0, .int .u64 0, .int .i64 0, .int .u64 0, .bool false, .int .i64 0, .int .i64 0, .slice none 0 0], none⟩ <|
    .done)) <|
  .seq (.ops (
    .st ⟨some 6, .ld (some 2) (.tmp 3), none⟩ <|
    .st ⟨some 7, .mv (.tmp 0), none⟩ <|
    .st ⟨some 8, .nilc (.tmp 7), none⟩ <|
    .st ⟨some 9, .fa 0 (.tmp 8), none⟩ <|
    .st ⟨some 10, .ld (some 5) (.tmp 9), none⟩ <|
    .st ⟨some 11, .mv (.tmp 0), none⟩ <|
    .st ⟨some 12, .nilc (.tmp 11), none⟩ <|
    .st ⟨some 13, .fa 5 (.tmp 12), none⟩ <|
    .st ⟨some 14, .ld (some 5) (.tmp 13), none⟩ <|
    .st ⟨some 15, .mv (.tmp 0), none⟩ <|
    .st ⟨some 16, .nilc (.tmp 15), none⟩ <|
    .st ⟨some 17, .fa 10 (.tmp 16), none⟩ <|
    .st ⟨some 18, .ld none (.tmp 17), none⟩ <|
    .both (
      .st ⟨some 19, .call (.func 17) [.tmp 18], none⟩ <|
      .ag ⟨some 6, .ld (some 2) (.tmp 3), none⟩ <|
      .ag ⟨some 10, .ld (some 5) (.tmp 9), none⟩ <|
      .ag ⟨some 14, .ld (some 5) (.tmp 13), none⟩ <|
      .st ⟨some 20, .agg [.c (.tmp 6) 0 2, .c (.tmp 6) 1 2, .c (.tmp 10) 0 5, .c (.tmp 10) 1 5, .c (.tmp 10) 2 5, .c (.tmp 10) 3 5, .c (.tmp 10) 4 5, .c (.tmp 14) 0 5, .c (.tmp 14) 1 5, .c (.tmp 14) 2 5, .c (.tmp 14) 3 5, .c (.tmp 14) 4 5, .z (.bool false), .z (.int .i64 0), .z (.int .i64 0), .c (.tmp 19) 0 1], none⟩ <|
      .st ⟨some 5, .new 62 #[.int .i64 0, .int .u64 0, .int .i64 0, .int .i64 0, .int .u64 0, .int .i64 0, .int .u64 0, .int .i64 0, .int .i64 0, .int .u64 0, .int .i64 0, .int .u64 0, .bool false, .int .i64 0, .int .i64 0, .slice none 0 0], none⟩ <|
      .st ⟨none, .st 16 (.tmp 5) (.tmp 20), none⟩ <|
      .done) (
      .st ⟨some 5, .new 62 #[.int .i64 0, .int .u64 0, .int .i64 0, .int .i64 0, .int .u64 0, .int .i64 0, .int .u64 0, .int .i64 0, .int .i64 0, .int .u64 0, .int .i64 0, .int .u64 0, .bool false, .int .i64 0, .int .i64 0, .slice none 0 0], none⟩ <|
      .st ⟨some 19, .call (.func 17) [.tmp 18], none⟩ <|
      .ag ⟨some 6, .ld (some 2) (.tmp 3), none⟩ <|
      .ag ⟨some 10, .ld (some 5) (.tmp 9), none⟩ <|
      .ag ⟨some 14, .ld (some 5) (.tmp 13), none⟩ <|
      .st ⟨some 20, .agg [.c (.tmp 6) 0 2, .c (.tmp 6) 1 2, .c (.tmp 10) 0 5, .c (.tmp 10) 1 5, .c (.tmp 10) 2 5, .c (.tmp 10) 3 5, .c (.tmp 10) 4 5, .c (.tmp 14) 0 5, .c (.tmp 14) 1 5, .c (.tmp 14) 2 5, .c (.tmp 14) 3 5, .c (.tmp 14) 4 5, .z (.bool false), .z (.int .i64 0), .z (.int .i64 0), .c (.tmp 19) 0 1], none⟩ <|
      .st ⟨none, .st 16 (.tmp 5) (.tmp 20), none⟩ <|
      .done))) <|
  .seq (.ops (
    .st ⟨some 22, .mv (.tmp 0), none⟩ <|
    .st ⟨some 23, .nilc (.tmp 22), none⟩ <|
    .st ⟨some 24, .fa 10 (.tmp 23), none⟩ <|
    .st ⟨some 25, .ld none (.tmp 24), none⟩ <|
    .st ⟨some 26, .call (.func 20) [.tmp 25], none⟩ <|
    .st ⟨some 21, .mv (.tmp 26), none⟩ <|
    .st ⟨some 27, .ext (.tmp 21) 0, none⟩ <|
    .st ⟨some 28, .ext (.tmp 21) 1, none⟩ <|
    .st ⟨some 29, .fa 13 (.tmp 5), none⟩ <|
    .st ⟨none, .st 2 (.tmp 29) (.tmp 27), none⟩ <|
    .st ⟨some 30, .fa 12 (.tmp 5), none⟩ <|
    .st ⟨none, .st 1 (.tmp 30) (.tmp 28), none⟩ <|
    .done)) <|
  .seq (.ops (
    .st ⟨some 31, .ld (some 16) (.tmp 5), none⟩ <|
    .st ⟨none, .st 16 (.tmp 4) (.tmp 31), none⟩ <|
    .done)) <|
  .ret
theorem b61 : bodyOf Try.prog 61 = some (32, [.c 4 (some 16)], c61) := by kernel_rfl
theorem k61 : callOk Try.prog 61 = true := by kernel_rfl

/-- (*leapfrog/link.Links).Get -/
def c30 : CC :=
  .seq (.ops (
    .st ⟨some 3, .box 55 (.tmp 1), none⟩ <|
    .st ⟨some 4, .new 62 #[.int .i64 0, .int .u64 0, .int .i64 0, .int .i64 0, .int .u64 0, .int .i64 0, .int .u64 0, .int .i64 0, .int .i64 0, .int .u64 0, .int .i64 0, .int .u64 0, .bool false, .int .i64 0, .int .i64 0, .slice none 0 0], none⟩ <|
    .st ⟨some 5, .mv (.const (.bool false)), none⟩ <|
    .done)) <|
  .seq (.seq (.ops (
    .st ⟨some 7, .mv (.tmp 0), none⟩ <|
    .st ⟨some 8, .call (.func 59) [.tmp 7], none⟩ <|
    .st ⟨some 9, .un .not (.tmp 8), none⟩ <|
    .done)) <|
  .cond (.tmp 9) (.seq (.ops (
      .st ⟨some 10, .agg [.z (.int .i64 0), .z (.int .u64 0), .z (.int .i64 0), .z (.int .i64 0), .z (.int .u64 0), .z (.int .i64 0), .z (.int .u64 0), .z (.int .i64 0), .z (.int .i64 0), .z (.int .u64 0), .z (.int .i64 0), .z (.int .u64 0), .z (.bool false), .z (.int .i64 0), .z (.int .i64 0), .z (.slice none 0 0)], none⟩ <|
      .st ⟨none, .st 16 (.tmp 4) (.tmp 10), none⟩ <|
      .st ⟨some 5, .mv (.const (.bool false)), none⟩ <|
      .done)) <|
    .ret) (.skip)) <|
  .seq (.ops (
    .st ⟨some 11, .mv (.tmp 0), none⟩ <|
    .st ⟨some 12, .ld (some 2) (.tmp 3), none⟩ <|
    .st ⟨some 13, .call (.func 60) [.tmp 11, .tmp 12], none⟩ <|
    .st ⟨some 6, .mv (.tmp 13), none⟩ <|
    .done)) <|
  .seq (.seq (.ops (
    .st ⟨some 14, .mv (.tmp 6), none⟩ <|
    .st ⟨some 15, .cmp .p false (.tmp 14) (.const (.pointer none)), none⟩ <|
    .done)) <|
  .cond (.tmp 15) (.seq (.ops (
      .st ⟨some 16, .agg [.z (.int .i64 0), .z (.int .u64 0), .z (.int .i64 0), .z (.int .i64 0), .z (.int .u64 0), .z (.int .i64 0), .z (.int .u64 0), .z (.int .i64 0), .z (.int .i64 0), .z (.int .u64 0), .z (.int .i64 0), .z (.int .u64 0), .z (.bool false), .z (.int .i64 0), .z (.int .i64 0), .z (.slice none 0 0)], none⟩ <|
      .st ⟨none, .st 16 (.tmp 4) (.tmp 16), none⟩ <|
      .st ⟨some 5, .mv (.const (.bool false)), none⟩ <|
      .done)) <|
    .ret) (.skip)) <|
  .seq (.ops (
    .st ⟨some 17, .mv (.tmp 6), none⟩ <|
    .st ⟨some 18, .ld (some 2) (.tmp 3), none⟩ <|
    .st ⟨some 19, .call (.func 61) [.tmp 17, .tmp 18], none⟩ <|
    .st ⟨none, .st 16 (.tmp 4) (.tmp 19), none⟩ <|
    .st ⟨some 5, .mv (.const (.bool true)), none⟩ <|
    .done)) <|
  .ret
theorem b30 : bodyOf Try.prog 30 = some (20, [.c 4 (some 16), .t 5], c30) := by kernel_rfl
theorem k30 : callOk Try.prog 30 = true := by kernel_rfl

/-- (*leapfrog/link.Links).toLeft -/
def c66 : CC :=
  .seq (.ops (
    .st ⟨some 3, .box 60 (.tmp 1), none⟩ <|
    .st ⟨some 4, .mv (.const (.bool false)), none⟩ <|
    .done)) <|
  .seq (.ops (
    .st ⟨some 5, .fa 1 (.tmp 3), none⟩ <|
    .st ⟨some 6, .ld (some 2) (.tmp 5), none⟩ <|
    .st ⟨some 7, .call (.func 63) [.tmp 6], none⟩ <|
    .st ⟨some 8, .bini .eql (.tmp 7) (.const (.int .i64 0)), none⟩ <|
    .st ⟨some 9, .mv (.tmp 8), none⟩ <|
    .st ⟨some 10, .fa 1 (.tmp 3), some (9, true)⟩ <|
    .st ⟨some 11, .ld (some 2) (.tmp 10), some (9, true)⟩ <|
    .st ⟨some 12, .mv (.tmp 0), some (9, true)⟩ <|
    .st ⟨some 13, .nilc (.tmp 12), some (9, true)⟩ <|
    .st ⟨some 14, .fa 0 (.tmp 13), some (9, true)⟩ <|
    .st ⟨some 15, .fa 1 (.tmp 14), some (9, true)⟩ <|
    .st ⟨some 16, .ld (some 2) (.tmp 15), some (9, true)⟩ <|
    .st ⟨some 17, .call (.func 85) [.tmp 11, .tmp 16], some (9, true)⟩ <|
    .st ⟨some 18, .pick (.tmp 9) (.tmp 17) (.const (.bool false)), none⟩ <|
    .st ⟨some 4, .mv (.tmp 18), none⟩ <|
    .done)) <|
  .ret
theorem b66 : bodyOf Try.prog 66 = some (19, [.t 4], c66) := by kernel_rfl
theorem k66 : callOk Try.prog 66 = true := by kernel_rfl

/-- (*leapfrog/link.Links).toRight -/
def c67 : CC :=
  .seq (.ops (
    .st ⟨some 3, .box 60 (.tmp 1), none⟩ <|
    .st ⟨some 4, .mv (.const (.bool false)), none⟩ <|
    .done)) <|
  .seq (.ops (
    .st ⟨some 5, .fa 1 (.tmp 3), none⟩ <|
    .st ⟨some 6, .ld (some 2) (.tmp 5), none⟩ <|
    .st ⟨some 7, .call (.func 63) [.tmp 6], none⟩ <|
    .st ⟨some 8, .bini .eql (.tmp 7) (.const (.int .i64 0)), none⟩ <|
    .st ⟨some 9, .mv (.tmp 8), none⟩ <|
    .st ⟨some 10, .mv (.tmp 0), some (9, true)⟩ <|
    .st ⟨some 11, .nilc (.tmp 10), some (9, true)⟩ <|
    .st ⟨some 12, .fa 0 (.tmp 11), some (9, true)⟩ <|
    .st ⟨some 13, .fa 1 (.tmp 12), some (9, true)⟩ <|
    .st ⟨some 14, .ld (some 2) (.tmp 13), some (9, true)⟩ <|
    .st ⟨some 15, .fa 1 (.tmp 3), some (9, true)⟩ <|
    .st ⟨some 16, .ld (some 2) (.tmp 15), some (9, true)⟩ <|
    .st ⟨some 17, .call (.func 85) [.tmp 14, .tmp 16], some (9, true)⟩ <|
    .st ⟨some 18, .pick (.tmp 9) (.tmp 17) (.const (.bool false)), none⟩ <|
    .st ⟨some 4, .mv (.tmp 18), none⟩ <|
    .done)) <|
  .ret
theorem b67 : bodyOf Try.prog 67 = some (19, [.t 4], c67) := by kernel_rfl
theorem k67 : callOk Try.prog 67 = true := by kernel_rfl

/-- (*leapfrog/link.Links).Put -/
def c34 : CC :=
  .seq (.ops (
    .st ⟨some 6, .box 55 (.tmp 1), none⟩ <|
    .st ⟨some 7, .box 60 (.tmp 2), none⟩ <|
    .st ⟨some 8, .box 60 (.tmp 3), none⟩ <|
    .st ⟨some 9, .box 29 (.tmp 4), none⟩ <|
    .st ⟨some 10, .mv (.const (.int .i64 0)), none⟩ <|
    .done)) <|
  .seq (.block 0 (.seq (.ops (
      .st ⟨some 14, .mv (.tmp 0), none⟩ <|
      .st ⟨some 15, .call (.func 59) [.tmp 14], none⟩ <|
      .st ⟨some 16, .un .not (.tmp 15), none⟩ <|
      .st ⟨some 13, .mv (.tmp 16), none⟩ <|
      .done)) <|
    .cond (.tmp 13) (.seq (.ops (
        .st ⟨some 10, .mv (.const (.int .i64 4)), none⟩ <|
        .done)) <|
      .ret) (.seq (.ops (
        .st ⟨some 18, .mv (.tmp 0), none⟩ <|
        .st ⟨some 19, .call (.func 65) [.tmp 18], none⟩ <|
        .st ⟨some 20, .mv (.tmp 19), none⟩ <|
        .st ⟨some 21, .mv (.tmp 0), some (20, false)⟩ <|
        .st ⟨some 22, .ld (some 2) (.tmp 6), some (20, false)⟩ <|
        .st ⟨some 23, .call (.func 40) [.tmp 21, .tmp 22], some (20, false)⟩ <|
        .st ⟨some 24, .un .not (.tmp 23), some (20, false)⟩ <|
        .st ⟨some 25, .pick (.tmp 20) (.const (.bool true)) (.tmp 24), none⟩ <|
        .st ⟨some 17, .mv (.tmp 25), none⟩ <|
        .done)) <|
      .cond (.tmp 17) (.seq (.ops (
          .st ⟨some 10, .mv (.const (.int .i64 80)), none⟩ <|
          .done)) <|
        .ret) (.seq (.ops (
          .st ⟨some 27, .mv (.tmp 0), none⟩ <|
          .st ⟨some 28, .nilc (.tmp 27), none⟩ <|
          .st ⟨some 29, .fa 5 (.tmp 28), none⟩ <|
          .st ⟨some 30, .ld none (.tmp 29), none⟩ <|
          .st ⟨some 31, .ld (some 2) (.tmp 6), none⟩ <|
          .st ⟨some 32, .lkp false 55 (.pointer none) (.tmp 30) (.tmp 31), none⟩ <|
          .st ⟨some 33, .cmp .p true (.tmp 32) (.const (.pointer none)), none⟩ <|
          .st ⟨some 26, .mv (.tmp 33), none⟩ <|
          .done)) <|
        .cond (.tmp 26) (.seq (.ops (
            .st ⟨some 10, .mv (.const (.int .i64 81)), none⟩ <|
            .done)) <|
          .ret) (.seq (.ops (
            .st ⟨some 35, .mv (.tmp 0), none⟩ <|
            .st ⟨some 36, .ld (some 5) (.tmp 7), none⟩ <|
            .st ⟨some 37, .call (.func 66) [.tmp 35, .tmp 36], none⟩ <|
            .st ⟨some 38, .un .not (.tmp 37), none⟩ <|
            .st ⟨some 39, .mv (.tmp 38), none⟩ <|
            .st ⟨some 40, .mv (.tmp 0), some (39, false)⟩ <|
            .st ⟨some 41, .ld (some 5) (.tmp 8), some (39, false)⟩ <|
            .st ⟨some 42, .call (.func 67) [.tmp 40, .tmp 41], some (39, false)⟩ <|
            .st ⟨some 43, .un .not (.tmp 42), some (39, false)⟩ <|
            .st ⟨some 44, .pick (.tmp 39) (.const (.bool true)) (.tmp 43), none⟩ <|
            .st ⟨some 34, .mv (.tmp 44), none⟩ <|
            .done)) <|
          .cond (.tmp 34) (.seq (.ops (
              .st ⟨some 10, .mv (.const (.int .i64 83)), none⟩ <|
              .done)) <|
            .ret) (.skip)))))) <|
  .seq (.seq (.ops (
    .st ⟨some 45, .ld (some 2) (.tmp 9), none⟩ <|
    .st ⟨some 46, .call (.func 23) [.tmp 45], none⟩ <|
    .st ⟨some 11, .mv (.tmp 46), none⟩ <|
    .done)) <|
  .seq (.ops (
    .st ⟨some 47, .mv (.tmp 11), none⟩ <|
    .st ⟨some 48, .bini .neq (.tmp 47) (.const (.int .i64 0)), none⟩ <|
    .done)) <|
  .cond (.tmp 48) (.seq (.ops (
      .st ⟨some 49, .mv (.tmp 11), none⟩ <|
      .st ⟨some 10, .mv (.tmp 49), none⟩ <|
      .done)) <|
    .ret) (.skip)) <|
  .seq (.ops (
    .st ⟨some 50, .ld (some 5) (.tmp 7), none⟩ <|
    .st ⟨some 51, .ld (some 5) (.tmp 8), none⟩ <|
    .st ⟨some 52, .call (.func 15) [], none⟩ <|
    .ag ⟨some 50, .ld (some 5) (.tmp 7), none⟩ <|
    .ag ⟨some 51, .ld (some 5) (.tmp 8), none⟩ <|
    .st ⟨some 53, .agg [.c (.tmp 50) 0 5, .c (.tmp 50) 1 5, .c (.tmp 50) 2 5, .c (.tmp 50) 3 5, .c (.tmp 50) 4 5, .c (.tmp 51) 0 5, .c (.tmp 51) 1 5, .c (.tmp 51) 2 5, .c (.tmp 51) 3 5, .c (.tmp 51) 4 5, .c (.tmp 52) 0 1], none⟩ <|
    .st ⟨some 54, .box 115 (.tmp 53), none⟩ <|
    .st ⟨some 12, .mv (.tmp 54), none⟩ <|
    .done)) <|
  .seq (.ops (
    .st ⟨some 55, .mv (.tmp 12), none⟩ <|
    .st ⟨some 56, .nilc (.tmp 55), none⟩ <|
    .st ⟨some 57, .fa 10 (.tmp 56), none⟩ <|
    .st ⟨some 58, .ld none (.tmp 57), none⟩ <|
    .st ⟨some 59, .ld (some 2) (.tmp 9), none⟩ <|
    .st ⟨some 60, .call (.func 16) [.tmp 58, .tmp 59], none⟩ <|
    .done)) <|
  .seq (.ops (
    .st ⟨some 61, .mv (.tmp 0), none⟩ <|
    .st ⟨some 62, .nilc (.tmp 61), none⟩ <|
    .st ⟨some 63, .fa 5 (.tmp 62), none⟩ <|
    .st ⟨some 64, .ld none (.tmp 63), none⟩ <|
    .st ⟨some 65, .ld (some 2) (.tmp 6), none⟩ <|
    .st ⟨some 66, .mv (.tmp 12), none⟩ <|
    .st ⟨none, .mup 55 (.tmp 64) (.tmp 65) (.tmp 66), none⟩ <|
    .done)) <|
  .seq (.ops (
    .st ⟨some 10, .mv (.const (.int .i64 0)), none⟩ <|
    .done)) <|
  .ret
theorem b34 : bodyOf Try.prog 34 = some (67, [.t 10], c34) := by kernel_rfl
theorem k34 : callOk Try.prog 34 = true := by kernel_rfl

/-- (*leapfrog/link.Links).owned -/
def c62 : CC :=
  .seq (.ops (
    .st ⟨some 5, .box 55 (.tmp 1), none⟩ <|
    .st ⟨some 6, .box 29 (.tmp 2), none⟩ <|
    .st ⟨some 8, .mv (.const (.pointer none)), none⟩ <|
    .st ⟨some 9, .mv (.const (.int .i64 0)), none⟩ <|
    .done)) <|
  .seq (.seq (.ops (
    .st ⟨some 14, .mv (.tmp 0), none⟩ <|
    .st ⟨some 15, .call (.func 59) [.tmp 14], none⟩ <|
    .st ⟨some 16, .un .not (.tmp 15), none⟩ <|
    .done)) <|
  .cond (.tmp 16) (.seq (.ops (
      .st ⟨some 8, .mv (.const (.pointer none)), none⟩ <|
      .st ⟨some 9, .mv (.const (.int .i64 4)), none⟩ <|
      .done)) <|
    .ret) (.skip)) <|
  .seq (.ops (
    .st ⟨some 17, .mv (.tmp 0), none⟩ <|
    .st ⟨some 18, .ld (some 2) (.tmp 5), none⟩ <|
    .st ⟨some 19, .call (.func 60) [.tmp 17, .tmp 18], none⟩ <|
    .st ⟨some 10, .mv (.tmp 19), none⟩ <|
    .done)) <|
  .seq (.seq (.ops (
    .st ⟨some 20, .mv (.tmp 10), none⟩ <|
    .st ⟨some 21, .cmp .p false (.tmp 20) (.const (.pointer none)), none⟩ <|
    .done)) <|
  .cond (.tmp 21) (.seq (.ops (
      .st ⟨some 8, .mv (.const (.pointer none)), none⟩ <|
      .st ⟨some 9, .mv (.const (.int .i64 82)), none⟩ <|
      .done)) <|
    .ret) (.skip)) <|
  .seq (.seq (.ops (
    .st ⟨some 22, .mv (.tmp 3), none⟩ <|
    .st ⟨some 23, .un .not (.tmp 22), none⟩ <|
    .st ⟨some 24, .mv (.tmp 23), none⟩ <|
    .st ⟨some 25, .mv (.tmp 0), some (24, true)⟩ <|
    .st ⟨some 26, .call (.func 65) [.tmp 25], some (24, true)⟩ <|
    .st ⟨some 27, .pick (.tmp 24) (.tmp 26) (.const (.bool false)), none⟩ <|
    .done)) <|
  .cond (.tmp 27) (.seq (.ops (
      .st ⟨some 8, .mv (.const (.pointer none)), none⟩ <|
      .st ⟨some 9, .mv (.const (.int .i64 80)), none⟩ <|
      .done)) <|
    .ret) (.skip)) <|
  .seq (.seq (.ops (
    .st ⟨some 28, .ld (some 2) (.tmp 6), none⟩ <|
    .st ⟨some 29, .call (.func 23) [.tmp 28], none⟩ <|
    .st ⟨some 11, .mv (.tmp 29), none⟩ <|
    .done)) <|
  .seq (.ops (
    .st ⟨some 30, .mv (.tmp 11), none⟩ <|
    .st ⟨some 31, .bini .neq (.tmp 30) (.const (.int .i64 0)), none⟩ <|
    .done)) <|
  .cond (.tmp 31) (.seq (.ops (
      .st ⟨some 32, .mv (.tmp 11), none⟩ <|
      .st ⟨some 8, .mv (.const (.pointer none)), none⟩ <|
      .st ⟨some 9, .mv (.tmp 32), none⟩ <|
      .done)) <|
    .ret) (.skip)) <|
  .seq (.seq (.ops (
    .st ⟨some 34, .mv (.tmp 10), none⟩ <|
    .st ⟨some 35, .nilc (.tmp 34), none⟩ <|
    .st ⟨some 36, .fa 10 (.tmp 35), none⟩ <|
    .st ⟨some 37, .ld none (.tmp 36), none⟩ <|
    .st ⟨some 38, .call (.func 20) [.tmp 37], none⟩ <|
    .st ⟨some 33, .mv (.tmp 38), none⟩ <|
    .st ⟨some 39, .ext (.tmp 33) 0, none⟩ <|
    .st ⟨some 40, .ext (.tmp 33) 1, none⟩ <|
    .st ⟨some 12, .new 29 #[.int .i64 0, .int .i64 0], none⟩ <|
    .st ⟨none, .st 2 (.tmp 12) (.tmp 39), none⟩ <|
    .st ⟨some 13, .mv (.tmp 40), none⟩ <|
    .done)) <|
  .seq (.ops (
    .st ⟨some 41, .mv (.tmp 13), none⟩ <|
    .st ⟨some 42, .un .not (.tmp 41), none⟩ <|
    .st ⟨some 43, .mv (.tmp 42), none⟩ <|
    .st ⟨some 44, .ld (some 2) (.tmp 12), some (43, false)⟩ <|
    .st ⟨some 45, .ld (some 2) (.tmp 6), some (43, false)⟩ <|
    .st ⟨some 46, .eqs true [.i, .i] (.tmp 44) (.tmp 45), some (43, false)⟩ <|
    .st ⟨some 47, .pick (.tmp 43) (.const (.bool true)) (.tmp 46), none⟩ <|
    .done)) <|
  .cond (.tmp 47) (.seq (.ops (
      .st ⟨some 8, .mv (.const (.pointer none)), none⟩ <|
      .st ⟨some 9, .mv (.const (.int .i64 71)), none⟩ <|
      .done)) <|
    .ret) (.skip)) <|
  .seq (.ops (
    .st ⟨some 48, .mv (.tmp 10), none⟩ <|
    .st ⟨some 8, .mv (.tmp 48), none⟩ <|
    .st ⟨some 9, .mv (.const (.int .i64 0)), none⟩ <|
    .done)) <|
  .ret
theorem b62 : bodyOf Try.prog 62 = some (49, [.t 8, .t 9], c62) := by kernel_rfl
theorem k62 : callOk Try.prog 62 = true := by kernel_rfl

/-- (*leapfrog/link.Links).Out -/
def c32 : CC :=
  .seq (.ops (
    .st ⟨some 4, .box 55 (.tmp 1), none⟩ <|
    .st ⟨some 5, .box 29 (.tmp 2), none⟩ <|
    .st ⟨some 6, .mv (.const (.slice none 0 0)), none⟩ <|
    .st ⟨some 7, .mv (.const (.int .i64 0)), none⟩ <|
    .done)) <|
  .seq (.ops (
    .st ⟨some 11, .mv (.tmp 0), none⟩ <|
    .st ⟨some 12, .ld (some 2) (.tmp 4), none⟩ <|
    .st ⟨some 13, .ld (some 2) (.tmp 5), none⟩ <|
    .st ⟨some 14, .call (.func 62) [.tmp 11, .tmp 12, .tmp 13, .const (.bool false)], none⟩ <|
    .st ⟨some 10, .mv (.tmp 14), none⟩ <|
    .st ⟨some 15, .ext (.tmp 10) 0, none⟩ <|
    .st ⟨some 16, .ext (.tmp 10) 1, none⟩ <|
    .st ⟨some 8, .mv (.tmp 15), none⟩ <|
    .st ⟨some 9, .mv (.tmp 16), none⟩ <|
    .done)) <|
  .seq (.seq (.ops (
    .st ⟨some 17, .mv (.tmp 9), none⟩ <|
    .st ⟨some 18, .bini .neq (.tmp 17) (.const (.int .i64 0)), none⟩ <|
    .done)) <|
  .cond (.tmp 18) (.seq (.ops (
      .st ⟨some 19, .mv (.tmp 9), none⟩ <|
      .st ⟨some 6, .mv (.const (.slice none 0 0)), none⟩ <|
      .st ⟨some 7, .mv (.tmp 19), none⟩ <|
      .done)) <|
    .ret) (.skip)) <|
  .seq (.ops (
    .st ⟨some 20, .mv (.tmp 0), none⟩ <|
    .st ⟨some 21, .nilc (.tmp 20), none⟩ <|
    .st ⟨some 22, .fa 5 (.tmp 21), none⟩ <|
    .st ⟨some 23, .ld none (.tmp 22), none⟩ <|
    .st ⟨some 24, .ld (some 2) (.tmp 4), none⟩ <|
    .st ⟨none, .del 55 (.tmp 23) (.tmp 24), none⟩ <|
    .done)) <|
  .seq (.ops (
    .st ⟨some 25, .mv (.tmp 8), none⟩ <|
    .st ⟨some 26, .nilc (.tmp 25), none⟩ <|
    .st ⟨some 27, .fa 10 (.tmp 26), none⟩ <|
    .st ⟨some 28, .ld none (.tmp 27), none⟩ <|
    .st ⟨some 29, .call (.func 25) [.tmp 28], none⟩ <|
    .st ⟨some 30, .ext (.tmp 29) 0, none⟩ <|
    .st ⟨some 31, .ext (.tmp 29) 1, none⟩ <|
    .st ⟨some 6, .mv (.tmp 30), none⟩ <|
    .st ⟨some 7, .mv (.tmp 31), none⟩ <|
    .done)) <|
  .ret
theorem b32 : bodyOf Try.prog 32 = some (32, [.t 6, .t 7], c32) := by kernel_rfl
theorem k32 : callOk Try.prog 32 = true := by kernel_rfl

/-- (*leapfrog/link.Links).Left -/
def c43 : CC :=
  .seq (.ops (
    .st ⟨some 4, .box 55 (.tmp 1), none⟩ <|
    .st ⟨some 5, .box 60 (.tmp 2), none⟩ <|
    .st ⟨some 6, .mv (.const (.int .i64 0)), none⟩ <|
    .done)) <|
  .seq (.seq (.ops (
    .st ⟨some 8, .mv (.tmp 0), none⟩ <|
    .st ⟨some 9, .call (.func 59) [.tmp 8], none⟩ <|
    .st ⟨some 10, .un .not (.tmp 9), none⟩ <|
    .done)) <|
  .cond (.tmp 10) (.seq (.ops (
      .st ⟨some 6, .mv (.const (.int .i64 4)), none⟩ <|
      .done)) <|
    .ret) (.skip)) <|
  .seq (.ops (
    .st ⟨some 11, .mv (.tmp 0), none⟩ <|
    .st ⟨some 12, .ld (some 2) (.tmp 4), none⟩ <|
    .st ⟨some 13, .call (.func 60) [.tmp 11, .tmp 12], none⟩ <|
    .st ⟨some 7, .mv (.tmp 13), none⟩ <|
    .done)) <|
  .seq (.block 0 (.seq (.ops (
      .st ⟨some 15, .mv (.tmp 7), none⟩ <|
      .st ⟨some 16, .cmp .p false (.tmp 15) (.const (.pointer none)), none⟩ <|
      .st ⟨some 14, .mv (.tmp 16), none⟩ <|
      .done)) <|
    .cond (.tmp 14) (.seq (.ops (
        .st ⟨some 6, .mv (.const (.int .i64 82)), none⟩ <|
        .done)) <|
      .ret) (.seq (.ops (
        .st ⟨some 18, .mv (.tmp 0), none⟩ <|
        .st ⟨some 19, .ld (some 5) (.tmp 5), none⟩ <|
        .st ⟨some 20, .call (.func 66) [.tmp 18, .tmp 19], none⟩ <|
        .st ⟨some 21, .un .not (.tmp 20), none⟩ <|
        .st ⟨some 17, .mv (.tmp 21), none⟩ <|
        .done)) <|
      .cond (.tmp 17) (.seq (.ops (
          .st ⟨some 6, .mv (.const (.int .i64 83)), none⟩ <|
          .done)) <|
        .ret) (.skip)))) <|
  .seq (.ops (
    .st ⟨some 22, .mv (.tmp 7), none⟩ <|
    .st ⟨some 23, .ld (some 5) (.tmp 5), none⟩ <|
    .st ⟨some 24, .nilc (.tmp 22), none⟩ <|
    .st ⟨some 25, .fa 0 (.tmp 24), none⟩ <|
    .st ⟨none, .st 5 (.tmp 25) (.tmp 23), none⟩ <|
    .done)) <|
  .seq (.ops (
    .st ⟨some 6, .mv (.const (.int .i64 0)), none⟩ <|
    .done)) <|
  .ret
theorem b43 : bodyOf Try.prog 43 = some (26, [.t 6], c43) := by kernel_rfl
theorem k43 : callOk Try.prog 43 = true := by kernel_rfl

/-- (*leapfrog/link.Links).Right -/
def c44 : CC :=
  .seq (.ops (
    .st ⟨some 5, .box 55 (.tmp 1), none⟩ <|
    .st ⟨some 6, .box 60 (.tmp 2), none⟩ <|
    .st ⟨some 7, .box 29 (.tmp 3), none⟩ <|
    .st ⟨some 8, .mv (.const (.int .i64 0)), none⟩ <|
    .done)) <|
  .seq (.ops (
    .st ⟨some 12, .mv (.tmp 0), none⟩ <|
    .st ⟨some 13, .ld (some 2) (.tmp 5), none⟩ <|
    .st ⟨some 14, .ld (some 2) (.tmp 7), none⟩ <|
    .st ⟨some 15, .call (.func 62) [.tmp 12, .tmp 13, .tmp 14, .const (.bool true)], none⟩ <|
    .st ⟨some 11, .mv (.tmp 15), none⟩ <|
    .st ⟨some 16, .ext (.tmp 11) 0, none⟩ <|
    .st ⟨some 17, .ext (.tmp 11) 1, none⟩ <|
    .st ⟨some 9, .mv (.tmp 16), none⟩ <|
    .st ⟨some 10, .mv (.tmp 17), none⟩ <|
    .done)) <|
  .seq (.seq (.ops (
    .st ⟨some 18, .mv (.tmp 10), none⟩ <|
    .st ⟨some 19, .bini .neq (.tmp 18) (.const (.int .i64 0)), none⟩ <|
    .done)) <|
  .cond (.tmp 19) (.seq (.ops (
      .st ⟨some 20, .mv (.tmp 10), none⟩ <|
      .st ⟨some 8, .mv (.tmp 20), none⟩ <|
      .done)) <|
    .ret) (.skip)) <|
  .seq (.seq (.ops (
    .st ⟨some 21, .mv (.tmp 0), none⟩ <|
    .st ⟨some 22, .ld (some 5) (.tmp 6), none⟩ <|
    .st ⟨some 23, .call (.func 67) [.tmp 21, .tmp 22], none⟩ <|
    .st ⟨some 24, .un .not (.tmp 23), none⟩ <|
    .done)) <|
  .cond (.tmp 24) (.seq (.ops (
      .st ⟨some 8, .mv (.const (.int .i64 83)), none⟩ <|
      .done)) <|
    .ret) (.skip)) <|
  .seq (.ops (
    .st ⟨some 25, .mv (.tmp 9), none⟩ <|
    .st ⟨some 26, .ld (some 5) (.tmp 6), none⟩ <|
    .st ⟨some 27, .nilc (.tmp 25), none⟩ <|
    .st ⟨some 28, .fa 5 (.tmp 27), none⟩ <|
    .st ⟨none, .st 5 (.tmp 28) (.tmp 26), none⟩ <|
    .done)) <|
  .seq (.ops (
    .st ⟨some 8, .mv (.const (.int .i64 0)), none⟩ <|
    .done)) <|
  .ret
theorem b44 : bodyOf Try.prog 44 = some (29, [.t 8], c44) := by kernel_rfl
theorem k44 : callOk Try.prog 44 = true := by kernel_rfl

/-- (*leapfrog/link.Links).Lock -/
def c41 : CC :=
  .seq (.ops (
    .st ⟨some 4, .box 55 (.tmp 1), none⟩ <|
    .st ⟨some 5, .box 29 (.tmp 2), none⟩ <|
    .st ⟨some 6, .mv (.const (.bool false)), none⟩ <|
    .st ⟨some 7, .mv (.const (.int .i64 0)), none⟩ <|
    .done)) <|
  .seq (.seq (.ops (
    .st ⟨some 9, .mv (.tmp 0), none⟩ <|
    .st ⟨some 10, .call (.func 59) [.tmp 9], none⟩ <|
    .st ⟨some 11, .un .not (.tmp 10), none⟩ <|
    .done)) <|
  .cond (.tmp 11) (.seq (.ops (
      .st ⟨some 6, .mv (.const (.bool false)), none⟩ <|
      .st ⟨some 7, .mv (.const (.int .i64 4)), none⟩ <|
      .done)) <|
    .ret) (.skip)) <|
  .seq (.ops (
    .st ⟨some 12, .mv (.tmp 0), none⟩ <|
    .st ⟨some 13, .ld (some 2) (.tmp 4), none⟩ <|
    .st ⟨some 14, .call (.func 60) [.tmp 12, .tmp 13], none⟩ <|
    .st ⟨some 8, .mv (.tmp 14), none⟩ <|
    .done)) <|
  .seq (.seq (.ops (
    .st ⟨some 15, .mv (.tmp 8), none⟩ <|
    .st ⟨some 16, .cmp .p false (.tmp 15) (.const (.pointer none)), none⟩ <|
    .done)) <|
  .cond (.tmp 16) (.seq (.ops (
      .st ⟨some 6, .mv (.const (.bool false)), none⟩ <|
      .st ⟨some 7, .mv (.const (.int .i64 82)), none⟩ <|
      .done)) <|
    .ret) (.skip)) <|
  .seq (.ops (
    .st ⟨some 17, .mv (.tmp 8), none⟩ <|
    .st ⟨some 18, .nilc (.tmp 17), none⟩ <|
    .st ⟨some 19, .fa 10 (.tmp 18), none⟩ <|
    .st ⟨some 20, .ld none (.tmp 19), none⟩ <|
    .st ⟨some 21, .ld (some 2) (.tmp 5), none⟩ <|
    .st ⟨some 22, .call (.func 16) [.tmp 20, .tmp 21], none⟩ <|
    .st ⟨some 23, .ext (.tmp 22) 0, none⟩ <|
    .st ⟨some 24, .ext (.tmp 22) 1, none⟩ <|
    .st ⟨some 6, .mv (.tmp 23), none⟩ <|
    .st ⟨some 7, .mv (.tmp 24), none⟩ <|
    .done)) <|
  .ret
theorem b41 : bodyOf Try.prog 41 = some (25, [.t 6, .t 7], c41) := by kernel_rfl
theorem k41 : callOk Try.prog 41 = true := by kernel_rfl

/-- (*leapfrog/link.Links).Free -/
def c42 : CC :=
  .seq (.ops (
    .st ⟨some 4, .box 55 (.tmp 1), none⟩ <|
    .st ⟨some 5, .box 29 (.tmp 2), none⟩ <|
    .st ⟨some 6, .new 29 #[.int .i64 0, .int .i64 0], none⟩ <|
    .st ⟨some 7, .mv (.const (.bool false)), none⟩ <|
    .st ⟨some 8, .mv (.const (.int .i64 0)), none⟩ <|
    .done)) <|
  .seq (.seq (.ops (
    .st ⟨some 10, .mv (.tmp 0), none⟩ <|
    .st ⟨some 11, .call (.func 59) [.tmp 10], none⟩ <|
    .st ⟨some 12, .un .not (.tmp 11), none⟩ <|
    .done)) <|
  .cond (.tmp 12) (.seq (.ops (
      .st ⟨some 13, .agg [.z (.int .i64 0), .z (.int .i64 0)], none⟩ <|
      .st ⟨none, .st 2 (.tmp 6) (.tmp 13), none⟩ <|
      .st ⟨some 7, .mv (.const (.bool false)), none⟩ <|
      .st ⟨some 8, .mv (.const (.int .i64 4)), none⟩ <|
      .done)) <|
    .ret) (.skip)) <|
  .seq (.ops (
    .st ⟨some 14, .mv (.tmp 0), none⟩ <|
    .st ⟨some 15, .ld (some 2) (.tmp 4), none⟩ <|
    .st ⟨some 16, .call (.func 60) [.tmp 14, .tmp 15], none⟩ <|
    .st ⟨some 9, .mv (.tmp 16), none⟩ <|
    .done)) <|
  .seq (.seq (.ops (
    .st ⟨some 17, .mv (.tmp 9), none⟩ <|
    .st ⟨some 18, .cmp .p false (.tmp 17) (.const (.pointer none)), none⟩ <|
    .done)) <|
  .cond (.tmp 18) (.seq (.ops (
      .st ⟨some 19, .agg [.z (.int .i64 0), .z (.int .i64 0)], none⟩ <|
      .st ⟨none, .st 2 (.tmp 6) (.tmp 19), none⟩ <|
      .st ⟨some 7, .mv (.const (.bool false)), none⟩ <|
      .st ⟨some 8, .mv (.const (.int .i64 82)), none⟩ <|
      .done)) <|
    .ret) (.skip)) <|
  .seq (.ops (
    .st ⟨some 20, .mv (.tmp 9), none⟩ <|
    .st ⟨some 21, .nilc (.tmp 20), none⟩ <|
    .st ⟨some 22, .fa 10 (.tmp 21), none⟩ <|
    .st ⟨some 23, .ld none (.tmp 22), none⟩ <|
    .st ⟨some 24, .ld (some 2) (.tmp 5), none⟩ <|
    .st ⟨some 25, .call (.func 18) [.tmp 23, .tmp 24], none⟩ <|
    .st ⟨some 26, .ext (.tmp 25) 0, none⟩ <|
    .st ⟨some 27, .ext (.tmp 25) 1, none⟩ <|
    .st ⟨some 28, .ext (.tmp 25) 2, none⟩ <|
    .st ⟨none, .st 2 (.tmp 6) (.tmp 26), none⟩ <|
    .st ⟨some 7, .mv (.tmp 27), none⟩ <|
    .st ⟨some 8, .mv (.tmp 28), none⟩ <|
    .done)) <|
  .ret
theorem b42 : bodyOf Try.prog 42 = some (29, [.c 6 (some 2), .t 7, .t 8], c42) := by kernel_rfl
theorem k42 : callOk Try.prog 42 = true := by kernel_rfl

/-- leapfrog/link.Same -/
def c27 : CC :=
  .seq (.ops (
    .st ⟨some 2, .box 62 (.tmp 0), none⟩ <|
    .st ⟨some 3, .box 62 (.tmp 1), none⟩ <|
    .st ⟨some 4, .mv (.const (.bool false)), none⟩ <|
    .done)) <|
  .seq (.ops (
    .st ⟨some 5, .fa 0 (.tmp 2), none⟩ <|
    .st ⟨some 6, .ld (some 2) (.tmp 5), none⟩ <|
    .st ⟨some 7, .fa 0 (.tmp 3), none⟩ <|
    .st ⟨some 8, .ld (some 2) (.tmp 7), none⟩ <|
    .st ⟨some 9, .eqs false [.i, .i] (.tmp 6) (.tmp 8), none⟩ <|
    .st ⟨some 10, .mv (.tmp 9), none⟩ <|
    .st ⟨some 11, .fa 2 (.tmp 2), some (10, true)⟩ <|
    .st ⟨some 12, .ld (some 5) (.tmp 11), some (10, true)⟩ <|
    .st ⟨some 13, .fa 2 (.tmp 3), some (10, true)⟩ <|
    .st ⟨some 14, .ld (some 5) (.tmp 13), some (10, true)⟩ <|
    .st ⟨some 15, .eqs false [.i, .i, .i, .i, .i] (.tmp 12) (.tmp 14), some (10, true)⟩ <|
    .st ⟨some 16, .pick (.tmp 10) (.tmp 15) (.const (.bool false)), none⟩ <|
    .st ⟨some 17, .mv (.tmp 16), none⟩ <|
    .st ⟨some 18, .fa 7 (.tmp 2), some (17, true)⟩ <|
    .st ⟨some 19, .ld (some 5) (.tmp 18), some (17, true)⟩ <|
    .st ⟨some 20, .fa 7 (.tmp 3), some (17, true)⟩ <|
    .st ⟨some 21, .ld (some 5) (.tmp 20), some (17, true)⟩ <|
    .st ⟨some 22, .eqs false [.i, .i, .i, .i, .i] (.tmp 19) (.tmp 21), some (17, true)⟩ <|
    .st ⟨some 23, .pick (.tmp 17) (.tmp 22) (.const (.bool false)), none⟩ <|
    .st ⟨some 24, .mv (.tmp 23), none⟩ <|
    .st ⟨some 25, .fa 12 (.tmp 2), some (24, true)⟩ <|
    .st ⟨some 26, .ld none (.tmp 25), some (24, true)⟩ <|
    .st ⟨some 27, .fa 12 (.tmp 3), some (24, true)⟩ <|
    .st ⟨some 28, .ld none (.tmp 27), some (24, true)⟩ <|
    .st ⟨some 29, .cmp .b false (.tmp 26) (.tmp 28), some (24, true)⟩ <|
    .st ⟨some 30, .pick (.tmp 24) (.tmp 29) (.const (.bool false)), none⟩ <|
    .st ⟨some 31, .mv (.tmp 30), none⟩ <|
    .st ⟨some 32, .fa 13 (.tmp 2), some (31, true)⟩ <|
    .st ⟨some 33, .ld (some 2) (.tmp 32), some (31, true)⟩ <|
    .st ⟨some 34, .fa 13 (.tmp 3), some (31, true)⟩ <|
    .st ⟨some 35, .ld (some 2) (.tmp 34), some (31, true)⟩ <|
    .st ⟨some 36, .eqs false [.i, .i] (.tmp 33) (.tmp 35), some (31, true)⟩ <|
    .st ⟨some 37, .pick (.tmp 31) (.tmp 36) (.const (.bool false)), none⟩ <|
    .st ⟨some 38, .mv (.tmp 37), none⟩ <|
    .st ⟨some 39, .fa 15 (.tmp 2), some (38, true)⟩ <|
    .st ⟨some 40, .ld none (.tmp 39), some (38, true)⟩ <|
    .st ⟨some 41, .fa 15 (.tmp 3), some (38, true)⟩ <|
    .st ⟨some 42, .ld none (.tmp 41), some (38, true)⟩ <|
    .st ⟨some 43, .call (.func 57) [.tmp 40, .tmp 42], some (38, true)⟩ <|
    .st ⟨some 44, .pick (.tmp 38) (.tmp 43) (.const (.bool false)), none⟩ <|
    .st ⟨some 4, .mv (.tmp 44), none⟩ <|
    .done)) <|
  .ret
theorem b27 : bodyOf Try.prog 27 = some (45, [.t 4], c27) := by kernel_rfl
theorem k27 : callOk Try.prog 27 = true := by kernel_rfl

/-- slices.Equal[[]leapfrog/api.Owner,leapfrog/api.Owner] -/
def c57 : CC :=
  .seq (.ops (
    .st ⟨some 4, .mv (.const (.bool false)), none⟩ <|
    .done)) <|
  .seq (.seq (.ops (
    .st ⟨some 6, .mv (.tmp 0), none⟩ <|
    .st ⟨some 7, .ln (.tmp 6), none⟩ <|
    .st ⟨some 8, .mv (.tmp 1), none⟩ <|
    .st ⟨some 9, .ln (.tmp 8), none⟩ <|
    .st ⟨some 10, .bini .neq (.tmp 7) (.tmp 9), none⟩ <|
    .done)) <|
  .cond (.tmp 10) (.seq (.ops (
      .st ⟨some 4, .mv (.const (.bool false)), none⟩ <|
      .done)) <|
    .ret) (.skip)) <|
  .seq (.seq (.ops (
    .st ⟨some 11, .mv (.tmp 0), none⟩ <|
    .st ⟨some 12, .ln (.tmp 11), none⟩ <|
    .st ⟨some 13, .mv (.const (.int .i64 0)), none⟩ <|
    .done)) <|
  .block 0 (.loop (.seq (.ops (
        .st ⟨some 14, .bini .lss (.tmp 13) (.tmp 12), none⟩ <|
        .done)) <|
      .seq (.cond (.tmp 14) (.skip) (.exit 0)) <|
      .seq (.block 1 (.seq (.ops (
          .st ⟨some 15, .mv (.tmp 13), none⟩ <|
          .st ⟨some 5, .mv (.tmp 15), none⟩ <|
          .done)) <|
        .seq (.ops (
          .st ⟨some 16, .mv (.tmp 0), none⟩ <|
          .st ⟨some 17, .mv (.tmp 5), none⟩ <|
          .st ⟨some 18, .ia 2 (.tmp 16) (.tmp 17), none⟩ <|
          .st ⟨some 19, .ld (some 2) (.tmp 18), none⟩ <|
          .st ⟨some 20, .mv (.tmp 1), none⟩ <|
          .st ⟨some 21, .mv (.tmp 5), none⟩ <|
          .st ⟨some 22, .ia 2 (.tmp 20) (.tmp 21), none⟩ <|
          .st ⟨some 23, .ld (some 2) (.tmp 22), none⟩ <|
          .st ⟨some 24, .eqs true [.i, .i] (.tmp 19) (.tmp 23), none⟩ <|
          .done)) <|
        .cond (.tmp 24) (.seq (.ops (
            .st ⟨some 4, .mv (.const (.bool false)), none⟩ <|
            .done)) <|
          .ret) (.skip))) <|
      .ops (
        .st ⟨some 25, .bini .add (.tmp 13) (.const (.int .i64 1)), none⟩ <|
        .st ⟨some 13, .mv (.tmp 25), none⟩ <|
        .done)))) <|
  .seq (.ops (
    .st ⟨some 4, .mv (.const (.bool true)), none⟩ <|
    .done)) <|
  .ret
theorem b57 : bodyOf Try.prog 57 = some (26, [.t 4], c57) := by kernel_rfl
theorem k57 : callOk Try.prog 57 = true := by kernel_rfl

/-- leapfrog/leapfroglaw08.head -/
def c55 : CC :=
  .seq (.ops (
    .st ⟨some 2, .new 60 #[.int .i64 0, .int .i64 0, .int .u64 0, .int .i64 0, .int .u64 0], none⟩ <|
    .done)) <|
  .seq (.ops (
    .st ⟨some 3, .agg [.c (.const (.int .i64 1)) 0 1, .z (.int .u64 0)], none⟩ <|
    .st ⟨some 4, .mv (.tmp 0), none⟩ <|
    .st ⟨some 5, .agg [.c (.tmp 4) 0 1, .z (.int .u64 0)], none⟩ <|
    .st ⟨some 6, .agg [.z (.int .i64 0), .c (.tmp 3) 0 2, .c (.tmp 3) 1 2, .c (.tmp 5) 0 2, .c (.tmp 5) 1 2], none⟩ <|
    .st ⟨none, .st 5 (.tmp 2) (.tmp 6), none⟩ <|
    .done)) <|
  .ret
theorem b55 : bodyOf Try.prog 55 = some (7, [.c 2 (some 5)], c55) := by kernel_rfl
theorem k55 : callOk Try.prog 55 = true := by kernel_rfl

/-- leapfrog/leapfroglaw08.tail -/
def c56 : CC :=
  .seq (.ops (
    .st ⟨some 2, .new 60 #[.int .i64 0, .int .i64 0, .int .u64 0, .int .i64 0, .int .u64 0], none⟩ <|
    .done)) <|
  .seq (.ops (
    .st ⟨some 3, .agg [.c (.const (.int .i64 3)) 0 1, .z (.int .u64 0)], none⟩ <|
    .st ⟨some 4, .mv (.tmp 0), none⟩ <|
    .st ⟨some 5, .agg [.c (.tmp 4) 0 1, .z (.int .u64 0)], none⟩ <|
    .st ⟨some 6, .agg [.c (.const (.int .i64 1)) 0 1, .c (.tmp 3) 0 2, .c (.tmp 3) 1 2, .c (.tmp 5) 0 2, .c (.tmp 5) 1 2], none⟩ <|
    .st ⟨none, .st 5 (.tmp 2) (.tmp 6), none⟩ <|
    .done)) <|
  .ret
theorem b56 : bodyOf Try.prog 56 = some (7, [.c 2 (some 5)], c56) := by kernel_rfl
theorem k56 : callOk Try.prog 56 = true := by kernel_rfl

/-- leapfrog/leapfroglaw08.awake -/
def c26 : CC :=
  .seq (.ops (
    .st ⟨some 0, .mv (.const (.bool false)), none⟩ <|
    .done)) <|
  .seq (.ops (
    .st ⟨some 18, .agg [.c (.const (.int .i64 1)) 0 1, .c (.const (.int .i64 1)) 0 1], none⟩ <|
    .st ⟨some 19, .agg [.c (.const (.int .i64 2)) 0 1, .c (.const (.int .i64 1)) 0 1], none⟩ <|
    .st ⟨some 1, .new 29 #[.int .i64 0, .int .i64 0], none⟩ <|
    .st ⟨some 2, .new 29 #[.int .i64 0, .int .i64 0], none⟩ <|
    .st ⟨none, .st 2 (.tmp 1) (.tmp 18), none⟩ <|
    .st ⟨none, .st 2 (.tmp 2) (.tmp 19), none⟩ <|
    .done)) <|
  .seq (.ops (
    .st ⟨some 20, .agg [.c (.const (.int .i64 1)) 0 1, .c (.const (.int .u64 1)) 0 1], none⟩ <|
    .st ⟨some 3, .new 55 #[.int .i64 0, .int .u64 0], none⟩ <|
    .st ⟨none, .st 2 (.tmp 3) (.tmp 20), none⟩ <|
    .done)) <|
  .seq (.ops (
    .st ⟨some 22, .call (.func 54) [.const (.int .u64 5)], none⟩ <|
    .st ⟨some 23, .agg [.c (.const (.int .i64 2)) 0 1, .c (.const (.int .u64 2)) 0 1], none⟩ <|
    .st ⟨some 24, .agg [.c (.const (.int .i64 5)) 0 1, .c (.tmp 22) 0 2, .c (.tmp 22) 1 2, .c (.tmp 23) 0 2, .c (.tmp 23) 1 2], none⟩ <|
    .st ⟨some 25, .call (.func 33) [.tmp 24], none⟩ <|
    .st ⟨some 21, .mv (.tmp 25), none⟩ <|
    .st ⟨some 26, .ext (.tmp 21) 0, none⟩ <|
    .st ⟨some 27, .ext (.tmp 21) 1, none⟩ <|
    .st ⟨some 4, .mv (.tmp 26), none⟩ <|
    .st ⟨some 5, .mv (.tmp 27), none⟩ <|
    .done)) <|
  .seq (.seq (.ops (
    .st ⟨some 28, .mv (.tmp 5), none⟩ <|
    .st ⟨some 29, .bini .neq (.tmp 28) (.const (.int .i64 0)), none⟩ <|
    .st ⟨some 30, .mv (.tmp 29), none⟩ <|
    .st ⟨some 31, .mv (.tmp 4), some (30, false)⟩ <|
    .st ⟨some 32, .cmp .p false (.tmp 31) (.const (.pointer none)), some (30, false)⟩ <|
    .st ⟨some 33, .pick (.tmp 30) (.const (.bool true)) (.tmp 32), none⟩ <|
    .done)) <|
  .cond (.tmp 33) (.seq (.ops (
      .st ⟨some 0, .mv (.const (.bool false)), none⟩ <|
      .done)) <|
    .ret) (.skip)) <|
  .seq (.ops (
    .st ⟨some 34, .mv (.tmp 4), none⟩ <|
    .st ⟨some 35, .ld (some 2) (.tmp 3), none⟩ <|
    .st ⟨some 38, .ld (some 2) (.tmp 1), none⟩ <|
    .st ⟨some 36, .call (.func 55) [.const (.int .i64 2)], none⟩ <|
    .ag ⟨some 35, .ld (some 2) (.tmp 3), none⟩ <|
    .ag ⟨some 38, .ld (some 2) (.tmp 1), none⟩ <|
    .st ⟨some 37, .call (.func 56) [.const (.int .i64 2)], none⟩ <|
    .ag ⟨some 35, .ld (some 2) (.tmp 3), none⟩ <|
    .ag ⟨some 38, .ld (some 2) (.tmp 1), none⟩ <|
    .st ⟨some 39, .call (.func 34) [.tmp 34, .tmp 35, .tmp 36, .tmp 37, .tmp 38], none⟩ <|
    .st ⟨some 6, .mv (.tmp 39), none⟩ <|
    .done)) <|
  .seq (.ops (
    .st ⟨some 40, .call (.func 54) [.const (.int .u64 9)], none⟩ <|
    .st ⟨some 41, .agg [.c (.const (.int .i64 2)) 0 1, .z (.int .u64 0)], none⟩ <|
    .st ⟨some 42, .agg [.c (.const (.int .i64 9)) 0 1, .c (.tmp 40) 0 2, .c (.tmp 40) 1 2, .c (.tmp 41) 0 2, .c (.tmp 41) 1 2], none⟩ <|
    .st ⟨some 7, .new 60 #[.int .i64 0, .int .i64 0, .int .u64 0, .int .i64 0, .int .u64 0], none⟩ <|
    .st ⟨none, .st 5 (.tmp 7) (.tmp 42), none⟩ <|
    .done)) <|
  .seq (.ops (
    .st ⟨some 43, .mv (.tmp 4), none⟩ <|
    .st ⟨some 44, .ld (some 2) (.tmp 3), none⟩ <|
    .st ⟨some 45, .ld (some 5) (.tmp 7), none⟩ <|
    .st ⟨some 46, .ld (some 2) (.tmp 2), none⟩ <|
    .st ⟨some 48, .mv (.tmp 4), none⟩ <|
    .st ⟨some 49, .ld (some 2) (.tmp 3), none⟩ <|
    .st ⟨some 50, .ld (some 5) (.tmp 7), none⟩ <|
    .st ⟨some 51, .ld (some 2) (.tmp 1), none⟩ <|
    .st ⟨some 47, .call (.func 44) [.tmp 43, .tmp 44, .tmp 45, .tmp 46], none⟩ <|
    .ag ⟨some 49, .ld (some 2) (.tmp 3), none⟩ <|
    .ag ⟨some 50, .ld (some 5) (.tmp 7), none⟩ <|
    .ag ⟨some 51, .ld (some 2) (.tmp 1), none⟩ <|
    .st ⟨some 52, .call (.func 44) [.tmp 48, .tmp 49, .tmp 50, .tmp 51], none⟩ <|
    .st ⟨some 8, .mv (.tmp 47), none⟩ <|
    .st ⟨some 9, .mv (.tmp 52), none⟩ <|
    .done)) <|
  .seq (.ops (
    .st ⟨some 54, .mv (.tmp 4), none⟩ <|
    .st ⟨some 55, .ld (some 2) (.tmp 3), none⟩ <|
    .st ⟨some 56, .call (.func 30) [.tmp 54, .tmp 55], none⟩ <|
    .st ⟨some 53, .mv (.tmp 56), none⟩ <|
    .st ⟨some 57, .ext (.tmp 53) 0, none⟩ <|
    .st ⟨some 58, .ext (.tmp 53) 1, none⟩ <|
    .st ⟨some 10, .new 62 #[.int .i64 0, .int .u64 0, .int .i64 0, .int .i64 0, .int .u64 0, .int .i64 0, .int .u64 0, .int .i64 0, .int .i64 0, .int .u64 0, .int .i64 0, .int .u64 0, .bool false, .int .i64 0, .int .i64 0, .slice none 0 0], none⟩ <|
    .st ⟨none, .st 16 (.tmp 10) (.tmp 57), none⟩ <|
    .st ⟨some 11, .mv (.tmp 58), none⟩ <|
    .done)) <|
  .seq (.ops (
    .st ⟨some 60, .mv (.tmp 4), none⟩ <|
    .st ⟨some 61, .ld (some 2) (.tmp 3), none⟩ <|
    .st ⟨some 62, .ld (some 2) (.tmp 2), none⟩ <|
    .st ⟨some 63, .call (.func 41) [.tmp 60, .tmp 61, .tmp 62], none⟩ <|
    .st ⟨some 59, .mv (.tmp 63), none⟩ <|
    .st ⟨some 64, .ext (.tmp 59) 0, none⟩ <|
    .st ⟨some 65, .ext (.tmp 59) 1, none⟩ <|
    .st ⟨some 12, .mv (.tmp 64), none⟩ <|
    .st ⟨some 13, .mv (.tmp 65), none⟩ <|
    .done)) <|
  .seq (.ops (
    .st ⟨some 67, .mv (.tmp 4), none⟩ <|
    .st ⟨some 68, .ld (some 2) (.tmp 3), none⟩ <|
    .st ⟨some 69, .ld (some 2) (.tmp 1), none⟩ <|
    .st ⟨some 70, .call (.func 32) [.tmp 67, .tmp 68, .tmp 69], none⟩ <|
    .st ⟨some 66, .mv (.tmp 70), none⟩ <|
    .st ⟨some 71, .ext (.tmp 66) 0, none⟩ <|
    .st ⟨some 72, .ext (.tmp 66) 1, none⟩ <|
    .st ⟨some 14, .mv (.tmp 71), none⟩ <|
    .st ⟨some 15, .mv (.tmp 72), none⟩ <|
    .done)) <|
  .seq (.ops (
    .st ⟨some 74, .mv (.tmp 4), none⟩ <|
    .st ⟨some 75, .ld (some 2) (.tmp 3), none⟩ <|
    .st ⟨some 76, .call (.func 30) [.tmp 74, .tmp 75], none⟩ <|
    .st ⟨some 73, .mv (.tmp 76), none⟩ <|
    .st ⟨some 77, .ext (.tmp 73) 0, none⟩ <|
    .st ⟨some 78, .ext (.tmp 73) 1, none⟩ <|
    .st ⟨some 16, .new 62 #[.int .i64 0, .int .u64 0, .int .i64 0, .int .i64 0, .int .u64 0, .int .i64 0, .int .u64 0, .int .i64 0, .int .i64 0, .int .u64 0, .int .i64 0, .int .u64 0, .bool false, .int .i64 0, .int .i64 0, .slice none 0 0], none⟩ <|
    .st ⟨none, .st 16 (.tmp 16) (.tmp 77), none⟩ <|
    .st ⟨some 17, .mv (.tmp 78), none⟩ <|
    .done)) <|
  .seq (.ops (
    .st ⟨some 79, .mv (.tmp 6), none⟩ <|
    .st ⟨some 80, .bini .eql (.tmp 79) (.const (.int .i64 0)), none⟩ <|
    .st ⟨some 81, .mv (.tmp 80), none⟩ <|
    .st ⟨some 82, .mv (.tmp 8), some (81, true)⟩ <|
    .st ⟨some 83, .bini .eql (.tmp 82) (.const (.int .i64 71)), some (81, true)⟩ <|
    .st ⟨some 84, .pick (.tmp 81) (.tmp 83) (.const (.bool false)), none⟩ <|
    .st ⟨some 85, .mv (.tmp 84), none⟩ <|
    .st ⟨some 86, .mv (.tmp 9), some (85, true)⟩ <|
    .st ⟨some 87, .bini .eql (.tmp 86) (.const (.int .i64 0)), some (85, true)⟩ <|
    .st ⟨some 88, .pick (.tmp 85) (.tmp 87) (.const (.bool false)), none⟩ <|
    .st ⟨some 89, .mv (.tmp 88), none⟩ <|
    .st ⟨some 90, .mv (.tmp 11), some (89, true)⟩ <|
    .st ⟨some 91, .pick (.tmp 89) (.tmp 90) (.const (.bool false)), none⟩ <|
    .st ⟨some 92, .mv (.tmp 91), none⟩ <|
    .st ⟨some 93, .fa 7 (.tmp 10), some (92, true)⟩ <|
    .st ⟨some 94, .ld (some 5) (.tmp 93), some (92, true)⟩ <|
    .st ⟨some 95, .ld (some 5) (.tmp 7), some (92, true)⟩ <|
    .st ⟨some 96, .eqs false [.i, .i, .i, .i, .i] (.tmp 94) (.tmp 95), some (92, true)⟩ <|
    .st ⟨some 97, .pick (.tmp 92) (.tmp 96) (.const (.bool false)), none⟩ <|
    .st ⟨some 98, .mv (.tmp 97), none⟩ <|
    .st ⟨some 99, .mv (.tmp 12), some (98, true)⟩ <|
    .st ⟨some 100, .un .not (.tmp 99), some (98, true)⟩ <|
    .st ⟨some 101, .pick (.tmp 98) (.tmp 100) (.const (.bool false)), none⟩ <|
    .st ⟨some 102, .mv (.tmp 101), none⟩ <|
    .st ⟨some 103, .mv (.tmp 13), some (102, true)⟩ <|
    .st ⟨some 104, .bini .eql (.tmp 103) (.const (.int .i64 0)), some (102, true)⟩ <|
    .st ⟨some 105, .pick (.tmp 102) (.tmp 104) (.const (.bool false)), none⟩ <|
    .st ⟨some 106, .mv (.tmp 105), none⟩ <|
    .st ⟨some 107, .mv (.tmp 14), some (106, true)⟩ <|
    .st ⟨some 108, .ln (.tmp 107), some (106, true)⟩ <|
    .st ⟨some 109, .bini .eql (.tmp 108) (.const (.int .i64 1)), some (106, true)⟩ <|
    .st ⟨some 110, .pick (.tmp 106) (.tmp 109) (.const (.bool false)), none⟩ <|
    .st ⟨some 111, .mv (.tmp 110), none⟩ <|
    .st ⟨some 112, .mv (.tmp 14), some (111, true)⟩ <|
    .st ⟨some 113, .ia 2 (.tmp 112) (.const (.int .i64 0)), some (111, true)⟩ <|
    .st ⟨some 114, .ld (some 2) (.tmp 113), some (111, true)⟩ <|
    .st ⟨some 115, .ld (some 2) (.tmp 2), some (111, true)⟩ <|
    .st ⟨some 116, .eqs false [.i, .i] (.tmp 114) (.tmp 115), some (111, true)⟩ <|
    .st ⟨some 117, .pick (.tmp 111) (.tmp 116) (.const (.bool false)), none⟩ <|
    .st ⟨some 118, .mv (.tmp 117), none⟩ <|
    .st ⟨some 119, .mv (.tmp 15), some (118, true)⟩ <|
    .st ⟨some 120, .bini .eql (.tmp 119) (.const (.int .i64 0)), some (118, true)⟩ <|
    .st ⟨some 121, .pick (.tmp 118) (.tmp 120) (.const (.bool false)), none⟩ <|
    .st ⟨some 122, .mv (.tmp 121), none⟩ <|
    .st ⟨some 123, .mv (.tmp 17), some (122, true)⟩ <|
    .st ⟨some 124, .un .not (.tmp 123), some (122, true)⟩ <|
    .st ⟨some 125, .pick (.tmp 122) (.tmp 124) (.const (.bool false)), none⟩ <|
    .st ⟨some 0, .mv (.tmp 125), none⟩ <|
    .done)) <|
  .ret
theorem b26 : bodyOf Try.prog 26 = some (126, [.t 0], c26) := by kernel_rfl
theorem k26 : callOk Try.prog 26 = true := by kernel_rfl

end Go.Proofs.Ytojegknfbgflnaa
