/- The bodies of some functions of the program, without their noise, and that they are these. Conditions: none. Written by a program of this workplace (Print.lean). -/
import Derived.Test.YtnipmjpdklbbcaaGreatProg
import Derived.Test.YtnipmjpdklbbcaaGreatSlW
import Derived.KernelRfl
namespace Go.Proofs.YtnipmjpdklbbcaaGreat
open Go.SL Go.SL.W
set_option maxRecDepth 100000

/-- (*leapfrog/link.Links).All -/
def c34 : Go.SL.CC := S (V 2 (k (.slice none 0 0))<|C 8 78 [t 0]<|O 9 (.un .not (t 8))<|E)<|Q (I (t 9) (S (V 2 (k (.slice none 0 0))<|E)<|R) (Z))<|S (V 3 (k (.slice none 0 0))<|
F 12 5 0<|L 13 12<|O 14 (.rng (t 13))<|E)<|Q (P 0 (S (O 15 (.nxt (t 14))<|X 16 15 0<|E)<|Q (I (t 16) (Z) (J 0))<|B 1 (S (O 17 (.ent (t 14))<|X 18 17 0<|
X 19 17 1<|O 4 (.new 36 #[.int .i64 0, .int .u64 0])<|N (.st 2 (t 4) (t 18))<|M 21 2 4<|C 22 80 [t 19, t 21]<|
O 6 (.new 53 #[.int .i64 0, .int .u64 0, .int .i64 0, .int .i64 0, .int .u64 0, .int .i64 0, .int .u64 0, .int .i64 0, .int .i64 0, .int .u64 0, .int .i64 0, .int .u64 0, .bool false, .int .i64 0, .int .i64 0, .slice none 0 0])<|
N (.st 16 (t 6) (t 22))<|C 24 86 [t 0]<|O 26 (.un .not (t 24))<|H 27 (.ld (some 16) (t 6)) 26<|H 30 (.ld (some 2) (t 4)) 26<|H 29 (.call (f 97) [t 0]) 26<|
.ag ⟨some 27, .ld (some 16) (t 6), some (26, false)⟩<|.ag ⟨some 30, .ld (some 2) (t 4), some (26, false)⟩<|H 31 (.call (f 80) [t 29, t 30]) 26<|
.ag ⟨some 27, .ld (some 16) (t 6), some (26, false)⟩<|H 32 (.call (f 29) [t 27, t 31]) 26<|H 33 (.un .not (t 32)) 26<|O 34 (.pick (t 26) (b true) (t 33))<|E)<|
I (t 34) (Y (M 36 16 6<|
O 37 (.bsl 53 [.c (t 36) 0 16, .c (t 36) 1 16, .c (t 36) 2 16, .c (t 36) 3 16, .c (t 36) 4 16, .c (t 36) 5 16, .c (t 36) 6 16, .c (t 36) 7 16, .c (t 36) 8 16, .c (t 36) 9 16, .c (t 36) 10 16, .c (t 36) 11 16, .c (t 36) 12 16, .c (t 36) 13 16, .c (t 36) 14 16, .c (t 36) 15 16] 1)<|
O 3 (.ap 53 16 144 #[.int .i64 0, .int .u64 0, .int .i64 0, .int .i64 0, .int .u64 0, .int .i64 0, .int .u64 0, .int .i64 0, .int .i64 0, .int .u64 0, .int .i64 0, .int .u64 0, .bool false, .int .i64 0, .int .i64 0, .slice none 0 0] (t 3) (t 37))<|
E)) (Z))))<|S (C 40 98 [t 3, f 99]<|V 2 (t 3)<|E)<|R
theorem b34 : bodyO 2783416681632 274911463424 Tryz.prog 34 = some (42, [.t 2], c34) := by kernel_rfl
theorem k34 : callOk Tryz.prog 34 = true := by kernel_rfl
/-- (*leapfrog/link.Links).All$1 -/
def c99 : Go.SL.CC := S (O 2 (.box 53 (t 0))<|O 3 (.box 53 (t 1))<|V 4 (i 0)<|F 8 0 2<|M 9 2 8<|F 10 0 3<|M 11 2 10<|C 12 100 [t 9, t 11]<|X 13 12 0<|X 14 12 1<|V 4 (t 13)<|E)<|R
theorem b99 : bodyO 32992 0 Tryz.prog 99 = some (16, [.t 4], c99) := by kernel_rfl
theorem k99 : callOk Tryz.prog 99 = true := by kernel_rfl
/-- leapfrog/leapfrogref02.Check -/
def c77 : Go.SL.CC := S (O 1 (.box 34 (t 0))<|V 2 (i 0)<|F 3 0 1<|L 4 3<|O 6 (.bini .eql (t 4) (i 2))<|H 7 (.fa 0 (t 1)) 6<|H 8 (.ld none (t 7)) 6<|H 9 (.bini .eql (t 8) (i 1)) 6<|
H 10 (.mv (t 9)) 6<|H 11 (.fa 0 (t 1)) 10<|H 12 (.ld none (t 11)) 10<|H 13 (.bini .eql (t 12) (i 3)) 10<|H 14 (.pick (t 10) (b true) (t 13)) 6<|
H 15 (.mv (t 14)) 6<|G 16 (.fa 1 (t 1)) 15<|G 17 (.ld none (t 16)) 15<|G 18 (.bini .eql (t 17) (u 0)) 15<|H 19 (.pick (t 15) (t 18) (b false)) 6<|
O 20 (.pick (t 6) (b true) (t 19))<|E)<|Q (I (t 20) (S (V 2 (i 0)<|E)<|R) (Z))<|S (V 2 (i 20)<|E)<|R
theorem b77 : bodyO 0 32 Tryz.prog 77 = some (21, [.t 2], c77) := by kernel_rfl
theorem k77 : callOk Tryz.prog 77 = true := by kernel_rfl
/-- leapfrog/leapfrogref02.Less -/
def c202 : Go.SL.CC := S (O 2 (.box 34 (t 0))<|O 3 (.box 34 (t 1))<|V 4 (b false)<|M 5 2 2<|M 6 2 3<|C 7 237 [t 5, t 6]<|O 4 (.bini .lss (t 7) (i 0))<|E)<|R
theorem b202 : bodyO 0 256 Tryz.prog 202 = some (9, [.t 4], c202) := by kernel_rfl
theorem k202 : callOk Tryz.prog 202 = true := by kernel_rfl
/-- leapfrog/leapfrogref02.Compare -/
def c237 : Go.SL.CC := S (O 2 (.box 34 (t 0))<|O 3 (.box 34 (t 1))<|V 4 (i 0)<|E)<|Q (B 0 (S (F 6 0 2<|L 7 6<|F 8 0 3<|L 9 8<|O 11 (.bini .lss (t 7) (t 9))<|H 12 (.fa 0 (t 2)) 11<|
H 13 (.ld none (t 12)) 11<|H 14 (.fa 0 (t 3)) 11<|H 15 (.ld none (t 14)) 11<|H 16 (.bini .eql (t 13) (t 15)) 11<|H 17 (.mv (t 16)) 11<|G 18 (.fa 1 (t 2)) 17<|
G 19 (.ld none (t 18)) 17<|G 20 (.fa 1 (t 3)) 17<|G 21 (.ld none (t 20)) 17<|G 22 (.bini .lss (t 19) (t 21)) 17<|H 23 (.pick (t 17) (t 22) (b false)) 11<|
O 5 (.pick (t 11) (b true) (t 23))<|E)<|I (t 5) (S (V 4 (i (-1))<|E)<|R) (S (M 26 2 2<|M 27 2 3<|O 25 (.eqs false [.i, .i] (t 26) (t 27))<|E)<|
I (t 25) (S (V 4 (i 0)<|E)<|R) (Z))))<|S (V 4 (i 1)<|E)<|R
theorem b237 : bodyO 0 285213696 Tryz.prog 237 = some (29, [.t 4], c237) := by kernel_rfl
theorem k237 : callOk Tryz.prog 237 = true := by kernel_rfl
end Go.Proofs.YtnipmjpdklbbcaaGreat
