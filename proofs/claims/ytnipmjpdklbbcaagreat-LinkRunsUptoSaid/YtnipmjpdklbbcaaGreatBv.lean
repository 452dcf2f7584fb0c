/- The bodies of some functions of the program, without their noise, and that they are these. Conditions: none. Written by a program of this workplace (Print.lean). -/
import Derived.Test.YtnipmjpdklbbcaaGreatProg
import Derived.Test.YtnipmjpdklbbcaaGreatSlW
import Derived.KernelRfl
namespace Go.Proofs.YtnipmjpdklbbcaaGreat
open Go.SL Go.SL.W
set_option maxRecDepth 100000

/-- leapfrog/vec.Right -/
def c55 : Go.SL.CC := S (O 1 (.box 36 (t 0))<|V 2 (i 0)<|F 3 0 1<|L 4 3<|O 6 (.bini .lss (t 4) (i 0))<|H 7 (.fa 0 (t 1)) 6<|H 8 (.ld none (t 7)) 6<|H 9 (.bini .gtr (t 8) (i 32)) 6<|
O 11 (.pick (t 6) (b true) (t 9))<|H 12 (.fa 1 (t 1)) 11<|H 13 (.ld none (t 12)) 11<|H 14 (.fa 0 (t 1)) 11<|H 15 (.ld none (t 14)) 11<|
H 16 (.call (f 127) [t 15]) 11<|.ag ⟨some 13, .ld none (t 12), some (11, false)⟩<|H 17 (.bini .gtr (t 13) (t 16)) 11<|O 18 (.pick (t 11) (b true) (t 17))<|E)<|
Q (I (t 18) (S (V 2 (i 10)<|E)<|R) (Z))<|S (V 2 (i 0)<|E)<|R
theorem b55 : bodyO 0 1056 Tryz.prog 55 = some (19, [.t 2], c55) := by kernel_rfl
theorem k55 : callOk Tryz.prog 55 = true := by kernel_rfl
/-- leapfrog/vec.low -/
def c127 : Go.SL.CC := S (V 2 (u 0)<|O 4 (.cv .u64 (t 0))<|O 5 (.bini .shl (u 1) (t 4))<|O 2 (.bini .sub (t 5) (u 1))<|E)<|R
theorem b127 : bodyO 8 64 Tryz.prog 127 = some (7, [.t 2], c127) := by kernel_rfl
theorem k127 : callOk Tryz.prog 127 = true := by kernel_rfl
/-- leapfrog/vec.Begins -/
def c87 : Go.SL.CC := S (O 2 (.box 36 (t 0))<|O 3 (.box 36 (t 1))<|V 4 (b false)<|M 5 2 2<|C 6 55 [t 5]<|O 8 (.bini .eql (t 6) (i 0))<|G 9 (.ld (some 2) (t 3)) 8<|
G 10 (.call (f 55) [t 9]) 8<|G 11 (.bini .eql (t 10) (i 0)) 8<|O 13 (.pick (t 8) (t 11) (b false))<|G 14 (.fa 0 (t 3)) 13<|G 15 (.ld none (t 14)) 13<|
G 16 (.fa 0 (t 2)) 13<|G 17 (.ld none (t 16)) 13<|G 18 (.bini .leq (t 15) (t 17)) 13<|O 20 (.pick (t 13) (t 18) (b false))<|G 21 (.ld (some 2) (t 2)) 20<|
G 22 (.fa 0 (t 3)) 20<|G 23 (.ld none (t 22)) 20<|G 25 (.ld (some 2) (t 3)) 20<|G 24 (.call (f 147) [t 21, t 23]) 20<|
.ag ⟨some 25, .ld (some 2) (t 3), some (20, true)⟩<|G 26 (.eqs false [.i, .i] (t 24) (t 25)) 20<|O 4 (.pick (t 20) (t 26) (b false))<|E)<|R
theorem b87 : bodyO 0 134746240 Tryz.prog 87 = some (28, [.t 4], c87) := by kernel_rfl
theorem k87 : callOk Tryz.prog 87 = true := by kernel_rfl
/-- leapfrog/vec.prefix -/
def c147 : Go.SL.CC := S (O 2 (.box 36 (t 0))<|O 4 (.new 36 #[.int .i64 0, .int .u64 0])<|F 6 1 2<|L 7 6<|F 8 0 2<|L 9 8<|O 11 (.bini .sub (t 9) (t 1))<|O 12 (.cv .u64 (t 11))<|
O 13 (.bini .shr (t 7) (t 12))<|O 14 (.agg [.c (t 1) 0 1, .c (t 13) 0 1])<|N (.st 2 (t 4) (t 14))<|E)<|R
theorem b147 : bodyO 1056 0 Tryz.prog 147 = some (15, [.c 4 (some 2)], c147) := by kernel_rfl
theorem k147 : callOk Tryz.prog 147 = true := by kernel_rfl
/-- leapfrog/key.Check -/
def c76 : Go.SL.CC := S (O 1 (.box 34 (t 0))<|V 2 (i 0)<|F 3 0 1<|L 4 3<|O 6 (.bini .eql (t 4) (i 2))<|H 7 (.fa 0 (t 1)) 6<|H 8 (.ld none (t 7)) 6<|H 9 (.bini .eql (t 8) (i 1)) 6<|
H 10 (.mv (t 9)) 6<|H 11 (.fa 0 (t 1)) 10<|H 12 (.ld none (t 11)) 10<|H 13 (.bini .eql (t 12) (i 3)) 10<|H 14 (.pick (t 10) (b true) (t 13)) 6<|
H 15 (.mv (t 14)) 6<|G 16 (.fa 1 (t 1)) 15<|G 17 (.ld none (t 16)) 15<|G 18 (.bini .eql (t 17) (u 0)) 15<|H 19 (.pick (t 15) (t 18) (b false)) 6<|
O 20 (.pick (t 6) (b true) (t 19))<|E)<|Q (I (t 20) (S (V 2 (i 0)<|E)<|R) (Z))<|S (V 2 (i 20)<|E)<|R
theorem b76 : bodyO 0 32 Tryz.prog 76 = some (21, [.t 2], c76) := by kernel_rfl
theorem k76 : callOk Tryz.prog 76 = true := by kernel_rfl
/-- leapfrog/key.Less -/
def c57 : Go.SL.CC := S (O 2 (.box 34 (t 0))<|O 3 (.box 34 (t 1))<|V 4 (b false)<|M 5 2 2<|M 6 2 3<|C 7 67 [t 5, t 6]<|O 4 (.bini .lss (t 7) (i 0))<|E)<|R
theorem b57 : bodyO 0 256 Tryz.prog 57 = some (9, [.t 4], c57) := by kernel_rfl
theorem k57 : callOk Tryz.prog 57 = true := by kernel_rfl
/-- leapfrog/key.Compare -/
def c67 : Go.SL.CC := S (O 2 (.box 34 (t 0))<|O 3 (.box 34 (t 1))<|V 4 (i 0)<|F 5 0 2<|L 6 5<|F 7 0 3<|L 8 7<|F 10 1 2<|L 11 10<|F 12 1 3<|L 13 12<|C 9 133 [t 6, t 8]<|
A 11 (.ld none (t 10))<|A 13 (.ld none (t 12))<|C 14 134 [t 11, t 13]<|O 15 (.bsl 3 [.c (t 9) 0 1, .c (t 14) 0 1] 2)<|C 4 66 [t 15]<|E)<|R
theorem b67 : bodyO 0 65536 Tryz.prog 67 = some (17, [.t 4], c67) := by kernel_rfl
theorem k67 : callOk Tryz.prog 67 = true := by kernel_rfl
/-- cmp.Or[int] -/
def c66 : Go.SL.CC := S (V 2 (i 0)<|V 3 (i 0)<|V 6 (t 0)<|O 7 (.ln (t 6))<|V 8 (i 0)<|E)<|Q (P 0 (S (O 9 (.bini .lss (t 8) (t 7))<|E)<|Q (I (t 9) (Z) (J 0))<|
Q (B 1 (S (O 10 (.ia 1 (t 6) (t 8))<|L 5 10<|O 14 (.bini .neq (t 5) (t 3))<|E)<|I (t 14) (S (V 2 (t 5)<|E)<|R) (Z)))<|Y (O 8 (.bini .add (t 8) (i 1))<|E)))<|
S (V 2 (t 3)<|E)<|R
theorem b66 : bodyO 176128 67584 Tryz.prog 66 = some (18, [.t 2], c66) := by kernel_rfl
theorem k66 : callOk Tryz.prog 66 = true := by kernel_rfl
/-- cmp.Compare[int] -/
def c41 : Go.SL.CC := S (V 4 (i 0)<|C 8 110 [t 0]<|C 6 110 [t 1]<|V 11 (t 8)<|E)<|Q (I (t 11) (S (V 12 (t 6)<|E)<|Q (I (t 12) (S (V 4 (i 0)<|E)<|R) (Z))<|S (V 4 (i (-1))<|E)<|
R) (Z))<|S (V 13 (t 6)<|E)<|Q (I (t 13) (S (V 4 (i 1)<|E)<|R) (Z))<|S (O 16 (.bini .lss (t 0) (t 1))<|E)<|Q (I (t 16) (S (V 4 (i (-1))<|E)<|R) (Z))<|
S (O 19 (.bini .gtr (t 0) (t 1))<|E)<|Q (I (t 19) (S (V 4 (i 1)<|E)<|R) (Z))<|S (V 4 (i 0)<|E)<|R
theorem b41 : bodyO 443040 1024 Tryz.prog 41 = some (20, [.t 4], c41) := by kernel_rfl
theorem k41 : callOk Tryz.prog 41 = true := by kernel_rfl
/-- cmp.Compare[leapfrog/api.Rank] -/
def c133 : Go.SL.CC := S (V 4 (i 0)<|C 8 196 [t 0]<|C 6 196 [t 1]<|V 11 (t 8)<|E)<|Q (I (t 11) (S (V 12 (t 6)<|E)<|Q (I (t 12) (S (V 4 (i 0)<|E)<|R) (Z))<|S (V 4 (i (-1))<|E)<|
R) (Z))<|S (V 13 (t 6)<|E)<|Q (I (t 13) (S (V 4 (i 1)<|E)<|R) (Z))<|S (O 16 (.bini .lss (t 0) (t 1))<|E)<|Q (I (t 16) (S (V 4 (i (-1))<|E)<|R) (Z))<|
S (O 19 (.bini .gtr (t 0) (t 1))<|E)<|Q (I (t 19) (S (V 4 (i 1)<|E)<|R) (Z))<|S (V 4 (i 0)<|E)<|R
theorem b133 : bodyO 443040 1024 Tryz.prog 133 = some (20, [.t 4], c133) := by kernel_rfl
theorem k133 : callOk Tryz.prog 133 = true := by kernel_rfl
/-- cmp.Compare[uint64] -/
def c134 : Go.SL.CC := S (V 4 (i 0)<|C 8 197 [t 0]<|C 6 197 [t 1]<|V 11 (t 8)<|E)<|Q (I (t 11) (S (V 12 (t 6)<|E)<|Q (I (t 12) (S (V 4 (i 0)<|E)<|R) (Z))<|S (V 4 (i (-1))<|E)<|
R) (Z))<|S (V 13 (t 6)<|E)<|Q (I (t 13) (S (V 4 (i 1)<|E)<|R) (Z))<|S (O 16 (.bini .lss (t 0) (t 1))<|E)<|Q (I (t 16) (S (V 4 (i (-1))<|E)<|R) (Z))<|
S (O 19 (.bini .gtr (t 0) (t 1))<|E)<|Q (I (t 19) (S (V 4 (i 1)<|E)<|R) (Z))<|S (V 4 (i 0)<|E)<|R
theorem b134 : bodyO 443040 1024 Tryz.prog 134 = some (20, [.t 4], c134) := by kernel_rfl
theorem k134 : callOk Tryz.prog 134 = true := by kernel_rfl
/-- cmp.isNaN[int] -/
def c110 : Go.SL.CC := S (V 2 (b false)<|O 2 (.bini .neq (t 0) (t 0))<|E)<|R
theorem b110 : bodyO 24 32 Tryz.prog 110 = some (6, [.t 2], c110) := by kernel_rfl
theorem k110 : callOk Tryz.prog 110 = true := by kernel_rfl
/-- cmp.isNaN[leapfrog/api.Rank] -/
def c196 : Go.SL.CC := S (V 2 (b false)<|O 2 (.bini .neq (t 0) (t 0))<|E)<|R
theorem b196 : bodyO 24 32 Tryz.prog 196 = some (6, [.t 2], c196) := by kernel_rfl
theorem k196 : callOk Tryz.prog 196 = true := by kernel_rfl
/-- cmp.isNaN[uint64] -/
def c197 : Go.SL.CC := S (V 2 (b false)<|O 2 (.bini .neq (t 0) (t 0))<|E)<|R
theorem b197 : bodyO 24 32 Tryz.prog 197 = some (6, [.t 2], c197) := by kernel_rfl
theorem k197 : callOk Tryz.prog 197 = true := by kernel_rfl
/-- leapfrog/leapfrogref02.At -/
def c69 : Go.SL.CC := S (O 2 (.new 34 #[.int .i64 0, .int .u64 0])<|O 4 (.agg [.c (i 2) 0 1, .c (t 0) 0 1])<|N (.st 2 (t 2) (t 4))<|E)<|R
theorem b69 : bodyO 8 0 Tryz.prog 69 = some (5, [.c 2 (some 2)], c69) := by kernel_rfl
theorem k69 : callOk Tryz.prog 69 = true := by kernel_rfl
end Go.Proofs.YtnipmjpdklbbcaaGreat
