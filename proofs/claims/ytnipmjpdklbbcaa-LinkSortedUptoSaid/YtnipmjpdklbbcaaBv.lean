/- The bodies of some functions of the program, without their noise, and that they are these. Conditions: none. Written by a program of this workplace (Print.lean). -/
import Derived.Test.YtnipmjpdklbbcaaProg
import Derived.Test.YtnipmjpdklbbcaaSlW
import Derived.KernelRfl
namespace Go.Proofs.Ytnipmjpdklbbcaa
open Go.SL Go.SL.W
set_option maxRecDepth 100000

/-- leapfrog/vec.Right -/
def c62 : Go.SL.CC := S (O 1 (.box 30 (t 0))<|V 2 (i 0)<|F 3 0 1<|L 4 3<|O 6 (.bini .lss (t 4) (i 0))<|H 7 (.fa 0 (t 1)) 6<|H 8 (.ld none (t 7)) 6<|H 9 (.bini .gtr (t 8) (i 32)) 6<|
O 11 (.pick (t 6) (b true) (t 9))<|H 12 (.fa 1 (t 1)) 11<|H 13 (.ld none (t 12)) 11<|H 14 (.fa 0 (t 1)) 11<|H 15 (.ld none (t 14)) 11<|
H 16 (.call (f 98) [t 15]) 11<|.ag ⟨some 13, .ld none (t 12), some (11, false)⟩<|H 17 (.bini .gtr (t 13) (t 16)) 11<|O 18 (.pick (t 11) (b true) (t 17))<|E)<|
Q (I (t 18) (S (V 2 (i 10)<|E)<|R) (Z))<|S (V 2 (i 0)<|E)<|R
theorem b62 : bodyO 0 1056 Try.prog 62 = some (19, [.t 2], c62) := by kernel_rfl
theorem k62 : callOk Try.prog 62 = true := by kernel_rfl
/-- leapfrog/vec.low -/
def c98 : Go.SL.CC := S (V 2 (u 0)<|O 4 (.cv .u64 (t 0))<|O 5 (.bini .shl (u 1) (t 4))<|O 2 (.bini .sub (t 5) (u 1))<|E)<|R
theorem b98 : bodyO 8 64 Try.prog 98 = some (7, [.t 2], c98) := by kernel_rfl
theorem k98 : callOk Try.prog 98 = true := by kernel_rfl
/-- leapfrog/vec.Begins -/
def c85 : Go.SL.CC := S (O 2 (.box 30 (t 0))<|O 3 (.box 30 (t 1))<|V 4 (b false)<|M 5 2 2<|C 6 62 [t 5]<|O 8 (.bini .eql (t 6) (i 0))<|G 9 (.ld (some 2) (t 3)) 8<|
G 10 (.call (f 62) [t 9]) 8<|G 11 (.bini .eql (t 10) (i 0)) 8<|O 13 (.pick (t 8) (t 11) (b false))<|G 14 (.fa 0 (t 3)) 13<|G 15 (.ld none (t 14)) 13<|
G 16 (.fa 0 (t 2)) 13<|G 17 (.ld none (t 16)) 13<|G 18 (.bini .leq (t 15) (t 17)) 13<|O 20 (.pick (t 13) (t 18) (b false))<|G 21 (.ld (some 2) (t 2)) 20<|
G 22 (.fa 0 (t 3)) 20<|G 23 (.ld none (t 22)) 20<|G 25 (.ld (some 2) (t 3)) 20<|G 24 (.call (f 119) [t 21, t 23]) 20<|
.ag ⟨some 25, .ld (some 2) (t 3), some (20, true)⟩<|G 26 (.eqs false [.i, .i] (t 24) (t 25)) 20<|O 4 (.pick (t 20) (t 26) (b false))<|E)<|R
theorem b85 : bodyO 0 134746240 Try.prog 85 = some (28, [.t 4], c85) := by kernel_rfl
theorem k85 : callOk Try.prog 85 = true := by kernel_rfl
/-- leapfrog/vec.prefix -/
def c119 : Go.SL.CC := S (O 2 (.box 30 (t 0))<|O 4 (.new 30 #[.int .i64 0, .int .u64 0])<|F 6 1 2<|L 7 6<|F 8 0 2<|L 9 8<|O 11 (.bini .sub (t 9) (t 1))<|O 12 (.cv .u64 (t 11))<|
O 13 (.bini .shr (t 7) (t 12))<|O 14 (.agg [.c (t 1) 0 1, .c (t 13) 0 1])<|N (.st 2 (t 4) (t 14))<|E)<|R
theorem b119 : bodyO 1056 0 Try.prog 119 = some (15, [.c 4 (some 2)], c119) := by kernel_rfl
theorem k119 : callOk Try.prog 119 = true := by kernel_rfl
/-- leapfrog/key.Check -/
def c41 : Go.SL.CC := S (O 1 (.box 25 (t 0))<|V 2 (i 0)<|F 3 0 1<|L 4 3<|O 6 (.bini .eql (t 4) (i 2))<|H 7 (.fa 0 (t 1)) 6<|H 8 (.ld none (t 7)) 6<|H 9 (.bini .eql (t 8) (i 1)) 6<|
H 10 (.mv (t 9)) 6<|H 11 (.fa 0 (t 1)) 10<|H 12 (.ld none (t 11)) 10<|H 13 (.bini .eql (t 12) (i 3)) 10<|H 14 (.pick (t 10) (b true) (t 13)) 6<|
H 15 (.mv (t 14)) 6<|G 16 (.fa 1 (t 1)) 15<|G 17 (.ld none (t 16)) 15<|G 18 (.bini .eql (t 17) (u 0)) 15<|H 19 (.pick (t 15) (t 18) (b false)) 6<|
O 20 (.pick (t 6) (b true) (t 19))<|E)<|Q (I (t 20) (S (V 2 (i 0)<|E)<|R) (Z))<|S (V 2 (i 20)<|E)<|R
theorem b41 : bodyO 0 32 Try.prog 41 = some (21, [.t 2], c41) := by kernel_rfl
theorem k41 : callOk Try.prog 41 = true := by kernel_rfl
/-- leapfrog/key.Less -/
def c43 : Go.SL.CC := S (O 2 (.box 25 (t 0))<|O 3 (.box 25 (t 1))<|V 4 (b false)<|M 5 2 2<|M 6 2 3<|C 7 90 [t 5, t 6]<|O 4 (.bini .lss (t 7) (i 0))<|E)<|R
theorem b43 : bodyO 0 256 Try.prog 43 = some (9, [.t 4], c43) := by kernel_rfl
theorem k43 : callOk Try.prog 43 = true := by kernel_rfl
/-- leapfrog/key.Compare -/
def c90 : Go.SL.CC := S (O 2 (.box 25 (t 0))<|O 3 (.box 25 (t 1))<|V 4 (i 0)<|F 5 0 2<|L 6 5<|F 7 0 3<|L 8 7<|F 10 1 2<|L 11 10<|F 12 1 3<|L 13 12<|C 9 126 [t 6, t 8]<|
A 11 (.ld none (t 10))<|A 13 (.ld none (t 12))<|C 14 127 [t 11, t 13]<|O 15 (.bsl 3 [.c (t 9) 0 1, .c (t 14) 0 1] 2)<|C 4 125 [t 15]<|E)<|R
theorem b90 : bodyO 0 65536 Try.prog 90 = some (17, [.t 4], c90) := by kernel_rfl
theorem k90 : callOk Try.prog 90 = true := by kernel_rfl
/-- cmp.Or[int] -/
def c125 : Go.SL.CC := S (V 2 (i 0)<|V 3 (i 0)<|V 6 (t 0)<|O 7 (.ln (t 6))<|V 8 (i 0)<|E)<|Q (P 0 (S (O 9 (.bini .lss (t 8) (t 7))<|E)<|Q (I (t 9) (Z) (J 0))<|
Q (B 1 (S (O 10 (.ia 1 (t 6) (t 8))<|L 5 10<|O 14 (.bini .neq (t 5) (t 3))<|E)<|I (t 14) (S (V 2 (t 5)<|E)<|R) (Z)))<|Y (O 8 (.bini .add (t 8) (i 1))<|E)))<|
S (V 2 (t 3)<|E)<|R
theorem b125 : bodyO 176128 67584 Try.prog 125 = some (18, [.t 2], c125) := by kernel_rfl
theorem k125 : callOk Try.prog 125 = true := by kernel_rfl
/-- cmp.Compare[int] -/
def c117 : Go.SL.CC := S (V 4 (i 0)<|C 8 152 [t 0]<|C 6 152 [t 1]<|V 11 (t 8)<|E)<|Q (I (t 11) (S (V 12 (t 6)<|E)<|Q (I (t 12) (S (V 4 (i 0)<|E)<|R) (Z))<|S (V 4 (i (-1))<|E)<|
R) (Z))<|S (V 13 (t 6)<|E)<|Q (I (t 13) (S (V 4 (i 1)<|E)<|R) (Z))<|S (O 16 (.bini .lss (t 0) (t 1))<|E)<|Q (I (t 16) (S (V 4 (i (-1))<|E)<|R) (Z))<|
S (O 19 (.bini .gtr (t 0) (t 1))<|E)<|Q (I (t 19) (S (V 4 (i 1)<|E)<|R) (Z))<|S (V 4 (i 0)<|E)<|R
theorem b117 : bodyO 443040 1024 Try.prog 117 = some (20, [.t 4], c117) := by kernel_rfl
theorem k117 : callOk Try.prog 117 = true := by kernel_rfl
/-- cmp.Compare[leapfrog/api.Rank] -/
def c126 : Go.SL.CC := S (V 4 (i 0)<|C 8 154 [t 0]<|C 6 154 [t 1]<|V 11 (t 8)<|E)<|Q (I (t 11) (S (V 12 (t 6)<|E)<|Q (I (t 12) (S (V 4 (i 0)<|E)<|R) (Z))<|S (V 4 (i (-1))<|E)<|
R) (Z))<|S (V 13 (t 6)<|E)<|Q (I (t 13) (S (V 4 (i 1)<|E)<|R) (Z))<|S (O 16 (.bini .lss (t 0) (t 1))<|E)<|Q (I (t 16) (S (V 4 (i (-1))<|E)<|R) (Z))<|
S (O 19 (.bini .gtr (t 0) (t 1))<|E)<|Q (I (t 19) (S (V 4 (i 1)<|E)<|R) (Z))<|S (V 4 (i 0)<|E)<|R
theorem b126 : bodyO 443040 1024 Try.prog 126 = some (20, [.t 4], c126) := by kernel_rfl
theorem k126 : callOk Try.prog 126 = true := by kernel_rfl
/-- cmp.Compare[uint64] -/
def c127 : Go.SL.CC := S (V 4 (i 0)<|C 8 155 [t 0]<|C 6 155 [t 1]<|V 11 (t 8)<|E)<|Q (I (t 11) (S (V 12 (t 6)<|E)<|Q (I (t 12) (S (V 4 (i 0)<|E)<|R) (Z))<|S (V 4 (i (-1))<|E)<|
R) (Z))<|S (V 13 (t 6)<|E)<|Q (I (t 13) (S (V 4 (i 1)<|E)<|R) (Z))<|S (O 16 (.bini .lss (t 0) (t 1))<|E)<|Q (I (t 16) (S (V 4 (i (-1))<|E)<|R) (Z))<|
S (O 19 (.bini .gtr (t 0) (t 1))<|E)<|Q (I (t 19) (S (V 4 (i 1)<|E)<|R) (Z))<|S (V 4 (i 0)<|E)<|R
theorem b127 : bodyO 443040 1024 Try.prog 127 = some (20, [.t 4], c127) := by kernel_rfl
theorem k127 : callOk Try.prog 127 = true := by kernel_rfl
/-- cmp.isNaN[int] -/
def c152 : Go.SL.CC := S (V 2 (b false)<|O 2 (.bini .neq (t 0) (t 0))<|E)<|R
theorem b152 : bodyO 24 32 Try.prog 152 = some (6, [.t 2], c152) := by kernel_rfl
theorem k152 : callOk Try.prog 152 = true := by kernel_rfl
/-- cmp.isNaN[leapfrog/api.Rank] -/
def c154 : Go.SL.CC := S (V 2 (b false)<|O 2 (.bini .neq (t 0) (t 0))<|E)<|R
theorem b154 : bodyO 24 32 Try.prog 154 = some (6, [.t 2], c154) := by kernel_rfl
theorem k154 : callOk Try.prog 154 = true := by kernel_rfl
/-- cmp.isNaN[uint64] -/
def c155 : Go.SL.CC := S (V 2 (b false)<|O 2 (.bini .neq (t 0) (t 0))<|E)<|R
theorem b155 : bodyO 24 32 Try.prog 155 = some (6, [.t 2], c155) := by kernel_rfl
theorem k155 : callOk Try.prog 155 = true := by kernel_rfl
/-- leapfrog/leapfrogref02.At -/
def c67 : Go.SL.CC := S (O 2 (.new 25 #[.int .i64 0, .int .u64 0])<|O 4 (.agg [.c (i 2) 0 1, .c (t 0) 0 1])<|N (.st 2 (t 2) (t 4))<|E)<|R
theorem b67 : bodyO 8 0 Try.prog 67 = some (5, [.c 2 (some 2)], c67) := by kernel_rfl
theorem k67 : callOk Try.prog 67 = true := by kernel_rfl
end Go.Proofs.Ytnipmjpdklbbcaa
