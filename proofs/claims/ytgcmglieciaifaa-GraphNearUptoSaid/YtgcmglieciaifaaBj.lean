/- The bodies of some functions of the program, without their noise, and that they are these. Conditions: none. Written by a program of this workplace (Print.lean). -/
import Derived.Test.YtgcmglieciaifaaProg
import Derived.Test.YtgcmglieciaifaaSlW
import Derived.KernelRfl
namespace Go.Proofs.Ytgcmglieciaifaa
open Go.SL Go.SL.W
set_option maxRecDepth 100000

/-- leapfrog/vec.Right -/
def c55 : Go.SL.CC := S (O 1 (.box 30 (t 0))<|V 2 (i 0)<|F 3 0 1<|L 4 3<|O 6 (.bini .lss (t 4) (i 0))<|H 7 (.fa 0 (t 1)) 6<|H 8 (.ld none (t 7)) 6<|H 9 (.bini .gtr (t 8) (i 32)) 6<|
O 11 (.pick (t 6) (b true) (t 9))<|H 12 (.fa 1 (t 1)) 11<|H 13 (.ld none (t 12)) 11<|H 14 (.fa 0 (t 1)) 11<|H 15 (.ld none (t 14)) 11<|
H 16 (.call (f 72) [t 15]) 11<|.ag ⟨some 13, .ld none (t 12), some (11, false)⟩<|H 17 (.bini .gtr (t 13) (t 16)) 11<|O 18 (.pick (t 11) (b true) (t 17))<|E)<|
Q (I (t 18) (S (V 2 (i 10)<|E)<|R) (Z))<|S (V 2 (i 0)<|E)<|R
theorem b55 : bodyO 0 1056 Try.prog 55 = some (19, [.t 2], c55) := by kernel_rfl
theorem k55 : callOk Try.prog 55 = true := by kernel_rfl
/-- leapfrog/vec.low -/
def c72 : Go.SL.CC := S (V 2 (u 0)<|O 4 (.cv .u64 (t 0))<|O 5 (.bini .shl (u 1) (t 4))<|O 2 (.bini .sub (t 5) (u 1))<|E)<|R
theorem b72 : bodyO 8 64 Try.prog 72 = some (7, [.t 2], c72) := by kernel_rfl
theorem k72 : callOk Try.prog 72 = true := by kernel_rfl
/-- leapfrog/vec.prefix -/
def c78 : Go.SL.CC := S (O 2 (.box 30 (t 0))<|O 4 (.new 30 #[.int .i64 0, .int .u64 0])<|F 6 1 2<|L 7 6<|F 8 0 2<|L 9 8<|O 11 (.bini .sub (t 9) (t 1))<|O 12 (.cv .u64 (t 11))<|
O 13 (.bini .shr (t 7) (t 12))<|O 14 (.agg [.c (t 1) 0 1, .c (t 13) 0 1])<|N (.st 2 (t 4) (t 14))<|E)<|R
theorem b78 : bodyO 1056 0 Try.prog 78 = some (15, [.c 4 (some 2)], c78) := by kernel_rfl
theorem k78 : callOk Try.prog 78 = true := by kernel_rfl
/-- leapfrog/key.Check -/
def c34 : Go.SL.CC := S (O 1 (.box 25 (t 0))<|V 2 (i 0)<|F 3 0 1<|L 4 3<|O 6 (.bini .eql (t 4) (i 2))<|H 7 (.fa 0 (t 1)) 6<|H 8 (.ld none (t 7)) 6<|H 9 (.bini .eql (t 8) (i 1)) 6<|
H 10 (.mv (t 9)) 6<|H 11 (.fa 0 (t 1)) 10<|H 12 (.ld none (t 11)) 10<|H 13 (.bini .eql (t 12) (i 3)) 10<|H 14 (.pick (t 10) (b true) (t 13)) 6<|
H 15 (.mv (t 14)) 6<|G 16 (.fa 1 (t 1)) 15<|G 17 (.ld none (t 16)) 15<|G 18 (.bini .eql (t 17) (u 0)) 15<|H 19 (.pick (t 15) (t 18) (b false)) 6<|
O 20 (.pick (t 6) (b true) (t 19))<|E)<|Q (I (t 20) (S (V 2 (i 0)<|E)<|R) (Z))<|S (V 2 (i 20)<|E)<|R
theorem b34 : bodyO 0 32 Try.prog 34 = some (21, [.t 2], c34) := by kernel_rfl
theorem k34 : callOk Try.prog 34 = true := by kernel_rfl
/-- leapfrog/key.Less -/
def c36 : Go.SL.CC := S (O 2 (.box 25 (t 0))<|O 3 (.box 25 (t 1))<|V 4 (b false)<|M 5 2 2<|M 6 2 3<|C 7 63 [t 5, t 6]<|O 4 (.bini .lss (t 7) (i 0))<|E)<|R
theorem b36 : bodyO 0 256 Try.prog 36 = some (9, [.t 4], c36) := by kernel_rfl
theorem k36 : callOk Try.prog 36 = true := by kernel_rfl
/-- leapfrog/key.Compare -/
def c63 : Go.SL.CC := S (O 2 (.box 25 (t 0))<|O 3 (.box 25 (t 1))<|V 4 (i 0)<|F 5 0 2<|L 6 5<|F 7 0 3<|L 8 7<|F 10 1 2<|L 11 10<|F 12 1 3<|L 13 12<|C 9 80 [t 6, t 8]<|
A 11 (.ld none (t 10))<|A 13 (.ld none (t 12))<|C 14 81 [t 11, t 13]<|O 15 (.bsl 3 [.c (t 9) 0 1, .c (t 14) 0 1] 2)<|C 4 79 [t 15]<|E)<|R
theorem b63 : bodyO 0 65536 Try.prog 63 = some (17, [.t 4], c63) := by kernel_rfl
theorem k63 : callOk Try.prog 63 = true := by kernel_rfl
/-- cmp.Or[int] -/
def c79 : Go.SL.CC := S (V 2 (i 0)<|V 3 (i 0)<|V 6 (t 0)<|O 7 (.ln (t 6))<|V 8 (i 0)<|E)<|Q (P 0 (S (O 9 (.bini .lss (t 8) (t 7))<|E)<|Q (I (t 9) (Z) (J 0))<|
Q (B 1 (S (O 10 (.ia 1 (t 6) (t 8))<|L 5 10<|O 14 (.bini .neq (t 5) (t 3))<|E)<|I (t 14) (S (V 2 (t 5)<|E)<|R) (Z)))<|Y (O 8 (.bini .add (t 8) (i 1))<|E)))<|
S (V 2 (t 3)<|E)<|R
theorem b79 : bodyO 176128 67584 Try.prog 79 = some (18, [.t 2], c79) := by kernel_rfl
theorem k79 : callOk Try.prog 79 = true := by kernel_rfl
/-- cmp.Compare[int] -/
def c95 : Go.SL.CC := S (V 4 (i 0)<|C 8 106 [t 0]<|C 6 106 [t 1]<|V 11 (t 8)<|E)<|Q (I (t 11) (S (V 12 (t 6)<|E)<|Q (I (t 12) (S (V 4 (i 0)<|E)<|R) (Z))<|S (V 4 (i (-1))<|E)<|
R) (Z))<|S (V 13 (t 6)<|E)<|Q (I (t 13) (S (V 4 (i 1)<|E)<|R) (Z))<|S (O 16 (.bini .lss (t 0) (t 1))<|E)<|Q (I (t 16) (S (V 4 (i (-1))<|E)<|R) (Z))<|
S (O 19 (.bini .gtr (t 0) (t 1))<|E)<|Q (I (t 19) (S (V 4 (i 1)<|E)<|R) (Z))<|S (V 4 (i 0)<|E)<|R
theorem b95 : bodyO 443040 1024 Try.prog 95 = some (20, [.t 4], c95) := by kernel_rfl
theorem k95 : callOk Try.prog 95 = true := by kernel_rfl
/-- cmp.Compare[leapfrog/api.Rank] -/
def c80 : Go.SL.CC := S (V 4 (i 0)<|C 8 98 [t 0]<|C 6 98 [t 1]<|V 11 (t 8)<|E)<|Q (I (t 11) (S (V 12 (t 6)<|E)<|Q (I (t 12) (S (V 4 (i 0)<|E)<|R) (Z))<|S (V 4 (i (-1))<|E)<|R) (Z))<|
S (V 13 (t 6)<|E)<|Q (I (t 13) (S (V 4 (i 1)<|E)<|R) (Z))<|S (O 16 (.bini .lss (t 0) (t 1))<|E)<|Q (I (t 16) (S (V 4 (i (-1))<|E)<|R) (Z))<|
S (O 19 (.bini .gtr (t 0) (t 1))<|E)<|Q (I (t 19) (S (V 4 (i 1)<|E)<|R) (Z))<|S (V 4 (i 0)<|E)<|R
theorem b80 : bodyO 443040 1024 Try.prog 80 = some (20, [.t 4], c80) := by kernel_rfl
theorem k80 : callOk Try.prog 80 = true := by kernel_rfl
/-- cmp.Compare[uint64] -/
def c81 : Go.SL.CC := S (V 4 (i 0)<|C 8 99 [t 0]<|C 6 99 [t 1]<|V 11 (t 8)<|E)<|Q (I (t 11) (S (V 12 (t 6)<|E)<|Q (I (t 12) (S (V 4 (i 0)<|E)<|R) (Z))<|S (V 4 (i (-1))<|E)<|R) (Z))<|
S (V 13 (t 6)<|E)<|Q (I (t 13) (S (V 4 (i 1)<|E)<|R) (Z))<|S (O 16 (.bini .lss (t 0) (t 1))<|E)<|Q (I (t 16) (S (V 4 (i (-1))<|E)<|R) (Z))<|
S (O 19 (.bini .gtr (t 0) (t 1))<|E)<|Q (I (t 19) (S (V 4 (i 1)<|E)<|R) (Z))<|S (V 4 (i 0)<|E)<|R
theorem b81 : bodyO 443040 1024 Try.prog 81 = some (20, [.t 4], c81) := by kernel_rfl
theorem k81 : callOk Try.prog 81 = true := by kernel_rfl
/-- cmp.isNaN[int] -/
def c106 : Go.SL.CC := S (V 2 (b false)<|O 2 (.bini .neq (t 0) (t 0))<|E)<|R
theorem b106 : bodyO 24 32 Try.prog 106 = some (6, [.t 2], c106) := by kernel_rfl
theorem k106 : callOk Try.prog 106 = true := by kernel_rfl
/-- cmp.isNaN[leapfrog/api.Rank] -/
def c98 : Go.SL.CC := S (V 2 (b false)<|O 2 (.bini .neq (t 0) (t 0))<|E)<|R
theorem b98 : bodyO 24 32 Try.prog 98 = some (6, [.t 2], c98) := by kernel_rfl
theorem k98 : callOk Try.prog 98 = true := by kernel_rfl
/-- cmp.isNaN[uint64] -/
def c99 : Go.SL.CC := S (V 2 (b false)<|O 2 (.bini .neq (t 0) (t 0))<|E)<|R
theorem b99 : bodyO 24 32 Try.prog 99 = some (6, [.t 2], c99) := by kernel_rfl
theorem k99 : callOk Try.prog 99 = true := by kernel_rfl
/-- leapfrog/vec.upTo -/
def c100 : Go.SL.CC := S (O 2 (.box 30 (t 0))<|V 4 (i 0)<|M 6 2 2<|C 5 55 [t 6]<|O 9 (.bini .neq (t 5) (i 0))<|E)<|Q (I (t 9) (S (V 4 (t 5)<|E)<|R) (Z))<|
S (O 13 (.bini .lss (t 1) (i 0))<|H 15 (.fa 0 (t 2)) 13<|H 16 (.ld none (t 15)) 13<|H 17 (.bini .gtr (t 1) (t 16)) 13<|O 18 (.pick (t 13) (b true) (t 17))<|E)<|
Q (I (t 18) (S (V 4 (i 5)<|E)<|R) (Z))<|S (V 4 (i 0)<|E)<|R
theorem b100 : bodyO 19712 4224 Try.prog 100 = some (19, [.t 4], c100) := by kernel_rfl
theorem k100 : callOk Try.prog 100 = true := by kernel_rfl
/-- leapfrog/vec.Prefix -/
def c82 : Go.SL.CC := S (O 2 (.box 30 (t 0))<|O 4 (.new 30 #[.int .i64 0, .int .u64 0])<|V 5 (i 0)<|M 7 2 2<|C 6 100 [t 7, t 1]<|O 11 (.bini .neq (t 6) (i 0))<|E)<|
Q (I (t 11) (S (O 12 (.agg [.z (.int .i64 0), .z (.int .u64 0)])<|N (.st 2 (t 4) (t 12))<|V 5 (t 6)<|E)<|R) (Z))<|S (M 14 2 2<|C 16 78 [t 14, t 1]<|
N (.st 2 (t 4) (t 16))<|V 5 (i 0)<|E)<|R
theorem b82 : bodyO 42240 512 Try.prog 82 = some (17, [.c 4 (some 2), .t 5], c82) := by kernel_rfl
theorem k82 : callOk Try.prog 82 = true := by kernel_rfl
/-- leapfrog/vec.Prefixes -/
def c62 : Go.SL.CC := S (O 1 (.box 30 (t 0))<|V 2 (k (.nilFunc))<|O 2 (.mkf 77 [t 1])<|E)<|R
theorem b62 : bodyO 0 8 Try.prog 62 = some (4, [.t 2], c62) := by kernel_rfl
theorem k62 : callOk Try.prog 62 = true := by kernel_rfl
/-- leapfrog/vec.Prefixes$1 -/
def c77 : Go.SL.CC := S (M 4 2 1<|C 5 55 [t 4]<|O 6 (.bini .neq (t 5) (i 0))<|E)<|Q (I (t 6) (R) (Z))<|S (F 7 0 1<|L 8 7<|O 9 (.bini .add (t 8) (i 1))<|V 10 (i 0)<|E)<|
P 0 (S (O 11 (.bini .lss (t 10) (t 9))<|E)<|Q (I (t 11) (Z) (J 0))<|Q (B 1 (S (M 14 2 1<|C 16 78 [t 14, t 10]<|O 17 (.call (t 0) [t 16])<|
O 18 (.un .not (t 17))<|E)<|I (t 18) (R) (Z)))<|Y (O 10 (.bini .add (t 10) (i 1))<|E))
theorem b77 : bodyO 45064 524288 Try.prog 77 = some (20, [], c77) := by kernel_rfl
theorem k77 : callOk Try.prog 77 = true := by kernel_rfl
/-- leapfrog/vec.both -/
def c93 : Go.SL.CC := S (O 2 (.box 30 (t 0))<|O 3 (.box 30 (t 1))<|V 4 (i 0)<|M 6 2 2<|C 5 55 [t 6]<|O 9 (.bini .neq (t 5) (i 0))<|E)<|Q (I (t 9) (S (V 4 (t 5)<|E)<|R) (Z))<|
S (M 11 2 3<|C 4 55 [t 11]<|E)<|R
theorem b93 : bodyO 1280 4224 Try.prog 93 = some (13, [.t 4], c93) := by kernel_rfl
theorem k93 : callOk Try.prog 93 = true := by kernel_rfl
/-- leapfrog/vec.common -/
def c94 : Go.SL.CC := S (O 2 (.box 30 (t 0))<|O 3 (.box 30 (t 1))<|V 4 (i 0)<|F 7 0 2<|L 8 7<|F 9 0 3<|L 10 9<|O 11 (.mm false (t 8) (t 10))<|M 12 2 2<|M 16 2 3<|
C 14 78 [t 12, t 11]<|A 16 (.ld (some 2) (t 3))<|O 15 (.fld false 1 1 (t 14))<|C 18 78 [t 16, t 11]<|O 19 (.fld false 1 1 (t 18))<|
O 20 (.bini .xor (t 15) (t 19))<|C 23 92 [t 20]<|O 4 (.bini .sub (t 11) (t 23))<|E)<|R
theorem b94 : bodyO 6430816 16777216 Try.prog 94 = some (25, [.t 4], c94) := by kernel_rfl
theorem k94 : callOk Try.prog 94 = true := by kernel_rfl
/-- leapfrog/vec.bit -/
def c96 : Go.SL.CC := S (O 2 (.box 30 (t 0))<|V 4 (i 0)<|F 5 1 2<|L 6 5<|F 7 0 2<|L 8 7<|O 9 (.bini .sub (t 8) (i 1))<|O 11 (.bini .sub (t 9) (t 1))<|O 12 (.cv .u64 (t 11))<|
O 13 (.bini .shr (t 6) (t 12))<|O 14 (.bini .and (t 13) (u 1))<|O 4 (.cv .i64 (t 14))<|E)<|R
theorem b96 : bodyO 1024 32768 Try.prog 96 = some (16, [.t 4], c96) := by kernel_rfl
theorem k96 : callOk Try.prog 96 = true := by kernel_rfl
/-- leapfrog/vec.Compare -/
def c70 : Go.SL.CC := S (O 2 (.box 30 (t 0))<|O 3 (.box 30 (t 1))<|V 4 (i 0)<|V 5 (i 0)<|M 8 2 2<|M 9 2 3<|C 6 93 [t 8, t 9]<|O 12 (.bini .neq (t 6) (i 0))<|E)<|
Q (I (t 12) (S (V 4 (i 0)<|V 5 (t 6)<|E)<|R) (Z))<|S (M 14 2 2<|M 15 2 3<|C 7 94 [t 14, t 15]<|F 18 0 2<|L 19 18<|F 20 0 3<|L 21 20<|
O 22 (.mm false (t 19) (t 21))<|O 23 (.bini .lss (t 7) (t 22))<|E)<|Q (I (t 23) (S (M 24 2 2<|M 27 2 3<|C 26 96 [t 24, t 7]<|A 27 (.ld (some 2) (t 3))<|
C 29 96 [t 27, t 7]<|C 4 95 [t 26, t 29]<|V 5 (i 0)<|E)<|R) (Z))<|S (F 31 0 2<|L 32 31<|F 33 0 3<|L 34 33<|C 4 95 [t 32, t 34]<|V 5 (i 0)<|E)<|R
theorem b70 : bodyO 302131200 35433546752 Try.prog 70 = some (36, [.t 4, .t 5], c70) := by kernel_rfl
theorem k70 : callOk Try.prog 70 = true := by kernel_rfl
/-- math/bits.Len64 -/
def c92 : Go.SL.CC := S (V 2 (i 0)<|O 4 (.bini .geq (t 0) (u 4294967296))<|E)<|Q (I (t 4) (Y (O 0 (.bini .shr (t 0) (u 32))<|V 2 (i 32)<|E)) (Z))<|
S (O 8 (.bini .geq (t 0) (u 65536))<|E)<|Q (I (t 8) (Y (O 0 (.bini .shr (t 0) (u 16))<|O 2 (.bini .add (t 2) (i 16))<|E)) (Z))<|
S (O 14 (.bini .geq (t 0) (u 256))<|E)<|Q (I (t 14) (Y (O 0 (.bini .shr (t 0) (u 8))<|O 2 (.bini .add (t 2) (i 8))<|E)) (Z))<|S (O 21 (.cv .u8 (t 0))<|
O 22 (.idx (k (.string ⟨#[0,1,2,2,3,3,3,3,4,4,4,4,4,4,4,4,5,5,5,5,5,5,5,5,5,5,5,5,5,5,5,5,6,6,6,6,6,6,6,6,6,6,6,6,6,6,6,6,6,6,6,6,6,6,6,6,6,6,6,6,6,6,6,6,7,7,7,7,7,7,7,7,7,7,7,7,7,7,7,7,7,7,7,7,7,7,7,7,7,7,7,7,7,7,7,7,7,7,7,7,7,7,7,7,7,7,7,7,7,7,7,7,7,7,7,7,7,7,7,7,7,7,7,7,7,7,7,7,8,8,8,8,8,8,8,8,8,8,8,8,8,8,8,8,8,8,8,8,8,8,8,8,8,8,8,8,8,8,8,8,8,8,8,8,8,8,8,8,8,8,8,8,8,8,8,8,8,8,8,8,8,8,8,8,8,8,8,8,8,8,8,8,8,8,8,8,8,8,8,8,8,8,8,8,8,8,8,8,8,8,8,8,8,8,8,8,8,8,8,8,8,8,8,8,8,8,8,8,8,8,8,8,8,8,8,8,8,8,8,8,8,8,8,8,8,8,8,8,8,8,8,8,8,8,8,8]⟩)) (t 21))<|
O 23 (.cv .i64 (t 22))<|O 2 (.bini .add (t 2) (t 23))<|E)<|R
theorem b92 : bodyO 1747624 17110080 Try.prog 92 = some (25, [.t 2], c92) := by kernel_rfl
theorem k92 : callOk Try.prog 92 = true := by kernel_rfl
/-- leapfrog/leapfrogref01.Power -/
def c44 : Go.SL.CC := S (V 2 (u 0)<|V 3 (u 1)<|E)<|Q (P 0 (S (O 5 (.bini .gtr (t 0) (i 0))<|E)<|Q (I (t 5) (Z) (J 0))<|Q (B 1 (Y (O 3 (.bini .mul (t 3) (u 2))<|E)))<|
Y (O 0 (.bini .sub (t 0) (i 1))<|E)))<|S (V 2 (t 3)<|E)<|R
theorem b44 : bodyO 1360 640 Try.prog 44 = some (11, [.t 2], c44) := by kernel_rfl
theorem k44 : callOk Try.prog 44 = true := by kernel_rfl
/-- leapfrog/leapfrogref01.Right -/
def c16 : Go.SL.CC := S (O 1 (.box 30 (t 0))<|V 2 (b false)<|F 3 0 1<|L 4 3<|O 6 (.bini .geq (t 4) (i 0))<|G 7 (.fa 0 (t 1)) 6<|G 8 (.ld none (t 7)) 6<|
G 9 (.bini .leq (t 8) (i 32)) 6<|O 11 (.pick (t 6) (t 9) (b false))<|G 12 (.fa 1 (t 1)) 11<|G 13 (.ld none (t 12)) 11<|G 14 (.fa 0 (t 1)) 11<|
G 15 (.ld none (t 14)) 11<|G 16 (.call (f 44) [t 15]) 11<|.ag ⟨some 13, .ld none (t 12), some (11, true)⟩<|G 17 (.bini .lss (t 13) (t 16)) 11<|
O 2 (.pick (t 11) (t 17) (b false))<|E)<|R
theorem b16 : bodyO 0 263200 Try.prog 16 = some (19, [.t 2], c16) := by kernel_rfl
theorem k16 : callOk Try.prog 16 = true := by kernel_rfl
/-- leapfrog/leapfrogref01.Bits -/
def c45 : Go.SL.CC := S (O 1 (.box 30 (t 0))<|V 2 (k (.slice none 0 0))<|F 6 0 1<|L 7 6<|O 3 (.mks 3 1 8 #[.int .i64 0] (t 7) (t 7))<|F 9 1 1<|L 4 9<|F 11 0 1<|L 12 11<|
O 5 (.bini .sub (t 12) (i 1))<|E)<|Q (P 0 (S (O 15 (.bini .geq (t 5) (i 0))<|E)<|Q (I (t 15) (Z) (J 0))<|Q (B 1 (Y (O 21 (.bini .rem (t 4) (u 2))<|
O 22 (.cv .i64 (t 21))<|O 23 (.ia 1 (t 3) (t 5))<|N (.st 1 (t 23) (t 22))<|O 4 (.bini .quo (t 4) (u 2))<|E)))<|Y (O 5 (.bini .sub (t 5) (i 1))<|E)))<|
S (V 2 (t 3)<|E)<|R
theorem b45 : bodyO 85803008 33694976 Try.prog 45 = some (27, [.t 2], c45) := by kernel_rfl
theorem k45 : callOk Try.prog 45 = true := by kernel_rfl
/-- leapfrog/leapfrogref01.Of -/
def c46 : Go.SL.CC := S (O 2 (.new 30 #[.int .i64 0, .int .u64 0])<|O 6 (.ln (t 0))<|O 7 (.agg [.c (t 6) 0 1, .z (.int .u64 0)])<|O 3 (.new 30 #[.int .i64 0, .int .u64 0])<|
N (.st 2 (t 3) (t 7))<|V 4 (i 0)<|E)<|Q (P 0 (S (O 10 (.ln (t 0))<|O 11 (.bini .lss (t 4) (t 10))<|E)<|Q (I (t 11) (Z) (J 0))<|Q (B 1 (Y (F 14 1 3<|L 15 14<|
O 16 (.bini .mul (t 15) (u 2))<|O 19 (.ia 1 (t 0) (t 4))<|L 20 19<|O 21 (.cv .u64 (t 20))<|O 22 (.bini .add (t 16) (t 21))<|F 23 1 3<|N (.st 1 (t 23) (t 22))<|
E)))<|Y (O 4 (.bini .add (t 4) (i 1))<|E)))<|S (M 24 2 3<|N (.st 2 (t 2) (t 24))<|E)<|R
theorem b46 : bodyO 398112 8192 Try.prog 46 = some (25, [.c 2 (some 2)], c46) := by kernel_rfl
theorem k46 : callOk Try.prog 46 = true := by kernel_rfl
/-- leapfrog/leapfrogref01.Prefix -/
def c66 : Go.SL.CC := S (O 2 (.box 30 (t 0))<|O 4 (.new 30 #[.int .i64 0, .int .u64 0])<|V 5 (i 0)<|M 6 2 2<|C 7 16 [t 6]<|O 8 (.un .not (t 7))<|E)<|
Q (I (t 8) (S (O 9 (.agg [.z (.int .i64 0), .z (.int .u64 0)])<|N (.st 2 (t 4) (t 9))<|V 5 (i 10)<|E)<|R) (Z))<|S (O 12 (.bini .lss (t 1) (i 0))<|
H 14 (.fa 0 (t 2)) 12<|H 15 (.ld none (t 14)) 12<|H 16 (.bini .gtr (t 1) (t 15)) 12<|O 17 (.pick (t 12) (b true) (t 16))<|E)<|
Q (I (t 17) (S (O 18 (.agg [.z (.int .i64 0), .z (.int .u64 0)])<|N (.st 2 (t 4) (t 18))<|V 5 (i 5)<|E)<|R) (Z))<|S (M 19 2 2<|C 20 45 [t 19]<|
O 22 (.sl 1 (t 20) none (some (t 1)) none)<|C 23 46 [t 22]<|N (.st 2 (t 4) (t 23))<|V 5 (i 0)<|E)<|R
theorem b66 : bodyO 2106368 2048 Try.prog 66 = some (24, [.c 4 (some 2), .t 5], c66) := by kernel_rfl
theorem k66 : callOk Try.prog 66 = true := by kernel_rfl
/-- leapfrog/leapfrogref01.common -/
def c58 : Go.SL.CC := S (V 4 (i 0)<|V 5 (i 0)<|E)<|Q (P 0 (S (O 8 (.ln (t 0))<|O 10 (.bini .lss (t 5) (t 8))<|G 13 (.ln (t 1)) 10<|G 14 (.bini .lss (t 5) (t 13)) 10<|
O 16 (.pick (t 10) (t 14) (b false))<|G 19 (.ia 1 (t 0) (t 5)) 16<|G 20 (.ld none (t 19)) 16<|G 23 (.ia 1 (t 1) (t 5)) 16<|G 24 (.ld none (t 23)) 16<|
G 25 (.bini .eql (t 20) (t 24)) 16<|O 26 (.pick (t 16) (t 25) (b false))<|E)<|Q (I (t 26) (Z) (J 0))<|B 1 (Y (O 5 (.bini .add (t 5) (i 1))<|E))))<|
S (V 4 (t 5)<|E)<|R
theorem b58 : bodyO 677779648 268468736 Try.prog 58 = some (30, [.t 4], c58) := by kernel_rfl
theorem k58 : callOk Try.prog 58 = true := by kernel_rfl
/-- leapfrog/leapfrogref01.Begins -/
def c28 : Go.SL.CC := S (O 2 (.box 30 (t 0))<|O 3 (.box 30 (t 1))<|V 4 (b false)<|M 5 2 2<|C 7 16 [t 5]<|G 8 (.ld (some 2) (t 3)) 7<|G 9 (.call (f 16) [t 8]) 7<|
O 11 (.pick (t 7) (t 9) (b false))<|G 12 (.ld (some 2) (t 2)) 11<|G 14 (.ld (some 2) (t 3)) 11<|G 17 (.fa 0 (t 3)) 11<|G 18 (.ld none (t 17)) 11<|
G 13 (.call (f 45) [t 12]) 11<|.ag ⟨some 14, .ld (some 2) (t 3), some (11, true)⟩<|.ag ⟨some 18, .ld none (t 17), some (11, true)⟩<|
G 15 (.call (f 45) [t 14]) 11<|.ag ⟨some 18, .ld none (t 17), some (11, true)⟩<|G 16 (.call (f 58) [t 13, t 15]) 11<|
.ag ⟨some 18, .ld none (t 17), some (11, true)⟩<|G 19 (.bini .eql (t 16) (t 18)) 11<|O 4 (.pick (t 11) (t 19) (b false))<|E)<|R
theorem b28 : bodyO 0 1049664 Try.prog 28 = some (21, [.t 4], c28) := by kernel_rfl
theorem k28 : callOk Try.prog 28 = true := by kernel_rfl
/-- leapfrog/leapfrogref01.Compare -/
def c71 : Go.SL.CC := S (O 2 (.box 30 (t 0))<|O 3 (.box 30 (t 1))<|V 4 (i 0)<|V 5 (i 0)<|M 9 2 2<|C 10 16 [t 9]<|O 12 (.un .not (t 10))<|H 13 (.ld (some 2) (t 3)) 12<|
H 14 (.call (f 16) [t 13]) 12<|H 15 (.un .not (t 14)) 12<|O 16 (.pick (t 12) (b true) (t 15))<|E)<|Q (I (t 16) (S (V 4 (i 0)<|V 5 (i 10)<|E)<|R) (Z))<|
S (M 17 2 2<|M 19 2 3<|C 18 45 [t 17]<|A 19 (.ld (some 2) (t 3))<|C 20 45 [t 19]<|V 6 (t 18)<|V 7 (t 20)<|C 8 58 [t 6, t 7]<|E)<|Q (B 0 (S (O 27 (.ln (t 6))<|
O 29 (.bini .eql (t 8) (t 27))<|G 32 (.ln (t 7)) 29<|G 33 (.bini .eql (t 8) (t 32)) 29<|O 24 (.pick (t 29) (t 33) (b false))<|E)<|I (t 24) (S (V 4 (i 0)<|
V 5 (i 0)<|E)<|R) (S (O 38 (.ln (t 6))<|O 35 (.bini .eql (t 8) (t 38))<|E)<|I (t 35) (S (V 4 (i (-1))<|V 5 (i 0)<|E)<|R) (S (O 43 (.ln (t 7))<|
O 40 (.bini .eql (t 8) (t 43))<|E)<|I (t 40) (S (V 4 (i 1)<|V 5 (i 0)<|E)<|R) (S (O 48 (.ia 1 (t 6) (t 8))<|L 49 48<|O 52 (.ia 1 (t 7) (t 8))<|L 53 52<|
O 45 (.bini .lss (t 49) (t 53))<|E)<|I (t 45) (S (V 4 (i (-1))<|V 5 (i 0)<|E)<|R) (Z))))))<|S (V 4 (i 1)<|V 5 (i 0)<|E)<|R
theorem b71 : bodyO 3595612509437952 18032557908035584 Try.prog 71 = some (55, [.t 4, .t 5], c71) := by kernel_rfl
theorem k71 : callOk Try.prog 71 = true := by kernel_rfl
/-- leapfrog/leapfrogref01.Prefixes -/
def c53 : Go.SL.CC := S (O 1 (.box 30 (t 0))<|V 2 (k (.slice none 0 0))<|M 6 2 1<|C 7 16 [t 6]<|O 8 (.un .not (t 7))<|E)<|Q (I (t 8) (S (V 2 (k (.slice none 0 0))<|E)<|R) (Z))<|
S (V 3 (k (.slice none 0 0))<|M 9 2 1<|C 4 45 [t 9]<|V 5 (i 0)<|E)<|Q (P 0 (S (O 13 (.ln (t 4))<|O 14 (.bini .leq (t 5) (t 13))<|E)<|Q (I (t 14) (Z) (J 0))<|
Q (B 1 (Y (O 20 (.sl 1 (t 4) none (some (t 5)) none)<|C 21 46 [t 20]<|O 22 (.bsl 30 [.c (t 21) 0 2, .c (t 21) 1 2] 1)<|
O 3 (.ap 30 2 16 #[.int .i64 0, .int .u64 0] (t 3) (t 22))<|E)))<|Y (O 5 (.bini .add (t 5) (i 1))<|E)))<|S (V 2 (t 3)<|E)<|R
theorem b53 : bodyO 17733632 8455168 Try.prog 53 = some (25, [.t 2], c53) := by kernel_rfl
theorem k53 : callOk Try.prog 53 = true := by kernel_rfl
/-- leapfrog/leapfrogref01.Join -/
def c17 : Go.SL.CC := S (O 2 (.new 30 #[.int .i64 0, .int .u64 0])<|V 3 (i 0)<|V 4 (k (.slice none 0 0))<|V 5 (i 0)<|E)<|Q (P 0 (S (O 9 (.ln (t 0))<|O 10 (.bini .lss (t 5) (t 9))<|
E)<|Q (I (t 10) (Z) (J 0))<|Q (B 1 (S (O 15 (.ia 2 (t 0) (t 5))<|M 16 2 15<|C 17 16 [t 16]<|O 18 (.un .not (t 17))<|E)<|
I (t 18) (S (O 19 (.agg [.z (.int .i64 0), .z (.int .u64 0)])<|N (.st 2 (t 2) (t 19))<|V 3 (i 10)<|E)<|R) (Z)))<|Y (O 5 (.bini .add (t 5) (i 1))<|E)))<|
S (V 6 (i 0)<|E)<|Q (P 2 (S (O 22 (.ln (t 0))<|O 23 (.bini .lss (t 6) (t 22))<|E)<|Q (I (t 23) (Z) (J 2))<|Q (B 3 (S (O 29 (.ia 2 (t 0) (t 6))<|M 30 2 29<|
C 31 45 [t 30]<|O 4 (.ap 3 1 8 #[.int .i64 0] (t 4) (t 31))<|O 34 (.ln (t 4))<|O 35 (.bini .gtr (t 34) (i 32))<|E)<|
I (t 35) (S (O 36 (.agg [.z (.int .i64 0), .z (.int .u64 0)])<|N (.st 2 (t 2) (t 36))<|V 3 (i 2)<|E)<|R) (Z)))<|Y (O 6 (.bini .add (t 6) (i 1))<|E)))<|
S (C 38 46 [t 4]<|N (.st 2 (t 2) (t 38))<|V 3 (i 0)<|E)<|R
theorem b17 : bodyO 146518600064 4328525824 Try.prog 17 = some (39, [.c 2 (some 2), .t 3], c17) := by kernel_rfl
theorem k17 : callOk Try.prog 17 = true := by kernel_rfl
/-- leapfrog/leapfrogref09.Less -/
def c19 : Go.SL.CC := S (O 2 (.box 25 (t 0))<|O 3 (.box 25 (t 1))<|V 4 (b false)<|F 5 0 2<|L 6 5<|F 7 0 3<|L 8 7<|O 10 (.bini .lss (t 6) (t 8))<|H 11 (.fa 0 (t 2)) 10<|
H 12 (.ld none (t 11)) 10<|H 13 (.fa 0 (t 3)) 10<|H 14 (.ld none (t 13)) 10<|H 15 (.bini .eql (t 12) (t 14)) 10<|H 16 (.mv (t 15)) 10<|G 17 (.fa 1 (t 2)) 16<|
G 18 (.ld none (t 17)) 16<|G 19 (.fa 1 (t 3)) 16<|G 20 (.ld none (t 19)) 16<|G 21 (.bini .lss (t 18) (t 20)) 16<|H 22 (.pick (t 16) (t 21) (b false)) 10<|
O 4 (.pick (t 10) (b true) (t 22))<|E)<|R
theorem b19 : bodyO 0 8389120 Try.prog 19 = some (24, [.t 4], c19) := by kernel_rfl
theorem k19 : callOk Try.prog 19 = true := by kernel_rfl
/-- leapfrog/leapfrogref09.Head -/
def c56 : Go.SL.CC := S (O 2 (.new 32 #[.int .i64 0, .int .i64 0, .int .u64 0, .int .i64 0, .int .u64 0])<|V 3 (i 0)<|O 6 (.bini .lss (t 0) (i 0))<|H 8 (.bini .gtr (t 0) (i 32)) 6<|
O 9 (.pick (t 6) (b true) (t 8))<|E)<|Q (I (t 9) (S (O 10 (.agg [.z (.int .i64 0), .z (.int .i64 0), .z (.int .u64 0), .z (.int .i64 0), .z (.int .u64 0)])<|
N (.st 5 (t 2) (t 10))<|V 3 (i 90)<|E)<|R) (Z))<|S (O 11 (.agg [.c (i 1) 0 1, .z (.int .u64 0)])<|O 13 (.agg [.c (t 0) 0 1, .z (.int .u64 0)])<|
O 14 (.agg [.c (i 0) 0 1, .c (t 11) 0 2, .c (t 11) 1 2, .c (t 13) 0 2, .c (t 13) 1 2])<|N (.st 5 (t 2) (t 14))<|V 3 (i 0)<|E)<|R
theorem b56 : bodyO 4240 32 Try.prog 56 = some (15, [.c 2 (some 5), .t 3], c56) := by kernel_rfl
theorem k56 : callOk Try.prog 56 = true := by kernel_rfl
/-- leapfrog/leapfrogref09.Tail -/
def c57 : Go.SL.CC := S (O 2 (.new 32 #[.int .i64 0, .int .i64 0, .int .u64 0, .int .i64 0, .int .u64 0])<|V 3 (i 0)<|O 6 (.bini .lss (t 0) (i 0))<|H 8 (.bini .gtr (t 0) (i 32)) 6<|
O 9 (.pick (t 6) (b true) (t 8))<|E)<|Q (I (t 9) (S (O 10 (.agg [.z (.int .i64 0), .z (.int .i64 0), .z (.int .u64 0), .z (.int .i64 0), .z (.int .u64 0)])<|
N (.st 5 (t 2) (t 10))<|V 3 (i 90)<|E)<|R) (Z))<|S (O 11 (.agg [.c (i 3) 0 1, .z (.int .u64 0)])<|O 13 (.agg [.c (t 0) 0 1, .z (.int .u64 0)])<|
O 14 (.agg [.c (i 1) 0 1, .c (t 11) 0 2, .c (t 11) 1 2, .c (t 13) 0 2, .c (t 13) 1 2])<|N (.st 5 (t 2) (t 14))<|V 3 (i 0)<|E)<|R
theorem b57 : bodyO 4240 32 Try.prog 57 = some (15, [.c 2 (some 5), .t 3], c57) := by kernel_rfl
theorem k57 : callOk Try.prog 57 = true := by kernel_rfl
/-- leapfrog/peer.Head -/
def c59 : Go.SL.CC := S (O 2 (.new 32 #[.int .i64 0, .int .i64 0, .int .u64 0, .int .i64 0, .int .u64 0])<|V 3 (i 0)<|C 5 73 [b false, t 0]<|X 6 5 0<|X 7 5 1<|N (.st 5 (t 2) (t 6))<|
V 3 (t 7)<|E)<|R
theorem b59 : bodyO 16 0 Try.prog 59 = some (8, [.c 2 (some 5), .t 3], c59) := by kernel_rfl
theorem k59 : callOk Try.prog 59 = true := by kernel_rfl
/-- leapfrog/peer.Tail -/
def c60 : Go.SL.CC := S (O 2 (.new 32 #[.int .i64 0, .int .i64 0, .int .u64 0, .int .i64 0, .int .u64 0])<|V 3 (i 0)<|C 5 73 [b true, t 0]<|X 6 5 0<|X 7 5 1<|N (.st 5 (t 2) (t 6))<|
V 3 (t 7)<|E)<|R
theorem b60 : bodyO 16 0 Try.prog 60 = some (8, [.c 2 (some 5), .t 3], c60) := by kernel_rfl
theorem k60 : callOk Try.prog 60 = true := by kernel_rfl
/-- leapfrog/peer.end -/
def c73 : Go.SL.CC := S (O 4 (.new 32 #[.int .i64 0, .int .i64 0, .int .u64 0, .int .i64 0, .int .u64 0])<|V 5 (i 0)<|O 9 (.bini .lss (t 1) (i 0))<|H 11 (.bini .gtr (t 1) (i 32)) 9<|
O 12 (.pick (t 9) (b true) (t 11))<|E)<|Q (I (t 12) (S (O 13 (.agg [.z (.int .i64 0), .z (.int .i64 0), .z (.int .u64 0), .z (.int .i64 0), .z (.int .u64 0)])<|
N (.st 5 (t 4) (t 13))<|V 5 (i 90)<|E)<|R) (Z))<|S (O 14 (.agg [.c (i 1) 0 1, .z (.int .u64 0)])<|O 16 (.agg [.c (t 1) 0 1, .z (.int .u64 0)])<|
O 17 (.agg [.z (.int .i64 0), .c (t 14) 0 2, .c (t 14) 1 2, .c (t 16) 0 2, .c (t 16) 1 2])<|
O 6 (.new 32 #[.int .i64 0, .int .i64 0, .int .u64 0, .int .i64 0, .int .u64 0])<|N (.st 5 (t 6) (t 17))<|V 18 (t 0)<|E)<|Q (I (t 18) (Y (F 19 0 6<|
N (.st 1 (t 19) (i 1))<|F 20 1 6<|F 21 0 20<|N (.st 1 (t 21) (i 3))<|E)) (Z))<|S (M 22 5 6<|N (.st 5 (t 4) (t 22))<|V 5 (i 0)<|E)<|R
theorem b73 : bodyO 33920 256 Try.prog 73 = some (23, [.c 4 (some 5), .t 5], c73) := by kernel_rfl
theorem k73 : callOk Try.prog 73 = true := by kernel_rfl
end Go.Proofs.Ytgcmglieciaifaa
