/- The bodies of some functions of the program, without their noise, and that they are these. Conditions: none. Written by a program of this workplace (Print.lean). -/
import Derived.Test.YtnipmjpdklbbcaaGreatProg
import Derived.Test.YtnipmjpdklbbcaaGreatSlW
import Derived.KernelRfl
namespace Go.Proofs.YtnipmjpdklbbcaaGreat
open Go.SL Go.SL.W
set_option maxRecDepth 100000

/-- leapfrog/vec.upTo -/
def c245 : Go.SL.CC := S (O 2 (.box 36 (t 0))<|V 4 (i 0)<|M 6 2 2<|C 5 55 [t 6]<|O 9 (.bini .neq (t 5) (i 0))<|E)<|Q (I (t 9) (S (V 4 (t 5)<|E)<|R) (Z))<|
S (O 13 (.bini .lss (t 1) (i 0))<|H 15 (.fa 0 (t 2)) 13<|H 16 (.ld none (t 15)) 13<|H 17 (.bini .gtr (t 1) (t 16)) 13<|O 18 (.pick (t 13) (b true) (t 17))<|E)<|
Q (I (t 18) (S (V 4 (i 5)<|E)<|R) (Z))<|S (V 4 (i 0)<|E)<|R
theorem b245 : bodyO 19712 4224 Tryz.prog 245 = some (19, [.t 4], c245) := by kernel_rfl
theorem k245 : callOk Tryz.prog 245 = true := by kernel_rfl
/-- leapfrog/vec.Prefix -/
def c227 : Go.SL.CC := S (O 2 (.box 36 (t 0))<|O 4 (.new 36 #[.int .i64 0, .int .u64 0])<|V 5 (i 0)<|M 7 2 2<|C 6 245 [t 7, t 1]<|O 11 (.bini .neq (t 6) (i 0))<|E)<|
Q (I (t 11) (S (O 12 (.agg [.z (.int .i64 0), .z (.int .u64 0)])<|N (.st 2 (t 4) (t 12))<|V 5 (t 6)<|E)<|R) (Z))<|S (M 14 2 2<|C 16 147 [t 14, t 1]<|
N (.st 2 (t 4) (t 16))<|V 5 (i 0)<|E)<|R
theorem b227 : bodyO 42240 512 Tryz.prog 227 = some (17, [.c 4 (some 2), .t 5], c227) := by kernel_rfl
theorem k227 : callOk Tryz.prog 227 = true := by kernel_rfl
/-- leapfrog/vec.Prefixes -/
def c105 : Go.SL.CC := S (O 1 (.box 36 (t 0))<|V 2 (k (.nilFunc))<|O 2 (.mkf 166 [t 1])<|E)<|R
theorem b105 : bodyO 0 8 Tryz.prog 105 = some (4, [.t 2], c105) := by kernel_rfl
theorem k105 : callOk Tryz.prog 105 = true := by kernel_rfl
/-- leapfrog/vec.Prefixes$1 -/
def c166 : Go.SL.CC := S (M 4 2 1<|C 5 55 [t 4]<|O 6 (.bini .neq (t 5) (i 0))<|E)<|Q (I (t 6) (R) (Z))<|S (F 7 0 1<|L 8 7<|O 9 (.bini .add (t 8) (i 1))<|V 10 (i 0)<|E)<|
P 0 (S (O 11 (.bini .lss (t 10) (t 9))<|E)<|Q (I (t 11) (Z) (J 0))<|Q (B 1 (S (M 14 2 1<|C 16 147 [t 14, t 10]<|O 17 (.call (t 0) [t 16])<|
O 18 (.un .not (t 17))<|E)<|I (t 18) (R) (Z)))<|Y (O 10 (.bini .add (t 10) (i 1))<|E))
theorem b166 : bodyO 45064 524288 Tryz.prog 166 = some (20, [], c166) := by kernel_rfl
theorem k166 : callOk Tryz.prog 166 = true := by kernel_rfl
/-- leapfrog/vec.both -/
def c161 : Go.SL.CC := S (O 2 (.box 36 (t 0))<|O 3 (.box 36 (t 1))<|V 4 (i 0)<|M 6 2 2<|C 5 55 [t 6]<|O 9 (.bini .neq (t 5) (i 0))<|E)<|Q (I (t 9) (S (V 4 (t 5)<|E)<|R) (Z))<|
S (M 11 2 3<|C 4 55 [t 11]<|E)<|R
theorem b161 : bodyO 1280 4224 Tryz.prog 161 = some (13, [.t 4], c161) := by kernel_rfl
theorem k161 : callOk Tryz.prog 161 = true := by kernel_rfl
/-- leapfrog/vec.common -/
def c162 : Go.SL.CC := S (O 2 (.box 36 (t 0))<|O 3 (.box 36 (t 1))<|V 4 (i 0)<|F 7 0 2<|L 8 7<|F 9 0 3<|L 10 9<|O 11 (.mm false (t 8) (t 10))<|M 12 2 2<|M 16 2 3<|
C 14 147 [t 12, t 11]<|A 16 (.ld (some 2) (t 3))<|O 15 (.fld false 1 1 (t 14))<|C 18 147 [t 16, t 11]<|O 19 (.fld false 1 1 (t 18))<|
O 20 (.bini .xor (t 15) (t 19))<|C 23 177 [t 20]<|O 4 (.bini .sub (t 11) (t 23))<|E)<|R
theorem b162 : bodyO 6430816 16777216 Tryz.prog 162 = some (25, [.t 4], c162) := by kernel_rfl
theorem k162 : callOk Tryz.prog 162 = true := by kernel_rfl
/-- leapfrog/vec.bit -/
def c163 : Go.SL.CC := S (O 2 (.box 36 (t 0))<|V 4 (i 0)<|F 5 1 2<|L 6 5<|F 7 0 2<|L 8 7<|O 9 (.bini .sub (t 8) (i 1))<|O 11 (.bini .sub (t 9) (t 1))<|O 12 (.cv .u64 (t 11))<|
O 13 (.bini .shr (t 6) (t 12))<|O 14 (.bini .and (t 13) (u 1))<|O 4 (.cv .i64 (t 14))<|E)<|R
theorem b163 : bodyO 1024 32768 Tryz.prog 163 = some (16, [.t 4], c163) := by kernel_rfl
theorem k163 : callOk Tryz.prog 163 = true := by kernel_rfl
/-- leapfrog/vec.Compare -/
def c100 : Go.SL.CC := S (O 2 (.box 36 (t 0))<|O 3 (.box 36 (t 1))<|V 4 (i 0)<|V 5 (i 0)<|M 8 2 2<|M 9 2 3<|C 6 161 [t 8, t 9]<|O 12 (.bini .neq (t 6) (i 0))<|E)<|
Q (I (t 12) (S (V 4 (i 0)<|V 5 (t 6)<|E)<|R) (Z))<|S (M 14 2 2<|M 15 2 3<|C 7 162 [t 14, t 15]<|F 18 0 2<|L 19 18<|F 20 0 3<|L 21 20<|
O 22 (.mm false (t 19) (t 21))<|O 23 (.bini .lss (t 7) (t 22))<|E)<|Q (I (t 23) (S (M 24 2 2<|M 27 2 3<|C 26 163 [t 24, t 7]<|A 27 (.ld (some 2) (t 3))<|
C 29 163 [t 27, t 7]<|C 4 41 [t 26, t 29]<|V 5 (i 0)<|E)<|R) (Z))<|S (F 31 0 2<|L 32 31<|F 33 0 3<|L 34 33<|C 4 41 [t 32, t 34]<|V 5 (i 0)<|E)<|R
theorem b100 : bodyO 302131200 35433546752 Tryz.prog 100 = some (36, [.t 4, .t 5], c100) := by kernel_rfl
theorem k100 : callOk Tryz.prog 100 = true := by kernel_rfl
/-- math/bits.Len64 -/
def c177 : Go.SL.CC := S (V 2 (i 0)<|O 4 (.bini .geq (t 0) (u 4294967296))<|E)<|Q (I (t 4) (Y (O 0 (.bini .shr (t 0) (u 32))<|V 2 (i 32)<|E)) (Z))<|
S (O 8 (.bini .geq (t 0) (u 65536))<|E)<|Q (I (t 8) (Y (O 0 (.bini .shr (t 0) (u 16))<|O 2 (.bini .add (t 2) (i 16))<|E)) (Z))<|
S (O 14 (.bini .geq (t 0) (u 256))<|E)<|Q (I (t 14) (Y (O 0 (.bini .shr (t 0) (u 8))<|O 2 (.bini .add (t 2) (i 8))<|E)) (Z))<|S (O 21 (.cv .u8 (t 0))<|
O 22 (.idx (k (.string ⟨#[0,1,2,2,3,3,3,3,4,4,4,4,4,4,4,4,5,5,5,5,5,5,5,5,5,5,5,5,5,5,5,5,6,6,6,6,6,6,6,6,6,6,6,6,6,6,6,6,6,6,6,6,6,6,6,6,6,6,6,6,6,6,6,6,7,7,7,7,7,7,7,7,7,7,7,7,7,7,7,7,7,7,7,7,7,7,7,7,7,7,7,7,7,7,7,7,7,7,7,7,7,7,7,7,7,7,7,7,7,7,7,7,7,7,7,7,7,7,7,7,7,7,7,7,7,7,7,7,8,8,8,8,8,8,8,8,8,8,8,8,8,8,8,8,8,8,8,8,8,8,8,8,8,8,8,8,8,8,8,8,8,8,8,8,8,8,8,8,8,8,8,8,8,8,8,8,8,8,8,8,8,8,8,8,8,8,8,8,8,8,8,8,8,8,8,8,8,8,8,8,8,8,8,8,8,8,8,8,8,8,8,8,8,8,8,8,8,8,8,8,8,8,8,8,8,8,8,8,8,8,8,8,8,8,8,8,8,8,8,8,8,8,8,8,8,8,8,8,8,8,8,8,8,8,8,8]⟩)) (t 21))<|
O 23 (.cv .i64 (t 22))<|O 2 (.bini .add (t 2) (t 23))<|E)<|R
theorem b177 : bodyO 1747624 17110080 Tryz.prog 177 = some (25, [.t 2], c177) := by kernel_rfl
theorem k177 : callOk Tryz.prog 177 = true := by kernel_rfl
/-- leapfrog/leapfrogref01.Power -/
def c124 : Go.SL.CC := S (V 2 (u 0)<|V 3 (u 1)<|E)<|Q (P 0 (S (O 5 (.bini .gtr (t 0) (i 0))<|E)<|Q (I (t 5) (Z) (J 0))<|Q (B 1 (Y (O 3 (.bini .mul (t 3) (u 2))<|E)))<|
Y (O 0 (.bini .sub (t 0) (i 1))<|E)))<|S (V 2 (t 3)<|E)<|R
theorem b124 : bodyO 1360 640 Tryz.prog 124 = some (11, [.t 2], c124) := by kernel_rfl
theorem k124 : callOk Tryz.prog 124 = true := by kernel_rfl
/-- leapfrog/leapfrogref01.Right -/
def c50 : Go.SL.CC := S (O 1 (.box 36 (t 0))<|V 2 (b false)<|F 3 0 1<|L 4 3<|O 6 (.bini .geq (t 4) (i 0))<|G 7 (.fa 0 (t 1)) 6<|G 8 (.ld none (t 7)) 6<|
G 9 (.bini .leq (t 8) (i 32)) 6<|O 11 (.pick (t 6) (t 9) (b false))<|G 12 (.fa 1 (t 1)) 11<|G 13 (.ld none (t 12)) 11<|G 14 (.fa 0 (t 1)) 11<|
G 15 (.ld none (t 14)) 11<|G 16 (.call (f 124) [t 15]) 11<|.ag ⟨some 13, .ld none (t 12), some (11, true)⟩<|G 17 (.bini .lss (t 13) (t 16)) 11<|
O 2 (.pick (t 11) (t 17) (b false))<|E)<|R
theorem b50 : bodyO 0 263200 Tryz.prog 50 = some (19, [.t 2], c50) := by kernel_rfl
theorem k50 : callOk Tryz.prog 50 = true := by kernel_rfl
/-- leapfrog/leapfrogref01.Bits -/
def c149 : Go.SL.CC := S (O 1 (.box 36 (t 0))<|V 2 (k (.slice none 0 0))<|F 6 0 1<|L 7 6<|O 3 (.mks 3 1 8 #[.int .i64 0] (t 7) (t 7))<|F 9 1 1<|L 4 9<|F 11 0 1<|L 12 11<|
O 5 (.bini .sub (t 12) (i 1))<|E)<|Q (P 0 (S (O 15 (.bini .geq (t 5) (i 0))<|E)<|Q (I (t 15) (Z) (J 0))<|Q (B 1 (Y (O 21 (.bini .rem (t 4) (u 2))<|
O 22 (.cv .i64 (t 21))<|O 23 (.ia 1 (t 3) (t 5))<|N (.st 1 (t 23) (t 22))<|O 4 (.bini .quo (t 4) (u 2))<|E)))<|Y (O 5 (.bini .sub (t 5) (i 1))<|E)))<|
S (V 2 (t 3)<|E)<|R
theorem b149 : bodyO 85803008 33694976 Tryz.prog 149 = some (27, [.t 2], c149) := by kernel_rfl
theorem k149 : callOk Tryz.prog 149 = true := by kernel_rfl
/-- leapfrog/leapfrogref01.Of -/
def c179 : Go.SL.CC := S (O 2 (.new 36 #[.int .i64 0, .int .u64 0])<|O 6 (.ln (t 0))<|O 7 (.agg [.c (t 6) 0 1, .z (.int .u64 0)])<|O 3 (.new 36 #[.int .i64 0, .int .u64 0])<|
N (.st 2 (t 3) (t 7))<|V 4 (i 0)<|E)<|Q (P 0 (S (O 10 (.ln (t 0))<|O 11 (.bini .lss (t 4) (t 10))<|E)<|Q (I (t 11) (Z) (J 0))<|Q (B 1 (Y (F 14 1 3<|L 15 14<|
O 16 (.bini .mul (t 15) (u 2))<|O 19 (.ia 1 (t 0) (t 4))<|L 20 19<|O 21 (.cv .u64 (t 20))<|O 22 (.bini .add (t 16) (t 21))<|F 23 1 3<|N (.st 1 (t 23) (t 22))<|
E)))<|Y (O 4 (.bini .add (t 4) (i 1))<|E)))<|S (M 24 2 3<|N (.st 2 (t 2) (t 24))<|E)<|R
theorem b179 : bodyO 398112 8192 Tryz.prog 179 = some (25, [.c 2 (some 2)], c179) := by kernel_rfl
theorem k179 : callOk Tryz.prog 179 = true := by kernel_rfl
/-- leapfrog/leapfrogref01.common -/
def c148 : Go.SL.CC := S (V 4 (i 0)<|V 5 (i 0)<|E)<|Q (P 0 (S (O 8 (.ln (t 0))<|O 10 (.bini .lss (t 5) (t 8))<|G 13 (.ln (t 1)) 10<|G 14 (.bini .lss (t 5) (t 13)) 10<|
O 16 (.pick (t 10) (t 14) (b false))<|G 19 (.ia 1 (t 0) (t 5)) 16<|G 20 (.ld none (t 19)) 16<|G 23 (.ia 1 (t 1) (t 5)) 16<|G 24 (.ld none (t 23)) 16<|
G 25 (.bini .eql (t 20) (t 24)) 16<|O 26 (.pick (t 16) (t 25) (b false))<|E)<|Q (I (t 26) (Z) (J 0))<|B 1 (Y (O 5 (.bini .add (t 5) (i 1))<|E))))<|
S (V 4 (t 5)<|E)<|R
theorem b148 : bodyO 677779648 268468736 Tryz.prog 148 = some (30, [.t 4], c148) := by kernel_rfl
theorem k148 : callOk Tryz.prog 148 = true := by kernel_rfl
/-- leapfrog/leapfrogref01.Begins -/
def c88 : Go.SL.CC := S (O 2 (.box 36 (t 0))<|O 3 (.box 36 (t 1))<|V 4 (b false)<|M 5 2 2<|C 7 50 [t 5]<|G 8 (.ld (some 2) (t 3)) 7<|G 9 (.call (f 50) [t 8]) 7<|
O 11 (.pick (t 7) (t 9) (b false))<|G 12 (.ld (some 2) (t 2)) 11<|G 14 (.ld (some 2) (t 3)) 11<|G 17 (.fa 0 (t 3)) 11<|G 18 (.ld none (t 17)) 11<|
G 13 (.call (f 149) [t 12]) 11<|.ag ⟨some 14, .ld (some 2) (t 3), some (11, true)⟩<|.ag ⟨some 18, .ld none (t 17), some (11, true)⟩<|
G 15 (.call (f 149) [t 14]) 11<|.ag ⟨some 18, .ld none (t 17), some (11, true)⟩<|G 16 (.call (f 148) [t 13, t 15]) 11<|
.ag ⟨some 18, .ld none (t 17), some (11, true)⟩<|G 19 (.bini .eql (t 16) (t 18)) 11<|O 4 (.pick (t 11) (t 19) (b false))<|E)<|R
theorem b88 : bodyO 0 1049664 Tryz.prog 88 = some (21, [.t 4], c88) := by kernel_rfl
theorem k88 : callOk Tryz.prog 88 = true := by kernel_rfl
/-- leapfrog/leapfrogref01.Compare -/
def c131 : Go.SL.CC := S (O 2 (.box 36 (t 0))<|O 3 (.box 36 (t 1))<|V 4 (i 0)<|V 5 (i 0)<|M 9 2 2<|C 10 50 [t 9]<|O 12 (.un .not (t 10))<|H 13 (.ld (some 2) (t 3)) 12<|
H 14 (.call (f 50) [t 13]) 12<|H 15 (.un .not (t 14)) 12<|O 16 (.pick (t 12) (b true) (t 15))<|E)<|Q (I (t 16) (S (V 4 (i 0)<|V 5 (i 10)<|E)<|R) (Z))<|
S (M 17 2 2<|M 19 2 3<|C 18 149 [t 17]<|A 19 (.ld (some 2) (t 3))<|C 20 149 [t 19]<|V 6 (t 18)<|V 7 (t 20)<|C 8 148 [t 6, t 7]<|E)<|
Q (B 0 (S (O 27 (.ln (t 6))<|O 29 (.bini .eql (t 8) (t 27))<|G 32 (.ln (t 7)) 29<|G 33 (.bini .eql (t 8) (t 32)) 29<|O 24 (.pick (t 29) (t 33) (b false))<|E)<|
I (t 24) (S (V 4 (i 0)<|V 5 (i 0)<|E)<|R) (S (O 38 (.ln (t 6))<|O 35 (.bini .eql (t 8) (t 38))<|E)<|I (t 35) (S (V 4 (i (-1))<|V 5 (i 0)<|E)<|
R) (S (O 43 (.ln (t 7))<|O 40 (.bini .eql (t 8) (t 43))<|E)<|I (t 40) (S (V 4 (i 1)<|V 5 (i 0)<|E)<|R) (S (O 48 (.ia 1 (t 6) (t 8))<|L 49 48<|
O 52 (.ia 1 (t 7) (t 8))<|L 53 52<|O 45 (.bini .lss (t 49) (t 53))<|E)<|I (t 45) (S (V 4 (i (-1))<|V 5 (i 0)<|E)<|R) (Z))))))<|S (V 4 (i 1)<|V 5 (i 0)<|E)<|R
theorem b131 : bodyO 3595612509437952 18032557908035584 Tryz.prog 131 = some (55, [.t 4, .t 5], c131) := by kernel_rfl
theorem k131 : callOk Tryz.prog 131 = true := by kernel_rfl
/-- leapfrog/leapfrogref01.Prefixes -/
def c112 : Go.SL.CC := S (O 1 (.box 36 (t 0))<|V 2 (k (.slice none 0 0))<|M 6 2 1<|C 7 50 [t 6]<|O 8 (.un .not (t 7))<|E)<|Q (I (t 8) (S (V 2 (k (.slice none 0 0))<|E)<|R) (Z))<|
S (V 3 (k (.slice none 0 0))<|M 9 2 1<|C 4 149 [t 9]<|V 5 (i 0)<|E)<|Q (P 0 (S (O 13 (.ln (t 4))<|O 14 (.bini .leq (t 5) (t 13))<|E)<|Q (I (t 14) (Z) (J 0))<|
Q (B 1 (Y (O 20 (.sl 1 (t 4) none (some (t 5)) none)<|C 21 179 [t 20]<|O 22 (.bsl 36 [.c (t 21) 0 2, .c (t 21) 1 2] 1)<|
O 3 (.ap 36 2 16 #[.int .i64 0, .int .u64 0] (t 3) (t 22))<|E)))<|Y (O 5 (.bini .add (t 5) (i 1))<|E)))<|S (V 2 (t 3)<|E)<|R
theorem b112 : bodyO 17733632 8455168 Tryz.prog 112 = some (25, [.t 2], c112) := by kernel_rfl
theorem k112 : callOk Tryz.prog 112 = true := by kernel_rfl
/-- leapfrog/leapfrogref09.Less -/
def c62 : Go.SL.CC := S (O 2 (.box 34 (t 0))<|O 3 (.box 34 (t 1))<|V 4 (b false)<|F 5 0 2<|L 6 5<|F 7 0 3<|L 8 7<|O 10 (.bini .lss (t 6) (t 8))<|H 11 (.fa 0 (t 2)) 10<|
H 12 (.ld none (t 11)) 10<|H 13 (.fa 0 (t 3)) 10<|H 14 (.ld none (t 13)) 10<|H 15 (.bini .eql (t 12) (t 14)) 10<|H 16 (.mv (t 15)) 10<|G 17 (.fa 1 (t 2)) 16<|
G 18 (.ld none (t 17)) 16<|G 19 (.fa 1 (t 3)) 16<|G 20 (.ld none (t 19)) 16<|G 21 (.bini .lss (t 18) (t 20)) 16<|H 22 (.pick (t 16) (t 21) (b false)) 10<|
O 4 (.pick (t 10) (b true) (t 22))<|E)<|R
theorem b62 : bodyO 0 8389120 Tryz.prog 62 = some (24, [.t 4], c62) := by kernel_rfl
theorem k62 : callOk Tryz.prog 62 = true := by kernel_rfl
/-- leapfrog/leapfrogref09.Head -/
def c128 : Go.SL.CC := S (O 2 (.new 38 #[.int .i64 0, .int .i64 0, .int .u64 0, .int .i64 0, .int .u64 0])<|V 3 (i 0)<|O 6 (.bini .lss (t 0) (i 0))<|H 8 (.bini .gtr (t 0) (i 32)) 6<|
O 9 (.pick (t 6) (b true) (t 8))<|E)<|Q (I (t 9) (S (O 10 (.agg [.z (.int .i64 0), .z (.int .i64 0), .z (.int .u64 0), .z (.int .i64 0), .z (.int .u64 0)])<|
N (.st 5 (t 2) (t 10))<|V 3 (i 90)<|E)<|R) (Z))<|S (O 11 (.agg [.c (i 1) 0 1, .z (.int .u64 0)])<|O 13 (.agg [.c (t 0) 0 1, .z (.int .u64 0)])<|
O 14 (.agg [.c (i 0) 0 1, .c (t 11) 0 2, .c (t 11) 1 2, .c (t 13) 0 2, .c (t 13) 1 2])<|N (.st 5 (t 2) (t 14))<|V 3 (i 0)<|E)<|R
theorem b128 : bodyO 4240 32 Tryz.prog 128 = some (15, [.c 2 (some 5), .t 3], c128) := by kernel_rfl
theorem k128 : callOk Tryz.prog 128 = true := by kernel_rfl
/-- leapfrog/leapfrogref09.Tail -/
def c129 : Go.SL.CC := S (O 2 (.new 38 #[.int .i64 0, .int .i64 0, .int .u64 0, .int .i64 0, .int .u64 0])<|V 3 (i 0)<|O 6 (.bini .lss (t 0) (i 0))<|H 8 (.bini .gtr (t 0) (i 32)) 6<|
O 9 (.pick (t 6) (b true) (t 8))<|E)<|Q (I (t 9) (S (O 10 (.agg [.z (.int .i64 0), .z (.int .i64 0), .z (.int .u64 0), .z (.int .i64 0), .z (.int .u64 0)])<|
N (.st 5 (t 2) (t 10))<|V 3 (i 90)<|E)<|R) (Z))<|S (O 11 (.agg [.c (i 3) 0 1, .z (.int .u64 0)])<|O 13 (.agg [.c (t 0) 0 1, .z (.int .u64 0)])<|
O 14 (.agg [.c (i 1) 0 1, .c (t 11) 0 2, .c (t 11) 1 2, .c (t 13) 0 2, .c (t 13) 1 2])<|N (.st 5 (t 2) (t 14))<|V 3 (i 0)<|E)<|R
theorem b129 : bodyO 4240 32 Tryz.prog 129 = some (15, [.c 2 (some 5), .t 3], c129) := by kernel_rfl
theorem k129 : callOk Tryz.prog 129 = true := by kernel_rfl
/-- leapfrog/peer.Head -/
def c102 : Go.SL.CC := S (O 2 (.new 38 #[.int .i64 0, .int .i64 0, .int .u64 0, .int .i64 0, .int .u64 0])<|V 3 (i 0)<|C 5 164 [b false, t 0]<|X 6 5 0<|X 7 5 1<|
N (.st 5 (t 2) (t 6))<|V 3 (t 7)<|E)<|R
theorem b102 : bodyO 16 0 Tryz.prog 102 = some (8, [.c 2 (some 5), .t 3], c102) := by kernel_rfl
theorem k102 : callOk Tryz.prog 102 = true := by kernel_rfl
/-- leapfrog/peer.Tail -/
def c103 : Go.SL.CC := S (O 2 (.new 38 #[.int .i64 0, .int .i64 0, .int .u64 0, .int .i64 0, .int .u64 0])<|V 3 (i 0)<|C 5 164 [b true, t 0]<|X 6 5 0<|X 7 5 1<|N (.st 5 (t 2) (t 6))<|
V 3 (t 7)<|E)<|R
theorem b103 : bodyO 16 0 Tryz.prog 103 = some (8, [.c 2 (some 5), .t 3], c103) := by kernel_rfl
theorem k103 : callOk Tryz.prog 103 = true := by kernel_rfl
/-- leapfrog/peer.end -/
def c164 : Go.SL.CC := S (O 4 (.new 38 #[.int .i64 0, .int .i64 0, .int .u64 0, .int .i64 0, .int .u64 0])<|V 5 (i 0)<|O 9 (.bini .lss (t 1) (i 0))<|H 11 (.bini .gtr (t 1) (i 32)) 9<|
O 12 (.pick (t 9) (b true) (t 11))<|E)<|Q (I (t 12) (S (O 13 (.agg [.z (.int .i64 0), .z (.int .i64 0), .z (.int .u64 0), .z (.int .i64 0), .z (.int .u64 0)])<|
N (.st 5 (t 4) (t 13))<|V 5 (i 90)<|E)<|R) (Z))<|S (O 14 (.agg [.c (i 1) 0 1, .z (.int .u64 0)])<|O 16 (.agg [.c (t 1) 0 1, .z (.int .u64 0)])<|
O 17 (.agg [.z (.int .i64 0), .c (t 14) 0 2, .c (t 14) 1 2, .c (t 16) 0 2, .c (t 16) 1 2])<|
O 6 (.new 38 #[.int .i64 0, .int .i64 0, .int .u64 0, .int .i64 0, .int .u64 0])<|N (.st 5 (t 6) (t 17))<|V 18 (t 0)<|E)<|Q (I (t 18) (Y (F 19 0 6<|
N (.st 1 (t 19) (i 1))<|F 20 1 6<|F 21 0 20<|N (.st 1 (t 21) (i 3))<|E)) (Z))<|S (M 22 5 6<|N (.st 5 (t 4) (t 22))<|V 5 (i 0)<|E)<|R
theorem b164 : bodyO 33920 256 Tryz.prog 164 = some (23, [.c 4 (some 5), .t 5], c164) := by kernel_rfl
theorem k164 : callOk Tryz.prog 164 = true := by kernel_rfl
end Go.Proofs.YtnipmjpdklbbcaaGreat
