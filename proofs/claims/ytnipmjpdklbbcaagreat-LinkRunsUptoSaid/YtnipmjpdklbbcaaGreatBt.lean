/- The bodies of some functions of the program, without their noise, and that they are these. Conditions: none. Written by a program of this workplace (Print.lean). -/
import Derived.Test.YtnipmjpdklbbcaaGreatProg
import Derived.Test.YtnipmjpdklbbcaaGreatSlW
import Derived.KernelRfl
namespace Go.Proofs.YtnipmjpdklbbcaaGreat
open Go.SL Go.SL.W
set_option maxRecDepth 100000

/-- leapfrog/leapfrogref08.New -/
def c25 : Go.SL.CC := S (O 1 (.box 38 (t 0))<|V 2 (k (.pointer none))<|V 3 (i 0)<|F 4 1 1<|M 5 2 4<|C 6 77 [t 5]<|O 8 (.bini .neq (t 6) (i 0))<|H 9 (.fa 3 (t 1)) 8<|
H 10 (.ld (some 2) (t 9)) 8<|H 11 (.call (f 50) [t 10]) 8<|H 12 (.un .not (t 11)) 8<|O 13 (.pick (t 8) (b true) (t 12))<|E)<|
Q (I (t 13) (S (V 2 (k (.pointer none))<|V 3 (i 80)<|E)<|R) (Z))<|S (M 14 5 1<|
O 15 (.agg [.c (t 14) 0 5, .c (t 14) 1 5, .c (t 14) 2 5, .c (t 14) 3 5, .c (t 14) 4 5, .z (.slice none 0 0)])<|O 2 (.box 143 (t 15))<|V 3 (i 0)<|E)<|R
theorem b25 : bodyO 0 65664 Tryz.prog 25 = some (17, [.t 2, .t 3], c25) := by kernel_rfl
theorem k25 : callOk Tryz.prog 25 = true := by kernel_rfl
/-- (*leapfrog/leapfrogref08.Links).Get -/
def c27 : Go.SL.CC := S (O 3 (.box 36 (t 1))<|
O 4 (.new 53 #[.int .i64 0, .int .u64 0, .int .i64 0, .int .i64 0, .int .u64 0, .int .i64 0, .int .u64 0, .int .i64 0, .int .i64 0, .int .u64 0, .int .i64 0, .int .u64 0, .bool false, .int .i64 0, .int .i64 0, .slice none 0 0])<|
V 5 (b false)<|M 10 2 3<|C 11 81 [t 0, t 10]<|X 12 11 0<|X 13 11 1<|V 6 (t 12)<|V 7 (t 13)<|E)<|Q (B 0 (S (V 14 (t 7)<|E)<|I (t 14) (S (F 18 5 0<|L 19 18<|
O 21 (.ia 16 (t 19) (t 6))<|M 22 16 21<|N (.st 16 (t 4) (t 22))<|V 5 (b true)<|E)<|R) (S (C 26 82 [t 0]<|G 28 (.ld (some 2) (t 3)) 26<|
G 29 (.call (f 31) [t 0, t 28]) 26<|O 23 (.pick (t 26) (t 29) (b false))<|E)<|I (t 23) (S (M 32 2 3<|C 33 83 [t 0, t 32]<|N (.st 16 (t 4) (t 33))<|
V 5 (b true)<|E)<|R) (Z))))<|
S (O 34 (.agg [.z (.int .i64 0), .z (.int .u64 0), .z (.int .i64 0), .z (.int .i64 0), .z (.int .u64 0), .z (.int .i64 0), .z (.int .u64 0), .z (.int .i64 0), .z (.int .i64 0), .z (.int .u64 0), .z (.int .i64 0), .z (.int .u64 0), .z (.bool false), .z (.int .i64 0), .z (.int .i64 0), .z (.slice none 0 0)])<|
N (.st 16 (t 4) (t 34))<|V 5 (b false)<|E)<|R
theorem b27 : bodyO 2299626240 1107427328 Tryz.prog 27 = some (35, [.c 4 (some 16), .t 5], c27) := by kernel_rfl
theorem k27 : callOk Tryz.prog 27 = true := by kernel_rfl
/-- (*leapfrog/leapfrogref08.Links).May -/
def c31 : Go.SL.CC := S (O 3 (.box 36 (t 1))<|V 4 (b false)<|C 6 82 [t 0]<|E)<|Q (I (t 6) (S (M 7 2 3<|C 9 50 [t 7]<|G 10 (.fa 0 (t 3)) 9<|G 11 (.ld none (t 10)) 9<|
G 14 (.fa 0 (t 0)) 9<|G 15 (.fa 3 (t 14)) 9<|G 16 (.fa 0 (t 15)) 9<|G 17 (.ld none (t 16)) 9<|G 18 (.bini .leq (t 11) (t 17)) 9<|
O 4 (.pick (t 9) (t 18) (b false))<|E)<|R) (Z))<|S (F 22 0 0<|F 23 3 22<|M 24 2 23<|M 25 2 3<|C 4 88 [t 24, t 25]<|E)<|R
theorem b31 : bodyO 1052704 69738752 Tryz.prog 31 = some (27, [.t 4], c31) := by kernel_rfl
theorem k31 : callOk Tryz.prog 31 = true := by kernel_rfl
/-- (*leapfrog/leapfrogref08.Links).at -/
def c81 : Go.SL.CC := S (O 3 (.box 36 (t 1))<|V 4 (i 0)<|V 5 (b false)<|V 6 (i 0)<|E)<|Q (P 0 (S (F 12 5 0<|L 13 12<|O 14 (.ln (t 13))<|O 15 (.bini .lss (t 6) (t 14))<|E)<|
Q (I (t 15) (Z) (J 0))<|Q (B 1 (S (F 20 5 0<|L 21 20<|O 23 (.ia 16 (t 21) (t 6))<|F 24 0 23<|M 25 2 24<|M 26 2 3<|O 27 (.eqs false [.i, .i] (t 25) (t 26))<|E)<|
Q (I (t 27) (S (V 4 (t 6)<|V 5 (b true)<|E)<|R) (Z))<|S (M 30 2 3<|F 33 5 0<|L 34 33<|O 36 (.ia 16 (t 34) (t 6))<|F 37 0 36<|M 38 2 37<|C 39 131 [t 30, t 38]<|
X 40 39 0<|X 41 39 1<|O 43 (.bini .lss (t 40) (i 0))<|E)<|I (t 43) (S (V 4 (t 6)<|V 5 (b false)<|E)<|R) (Z)))<|Y (O 6 (.bini .add (t 6) (i 1))<|E)))<|
S (F 47 5 0<|L 48 47<|O 4 (.ln (t 48))<|V 5 (b false)<|E)<|R
theorem b81 : bodyO 57211921696640 633322993223680 Tryz.prog 81 = some (50, [.t 4, .t 5], c81) := by kernel_rfl
theorem k81 : callOk Tryz.prog 81 = true := by kernel_rfl
/-- (*leapfrog/leapfrogref08.Links).end -/
def c82 : Go.SL.CC := S (V 2 (b false)<|F 5 0 0<|F 6 1 5<|F 7 0 6<|L 8 7<|O 2 (.bini .neq (t 8) (i 2))<|E)<|R
theorem b82 : bodyO 8 528 Tryz.prog 82 = some (10, [.t 2], c82) := by kernel_rfl
theorem k82 : callOk Tryz.prog 82 = true := by kernel_rfl
/-- (*leapfrog/leapfrogref08.Links).first -/
def c83 : Go.SL.CC := S (O 3 (.box 36 (t 1))<|
O 4 (.new 53 #[.int .i64 0, .int .u64 0, .int .i64 0, .int .i64 0, .int .u64 0, .int .i64 0, .int .u64 0, .int .i64 0, .int .i64 0, .int .u64 0, .int .i64 0, .int .u64 0, .bool false, .int .i64 0, .int .i64 0, .slice none 0 0])<|
F 7 0 0<|F 8 1 7<|F 9 0 8<|L 10 9<|O 11 (.bini .eql (t 10) (i 1))<|E)<|Q (I (t 11) (S (M 12 2 3<|C 14 144 [t 0]<|A 12 (.ld (some 2) (t 3))<|
O 15 (.agg [.c (t 12) 0 2, .c (t 12) 1 2, .z (.int .i64 0), .z (.int .i64 0), .z (.int .u64 0), .z (.int .i64 0), .z (.int .u64 0), .c (t 14) 0 5, .c (t 14) 1 5, .c (t 14) 2 5, .c (t 14) 3 5, .c (t 14) 4 5, .z (.bool false), .z (.int .i64 0), .z (.int .i64 0), .z (.slice none 0 0)])<|
N (.st 16 (t 4) (t 15))<|E)<|R) (Z))<|S (M 16 2 3<|C 18 144 [t 0]<|A 16 (.ld (some 2) (t 3))<|
O 19 (.agg [.c (t 16) 0 2, .c (t 16) 1 2, .c (t 18) 0 5, .c (t 18) 1 5, .c (t 18) 2 5, .c (t 18) 3 5, .c (t 18) 4 5, .z (.int .i64 0), .z (.int .i64 0), .z (.int .u64 0), .z (.int .i64 0), .z (.int .u64 0), .z (.bool false), .z (.int .i64 0), .z (.int .i64 0), .z (.slice none 0 0)])<|
N (.st 16 (t 4) (t 19))<|E)<|R
theorem b83 : bodyO 139296 64 Tryz.prog 83 = some (20, [.c 4 (some 16)], c83) := by kernel_rfl
theorem k83 : callOk Tryz.prog 83 = true := by kernel_rfl
/-- (*leapfrog/leapfrogref08.Links).other -/
def c144 : Go.SL.CC := S (O 2 (.new 38 #[.int .i64 0, .int .i64 0, .int .u64 0, .int .i64 0, .int .u64 0])<|F 5 0 0<|F 6 1 5<|F 7 0 6<|L 8 7<|O 9 (.bini .eql (t 8) (i 1))<|E)<|
Q (I (t 9) (S (O 10 (.agg [.c (i 3) 0 1, .z (.int .u64 0)])<|F 13 0 0<|F 14 3 13<|M 15 2 14<|
O 16 (.agg [.c (i 1) 0 1, .c (t 10) 0 2, .c (t 10) 1 2, .c (t 15) 0 2, .c (t 15) 1 2])<|N (.st 5 (t 2) (t 16))<|E)<|R) (Z))<|
S (O 17 (.agg [.c (i 1) 0 1, .z (.int .u64 0)])<|F 20 0 0<|F 21 3 20<|M 22 2 21<|
O 23 (.agg [.z (.int .i64 0), .c (t 17) 0 2, .c (t 17) 1 2, .c (t 22) 0 2, .c (t 22) 1 2])<|N (.st 5 (t 2) (t 23))<|E)<|R
theorem b144 : bodyO 264200 528400 Tryz.prog 144 = some (24, [.c 2 (some 5)], c144) := by kernel_rfl
theorem k144 : callOk Tryz.prog 144 = true := by kernel_rfl
/-- (*leapfrog/leapfrogref08.Links).left -/
def c150 : Go.SL.CC := S (O 3 (.box 38 (t 1))<|V 4 (b false)<|F 5 1 3<|M 6 2 5<|C 7 77 [t 6]<|O 9 (.bini .eql (t 7) (i 0))<|G 10 (.fa 1 (t 3)) 9<|G 11 (.ld (some 2) (t 10)) 9<|
G 14 (.fa 0 (t 0)) 9<|G 15 (.fa 1 (t 14)) 9<|G 16 (.ld (some 2) (t 15)) 9<|G 17 (.call (f 202) [t 11, t 16]) 9<|O 4 (.pick (t 9) (t 17) (b false))<|E)<|R
theorem b150 : bodyO 4096 270592 Tryz.prog 150 = some (19, [.t 4], c150) := by kernel_rfl
theorem k150 : callOk Tryz.prog 150 = true := by kernel_rfl
/-- (*leapfrog/leapfrogref08.Links).right -/
def c151 : Go.SL.CC := S (O 3 (.box 38 (t 1))<|V 4 (b false)<|F 5 1 3<|M 6 2 5<|C 7 77 [t 6]<|O 9 (.bini .eql (t 7) (i 0))<|G 12 (.fa 0 (t 0)) 9<|G 13 (.fa 1 (t 12)) 9<|
G 14 (.ld (some 2) (t 13)) 9<|G 15 (.fa 1 (t 3)) 9<|G 16 (.ld (some 2) (t 15)) 9<|G 17 (.call (f 202) [t 14, t 16]) 9<|O 4 (.pick (t 9) (t 17) (b false))<|E)<|R
theorem b151 : bodyO 1024 264448 Tryz.prog 151 = some (19, [.t 4], c151) := by kernel_rfl
theorem k151 : callOk Tryz.prog 151 = true := by kernel_rfl
/-- leapfrog/leapfrogref08.owner -/
def c152 : Go.SL.CC := S (O 1 (.box 50 (t 0))<|V 2 (i 0)<|M 3 2 1<|C 4 203 [t 3]<|O 5 (.un .not (t 4))<|E)<|Q (I (t 5) (S (V 2 (i 70)<|E)<|R) (Z))<|S (V 2 (i 0)<|E)<|R
theorem b152 : bodyO 0 0 Tryz.prog 152 = some (6, [.t 2], c152) := by kernel_rfl
theorem k152 : callOk Tryz.prog 152 = true := by kernel_rfl
/-- (*leapfrog/leapfrogref08.Links).set -/
def c153 : Go.SL.CC := S (O 3 (.box 53 (t 1))<|F 9 0 3<|M 10 2 9<|C 11 81 [t 0, t 10]<|X 12 11 0<|X 13 11 1<|V 4 (t 12)<|F 16 5 0<|L 17 16<|
O 6 (.sl 16 (t 17) (some (t 4)) none none)<|V 20 (t 13)<|E)<|Q (I (t 20) (Y (F 23 5 0<|L 24 23<|O 26 (.bini .add (t 4) (i 1))<|
O 6 (.sl 16 (t 24) (some (t 26)) none none)<|E)) (Z))<|Y (F 32 5 0<|L 33 32<|O 35 (.sl 16 (t 33) none (some (t 4)) none)<|M 37 16 3<|
.both (O 29 (.bsl 53 [] 0)<|
.both (O 36 (.ap 53 16 144 #[.int .i64 0, .int .u64 0, .int .i64 0, .int .i64 0, .int .u64 0, .int .i64 0, .int .u64 0, .int .i64 0, .int .i64 0, .int .u64 0, .int .i64 0, .int .u64 0, .bool false, .int .i64 0, .int .i64 0, .slice none 0 0] (t 29) (t 35))<|
A 37 (.ld (some 16) (t 3))<|
O 38 (.bsl 53 [.c (t 37) 0 16, .c (t 37) 1 16, .c (t 37) 2 16, .c (t 37) 3 16, .c (t 37) 4 16, .c (t 37) 5 16, .c (t 37) 6 16, .c (t 37) 7 16, .c (t 37) 8 16, .c (t 37) 9 16, .c (t 37) 10 16, .c (t 37) 11 16, .c (t 37) 12 16, .c (t 37) 13 16, .c (t 37) 14 16, .c (t 37) 15 16] 1)<|
O 39 (.ap 53 16 144 #[.int .i64 0, .int .u64 0, .int .i64 0, .int .i64 0, .int .u64 0, .int .i64 0, .int .u64 0, .int .i64 0, .int .i64 0, .int .u64 0, .int .i64 0, .int .u64 0, .bool false, .int .i64 0, .int .i64 0, .slice none 0 0] (t 36) (t 38))<|
O 41 (.ap 53 16 144 #[.int .i64 0, .int .u64 0, .int .i64 0, .int .i64 0, .int .u64 0, .int .i64 0, .int .u64 0, .int .i64 0, .int .i64 0, .int .u64 0, .int .i64 0, .int .u64 0, .bool false, .int .i64 0, .int .i64 0, .slice none 0 0] (t 39) (t 6))<|
O 42 (.nilc (t 0))<|F 43 5 42<|N (.st 1 (t 43) (t 41))<|
E) (O 38 (.bsl 53 [.c (t 37) 0 16, .c (t 37) 1 16, .c (t 37) 2 16, .c (t 37) 3 16, .c (t 37) 4 16, .c (t 37) 5 16, .c (t 37) 6 16, .c (t 37) 7 16, .c (t 37) 8 16, .c (t 37) 9 16, .c (t 37) 10 16, .c (t 37) 11 16, .c (t 37) 12 16, .c (t 37) 13 16, .c (t 37) 14 16, .c (t 37) 15 16] 1)<|
O 36 (.ap 53 16 144 #[.int .i64 0, .int .u64 0, .int .i64 0, .int .i64 0, .int .u64 0, .int .i64 0, .int .u64 0, .int .i64 0, .int .i64 0, .int .u64 0, .int .i64 0, .int .u64 0, .bool false, .int .i64 0, .int .i64 0, .slice none 0 0] (t 29) (t 35))<|
A 37 (.ld (some 16) (t 3))<|
O 39 (.ap 53 16 144 #[.int .i64 0, .int .u64 0, .int .i64 0, .int .i64 0, .int .u64 0, .int .i64 0, .int .u64 0, .int .i64 0, .int .i64 0, .int .u64 0, .int .i64 0, .int .u64 0, .bool false, .int .i64 0, .int .i64 0, .slice none 0 0] (t 36) (t 38))<|
O 41 (.ap 53 16 144 #[.int .i64 0, .int .u64 0, .int .i64 0, .int .i64 0, .int .u64 0, .int .i64 0, .int .u64 0, .int .i64 0, .int .i64 0, .int .u64 0, .int .i64 0, .int .u64 0, .bool false, .int .i64 0, .int .i64 0, .slice none 0 0] (t 39) (t 6))<|
O 42 (.nilc (t 0))<|F 43 5 42<|N (.st 1 (t 43) (t 41))<|
E)) (O 38 (.bsl 53 [.c (t 37) 0 16, .c (t 37) 1 16, .c (t 37) 2 16, .c (t 37) 3 16, .c (t 37) 4 16, .c (t 37) 5 16, .c (t 37) 6 16, .c (t 37) 7 16, .c (t 37) 8 16, .c (t 37) 9 16, .c (t 37) 10 16, .c (t 37) 11 16, .c (t 37) 12 16, .c (t 37) 13 16, .c (t 37) 14 16, .c (t 37) 15 16] 1)<|
O 29 (.bsl 53 [] 0)<|
O 36 (.ap 53 16 144 #[.int .i64 0, .int .u64 0, .int .i64 0, .int .i64 0, .int .u64 0, .int .i64 0, .int .u64 0, .int .i64 0, .int .i64 0, .int .u64 0, .int .i64 0, .int .u64 0, .bool false, .int .i64 0, .int .i64 0, .slice none 0 0] (t 29) (t 35))<|
A 37 (.ld (some 16) (t 3))<|
O 39 (.ap 53 16 144 #[.int .i64 0, .int .u64 0, .int .i64 0, .int .i64 0, .int .u64 0, .int .i64 0, .int .u64 0, .int .i64 0, .int .i64 0, .int .u64 0, .int .i64 0, .int .u64 0, .bool false, .int .i64 0, .int .i64 0, .slice none 0 0] (t 36) (t 38))<|
O 41 (.ap 53 16 144 #[.int .i64 0, .int .u64 0, .int .i64 0, .int .i64 0, .int .u64 0, .int .i64 0, .int .u64 0, .int .i64 0, .int .i64 0, .int .u64 0, .int .i64 0, .int .u64 0, .bool false, .int .i64 0, .int .i64 0, .slice none 0 0] (t 39) (t 6))<|
O 42 (.nilc (t 0))<|F 43 5 42<|N (.st 1 (t 43) (t 41))<|E))
theorem b153 : bodyO 1118069604768 2286452736 Tryz.prog 153 = some (44, [], c153) := by kernel_rfl
theorem k153 : callOk Tryz.prog 153 = true := by kernel_rfl
/-- leapfrog/leapfrogref08.held -/
def c154 : Go.SL.CC := S (O 2 (.box 53 (t 0))<|O 3 (.box 50 (t 1))<|V 4 (i 0)<|E)<|Q (B 0 (S (M 6 2 3<|C 7 152 [t 6]<|O 5 (.bini .neq (t 7) (i 0))<|E)<|I (t 5) (S (V 4 (i 70)<|E)<|
R) (S (F 10 12 2<|L 11 10<|O 13 (.un .not (t 11))<|H 14 (.fa 13 (t 2)) 13<|H 15 (.ld (some 2) (t 14)) 13<|H 16 (.ld (some 2) (t 3)) 13<|
H 17 (.eqs true [.i, .i] (t 15) (t 16)) 13<|O 9 (.pick (t 13) (b true) (t 17))<|E)<|I (t 9) (S (V 4 (i 71)<|E)<|R) (Z))))<|S (V 4 (i 0)<|E)<|R
theorem b154 : bodyO 0 266496 Tryz.prog 154 = some (19, [.t 4], c154) := by kernel_rfl
theorem k154 : callOk Tryz.prog 154 = true := by kernel_rfl
/-- leapfrog/leapfrogref08.lock -/
def c155 : Go.SL.CC := S (O 1 (.box 53 (t 0))<|V 2 (k (.pointer none))<|F 3 12 1<|L 4 3<|F 5 13 1<|M 6 2 5<|F 7 15 1<|L 8 7<|
O 9 (.agg [.c (t 4) 0 1, .c (t 6) 0 2, .c (t 6) 1 2, .c (t 8) 0 1])<|O 2 (.box 270 (t 9))<|E)<|R
theorem b155 : bodyO 0 1024 Tryz.prog 155 = some (11, [.t 2], c155) := by kernel_rfl
theorem k155 : callOk Tryz.prog 155 = true := by kernel_rfl
/-- leapfrog/leapfrogref08.back -/
def c157 : Go.SL.CC := S (O 2 (.box 53 (t 0))<|
O 4 (.new 53 #[.int .i64 0, .int .u64 0, .int .i64 0, .int .i64 0, .int .u64 0, .int .i64 0, .int .u64 0, .int .i64 0, .int .i64 0, .int .u64 0, .int .i64 0, .int .u64 0, .bool false, .int .i64 0, .int .i64 0, .slice none 0 0])<|
F 7 0 1<|L 8 7<|F 11 1 1<|M 12 2 11<|F 15 3 1<|L 16 15<|F 17 12 2<|N (.st 1 (t 17) (t 8))<|A 12 (.ld (some 2) (t 11))<|A 16 (.ld none (t 15))<|F 18 13 2<|
N (.st 2 (t 18) (t 12))<|A 16 (.ld none (t 15))<|F 19 15 2<|N (.st 1 (t 19) (t 16))<|M 20 16 2<|N (.st 16 (t 4) (t 20))<|E)<|R
theorem b157 : bodyO 8736 17472 Tryz.prog 157 = some (21, [.c 4 (some 16)], c157) := by kernel_rfl
theorem k157 : callOk Tryz.prog 157 = true := by kernel_rfl
/-- (*leapfrog/leapfrogref08.Links).Put -/
def c89 : Go.SL.CC := S (O 6 (.box 36 (t 1))<|O 7 (.box 38 (t 2))<|O 8 (.box 38 (t 3))<|O 9 (.box 50 (t 4))<|V 10 (i 0)<|C 15 82 [t 0]<|H 17 (.ld (some 2) (t 6)) 15<|
H 18 (.call (f 31) [t 0, t 17]) 15<|H 19 (.un .not (t 18)) 15<|O 20 (.pick (t 15) (b true) (t 19))<|E)<|Q (I (t 20) (S (V 10 (i 80)<|E)<|R) (Z))<|S (M 23 2 6<|
C 24 81 [t 0, t 23]<|X 25 24 0<|X 12 24 1<|E)<|Q (B 0 (S (V 27 (t 12)<|E)<|I (t 27) (S (V 10 (i 81)<|E)<|R) (S (M 31 5 7<|C 32 150 [t 0, t 31]<|
O 34 (.un .not (t 32))<|H 36 (.ld (some 5) (t 8)) 34<|H 37 (.call (f 151) [t 0, t 36]) 34<|H 38 (.un .not (t 37)) 34<|O 29 (.pick (t 34) (b true) (t 38))<|E)<|
I (t 29) (S (V 10 (i 83)<|E)<|R) (S (M 41 2 9<|C 42 152 [t 41]<|O 40 (.bini .neq (t 42) (i 0))<|E)<|I (t 40) (S (V 10 (i 70)<|E)<|R) (Z)))))<|S (M 45 2 6<|
M 46 5 7<|M 47 5 8<|M 48 2 9<|
O 49 (.agg [.c (t 45) 0 2, .c (t 45) 1 2, .c (t 46) 0 5, .c (t 46) 1 5, .c (t 46) 2 5, .c (t 46) 3 5, .c (t 46) 4 5, .c (t 47) 0 5, .c (t 47) 1 5, .c (t 47) 2 5, .c (t 47) 3 5, .c (t 47) 4 5, .c (b true) 0 1, .c (t 48) 0 2, .c (t 48) 1 2, .z (.slice none 0 0)])<|
C 50 153 [t 0, t 49]<|V 10 (i 0)<|E)<|R
theorem b89 : bodyO 17627894327296 9354505895936 Tryz.prog 89 = some (51, [.t 10], c89) := by kernel_rfl
theorem k89 : callOk Tryz.prog 89 = true := by kernel_rfl
/-- (*leapfrog/leapfrogref08.Links).Out -/
def c90 : Go.SL.CC := S (O 4 (.box 36 (t 1))<|O 5 (.box 50 (t 2))<|V 6 (k (.slice none 0 0))<|V 7 (i 0)<|M 15 2 4<|C 16 27 [t 0, t 15]<|X 17 16 0<|X 18 16 1<|
O 8 (.new 53 #[.int .i64 0, .int .u64 0, .int .i64 0, .int .i64 0, .int .u64 0, .int .i64 0, .int .u64 0, .int .i64 0, .int .i64 0, .int .u64 0, .int .i64 0, .int .u64 0, .bool false, .int .i64 0, .int .i64 0, .slice none 0 0])<|
N (.st 16 (t 8) (t 17))<|O 20 (.un .not (t 18))<|E)<|Q (I (t 20) (S (V 6 (k (.slice none 0 0))<|V 7 (i 82)<|E)<|R) (Z))<|S (C 22 82 [t 0]<|E)<|
Q (I (t 22) (S (V 6 (k (.slice none 0 0))<|V 7 (i 80)<|E)<|R) (Z))<|S (M 23 16 8<|M 24 2 5<|C 10 154 [t 23, t 24]<|O 27 (.bini .neq (t 10) (i 0))<|E)<|
Q (I (t 27) (S (V 6 (k (.slice none 0 0))<|V 7 (t 10)<|E)<|R) (Z))<|S (M 31 2 4<|C 32 81 [t 0, t 31]<|X 33 32 0<|X 34 32 1<|F 39 5 0<|L 40 39<|
O 42 (.sl 16 (t 40) none (some (t 33)) none)<|F 46 5 0<|L 47 46<|O 49 (.bini .add (t 33) (i 1))<|O 50 (.sl 16 (t 47) (some (t 49)) none none)<|
O 36 (.bsl 53 [] 0)<|
O 43 (.ap 53 16 144 #[.int .i64 0, .int .u64 0, .int .i64 0, .int .i64 0, .int .u64 0, .int .i64 0, .int .u64 0, .int .i64 0, .int .i64 0, .int .u64 0, .int .i64 0, .int .u64 0, .bool false, .int .i64 0, .int .i64 0, .slice none 0 0] (t 36) (t 42))<|
A 47 (.ld none (t 46))<|
O 51 (.ap 53 16 144 #[.int .i64 0, .int .u64 0, .int .i64 0, .int .i64 0, .int .u64 0, .int .i64 0, .int .u64 0, .int .i64 0, .int .i64 0, .int .u64 0, .int .i64 0, .int .u64 0, .bool false, .int .i64 0, .int .i64 0, .slice none 0 0] (t 43) (t 50))<|
F 53 5 0<|N (.st 1 (t 53) (t 51))<|F 54 15 8<|L 6 54<|V 7 (i 0)<|E)<|R
theorem b90 : bodyO 301439933512192 40567855929884672 Tryz.prog 90 = some (56, [.t 6, .t 7], c90) := by kernel_rfl
theorem k90 : callOk Tryz.prog 90 = true := by kernel_rfl
/-- (*leapfrog/leapfrogref08.Links).Left -/
def c92 : Go.SL.CC := S (O 4 (.box 36 (t 1))<|O 5 (.box 38 (t 2))<|V 6 (i 0)<|M 11 2 4<|C 12 27 [t 0, t 11]<|X 13 12 0<|X 14 12 1<|
O 7 (.new 53 #[.int .i64 0, .int .u64 0, .int .i64 0, .int .i64 0, .int .u64 0, .int .i64 0, .int .u64 0, .int .i64 0, .int .i64 0, .int .u64 0, .int .i64 0, .int .u64 0, .bool false, .int .i64 0, .int .i64 0, .slice none 0 0])<|
N (.st 16 (t 7) (t 13))<|V 8 (t 14)<|E)<|Q (B 0 (S (O 15 (.un .not (t 8))<|E)<|I (t 15) (S (V 6 (i 82)<|E)<|R) (S (M 20 5 5<|C 21 150 [t 0, t 20]<|
O 18 (.un .not (t 21))<|E)<|I (t 18) (S (V 6 (i 83)<|E)<|R) (Z))))<|S (M 23 5 5<|F 24 2 7<|N (.st 5 (t 24) (t 23))<|M 26 16 7<|C 27 153 [t 0, t 26]<|V 6 (i 0)<|
E)<|R
theorem b92 : bodyO 34145792 4325376 Tryz.prog 92 = some (28, [.t 6], c92) := by kernel_rfl
theorem k92 : callOk Tryz.prog 92 = true := by kernel_rfl
/-- (*leapfrog/leapfrogref08.Links).Right -/
def c93 : Go.SL.CC := S (O 5 (.box 36 (t 1))<|O 6 (.box 38 (t 2))<|O 7 (.box 50 (t 3))<|V 8 (i 0)<|M 14 2 5<|C 15 27 [t 0, t 14]<|X 16 15 0<|X 17 15 1<|
O 9 (.new 53 #[.int .i64 0, .int .u64 0, .int .i64 0, .int .i64 0, .int .u64 0, .int .i64 0, .int .u64 0, .int .i64 0, .int .i64 0, .int .u64 0, .int .i64 0, .int .u64 0, .bool false, .int .i64 0, .int .i64 0, .slice none 0 0])<|
N (.st 16 (t 9) (t 16))<|O 19 (.un .not (t 17))<|E)<|Q (I (t 19) (S (V 8 (i 82)<|E)<|R) (Z))<|S (M 20 16 9<|M 21 2 7<|C 11 154 [t 20, t 21]<|
O 24 (.bini .neq (t 11) (i 0))<|E)<|Q (I (t 24) (S (V 8 (t 11)<|E)<|R) (Z))<|S (M 27 5 6<|C 28 151 [t 0, t 27]<|O 29 (.un .not (t 28))<|E)<|
Q (I (t 29) (S (V 8 (i 83)<|E)<|R) (Z))<|S (M 30 5 6<|F 31 7 9<|N (.st 5 (t 31) (t 30))<|M 33 16 9<|C 34 153 [t 0, t 33]<|V 8 (i 0)<|E)<|R
theorem b93 : bodyO 4404294656 4194304 Tryz.prog 93 = some (35, [.t 8], c93) := by kernel_rfl
theorem k93 : callOk Tryz.prog 93 = true := by kernel_rfl
/-- (*leapfrog/leapfrogref08.Links).Lock -/
def c94 : Go.SL.CC := S (O 4 (.box 36 (t 1))<|O 5 (.box 50 (t 2))<|V 6 (b false)<|V 7 (i 0)<|M 15 2 4<|C 16 27 [t 0, t 15]<|X 17 16 0<|X 18 16 1<|
O 8 (.new 53 #[.int .i64 0, .int .u64 0, .int .i64 0, .int .i64 0, .int .u64 0, .int .i64 0, .int .u64 0, .int .i64 0, .int .i64 0, .int .u64 0, .int .i64 0, .int .u64 0, .bool false, .int .i64 0, .int .i64 0, .slice none 0 0])<|
N (.st 16 (t 8) (t 17))<|O 20 (.un .not (t 18))<|E)<|Q (I (t 20) (S (V 6 (b false)<|V 7 (i 82)<|E)<|R) (Z))<|S (M 21 16 8<|C 22 155 [t 21]<|M 25 2 5<|
C 26 156 [t 22, t 25]<|X 27 26 0<|X 28 26 1<|M 30 16 8<|C 32 157 [t 30, t 22]<|C 33 153 [t 0, t 32]<|V 6 (t 27)<|V 7 (t 28)<|E)<|R
theorem b94 : bodyO 54249684480 0 Tryz.prog 94 = some (36, [.t 6, .t 7], c94) := by kernel_rfl
theorem k94 : callOk Tryz.prog 94 = true := by kernel_rfl
/-- (*leapfrog/leapfrogref08.Links).Free -/
def c96 : Go.SL.CC := S (O 4 (.box 36 (t 1))<|O 5 (.box 50 (t 2))<|O 6 (.new 50 #[.int .i64 0, .int .i64 0])<|V 7 (b false)<|V 8 (i 0)<|M 17 2 4<|C 18 27 [t 0, t 17]<|X 19 18 0<|
X 20 18 1<|
O 9 (.new 53 #[.int .i64 0, .int .u64 0, .int .i64 0, .int .i64 0, .int .u64 0, .int .i64 0, .int .u64 0, .int .i64 0, .int .i64 0, .int .u64 0, .int .i64 0, .int .u64 0, .bool false, .int .i64 0, .int .i64 0, .slice none 0 0])<|
N (.st 16 (t 9) (t 19))<|O 22 (.un .not (t 20))<|E)<|Q (I (t 22) (S (O 23 (.agg [.z (.int .i64 0), .z (.int .i64 0)])<|N (.st 2 (t 6) (t 23))<|V 7 (b false)<|
V 8 (i 82)<|E)<|R) (Z))<|S (M 24 16 9<|C 25 155 [t 24]<|M 28 2 5<|C 29 159 [t 25, t 28]<|X 30 29 0<|X 31 29 1<|X 32 29 2<|
O 12 (.new 50 #[.int .i64 0, .int .i64 0])<|N (.st 2 (t 12) (t 30))<|M 34 16 9<|C 36 157 [t 34, t 25]<|C 37 153 [t 0, t 36]<|M 38 2 12<|N (.st 2 (t 6) (t 38))<|
V 7 (t 31)<|V 8 (t 32)<|E)<|R
theorem b96 : bodyO 1692420664320 0 Tryz.prog 96 = some (41, [.c 6 (some 2), .t 7, .t 8], c96) := by kernel_rfl
theorem k96 : callOk Tryz.prog 96 = true := by kernel_rfl
/-- (*leapfrog/leapfrogref08.Links).All -/
def c35 : Go.SL.CC := S (V 2 (k (.slice none 0 0))<|V 3 (k (.slice none 0 0))<|V 4 (i 0)<|E)<|Q (P 0 (S (F 8 5 0<|L 9 8<|O 10 (.ln (t 9))<|O 11 (.bini .lss (t 4) (t 10))<|E)<|
Q (I (t 11) (Z) (J 0))<|Q (B 1 (S (C 15 82 [t 0]<|O 17 (.un .not (t 15))<|H 20 (.fa 5 (t 0)) 17<|H 21 (.ld none (t 20)) 17<|H 23 (.ia 16 (t 21) (t 4)) 17<|
H 24 (.ld (some 16) (t 23)) 17<|H 28 (.fa 5 (t 0)) 17<|H 29 (.ld none (t 28)) 17<|H 31 (.ia 16 (t 29) (t 4)) 17<|H 32 (.fa 0 (t 31)) 17<|
H 33 (.ld (some 2) (t 32)) 17<|H 34 (.call (f 83) [t 0, t 33]) 17<|.ag ⟨some 21, .ld none (t 20), some (17, false)⟩<|
.ag ⟨some 24, .ld (some 16) (t 23), some (17, false)⟩<|H 35 (.call (f 28) [t 24, t 34]) 17<|H 36 (.un .not (t 35)) 17<|O 37 (.pick (t 17) (b true) (t 36))<|E)<|
I (t 37) (Y (F 41 5 0<|L 42 41<|O 44 (.ia 16 (t 42) (t 4))<|M 45 16 44<|
O 46 (.bsl 53 [.c (t 45) 0 16, .c (t 45) 1 16, .c (t 45) 2 16, .c (t 45) 3 16, .c (t 45) 4 16, .c (t 45) 5 16, .c (t 45) 6 16, .c (t 45) 7 16, .c (t 45) 8 16, .c (t 45) 9 16, .c (t 45) 10 16, .c (t 45) 11 16, .c (t 45) 12 16, .c (t 45) 13 16, .c (t 45) 14 16, .c (t 45) 15 16] 1)<|
O 3 (.ap 53 16 144 #[.int .i64 0, .int .u64 0, .int .i64 0, .int .i64 0, .int .u64 0, .int .i64 0, .int .u64 0, .int .i64 0, .int .i64 0, .int .u64 0, .int .i64 0, .int .u64 0, .bool false, .int .i64 0, .int .i64 0, .slice none 0 0] (t 3) (t 46))<|
E)) (Z)))<|Y (O 4 (.bini .add (t 4) (i 1))<|E)))<|S (V 2 (t 3)<|E)<|R
theorem b35 : bodyO 291096882335840 141837134798976 Tryz.prog 35 = some (49, [.t 2], c35) := by kernel_rfl
theorem k35 : callOk Tryz.prog 35 = true := by kernel_rfl
/-- leapfrog/leapfrogref08.SameAll -/
def c33 : Go.SL.CC := S (V 4 (b false)<|O 7 (.ln (t 0))<|O 9 (.ln (t 1))<|O 10 (.bini .neq (t 7) (t 9))<|E)<|Q (I (t 10) (S (V 4 (b false)<|E)<|R) (Z))<|S (V 5 (i 0)<|E)<|
Q (P 0 (S (O 13 (.ln (t 0))<|O 14 (.bini .lss (t 5) (t 13))<|E)<|Q (I (t 14) (Z) (J 0))<|Q (B 1 (S (O 19 (.ia 16 (t 0) (t 5))<|M 20 16 19<|
O 23 (.ia 16 (t 1) (t 5))<|M 24 16 23<|C 25 28 [t 20, t 24]<|O 26 (.un .not (t 25))<|E)<|I (t 26) (S (V 4 (b false)<|E)<|R) (Z)))<|
Y (O 5 (.bini .add (t 5) (i 1))<|E)))<|S (V 4 (b true)<|E)<|R
theorem b33 : bodyO 6723904 65536 Tryz.prog 33 = some (27, [.t 4], c33) := by kernel_rfl
theorem k33 : callOk Tryz.prog 33 = true := by kernel_rfl
/-- leapfrog/leapfroglaw08.step -/
def c32 : Go.SL.CC := S (O 5 (.box 78 (t 2))<|V 6 (b false)<|F 21 0 5<|L 22 21<|E)<|Q (B 0 (S (O 23 (.bini .eql (t 22) (i 1))<|E)<|I (t 23) (S (F 26 1 5<|M 27 2 26<|F 28 3 5<|
M 29 5 28<|F 30 8 5<|M 31 5 30<|F 32 13 5<|M 33 2 32<|F 36 1 5<|M 37 2 36<|F 38 3 5<|M 39 5 38<|F 40 8 5<|M 41 5 40<|F 42 13 5<|M 43 2 42<|
C 34 70 [t 0, t 27, t 29, t 31, t 33]<|A 37 (.ld (some 2) (t 36))<|A 39 (.ld (some 5) (t 38))<|A 41 (.ld (some 5) (t 40))<|A 43 (.ld (some 2) (t 42))<|
C 44 89 [t 1, t 37, t 39, t 41, t 43]<|O 6 (.bini .eql (t 34) (t 44))<|E)<|R) (S (O 46 (.bini .eql (t 22) (i 2))<|E)<|I (t 46) (S (F 50 1 5<|M 51 2 50<|
F 52 13 5<|M 53 2 52<|C 54 75 [t 0, t 51, t 53]<|X 55 54 0<|X 56 54 1<|F 59 1 5<|M 60 2 59<|F 61 13 5<|M 62 2 61<|C 63 90 [t 1, t 60, t 62]<|X 64 63 0<|
X 65 63 1<|C 69 84 [t 55, t 64]<|G 72 (.bini .eql (t 56) (t 65)) 69<|O 6 (.pick (t 69) (t 72) (b false))<|E)<|R) (S (O 74 (.bini .eql (t 22) (i 3))<|E)<|
I (t 74) (S (F 77 1 5<|M 78 2 77<|F 79 3 5<|M 80 5 79<|F 83 1 5<|M 84 2 83<|F 85 3 5<|M 86 5 85<|C 81 91 [t 0, t 78, t 80]<|A 84 (.ld (some 2) (t 83))<|
A 86 (.ld (some 5) (t 85))<|C 87 92 [t 1, t 84, t 86]<|O 6 (.bini .eql (t 81) (t 87))<|E)<|R) (S (O 89 (.bini .eql (t 22) (i 4))<|E)<|I (t 89) (S (F 92 1 5<|
M 93 2 92<|F 94 3 5<|M 95 5 94<|F 96 13 5<|M 97 2 96<|F 100 1 5<|M 101 2 100<|F 102 3 5<|M 103 5 102<|F 104 13 5<|M 105 2 104<|C 98 73 [t 0, t 93, t 95, t 97]<|
A 101 (.ld (some 2) (t 100))<|A 103 (.ld (some 5) (t 102))<|A 105 (.ld (some 2) (t 104))<|C 106 93 [t 1, t 101, t 103, t 105]<|O 6 (.bini .eql (t 98) (t 106))<|
E)<|R) (S (O 108 (.bini .eql (t 22) (i 5))<|E)<|I (t 108) (S (F 112 1 5<|M 113 2 112<|F 114 13 5<|M 115 2 114<|C 116 74 [t 0, t 113, t 115]<|X 117 116 0<|
X 118 116 1<|F 121 1 5<|M 122 2 121<|F 123 13 5<|M 124 2 123<|C 125 94 [t 1, t 122, t 124]<|X 126 125 0<|X 127 125 1<|O 131 (.cmp .b false (t 117) (t 126))<|
G 134 (.bini .eql (t 118) (t 127)) 131<|O 6 (.pick (t 131) (t 134) (b false))<|E)<|R) (S (O 136 (.bini .eql (t 22) (i 6))<|E)<|I (t 136) (S (F 140 1 5<|
M 141 2 140<|F 142 13 5<|M 143 2 142<|C 144 95 [t 0, t 141, t 143]<|X 145 144 0<|X 146 144 1<|X 147 144 2<|O 15 (.new 50 #[.int .i64 0, .int .i64 0])<|
N (.st 2 (t 15) (t 145))<|F 150 1 5<|M 151 2 150<|F 152 13 5<|M 153 2 152<|C 154 96 [t 1, t 151, t 153]<|X 155 154 0<|X 156 154 1<|X 157 154 2<|
O 18 (.new 50 #[.int .i64 0, .int .i64 0])<|N (.st 2 (t 18) (t 155))<|M 158 2 15<|M 159 2 18<|O 161 (.eqs false [.i, .i] (t 158) (t 159))<|
G 164 (.cmp .b false (t 146) (t 156)) 161<|O 166 (.pick (t 161) (t 164) (b false))<|G 169 (.bini .eql (t 147) (t 157)) 166<|
O 6 (.pick (t 166) (t 169) (b false))<|E)<|R) (Z))))))))<|S (V 6 (b true)<|E)<|R
theorem b32 : bodyO 578755719881510914709513436236391535649765839306624 1544807230877906229649677170270159135555410783633408 Tryz.prog 32 = some (171, [.t 6], c32) := by kernel_rfl
theorem k32 : callOk Tryz.prog 32 = true := by kernel_rfl
/-- leapfrog/leapfroglaw08.LinkRuns -/
def c6 : Go.SL.CC := S (O 2 (.box 38 (t 0))<|V 4 (b false)<|C 14 23 []<|O 15 (.un .not (t 14))<|E)<|Q (I (t 15) (S (V 4 (b false)<|E)<|R) (Z))<|S (M 17 5 2<|C 18 24 [t 17]<|
X 19 18 0<|X 20 18 1<|V 5 (t 19)<|M 22 5 2<|C 23 25 [t 22]<|X 24 23 0<|X 25 23 1<|V 7 (t 24)<|O 29 (.bini .neq (t 20) (t 25))<|
H 31 (.cmp .p false (t 5) (k (.pointer none))) 29<|H 33 (.cmp .p false (t 7) (k (.pointer none))) 29<|H 34 (.cmp .b true (t 31) (t 33)) 29<|
O 35 (.pick (t 29) (b true) (t 34))<|E)<|Q (I (t 35) (S (V 4 (b false)<|E)<|R) (Z))<|S (V 9 (i 0)<|E)<|Q (P 0 (S (O 38 (.ln (t 1))<|
O 40 (.bini .lss (t 9) (t 38))<|G 42 (.bini .lss (t 9) (i 60)) 40<|O 44 (.pick (t 40) (t 42) (b false))<|G 46 (.cmp .p true (t 7) (k (.pointer none))) 44<|
O 47 (.pick (t 44) (t 46) (b false))<|E)<|Q (I (t 47) (Z) (J 0))<|Q (B 1 (S (O 54 (.ia 15 (t 1) (t 9))<|F 55 1 54<|M 56 2 55<|C 57 26 [t 5, t 56]<|X 58 57 0<|
X 59 57 1<|
O 10 (.new 53 #[.int .i64 0, .int .u64 0, .int .i64 0, .int .i64 0, .int .u64 0, .int .i64 0, .int .u64 0, .int .i64 0, .int .i64 0, .int .u64 0, .int .i64 0, .int .u64 0, .bool false, .int .i64 0, .int .i64 0, .slice none 0 0])<|
N (.st 16 (t 10) (t 58))<|O 64 (.ia 15 (t 1) (t 9))<|F 65 1 64<|M 66 2 65<|C 67 27 [t 7, t 66]<|X 68 67 0<|X 69 67 1<|
O 12 (.new 53 #[.int .i64 0, .int .u64 0, .int .i64 0, .int .i64 0, .int .u64 0, .int .i64 0, .int .u64 0, .int .i64 0, .int .i64 0, .int .u64 0, .int .i64 0, .int .u64 0, .bool false, .int .i64 0, .int .i64 0, .slice none 0 0])<|
N (.st 16 (t 12) (t 68))<|M 70 16 10<|M 71 16 12<|C 72 28 [t 70, t 71]<|O 74 (.un .not (t 72))<|H 75 (.ld (some 16) (t 10)) 74<|H 76 (.ld (some 16) (t 12)) 74<|
H 77 (.call (f 29) [t 75, t 76]) 74<|H 78 (.un .not (t 77)) 74<|O 80 (.pick (t 74) (b true) (t 78))<|H 83 (.cmp .b true (t 59) (t 69)) 80<|
O 85 (.pick (t 80) (b true) (t 83))<|H 89 (.ia 15 (t 1) (t 9)) 85<|H 90 (.fa 1 (t 89)) 85<|H 91 (.ld (some 2) (t 90)) 85<|H 96 (.ia 15 (t 1) (t 9)) 85<|
H 97 (.fa 1 (t 96)) 85<|H 98 (.ld (some 2) (t 97)) 85<|H 92 (.call (f 30) [t 5, t 91]) 85<|.ag ⟨some 98, .ld (some 2) (t 97), some (85, false)⟩<|
H 99 (.call (f 31) [t 7, t 98]) 85<|H 100 (.cmp .b true (t 92) (t 99)) 85<|O 102 (.pick (t 85) (b true) (t 100))<|H 107 (.ia 15 (t 1) (t 9)) 102<|
H 108 (.ld (some 15) (t 107)) 102<|H 109 (.call (f 32) [t 5, t 7, t 108]) 102<|H 110 (.un .not (t 109)) 102<|O 112 (.pick (t 102) (b true) (t 110))<|
H 114 (.call (f 34) [t 5]) 112<|H 116 (.call (f 35) [t 7]) 112<|H 117 (.call (f 33) [t 114, t 116]) 112<|H 118 (.un .not (t 117)) 112<|
O 119 (.pick (t 112) (b true) (t 118))<|E)<|I (t 119) (S (V 4 (b false)<|E)<|R) (Z)))<|Y (O 9 (.bini .add (t 9) (i 1))<|E)))<|S (V 4 (b true)<|E)<|R
theorem b6 : bodyO 52075156530870203210851745152444736 2598683750424591030247658314792960 Tryz.prog 6 = some (120, [.t 4], c6) := by kernel_rfl
theorem k6 : callOk Tryz.prog 6 = true := by kernel_rfl
end Go.Proofs.YtnipmjpdklbbcaaGreat
