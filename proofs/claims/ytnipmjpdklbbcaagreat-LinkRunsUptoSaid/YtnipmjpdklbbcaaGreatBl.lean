/- The bodies of some functions of the program, without their noise, and that they are these. Conditions: none. Written by a program of this workplace (Print.lean). -/
import Derived.Test.YtnipmjpdklbbcaaGreatProg
import Derived.Test.YtnipmjpdklbbcaaGreatSlW
import Derived.KernelRfl
namespace Go.Proofs.YtnipmjpdklbbcaaGreat
open Go.SL Go.SL.W
set_option maxRecDepth 100000

/-- leapfrog/lock.New -/
def c138 : Go.SL.CC := S (V 0 (k (.pointer none))<|O 1 (.agg [.c (b true) 0 1, .z (.bool false), .z (.int .i64 0), .z (.int .i64 0), .z (.slice none 0 0)])<|O 0 (.box 265 (t 1))<|E)<|
R
theorem b138 : bodyO 0 4 Tryz.prog 138 = some (3, [.t 0], c138) := by kernel_rfl
theorem k138 : callOk Tryz.prog 138 = true := by kernel_rfl
/-- (*leapfrog/lock.Lock).Ask -/
def c139 : Go.SL.CC := S (O 3 (.box 50 (t 1))<|V 4 (b false)<|V 5 (i 0)<|M 8 2 3<|C 6 198 [t 0, t 8]<|O 11 (.bini .neq (t 6) (i 0))<|E)<|Q (I (t 11) (S (V 4 (b false)<|V 5 (t 6)<|E)<|
R) (Z))<|Q (B 0 (S (F 16 1 0<|L 18 16<|G 21 (.fa 2 (t 0)) 18<|G 22 (.ld (some 2) (t 21)) 18<|G 23 (.ld (some 2) (t 3)) 18<|
G 24 (.eqs false [.i, .i] (t 22) (t 23)) 18<|O 13 (.pick (t 18) (t 24) (b false))<|E)<|I (t 13) (S (V 4 (b true)<|V 5 (i 0)<|E)<|R) (S (F 29 4 0<|L 30 29<|
M 31 2 3<|C 26 199 [t 30, t 31]<|E)<|I (t 26) (S (V 4 (b false)<|V 5 (i 0)<|E)<|R) (S (F 36 1 0<|L 37 36<|O 33 (.un .not (t 37))<|E)<|I (t 33) (S (M 41 2 3<|
F 43 1 0<|N (.st 1 (t 43) (b true))<|A 41 (.ld (some 2) (t 3))<|F 45 2 0<|N (.st 2 (t 45) (t 41))<|V 4 (b true)<|V 5 (i 0)<|E)<|R) (S (F 49 4 0<|L 50 49<|
O 51 (.ln (t 50))<|O 46 (.bini .geq (t 51) (i 64))<|E)<|I (t 46) (S (V 4 (b false)<|V 5 (i 3)<|E)<|R) (Z))))))<|S (F 56 4 0<|L 57 56<|F 60 4 0<|L 61 60<|
O 62 (.ln (t 61))<|F 65 4 0<|L 66 65<|O 67 (.ln (t 66))<|O 68 (.sl 2 (t 57) none (some (t 62)) (some (t 67)))<|M 69 2 3<|
O 70 (.bsl 50 [.c (t 69) 0 2, .c (t 69) 1 2] 1)<|O 71 (.ap 50 2 16 #[.int .i64 0, .int .i64 0] (t 68) (t 70))<|F 73 4 0<|N (.st 1 (t 73) (t 71))<|
V 4 (b false)<|V 5 (i 0)<|E)<|R
theorem b139 : bodyO 9538766414841140352 4741430523871349604864 Tryz.prog 139 = some (74, [.t 4, .t 5], c139) := by kernel_rfl
theorem k139 : callOk Tryz.prog 139 = true := by kernel_rfl
/-- (*leapfrog/lock.Lock).Waits -/
def c142 : Go.SL.CC := S (V 2 (k (.slice none 0 0))<|C 4 200 [t 0]<|O 5 (.un .not (t 4))<|E)<|Q (I (t 5) (S (V 2 (k (.slice none 0 0))<|E)<|R) (Z))<|S (F 8 4 0<|L 9 8<|C 2 201 [t 9]<|
E)<|R
theorem b142 : bodyO 72 1152 Tryz.prog 142 = some (11, [.t 2], c142) := by kernel_rfl
theorem k142 : callOk Tryz.prog 142 = true := by kernel_rfl
/-- (*leapfrog/lock.Lock).Free -/
def c158 : Go.SL.CC := S (O 3 (.box 50 (t 1))<|O 4 (.new 50 #[.int .i64 0, .int .i64 0])<|V 5 (b false)<|V 6 (i 0)<|M 9 2 3<|C 7 198 [t 0, t 9]<|O 12 (.bini .neq (t 7) (i 0))<|E)<|
Q (I (t 12) (S (O 13 (.agg [.z (.int .i64 0), .z (.int .i64 0)])<|N (.st 2 (t 4) (t 13))<|V 5 (b false)<|V 6 (t 7)<|E)<|R) (Z))<|S (F 17 1 0<|L 18 17<|
O 20 (.un .not (t 18))<|H 23 (.fa 2 (t 0)) 20<|H 24 (.ld (some 2) (t 23)) 20<|H 25 (.ld (some 2) (t 3)) 20<|H 26 (.eqs true [.i, .i] (t 24) (t 25)) 20<|
O 27 (.pick (t 20) (b true) (t 26))<|E)<|Q (I (t 27) (S (O 28 (.agg [.z (.int .i64 0), .z (.int .i64 0)])<|N (.st 2 (t 4) (t 28))<|V 5 (b false)<|V 6 (i 71)<|
E)<|R) (Z))<|S (F 31 4 0<|L 32 31<|O 33 (.ln (t 32))<|O 34 (.bini .eql (t 33) (i 0))<|E)<|Q (I (t 34) (S (O 37 (.agg [.z (.int .i64 0), .z (.int .i64 0)])<|
F 39 1 0<|N (.st 1 (t 39) (b false))<|F 41 2 0<|N (.st 2 (t 41) (t 37))<|O 42 (.agg [.z (.int .i64 0), .z (.int .i64 0)])<|N (.st 2 (t 4) (t 42))<|
V 5 (b false)<|V 6 (i 0)<|E)<|R) (Z))<|S (F 47 4 0<|L 48 47<|O 49 (.ia 2 (t 48) (i 0))<|M 50 2 49<|F 53 4 0<|L 54 53<|F 57 4 0<|L 58 57<|O 59 (.ln (t 58))<|
F 62 4 0<|L 63 62<|O 64 (.ln (t 63))<|O 65 (.sl 2 (t 54) (some (i 1)) (some (t 59)) (some (t 64)))<|F 67 2 0<|N (.st 2 (t 67) (t 50))<|F 69 4 0<|
N (.st 1 (t 69) (t 65))<|F 72 2 0<|M 73 2 72<|N (.st 2 (t 4) (t 73))<|V 5 (b true)<|V 6 (i 0)<|E)<|R
theorem b158 : bodyO 1181782884495120189696 2732500598856104870912 Tryz.prog 158 = some (74, [.c 4 (some 2), .t 5, .t 6], c158) := by kernel_rfl
theorem k158 : callOk Tryz.prog 158 = true := by kernel_rfl
/-- (*leapfrog/lock.Lock).Holder -/
def c143 : Go.SL.CC := S (O 2 (.new 50 #[.int .i64 0, .int .i64 0])<|V 3 (b false)<|C 5 200 [t 0]<|O 6 (.un .not (t 5))<|E)<|
Q (I (t 6) (S (O 7 (.agg [.z (.int .i64 0), .z (.int .i64 0)])<|N (.st 2 (t 2) (t 7))<|V 3 (b false)<|E)<|R) (Z))<|S (F 10 2 0<|M 11 2 10<|F 14 1 0<|L 15 14<|
N (.st 2 (t 2) (t 11))<|A 15 (.ld none (t 14))<|V 3 (t 15)<|E)<|R
theorem b143 : bodyO 4368 8704 Tryz.prog 143 = some (16, [.c 2 (some 2), .t 3], c143) := by kernel_rfl
theorem k143 : callOk Tryz.prog 143 = true := by kernel_rfl
/-- (*leapfrog/lock.Lock).End -/
def c141 : Go.SL.CC := S (V 2 (k (.slice none 0 0))<|V 3 (i 0)<|C 6 200 [t 0]<|O 7 (.un .not (t 6))<|E)<|Q (I (t 7) (S (V 2 (k (.slice none 0 0))<|V 3 (i 4)<|E)<|R) (Z))<|
S (F 10 4 0<|L 11 10<|O 15 (.agg [.z (.int .i64 0), .z (.int .i64 0)])<|F 17 1 0<|N (.st 1 (t 17) (b false))<|F 19 2 0<|N (.st 2 (t 19) (t 15))<|F 21 4 0<|
N (.st 1 (t 21) (k (.slice none 0 0)))<|C 2 201 [t 11]<|V 3 (i 0)<|E)<|R
theorem b141 : bodyO 4223280 9765376 Tryz.prog 141 = some (24, [.t 2, .t 3], c141) := by kernel_rfl
theorem k141 : callOk Tryz.prog 141 = true := by kernel_rfl
/-- leapfrog/lock.Check -/
def c137 : Go.SL.CC := S (O 1 (.box 50 (t 0))<|V 2 (i 0)<|F 3 0 1<|L 4 3<|O 6 (.bini .lss (t 4) (i 0))<|H 7 (.fa 0 (t 1)) 6<|H 8 (.ld none (t 7)) 6<|
H 9 (.bini .geq (t 8) (i 1024)) 6<|O 11 (.pick (t 6) (b true) (t 9))<|H 12 (.fa 1 (t 1)) 11<|H 13 (.ld none (t 12)) 11<|H 14 (.bini .lss (t 13) (i 1)) 11<|
O 16 (.pick (t 11) (b true) (t 14))<|H 17 (.fa 1 (t 1)) 16<|H 18 (.ld none (t 17)) 16<|H 19 (.bini .gtr (t 18) (i 1073741824)) 16<|
O 20 (.pick (t 16) (b true) (t 19))<|E)<|Q (I (t 20) (S (V 2 (i 70)<|E)<|R) (Z))<|S (V 2 (i 0)<|E)<|R
theorem b137 : bodyO 0 33824 Tryz.prog 137 = some (21, [.t 2], c137) := by kernel_rfl
theorem k137 : callOk Tryz.prog 137 = true := by kernel_rfl
/-- (*leapfrog/lock.Lock).asked -/
def c198 : Go.SL.CC := S (O 3 (.box 50 (t 1))<|V 4 (i 0)<|C 6 200 [t 0]<|O 7 (.un .not (t 6))<|E)<|Q (I (t 7) (S (V 4 (i 4)<|E)<|R) (Z))<|S (M 8 2 3<|C 4 137 [t 8]<|E)<|R
theorem b198 : bodyO 32 512 Tryz.prog 198 = some (10, [.t 4], c198) := by kernel_rfl
theorem k198 : callOk Tryz.prog 198 = true := by kernel_rfl
/-- (*leapfrog/lock.Lock).there -/
def c200 : Go.SL.CC := S (V 2 (b false)<|O 5 (.cmp .p true (t 0) (k (.pointer none)))<|G 8 (.fa 0 (t 0)) 5<|G 9 (.ld none (t 8)) 5<|O 2 (.pick (t 5) (t 9) (b false))<|E)<|R
theorem b200 : bodyO 72 1168 Tryz.prog 200 = some (11, [.t 2], c200) := by kernel_rfl
theorem k200 : callOk Tryz.prog 200 = true := by kernel_rfl
/-- slices.Contains[[]leapfrog/api.Owner,leapfrog/api.Owner] -/
def c199 : Go.SL.CC := S (O 3 (.box 50 (t 1))<|V 4 (b false)<|M 6 2 3<|C 7 236 [t 0, t 6]<|O 4 (.bini .geq (t 7) (i 0))<|E)<|R
theorem b199 : bodyO 32 256 Tryz.prog 199 = some (9, [.t 4], c199) := by kernel_rfl
theorem k199 : callOk Tryz.prog 199 = true := by kernel_rfl
/-- slices.Clone[[]leapfrog/api.Owner,leapfrog/api.Owner] -/
def c201 : Go.SL.CC := S (V 2 (k (.slice none 0 0))<|O 4 (.cmp .sl false (t 0) (k (.slice none 0 0)))<|E)<|Q (I (t 4) (S (V 2 (k (.slice none 0 0))<|E)<|R) (Z))<|
S (O 5 (.bsl 50 [] 0)<|O 2 (.ap 50 2 16 #[.int .i64 0, .int .i64 0] (t 5) (t 0))<|E)<|R
theorem b201 : bodyO 72 128 Tryz.prog 201 = some (8, [.t 2], c201) := by kernel_rfl
theorem k201 : callOk Tryz.prog 201 = true := by kernel_rfl
/-- slices.Index[[]leapfrog/api.Owner,leapfrog/api.Owner] -/
def c236 : Go.SL.CC := S (O 3 (.box 50 (t 1))<|V 4 (i 0)<|O 7 (.ln (t 0))<|V 8 (i 0)<|E)<|Q (P 0 (S (O 9 (.bini .lss (t 8) (t 7))<|E)<|Q (I (t 9) (Z) (J 0))<|Q (B 1 (S (V 5 (t 8)<|
M 11 2 3<|O 14 (.ia 2 (t 0) (t 5))<|M 15 2 14<|O 16 (.eqs false [.i, .i] (t 11) (t 15))<|E)<|I (t 16) (S (V 4 (t 5)<|E)<|R) (Z)))<|
Y (O 8 (.bini .add (t 8) (i 1))<|E)))<|S (V 4 (i (-1))<|E)<|R
theorem b236 : bodyO 144448 262144 Tryz.prog 236 = some (19, [.t 4], c236) := by kernel_rfl
theorem k236 : callOk Tryz.prog 236 = true := by kernel_rfl
/-- leapfrog/leapfrogref07.Same -/
def c45 : Go.SL.CC := S (V 4 (b false)<|O 7 (.ln (t 0))<|O 9 (.ln (t 1))<|O 10 (.bini .neq (t 7) (t 9))<|E)<|Q (I (t 10) (S (V 4 (b false)<|E)<|R) (Z))<|S (V 5 (i 0)<|E)<|
Q (P 0 (S (O 13 (.ln (t 0))<|O 14 (.bini .lss (t 5) (t 13))<|E)<|Q (I (t 14) (Z) (J 0))<|Q (B 1 (S (O 19 (.ia 2 (t 0) (t 5))<|M 20 2 19<|
O 23 (.ia 2 (t 1) (t 5))<|M 24 2 23<|O 25 (.eqs true [.i, .i] (t 20) (t 24))<|E)<|I (t 25) (S (V 4 (b false)<|E)<|R) (Z)))<|Y (O 5 (.bini .add (t 5) (i 1))<|
E)))<|S (V 4 (b true)<|E)<|R
theorem b45 : bodyO 6723904 65536 Tryz.prog 45 = some (26, [.t 4], c45) := by kernel_rfl
theorem k45 : callOk Tryz.prog 45 = true := by kernel_rfl
/-- leapfrog/leapfrogref07.IsOwner -/
def c203 : Go.SL.CC := S (O 1 (.box 50 (t 0))<|V 2 (b false)<|F 3 0 1<|L 4 3<|O 6 (.bini .geq (t 4) (i 0))<|G 7 (.fa 0 (t 1)) 6<|G 8 (.ld none (t 7)) 6<|
G 9 (.bini .lss (t 8) (i 1024)) 6<|O 11 (.pick (t 6) (t 9) (b false))<|G 12 (.fa 1 (t 1)) 11<|G 13 (.ld none (t 12)) 11<|G 14 (.bini .geq (t 13) (i 1)) 11<|
O 16 (.pick (t 11) (t 14) (b false))<|G 17 (.fa 1 (t 1)) 16<|G 18 (.ld none (t 17)) 16<|G 19 (.bini .leq (t 18) (i 1073741824)) 16<|
O 2 (.pick (t 16) (t 19) (b false))<|E)<|R
theorem b203 : bodyO 0 1082400 Tryz.prog 203 = some (21, [.t 2], c203) := by kernel_rfl
theorem k203 : callOk Tryz.prog 203 = true := by kernel_rfl
/-- (*leapfrog/leapfrogref07.Lock).Ask -/
def c156 : Go.SL.CC := S (O 3 (.box 50 (t 1))<|V 4 (b false)<|V 5 (i 0)<|E)<|Q (B 0 (S (M 7 2 3<|C 8 203 [t 7]<|O 6 (.un .not (t 8))<|E)<|I (t 6) (S (V 4 (b false)<|V 5 (i 70)<|E)<|
R) (S (F 13 0 0<|L 15 13<|G 18 (.fa 1 (t 0)) 15<|G 19 (.ld (some 2) (t 18)) 15<|G 20 (.ld (some 2) (t 3)) 15<|G 21 (.eqs false [.i, .i] (t 19) (t 20)) 15<|
O 10 (.pick (t 15) (t 21) (b false))<|E)<|I (t 10) (S (V 4 (b true)<|V 5 (i 0)<|E)<|R) (S (M 25 2 3<|C 26 204 [t 0, t 25]<|O 23 (.bini .geq (t 26) (i 0))<|E)<|
I (t 23) (S (V 4 (b false)<|V 5 (i 0)<|E)<|R) (S (F 31 0 0<|L 32 31<|O 28 (.un .not (t 32))<|E)<|I (t 28) (S (M 36 2 3<|F 38 0 0<|N (.st 1 (t 38) (b true))<|
A 36 (.ld (some 2) (t 3))<|F 40 1 0<|N (.st 2 (t 40) (t 36))<|V 4 (b true)<|V 5 (i 0)<|E)<|R) (S (F 44 3 0<|L 45 44<|O 46 (.ln (t 45))<|
O 41 (.bini .geq (t 46) (i 64))<|E)<|I (t 41) (S (V 4 (b false)<|V 5 (i 3)<|E)<|R) (Z)))))))<|S (F 52 3 0<|L 53 52<|M 55 2 3<|.both (O 49 (.bsl 50 [] 0)<|
.both (O 54 (.ap 50 2 16 #[.int .i64 0, .int .i64 0] (t 49) (t 53))<|A 55 (.ld (some 2) (t 3))<|O 56 (.bsl 50 [.c (t 55) 0 2, .c (t 55) 1 2] 1)<|
O 57 (.ap 50 2 16 #[.int .i64 0, .int .i64 0] (t 54) (t 56))<|O 58 (.nilc (t 0))<|F 59 3 58<|N (.st 1 (t 59) (t 57))<|
E) (O 56 (.bsl 50 [.c (t 55) 0 2, .c (t 55) 1 2] 1)<|O 54 (.ap 50 2 16 #[.int .i64 0, .int .i64 0] (t 49) (t 53))<|A 55 (.ld (some 2) (t 3))<|
O 57 (.ap 50 2 16 #[.int .i64 0, .int .i64 0] (t 54) (t 56))<|O 58 (.nilc (t 0))<|F 59 3 58<|N (.st 1 (t 59) (t 57))<|
E)) (O 56 (.bsl 50 [.c (t 55) 0 2, .c (t 55) 1 2] 1)<|O 49 (.bsl 50 [] 0)<|O 54 (.ap 50 2 16 #[.int .i64 0, .int .i64 0] (t 49) (t 53))<|
A 55 (.ld (some 2) (t 3))<|O 57 (.ap 50 2 16 #[.int .i64 0, .int .i64 0] (t 54) (t 56))<|O 58 (.nilc (t 0))<|F 59 3 58<|N (.st 1 (t 59) (t 57))<|E))<|
S (V 4 (b false)<|V 5 (i 0)<|E)<|R
theorem b156 : bodyO 1411825023387648 2402030392070656 Tryz.prog 156 = some (60, [.t 4, .t 5], c156) := by kernel_rfl
theorem k156 : callOk Tryz.prog 156 = true := by kernel_rfl
/-- (*leapfrog/leapfrogref07.Lock).Free -/
def c159 : Go.SL.CC := S (O 3 (.box 50 (t 1))<|O 4 (.new 50 #[.int .i64 0, .int .i64 0])<|V 5 (b false)<|V 6 (i 0)<|M 7 2 3<|C 8 203 [t 7]<|O 9 (.un .not (t 8))<|E)<|
Q (I (t 9) (S (O 10 (.agg [.z (.int .i64 0), .z (.int .i64 0)])<|N (.st 2 (t 4) (t 10))<|V 5 (b false)<|V 6 (i 70)<|E)<|R) (Z))<|S (F 13 0 0<|L 14 13<|
O 16 (.un .not (t 14))<|H 19 (.fa 1 (t 0)) 16<|H 20 (.ld (some 2) (t 19)) 16<|H 21 (.ld (some 2) (t 3)) 16<|H 22 (.eqs true [.i, .i] (t 20) (t 21)) 16<|
O 23 (.pick (t 16) (b true) (t 22))<|E)<|Q (I (t 23) (S (O 24 (.agg [.z (.int .i64 0), .z (.int .i64 0)])<|N (.st 2 (t 4) (t 24))<|V 5 (b false)<|V 6 (i 71)<|
E)<|R) (Z))<|S (F 27 3 0<|L 28 27<|O 29 (.ln (t 28))<|O 30 (.bini .eql (t 29) (i 0))<|E)<|Q (I (t 30) (S (O 33 (.agg [.z (.int .i64 0), .z (.int .i64 0)])<|
F 35 0 0<|N (.st 1 (t 35) (b false))<|F 37 1 0<|N (.st 2 (t 37) (t 33))<|O 38 (.agg [.z (.int .i64 0), .z (.int .i64 0)])<|N (.st 2 (t 4) (t 38))<|
V 5 (b false)<|V 6 (i 0)<|E)<|R) (Z))<|S (F 42 3 0<|L 43 42<|O 44 (.ia 2 (t 43) (i 0))<|M 45 2 44<|F 47 1 0<|N (.st 2 (t 47) (t 45))<|O 49 (.bsl 50 [] 0)<|
F 52 3 0<|L 53 52<|O 54 (.sl 2 (t 53) (some (i 1)) none none)<|O 55 (.ap 50 2 16 #[.int .i64 0, .int .i64 0] (t 49) (t 54))<|F 57 3 0<|N (.st 1 (t 57) (t 55))<|
F 60 1 0<|M 61 2 60<|N (.st 2 (t 4) (t 61))<|V 5 (b true)<|V 6 (i 0)<|E)<|R
theorem b159 : bodyO 289639406778845184 650842799889223680 Tryz.prog 159 = some (62, [.c 4 (some 2), .t 5, .t 6], c159) := by kernel_rfl
theorem k159 : callOk Tryz.prog 159 = true := by kernel_rfl
/-- (*leapfrog/leapfrogref07.Lock).place -/
def c204 : Go.SL.CC := S (O 3 (.box 50 (t 1))<|V 4 (i 0)<|V 5 (i 0)<|E)<|Q (P 0 (S (F 9 3 0<|L 10 9<|O 11 (.ln (t 10))<|O 12 (.bini .lss (t 5) (t 11))<|E)<|Q (I (t 12) (Z) (J 0))<|
Q (B 1 (S (F 17 3 0<|L 18 17<|O 20 (.ia 2 (t 18) (t 5))<|M 21 2 20<|M 22 2 3<|O 23 (.eqs false [.i, .i] (t 21) (t 22))<|E)<|I (t 23) (S (V 4 (t 5)<|E)<|
R) (Z)))<|Y (O 5 (.bini .add (t 5) (i 1))<|E)))<|S (V 4 (i (-1))<|E)<|R
theorem b204 : bodyO 17342656 82176 Tryz.prog 204 = some (25, [.t 4], c204) := by kernel_rfl
theorem k204 : callOk Tryz.prog 204 = true := by kernel_rfl
end Go.Proofs.YtnipmjpdklbbcaaGreat
