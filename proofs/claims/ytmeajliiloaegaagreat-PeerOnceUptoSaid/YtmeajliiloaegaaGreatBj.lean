/- The bodies of some functions of the program, without their noise, and that they are these. Conditions: none. Written by a program of this workplace (Print.lean). -/
import Derived.Test.YtmeajliiloaegaaGreatProg
import Derived.Test.YtmeajliiloaegaaGreatSlW
import Derived.KernelRfl
namespace Go.Proofs.YtmeajliiloaegaaGreat
open Go.SL Go.SL.W
set_option maxRecDepth 100000

/-- leapfrog/lock.New -/
def c66 : Go.SL.CC := S (V 0 (k (.pointer none))<|O 1 (.agg [.c (b true) 0 1, .z (.bool false), .z (.int .i64 0), .z (.int .i64 0), .z (.slice none 0 0)])<|O 0 (.box 167 (t 1))<|E)<|
R
theorem b66 : bodyO 0 4 Tryz.prog 66 = some (3, [.t 0], c66) := by kernel_rfl
theorem k66 : callOk Tryz.prog 66 = true := by kernel_rfl
/-- (*leapfrog/lock.Lock).Ask -/
def c67 : Go.SL.CC := S (O 3 (.box 45 (t 1))<|V 4 (b false)<|V 5 (i 0)<|M 8 2 3<|C 6 93 [t 0, t 8]<|O 11 (.bini .neq (t 6) (i 0))<|E)<|Q (I (t 11) (S (V 4 (b false)<|V 5 (t 6)<|E)<|
R) (Z))<|Q (B 0 (S (F 16 1 0<|L 18 16<|G 21 (.fa 2 (t 0)) 18<|G 22 (.ld (some 2) (t 21)) 18<|G 23 (.ld (some 2) (t 3)) 18<|
G 24 (.eqs false [.i, .i] (t 22) (t 23)) 18<|O 13 (.pick (t 18) (t 24) (b false))<|E)<|I (t 13) (S (V 4 (b true)<|V 5 (i 0)<|E)<|R) (S (F 29 4 0<|L 30 29<|
M 31 2 3<|C 26 53 [t 30, t 31]<|E)<|I (t 26) (S (V 4 (b false)<|V 5 (i 0)<|E)<|R) (S (F 36 1 0<|L 37 36<|O 33 (.un .not (t 37))<|E)<|I (t 33) (S (M 41 2 3<|
F 43 1 0<|N (.st 1 (t 43) (b true))<|A 41 (.ld (some 2) (t 3))<|F 45 2 0<|N (.st 2 (t 45) (t 41))<|V 4 (b true)<|V 5 (i 0)<|E)<|R) (S (F 49 4 0<|L 50 49<|
O 51 (.ln (t 50))<|O 46 (.bini .geq (t 51) (i 64))<|E)<|I (t 46) (S (V 4 (b false)<|V 5 (i 3)<|E)<|R) (Z))))))<|S (F 56 4 0<|L 57 56<|F 60 4 0<|L 61 60<|
O 62 (.ln (t 61))<|F 65 4 0<|L 66 65<|O 67 (.ln (t 66))<|O 68 (.sl 2 (t 57) none (some (t 62)) (some (t 67)))<|M 69 2 3<|
O 70 (.bsl 45 [.c (t 69) 0 2, .c (t 69) 1 2] 1)<|O 71 (.ap 45 2 16 #[.int .i64 0, .int .i64 0] (t 68) (t 70))<|F 73 4 0<|N (.st 1 (t 73) (t 71))<|
V 4 (b false)<|V 5 (i 0)<|E)<|R
theorem b67 : bodyO 9538766414841140352 4741430523871349604864 Tryz.prog 67 = some (74, [.t 4, .t 5], c67) := by kernel_rfl
theorem k67 : callOk Tryz.prog 67 = true := by kernel_rfl
/-- (*leapfrog/lock.Lock).Waits -/
def c95 : Go.SL.CC := S (V 2 (k (.slice none 0 0))<|C 4 105 [t 0]<|O 5 (.un .not (t 4))<|E)<|Q (I (t 5) (S (V 2 (k (.slice none 0 0))<|E)<|R) (Z))<|S (F 8 4 0<|L 9 8<|C 2 108 [t 9]<|
E)<|R
theorem b95 : bodyO 72 1152 Tryz.prog 95 = some (11, [.t 2], c95) := by kernel_rfl
theorem k95 : callOk Tryz.prog 95 = true := by kernel_rfl
/-- (*leapfrog/lock.Lock).Free -/
def c87 : Go.SL.CC := S (O 3 (.box 45 (t 1))<|O 4 (.new 45 #[.int .i64 0, .int .i64 0])<|V 5 (b false)<|V 6 (i 0)<|M 9 2 3<|C 7 93 [t 0, t 9]<|O 12 (.bini .neq (t 7) (i 0))<|E)<|
Q (I (t 12) (S (O 13 (.agg [.z (.int .i64 0), .z (.int .i64 0)])<|N (.st 2 (t 4) (t 13))<|V 5 (b false)<|V 6 (t 7)<|E)<|R) (Z))<|S (F 17 1 0<|L 18 17<|
O 20 (.un .not (t 18))<|H 23 (.fa 2 (t 0)) 20<|H 24 (.ld (some 2) (t 23)) 20<|H 25 (.ld (some 2) (t 3)) 20<|H 26 (.eqs true [.i, .i] (t 24) (t 25)) 20<|
O 27 (.pick (t 20) (b true) (t 26))<|E)<|Q (I (t 27) (S (O 28 (.agg [.z (.int .i64 0), .z (.int .i64 0)])<|N (.st 2 (t 4) (t 28))<|V 5 (b false)<|V 6 (i 71)<|
E)<|R) (Z))<|S (F 31 4 0<|L 32 31<|O 33 (.ln (t 32))<|O 34 (.bini .eql (t 33) (i 0))<|E)<|Q (I (t 34) (S (O 37 (.agg [.z (.int .i64 0), .z (.int .i64 0)])<|
F 39 1 0<|N (.st 1 (t 39) (b false))<|F 41 2 0<|N (.st 2 (t 41) (t 37))<|O 42 (.agg [.z (.int .i64 0), .z (.int .i64 0)])<|N (.st 2 (t 4) (t 42))<|
V 5 (b false)<|V 6 (i 0)<|E)<|R) (Z))<|S (F 47 4 0<|L 48 47<|O 49 (.ia 2 (t 48) (i 0))<|M 50 2 49<|F 53 4 0<|L 54 53<|F 57 4 0<|L 58 57<|O 59 (.ln (t 58))<|
F 62 4 0<|L 63 62<|O 64 (.ln (t 63))<|O 65 (.sl 2 (t 54) (some (i 1)) (some (t 59)) (some (t 64)))<|F 67 2 0<|N (.st 2 (t 67) (t 50))<|F 69 4 0<|
N (.st 1 (t 69) (t 65))<|F 72 2 0<|M 73 2 72<|N (.st 2 (t 4) (t 73))<|V 5 (b true)<|V 6 (i 0)<|E)<|R
theorem b87 : bodyO 1181782884495120189696 2732500598856104870912 Tryz.prog 87 = some (74, [.c 4 (some 2), .t 5, .t 6], c87) := by kernel_rfl
theorem k87 : callOk Tryz.prog 87 = true := by kernel_rfl
/-- (*leapfrog/lock.Lock).Holder -/
def c88 : Go.SL.CC := S (O 2 (.new 45 #[.int .i64 0, .int .i64 0])<|V 3 (b false)<|C 5 105 [t 0]<|O 6 (.un .not (t 5))<|E)<|
Q (I (t 6) (S (O 7 (.agg [.z (.int .i64 0), .z (.int .i64 0)])<|N (.st 2 (t 2) (t 7))<|V 3 (b false)<|E)<|R) (Z))<|S (F 10 2 0<|M 11 2 10<|F 14 1 0<|L 15 14<|
N (.st 2 (t 2) (t 11))<|A 15 (.ld none (t 14))<|V 3 (t 15)<|E)<|R
theorem b88 : bodyO 4368 8704 Tryz.prog 88 = some (16, [.c 2 (some 2), .t 3], c88) := by kernel_rfl
theorem k88 : callOk Tryz.prog 88 = true := by kernel_rfl
/-- (*leapfrog/lock.Lock).End -/
def c94 : Go.SL.CC := S (V 2 (k (.slice none 0 0))<|V 3 (i 0)<|C 6 105 [t 0]<|O 7 (.un .not (t 6))<|E)<|Q (I (t 7) (S (V 2 (k (.slice none 0 0))<|V 3 (i 4)<|E)<|R) (Z))<|
S (F 10 4 0<|L 11 10<|O 15 (.agg [.z (.int .i64 0), .z (.int .i64 0)])<|F 17 1 0<|N (.st 1 (t 17) (b false))<|F 19 2 0<|N (.st 2 (t 19) (t 15))<|F 21 4 0<|
N (.st 1 (t 21) (k (.slice none 0 0)))<|C 2 108 [t 11]<|V 3 (i 0)<|E)<|R
theorem b94 : bodyO 4223280 9765376 Tryz.prog 94 = some (24, [.t 2, .t 3], c94) := by kernel_rfl
theorem k94 : callOk Tryz.prog 94 = true := by kernel_rfl
/-- leapfrog/lock.Check -/
def c65 : Go.SL.CC := S (O 1 (.box 45 (t 0))<|V 2 (i 0)<|F 3 0 1<|L 4 3<|O 6 (.bini .lss (t 4) (i 0))<|H 7 (.fa 0 (t 1)) 6<|H 8 (.ld none (t 7)) 6<|
H 9 (.bini .geq (t 8) (i 1024)) 6<|O 11 (.pick (t 6) (b true) (t 9))<|H 12 (.fa 1 (t 1)) 11<|H 13 (.ld none (t 12)) 11<|H 14 (.bini .lss (t 13) (i 1)) 11<|
O 16 (.pick (t 11) (b true) (t 14))<|H 17 (.fa 1 (t 1)) 16<|H 18 (.ld none (t 17)) 16<|H 19 (.bini .gtr (t 18) (i 1073741824)) 16<|
O 20 (.pick (t 16) (b true) (t 19))<|E)<|Q (I (t 20) (S (V 2 (i 70)<|E)<|R) (Z))<|S (V 2 (i 0)<|E)<|R
theorem b65 : bodyO 0 33824 Tryz.prog 65 = some (21, [.t 2], c65) := by kernel_rfl
theorem k65 : callOk Tryz.prog 65 = true := by kernel_rfl
/-- (*leapfrog/lock.Lock).asked -/
def c93 : Go.SL.CC := S (O 3 (.box 45 (t 1))<|V 4 (i 0)<|C 6 105 [t 0]<|O 7 (.un .not (t 6))<|E)<|Q (I (t 7) (S (V 4 (i 4)<|E)<|R) (Z))<|S (M 8 2 3<|C 4 65 [t 8]<|E)<|R
theorem b93 : bodyO 32 512 Tryz.prog 93 = some (10, [.t 4], c93) := by kernel_rfl
theorem k93 : callOk Tryz.prog 93 = true := by kernel_rfl
/-- (*leapfrog/lock.Lock).there -/
def c105 : Go.SL.CC := S (V 2 (b false)<|O 5 (.cmp .p true (t 0) (k (.pointer none)))<|G 8 (.fa 0 (t 0)) 5<|G 9 (.ld none (t 8)) 5<|O 2 (.pick (t 5) (t 9) (b false))<|E)<|R
theorem b105 : bodyO 72 1168 Tryz.prog 105 = some (11, [.t 2], c105) := by kernel_rfl
theorem k105 : callOk Tryz.prog 105 = true := by kernel_rfl
/-- slices.Contains[[]leapfrog/api.Owner,leapfrog/api.Owner] -/
def c53 : Go.SL.CC := S (O 3 (.box 45 (t 1))<|V 4 (b false)<|M 6 2 3<|C 7 86 [t 0, t 6]<|O 4 (.bini .geq (t 7) (i 0))<|E)<|R
theorem b53 : bodyO 32 256 Tryz.prog 53 = some (9, [.t 4], c53) := by kernel_rfl
theorem k53 : callOk Tryz.prog 53 = true := by kernel_rfl
/-- slices.Clone[[]leapfrog/api.Owner,leapfrog/api.Owner] -/
def c108 : Go.SL.CC := S (V 2 (k (.slice none 0 0))<|O 4 (.cmp .sl false (t 0) (k (.slice none 0 0)))<|E)<|Q (I (t 4) (S (V 2 (k (.slice none 0 0))<|E)<|R) (Z))<|
S (O 5 (.bsl 45 [] 0)<|O 2 (.ap 45 2 16 #[.int .i64 0, .int .i64 0] (t 5) (t 0))<|E)<|R
theorem b108 : bodyO 72 128 Tryz.prog 108 = some (8, [.t 2], c108) := by kernel_rfl
theorem k108 : callOk Tryz.prog 108 = true := by kernel_rfl
/-- slices.Index[[]leapfrog/api.Owner,leapfrog/api.Owner] -/
def c86 : Go.SL.CC := S (O 3 (.box 45 (t 1))<|V 4 (i 0)<|O 7 (.ln (t 0))<|V 8 (i 0)<|E)<|Q (P 0 (S (O 9 (.bini .lss (t 8) (t 7))<|E)<|Q (I (t 9) (Z) (J 0))<|Q (B 1 (S (V 5 (t 8)<|
M 11 2 3<|O 14 (.ia 2 (t 0) (t 5))<|M 15 2 14<|O 16 (.eqs false [.i, .i] (t 11) (t 15))<|E)<|I (t 16) (S (V 4 (t 5)<|E)<|R) (Z)))<|
Y (O 8 (.bini .add (t 8) (i 1))<|E)))<|S (V 4 (i (-1))<|E)<|R
theorem b86 : bodyO 144448 262144 Tryz.prog 86 = some (19, [.t 4], c86) := by kernel_rfl
theorem k86 : callOk Tryz.prog 86 = true := by kernel_rfl
/-- leapfrog/leapfrogref07.Same -/
def c44 : Go.SL.CC := S (V 4 (b false)<|O 7 (.ln (t 0))<|O 9 (.ln (t 1))<|O 10 (.bini .neq (t 7) (t 9))<|E)<|Q (I (t 10) (S (V 4 (b false)<|E)<|R) (Z))<|S (V 5 (i 0)<|E)<|
Q (P 0 (S (O 13 (.ln (t 0))<|O 14 (.bini .lss (t 5) (t 13))<|E)<|Q (I (t 14) (Z) (J 0))<|Q (B 1 (S (O 19 (.ia 2 (t 0) (t 5))<|M 20 2 19<|
O 23 (.ia 2 (t 1) (t 5))<|M 24 2 23<|O 25 (.eqs true [.i, .i] (t 20) (t 24))<|E)<|I (t 25) (S (V 4 (b false)<|E)<|R) (Z)))<|Y (O 5 (.bini .add (t 5) (i 1))<|
E)))<|S (V 4 (b true)<|E)<|R
theorem b44 : bodyO 6723904 65536 Tryz.prog 44 = some (26, [.t 4], c44) := by kernel_rfl
theorem k44 : callOk Tryz.prog 44 = true := by kernel_rfl
/-- leapfrog/vec.Right -/
def c43 : Go.SL.CC := S (O 1 (.box 27 (t 0))<|V 2 (i 0)<|F 3 0 1<|L 4 3<|O 6 (.bini .lss (t 4) (i 0))<|H 7 (.fa 0 (t 1)) 6<|H 8 (.ld none (t 7)) 6<|H 9 (.bini .gtr (t 8) (i 32)) 6<|
O 11 (.pick (t 6) (b true) (t 9))<|H 12 (.fa 1 (t 1)) 11<|H 13 (.ld none (t 12)) 11<|H 14 (.fa 0 (t 1)) 11<|H 15 (.ld none (t 14)) 11<|
H 16 (.call (f 81) [t 15]) 11<|.ag ⟨some 13, .ld none (t 12), some (11, false)⟩<|H 17 (.bini .gtr (t 13) (t 16)) 11<|O 18 (.pick (t 11) (b true) (t 17))<|E)<|
Q (I (t 18) (S (V 2 (i 10)<|E)<|R) (Z))<|S (V 2 (i 0)<|E)<|R
theorem b43 : bodyO 0 1056 Tryz.prog 43 = some (19, [.t 2], c43) := by kernel_rfl
theorem k43 : callOk Tryz.prog 43 = true := by kernel_rfl
/-- leapfrog/vec.low -/
def c81 : Go.SL.CC := S (V 2 (u 0)<|O 4 (.cv .u64 (t 0))<|O 5 (.bini .shl (u 1) (t 4))<|O 2 (.bini .sub (t 5) (u 1))<|E)<|R
theorem b81 : bodyO 8 64 Tryz.prog 81 = some (7, [.t 2], c81) := by kernel_rfl
theorem k81 : callOk Tryz.prog 81 = true := by kernel_rfl
/-- leapfrog/vec.Begins -/
def c92 : Go.SL.CC := S (O 2 (.box 27 (t 0))<|O 3 (.box 27 (t 1))<|V 4 (b false)<|M 5 2 2<|C 6 43 [t 5]<|O 8 (.bini .eql (t 6) (i 0))<|G 9 (.ld (some 2) (t 3)) 8<|
G 10 (.call (f 43) [t 9]) 8<|G 11 (.bini .eql (t 10) (i 0)) 8<|O 13 (.pick (t 8) (t 11) (b false))<|G 14 (.fa 0 (t 3)) 13<|G 15 (.ld none (t 14)) 13<|
G 16 (.fa 0 (t 2)) 13<|G 17 (.ld none (t 16)) 13<|G 18 (.bini .leq (t 15) (t 17)) 13<|O 20 (.pick (t 13) (t 18) (b false))<|G 21 (.ld (some 2) (t 2)) 20<|
G 22 (.fa 0 (t 3)) 20<|G 23 (.ld none (t 22)) 20<|G 25 (.ld (some 2) (t 3)) 20<|G 24 (.call (f 107) [t 21, t 23]) 20<|
.ag ⟨some 25, .ld (some 2) (t 3), some (20, true)⟩<|G 26 (.eqs false [.i, .i] (t 24) (t 25)) 20<|O 4 (.pick (t 20) (t 26) (b false))<|E)<|R
theorem b92 : bodyO 0 134746240 Tryz.prog 92 = some (28, [.t 4], c92) := by kernel_rfl
theorem k92 : callOk Tryz.prog 92 = true := by kernel_rfl
/-- leapfrog/vec.prefix -/
def c107 : Go.SL.CC := S (O 2 (.box 27 (t 0))<|O 4 (.new 27 #[.int .i64 0, .int .u64 0])<|F 6 1 2<|L 7 6<|F 8 0 2<|L 9 8<|O 11 (.bini .sub (t 9) (t 1))<|O 12 (.cv .u64 (t 11))<|
O 13 (.bini .shr (t 7) (t 12))<|O 14 (.agg [.c (t 1) 0 1, .c (t 13) 0 1])<|N (.st 2 (t 4) (t 14))<|E)<|R
theorem b107 : bodyO 1056 0 Tryz.prog 107 = some (15, [.c 4 (some 2)], c107) := by kernel_rfl
theorem k107 : callOk Tryz.prog 107 = true := by kernel_rfl
/-- leapfrog/key.Check -/
def c82 : Go.SL.CC := S (O 1 (.box 25 (t 0))<|V 2 (i 0)<|F 3 0 1<|L 4 3<|O 6 (.bini .eql (t 4) (i 2))<|H 7 (.fa 0 (t 1)) 6<|H 8 (.ld none (t 7)) 6<|H 9 (.bini .eql (t 8) (i 1)) 6<|
H 10 (.mv (t 9)) 6<|H 11 (.fa 0 (t 1)) 10<|H 12 (.ld none (t 11)) 10<|H 13 (.bini .eql (t 12) (i 3)) 10<|H 14 (.pick (t 10) (b true) (t 13)) 6<|
H 15 (.mv (t 14)) 6<|G 16 (.fa 1 (t 1)) 15<|G 17 (.ld none (t 16)) 15<|G 18 (.bini .eql (t 17) (u 0)) 15<|H 19 (.pick (t 15) (t 18) (b false)) 6<|
O 20 (.pick (t 6) (b true) (t 19))<|E)<|Q (I (t 20) (S (V 2 (i 0)<|E)<|R) (Z))<|S (V 2 (i 20)<|E)<|R
theorem b82 : bodyO 0 32 Tryz.prog 82 = some (21, [.t 2], c82) := by kernel_rfl
theorem k82 : callOk Tryz.prog 82 = true := by kernel_rfl
/-- leapfrog/key.Less -/
def c89 : Go.SL.CC := S (O 2 (.box 25 (t 0))<|O 3 (.box 25 (t 1))<|V 4 (b false)<|M 5 2 2<|M 6 2 3<|C 7 106 [t 5, t 6]<|O 4 (.bini .lss (t 7) (i 0))<|E)<|R
theorem b89 : bodyO 0 256 Tryz.prog 89 = some (9, [.t 4], c89) := by kernel_rfl
theorem k89 : callOk Tryz.prog 89 = true := by kernel_rfl
/-- leapfrog/key.Compare -/
def c106 : Go.SL.CC := S (O 2 (.box 25 (t 0))<|O 3 (.box 25 (t 1))<|V 4 (i 0)<|F 5 0 2<|L 6 5<|F 7 0 3<|L 8 7<|F 10 1 2<|L 11 10<|F 12 1 3<|L 13 12<|C 9 122 [t 6, t 8]<|
A 11 (.ld none (t 10))<|A 13 (.ld none (t 12))<|C 14 123 [t 11, t 13]<|O 15 (.bsl 3 [.c (t 9) 0 1, .c (t 14) 0 1] 2)<|C 4 121 [t 15]<|E)<|R
theorem b106 : bodyO 0 65536 Tryz.prog 106 = some (17, [.t 4], c106) := by kernel_rfl
theorem k106 : callOk Tryz.prog 106 = true := by kernel_rfl
/-- cmp.Or[int] -/
def c121 : Go.SL.CC := S (V 2 (i 0)<|V 3 (i 0)<|V 6 (t 0)<|O 7 (.ln (t 6))<|V 8 (i 0)<|E)<|Q (P 0 (S (O 9 (.bini .lss (t 8) (t 7))<|E)<|Q (I (t 9) (Z) (J 0))<|
Q (B 1 (S (O 10 (.ia 1 (t 6) (t 8))<|L 5 10<|O 14 (.bini .neq (t 5) (t 3))<|E)<|I (t 14) (S (V 2 (t 5)<|E)<|R) (Z)))<|Y (O 8 (.bini .add (t 8) (i 1))<|E)))<|
S (V 2 (t 3)<|E)<|R
theorem b121 : bodyO 176128 67584 Tryz.prog 121 = some (18, [.t 2], c121) := by kernel_rfl
theorem k121 : callOk Tryz.prog 121 = true := by kernel_rfl
/-- cmp.Compare[int] -/
def c101 : Go.SL.CC := S (V 4 (i 0)<|C 8 119 [t 0]<|C 6 119 [t 1]<|V 11 (t 8)<|E)<|Q (I (t 11) (S (V 12 (t 6)<|E)<|Q (I (t 12) (S (V 4 (i 0)<|E)<|R) (Z))<|S (V 4 (i (-1))<|E)<|
R) (Z))<|S (V 13 (t 6)<|E)<|Q (I (t 13) (S (V 4 (i 1)<|E)<|R) (Z))<|S (O 16 (.bini .lss (t 0) (t 1))<|E)<|Q (I (t 16) (S (V 4 (i (-1))<|E)<|R) (Z))<|
S (O 19 (.bini .gtr (t 0) (t 1))<|E)<|Q (I (t 19) (S (V 4 (i 1)<|E)<|R) (Z))<|S (V 4 (i 0)<|E)<|R
theorem b101 : bodyO 443040 1024 Tryz.prog 101 = some (20, [.t 4], c101) := by kernel_rfl
theorem k101 : callOk Tryz.prog 101 = true := by kernel_rfl
/-- cmp.Compare[leapfrog/api.Rank] -/
def c122 : Go.SL.CC := S (V 4 (i 0)<|C 8 129 [t 0]<|C 6 129 [t 1]<|V 11 (t 8)<|E)<|Q (I (t 11) (S (V 12 (t 6)<|E)<|Q (I (t 12) (S (V 4 (i 0)<|E)<|R) (Z))<|S (V 4 (i (-1))<|E)<|
R) (Z))<|S (V 13 (t 6)<|E)<|Q (I (t 13) (S (V 4 (i 1)<|E)<|R) (Z))<|S (O 16 (.bini .lss (t 0) (t 1))<|E)<|Q (I (t 16) (S (V 4 (i (-1))<|E)<|R) (Z))<|
S (O 19 (.bini .gtr (t 0) (t 1))<|E)<|Q (I (t 19) (S (V 4 (i 1)<|E)<|R) (Z))<|S (V 4 (i 0)<|E)<|R
theorem b122 : bodyO 443040 1024 Tryz.prog 122 = some (20, [.t 4], c122) := by kernel_rfl
theorem k122 : callOk Tryz.prog 122 = true := by kernel_rfl
/-- cmp.Compare[uint64] -/
def c123 : Go.SL.CC := S (V 4 (i 0)<|C 8 130 [t 0]<|C 6 130 [t 1]<|V 11 (t 8)<|E)<|Q (I (t 11) (S (V 12 (t 6)<|E)<|Q (I (t 12) (S (V 4 (i 0)<|E)<|R) (Z))<|S (V 4 (i (-1))<|E)<|
R) (Z))<|S (V 13 (t 6)<|E)<|Q (I (t 13) (S (V 4 (i 1)<|E)<|R) (Z))<|S (O 16 (.bini .lss (t 0) (t 1))<|E)<|Q (I (t 16) (S (V 4 (i (-1))<|E)<|R) (Z))<|
S (O 19 (.bini .gtr (t 0) (t 1))<|E)<|Q (I (t 19) (S (V 4 (i 1)<|E)<|R) (Z))<|S (V 4 (i 0)<|E)<|R
theorem b123 : bodyO 443040 1024 Tryz.prog 123 = some (20, [.t 4], c123) := by kernel_rfl
theorem k123 : callOk Tryz.prog 123 = true := by kernel_rfl
/-- cmp.isNaN[int] -/
def c119 : Go.SL.CC := S (V 2 (b false)<|O 2 (.bini .neq (t 0) (t 0))<|E)<|R
theorem b119 : bodyO 24 32 Tryz.prog 119 = some (6, [.t 2], c119) := by kernel_rfl
theorem k119 : callOk Tryz.prog 119 = true := by kernel_rfl
/-- cmp.isNaN[leapfrog/api.Rank] -/
def c129 : Go.SL.CC := S (V 2 (b false)<|O 2 (.bini .neq (t 0) (t 0))<|E)<|R
theorem b129 : bodyO 24 32 Tryz.prog 129 = some (6, [.t 2], c129) := by kernel_rfl
theorem k129 : callOk Tryz.prog 129 = true := by kernel_rfl
/-- cmp.isNaN[uint64] -/
def c130 : Go.SL.CC := S (V 2 (b false)<|O 2 (.bini .neq (t 0) (t 0))<|E)<|R
theorem b130 : bodyO 24 32 Tryz.prog 130 = some (6, [.t 2], c130) := by kernel_rfl
theorem k130 : callOk Tryz.prog 130 = true := by kernel_rfl
/-- leapfrog/vec.both -/
def c99 : Go.SL.CC := S (O 2 (.box 27 (t 0))<|O 3 (.box 27 (t 1))<|V 4 (i 0)<|M 6 2 2<|C 5 43 [t 6]<|O 9 (.bini .neq (t 5) (i 0))<|E)<|Q (I (t 9) (S (V 4 (t 5)<|E)<|R) (Z))<|
S (M 11 2 3<|C 4 43 [t 11]<|E)<|R
theorem b99 : bodyO 1280 4224 Tryz.prog 99 = some (13, [.t 4], c99) := by kernel_rfl
theorem k99 : callOk Tryz.prog 99 = true := by kernel_rfl
/-- leapfrog/vec.common -/
def c100 : Go.SL.CC := S (O 2 (.box 27 (t 0))<|O 3 (.box 27 (t 1))<|V 4 (i 0)<|F 7 0 2<|L 8 7<|F 9 0 3<|L 10 9<|O 11 (.mm false (t 8) (t 10))<|M 12 2 2<|M 16 2 3<|
C 14 107 [t 12, t 11]<|A 16 (.ld (some 2) (t 3))<|O 15 (.fld false 1 1 (t 14))<|C 18 107 [t 16, t 11]<|O 19 (.fld false 1 1 (t 18))<|
O 20 (.bini .xor (t 15) (t 19))<|C 23 118 [t 20]<|O 4 (.bini .sub (t 11) (t 23))<|E)<|R
theorem b100 : bodyO 6430816 16777216 Tryz.prog 100 = some (25, [.t 4], c100) := by kernel_rfl
theorem k100 : callOk Tryz.prog 100 = true := by kernel_rfl
/-- leapfrog/vec.bit -/
def c102 : Go.SL.CC := S (O 2 (.box 27 (t 0))<|V 4 (i 0)<|F 5 1 2<|L 6 5<|F 7 0 2<|L 8 7<|O 9 (.bini .sub (t 8) (i 1))<|O 11 (.bini .sub (t 9) (t 1))<|O 12 (.cv .u64 (t 11))<|
O 13 (.bini .shr (t 6) (t 12))<|O 14 (.bini .and (t 13) (u 1))<|O 4 (.cv .i64 (t 14))<|E)<|R
theorem b102 : bodyO 1024 32768 Tryz.prog 102 = some (16, [.t 4], c102) := by kernel_rfl
theorem k102 : callOk Tryz.prog 102 = true := by kernel_rfl
/-- leapfrog/vec.Compare -/
def c79 : Go.SL.CC := S (O 2 (.box 27 (t 0))<|O 3 (.box 27 (t 1))<|V 4 (i 0)<|V 5 (i 0)<|M 8 2 2<|M 9 2 3<|C 6 99 [t 8, t 9]<|O 12 (.bini .neq (t 6) (i 0))<|E)<|
Q (I (t 12) (S (V 4 (i 0)<|V 5 (t 6)<|E)<|R) (Z))<|S (M 14 2 2<|M 15 2 3<|C 7 100 [t 14, t 15]<|F 18 0 2<|L 19 18<|F 20 0 3<|L 21 20<|
O 22 (.mm false (t 19) (t 21))<|O 23 (.bini .lss (t 7) (t 22))<|E)<|Q (I (t 23) (S (M 24 2 2<|M 27 2 3<|C 26 102 [t 24, t 7]<|A 27 (.ld (some 2) (t 3))<|
C 29 102 [t 27, t 7]<|C 4 101 [t 26, t 29]<|V 5 (i 0)<|E)<|R) (Z))<|S (F 31 0 2<|L 32 31<|F 33 0 3<|L 34 33<|C 4 101 [t 32, t 34]<|V 5 (i 0)<|E)<|R
theorem b79 : bodyO 302131200 35433546752 Tryz.prog 79 = some (36, [.t 4, .t 5], c79) := by kernel_rfl
theorem k79 : callOk Tryz.prog 79 = true := by kernel_rfl
/-- math/bits.Len64 -/
def c118 : Go.SL.CC := S (V 2 (i 0)<|O 4 (.bini .geq (t 0) (u 4294967296))<|E)<|Q (I (t 4) (Y (O 0 (.bini .shr (t 0) (u 32))<|V 2 (i 32)<|E)) (Z))<|
S (O 8 (.bini .geq (t 0) (u 65536))<|E)<|Q (I (t 8) (Y (O 0 (.bini .shr (t 0) (u 16))<|O 2 (.bini .add (t 2) (i 16))<|E)) (Z))<|
S (O 14 (.bini .geq (t 0) (u 256))<|E)<|Q (I (t 14) (Y (O 0 (.bini .shr (t 0) (u 8))<|O 2 (.bini .add (t 2) (i 8))<|E)) (Z))<|S (O 21 (.cv .u8 (t 0))<|
O 22 (.idx (k (.string ⟨#[0,1,2,2,3,3,3,3,4,4,4,4,4,4,4,4,5,5,5,5,5,5,5,5,5,5,5,5,5,5,5,5,6,6,6,6,6,6,6,6,6,6,6,6,6,6,6,6,6,6,6,6,6,6,6,6,6,6,6,6,6,6,6,6,7,7,7,7,7,7,7,7,7,7,7,7,7,7,7,7,7,7,7,7,7,7,7,7,7,7,7,7,7,7,7,7,7,7,7,7,7,7,7,7,7,7,7,7,7,7,7,7,7,7,7,7,7,7,7,7,7,7,7,7,7,7,7,7,8,8,8,8,8,8,8,8,8,8,8,8,8,8,8,8,8,8,8,8,8,8,8,8,8,8,8,8,8,8,8,8,8,8,8,8,8,8,8,8,8,8,8,8,8,8,8,8,8,8,8,8,8,8,8,8,8,8,8,8,8,8,8,8,8,8,8,8,8,8,8,8,8,8,8,8,8,8,8,8,8,8,8,8,8,8,8,8,8,8,8,8,8,8,8,8,8,8,8,8,8,8,8,8,8,8,8,8,8,8,8,8,8,8,8,8,8,8,8,8,8,8,8,8,8,8,8,8]⟩)) (t 21))<|
O 23 (.cv .i64 (t 22))<|O 2 (.bini .add (t 2) (t 23))<|E)<|R
theorem b118 : bodyO 1747624 17110080 Tryz.prog 118 = some (25, [.t 2], c118) := by kernel_rfl
theorem k118 : callOk Tryz.prog 118 = true := by kernel_rfl
/-- leapfrog/leapfrogref01.Power -/
def c80 : Go.SL.CC := S (V 2 (u 0)<|V 3 (u 1)<|E)<|Q (P 0 (S (O 5 (.bini .gtr (t 0) (i 0))<|E)<|Q (I (t 5) (Z) (J 0))<|Q (B 1 (Y (O 3 (.bini .mul (t 3) (u 2))<|E)))<|
Y (O 0 (.bini .sub (t 0) (i 1))<|E)))<|S (V 2 (t 3)<|E)<|R
theorem b80 : bodyO 1360 640 Tryz.prog 80 = some (11, [.t 2], c80) := by kernel_rfl
theorem k80 : callOk Tryz.prog 80 = true := by kernel_rfl
/-- leapfrog/leapfrogref01.Right -/
def c40 : Go.SL.CC := S (O 1 (.box 27 (t 0))<|V 2 (b false)<|F 3 0 1<|L 4 3<|O 6 (.bini .geq (t 4) (i 0))<|G 7 (.fa 0 (t 1)) 6<|G 8 (.ld none (t 7)) 6<|
G 9 (.bini .leq (t 8) (i 32)) 6<|O 11 (.pick (t 6) (t 9) (b false))<|G 12 (.fa 1 (t 1)) 11<|G 13 (.ld none (t 12)) 11<|G 14 (.fa 0 (t 1)) 11<|
G 15 (.ld none (t 14)) 11<|G 16 (.call (f 80) [t 15]) 11<|.ag ⟨some 13, .ld none (t 12), some (11, true)⟩<|G 17 (.bini .lss (t 13) (t 16)) 11<|
O 2 (.pick (t 11) (t 17) (b false))<|E)<|R
theorem b40 : bodyO 0 263200 Tryz.prog 40 = some (19, [.t 2], c40) := by kernel_rfl
theorem k40 : callOk Tryz.prog 40 = true := by kernel_rfl
/-- leapfrog/leapfrogref01.Bits -/
def c42 : Go.SL.CC := S (O 1 (.box 27 (t 0))<|V 2 (k (.slice none 0 0))<|F 6 0 1<|L 7 6<|O 3 (.mks 3 1 8 #[.int .i64 0] (t 7) (t 7))<|F 9 1 1<|L 4 9<|F 11 0 1<|L 12 11<|
O 5 (.bini .sub (t 12) (i 1))<|E)<|Q (P 0 (S (O 15 (.bini .geq (t 5) (i 0))<|E)<|Q (I (t 15) (Z) (J 0))<|Q (B 1 (Y (O 21 (.bini .rem (t 4) (u 2))<|
O 22 (.cv .i64 (t 21))<|O 23 (.ia 1 (t 3) (t 5))<|N (.st 1 (t 23) (t 22))<|O 4 (.bini .quo (t 4) (u 2))<|E)))<|Y (O 5 (.bini .sub (t 5) (i 1))<|E)))<|
S (V 2 (t 3)<|E)<|R
theorem b42 : bodyO 85803008 33694976 Tryz.prog 42 = some (27, [.t 2], c42) := by kernel_rfl
theorem k42 : callOk Tryz.prog 42 = true := by kernel_rfl
/-- leapfrog/leapfrogref01.common -/
def c41 : Go.SL.CC := S (V 4 (i 0)<|V 5 (i 0)<|E)<|Q (P 0 (S (O 8 (.ln (t 0))<|O 10 (.bini .lss (t 5) (t 8))<|G 13 (.ln (t 1)) 10<|G 14 (.bini .lss (t 5) (t 13)) 10<|
O 16 (.pick (t 10) (t 14) (b false))<|G 19 (.ia 1 (t 0) (t 5)) 16<|G 20 (.ld none (t 19)) 16<|G 23 (.ia 1 (t 1) (t 5)) 16<|G 24 (.ld none (t 23)) 16<|
G 25 (.bini .eql (t 20) (t 24)) 16<|O 26 (.pick (t 16) (t 25) (b false))<|E)<|Q (I (t 26) (Z) (J 0))<|B 1 (Y (O 5 (.bini .add (t 5) (i 1))<|E))))<|
S (V 4 (t 5)<|E)<|R
theorem b41 : bodyO 677779648 268468736 Tryz.prog 41 = some (30, [.t 4], c41) := by kernel_rfl
theorem k41 : callOk Tryz.prog 41 = true := by kernel_rfl
/-- leapfrog/leapfrogref01.Begins -/
def c12 : Go.SL.CC := S (O 2 (.box 27 (t 0))<|O 3 (.box 27 (t 1))<|V 4 (b false)<|M 5 2 2<|C 7 40 [t 5]<|G 8 (.ld (some 2) (t 3)) 7<|G 9 (.call (f 40) [t 8]) 7<|
O 11 (.pick (t 7) (t 9) (b false))<|G 12 (.ld (some 2) (t 2)) 11<|G 14 (.ld (some 2) (t 3)) 11<|G 17 (.fa 0 (t 3)) 11<|G 18 (.ld none (t 17)) 11<|
G 13 (.call (f 42) [t 12]) 11<|.ag ⟨some 14, .ld (some 2) (t 3), some (11, true)⟩<|.ag ⟨some 18, .ld none (t 17), some (11, true)⟩<|
G 15 (.call (f 42) [t 14]) 11<|.ag ⟨some 18, .ld none (t 17), some (11, true)⟩<|G 16 (.call (f 41) [t 13, t 15]) 11<|
.ag ⟨some 18, .ld none (t 17), some (11, true)⟩<|G 19 (.bini .eql (t 16) (t 18)) 11<|O 4 (.pick (t 11) (t 19) (b false))<|E)<|R
theorem b12 : bodyO 0 1049664 Tryz.prog 12 = some (21, [.t 4], c12) := by kernel_rfl
theorem k12 : callOk Tryz.prog 12 = true := by kernel_rfl
/-- leapfrog/leapfrogref09.Less -/
def c11 : Go.SL.CC := S (O 2 (.box 25 (t 0))<|O 3 (.box 25 (t 1))<|V 4 (b false)<|F 5 0 2<|L 6 5<|F 7 0 3<|L 8 7<|O 10 (.bini .lss (t 6) (t 8))<|H 11 (.fa 0 (t 2)) 10<|
H 12 (.ld none (t 11)) 10<|H 13 (.fa 0 (t 3)) 10<|H 14 (.ld none (t 13)) 10<|H 15 (.bini .eql (t 12) (t 14)) 10<|H 16 (.mv (t 15)) 10<|G 17 (.fa 1 (t 2)) 16<|
G 18 (.ld none (t 17)) 16<|G 19 (.fa 1 (t 3)) 16<|G 20 (.ld none (t 19)) 16<|G 21 (.bini .lss (t 18) (t 20)) 16<|H 22 (.pick (t 16) (t 21) (b false)) 10<|
O 4 (.pick (t 10) (b true) (t 22))<|E)<|R
theorem b11 : bodyO 0 8389120 Tryz.prog 11 = some (24, [.t 4], c11) := by kernel_rfl
theorem k11 : callOk Tryz.prog 11 = true := by kernel_rfl
/-- leapfrog/leapfrogref09.Head -/
def c47 : Go.SL.CC := S (O 2 (.new 29 #[.int .i64 0, .int .i64 0, .int .u64 0, .int .i64 0, .int .u64 0])<|V 3 (i 0)<|O 6 (.bini .lss (t 0) (i 0))<|H 8 (.bini .gtr (t 0) (i 32)) 6<|
O 9 (.pick (t 6) (b true) (t 8))<|E)<|Q (I (t 9) (S (O 10 (.agg [.z (.int .i64 0), .z (.int .i64 0), .z (.int .u64 0), .z (.int .i64 0), .z (.int .u64 0)])<|
N (.st 5 (t 2) (t 10))<|V 3 (i 90)<|E)<|R) (Z))<|S (O 11 (.agg [.c (i 1) 0 1, .z (.int .u64 0)])<|O 13 (.agg [.c (t 0) 0 1, .z (.int .u64 0)])<|
O 14 (.agg [.c (i 0) 0 1, .c (t 11) 0 2, .c (t 11) 1 2, .c (t 13) 0 2, .c (t 13) 1 2])<|N (.st 5 (t 2) (t 14))<|V 3 (i 0)<|E)<|R
theorem b47 : bodyO 4240 32 Tryz.prog 47 = some (15, [.c 2 (some 5), .t 3], c47) := by kernel_rfl
theorem k47 : callOk Tryz.prog 47 = true := by kernel_rfl
/-- leapfrog/leapfrogref09.Tail -/
def c48 : Go.SL.CC := S (O 2 (.new 29 #[.int .i64 0, .int .i64 0, .int .u64 0, .int .i64 0, .int .u64 0])<|V 3 (i 0)<|O 6 (.bini .lss (t 0) (i 0))<|H 8 (.bini .gtr (t 0) (i 32)) 6<|
O 9 (.pick (t 6) (b true) (t 8))<|E)<|Q (I (t 9) (S (O 10 (.agg [.z (.int .i64 0), .z (.int .i64 0), .z (.int .u64 0), .z (.int .i64 0), .z (.int .u64 0)])<|
N (.st 5 (t 2) (t 10))<|V 3 (i 90)<|E)<|R) (Z))<|S (O 11 (.agg [.c (i 3) 0 1, .z (.int .u64 0)])<|O 13 (.agg [.c (t 0) 0 1, .z (.int .u64 0)])<|
O 14 (.agg [.c (i 1) 0 1, .c (t 11) 0 2, .c (t 11) 1 2, .c (t 13) 0 2, .c (t 13) 1 2])<|N (.st 5 (t 2) (t 14))<|V 3 (i 0)<|E)<|R
theorem b48 : bodyO 4240 32 Tryz.prog 48 = some (15, [.c 2 (some 5), .t 3], c48) := by kernel_rfl
theorem k48 : callOk Tryz.prog 48 = true := by kernel_rfl
/-- leapfrog/peer.Head -/
def c22 : Go.SL.CC := S (O 2 (.new 29 #[.int .i64 0, .int .i64 0, .int .u64 0, .int .i64 0, .int .u64 0])<|V 3 (i 0)<|C 5 45 [b false, t 0]<|X 6 5 0<|X 7 5 1<|N (.st 5 (t 2) (t 6))<|
V 3 (t 7)<|E)<|R
theorem b22 : bodyO 16 0 Tryz.prog 22 = some (8, [.c 2 (some 5), .t 3], c22) := by kernel_rfl
theorem k22 : callOk Tryz.prog 22 = true := by kernel_rfl
/-- leapfrog/peer.Tail -/
def c23 : Go.SL.CC := S (O 2 (.new 29 #[.int .i64 0, .int .i64 0, .int .u64 0, .int .i64 0, .int .u64 0])<|V 3 (i 0)<|C 5 45 [b true, t 0]<|X 6 5 0<|X 7 5 1<|N (.st 5 (t 2) (t 6))<|
V 3 (t 7)<|E)<|R
theorem b23 : bodyO 16 0 Tryz.prog 23 = some (8, [.c 2 (some 5), .t 3], c23) := by kernel_rfl
theorem k23 : callOk Tryz.prog 23 = true := by kernel_rfl
/-- leapfrog/peer.end -/
def c45 : Go.SL.CC := S (O 4 (.new 29 #[.int .i64 0, .int .i64 0, .int .u64 0, .int .i64 0, .int .u64 0])<|V 5 (i 0)<|O 9 (.bini .lss (t 1) (i 0))<|H 11 (.bini .gtr (t 1) (i 32)) 9<|
O 12 (.pick (t 9) (b true) (t 11))<|E)<|Q (I (t 12) (S (O 13 (.agg [.z (.int .i64 0), .z (.int .i64 0), .z (.int .u64 0), .z (.int .i64 0), .z (.int .u64 0)])<|
N (.st 5 (t 4) (t 13))<|V 5 (i 90)<|E)<|R) (Z))<|S (O 14 (.agg [.c (i 1) 0 1, .z (.int .u64 0)])<|O 16 (.agg [.c (t 1) 0 1, .z (.int .u64 0)])<|
O 17 (.agg [.z (.int .i64 0), .c (t 14) 0 2, .c (t 14) 1 2, .c (t 16) 0 2, .c (t 16) 1 2])<|
O 6 (.new 29 #[.int .i64 0, .int .i64 0, .int .u64 0, .int .i64 0, .int .u64 0])<|N (.st 5 (t 6) (t 17))<|V 18 (t 0)<|E)<|Q (I (t 18) (Y (F 19 0 6<|
N (.st 1 (t 19) (i 1))<|F 20 1 6<|F 21 0 20<|N (.st 1 (t 21) (i 3))<|E)) (Z))<|S (M 22 5 6<|N (.st 5 (t 4) (t 22))<|V 5 (i 0)<|E)<|R
theorem b45 : bodyO 33920 256 Tryz.prog 45 = some (23, [.c 4 (some 5), .t 5], c45) := by kernel_rfl
theorem k45 : callOk Tryz.prog 45 = true := by kernel_rfl
end Go.Proofs.YtmeajliiloaegaaGreat
