/- The bodies of some functions of the program, without their noise, and that they are these. Conditions: none. Written by a program of this workplace (Print.lean). -/
import Derived.Test.YtgcmglieciaifaaProg
import Derived.Test.YtgcmglieciaifaaSlW
import Derived.KernelRfl
namespace Go.Proofs.Ytgcmglieciaifaa
open Go.SL Go.SL.W
set_option maxRecDepth 100000

/-- leapfrog/leapfrogref11.Way -/
def c12 : Go.SL.CC := S (O 6 (.box 25 (t 2))<|V 8 (k (.slice none 0 0))<|O 9 (.new 32 #[.int .i64 0, .int .i64 0, .int .u64 0, .int .i64 0, .int .u64 0])<|
O 10 (.new 32 #[.int .i64 0, .int .i64 0, .int .u64 0, .int .i64 0, .int .u64 0])<|V 11 (i 0)<|C 26 15 [t 0, t 3]<|O 27 (.bini .neq (t 26) (i 0))<|E)<|
Q (I (t 27) (S (O 28 (.agg [.z (.int .i64 0), .z (.int .i64 0), .z (.int .u64 0), .z (.int .i64 0), .z (.int .u64 0)])<|
O 29 (.agg [.z (.int .i64 0), .z (.int .i64 0), .z (.int .u64 0), .z (.int .i64 0), .z (.int .u64 0)])<|V 8 (k (.slice none 0 0))<|N (.st 5 (t 9) (t 28))<|
N (.st 5 (t 10) (t 29))<|V 11 (i 110)<|E)<|R) (Z))<|S (O 31 (.agg [.z (.int .i64 0), .z (.int .u64 0)])<|C 12 27 [t 0, t 31, t 3]<|
O 34 (.agg [.z (.int .i64 0), .z (.int .i64 0), .z (.int .u64 0), .z (.int .i64 0), .z (.int .u64 0)])<|
O 13 (.new 32 #[.int .i64 0, .int .i64 0, .int .u64 0, .int .i64 0, .int .u64 0])<|N (.st 5 (t 13) (t 34))<|V 14 (b false)<|V 15 (i 0)<|E)<|
Q (P 0 (S (O 37 (.ln (t 12))<|O 38 (.bini .lss (t 15) (t 37))<|E)<|Q (I (t 38) (Z) (J 0))<|Q (B 1 (S (O 43 (.ia 5 (t 12) (t 15))<|F 44 0 43<|L 45 44<|
O 47 (.bini .eql (t 45) (t 1))<|E)<|I (t 47) (Y (O 50 (.ia 5 (t 12) (t 15))<|M 51 5 50<|N (.st 5 (t 13) (t 51))<|V 14 (b true)<|E)) (Z)))<|
Y (O 15 (.bini .add (t 15) (i 1))<|E)))<|S (O 53 (.un .not (t 14))<|E)<|
Q (I (t 53) (S (O 54 (.agg [.z (.int .i64 0), .z (.int .i64 0), .z (.int .u64 0), .z (.int .i64 0), .z (.int .u64 0)])<|
O 55 (.agg [.z (.int .i64 0), .z (.int .i64 0), .z (.int .u64 0), .z (.int .i64 0), .z (.int .u64 0)])<|V 8 (k (.slice none 0 0))<|N (.st 5 (t 9) (t 54))<|
N (.st 5 (t 10) (t 55))<|V 11 (i 111)<|E)<|R) (Z))<|S (M 56 2 6<|C 57 40 [t 56]<|O 58 (.un .not (t 57))<|E)<|
Q (I (t 58) (S (O 59 (.agg [.z (.int .i64 0), .z (.int .i64 0), .z (.int .u64 0), .z (.int .i64 0), .z (.int .u64 0)])<|
O 60 (.agg [.z (.int .i64 0), .z (.int .i64 0), .z (.int .u64 0), .z (.int .i64 0), .z (.int .u64 0)])<|V 8 (k (.slice none 0 0))<|N (.st 5 (t 9) (t 59))<|
N (.st 5 (t 10) (t 60))<|V 11 (i 1)<|E)<|R) (Z))<|S (M 62 5 13<|
O 63 (.agg [.c (t 0) 0 1, .c (t 62) 0 5, .c (t 62) 1 5, .c (t 62) 2 5, .c (t 62) 3 5, .c (t 62) 4 5])<|
O 16 (.bsl 51 [.c (t 63) 0 6, .c (t 63) 1 6, .c (t 63) 2 6, .c (t 63) 3 6, .c (t 63) 4 6, .c (t 63) 5 6] 1)<|F 65 0 6<|L 66 65<|O 67 (.bini .eql (t 66) (i 1))<|
E)<|Q (I (t 67) (S (O 69 (.agg [.z (.int .i64 0), .z (.int .i64 0), .z (.int .u64 0), .z (.int .i64 0), .z (.int .u64 0)])<|O 71 (.ia 5 (t 12) (i 0))<|
M 72 5 71<|V 8 (t 16)<|N (.st 5 (t 9) (t 69))<|A 72 (.ld (some 5) (t 71))<|N (.st 5 (t 10) (t 72))<|V 11 (i 0)<|E)<|R) (Z))<|S (F 73 1 13<|M 74 2 73<|M 75 2 6<|
C 76 19 [t 74, t 75]<|O 17 (.un .not (t 76))<|V 18 (t 0)<|E)<|Q (P 2 (S (O 80 (.bini .geq (t 18) (i 0))<|E)<|Q (I (t 80) (Z) (J 2))<|B 3 (S (M 83 5 13<|
C 86 41 [t 0, t 83, t 18, t 3]<|X 87 86 0<|X 88 86 1<|O 19 (.new 32 #[.int .i64 0, .int .i64 0, .int .u64 0, .int .i64 0, .int .u64 0])<|
O 20 (.new 32 #[.int .i64 0, .int .i64 0, .int .u64 0, .int .i64 0, .int .u64 0])<|N (.st 5 (t 19) (t 87))<|N (.st 5 (t 20) (t 88))<|M 89 5 20<|
O 21 (.new 32 #[.int .i64 0, .int .i64 0, .int .u64 0, .int .i64 0, .int .u64 0])<|N (.st 5 (t 21) (t 89))<|V 90 (t 17)<|E)<|Q (I (t 90) (Y (M 91 5 19<|
N (.st 5 (t 21) (t 91))<|E)) (Z))<|B 4 (S (F 96 1 21<|M 97 2 96<|M 98 2 6<|C 99 19 [t 97, t 98]<|O 94 (.cmp .b true (t 17) (t 99))<|E)<|
I (t 94) (Y (M 101 5 21<|N (.st 5 (t 13) (t 101))<|M 104 5 13<|
O 105 (.agg [.c (t 18) 0 1, .c (t 104) 0 5, .c (t 104) 1 5, .c (t 104) 2 5, .c (t 104) 3 5, .c (t 104) 4 5])<|
O 106 (.bsl 51 [.c (t 105) 0 6, .c (t 105) 1 6, .c (t 105) 2 6, .c (t 105) 3 6, .c (t 105) 4 6, .c (t 105) 5 6] 1)<|
O 16 (.ap 51 6 48 #[.int .i64 0, .int .i64 0, .int .i64 0, .int .u64 0, .int .i64 0, .int .u64 0] (t 16) (t 106))<|E)) (S (O 111 (.bini .eql (t 18) (i 0))<|
G 112 (.mv (t 17)) 111<|O 108 (.pick (t 111) (t 112) (b false))<|E)<|I (t 108) (Y (M 114 5 21<|N (.st 5 (t 13) (t 114))<|M 117 5 13<|
O 118 (.agg [.c (t 18) 0 1, .c (t 117) 0 5, .c (t 117) 1 5, .c (t 117) 2 5, .c (t 117) 3 5, .c (t 117) 4 5])<|
O 119 (.bsl 51 [.c (t 118) 0 6, .c (t 118) 1 6, .c (t 118) 2 6, .c (t 118) 3 6, .c (t 118) 4 6, .c (t 118) 5 6] 1)<|
O 16 (.ap 51 6 48 #[.int .i64 0, .int .i64 0, .int .i64 0, .int .u64 0, .int .i64 0, .int .u64 0] (t 16) (t 119))<|V 18 (i (-1))<|
E)) (Y (O 18 (.bini .sub (t 18) (i 1))<|E)))))))<|S (M 123 5 13<|C 125 41 [t 0, t 123, i 0, t 3]<|X 126 125 0<|X 127 125 1<|
O 22 (.new 32 #[.int .i64 0, .int .i64 0, .int .u64 0, .int .i64 0, .int .u64 0])<|
O 23 (.new 32 #[.int .i64 0, .int .i64 0, .int .u64 0, .int .i64 0, .int .u64 0])<|N (.st 5 (t 22) (t 126))<|N (.st 5 (t 23) (t 127))<|M 129 5 13<|M 130 5 23<|
V 8 (t 16)<|N (.st 5 (t 9) (t 129))<|A 130 (.ld (some 5) (t 23))<|N (.st 5 (t 10) (t 130))<|V 11 (i 0)<|E)<|R
theorem b12 : bodyO 369650662246357999703497864340603666432 1341074200547720125118032961385529344 Try.prog 12 = some (131, [.t 8, .c 9 (some 5), .c 10 (some 5), .t 11], c12) := by kernel_rfl
theorem k12 : callOk Try.prog 12 = true := by kernel_rfl
/-- leapfrog/leapfrogref11.Check -/
def c15 : Go.SL.CC := S (V 4 (i 0)<|O 10 (.bini .lss (t 0) (i 0))<|H 12 (.bini .gtr (t 0) (i 32)) 10<|O 14 (.pick (t 10) (b true) (t 12))<|H 16 (.ln (t 1)) 14<|
H 17 (.bini .gtr (t 16) (i 1022)) 14<|O 18 (.pick (t 14) (b true) (t 17))<|E)<|Q (I (t 18) (S (V 4 (i 110)<|E)<|R) (Z))<|S (V 5 (i 0)<|E)<|
Q (P 0 (S (O 21 (.ln (t 1))<|O 22 (.bini .lss (t 5) (t 21))<|E)<|Q (I (t 22) (Z) (J 0))<|Q (B 1 (S (O 27 (.ia 5 (t 1) (t 5))<|M 28 5 27<|
O 6 (.new 32 #[.int .i64 0, .int .i64 0, .int .u64 0, .int .i64 0, .int .u64 0])<|N (.st 5 (t 6) (t 28))<|F 29 0 6<|L 30 29<|O 32 (.bini .lss (t 30) (i 2))<|
H 33 (.fa 0 (t 6)) 32<|H 34 (.ld none (t 33)) 32<|H 35 (.bini .geq (t 34) (i 1024)) 32<|O 37 (.pick (t 32) (b true) (t 35))<|H 38 (.fa 1 (t 6)) 37<|
H 39 (.fa 0 (t 38)) 37<|H 40 (.ld none (t 39)) 37<|H 41 (.bini .neq (t 40) (i 2)) 37<|O 43 (.pick (t 37) (b true) (t 41))<|H 44 (.fa 3 (t 6)) 43<|
H 45 (.ld (some 2) (t 44)) 43<|H 46 (.call (f 16) [t 45]) 43<|H 47 (.un .not (t 46)) 43<|O 49 (.pick (t 43) (b true) (t 47))<|H 50 (.fa 3 (t 6)) 49<|
H 51 (.fa 0 (t 50)) 49<|H 52 (.ld none (t 51)) 49<|H 54 (.bini .neq (t 52) (t 0)) 49<|O 55 (.pick (t 49) (b true) (t 54))<|E)<|Q (I (t 55) (S (V 4 (i 110)<|E)<|
R) (Z))<|S (V 7 (i 0)<|E)<|P 2 (S (O 58 (.bini .lss (t 7) (t 5))<|E)<|Q (I (t 58) (Z) (J 2))<|Q (B 3 (S (O 63 (.ia 5 (t 1) (t 7))<|F 64 0 63<|L 65 64<|
F 66 0 6<|L 67 66<|O 69 (.bini .eql (t 65) (t 67))<|H 72 (.ia 5 (t 1) (t 7)) 69<|H 73 (.fa 1 (t 72)) 69<|H 74 (.ld (some 2) (t 73)) 69<|H 75 (.fa 1 (t 6)) 69<|
H 76 (.ld (some 2) (t 75)) 69<|H 77 (.eqs false [.i, .i] (t 74) (t 76)) 69<|O 78 (.pick (t 69) (b true) (t 77))<|E)<|I (t 78) (S (V 4 (i 110)<|E)<|R) (Z)))<|
Y (O 7 (.bini .add (t 7) (i 1))<|E))))<|Y (O 5 (.bini .add (t 5) (i 1))<|E)))<|S (V 4 (i 0)<|E)<|R
theorem b15 : bodyO 3549494031913657600256 296301112627866640896 Try.prog 15 = some (79, [.t 4], c15) := by kernel_rfl
theorem k15 : callOk Try.prog 15 = true := by kernel_rfl
/-- leapfrog/leapfrogref11.Beside -/
def c21 : Go.SL.CC := S (O 5 (.box 30 (t 1))<|O 8 (.new 32 #[.int .i64 0, .int .i64 0, .int .u64 0, .int .i64 0, .int .u64 0])<|
O 9 (.new 32 #[.int .i64 0, .int .i64 0, .int .u64 0, .int .i64 0, .int .u64 0])<|V 10 (i 0)<|C 16 15 [t 0, t 3]<|O 17 (.bini .neq (t 16) (i 0))<|E)<|
Q (I (t 17) (S (O 18 (.agg [.z (.int .i64 0), .z (.int .i64 0), .z (.int .u64 0), .z (.int .i64 0), .z (.int .u64 0)])<|
O 19 (.agg [.z (.int .i64 0), .z (.int .i64 0), .z (.int .u64 0), .z (.int .i64 0), .z (.int .u64 0)])<|N (.st 5 (t 8) (t 18))<|N (.st 5 (t 9) (t 19))<|
V 10 (i 110)<|E)<|R) (Z))<|S (M 20 2 5<|C 21 16 [t 20]<|O 23 (.un .not (t 21))<|H 24 (.fa 0 (t 5)) 23<|H 25 (.ld none (t 24)) 23<|
H 27 (.bini .gtr (t 25) (t 0)) 23<|O 28 (.pick (t 23) (b true) (t 27))<|E)<|
Q (I (t 28) (S (O 29 (.agg [.z (.int .i64 0), .z (.int .i64 0), .z (.int .u64 0), .z (.int .i64 0), .z (.int .u64 0)])<|
O 30 (.agg [.z (.int .i64 0), .z (.int .i64 0), .z (.int .u64 0), .z (.int .i64 0), .z (.int .u64 0)])<|N (.st 5 (t 8) (t 29))<|N (.st 5 (t 9) (t 30))<|
V 10 (i 10)<|E)<|R) (Z))<|S (M 33 2 5<|C 35 27 [t 0, t 33, t 3]<|C 37 48 [t 35, t 2]<|X 38 37 0<|X 39 37 1<|X 40 37 2<|
O 11 (.new 32 #[.int .i64 0, .int .i64 0, .int .u64 0, .int .i64 0, .int .u64 0])<|
O 12 (.new 32 #[.int .i64 0, .int .i64 0, .int .u64 0, .int .i64 0, .int .u64 0])<|N (.st 5 (t 11) (t 38))<|N (.st 5 (t 12) (t 39))<|O 42 (.un .not (t 40))<|
E)<|Q (I (t 42) (S (M 43 5 11<|M 44 5 12<|N (.st 5 (t 8) (t 43))<|A 44 (.ld (some 5) (t 12))<|N (.st 5 (t 9) (t 44))<|V 10 (i 111)<|E)<|R) (Z))<|S (M 45 5 11<|
M 46 5 12<|N (.st 5 (t 8) (t 45))<|A 46 (.ld (some 5) (t 12))<|N (.st 5 (t 9) (t 46))<|V 10 (i 0)<|E)<|R
theorem b21 : bodyO 2291432218624 4194304 Try.prog 21 = some (47, [.c 8 (some 5), .c 9 (some 5), .t 10], c21) := by kernel_rfl
theorem k21 : callOk Try.prog 21 = true := by kernel_rfl
/-- leapfrog/leapfrogref11.Members -/
def c22 : Go.SL.CC := S (O 4 (.box 30 (t 1))<|V 6 (k (.slice none 0 0))<|V 7 (i 0)<|C 10 15 [t 0, t 2]<|O 11 (.bini .neq (t 10) (i 0))<|E)<|
Q (I (t 11) (S (V 6 (k (.slice none 0 0))<|V 7 (i 110)<|E)<|R) (Z))<|S (M 12 2 4<|C 13 16 [t 12]<|O 15 (.un .not (t 13))<|H 16 (.fa 0 (t 4)) 15<|
H 17 (.ld none (t 16)) 15<|H 19 (.bini .gtr (t 17) (t 0)) 15<|O 20 (.pick (t 15) (b true) (t 19))<|E)<|Q (I (t 20) (S (V 6 (k (.slice none 0 0))<|V 7 (i 10)<|
E)<|R) (Z))<|S (M 21 2 4<|C 6 49 [t 21, t 2]<|V 7 (i 0)<|E)<|R
theorem b22 : bodyO 4457216 8404992 Try.prog 22 = some (24, [.t 6, .t 7], c22) := by kernel_rfl
theorem k22 : callOk Try.prog 22 = true := by kernel_rfl
/-- leapfrog/leapfrogref11.Lists -/
def c24 : Go.SL.CC := S (V 4 (k (.slice none 0 0))<|V 5 (i 0)<|C 12 15 [t 0, t 1]<|O 13 (.bini .neq (t 12) (i 0))<|E)<|Q (I (t 13) (S (V 4 (k (.slice none 0 0))<|V 5 (i 110)<|E)<|
R) (Z))<|S (V 6 (k (.slice none 0 0))<|V 7 (i 0)<|E)<|Q (P 0 (S (O 16 (.ln (t 1))<|O 17 (.bini .lss (t 7) (t 16))<|E)<|Q (I (t 17) (Z) (J 0))<|
Q (B 1 (S (O 22 (.ia 5 (t 1) (t 7))<|F 23 3 22<|M 24 2 23<|C 8 53 [t 24]<|V 9 (i 0)<|E)<|P 2 (S (O 28 (.ln (t 8))<|O 29 (.bini .lss (t 9) (t 28))<|E)<|
Q (I (t 29) (Z) (J 2))<|Q (B 3 (Y (O 35 (.ia 2 (t 8) (t 9))<|M 36 2 35<|C 6 54 [t 6, t 36, t 1]<|E)))<|Y (O 9 (.bini .add (t 9) (i 1))<|E))))<|
Y (O 7 (.bini .add (t 7) (i 1))<|E)))<|S (V 4 (t 6)<|V 5 (i 0)<|E)<|R
theorem b24 : bodyO 718538066944 277059469312 Try.prog 24 = some (40, [.t 4, .t 5], c24) := by kernel_rfl
theorem k24 : callOk Try.prog 24 = true := by kernel_rfl
/-- leapfrog/leapfrogref11.Same -/
def c26 : Go.SL.CC := S (V 4 (b false)<|O 7 (.ln (t 0))<|O 9 (.ln (t 1))<|O 10 (.bini .neq (t 7) (t 9))<|E)<|Q (I (t 10) (S (V 4 (b false)<|E)<|R) (Z))<|S (V 5 (i 0)<|E)<|
Q (P 0 (S (O 13 (.ln (t 0))<|O 14 (.bini .lss (t 5) (t 13))<|E)<|Q (I (t 14) (Z) (J 0))<|Q (B 1 (S (O 19 (.ia 5 (t 0) (t 5))<|M 20 5 19<|
O 23 (.ia 5 (t 1) (t 5))<|M 24 5 23<|O 25 (.eqs true [.i, .i, .i, .i, .i] (t 20) (t 24))<|E)<|I (t 25) (S (V 4 (b false)<|E)<|R) (Z)))<|
Y (O 5 (.bini .add (t 5) (i 1))<|E)))<|S (V 4 (b true)<|E)<|R
theorem b26 : bodyO 6723904 65536 Try.prog 26 = some (26, [.t 4], c26) := by kernel_rfl
theorem k26 : callOk Try.prog 26 = true := by kernel_rfl
/-- leapfrog/leapfrogref11.SameHops -/
def c13 : Go.SL.CC := S (V 4 (b false)<|O 7 (.ln (t 0))<|O 9 (.ln (t 1))<|O 10 (.bini .neq (t 7) (t 9))<|E)<|Q (I (t 10) (S (V 4 (b false)<|E)<|R) (Z))<|S (V 5 (i 0)<|E)<|
Q (P 0 (S (O 13 (.ln (t 0))<|O 14 (.bini .lss (t 5) (t 13))<|E)<|Q (I (t 14) (Z) (J 0))<|Q (B 1 (S (O 19 (.ia 6 (t 0) (t 5))<|M 20 6 19<|
O 23 (.ia 6 (t 1) (t 5))<|M 24 6 23<|O 25 (.eqs true [.i, .i, .i, .i, .i, .i] (t 20) (t 24))<|E)<|I (t 25) (S (V 4 (b false)<|E)<|R) (Z)))<|
Y (O 5 (.bini .add (t 5) (i 1))<|E)))<|S (V 4 (b true)<|E)<|R
theorem b13 : bodyO 6723904 65536 Try.prog 13 = some (26, [.t 4], c13) := by kernel_rfl
theorem k13 : callOk Try.prog 13 = true := by kernel_rfl
/-- leapfrog/leapfrogref11.Row -/
def c27 : Go.SL.CC := S (O 4 (.box 30 (t 1))<|V 6 (k (.slice none 0 0))<|C 13 56 [t 0]<|X 14 13 0<|X 15 13 1<|
O 7 (.new 32 #[.int .i64 0, .int .i64 0, .int .u64 0, .int .i64 0, .int .u64 0])<|N (.st 5 (t 7) (t 14))<|C 18 57 [t 0]<|X 19 18 0<|X 20 18 1<|
O 9 (.new 32 #[.int .i64 0, .int .i64 0, .int .u64 0, .int .i64 0, .int .u64 0])<|N (.st 5 (t 9) (t 19))<|M 21 5 7<|M 23 2 4<|M 27 5 9<|
.both (O 22 (.bsl 32 [.c (t 21) 0 5, .c (t 21) 1 5, .c (t 21) 2 5, .c (t 21) 3 5, .c (t 21) 4 5] 1)<|.both (C 25 49 [t 23, t 2]<|A 21 (.ld (some 5) (t 7))<|
A 27 (.ld (some 5) (t 9))<|.both (O 26 (.ap 32 5 40 #[.int .i64 0, .int .i64 0, .int .u64 0, .int .i64 0, .int .u64 0] (t 22) (t 25))<|
A 27 (.ld (some 5) (t 9))<|O 28 (.bsl 32 [.c (t 27) 0 5, .c (t 27) 1 5, .c (t 27) 2 5, .c (t 27) 3 5, .c (t 27) 4 5] 1)<|
O 29 (.ap 32 5 40 #[.int .i64 0, .int .i64 0, .int .u64 0, .int .i64 0, .int .u64 0] (t 26) (t 28))<|V 6 (t 29)<|
E) (O 28 (.bsl 32 [.c (t 27) 0 5, .c (t 27) 1 5, .c (t 27) 2 5, .c (t 27) 3 5, .c (t 27) 4 5] 1)<|
O 26 (.ap 32 5 40 #[.int .i64 0, .int .i64 0, .int .u64 0, .int .i64 0, .int .u64 0] (t 22) (t 25))<|A 27 (.ld (some 5) (t 9))<|
O 29 (.ap 32 5 40 #[.int .i64 0, .int .i64 0, .int .u64 0, .int .i64 0, .int .u64 0] (t 26) (t 28))<|V 6 (t 29)<|
E)) (O 28 (.bsl 32 [.c (t 27) 0 5, .c (t 27) 1 5, .c (t 27) 2 5, .c (t 27) 3 5, .c (t 27) 4 5] 1)<|C 25 49 [t 23, t 2]<|A 21 (.ld (some 5) (t 7))<|
A 27 (.ld (some 5) (t 9))<|O 26 (.ap 32 5 40 #[.int .i64 0, .int .i64 0, .int .u64 0, .int .i64 0, .int .u64 0] (t 22) (t 25))<|A 27 (.ld (some 5) (t 9))<|
O 29 (.ap 32 5 40 #[.int .i64 0, .int .i64 0, .int .u64 0, .int .i64 0, .int .u64 0] (t 26) (t 28))<|V 6 (t 29)<|E)) (.both (C 25 49 [t 23, t 2]<|
A 21 (.ld (some 5) (t 7))<|A 27 (.ld (some 5) (t 9))<|.both (O 22 (.bsl 32 [.c (t 21) 0 5, .c (t 21) 1 5, .c (t 21) 2 5, .c (t 21) 3 5, .c (t 21) 4 5] 1)<|
.both (O 26 (.ap 32 5 40 #[.int .i64 0, .int .i64 0, .int .u64 0, .int .i64 0, .int .u64 0] (t 22) (t 25))<|A 27 (.ld (some 5) (t 9))<|
O 28 (.bsl 32 [.c (t 27) 0 5, .c (t 27) 1 5, .c (t 27) 2 5, .c (t 27) 3 5, .c (t 27) 4 5] 1)<|
O 29 (.ap 32 5 40 #[.int .i64 0, .int .i64 0, .int .u64 0, .int .i64 0, .int .u64 0] (t 26) (t 28))<|V 6 (t 29)<|
E) (O 28 (.bsl 32 [.c (t 27) 0 5, .c (t 27) 1 5, .c (t 27) 2 5, .c (t 27) 3 5, .c (t 27) 4 5] 1)<|
O 26 (.ap 32 5 40 #[.int .i64 0, .int .i64 0, .int .u64 0, .int .i64 0, .int .u64 0] (t 22) (t 25))<|A 27 (.ld (some 5) (t 9))<|
O 29 (.ap 32 5 40 #[.int .i64 0, .int .i64 0, .int .u64 0, .int .i64 0, .int .u64 0] (t 26) (t 28))<|V 6 (t 29)<|
E)) (O 28 (.bsl 32 [.c (t 27) 0 5, .c (t 27) 1 5, .c (t 27) 2 5, .c (t 27) 3 5, .c (t 27) 4 5] 1)<|
O 22 (.bsl 32 [.c (t 21) 0 5, .c (t 21) 1 5, .c (t 21) 2 5, .c (t 21) 3 5, .c (t 21) 4 5] 1)<|
O 26 (.ap 32 5 40 #[.int .i64 0, .int .i64 0, .int .u64 0, .int .i64 0, .int .u64 0] (t 22) (t 25))<|A 27 (.ld (some 5) (t 9))<|
O 29 (.ap 32 5 40 #[.int .i64 0, .int .i64 0, .int .u64 0, .int .i64 0, .int .u64 0] (t 26) (t 28))<|V 6 (t 29)<|
E)) (O 28 (.bsl 32 [.c (t 27) 0 5, .c (t 27) 1 5, .c (t 27) 2 5, .c (t 27) 3 5, .c (t 27) 4 5] 1)<|
.both (O 22 (.bsl 32 [.c (t 21) 0 5, .c (t 21) 1 5, .c (t 21) 2 5, .c (t 21) 3 5, .c (t 21) 4 5] 1)<|C 25 49 [t 23, t 2]<|A 21 (.ld (some 5) (t 7))<|
A 27 (.ld (some 5) (t 9))<|O 26 (.ap 32 5 40 #[.int .i64 0, .int .i64 0, .int .u64 0, .int .i64 0, .int .u64 0] (t 22) (t 25))<|A 27 (.ld (some 5) (t 9))<|
O 29 (.ap 32 5 40 #[.int .i64 0, .int .i64 0, .int .u64 0, .int .i64 0, .int .u64 0] (t 26) (t 28))<|V 6 (t 29)<|E) (C 25 49 [t 23, t 2]<|
A 21 (.ld (some 5) (t 7))<|A 27 (.ld (some 5) (t 9))<|O 22 (.bsl 32 [.c (t 21) 0 5, .c (t 21) 1 5, .c (t 21) 2 5, .c (t 21) 3 5, .c (t 21) 4 5] 1)<|
O 26 (.ap 32 5 40 #[.int .i64 0, .int .i64 0, .int .u64 0, .int .i64 0, .int .u64 0] (t 22) (t 25))<|A 27 (.ld (some 5) (t 9))<|
O 29 (.ap 32 5 40 #[.int .i64 0, .int .i64 0, .int .u64 0, .int .i64 0, .int .u64 0] (t 26) (t 28))<|V 6 (t 29)<|E))))<|R
theorem b27 : bodyO 16981248 0 Try.prog 27 = some (30, [.t 6], c27) := by kernel_rfl
theorem k27 : callOk Try.prog 27 = true := by kernel_rfl
/-- leapfrog/leapfrogref11.next -/
def c41 : Go.SL.CC := S (O 5 (.box 32 (t 1))<|O 8 (.new 32 #[.int .i64 0, .int .i64 0, .int .u64 0, .int .i64 0, .int .u64 0])<|
O 9 (.new 32 #[.int .i64 0, .int .i64 0, .int .u64 0, .int .i64 0, .int .u64 0])<|F 16 3 5<|M 17 2 16<|C 19 66 [t 17, t 2]<|X 20 19 0<|X 21 19 1<|
O 10 (.new 30 #[.int .i64 0, .int .u64 0])<|N (.st 2 (t 10) (t 20))<|M 24 2 10<|F 27 0 5<|L 28 27<|.both (C 26 27 [t 0, t 24, t 3]<|A 28 (.ld none (t 27))<|
.both (C 29 48 [t 26, t 28]<|X 30 29 0<|X 31 29 1<|X 32 29 2<|.both (O 12 (.new 32 #[.int .i64 0, .int .i64 0, .int .u64 0, .int .i64 0, .int .u64 0])<|
O 13 (.new 32 #[.int .i64 0, .int .i64 0, .int .u64 0, .int .i64 0, .int .u64 0])<|N (.st 5 (t 12) (t 30))<|N (.st 5 (t 13) (t 31))<|
E) (O 13 (.new 32 #[.int .i64 0, .int .i64 0, .int .u64 0, .int .i64 0, .int .u64 0])<|
O 12 (.new 32 #[.int .i64 0, .int .i64 0, .int .u64 0, .int .i64 0, .int .u64 0])<|N (.st 5 (t 12) (t 30))<|N (.st 5 (t 13) (t 31))<|
E)) (.both (O 12 (.new 32 #[.int .i64 0, .int .i64 0, .int .u64 0, .int .i64 0, .int .u64 0])<|.both (C 29 48 [t 26, t 28]<|X 30 29 0<|X 31 29 1<|X 32 29 2<|
O 13 (.new 32 #[.int .i64 0, .int .i64 0, .int .u64 0, .int .i64 0, .int .u64 0])<|N (.st 5 (t 12) (t 30))<|N (.st 5 (t 13) (t 31))<|
E) (O 13 (.new 32 #[.int .i64 0, .int .i64 0, .int .u64 0, .int .i64 0, .int .u64 0])<|C 29 48 [t 26, t 28]<|X 30 29 0<|X 31 29 1<|X 32 29 2<|
N (.st 5 (t 12) (t 30))<|N (.st 5 (t 13) (t 31))<|E)) (O 13 (.new 32 #[.int .i64 0, .int .i64 0, .int .u64 0, .int .i64 0, .int .u64 0])<|
.both (C 29 48 [t 26, t 28]<|X 30 29 0<|X 31 29 1<|X 32 29 2<|O 12 (.new 32 #[.int .i64 0, .int .i64 0, .int .u64 0, .int .i64 0, .int .u64 0])<|
N (.st 5 (t 12) (t 30))<|N (.st 5 (t 13) (t 31))<|E) (O 12 (.new 32 #[.int .i64 0, .int .i64 0, .int .u64 0, .int .i64 0, .int .u64 0])<|C 29 48 [t 26, t 28]<|
X 30 29 0<|X 31 29 1<|X 32 29 2<|N (.st 5 (t 12) (t 30))<|N (.st 5 (t 13) (t 31))<|
E)))) (.both (O 12 (.new 32 #[.int .i64 0, .int .i64 0, .int .u64 0, .int .i64 0, .int .u64 0])<|.both (C 26 27 [t 0, t 24, t 3]<|A 28 (.ld none (t 27))<|
.both (C 29 48 [t 26, t 28]<|X 30 29 0<|X 31 29 1<|X 32 29 2<|O 13 (.new 32 #[.int .i64 0, .int .i64 0, .int .u64 0, .int .i64 0, .int .u64 0])<|
N (.st 5 (t 12) (t 30))<|N (.st 5 (t 13) (t 31))<|E) (O 13 (.new 32 #[.int .i64 0, .int .i64 0, .int .u64 0, .int .i64 0, .int .u64 0])<|C 29 48 [t 26, t 28]<|
X 30 29 0<|X 31 29 1<|X 32 29 2<|N (.st 5 (t 12) (t 30))<|N (.st 5 (t 13) (t 31))<|
E)) (O 13 (.new 32 #[.int .i64 0, .int .i64 0, .int .u64 0, .int .i64 0, .int .u64 0])<|C 26 27 [t 0, t 24, t 3]<|A 28 (.ld none (t 27))<|C 29 48 [t 26, t 28]<|
X 30 29 0<|X 31 29 1<|X 32 29 2<|N (.st 5 (t 12) (t 30))<|N (.st 5 (t 13) (t 31))<|
E)) (O 13 (.new 32 #[.int .i64 0, .int .i64 0, .int .u64 0, .int .i64 0, .int .u64 0])<|.both (C 26 27 [t 0, t 24, t 3]<|A 28 (.ld none (t 27))<|
.both (C 29 48 [t 26, t 28]<|X 30 29 0<|X 31 29 1<|X 32 29 2<|O 12 (.new 32 #[.int .i64 0, .int .i64 0, .int .u64 0, .int .i64 0, .int .u64 0])<|
N (.st 5 (t 12) (t 30))<|N (.st 5 (t 13) (t 31))<|E) (O 12 (.new 32 #[.int .i64 0, .int .i64 0, .int .u64 0, .int .i64 0, .int .u64 0])<|C 29 48 [t 26, t 28]<|
X 30 29 0<|X 31 29 1<|X 32 29 2<|N (.st 5 (t 12) (t 30))<|N (.st 5 (t 13) (t 31))<|
E)) (O 12 (.new 32 #[.int .i64 0, .int .i64 0, .int .u64 0, .int .i64 0, .int .u64 0])<|C 26 27 [t 0, t 24, t 3]<|A 28 (.ld none (t 27))<|C 29 48 [t 26, t 28]<|
X 30 29 0<|X 31 29 1<|X 32 29 2<|N (.st 5 (t 12) (t 30))<|N (.st 5 (t 13) (t 31))<|E))))<|S (M 33 5 12<|M 34 5 13<|N (.st 5 (t 8) (t 33))<|
A 34 (.ld (some 5) (t 13))<|N (.st 5 (t 9) (t 34))<|E)<|R
theorem b41 : bodyO 46450688 0 Try.prog 41 = some (35, [.c 8 (some 5), .c 9 (some 5)], c41) := by kernel_rfl
theorem k41 : callOk Try.prog 41 = true := by kernel_rfl
/-- leapfrog/leapfrogref11.beside -/
def c48 : Go.SL.CC := S (O 4 (.new 32 #[.int .i64 0, .int .i64 0, .int .u64 0, .int .i64 0, .int .u64 0])<|
O 5 (.new 32 #[.int .i64 0, .int .i64 0, .int .u64 0, .int .i64 0, .int .u64 0])<|V 6 (b false)<|V 7 (i 0)<|E)<|Q (P 0 (S (O 12 (.ln (t 0))<|
O 13 (.bini .lss (t 7) (t 12))<|E)<|Q (I (t 13) (Z) (J 0))<|Q (B 1 (S (O 18 (.ia 5 (t 0) (t 7))<|F 19 0 18<|L 20 19<|O 22 (.bini .neq (t 20) (t 1))<|E)<|
Q (I (t 22) (J 1) (Z))<|S (O 8 (.new 32 #[.int .i64 0, .int .i64 0, .int .u64 0, .int .i64 0, .int .u64 0])<|
O 9 (.new 32 #[.int .i64 0, .int .i64 0, .int .u64 0, .int .i64 0, .int .u64 0])<|O 24 (.bini .gtr (t 7) (i 0))<|E)<|
Q (I (t 24) (Y (O 27 (.bini .sub (t 7) (i 1))<|O 28 (.ia 5 (t 0) (t 27))<|M 29 5 28<|N (.st 5 (t 8) (t 29))<|E)) (Z))<|S (O 31 (.bini .add (t 7) (i 1))<|
O 33 (.ln (t 0))<|O 34 (.bini .lss (t 31) (t 33))<|E)<|Q (I (t 34) (Y (O 37 (.bini .add (t 7) (i 1))<|O 38 (.ia 5 (t 0) (t 37))<|M 39 5 38<|
N (.st 5 (t 9) (t 39))<|E)) (Z))<|S (M 40 5 8<|M 41 5 9<|N (.st 5 (t 4) (t 40))<|A 41 (.ld (some 5) (t 9))<|N (.st 5 (t 5) (t 41))<|V 6 (b true)<|E)<|R))<|
Y (O 7 (.bini .add (t 7) (i 1))<|E)))<|S (O 42 (.agg [.z (.int .i64 0), .z (.int .i64 0), .z (.int .u64 0), .z (.int .i64 0), .z (.int .u64 0)])<|
O 43 (.agg [.z (.int .i64 0), .z (.int .i64 0), .z (.int .u64 0), .z (.int .i64 0), .z (.int .u64 0)])<|N (.st 5 (t 4) (t 42))<|N (.st 5 (t 5) (t 43))<|
V 6 (b false)<|E)<|R
theorem b48 : bodyO 108559289344 32768 Try.prog 48 = some (44, [.c 4 (some 5), .c 5 (some 5), .t 6], c48) := by kernel_rfl
theorem k48 : callOk Try.prog 48 = true := by kernel_rfl
/-- leapfrog/leapfrogref11.members -/
def c49 : Go.SL.CC := S (O 2 (.box 30 (t 0))<|V 4 (k (.slice none 0 0))<|V 5 (k (.slice none 0 0))<|V 6 (i 0)<|E)<|Q (P 0 (S (O 9 (.ln (t 1))<|O 10 (.bini .lss (t 6) (t 9))<|E)<|
Q (I (t 10) (Z) (J 0))<|Q (B 1 (S (O 15 (.ia 5 (t 1) (t 6))<|F 16 3 15<|M 17 2 16<|M 18 2 2<|C 19 28 [t 17, t 18]<|E)<|I (t 19) (Y (O 23 (.ia 5 (t 1) (t 6))<|
M 24 5 23<|O 25 (.bsl 32 [.c (t 24) 0 5, .c (t 24) 1 5, .c (t 24) 2 5, .c (t 24) 3 5, .c (t 24) 4 5] 1)<|
O 5 (.ap 32 5 40 #[.int .i64 0, .int .i64 0, .int .u64 0, .int .i64 0, .int .u64 0] (t 5) (t 25))<|E)) (Z)))<|Y (O 6 (.bini .add (t 6) (i 1))<|E)))<|
S (C 4 67 [t 5]<|E)<|R
theorem b49 : bodyO 141584768 335548416 Try.prog 49 = some (29, [.t 4], c49) := by kernel_rfl
theorem k49 : callOk Try.prog 49 = true := by kernel_rfl
/-- leapfrog/leapfrogref11.with -/
def c54 : Go.SL.CC := S (O 4 (.box 30 (t 1))<|V 6 (k (.slice none 0 0))<|V 7 (i 0)<|E)<|Q (P 0 (S (O 12 (.ln (t 0))<|O 13 (.bini .lss (t 7) (t 12))<|E)<|Q (I (t 13) (Z) (J 0))<|
B 1 (S (O 17 (.ia 3 (t 0) (t 7))<|F 18 0 17<|M 19 2 18<|M 20 2 4<|C 21 71 [t 19, t 20]<|X 22 21 0<|X 23 21 1<|V 8 (t 22)<|O 25 (.bini .eql (t 8) (i 0))<|E)<|
Q (I (t 25) (S (V 6 (t 0)<|E)<|R) (Z))<|S (O 28 (.bini .gtr (t 8) (i 0))<|E)<|Q (I (t 28) (J 0) (Z))<|Y (O 7 (.bini .add (t 7) (i 1))<|E))))<|
S (O 34 (.sl 3 (t 0) none (some (t 7)) none)<|M 36 2 4<|M 37 2 4<|O 45 (.sl 3 (t 0) (some (t 7)) none none)<|O 31 (.bsl 67 [] 0)<|
O 35 (.ap 67 3 40 #[.int .i64 0, .int .u64 0, .slice none 0 0] (t 31) (t 34))<|A 36 (.ld (some 2) (t 4))<|A 37 (.ld (some 2) (t 4))<|C 39 49 [t 37, t 2]<|
A 36 (.ld (some 2) (t 4))<|O 40 (.agg [.c (t 36) 0 2, .c (t 36) 1 2, .c (t 39) 0 1])<|O 41 (.bsl 67 [.c (t 40) 0 3, .c (t 40) 1 3, .c (t 40) 2 3] 1)<|
O 42 (.ap 67 3 40 #[.int .i64 0, .int .u64 0, .slice none 0 0] (t 35) (t 41))<|O 6 (.ap 67 3 40 #[.int .i64 0, .int .u64 0, .slice none 0 0] (t 42) (t 45))<|
E)<|R
theorem b54 : bodyO 26676796968448 70369817919488 Try.prog 54 = some (47, [.t 6], c54) := by kernel_rfl
theorem k54 : callOk Try.prog 54 = true := by kernel_rfl
/-- leapfrog/leapfrogref11.sorted -/
def c67 : Go.SL.CC := S (V 2 (k (.slice none 0 0))<|V 3 (k (.slice none 0 0))<|V 4 (i 0)<|E)<|Q (P 0 (S (O 8 (.ln (t 0))<|O 9 (.bini .lss (t 4) (t 8))<|E)<|Q (I (t 9) (Z) (J 0))<|
Q (B 1 (S (V 5 (i 0)<|E)<|Q (P 2 (S (O 14 (.ln (t 3))<|O 16 (.bini .lss (t 5) (t 14))<|G 19 (.ia 5 (t 3) (t 5)) 16<|G 20 (.fa 1 (t 19)) 16<|
G 21 (.ld (some 2) (t 20)) 16<|G 24 (.ia 5 (t 0) (t 4)) 16<|G 25 (.fa 1 (t 24)) 16<|G 26 (.ld (some 2) (t 25)) 16<|G 27 (.call (f 19) [t 21, t 26]) 16<|
O 28 (.pick (t 16) (t 27) (b false))<|E)<|Q (I (t 28) (Z) (J 2))<|B 3 (Y (O 5 (.bini .add (t 5) (i 1))<|E))))<|Y (O 34 (.sl 5 (t 3) none (some (t 5)) none)<|
O 38 (.ia 5 (t 0) (t 4))<|M 39 5 38<|O 44 (.sl 5 (t 3) (some (t 5)) none none)<|.both (O 31 (.bsl 32 [] 0)<|
.both (O 35 (.ap 32 5 40 #[.int .i64 0, .int .i64 0, .int .u64 0, .int .i64 0, .int .u64 0] (t 31) (t 34))<|A 39 (.ld (some 5) (t 38))<|
O 40 (.bsl 32 [.c (t 39) 0 5, .c (t 39) 1 5, .c (t 39) 2 5, .c (t 39) 3 5, .c (t 39) 4 5] 1)<|
O 41 (.ap 32 5 40 #[.int .i64 0, .int .i64 0, .int .u64 0, .int .i64 0, .int .u64 0] (t 35) (t 40))<|
O 45 (.ap 32 5 40 #[.int .i64 0, .int .i64 0, .int .u64 0, .int .i64 0, .int .u64 0] (t 41) (t 44))<|V 3 (t 45)<|
E) (O 40 (.bsl 32 [.c (t 39) 0 5, .c (t 39) 1 5, .c (t 39) 2 5, .c (t 39) 3 5, .c (t 39) 4 5] 1)<|
O 35 (.ap 32 5 40 #[.int .i64 0, .int .i64 0, .int .u64 0, .int .i64 0, .int .u64 0] (t 31) (t 34))<|A 39 (.ld (some 5) (t 38))<|
O 41 (.ap 32 5 40 #[.int .i64 0, .int .i64 0, .int .u64 0, .int .i64 0, .int .u64 0] (t 35) (t 40))<|
O 45 (.ap 32 5 40 #[.int .i64 0, .int .i64 0, .int .u64 0, .int .i64 0, .int .u64 0] (t 41) (t 44))<|V 3 (t 45)<|
E)) (O 40 (.bsl 32 [.c (t 39) 0 5, .c (t 39) 1 5, .c (t 39) 2 5, .c (t 39) 3 5, .c (t 39) 4 5] 1)<|O 31 (.bsl 32 [] 0)<|
O 35 (.ap 32 5 40 #[.int .i64 0, .int .i64 0, .int .u64 0, .int .i64 0, .int .u64 0] (t 31) (t 34))<|A 39 (.ld (some 5) (t 38))<|
O 41 (.ap 32 5 40 #[.int .i64 0, .int .i64 0, .int .u64 0, .int .i64 0, .int .u64 0] (t 35) (t 40))<|
O 45 (.ap 32 5 40 #[.int .i64 0, .int .i64 0, .int .u64 0, .int .i64 0, .int .u64 0] (t 41) (t 44))<|V 3 (t 45)<|E))))<|Y (O 4 (.bini .add (t 4) (i 1))<|E)))<|
S (V 2 (t 3)<|E)<|R
theorem b67 : bodyO 83782476903616 1073776640 Try.prog 67 = some (47, [.t 2], c67) := by kernel_rfl
theorem k67 : callOk Try.prog 67 = true := by kernel_rfl
end Go.Proofs.Ytgcmglieciaifaa
