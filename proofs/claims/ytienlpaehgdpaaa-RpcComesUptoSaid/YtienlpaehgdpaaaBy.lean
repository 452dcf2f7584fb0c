/- The bodies of some functions of the program, without their noise, and that they are these. Conditions: none. Written by a program of this workplace (Print.lean). -/
import Derived.Test.YtienlpaehgdpaaaProg
import Derived.Test.YtienlpaehgdpaaaSlW
import Derived.KernelRfl
namespace Go.Proofs.Ytienlpaehgdpaaa
open Go.SL Go.SL.W
set_option maxRecDepth 100000

/-- leapfrog/leapfroglaw06.awake -/
def c16 : Go.SL.CC := S (V 0 (b false)<|C 21 24 []<|C 22 17 [t 21, i 2]<|X 23 22 0<|X 24 22 1<|V 1 (t 23)<|C 25 26 []<|C 3 32 [t 25]<|O 29 (.bini .neq (t 24) (i 0))<|
H 31 (.cmp .p false (t 1) (k (.pointer none))) 29<|O 33 (.pick (t 29) (b true) (t 31))<|H 35 (.cmp .p false (t 3) (k (.pointer none))) 33<|
O 36 (.pick (t 33) (b true) (t 35))<|E)<|Q (I (t 36) (S (V 0 (b false)<|E)<|R) (Z))<|S (C 39 26 []<|
O 40 (.agg [.c (i 2) 0 1, .z (.int .i64 0), .z (.int .u64 0), .z (.int .i64 0), .z (.int .i64 0), .z (.int .u64 0), .z (.int .i64 0), .z (.int .u64 0), .z (.int .i64 0), .z (.int .i64 0), .z (.int .u64 0), .z (.int .i64 0), .z (.int .u64 0), .z (.int .i64 0), .z (.int .i64 0)])<|
C 41 25 [t 1, t 39, t 40]<|X 42 41 0<|X 43 41 1<|
O 4 (.new 63 #[.bool false, .bool false, .int .i64 0, .bool false, .int .i64 0, .int .i64 0, .int .i64 0, .int .i64 0, .int .u64 0, .int .i64 0, .int .i64 0, .int .u64 0, .int .i64 0, .int .u64 0, .int .i64 0, .int .i64 0, .int .u64 0, .int .i64 0, .int .u64 0, .int .i64 0, .int .i64 0, .int .i64 0, .bool false, .int .i64 0, .int .i64 0, .int .u64 0, .int .i64 0, .int .u64 0, .int .i64 0, .int .i64 0, .int .u64 0, .int .i64 0, .int .u64 0, .slice none 0 0])<|
N (.st 34 (t 4) (t 42))<|V 5 (t 43)<|M 46 34 4<|C 47 33 [t 3, t 46]<|X 48 47 0<|X 49 47 1<|
O 6 (.new 63 #[.bool false, .bool false, .int .i64 0, .bool false, .int .i64 0, .int .i64 0, .int .i64 0, .int .i64 0, .int .u64 0, .int .i64 0, .int .i64 0, .int .u64 0, .int .i64 0, .int .u64 0, .int .i64 0, .int .i64 0, .int .u64 0, .int .i64 0, .int .u64 0, .int .i64 0, .int .i64 0, .int .i64 0, .bool false, .int .i64 0, .int .i64 0, .int .u64 0, .int .i64 0, .int .u64 0, .int .i64 0, .int .i64 0, .int .u64 0, .int .i64 0, .int .u64 0, .slice none 0 0])<|
N (.st 34 (t 6) (t 48))<|V 7 (t 49)<|M 52 34 4<|C 53 33 [t 3, t 52]<|X 54 53 0<|X 55 53 1<|
O 8 (.new 63 #[.bool false, .bool false, .int .i64 0, .bool false, .int .i64 0, .int .i64 0, .int .i64 0, .int .i64 0, .int .u64 0, .int .i64 0, .int .i64 0, .int .u64 0, .int .i64 0, .int .u64 0, .int .i64 0, .int .i64 0, .int .u64 0, .int .i64 0, .int .u64 0, .int .i64 0, .int .i64 0, .int .i64 0, .bool false, .int .i64 0, .int .i64 0, .int .u64 0, .int .i64 0, .int .u64 0, .int .i64 0, .int .i64 0, .int .u64 0, .int .i64 0, .int .u64 0, .slice none 0 0])<|
N (.st 34 (t 8) (t 54))<|V 9 (t 55)<|C 57 30 [t 1]<|C 59 30 [t 1]<|V 10 (t 57)<|V 11 (t 59)<|F 63 5 4<|L 64 63<|
O 65 (.agg [.c (i 2) 0 1, .z (.bool false), .z (.int .i64 0), .z (.int .i64 0), .z (.int .u64 0), .z (.int .i64 0), .z (.int .u64 0), .z (.int .i64 0), .z (.int .i64 0), .z (.int .u64 0), .z (.int .i64 0), .z (.int .u64 0), .z (.slice none 0 0)])<|
.both (C 62 24 []<|A 64 (.ld none (t 63))<|.both (C 66 36 [t 3, t 62, t 64, t 65]<|X 67 66 0<|X 68 66 1<|
O 12 (.new 63 #[.bool false, .bool false, .int .i64 0, .bool false, .int .i64 0, .int .i64 0, .int .i64 0, .int .i64 0, .int .u64 0, .int .i64 0, .int .i64 0, .int .u64 0, .int .i64 0, .int .u64 0, .int .i64 0, .int .i64 0, .int .u64 0, .int .i64 0, .int .u64 0, .int .i64 0, .int .i64 0, .int .i64 0, .bool false, .int .i64 0, .int .i64 0, .int .u64 0, .int .i64 0, .int .u64 0, .int .i64 0, .int .i64 0, .int .u64 0, .int .i64 0, .int .u64 0, .slice none 0 0])<|
N (.st 34 (t 12) (t 67))<|V 13 (t 68)<|
E) (O 12 (.new 63 #[.bool false, .bool false, .int .i64 0, .bool false, .int .i64 0, .int .i64 0, .int .i64 0, .int .i64 0, .int .u64 0, .int .i64 0, .int .i64 0, .int .u64 0, .int .i64 0, .int .u64 0, .int .i64 0, .int .i64 0, .int .u64 0, .int .i64 0, .int .u64 0, .int .i64 0, .int .i64 0, .int .i64 0, .bool false, .int .i64 0, .int .i64 0, .int .u64 0, .int .i64 0, .int .u64 0, .int .i64 0, .int .i64 0, .int .u64 0, .int .i64 0, .int .u64 0, .slice none 0 0])<|
C 66 36 [t 3, t 62, t 64, t 65]<|X 67 66 0<|X 68 66 1<|N (.st 34 (t 12) (t 67))<|V 13 (t 68)<|
E)) (O 12 (.new 63 #[.bool false, .bool false, .int .i64 0, .bool false, .int .i64 0, .int .i64 0, .int .i64 0, .int .i64 0, .int .u64 0, .int .i64 0, .int .i64 0, .int .u64 0, .int .i64 0, .int .u64 0, .int .i64 0, .int .i64 0, .int .u64 0, .int .i64 0, .int .u64 0, .int .i64 0, .int .i64 0, .int .i64 0, .bool false, .int .i64 0, .int .i64 0, .int .u64 0, .int .i64 0, .int .u64 0, .int .i64 0, .int .i64 0, .int .u64 0, .int .i64 0, .int .u64 0, .slice none 0 0])<|
C 62 24 []<|A 64 (.ld none (t 63))<|C 66 36 [t 3, t 62, t 64, t 65]<|X 67 66 0<|X 68 66 1<|N (.st 34 (t 12) (t 67))<|V 13 (t 68)<|E))<|S (M 71 34 4<|
C 72 33 [t 3, t 71]<|X 73 72 0<|X 74 72 1<|
O 14 (.new 63 #[.bool false, .bool false, .int .i64 0, .bool false, .int .i64 0, .int .i64 0, .int .i64 0, .int .i64 0, .int .u64 0, .int .i64 0, .int .i64 0, .int .u64 0, .int .i64 0, .int .u64 0, .int .i64 0, .int .i64 0, .int .u64 0, .int .i64 0, .int .u64 0, .int .i64 0, .int .i64 0, .int .i64 0, .bool false, .int .i64 0, .int .i64 0, .int .u64 0, .int .i64 0, .int .u64 0, .int .i64 0, .int .i64 0, .int .u64 0, .int .i64 0, .int .u64 0, .slice none 0 0])<|
N (.st 34 (t 14) (t 73))<|M 77 34 12<|C 78 41 [t 1, t 77]<|X 79 78 0<|X 80 78 1<|
O 16 (.new 63 #[.bool false, .bool false, .int .i64 0, .bool false, .int .i64 0, .int .i64 0, .int .i64 0, .int .i64 0, .int .u64 0, .int .i64 0, .int .i64 0, .int .u64 0, .int .i64 0, .int .u64 0, .int .i64 0, .int .i64 0, .int .u64 0, .int .i64 0, .int .u64 0, .int .i64 0, .int .i64 0, .int .i64 0, .bool false, .int .i64 0, .int .i64 0, .int .u64 0, .int .i64 0, .int .u64 0, .int .i64 0, .int .i64 0, .int .u64 0, .int .i64 0, .int .u64 0, .slice none 0 0])<|
N (.st 34 (t 16) (t 79))<|M 83 34 12<|C 84 41 [t 1, t 83]<|X 85 84 0<|X 86 84 1<|
O 18 (.new 63 #[.bool false, .bool false, .int .i64 0, .bool false, .int .i64 0, .int .i64 0, .int .i64 0, .int .i64 0, .int .u64 0, .int .i64 0, .int .i64 0, .int .u64 0, .int .i64 0, .int .u64 0, .int .i64 0, .int .i64 0, .int .u64 0, .int .i64 0, .int .u64 0, .int .i64 0, .int .i64 0, .int .i64 0, .bool false, .int .i64 0, .int .i64 0, .int .u64 0, .int .i64 0, .int .u64 0, .int .i64 0, .int .i64 0, .int .u64 0, .int .i64 0, .int .u64 0, .slice none 0 0])<|
N (.st 34 (t 18) (t 85))<|O 89 (.bini .eql (t 5) (i 0))<|G 91 (.bini .eql (t 13) (i 0)) 89<|O 93 (.pick (t 89) (t 91) (b false))<|G 94 (.fa 5 (t 4)) 93<|
G 95 (.ld none (t 94)) 93<|G 96 (.bini .eql (t 95) (i 1)) 93<|O 98 (.pick (t 93) (t 96) (b false))<|G 100 (.bini .eql (t 7) (i 1)) 98<|
O 102 (.pick (t 98) (t 100) (b false))<|G 104 (.bini .eql (t 9) (i 2)) 102<|O 106 (.pick (t 102) (t 104) (b false))<|G 108 (.bini .eql (t 74) (i 3)) 106<|
O 110 (.pick (t 106) (t 108) (b false))<|G 112 (.ln (t 10)) 110<|G 113 (.bini .eql (t 112) (i 0)) 110<|O 115 (.pick (t 110) (t 113) (b false))<|
G 117 (.ln (t 11)) 115<|G 118 (.bini .eql (t 117) (i 1)) 115<|O 120 (.pick (t 115) (t 118) (b false))<|G 121 (.mv (t 80)) 120<|
O 123 (.pick (t 120) (t 121) (b false))<|G 125 (.un .not (t 86)) 123<|O 127 (.pick (t 123) (t 125) (b false))<|G 129 (.call (f 22) [t 1]) 127<|
G 130 (.ln (t 129)) 127<|G 131 (.bini .eql (t 130) (i 0)) 127<|O 0 (.pick (t 127) (t 131) (b false))<|E)<|R
theorem b16 : bodyO 361635860787369924449638821808580493316 5535591449934661586827163383082801692672 Try.prog 16 = some (133, [.t 0], c16) := by kernel_rfl
theorem k16 : callOk Try.prog 16 = true := by kernel_rfl
/-- leapfrog/leapfroglaw06.light -/
def c19 : Go.SL.CC := S (O 1 (.box 63 (t 0))<|V 2 (b false)<|F 3 21 1<|F 4 12 3<|L 5 4<|O 6 (.ln (t 5))<|O 2 (.bini .leq (t 6) (i 3000))<|E)<|R
theorem b19 : bodyO 0 128 Try.prog 19 = some (8, [.t 2], c19) := by kernel_rfl
theorem k19 : callOk Try.prog 19 = true := by kernel_rfl
/-- leapfrog/leapfroglaw06.called -/
def c20 : Go.SL.CC := S (O 5 (.box 65 (t 2))<|V 6 (b false)<|F 19 0 5<|L 20 19<|E)<|B 0 (S (O 21 (.bini .eql (t 20) (i 1))<|E)<|I (t 21) (S (F 25 1 5<|M 26 2 25<|F 27 3 5<|
M 28 15 27<|C 29 25 [t 0, t 26, t 28]<|X 30 29 0<|X 31 29 1<|
O 7 (.new 63 #[.bool false, .bool false, .int .i64 0, .bool false, .int .i64 0, .int .i64 0, .int .i64 0, .int .i64 0, .int .u64 0, .int .i64 0, .int .i64 0, .int .u64 0, .int .i64 0, .int .u64 0, .int .i64 0, .int .i64 0, .int .u64 0, .int .i64 0, .int .u64 0, .int .i64 0, .int .i64 0, .int .i64 0, .bool false, .int .i64 0, .int .i64 0, .int .u64 0, .int .i64 0, .int .u64 0, .int .i64 0, .int .i64 0, .int .u64 0, .int .i64 0, .int .u64 0, .slice none 0 0])<|
N (.st 34 (t 7) (t 30))<|F 34 1 5<|M 35 2 34<|F 36 3 5<|M 37 15 36<|C 38 48 [t 1, t 35, t 37]<|X 39 38 0<|X 40 38 1<|
O 9 (.new 63 #[.bool false, .bool false, .int .i64 0, .bool false, .int .i64 0, .int .i64 0, .int .i64 0, .int .i64 0, .int .u64 0, .int .i64 0, .int .i64 0, .int .u64 0, .int .i64 0, .int .u64 0, .int .i64 0, .int .i64 0, .int .u64 0, .int .i64 0, .int .u64 0, .int .i64 0, .int .i64 0, .int .i64 0, .bool false, .int .i64 0, .int .i64 0, .int .u64 0, .int .i64 0, .int .u64 0, .int .i64 0, .int .i64 0, .int .u64 0, .int .i64 0, .int .u64 0, .slice none 0 0])<|
N (.st 34 (t 9) (t 39))<|M 41 34 7<|M 42 34 9<|C 44 35 [t 41, t 42]<|G 47 (.bini .eql (t 31) (t 40)) 44<|O 6 (.pick (t 44) (t 47) (b false))<|E)<|
R) (S (O 49 (.bini .eql (t 20) (i 2))<|E)<|I (t 49) (S (F 53 18 5<|M 54 34 53<|C 55 41 [t 0, t 54]<|X 56 55 0<|X 57 55 1<|
O 11 (.new 63 #[.bool false, .bool false, .int .i64 0, .bool false, .int .i64 0, .int .i64 0, .int .i64 0, .int .i64 0, .int .u64 0, .int .i64 0, .int .i64 0, .int .u64 0, .int .i64 0, .int .u64 0, .int .i64 0, .int .i64 0, .int .u64 0, .int .i64 0, .int .u64 0, .int .i64 0, .int .i64 0, .int .i64 0, .bool false, .int .i64 0, .int .i64 0, .int .u64 0, .int .i64 0, .int .u64 0, .int .i64 0, .int .i64 0, .int .u64 0, .int .i64 0, .int .u64 0, .slice none 0 0])<|
N (.st 34 (t 11) (t 56))<|F 60 18 5<|M 61 34 60<|C 62 49 [t 1, t 61]<|X 63 62 0<|X 64 62 1<|
O 13 (.new 63 #[.bool false, .bool false, .int .i64 0, .bool false, .int .i64 0, .int .i64 0, .int .i64 0, .int .i64 0, .int .u64 0, .int .i64 0, .int .i64 0, .int .u64 0, .int .i64 0, .int .u64 0, .int .i64 0, .int .i64 0, .int .u64 0, .int .i64 0, .int .u64 0, .int .i64 0, .int .i64 0, .int .i64 0, .bool false, .int .i64 0, .int .i64 0, .int .u64 0, .int .i64 0, .int .u64 0, .int .i64 0, .int .i64 0, .int .u64 0, .int .i64 0, .int .u64 0, .slice none 0 0])<|
N (.st 34 (t 13) (t 63))<|M 65 34 11<|M 66 34 13<|C 68 35 [t 65, t 66]<|G 71 (.cmp .b false (t 57) (t 64)) 68<|O 6 (.pick (t 68) (t 71) (b false))<|E)<|
R) (S (O 73 (.bini .eql (t 20) (i 3))<|E)<|I (t 73) (S (C 76 30 [t 0]<|C 78 50 [t 1]<|C 6 21 [t 76, t 78]<|E)<|R) (S (O 80 (.bini .eql (t 20) (i 4))<|E)<|
I (t 80) (S (F 84 52 5<|L 85 84<|C 86 27 [t 0, t 85]<|X 87 86 0<|X 88 86 1<|
O 15 (.new 63 #[.bool false, .bool false, .int .i64 0, .bool false, .int .i64 0, .int .i64 0, .int .i64 0, .int .i64 0, .int .u64 0, .int .i64 0, .int .i64 0, .int .u64 0, .int .i64 0, .int .u64 0, .int .i64 0, .int .i64 0, .int .u64 0, .int .i64 0, .int .u64 0, .int .i64 0, .int .i64 0, .int .i64 0, .bool false, .int .i64 0, .int .i64 0, .int .u64 0, .int .i64 0, .int .u64 0, .int .i64 0, .int .i64 0, .int .u64 0, .int .i64 0, .int .u64 0, .slice none 0 0])<|
N (.st 34 (t 15) (t 87))<|F 91 52 5<|L 92 91<|C 93 51 [t 1, t 92]<|X 94 93 0<|X 95 93 1<|
O 17 (.new 63 #[.bool false, .bool false, .int .i64 0, .bool false, .int .i64 0, .int .i64 0, .int .i64 0, .int .i64 0, .int .u64 0, .int .i64 0, .int .i64 0, .int .u64 0, .int .i64 0, .int .u64 0, .int .i64 0, .int .i64 0, .int .u64 0, .int .i64 0, .int .u64 0, .int .i64 0, .int .i64 0, .int .i64 0, .bool false, .int .i64 0, .int .i64 0, .int .u64 0, .int .i64 0, .int .u64 0, .int .i64 0, .int .i64 0, .int .u64 0, .int .i64 0, .int .u64 0, .slice none 0 0])<|
N (.st 34 (t 17) (t 94))<|M 96 34 15<|M 97 34 17<|C 99 35 [t 96, t 97]<|G 102 (.cmp .b false (t 88) (t 95)) 99<|O 6 (.pick (t 99) (t 102) (b false))<|E)<|
R) (S (V 6 (b true)<|E)<|R)))))
theorem b20 : bodyO 3804823408519869948408403154176 10458120497956849382029621460992 Try.prog 20 = some (104, [.t 6], c20) := by kernel_rfl
theorem k20 : callOk Try.prog 20 = true := by kernel_rfl
/-- leapfrog/leapfroglaw06.agent -/
def c24 : Go.SL.CC := S (O 0 (.new 45 #[.bool false, .int .i64 0])<|O 1 (.agg [.c (b true) 0 1, .c (i 1) 0 1])<|N (.st 2 (t 0) (t 1))<|E)<|R
theorem b24 : bodyO 0 0 Try.prog 24 = some (2, [.c 0 (some 2)], c24) := by kernel_rfl
theorem k24 : callOk Try.prog 24 = true := by kernel_rfl
/-- leapfrog/leapfroglaw06.peer -/
def c26 : Go.SL.CC := S (O 0 (.new 45 #[.bool false, .int .i64 0])<|O 1 (.agg [.z (.bool false), .c (i 2) 0 1])<|N (.st 2 (t 0) (t 1))<|E)<|R
theorem b26 : bodyO 0 0 Try.prog 26 = some (2, [.c 0 (some 2)], c26) := by kernel_rfl
theorem k26 : callOk Try.prog 26 = true := by kernel_rfl
/-- leapfrog/leapfroglaw06.begin -/
def c28 : Go.SL.CC := S (V 2 (k (.pointer none))<|C 7 24 []<|C 9 17 [t 7, t 0]<|X 10 9 0<|X 11 9 1<|V 3 (t 10)<|C 12 26 []<|C 5 32 [t 12]<|O 16 (.bini .neq (t 11) (i 0))<|
H 18 (.cmp .p false (t 3) (k (.pointer none))) 16<|O 20 (.pick (t 16) (b true) (t 18))<|H 22 (.cmp .p false (t 5) (k (.pointer none))) 20<|
O 23 (.pick (t 20) (b true) (t 22))<|E)<|Q (I (t 23) (S (V 2 (k (.pointer none))<|E)<|R) (Z))<|
S (O 26 (.agg [.c (t 3) 0 1, .c (t 5) 0 1, .z (.slice none 0 0), .z (.slice none 0 0), .z (.slice none 0 0), .z (.slice none 0 0), .z (.bool false)])<|
O 2 (.box 87 (t 26))<|E)<|R
theorem b28 : bodyO 52576592 134782976 Try.prog 28 = some (28, [.t 2], c28) := by kernel_rfl
theorem k28 : callOk Try.prog 28 = true := by kernel_rfl
/-- (*leapfrog/leapfroglaw06.Two).do -/
def c29 : Go.SL.CC := S (O 3 (.box 83 (t 1))<|F 10 0 3<|L 11 10<|E)<|B 0 (S (O 12 (.bini .eql (t 11) (i 1))<|E)<|I (t 12) (S (F 17 0 0<|L 18 17<|F 20 2 3<|M 21 15 20<|
.both (C 19 26 []<|A 18 (.ld none (t 17))<|A 21 (.ld (some 15) (t 20))<|.both (C 22 25 [t 18, t 19, t 21]<|X 23 22 0<|X 24 22 1<|
O 4 (.new 63 #[.bool false, .bool false, .int .i64 0, .bool false, .int .i64 0, .int .i64 0, .int .i64 0, .int .i64 0, .int .u64 0, .int .i64 0, .int .i64 0, .int .u64 0, .int .i64 0, .int .u64 0, .int .i64 0, .int .i64 0, .int .u64 0, .int .i64 0, .int .u64 0, .int .i64 0, .int .i64 0, .int .i64 0, .bool false, .int .i64 0, .int .i64 0, .int .u64 0, .int .i64 0, .int .u64 0, .int .i64 0, .int .i64 0, .int .u64 0, .int .i64 0, .int .u64 0, .slice none 0 0])<|
N (.st 34 (t 4) (t 23))<|V 5 (t 24)<|
E) (O 4 (.new 63 #[.bool false, .bool false, .int .i64 0, .bool false, .int .i64 0, .int .i64 0, .int .i64 0, .int .i64 0, .int .u64 0, .int .i64 0, .int .i64 0, .int .u64 0, .int .i64 0, .int .u64 0, .int .i64 0, .int .i64 0, .int .u64 0, .int .i64 0, .int .u64 0, .int .i64 0, .int .i64 0, .int .i64 0, .bool false, .int .i64 0, .int .i64 0, .int .u64 0, .int .i64 0, .int .u64 0, .int .i64 0, .int .i64 0, .int .u64 0, .int .i64 0, .int .u64 0, .slice none 0 0])<|
C 22 25 [t 18, t 19, t 21]<|X 23 22 0<|X 24 22 1<|N (.st 34 (t 4) (t 23))<|V 5 (t 24)<|
E)) (O 4 (.new 63 #[.bool false, .bool false, .int .i64 0, .bool false, .int .i64 0, .int .i64 0, .int .i64 0, .int .i64 0, .int .u64 0, .int .i64 0, .int .i64 0, .int .u64 0, .int .i64 0, .int .u64 0, .int .i64 0, .int .i64 0, .int .u64 0, .int .i64 0, .int .u64 0, .int .i64 0, .int .i64 0, .int .i64 0, .bool false, .int .i64 0, .int .i64 0, .int .u64 0, .int .i64 0, .int .u64 0, .int .i64 0, .int .i64 0, .int .u64 0, .int .i64 0, .int .u64 0, .slice none 0 0])<|
C 19 26 []<|A 18 (.ld none (t 17))<|A 21 (.ld (some 15) (t 20))<|C 22 25 [t 18, t 19, t 21]<|X 23 22 0<|X 24 22 1<|N (.st 34 (t 4) (t 23))<|V 5 (t 24)<|E))<|
S (O 26 (.bini .eql (t 5) (i 0))<|E)<|I (t 26) (Y (F 30 2 0<|L 31 30<|M 32 34 4<|
O 33 (.bsl 63 [.c (t 32) 0 34, .c (t 32) 1 34, .c (t 32) 2 34, .c (t 32) 3 34, .c (t 32) 4 34, .c (t 32) 5 34, .c (t 32) 6 34, .c (t 32) 7 34, .c (t 32) 8 34, .c (t 32) 9 34, .c (t 32) 10 34, .c (t 32) 11 34, .c (t 32) 12 34, .c (t 32) 13 34, .c (t 32) 14 34, .c (t 32) 15 34, .c (t 32) 16 34, .c (t 32) 17 34, .c (t 32) 18 34, .c (t 32) 19 34, .c (t 32) 20 34, .c (t 32) 21 34, .c (t 32) 22 34, .c (t 32) 23 34, .c (t 32) 24 34, .c (t 32) 25 34, .c (t 32) 26 34, .c (t 32) 27 34, .c (t 32) 28 34, .c (t 32) 29 34, .c (t 32) 30 34, .c (t 32) 31 34, .c (t 32) 32 34, .c (t 32) 33 34] 1)<|
O 34 (.ap 63 34 288 #[.bool false, .bool false, .int .i64 0, .bool false, .int .i64 0, .int .i64 0, .int .i64 0, .int .i64 0, .int .u64 0, .int .i64 0, .int .i64 0, .int .u64 0, .int .i64 0, .int .u64 0, .int .i64 0, .int .i64 0, .int .u64 0, .int .i64 0, .int .u64 0, .int .i64 0, .int .i64 0, .int .i64 0, .bool false, .int .i64 0, .int .i64 0, .int .u64 0, .int .i64 0, .int .u64 0, .int .i64 0, .int .i64 0, .int .u64 0, .int .i64 0, .int .u64 0, .slice none 0 0] (t 31) (t 33))<|
F 36 2 0<|N (.st 1 (t 36) (t 34))<|E)) (Z)) (S (O 37 (.bini .eql (t 11) (i 2))<|E)<|Q (I (t 37) (Z) (S (O 37 (.bini .eql (t 11) (i 3))<|E)<|
I (t 37) (Z) (Y (O 37 (.bini .eql (t 11) (i 4))<|E))))<|I (t 37) (S (F 41 1 3<|L 42 41<|O 44 (.bini .lss (t 42) (i 0))<|H 45 (.fa 1 (t 3)) 44<|
H 46 (.ld none (t 45)) 44<|H 49 (.fa 2 (t 0)) 44<|H 50 (.ld none (t 49)) 44<|H 51 (.ln (t 50)) 44<|H 52 (.bini .geq (t 46) (t 51)) 44<|
O 53 (.pick (t 44) (b true) (t 52))<|E)<|Q (I (t 53) (R) (Z))<|S (F 56 2 0<|L 57 56<|F 58 1 3<|L 59 58<|O 60 (.ia 34 (t 57) (t 59))<|M 61 34 60<|
O 6 (.new 63 #[.bool false, .bool false, .int .i64 0, .bool false, .int .i64 0, .int .i64 0, .int .i64 0, .int .i64 0, .int .u64 0, .int .i64 0, .int .i64 0, .int .u64 0, .int .i64 0, .int .u64 0, .int .i64 0, .int .i64 0, .int .u64 0, .int .i64 0, .int .u64 0, .int .i64 0, .int .i64 0, .int .i64 0, .bool false, .int .i64 0, .int .i64 0, .int .u64 0, .int .i64 0, .int .u64 0, .int .i64 0, .int .i64 0, .int .u64 0, .int .i64 0, .int .u64 0, .slice none 0 0])<|
N (.st 34 (t 6) (t 61))<|F 62 0 3<|L 63 62<|O 64 (.bini .neq (t 63) (i 3))<|E)<|Q (I (t 64) (Y (F 69 2 0<|L 70 69<|F 71 1 3<|L 72 71<|
O 73 (.sl 34 (t 70) none (some (t 72)) none)<|F 77 2 0<|L 78 77<|F 79 1 3<|L 80 79<|O 81 (.bini .add (t 80) (i 1))<|
O 82 (.sl 34 (t 78) (some (t 81)) none none)<|O 66 (.bsl 63 [] 0)<|
O 74 (.ap 63 34 288 #[.bool false, .bool false, .int .i64 0, .bool false, .int .i64 0, .int .i64 0, .int .i64 0, .int .i64 0, .int .u64 0, .int .i64 0, .int .i64 0, .int .u64 0, .int .i64 0, .int .u64 0, .int .i64 0, .int .i64 0, .int .u64 0, .int .i64 0, .int .u64 0, .int .i64 0, .int .i64 0, .int .i64 0, .bool false, .int .i64 0, .int .i64 0, .int .u64 0, .int .i64 0, .int .u64 0, .int .i64 0, .int .i64 0, .int .u64 0, .int .i64 0, .int .u64 0, .slice none 0 0] (t 66) (t 73))<|
A 78 (.ld none (t 77))<|A 80 (.ld none (t 79))<|
O 83 (.ap 63 34 288 #[.bool false, .bool false, .int .i64 0, .bool false, .int .i64 0, .int .i64 0, .int .i64 0, .int .i64 0, .int .u64 0, .int .i64 0, .int .i64 0, .int .u64 0, .int .i64 0, .int .u64 0, .int .i64 0, .int .i64 0, .int .u64 0, .int .i64 0, .int .u64 0, .int .i64 0, .int .i64 0, .int .i64 0, .bool false, .int .i64 0, .int .i64 0, .int .u64 0, .int .i64 0, .int .u64 0, .int .i64 0, .int .i64 0, .int .u64 0, .int .i64 0, .int .u64 0, .slice none 0 0] (t 74) (t 82))<|
F 85 2 0<|N (.st 1 (t 85) (t 83))<|E)) (Z))<|S (F 86 0 3<|L 87 86<|O 88 (.bini .neq (t 87) (i 4))<|E)<|I (t 88) (Y (M 90 34 6<|C 91 55 [t 0, t 90]<|
E)) (Z)) (S (O 92 (.bini .eql (t 11) (i 5))<|E)<|I (t 92) (Y (F 97 2 0<|L 98 97<|F 101 0 0<|L 102 101<|C 103 30 [t 102]<|A 98 (.ld none (t 97))<|
O 104 (.ap 63 34 288 #[.bool false, .bool false, .int .i64 0, .bool false, .int .i64 0, .int .i64 0, .int .i64 0, .int .i64 0, .int .u64 0, .int .i64 0, .int .i64 0, .int .u64 0, .int .i64 0, .int .u64 0, .int .i64 0, .int .i64 0, .int .u64 0, .int .i64 0, .int .u64 0, .int .i64 0, .int .i64 0, .int .i64 0, .bool false, .int .i64 0, .int .i64 0, .int .u64 0, .int .i64 0, .int .u64 0, .int .i64 0, .int .i64 0, .int .u64 0, .int .i64 0, .int .u64 0, .slice none 0 0] (t 98) (t 103))<|
F 106 2 0<|N (.st 1 (t 106) (t 104))<|E)) (S (O 107 (.bini .eql (t 11) (i 6))<|E)<|I (t 107) (S (F 111 1 0<|L 112 111<|C 7 38 [t 112]<|F 114 1 3<|L 115 114<|
O 117 (.bini .lss (t 115) (i 0))<|H 118 (.fa 1 (t 3)) 117<|H 119 (.ld none (t 118)) 117<|H 121 (.ln (t 7)) 117<|H 122 (.bini .geq (t 119) (t 121)) 117<|
O 124 (.pick (t 117) (b true) (t 122))<|H 125 (.fa 17 (t 3)) 124<|H 126 (.fa 12 (t 125)) 124<|H 127 (.ld none (t 126)) 124<|H 128 (.ln (t 127)) 124<|
H 129 (.bini .gtr (t 128) (i 3000)) 124<|O 130 (.pick (t 124) (b true) (t 129))<|E)<|Q (I (t 130) (R) (Z))<|S (F 134 1 0<|L 135 134<|F 137 1 3<|L 138 137<|
O 139 (.ia 34 (t 7) (t 138))<|F 140 1 139<|M 141 2 140<|F 143 1 3<|L 144 143<|O 145 (.ia 34 (t 7) (t 144))<|F 146 5 145<|L 147 146<|F 148 17 3<|M 149 13 148<|
.both (C 150 36 [t 135, t 141, t 147, t 149]<|X 151 150 0<|X 152 150 1<|
O 8 (.new 63 #[.bool false, .bool false, .int .i64 0, .bool false, .int .i64 0, .int .i64 0, .int .i64 0, .int .i64 0, .int .u64 0, .int .i64 0, .int .i64 0, .int .u64 0, .int .i64 0, .int .u64 0, .int .i64 0, .int .i64 0, .int .u64 0, .int .i64 0, .int .u64 0, .int .i64 0, .int .i64 0, .int .i64 0, .bool false, .int .i64 0, .int .i64 0, .int .u64 0, .int .i64 0, .int .u64 0, .int .i64 0, .int .i64 0, .int .u64 0, .int .i64 0, .int .u64 0, .slice none 0 0])<|
N (.st 34 (t 8) (t 151))<|V 9 (t 152)<|
E) (O 8 (.new 63 #[.bool false, .bool false, .int .i64 0, .bool false, .int .i64 0, .int .i64 0, .int .i64 0, .int .i64 0, .int .u64 0, .int .i64 0, .int .i64 0, .int .u64 0, .int .i64 0, .int .u64 0, .int .i64 0, .int .i64 0, .int .u64 0, .int .i64 0, .int .u64 0, .int .i64 0, .int .i64 0, .int .i64 0, .bool false, .int .i64 0, .int .i64 0, .int .u64 0, .int .i64 0, .int .u64 0, .int .i64 0, .int .i64 0, .int .u64 0, .int .i64 0, .int .u64 0, .slice none 0 0])<|
C 150 36 [t 135, t 141, t 147, t 149]<|X 151 150 0<|X 152 150 1<|N (.st 34 (t 8) (t 151))<|V 9 (t 152)<|E))<|S (O 154 (.bini .eql (t 9) (i 0))<|E)<|
I (t 154) (Y (F 159 3 0<|L 160 159<|M 161 34 8<|F 166 2 0<|L 167 166<|M 168 34 8<|
.both (O 162 (.bsl 63 [.c (t 161) 0 34, .c (t 161) 1 34, .c (t 161) 2 34, .c (t 161) 3 34, .c (t 161) 4 34, .c (t 161) 5 34, .c (t 161) 6 34, .c (t 161) 7 34, .c (t 161) 8 34, .c (t 161) 9 34, .c (t 161) 10 34, .c (t 161) 11 34, .c (t 161) 12 34, .c (t 161) 13 34, .c (t 161) 14 34, .c (t 161) 15 34, .c (t 161) 16 34, .c (t 161) 17 34, .c (t 161) 18 34, .c (t 161) 19 34, .c (t 161) 20 34, .c (t 161) 21 34, .c (t 161) 22 34, .c (t 161) 23 34, .c (t 161) 24 34, .c (t 161) 25 34, .c (t 161) 26 34, .c (t 161) 27 34, .c (t 161) 28 34, .c (t 161) 29 34, .c (t 161) 30 34, .c (t 161) 31 34, .c (t 161) 32 34, .c (t 161) 33 34] 1)<|
.both (O 163 (.ap 63 34 288 #[.bool false, .bool false, .int .i64 0, .bool false, .int .i64 0, .int .i64 0, .int .i64 0, .int .i64 0, .int .u64 0, .int .i64 0, .int .i64 0, .int .u64 0, .int .i64 0, .int .u64 0, .int .i64 0, .int .i64 0, .int .u64 0, .int .i64 0, .int .u64 0, .int .i64 0, .int .i64 0, .int .i64 0, .bool false, .int .i64 0, .int .i64 0, .int .u64 0, .int .i64 0, .int .u64 0, .int .i64 0, .int .i64 0, .int .u64 0, .int .i64 0, .int .u64 0, .slice none 0 0] (t 160) (t 162))<|
A 167 (.ld none (t 166))<|A 168 (.ld (some 34) (t 8))<|
O 169 (.bsl 63 [.c (t 168) 0 34, .c (t 168) 1 34, .c (t 168) 2 34, .c (t 168) 3 34, .c (t 168) 4 34, .c (t 168) 5 34, .c (t 168) 6 34, .c (t 168) 7 34, .c (t 168) 8 34, .c (t 168) 9 34, .c (t 168) 10 34, .c (t 168) 11 34, .c (t 168) 12 34, .c (t 168) 13 34, .c (t 168) 14 34, .c (t 168) 15 34, .c (t 168) 16 34, .c (t 168) 17 34, .c (t 168) 18 34, .c (t 168) 19 34, .c (t 168) 20 34, .c (t 168) 21 34, .c (t 168) 22 34, .c (t 168) 23 34, .c (t 168) 24 34, .c (t 168) 25 34, .c (t 168) 26 34, .c (t 168) 27 34, .c (t 168) 28 34, .c (t 168) 29 34, .c (t 168) 30 34, .c (t 168) 31 34, .c (t 168) 32 34, .c (t 168) 33 34] 1)<|
O 170 (.ap 63 34 288 #[.bool false, .bool false, .int .i64 0, .bool false, .int .i64 0, .int .i64 0, .int .i64 0, .int .i64 0, .int .u64 0, .int .i64 0, .int .i64 0, .int .u64 0, .int .i64 0, .int .u64 0, .int .i64 0, .int .i64 0, .int .u64 0, .int .i64 0, .int .u64 0, .int .i64 0, .int .i64 0, .int .i64 0, .bool false, .int .i64 0, .int .i64 0, .int .u64 0, .int .i64 0, .int .u64 0, .int .i64 0, .int .i64 0, .int .u64 0, .int .i64 0, .int .u64 0, .slice none 0 0] (t 167) (t 169))<|
O 171 (.nilc (t 0))<|F 172 3 171<|N (.st 1 (t 172) (t 163))<|O 173 (.nilc (t 0))<|F 174 2 173<|N (.st 1 (t 174) (t 170))<|
E) (O 169 (.bsl 63 [.c (t 168) 0 34, .c (t 168) 1 34, .c (t 168) 2 34, .c (t 168) 3 34, .c (t 168) 4 34, .c (t 168) 5 34, .c (t 168) 6 34, .c (t 168) 7 34, .c (t 168) 8 34, .c (t 168) 9 34, .c (t 168) 10 34, .c (t 168) 11 34, .c (t 168) 12 34, .c (t 168) 13 34, .c (t 168) 14 34, .c (t 168) 15 34, .c (t 168) 16 34, .c (t 168) 17 34, .c (t 168) 18 34, .c (t 168) 19 34, .c (t 168) 20 34, .c (t 168) 21 34, .c (t 168) 22 34, .c (t 168) 23 34, .c (t 168) 24 34, .c (t 168) 25 34, .c (t 168) 26 34, .c (t 168) 27 34, .c (t 168) 28 34, .c (t 168) 29 34, .c (t 168) 30 34, .c (t 168) 31 34, .c (t 168) 32 34, .c (t 168) 33 34] 1)<|
O 163 (.ap 63 34 288 #[.bool false, .bool false, .int .i64 0, .bool false, .int .i64 0, .int .i64 0, .int .i64 0, .int .i64 0, .int .u64 0, .int .i64 0, .int .i64 0, .int .u64 0, .int .i64 0, .int .u64 0, .int .i64 0, .int .i64 0, .int .u64 0, .int .i64 0, .int .u64 0, .int .i64 0, .int .i64 0, .int .i64 0, .bool false, .int .i64 0, .int .i64 0, .int .u64 0, .int .i64 0, .int .u64 0, .int .i64 0, .int .i64 0, .int .u64 0, .int .i64 0, .int .u64 0, .slice none 0 0] (t 160) (t 162))<|
A 167 (.ld none (t 166))<|A 168 (.ld (some 34) (t 8))<|
O 170 (.ap 63 34 288 #[.bool false, .bool false, .int .i64 0, .bool false, .int .i64 0, .int .i64 0, .int .i64 0, .int .i64 0, .int .u64 0, .int .i64 0, .int .i64 0, .int .u64 0, .int .i64 0, .int .u64 0, .int .i64 0, .int .i64 0, .int .u64 0, .int .i64 0, .int .u64 0, .int .i64 0, .int .i64 0, .int .i64 0, .bool false, .int .i64 0, .int .i64 0, .int .u64 0, .int .i64 0, .int .u64 0, .int .i64 0, .int .i64 0, .int .u64 0, .int .i64 0, .int .u64 0, .slice none 0 0] (t 167) (t 169))<|
O 171 (.nilc (t 0))<|F 172 3 171<|N (.st 1 (t 172) (t 163))<|O 173 (.nilc (t 0))<|F 174 2 173<|N (.st 1 (t 174) (t 170))<|
E)) (O 169 (.bsl 63 [.c (t 168) 0 34, .c (t 168) 1 34, .c (t 168) 2 34, .c (t 168) 3 34, .c (t 168) 4 34, .c (t 168) 5 34, .c (t 168) 6 34, .c (t 168) 7 34, .c (t 168) 8 34, .c (t 168) 9 34, .c (t 168) 10 34, .c (t 168) 11 34, .c (t 168) 12 34, .c (t 168) 13 34, .c (t 168) 14 34, .c (t 168) 15 34, .c (t 168) 16 34, .c (t 168) 17 34, .c (t 168) 18 34, .c (t 168) 19 34, .c (t 168) 20 34, .c (t 168) 21 34, .c (t 168) 22 34, .c (t 168) 23 34, .c (t 168) 24 34, .c (t 168) 25 34, .c (t 168) 26 34, .c (t 168) 27 34, .c (t 168) 28 34, .c (t 168) 29 34, .c (t 168) 30 34, .c (t 168) 31 34, .c (t 168) 32 34, .c (t 168) 33 34] 1)<|
O 162 (.bsl 63 [.c (t 161) 0 34, .c (t 161) 1 34, .c (t 161) 2 34, .c (t 161) 3 34, .c (t 161) 4 34, .c (t 161) 5 34, .c (t 161) 6 34, .c (t 161) 7 34, .c (t 161) 8 34, .c (t 161) 9 34, .c (t 161) 10 34, .c (t 161) 11 34, .c (t 161) 12 34, .c (t 161) 13 34, .c (t 161) 14 34, .c (t 161) 15 34, .c (t 161) 16 34, .c (t 161) 17 34, .c (t 161) 18 34, .c (t 161) 19 34, .c (t 161) 20 34, .c (t 161) 21 34, .c (t 161) 22 34, .c (t 161) 23 34, .c (t 161) 24 34, .c (t 161) 25 34, .c (t 161) 26 34, .c (t 161) 27 34, .c (t 161) 28 34, .c (t 161) 29 34, .c (t 161) 30 34, .c (t 161) 31 34, .c (t 161) 32 34, .c (t 161) 33 34] 1)<|
O 163 (.ap 63 34 288 #[.bool false, .bool false, .int .i64 0, .bool false, .int .i64 0, .int .i64 0, .int .i64 0, .int .i64 0, .int .u64 0, .int .i64 0, .int .i64 0, .int .u64 0, .int .i64 0, .int .u64 0, .int .i64 0, .int .i64 0, .int .u64 0, .int .i64 0, .int .u64 0, .int .i64 0, .int .i64 0, .int .i64 0, .bool false, .int .i64 0, .int .i64 0, .int .u64 0, .int .i64 0, .int .u64 0, .int .i64 0, .int .i64 0, .int .u64 0, .int .i64 0, .int .u64 0, .slice none 0 0] (t 160) (t 162))<|
A 167 (.ld none (t 166))<|A 168 (.ld (some 34) (t 8))<|
O 170 (.ap 63 34 288 #[.bool false, .bool false, .int .i64 0, .bool false, .int .i64 0, .int .i64 0, .int .i64 0, .int .i64 0, .int .u64 0, .int .i64 0, .int .i64 0, .int .u64 0, .int .i64 0, .int .u64 0, .int .i64 0, .int .i64 0, .int .u64 0, .int .i64 0, .int .u64 0, .int .i64 0, .int .i64 0, .int .i64 0, .bool false, .int .i64 0, .int .i64 0, .int .u64 0, .int .i64 0, .int .u64 0, .int .i64 0, .int .i64 0, .int .u64 0, .int .i64 0, .int .u64 0, .slice none 0 0] (t 167) (t 169))<|
O 171 (.nilc (t 0))<|F 172 3 171<|N (.st 1 (t 172) (t 163))<|O 173 (.nilc (t 0))<|F 174 2 173<|N (.st 1 (t 174) (t 170))<|E))) (Z)) (Z)))))
theorem b29 : bodyO 23715153332468921631909792484756499905405165551616 47133427814821383803362988840968572158288223870976 Try.prog 29 = some (175, [], c29) := by kernel_rfl
theorem k29 : callOk Try.prog 29 = true := by kernel_rfl
/-- leapfrog/leapfroglaw06.in -/
def c31 : Go.SL.CC := S (V 4 (b false)<|V 5 (i 0)<|E)<|Q (P 0 (S (O 8 (.ln (t 0))<|O 9 (.bini .lss (t 5) (t 8))<|E)<|Q (I (t 9) (Z) (J 0))<|Q (B 1 (S (O 14 (.ia 1 (t 0) (t 5))<|
L 15 14<|O 17 (.bini .eql (t 15) (t 1))<|E)<|I (t 17) (S (V 4 (b true)<|E)<|R) (Z)))<|Y (O 5 (.bini .add (t 5) (i 1))<|E)))<|S (V 4 (b false)<|E)<|R
theorem b31 : bodyO 79040 2048 Try.prog 31 = some (18, [.t 4], c31) := by kernel_rfl
theorem k31 : callOk Try.prog 31 = true := by kernel_rfl
/-- (*leapfrog/leapfroglaw06.Two).comes -/
def c55 : Go.SL.CC := S (O 3 (.box 63 (t 1))<|F 9 0 3<|L 10 9<|E)<|Q (I (t 10) (S (F 14 0 0<|L 15 14<|M 16 34 3<|.both (C 17 41 [t 15, t 16]<|X 18 17 0<|X 19 17 1<|
O 4 (.new 63 #[.bool false, .bool false, .int .i64 0, .bool false, .int .i64 0, .int .i64 0, .int .i64 0, .int .i64 0, .int .u64 0, .int .i64 0, .int .i64 0, .int .u64 0, .int .i64 0, .int .u64 0, .int .i64 0, .int .i64 0, .int .u64 0, .int .i64 0, .int .u64 0, .int .i64 0, .int .i64 0, .int .i64 0, .bool false, .int .i64 0, .int .i64 0, .int .u64 0, .int .i64 0, .int .u64 0, .int .i64 0, .int .i64 0, .int .u64 0, .int .i64 0, .int .u64 0, .slice none 0 0])<|
N (.st 34 (t 4) (t 18))<|V 5 (t 19)<|
E) (O 4 (.new 63 #[.bool false, .bool false, .int .i64 0, .bool false, .int .i64 0, .int .i64 0, .int .i64 0, .int .i64 0, .int .u64 0, .int .i64 0, .int .i64 0, .int .u64 0, .int .i64 0, .int .u64 0, .int .i64 0, .int .i64 0, .int .u64 0, .int .i64 0, .int .u64 0, .int .i64 0, .int .i64 0, .int .i64 0, .bool false, .int .i64 0, .int .i64 0, .int .u64 0, .int .i64 0, .int .u64 0, .int .i64 0, .int .i64 0, .int .u64 0, .int .i64 0, .int .u64 0, .slice none 0 0])<|
C 17 41 [t 15, t 16]<|X 18 17 0<|X 19 17 1<|N (.st 34 (t 4) (t 18))<|V 5 (t 19)<|E))<|S (O 21 (.un .not (t 5))<|E)<|Q (I (t 21) (R) (Z))<|S (V 6 (i 0)<|E)<|
Q (P 0 (S (F 25 4 0<|L 26 25<|O 27 (.ln (t 26))<|O 28 (.bini .lss (t 6) (t 27))<|E)<|Q (I (t 28) (Z) (J 0))<|Q (B 1 (Y (F 34 6 0<|L 36 34<|
H 39 (.fa 4 (t 0)) 36<|H 40 (.ld none (t 39)) 36<|H 42 (.ia 34 (t 40) (t 6)) 36<|H 43 (.fa 5 (t 42)) 36<|H 44 (.ld none (t 43)) 36<|H 45 (.fa 5 (t 3)) 36<|
H 46 (.ld none (t 45)) 36<|H 47 (.bini .eql (t 44) (t 46)) 36<|O 48 (.pick (t 36) (b true) (t 47))<|F 50 6 0<|N (.st 1 (t 50) (t 48))<|E)))<|
Y (O 6 (.bini .add (t 6) (i 1))<|E)))<|S (F 54 6 0<|L 56 54<|H 57 (.fa 5 (t 4)) 56<|H 58 (.ld none (t 57)) 56<|H 59 (.fa 5 (t 3)) 56<|
H 60 (.ld none (t 59)) 56<|H 61 (.bini .neq (t 58) (t 60)) 56<|O 63 (.pick (t 56) (b true) (t 61))<|H 65 (.ld (some 34) (t 3)) 63<|
H 66 (.call (f 85) [t 0, t 65]) 63<|H 67 (.un .not (t 66)) 63<|O 68 (.pick (t 63) (b true) (t 67))<|F 70 6 0<|N (.st 1 (t 70) (t 68))<|F 74 4 0<|L 75 74<|
M 76 34 3<|
O 77 (.bsl 63 [.c (t 76) 0 34, .c (t 76) 1 34, .c (t 76) 2 34, .c (t 76) 3 34, .c (t 76) 4 34, .c (t 76) 5 34, .c (t 76) 6 34, .c (t 76) 7 34, .c (t 76) 8 34, .c (t 76) 9 34, .c (t 76) 10 34, .c (t 76) 11 34, .c (t 76) 12 34, .c (t 76) 13 34, .c (t 76) 14 34, .c (t 76) 15 34, .c (t 76) 16 34, .c (t 76) 17 34, .c (t 76) 18 34, .c (t 76) 19 34, .c (t 76) 20 34, .c (t 76) 21 34, .c (t 76) 22 34, .c (t 76) 23 34, .c (t 76) 24 34, .c (t 76) 25 34, .c (t 76) 26 34, .c (t 76) 27 34, .c (t 76) 28 34, .c (t 76) 29 34, .c (t 76) 30 34, .c (t 76) 31 34, .c (t 76) 32 34, .c (t 76) 33 34] 1)<|
O 78 (.ap 63 34 288 #[.bool false, .bool false, .int .i64 0, .bool false, .int .i64 0, .int .i64 0, .int .i64 0, .int .i64 0, .int .u64 0, .int .i64 0, .int .i64 0, .int .u64 0, .int .i64 0, .int .u64 0, .int .i64 0, .int .i64 0, .int .u64 0, .int .i64 0, .int .u64 0, .int .i64 0, .int .i64 0, .int .i64 0, .bool false, .int .i64 0, .int .i64 0, .int .u64 0, .int .i64 0, .int .u64 0, .int .i64 0, .int .i64 0, .int .u64 0, .int .i64 0, .int .u64 0, .slice none 0 0] (t 75) (t 77))<|
F 80 4 0<|N (.st 1 (t 80) (t 78))<|E)<|R) (Z))<|S (F 84 1 0<|L 85 84<|M 86 34 3<|.both (C 87 33 [t 85, t 86]<|X 88 87 0<|X 89 87 1<|
O 7 (.new 63 #[.bool false, .bool false, .int .i64 0, .bool false, .int .i64 0, .int .i64 0, .int .i64 0, .int .i64 0, .int .u64 0, .int .i64 0, .int .i64 0, .int .u64 0, .int .i64 0, .int .u64 0, .int .i64 0, .int .i64 0, .int .u64 0, .int .i64 0, .int .u64 0, .int .i64 0, .int .i64 0, .int .i64 0, .bool false, .int .i64 0, .int .i64 0, .int .u64 0, .int .i64 0, .int .u64 0, .int .i64 0, .int .i64 0, .int .u64 0, .int .i64 0, .int .u64 0, .slice none 0 0])<|
N (.st 34 (t 7) (t 88))<|V 8 (t 89)<|
E) (O 7 (.new 63 #[.bool false, .bool false, .int .i64 0, .bool false, .int .i64 0, .int .i64 0, .int .i64 0, .int .i64 0, .int .u64 0, .int .i64 0, .int .i64 0, .int .u64 0, .int .i64 0, .int .u64 0, .int .i64 0, .int .i64 0, .int .u64 0, .int .i64 0, .int .u64 0, .int .i64 0, .int .i64 0, .int .i64 0, .bool false, .int .i64 0, .int .i64 0, .int .u64 0, .int .i64 0, .int .u64 0, .int .i64 0, .int .i64 0, .int .u64 0, .int .i64 0, .int .u64 0, .slice none 0 0])<|
C 87 33 [t 85, t 86]<|X 88 87 0<|X 89 87 1<|N (.st 34 (t 7) (t 88))<|V 8 (t 89)<|E))<|S (V 90 (t 8)<|E)<|B 2 (S (O 91 (.bini .eql (t 90) (i 1))<|E)<|
I (t 91) (Y (F 96 6 0<|L 98 96<|H 101 (.fa 5 (t 0)) 98<|H 102 (.ld none (t 101)) 98<|H 103 (.fa 5 (t 3)) 98<|H 104 (.ld none (t 103)) 98<|
H 105 (.call (f 31) [t 102, t 104]) 98<|O 106 (.pick (t 98) (b true) (t 105))<|F 108 6 0<|N (.st 1 (t 108) (t 106))<|F 112 5 0<|L 113 112<|F 114 5 3<|
L 115 114<|O 116 (.bsl 3 [.c (t 115) 0 1] 1)<|O 117 (.ap 3 1 8 #[.int .i64 0] (t 113) (t 116))<|F 119 5 0<|N (.st 1 (t 119) (t 117))<|
E)) (S (O 120 (.bini .eql (t 90) (i 3))<|E)<|I (t 120) (Y (F 125 6 0<|L 127 125<|H 129 (.ld (some 34) (t 7)) 127<|H 130 (.call (f 85) [t 0, t 129]) 127<|
H 131 (.un .not (t 130)) 127<|O 132 (.pick (t 127) (b true) (t 131))<|F 134 6 0<|N (.st 1 (t 134) (t 132))<|F 138 2 0<|L 139 138<|M 140 34 7<|
O 141 (.bsl 63 [.c (t 140) 0 34, .c (t 140) 1 34, .c (t 140) 2 34, .c (t 140) 3 34, .c (t 140) 4 34, .c (t 140) 5 34, .c (t 140) 6 34, .c (t 140) 7 34, .c (t 140) 8 34, .c (t 140) 9 34, .c (t 140) 10 34, .c (t 140) 11 34, .c (t 140) 12 34, .c (t 140) 13 34, .c (t 140) 14 34, .c (t 140) 15 34, .c (t 140) 16 34, .c (t 140) 17 34, .c (t 140) 18 34, .c (t 140) 19 34, .c (t 140) 20 34, .c (t 140) 21 34, .c (t 140) 22 34, .c (t 140) 23 34, .c (t 140) 24 34, .c (t 140) 25 34, .c (t 140) 26 34, .c (t 140) 27 34, .c (t 140) 28 34, .c (t 140) 29 34, .c (t 140) 30 34, .c (t 140) 31 34, .c (t 140) 32 34, .c (t 140) 33 34] 1)<|
O 142 (.ap 63 34 288 #[.bool false, .bool false, .int .i64 0, .bool false, .int .i64 0, .int .i64 0, .int .i64 0, .int .i64 0, .int .u64 0, .int .i64 0, .int .i64 0, .int .u64 0, .int .i64 0, .int .u64 0, .int .i64 0, .int .i64 0, .int .u64 0, .int .i64 0, .int .u64 0, .int .i64 0, .int .i64 0, .int .i64 0, .bool false, .int .i64 0, .int .i64 0, .int .u64 0, .int .i64 0, .int .u64 0, .int .i64 0, .int .i64 0, .int .u64 0, .int .i64 0, .int .u64 0, .slice none 0 0] (t 139) (t 141))<|
F 144 2 0<|N (.st 1 (t 144) (t 142))<|E)) (R)))
theorem b55 : bodyO 131024663948285592496148314986132301420544 11335595538632833793371688623106906606542848 Try.prog 55 = some (145, [], c55) := by kernel_rfl
theorem k55 : callOk Try.prog 55 = true := by kernel_rfl
/-- (*leapfrog/leapfroglaw06.Two).gave -/
def c85 : Go.SL.CC := S (O 3 (.box 63 (t 1))<|V 4 (b false)<|V 5 (i 0)<|E)<|Q (P 0 (S (F 9 3 0<|L 10 9<|O 11 (.ln (t 10))<|O 12 (.bini .lss (t 5) (t 11))<|E)<|
Q (I (t 12) (Z) (J 0))<|Q (B 1 (S (F 17 3 0<|L 18 17<|O 20 (.ia 34 (t 18) (t 5))<|M 21 34 20<|M 22 34 3<|C 23 35 [t 21, t 22]<|E)<|I (t 23) (S (V 4 (b true)<|
E)<|R) (Z)))<|Y (O 5 (.bini .add (t 5) (i 1))<|E)))<|S (V 4 (b false)<|E)<|R
theorem b85 : bodyO 565440 82176 Try.prog 85 = some (24, [.t 4], c85) := by kernel_rfl
theorem k85 : callOk Try.prog 85 = true := by kernel_rfl
/-- leapfrog/leapfroglaw06.RpcCalls -/
def c4 : Go.SL.CC := S (O 3 (.box 45 (t 0))<|V 6 (b false)<|C 12 16 []<|O 13 (.un .not (t 12))<|E)<|Q (I (t 13) (S (V 6 (b false)<|E)<|R) (Z))<|S (M 15 2 3<|C 17 17 [t 15, t 1]<|
X 18 17 0<|X 19 17 1<|V 7 (t 18)<|M 21 2 3<|C 23 18 [t 21, t 1]<|X 24 23 0<|X 25 23 1<|V 9 (t 24)<|O 29 (.bini .neq (t 19) (t 25))<|
H 31 (.cmp .p false (t 7) (k (.pointer none))) 29<|H 33 (.cmp .p false (t 9) (k (.pointer none))) 29<|H 34 (.cmp .b true (t 31) (t 33)) 29<|
O 35 (.pick (t 29) (b true) (t 34))<|E)<|Q (I (t 35) (S (V 6 (b false)<|E)<|R) (Z))<|S (V 11 (i 0)<|E)<|Q (P 0 (S (O 38 (.ln (t 2))<|
O 40 (.bini .lss (t 11) (t 38))<|G 42 (.bini .lss (t 11) (i 60)) 40<|O 44 (.pick (t 40) (t 42) (b false))<|G 46 (.cmp .p true (t 9) (k (.pointer none))) 44<|
O 47 (.pick (t 44) (t 46) (b false))<|E)<|Q (I (t 47) (Z) (J 0))<|Q (B 1 (S (O 52 (.ia 66 (t 2) (t 11))<|F 53 18 52<|M 54 34 53<|C 55 19 [t 54]<|
O 56 (.un .not (t 55))<|E)<|Q (I (t 56) (J 1) (Z))<|S (O 61 (.ia 66 (t 2) (t 11))<|M 62 66 61<|C 63 20 [t 7, t 9, t 62]<|O 65 (.un .not (t 63))<|
H 67 (.call (f 22) [t 7]) 65<|H 69 (.call (f 23) [t 9]) 65<|H 70 (.call (f 21) [t 67, t 69]) 65<|H 71 (.un .not (t 70)) 65<|
O 72 (.pick (t 65) (b true) (t 71))<|E)<|I (t 72) (S (V 6 (b false)<|E)<|R) (Z)))<|Y (O 11 (.bini .add (t 11) (i 1))<|E)))<|S (V 6 (b true)<|E)<|R
theorem b4 : bodyO 371100306065155245312 18447316369780244480 Try.prog 4 = some (73, [.t 6], c4) := by kernel_rfl
theorem k4 : callOk Try.prog 4 = true := by kernel_rfl
/-- leapfrog/leapfroglaw06.RpcMany -/
def c5 : Go.SL.CC := S (V 4 (b false)<|C 14 16 []<|O 15 (.un .not (t 14))<|E)<|Q (I (t 15) (S (V 4 (b false)<|E)<|R) (Z))<|S (C 17 24 []<|C 18 17 [t 17, i 1]<|X 19 18 0<|X 20 18 1<|
V 5 (t 19)<|O 22 (.bini .neq (t 20) (i 0))<|E)<|Q (I (t 22) (S (V 4 (b false)<|E)<|R) (Z))<|S (V 7 (i 0)<|V 8 (i 0)<|V 9 (i 0)<|E)<|
Q (P 0 (S (O 25 (.cv .i64 (t 0))<|O 26 (.bini .rem (t 25) (i 400))<|O 27 (.bini .lss (t 9) (t 26))<|E)<|Q (I (t 27) (Z) (J 0))<|Q (B 1 (S (C 32 26 []<|
O 33 (.agg [.c (i 2) 0 1, .z (.int .i64 0), .z (.int .u64 0), .z (.int .i64 0), .z (.int .i64 0), .z (.int .u64 0), .z (.int .i64 0), .z (.int .u64 0), .z (.int .i64 0), .z (.int .i64 0), .z (.int .u64 0), .z (.int .i64 0), .z (.int .u64 0), .z (.int .i64 0), .z (.int .i64 0)])<|
C 34 25 [t 5, t 32, t 33]<|X 35 34 0<|X 36 34 1<|
O 10 (.new 63 #[.bool false, .bool false, .int .i64 0, .bool false, .int .i64 0, .int .i64 0, .int .i64 0, .int .i64 0, .int .u64 0, .int .i64 0, .int .i64 0, .int .u64 0, .int .i64 0, .int .u64 0, .int .i64 0, .int .i64 0, .int .u64 0, .int .i64 0, .int .u64 0, .int .i64 0, .int .i64 0, .int .i64 0, .bool false, .int .i64 0, .int .i64 0, .int .u64 0, .int .i64 0, .int .u64 0, .int .i64 0, .int .i64 0, .int .u64 0, .int .i64 0, .int .u64 0, .slice none 0 0])<|
N (.st 34 (t 10) (t 35))<|V 11 (t 36)<|O 38 (.bini .eql (t 11) (i 0))<|O 40 (.bini .lss (t 7) (i 256))<|O 42 (.cmp .b true (t 38) (t 40))<|
H 44 (.bini .neq (t 11) (i 0)) 42<|H 45 (.mv (t 44)) 42<|G 47 (.bini .neq (t 11) (i 3)) 45<|H 48 (.pick (t 45) (t 47) (b false)) 42<|
O 49 (.pick (t 42) (b true) (t 48))<|E)<|Q (I (t 49) (S (V 4 (b false)<|E)<|R) (Z))<|S (O 51 (.bini .eql (t 11) (i 0))<|E)<|
Q (I (t 51) (S (O 7 (.bini .add (t 7) (i 1))<|O 8 (.bini .add (t 8) (i 1))<|F 56 5 10<|L 57 56<|O 59 (.bini .neq (t 57) (t 8))<|E)<|I (t 59) (S (V 4 (b false)<|
E)<|R) (Z)) (Z))<|S (O 62 (.ln (t 1))<|O 64 (.bini .lss (t 9) (t 62))<|G 67 (.ia 1 (t 1) (t 9)) 64<|G 68 (.ld none (t 67)) 64<|
G 69 (.bini .rem (t 68) (k (.int .u8 2))) 64<|G 70 (.bini .eql (t 69) (k (.int .u8 1))) 64<|O 71 (.pick (t 64) (t 70) (b false))<|E)<|
I (t 71) (S (C 75 27 [t 5, t 8]<|X 76 75 0<|X 77 75 1<|
O 12 (.new 63 #[.bool false, .bool false, .int .i64 0, .bool false, .int .i64 0, .int .i64 0, .int .i64 0, .int .i64 0, .int .u64 0, .int .i64 0, .int .i64 0, .int .u64 0, .int .i64 0, .int .u64 0, .int .i64 0, .int .i64 0, .int .u64 0, .int .i64 0, .int .u64 0, .int .i64 0, .int .i64 0, .int .i64 0, .bool false, .int .i64 0, .int .i64 0, .int .u64 0, .int .i64 0, .int .u64 0, .int .i64 0, .int .i64 0, .int .u64 0, .int .i64 0, .int .u64 0, .slice none 0 0])<|
N (.st 34 (t 12) (t 76))<|V 78 (t 77)<|E)<|I (t 78) (Y (O 7 (.bini .sub (t 7) (i 1))<|E)) (Z)) (Z)))<|Y (O 9 (.bini .add (t 9) (i 1))<|E)))<|S (C 82 22 [t 5]<|
O 83 (.ln (t 82))<|O 4 (.bini .eql (t 83) (t 7))<|E)<|R
theorem b5 : bodyO 22398298679433813070782528 39894561315692995453911040 Try.prog 5 = some (86, [.t 4], c5) := by kernel_rfl
theorem k5 : callOk Try.prog 5 = true := by kernel_rfl
/-- leapfrog/leapfroglaw06.RpcOnce -/
def c6 : Go.SL.CC := S (V 4 (b false)<|C 7 16 []<|O 8 (.un .not (t 7))<|E)<|Q (I (t 8) (S (V 4 (b false)<|E)<|R) (Z))<|S (O 10 (.cv .i64 (t 0))<|O 11 (.bini .rem (t 10) (i 6))<|
O 12 (.bini .add (i 1) (t 11))<|C 5 28 [t 12]<|O 15 (.cmp .p false (t 5) (k (.pointer none)))<|E)<|Q (I (t 15) (S (V 4 (b false)<|E)<|R) (Z))<|S (V 6 (i 0)<|
E)<|Q (P 0 (S (O 18 (.ln (t 1))<|O 20 (.bini .lss (t 6) (t 18))<|G 22 (.bini .lss (t 6) (i 60)) 20<|O 23 (.pick (t 20) (t 22) (b false))<|E)<|
Q (I (t 23) (Z) (J 0))<|Q (B 1 (Y (O 29 (.ia 30 (t 1) (t 6))<|M 30 30 29<|C 31 29 [t 5, t 30]<|E)))<|Y (O 6 (.bini .add (t 6) (i 1))<|E)))<|S (F 34 6 5<|
L 35 34<|O 4 (.un .not (t 35))<|E)<|R
theorem b6 : bodyO 4783817216 77343498240 Try.prog 6 = some (37, [.t 4], c6) := by kernel_rfl
theorem k6 : callOk Try.prog 6 = true := by kernel_rfl
/-- leapfrog/leapfroglaw06.RpcComes -/
def c7 : Go.SL.CC := S (V 4 (b false)<|C 13 16 []<|O 14 (.un .not (t 13))<|E)<|Q (I (t 14) (S (V 4 (b false)<|E)<|R) (Z))<|S (O 16 (.cv .i64 (t 0))<|O 17 (.bini .rem (t 16) (i 6))<|
O 5 (.bini .add (i 1) (t 17))<|C 6 28 [t 5]<|O 22 (.cmp .p false (t 6) (k (.pointer none)))<|E)<|Q (I (t 22) (S (V 4 (b false)<|E)<|R) (Z))<|S (V 7 (i 0)<|E)<|
Q (P 0 (S (O 25 (.ln (t 1))<|O 27 (.bini .lss (t 7) (t 25))<|G 29 (.bini .lss (t 7) (i 60)) 27<|O 30 (.pick (t 27) (t 29) (b false))<|E)<|
Q (I (t 30) (Z) (J 0))<|Q (B 1 (Y (O 36 (.ia 30 (t 1) (t 7))<|M 37 30 36<|C 38 29 [t 6, t 37]<|E)))<|Y (O 7 (.bini .add (t 7) (i 1))<|E)))<|S (V 8 (i 0)<|E)<|
Q (P 2 (S (O 41 (.bini .lss (t 8) (t 5))<|E)<|Q (I (t 41) (Z) (J 2))<|Q (B 3 (S (F 47 2 6<|L 48 47<|F 51 0 6<|L 52 51<|C 53 30 [t 52]<|A 48 (.ld none (t 47))<|
O 54 (.ap 63 34 288 #[.bool false, .bool false, .int .i64 0, .bool false, .int .i64 0, .int .i64 0, .int .i64 0, .int .i64 0, .int .u64 0, .int .i64 0, .int .i64 0, .int .u64 0, .int .i64 0, .int .u64 0, .int .i64 0, .int .i64 0, .int .u64 0, .int .i64 0, .int .u64 0, .int .i64 0, .int .i64 0, .int .i64 0, .bool false, .int .i64 0, .int .i64 0, .int .u64 0, .int .i64 0, .int .u64 0, .int .i64 0, .int .i64 0, .int .u64 0, .int .i64 0, .int .u64 0, .slice none 0 0] (t 48) (t 53))<|
F 56 2 6<|N (.st 1 (t 56) (t 54))<|V 9 (i 0)<|E)<|P 4 (S (O 59 (.bini .lss (t 9) (i 1000))<|G 62 (.fa 2 (t 6)) 59<|G 63 (.ld none (t 62)) 59<|
G 64 (.ln (t 63)) 59<|G 65 (.bini .gtr (t 64) (i 0)) 59<|O 66 (.pick (t 59) (t 65) (b false))<|E)<|Q (I (t 66) (Z) (J 4))<|
Q (B 5 (Y (O 70 (.agg [.c (i 2) 0 1, .z (.int .i64 0), .z (.int .i64 0), .z (.int .i64 0), .z (.int .u64 0), .z (.int .i64 0), .z (.int .i64 0), .z (.int .u64 0), .z (.int .i64 0), .z (.int .u64 0), .z (.int .i64 0), .z (.int .i64 0), .z (.int .u64 0), .z (.int .i64 0), .z (.int .u64 0), .z (.int .i64 0), .z (.int .i64 0), .z (.int .i64 0), .z (.bool false), .z (.int .i64 0), .z (.int .i64 0), .z (.int .u64 0), .z (.int .i64 0), .z (.int .u64 0), .z (.int .i64 0), .z (.int .i64 0), .z (.int .u64 0), .z (.int .i64 0), .z (.int .u64 0), .z (.slice none 0 0)])<|
C 71 29 [t 6, t 70]<|E)))<|Y (O 9 (.bini .add (t 9) (i 1))<|E))))<|Y (O 8 (.bini .add (t 8) (i 1))<|E)))<|S (F 74 0 6<|L 75 74<|C 10 22 [t 75]<|V 11 (i 0)<|E)<|
Q (P 6 (S (O 79 (.ln (t 10))<|O 80 (.bini .lss (t 11) (t 79))<|E)<|Q (I (t 80) (Z) (J 6))<|Q (B 7 (S (V 12 (i 0)<|E)<|Q (P 8 (S (F 86 3 6<|L 87 86<|
O 88 (.ln (t 87))<|O 89 (.bini .lss (t 12) (t 88))<|E)<|Q (I (t 89) (Z) (J 8))<|Q (B 9 (S (F 94 3 6<|L 95 94<|O 97 (.ia 34 (t 95) (t 12))<|F 98 5 97<|L 99 98<|
O 102 (.ia 34 (t 10) (t 11))<|F 103 5 102<|L 104 103<|O 105 (.bini .eql (t 99) (t 104))<|E)<|I (t 105) (S (V 4 (b false)<|E)<|R) (Z)))<|
Y (O 12 (.bini .add (t 12) (i 1))<|E)))<|S (F 108 5 6<|L 109 108<|O 112 (.ia 34 (t 10) (t 11))<|F 113 5 112<|L 114 113<|C 115 31 [t 109, t 114]<|
O 116 (.un .not (t 115))<|E)<|I (t 116) (S (V 4 (b false)<|E)<|R) (Z)))<|Y (O 11 (.bini .add (t 11) (i 1))<|E)))<|S (F 119 6 6<|L 120 119<|
O 122 (.un .not (t 120))<|G 125 (.fa 2 (t 6)) 122<|G 126 (.ld none (t 125)) 122<|G 127 (.ln (t 126)) 122<|G 128 (.bini .eql (t 127) (i 0)) 122<|
O 4 (.pick (t 122) (t 128) (b false))<|E)<|R
theorem b7 : bodyO 10803956706436311470152209675770691584 704823307036651477843342918775402135552 Try.prog 7 = some (130, [.t 4], c7) := by kernel_rfl
theorem k7 : callOk Try.prog 7 = true := by kernel_rfl
/-- leapfrog/leapfroglaw06.RpcAnswers -/
def c8 : Go.SL.CC := S (O 2 (.box 45 (t 0))<|V 4 (b false)<|C 17 16 []<|O 18 (.un .not (t 17))<|E)<|Q (I (t 18) (S (V 4 (b false)<|E)<|R) (Z))<|S (M 19 2 2<|C 5 32 [t 19]<|
M 21 2 2<|O 22 (.agg [.c (t 21) 0 2, .c (t 21) 1 2, .z (.slice none 0 0)])<|O 6 (.box 94 (t 22))<|V 7 (i 0)<|E)<|Q (P 0 (S (O 26 (.ln (t 1))<|
O 28 (.bini .lss (t 7) (t 26))<|G 30 (.bini .lss (t 7) (i 60)) 28<|O 31 (.pick (t 28) (t 30) (b false))<|E)<|Q (I (t 31) (Z) (J 0))<|
Q (B 1 (S (O 36 (.ia 66 (t 1) (t 7))<|M 37 66 36<|
O 8 (.new 65 #[.int .i64 0, .bool false, .int .i64 0, .int .i64 0, .int .i64 0, .int .u64 0, .int .i64 0, .int .i64 0, .int .u64 0, .int .i64 0, .int .u64 0, .int .i64 0, .int .i64 0, .int .u64 0, .int .i64 0, .int .u64 0, .int .i64 0, .int .i64 0, .bool false, .bool false, .int .i64 0, .bool false, .int .i64 0, .int .i64 0, .int .i64 0, .int .i64 0, .int .u64 0, .int .i64 0, .int .i64 0, .int .u64 0, .int .i64 0, .int .u64 0, .int .i64 0, .int .i64 0, .int .u64 0, .int .i64 0, .int .u64 0, .int .i64 0, .int .i64 0, .int .i64 0, .bool false, .int .i64 0, .int .i64 0, .int .u64 0, .int .i64 0, .int .u64 0, .int .i64 0, .int .i64 0, .int .u64 0, .int .i64 0, .int .u64 0, .slice none 0 0, .int .i64 0, .int .i64 0, .bool false, .int .i64 0, .int .i64 0, .int .u64 0, .int .i64 0, .int .u64 0, .int .i64 0, .int .i64 0, .int .u64 0, .int .i64 0, .int .u64 0, .slice none 0 0])<|
N (.st 66 (t 8) (t 37))<|F 38 18 8<|M 39 34 38<|C 40 19 [t 39]<|O 42 (.un .not (t 40))<|H 43 (.fa 53 (t 8)) 42<|H 44 (.fa 12 (t 43)) 42<|
H 45 (.ld none (t 44)) 42<|H 46 (.ln (t 45)) 42<|H 47 (.bini .gtr (t 46) (i 3000)) 42<|O 48 (.pick (t 42) (b true) (t 47))<|E)<|Q (I (t 48) (J 1) (Z))<|
S (F 49 0 8<|L 50 49<|O 51 (.bini .eql (t 50) (i 1))<|E)<|Q (I (t 51) (S (F 54 18 8<|M 55 34 54<|C 56 33 [t 5, t 55]<|X 57 56 0<|X 58 56 1<|
O 9 (.new 63 #[.bool false, .bool false, .int .i64 0, .bool false, .int .i64 0, .int .i64 0, .int .i64 0, .int .i64 0, .int .u64 0, .int .i64 0, .int .i64 0, .int .u64 0, .int .i64 0, .int .u64 0, .int .i64 0, .int .i64 0, .int .u64 0, .int .i64 0, .int .u64 0, .int .i64 0, .int .i64 0, .int .i64 0, .bool false, .int .i64 0, .int .i64 0, .int .u64 0, .int .i64 0, .int .u64 0, .int .i64 0, .int .i64 0, .int .u64 0, .int .i64 0, .int .u64 0, .slice none 0 0])<|
N (.st 34 (t 9) (t 57))<|F 61 18 8<|M 62 34 61<|C 63 34 [t 6, t 62]<|X 64 63 0<|X 65 63 1<|
O 11 (.new 63 #[.bool false, .bool false, .int .i64 0, .bool false, .int .i64 0, .int .i64 0, .int .i64 0, .int .i64 0, .int .u64 0, .int .i64 0, .int .i64 0, .int .u64 0, .int .i64 0, .int .u64 0, .int .i64 0, .int .i64 0, .int .u64 0, .int .i64 0, .int .u64 0, .int .i64 0, .int .i64 0, .int .i64 0, .bool false, .int .i64 0, .int .i64 0, .int .u64 0, .int .i64 0, .int .u64 0, .int .i64 0, .int .i64 0, .int .u64 0, .int .i64 0, .int .u64 0, .slice none 0 0])<|
N (.st 34 (t 11) (t 64))<|M 66 34 9<|M 67 34 11<|C 68 35 [t 66, t 67]<|O 70 (.un .not (t 68))<|H 73 (.bini .neq (t 58) (t 65)) 70<|
O 74 (.pick (t 70) (b true) (t 73))<|E)<|I (t 74) (S (V 4 (b false)<|E)<|R) (Z)) (S (F 77 18 8<|F 78 1 77<|M 79 2 78<|F 80 18 8<|F 81 5 80<|L 82 81<|F 83 53 8<|
M 84 13 83<|C 85 36 [t 5, t 79, t 82, t 84]<|X 86 85 0<|X 87 85 1<|
O 13 (.new 63 #[.bool false, .bool false, .int .i64 0, .bool false, .int .i64 0, .int .i64 0, .int .i64 0, .int .i64 0, .int .u64 0, .int .i64 0, .int .i64 0, .int .u64 0, .int .i64 0, .int .u64 0, .int .i64 0, .int .i64 0, .int .u64 0, .int .i64 0, .int .u64 0, .int .i64 0, .int .i64 0, .int .i64 0, .bool false, .int .i64 0, .int .i64 0, .int .u64 0, .int .i64 0, .int .u64 0, .int .i64 0, .int .i64 0, .int .u64 0, .int .i64 0, .int .u64 0, .slice none 0 0])<|
N (.st 34 (t 13) (t 86))<|F 90 18 8<|F 91 1 90<|M 92 2 91<|F 93 18 8<|F 94 5 93<|L 95 94<|F 96 53 8<|M 97 13 96<|C 98 37 [t 6, t 92, t 95, t 97]<|X 99 98 0<|
X 100 98 1<|
O 15 (.new 63 #[.bool false, .bool false, .int .i64 0, .bool false, .int .i64 0, .int .i64 0, .int .i64 0, .int .i64 0, .int .u64 0, .int .i64 0, .int .i64 0, .int .u64 0, .int .i64 0, .int .u64 0, .int .i64 0, .int .i64 0, .int .u64 0, .int .i64 0, .int .u64 0, .int .i64 0, .int .i64 0, .int .i64 0, .bool false, .int .i64 0, .int .i64 0, .int .u64 0, .int .i64 0, .int .u64 0, .int .i64 0, .int .i64 0, .int .u64 0, .int .i64 0, .int .u64 0, .slice none 0 0])<|
N (.st 34 (t 15) (t 99))<|M 101 34 13<|M 102 34 15<|C 103 35 [t 101, t 102]<|O 105 (.un .not (t 103))<|H 108 (.bini .neq (t 87) (t 100)) 105<|
O 109 (.pick (t 105) (b true) (t 108))<|E)<|I (t 109) (S (V 4 (b false)<|E)<|R) (Z)))<|S (C 111 38 [t 5]<|C 113 39 [t 6]<|C 114 21 [t 111, t 113]<|
O 116 (.un .not (t 114))<|H 121 (.fa 2 (t 6)) 116<|H 122 (.ld none (t 121)) 116<|H 123 (.ln (t 122)) 116<|H 118 (.call (f 40) [t 5]) 116<|
.ag ⟨some 122, .ld none (t 121), some (116, false)⟩<|H 124 (.bini .neq (t 118) (t 123)) 116<|O 125 (.pick (t 116) (b true) (t 124))<|E)<|
I (t 125) (S (V 4 (b false)<|E)<|R) (Z)))<|Y (O 7 (.bini .add (t 7) (i 1))<|E)))<|S (V 4 (b true)<|E)<|R
theorem b8 : bodyO 837501258282560226697871394443711488 1370786653062798735898287544627888128 Try.prog 8 = some (126, [.t 4], c8) := by kernel_rfl
theorem k8 : callOk Try.prog 8 = true := by kernel_rfl
/-- leapfrog/leapfroglaw06.RpcNobody -/
def c9 : Go.SL.CC := S (O 1 (.box 65 (t 0))<|V 2 (b false)<|O 20 (.agg [.z (.bool false), .z (.int .i64 0), .z (.int .i64 0), .z (.int .i64 0), .z (.map none)])<|
O 21 (.box 104 (t 20))<|O 22 (.bsl 47 [.c (k (.pointer none)) 0 1, .c (t 21) 0 1] 2)<|O 23 (.ln (t 22))<|V 24 (i 0)<|E)<|
Q (P 0 (S (O 25 (.bini .lss (t 24) (t 23))<|E)<|Q (I (t 25) (Z) (J 0))<|Q (B 1 (S (O 26 (.ia 1 (t 22) (t 24))<|L 27 26<|F 30 1 1<|M 31 2 30<|F 32 3 1<|
M 33 15 32<|C 34 25 [t 27, t 31, t 33]<|X 35 34 0<|X 36 34 1<|
O 6 (.new 63 #[.bool false, .bool false, .int .i64 0, .bool false, .int .i64 0, .int .i64 0, .int .i64 0, .int .i64 0, .int .u64 0, .int .i64 0, .int .i64 0, .int .u64 0, .int .i64 0, .int .u64 0, .int .i64 0, .int .i64 0, .int .u64 0, .int .i64 0, .int .u64 0, .int .i64 0, .int .i64 0, .int .i64 0, .bool false, .int .i64 0, .int .i64 0, .int .u64 0, .int .i64 0, .int .u64 0, .int .i64 0, .int .i64 0, .int .u64 0, .int .i64 0, .int .u64 0, .slice none 0 0])<|
N (.st 34 (t 6) (t 35))<|F 39 18 1<|M 40 34 39<|C 41 41 [t 27, t 40]<|X 42 41 0<|X 43 41 1<|
O 8 (.new 63 #[.bool false, .bool false, .int .i64 0, .bool false, .int .i64 0, .int .i64 0, .int .i64 0, .int .i64 0, .int .u64 0, .int .i64 0, .int .i64 0, .int .u64 0, .int .i64 0, .int .u64 0, .int .i64 0, .int .i64 0, .int .u64 0, .int .i64 0, .int .u64 0, .int .i64 0, .int .i64 0, .int .i64 0, .bool false, .int .i64 0, .int .i64 0, .int .u64 0, .int .i64 0, .int .u64 0, .int .i64 0, .int .i64 0, .int .u64 0, .int .i64 0, .int .u64 0, .slice none 0 0])<|
N (.st 34 (t 8) (t 42))<|F 46 52 1<|L 47 46<|C 48 27 [t 27, t 47]<|X 49 48 0<|X 50 48 1<|
O 10 (.new 63 #[.bool false, .bool false, .int .i64 0, .bool false, .int .i64 0, .int .i64 0, .int .i64 0, .int .i64 0, .int .u64 0, .int .i64 0, .int .i64 0, .int .u64 0, .int .i64 0, .int .u64 0, .int .i64 0, .int .i64 0, .int .u64 0, .int .i64 0, .int .u64 0, .int .i64 0, .int .i64 0, .int .i64 0, .bool false, .int .i64 0, .int .i64 0, .int .u64 0, .int .i64 0, .int .u64 0, .int .i64 0, .int .i64 0, .int .u64 0, .int .i64 0, .int .u64 0, .slice none 0 0])<|
N (.st 34 (t 10) (t 49))<|O 53 (.bini .neq (t 36) (i 4))<|H 54 (.mv (t 43)) 53<|O 56 (.pick (t 53) (b true) (t 54))<|H 57 (.mv (t 50)) 56<|
O 59 (.pick (t 56) (b true) (t 57))<|H 60 (.ld (some 34) (t 6)) 59<|
H 61 (.agg [.z (.bool false), .z (.bool false), .z (.int .i64 0), .z (.bool false), .z (.int .i64 0), .z (.int .i64 0), .z (.int .i64 0), .z (.int .i64 0), .z (.int .u64 0), .z (.int .i64 0), .z (.int .i64 0), .z (.int .u64 0), .z (.int .i64 0), .z (.int .u64 0), .z (.int .i64 0), .z (.int .i64 0), .z (.int .u64 0), .z (.int .i64 0), .z (.int .u64 0), .z (.int .i64 0), .z (.int .i64 0), .z (.int .i64 0), .z (.bool false), .z (.int .i64 0), .z (.int .i64 0), .z (.int .u64 0), .z (.int .i64 0), .z (.int .u64 0), .z (.int .i64 0), .z (.int .i64 0), .z (.int .u64 0), .z (.int .i64 0), .z (.int .u64 0), .z (.slice none 0 0)]) 59<|
H 62 (.call (f 35) [t 60, t 61]) 59<|H 63 (.un .not (t 62)) 59<|O 65 (.pick (t 59) (b true) (t 63))<|H 66 (.ld (some 34) (t 8)) 65<|
H 67 (.agg [.z (.bool false), .z (.bool false), .z (.int .i64 0), .z (.bool false), .z (.int .i64 0), .z (.int .i64 0), .z (.int .i64 0), .z (.int .i64 0), .z (.int .u64 0), .z (.int .i64 0), .z (.int .i64 0), .z (.int .u64 0), .z (.int .i64 0), .z (.int .u64 0), .z (.int .i64 0), .z (.int .i64 0), .z (.int .u64 0), .z (.int .i64 0), .z (.int .u64 0), .z (.int .i64 0), .z (.int .i64 0), .z (.int .i64 0), .z (.bool false), .z (.int .i64 0), .z (.int .i64 0), .z (.int .u64 0), .z (.int .i64 0), .z (.int .u64 0), .z (.int .i64 0), .z (.int .i64 0), .z (.int .u64 0), .z (.int .i64 0), .z (.int .u64 0), .z (.slice none 0 0)]) 65<|
H 68 (.call (f 35) [t 66, t 67]) 65<|H 69 (.un .not (t 68)) 65<|O 71 (.pick (t 65) (b true) (t 69))<|H 72 (.ld (some 34) (t 10)) 71<|
H 73 (.agg [.z (.bool false), .z (.bool false), .z (.int .i64 0), .z (.bool false), .z (.int .i64 0), .z (.int .i64 0), .z (.int .i64 0), .z (.int .i64 0), .z (.int .u64 0), .z (.int .i64 0), .z (.int .i64 0), .z (.int .u64 0), .z (.int .i64 0), .z (.int .u64 0), .z (.int .i64 0), .z (.int .i64 0), .z (.int .u64 0), .z (.int .i64 0), .z (.int .u64 0), .z (.int .i64 0), .z (.int .i64 0), .z (.int .i64 0), .z (.bool false), .z (.int .i64 0), .z (.int .i64 0), .z (.int .u64 0), .z (.int .i64 0), .z (.int .u64 0), .z (.int .i64 0), .z (.int .i64 0), .z (.int .u64 0), .z (.int .i64 0), .z (.int .u64 0), .z (.slice none 0 0)]) 71<|
H 74 (.call (f 35) [t 72, t 73]) 71<|H 75 (.un .not (t 74)) 71<|O 77 (.pick (t 71) (b true) (t 75))<|H 79 (.call (f 30) [t 27]) 77<|H 80 (.ln (t 79)) 77<|
H 82 (.call (f 22) [t 27]) 77<|H 83 (.ln (t 82)) 77<|H 84 (.bini .add (t 80) (t 83)) 77<|H 85 (.bini .neq (t 84) (i 0)) 77<|
O 86 (.pick (t 77) (b true) (t 85))<|E)<|I (t 86) (S (V 2 (b false)<|E)<|R) (Z)))<|Y (O 24 (.bini .add (t 24) (i 1))<|E)))<|
S (O 89 (.agg [.z (.bool false), .z (.int .i64 0), .z (.map none), .z (.slice none 0 0)])<|O 90 (.box 110 (t 89))<|
O 91 (.bsl 84 [.c (k (.pointer none)) 0 1, .c (t 90) 0 1] 2)<|O 92 (.ln (t 91))<|V 93 (i 0)<|E)<|Q (P 2 (S (O 94 (.bini .lss (t 93) (t 92))<|E)<|
Q (I (t 94) (Z) (J 2))<|Q (B 3 (S (O 95 (.ia 1 (t 91) (t 93))<|L 96 95<|F 99 18 1<|M 100 34 99<|C 101 33 [t 96, t 100]<|X 102 101 0<|X 103 101 1<|
O 15 (.new 63 #[.bool false, .bool false, .int .i64 0, .bool false, .int .i64 0, .int .i64 0, .int .i64 0, .int .i64 0, .int .u64 0, .int .i64 0, .int .i64 0, .int .u64 0, .int .i64 0, .int .u64 0, .int .i64 0, .int .i64 0, .int .u64 0, .int .i64 0, .int .u64 0, .int .i64 0, .int .i64 0, .int .i64 0, .bool false, .int .i64 0, .int .i64 0, .int .u64 0, .int .i64 0, .int .u64 0, .int .i64 0, .int .i64 0, .int .u64 0, .int .i64 0, .int .u64 0, .slice none 0 0])<|
N (.st 34 (t 15) (t 102))<|F 106 1 1<|M 107 2 106<|F 108 52 1<|L 109 108<|F 110 53 1<|M 111 13 110<|C 112 36 [t 96, t 107, t 109, t 111]<|X 113 112 0<|
X 114 112 1<|
O 17 (.new 63 #[.bool false, .bool false, .int .i64 0, .bool false, .int .i64 0, .int .i64 0, .int .i64 0, .int .i64 0, .int .u64 0, .int .i64 0, .int .i64 0, .int .u64 0, .int .i64 0, .int .u64 0, .int .i64 0, .int .i64 0, .int .u64 0, .int .i64 0, .int .u64 0, .int .i64 0, .int .i64 0, .int .i64 0, .bool false, .int .i64 0, .int .i64 0, .int .u64 0, .int .i64 0, .int .u64 0, .int .i64 0, .int .i64 0, .int .u64 0, .int .i64 0, .int .u64 0, .slice none 0 0])<|
N (.st 34 (t 17) (t 113))<|O 117 (.bini .neq (t 103) (i 0))<|H 119 (.bini .neq (t 114) (i 4)) 117<|O 121 (.pick (t 117) (b true) (t 119))<|
H 122 (.ld (some 34) (t 15)) 121<|
H 123 (.agg [.z (.bool false), .z (.bool false), .z (.int .i64 0), .z (.bool false), .z (.int .i64 0), .z (.int .i64 0), .z (.int .i64 0), .z (.int .i64 0), .z (.int .u64 0), .z (.int .i64 0), .z (.int .i64 0), .z (.int .u64 0), .z (.int .i64 0), .z (.int .u64 0), .z (.int .i64 0), .z (.int .i64 0), .z (.int .u64 0), .z (.int .i64 0), .z (.int .u64 0), .z (.int .i64 0), .z (.int .i64 0), .z (.int .i64 0), .z (.bool false), .z (.int .i64 0), .z (.int .i64 0), .z (.int .u64 0), .z (.int .i64 0), .z (.int .u64 0), .z (.int .i64 0), .z (.int .i64 0), .z (.int .u64 0), .z (.int .i64 0), .z (.int .u64 0), .z (.slice none 0 0)]) 121<|
H 124 (.call (f 35) [t 122, t 123]) 121<|H 125 (.un .not (t 124)) 121<|O 127 (.pick (t 121) (b true) (t 125))<|H 128 (.ld (some 34) (t 17)) 127<|
H 129 (.agg [.z (.bool false), .z (.bool false), .z (.int .i64 0), .z (.bool false), .z (.int .i64 0), .z (.int .i64 0), .z (.int .i64 0), .z (.int .i64 0), .z (.int .u64 0), .z (.int .i64 0), .z (.int .i64 0), .z (.int .u64 0), .z (.int .i64 0), .z (.int .u64 0), .z (.int .i64 0), .z (.int .i64 0), .z (.int .u64 0), .z (.int .i64 0), .z (.int .u64 0), .z (.int .i64 0), .z (.int .i64 0), .z (.int .i64 0), .z (.bool false), .z (.int .i64 0), .z (.int .i64 0), .z (.int .u64 0), .z (.int .i64 0), .z (.int .u64 0), .z (.int .i64 0), .z (.int .i64 0), .z (.int .u64 0), .z (.int .i64 0), .z (.int .u64 0), .z (.slice none 0 0)]) 127<|
H 130 (.call (f 35) [t 128, t 129]) 127<|H 131 (.un .not (t 130)) 127<|O 133 (.pick (t 127) (b true) (t 131))<|H 135 (.call (f 38) [t 96]) 133<|
H 136 (.ln (t 135)) 133<|H 138 (.call (f 40) [t 96]) 133<|H 139 (.bini .add (t 136) (t 138)) 133<|H 140 (.bini .neq (t 139) (i 0)) 133<|
O 141 (.pick (t 133) (b true) (t 140))<|E)<|I (t 141) (S (V 2 (b false)<|E)<|R) (Z)))<|Y (O 93 (.bini .add (t 93) (i 1))<|E)))<|S (C 2 16 []<|E)<|R
theorem b9 : bodyO 196003017253157279453626543156811073936040 16731089899665178282475445643678051515498496 Try.prog 9 = some (144, [.t 2], c9) := by kernel_rfl
theorem k9 : callOk Try.prog 9 = true := by kernel_rfl
end Go.Proofs.Ytienlpaehgdpaaa
