/- The bodies of some functions of the program, without their noise, and that they are these. Conditions: none. Written by a program of this workplace (Print.lean). -/
import Derived.Test.YtgcmglieciaifaaProg
import Derived.Test.YtgcmglieciaifaaSlW
import Derived.KernelRfl
namespace Go.Proofs.Ytgcmglieciaifaa
open Go.SL Go.SL.W
set_option maxRecDepth 100000

/-- leapfrog/leapfroglaw11.GraphWays -/
def c3 : Go.SL.CC := S (O 6 (.box 25 (t 2))<|V 8 (b false)<|C 3 10 [t 3]<|M 22 2 6<|C 24 11 [t 0, t 1, t 22, t 3]<|X 25 24 0<|X 26 24 1<|X 27 24 2<|X 28 24 3<|
O 10 (.new 32 #[.int .i64 0, .int .i64 0, .int .u64 0, .int .i64 0, .int .u64 0])<|
O 11 (.new 32 #[.int .i64 0, .int .i64 0, .int .u64 0, .int .i64 0, .int .u64 0])<|N (.st 5 (t 10) (t 26))<|N (.st 5 (t 11) (t 27))<|M 32 2 6<|
C 34 12 [t 0, t 1, t 32, t 3]<|X 35 34 0<|X 36 34 1<|X 37 34 2<|X 38 34 3<|O 14 (.new 32 #[.int .i64 0, .int .i64 0, .int .u64 0, .int .i64 0, .int .u64 0])<|
O 15 (.new 32 #[.int .i64 0, .int .i64 0, .int .u64 0, .int .i64 0, .int .u64 0])<|N (.st 5 (t 14) (t 36))<|N (.st 5 (t 15) (t 37))<|C 42 13 [t 25, t 35]<|
G 43 (.ld (some 5) (t 10)) 42<|G 44 (.ld (some 5) (t 14)) 42<|G 45 (.eqs false [.i, .i, .i, .i, .i] (t 43) (t 44)) 42<|O 47 (.pick (t 42) (t 45) (b false))<|
G 48 (.ld (some 5) (t 11)) 47<|G 49 (.ld (some 5) (t 15)) 47<|G 50 (.eqs false [.i, .i, .i, .i, .i] (t 48) (t 49)) 47<|O 52 (.pick (t 47) (t 50) (b false))<|
G 55 (.bini .eql (t 28) (t 38)) 52<|O 57 (.pick (t 52) (t 55) (b false))<|G 58 (.call (f 14) []) 57<|O 8 (.pick (t 57) (t 58) (b false))<|E)<|R
theorem b3 : bodyO 27023259391963648 650842713922732032 Try.prog 3 = some (60, [.t 8], c3) := by kernel_rfl
theorem k3 : callOk Try.prog 3 = true := by kernel_rfl
/-- leapfrog/leapfroglaw11.GraphParted -/
def c4 : Go.SL.CC := S (O 4 (.box 30 (t 1))<|V 6 (b false)<|C 2 10 [t 2]<|C 24 15 [t 0, t 2]<|O 26 (.bini .neq (t 24) (i 0))<|H 27 (.ld (some 2) (t 4)) 26<|
H 28 (.call (f 16) [t 27]) 26<|H 29 (.un .not (t 28)) 26<|O 31 (.pick (t 26) (b true) (t 29))<|H 32 (.fa 0 (t 4)) 31<|H 33 (.ld none (t 32)) 31<|
H 35 (.bini .geq (t 33) (t 0)) 31<|O 36 (.pick (t 31) (b true) (t 35))<|E)<|Q (I (t 36) (S (C 6 14 []<|E)<|R) (Z))<|S (M 39 2 4<|
O 40 (.agg [.c (i 1) 0 1, .z (.int .u64 0)])<|O 41 (.bsl 30 [.c (t 39) 0 2, .c (t 39) 1 2, .c (t 40) 0 2, .c (t 40) 1 2] 2)<|C 42 17 [t 41]<|X 43 42 0<|
X 44 42 1<|O 7 (.new 30 #[.int .i64 0, .int .u64 0])<|N (.st 2 (t 7) (t 43))<|M 46 2 4<|O 47 (.agg [.c (i 1) 0 1, .c (u 1) 0 1])<|
O 48 (.bsl 30 [.c (t 46) 0 2, .c (t 46) 1 2, .c (t 47) 0 2, .c (t 47) 1 2] 2)<|C 49 17 [t 48]<|X 50 49 0<|X 51 49 1<|O 9 (.new 30 #[.int .i64 0, .int .u64 0])<|
N (.st 2 (t 9) (t 50))<|M 54 2 4<|C 56 18 [t 0, t 54, t 2]<|X 57 56 0<|X 58 56 1<|V 11 (t 57)<|M 61 2 7<|C 63 18 [t 0, t 61, t 2]<|X 64 63 0<|X 65 63 1<|
V 13 (t 64)<|M 68 2 9<|C 70 18 [t 0, t 68, t 2]<|X 71 70 0<|X 72 70 1<|V 15 (t 71)<|O 75 (.bini .neq (t 58) (i 0))<|H 77 (.bini .neq (t 65) (i 0)) 75<|
O 79 (.pick (t 75) (b true) (t 77))<|H 81 (.bini .neq (t 72) (i 0)) 79<|O 83 (.pick (t 79) (b true) (t 81))<|H 85 (.ln (t 11)) 83<|H 87 (.ln (t 13)) 83<|
H 89 (.ln (t 15)) 83<|H 90 (.bini .add (t 87) (t 89)) 83<|H 91 (.bini .neq (t 85) (t 90)) 83<|O 92 (.pick (t 83) (b true) (t 91))<|E)<|
Q (I (t 92) (S (V 6 (b false)<|E)<|R) (Z))<|S (V 17 (i 0)<|V 18 (i 0)<|V 19 (i 0)<|E)<|Q (P 0 (S (O 95 (.ln (t 11))<|O 96 (.bini .lss (t 19) (t 95))<|E)<|
Q (I (t 96) (Z) (J 0))<|Q (B 1 (Q (B 2 (S (O 102 (.ln (t 13))<|O 104 (.bini .lss (t 17) (t 102))<|G 107 (.ia 5 (t 13) (t 17)) 104<|
G 108 (.ld (some 5) (t 107)) 104<|G 111 (.ia 5 (t 11) (t 19)) 104<|G 112 (.ld (some 5) (t 111)) 104<|
G 113 (.eqs false [.i, .i, .i, .i, .i] (t 108) (t 112)) 104<|O 99 (.pick (t 104) (t 113) (b false))<|E)<|I (t 99) (Y (O 17 (.bini .add (t 17) (i 1))<|
E)) (S (O 120 (.ln (t 15))<|O 122 (.bini .lss (t 18) (t 120))<|G 125 (.ia 5 (t 15) (t 18)) 122<|G 126 (.ld (some 5) (t 125)) 122<|
G 129 (.ia 5 (t 11) (t 19)) 122<|G 130 (.ld (some 5) (t 129)) 122<|G 131 (.eqs false [.i, .i, .i, .i, .i] (t 126) (t 130)) 122<|
O 117 (.pick (t 122) (t 131) (b false))<|E)<|I (t 117) (Y (O 18 (.bini .add (t 18) (i 1))<|E)) (S (V 6 (b false)<|E)<|R))))<|
S (O 137 (.bini .gtr (t 19) (i 0))<|G 140 (.bini .sub (t 19) (i 1)) 137<|G 141 (.ia 5 (t 11) (t 140)) 137<|G 142 (.fa 1 (t 141)) 137<|
G 143 (.ld (some 2) (t 142)) 137<|G 146 (.ia 5 (t 11) (t 19)) 137<|G 147 (.fa 1 (t 146)) 137<|G 148 (.ld (some 2) (t 147)) 137<|
G 149 (.call (f 19) [t 143, t 148]) 137<|G 150 (.un .not (t 149)) 137<|O 151 (.pick (t 137) (t 150) (b false))<|E)<|I (t 151) (S (V 6 (b false)<|E)<|R) (Z)))<|
Y (O 19 (.bini .add (t 19) (i 1))<|E)))<|S (C 6 14 []<|E)<|R
theorem b4 : bodyO 68002571571034791796915400311997590402061568 5709105108461437346420004577136157805718274048 Try.prog 4 = some (153, [.t 6], c4) := by kernel_rfl
theorem k4 : callOk Try.prog 4 = true := by kernel_rfl
/-- leapfrog/leapfroglaw11.GraphFinds -/
def c5 : Go.SL.CC := S (O 6 (.box 25 (t 2))<|V 8 (b false)<|C 3 10 [t 3]<|M 21 2 6<|C 23 11 [t 0, t 1, t 21, t 3]<|X 24 23 0<|X 25 23 1<|X 26 23 2<|X 27 23 3<|
O 10 (.new 32 #[.int .i64 0, .int .i64 0, .int .u64 0, .int .i64 0, .int .u64 0])<|
O 11 (.new 32 #[.int .i64 0, .int .i64 0, .int .u64 0, .int .i64 0, .int .u64 0])<|V 9 (t 24)<|N (.st 5 (t 10) (t 25))<|N (.st 5 (t 11) (t 26))<|
O 30 (.bini .neq (t 27) (i 0))<|H 31 (.fa 0 (t 6)) 30<|H 32 (.ld none (t 31)) 30<|H 33 (.bini .eql (t 32) (i 1)) 30<|O 34 (.pick (t 30) (b true) (t 33))<|E)<|
Q (I (t 34) (S (C 8 14 []<|E)<|R) (Z))<|S (F 36 1 10<|M 37 2 36<|M 38 2 6<|C 39 19 [t 37, t 38]<|O 41 (.un .not (t 39))<|H 42 (.fa 1 (t 11)) 41<|
H 43 (.ld (some 2) (t 42)) 41<|H 44 (.ld (some 2) (t 6)) 41<|H 45 (.call (f 19) [t 43, t 44]) 41<|O 47 (.pick (t 41) (b true) (t 45))<|H 49 (.ln (t 9)) 47<|
H 50 (.bini .eql (t 49) (i 0)) 47<|O 52 (.pick (t 47) (b true) (t 50))<|H 54 (.ia 6 (t 9) (i 0)) 52<|H 55 (.fa 1 (t 54)) 52<|H 56 (.fa 0 (t 55)) 52<|
H 57 (.ld none (t 56)) 52<|H 59 (.bini .neq (t 57) (t 1)) 52<|O 61 (.pick (t 52) (b true) (t 59))<|H 64 (.ln (t 9)) 61<|H 65 (.bini .sub (t 64) (i 1)) 61<|
H 66 (.ia 6 (t 9) (t 65)) 61<|H 67 (.fa 1 (t 66)) 61<|H 68 (.ld (some 5) (t 67)) 61<|H 69 (.ld (some 5) (t 10)) 61<|
H 70 (.eqs true [.i, .i, .i, .i, .i] (t 68) (t 69)) 61<|O 71 (.pick (t 61) (b true) (t 70))<|E)<|Q (I (t 71) (S (V 8 (b false)<|E)<|R) (Z))<|S (V 13 (i 0)<|E)<|
Q (P 0 (S (O 74 (.ln (t 3))<|O 75 (.bini .lss (t 13) (t 74))<|E)<|Q (I (t 75) (Z) (J 0))<|Q (B 1 (S (F 78 1 10<|M 79 2 78<|O 82 (.ia 5 (t 3) (t 13))<|
F 83 1 82<|M 84 2 83<|C 86 19 [t 79, t 84]<|G 89 (.ia 5 (t 3) (t 13)) 86<|G 90 (.fa 1 (t 89)) 86<|G 91 (.ld (some 2) (t 90)) 86<|G 92 (.fa 1 (t 11)) 86<|
G 93 (.ld (some 2) (t 92)) 86<|G 94 (.call (f 19) [t 91, t 93]) 86<|O 95 (.pick (t 86) (t 94) (b false))<|E)<|I (t 95) (S (V 8 (b false)<|E)<|R) (Z)))<|
Y (O 13 (.bini .add (t 13) (i 1))<|E)))<|S (O 97 (.ia 6 (t 9) (i 0))<|F 98 1 97<|F 99 1 98<|M 100 2 99<|M 101 2 6<|C 102 19 [t 100, t 101]<|
O 14 (.un .not (t 102))<|V 15 (i 1)<|E)<|Q (P 2 (S (O 106 (.ln (t 9))<|O 107 (.bini .lss (t 15) (t 106))<|E)<|Q (I (t 107) (Z) (J 2))<|
Q (B 3 (S (O 112 (.ia 6 (t 9) (t 15))<|F 113 0 112<|L 114 113<|O 117 (.bini .sub (t 15) (i 1))<|O 118 (.ia 6 (t 9) (t 117))<|F 119 0 118<|L 120 119<|
O 122 (.bini .gtr (t 114) (t 120))<|H 125 (.ia 6 (t 9) (t 15)) 122<|H 126 (.fa 1 (t 125)) 122<|H 127 (.fa 1 (t 126)) 122<|H 128 (.ld (some 2) (t 127)) 122<|
H 131 (.bini .sub (t 15) (i 1)) 122<|H 132 (.ia 6 (t 9) (t 131)) 122<|H 133 (.fa 1 (t 132)) 122<|H 134 (.fa 1 (t 133)) 122<|H 135 (.ld (some 2) (t 134)) 122<|
H 136 (.call (f 19) [t 128, t 135]) 122<|H 138 (.cmp .b true (t 136) (t 14)) 122<|O 139 (.pick (t 122) (b true) (t 138))<|E)<|I (t 139) (S (V 8 (b false)<|E)<|
R) (Z)))<|Y (O 15 (.bini .add (t 15) (i 1))<|E)))<|S (C 8 14 []<|E)<|R
theorem b5 : bodyO 176298296431737689367888833154597938597888 1393799234023333867133150598797698632122368 Try.prog 5 = some (141, [.t 8], c5) := by kernel_rfl
theorem k5 : callOk Try.prog 5 = true := by kernel_rfl
/-- leapfrog/leapfroglaw11.GraphBeside -/
def c6 : Go.SL.CC := S (O 5 (.box 30 (t 1))<|V 8 (b false)<|C 3 10 [t 3]<|M 19 2 5<|C 22 20 [t 0, t 19, t 2, t 3]<|X 23 22 0<|X 24 22 1<|X 25 22 2<|
O 9 (.new 32 #[.int .i64 0, .int .i64 0, .int .u64 0, .int .i64 0, .int .u64 0])<|
O 10 (.new 32 #[.int .i64 0, .int .i64 0, .int .u64 0, .int .i64 0, .int .u64 0])<|N (.st 5 (t 9) (t 23))<|N (.st 5 (t 10) (t 24))<|M 28 2 5<|
C 31 21 [t 0, t 28, t 2, t 3]<|X 32 31 0<|X 33 31 1<|X 34 31 2<|O 12 (.new 32 #[.int .i64 0, .int .i64 0, .int .u64 0, .int .i64 0, .int .u64 0])<|
O 13 (.new 32 #[.int .i64 0, .int .i64 0, .int .u64 0, .int .i64 0, .int .u64 0])<|N (.st 5 (t 12) (t 32))<|N (.st 5 (t 13) (t 33))<|M 35 5 9<|M 36 5 12<|
O 38 (.eqs false [.i, .i, .i, .i, .i] (t 35) (t 36))<|G 39 (.ld (some 5) (t 10)) 38<|G 40 (.ld (some 5) (t 13)) 38<|
G 41 (.eqs false [.i, .i, .i, .i, .i] (t 39) (t 40)) 38<|O 43 (.pick (t 38) (t 41) (b false))<|G 46 (.bini .eql (t 25) (t 34)) 43<|
O 48 (.pick (t 43) (t 46) (b false))<|G 49 (.call (f 14) []) 48<|O 8 (.pick (t 48) (t 49) (b false))<|E)<|R
theorem b6 : bodyO 52778373662720 1271172880728064 Try.prog 6 = some (51, [.t 8], c6) := by kernel_rfl
theorem k6 : callOk Try.prog 6 = true := by kernel_rfl
/-- leapfrog/leapfroglaw11.GraphInverse -/
def c7 : Go.SL.CC := S (O 5 (.box 30 (t 1))<|V 8 (b false)<|C 3 10 [t 3]<|M 22 2 5<|C 25 20 [t 0, t 22, t 2, t 3]<|X 26 25 0<|X 27 25 1<|X 28 25 2<|
O 9 (.new 32 #[.int .i64 0, .int .i64 0, .int .u64 0, .int .i64 0, .int .u64 0])<|
O 10 (.new 32 #[.int .i64 0, .int .i64 0, .int .u64 0, .int .i64 0, .int .u64 0])<|N (.st 5 (t 9) (t 26))<|N (.st 5 (t 10) (t 27))<|
O 30 (.bini .neq (t 28) (i 0))<|E)<|Q (I (t 30) (S (C 8 14 []<|E)<|R) (Z))<|S (O 33 (.bini .neq (t 2) (i 1))<|E)<|Q (I (t 33) (S (M 36 2 5<|F 37 0 10<|L 38 37<|
C 40 20 [t 0, t 36, t 38, t 3]<|X 41 40 0<|X 42 40 1<|X 43 40 2<|O 12 (.new 32 #[.int .i64 0, .int .i64 0, .int .u64 0, .int .i64 0, .int .u64 0])<|
O 13 (.new 32 #[.int .i64 0, .int .i64 0, .int .u64 0, .int .i64 0, .int .u64 0])<|N (.st 5 (t 12) (t 41))<|N (.st 5 (t 13) (t 42))<|
O 46 (.bini .neq (t 43) (i 0))<|H 47 (.fa 0 (t 12)) 46<|H 48 (.ld none (t 47)) 46<|H 50 (.bini .neq (t 48) (t 2)) 46<|O 51 (.pick (t 46) (b true) (t 50))<|E)<|
I (t 51) (S (V 8 (b false)<|E)<|R) (Z)) (Z))<|S (O 53 (.bini .neq (t 2) (i 0))<|E)<|Q (I (t 53) (S (M 56 2 5<|F 57 0 9<|L 58 57<|
C 60 20 [t 0, t 56, t 58, t 3]<|X 61 60 0<|X 62 60 1<|X 63 60 2<|O 15 (.new 32 #[.int .i64 0, .int .i64 0, .int .u64 0, .int .i64 0, .int .u64 0])<|
O 16 (.new 32 #[.int .i64 0, .int .i64 0, .int .u64 0, .int .i64 0, .int .u64 0])<|N (.st 5 (t 15) (t 61))<|N (.st 5 (t 16) (t 62))<|
O 66 (.bini .neq (t 63) (i 0))<|H 67 (.fa 0 (t 16)) 66<|H 68 (.ld none (t 67)) 66<|H 70 (.bini .neq (t 68) (t 2)) 66<|O 71 (.pick (t 66) (b true) (t 70))<|E)<|
I (t 71) (S (V 8 (b false)<|E)<|R) (Z)) (Z))<|S (C 8 14 []<|E)<|R
theorem b7 : bodyO 609378143128169891840 4759260006203584413696 Try.prog 7 = some (73, [.t 8], c7) := by kernel_rfl
theorem k7 : callOk Try.prog 7 = true := by kernel_rfl
/-- leapfrog/leapfroglaw11.GraphLists -/
def c8 : Go.SL.CC := S (O 4 (.box 30 (t 1))<|V 6 (b false)<|C 2 10 [t 2]<|M 20 2 4<|C 22 18 [t 0, t 20, t 2]<|X 23 22 0<|X 24 22 1<|M 27 2 4<|C 29 22 [t 0, t 27, t 2]<|X 30 29 0<|
X 31 29 1<|C 35 23 [t 0, t 2]<|X 36 35 0<|X 37 35 1<|V 11 (t 36)<|C 41 24 [t 0, t 2]<|X 42 41 0<|X 43 41 1<|V 13 (t 42)<|C 46 25 [t 0, t 2]<|
C 49 15 [t 0, t 2]<|O 51 (.bini .neq (t 46) (t 49))<|H 54 (.call (f 26) [t 23, t 30]) 51<|H 55 (.un .not (t 54)) 51<|O 57 (.pick (t 51) (b true) (t 55))<|
H 60 (.bini .neq (t 24) (t 31)) 57<|O 62 (.pick (t 57) (b true) (t 60))<|H 65 (.bini .neq (t 37) (t 43)) 62<|O 67 (.pick (t 62) (b true) (t 65))<|
H 69 (.ln (t 11)) 67<|H 71 (.ln (t 13)) 67<|H 72 (.bini .neq (t 69) (t 71)) 67<|O 73 (.pick (t 67) (b true) (t 72))<|E)<|Q (I (t 73) (S (V 6 (b false)<|E)<|
R) (Z))<|S (V 15 (i 0)<|E)<|Q (P 0 (S (O 76 (.ln (t 13))<|O 77 (.bini .lss (t 15) (t 76))<|E)<|Q (I (t 77) (Z) (J 0))<|Q (B 1 (S (O 82 (.ia 3 (t 11) (t 15))<|
F 83 0 82<|M 84 2 83<|O 87 (.ia 3 (t 13) (t 15))<|F 88 0 87<|M 89 2 88<|O 91 (.eqs true [.i, .i] (t 84) (t 89))<|H 94 (.ia 3 (t 11) (t 15)) 91<|
H 95 (.fa 2 (t 94)) 91<|H 96 (.ld none (t 95)) 91<|H 99 (.ia 3 (t 13) (t 15)) 91<|H 100 (.fa 2 (t 99)) 91<|H 101 (.ld none (t 100)) 91<|
H 102 (.call (f 26) [t 96, t 101]) 91<|H 103 (.un .not (t 102)) 91<|O 104 (.pick (t 91) (b true) (t 103))<|E)<|I (t 104) (S (V 6 (b false)<|E)<|R) (Z)))<|
Y (O 15 (.bini .add (t 15) (i 1))<|E)))<|S (C 6 14 []<|E)<|R
theorem b8 : bodyO 490344299617293456119656437632 40566057751881702038281985851392 Try.prog 8 = some (106, [.t 6], c8) := by kernel_rfl
theorem k8 : callOk Try.prog 8 = true := by kernel_rfl
/-- leapfrog/leapfroglaw11.GraphNear -/
def c9 : Go.SL.CC := S (O 5 (.box 32 (t 2))<|V 6 (b false)<|C 1 10 [t 1]<|M 28 5 5<|.both (O 25 (.bsl 32 [] 0)<|
.both (O 27 (.ap 32 5 40 #[.int .i64 0, .int .i64 0, .int .u64 0, .int .i64 0, .int .u64 0] (t 25) (t 1))<|A 28 (.ld (some 5) (t 5))<|
O 29 (.bsl 32 [.c (t 28) 0 5, .c (t 28) 1 5, .c (t 28) 2 5, .c (t 28) 3 5, .c (t 28) 4 5] 1)<|
O 30 (.ap 32 5 40 #[.int .i64 0, .int .i64 0, .int .u64 0, .int .i64 0, .int .u64 0] (t 27) (t 29))<|V 7 (t 30)<|
E) (O 29 (.bsl 32 [.c (t 28) 0 5, .c (t 28) 1 5, .c (t 28) 2 5, .c (t 28) 3 5, .c (t 28) 4 5] 1)<|
O 27 (.ap 32 5 40 #[.int .i64 0, .int .i64 0, .int .u64 0, .int .i64 0, .int .u64 0] (t 25) (t 1))<|A 28 (.ld (some 5) (t 5))<|
O 30 (.ap 32 5 40 #[.int .i64 0, .int .i64 0, .int .u64 0, .int .i64 0, .int .u64 0] (t 27) (t 29))<|V 7 (t 30)<|
E)) (O 29 (.bsl 32 [.c (t 28) 0 5, .c (t 28) 1 5, .c (t 28) 2 5, .c (t 28) 3 5, .c (t 28) 4 5] 1)<|O 25 (.bsl 32 [] 0)<|
O 27 (.ap 32 5 40 #[.int .i64 0, .int .i64 0, .int .u64 0, .int .i64 0, .int .u64 0] (t 25) (t 1))<|A 28 (.ld (some 5) (t 5))<|
O 30 (.ap 32 5 40 #[.int .i64 0, .int .i64 0, .int .u64 0, .int .i64 0, .int .u64 0] (t 27) (t 29))<|V 7 (t 30)<|E))<|S (C 33 15 [t 0, t 1]<|
O 35 (.bini .neq (t 33) (i 0))<|H 38 (.call (f 15) [t 0, t 7]) 35<|H 39 (.bini .neq (t 38) (i 0)) 35<|O 40 (.pick (t 35) (b true) (t 39))<|E)<|
Q (I (t 40) (S (C 6 14 []<|E)<|R) (Z))<|S (C 45 23 [t 0, t 1]<|X 46 45 0<|X 47 45 1<|V 8 (t 46)<|O 49 (.bini .neq (t 47) (i 0))<|E)<|
Q (I (t 49) (S (V 6 (b false)<|E)<|R) (Z))<|S (V 10 (i 0)<|E)<|Q (P 0 (S (O 52 (.ln (t 8))<|O 53 (.bini .lss (t 10) (t 52))<|E)<|Q (I (t 53) (Z) (J 0))<|
Q (B 1 (S (O 59 (.ia 3 (t 8) (t 10))<|F 60 0 59<|M 61 2 60<|C 11 27 [t 0, t 61, t 1]<|O 68 (.ia 3 (t 8) (t 10))<|F 69 0 68<|M 70 2 69<|F 71 0 5<|L 72 71<|
.both (C 74 20 [t 0, t 70, t 72, t 7]<|X 75 74 0<|X 76 74 1<|X 77 74 2<|
.both (O 12 (.new 32 #[.int .i64 0, .int .i64 0, .int .u64 0, .int .i64 0, .int .u64 0])<|
O 13 (.new 32 #[.int .i64 0, .int .i64 0, .int .u64 0, .int .i64 0, .int .u64 0])<|N (.st 5 (t 12) (t 75))<|N (.st 5 (t 13) (t 76))<|V 14 (t 77)<|
E) (O 13 (.new 32 #[.int .i64 0, .int .i64 0, .int .u64 0, .int .i64 0, .int .u64 0])<|
O 12 (.new 32 #[.int .i64 0, .int .i64 0, .int .u64 0, .int .i64 0, .int .u64 0])<|N (.st 5 (t 12) (t 75))<|N (.st 5 (t 13) (t 76))<|V 14 (t 77)<|
E)) (.both (O 12 (.new 32 #[.int .i64 0, .int .i64 0, .int .u64 0, .int .i64 0, .int .u64 0])<|.both (C 74 20 [t 0, t 70, t 72, t 7]<|X 75 74 0<|X 76 74 1<|
X 77 74 2<|O 13 (.new 32 #[.int .i64 0, .int .i64 0, .int .u64 0, .int .i64 0, .int .u64 0])<|N (.st 5 (t 12) (t 75))<|N (.st 5 (t 13) (t 76))<|V 14 (t 77)<|
E) (O 13 (.new 32 #[.int .i64 0, .int .i64 0, .int .u64 0, .int .i64 0, .int .u64 0])<|C 74 20 [t 0, t 70, t 72, t 7]<|X 75 74 0<|X 76 74 1<|X 77 74 2<|
N (.st 5 (t 12) (t 75))<|N (.st 5 (t 13) (t 76))<|V 14 (t 77)<|E)) (O 13 (.new 32 #[.int .i64 0, .int .i64 0, .int .u64 0, .int .i64 0, .int .u64 0])<|
.both (C 74 20 [t 0, t 70, t 72, t 7]<|X 75 74 0<|X 76 74 1<|X 77 74 2<|O 12 (.new 32 #[.int .i64 0, .int .i64 0, .int .u64 0, .int .i64 0, .int .u64 0])<|
N (.st 5 (t 12) (t 75))<|N (.st 5 (t 13) (t 76))<|V 14 (t 77)<|E) (O 12 (.new 32 #[.int .i64 0, .int .i64 0, .int .u64 0, .int .i64 0, .int .u64 0])<|
C 74 20 [t 0, t 70, t 72, t 7]<|X 75 74 0<|X 76 74 1<|X 77 74 2<|N (.st 5 (t 12) (t 75))<|N (.st 5 (t 13) (t 76))<|V 14 (t 77)<|E))))<|S (V 15 (i 0)<|E)<|
P 2 (S (O 80 (.ln (t 11))<|O 81 (.bini .lss (t 15) (t 80))<|E)<|Q (I (t 81) (Z) (J 2))<|Q (B 3 (S (O 88 (.ia 3 (t 8) (t 10))<|F 89 0 88<|M 90 2 89<|
O 93 (.ia 5 (t 11) (t 15))<|F 94 0 93<|L 95 94<|.both (C 97 20 [t 0, t 90, t 95, t 1]<|X 98 97 0<|X 99 97 1<|X 100 97 2<|
.both (O 16 (.new 32 #[.int .i64 0, .int .i64 0, .int .u64 0, .int .i64 0, .int .u64 0])<|
O 17 (.new 32 #[.int .i64 0, .int .i64 0, .int .u64 0, .int .i64 0, .int .u64 0])<|N (.st 5 (t 16) (t 98))<|N (.st 5 (t 17) (t 99))<|V 18 (t 100)<|
E) (O 17 (.new 32 #[.int .i64 0, .int .i64 0, .int .u64 0, .int .i64 0, .int .u64 0])<|
O 16 (.new 32 #[.int .i64 0, .int .i64 0, .int .u64 0, .int .i64 0, .int .u64 0])<|N (.st 5 (t 16) (t 98))<|N (.st 5 (t 17) (t 99))<|V 18 (t 100)<|
E)) (.both (O 16 (.new 32 #[.int .i64 0, .int .i64 0, .int .u64 0, .int .i64 0, .int .u64 0])<|.both (C 97 20 [t 0, t 90, t 95, t 1]<|X 98 97 0<|X 99 97 1<|
X 100 97 2<|O 17 (.new 32 #[.int .i64 0, .int .i64 0, .int .u64 0, .int .i64 0, .int .u64 0])<|N (.st 5 (t 16) (t 98))<|N (.st 5 (t 17) (t 99))<|V 18 (t 100)<|
E) (O 17 (.new 32 #[.int .i64 0, .int .i64 0, .int .u64 0, .int .i64 0, .int .u64 0])<|C 97 20 [t 0, t 90, t 95, t 1]<|X 98 97 0<|X 99 97 1<|X 100 97 2<|
N (.st 5 (t 16) (t 98))<|N (.st 5 (t 17) (t 99))<|V 18 (t 100)<|E)) (O 17 (.new 32 #[.int .i64 0, .int .i64 0, .int .u64 0, .int .i64 0, .int .u64 0])<|
.both (C 97 20 [t 0, t 90, t 95, t 1]<|X 98 97 0<|X 99 97 1<|X 100 97 2<|O 16 (.new 32 #[.int .i64 0, .int .i64 0, .int .u64 0, .int .i64 0, .int .u64 0])<|
N (.st 5 (t 16) (t 98))<|N (.st 5 (t 17) (t 99))<|V 18 (t 100)<|E) (O 16 (.new 32 #[.int .i64 0, .int .i64 0, .int .u64 0, .int .i64 0, .int .u64 0])<|
C 97 20 [t 0, t 90, t 95, t 1]<|X 98 97 0<|X 99 97 1<|X 100 97 2<|N (.st 5 (t 16) (t 98))<|N (.st 5 (t 17) (t 99))<|V 18 (t 100)<|E))))<|
S (O 105 (.ia 3 (t 8) (t 10))<|F 106 0 105<|M 107 2 106<|O 110 (.ia 5 (t 11) (t 15))<|F 111 0 110<|L 112 111<|.both (C 114 20 [t 0, t 107, t 112, t 7]<|
X 115 114 0<|X 116 114 1<|X 117 114 2<|.both (O 19 (.new 32 #[.int .i64 0, .int .i64 0, .int .u64 0, .int .i64 0, .int .u64 0])<|
O 20 (.new 32 #[.int .i64 0, .int .i64 0, .int .u64 0, .int .i64 0, .int .u64 0])<|N (.st 5 (t 19) (t 115))<|N (.st 5 (t 20) (t 116))<|V 21 (t 117)<|
E) (O 20 (.new 32 #[.int .i64 0, .int .i64 0, .int .u64 0, .int .i64 0, .int .u64 0])<|
O 19 (.new 32 #[.int .i64 0, .int .i64 0, .int .u64 0, .int .i64 0, .int .u64 0])<|N (.st 5 (t 19) (t 115))<|N (.st 5 (t 20) (t 116))<|V 21 (t 117)<|
E)) (.both (O 19 (.new 32 #[.int .i64 0, .int .i64 0, .int .u64 0, .int .i64 0, .int .u64 0])<|.both (C 114 20 [t 0, t 107, t 112, t 7]<|X 115 114 0<|
X 116 114 1<|X 117 114 2<|O 20 (.new 32 #[.int .i64 0, .int .i64 0, .int .u64 0, .int .i64 0, .int .u64 0])<|N (.st 5 (t 19) (t 115))<|
N (.st 5 (t 20) (t 116))<|V 21 (t 117)<|E) (O 20 (.new 32 #[.int .i64 0, .int .i64 0, .int .u64 0, .int .i64 0, .int .u64 0])<|
C 114 20 [t 0, t 107, t 112, t 7]<|X 115 114 0<|X 116 114 1<|X 117 114 2<|N (.st 5 (t 19) (t 115))<|N (.st 5 (t 20) (t 116))<|V 21 (t 117)<|
E)) (O 20 (.new 32 #[.int .i64 0, .int .i64 0, .int .u64 0, .int .i64 0, .int .u64 0])<|.both (C 114 20 [t 0, t 107, t 112, t 7]<|X 115 114 0<|X 116 114 1<|
X 117 114 2<|O 19 (.new 32 #[.int .i64 0, .int .i64 0, .int .u64 0, .int .i64 0, .int .u64 0])<|N (.st 5 (t 19) (t 115))<|N (.st 5 (t 20) (t 116))<|
V 21 (t 117)<|E) (O 19 (.new 32 #[.int .i64 0, .int .i64 0, .int .u64 0, .int .i64 0, .int .u64 0])<|C 114 20 [t 0, t 107, t 112, t 7]<|X 115 114 0<|
X 116 114 1<|X 117 114 2<|N (.st 5 (t 19) (t 115))<|N (.st 5 (t 20) (t 116))<|V 21 (t 117)<|E))))<|S (O 120 (.bini .eql (t 14) (i 0))<|
G 123 (.ia 5 (t 11) (t 15)) 120<|G 124 (.ld (some 5) (t 123)) 120<|G 125 (.ld (some 5) (t 12)) 120<|
G 126 (.eqs false [.i, .i, .i, .i, .i] (t 124) (t 125)) 120<|G 127 (.mv (t 126)) 120<|H 130 (.ia 5 (t 11) (t 15)) 127<|H 131 (.ld (some 5) (t 130)) 127<|
H 132 (.ld (some 5) (t 13)) 127<|H 133 (.eqs false [.i, .i, .i, .i, .i] (t 131) (t 132)) 127<|G 134 (.pick (t 127) (b true) (t 133)) 120<|
O 135 (.pick (t 120) (t 134) (b false))<|O 138 (.bini .neq (t 18) (i 0))<|H 140 (.bini .neq (t 21) (i 0)) 138<|O 142 (.pick (t 138) (b true) (t 140))<|
H 144 (.un .not (t 135)) 142<|H 145 (.mv (t 144)) 142<|G 146 (.ld (some 5) (t 16)) 145<|G 147 (.ld (some 5) (t 19)) 145<|
G 148 (.eqs true [.i, .i, .i, .i, .i] (t 146) (t 147)) 145<|G 149 (.mv (t 148)) 145<|H 150 (.ld (some 5) (t 17)) 149<|H 151 (.ld (some 5) (t 20)) 149<|
H 152 (.eqs true [.i, .i, .i, .i, .i] (t 150) (t 151)) 149<|G 153 (.pick (t 149) (b true) (t 152)) 145<|H 154 (.pick (t 145) (t 153) (b false)) 142<|
O 156 (.pick (t 142) (b true) (t 154))<|H 158 (.bini .eql (t 14) (i 0)) 156<|H 159 (.fa 3 (t 5)) 156<|H 160 (.ld (some 2) (t 159)) 156<|
H 163 (.ia 3 (t 8) (t 10)) 156<|H 164 (.fa 0 (t 163)) 156<|H 165 (.ld (some 2) (t 164)) 156<|H 166 (.call (f 28) [t 160, t 165]) 156<|
H 167 (.cmp .b true (t 158) (t 166)) 156<|O 168 (.pick (t 156) (b true) (t 167))<|E)<|I (t 168) (S (V 6 (b false)<|E)<|R) (Z)))<|
Y (O 15 (.bini .add (t 15) (i 1))<|E))))<|Y (O 10 (.bini .add (t 10) (i 1))<|E)))<|S (C 6 14 []<|E)<|R
theorem b9 : bodyO 8951709464064119197153679051310456634478459617792 748334513201407271130326787616324141217925853872128 Try.prog 9 = some (170, [.t 6], c9) := by kernel_rfl
theorem k9 : callOk Try.prog 9 = true := by kernel_rfl
/-- leapfrog/leapfroglaw11.few -/
def c10 : Go.SL.CC := S (V 2 (k (.slice none 0 0))<|O 4 (.ln (t 0))<|O 5 (.bini .gtr (t 4) (i 12))<|E)<|Q (I (t 5) (S (O 2 (.sl 5 (t 0) none (some (i 12)) none)<|E)<|R) (Z))<|
S (V 2 (t 0)<|E)<|R
theorem b10 : bodyO 328 128 Try.prog 10 = some (9, [.t 2], c10) := by kernel_rfl
theorem k10 : callOk Try.prog 10 = true := by kernel_rfl
/-- leapfrog/leapfroglaw11.alive -/
def c14 : Go.SL.CC := S (V 0 (b false)<|C 8 42 []<|O 10 (.agg [.c (i 1) 0 1, .z (.int .u64 0)])<|C 12 18 [i 1, t 10, t 8]<|X 13 12 0<|X 14 12 1<|C 16 43 [u 5]<|
C 18 11 [i 1, i 4, t 16, t 8]<|X 19 18 0<|X 20 18 1<|X 21 18 2<|X 22 18 3<|O 5 (.new 32 #[.int .i64 0, .int .i64 0, .int .u64 0, .int .i64 0, .int .u64 0])<|
O 6 (.new 32 #[.int .i64 0, .int .i64 0, .int .u64 0, .int .i64 0, .int .u64 0])<|N (.st 5 (t 5) (t 20))<|N (.st 5 (t 6) (t 21))<|
O 25 (.bini .eql (t 14) (i 0))<|G 27 (.bini .eql (t 22) (i 0)) 25<|O 29 (.pick (t 25) (t 27) (b false))<|G 32 (.ia 5 (t 8) (i 0)) 29<|
G 33 (.ld (some 5) (t 32)) 29<|G 35 (.ia 5 (t 8) (i 2)) 29<|G 36 (.ld (some 5) (t 35)) 29<|
G 37 (.bsl 32 [.c (t 33) 0 5, .c (t 33) 1 5, .c (t 33) 2 5, .c (t 33) 3 5, .c (t 33) 4 5, .c (t 36) 0 5, .c (t 36) 1 5, .c (t 36) 2 5, .c (t 36) 3 5, .c (t 36) 4 5] 2) 29<|
G 38 (.call (f 26) [t 13, t 37]) 29<|O 40 (.pick (t 29) (t 38) (b false))<|G 42 (.ln (t 19)) 40<|G 43 (.bini .eql (t 42) (i 3)) 40<|
O 45 (.pick (t 40) (t 43) (b false))<|G 46 (.ld (some 5) (t 5)) 45<|G 48 (.ia 5 (t 8) (i 0)) 45<|G 49 (.ld (some 5) (t 48)) 45<|
G 50 (.eqs false [.i, .i, .i, .i, .i] (t 46) (t 49)) 45<|O 52 (.pick (t 45) (t 50) (b false))<|G 53 (.ld (some 5) (t 6)) 52<|G 55 (.ia 5 (t 8) (i 1)) 52<|
G 56 (.ld (some 5) (t 55)) 52<|G 57 (.eqs false [.i, .i, .i, .i, .i] (t 53) (t 56)) 52<|O 0 (.pick (t 52) (t 57) (b false))<|E)<|R
theorem b14 : bodyO 18157355497851550 290500318192467968 Try.prog 14 = some (59, [.t 0], c14) := by kernel_rfl
theorem k14 : callOk Try.prog 14 = true := by kernel_rfl
/-- leapfrog/leapfroglaw11.three -/
def c42 : Go.SL.CC := S (V 0 (k (.slice none 0 0))<|C 1 43 [u 3]<|O 2 (.agg [.c (i 1) 0 1, .z (.int .u64 0)])<|
O 3 (.agg [.c (i 2) 0 1, .c (t 1) 0 2, .c (t 1) 1 2, .c (t 2) 0 2, .c (t 2) 1 2])<|C 4 43 [u 5]<|O 5 (.agg [.c (i 1) 0 1, .c (u 1) 0 1])<|
O 6 (.agg [.c (i 3) 0 1, .c (t 4) 0 2, .c (t 4) 1 2, .c (t 5) 0 2, .c (t 5) 1 2])<|C 7 43 [u 9]<|O 8 (.agg [.c (i 1) 0 1, .z (.int .u64 0)])<|
O 9 (.agg [.c (i 4) 0 1, .c (t 7) 0 2, .c (t 7) 1 2, .c (t 8) 0 2, .c (t 8) 1 2])<|
O 0 (.bsl 32 [.c (t 3) 0 5, .c (t 3) 1 5, .c (t 3) 2 5, .c (t 3) 3 5, .c (t 3) 4 5, .c (t 6) 0 5, .c (t 6) 1 5, .c (t 6) 2 5, .c (t 6) 3 5, .c (t 6) 4 5, .c (t 9) 0 5, .c (t 9) 1 5, .c (t 9) 2 5, .c (t 9) 3 5, .c (t 9) 4 5] 3)<|
E)<|R
theorem b42 : bodyO 0 1024 Try.prog 42 = some (11, [.t 0], c42) := by kernel_rfl
theorem k42 : callOk Try.prog 42 = true := by kernel_rfl
/-- leapfrog/leapfroglaw11.at -/
def c43 : Go.SL.CC := S (O 2 (.new 25 #[.int .i64 0, .int .u64 0])<|O 4 (.agg [.c (i 2) 0 1, .c (t 0) 0 1])<|N (.st 2 (t 2) (t 4))<|E)<|R
theorem b43 : bodyO 8 0 Try.prog 43 = some (5, [.c 2 (some 2)], c43) := by kernel_rfl
theorem k43 : callOk Try.prog 43 = true := by kernel_rfl
/-- leapfrog/leapfrogref03.IsKey -/
def c40 : Go.SL.CC := S (O 1 (.box 25 (t 0))<|V 2 (b false)<|F 3 0 1<|L 4 3<|O 6 (.bini .eql (t 4) (i 2))<|H 7 (.fa 1 (t 1)) 6<|H 8 (.ld none (t 7)) 6<|
H 9 (.bini .eql (t 8) (u 0)) 6<|H 10 (.mv (t 9)) 6<|G 11 (.fa 0 (t 1)) 10<|G 12 (.ld none (t 11)) 10<|G 13 (.bini .eql (t 12) (i 1)) 10<|G 14 (.mv (t 13)) 10<|
H 15 (.fa 0 (t 1)) 14<|H 16 (.ld none (t 15)) 14<|H 17 (.bini .eql (t 16) (i 3)) 14<|G 18 (.pick (t 14) (b true) (t 17)) 10<|
H 19 (.pick (t 10) (t 18) (b false)) 6<|O 2 (.pick (t 6) (b true) (t 19))<|E)<|R
theorem b40 : bodyO 0 1048608 Try.prog 40 = some (21, [.t 2], c40) := by kernel_rfl
theorem k40 : callOk Try.prog 40 = true := by kernel_rfl
end Go.Proofs.Ytgcmglieciaifaa
