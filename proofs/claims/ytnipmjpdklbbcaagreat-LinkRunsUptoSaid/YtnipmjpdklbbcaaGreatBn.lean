/- The bodies of some functions of the program, without their noise, and that they are these. Conditions: none. Written by a program of this workplace (Print.lean). -/
import Derived.Test.YtnipmjpdklbbcaaGreatProg
import Derived.Test.YtnipmjpdklbbcaaGreatSlW
import Derived.KernelRfl
namespace Go.Proofs.YtnipmjpdklbbcaaGreat
open Go.SL Go.SL.W
set_option maxRecDepth 100000

/-- (*leapfrog/link.Links).is -/
def c78 : Go.SL.CC := S (V 2 (b false)<|O 5 (.cmp .p true (t 0) (k (.pointer none)))<|G 8 (.fa 5 (t 0)) 5<|G 9 (.ld none (t 8)) 5<|G 10 (.cmp .m true (t 9) (k (.map none))) 5<|
O 2 (.pick (t 5) (t 10) (b false))<|E)<|R
theorem b78 : bodyO 72 2192 Tryz.prog 78 = some (12, [.t 2], c78) := by kernel_rfl
theorem k78 : callOk Tryz.prog 78 = true := by kernel_rfl
/-- (*leapfrog/link.Links).head -/
def c145 : Go.SL.CC := S (V 2 (b false)<|F 5 0 0<|F 6 1 5<|F 7 0 6<|L 8 7<|O 2 (.bini .eql (t 8) (i 1))<|E)<|R
theorem b145 : bodyO 8 528 Tryz.prog 145 = some (10, [.t 2], c145) := by kernel_rfl
theorem k145 : callOk Tryz.prog 145 = true := by kernel_rfl
/-- (*leapfrog/link.Links).tail -/
def c146 : Go.SL.CC := S (V 2 (b false)<|F 5 0 0<|F 6 1 5<|F 7 0 6<|L 8 7<|O 2 (.bini .eql (t 8) (i 3))<|E)<|R
theorem b146 : bodyO 8 528 Tryz.prog 146 = some (10, [.t 2], c146) := by kernel_rfl
theorem k146 : callOk Tryz.prog 146 = true := by kernel_rfl
/-- (*leapfrog/link.Links).end -/
def c86 : Go.SL.CC := S (V 2 (b false)<|C 5 145 [t 0]<|H 7 (.call (f 146) [t 0]) 5<|O 2 (.pick (t 5) (b true) (t 7))<|E)<|R
theorem b86 : bodyO 72 272 Tryz.prog 86 = some (9, [.t 2], c86) := by kernel_rfl
theorem k86 : callOk Tryz.prog 86 = true := by kernel_rfl
/-- leapfrog/link.New -/
def c24 : Go.SL.CC := S (O 1 (.box 38 (t 0))<|V 2 (k (.pointer none))<|V 3 (i 0)<|F 4 1 1<|M 5 2 4<|C 6 76 [t 5]<|O 8 (.bini .neq (t 6) (i 0))<|H 9 (.fa 3 (t 1)) 8<|
H 10 (.ld (some 2) (t 9)) 8<|H 11 (.call (f 55) [t 10]) 8<|H 12 (.bini .neq (t 11) (i 0)) 8<|O 13 (.pick (t 8) (b true) (t 12))<|E)<|
Q (I (t 13) (S (V 2 (k (.pointer none))<|V 3 (i 80)<|E)<|R) (Z))<|S (M 14 5 1<|O 15 (.mkm)<|
O 16 (.agg [.c (t 14) 0 5, .c (t 14) 1 5, .c (t 14) 2 5, .c (t 14) 3 5, .c (t 14) 4 5, .c (t 15) 0 1])<|O 2 (.box 141 (t 16))<|V 3 (i 0)<|E)<|R
theorem b24 : bodyO 0 131200 Tryz.prog 24 = some (18, [.t 2, .t 3], c24) := by kernel_rfl
theorem k24 : callOk Tryz.prog 24 = true := by kernel_rfl
/-- (*leapfrog/link.Links).May -/
def c30 : Go.SL.CC := S (O 3 (.box 36 (t 1))<|V 4 (b false)<|C 6 78 [t 0]<|O 7 (.un .not (t 6))<|E)<|Q (I (t 7) (S (V 4 (b false)<|E)<|R) (Z))<|S (C 9 86 [t 0]<|E)<|
Q (I (t 9) (S (M 10 2 3<|C 11 55 [t 10]<|O 13 (.bini .eql (t 11) (i 0))<|G 14 (.fa 0 (t 3)) 13<|G 15 (.ld none (t 14)) 13<|G 18 (.fa 0 (t 0)) 13<|
G 19 (.fa 3 (t 18)) 13<|G 20 (.fa 0 (t 19)) 13<|G 21 (.ld none (t 20)) 13<|G 22 (.bini .leq (t 15) (t 21)) 13<|O 4 (.pick (t 13) (t 22) (b false))<|E)<|
R) (Z))<|S (F 26 0 0<|F 27 3 26<|M 28 2 27<|M 29 2 3<|C 4 87 [t 28, t 29]<|E)<|R
theorem b30 : bodyO 16843040 1115820032 Tryz.prog 30 = some (31, [.t 4], c30) := by kernel_rfl
theorem k30 : callOk Tryz.prog 30 = true := by kernel_rfl
/-- (*leapfrog/link.Links).first -/
def c97 : Go.SL.CC := S (V 2 (k (.pointer none))<|C 4 138 []<|
O 5 (.agg [.z (.int .i64 0), .z (.int .i64 0), .z (.int .u64 0), .z (.int .i64 0), .z (.int .u64 0), .z (.int .i64 0), .z (.int .i64 0), .z (.int .u64 0), .z (.int .i64 0), .z (.int .u64 0), .c (t 4) 0 1])<|
O 3 (.box 207 (t 5))<|C 8 145 [t 0]<|E)<|Q (I (t 8) (Y (O 10 (.agg [.c (i 3) 0 1, .z (.int .u64 0)])<|F 13 0 0<|F 14 3 13<|M 15 2 14<|
O 16 (.agg [.c (i 1) 0 1, .c (t 10) 0 2, .c (t 10) 1 2, .c (t 15) 0 2, .c (t 15) 1 2])<|F 18 5 3<|N (.st 5 (t 18) (t 16))<|
E)) (Y (O 20 (.agg [.c (i 1) 0 1, .z (.int .u64 0)])<|F 23 0 0<|F 24 3 23<|M 25 2 24<|
O 26 (.agg [.z (.int .i64 0), .c (t 20) 0 2, .c (t 20) 1 2, .c (t 25) 0 2, .c (t 25) 1 2])<|F 28 0 3<|N (.st 5 (t 28) (t 26))<|E)))<|S (V 2 (t 3)<|E)<|R
theorem b97 : bodyO 539495040 138547264 Tryz.prog 97 = some (30, [.t 2], c97) := by kernel_rfl
theorem k97 : callOk Tryz.prog 97 = true := by kernel_rfl
/-- (*leapfrog/link.Links).in -/
def c79 : Go.SL.CC := S (O 3 (.box 36 (t 1))<|V 4 (k (.pointer none))<|F 11 5 0<|L 12 11<|M 13 2 3<|O 14 (.lkp true 36 (.pointer none) (t 12) (t 13))<|X 15 14 0<|X 16 14 1<|
V 5 (t 15)<|V 17 (t 16)<|E)<|Q (I (t 17) (S (V 4 (t 5)<|E)<|R) (Z))<|S (C 20 86 [t 0]<|O 22 (.un .not (t 20))<|H 24 (.ld (some 2) (t 3)) 22<|
H 25 (.call (f 30) [t 0, t 24]) 22<|H 26 (.un .not (t 25)) 22<|O 27 (.pick (t 22) (b true) (t 26))<|E)<|Q (I (t 27) (S (V 4 (k (.pointer none))<|E)<|R) (Z))<|
S (C 29 97 [t 0]<|F 32 5 0<|L 33 32<|M 34 2 3<|N (.mup 36 (t 33) (t 34) (t 29))<|V 4 (t 29)<|E)<|R
theorem b79 : bodyO 104430568384 2149581824 Tryz.prog 79 = some (37, [.t 4], c79) := by kernel_rfl
theorem k79 : callOk Tryz.prog 79 = true := by kernel_rfl
/-- (*leapfrog/link.record).state -/
def c80 : Go.SL.CC := S (O 3 (.box 36 (t 1))<|
O 4 (.new 53 #[.int .i64 0, .int .u64 0, .int .i64 0, .int .i64 0, .int .u64 0, .int .i64 0, .int .u64 0, .int .i64 0, .int .i64 0, .int .u64 0, .int .i64 0, .int .u64 0, .bool false, .int .i64 0, .int .i64 0, .slice none 0 0])<|
M 6 2 3<|F 9 0 0<|M 10 5 9<|F 13 5 0<|M 14 5 13<|F 17 10 0<|L 18 17<|.both (C 19 142 [t 18]<|A 6 (.ld (some 2) (t 3))<|A 10 (.ld (some 5) (t 9))<|
A 14 (.ld (some 5) (t 13))<|
O 20 (.agg [.c (t 6) 0 2, .c (t 6) 1 2, .c (t 10) 0 5, .c (t 10) 1 5, .c (t 10) 2 5, .c (t 10) 3 5, .c (t 10) 4 5, .c (t 14) 0 5, .c (t 14) 1 5, .c (t 14) 2 5, .c (t 14) 3 5, .c (t 14) 4 5, .z (.bool false), .z (.int .i64 0), .z (.int .i64 0), .c (t 19) 0 1])<|
O 5 (.new 53 #[.int .i64 0, .int .u64 0, .int .i64 0, .int .i64 0, .int .u64 0, .int .i64 0, .int .u64 0, .int .i64 0, .int .i64 0, .int .u64 0, .int .i64 0, .int .u64 0, .bool false, .int .i64 0, .int .i64 0, .slice none 0 0])<|
N (.st 16 (t 5) (t 20))<|
E) (O 5 (.new 53 #[.int .i64 0, .int .u64 0, .int .i64 0, .int .i64 0, .int .u64 0, .int .i64 0, .int .u64 0, .int .i64 0, .int .i64 0, .int .u64 0, .int .i64 0, .int .u64 0, .bool false, .int .i64 0, .int .i64 0, .slice none 0 0])<|
C 19 142 [t 18]<|A 6 (.ld (some 2) (t 3))<|A 10 (.ld (some 5) (t 9))<|A 14 (.ld (some 5) (t 13))<|
O 20 (.agg [.c (t 6) 0 2, .c (t 6) 1 2, .c (t 10) 0 5, .c (t 10) 1 5, .c (t 10) 2 5, .c (t 10) 3 5, .c (t 10) 4 5, .c (t 14) 0 5, .c (t 14) 1 5, .c (t 14) 2 5, .c (t 14) 3 5, .c (t 14) 4 5, .z (.bool false), .z (.int .i64 0), .z (.int .i64 0), .c (t 19) 0 1])<|
N (.st 16 (t 5) (t 20))<|E))<|S (F 24 10 0<|L 25 24<|C 26 143 [t 25]<|X 27 26 0<|X 28 26 1<|F 29 13 5<|N (.st 2 (t 29) (t 27))<|F 30 12 5<|
N (.st 1 (t 30) (t 28))<|M 31 16 5<|N (.st 16 (t 4) (t 31))<|E)<|R
theorem b80 : bodyO 6326400 8458496 Tryz.prog 80 = some (32, [.c 4 (some 16)], c80) := by kernel_rfl
theorem k80 : callOk Tryz.prog 80 = true := by kernel_rfl
/-- (*leapfrog/link.Links).Get -/
def c26 : Go.SL.CC := S (O 3 (.box 36 (t 1))<|
O 4 (.new 53 #[.int .i64 0, .int .u64 0, .int .i64 0, .int .i64 0, .int .u64 0, .int .i64 0, .int .u64 0, .int .i64 0, .int .i64 0, .int .u64 0, .int .i64 0, .int .u64 0, .bool false, .int .i64 0, .int .i64 0, .slice none 0 0])<|
V 5 (b false)<|C 8 78 [t 0]<|O 9 (.un .not (t 8))<|E)<|
Q (I (t 9) (S (O 10 (.agg [.z (.int .i64 0), .z (.int .u64 0), .z (.int .i64 0), .z (.int .i64 0), .z (.int .u64 0), .z (.int .i64 0), .z (.int .u64 0), .z (.int .i64 0), .z (.int .i64 0), .z (.int .u64 0), .z (.int .i64 0), .z (.int .u64 0), .z (.bool false), .z (.int .i64 0), .z (.int .i64 0), .z (.slice none 0 0)])<|
N (.st 16 (t 4) (t 10))<|V 5 (b false)<|E)<|R) (Z))<|S (M 12 2 3<|C 6 79 [t 0, t 12]<|O 15 (.cmp .p false (t 6) (k (.pointer none)))<|E)<|
Q (I (t 15) (S (O 16 (.agg [.z (.int .i64 0), .z (.int .u64 0), .z (.int .i64 0), .z (.int .i64 0), .z (.int .u64 0), .z (.int .i64 0), .z (.int .u64 0), .z (.int .i64 0), .z (.int .i64 0), .z (.int .u64 0), .z (.int .i64 0), .z (.int .u64 0), .z (.bool false), .z (.int .i64 0), .z (.int .i64 0), .z (.slice none 0 0)])<|
N (.st 16 (t 4) (t 16))<|V 5 (b false)<|E)<|R) (Z))<|S (M 18 2 3<|C 19 80 [t 6, t 18]<|N (.st 16 (t 4) (t 19))<|V 5 (b true)<|E)<|R
theorem b26 : bodyO 149632 8192 Tryz.prog 26 = some (20, [.c 4 (some 16), .t 5], c26) := by kernel_rfl
theorem k26 : callOk Tryz.prog 26 = true := by kernel_rfl
/-- (*leapfrog/link.Links).toLeft -/
def c135 : Go.SL.CC := S (O 3 (.box 38 (t 1))<|V 4 (b false)<|F 5 1 3<|M 6 2 5<|C 7 76 [t 6]<|O 9 (.bini .eql (t 7) (i 0))<|G 10 (.fa 1 (t 3)) 9<|G 11 (.ld (some 2) (t 10)) 9<|
G 14 (.fa 0 (t 0)) 9<|G 15 (.fa 1 (t 14)) 9<|G 16 (.ld (some 2) (t 15)) 9<|G 17 (.call (f 57) [t 11, t 16]) 9<|O 4 (.pick (t 9) (t 17) (b false))<|E)<|R
theorem b135 : bodyO 4096 270592 Tryz.prog 135 = some (19, [.t 4], c135) := by kernel_rfl
theorem k135 : callOk Tryz.prog 135 = true := by kernel_rfl
/-- (*leapfrog/link.Links).toRight -/
def c136 : Go.SL.CC := S (O 3 (.box 38 (t 1))<|V 4 (b false)<|F 5 1 3<|M 6 2 5<|C 7 76 [t 6]<|O 9 (.bini .eql (t 7) (i 0))<|G 12 (.fa 0 (t 0)) 9<|G 13 (.fa 1 (t 12)) 9<|
G 14 (.ld (some 2) (t 13)) 9<|G 15 (.fa 1 (t 3)) 9<|G 16 (.ld (some 2) (t 15)) 9<|G 17 (.call (f 57) [t 14, t 16]) 9<|O 4 (.pick (t 9) (t 17) (b false))<|E)<|R
theorem b136 : bodyO 1024 264448 Tryz.prog 136 = some (19, [.t 4], c136) := by kernel_rfl
theorem k136 : callOk Tryz.prog 136 = true := by kernel_rfl
/-- (*leapfrog/link.Links).Put -/
def c70 : Go.SL.CC := S (O 6 (.box 36 (t 1))<|O 7 (.box 38 (t 2))<|O 8 (.box 38 (t 3))<|O 9 (.box 50 (t 4))<|V 10 (i 0)<|E)<|Q (B 0 (S (C 15 78 [t 0]<|O 13 (.un .not (t 15))<|E)<|
I (t 13) (S (V 10 (i 4)<|E)<|R) (S (C 20 86 [t 0]<|H 22 (.ld (some 2) (t 6)) 20<|H 23 (.call (f 30) [t 0, t 22]) 20<|H 24 (.un .not (t 23)) 20<|
O 17 (.pick (t 20) (b true) (t 24))<|E)<|I (t 17) (S (V 10 (i 80)<|E)<|R) (S (F 29 5 0<|L 30 29<|M 31 2 6<|O 32 (.lkp false 36 (.pointer none) (t 30) (t 31))<|
O 26 (.cmp .p true (t 32) (k (.pointer none)))<|E)<|I (t 26) (S (V 10 (i 81)<|E)<|R) (S (M 36 5 7<|C 37 135 [t 0, t 36]<|O 39 (.un .not (t 37))<|
H 41 (.ld (some 5) (t 8)) 39<|H 42 (.call (f 136) [t 0, t 41]) 39<|H 43 (.un .not (t 42)) 39<|O 34 (.pick (t 39) (b true) (t 43))<|E)<|
I (t 34) (S (V 10 (i 83)<|E)<|R) (Z))))))<|S (M 45 2 9<|C 11 137 [t 45]<|O 48 (.bini .neq (t 11) (i 0))<|E)<|Q (I (t 48) (S (V 10 (t 11)<|E)<|R) (Z))<|
S (M 50 5 7<|M 51 5 8<|C 52 138 []<|A 50 (.ld (some 5) (t 7))<|A 51 (.ld (some 5) (t 8))<|
O 53 (.agg [.c (t 50) 0 5, .c (t 50) 1 5, .c (t 50) 2 5, .c (t 50) 3 5, .c (t 50) 4 5, .c (t 51) 0 5, .c (t 51) 1 5, .c (t 51) 2 5, .c (t 51) 3 5, .c (t 51) 4 5, .c (t 52) 0 1])<|
O 54 (.box 207 (t 53))<|F 57 10 54<|L 58 57<|M 59 2 9<|C 60 139 [t 58, t 59]<|F 63 5 0<|L 64 63<|M 65 2 6<|N (.mup 36 (t 64) (t 65) (t 54))<|V 10 (i 0)<|E)<|R
theorem b70 : bodyO 76129552922520604672 4683831857165959168 Tryz.prog 70 = some (67, [.t 10], c70) := by kernel_rfl
theorem k70 : callOk Tryz.prog 70 = true := by kernel_rfl
/-- (*leapfrog/link.Links).owned -/
def c140 : Go.SL.CC := S (O 5 (.box 36 (t 1))<|O 6 (.box 50 (t 2))<|V 8 (k (.pointer none))<|V 9 (i 0)<|C 15 78 [t 0]<|O 16 (.un .not (t 15))<|E)<|
Q (I (t 16) (S (V 8 (k (.pointer none))<|V 9 (i 4)<|E)<|R) (Z))<|S (M 18 2 5<|C 10 79 [t 0, t 18]<|O 21 (.cmp .p false (t 10) (k (.pointer none)))<|E)<|
Q (I (t 21) (S (V 8 (k (.pointer none))<|V 9 (i 82)<|E)<|R) (Z))<|S (O 24 (.un .not (t 3))<|G 26 (.call (f 86) [t 0]) 24<|O 27 (.pick (t 24) (t 26) (b false))<|
E)<|Q (I (t 27) (S (V 8 (k (.pointer none))<|V 9 (i 80)<|E)<|R) (Z))<|S (M 28 2 6<|C 11 137 [t 28]<|O 31 (.bini .neq (t 11) (i 0))<|E)<|
Q (I (t 31) (S (V 8 (k (.pointer none))<|V 9 (t 11)<|E)<|R) (Z))<|S (F 36 10 10<|L 37 36<|C 38 143 [t 37]<|X 39 38 0<|X 40 38 1<|
O 12 (.new 50 #[.int .i64 0, .int .i64 0])<|N (.st 2 (t 12) (t 39))<|O 43 (.un .not (t 40))<|H 44 (.ld (some 2) (t 12)) 43<|H 45 (.ld (some 2) (t 6)) 43<|
H 46 (.eqs true [.i, .i] (t 44) (t 45)) 43<|O 47 (.pick (t 43) (b true) (t 46))<|E)<|Q (I (t 47) (S (V 8 (k (.pointer none))<|V 9 (i 71)<|E)<|R) (Z))<|
S (V 8 (t 10)<|V 9 (i 0)<|E)<|R
theorem b140 : bodyO 283705177432064 4432952033280 Tryz.prog 140 = some (49, [.t 8, .t 9], c140) := by kernel_rfl
theorem k140 : callOk Tryz.prog 140 = true := by kernel_rfl
/-- (*leapfrog/link.Links).Out -/
def c75 : Go.SL.CC := S (O 4 (.box 36 (t 1))<|O 5 (.box 50 (t 2))<|V 6 (k (.slice none 0 0))<|V 7 (i 0)<|M 12 2 4<|M 13 2 5<|C 14 140 [t 0, t 12, t 13, b false]<|X 15 14 0<|
X 16 14 1<|V 8 (t 15)<|V 9 (t 16)<|O 18 (.bini .neq (t 9) (i 0))<|E)<|Q (I (t 18) (S (V 6 (k (.slice none 0 0))<|V 7 (t 9)<|E)<|R) (Z))<|S (F 22 5 0<|L 23 22<|
M 24 2 4<|N (.del 36 (t 23) (t 24))<|F 27 10 8<|L 28 27<|C 29 141 [t 28]<|X 30 29 0<|X 31 29 1<|V 6 (t 30)<|V 7 (t 31)<|E)<|R
theorem b75 : bodyO 35261440 69206016 Tryz.prog 75 = some (32, [.t 6, .t 7], c75) := by kernel_rfl
theorem k75 : callOk Tryz.prog 75 = true := by kernel_rfl
/-- (*leapfrog/link.Links).Left -/
def c91 : Go.SL.CC := S (O 4 (.box 36 (t 1))<|O 5 (.box 38 (t 2))<|V 6 (i 0)<|C 9 78 [t 0]<|O 10 (.un .not (t 9))<|E)<|Q (I (t 10) (S (V 6 (i 4)<|E)<|R) (Z))<|S (M 12 2 4<|
C 7 79 [t 0, t 12]<|E)<|Q (B 0 (S (O 14 (.cmp .p false (t 7) (k (.pointer none)))<|E)<|I (t 14) (S (V 6 (i 82)<|E)<|R) (S (M 19 5 5<|C 20 135 [t 0, t 19]<|
O 17 (.un .not (t 20))<|E)<|I (t 17) (S (V 6 (i 83)<|E)<|R) (Z))))<|S (M 23 5 5<|F 25 0 7<|N (.st 5 (t 25) (t 23))<|V 6 (i 0)<|E)<|R
theorem b91 : bodyO 4491520 18948096 Tryz.prog 91 = some (26, [.t 6], c91) := by kernel_rfl
theorem k91 : callOk Tryz.prog 91 = true := by kernel_rfl
/-- (*leapfrog/link.Links).Right -/
def c73 : Go.SL.CC := S (O 5 (.box 36 (t 1))<|O 6 (.box 38 (t 2))<|O 7 (.box 50 (t 3))<|V 8 (i 0)<|M 13 2 5<|M 14 2 7<|C 15 140 [t 0, t 13, t 14, b true]<|X 16 15 0<|X 17 15 1<|
V 9 (t 16)<|V 10 (t 17)<|O 19 (.bini .neq (t 10) (i 0))<|E)<|Q (I (t 19) (S (V 8 (t 10)<|E)<|R) (Z))<|S (M 22 5 6<|C 23 136 [t 0, t 22]<|
O 24 (.un .not (t 23))<|E)<|Q (I (t 24) (S (V 8 (i 83)<|E)<|R) (Z))<|S (M 26 5 6<|F 28 5 9<|N (.st 5 (t 28) (t 26))<|V 8 (i 0)<|E)<|R
theorem b73 : bodyO 36968448 134217728 Tryz.prog 73 = some (29, [.t 8], c73) := by kernel_rfl
theorem k73 : callOk Tryz.prog 73 = true := by kernel_rfl
/-- (*leapfrog/link.Links).Lock -/
def c74 : Go.SL.CC := S (O 4 (.box 36 (t 1))<|O 5 (.box 50 (t 2))<|V 6 (b false)<|V 7 (i 0)<|C 10 78 [t 0]<|O 11 (.un .not (t 10))<|E)<|Q (I (t 11) (S (V 6 (b false)<|V 7 (i 4)<|E)<|
R) (Z))<|S (M 13 2 4<|C 8 79 [t 0, t 13]<|O 16 (.cmp .p false (t 8) (k (.pointer none)))<|E)<|Q (I (t 16) (S (V 6 (b false)<|V 7 (i 82)<|E)<|R) (Z))<|
S (F 19 10 8<|L 20 19<|M 21 2 5<|C 22 139 [t 20, t 21]<|X 23 22 0<|X 24 22 1<|V 6 (t 23)<|V 7 (t 24)<|E)<|R
theorem b74 : bodyO 168448 278528 Tryz.prog 74 = some (25, [.t 6, .t 7], c74) := by kernel_rfl
theorem k74 : callOk Tryz.prog 74 = true := by kernel_rfl
/-- (*leapfrog/link.Links).Free -/
def c95 : Go.SL.CC := S (O 4 (.box 36 (t 1))<|O 5 (.box 50 (t 2))<|O 6 (.new 50 #[.int .i64 0, .int .i64 0])<|V 7 (b false)<|V 8 (i 0)<|C 11 78 [t 0]<|O 12 (.un .not (t 11))<|E)<|
Q (I (t 12) (S (O 13 (.agg [.z (.int .i64 0), .z (.int .i64 0)])<|N (.st 2 (t 6) (t 13))<|V 7 (b false)<|V 8 (i 4)<|E)<|R) (Z))<|S (M 15 2 4<|
C 9 79 [t 0, t 15]<|O 18 (.cmp .p false (t 9) (k (.pointer none)))<|E)<|Q (I (t 18) (S (O 19 (.agg [.z (.int .i64 0), .z (.int .i64 0)])<|
N (.st 2 (t 6) (t 19))<|V 7 (b false)<|V 8 (i 82)<|E)<|R) (Z))<|S (F 22 10 9<|L 23 22<|M 24 2 5<|C 25 158 [t 23, t 24]<|X 26 25 0<|X 27 25 1<|X 28 25 2<|
N (.st 2 (t 6) (t 26))<|V 7 (t 27)<|V 8 (t 28)<|E)<|R
theorem b95 : bodyO 1197056 2162688 Tryz.prog 95 = some (29, [.c 6 (some 2), .t 7, .t 8], c95) := by kernel_rfl
theorem k95 : callOk Tryz.prog 95 = true := by kernel_rfl
/-- leapfrog/link.Same -/
def c29 : Go.SL.CC := S (O 2 (.box 53 (t 0))<|O 3 (.box 53 (t 1))<|V 4 (b false)<|F 5 0 2<|M 6 2 5<|F 7 0 3<|M 8 2 7<|O 10 (.eqs false [.i, .i] (t 6) (t 8))<|G 11 (.fa 2 (t 2)) 10<|
G 12 (.ld (some 5) (t 11)) 10<|G 13 (.fa 2 (t 3)) 10<|G 14 (.ld (some 5) (t 13)) 10<|G 15 (.eqs false [.i, .i, .i, .i, .i] (t 12) (t 14)) 10<|
O 17 (.pick (t 10) (t 15) (b false))<|G 18 (.fa 7 (t 2)) 17<|G 19 (.ld (some 5) (t 18)) 17<|G 20 (.fa 7 (t 3)) 17<|G 21 (.ld (some 5) (t 20)) 17<|
G 22 (.eqs false [.i, .i, .i, .i, .i] (t 19) (t 21)) 17<|O 24 (.pick (t 17) (t 22) (b false))<|G 25 (.fa 12 (t 2)) 24<|G 26 (.ld none (t 25)) 24<|
G 27 (.fa 12 (t 3)) 24<|G 28 (.ld none (t 27)) 24<|G 29 (.cmp .b false (t 26) (t 28)) 24<|O 31 (.pick (t 24) (t 29) (b false))<|G 32 (.fa 13 (t 2)) 31<|
G 33 (.ld (some 2) (t 32)) 31<|G 34 (.fa 13 (t 3)) 31<|G 35 (.ld (some 2) (t 34)) 31<|G 36 (.eqs false [.i, .i] (t 33) (t 35)) 31<|
O 38 (.pick (t 31) (t 36) (b false))<|G 39 (.fa 15 (t 2)) 38<|G 40 (.ld none (t 39)) 38<|G 41 (.fa 15 (t 3)) 38<|G 42 (.ld none (t 41)) 38<|
G 43 (.call (f 85) [t 40, t 42]) 38<|O 4 (.pick (t 38) (t 43) (b false))<|E)<|R
theorem b29 : bodyO 0 17730707194368 Tryz.prog 29 = some (45, [.t 4], c29) := by kernel_rfl
theorem k29 : callOk Tryz.prog 29 = true := by kernel_rfl
/-- slices.Equal[[]leapfrog/api.Owner,leapfrog/api.Owner] -/
def c85 : Go.SL.CC := S (V 4 (b false)<|O 7 (.ln (t 0))<|O 9 (.ln (t 1))<|O 10 (.bini .neq (t 7) (t 9))<|E)<|Q (I (t 10) (S (V 4 (b false)<|E)<|R) (Z))<|S (O 12 (.ln (t 0))<|
V 13 (i 0)<|E)<|Q (P 0 (S (O 14 (.bini .lss (t 13) (t 12))<|E)<|Q (I (t 14) (Z) (J 0))<|Q (B 1 (S (O 18 (.ia 2 (t 0) (t 13))<|M 19 2 18<|
O 22 (.ia 2 (t 1) (t 13))<|M 23 2 22<|O 24 (.eqs true [.i, .i] (t 19) (t 23))<|E)<|I (t 24) (S (V 4 (b false)<|E)<|R) (Z)))<|Y (O 13 (.bini .add (t 13) (i 1))<|
E)))<|S (V 4 (b true)<|E)<|R
theorem b85 : bodyO 3377504 33554432 Tryz.prog 85 = some (26, [.t 4], c85) := by kernel_rfl
theorem k85 : callOk Tryz.prog 85 = true := by kernel_rfl
/-- leapfrog/leapfroglaw08.head -/
def c71 : Go.SL.CC := S (O 2 (.new 38 #[.int .i64 0, .int .i64 0, .int .u64 0, .int .i64 0, .int .u64 0])<|O 3 (.agg [.c (i 1) 0 1, .z (.int .u64 0)])<|
O 5 (.agg [.c (t 0) 0 1, .z (.int .u64 0)])<|O 6 (.agg [.z (.int .i64 0), .c (t 3) 0 2, .c (t 3) 1 2, .c (t 5) 0 2, .c (t 5) 1 2])<|N (.st 5 (t 2) (t 6))<|E)<|R
theorem b71 : bodyO 16 0 Tryz.prog 71 = some (7, [.c 2 (some 5)], c71) := by kernel_rfl
theorem k71 : callOk Tryz.prog 71 = true := by kernel_rfl
/-- leapfrog/leapfroglaw08.tail -/
def c72 : Go.SL.CC := S (O 2 (.new 38 #[.int .i64 0, .int .i64 0, .int .u64 0, .int .i64 0, .int .u64 0])<|O 3 (.agg [.c (i 3) 0 1, .z (.int .u64 0)])<|
O 5 (.agg [.c (t 0) 0 1, .z (.int .u64 0)])<|O 6 (.agg [.c (i 1) 0 1, .c (t 3) 0 2, .c (t 3) 1 2, .c (t 5) 0 2, .c (t 5) 1 2])<|N (.st 5 (t 2) (t 6))<|E)<|R
theorem b72 : bodyO 16 0 Tryz.prog 72 = some (7, [.c 2 (some 5)], c72) := by kernel_rfl
theorem k72 : callOk Tryz.prog 72 = true := by kernel_rfl
/-- leapfrog/leapfroglaw08.awake -/
def c23 : Go.SL.CC := S (V 0 (b false)<|O 18 (.agg [.c (i 1) 0 1, .c (i 1) 0 1])<|O 19 (.agg [.c (i 2) 0 1, .c (i 1) 0 1])<|O 1 (.new 50 #[.int .i64 0, .int .i64 0])<|
O 2 (.new 50 #[.int .i64 0, .int .i64 0])<|N (.st 2 (t 1) (t 18))<|N (.st 2 (t 2) (t 19))<|O 20 (.agg [.c (i 1) 0 1, .c (u 1) 0 1])<|
O 3 (.new 36 #[.int .i64 0, .int .u64 0])<|N (.st 2 (t 3) (t 20))<|C 22 69 [u 5]<|O 23 (.agg [.c (i 2) 0 1, .c (u 2) 0 1])<|
O 24 (.agg [.c (i 5) 0 1, .c (t 22) 0 2, .c (t 22) 1 2, .c (t 23) 0 2, .c (t 23) 1 2])<|C 25 24 [t 24]<|X 26 25 0<|X 27 25 1<|V 4 (t 26)<|
O 30 (.bini .neq (t 27) (i 0))<|H 32 (.cmp .p false (t 4) (k (.pointer none))) 30<|O 33 (.pick (t 30) (b true) (t 32))<|E)<|Q (I (t 33) (S (V 0 (b false)<|E)<|
R) (Z))<|S (M 35 2 3<|M 38 2 1<|C 36 71 [i 2]<|A 35 (.ld (some 2) (t 3))<|A 38 (.ld (some 2) (t 1))<|C 37 72 [i 2]<|A 35 (.ld (some 2) (t 3))<|
A 38 (.ld (some 2) (t 1))<|C 39 70 [t 4, t 35, t 36, t 37, t 38]<|C 40 69 [u 9]<|O 41 (.agg [.c (i 2) 0 1, .z (.int .u64 0)])<|
O 42 (.agg [.c (i 9) 0 1, .c (t 40) 0 2, .c (t 40) 1 2, .c (t 41) 0 2, .c (t 41) 1 2])<|
O 7 (.new 38 #[.int .i64 0, .int .i64 0, .int .u64 0, .int .i64 0, .int .u64 0])<|N (.st 5 (t 7) (t 42))<|M 44 2 3<|M 45 5 7<|M 46 2 2<|M 49 2 3<|M 50 5 7<|
M 51 2 1<|C 47 73 [t 4, t 44, t 45, t 46]<|A 49 (.ld (some 2) (t 3))<|A 50 (.ld (some 5) (t 7))<|A 51 (.ld (some 2) (t 1))<|C 52 73 [t 4, t 49, t 50, t 51]<|
M 55 2 3<|C 56 26 [t 4, t 55]<|X 57 56 0<|X 58 56 1<|
O 10 (.new 53 #[.int .i64 0, .int .u64 0, .int .i64 0, .int .i64 0, .int .u64 0, .int .i64 0, .int .u64 0, .int .i64 0, .int .i64 0, .int .u64 0, .int .i64 0, .int .u64 0, .bool false, .int .i64 0, .int .i64 0, .slice none 0 0])<|
N (.st 16 (t 10) (t 57))<|M 61 2 3<|M 62 2 2<|C 63 74 [t 4, t 61, t 62]<|X 64 63 0<|X 65 63 1<|M 68 2 3<|M 69 2 1<|C 70 75 [t 4, t 68, t 69]<|X 71 70 0<|
X 72 70 1<|M 75 2 3<|C 76 26 [t 4, t 75]<|X 77 76 0<|X 78 76 1<|
O 16 (.new 53 #[.int .i64 0, .int .u64 0, .int .i64 0, .int .i64 0, .int .u64 0, .int .i64 0, .int .u64 0, .int .i64 0, .int .i64 0, .int .u64 0, .int .i64 0, .int .u64 0, .bool false, .int .i64 0, .int .i64 0, .slice none 0 0])<|
N (.st 16 (t 16) (t 77))<|O 81 (.bini .eql (t 39) (i 0))<|G 83 (.bini .eql (t 47) (i 71)) 81<|O 85 (.pick (t 81) (t 83) (b false))<|
G 87 (.bini .eql (t 52) (i 0)) 85<|O 89 (.pick (t 85) (t 87) (b false))<|G 90 (.mv (t 58)) 89<|O 92 (.pick (t 89) (t 90) (b false))<|G 93 (.fa 7 (t 10)) 92<|
G 94 (.ld (some 5) (t 93)) 92<|G 95 (.ld (some 5) (t 7)) 92<|G 96 (.eqs false [.i, .i, .i, .i, .i] (t 94) (t 95)) 92<|O 98 (.pick (t 92) (t 96) (b false))<|
G 100 (.un .not (t 64)) 98<|O 102 (.pick (t 98) (t 100) (b false))<|G 104 (.bini .eql (t 65) (i 0)) 102<|O 106 (.pick (t 102) (t 104) (b false))<|
G 108 (.ln (t 71)) 106<|G 109 (.bini .eql (t 108) (i 1)) 106<|O 111 (.pick (t 106) (t 109) (b false))<|G 113 (.ia 2 (t 71) (i 0)) 111<|
G 114 (.ld (some 2) (t 113)) 111<|G 115 (.ld (some 2) (t 2)) 111<|G 116 (.eqs false [.i, .i] (t 114) (t 115)) 111<|O 118 (.pick (t 111) (t 116) (b false))<|
G 120 (.bini .eql (t 72) (i 0)) 118<|O 122 (.pick (t 118) (t 120) (b false))<|G 124 (.un .not (t 78)) 122<|O 0 (.pick (t 122) (t 124) (b false))<|E)<|R
theorem b23 : bodyO 11303803295420090876584317154895264608 45361246691757537485403428946175852544 Tryz.prog 23 = some (126, [.t 0], c23) := by kernel_rfl
theorem k23 : callOk Tryz.prog 23 = true := by kernel_rfl
end Go.Proofs.YtnipmjpdklbbcaaGreat
