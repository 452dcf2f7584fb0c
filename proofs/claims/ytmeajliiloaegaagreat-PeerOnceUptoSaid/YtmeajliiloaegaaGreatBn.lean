/- The bodies of some functions of the program, without their noise, and that they are these. Conditions: none. Written by a program of this workplace (Print.lean). -/
import Derived.Test.YtmeajliiloaegaaGreatProg
import Derived.Test.YtmeajliiloaegaaGreatSlW
import Derived.KernelRfl
namespace Go.Proofs.YtmeajliiloaegaaGreat
open Go.SL Go.SL.W
set_option maxRecDepth 100000

/-- (*leapfrog/link.Links).is -/
def c60 : Go.SL.CC := S (V 2 (b false)<|O 5 (.cmp .p true (t 0) (k (.pointer none)))<|G 8 (.fa 5 (t 0)) 5<|G 9 (.ld none (t 8)) 5<|G 10 (.cmp .m true (t 9) (k (.map none))) 5<|
O 2 (.pick (t 5) (t 10) (b false))<|E)<|R
theorem b60 : bodyO 72 2192 Tryz.prog 60 = some (12, [.t 2], c60) := by kernel_rfl
theorem k60 : callOk Tryz.prog 60 = true := by kernel_rfl
/-- (*leapfrog/link.Links).head -/
def c90 : Go.SL.CC := S (V 2 (b false)<|F 5 0 0<|F 6 1 5<|F 7 0 6<|L 8 7<|O 2 (.bini .eql (t 8) (i 1))<|E)<|R
theorem b90 : bodyO 8 528 Tryz.prog 90 = some (10, [.t 2], c90) := by kernel_rfl
theorem k90 : callOk Tryz.prog 90 = true := by kernel_rfl
/-- (*leapfrog/link.Links).tail -/
def c91 : Go.SL.CC := S (V 2 (b false)<|F 5 0 0<|F 6 1 5<|F 7 0 6<|L 8 7<|O 2 (.bini .eql (t 8) (i 3))<|E)<|R
theorem b91 : bodyO 8 528 Tryz.prog 91 = some (10, [.t 2], c91) := by kernel_rfl
theorem k91 : callOk Tryz.prog 91 = true := by kernel_rfl
/-- (*leapfrog/link.Links).end -/
def c63 : Go.SL.CC := S (V 2 (b false)<|C 5 90 [t 0]<|H 7 (.call (f 91) [t 0]) 5<|O 2 (.pick (t 5) (b true) (t 7))<|E)<|R
theorem b63 : bodyO 72 272 Tryz.prog 63 = some (9, [.t 2], c63) := by kernel_rfl
theorem k63 : callOk Tryz.prog 63 = true := by kernel_rfl
/-- leapfrog/link.New -/
def c46 : Go.SL.CC := S (O 1 (.box 29 (t 0))<|V 2 (k (.pointer none))<|V 3 (i 0)<|F 4 1 1<|M 5 2 4<|C 6 82 [t 5]<|O 8 (.bini .neq (t 6) (i 0))<|H 9 (.fa 3 (t 1)) 8<|
H 10 (.ld (some 2) (t 9)) 8<|H 11 (.call (f 43) [t 10]) 8<|H 12 (.bini .neq (t 11) (i 0)) 8<|O 13 (.pick (t 8) (b true) (t 12))<|E)<|
Q (I (t 13) (S (V 2 (k (.pointer none))<|V 3 (i 80)<|E)<|R) (Z))<|S (M 14 5 1<|O 15 (.mkm)<|
O 16 (.agg [.c (t 14) 0 5, .c (t 14) 1 5, .c (t 14) 2 5, .c (t 14) 3 5, .c (t 14) 4 5, .c (t 15) 0 1])<|O 2 (.box 137 (t 16))<|V 3 (i 0)<|E)<|R
theorem b46 : bodyO 0 131200 Tryz.prog 46 = some (18, [.t 2, .t 3], c46) := by kernel_rfl
theorem k46 : callOk Tryz.prog 46 = true := by kernel_rfl
/-- (*leapfrog/link.Links).May -/
def c64 : Go.SL.CC := S (O 3 (.box 27 (t 1))<|V 4 (b false)<|C 6 60 [t 0]<|O 7 (.un .not (t 6))<|E)<|Q (I (t 7) (S (V 4 (b false)<|E)<|R) (Z))<|S (C 9 63 [t 0]<|E)<|
Q (I (t 9) (S (M 10 2 3<|C 11 43 [t 10]<|O 13 (.bini .eql (t 11) (i 0))<|G 14 (.fa 0 (t 3)) 13<|G 15 (.ld none (t 14)) 13<|G 18 (.fa 0 (t 0)) 13<|
G 19 (.fa 3 (t 18)) 13<|G 20 (.fa 0 (t 19)) 13<|G 21 (.ld none (t 20)) 13<|G 22 (.bini .leq (t 15) (t 21)) 13<|O 4 (.pick (t 13) (t 22) (b false))<|E)<|
R) (Z))<|S (F 26 0 0<|F 27 3 26<|M 28 2 27<|M 29 2 3<|C 4 92 [t 28, t 29]<|E)<|R
theorem b64 : bodyO 16843040 1115820032 Tryz.prog 64 = some (31, [.t 4], c64) := by kernel_rfl
theorem k64 : callOk Tryz.prog 64 = true := by kernel_rfl
/-- (*leapfrog/link.Links).first -/
def c76 : Go.SL.CC := S (V 2 (k (.pointer none))<|C 4 66 []<|
O 5 (.agg [.z (.int .i64 0), .z (.int .i64 0), .z (.int .u64 0), .z (.int .i64 0), .z (.int .u64 0), .z (.int .i64 0), .z (.int .i64 0), .z (.int .u64 0), .z (.int .i64 0), .z (.int .u64 0), .c (t 4) 0 1])<|
O 3 (.box 133 (t 5))<|C 8 90 [t 0]<|E)<|Q (I (t 8) (Y (O 10 (.agg [.c (i 3) 0 1, .z (.int .u64 0)])<|F 13 0 0<|F 14 3 13<|M 15 2 14<|
O 16 (.agg [.c (i 1) 0 1, .c (t 10) 0 2, .c (t 10) 1 2, .c (t 15) 0 2, .c (t 15) 1 2])<|F 18 5 3<|N (.st 5 (t 18) (t 16))<|
E)) (Y (O 20 (.agg [.c (i 1) 0 1, .z (.int .u64 0)])<|F 23 0 0<|F 24 3 23<|M 25 2 24<|
O 26 (.agg [.z (.int .i64 0), .c (t 20) 0 2, .c (t 20) 1 2, .c (t 25) 0 2, .c (t 25) 1 2])<|F 28 0 3<|N (.st 5 (t 28) (t 26))<|E)))<|S (V 2 (t 3)<|E)<|R
theorem b76 : bodyO 539495040 138547264 Tryz.prog 76 = some (30, [.t 2], c76) := by kernel_rfl
theorem k76 : callOk Tryz.prog 76 = true := by kernel_rfl
/-- (*leapfrog/link.Links).in -/
def c61 : Go.SL.CC := S (O 3 (.box 27 (t 1))<|V 4 (k (.pointer none))<|F 11 5 0<|L 12 11<|M 13 2 3<|O 14 (.lkp true 27 (.pointer none) (t 12) (t 13))<|X 15 14 0<|X 16 14 1<|
V 5 (t 15)<|V 17 (t 16)<|E)<|Q (I (t 17) (S (V 4 (t 5)<|E)<|R) (Z))<|S (C 20 63 [t 0]<|O 22 (.un .not (t 20))<|H 24 (.ld (some 2) (t 3)) 22<|
H 25 (.call (f 64) [t 0, t 24]) 22<|H 26 (.un .not (t 25)) 22<|O 27 (.pick (t 22) (b true) (t 26))<|E)<|Q (I (t 27) (S (V 4 (k (.pointer none))<|E)<|R) (Z))<|
S (C 29 76 [t 0]<|F 32 5 0<|L 33 32<|M 34 2 3<|N (.mup 27 (t 33) (t 34) (t 29))<|V 4 (t 29)<|E)<|R
theorem b61 : bodyO 104430568384 2149581824 Tryz.prog 61 = some (37, [.t 4], c61) := by kernel_rfl
theorem k61 : callOk Tryz.prog 61 = true := by kernel_rfl
/-- (*leapfrog/link.record).state -/
def c74 : Go.SL.CC := S (O 3 (.box 27 (t 1))<|
O 4 (.new 55 #[.int .i64 0, .int .u64 0, .int .i64 0, .int .i64 0, .int .u64 0, .int .i64 0, .int .u64 0, .int .i64 0, .int .i64 0, .int .u64 0, .int .i64 0, .int .u64 0, .bool false, .int .i64 0, .int .i64 0, .slice none 0 0])<|
M 6 2 3<|F 9 0 0<|M 10 5 9<|F 13 5 0<|M 14 5 13<|F 17 10 0<|L 18 17<|.both (C 19 95 [t 18]<|A 6 (.ld (some 2) (t 3))<|A 10 (.ld (some 5) (t 9))<|
A 14 (.ld (some 5) (t 13))<|
O 20 (.agg [.c (t 6) 0 2, .c (t 6) 1 2, .c (t 10) 0 5, .c (t 10) 1 5, .c (t 10) 2 5, .c (t 10) 3 5, .c (t 10) 4 5, .c (t 14) 0 5, .c (t 14) 1 5, .c (t 14) 2 5, .c (t 14) 3 5, .c (t 14) 4 5, .z (.bool false), .z (.int .i64 0), .z (.int .i64 0), .c (t 19) 0 1])<|
O 5 (.new 55 #[.int .i64 0, .int .u64 0, .int .i64 0, .int .i64 0, .int .u64 0, .int .i64 0, .int .u64 0, .int .i64 0, .int .i64 0, .int .u64 0, .int .i64 0, .int .u64 0, .bool false, .int .i64 0, .int .i64 0, .slice none 0 0])<|
N (.st 16 (t 5) (t 20))<|
E) (O 5 (.new 55 #[.int .i64 0, .int .u64 0, .int .i64 0, .int .i64 0, .int .u64 0, .int .i64 0, .int .u64 0, .int .i64 0, .int .i64 0, .int .u64 0, .int .i64 0, .int .u64 0, .bool false, .int .i64 0, .int .i64 0, .slice none 0 0])<|
C 19 95 [t 18]<|A 6 (.ld (some 2) (t 3))<|A 10 (.ld (some 5) (t 9))<|A 14 (.ld (some 5) (t 13))<|
O 20 (.agg [.c (t 6) 0 2, .c (t 6) 1 2, .c (t 10) 0 5, .c (t 10) 1 5, .c (t 10) 2 5, .c (t 10) 3 5, .c (t 10) 4 5, .c (t 14) 0 5, .c (t 14) 1 5, .c (t 14) 2 5, .c (t 14) 3 5, .c (t 14) 4 5, .z (.bool false), .z (.int .i64 0), .z (.int .i64 0), .c (t 19) 0 1])<|
N (.st 16 (t 5) (t 20))<|E))<|S (F 24 10 0<|L 25 24<|C 26 88 [t 25]<|X 27 26 0<|X 28 26 1<|F 29 13 5<|N (.st 2 (t 29) (t 27))<|F 30 12 5<|
N (.st 1 (t 30) (t 28))<|M 31 16 5<|N (.st 16 (t 4) (t 31))<|E)<|R
theorem b74 : bodyO 6326400 8458496 Tryz.prog 74 = some (32, [.c 4 (some 16)], c74) := by kernel_rfl
theorem k74 : callOk Tryz.prog 74 = true := by kernel_rfl
/-- (*leapfrog/link.Links).Get -/
def c50 : Go.SL.CC := S (O 3 (.box 27 (t 1))<|
O 4 (.new 55 #[.int .i64 0, .int .u64 0, .int .i64 0, .int .i64 0, .int .u64 0, .int .i64 0, .int .u64 0, .int .i64 0, .int .i64 0, .int .u64 0, .int .i64 0, .int .u64 0, .bool false, .int .i64 0, .int .i64 0, .slice none 0 0])<|
V 5 (b false)<|C 8 60 [t 0]<|O 9 (.un .not (t 8))<|E)<|
Q (I (t 9) (S (O 10 (.agg [.z (.int .i64 0), .z (.int .u64 0), .z (.int .i64 0), .z (.int .i64 0), .z (.int .u64 0), .z (.int .i64 0), .z (.int .u64 0), .z (.int .i64 0), .z (.int .i64 0), .z (.int .u64 0), .z (.int .i64 0), .z (.int .u64 0), .z (.bool false), .z (.int .i64 0), .z (.int .i64 0), .z (.slice none 0 0)])<|
N (.st 16 (t 4) (t 10))<|V 5 (b false)<|E)<|R) (Z))<|S (M 12 2 3<|C 6 61 [t 0, t 12]<|O 15 (.cmp .p false (t 6) (k (.pointer none)))<|E)<|
Q (I (t 15) (S (O 16 (.agg [.z (.int .i64 0), .z (.int .u64 0), .z (.int .i64 0), .z (.int .i64 0), .z (.int .u64 0), .z (.int .i64 0), .z (.int .u64 0), .z (.int .i64 0), .z (.int .i64 0), .z (.int .u64 0), .z (.int .i64 0), .z (.int .u64 0), .z (.bool false), .z (.int .i64 0), .z (.int .i64 0), .z (.slice none 0 0)])<|
N (.st 16 (t 4) (t 16))<|V 5 (b false)<|E)<|R) (Z))<|S (M 18 2 3<|C 19 74 [t 6, t 18]<|N (.st 16 (t 4) (t 19))<|V 5 (b true)<|E)<|R
theorem b50 : bodyO 149632 8192 Tryz.prog 50 = some (20, [.c 4 (some 16), .t 5], c50) := by kernel_rfl
theorem k50 : callOk Tryz.prog 50 = true := by kernel_rfl
/-- (*leapfrog/link.Links).toLeft -/
def c62 : Go.SL.CC := S (O 3 (.box 29 (t 1))<|V 4 (b false)<|F 5 1 3<|M 6 2 5<|C 7 82 [t 6]<|O 9 (.bini .eql (t 7) (i 0))<|G 10 (.fa 1 (t 3)) 9<|G 11 (.ld (some 2) (t 10)) 9<|
G 14 (.fa 0 (t 0)) 9<|G 15 (.fa 1 (t 14)) 9<|G 16 (.ld (some 2) (t 15)) 9<|G 17 (.call (f 89) [t 11, t 16]) 9<|O 4 (.pick (t 9) (t 17) (b false))<|E)<|R
theorem b62 : bodyO 4096 270592 Tryz.prog 62 = some (19, [.t 4], c62) := by kernel_rfl
theorem k62 : callOk Tryz.prog 62 = true := by kernel_rfl
/-- (*leapfrog/link.Links).toRight -/
def c59 : Go.SL.CC := S (O 3 (.box 29 (t 1))<|V 4 (b false)<|F 5 1 3<|M 6 2 5<|C 7 82 [t 6]<|O 9 (.bini .eql (t 7) (i 0))<|G 12 (.fa 0 (t 0)) 9<|G 13 (.fa 1 (t 12)) 9<|
G 14 (.ld (some 2) (t 13)) 9<|G 15 (.fa 1 (t 3)) 9<|G 16 (.ld (some 2) (t 15)) 9<|G 17 (.call (f 89) [t 14, t 16]) 9<|O 4 (.pick (t 9) (t 17) (b false))<|E)<|R
theorem b59 : bodyO 1024 264448 Tryz.prog 59 = some (19, [.t 4], c59) := by kernel_rfl
theorem k59 : callOk Tryz.prog 59 = true := by kernel_rfl
/-- (*leapfrog/link.Links).Put -/
def c34 : Go.SL.CC := S (O 6 (.box 27 (t 1))<|O 7 (.box 29 (t 2))<|O 8 (.box 29 (t 3))<|O 9 (.box 45 (t 4))<|V 10 (i 0)<|E)<|Q (B 0 (S (C 15 60 [t 0]<|O 13 (.un .not (t 15))<|E)<|
I (t 13) (S (V 10 (i 4)<|E)<|R) (S (C 20 63 [t 0]<|H 22 (.ld (some 2) (t 6)) 20<|H 23 (.call (f 64) [t 0, t 22]) 20<|H 24 (.un .not (t 23)) 20<|
O 17 (.pick (t 20) (b true) (t 24))<|E)<|I (t 17) (S (V 10 (i 80)<|E)<|R) (S (F 29 5 0<|L 30 29<|M 31 2 6<|O 32 (.lkp false 27 (.pointer none) (t 30) (t 31))<|
O 26 (.cmp .p true (t 32) (k (.pointer none)))<|E)<|I (t 26) (S (V 10 (i 81)<|E)<|R) (S (M 36 5 7<|C 37 62 [t 0, t 36]<|O 39 (.un .not (t 37))<|
H 41 (.ld (some 5) (t 8)) 39<|H 42 (.call (f 59) [t 0, t 41]) 39<|H 43 (.un .not (t 42)) 39<|O 34 (.pick (t 39) (b true) (t 43))<|E)<|I (t 34) (S (V 10 (i 83)<|
E)<|R) (Z))))))<|S (M 45 2 9<|C 11 65 [t 45]<|O 48 (.bini .neq (t 11) (i 0))<|E)<|Q (I (t 48) (S (V 10 (t 11)<|E)<|R) (Z))<|S (M 50 5 7<|M 51 5 8<|C 52 66 []<|
A 50 (.ld (some 5) (t 7))<|A 51 (.ld (some 5) (t 8))<|
O 53 (.agg [.c (t 50) 0 5, .c (t 50) 1 5, .c (t 50) 2 5, .c (t 50) 3 5, .c (t 50) 4 5, .c (t 51) 0 5, .c (t 51) 1 5, .c (t 51) 2 5, .c (t 51) 3 5, .c (t 51) 4 5, .c (t 52) 0 1])<|
O 54 (.box 133 (t 53))<|F 57 10 54<|L 58 57<|M 59 2 9<|C 60 67 [t 58, t 59]<|F 63 5 0<|L 64 63<|M 65 2 6<|N (.mup 27 (t 64) (t 65) (t 54))<|V 10 (i 0)<|E)<|R
theorem b34 : bodyO 76129552922520604672 4683831857165959168 Tryz.prog 34 = some (67, [.t 10], c34) := by kernel_rfl
theorem k34 : callOk Tryz.prog 34 = true := by kernel_rfl
/-- (*leapfrog/link.Links).owned -/
def c58 : Go.SL.CC := S (O 5 (.box 27 (t 1))<|O 6 (.box 45 (t 2))<|V 8 (k (.pointer none))<|V 9 (i 0)<|C 15 60 [t 0]<|O 16 (.un .not (t 15))<|E)<|
Q (I (t 16) (S (V 8 (k (.pointer none))<|V 9 (i 4)<|E)<|R) (Z))<|S (M 18 2 5<|C 10 61 [t 0, t 18]<|O 21 (.cmp .p false (t 10) (k (.pointer none)))<|E)<|
Q (I (t 21) (S (V 8 (k (.pointer none))<|V 9 (i 82)<|E)<|R) (Z))<|S (O 24 (.un .not (t 3))<|G 26 (.call (f 63) [t 0]) 24<|O 27 (.pick (t 24) (t 26) (b false))<|
E)<|Q (I (t 27) (S (V 8 (k (.pointer none))<|V 9 (i 80)<|E)<|R) (Z))<|S (M 28 2 6<|C 11 65 [t 28]<|O 31 (.bini .neq (t 11) (i 0))<|E)<|
Q (I (t 31) (S (V 8 (k (.pointer none))<|V 9 (t 11)<|E)<|R) (Z))<|S (F 36 10 10<|L 37 36<|C 38 88 [t 37]<|X 39 38 0<|X 40 38 1<|
O 12 (.new 45 #[.int .i64 0, .int .i64 0])<|N (.st 2 (t 12) (t 39))<|O 43 (.un .not (t 40))<|H 44 (.ld (some 2) (t 12)) 43<|H 45 (.ld (some 2) (t 6)) 43<|
H 46 (.eqs true [.i, .i] (t 44) (t 45)) 43<|O 47 (.pick (t 43) (b true) (t 46))<|E)<|Q (I (t 47) (S (V 8 (k (.pointer none))<|V 9 (i 71)<|E)<|R) (Z))<|
S (V 8 (t 10)<|V 9 (i 0)<|E)<|R
theorem b58 : bodyO 283705177432064 4432952033280 Tryz.prog 58 = some (49, [.t 8, .t 9], c58) := by kernel_rfl
theorem k58 : callOk Tryz.prog 58 = true := by kernel_rfl
/-- (*leapfrog/link.Links).Out -/
def c68 : Go.SL.CC := S (O 4 (.box 27 (t 1))<|O 5 (.box 45 (t 2))<|V 6 (k (.slice none 0 0))<|V 7 (i 0)<|M 12 2 4<|M 13 2 5<|C 14 58 [t 0, t 12, t 13, b false]<|X 15 14 0<|
X 16 14 1<|V 8 (t 15)<|V 9 (t 16)<|O 18 (.bini .neq (t 9) (i 0))<|E)<|Q (I (t 18) (S (V 6 (k (.slice none 0 0))<|V 7 (t 9)<|E)<|R) (Z))<|S (F 22 5 0<|L 23 22<|
M 24 2 4<|N (.del 27 (t 23) (t 24))<|F 27 10 8<|L 28 27<|C 29 94 [t 28]<|X 30 29 0<|X 31 29 1<|V 6 (t 30)<|V 7 (t 31)<|E)<|R
theorem b68 : bodyO 35261440 69206016 Tryz.prog 68 = some (32, [.t 6, .t 7], c68) := by kernel_rfl
theorem k68 : callOk Tryz.prog 68 = true := by kernel_rfl
/-- (*leapfrog/link.Links).Left -/
def c33 : Go.SL.CC := S (O 4 (.box 27 (t 1))<|O 5 (.box 29 (t 2))<|V 6 (i 0)<|C 9 60 [t 0]<|O 10 (.un .not (t 9))<|E)<|Q (I (t 10) (S (V 6 (i 4)<|E)<|R) (Z))<|S (M 12 2 4<|
C 7 61 [t 0, t 12]<|E)<|Q (B 0 (S (O 14 (.cmp .p false (t 7) (k (.pointer none)))<|E)<|I (t 14) (S (V 6 (i 82)<|E)<|R) (S (M 19 5 5<|C 20 62 [t 0, t 19]<|
O 17 (.un .not (t 20))<|E)<|I (t 17) (S (V 6 (i 83)<|E)<|R) (Z))))<|S (M 23 5 5<|F 25 0 7<|N (.st 5 (t 25) (t 23))<|V 6 (i 0)<|E)<|R
theorem b33 : bodyO 4491520 18948096 Tryz.prog 33 = some (26, [.t 6], c33) := by kernel_rfl
theorem k33 : callOk Tryz.prog 33 = true := by kernel_rfl
/-- (*leapfrog/link.Links).Right -/
def c32 : Go.SL.CC := S (O 5 (.box 27 (t 1))<|O 6 (.box 29 (t 2))<|O 7 (.box 45 (t 3))<|V 8 (i 0)<|M 13 2 5<|M 14 2 7<|C 15 58 [t 0, t 13, t 14, b true]<|X 16 15 0<|X 17 15 1<|
V 9 (t 16)<|V 10 (t 17)<|O 19 (.bini .neq (t 10) (i 0))<|E)<|Q (I (t 19) (S (V 8 (t 10)<|E)<|R) (Z))<|S (M 22 5 6<|C 23 59 [t 0, t 22]<|O 24 (.un .not (t 23))<|
E)<|Q (I (t 24) (S (V 8 (i 83)<|E)<|R) (Z))<|S (M 26 5 6<|F 28 5 9<|N (.st 5 (t 28) (t 26))<|V 8 (i 0)<|E)<|R
theorem b32 : bodyO 36968448 134217728 Tryz.prog 32 = some (29, [.t 8], c32) := by kernel_rfl
theorem k32 : callOk Tryz.prog 32 = true := by kernel_rfl
/-- (*leapfrog/link.Links).Lock -/
def c52 : Go.SL.CC := S (O 4 (.box 27 (t 1))<|O 5 (.box 45 (t 2))<|V 6 (b false)<|V 7 (i 0)<|C 10 60 [t 0]<|O 11 (.un .not (t 10))<|E)<|Q (I (t 11) (S (V 6 (b false)<|V 7 (i 4)<|E)<|
R) (Z))<|S (M 13 2 4<|C 8 61 [t 0, t 13]<|O 16 (.cmp .p false (t 8) (k (.pointer none)))<|E)<|Q (I (t 16) (S (V 6 (b false)<|V 7 (i 82)<|E)<|R) (Z))<|
S (F 19 10 8<|L 20 19<|M 21 2 5<|C 22 67 [t 20, t 21]<|X 23 22 0<|X 24 22 1<|V 6 (t 23)<|V 7 (t 24)<|E)<|R
theorem b52 : bodyO 168448 278528 Tryz.prog 52 = some (25, [.t 6, .t 7], c52) := by kernel_rfl
theorem k52 : callOk Tryz.prog 52 = true := by kernel_rfl
/-- (*leapfrog/link.Links).Free -/
def c54 : Go.SL.CC := S (O 4 (.box 27 (t 1))<|O 5 (.box 45 (t 2))<|O 6 (.new 45 #[.int .i64 0, .int .i64 0])<|V 7 (b false)<|V 8 (i 0)<|C 11 60 [t 0]<|O 12 (.un .not (t 11))<|E)<|
Q (I (t 12) (S (O 13 (.agg [.z (.int .i64 0), .z (.int .i64 0)])<|N (.st 2 (t 6) (t 13))<|V 7 (b false)<|V 8 (i 4)<|E)<|R) (Z))<|S (M 15 2 4<|
C 9 61 [t 0, t 15]<|O 18 (.cmp .p false (t 9) (k (.pointer none)))<|E)<|Q (I (t 18) (S (O 19 (.agg [.z (.int .i64 0), .z (.int .i64 0)])<|
N (.st 2 (t 6) (t 19))<|V 7 (b false)<|V 8 (i 82)<|E)<|R) (Z))<|S (F 22 10 9<|L 23 22<|M 24 2 5<|C 25 87 [t 23, t 24]<|X 26 25 0<|X 27 25 1<|X 28 25 2<|
N (.st 2 (t 6) (t 26))<|V 7 (t 27)<|V 8 (t 28)<|E)<|R
theorem b54 : bodyO 1197056 2162688 Tryz.prog 54 = some (29, [.c 6 (some 2), .t 7, .t 8], c54) := by kernel_rfl
theorem k54 : callOk Tryz.prog 54 = true := by kernel_rfl
/-- leapfrog/link.Same -/
def c75 : Go.SL.CC := S (O 2 (.box 55 (t 0))<|O 3 (.box 55 (t 1))<|V 4 (b false)<|F 5 0 2<|M 6 2 5<|F 7 0 3<|M 8 2 7<|O 10 (.eqs false [.i, .i] (t 6) (t 8))<|G 11 (.fa 2 (t 2)) 10<|
G 12 (.ld (some 5) (t 11)) 10<|G 13 (.fa 2 (t 3)) 10<|G 14 (.ld (some 5) (t 13)) 10<|G 15 (.eqs false [.i, .i, .i, .i, .i] (t 12) (t 14)) 10<|
O 17 (.pick (t 10) (t 15) (b false))<|G 18 (.fa 7 (t 2)) 17<|G 19 (.ld (some 5) (t 18)) 17<|G 20 (.fa 7 (t 3)) 17<|G 21 (.ld (some 5) (t 20)) 17<|
G 22 (.eqs false [.i, .i, .i, .i, .i] (t 19) (t 21)) 17<|O 24 (.pick (t 17) (t 22) (b false))<|G 25 (.fa 12 (t 2)) 24<|G 26 (.ld none (t 25)) 24<|
G 27 (.fa 12 (t 3)) 24<|G 28 (.ld none (t 27)) 24<|G 29 (.cmp .b false (t 26) (t 28)) 24<|O 31 (.pick (t 24) (t 29) (b false))<|G 32 (.fa 13 (t 2)) 31<|
G 33 (.ld (some 2) (t 32)) 31<|G 34 (.fa 13 (t 3)) 31<|G 35 (.ld (some 2) (t 34)) 31<|G 36 (.eqs false [.i, .i] (t 33) (t 35)) 31<|
O 38 (.pick (t 31) (t 36) (b false))<|G 39 (.fa 15 (t 2)) 38<|G 40 (.ld none (t 39)) 38<|G 41 (.fa 15 (t 3)) 38<|G 42 (.ld none (t 41)) 38<|
G 43 (.call (f 96) [t 40, t 42]) 38<|O 4 (.pick (t 38) (t 43) (b false))<|E)<|R
theorem b75 : bodyO 0 17730707194368 Tryz.prog 75 = some (45, [.t 4], c75) := by kernel_rfl
theorem k75 : callOk Tryz.prog 75 = true := by kernel_rfl
/-- slices.Equal[[]leapfrog/api.Owner,leapfrog/api.Owner] -/
def c96 : Go.SL.CC := S (V 4 (b false)<|O 7 (.ln (t 0))<|O 9 (.ln (t 1))<|O 10 (.bini .neq (t 7) (t 9))<|E)<|Q (I (t 10) (S (V 4 (b false)<|E)<|R) (Z))<|S (O 12 (.ln (t 0))<|
V 13 (i 0)<|E)<|Q (P 0 (S (O 14 (.bini .lss (t 13) (t 12))<|E)<|Q (I (t 14) (Z) (J 0))<|Q (B 1 (S (O 18 (.ia 2 (t 0) (t 13))<|M 19 2 18<|
O 22 (.ia 2 (t 1) (t 13))<|M 23 2 22<|O 24 (.eqs true [.i, .i] (t 19) (t 23))<|E)<|I (t 24) (S (V 4 (b false)<|E)<|R) (Z)))<|Y (O 13 (.bini .add (t 13) (i 1))<|
E)))<|S (V 4 (b true)<|E)<|R
theorem b96 : bodyO 3377504 33554432 Tryz.prog 96 = some (26, [.t 4], c96) := by kernel_rfl
theorem k96 : callOk Tryz.prog 96 = true := by kernel_rfl
end Go.Proofs.YtmeajliiloaegaaGreat
