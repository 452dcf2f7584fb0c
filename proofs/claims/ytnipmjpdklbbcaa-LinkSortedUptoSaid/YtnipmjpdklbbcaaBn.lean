/- The bodies of some functions of the program, without their noise, and that they are these. Conditions: none. Written by a program of this workplace (Print.lean). -/
import Derived.Test.YtnipmjpdklbbcaaProg
import Derived.Test.YtnipmjpdklbbcaaSlW
import Derived.KernelRfl
namespace Go.Proofs.Ytnipmjpdklbbcaa
open Go.SL Go.SL.W
set_option maxRecDepth 100000

/-- (*leapfrog/link.Links).is -/
def c76 : Go.SL.CC := S (V 2 (b false)<|O 5 (.cmp .p true (t 0) (k (.pointer none)))<|G 8 (.fa 5 (t 0)) 5<|G 9 (.ld none (t 8)) 5<|G 10 (.cmp .m true (t 9) (k (.map none))) 5<|
O 2 (.pick (t 5) (t 10) (b false))<|E)<|R
theorem b76 : bodyO 72 2192 Try.prog 76 = some (12, [.t 2], c76) := by kernel_rfl
theorem k76 : callOk Try.prog 76 = true := by kernel_rfl
/-- (*leapfrog/link.Links).head -/
def c111 : Go.SL.CC := S (V 2 (b false)<|F 5 0 0<|F 6 1 5<|F 7 0 6<|L 8 7<|O 2 (.bini .eql (t 8) (i 1))<|E)<|R
theorem b111 : bodyO 8 528 Try.prog 111 = some (10, [.t 2], c111) := by kernel_rfl
theorem k111 : callOk Try.prog 111 = true := by kernel_rfl
/-- (*leapfrog/link.Links).tail -/
def c112 : Go.SL.CC := S (V 2 (b false)<|F 5 0 0<|F 6 1 5<|F 7 0 6<|L 8 7<|O 2 (.bini .eql (t 8) (i 3))<|E)<|R
theorem b112 : bodyO 8 528 Try.prog 112 = some (10, [.t 2], c112) := by kernel_rfl
theorem k112 : callOk Try.prog 112 = true := by kernel_rfl
/-- (*leapfrog/link.Links).end -/
def c78 : Go.SL.CC := S (V 2 (b false)<|C 5 111 [t 0]<|H 7 (.call (f 112) [t 0]) 5<|O 2 (.pick (t 5) (b true) (t 7))<|E)<|R
theorem b78 : bodyO 72 272 Try.prog 78 = some (9, [.t 2], c78) := by kernel_rfl
theorem k78 : callOk Try.prog 78 = true := by kernel_rfl
/-- leapfrog/link.New -/
def c66 : Go.SL.CC := S (O 1 (.box 32 (t 0))<|V 2 (k (.pointer none))<|V 3 (i 0)<|F 4 1 1<|M 5 2 4<|C 6 41 [t 5]<|O 8 (.bini .neq (t 6) (i 0))<|H 9 (.fa 3 (t 1)) 8<|
H 10 (.ld (some 2) (t 9)) 8<|H 11 (.call (f 62) [t 10]) 8<|H 12 (.bini .neq (t 11) (i 0)) 8<|O 13 (.pick (t 8) (b true) (t 12))<|E)<|
Q (I (t 13) (S (V 2 (k (.pointer none))<|V 3 (i 80)<|E)<|R) (Z))<|S (M 14 5 1<|O 15 (.mkm)<|
O 16 (.agg [.c (t 14) 0 5, .c (t 14) 1 5, .c (t 14) 2 5, .c (t 14) 3 5, .c (t 14) 4 5, .c (t 15) 0 1])<|O 2 (.box 138 (t 16))<|V 3 (i 0)<|E)<|R
theorem b66 : bodyO 0 131200 Try.prog 66 = some (18, [.t 2, .t 3], c66) := by kernel_rfl
theorem k66 : callOk Try.prog 66 = true := by kernel_rfl
/-- (*leapfrog/link.Links).May -/
def c35 : Go.SL.CC := S (O 3 (.box 30 (t 1))<|V 4 (b false)<|C 6 76 [t 0]<|O 7 (.un .not (t 6))<|E)<|Q (I (t 7) (S (V 4 (b false)<|E)<|R) (Z))<|S (C 9 78 [t 0]<|E)<|
Q (I (t 9) (S (M 10 2 3<|C 11 62 [t 10]<|O 13 (.bini .eql (t 11) (i 0))<|G 14 (.fa 0 (t 3)) 13<|G 15 (.ld none (t 14)) 13<|G 18 (.fa 0 (t 0)) 13<|
G 19 (.fa 3 (t 18)) 13<|G 20 (.fa 0 (t 19)) 13<|G 21 (.ld none (t 20)) 13<|G 22 (.bini .leq (t 15) (t 21)) 13<|O 4 (.pick (t 13) (t 22) (b false))<|E)<|
R) (Z))<|S (F 26 0 0<|F 27 3 26<|M 28 2 27<|M 29 2 3<|C 4 85 [t 28, t 29]<|E)<|R
theorem b35 : bodyO 16843040 1115820032 Try.prog 35 = some (31, [.t 4], c35) := by kernel_rfl
theorem k35 : callOk Try.prog 35 = true := by kernel_rfl
/-- (*leapfrog/link.Links).first -/
def c80 : Go.SL.CC := S (V 2 (k (.pointer none))<|C 4 102 []<|
O 5 (.agg [.z (.int .i64 0), .z (.int .i64 0), .z (.int .u64 0), .z (.int .i64 0), .z (.int .u64 0), .z (.int .i64 0), .z (.int .i64 0), .z (.int .u64 0), .z (.int .i64 0), .z (.int .u64 0), .c (t 4) 0 1])<|
O 3 (.box 163 (t 5))<|C 8 111 [t 0]<|E)<|Q (I (t 8) (Y (O 10 (.agg [.c (i 3) 0 1, .z (.int .u64 0)])<|F 13 0 0<|F 14 3 13<|M 15 2 14<|
O 16 (.agg [.c (i 1) 0 1, .c (t 10) 0 2, .c (t 10) 1 2, .c (t 15) 0 2, .c (t 15) 1 2])<|F 18 5 3<|N (.st 5 (t 18) (t 16))<|
E)) (Y (O 20 (.agg [.c (i 1) 0 1, .z (.int .u64 0)])<|F 23 0 0<|F 24 3 23<|M 25 2 24<|
O 26 (.agg [.z (.int .i64 0), .c (t 20) 0 2, .c (t 20) 1 2, .c (t 25) 0 2, .c (t 25) 1 2])<|F 28 0 3<|N (.st 5 (t 28) (t 26))<|E)))<|S (V 2 (t 3)<|E)<|R
theorem b80 : bodyO 539495040 138547264 Try.prog 80 = some (30, [.t 2], c80) := by kernel_rfl
theorem k80 : callOk Try.prog 80 = true := by kernel_rfl
/-- (*leapfrog/link.Links).in -/
def c105 : Go.SL.CC := S (O 3 (.box 30 (t 1))<|V 4 (k (.pointer none))<|F 11 5 0<|L 12 11<|M 13 2 3<|O 14 (.lkp true 30 (.pointer none) (t 12) (t 13))<|X 15 14 0<|X 16 14 1<|
V 5 (t 15)<|V 17 (t 16)<|E)<|Q (I (t 17) (S (V 4 (t 5)<|E)<|R) (Z))<|S (C 20 78 [t 0]<|O 22 (.un .not (t 20))<|H 24 (.ld (some 2) (t 3)) 22<|
H 25 (.call (f 35) [t 0, t 24]) 22<|H 26 (.un .not (t 25)) 22<|O 27 (.pick (t 22) (b true) (t 26))<|E)<|Q (I (t 27) (S (V 4 (k (.pointer none))<|E)<|R) (Z))<|
S (C 29 80 [t 0]<|F 32 5 0<|L 33 32<|M 34 2 3<|N (.mup 30 (t 33) (t 34) (t 29))<|V 4 (t 29)<|E)<|R
theorem b105 : bodyO 104430568384 2149581824 Try.prog 105 = some (37, [.t 4], c105) := by kernel_rfl
theorem k105 : callOk Try.prog 105 = true := by kernel_rfl
/-- (*leapfrog/link.record).state -/
def c77 : Go.SL.CC := S (O 3 (.box 30 (t 1))<|
O 4 (.new 80 #[.int .i64 0, .int .u64 0, .int .i64 0, .int .i64 0, .int .u64 0, .int .i64 0, .int .u64 0, .int .i64 0, .int .i64 0, .int .u64 0, .int .i64 0, .int .u64 0, .bool false, .int .i64 0, .int .i64 0, .slice none 0 0])<|
M 6 2 3<|F 9 0 0<|M 10 5 9<|F 13 5 0<|M 14 5 13<|F 17 10 0<|L 18 17<|.both (C 19 109 [t 18]<|A 6 (.ld (some 2) (t 3))<|A 10 (.ld (some 5) (t 9))<|
A 14 (.ld (some 5) (t 13))<|
O 20 (.agg [.c (t 6) 0 2, .c (t 6) 1 2, .c (t 10) 0 5, .c (t 10) 1 5, .c (t 10) 2 5, .c (t 10) 3 5, .c (t 10) 4 5, .c (t 14) 0 5, .c (t 14) 1 5, .c (t 14) 2 5, .c (t 14) 3 5, .c (t 14) 4 5, .z (.bool false), .z (.int .i64 0), .z (.int .i64 0), .c (t 19) 0 1])<|
O 5 (.new 80 #[.int .i64 0, .int .u64 0, .int .i64 0, .int .i64 0, .int .u64 0, .int .i64 0, .int .u64 0, .int .i64 0, .int .i64 0, .int .u64 0, .int .i64 0, .int .u64 0, .bool false, .int .i64 0, .int .i64 0, .slice none 0 0])<|
N (.st 16 (t 5) (t 20))<|
E) (O 5 (.new 80 #[.int .i64 0, .int .u64 0, .int .i64 0, .int .i64 0, .int .u64 0, .int .i64 0, .int .u64 0, .int .i64 0, .int .i64 0, .int .u64 0, .int .i64 0, .int .u64 0, .bool false, .int .i64 0, .int .i64 0, .slice none 0 0])<|
C 19 109 [t 18]<|A 6 (.ld (some 2) (t 3))<|A 10 (.ld (some 5) (t 9))<|A 14 (.ld (some 5) (t 13))<|
O 20 (.agg [.c (t 6) 0 2, .c (t 6) 1 2, .c (t 10) 0 5, .c (t 10) 1 5, .c (t 10) 2 5, .c (t 10) 3 5, .c (t 10) 4 5, .c (t 14) 0 5, .c (t 14) 1 5, .c (t 14) 2 5, .c (t 14) 3 5, .c (t 14) 4 5, .z (.bool false), .z (.int .i64 0), .z (.int .i64 0), .c (t 19) 0 1])<|
N (.st 16 (t 5) (t 20))<|E))<|S (F 24 10 0<|L 25 24<|C 26 110 [t 25]<|X 27 26 0<|X 28 26 1<|F 29 13 5<|N (.st 2 (t 29) (t 27))<|F 30 12 5<|
N (.st 1 (t 30) (t 28))<|M 31 16 5<|N (.st 16 (t 4) (t 31))<|E)<|R
theorem b77 : bodyO 6326400 8458496 Try.prog 77 = some (32, [.c 4 (some 16)], c77) := by kernel_rfl
theorem k77 : callOk Try.prog 77 = true := by kernel_rfl
/-- (*leapfrog/link.Links).Get -/
def c72 : Go.SL.CC := S (O 3 (.box 30 (t 1))<|
O 4 (.new 80 #[.int .i64 0, .int .u64 0, .int .i64 0, .int .i64 0, .int .u64 0, .int .i64 0, .int .u64 0, .int .i64 0, .int .i64 0, .int .u64 0, .int .i64 0, .int .u64 0, .bool false, .int .i64 0, .int .i64 0, .slice none 0 0])<|
V 5 (b false)<|C 8 76 [t 0]<|O 9 (.un .not (t 8))<|E)<|
Q (I (t 9) (S (O 10 (.agg [.z (.int .i64 0), .z (.int .u64 0), .z (.int .i64 0), .z (.int .i64 0), .z (.int .u64 0), .z (.int .i64 0), .z (.int .u64 0), .z (.int .i64 0), .z (.int .i64 0), .z (.int .u64 0), .z (.int .i64 0), .z (.int .u64 0), .z (.bool false), .z (.int .i64 0), .z (.int .i64 0), .z (.slice none 0 0)])<|
N (.st 16 (t 4) (t 10))<|V 5 (b false)<|E)<|R) (Z))<|S (M 12 2 3<|C 6 105 [t 0, t 12]<|O 15 (.cmp .p false (t 6) (k (.pointer none)))<|E)<|
Q (I (t 15) (S (O 16 (.agg [.z (.int .i64 0), .z (.int .u64 0), .z (.int .i64 0), .z (.int .i64 0), .z (.int .u64 0), .z (.int .i64 0), .z (.int .u64 0), .z (.int .i64 0), .z (.int .i64 0), .z (.int .u64 0), .z (.int .i64 0), .z (.int .u64 0), .z (.bool false), .z (.int .i64 0), .z (.int .i64 0), .z (.slice none 0 0)])<|
N (.st 16 (t 4) (t 16))<|V 5 (b false)<|E)<|R) (Z))<|S (M 18 2 3<|C 19 77 [t 6, t 18]<|N (.st 16 (t 4) (t 19))<|V 5 (b true)<|E)<|R
theorem b72 : bodyO 149632 8192 Try.prog 72 = some (20, [.c 4 (some 16), .t 5], c72) := by kernel_rfl
theorem k72 : callOk Try.prog 72 = true := by kernel_rfl
/-- (*leapfrog/link.Links).toLeft -/
def c99 : Go.SL.CC := S (O 3 (.box 32 (t 1))<|V 4 (b false)<|F 5 1 3<|M 6 2 5<|C 7 41 [t 6]<|O 9 (.bini .eql (t 7) (i 0))<|G 10 (.fa 1 (t 3)) 9<|G 11 (.ld (some 2) (t 10)) 9<|
G 14 (.fa 0 (t 0)) 9<|G 15 (.fa 1 (t 14)) 9<|G 16 (.ld (some 2) (t 15)) 9<|G 17 (.call (f 43) [t 11, t 16]) 9<|O 4 (.pick (t 9) (t 17) (b false))<|E)<|R
theorem b99 : bodyO 4096 270592 Try.prog 99 = some (19, [.t 4], c99) := by kernel_rfl
theorem k99 : callOk Try.prog 99 = true := by kernel_rfl
/-- (*leapfrog/link.Links).toRight -/
def c100 : Go.SL.CC := S (O 3 (.box 32 (t 1))<|V 4 (b false)<|F 5 1 3<|M 6 2 5<|C 7 41 [t 6]<|O 9 (.bini .eql (t 7) (i 0))<|G 12 (.fa 0 (t 0)) 9<|G 13 (.fa 1 (t 12)) 9<|
G 14 (.ld (some 2) (t 13)) 9<|G 15 (.fa 1 (t 3)) 9<|G 16 (.ld (some 2) (t 15)) 9<|G 17 (.call (f 43) [t 14, t 16]) 9<|O 4 (.pick (t 9) (t 17) (b false))<|E)<|R
theorem b100 : bodyO 1024 264448 Try.prog 100 = some (19, [.t 4], c100) := by kernel_rfl
theorem k100 : callOk Try.prog 100 = true := by kernel_rfl
/-- (*leapfrog/link.Links).Put -/
def c68 : Go.SL.CC := S (O 6 (.box 30 (t 1))<|O 7 (.box 32 (t 2))<|O 8 (.box 32 (t 3))<|O 9 (.box 77 (t 4))<|V 10 (i 0)<|E)<|Q (B 0 (S (C 15 76 [t 0]<|O 13 (.un .not (t 15))<|E)<|
I (t 13) (S (V 10 (i 4)<|E)<|R) (S (C 20 78 [t 0]<|H 22 (.ld (some 2) (t 6)) 20<|H 23 (.call (f 35) [t 0, t 22]) 20<|H 24 (.un .not (t 23)) 20<|
O 17 (.pick (t 20) (b true) (t 24))<|E)<|I (t 17) (S (V 10 (i 80)<|E)<|R) (S (F 29 5 0<|L 30 29<|M 31 2 6<|O 32 (.lkp false 30 (.pointer none) (t 30) (t 31))<|
O 26 (.cmp .p true (t 32) (k (.pointer none)))<|E)<|I (t 26) (S (V 10 (i 81)<|E)<|R) (S (M 36 5 7<|C 37 99 [t 0, t 36]<|O 39 (.un .not (t 37))<|
H 41 (.ld (some 5) (t 8)) 39<|H 42 (.call (f 100) [t 0, t 41]) 39<|H 43 (.un .not (t 42)) 39<|O 34 (.pick (t 39) (b true) (t 43))<|E)<|
I (t 34) (S (V 10 (i 83)<|E)<|R) (Z))))))<|S (M 45 2 9<|C 11 101 [t 45]<|O 48 (.bini .neq (t 11) (i 0))<|E)<|Q (I (t 48) (S (V 10 (t 11)<|E)<|R) (Z))<|
S (M 50 5 7<|M 51 5 8<|C 52 102 []<|A 50 (.ld (some 5) (t 7))<|A 51 (.ld (some 5) (t 8))<|
O 53 (.agg [.c (t 50) 0 5, .c (t 50) 1 5, .c (t 50) 2 5, .c (t 50) 3 5, .c (t 50) 4 5, .c (t 51) 0 5, .c (t 51) 1 5, .c (t 51) 2 5, .c (t 51) 3 5, .c (t 51) 4 5, .c (t 52) 0 1])<|
O 54 (.box 163 (t 53))<|F 57 10 54<|L 58 57<|M 59 2 9<|C 60 103 [t 58, t 59]<|F 63 5 0<|L 64 63<|M 65 2 6<|N (.mup 30 (t 64) (t 65) (t 54))<|V 10 (i 0)<|E)<|R
theorem b68 : bodyO 76129552922520604672 4683831857165959168 Try.prog 68 = some (67, [.t 10], c68) := by kernel_rfl
theorem k68 : callOk Try.prog 68 = true := by kernel_rfl
/-- (*leapfrog/link.Links).owned -/
def c104 : Go.SL.CC := S (O 5 (.box 30 (t 1))<|O 6 (.box 77 (t 2))<|V 8 (k (.pointer none))<|V 9 (i 0)<|C 15 76 [t 0]<|O 16 (.un .not (t 15))<|E)<|
Q (I (t 16) (S (V 8 (k (.pointer none))<|V 9 (i 4)<|E)<|R) (Z))<|S (M 18 2 5<|C 10 105 [t 0, t 18]<|O 21 (.cmp .p false (t 10) (k (.pointer none)))<|E)<|
Q (I (t 21) (S (V 8 (k (.pointer none))<|V 9 (i 82)<|E)<|R) (Z))<|S (O 24 (.un .not (t 3))<|G 26 (.call (f 78) [t 0]) 24<|O 27 (.pick (t 24) (t 26) (b false))<|
E)<|Q (I (t 27) (S (V 8 (k (.pointer none))<|V 9 (i 80)<|E)<|R) (Z))<|S (M 28 2 6<|C 11 101 [t 28]<|O 31 (.bini .neq (t 11) (i 0))<|E)<|
Q (I (t 31) (S (V 8 (k (.pointer none))<|V 9 (t 11)<|E)<|R) (Z))<|S (F 36 10 10<|L 37 36<|C 38 110 [t 37]<|X 39 38 0<|X 40 38 1<|
O 12 (.new 77 #[.int .i64 0, .int .i64 0])<|N (.st 2 (t 12) (t 39))<|O 43 (.un .not (t 40))<|H 44 (.ld (some 2) (t 12)) 43<|H 45 (.ld (some 2) (t 6)) 43<|
H 46 (.eqs true [.i, .i] (t 44) (t 45)) 43<|O 47 (.pick (t 43) (b true) (t 46))<|E)<|Q (I (t 47) (S (V 8 (k (.pointer none))<|V 9 (i 71)<|E)<|R) (Z))<|
S (V 8 (t 10)<|V 9 (i 0)<|E)<|R
theorem b104 : bodyO 283705177432064 4432952033280 Try.prog 104 = some (49, [.t 8, .t 9], c104) := by kernel_rfl
theorem k104 : callOk Try.prog 104 = true := by kernel_rfl
/-- (*leapfrog/link.Links).Out -/
def c74 : Go.SL.CC := S (O 4 (.box 30 (t 1))<|O 5 (.box 77 (t 2))<|V 6 (k (.slice none 0 0))<|V 7 (i 0)<|M 12 2 4<|M 13 2 5<|C 14 104 [t 0, t 12, t 13, b false]<|X 15 14 0<|
X 16 14 1<|V 8 (t 15)<|V 9 (t 16)<|O 18 (.bini .neq (t 9) (i 0))<|E)<|Q (I (t 18) (S (V 6 (k (.slice none 0 0))<|V 7 (t 9)<|E)<|R) (Z))<|S (F 22 5 0<|L 23 22<|
M 24 2 4<|N (.del 30 (t 23) (t 24))<|F 27 10 8<|L 28 27<|C 29 106 [t 28]<|X 30 29 0<|X 31 29 1<|V 6 (t 30)<|V 7 (t 31)<|E)<|R
theorem b74 : bodyO 35261440 69206016 Try.prog 74 = some (32, [.t 6, .t 7], c74) := by kernel_rfl
theorem k74 : callOk Try.prog 74 = true := by kernel_rfl
/-- (*leapfrog/link.Links).Left -/
def c107 : Go.SL.CC := S (O 4 (.box 30 (t 1))<|O 5 (.box 32 (t 2))<|V 6 (i 0)<|C 9 76 [t 0]<|O 10 (.un .not (t 9))<|E)<|Q (I (t 10) (S (V 6 (i 4)<|E)<|R) (Z))<|S (M 12 2 4<|
C 7 105 [t 0, t 12]<|E)<|Q (B 0 (S (O 14 (.cmp .p false (t 7) (k (.pointer none)))<|E)<|I (t 14) (S (V 6 (i 82)<|E)<|R) (S (M 19 5 5<|C 20 99 [t 0, t 19]<|
O 17 (.un .not (t 20))<|E)<|I (t 17) (S (V 6 (i 83)<|E)<|R) (Z))))<|S (M 23 5 5<|F 25 0 7<|N (.st 5 (t 25) (t 23))<|V 6 (i 0)<|E)<|R
theorem b107 : bodyO 4491520 18948096 Try.prog 107 = some (26, [.t 6], c107) := by kernel_rfl
theorem k107 : callOk Try.prog 107 = true := by kernel_rfl
/-- (*leapfrog/link.Links).Right -/
def c71 : Go.SL.CC := S (O 5 (.box 30 (t 1))<|O 6 (.box 32 (t 2))<|O 7 (.box 77 (t 3))<|V 8 (i 0)<|M 13 2 5<|M 14 2 7<|C 15 104 [t 0, t 13, t 14, b true]<|X 16 15 0<|X 17 15 1<|
V 9 (t 16)<|V 10 (t 17)<|O 19 (.bini .neq (t 10) (i 0))<|E)<|Q (I (t 19) (S (V 8 (t 10)<|E)<|R) (Z))<|S (M 22 5 6<|C 23 100 [t 0, t 22]<|
O 24 (.un .not (t 23))<|E)<|Q (I (t 24) (S (V 8 (i 83)<|E)<|R) (Z))<|S (M 26 5 6<|F 28 5 9<|N (.st 5 (t 28) (t 26))<|V 8 (i 0)<|E)<|R
theorem b71 : bodyO 36968448 134217728 Try.prog 71 = some (29, [.t 8], c71) := by kernel_rfl
theorem k71 : callOk Try.prog 71 = true := by kernel_rfl
/-- (*leapfrog/link.Links).Lock -/
def c73 : Go.SL.CC := S (O 4 (.box 30 (t 1))<|O 5 (.box 77 (t 2))<|V 6 (b false)<|V 7 (i 0)<|C 10 76 [t 0]<|O 11 (.un .not (t 10))<|E)<|Q (I (t 11) (S (V 6 (b false)<|V 7 (i 4)<|E)<|
R) (Z))<|S (M 13 2 4<|C 8 105 [t 0, t 13]<|O 16 (.cmp .p false (t 8) (k (.pointer none)))<|E)<|Q (I (t 16) (S (V 6 (b false)<|V 7 (i 82)<|E)<|R) (Z))<|
S (F 19 10 8<|L 20 19<|M 21 2 5<|C 22 103 [t 20, t 21]<|X 23 22 0<|X 24 22 1<|V 6 (t 23)<|V 7 (t 24)<|E)<|R
theorem b73 : bodyO 168448 278528 Try.prog 73 = some (25, [.t 6, .t 7], c73) := by kernel_rfl
theorem k73 : callOk Try.prog 73 = true := by kernel_rfl
/-- (*leapfrog/link.Links).Free -/
def c108 : Go.SL.CC := S (O 4 (.box 30 (t 1))<|O 5 (.box 77 (t 2))<|O 6 (.new 77 #[.int .i64 0, .int .i64 0])<|V 7 (b false)<|V 8 (i 0)<|C 11 76 [t 0]<|O 12 (.un .not (t 11))<|E)<|
Q (I (t 12) (S (O 13 (.agg [.z (.int .i64 0), .z (.int .i64 0)])<|N (.st 2 (t 6) (t 13))<|V 7 (b false)<|V 8 (i 4)<|E)<|R) (Z))<|S (M 15 2 4<|
C 9 105 [t 0, t 15]<|O 18 (.cmp .p false (t 9) (k (.pointer none)))<|E)<|Q (I (t 18) (S (O 19 (.agg [.z (.int .i64 0), .z (.int .i64 0)])<|
N (.st 2 (t 6) (t 19))<|V 7 (b false)<|V 8 (i 82)<|E)<|R) (Z))<|S (F 22 10 9<|L 23 22<|M 24 2 5<|C 25 143 [t 23, t 24]<|X 26 25 0<|X 27 25 1<|X 28 25 2<|
N (.st 2 (t 6) (t 26))<|V 7 (t 27)<|V 8 (t 28)<|E)<|R
theorem b108 : bodyO 1197056 2162688 Try.prog 108 = some (29, [.c 6 (some 2), .t 7, .t 8], c108) := by kernel_rfl
theorem k108 : callOk Try.prog 108 = true := by kernel_rfl
/-- leapfrog/link.Same -/
def c79 : Go.SL.CC := S (O 2 (.box 80 (t 0))<|O 3 (.box 80 (t 1))<|V 4 (b false)<|F 5 0 2<|M 6 2 5<|F 7 0 3<|M 8 2 7<|O 10 (.eqs false [.i, .i] (t 6) (t 8))<|G 11 (.fa 2 (t 2)) 10<|
G 12 (.ld (some 5) (t 11)) 10<|G 13 (.fa 2 (t 3)) 10<|G 14 (.ld (some 5) (t 13)) 10<|G 15 (.eqs false [.i, .i, .i, .i, .i] (t 12) (t 14)) 10<|
O 17 (.pick (t 10) (t 15) (b false))<|G 18 (.fa 7 (t 2)) 17<|G 19 (.ld (some 5) (t 18)) 17<|G 20 (.fa 7 (t 3)) 17<|G 21 (.ld (some 5) (t 20)) 17<|
G 22 (.eqs false [.i, .i, .i, .i, .i] (t 19) (t 21)) 17<|O 24 (.pick (t 17) (t 22) (b false))<|G 25 (.fa 12 (t 2)) 24<|G 26 (.ld none (t 25)) 24<|
G 27 (.fa 12 (t 3)) 24<|G 28 (.ld none (t 27)) 24<|G 29 (.cmp .b false (t 26) (t 28)) 24<|O 31 (.pick (t 24) (t 29) (b false))<|G 32 (.fa 13 (t 2)) 31<|
G 33 (.ld (some 2) (t 32)) 31<|G 34 (.fa 13 (t 3)) 31<|G 35 (.ld (some 2) (t 34)) 31<|G 36 (.eqs false [.i, .i] (t 33) (t 35)) 31<|
O 38 (.pick (t 31) (t 36) (b false))<|G 39 (.fa 15 (t 2)) 38<|G 40 (.ld none (t 39)) 38<|G 41 (.fa 15 (t 3)) 38<|G 42 (.ld none (t 41)) 38<|
G 43 (.call (f 113) [t 40, t 42]) 38<|O 4 (.pick (t 38) (t 43) (b false))<|E)<|R
theorem b79 : bodyO 0 17730707194368 Try.prog 79 = some (45, [.t 4], c79) := by kernel_rfl
theorem k79 : callOk Try.prog 79 = true := by kernel_rfl
/-- slices.Equal[[]leapfrog/api.Owner,leapfrog/api.Owner] -/
def c113 : Go.SL.CC := S (V 4 (b false)<|O 7 (.ln (t 0))<|O 9 (.ln (t 1))<|O 10 (.bini .neq (t 7) (t 9))<|E)<|Q (I (t 10) (S (V 4 (b false)<|E)<|R) (Z))<|S (O 12 (.ln (t 0))<|
V 13 (i 0)<|E)<|Q (P 0 (S (O 14 (.bini .lss (t 13) (t 12))<|E)<|Q (I (t 14) (Z) (J 0))<|Q (B 1 (S (O 18 (.ia 2 (t 0) (t 13))<|M 19 2 18<|
O 22 (.ia 2 (t 1) (t 13))<|M 23 2 22<|O 24 (.eqs true [.i, .i] (t 19) (t 23))<|E)<|I (t 24) (S (V 4 (b false)<|E)<|R) (Z)))<|Y (O 13 (.bini .add (t 13) (i 1))<|
E)))<|S (V 4 (b true)<|E)<|R
theorem b113 : bodyO 3377504 33554432 Try.prog 113 = some (26, [.t 4], c113) := by kernel_rfl
theorem k113 : callOk Try.prog 113 = true := by kernel_rfl
/-- leapfrog/leapfroglaw08.head -/
def c69 : Go.SL.CC := S (O 2 (.new 32 #[.int .i64 0, .int .i64 0, .int .u64 0, .int .i64 0, .int .u64 0])<|O 3 (.agg [.c (i 1) 0 1, .z (.int .u64 0)])<|
O 5 (.agg [.c (t 0) 0 1, .z (.int .u64 0)])<|O 6 (.agg [.z (.int .i64 0), .c (t 3) 0 2, .c (t 3) 1 2, .c (t 5) 0 2, .c (t 5) 1 2])<|N (.st 5 (t 2) (t 6))<|E)<|R
theorem b69 : bodyO 16 0 Try.prog 69 = some (7, [.c 2 (some 5)], c69) := by kernel_rfl
theorem k69 : callOk Try.prog 69 = true := by kernel_rfl
/-- leapfrog/leapfroglaw08.tail -/
def c70 : Go.SL.CC := S (O 2 (.new 32 #[.int .i64 0, .int .i64 0, .int .u64 0, .int .i64 0, .int .u64 0])<|O 3 (.agg [.c (i 3) 0 1, .z (.int .u64 0)])<|
O 5 (.agg [.c (t 0) 0 1, .z (.int .u64 0)])<|O 6 (.agg [.c (i 1) 0 1, .c (t 3) 0 2, .c (t 3) 1 2, .c (t 5) 0 2, .c (t 5) 1 2])<|N (.st 5 (t 2) (t 6))<|E)<|R
theorem b70 : bodyO 16 0 Try.prog 70 = some (7, [.c 2 (some 5)], c70) := by kernel_rfl
theorem k70 : callOk Try.prog 70 = true := by kernel_rfl
/-- leapfrog/leapfroglaw08.awake -/
def c30 : Go.SL.CC := S (V 0 (b false)<|O 18 (.agg [.c (i 1) 0 1, .c (i 1) 0 1])<|O 19 (.agg [.c (i 2) 0 1, .c (i 1) 0 1])<|O 1 (.new 77 #[.int .i64 0, .int .i64 0])<|
O 2 (.new 77 #[.int .i64 0, .int .i64 0])<|N (.st 2 (t 1) (t 18))<|N (.st 2 (t 2) (t 19))<|O 20 (.agg [.c (i 1) 0 1, .c (u 1) 0 1])<|
O 3 (.new 30 #[.int .i64 0, .int .u64 0])<|N (.st 2 (t 3) (t 20))<|C 22 67 [u 5]<|O 23 (.agg [.c (i 2) 0 1, .c (u 2) 0 1])<|
O 24 (.agg [.c (i 5) 0 1, .c (t 22) 0 2, .c (t 22) 1 2, .c (t 23) 0 2, .c (t 23) 1 2])<|C 25 66 [t 24]<|X 26 25 0<|X 27 25 1<|V 4 (t 26)<|
O 30 (.bini .neq (t 27) (i 0))<|H 32 (.cmp .p false (t 4) (k (.pointer none))) 30<|O 33 (.pick (t 30) (b true) (t 32))<|E)<|Q (I (t 33) (S (V 0 (b false)<|E)<|
R) (Z))<|S (M 35 2 3<|M 38 2 1<|C 36 69 [i 2]<|A 35 (.ld (some 2) (t 3))<|A 38 (.ld (some 2) (t 1))<|C 37 70 [i 2]<|A 35 (.ld (some 2) (t 3))<|
A 38 (.ld (some 2) (t 1))<|C 39 68 [t 4, t 35, t 36, t 37, t 38]<|C 40 67 [u 9]<|O 41 (.agg [.c (i 2) 0 1, .z (.int .u64 0)])<|
O 42 (.agg [.c (i 9) 0 1, .c (t 40) 0 2, .c (t 40) 1 2, .c (t 41) 0 2, .c (t 41) 1 2])<|
O 7 (.new 32 #[.int .i64 0, .int .i64 0, .int .u64 0, .int .i64 0, .int .u64 0])<|N (.st 5 (t 7) (t 42))<|M 44 2 3<|M 45 5 7<|M 46 2 2<|M 49 2 3<|M 50 5 7<|
M 51 2 1<|C 47 71 [t 4, t 44, t 45, t 46]<|A 49 (.ld (some 2) (t 3))<|A 50 (.ld (some 5) (t 7))<|A 51 (.ld (some 2) (t 1))<|C 52 71 [t 4, t 49, t 50, t 51]<|
M 55 2 3<|C 56 72 [t 4, t 55]<|X 57 56 0<|X 58 56 1<|
O 10 (.new 80 #[.int .i64 0, .int .u64 0, .int .i64 0, .int .i64 0, .int .u64 0, .int .i64 0, .int .u64 0, .int .i64 0, .int .i64 0, .int .u64 0, .int .i64 0, .int .u64 0, .bool false, .int .i64 0, .int .i64 0, .slice none 0 0])<|
N (.st 16 (t 10) (t 57))<|M 61 2 3<|M 62 2 2<|C 63 73 [t 4, t 61, t 62]<|X 64 63 0<|X 65 63 1<|M 68 2 3<|M 69 2 1<|C 70 74 [t 4, t 68, t 69]<|X 71 70 0<|
X 72 70 1<|M 75 2 3<|C 76 72 [t 4, t 75]<|X 77 76 0<|X 78 76 1<|
O 16 (.new 80 #[.int .i64 0, .int .u64 0, .int .i64 0, .int .i64 0, .int .u64 0, .int .i64 0, .int .u64 0, .int .i64 0, .int .i64 0, .int .u64 0, .int .i64 0, .int .u64 0, .bool false, .int .i64 0, .int .i64 0, .slice none 0 0])<|
N (.st 16 (t 16) (t 77))<|O 81 (.bini .eql (t 39) (i 0))<|G 83 (.bini .eql (t 47) (i 71)) 81<|O 85 (.pick (t 81) (t 83) (b false))<|
G 87 (.bini .eql (t 52) (i 0)) 85<|O 89 (.pick (t 85) (t 87) (b false))<|G 90 (.mv (t 58)) 89<|O 92 (.pick (t 89) (t 90) (b false))<|G 93 (.fa 7 (t 10)) 92<|
G 94 (.ld (some 5) (t 93)) 92<|G 95 (.ld (some 5) (t 7)) 92<|G 96 (.eqs false [.i, .i, .i, .i, .i] (t 94) (t 95)) 92<|O 98 (.pick (t 92) (t 96) (b false))<|
G 100 (.un .not (t 64)) 98<|O 102 (.pick (t 98) (t 100) (b false))<|G 104 (.bini .eql (t 65) (i 0)) 102<|O 106 (.pick (t 102) (t 104) (b false))<|
G 108 (.ln (t 71)) 106<|G 109 (.bini .eql (t 108) (i 1)) 106<|O 111 (.pick (t 106) (t 109) (b false))<|G 113 (.ia 2 (t 71) (i 0)) 111<|
G 114 (.ld (some 2) (t 113)) 111<|G 115 (.ld (some 2) (t 2)) 111<|G 116 (.eqs false [.i, .i] (t 114) (t 115)) 111<|O 118 (.pick (t 111) (t 116) (b false))<|
G 120 (.bini .eql (t 72) (i 0)) 118<|O 122 (.pick (t 118) (t 120) (b false))<|G 124 (.un .not (t 78)) 122<|O 0 (.pick (t 122) (t 124) (b false))<|E)<|R
theorem b30 : bodyO 11303803295420090876584317154895264608 45361246691757537485403428946175852544 Try.prog 30 = some (126, [.t 0], c30) := by kernel_rfl
theorem k30 : callOk Try.prog 30 = true := by kernel_rfl
end Go.Proofs.Ytnipmjpdklbbcaa
