/- The bodies of some functions of the program, without their noise, and that they are these. Conditions: none. Written by a program of this workplace (Print.lean). -/
import Derived.Test.YtienlpaehgdpaaaProg
import Derived.Test.YtienlpaehgdpaaaSlW
import Derived.KernelRfl
namespace Go.Proofs.Ytienlpaehgdpaaa
open Go.SL Go.SL.W
set_option maxRecDepth 100000

/-- leapfrog/msg.CheckAsk -/
def c54 : Go.SL.CC := S (O 1 (.box 58 (t 0))<|V 2 (i 0)<|M 6 15 1<|C 7 84 [t 6]<|X 8 7 0<|X 9 7 1<|O 11 (.un .not (t 9))<|E)<|Q (I (t 11) (S (V 2 (i 40)<|E)<|R) (Z))<|S (V 2 (i 0)<|
E)<|R
theorem b54 : bodyO 1080 0 Try.prog 54 = some (12, [.t 2], c54) := by kernel_rfl
theorem k54 : callOk Try.prog 54 = true := by kernel_rfl
/-- leapfrog/msg.Check -/
def c57 : Go.SL.CC := S (O 1 (.box 63 (t 0))<|V 2 (i 0)<|E)<|Q (B 0 (S (F 4 5 1<|L 5 4<|O 7 (.bini .lss (t 5) (i 1))<|H 8 (.fa 5 (t 1)) 7<|H 9 (.ld none (t 8)) 7<|
H 10 (.bini .gtr (t 9) (i 4611686018427387904)) 7<|O 3 (.pick (t 7) (b true) (t 10))<|E)<|I (t 3) (S (V 2 (i 40)<|E)<|R) (S (F 13 0 1<|L 15 13<|
G 16 (.fa 6 (t 1)) 15<|G 17 (.ld (some 15) (t 16)) 15<|
G 18 (.agg [.z (.int .i64 0), .z (.int .i64 0), .z (.int .u64 0), .z (.int .i64 0), .z (.int .i64 0), .z (.int .u64 0), .z (.int .i64 0), .z (.int .u64 0), .z (.int .i64 0), .z (.int .i64 0), .z (.int .u64 0), .z (.int .i64 0), .z (.int .u64 0), .z (.int .i64 0), .z (.int .i64 0)]) 15<|
G 19 (.eqs false [.i, .i, .i, .i, .i, .i, .i, .i, .i, .i, .i, .i, .i, .i, .i] (t 17) (t 18)) 15<|O 12 (.pick (t 15) (t 19) (b false))<|E)<|
I (t 12) (S (F 21 21 1<|M 22 13 21<|C 2 86 [t 22]<|E)<|R) (S (F 25 0 1<|L 26 25<|O 28 (.un .not (t 26))<|G 29 (.fa 21 (t 1)) 28<|
G 30 (.ld (some 13) (t 29)) 28<|
G 31 (.agg [.z (.int .i64 0), .z (.bool false), .z (.int .i64 0), .z (.int .i64 0), .z (.int .u64 0), .z (.int .i64 0), .z (.int .u64 0), .z (.int .i64 0), .z (.int .i64 0), .z (.int .u64 0), .z (.int .i64 0), .z (.int .u64 0), .z (.slice none 0 0)]) 28<|
G 32 (.call (f 87) [t 30, t 31]) 28<|O 24 (.pick (t 28) (t 32) (b false))<|E)<|I (t 24) (S (F 34 6 1<|M 35 15 34<|C 2 54 [t 35]<|E)<|R) (Z)))))<|S (V 2 (i 40)<|
E)<|R
theorem b57 : bodyO 0 77453084736 Try.prog 57 = some (37, [.t 2], c57) := by kernel_rfl
theorem k57 : callOk Try.prog 57 = true := by kernel_rfl
/-- leapfrog/msg.Reply -/
def c62 : Go.SL.CC := S (O 2 (.box 63 (t 0))<|O 3 (.box 61 (t 1))<|
O 4 (.new 63 #[.bool false, .bool false, .int .i64 0, .bool false, .int .i64 0, .int .i64 0, .int .i64 0, .int .i64 0, .int .u64 0, .int .i64 0, .int .i64 0, .int .u64 0, .int .i64 0, .int .u64 0, .int .i64 0, .int .i64 0, .int .u64 0, .int .i64 0, .int .u64 0, .int .i64 0, .int .i64 0, .int .i64 0, .bool false, .int .i64 0, .int .i64 0, .int .u64 0, .int .i64 0, .int .u64 0, .int .i64 0, .int .i64 0, .int .u64 0, .int .i64 0, .int .u64 0, .slice none 0 0])<|
V 5 (i 0)<|M 6 34 2<|C 7 57 [t 6]<|O 9 (.bini .neq (t 7) (i 0))<|H 10 (.fa 0 (t 2)) 9<|H 11 (.ld none (t 10)) 9<|O 13 (.pick (t 9) (b true) (t 11))<|
H 14 (.ld (some 13) (t 3)) 13<|H 15 (.call (f 86) [t 14]) 13<|H 16 (.bini .neq (t 15) (i 0)) 13<|O 17 (.pick (t 13) (b true) (t 16))<|E)<|
Q (I (t 17) (S (O 18 (.agg [.z (.bool false), .z (.bool false), .z (.int .i64 0), .z (.bool false), .z (.int .i64 0), .z (.int .i64 0), .z (.int .i64 0), .z (.int .i64 0), .z (.int .u64 0), .z (.int .i64 0), .z (.int .i64 0), .z (.int .u64 0), .z (.int .i64 0), .z (.int .u64 0), .z (.int .i64 0), .z (.int .i64 0), .z (.int .u64 0), .z (.int .i64 0), .z (.int .u64 0), .z (.int .i64 0), .z (.int .i64 0), .z (.int .i64 0), .z (.bool false), .z (.int .i64 0), .z (.int .i64 0), .z (.int .u64 0), .z (.int .i64 0), .z (.int .u64 0), .z (.int .i64 0), .z (.int .i64 0), .z (.int .u64 0), .z (.int .i64 0), .z (.int .u64 0), .z (.slice none 0 0)])<|
N (.st 34 (t 4) (t 18))<|V 5 (i 40)<|E)<|R) (Z))<|S (F 19 12 3<|L 20 19<|C 21 88 [t 20]<|F 22 12 3<|N (.st 1 (t 22) (t 21))<|F 23 3 2<|M 24 2 23<|F 25 1 2<|
M 26 2 25<|F 27 5 2<|L 28 27<|M 29 13 3<|
O 30 (.agg [.c (b true) 0 1, .c (t 24) 0 2, .c (t 24) 1 2, .c (t 26) 0 2, .c (t 26) 1 2, .c (t 28) 0 1, .z (.int .i64 0), .z (.int .i64 0), .z (.int .u64 0), .z (.int .i64 0), .z (.int .i64 0), .z (.int .u64 0), .z (.int .i64 0), .z (.int .u64 0), .z (.int .i64 0), .z (.int .i64 0), .z (.int .u64 0), .z (.int .i64 0), .z (.int .u64 0), .z (.int .i64 0), .z (.int .i64 0), .c (t 29) 0 13, .c (t 29) 1 13, .c (t 29) 2 13, .c (t 29) 3 13, .c (t 29) 4 13, .c (t 29) 5 13, .c (t 29) 6 13, .c (t 29) 7 13, .c (t 29) 8 13, .c (t 29) 9 13, .c (t 29) 10 13, .c (t 29) 11 13, .c (t 29) 12 13])<|
N (.st 34 (t 4) (t 30))<|V 5 (i 0)<|E)<|R
theorem b62 : bodyO 0 4352 Try.prog 62 = some (31, [.c 4 (some 34), .t 5], c62) := by kernel_rfl
theorem k62 : callOk Try.prog 62 = true := by kernel_rfl
/-- leapfrog/msg.ask -/
def c84 : Go.SL.CC := S (O 1 (.box 58 (t 0))<|V 2 (k (.slice none 0 0))<|V 3 (b false)<|F 13 0 1<|L 14 13<|C 15 122 [t 14]<|X 16 15 0<|X 17 15 1<|V 4 (t 16)<|O 19 (.un .not (t 17))<|
E)<|Q (I (t 19) (S (V 2 (k (.slice none 0 0))<|V 3 (b false)<|E)<|R) (Z))<|S (V 6 (k (.slice none 0 0))<|F 20 3 1<|M 21 5 20<|F 22 8 1<|M 23 5 22<|F 25 13 1<|
F 26 0 25<|L 27 26<|F 28 13 1<|F 29 1 28<|L 30 29<|
.both (O 24 (.bsl 29 [.c (t 21) 0 5, .c (t 21) 1 5, .c (t 21) 2 5, .c (t 21) 3 5, .c (t 21) 4 5, .c (t 23) 0 5, .c (t 23) 1 5, .c (t 23) 2 5, .c (t 23) 3 5, .c (t 23) 4 5] 2)<|
V 7 (t 24)<|O 31 (.bsl 3 [.c (t 27) 0 1, .c (t 30) 0 1] 2)<|V 8 (t 31)<|E) (O 31 (.bsl 3 [.c (t 27) 0 1, .c (t 30) 0 1] 2)<|
O 24 (.bsl 29 [.c (t 21) 0 5, .c (t 21) 1 5, .c (t 21) 2 5, .c (t 21) 3 5, .c (t 21) 4 5, .c (t 23) 0 5, .c (t 23) 1 5, .c (t 23) 2 5, .c (t 23) 3 5, .c (t 23) 4 5] 2)<|
V 7 (t 24)<|V 8 (t 31)<|E))<|S (V 32 (t 4)<|O 33 (.ln (t 32))<|V 34 (i 0)<|E)<|Q (P 0 (S (O 35 (.bini .lss (t 34) (t 33))<|E)<|Q (I (t 35) (Z) (J 0))<|
Q (B 1 (S (O 36 (.ia 1 (t 32) (t 34))<|L 37 36<|
O 39 (.agg [.c (t 37) 0 1, .z (.int .u64 0), .z (.int .i64 0), .z (.bool false), .z (.slice none 0 0), .z (.int .i64 0), .z (.int .u64 0), .z (.int .i64 0), .z (.int .u64 0), .z (.int .i64 0), .z (.int .i64 0), .z (.int .u64 0), .z (.int .i64 0), .z (.int .u64 0)])<|
O 11 (.new 224 #[.int .i64 0, .int .u64 0, .int .i64 0, .bool false, .slice none 0 0, .int .i64 0, .int .u64 0, .int .i64 0, .int .u64 0, .int .i64 0, .int .i64 0, .int .u64 0, .int .i64 0, .int .u64 0])<|
N (.st 14 (t 11) (t 39))<|V 40 (t 37)<|E)<|Q (B 2 (S (O 41 (.bini .eql (t 40) (i 5))<|E)<|I (t 41) (Y (F 43 1 1<|M 44 2 43<|F 45 5 11<|N (.st 2 (t 45) (t 44))<|
E)) (S (O 46 (.bini .eql (t 40) (i 7))<|E)<|I (t 46) (Y (O 49 (.ia 5 (t 7) (i 0))<|M 50 5 49<|O 52 (.sl 5 (t 7) (some (i 1)) none none)<|F 53 9 11<|
N (.st 5 (t 53) (t 50))<|V 7 (t 52)<|E)) (S (O 54 (.bini .eql (t 40) (i 2))<|E)<|I (t 54) (Y (O 57 (.ia 1 (t 8) (i 0))<|L 58 57<|
O 60 (.sl 1 (t 8) (some (i 1)) none none)<|F 61 2 11<|N (.st 1 (t 61) (t 58))<|V 8 (t 60)<|E)) (Z)))))<|S (M 62 14 11<|C 63 123 [t 62]<|
O 64 (.bini .neq (t 63) (i 0))<|E)<|Q (I (t 64) (S (V 2 (k (.slice none 0 0))<|V 3 (b false)<|E)<|R) (Z))<|Y (M 66 14 11<|
O 67 (.bsl 224 [.c (t 66) 0 14, .c (t 66) 1 14, .c (t 66) 2 14, .c (t 66) 3 14, .c (t 66) 4 14, .c (t 66) 5 14, .c (t 66) 6 14, .c (t 66) 7 14, .c (t 66) 8 14, .c (t 66) 9 14, .c (t 66) 10 14, .c (t 66) 11 14, .c (t 66) 12 14, .c (t 66) 13 14] 1)<|
O 6 (.ap 224 14 128 #[.int .i64 0, .int .u64 0, .int .i64 0, .bool false, .slice none 0 0, .int .i64 0, .int .u64 0, .int .i64 0, .int .u64 0, .int .i64 0, .int .i64 0, .int .u64 0, .int .i64 0, .int .u64 0] (t 6) (t 67))<|
E)))<|Y (O 34 (.bini .add (t 34) (i 1))<|E)))<|S (F 71 0 1<|L 72 71<|M 75 15 1<|C 74 124 [t 72, t 6]<|A 75 (.ld (some 15) (t 1))<|
O 76 (.eqs false [.i, .i, .i, .i, .i, .i, .i, .i, .i, .i, .i, .i, .i, .i, .i] (t 74) (t 75))<|V 2 (t 6)<|V 3 (t 76)<|E)<|R
theorem b84 : bodyO 10662869126500130755616 885479889470612307968 Try.prog 84 = some (77, [.t 2, .t 3], c84) := by kernel_rfl
theorem k84 : callOk Try.prog 84 = true := by kernel_rfl
/-- leapfrog/msg.CheckAnswer -/
def c86 : Go.SL.CC := S (O 1 (.box 61 (t 0))<|V 2 (i 0)<|V 3 (b false)<|F 4 0 1<|L 5 4<|E)<|Q (B 0 (S (O 6 (.bini .eql (t 5) (i 1))<|E)<|I (t 6) (Y (F 8 2 1<|M 9 5 8<|
C 11 125 [t 9]<|G 12 (.fa 7 (t 1)) 11<|G 13 (.ld (some 5) (t 12)) 11<|G 14 (.call (f 125) [t 13]) 11<|O 16 (.pick (t 11) (t 14) (b false))<|
G 17 (.fa 12 (t 1)) 16<|G 18 (.ld none (t 17)) 16<|G 19 (.ln (t 18)) 16<|G 20 (.bini .leq (t 19) (i 1024)) 16<|O 3 (.pick (t 16) (t 20) (b false))<|
E)) (S (O 22 (.bini .eql (t 5) (i 3))<|E)<|I (t 22) (Y (F 24 2 1<|M 25 5 24<|C 27 125 [t 25]<|G 28 (.fa 7 (t 1)) 27<|G 29 (.ld (some 5) (t 28)) 27<|
G 30 (.call (f 125) [t 29]) 27<|O 32 (.pick (t 27) (t 30) (b false))<|G 33 (.fa 12 (t 1)) 32<|G 34 (.ld none (t 33)) 32<|G 35 (.ln (t 34)) 32<|
G 36 (.bini .eql (t 35) (i 0)) 32<|O 3 (.pick (t 32) (t 36) (b false))<|E)) (S (O 38 (.bini .eql (t 5) (i 2))<|E)<|
Q (I (t 38) (Z) (Y (O 38 (.bini .eql (t 5) (i 4))<|E)))<|I (t 38) (Y (M 41 13 1<|F 42 0 1<|L 43 42<|
O 44 (.agg [.c (t 43) 0 1, .z (.bool false), .z (.int .i64 0), .z (.int .i64 0), .z (.int .u64 0), .z (.int .i64 0), .z (.int .u64 0), .z (.int .i64 0), .z (.int .i64 0), .z (.int .u64 0), .z (.int .i64 0), .z (.int .u64 0), .z (.slice none 0 0)])<|
C 3 87 [t 41, t 44]<|E)) (Z)))))<|S (O 47 (.un .not (t 3))<|E)<|Q (I (t 47) (S (V 2 (i 40)<|E)<|R) (Z))<|S (V 2 (i 0)<|E)<|R
theorem b86 : bodyO 70368744177664 36973303596160 Try.prog 86 = some (48, [.t 2], c86) := by kernel_rfl
theorem k86 : callOk Try.prog 86 = true := by kernel_rfl
/-- leapfrog/msg.SameAnswer -/
def c87 : Go.SL.CC := S (O 2 (.box 61 (t 0))<|O 3 (.box 61 (t 1))<|V 4 (b false)<|F 5 0 2<|L 6 5<|F 7 0 3<|L 8 7<|O 10 (.bini .eql (t 6) (t 8))<|G 11 (.fa 1 (t 2)) 10<|
G 12 (.ld none (t 11)) 10<|G 13 (.fa 1 (t 3)) 10<|G 14 (.ld none (t 13)) 10<|G 15 (.cmp .b false (t 12) (t 14)) 10<|O 17 (.pick (t 10) (t 15) (b false))<|
G 18 (.fa 2 (t 2)) 17<|G 19 (.ld (some 5) (t 18)) 17<|G 20 (.fa 2 (t 3)) 17<|G 21 (.ld (some 5) (t 20)) 17<|
G 22 (.eqs false [.i, .i, .i, .i, .i] (t 19) (t 21)) 17<|O 24 (.pick (t 17) (t 22) (b false))<|G 25 (.fa 7 (t 2)) 24<|G 26 (.ld (some 5) (t 25)) 24<|
G 27 (.fa 7 (t 3)) 24<|G 28 (.ld (some 5) (t 27)) 24<|G 29 (.eqs false [.i, .i, .i, .i, .i] (t 26) (t 28)) 24<|O 31 (.pick (t 24) (t 29) (b false))<|
G 32 (.fa 12 (t 2)) 31<|G 33 (.ld none (t 32)) 31<|G 34 (.fa 12 (t 3)) 31<|G 35 (.ld none (t 34)) 31<|G 36 (.call (f 126) [t 33, t 35]) 31<|
O 4 (.pick (t 31) (t 36) (b false))<|E)<|R
theorem b87 : bodyO 0 138521149952 Try.prog 87 = some (38, [.t 4], c87) := by kernel_rfl
theorem k87 : callOk Try.prog 87 = true := by kernel_rfl
/-- leapfrog/msg.needs -/
def c122 : Go.SL.CC := S (V 2 (k (.slice none 0 0))<|V 3 (b false)<|V 4 (k (.slice none 0 0))<|V 5 (t 0)<|E)<|
Q (B 0 (Q (B 7 (Q (B 6 (Q (B 5 (Q (B 4 (Q (B 3 (Q (B 2 (Q (B 1 (S (O 6 (.bini .eql (t 5) (i 7))<|E)<|Q (I (t 6) (J 1) (Z))<|S (O 8 (.bini .eql (t 5) (i 5))<|
E)<|Q (I (t 8) (J 2) (Z))<|S (O 10 (.bini .eql (t 5) (i 3))<|E)<|Q (I (t 10) (Z) (S (O 10 (.bini .eql (t 5) (i 4))<|E)<|
I (t 10) (Z) (Y (O 10 (.bini .eql (t 5) (i 8))<|E))))<|Q (I (t 10) (J 3) (Z))<|S (O 14 (.bini .eql (t 5) (i 1))<|E)<|Q (I (t 14) (J 4) (Z))<|
S (O 16 (.bini .eql (t 5) (i 6))<|E)<|Q (I (t 16) (J 5) (Z))<|S (O 18 (.bini .eql (t 5) (i 2))<|E)<|Q (I (t 18) (Z) (S (O 18 (.bini .eql (t 5) (i 9))<|E)<|
I (t 18) (Z) (Y (O 18 (.bini .eql (t 5) (i 10))<|E))))<|Q (I (t 18) (J 6) (Z))<|J 7))<|Y (O 23 (.bsl 222 [.c (i 7) 0 1] 1)<|
O 4 (.ap 222 1 8 #[.int .i64 0] (t 4) (t 23))<|E)))<|Y (O 26 (.bsl 222 [.c (i 7) 0 1] 1)<|O 4 (.ap 222 1 8 #[.int .i64 0] (t 4) (t 26))<|E)))<|
Y (O 29 (.bsl 222 [.c (i 2) 0 1, .c (i 2) 0 1] 2)<|O 4 (.ap 222 1 8 #[.int .i64 0] (t 4) (t 29))<|E)))<|S (O 31 (.bsl 222 [.c (i 5) 0 1] 1)<|
O 4 (.ap 222 1 8 #[.int .i64 0] (t 31) (t 4))<|E)<|J 0))<|S (O 35 (.bsl 222 [.c (i 5) 0 1, .c (i 7) 0 1] 2)<|O 4 (.ap 222 1 8 #[.int .i64 0] (t 4) (t 35))<|E)<|
J 0))<|J 0))<|S (V 2 (k (.slice none 0 0))<|V 3 (b false)<|E)<|R))<|S (V 2 (t 4)<|V 3 (b true)<|E)<|R
theorem b122 : bodyO 159219974144 78537996928 Try.prog 122 = some (38, [.t 2, .t 3], c122) := by kernel_rfl
theorem k122 : callOk Try.prog 122 = true := by kernel_rfl
/-- leapfrog/msg.made -/
def c124 : Go.SL.CC := 
S (O 4 (.new 58 #[.int .i64 0, .int .i64 0, .int .u64 0, .int .i64 0, .int .i64 0, .int .u64 0, .int .i64 0, .int .u64 0, .int .i64 0, .int .i64 0, .int .u64 0, .int .i64 0, .int .u64 0, .int .i64 0, .int .i64 0])<|
O 11 (.agg [.c (t 0) 0 1, .z (.int .i64 0), .z (.int .u64 0), .z (.int .i64 0), .z (.int .i64 0), .z (.int .u64 0), .z (.int .i64 0), .z (.int .u64 0), .z (.int .i64 0), .z (.int .i64 0), .z (.int .u64 0), .z (.int .i64 0), .z (.int .u64 0), .z (.int .i64 0), .z (.int .i64 0)])<|
O 5 (.new 58 #[.int .i64 0, .int .i64 0, .int .u64 0, .int .i64 0, .int .i64 0, .int .u64 0, .int .i64 0, .int .u64 0, .int .i64 0, .int .i64 0, .int .u64 0, .int .i64 0, .int .u64 0, .int .i64 0, .int .i64 0])<|
N (.st 15 (t 5) (t 11))<|V 6 (i 0)<|V 7 (i 0)<|V 12 (t 1)<|O 13 (.ln (t 12))<|V 14 (i 0)<|E)<|Q (P 0 (S (O 15 (.bini .lss (t 14) (t 13))<|E)<|
Q (I (t 15) (Z) (J 0))<|Q (B 1 (S (O 16 (.ia 14 (t 12) (t 14))<|M 17 14 16<|
O 9 (.new 224 #[.int .i64 0, .int .u64 0, .int .i64 0, .bool false, .slice none 0 0, .int .i64 0, .int .u64 0, .int .i64 0, .int .u64 0, .int .i64 0, .int .i64 0, .int .u64 0, .int .i64 0, .int .u64 0])<|
N (.st 14 (t 9) (t 17))<|E)<|B 2 (S (F 23 0 9<|L 24 23<|O 22 (.bini .eql (t 24) (i 5))<|E)<|I (t 22) (Y (F 26 5 9<|M 27 2 26<|F 28 1 5<|
N (.st 2 (t 28) (t 27))<|E)) (S (F 30 0 9<|L 31 30<|O 33 (.bini .eql (t 31) (i 7))<|G 35 (.bini .eql (t 6) (i 0)) 33<|O 29 (.pick (t 33) (t 35) (b false))<|E)<|
I (t 29) (Y (F 37 9 9<|M 38 5 37<|F 39 3 5<|N (.st 5 (t 39) (t 38))<|O 6 (.bini .add (t 6) (i 1))<|E)) (S (F 43 0 9<|L 44 43<|O 42 (.bini .eql (t 44) (i 7))<|
E)<|I (t 42) (Y (F 46 9 9<|M 47 5 46<|F 48 8 5<|N (.st 5 (t 48) (t 47))<|E)) (S (O 49 (.bini .eql (t 7) (i 0))<|E)<|I (t 49) (Y (F 52 2 9<|L 53 52<|F 54 13 5<|
F 55 0 54<|N (.st 1 (t 55) (t 53))<|O 7 (.bini .add (t 7) (i 1))<|E)) (Y (F 18 2 9<|L 19 18<|F 20 13 5<|F 21 1 20<|N (.st 1 (t 21) (t 19))<|E))))))))<|
Y (O 14 (.bini .add (t 14) (i 1))<|E)))<|S (M 59 15 5<|N (.st 15 (t 4) (t 59))<|E)<|R
theorem b124 : bodyO 73184610636268544 434634820484595712 Try.prog 124 = some (60, [.c 4 (some 15)], c124) := by kernel_rfl
theorem k124 : callOk Try.prog 124 = true := by kernel_rfl
/-- leapfrog/msg.side -/
def c125 : Go.SL.CC := S (O 1 (.box 29 (t 0))<|V 2 (b false)<|M 3 5 1<|O 4 (.agg [.z (.int .i64 0), .z (.int .i64 0), .z (.int .u64 0), .z (.int .i64 0), .z (.int .u64 0)])<|
O 6 (.eqs false [.i, .i, .i, .i, .i] (t 3) (t 4))<|H 7 (.ld (some 5) (t 1)) 6<|
H 8 (.agg [.c (i 7) 0 1, .z (.int .u64 0), .z (.int .i64 0), .z (.bool false), .z (.slice none 0 0), .z (.int .i64 0), .z (.int .u64 0), .z (.int .i64 0), .z (.int .u64 0), .c (t 7) 0 5, .c (t 7) 1 5, .c (t 7) 2 5, .c (t 7) 3 5, .c (t 7) 4 5]) 6<|
H 9 (.call (f 123) [t 8]) 6<|H 10 (.bini .eql (t 9) (i 0)) 6<|O 2 (.pick (t 6) (b true) (t 10))<|E)<|R
theorem b125 : bodyO 0 2080 Try.prog 125 = some (12, [.t 2], c125) := by kernel_rfl
theorem k125 : callOk Try.prog 125 = true := by kernel_rfl
/-- leapfrog/pack.Check -/
def c123 : Go.SL.CC := S (O 1 (.box 224 (t 0))<|V 2 (i 0)<|M 6 14 1<|C 7 150 [t 6]<|X 8 7 0<|X 9 7 1<|
O 3 (.new 224 #[.int .i64 0, .int .u64 0, .int .i64 0, .bool false, .slice none 0 0, .int .i64 0, .int .u64 0, .int .i64 0, .int .u64 0, .int .i64 0, .int .i64 0, .int .u64 0, .int .i64 0, .int .u64 0])<|
N (.st 14 (t 3) (t 8))<|V 4 (t 9)<|O 12 (.un .not (t 4))<|H 13 (.ld (some 14) (t 3)) 12<|H 14 (.ld (some 14) (t 1)) 12<|H 15 (.call (f 151) [t 13, t 14]) 12<|
H 16 (.un .not (t 15)) 12<|O 17 (.pick (t 12) (b true) (t 16))<|E)<|Q (I (t 17) (S (V 2 (i 30)<|E)<|R) (Z))<|S (F 18 0 1<|L 19 18<|E)<|
Q (B 0 (S (O 20 (.bini .eql (t 19) (i 4))<|E)<|I (t 20) (Y (F 22 4 1<|L 23 22<|O 24 (.ln (t 23))<|O 4 (.bini .leq (t 24) (i 65536))<|
E)) (S (O 26 (.bini .eql (t 19) (i 5))<|E)<|I (t 26) (Y (F 28 5 1<|M 29 2 28<|C 30 65 [t 29]<|O 4 (.bini .eql (t 30) (i 0))<|
E)) (S (O 32 (.bini .eql (t 19) (i 6))<|E)<|I (t 32) (Y (F 34 7 1<|M 35 2 34<|C 36 90 [t 35]<|O 4 (.bini .eql (t 36) (i 0))<|
E)) (S (O 38 (.bini .eql (t 19) (i 7))<|E)<|I (t 38) (Y (F 40 9 1<|F 41 1 40<|M 42 2 41<|C 43 90 [t 42]<|O 45 (.bini .eql (t 43) (i 0))<|G 46 (.fa 9 (t 1)) 45<|
G 47 (.fa 3 (t 46)) 45<|G 48 (.ld (some 2) (t 47)) 45<|G 49 (.call (f 65) [t 48]) 45<|G 50 (.bini .eql (t 49) (i 0)) 45<|O 4 (.pick (t 45) (t 50) (b false))<|
E)) (Z))))))<|S (O 53 (.un .not (t 4))<|E)<|Q (I (t 53) (S (V 2 (i 30)<|E)<|R) (Z))<|S (V 2 (i 0)<|E)<|R
theorem b123 : bodyO 4503599627371552 2270090101786624 Try.prog 123 = some (54, [.t 2], c123) := by kernel_rfl
theorem k123 : callOk Try.prog 123 = true := by kernel_rfl
/-- leapfrog/pack.only -/
def c150 : Go.SL.CC := S (O 1 (.box 224 (t 0))<|
O 2 (.new 224 #[.int .i64 0, .int .u64 0, .int .i64 0, .bool false, .slice none 0 0, .int .i64 0, .int .u64 0, .int .i64 0, .int .u64 0, .int .i64 0, .int .i64 0, .int .u64 0, .int .i64 0, .int .u64 0])<|
V 3 (b false)<|F 5 0 1<|L 6 5<|
O 7 (.agg [.c (t 6) 0 1, .z (.int .u64 0), .z (.int .i64 0), .z (.bool false), .z (.slice none 0 0), .z (.int .i64 0), .z (.int .u64 0), .z (.int .i64 0), .z (.int .u64 0), .z (.int .i64 0), .z (.int .i64 0), .z (.int .u64 0), .z (.int .i64 0), .z (.int .u64 0)])<|
O 4 (.new 224 #[.int .i64 0, .int .u64 0, .int .i64 0, .bool false, .slice none 0 0, .int .i64 0, .int .u64 0, .int .i64 0, .int .u64 0, .int .i64 0, .int .i64 0, .int .u64 0, .int .i64 0, .int .u64 0])<|
N (.st 14 (t 4) (t 7))<|F 8 0 1<|L 9 8<|E)<|Q (B 0 (S (O 11 (.bini .eql (t 9) (i 1))<|E)<|I (t 11) (Y (F 13 1 1<|L 14 13<|F 15 1 4<|N (.st 1 (t 15) (t 14))<|
E)) (S (O 16 (.bini .eql (t 9) (i 2))<|E)<|I (t 16) (Y (F 18 2 1<|L 19 18<|F 20 2 4<|N (.st 1 (t 20) (t 19))<|E)) (S (O 21 (.bini .eql (t 9) (i 3))<|E)<|
I (t 21) (Y (F 23 3 1<|L 24 23<|F 25 3 4<|N (.st 1 (t 25) (t 24))<|E)) (S (O 26 (.bini .eql (t 9) (i 4))<|E)<|I (t 26) (Y (F 28 4 1<|L 29 28<|F 30 4 4<|
N (.st 1 (t 30) (t 29))<|E)) (S (O 31 (.bini .eql (t 9) (i 5))<|E)<|I (t 31) (Y (F 33 5 1<|M 34 2 33<|F 35 5 4<|N (.st 2 (t 35) (t 34))<|
E)) (S (O 36 (.bini .eql (t 9) (i 6))<|E)<|I (t 36) (Y (F 38 7 1<|M 39 2 38<|F 40 7 4<|N (.st 2 (t 40) (t 39))<|E)) (S (O 41 (.bini .eql (t 9) (i 7))<|E)<|
I (t 41) (Y (F 43 9 1<|M 44 5 43<|F 45 9 4<|N (.st 5 (t 45) (t 44))<|E)) (S (M 10 14 4<|N (.st 14 (t 2) (t 10))<|V 3 (b false)<|E)<|R)))))))))<|S (M 46 14 4<|
N (.st 14 (t 2) (t 46))<|V 3 (b true)<|E)<|R
theorem b150 : bodyO 0 4539918979072 Try.prog 150 = some (47, [.c 2 (some 14), .t 3], c150) := by kernel_rfl
theorem k150 : callOk Try.prog 150 = true := by kernel_rfl
/-- leapfrog/pack.Same -/
def c151 : Go.SL.CC := S (O 2 (.box 224 (t 0))<|O 3 (.box 224 (t 1))<|V 4 (b false)<|F 5 0 2<|L 6 5<|F 7 0 3<|L 8 7<|O 10 (.bini .eql (t 6) (t 8))<|G 11 (.fa 1 (t 2)) 10<|
G 12 (.ld none (t 11)) 10<|G 13 (.fa 1 (t 3)) 10<|G 14 (.ld none (t 13)) 10<|G 15 (.bini .eql (t 12) (t 14)) 10<|O 17 (.pick (t 10) (t 15) (b false))<|
G 18 (.fa 2 (t 2)) 17<|G 19 (.ld none (t 18)) 17<|G 20 (.fa 2 (t 3)) 17<|G 21 (.ld none (t 20)) 17<|G 22 (.bini .eql (t 19) (t 21)) 17<|
O 24 (.pick (t 17) (t 22) (b false))<|G 25 (.fa 3 (t 2)) 24<|G 26 (.ld none (t 25)) 24<|G 27 (.fa 3 (t 3)) 24<|G 28 (.ld none (t 27)) 24<|
G 29 (.cmp .b false (t 26) (t 28)) 24<|O 31 (.pick (t 24) (t 29) (b false))<|G 32 (.fa 4 (t 2)) 31<|G 33 (.ld none (t 32)) 31<|G 34 (.fa 4 (t 3)) 31<|
G 35 (.ld none (t 34)) 31<|G 36 (.call (f 126) [t 33, t 35]) 31<|O 38 (.pick (t 31) (t 36) (b false))<|G 39 (.fa 5 (t 2)) 38<|G 40 (.ld (some 2) (t 39)) 38<|
G 41 (.fa 5 (t 3)) 38<|G 42 (.ld (some 2) (t 41)) 38<|G 43 (.eqs false [.i, .i] (t 40) (t 42)) 38<|O 45 (.pick (t 38) (t 43) (b false))<|G 46 (.fa 7 (t 2)) 45<|
G 47 (.ld (some 2) (t 46)) 45<|G 48 (.fa 7 (t 3)) 45<|G 49 (.ld (some 2) (t 48)) 45<|G 50 (.eqs false [.i, .i] (t 47) (t 49)) 45<|
O 52 (.pick (t 45) (t 50) (b false))<|G 53 (.fa 9 (t 2)) 52<|G 54 (.ld (some 5) (t 53)) 52<|G 55 (.fa 9 (t 3)) 52<|G 56 (.ld (some 5) (t 55)) 52<|
G 57 (.eqs false [.i, .i, .i, .i, .i] (t 54) (t 56)) 52<|O 4 (.pick (t 52) (t 57) (b false))<|E)<|R
theorem b151 : bodyO 0 290499906672591360 Try.prog 151 = some (59, [.t 4], c151) := by kernel_rfl
theorem k151 : callOk Try.prog 151 = true := by kernel_rfl
/-- bytes.Equal -/
def c126 : Go.SL.CC := S (V 4 (b false)<|V 5 (t 0)<|O 6 (.raw ⟨some 6, .convert 30 9 (t 5), 9, "bytes.go:22", #[⟨0, .data⟩], none⟩)<|V 7 (t 1)<|
O 8 (.raw ⟨some 8, .convert 30 9 (t 7), 9, "bytes.go:22", #[⟨2, .data⟩], none⟩)<|O 9 (.cmp .s false (t 6) (t 8))<|V 4 (t 9)<|E)<|R
theorem b126 : bodyO 0 0 Try.prog 126 = some (10, [.t 4], c126) := by kernel_rfl
theorem k126 : callOk Try.prog 126 = true := by kernel_rfl
/-- bytes.Clone -/
def c66 : Go.SL.CC := S (V 2 (k (.slice none 0 0))<|O 4 (.cmp .sl false (t 0) (k (.slice none 0 0)))<|E)<|Q (I (t 4) (S (V 2 (k (.slice none 0 0))<|E)<|R) (Z))<|
S (O 5 (.bsl 5 [] 0)<|O 2 (.ap 5 1 1 #[.int .u8 0] (t 5) (t 0))<|E)<|R
theorem b66 : bodyO 72 128 Try.prog 66 = some (8, [.t 2], c66) := by kernel_rfl
theorem k66 : callOk Try.prog 66 = true := by kernel_rfl
/-- slices.Clone[[]byte,byte] -/
def c88 : Go.SL.CC := S (V 2 (k (.slice none 0 0))<|O 4 (.cmp .sl false (t 0) (k (.slice none 0 0)))<|E)<|Q (I (t 4) (S (V 2 (k (.slice none 0 0))<|E)<|R) (Z))<|
S (O 5 (.bsl 5 [] 0)<|O 2 (.ap 5 1 1 #[.int .u8 0] (t 5) (t 0))<|E)<|R
theorem b88 : bodyO 72 128 Try.prog 88 = some (8, [.t 2], c88) := by kernel_rfl
theorem k88 : callOk Try.prog 88 = true := by kernel_rfl
/-- leapfrog/leapfrogref04.Same -/
def c35 : Go.SL.CC := S (O 2 (.box 63 (t 0))<|O 3 (.box 63 (t 1))<|V 4 (b false)<|F 5 0 2<|L 6 5<|F 7 0 3<|L 8 7<|O 10 (.cmp .b false (t 6) (t 8))<|G 11 (.fa 1 (t 2)) 10<|
G 12 (.ld (some 2) (t 11)) 10<|G 13 (.fa 1 (t 3)) 10<|G 14 (.ld (some 2) (t 13)) 10<|G 15 (.eqs false [.b, .i] (t 12) (t 14)) 10<|
O 17 (.pick (t 10) (t 15) (b false))<|G 18 (.fa 3 (t 2)) 17<|G 19 (.ld (some 2) (t 18)) 17<|G 20 (.fa 3 (t 3)) 17<|G 21 (.ld (some 2) (t 20)) 17<|
G 22 (.eqs false [.b, .i] (t 19) (t 21)) 17<|O 24 (.pick (t 17) (t 22) (b false))<|G 25 (.fa 5 (t 2)) 24<|G 26 (.ld none (t 25)) 24<|G 27 (.fa 5 (t 3)) 24<|
G 28 (.ld none (t 27)) 24<|G 29 (.bini .eql (t 26) (t 28)) 24<|O 31 (.pick (t 24) (t 29) (b false))<|G 32 (.fa 6 (t 2)) 31<|G 33 (.ld (some 15) (t 32)) 31<|
G 34 (.fa 6 (t 3)) 31<|G 35 (.ld (some 15) (t 34)) 31<|G 36 (.eqs false [.i, .i, .i, .i, .i, .i, .i, .i, .i, .i, .i, .i, .i, .i, .i] (t 33) (t 35)) 31<|
O 38 (.pick (t 31) (t 36) (b false))<|G 39 (.fa 21 (t 2)) 38<|G 40 (.ld (some 13) (t 39)) 38<|G 41 (.fa 21 (t 3)) 38<|G 42 (.ld (some 13) (t 41)) 38<|
G 43 (.call (f 61) [t 40, t 42]) 38<|O 4 (.pick (t 38) (t 43) (b false))<|E)<|R
theorem b35 : bodyO 0 17730707194368 Try.prog 35 = some (45, [.t 4], c35) := by kernel_rfl
theorem k35 : callOk Try.prog 35 = true := by kernel_rfl
/-- leapfrog/leapfrogref04.Check -/
def c59 : Go.SL.CC := S (O 1 (.box 63 (t 0))<|V 2 (i 0)<|F 3 5 1<|L 4 3<|O 6 (.bini .lss (t 4) (i 1))<|H 7 (.fa 5 (t 1)) 6<|H 8 (.ld none (t 7)) 6<|
H 9 (.bini .gtr (t 8) (i 4611686018427387904)) 6<|O 10 (.pick (t 6) (b true) (t 9))<|E)<|Q (I (t 10) (S (V 2 (i 40)<|E)<|R) (Z))<|S (F 11 0 1<|L 12 11<|E)<|
Q (I (t 12) (S (F 13 6 1<|M 14 15 13<|
O 15 (.agg [.z (.int .i64 0), .z (.int .i64 0), .z (.int .u64 0), .z (.int .i64 0), .z (.int .i64 0), .z (.int .u64 0), .z (.int .i64 0), .z (.int .u64 0), .z (.int .i64 0), .z (.int .i64 0), .z (.int .u64 0), .z (.int .i64 0), .z (.int .u64 0), .z (.int .i64 0), .z (.int .i64 0)])<|
O 16 (.eqs true [.i, .i, .i, .i, .i, .i, .i, .i, .i, .i, .i, .i, .i, .i, .i] (t 14) (t 15))<|E)<|Q (I (t 16) (S (V 2 (i 40)<|E)<|R) (Z))<|S (F 17 21 1<|
M 18 13 17<|C 2 89 [t 18]<|E)<|R) (Z))<|S (F 20 21 1<|M 21 13 20<|
O 22 (.agg [.z (.int .i64 0), .z (.bool false), .z (.int .i64 0), .z (.int .i64 0), .z (.int .u64 0), .z (.int .i64 0), .z (.int .u64 0), .z (.int .i64 0), .z (.int .i64 0), .z (.int .u64 0), .z (.int .i64 0), .z (.int .u64 0), .z (.slice none 0 0)])<|
C 23 61 [t 21, t 22]<|O 24 (.un .not (t 23))<|E)<|Q (I (t 24) (S (V 2 (i 40)<|E)<|R) (Z))<|S (F 25 6 1<|M 26 15 25<|C 2 81 [t 26]<|E)<|R
theorem b59 : bodyO 0 134742048 Try.prog 59 = some (28, [.t 2], c59) := by kernel_rfl
theorem k59 : callOk Try.prog 59 = true := by kernel_rfl
/-- leapfrog/leapfrogref04.SameAnswer -/
def c61 : Go.SL.CC := S (O 2 (.box 61 (t 0))<|O 3 (.box 61 (t 1))<|V 4 (b false)<|F 5 0 2<|L 6 5<|F 7 0 3<|L 8 7<|O 9 (.bini .eql (t 6) (t 8))<|V 10 (t 9)<|G 11 (.fa 1 (t 2)) 10<|
G 12 (.ld none (t 11)) 10<|G 13 (.fa 1 (t 3)) 10<|G 14 (.ld none (t 13)) 10<|G 15 (.cmp .b false (t 12) (t 14)) 10<|O 16 (.pick (t 10) (t 15) (b false))<|
V 17 (t 16)<|G 18 (.fa 2 (t 2)) 17<|G 19 (.ld (some 5) (t 18)) 17<|G 20 (.fa 2 (t 3)) 17<|G 21 (.ld (some 5) (t 20)) 17<|
G 22 (.eqs false [.i, .i, .i, .i, .i] (t 19) (t 21)) 17<|O 23 (.pick (t 17) (t 22) (b false))<|V 24 (t 23)<|G 25 (.fa 7 (t 2)) 24<|
G 26 (.ld (some 5) (t 25)) 24<|G 27 (.fa 7 (t 3)) 24<|G 28 (.ld (some 5) (t 27)) 24<|G 29 (.eqs false [.i, .i, .i, .i, .i] (t 26) (t 28)) 24<|
O 30 (.pick (t 24) (t 29) (b false))<|V 31 (t 30)<|G 32 (.fa 12 (t 2)) 31<|G 33 (.ld none (t 32)) 31<|
G 34 (.raw ⟨some 34, .convert 30 9 (t 33), 9, "ref.go:54", #[⟨28, .data⟩, ⟨26, .guard⟩], some (26, true)⟩) 31<|G 35 (.fa 12 (t 3)) 31<|
G 36 (.ld none (t 35)) 31<|G 37 (.raw ⟨some 37, .convert 30 9 (t 36), 9, "ref.go:54", #[⟨31, .data⟩, ⟨26, .guard⟩], some (26, true)⟩) 31<|
G 38 (.cmp .s false (t 34) (t 37)) 31<|O 39 (.pick (t 31) (t 38) (b false))<|V 4 (t 39)<|E)<|R
theorem b61 : bodyO 0 0 Try.prog 61 = some (40, [.t 4], c61) := by kernel_rfl
theorem k61 : callOk Try.prog 61 = true := by kernel_rfl
/-- leapfrog/leapfrogref04.Reply -/
def c63 : Go.SL.CC := S (O 2 (.box 63 (t 0))<|O 3 (.box 61 (t 1))<|
O 4 (.new 63 #[.bool false, .bool false, .int .i64 0, .bool false, .int .i64 0, .int .i64 0, .int .i64 0, .int .i64 0, .int .u64 0, .int .i64 0, .int .i64 0, .int .u64 0, .int .i64 0, .int .u64 0, .int .i64 0, .int .i64 0, .int .u64 0, .int .i64 0, .int .u64 0, .int .i64 0, .int .i64 0, .int .i64 0, .bool false, .int .i64 0, .int .i64 0, .int .u64 0, .int .i64 0, .int .u64 0, .int .i64 0, .int .i64 0, .int .u64 0, .int .i64 0, .int .u64 0, .slice none 0 0])<|
V 5 (i 0)<|M 6 34 2<|C 7 59 [t 6]<|O 9 (.bini .neq (t 7) (i 0))<|H 10 (.fa 0 (t 2)) 9<|H 11 (.ld none (t 10)) 9<|O 13 (.pick (t 9) (b true) (t 11))<|
H 14 (.ld (some 13) (t 3)) 13<|H 15 (.call (f 89) [t 14]) 13<|H 16 (.bini .neq (t 15) (i 0)) 13<|O 17 (.pick (t 13) (b true) (t 16))<|E)<|
Q (I (t 17) (S (O 18 (.agg [.z (.bool false), .z (.bool false), .z (.int .i64 0), .z (.bool false), .z (.int .i64 0), .z (.int .i64 0), .z (.int .i64 0), .z (.int .i64 0), .z (.int .u64 0), .z (.int .i64 0), .z (.int .i64 0), .z (.int .u64 0), .z (.int .i64 0), .z (.int .u64 0), .z (.int .i64 0), .z (.int .i64 0), .z (.int .u64 0), .z (.int .i64 0), .z (.int .u64 0), .z (.int .i64 0), .z (.int .i64 0), .z (.int .i64 0), .z (.bool false), .z (.int .i64 0), .z (.int .i64 0), .z (.int .u64 0), .z (.int .i64 0), .z (.int .u64 0), .z (.int .i64 0), .z (.int .i64 0), .z (.int .u64 0), .z (.int .i64 0), .z (.int .u64 0), .z (.slice none 0 0)])<|
N (.st 34 (t 4) (t 18))<|V 5 (i 40)<|E)<|R) (Z))<|S (F 19 3 2<|M 20 2 19<|F 21 1 2<|M 22 2 21<|F 23 5 2<|L 24 23<|M 25 13 3<|
O 26 (.agg [.c (b true) 0 1, .c (t 20) 0 2, .c (t 20) 1 2, .c (t 22) 0 2, .c (t 22) 1 2, .c (t 24) 0 1, .z (.int .i64 0), .z (.int .i64 0), .z (.int .u64 0), .z (.int .i64 0), .z (.int .i64 0), .z (.int .u64 0), .z (.int .i64 0), .z (.int .u64 0), .z (.int .i64 0), .z (.int .i64 0), .z (.int .u64 0), .z (.int .i64 0), .z (.int .u64 0), .z (.int .i64 0), .z (.int .i64 0), .c (t 25) 0 13, .c (t 25) 1 13, .c (t 25) 2 13, .c (t 25) 3 13, .c (t 25) 4 13, .c (t 25) 5 13, .c (t 25) 6 13, .c (t 25) 7 13, .c (t 25) 8 13, .c (t 25) 9 13, .c (t 25) 10 13, .c (t 25) 11 13, .c (t 25) 12 13])<|
N (.st 34 (t 4) (t 26))<|V 5 (i 0)<|E)<|R
theorem b63 : bodyO 0 4352 Try.prog 63 = some (27, [.c 4 (some 34), .t 5], c63) := by kernel_rfl
theorem k63 : callOk Try.prog 63 = true := by kernel_rfl
/-- leapfrog/leapfrogref04.CheckAsk -/
def c81 : Go.SL.CC := S (O 1 (.box 58 (t 0))<|V 2 (i 0)<|F 8 0 1<|L 9 8<|C 10 117 [t 9]<|X 11 10 0<|X 12 10 1<|X 13 10 2<|X 14 10 3<|F 15 0 1<|L 16 15<|
O 18 (.bini .lss (t 16) (i 1))<|H 19 (.fa 0 (t 1)) 18<|H 20 (.ld none (t 19)) 18<|H 21 (.bini .gtr (t 20) (i 10)) 18<|O 23 (.pick (t 18) (b true) (t 21))<|
H 24 (.ld (some 15) (t 1)) 23<|H 25 (.ld (some 15) (t 1)) 23<|H 26 (.call (f 118) [t 25]) 23<|.ag ⟨some 24, .ld (some 15) (t 1), some (23, false)⟩<|
H 27 (.eqs true [.i, .i, .i, .i, .i, .i, .i, .i, .i, .i, .i, .i, .i, .i, .i] (t 24) (t 26)) 23<|O 29 (.pick (t 23) (b true) (t 27))<|H 31 (.mv (t 11)) 29<|
G 32 (.fa 1 (t 1)) 31<|G 33 (.ld (some 2) (t 32)) 31<|G 34 (.call (f 67) [t 33]) 31<|G 35 (.un .not (t 34)) 31<|H 36 (.pick (t 31) (t 35) (b false)) 29<|
O 38 (.pick (t 29) (b true) (t 36))<|H 40 (.mv (t 12)) 38<|G 41 (.fa 3 (t 1)) 40<|G 42 (.ld (some 5) (t 41)) 40<|G 43 (.call (f 119) [t 42]) 40<|
G 44 (.un .not (t 43)) 40<|H 45 (.pick (t 40) (t 44) (b false)) 38<|O 47 (.pick (t 38) (b true) (t 45))<|H 49 (.mv (t 13)) 47<|G 50 (.fa 8 (t 1)) 49<|
G 51 (.ld (some 5) (t 50)) 49<|G 52 (.call (f 119) [t 51]) 49<|G 53 (.un .not (t 52)) 49<|H 54 (.pick (t 49) (t 53) (b false)) 47<|
O 55 (.pick (t 47) (b true) (t 54))<|E)<|Q (I (t 55) (S (V 2 (i 40)<|E)<|R) (Z))<|S (V 2 (i 0)<|E)<|R
theorem b81 : bodyO 282025806266616 70506455891968 Try.prog 81 = some (56, [.t 2], c81) := by kernel_rfl
theorem k81 : callOk Try.prog 81 = true := by kernel_rfl
/-- leapfrog/leapfrogref04.CheckAnswer -/
def c89 : Go.SL.CC := S (O 1 (.box 61 (t 0))<|V 2 (i 0)<|V 3 (b false)<|F 4 0 1<|L 5 4<|E)<|Q (B 0 (S (O 6 (.bini .eql (t 5) (i 1))<|E)<|I (t 6) (Y (F 8 2 1<|M 9 5 8<|
C 11 127 [t 9]<|G 12 (.fa 7 (t 1)) 11<|G 13 (.ld (some 5) (t 12)) 11<|G 14 (.call (f 127) [t 13]) 11<|O 16 (.pick (t 11) (t 14) (b false))<|
G 17 (.fa 12 (t 1)) 16<|G 18 (.ld none (t 17)) 16<|G 19 (.ln (t 18)) 16<|G 20 (.bini .leq (t 19) (i 1024)) 16<|O 3 (.pick (t 16) (t 20) (b false))<|
E)) (S (O 22 (.bini .eql (t 5) (i 3))<|E)<|I (t 22) (Y (F 24 2 1<|M 25 5 24<|C 27 127 [t 25]<|G 28 (.fa 7 (t 1)) 27<|G 29 (.ld (some 5) (t 28)) 27<|
G 30 (.call (f 127) [t 29]) 27<|O 32 (.pick (t 27) (t 30) (b false))<|G 33 (.fa 12 (t 1)) 32<|G 34 (.ld none (t 33)) 32<|G 35 (.ln (t 34)) 32<|
G 36 (.bini .eql (t 35) (i 0)) 32<|O 3 (.pick (t 32) (t 36) (b false))<|E)) (S (O 38 (.bini .eql (t 5) (i 2))<|E)<|
Q (I (t 38) (Z) (Y (O 38 (.bini .eql (t 5) (i 4))<|E)))<|I (t 38) (Y (M 41 13 1<|F 42 0 1<|L 43 42<|
O 44 (.agg [.c (t 43) 0 1, .z (.bool false), .z (.int .i64 0), .z (.int .i64 0), .z (.int .u64 0), .z (.int .i64 0), .z (.int .u64 0), .z (.int .i64 0), .z (.int .i64 0), .z (.int .u64 0), .z (.int .i64 0), .z (.int .u64 0), .z (.slice none 0 0)])<|
C 3 61 [t 41, t 44]<|E)) (Y (V 3 (b false)<|E))))))<|S (O 47 (.un .not (t 3))<|E)<|Q (I (t 47) (S (V 2 (i 40)<|E)<|R) (Z))<|S (V 2 (i 0)<|E)<|R
theorem b89 : bodyO 70368744177664 36973303596160 Try.prog 89 = some (48, [.t 2], c89) := by kernel_rfl
theorem k89 : callOk Try.prog 89 = true := by kernel_rfl
/-- leapfrog/leapfrogref04.has -/
def c117 : Go.SL.CC := S (V 2 (b false)<|V 3 (b false)<|V 4 (b false)<|V 5 (b false)<|O 10 (.bini .eql (t 0) (i 5))<|H 12 (.bini .eql (t 0) (i 6)) 10<|
O 14 (.pick (t 10) (b true) (t 12))<|H 16 (.bini .eql (t 0) (i 7)) 14<|O 17 (.pick (t 14) (b true) (t 16))<|O 20 (.bini .eql (t 0) (i 3))<|
H 22 (.bini .eql (t 0) (i 4)) 20<|O 24 (.pick (t 20) (b true) (t 22))<|H 26 (.bini .eql (t 0) (i 8)) 24<|O 28 (.pick (t 24) (b true) (t 26))<|
H 30 (.bini .eql (t 0) (i 5)) 28<|O 32 (.pick (t 28) (b true) (t 30))<|H 34 (.bini .eql (t 0) (i 7)) 32<|O 35 (.pick (t 32) (b true) (t 34))<|
O 38 (.bini .eql (t 0) (i 1))<|H 39 (.mv (t 17)) 38<|O 41 (.pick (t 38) (b true) (t 39))<|H 42 (.mv (t 35)) 41<|O 43 (.pick (t 41) (b true) (t 42))<|
O 46 (.bini .eql (t 0) (i 7))<|V 2 (t 43)<|V 3 (t 17)<|V 4 (t 46)<|V 5 (t 35)<|E)<|R
theorem b117 : bodyO 193591928719808 1239241204224 Try.prog 117 = some (48, [.t 2, .t 3, .t 4, .t 5], c117) := by kernel_rfl
theorem k117 : callOk Try.prog 117 = true := by kernel_rfl
/-- leapfrog/leapfrogref04.only -/
def c118 : Go.SL.CC := S (O 1 (.box 58 (t 0))<|
O 2 (.new 58 #[.int .i64 0, .int .i64 0, .int .u64 0, .int .i64 0, .int .i64 0, .int .u64 0, .int .i64 0, .int .u64 0, .int .i64 0, .int .i64 0, .int .u64 0, .int .i64 0, .int .u64 0, .int .i64 0, .int .i64 0])<|
F 4 0 1<|L 5 4<|
O 6 (.agg [.c (t 5) 0 1, .z (.int .i64 0), .z (.int .u64 0), .z (.int .i64 0), .z (.int .i64 0), .z (.int .u64 0), .z (.int .i64 0), .z (.int .u64 0), .z (.int .i64 0), .z (.int .i64 0), .z (.int .u64 0), .z (.int .i64 0), .z (.int .u64 0), .z (.int .i64 0), .z (.int .i64 0)])<|
O 3 (.new 58 #[.int .i64 0, .int .i64 0, .int .u64 0, .int .i64 0, .int .i64 0, .int .u64 0, .int .i64 0, .int .u64 0, .int .i64 0, .int .i64 0, .int .u64 0, .int .i64 0, .int .u64 0, .int .i64 0, .int .i64 0])<|
N (.st 15 (t 3) (t 6))<|F 7 0 1<|L 8 7<|E)<|Q (B 0 (S (O 10 (.bini .eql (t 8) (i 1))<|E)<|I (t 10) (Y (F 12 1 1<|M 13 2 12<|F 14 1 3<|N (.st 2 (t 14) (t 13))<|
E)) (S (O 15 (.bini .eql (t 8) (i 3))<|E)<|Q (I (t 15) (Z) (S (O 15 (.bini .eql (t 8) (i 4))<|E)<|I (t 15) (Z) (Y (O 15 (.bini .eql (t 8) (i 8))<|E))))<|
I (t 15) (Y (F 19 1 1<|M 20 2 19<|F 21 13 1<|M 22 2 21<|F 23 1 3<|N (.st 2 (t 23) (t 20))<|A 22 (.ld (some 2) (t 21))<|F 24 13 3<|N (.st 2 (t 24) (t 22))<|
E)) (S (O 25 (.bini .eql (t 8) (i 5))<|E)<|I (t 25) (Y (F 27 1 1<|M 28 2 27<|F 29 3 1<|M 30 5 29<|F 31 13 1<|M 32 2 31<|F 33 1 3<|N (.st 2 (t 33) (t 28))<|
A 30 (.ld (some 5) (t 29))<|A 32 (.ld (some 2) (t 31))<|F 34 3 3<|N (.st 5 (t 34) (t 30))<|A 32 (.ld (some 2) (t 31))<|F 35 13 3<|N (.st 2 (t 35) (t 32))<|
E)) (S (O 36 (.bini .eql (t 8) (i 6))<|E)<|I (t 36) (Y (F 38 1 1<|M 39 2 38<|F 40 3 1<|M 41 5 40<|F 42 1 3<|N (.st 2 (t 42) (t 39))<|
A 41 (.ld (some 5) (t 40))<|F 43 3 3<|N (.st 5 (t 43) (t 41))<|E)) (S (O 44 (.bini .eql (t 8) (i 7))<|E)<|I (t 44) (Y (F 46 1 1<|M 47 2 46<|F 48 3 1<|
M 49 5 48<|F 50 8 1<|M 51 5 50<|F 52 13 1<|M 53 2 52<|F 54 1 3<|N (.st 2 (t 54) (t 47))<|A 49 (.ld (some 5) (t 48))<|A 51 (.ld (some 5) (t 50))<|
A 53 (.ld (some 2) (t 52))<|F 55 3 3<|N (.st 5 (t 55) (t 49))<|A 51 (.ld (some 5) (t 50))<|A 53 (.ld (some 2) (t 52))<|F 56 8 3<|N (.st 5 (t 56) (t 51))<|
A 53 (.ld (some 2) (t 52))<|F 57 13 3<|N (.st 2 (t 57) (t 53))<|E)) (S (M 9 15 3<|N (.st 15 (t 2) (t 9))<|E)<|R)))))))<|S (M 58 15 3<|N (.st 15 (t 2) (t 58))<|
E)<|R
theorem b118 : bodyO 0 35321878611968 Try.prog 118 = some (59, [.c 2 (some 15)], c118) := by kernel_rfl
theorem k118 : callOk Try.prog 118 = true := by kernel_rfl
/-- leapfrog/leapfrogref04.isRef -/
def c119 : Go.SL.CC := S (O 1 (.box 29 (t 0))<|V 2 (b false)<|F 3 1 1<|M 4 2 3<|C 6 139 [t 4]<|G 7 (.fa 3 (t 1)) 6<|G 8 (.ld (some 2) (t 7)) 6<|G 9 (.call (f 67) [t 8]) 6<|
O 2 (.pick (t 6) (t 9) (b false))<|E)<|R
theorem b119 : bodyO 0 1056 Try.prog 119 = some (11, [.t 2], c119) := by kernel_rfl
theorem k119 : callOk Try.prog 119 = true := by kernel_rfl
/-- leapfrog/leapfrogref04.side -/
def c127 : Go.SL.CC := S (O 1 (.box 29 (t 0))<|V 2 (b false)<|M 3 5 1<|O 4 (.agg [.z (.int .i64 0), .z (.int .i64 0), .z (.int .u64 0), .z (.int .i64 0), .z (.int .u64 0)])<|
O 6 (.eqs false [.i, .i, .i, .i, .i] (t 3) (t 4))<|H 7 (.ld (some 5) (t 1)) 6<|H 8 (.call (f 119) [t 7]) 6<|O 2 (.pick (t 6) (b true) (t 8))<|E)<|R
theorem b127 : bodyO 0 544 Try.prog 127 = some (10, [.t 2], c127) := by kernel_rfl
theorem k127 : callOk Try.prog 127 = true := by kernel_rfl
/-- leapfrog/leapfrogref03.IsKey -/
def c139 : Go.SL.CC := S (O 1 (.box 25 (t 0))<|V 2 (b false)<|F 3 0 1<|L 4 3<|O 6 (.bini .eql (t 4) (i 2))<|H 7 (.fa 1 (t 1)) 6<|H 8 (.ld none (t 7)) 6<|
H 9 (.bini .eql (t 8) (u 0)) 6<|H 10 (.mv (t 9)) 6<|G 11 (.fa 0 (t 1)) 10<|G 12 (.ld none (t 11)) 10<|G 13 (.bini .eql (t 12) (i 1)) 10<|G 14 (.mv (t 13)) 10<|
H 15 (.fa 0 (t 1)) 14<|H 16 (.ld none (t 15)) 14<|H 17 (.bini .eql (t 16) (i 3)) 14<|G 18 (.pick (t 14) (b true) (t 17)) 10<|
H 19 (.pick (t 10) (t 18) (b false)) 6<|O 2 (.pick (t 6) (b true) (t 19))<|E)<|R
theorem b139 : bodyO 0 1048608 Try.prog 139 = some (21, [.t 2], c139) := by kernel_rfl
theorem k139 : callOk Try.prog 139 = true := by kernel_rfl
end Go.Proofs.Ytienlpaehgdpaaa
