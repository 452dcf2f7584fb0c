/- The bodies of some functions of the program, without their noise, and that they are these. Conditions: none. Written by a program of this workplace (Print.lean). -/
import Derived.Test.YtmeajliiloaegaaGreatProg
import Derived.Test.YtmeajliiloaegaaGreatSlW
import Derived.KernelRfl
namespace Go.Proofs.YtmeajliiloaegaaGreat
open Go.SL Go.SL.W
set_option maxRecDepth 100000

/-- leapfrog/msg.CheckAsk -/
def c25 : Go.SL.CC := S (O 1 (.box 47 (t 0))<|V 2 (i 0)<|M 6 15 1<|C 7 49 [t 6]<|X 8 7 0<|X 9 7 1<|O 11 (.un .not (t 9))<|E)<|Q (I (t 11) (S (V 2 (i 40)<|E)<|R) (Z))<|S (V 2 (i 0)<|
E)<|R
theorem b25 : bodyO 1080 0 Tryz.prog 25 = some (12, [.t 2], c25) := by kernel_rfl
theorem k25 : callOk Tryz.prog 25 = true := by kernel_rfl
/-- leapfrog/msg.ask -/
def c49 : Go.SL.CC := S (O 1 (.box 47 (t 0))<|V 2 (k (.slice none 0 0))<|V 3 (b false)<|F 13 0 1<|L 14 13<|C 15 83 [t 14]<|X 16 15 0<|X 17 15 1<|V 4 (t 16)<|O 19 (.un .not (t 17))<|
E)<|Q (I (t 19) (S (V 2 (k (.slice none 0 0))<|V 3 (b false)<|E)<|R) (Z))<|S (V 6 (k (.slice none 0 0))<|F 20 3 1<|M 21 5 20<|F 22 8 1<|M 23 5 22<|F 25 13 1<|
F 26 0 25<|L 27 26<|F 28 13 1<|F 29 1 28<|L 30 29<|
.both (O 24 (.bsl 29 [.c (t 21) 0 5, .c (t 21) 1 5, .c (t 21) 2 5, .c (t 21) 3 5, .c (t 21) 4 5, .c (t 23) 0 5, .c (t 23) 1 5, .c (t 23) 2 5, .c (t 23) 3 5, .c (t 23) 4 5] 2)<|
V 7 (t 24)<|O 31 (.bsl 3 [.c (t 27) 0 1, .c (t 30) 0 1] 2)<|V 8 (t 31)<|E) (O 31 (.bsl 3 [.c (t 27) 0 1, .c (t 30) 0 1] 2)<|
O 24 (.bsl 29 [.c (t 21) 0 5, .c (t 21) 1 5, .c (t 21) 2 5, .c (t 21) 3 5, .c (t 21) 4 5, .c (t 23) 0 5, .c (t 23) 1 5, .c (t 23) 2 5, .c (t 23) 3 5, .c (t 23) 4 5] 2)<|
V 7 (t 24)<|V 8 (t 31)<|E))<|S (V 32 (t 4)<|O 33 (.ln (t 32))<|V 34 (i 0)<|E)<|Q (P 0 (S (O 35 (.bini .lss (t 34) (t 33))<|E)<|Q (I (t 35) (Z) (J 0))<|
Q (B 1 (S (O 36 (.ia 1 (t 32) (t 34))<|L 37 36<|
O 39 (.agg [.c (t 37) 0 1, .z (.int .u64 0), .z (.int .i64 0), .z (.bool false), .z (.slice none 0 0), .z (.int .i64 0), .z (.int .u64 0), .z (.int .i64 0), .z (.int .u64 0), .z (.int .i64 0), .z (.int .i64 0), .z (.int .u64 0), .z (.int .i64 0), .z (.int .u64 0)])<|
O 11 (.new 158 #[.int .i64 0, .int .u64 0, .int .i64 0, .bool false, .slice none 0 0, .int .i64 0, .int .u64 0, .int .i64 0, .int .u64 0, .int .i64 0, .int .i64 0, .int .u64 0, .int .i64 0, .int .u64 0])<|
N (.st 14 (t 11) (t 39))<|V 40 (t 37)<|E)<|Q (B 2 (S (O 41 (.bini .eql (t 40) (i 5))<|E)<|I (t 41) (Y (F 43 1 1<|M 44 2 43<|F 45 5 11<|N (.st 2 (t 45) (t 44))<|
E)) (S (O 46 (.bini .eql (t 40) (i 7))<|E)<|I (t 46) (Y (O 49 (.ia 5 (t 7) (i 0))<|M 50 5 49<|O 52 (.sl 5 (t 7) (some (i 1)) none none)<|F 53 9 11<|
N (.st 5 (t 53) (t 50))<|V 7 (t 52)<|E)) (S (O 54 (.bini .eql (t 40) (i 2))<|E)<|I (t 54) (Y (O 57 (.ia 1 (t 8) (i 0))<|L 58 57<|
O 60 (.sl 1 (t 8) (some (i 1)) none none)<|F 61 2 11<|N (.st 1 (t 61) (t 58))<|V 8 (t 60)<|E)) (Z)))))<|S (M 62 14 11<|C 63 84 [t 62]<|
O 64 (.bini .neq (t 63) (i 0))<|E)<|Q (I (t 64) (S (V 2 (k (.slice none 0 0))<|V 3 (b false)<|E)<|R) (Z))<|Y (M 66 14 11<|
O 67 (.bsl 158 [.c (t 66) 0 14, .c (t 66) 1 14, .c (t 66) 2 14, .c (t 66) 3 14, .c (t 66) 4 14, .c (t 66) 5 14, .c (t 66) 6 14, .c (t 66) 7 14, .c (t 66) 8 14, .c (t 66) 9 14, .c (t 66) 10 14, .c (t 66) 11 14, .c (t 66) 12 14, .c (t 66) 13 14] 1)<|
O 6 (.ap 158 14 128 #[.int .i64 0, .int .u64 0, .int .i64 0, .bool false, .slice none 0 0, .int .i64 0, .int .u64 0, .int .i64 0, .int .u64 0, .int .i64 0, .int .i64 0, .int .u64 0, .int .i64 0, .int .u64 0] (t 6) (t 67))<|
E)))<|Y (O 34 (.bini .add (t 34) (i 1))<|E)))<|S (F 71 0 1<|L 72 71<|M 75 15 1<|C 74 85 [t 72, t 6]<|A 75 (.ld (some 15) (t 1))<|
O 76 (.eqs false [.i, .i, .i, .i, .i, .i, .i, .i, .i, .i, .i, .i, .i, .i, .i] (t 74) (t 75))<|V 2 (t 6)<|V 3 (t 76)<|E)<|R
theorem b49 : bodyO 10662869126500130755616 885479889470612307968 Tryz.prog 49 = some (77, [.t 2, .t 3], c49) := by kernel_rfl
theorem k49 : callOk Tryz.prog 49 = true := by kernel_rfl
/-- leapfrog/msg.needs -/
def c83 : Go.SL.CC := S (V 2 (k (.slice none 0 0))<|V 3 (b false)<|V 4 (k (.slice none 0 0))<|V 5 (t 0)<|E)<|
Q (B 0 (Q (B 7 (Q (B 6 (Q (B 5 (Q (B 4 (Q (B 3 (Q (B 2 (Q (B 1 (S (O 6 (.bini .eql (t 5) (i 7))<|E)<|Q (I (t 6) (J 1) (Z))<|S (O 8 (.bini .eql (t 5) (i 5))<|
E)<|Q (I (t 8) (J 2) (Z))<|S (O 10 (.bini .eql (t 5) (i 3))<|E)<|Q (I (t 10) (Z) (S (O 10 (.bini .eql (t 5) (i 4))<|E)<|
I (t 10) (Z) (Y (O 10 (.bini .eql (t 5) (i 8))<|E))))<|Q (I (t 10) (J 3) (Z))<|S (O 14 (.bini .eql (t 5) (i 1))<|E)<|Q (I (t 14) (J 4) (Z))<|
S (O 16 (.bini .eql (t 5) (i 6))<|E)<|Q (I (t 16) (J 5) (Z))<|S (O 18 (.bini .eql (t 5) (i 2))<|E)<|Q (I (t 18) (Z) (S (O 18 (.bini .eql (t 5) (i 9))<|E)<|
I (t 18) (Z) (Y (O 18 (.bini .eql (t 5) (i 10))<|E))))<|Q (I (t 18) (J 6) (Z))<|J 7))<|Y (O 23 (.bsl 156 [.c (i 7) 0 1] 1)<|
O 4 (.ap 156 1 8 #[.int .i64 0] (t 4) (t 23))<|E)))<|Y (O 26 (.bsl 156 [.c (i 7) 0 1] 1)<|O 4 (.ap 156 1 8 #[.int .i64 0] (t 4) (t 26))<|E)))<|
Y (O 29 (.bsl 156 [.c (i 2) 0 1, .c (i 2) 0 1] 2)<|O 4 (.ap 156 1 8 #[.int .i64 0] (t 4) (t 29))<|E)))<|S (O 31 (.bsl 156 [.c (i 5) 0 1] 1)<|
O 4 (.ap 156 1 8 #[.int .i64 0] (t 31) (t 4))<|E)<|J 0))<|S (O 35 (.bsl 156 [.c (i 5) 0 1, .c (i 7) 0 1] 2)<|O 4 (.ap 156 1 8 #[.int .i64 0] (t 4) (t 35))<|E)<|
J 0))<|J 0))<|S (V 2 (k (.slice none 0 0))<|V 3 (b false)<|E)<|R))<|S (V 2 (t 4)<|V 3 (b true)<|E)<|R
theorem b83 : bodyO 159219974144 78537996928 Tryz.prog 83 = some (38, [.t 2, .t 3], c83) := by kernel_rfl
theorem k83 : callOk Tryz.prog 83 = true := by kernel_rfl
/-- leapfrog/msg.made -/
def c85 : Go.SL.CC := 
S (O 4 (.new 47 #[.int .i64 0, .int .i64 0, .int .u64 0, .int .i64 0, .int .i64 0, .int .u64 0, .int .i64 0, .int .u64 0, .int .i64 0, .int .i64 0, .int .u64 0, .int .i64 0, .int .u64 0, .int .i64 0, .int .i64 0])<|
O 11 (.agg [.c (t 0) 0 1, .z (.int .i64 0), .z (.int .u64 0), .z (.int .i64 0), .z (.int .i64 0), .z (.int .u64 0), .z (.int .i64 0), .z (.int .u64 0), .z (.int .i64 0), .z (.int .i64 0), .z (.int .u64 0), .z (.int .i64 0), .z (.int .u64 0), .z (.int .i64 0), .z (.int .i64 0)])<|
O 5 (.new 47 #[.int .i64 0, .int .i64 0, .int .u64 0, .int .i64 0, .int .i64 0, .int .u64 0, .int .i64 0, .int .u64 0, .int .i64 0, .int .i64 0, .int .u64 0, .int .i64 0, .int .u64 0, .int .i64 0, .int .i64 0])<|
N (.st 15 (t 5) (t 11))<|V 6 (i 0)<|V 7 (i 0)<|V 12 (t 1)<|O 13 (.ln (t 12))<|V 14 (i 0)<|E)<|Q (P 0 (S (O 15 (.bini .lss (t 14) (t 13))<|E)<|
Q (I (t 15) (Z) (J 0))<|Q (B 1 (S (O 16 (.ia 14 (t 12) (t 14))<|M 17 14 16<|
O 9 (.new 158 #[.int .i64 0, .int .u64 0, .int .i64 0, .bool false, .slice none 0 0, .int .i64 0, .int .u64 0, .int .i64 0, .int .u64 0, .int .i64 0, .int .i64 0, .int .u64 0, .int .i64 0, .int .u64 0])<|
N (.st 14 (t 9) (t 17))<|E)<|B 2 (S (F 23 0 9<|L 24 23<|O 22 (.bini .eql (t 24) (i 5))<|E)<|I (t 22) (Y (F 26 5 9<|M 27 2 26<|F 28 1 5<|
N (.st 2 (t 28) (t 27))<|E)) (S (F 30 0 9<|L 31 30<|O 33 (.bini .eql (t 31) (i 7))<|G 35 (.bini .eql (t 6) (i 0)) 33<|O 29 (.pick (t 33) (t 35) (b false))<|E)<|
I (t 29) (Y (F 37 9 9<|M 38 5 37<|F 39 3 5<|N (.st 5 (t 39) (t 38))<|O 6 (.bini .add (t 6) (i 1))<|E)) (S (F 43 0 9<|L 44 43<|O 42 (.bini .eql (t 44) (i 7))<|
E)<|I (t 42) (Y (F 46 9 9<|M 47 5 46<|F 48 8 5<|N (.st 5 (t 48) (t 47))<|E)) (S (O 49 (.bini .eql (t 7) (i 0))<|E)<|I (t 49) (Y (F 52 2 9<|L 53 52<|F 54 13 5<|
F 55 0 54<|N (.st 1 (t 55) (t 53))<|O 7 (.bini .add (t 7) (i 1))<|E)) (Y (F 18 2 9<|L 19 18<|F 20 13 5<|F 21 1 20<|N (.st 1 (t 21) (t 19))<|E))))))))<|
Y (O 14 (.bini .add (t 14) (i 1))<|E)))<|S (M 59 15 5<|N (.st 15 (t 4) (t 59))<|E)<|R
theorem b85 : bodyO 73184610636268544 434634820484595712 Tryz.prog 85 = some (60, [.c 4 (some 15)], c85) := by kernel_rfl
theorem k85 : callOk Tryz.prog 85 = true := by kernel_rfl
/-- leapfrog/pack.Check -/
def c84 : Go.SL.CC := S (O 1 (.box 158 (t 0))<|V 2 (i 0)<|M 6 14 1<|C 7 103 [t 6]<|X 8 7 0<|X 9 7 1<|
O 3 (.new 158 #[.int .i64 0, .int .u64 0, .int .i64 0, .bool false, .slice none 0 0, .int .i64 0, .int .u64 0, .int .i64 0, .int .u64 0, .int .i64 0, .int .i64 0, .int .u64 0, .int .i64 0, .int .u64 0])<|
N (.st 14 (t 3) (t 8))<|V 4 (t 9)<|O 12 (.un .not (t 4))<|H 13 (.ld (some 14) (t 3)) 12<|H 14 (.ld (some 14) (t 1)) 12<|H 15 (.call (f 104) [t 13, t 14]) 12<|
H 16 (.un .not (t 15)) 12<|O 17 (.pick (t 12) (b true) (t 16))<|E)<|Q (I (t 17) (S (V 2 (i 30)<|E)<|R) (Z))<|S (F 18 0 1<|L 19 18<|E)<|
Q (B 0 (S (O 20 (.bini .eql (t 19) (i 4))<|E)<|I (t 20) (Y (F 22 4 1<|L 23 22<|O 24 (.ln (t 23))<|O 4 (.bini .leq (t 24) (i 65536))<|
E)) (S (O 26 (.bini .eql (t 19) (i 5))<|E)<|I (t 26) (Y (F 28 5 1<|M 29 2 28<|C 30 43 [t 29]<|O 4 (.bini .eql (t 30) (i 0))<|
E)) (S (O 32 (.bini .eql (t 19) (i 6))<|E)<|I (t 32) (Y (F 34 7 1<|M 35 2 34<|C 36 82 [t 35]<|O 4 (.bini .eql (t 36) (i 0))<|
E)) (S (O 38 (.bini .eql (t 19) (i 7))<|E)<|I (t 38) (Y (F 40 9 1<|F 41 1 40<|M 42 2 41<|C 43 82 [t 42]<|O 45 (.bini .eql (t 43) (i 0))<|G 46 (.fa 9 (t 1)) 45<|
G 47 (.fa 3 (t 46)) 45<|G 48 (.ld (some 2) (t 47)) 45<|G 49 (.call (f 43) [t 48]) 45<|G 50 (.bini .eql (t 49) (i 0)) 45<|O 4 (.pick (t 45) (t 50) (b false))<|
E)) (Z))))))<|S (O 53 (.un .not (t 4))<|E)<|Q (I (t 53) (S (V 2 (i 30)<|E)<|R) (Z))<|S (V 2 (i 0)<|E)<|R
theorem b84 : bodyO 4503599627371552 2270090101786624 Tryz.prog 84 = some (54, [.t 2], c84) := by kernel_rfl
theorem k84 : callOk Tryz.prog 84 = true := by kernel_rfl
/-- leapfrog/pack.only -/
def c103 : Go.SL.CC := S (O 1 (.box 158 (t 0))<|
O 2 (.new 158 #[.int .i64 0, .int .u64 0, .int .i64 0, .bool false, .slice none 0 0, .int .i64 0, .int .u64 0, .int .i64 0, .int .u64 0, .int .i64 0, .int .i64 0, .int .u64 0, .int .i64 0, .int .u64 0])<|
V 3 (b false)<|F 5 0 1<|L 6 5<|
O 7 (.agg [.c (t 6) 0 1, .z (.int .u64 0), .z (.int .i64 0), .z (.bool false), .z (.slice none 0 0), .z (.int .i64 0), .z (.int .u64 0), .z (.int .i64 0), .z (.int .u64 0), .z (.int .i64 0), .z (.int .i64 0), .z (.int .u64 0), .z (.int .i64 0), .z (.int .u64 0)])<|
O 4 (.new 158 #[.int .i64 0, .int .u64 0, .int .i64 0, .bool false, .slice none 0 0, .int .i64 0, .int .u64 0, .int .i64 0, .int .u64 0, .int .i64 0, .int .i64 0, .int .u64 0, .int .i64 0, .int .u64 0])<|
N (.st 14 (t 4) (t 7))<|F 8 0 1<|L 9 8<|E)<|Q (B 0 (S (O 11 (.bini .eql (t 9) (i 1))<|E)<|I (t 11) (Y (F 13 1 1<|L 14 13<|F 15 1 4<|N (.st 1 (t 15) (t 14))<|
E)) (S (O 16 (.bini .eql (t 9) (i 2))<|E)<|I (t 16) (Y (F 18 2 1<|L 19 18<|F 20 2 4<|N (.st 1 (t 20) (t 19))<|E)) (S (O 21 (.bini .eql (t 9) (i 3))<|E)<|
I (t 21) (Y (F 23 3 1<|L 24 23<|F 25 3 4<|N (.st 1 (t 25) (t 24))<|E)) (S (O 26 (.bini .eql (t 9) (i 4))<|E)<|I (t 26) (Y (F 28 4 1<|L 29 28<|F 30 4 4<|
N (.st 1 (t 30) (t 29))<|E)) (S (O 31 (.bini .eql (t 9) (i 5))<|E)<|I (t 31) (Y (F 33 5 1<|M 34 2 33<|F 35 5 4<|N (.st 2 (t 35) (t 34))<|
E)) (S (O 36 (.bini .eql (t 9) (i 6))<|E)<|I (t 36) (Y (F 38 7 1<|M 39 2 38<|F 40 7 4<|N (.st 2 (t 40) (t 39))<|E)) (S (O 41 (.bini .eql (t 9) (i 7))<|E)<|
I (t 41) (Y (F 43 9 1<|M 44 5 43<|F 45 9 4<|N (.st 5 (t 45) (t 44))<|E)) (S (M 10 14 4<|N (.st 14 (t 2) (t 10))<|V 3 (b false)<|E)<|R)))))))))<|S (M 46 14 4<|
N (.st 14 (t 2) (t 46))<|V 3 (b true)<|E)<|R
theorem b103 : bodyO 0 4539918979072 Tryz.prog 103 = some (47, [.c 2 (some 14), .t 3], c103) := by kernel_rfl
theorem k103 : callOk Tryz.prog 103 = true := by kernel_rfl
/-- leapfrog/pack.Same -/
def c104 : Go.SL.CC := S (O 2 (.box 158 (t 0))<|O 3 (.box 158 (t 1))<|V 4 (b false)<|F 5 0 2<|L 6 5<|F 7 0 3<|L 8 7<|O 10 (.bini .eql (t 6) (t 8))<|G 11 (.fa 1 (t 2)) 10<|
G 12 (.ld none (t 11)) 10<|G 13 (.fa 1 (t 3)) 10<|G 14 (.ld none (t 13)) 10<|G 15 (.bini .eql (t 12) (t 14)) 10<|O 17 (.pick (t 10) (t 15) (b false))<|
G 18 (.fa 2 (t 2)) 17<|G 19 (.ld none (t 18)) 17<|G 20 (.fa 2 (t 3)) 17<|G 21 (.ld none (t 20)) 17<|G 22 (.bini .eql (t 19) (t 21)) 17<|
O 24 (.pick (t 17) (t 22) (b false))<|G 25 (.fa 3 (t 2)) 24<|G 26 (.ld none (t 25)) 24<|G 27 (.fa 3 (t 3)) 24<|G 28 (.ld none (t 27)) 24<|
G 29 (.cmp .b false (t 26) (t 28)) 24<|O 31 (.pick (t 24) (t 29) (b false))<|G 32 (.fa 4 (t 2)) 31<|G 33 (.ld none (t 32)) 31<|G 34 (.fa 4 (t 3)) 31<|
G 35 (.ld none (t 34)) 31<|G 36 (.call (f 120) [t 33, t 35]) 31<|O 38 (.pick (t 31) (t 36) (b false))<|G 39 (.fa 5 (t 2)) 38<|G 40 (.ld (some 2) (t 39)) 38<|
G 41 (.fa 5 (t 3)) 38<|G 42 (.ld (some 2) (t 41)) 38<|G 43 (.eqs false [.i, .i] (t 40) (t 42)) 38<|O 45 (.pick (t 38) (t 43) (b false))<|G 46 (.fa 7 (t 2)) 45<|
G 47 (.ld (some 2) (t 46)) 45<|G 48 (.fa 7 (t 3)) 45<|G 49 (.ld (some 2) (t 48)) 45<|G 50 (.eqs false [.i, .i] (t 47) (t 49)) 45<|
O 52 (.pick (t 45) (t 50) (b false))<|G 53 (.fa 9 (t 2)) 52<|G 54 (.ld (some 5) (t 53)) 52<|G 55 (.fa 9 (t 3)) 52<|G 56 (.ld (some 5) (t 55)) 52<|
G 57 (.eqs false [.i, .i, .i, .i, .i] (t 54) (t 56)) 52<|O 4 (.pick (t 52) (t 57) (b false))<|E)<|R
theorem b104 : bodyO 0 290499906672591360 Tryz.prog 104 = some (59, [.t 4], c104) := by kernel_rfl
theorem k104 : callOk Tryz.prog 104 = true := by kernel_rfl
/-- bytes.Equal -/
def c120 : Go.SL.CC := S (V 4 (b false)<|V 5 (t 0)<|O 6 (.raw ⟨some 6, .convert 30 9 (t 5), 9, "bytes.go:22", #[⟨0, .data⟩], none⟩)<|V 7 (t 1)<|
O 8 (.raw ⟨some 8, .convert 30 9 (t 7), 9, "bytes.go:22", #[⟨2, .data⟩], none⟩)<|O 9 (.cmp .s false (t 6) (t 8))<|V 4 (t 9)<|E)<|R
theorem b120 : bodyO 0 0 Tryz.prog 120 = some (10, [.t 4], c120) := by kernel_rfl
theorem k120 : callOk Tryz.prog 120 = true := by kernel_rfl
/-- bytes.Clone -/
def c38 : Go.SL.CC := S (V 2 (k (.slice none 0 0))<|O 4 (.cmp .sl false (t 0) (k (.slice none 0 0)))<|E)<|Q (I (t 4) (S (V 2 (k (.slice none 0 0))<|E)<|R) (Z))<|
S (O 5 (.bsl 5 [] 0)<|O 2 (.ap 5 1 1 #[.int .u8 0] (t 5) (t 0))<|E)<|R
theorem b38 : bodyO 72 128 Tryz.prog 38 = some (8, [.t 2], c38) := by kernel_rfl
theorem k38 : callOk Tryz.prog 38 = true := by kernel_rfl
end Go.Proofs.YtmeajliiloaegaaGreat
