/- The bodies of some functions of the program, without their noise, and that they are these. Conditions: none. Written by a program of this workplace (Print.lean). -/
import Derived.Test.YtgcmglieciaifaaProg
import Derived.Test.YtgcmglieciaifaaSlW
import Derived.KernelRfl
namespace Go.Proofs.Ytgcmglieciaifaa
open Go.SL Go.SL.W
set_option maxRecDepth 100000

/-- leapfrog/graph.Way -/
def c11 : Go.SL.CC := S (O 5 (.box 3 (t 1))<|O 6 (.box 25 (t 2))<|V 8 (k (.slice none 0 0))<|O 9 (.new 32 #[.int .i64 0, .int .i64 0, .int .u64 0, .int .i64 0, .int .u64 0])<|
O 10 (.new 32 #[.int .i64 0, .int .i64 0, .int .u64 0, .int .i64 0, .int .u64 0])<|V 11 (i 0)<|C 22 29 [t 0, t 3]<|X 23 22 0<|X 24 22 1<|V 12 (t 23)<|
V 13 (t 24)<|O 26 (.bini .neq (t 13) (i 0))<|E)<|
Q (I (t 26) (S (O 27 (.agg [.z (.int .i64 0), .z (.int .i64 0), .z (.int .u64 0), .z (.int .i64 0), .z (.int .u64 0)])<|
O 28 (.agg [.z (.int .i64 0), .z (.int .i64 0), .z (.int .u64 0), .z (.int .i64 0), .z (.int .u64 0)])<|V 8 (k (.slice none 0 0))<|N (.st 5 (t 9) (t 27))<|
N (.st 5 (t 10) (t 28))<|V 11 (t 13)<|E)<|R) (Z))<|S (C 31 32 []<|C 32 31 [t 12, t 31]<|O 33 (.mkf 33 [t 5])<|C 14 30 [t 32, t 33]<|
O 36 (.bini .lss (t 14) (i 0))<|E)<|Q (I (t 36) (S (O 37 (.agg [.z (.int .i64 0), .z (.int .i64 0), .z (.int .u64 0), .z (.int .i64 0), .z (.int .u64 0)])<|
O 38 (.agg [.z (.int .i64 0), .z (.int .i64 0), .z (.int .u64 0), .z (.int .i64 0), .z (.int .u64 0)])<|V 8 (k (.slice none 0 0))<|N (.st 5 (t 9) (t 37))<|
N (.st 5 (t 10) (t 38))<|V 11 (i 111)<|E)<|R) (Z))<|S (M 39 2 6<|C 40 34 [t 39]<|O 41 (.bini .neq (t 40) (i 0))<|E)<|
Q (I (t 41) (S (O 42 (.agg [.z (.int .i64 0), .z (.int .i64 0), .z (.int .u64 0), .z (.int .i64 0), .z (.int .u64 0)])<|
O 43 (.agg [.z (.int .i64 0), .z (.int .i64 0), .z (.int .u64 0), .z (.int .i64 0), .z (.int .u64 0)])<|V 8 (k (.slice none 0 0))<|N (.st 5 (t 9) (t 42))<|
N (.st 5 (t 10) (t 43))<|V 11 (i 1)<|E)<|R) (Z))<|
S (O 46 (.agg [.c (t 12) 0 1, .z (.int .i64 0), .z (.int .i64 0), .z (.int .u64 0), .z (.int .i64 0), .z (.int .u64 0), .c (t 0) 0 1, .z (.slice none 0 0)])<|
O 15 (.box 81 (t 46))<|C 50 32 []<|C 51 31 [t 12, t 50]<|O 53 (.ia 5 (t 51) (t 14))<|M 54 5 53<|C 55 35 [t 15, t 54]<|F 56 0 6<|L 57 56<|
O 58 (.bini .eql (t 57) (i 1))<|E)<|Q (I (t 58) (S (F 61 7 15<|L 62 61<|
O 63 (.agg [.z (.int .i64 0), .z (.int .i64 0), .z (.int .u64 0), .z (.int .i64 0), .z (.int .u64 0)])<|F 66 1 12<|M 67 5 66<|V 8 (t 62)<|
N (.st 5 (t 9) (t 63))<|A 67 (.ld (some 5) (t 66))<|N (.st 5 (t 10) (t 67))<|V 11 (i 0)<|E)<|R) (Z))<|S (F 70 1 15<|F 71 1 70<|M 72 2 71<|M 73 2 6<|
C 74 36 [t 72, t 73]<|E)<|Q (I (t 74) (Y (M 76 2 6<|C 77 37 [t 15, t 76]<|E)) (Y (M 79 2 6<|C 80 38 [t 15, t 79]<|E)))<|S (F 86 1 15<|F 87 0 86<|L 88 87<|
.both (C 83 32 []<|A 88 (.ld none (t 87))<|.both (C 89 39 [t 12, t 83, t 88]<|X 90 89 0<|X 91 89 1<|X 92 89 2<|
.both (O 16 (.new 32 #[.int .i64 0, .int .i64 0, .int .u64 0, .int .i64 0, .int .u64 0])<|
O 17 (.new 32 #[.int .i64 0, .int .i64 0, .int .u64 0, .int .i64 0, .int .u64 0])<|N (.st 5 (t 16) (t 90))<|N (.st 5 (t 17) (t 91))<|
E) (O 17 (.new 32 #[.int .i64 0, .int .i64 0, .int .u64 0, .int .i64 0, .int .u64 0])<|
O 16 (.new 32 #[.int .i64 0, .int .i64 0, .int .u64 0, .int .i64 0, .int .u64 0])<|N (.st 5 (t 16) (t 90))<|N (.st 5 (t 17) (t 91))<|
E)) (.both (O 16 (.new 32 #[.int .i64 0, .int .i64 0, .int .u64 0, .int .i64 0, .int .u64 0])<|.both (C 89 39 [t 12, t 83, t 88]<|X 90 89 0<|X 91 89 1<|
X 92 89 2<|O 17 (.new 32 #[.int .i64 0, .int .i64 0, .int .u64 0, .int .i64 0, .int .u64 0])<|N (.st 5 (t 16) (t 90))<|N (.st 5 (t 17) (t 91))<|
E) (O 17 (.new 32 #[.int .i64 0, .int .i64 0, .int .u64 0, .int .i64 0, .int .u64 0])<|C 89 39 [t 12, t 83, t 88]<|X 90 89 0<|X 91 89 1<|X 92 89 2<|
N (.st 5 (t 16) (t 90))<|N (.st 5 (t 17) (t 91))<|E)) (O 17 (.new 32 #[.int .i64 0, .int .i64 0, .int .u64 0, .int .i64 0, .int .u64 0])<|
.both (C 89 39 [t 12, t 83, t 88]<|X 90 89 0<|X 91 89 1<|X 92 89 2<|O 16 (.new 32 #[.int .i64 0, .int .i64 0, .int .u64 0, .int .i64 0, .int .u64 0])<|
N (.st 5 (t 16) (t 90))<|N (.st 5 (t 17) (t 91))<|E) (O 16 (.new 32 #[.int .i64 0, .int .i64 0, .int .u64 0, .int .i64 0, .int .u64 0])<|
C 89 39 [t 12, t 83, t 88]<|X 90 89 0<|X 91 89 1<|X 92 89 2<|N (.st 5 (t 16) (t 90))<|N (.st 5 (t 17) (t 91))<|
E)))) (.both (O 16 (.new 32 #[.int .i64 0, .int .i64 0, .int .u64 0, .int .i64 0, .int .u64 0])<|.both (C 83 32 []<|A 88 (.ld none (t 87))<|
.both (C 89 39 [t 12, t 83, t 88]<|X 90 89 0<|X 91 89 1<|X 92 89 2<|O 17 (.new 32 #[.int .i64 0, .int .i64 0, .int .u64 0, .int .i64 0, .int .u64 0])<|
N (.st 5 (t 16) (t 90))<|N (.st 5 (t 17) (t 91))<|E) (O 17 (.new 32 #[.int .i64 0, .int .i64 0, .int .u64 0, .int .i64 0, .int .u64 0])<|
C 89 39 [t 12, t 83, t 88]<|X 90 89 0<|X 91 89 1<|X 92 89 2<|N (.st 5 (t 16) (t 90))<|N (.st 5 (t 17) (t 91))<|
E)) (O 17 (.new 32 #[.int .i64 0, .int .i64 0, .int .u64 0, .int .i64 0, .int .u64 0])<|C 83 32 []<|A 88 (.ld none (t 87))<|C 89 39 [t 12, t 83, t 88]<|
X 90 89 0<|X 91 89 1<|X 92 89 2<|N (.st 5 (t 16) (t 90))<|N (.st 5 (t 17) (t 91))<|
E)) (O 17 (.new 32 #[.int .i64 0, .int .i64 0, .int .u64 0, .int .i64 0, .int .u64 0])<|.both (C 83 32 []<|A 88 (.ld none (t 87))<|
.both (C 89 39 [t 12, t 83, t 88]<|X 90 89 0<|X 91 89 1<|X 92 89 2<|O 16 (.new 32 #[.int .i64 0, .int .i64 0, .int .u64 0, .int .i64 0, .int .u64 0])<|
N (.st 5 (t 16) (t 90))<|N (.st 5 (t 17) (t 91))<|E) (O 16 (.new 32 #[.int .i64 0, .int .i64 0, .int .u64 0, .int .i64 0, .int .u64 0])<|
C 89 39 [t 12, t 83, t 88]<|X 90 89 0<|X 91 89 1<|X 92 89 2<|N (.st 5 (t 16) (t 90))<|N (.st 5 (t 17) (t 91))<|
E)) (O 16 (.new 32 #[.int .i64 0, .int .i64 0, .int .u64 0, .int .i64 0, .int .u64 0])<|C 83 32 []<|A 88 (.ld none (t 87))<|C 89 39 [t 12, t 83, t 88]<|
X 90 89 0<|X 91 89 1<|X 92 89 2<|N (.st 5 (t 16) (t 90))<|N (.st 5 (t 17) (t 91))<|E))))<|S (F 95 7 15<|L 96 95<|F 99 1 15<|M 100 5 99<|M 101 5 17<|V 8 (t 96)<|
N (.st 5 (t 9) (t 100))<|A 101 (.ld (some 5) (t 17))<|N (.st 5 (t 10) (t 101))<|V 11 (i 0)<|E)<|R
theorem b11 : bodyO 168386782035406516685069090816 336758376940193463671552212992 Try.prog 11 = some (102, [.t 8, .c 9 (some 5), .c 10 (some 5), .t 11], c11) := by kernel_rfl
theorem k11 : callOk Try.prog 11 = true := by kernel_rfl
/-- leapfrog/graph.Way$1 -/
def c33 : Go.SL.CC := S (O 2 (.box 32 (t 0))<|V 3 (b false)<|F 4 0 2<|L 5 4<|L 6 1<|O 3 (.bini .eql (t 5) (t 6))<|E)<|R
theorem b33 : bodyO 0 128 Try.prog 33 = some (8, [.t 3], c33) := by kernel_rfl
theorem k33 : callOk Try.prog 33 = true := by kernel_rfl
/-- leapfrog/graph.Members -/
def c18 : Go.SL.CC := S (O 4 (.box 30 (t 1))<|V 6 (k (.slice none 0 0))<|V 7 (i 0)<|C 13 29 [t 0, t 2]<|X 14 13 0<|X 15 13 1<|V 8 (t 14)<|V 9 (t 15)<|O 17 (.bini .neq (t 9) (i 0))<|
E)<|Q (I (t 17) (S (V 6 (k (.slice none 0 0))<|V 7 (t 9)<|E)<|R) (Z))<|S (M 20 2 4<|C 21 47 [t 8, t 20]<|O 22 (.un .not (t 21))<|E)<|
Q (I (t 22) (S (V 6 (k (.slice none 0 0))<|V 7 (i 10)<|E)<|R) (Z))<|S (F 25 11 8<|L 26 25<|M 27 2 4<|O 6 (.lkp false 30 (.slice none 0 0) (t 26) (t 27))<|
V 7 (i 0)<|E)<|R
theorem b18 : bodyO 9247744 285212672 Try.prog 18 = some (29, [.t 6, .t 7], c18) := by kernel_rfl
theorem k18 : callOk Try.prog 18 = true := by kernel_rfl
/-- leapfrog/graph.Beside -/
def c20 : Go.SL.CC := S (O 5 (.box 30 (t 1))<|O 8 (.new 32 #[.int .i64 0, .int .i64 0, .int .u64 0, .int .i64 0, .int .u64 0])<|
O 9 (.new 32 #[.int .i64 0, .int .i64 0, .int .u64 0, .int .i64 0, .int .u64 0])<|V 10 (i 0)<|C 19 29 [t 0, t 3]<|X 20 19 0<|X 21 19 1<|V 11 (t 20)<|
V 12 (t 21)<|O 23 (.bini .neq (t 12) (i 0))<|E)<|
Q (I (t 23) (S (O 24 (.agg [.z (.int .i64 0), .z (.int .i64 0), .z (.int .u64 0), .z (.int .i64 0), .z (.int .u64 0)])<|
O 25 (.agg [.z (.int .i64 0), .z (.int .i64 0), .z (.int .u64 0), .z (.int .i64 0), .z (.int .u64 0)])<|N (.st 5 (t 8) (t 24))<|N (.st 5 (t 9) (t 25))<|
V 10 (t 12)<|E)<|R) (Z))<|S (M 28 2 5<|C 29 47 [t 11, t 28]<|O 30 (.un .not (t 29))<|E)<|
Q (I (t 30) (S (O 31 (.agg [.z (.int .i64 0), .z (.int .i64 0), .z (.int .u64 0), .z (.int .i64 0), .z (.int .u64 0)])<|
O 32 (.agg [.z (.int .i64 0), .z (.int .i64 0), .z (.int .u64 0), .z (.int .i64 0), .z (.int .u64 0)])<|N (.st 5 (t 8) (t 31))<|N (.st 5 (t 9) (t 32))<|
V 10 (i 10)<|E)<|R) (Z))<|S (M 35 2 5<|C 37 39 [t 11, t 35, t 2]<|X 38 37 0<|X 39 37 1<|X 40 37 2<|
O 13 (.new 32 #[.int .i64 0, .int .i64 0, .int .u64 0, .int .i64 0, .int .u64 0])<|
O 14 (.new 32 #[.int .i64 0, .int .i64 0, .int .u64 0, .int .i64 0, .int .u64 0])<|N (.st 5 (t 13) (t 38))<|N (.st 5 (t 14) (t 39))<|O 42 (.un .not (t 40))<|
E)<|Q (I (t 42) (S (O 43 (.agg [.z (.int .i64 0), .z (.int .i64 0), .z (.int .u64 0), .z (.int .i64 0), .z (.int .u64 0)])<|
O 44 (.agg [.z (.int .i64 0), .z (.int .i64 0), .z (.int .u64 0), .z (.int .i64 0), .z (.int .u64 0)])<|N (.st 5 (t 8) (t 43))<|N (.st 5 (t 9) (t 44))<|
V 10 (i 111)<|E)<|R) (Z))<|S (M 45 5 13<|M 46 5 14<|N (.st 5 (t 8) (t 45))<|A 46 (.ld (some 5) (t 14))<|N (.st 5 (t 9) (t 46))<|V 10 (i 0)<|E)<|R
theorem b20 : bodyO 2293718548480 0 Try.prog 20 = some (47, [.c 8 (some 5), .c 9 (some 5), .t 10], c20) := by kernel_rfl
theorem k20 : callOk Try.prog 20 = true := by kernel_rfl
/-- leapfrog/graph.Lists -/
def c23 : Go.SL.CC := S (V 4 (k (.slice none 0 0))<|V 5 (i 0)<|C 14 29 [t 0, t 1]<|X 15 14 0<|X 16 14 1<|V 6 (t 15)<|V 7 (t 16)<|O 18 (.bini .neq (t 7) (i 0))<|E)<|
Q (I (t 18) (S (V 4 (k (.slice none 0 0))<|V 5 (t 7)<|E)<|R) (Z))<|S (V 8 (k (.slice none 0 0))<|F 22 11 6<|L 23 22<|O 24 (.rng (t 23))<|E)<|
Q (P 0 (S (O 25 (.nxt (t 24))<|X 26 25 0<|E)<|Q (I (t 26) (Z) (J 0))<|B 1 (Y (O 27 (.ent (t 24))<|X 28 27 0<|X 29 27 1<|
O 9 (.new 30 #[.int .i64 0, .int .u64 0])<|N (.st 2 (t 9) (t 28))<|M 31 2 9<|O 33 (.agg [.c (t 31) 0 2, .c (t 31) 1 2, .c (t 29) 0 1])<|
O 34 (.bsl 67 [.c (t 33) 0 3, .c (t 33) 1 3, .c (t 33) 2 3] 1)<|O 8 (.ap 67 3 40 #[.int .i64 0, .int .u64 0, .slice none 0 0] (t 8) (t 34))<|E))))<|
S (C 37 50 [t 8, f 51]<|V 4 (t 8)<|V 5 (i 0)<|E)<|R
theorem b23 : bodyO 348967812096 34361835520 Try.prog 23 = some (39, [.t 4, .t 5], c23) := by kernel_rfl
theorem k23 : callOk Try.prog 23 = true := by kernel_rfl
/-- leapfrog/graph.Lists$1 -/
def c51 : Go.SL.CC := S (O 2 (.box 67 (t 0))<|O 3 (.box 67 (t 1))<|V 4 (i 0)<|F 5 0 2<|M 6 2 5<|F 7 0 3<|M 8 2 7<|C 4 52 [t 6, t 8]<|E)<|R
theorem b51 : bodyO 0 512 Try.prog 51 = some (10, [.t 4], c51) := by kernel_rfl
theorem k51 : callOk Try.prog 51 = true := by kernel_rfl
/-- leapfrog/graph.Check -/
def c25 : Go.SL.CC := S (V 4 (i 0)<|O 12 (.bini .lss (t 0) (i 0))<|H 14 (.bini .gtr (t 0) (i 32)) 12<|O 16 (.pick (t 12) (b true) (t 14))<|H 18 (.ln (t 1)) 16<|
H 19 (.bini .gtr (t 18) (i 1022)) 16<|O 20 (.pick (t 16) (b true) (t 19))<|E)<|Q (I (t 20) (S (V 4 (i 110)<|E)<|R) (Z))<|S (O 21 (.mkm)<|O 22 (.mkm)<|
V 5 (t 21)<|V 6 (t 22)<|V 23 (t 1)<|O 24 (.ln (t 23))<|V 25 (i 0)<|E)<|Q (P 0 (S (O 26 (.bini .lss (t 25) (t 24))<|E)<|Q (I (t 26) (Z) (J 0))<|
Q (B 1 (S (O 27 (.ia 5 (t 23) (t 25))<|M 28 5 27<|O 8 (.new 32 #[.int .i64 0, .int .i64 0, .int .u64 0, .int .i64 0, .int .u64 0])<|N (.st 5 (t 8) (t 28))<|
F 29 0 8<|L 30 29<|O 32 (.bini .geq (t 30) (i 2))<|G 33 (.fa 0 (t 8)) 32<|G 34 (.ld none (t 33)) 32<|G 35 (.bini .lss (t 34) (i 1024)) 32<|
O 37 (.pick (t 32) (t 35) (b false))<|G 38 (.fa 1 (t 8)) 37<|G 39 (.fa 0 (t 38)) 37<|G 40 (.ld none (t 39)) 37<|G 41 (.bini .eql (t 40) (i 2)) 37<|
O 43 (.pick (t 37) (t 41) (b false))<|G 44 (.fa 3 (t 8)) 43<|G 45 (.ld (some 2) (t 44)) 43<|G 46 (.call (f 55) [t 45]) 43<|G 47 (.bini .eql (t 46) (i 0)) 43<|
O 49 (.pick (t 43) (t 47) (b false))<|G 50 (.fa 3 (t 8)) 49<|G 51 (.fa 0 (t 50)) 49<|G 52 (.ld none (t 51)) 49<|G 54 (.bini .eql (t 52) (t 0)) 49<|
O 55 (.pick (t 49) (t 54) (b false))<|O 58 (.un .not (t 55))<|H 60 (.fa 0 (t 8)) 58<|H 61 (.ld none (t 60)) 58<|
H 62 (.lkp false 3 (.bool false) (t 5) (t 61)) 58<|O 64 (.pick (t 58) (b true) (t 62))<|H 66 (.fa 1 (t 8)) 64<|H 67 (.ld (some 2) (t 66)) 64<|
H 68 (.lkp false 25 (.bool false) (t 6) (t 67)) 64<|O 69 (.pick (t 64) (b true) (t 68))<|E)<|Q (I (t 69) (S (V 4 (i 110)<|E)<|R) (Z))<|Y (F 71 0 8<|L 72 71<|
F 74 1 8<|M 75 2 74<|N (.mup 3 (t 5) (t 72) (b true))<|A 75 (.ld (some 2) (t 74))<|N (.mup 25 (t 6) (t 75) (b true))<|E)))<|Y (O 25 (.bini .add (t 25) (i 1))<|
E)))<|S (V 4 (i 0)<|E)<|R
theorem b25 : bodyO 10662875600149717067264 75567231499083144267776 Try.prog 25 = some (77, [.t 4], c25) := by kernel_rfl
theorem k25 : callOk Try.prog 25 = true := by kernel_rfl
/-- leapfrog/graph.build -/
def c29 : Go.SL.CC := S (V 4 (k (.pointer none))<|V 5 (i 0)<|C 6 25 [t 0, t 1]<|O 15 (.bini .neq (t 6) (i 0))<|E)<|Q (I (t 15) (S (V 4 (k (.pointer none))<|V 5 (t 6)<|E)<|R) (Z))<|
S (O 18 (.mkm)<|
O 19 (.agg [.c (t 0) 0 1, .z (.int .i64 0), .z (.int .i64 0), .z (.int .u64 0), .z (.int .i64 0), .z (.int .u64 0), .z (.int .i64 0), .z (.int .i64 0), .z (.int .u64 0), .z (.int .i64 0), .z (.int .u64 0), .c (t 18) 0 1])<|
O 20 (.box 85 (t 19))<|O 7 (.new 71 #[.pointer none])<|N (.st 1 (t 7) (t 20))<|L 22 7<|C 24 59 [t 0]<|A 22 (.ld none (t 7))<|X 25 24 0<|X 26 24 1<|F 28 1 22<|
N (.st 5 (t 28) (t 25))<|L 30 7<|C 32 60 [t 0]<|A 30 (.ld none (t 7))<|X 33 32 0<|X 34 32 1<|F 36 6 30<|N (.st 5 (t 36) (t 33))<|C 38 61 [t 1]<|
O 39 (.ln (t 38))<|V 40 (i 0)<|E)<|Q (P 0 (S (O 41 (.bini .lss (t 40) (t 39))<|E)<|Q (I (t 41) (Z) (J 0))<|Q (B 1 (S (O 42 (.ia 5 (t 38) (t 40))<|M 43 5 42<|
O 9 (.new 32 #[.int .i64 0, .int .i64 0, .int .u64 0, .int .i64 0, .int .u64 0])<|N (.st 5 (t 9) (t 43))<|F 44 3 9<|M 45 2 44<|C 46 62 [t 45]<|E)<|
B 2 (.rangeF ((t 46)) [47] (Y (O 10 (.new 30 #[.int .i64 0, .int .u64 0])<|N (.st 2 (t 10) (t 47))<|E)) (B 3 (Y (L 48 7<|F 50 11 48<|L 51 50<|M 52 2 10<|
M 54 5 9<|O 55 (.bsl 32 [.c (t 54) 0 5, .c (t 54) 1 5, .c (t 54) 2 5, .c (t 54) 3 5, .c (t 54) 4 5] 1)<|O 56 (.mpe 30 (.slice none 0 0) (t 51) (t 52))<|
X 53 56 0<|X 58 56 1<|O 57 (.ap 32 5 40 #[.int .i64 0, .int .i64 0, .int .u64 0, .int .i64 0, .int .u64 0] (t 53) (t 55))<|N (.ens (t 51) (t 58) (t 57))<|
E))))))<|Y (O 40 (.bini .add (t 40) (i 1))<|E)))<|S (L 4 7<|V 5 (i 0)<|E)<|R
theorem b29 : bodyO 140134012928 1729945241357656064 Try.prog 29 = some (61, [.t 4, .t 5], c29) := by kernel_rfl
theorem k29 : callOk Try.prog 29 = true := by kernel_rfl
/-- (*leapfrog/graph.graph).list -/
def c31 : Go.SL.CC := S (O 3 (.box 30 (t 1))<|V 4 (k (.slice none 0 0))<|F 8 1 0<|M 9 5 8<|F 13 11 0<|L 14 13<|M 15 2 3<|O 16 (.lkp false 30 (.slice none 0 0) (t 14) (t 15))<|
O 10 (.bsl 32 [.c (t 9) 0 5, .c (t 9) 1 5, .c (t 9) 2 5, .c (t 9) 3 5, .c (t 9) 4 5] 1)<|
O 17 (.ap 32 5 40 #[.int .i64 0, .int .i64 0, .int .u64 0, .int .i64 0, .int .u64 0] (t 10) (t 16))<|F 21 6 0<|M 22 5 21<|
O 23 (.bsl 32 [.c (t 22) 0 5, .c (t 22) 1 5, .c (t 22) 2 5, .c (t 22) 3 5, .c (t 22) 4 5] 1)<|
O 4 (.ap 32 5 40 #[.int .i64 0, .int .i64 0, .int .u64 0, .int .i64 0, .int .u64 0] (t 17) (t 23))<|E)<|R
theorem b31 : bodyO 788576 17830016 Try.prog 31 = some (25, [.t 4], c31) := by kernel_rfl
theorem k31 : callOk Try.prog 31 = true := by kernel_rfl
/-- leapfrog/graph.all -/
def c32 : Go.SL.CC := S (O 0 (.new 30 #[.int .i64 0, .int .u64 0])<|O 1 (.agg [.z (.int .i64 0), .z (.int .u64 0)])<|N (.st 2 (t 0) (t 1))<|E)<|R
theorem b32 : bodyO 0 0 Try.prog 32 = some (2, [.c 0 (some 2)], c32) := by kernel_rfl
theorem k32 : callOk Try.prog 32 = true := by kernel_rfl
/-- (*leapfrog/graph.walk).step -/
def c35 : Go.SL.CC := Y (O 3 (.box 32 (t 1))<|M 5 5 3<|F 7 1 0<|N (.st 5 (t 7) (t 5))<|F 11 7 0<|L 12 11<|F 15 6 0<|L 16 15<|M 17 5 3<|
O 18 (.agg [.c (t 16) 0 1, .c (t 17) 0 5, .c (t 17) 1 5, .c (t 17) 2 5, .c (t 17) 3 5, .c (t 17) 4 5])<|
O 19 (.bsl 51 [.c (t 18) 0 6, .c (t 18) 1 6, .c (t 18) 2 6, .c (t 18) 3 6, .c (t 18) 4 6, .c (t 18) 5 6] 1)<|
O 20 (.ap 51 6 48 #[.int .i64 0, .int .i64 0, .int .i64 0, .int .u64 0, .int .i64 0, .int .u64 0] (t 12) (t 19))<|F 22 7 0<|N (.st 1 (t 22) (t 20))<|E)
theorem b35 : bodyO 8976 2114624 Try.prog 35 = some (23, [], c35) := by kernel_rfl
theorem k35 : callOk Try.prog 35 = true := by kernel_rfl
/-- (*leapfrog/graph.walk).right -/
def c37 : Go.SL.CC := S (O 3 (.box 25 (t 1))<|E)<|P 0 (B 1 (S (C 8 64 [t 0]<|X 9 8 0<|X 10 8 1<|O 4 (.new 32 #[.int .i64 0, .int .i64 0, .int .u64 0, .int .i64 0, .int .u64 0])<|
O 5 (.new 32 #[.int .i64 0, .int .i64 0, .int .u64 0, .int .i64 0, .int .u64 0])<|N (.st 5 (t 4) (t 9))<|N (.st 5 (t 5) (t 10))<|E)<|B 2 (S (F 12 1 5<|
M 13 2 12<|M 14 2 3<|C 11 36 [t 13, t 14]<|E)<|I (t 11) (Y (M 17 5 5<|C 18 35 [t 0, t 17]<|E)) (S (F 22 6 0<|L 23 22<|O 19 (.bini .gtr (t 23) (i 0))<|E)<|
I (t 19) (Y (F 27 6 0<|L 28 27<|O 29 (.bini .sub (t 28) (i 1))<|F 31 6 0<|N (.st 1 (t 31) (t 29))<|E)) (R)))))
theorem b37 : bodyO 34668736 1159757824 Try.prog 37 = some (32, [], c37) := by kernel_rfl
theorem k37 : callOk Try.prog 37 = true := by kernel_rfl
/-- (*leapfrog/graph.walk).left -/
def c38 : Go.SL.CC := S (O 3 (.box 25 (t 1))<|E)<|P 0 (B 1 (S (C 8 64 [t 0]<|X 9 8 0<|X 10 8 1<|O 4 (.new 32 #[.int .i64 0, .int .i64 0, .int .u64 0, .int .i64 0, .int .u64 0])<|
O 5 (.new 32 #[.int .i64 0, .int .i64 0, .int .u64 0, .int .i64 0, .int .u64 0])<|N (.st 5 (t 4) (t 9))<|N (.st 5 (t 5) (t 10))<|E)<|B 2 (S (F 15 1 4<|
M 16 2 15<|M 17 2 3<|C 18 36 [t 16, t 17]<|O 14 (.un .not (t 18))<|E)<|I (t 14) (Y (M 21 5 4<|C 22 35 [t 0, t 21]<|E)) (S (F 26 6 0<|L 27 26<|
O 23 (.bini .gtr (t 27) (i 0))<|E)<|I (t 23) (Y (F 31 6 0<|L 32 31<|O 33 (.bini .sub (t 32) (i 1))<|F 35 6 0<|N (.st 1 (t 35) (t 33))<|E)) (S (M 12 5 4<|
C 13 35 [t 0, t 12]<|E)<|R)))))
theorem b38 : bodyO 554698944 18556125184 Try.prog 38 = some (36, [], c38) := by kernel_rfl
theorem k38 : callOk Try.prog 38 = true := by kernel_rfl
/-- (*leapfrog/graph.graph).beside -/
def c39 : Go.SL.CC := S (O 4 (.box 30 (t 1))<|O 5 (.box 3 (t 2))<|O 6 (.new 32 #[.int .i64 0, .int .i64 0, .int .u64 0, .int .i64 0, .int .u64 0])<|
O 7 (.new 32 #[.int .i64 0, .int .i64 0, .int .u64 0, .int .i64 0, .int .u64 0])<|V 8 (b false)<|M 14 2 4<|C 9 31 [t 0, t 14]<|O 17 (.mkf 65 [t 5])<|
C 10 30 [t 9, t 17]<|O 11 (.new 32 #[.int .i64 0, .int .i64 0, .int .u64 0, .int .i64 0, .int .u64 0])<|
O 12 (.new 32 #[.int .i64 0, .int .i64 0, .int .u64 0, .int .i64 0, .int .u64 0])<|O 20 (.bini .gtr (t 10) (i 0))<|E)<|
Q (I (t 20) (Y (O 23 (.bini .sub (t 10) (i 1))<|O 24 (.ia 5 (t 9) (t 23))<|M 25 5 24<|N (.st 5 (t 11) (t 25))<|E)) (Z))<|S (O 28 (.bini .geq (t 10) (i 0))<|
G 30 (.bini .add (t 10) (i 1)) 28<|G 32 (.ln (t 9)) 28<|G 33 (.bini .lss (t 30) (t 32)) 28<|O 34 (.pick (t 28) (t 33) (b false))<|E)<|
Q (I (t 34) (Y (O 37 (.bini .add (t 10) (i 1))<|O 38 (.ia 5 (t 9) (t 37))<|M 39 5 38<|N (.st 5 (t 12) (t 39))<|E)) (Z))<|S (M 40 5 11<|M 41 5 12<|
O 43 (.bini .geq (t 10) (i 0))<|N (.st 5 (t 6) (t 40))<|A 41 (.ld (some 5) (t 12))<|N (.st 5 (t 7) (t 41))<|V 8 (t 43)<|E)<|R
theorem b39 : bodyO 4503884079104 134512640 Try.prog 39 = some (44, [.c 6 (some 5), .c 7 (some 5), .t 8], c39) := by kernel_rfl
theorem k39 : callOk Try.prog 39 = true := by kernel_rfl
/-- (*leapfrog/graph.graph).beside$1 -/
def c65 : Go.SL.CC := S (O 2 (.box 32 (t 0))<|V 3 (b false)<|F 4 0 2<|L 5 4<|L 6 1<|O 3 (.bini .eql (t 5) (t 6))<|E)<|R
theorem b65 : bodyO 0 128 Try.prog 65 = some (8, [.t 3], c65) := by kernel_rfl
theorem k65 : callOk Try.prog 65 = true := by kernel_rfl
/-- (*leapfrog/graph.walk).sides -/
def c64 : Go.SL.CC := S (O 2 (.new 32 #[.int .i64 0, .int .i64 0, .int .u64 0, .int .i64 0, .int .u64 0])<|
O 3 (.new 32 #[.int .i64 0, .int .i64 0, .int .u64 0, .int .i64 0, .int .u64 0])<|F 12 1 0<|F 13 3 12<|M 14 2 13<|F 17 6 0<|L 18 17<|
.both (C 19 82 [t 14, t 18]<|X 20 19 0<|X 21 19 1<|O 4 (.new 30 #[.int .i64 0, .int .u64 0])<|N (.st 2 (t 4) (t 20))<|
E) (O 4 (.new 30 #[.int .i64 0, .int .u64 0])<|C 19 82 [t 14, t 18]<|X 20 19 0<|X 21 19 1<|N (.st 2 (t 4) (t 20))<|E))<|S (F 25 0 0<|L 26 25<|M 27 2 4<|
F 30 1 0<|F 31 0 30<|L 32 31<|.both (C 33 39 [t 26, t 27, t 32]<|X 34 33 0<|X 35 33 1<|X 36 33 2<|
.both (O 6 (.new 32 #[.int .i64 0, .int .i64 0, .int .u64 0, .int .i64 0, .int .u64 0])<|
O 7 (.new 32 #[.int .i64 0, .int .i64 0, .int .u64 0, .int .i64 0, .int .u64 0])<|N (.st 5 (t 6) (t 34))<|N (.st 5 (t 7) (t 35))<|
E) (O 7 (.new 32 #[.int .i64 0, .int .i64 0, .int .u64 0, .int .i64 0, .int .u64 0])<|
O 6 (.new 32 #[.int .i64 0, .int .i64 0, .int .u64 0, .int .i64 0, .int .u64 0])<|N (.st 5 (t 6) (t 34))<|N (.st 5 (t 7) (t 35))<|
E)) (.both (O 6 (.new 32 #[.int .i64 0, .int .i64 0, .int .u64 0, .int .i64 0, .int .u64 0])<|.both (C 33 39 [t 26, t 27, t 32]<|X 34 33 0<|X 35 33 1<|
X 36 33 2<|O 7 (.new 32 #[.int .i64 0, .int .i64 0, .int .u64 0, .int .i64 0, .int .u64 0])<|N (.st 5 (t 6) (t 34))<|N (.st 5 (t 7) (t 35))<|
E) (O 7 (.new 32 #[.int .i64 0, .int .i64 0, .int .u64 0, .int .i64 0, .int .u64 0])<|C 33 39 [t 26, t 27, t 32]<|X 34 33 0<|X 35 33 1<|X 36 33 2<|
N (.st 5 (t 6) (t 34))<|N (.st 5 (t 7) (t 35))<|E)) (O 7 (.new 32 #[.int .i64 0, .int .i64 0, .int .u64 0, .int .i64 0, .int .u64 0])<|
.both (C 33 39 [t 26, t 27, t 32]<|X 34 33 0<|X 35 33 1<|X 36 33 2<|O 6 (.new 32 #[.int .i64 0, .int .i64 0, .int .u64 0, .int .i64 0, .int .u64 0])<|
N (.st 5 (t 6) (t 34))<|N (.st 5 (t 7) (t 35))<|E) (O 6 (.new 32 #[.int .i64 0, .int .i64 0, .int .u64 0, .int .i64 0, .int .u64 0])<|
C 33 39 [t 26, t 27, t 32]<|X 34 33 0<|X 35 33 1<|X 36 33 2<|N (.st 5 (t 6) (t 34))<|N (.st 5 (t 7) (t 35))<|E))))<|S (M 37 5 6<|M 38 5 7<|
N (.st 5 (t 2) (t 37))<|A 38 (.ld (some 5) (t 7))<|N (.st 5 (t 3) (t 38))<|E)<|R
theorem b64 : bodyO 281052960 553715712 Try.prog 64 = some (39, [.c 2 (some 5), .c 3 (some 5)], c64) := by kernel_rfl
theorem k64 : callOk Try.prog 64 = true := by kernel_rfl
/-- (*leapfrog/graph.graph).may -/
def c47 : Go.SL.CC := S (O 3 (.box 30 (t 1))<|V 4 (b false)<|M 5 2 3<|C 6 55 [t 5]<|O 8 (.bini .eql (t 6) (i 0))<|G 9 (.fa 0 (t 3)) 8<|G 10 (.ld none (t 9)) 8<|G 13 (.fa 0 (t 0)) 8<|
G 14 (.ld none (t 13)) 8<|G 15 (.bini .leq (t 10) (t 14)) 8<|O 4 (.pick (t 8) (t 15) (b false))<|E)<|R
theorem b47 : bodyO 2048 69760 Try.prog 47 = some (17, [.t 4], c47) := by kernel_rfl
theorem k47 : callOk Try.prog 47 = true := by kernel_rfl
/-- leapfrog/graph.order -/
def c52 : Go.SL.CC := S (O 2 (.box 30 (t 0))<|O 3 (.box 30 (t 1))<|V 4 (i 0)<|M 8 2 2<|M 9 2 3<|C 10 70 [t 8, t 9]<|X 11 10 0<|X 12 10 1<|V 4 (t 11)<|E)<|R
theorem b52 : bodyO 8416 0 Try.prog 52 = some (14, [.t 4], c52) := by kernel_rfl
theorem k52 : callOk Try.prog 52 = true := by kernel_rfl
/-- leapfrog/graph.byKey -/
def c61 : Go.SL.CC := S (V 2 (k (.slice none 0 0))<|C 0 74 [t 0]<|C 6 75 [t 0, f 76]<|V 2 (t 0)<|E)<|R
theorem b61 : bodyO 168 16 Try.prog 61 = some (8, [.t 2], c61) := by kernel_rfl
theorem k61 : callOk Try.prog 61 = true := by kernel_rfl
/-- leapfrog/graph.byKey$1 -/
def c76 : Go.SL.CC := S (O 2 (.box 32 (t 0))<|O 3 (.box 32 (t 1))<|V 4 (i 0)<|F 5 1 2<|M 6 2 5<|F 7 1 3<|M 8 2 7<|C 4 63 [t 6, t 8]<|E)<|R
theorem b76 : bodyO 0 512 Try.prog 76 = some (10, [.t 4], c76) := by kernel_rfl
theorem k76 : callOk Try.prog 76 = true := by kernel_rfl
/-- slices.IndexFunc[[]leapfrog/api.Ref,leapfrog/api.Ref] -/
def c30 : Go.SL.CC := S (V 4 (i 0)<|O 7 (.ln (t 0))<|V 8 (i 0)<|E)<|Q (P 0 (S (O 9 (.bini .lss (t 8) (t 7))<|E)<|Q (I (t 9) (Z) (J 0))<|Q (B 1 (S (V 5 (t 8)<|
O 14 (.ia 5 (t 0) (t 5))<|M 15 5 14<|O 16 (.call (t 1) [t 15])<|E)<|I (t 16) (S (V 4 (t 5)<|E)<|R) (Z)))<|Y (O 8 (.bini .add (t 8) (i 1))<|E)))<|
S (V 4 (i (-1))<|E)<|R
theorem b30 : bodyO 146496 262144 Try.prog 30 = some (19, [.t 4], c30) := by kernel_rfl
theorem k30 : callOk Try.prog 30 = true := by kernel_rfl
/-- slices.Clone[[]leapfrog/api.Ref,leapfrog/api.Ref] -/
def c74 : Go.SL.CC := S (V 2 (k (.slice none 0 0))<|O 4 (.cmp .sl false (t 0) (k (.slice none 0 0)))<|E)<|Q (I (t 4) (S (V 2 (k (.slice none 0 0))<|E)<|R) (Z))<|
S (O 5 (.bsl 32 [] 0)<|O 2 (.ap 32 5 40 #[.int .i64 0, .int .i64 0, .int .u64 0, .int .i64 0, .int .u64 0] (t 5) (t 0))<|E)<|R
theorem b74 : bodyO 72 128 Try.prog 74 = some (8, [.t 2], c74) := by kernel_rfl
theorem k74 : callOk Try.prog 74 = true := by kernel_rfl
end Go.Proofs.Ytgcmglieciaifaa
