/- The bodies of some functions of the program, without their noise, and that they are these. Conditions: none. Written by a program of this workplace (Print.lean). -/
import Derived.Test.YtmeajliiloaegaaProg
import Derived.Test.YtmeajliiloaegaaSlW
import Derived.KernelRfl
namespace Go.Proofs.Ytmeajliiloaegaa
open Go.SL Go.SL.W
set_option maxRecDepth 100000

/-- leapfrog/peer.New -/
def c13 : Go.SL.CC := S (O 2 (.box 29 (t 0))<|V 4 (k (.pointer none))<|V 5 (i 0)<|F 9 1 2<|F 10 0 9<|L 11 10<|O 13 (.bini .eql (t 11) (i 2))<|G 14 (.fa 3 (t 2)) 13<|
G 15 (.ld (some 2) (t 14)) 13<|G 16 (.call (f 17) [t 15]) 13<|G 17 (.bini .eql (t 16) (i 0)) 13<|O 19 (.pick (t 13) (t 17) (b false))<|G 20 (.fa 0 (t 2)) 19<|
G 21 (.ld none (t 20)) 19<|G 22 (.bini .geq (t 21) (i 2)) 19<|O 24 (.pick (t 19) (t 22) (b false))<|G 25 (.fa 0 (t 2)) 24<|G 26 (.ld none (t 25)) 24<|
G 27 (.bini .lss (t 26) (i 1024)) 24<|O 28 (.pick (t 24) (t 27) (b false))<|O 31 (.un .not (t 28))<|H 33 (.ln (t 1)) 31<|H 34 (.bini .gtr (t 33) (i 1024)) 31<|
O 35 (.pick (t 31) (b true) (t 34))<|E)<|Q (I (t 35) (S (V 4 (k (.pointer none))<|V 5 (i 90)<|E)<|R) (Z))<|S (M 37 5 2<|C 38 16 [t 37]<|X 39 38 0<|X 40 38 1<|
M 41 5 2<|C 43 18 [t 1]<|A 41 (.ld (some 5) (t 2))<|
O 45 (.agg [.c (t 41) 0 5, .c (t 41) 1 5, .c (t 41) 2 5, .c (t 41) 3 5, .c (t 41) 4 5, .c (t 43) 0 1, .c (t 39) 0 1, .z (.bool false), .z (.bool false), .z (.slice none 0 0), .z (.slice none 0 0)])<|
O 4 (.box 69 (t 45))<|V 5 (i 0)<|E)<|R
theorem b13 : bodyO 22063783870912 70369826574336 Try.prog 13 = some (47, [.t 4, .t 5], c13) := by kernel_rfl
theorem k13 : callOk Try.prog 13 = true := by kernel_rfl
/-- leapfrog/peer.End -/
def c11 : Go.SL.CC := S (V 4 (k (.pointer none))<|V 5 (i 0)<|C 13 10 [t 0, t 1]<|X 14 13 0<|X 15 13 1<|
O 6 (.new 29 #[.int .i64 0, .int .i64 0, .int .u64 0, .int .i64 0, .int .u64 0])<|N (.st 5 (t 6) (t 14))<|V 7 (t 15)<|O 17 (.bini .neq (t 7) (i 0))<|E)<|
Q (I (t 17) (S (V 4 (k (.pointer none))<|V 5 (t 7)<|E)<|R) (Z))<|S (M 20 5 6<|C 21 16 [t 20]<|X 22 21 0<|X 23 21 1<|M 24 5 6<|
O 26 (.agg [.c (t 24) 0 5, .c (t 24) 1 5, .c (t 24) 2 5, .c (t 24) 3 5, .c (t 24) 4 5, .z (.slice none 0 0), .c (t 22) 0 1, .c (b true) 0 1, .z (.bool false), .z (.slice none 0 0), .z (.slice none 0 0)])<|
O 4 (.box 69 (t 26))<|V 5 (i 0)<|E)<|R
theorem b11 : bodyO 34414336 134217728 Try.prog 11 = some (28, [.t 4, .t 5], c11) := by kernel_rfl
theorem k11 : callOk Try.prog 11 = true := by kernel_rfl
/-- (*leapfrog/peer.Peer).made -/
def c20 : Go.SL.CC := S (V 2 (b false)<|O 5 (.cmp .p true (t 0) (k (.pointer none)))<|G 8 (.fa 6 (t 0)) 5<|G 9 (.ld none (t 8)) 5<|G 10 (.cmp .p true (t 9) (k (.pointer none))) 5<|
O 2 (.pick (t 5) (t 10) (b false))<|E)<|R
theorem b20 : bodyO 72 2192 Try.prog 20 = some (12, [.t 2], c20) := by kernel_rfl
theorem k20 : callOk Try.prog 20 = true := by kernel_rfl
/-- (*leapfrog/peer.Peer).isEnd -/
def c59 : Go.SL.CC := S (V 2 (b false)<|F 5 0 0<|F 6 1 5<|F 7 0 6<|L 8 7<|O 2 (.bini .neq (t 8) (i 2))<|E)<|R
theorem b59 : bodyO 8 528 Try.prog 59 = some (10, [.t 2], c59) := by kernel_rfl
theorem k59 : callOk Try.prog 59 = true := by kernel_rfl
/-- (*leapfrog/peer.Peer).tell -/
def c22 : Go.SL.CC := Y (O 5 (.box 61 (t 2))<|F 9 10 0<|L 10 9<|M 12 13 5<|
O 13 (.agg [.c (t 1) 0 1, .c (t 12) 0 13, .c (t 12) 1 13, .c (t 12) 2 13, .c (t 12) 3 13, .c (t 12) 4 13, .c (t 12) 5 13, .c (t 12) 6 13, .c (t 12) 7 13, .c (t 12) 8 13, .c (t 12) 9 13, .c (t 12) 10 13, .c (t 12) 11 13, .c (t 12) 12 13])<|
O 14 (.bsl 63 [.c (t 13) 0 14, .c (t 13) 1 14, .c (t 13) 2 14, .c (t 13) 3 14, .c (t 13) 4 14, .c (t 13) 5 14, .c (t 13) 6 14, .c (t 13) 7 14, .c (t 13) 8 14, .c (t 13) 9 14, .c (t 13) 10 14, .c (t 13) 11 14, .c (t 13) 12 14, .c (t 13) 13 14] 1)<|
O 15 (.ap 63 14 128 #[.int .i64 0, .int .i64 0, .bool false, .int .i64 0, .int .i64 0, .int .u64 0, .int .i64 0, .int .u64 0, .int .i64 0, .int .i64 0, .int .u64 0, .int .i64 0, .int .u64 0, .slice none 0 0] (t 10) (t 14))<|
F 17 10 0<|N (.st 1 (t 17) (t 15))<|E)
theorem b22 : bodyO 2240 65792 Try.prog 22 = some (18, [], c22) := by kernel_rfl
theorem k22 : callOk Try.prog 22 = true := by kernel_rfl
/-- (*leapfrog/peer.Peer).plain -/
def c39 : Go.SL.CC := 
Y (O 9 (.agg [.c (t 2) 0 1, .z (.bool false), .z (.int .i64 0), .z (.int .i64 0), .z (.int .u64 0), .z (.int .i64 0), .z (.int .u64 0), .z (.int .i64 0), .z (.int .i64 0), .z (.int .u64 0), .z (.int .i64 0), .z (.int .u64 0), .z (.slice none 0 0)])<|
C 10 22 [t 0, t 1, t 9]<|E)
theorem b39 : bodyO 448 0 Try.prog 39 = some (11, [], c39) := by kernel_rfl
theorem k39 : callOk Try.prog 39 = true := by kernel_rfl
/-- (*leapfrog/peer.Peer).record -/
def c23 : Go.SL.CC := S (O 3 (.box 27 (t 1))<|
O 4 (.new 61 #[.int .i64 0, .bool false, .int .i64 0, .int .i64 0, .int .u64 0, .int .i64 0, .int .u64 0, .int .i64 0, .int .i64 0, .int .u64 0, .int .i64 0, .int .u64 0, .slice none 0 0])<|
F 10 6 0<|L 11 10<|M 12 2 3<|.both (C 13 38 [t 11, t 12]<|X 14 13 0<|X 15 13 1<|
O 5 (.new 96 #[.int .i64 0, .int .u64 0, .int .i64 0, .int .i64 0, .int .u64 0, .int .i64 0, .int .u64 0, .int .i64 0, .int .i64 0, .int .u64 0, .int .i64 0, .int .u64 0, .bool false, .int .i64 0, .int .i64 0, .slice none 0 0])<|
N (.st 16 (t 5) (t 14))<|V 6 (t 15)<|
E) (O 5 (.new 96 #[.int .i64 0, .int .u64 0, .int .i64 0, .int .i64 0, .int .u64 0, .int .i64 0, .int .u64 0, .int .i64 0, .int .i64 0, .int .u64 0, .int .i64 0, .int .u64 0, .bool false, .int .i64 0, .int .i64 0, .slice none 0 0])<|
C 13 38 [t 11, t 12]<|X 14 13 0<|X 15 13 1<|N (.st 16 (t 5) (t 14))<|V 6 (t 15)<|E))<|S (O 17 (.un .not (t 6))<|E)<|
Q (I (t 17) (S (O 18 (.agg [.c (i 2) 0 1, .z (.bool false), .z (.int .i64 0), .z (.int .i64 0), .z (.int .u64 0), .z (.int .i64 0), .z (.int .u64 0), .z (.int .i64 0), .z (.int .i64 0), .z (.int .u64 0), .z (.int .i64 0), .z (.int .u64 0), .z (.slice none 0 0)])<|
N (.st 13 (t 4) (t 18))<|E)<|R) (Z))<|S (F 21 8 0<|L 22 21<|F 23 2 5<|M 24 5 23<|F 25 7 5<|M 26 5 25<|
O 27 (.agg [.c (i 1) 0 1, .c (t 22) 0 1, .c (t 24) 0 5, .c (t 24) 1 5, .c (t 24) 2 5, .c (t 24) 3 5, .c (t 24) 4 5, .c (t 26) 0 5, .c (t 26) 1 5, .c (t 26) 2 5, .c (t 26) 3 5, .c (t 26) 4 5, .z (.slice none 0 0)])<|
N (.st 13 (t 4) (t 27))<|E)<|R
theorem b23 : bodyO 590208 1049088 Try.prog 23 = some (28, [.c 4 (some 13)], c23) := by kernel_rfl
theorem k23 : callOk Try.prog 23 = true := by kernel_rfl
/-- (*leapfrog/peer.Peer).served -/
def c43 : Go.SL.CC := S (V 6 (k (.slice none 0 0))<|F 11 9 0<|L 12 11<|O 13 (.ln (t 12))<|V 14 (i 0)<|E)<|Q (P 0 (S (O 15 (.bini .lss (t 14) (t 13))<|E)<|Q (I (t 15) (Z) (J 0))<|
Q (B 1 (S (O 16 (.ia 6 (t 12) (t 14))<|M 17 6 16<|O 8 (.new 104 #[.int .i64 0, .bool false, .int .i64 0, .int .u64 0, .int .i64 0, .int .i64 0])<|
N (.st 6 (t 8) (t 17))<|M 19 6 8<|O 20 (.call (t 1) [t 19])<|E)<|I (t 20) (Y (M 22 6 8<|O 23 (.call (t 2) [t 22])<|E)) (Y (M 25 6 8<|
O 26 (.bsl 104 [.c (t 25) 0 6, .c (t 25) 1 6, .c (t 25) 2 6, .c (t 25) 3 6, .c (t 25) 4 6, .c (t 25) 5 6] 1)<|
O 6 (.ap 104 6 48 #[.int .i64 0, .bool false, .int .i64 0, .int .u64 0, .int .i64 0, .int .i64 0] (t 6) (t 26))<|E))))<|Y (O 14 (.bini .add (t 14) (i 1))<|
E)))<|Y (F 32 9 0<|N (.st 1 (t 32) (t 6))<|E)
theorem b43 : bodyO 1629749760 2550137856 Try.prog 43 = some (33, [], c43) := by kernel_rfl
theorem k43 : callOk Try.prog 43 = true := by kernel_rfl
/-- (*leapfrog/peer.Peer).lock -/
def c25 : Go.SL.CC := S (O 5 (.box 58 (t 2))<|F 13 6 0<|L 14 13<|F 15 1 5<|M 16 2 15<|.both (C 17 38 [t 14, t 16]<|X 18 17 0<|X 19 17 1<|
O 6 (.new 96 #[.int .i64 0, .int .u64 0, .int .i64 0, .int .i64 0, .int .u64 0, .int .i64 0, .int .u64 0, .int .i64 0, .int .i64 0, .int .u64 0, .int .i64 0, .int .u64 0, .bool false, .int .i64 0, .int .i64 0, .slice none 0 0])<|
N (.st 16 (t 6) (t 18))<|V 7 (t 19)<|
E) (O 6 (.new 96 #[.int .i64 0, .int .u64 0, .int .i64 0, .int .i64 0, .int .u64 0, .int .i64 0, .int .u64 0, .int .i64 0, .int .i64 0, .int .u64 0, .int .i64 0, .int .u64 0, .bool false, .int .i64 0, .int .i64 0, .slice none 0 0])<|
C 17 38 [t 14, t 16]<|X 18 17 0<|X 19 17 1<|N (.st 16 (t 6) (t 18))<|V 7 (t 19)<|E))<|S (O 21 (.un .not (t 7))<|E)<|Q (I (t 21) (S (C 24 39 [t 0, t 1, i 2]<|
E)<|R) (Z))<|S (F 28 6 0<|L 29 28<|F 30 1 5<|M 31 2 30<|F 32 13 5<|M 33 2 32<|C 34 40 [t 29, t 31, t 33]<|X 35 34 0<|X 36 34 1<|V 8 (t 35)<|V 9 (t 36)<|E)<|
B 0 (S (V 52 (t 8)<|E)<|I (t 52) (Y (F 57 1 5<|M 58 2 57<|C 59 23 [t 0, t 58]<|C 60 22 [t 0, t 1, t 59]<|E)) (S (O 64 (.bini .neq (t 9) (i 0))<|
H 65 (.fa 15 (t 6)) 64<|H 66 (.ld none (t 65)) 64<|H 67 (.fa 13 (t 5)) 64<|H 68 (.ld (some 2) (t 67)) 64<|H 69 (.call (f 41) [t 66, t 68]) 64<|
O 61 (.pick (t 64) (b true) (t 69))<|E)<|I (t 61) (Y (C 73 39 [t 0, t 1, i 4]<|E)) (Y (F 40 9 0<|L 41 40<|F 43 1 5<|M 44 2 43<|F 45 13 5<|M 46 2 45<|
O 47 (.agg [.c (t 1) 0 1, .z (.bool false), .c (t 44) 0 2, .c (t 44) 1 2, .c (t 46) 0 2, .c (t 46) 1 2])<|
O 48 (.bsl 104 [.c (t 47) 0 6, .c (t 47) 1 6, .c (t 47) 2 6, .c (t 47) 3 6, .c (t 47) 4 6, .c (t 47) 5 6] 1)<|
O 49 (.ap 104 6 48 #[.int .i64 0, .bool false, .int .i64 0, .int .u64 0, .int .i64 0, .int .i64 0] (t 41) (t 48))<|F 51 9 0<|N (.st 1 (t 51) (t 49))<|E))))
theorem b25 : bodyO 7088296523122193992704 1189816119204062957568 Try.prog 25 = some (74, [], c25) := by kernel_rfl
theorem k25 : callOk Try.prog 25 = true := by kernel_rfl
/-- (*leapfrog/peer.Peer).free -/
def c26 : Go.SL.CC := S (O 3 (.box 38 (t 0))<|O 5 (.box 58 (t 2))<|L 10 3<|F 12 6 10<|L 13 12<|F 14 1 5<|M 15 2 14<|F 16 13 5<|M 17 2 16<|.both (C 18 42 [t 13, t 15, t 17]<|
X 19 18 0<|X 20 18 1<|X 21 18 2<|O 6 (.new 52 #[.int .i64 0, .int .i64 0])<|N (.st 2 (t 6) (t 19))<|V 7 (t 20)<|V 8 (t 21)<|
E) (O 6 (.new 52 #[.int .i64 0, .int .i64 0])<|C 18 42 [t 13, t 15, t 17]<|X 19 18 0<|X 20 18 1<|X 21 18 2<|N (.st 2 (t 6) (t 19))<|V 7 (t 20)<|V 8 (t 21)<|
E))<|S (O 23 (.bini .neq (t 8) (i 0))<|E)<|Q (I (t 23) (S (L 24 3<|C 26 39 [t 24, t 1, i 4]<|E)<|R) (Z))<|S (L 27 3<|C 29 39 [t 27, t 1, i 1]<|
O 31 (.un .not (t 7))<|E)<|Q (I (t 31) (R) (Z))<|Y (L 32 3<|O 33 (.mkf 44 [t 5, t 6])<|O 34 (.mkf 45 [t 3])<|C 35 43 [t 32, t 33, t 34]<|E)
theorem b26 : bodyO 1379926528 2048 Try.prog 26 = some (36, [], c26) := by kernel_rfl
theorem k26 : callOk Try.prog 26 = true := by kernel_rfl
/-- (*leapfrog/peer.Peer).free$1 -/
def c44 : Go.SL.CC := S (O 3 (.box 104 (t 0))<|V 4 (b false)<|F 5 1 3<|L 6 5<|O 8 (.un .not (t 6))<|G 9 (.fa 2 (t 3)) 8<|G 10 (.ld (some 2) (t 9)) 8<|G 11 (.fa 1 (t 1)) 8<|
G 12 (.ld (some 2) (t 11)) 8<|G 13 (.eqs false [.i, .i] (t 10) (t 12)) 8<|O 15 (.pick (t 8) (t 13) (b false))<|G 16 (.fa 4 (t 3)) 15<|
G 17 (.ld (some 2) (t 16)) 15<|G 18 (.ld (some 2) (t 2)) 15<|G 19 (.eqs false [.i, .i] (t 17) (t 18)) 15<|O 4 (.pick (t 15) (t 19) (b false))<|E)<|R
theorem b44 : bodyO 0 1065088 Try.prog 44 = some (21, [.t 4], c44) := by kernel_rfl
theorem k44 : callOk Try.prog 44 = true := by kernel_rfl
/-- (*leapfrog/peer.Peer).free$2 -/
def c45 : Go.SL.CC := Y (O 2 (.box 104 (t 0))<|L 3 1<|F 4 0 2<|L 5 4<|L 6 1<|F 7 2 2<|M 8 2 7<|C 9 23 [t 6, t 8]<|A 3 (.ld none (t 1))<|A 5 (.ld none (t 4))<|
C 10 22 [t 3, t 5, t 9]<|E)
theorem b45 : bodyO 0 0 Try.prog 45 = some (11, [], c45) := by kernel_rfl
theorem k45 : callOk Try.prog 45 = true := by kernel_rfl
/-- (*leapfrog/peer.Peer).yes -/
def c27 : Go.SL.CC := B 0 (S (O 11 (.bini .eql (t 2) (i 0))<|E)<|I (t 11) (Y (C 16 39 [t 0, t 1, i 1]<|E)) (S (V 19 (t 3)<|G 21 (.bini .eql (t 2) (i 82)) 19<|
O 17 (.pick (t 19) (t 21) (b false))<|E)<|I (t 17) (Y (C 25 39 [t 0, t 1, i 2]<|E)) (Y (C 10 39 [t 0, t 1, i 4]<|E))))
theorem b27 : bodyO 26530560 4202496 Try.prog 27 = some (26, [], c27) := by kernel_rfl
theorem k27 : callOk Try.prog 27 = true := by kernel_rfl
/-- (*leapfrog/peer.Peer).out -/
def c31 : Go.SL.CC := S (O 3 (.box 38 (t 0))<|O 5 (.box 58 (t 2))<|L 9 3<|F 11 6 9<|L 12 11<|F 13 1 5<|M 14 2 13<|F 15 13 5<|M 16 2 15<|C 17 56 [t 12, t 14, t 16]<|X 18 17 0<|
X 19 17 1<|L 20 3<|C 23 27 [t 20, t 1, t 19, b false]<|O 25 (.bini .eql (t 19) (i 0))<|E)<|I (t 25) (Y (L 26 3<|O 27 (.mkf 57 [t 5])<|O 28 (.mkf 58 [t 3])<|
C 29 43 [t 26, t 27, t 28]<|E)) (Z)
theorem b31 : bodyO 23069120 1024 Try.prog 31 = some (30, [], c31) := by kernel_rfl
theorem k31 : callOk Try.prog 31 = true := by kernel_rfl
/-- (*leapfrog/peer.Peer).out$1 -/
def c57 : Go.SL.CC := S (O 2 (.box 104 (t 0))<|V 3 (b false)<|F 4 1 2<|L 5 4<|O 7 (.un .not (t 5))<|G 8 (.fa 2 (t 2)) 7<|G 9 (.ld (some 2) (t 8)) 7<|G 10 (.fa 1 (t 1)) 7<|
G 11 (.ld (some 2) (t 10)) 7<|G 12 (.eqs false [.i, .i] (t 9) (t 11)) 7<|O 3 (.pick (t 7) (t 12) (b false))<|E)<|R
theorem b57 : bodyO 0 8256 Try.prog 57 = some (14, [.t 3], c57) := by kernel_rfl
theorem k57 : callOk Try.prog 57 = true := by kernel_rfl
/-- (*leapfrog/peer.Peer).out$2 -/
def c58 : Go.SL.CC := Y (O 2 (.box 104 (t 0))<|L 3 1<|F 4 0 2<|L 5 4<|C 6 39 [t 3, t 5, i 2]<|E)
theorem b58 : bodyO 0 0 Try.prog 58 = some (7, [], c58) := by kernel_rfl
theorem k58 : callOk Try.prog 58 = true := by kernel_rfl
/-- (*leapfrog/peer.Peer).mark -/
def c32 : Go.SL.CC := B 0 (S (C 19 59 [t 0]<|H 22 (.fa 8 (t 0)) 19<|H 23 (.ld none (t 22)) 19<|O 16 (.pick (t 19) (b true) (t 23))<|E)<|I (t 16) (Y (C 27 39 [t 0, t 1, i 4]<|
E)) (S (F 31 7 0<|L 32 31<|O 28 (.un .not (t 32))<|E)<|I (t 28) (Y (F 37 9 0<|L 38 37<|
O 40 (.agg [.c (t 1) 0 1, .c (b true) 0 1, .z (.int .i64 0), .z (.int .u64 0), .z (.int .i64 0), .z (.int .i64 0)])<|
O 41 (.bsl 104 [.c (t 40) 0 6, .c (t 40) 1 6, .c (t 40) 2 6, .c (t 40) 3 6, .c (t 40) 4 6, .c (t 40) 5 6] 1)<|
O 42 (.ap 104 6 48 #[.int .i64 0, .bool false, .int .i64 0, .int .u64 0, .int .i64 0, .int .i64 0] (t 38) (t 41))<|F 44 9 0<|N (.st 1 (t 44) (t 42))<|
E)) (Y (F 6 8 0<|N (.st 1 (t 6) (b true))<|F 11 5 0<|L 12 11<|C 13 18 [t 12]<|
O 14 (.agg [.c (i 1) 0 1, .z (.bool false), .z (.int .i64 0), .z (.int .i64 0), .z (.int .u64 0), .z (.int .i64 0), .z (.int .u64 0), .z (.int .i64 0), .z (.int .i64 0), .z (.int .u64 0), .z (.int .i64 0), .z (.int .u64 0), .c (t 13) 0 1])<|
C 15 22 [t 0, t 1, t 14]<|E))))
theorem b32 : bodyO 601934136208 8874495312928 Try.prog 32 = some (45, [], c32) := by kernel_rfl
theorem k32 : callOk Try.prog 32 = true := by kernel_rfl
/-- (*leapfrog/peer.Peer).join -/
def c33 : Go.SL.CC := S (O 2 (.box 38 (t 0))<|L 4 2<|C 5 59 [t 4]<|E)<|Q (I (t 5) (S (L 6 2<|C 8 39 [t 6, t 1, i 4]<|E)<|R) (Z))<|Y (L 9 2<|F 11 7 9<|N (.st 1 (t 11) (b true))<|
L 12 2<|C 14 39 [t 12, t 1, i 1]<|L 15 2<|O 16 (.mkf 61 [t 2])<|C 17 43 [t 15, f 60, t 16]<|E)
theorem b33 : bodyO 8320 1024 Try.prog 33 = some (18, [], c33) := by kernel_rfl
theorem k33 : callOk Try.prog 33 = true := by kernel_rfl
/-- (*leapfrog/peer.Peer).join$1 -/
def c60 : Go.SL.CC := S (O 1 (.box 104 (t 0))<|V 2 (b false)<|F 3 1 1<|L 2 3<|E)<|R
theorem b60 : bodyO 0 16 Try.prog 60 = some (5, [.t 2], c60) := by kernel_rfl
theorem k60 : callOk Try.prog 60 = true := by kernel_rfl
/-- (*leapfrog/peer.Peer).join$2 -/
def c61 : Go.SL.CC := Y (O 2 (.box 104 (t 0))<|L 3 1<|F 4 0 2<|L 5 4<|C 6 32 [t 3, t 5]<|E)
theorem b61 : bodyO 0 0 Try.prog 61 = some (7, [], c61) := by kernel_rfl
theorem k61 : callOk Try.prog 61 = true := by kernel_rfl
/-- (*leapfrog/peer.Peer).get -/
def c24 : Go.SL.CC := S (O 6 (.agg [.z (.int .i64 0), .z (.int .u64 0)])<|C 7 23 [t 0, t 6]<|
O 4 (.new 61 #[.int .i64 0, .bool false, .int .i64 0, .int .i64 0, .int .u64 0, .int .i64 0, .int .u64 0, .int .i64 0, .int .i64 0, .int .u64 0, .int .i64 0, .int .u64 0, .slice none 0 0])<|
N (.st 13 (t 4) (t 7))<|F 8 0 4<|L 9 8<|O 10 (.bini .eql (t 9) (i 1))<|E)<|Q (I (t 10) (Y (F 13 5 0<|L 14 13<|C 15 18 [t 14]<|F 16 12 4<|
N (.st 1 (t 16) (t 15))<|E)) (Z))<|Y (M 19 13 4<|C 20 22 [t 0, t 1, t 19]<|E)
theorem b24 : bodyO 395296 4096 Try.prog 24 = some (21, [], c24) := by kernel_rfl
theorem k24 : callOk Try.prog 24 = true := by kernel_rfl
/-- (*leapfrog/peer.Peer).Ask -/
def c15 : Go.SL.CC := S (O 5 (.box 58 (t 2))<|V 6 (k (.slice none 0 0))<|V 7 (i 0)<|C 9 20 [t 0]<|O 10 (.un .not (t 9))<|E)<|Q (I (t 10) (S (V 6 (k (.slice none 0 0))<|V 7 (i 4)<|
E)<|R) (Z))<|S (M 11 15 5<|C 12 21 [t 11]<|O 13 (.bini .neq (t 12) (i 0))<|E)<|Q (I (t 13) (S (V 6 (k (.slice none 0 0))<|V 7 (i 91)<|E)<|R) (Z))<|
S (F 16 10 0<|N (.st 1 (t 16) (k (.slice none 0 0)))<|F 17 0 5<|L 18 17<|E)<|
Q (B 0 (Q (B 11 (B 10 (Q (B 9 (Q (B 8 (Q (B 7 (Q (B 6 (Q (B 5 (Q (B 4 (Q (B 3 (Q (B 2 (Q (B 1 (S (O 19 (.bini .eql (t 18) (i 1))<|E)<|Q (I (t 19) (J 1) (Z))<|
S (O 21 (.bini .eql (t 18) (i 2))<|E)<|Q (I (t 21) (J 2) (Z))<|S (O 23 (.bini .eql (t 18) (i 3))<|E)<|Q (I (t 23) (J 3) (Z))<|
S (O 25 (.bini .eql (t 18) (i 4))<|E)<|Q (I (t 25) (J 4) (Z))<|S (O 27 (.bini .eql (t 18) (i 5))<|E)<|Q (I (t 27) (J 5) (Z))<|
S (O 29 (.bini .eql (t 18) (i 6))<|E)<|Q (I (t 29) (J 6) (Z))<|S (O 31 (.bini .eql (t 18) (i 7))<|E)<|Q (I (t 31) (J 7) (Z))<|
S (O 33 (.bini .eql (t 18) (i 8))<|E)<|Q (I (t 33) (J 8) (Z))<|S (O 35 (.bini .eql (t 18) (i 9))<|E)<|Q (I (t 35) (J 9) (Z))<|
S (O 37 (.bini .eql (t 18) (i 10))<|E)<|Q (I (t 37) (J 10) (Z))<|J 11))<|S (F 42 1 5<|M 43 2 42<|C 44 23 [t 0, t 43]<|C 45 22 [t 0, t 1, t 44]<|E)<|J 0))<|
S (C 48 24 [t 0, t 1]<|E)<|J 0))<|S (M 51 15 5<|C 52 25 [t 0, t 1, t 51]<|E)<|J 0))<|S (M 55 15 5<|C 56 26 [t 0, t 1, t 55]<|E)<|J 0))<|S (F 61 6 0<|L 62 61<|
F 63 1 5<|M 64 2 63<|F 65 3 5<|M 66 5 65<|F 67 13 5<|M 68 2 67<|C 69 28 [t 62, t 64, t 66, t 68]<|C 70 27 [t 0, t 1, t 69, b false]<|E)<|J 0))<|S (F 75 6 0<|
L 76 75<|F 77 1 5<|M 78 2 77<|F 79 3 5<|M 80 5 79<|C 81 29 [t 76, t 78, t 80]<|C 82 27 [t 0, t 1, t 81, b true]<|E)<|J 0))<|S (F 87 6 0<|L 88 87<|F 89 1 5<|
M 90 2 89<|F 91 3 5<|M 92 5 91<|F 93 8 5<|M 94 5 93<|F 95 13 5<|M 96 2 95<|C 97 30 [t 88, t 90, t 92, t 94, t 96]<|C 98 27 [t 0, t 1, t 97, b false]<|E)<|
J 0))<|S (M 101 15 5<|C 102 31 [t 0, t 1, t 101]<|E)<|J 0))<|S (C 105 32 [t 0, t 1]<|E)<|J 0)))<|S (C 108 33 [t 0, t 1]<|E)<|J 0))<|S (F 111 10 0<|L 6 111<|
V 7 (i 0)<|E)<|R
theorem b15 : bodyO 924751180582868567232841208840448 6490371150558677609852737283981312 Try.prog 15 = some (113, [.t 6, .t 7], c15) := by kernel_rfl
theorem k15 : callOk Try.prog 15 = true := by kernel_rfl
/-- leapfrog/leapfrogref09.New -/
def c14 : Go.SL.CC := S (O 2 (.box 29 (t 0))<|V 4 (k (.pointer none))<|V 5 (i 0)<|F 6 1 2<|F 7 0 6<|L 8 7<|O 10 (.bini .neq (t 8) (i 2))<|H 11 (.fa 3 (t 2)) 10<|
H 12 (.ld (some 2) (t 11)) 10<|H 13 (.call (f 19) [t 12]) 10<|H 14 (.un .not (t 13)) 10<|O 16 (.pick (t 10) (b true) (t 14))<|H 17 (.fa 0 (t 2)) 16<|
H 18 (.ld none (t 17)) 16<|H 19 (.bini .lss (t 18) (i 2)) 16<|O 21 (.pick (t 16) (b true) (t 19))<|H 22 (.fa 0 (t 2)) 21<|H 23 (.ld none (t 22)) 21<|
H 24 (.bini .geq (t 23) (i 1024)) 21<|O 26 (.pick (t 21) (b true) (t 24))<|H 28 (.ln (t 1)) 26<|H 29 (.bini .gtr (t 28) (i 1024)) 26<|
O 30 (.pick (t 26) (b true) (t 29))<|E)<|Q (I (t 30) (S (V 4 (k (.pointer none))<|V 5 (i 90)<|E)<|R) (Z))<|S (M 31 5 2<|O 32 (.bsl 5 [] 0)<|
O 34 (.ap 5 1 1 #[.int .u8 0] (t 32) (t 1))<|A 31 (.ld (some 5) (t 2))<|
O 35 (.agg [.c (t 31) 0 5, .c (t 31) 1 5, .c (t 31) 2 5, .c (t 31) 3 5, .c (t 31) 4 5, .c (t 34) 0 1, .z (.bool false), .z (.bool false), .z (.bool false), .z (.slice none 0 0), .z (.slice none 0 0)])<|
O 4 (.box 73 (t 35))<|V 5 (i 0)<|E)<|R
theorem b14 : bodyO 8724152320 68754113024 Try.prog 14 = some (37, [.t 4, .t 5], c14) := by kernel_rfl
theorem k14 : callOk Try.prog 14 = true := by kernel_rfl
/-- leapfrog/leapfrogref09.NewEnd -/
def c12 : Go.SL.CC := S (V 4 (k (.pointer none))<|V 5 (i 0)<|C 10 5 [t 1]<|X 11 10 0<|X 12 10 1<|O 6 (.new 29 #[.int .i64 0, .int .i64 0, .int .u64 0, .int .i64 0, .int .u64 0])<|
N (.st 5 (t 6) (t 11))<|V 7 (t 12)<|V 13 (t 0)<|E)<|Q (I (t 13) (Y (C 16 7 [t 1]<|X 17 16 0<|X 18 16 1<|N (.st 5 (t 6) (t 17))<|V 7 (t 18)<|E)) (Z))<|
S (O 20 (.bini .neq (t 7) (i 0))<|E)<|Q (I (t 20) (S (V 4 (k (.pointer none))<|V 5 (t 7)<|E)<|R) (Z))<|S (M 22 5 6<|
O 23 (.agg [.c (t 22) 0 5, .c (t 22) 1 5, .c (t 22) 2 5, .c (t 22) 3 5, .c (t 22) 4 5, .z (.slice none 0 0), .c (b true) 0 1, .c (b true) 0 1, .z (.bool false), .z (.slice none 0 0), .z (.slice none 0 0)])<|
O 4 (.box 73 (t 23))<|V 5 (i 0)<|E)<|R
theorem b12 : bodyO 2671360 16777216 Try.prog 12 = some (25, [.t 4, .t 5], c12) := by kernel_rfl
theorem k12 : callOk Try.prog 12 = true := by kernel_rfl
/-- leapfrog/leapfroglaw09.alive -/
def c9 : Go.SL.CC := S (V 0 (b false)<|C 16 4 [i 3]<|V 15 (t 16)<|X 17 15 0<|X 18 15 1<|O 1 (.new 29 #[.int .i64 0, .int .i64 0, .int .u64 0, .int .i64 0, .int .u64 0])<|
N (.st 5 (t 1) (t 17))<|V 2 (t 18)<|C 20 6 [i 3]<|V 19 (t 20)<|X 21 19 0<|X 22 19 1<|
O 3 (.new 29 #[.int .i64 0, .int .i64 0, .int .u64 0, .int .i64 0, .int .u64 0])<|N (.st 5 (t 3) (t 21))<|V 4 (t 22)<|O 24 (.agg [.c (i 2) 0 1, .c (u 5) 0 1])<|
O 25 (.agg [.c (i 3) 0 1, .c (u 5) 0 1])<|O 26 (.agg [.c (i 2) 0 1, .c (t 24) 0 2, .c (t 24) 1 2, .c (t 25) 0 2, .c (t 25) 1 2])<|
O 27 (.bsl 5 [.c (k (.int .u8 118)) 0 1] 1)<|O 28 (.raw ⟨some 28, .convert 30 30 (t 27), 30, "law.go:26", #[⟨3, .data⟩], none⟩)<|C 29 13 [t 26, t 28]<|
V 23 (t 29)<|X 30 23 0<|X 31 23 1<|V 5 (t 30)<|V 6 (t 31)<|V 32 (t 2)<|O 33 (.bini .neq (t 32) (i 0))<|V 34 (t 33)<|H 35 (.mv (t 4)) 34<|
H 36 (.bini .neq (t 35) (i 0)) 34<|O 37 (.pick (t 34) (b true) (t 36))<|V 38 (t 37)<|H 39 (.mv (t 6)) 38<|H 40 (.bini .neq (t 39) (i 0)) 38<|
O 41 (.pick (t 38) (b true) (t 40))<|V 42 (t 41)<|H 43 (.mv (t 5)) 42<|H 44 (.cmp .p false (t 43) (k (.pointer none))) 42<|O 45 (.pick (t 42) (b true) (t 44))<|
E)<|Q (I (t 45) (S (V 0 (b false)<|E)<|R) (Z))<|S (O 46 (.agg [.z (.int .i64 0), .c (i 1) 0 1])<|O 47 (.agg [.z (.int .i64 0), .c (i 2) 0 1])<|
O 7 (.new 52 #[.int .i64 0, .int .i64 0])<|O 8 (.new 52 #[.int .i64 0, .int .i64 0])<|N (.st 2 (t 7) (t 46))<|N (.st 2 (t 8) (t 47))<|V 49 (t 5)<|M 50 5 1<|
M 51 5 3<|M 52 2 7<|
O 53 (.agg [.c (i 7) 0 1, .z (.int .i64 0), .z (.int .u64 0), .c (t 50) 0 5, .c (t 50) 1 5, .c (t 50) 2 5, .c (t 50) 3 5, .c (t 50) 4 5, .c (t 51) 0 5, .c (t 51) 1 5, .c (t 51) 2 5, .c (t 51) 3 5, .c (t 51) 4 5, .c (t 52) 0 2, .c (t 52) 1 2])<|
C 54 15 [t 49, i 7, t 53]<|V 48 (t 54)<|X 55 48 0<|X 56 48 1<|V 9 (t 55)<|V 10 (t 56)<|V 58 (t 5)<|M 59 2 8<|
O 60 (.agg [.c (i 3) 0 1, .z (.int .i64 0), .z (.int .u64 0), .z (.int .i64 0), .z (.int .i64 0), .z (.int .u64 0), .z (.int .i64 0), .z (.int .u64 0), .z (.int .i64 0), .z (.int .i64 0), .z (.int .u64 0), .z (.int .i64 0), .z (.int .u64 0), .c (t 59) 0 2, .c (t 59) 1 2])<|
C 61 15 [t 58, i 8, t 60]<|V 57 (t 61)<|X 62 57 0<|X 63 57 1<|V 11 (t 62)<|V 12 (t 63)<|V 65 (t 5)<|M 66 2 7<|
O 67 (.agg [.c (i 4) 0 1, .z (.int .i64 0), .z (.int .u64 0), .z (.int .i64 0), .z (.int .i64 0), .z (.int .u64 0), .z (.int .i64 0), .z (.int .u64 0), .z (.int .i64 0), .z (.int .i64 0), .z (.int .u64 0), .z (.int .i64 0), .z (.int .u64 0), .c (t 66) 0 2, .c (t 66) 1 2])<|
C 68 15 [t 65, i 9, t 67]<|V 64 (t 68)<|X 69 64 0<|X 70 64 1<|V 13 (t 69)<|V 14 (t 70)<|V 71 (t 10)<|O 72 (.bini .eql (t 71) (i 0))<|V 73 (t 72)<|
G 74 (.mv (t 12)) 73<|G 75 (.bini .eql (t 74) (i 0)) 73<|O 76 (.pick (t 73) (t 75) (b false))<|V 77 (t 76)<|G 78 (.mv (t 14)) 77<|
G 79 (.bini .eql (t 78) (i 0)) 77<|O 80 (.pick (t 77) (t 79) (b false))<|V 81 (t 80)<|G 82 (.mv (t 9)) 81<|G 83 (.ln (t 82)) 81<|
G 84 (.bini .eql (t 83) (i 1)) 81<|O 85 (.pick (t 81) (t 84) (b false))<|V 86 (t 85)<|G 87 (.mv (t 9)) 86<|G 88 (.ia 14 (t 87) (i 0)) 86<|
G 89 (.fa 1 (t 88)) 86<|G 90 (.fa 0 (t 89)) 86<|G 91 (.ld none (t 90)) 86<|G 92 (.bini .eql (t 91) (i 1)) 86<|O 93 (.pick (t 86) (t 92) (b false))<|
V 94 (t 93)<|G 95 (.mv (t 11)) 94<|G 96 (.ln (t 95)) 94<|G 97 (.bini .eql (t 96) (i 0)) 94<|O 98 (.pick (t 94) (t 97) (b false))<|V 99 (t 98)<|
G 100 (.mv (t 13)) 99<|G 101 (.ln (t 100)) 99<|G 102 (.bini .eql (t 101) (i 2)) 99<|O 103 (.pick (t 99) (t 102) (b false))<|V 104 (t 103)<|
G 105 (.mv (t 13)) 104<|G 106 (.ia 14 (t 105) (i 1)) 104<|G 107 (.fa 0 (t 106)) 104<|G 108 (.ld none (t 107)) 104<|G 109 (.bini .eql (t 108) (i 8)) 104<|
O 110 (.pick (t 104) (t 109) (b false))<|V 111 (t 110)<|G 112 (.mv (t 13)) 111<|G 113 (.ia 14 (t 112) (i 1)) 111<|G 114 (.fa 1 (t 113)) 111<|
G 115 (.fa 7 (t 114)) 111<|G 116 (.ld (some 5) (t 115)) 111<|G 117 (.ld (some 5) (t 3)) 111<|G 118 (.eqs false [.i, .i, .i, .i, .i] (t 116) (t 117)) 111<|
O 119 (.pick (t 111) (t 118) (b false))<|V 0 (t 119)<|E)<|R
theorem b9 : bodyO 0 0 Try.prog 9 = some (120, [.t 0], c9) := by kernel_rfl
theorem k9 : callOk Try.prog 9 = true := by kernel_rfl
/-- leapfrog/leapfroglaw09.made -/
def c8 : Go.SL.CC := S (O 1 (.box 32 (t 0))<|V 2 (k (.pointer none))<|V 3 (k (.pointer none))<|V 4 (b false)<|F 13 7 1<|L 14 13<|O 15 (.ln (t 14))<|
O 16 (.bini .gtr (t 15) (i 1025))<|E)<|Q (I (t 16) (Y (F 17 7 1<|L 18 17<|O 19 (.sl 1 (t 18) none (some (i 1025)) none)<|F 20 7 1<|N (.st 1 (t 20) (t 19))<|
E)) (Z))<|S (F 21 0 1<|L 22 21<|O 24 (.bini .eql (t 22) (i 1))<|H 25 (.fa 0 (t 1)) 24<|H 26 (.ld none (t 25)) 24<|H 27 (.bini .eql (t 26) (i 2)) 24<|
O 28 (.pick (t 24) (b true) (t 27))<|E)<|Q (I (t 28) (S (F 30 0 1<|L 31 30<|O 32 (.bini .eql (t 31) (i 2))<|F 33 1 1<|L 34 33<|C 35 11 [t 32, t 34]<|X 36 35 0<|
X 37 35 1<|F 39 0 1<|L 40 39<|O 41 (.bini .eql (t 40) (i 2))<|F 42 1 1<|L 43 42<|C 44 12 [t 41, t 43]<|X 45 44 0<|X 46 44 1<|O 52 (.bini .eql (t 37) (t 46))<|
G 54 (.cmp .p false (t 36) (k (.pointer none))) 52<|G 56 (.cmp .p false (t 45) (k (.pointer none))) 52<|G 57 (.cmp .b false (t 54) (t 56)) 52<|
O 58 (.pick (t 52) (t 57) (b false))<|V 2 (t 36)<|V 3 (t 45)<|V 4 (t 58)<|E)<|R) (Z))<|S (F 60 2 1<|M 61 5 60<|F 62 7 1<|L 63 62<|C 64 13 [t 61, t 63]<|
X 65 64 0<|X 66 64 1<|F 68 2 1<|M 69 5 68<|F 70 7 1<|L 71 70<|C 72 14 [t 69, t 71]<|X 73 72 0<|X 74 72 1<|O 80 (.bini .eql (t 66) (t 74))<|
G 82 (.cmp .p false (t 65) (k (.pointer none))) 80<|G 84 (.cmp .p false (t 73) (k (.pointer none))) 80<|G 85 (.cmp .b false (t 82) (t 84)) 80<|
O 86 (.pick (t 80) (t 85) (b false))<|V 2 (t 65)<|V 3 (t 73)<|V 4 (t 86)<|E)<|R
theorem b8 : bodyO 12656090371651325166362592 604462912059114409426944 Try.prog 8 = some (87, [.t 2, .t 3, .t 4], c8) := by kernel_rfl
theorem k8 : callOk Try.prog 8 = true := by kernel_rfl
/-- leapfrog/leapfroglaw09.PeerEnds -/
def c3 : Go.SL.CC := S (O 3 (.box 32 (t 1))<|V 4 (b false)<|C 18 4 [t 0]<|X 19 18 0<|X 20 18 1<|O 5 (.new 29 #[.int .i64 0, .int .i64 0, .int .u64 0, .int .i64 0, .int .u64 0])<|
N (.st 5 (t 5) (t 19))<|C 23 5 [t 0]<|X 24 23 0<|X 25 23 1<|O 7 (.new 29 #[.int .i64 0, .int .i64 0, .int .u64 0, .int .i64 0, .int .u64 0])<|
N (.st 5 (t 7) (t 24))<|C 28 6 [t 0]<|X 29 28 0<|X 30 28 1<|O 9 (.new 29 #[.int .i64 0, .int .i64 0, .int .u64 0, .int .i64 0, .int .u64 0])<|
N (.st 5 (t 9) (t 29))<|C 33 7 [t 0]<|X 34 33 0<|X 35 33 1<|O 11 (.new 29 #[.int .i64 0, .int .i64 0, .int .u64 0, .int .i64 0, .int .u64 0])<|
N (.st 5 (t 11) (t 34))<|M 37 8 3<|C 38 8 [t 37]<|X 39 38 0<|X 40 38 1<|X 41 38 2<|M 42 5 5<|M 43 5 7<|O 45 (.eqs false [.i, .i, .i, .i, .i] (t 42) (t 43))<|
G 48 (.bini .eql (t 20) (t 25)) 45<|O 50 (.pick (t 45) (t 48) (b false))<|G 51 (.ld (some 5) (t 9)) 50<|G 52 (.ld (some 5) (t 11)) 50<|
G 53 (.eqs false [.i, .i, .i, .i, .i] (t 51) (t 52)) 50<|O 55 (.pick (t 50) (t 53) (b false))<|G 58 (.bini .eql (t 30) (t 35)) 55<|
O 60 (.pick (t 55) (t 58) (b false))<|G 61 (.mv (t 41)) 60<|O 63 (.pick (t 60) (t 61) (b false))<|G 64 (.call (f 9) []) 63<|
O 4 (.pick (t 63) (t 64) (b false))<|E)<|R
theorem b3 : bodyO 216383963716121920 42100229858798862336 Try.prog 3 = some (66, [.t 4], c3) := by kernel_rfl
theorem k3 : callOk Try.prog 3 = true := by kernel_rfl
end Go.Proofs.Ytmeajliiloaegaa
