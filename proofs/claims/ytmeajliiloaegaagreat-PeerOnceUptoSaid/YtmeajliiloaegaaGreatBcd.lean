/- The bodies of some functions of the program, without their noise, and that they are these. Conditions: none. Written by a program of this workplace (Print.lean). -/
import Derived.Test.YtmeajliiloaegaaGreatProg
import Derived.Test.YtmeajliiloaegaaGreatSlW
import Derived.KernelRfl
namespace Go.Proofs.YtmeajliiloaegaaGreat
open Go.SL Go.SL.W
set_option maxRecDepth 100000

/-- leapfrog/peer.New -/
def c20 : Go.SL.CC := S (O 2 (.box 29 (t 0))<|V 4 (k (.pointer none))<|V 5 (i 0)<|F 9 1 2<|F 10 0 9<|L 11 10<|O 13 (.bini .eql (t 11) (i 2))<|G 14 (.fa 3 (t 2)) 13<|
G 15 (.ld (some 2) (t 14)) 13<|G 16 (.call (f 43) [t 15]) 13<|G 17 (.bini .eql (t 16) (i 0)) 13<|O 19 (.pick (t 13) (t 17) (b false))<|G 20 (.fa 0 (t 2)) 19<|
G 21 (.ld none (t 20)) 19<|G 22 (.bini .geq (t 21) (i 2)) 19<|O 24 (.pick (t 19) (t 22) (b false))<|G 25 (.fa 0 (t 2)) 24<|G 26 (.ld none (t 25)) 24<|
G 27 (.bini .lss (t 26) (i 1024)) 24<|O 28 (.pick (t 24) (t 27) (b false))<|O 31 (.un .not (t 28))<|H 33 (.ln (t 1)) 31<|H 34 (.bini .gtr (t 33) (i 1024)) 31<|
O 35 (.pick (t 31) (b true) (t 34))<|E)<|Q (I (t 35) (S (V 4 (k (.pointer none))<|V 5 (i 90)<|E)<|R) (Z))<|S (M 37 5 2<|C 38 46 [t 37]<|X 39 38 0<|X 40 38 1<|
M 41 5 2<|C 43 38 [t 1]<|A 41 (.ld (some 5) (t 2))<|
O 45 (.agg [.c (t 41) 0 5, .c (t 41) 1 5, .c (t 41) 2 5, .c (t 41) 3 5, .c (t 41) 4 5, .c (t 43) 0 1, .c (t 39) 0 1, .z (.bool false), .z (.bool false), .z (.slice none 0 0), .z (.slice none 0 0)])<|
O 4 (.box 75 (t 45))<|V 5 (i 0)<|E)<|R
theorem b20 : bodyO 22063783870912 70369826574336 Tryz.prog 20 = some (47, [.t 4, .t 5], c20) := by kernel_rfl
theorem k20 : callOk Tryz.prog 20 = true := by kernel_rfl
/-- leapfrog/peer.End -/
def c18 : Go.SL.CC := S (V 4 (k (.pointer none))<|V 5 (i 0)<|C 13 45 [t 0, t 1]<|X 14 13 0<|X 15 13 1<|
O 6 (.new 29 #[.int .i64 0, .int .i64 0, .int .u64 0, .int .i64 0, .int .u64 0])<|N (.st 5 (t 6) (t 14))<|V 7 (t 15)<|O 17 (.bini .neq (t 7) (i 0))<|E)<|
Q (I (t 17) (S (V 4 (k (.pointer none))<|V 5 (t 7)<|E)<|R) (Z))<|S (M 20 5 6<|C 21 46 [t 20]<|X 22 21 0<|X 23 21 1<|M 24 5 6<|
O 26 (.agg [.c (t 24) 0 5, .c (t 24) 1 5, .c (t 24) 2 5, .c (t 24) 3 5, .c (t 24) 4 5, .z (.slice none 0 0), .c (t 22) 0 1, .c (b true) 0 1, .z (.bool false), .z (.slice none 0 0), .z (.slice none 0 0)])<|
O 4 (.box 75 (t 26))<|V 5 (i 0)<|E)<|R
theorem b18 : bodyO 34414336 134217728 Tryz.prog 18 = some (28, [.t 4, .t 5], c18) := by kernel_rfl
theorem k18 : callOk Tryz.prog 18 = true := by kernel_rfl
/-- (*leapfrog/peer.Peer).made -/
def c24 : Go.SL.CC := S (V 2 (b false)<|O 5 (.cmp .p true (t 0) (k (.pointer none)))<|G 8 (.fa 6 (t 0)) 5<|G 9 (.ld none (t 8)) 5<|G 10 (.cmp .p true (t 9) (k (.pointer none))) 5<|
O 2 (.pick (t 5) (t 10) (b false))<|E)<|R
theorem b24 : bodyO 72 2192 Tryz.prog 24 = some (12, [.t 2], c24) := by kernel_rfl
theorem k24 : callOk Tryz.prog 24 = true := by kernel_rfl
/-- (*leapfrog/peer.Peer).isEnd -/
def c71 : Go.SL.CC := S (V 2 (b false)<|F 5 0 0<|F 6 1 5<|F 7 0 6<|L 8 7<|O 2 (.bini .neq (t 8) (i 2))<|E)<|R
theorem b71 : bodyO 8 528 Tryz.prog 71 = some (10, [.t 2], c71) := by kernel_rfl
theorem k71 : callOk Tryz.prog 71 = true := by kernel_rfl
/-- (*leapfrog/peer.Peer).tell -/
def c26 : Go.SL.CC := Y (O 5 (.box 65 (t 2))<|F 9 10 0<|L 10 9<|M 12 13 5<|
O 13 (.agg [.c (t 1) 0 1, .c (t 12) 0 13, .c (t 12) 1 13, .c (t 12) 2 13, .c (t 12) 3 13, .c (t 12) 4 13, .c (t 12) 5 13, .c (t 12) 6 13, .c (t 12) 7 13, .c (t 12) 8 13, .c (t 12) 9 13, .c (t 12) 10 13, .c (t 12) 11 13, .c (t 12) 12 13])<|
O 14 (.bsl 67 [.c (t 13) 0 14, .c (t 13) 1 14, .c (t 13) 2 14, .c (t 13) 3 14, .c (t 13) 4 14, .c (t 13) 5 14, .c (t 13) 6 14, .c (t 13) 7 14, .c (t 13) 8 14, .c (t 13) 9 14, .c (t 13) 10 14, .c (t 13) 11 14, .c (t 13) 12 14, .c (t 13) 13 14] 1)<|
O 15 (.ap 67 14 128 #[.int .i64 0, .int .i64 0, .bool false, .int .i64 0, .int .i64 0, .int .u64 0, .int .i64 0, .int .u64 0, .int .i64 0, .int .i64 0, .int .u64 0, .int .i64 0, .int .u64 0, .slice none 0 0] (t 10) (t 14))<|
F 17 10 0<|N (.st 1 (t 17) (t 15))<|E)
theorem b26 : bodyO 2240 65792 Tryz.prog 26 = some (18, [], c26) := by kernel_rfl
theorem k26 : callOk Tryz.prog 26 = true := by kernel_rfl
/-- (*leapfrog/peer.Peer).plain -/
def c51 : Go.SL.CC := 
Y (O 9 (.agg [.c (t 2) 0 1, .z (.bool false), .z (.int .i64 0), .z (.int .i64 0), .z (.int .u64 0), .z (.int .i64 0), .z (.int .u64 0), .z (.int .i64 0), .z (.int .i64 0), .z (.int .u64 0), .z (.int .i64 0), .z (.int .u64 0), .z (.slice none 0 0)])<|
C 10 26 [t 0, t 1, t 9]<|E)
theorem b51 : bodyO 448 0 Tryz.prog 51 = some (11, [], c51) := by kernel_rfl
theorem k51 : callOk Tryz.prog 51 = true := by kernel_rfl
/-- (*leapfrog/peer.Peer).record -/
def c27 : Go.SL.CC := S (O 3 (.box 27 (t 1))<|
O 4 (.new 65 #[.int .i64 0, .bool false, .int .i64 0, .int .i64 0, .int .u64 0, .int .i64 0, .int .u64 0, .int .i64 0, .int .i64 0, .int .u64 0, .int .i64 0, .int .u64 0, .slice none 0 0])<|
F 10 6 0<|L 11 10<|M 12 2 3<|.both (C 13 50 [t 11, t 12]<|X 14 13 0<|X 15 13 1<|
O 5 (.new 55 #[.int .i64 0, .int .u64 0, .int .i64 0, .int .i64 0, .int .u64 0, .int .i64 0, .int .u64 0, .int .i64 0, .int .i64 0, .int .u64 0, .int .i64 0, .int .u64 0, .bool false, .int .i64 0, .int .i64 0, .slice none 0 0])<|
N (.st 16 (t 5) (t 14))<|V 6 (t 15)<|
E) (O 5 (.new 55 #[.int .i64 0, .int .u64 0, .int .i64 0, .int .i64 0, .int .u64 0, .int .i64 0, .int .u64 0, .int .i64 0, .int .i64 0, .int .u64 0, .int .i64 0, .int .u64 0, .bool false, .int .i64 0, .int .i64 0, .slice none 0 0])<|
C 13 50 [t 11, t 12]<|X 14 13 0<|X 15 13 1<|N (.st 16 (t 5) (t 14))<|V 6 (t 15)<|E))<|S (O 17 (.un .not (t 6))<|E)<|
Q (I (t 17) (S (O 18 (.agg [.c (i 2) 0 1, .z (.bool false), .z (.int .i64 0), .z (.int .i64 0), .z (.int .u64 0), .z (.int .i64 0), .z (.int .u64 0), .z (.int .i64 0), .z (.int .i64 0), .z (.int .u64 0), .z (.int .i64 0), .z (.int .u64 0), .z (.slice none 0 0)])<|
N (.st 13 (t 4) (t 18))<|E)<|R) (Z))<|S (F 21 8 0<|L 22 21<|F 23 2 5<|M 24 5 23<|F 25 7 5<|M 26 5 25<|
O 27 (.agg [.c (i 1) 0 1, .c (t 22) 0 1, .c (t 24) 0 5, .c (t 24) 1 5, .c (t 24) 2 5, .c (t 24) 3 5, .c (t 24) 4 5, .c (t 26) 0 5, .c (t 26) 1 5, .c (t 26) 2 5, .c (t 26) 3 5, .c (t 26) 4 5, .z (.slice none 0 0)])<|
N (.st 13 (t 4) (t 27))<|E)<|R
theorem b27 : bodyO 590208 1049088 Tryz.prog 27 = some (28, [.c 4 (some 13)], c27) := by kernel_rfl
theorem k27 : callOk Tryz.prog 27 = true := by kernel_rfl
/-- (*leapfrog/peer.Peer).served -/
def c55 : Go.SL.CC := S (V 6 (k (.slice none 0 0))<|F 11 9 0<|L 12 11<|O 13 (.ln (t 12))<|V 14 (i 0)<|E)<|Q (P 0 (S (O 15 (.bini .lss (t 14) (t 13))<|E)<|Q (I (t 15) (Z) (J 0))<|
Q (B 1 (S (O 16 (.ia 6 (t 12) (t 14))<|M 17 6 16<|O 8 (.new 105 #[.int .i64 0, .bool false, .int .i64 0, .int .u64 0, .int .i64 0, .int .i64 0])<|
N (.st 6 (t 8) (t 17))<|M 19 6 8<|O 20 (.call (t 1) [t 19])<|E)<|I (t 20) (Y (M 22 6 8<|O 23 (.call (t 2) [t 22])<|E)) (Y (M 25 6 8<|
O 26 (.bsl 105 [.c (t 25) 0 6, .c (t 25) 1 6, .c (t 25) 2 6, .c (t 25) 3 6, .c (t 25) 4 6, .c (t 25) 5 6] 1)<|
O 6 (.ap 105 6 48 #[.int .i64 0, .bool false, .int .i64 0, .int .u64 0, .int .i64 0, .int .i64 0] (t 6) (t 26))<|E))))<|Y (O 14 (.bini .add (t 14) (i 1))<|
E)))<|Y (F 32 9 0<|N (.st 1 (t 32) (t 6))<|E)
theorem b55 : bodyO 1629749760 2550137856 Tryz.prog 55 = some (33, [], c55) := by kernel_rfl
theorem k55 : callOk Tryz.prog 55 = true := by kernel_rfl
/-- (*leapfrog/peer.Peer).lock -/
def c29 : Go.SL.CC := S (O 5 (.box 47 (t 2))<|F 13 6 0<|L 14 13<|F 15 1 5<|M 16 2 15<|.both (C 17 50 [t 14, t 16]<|X 18 17 0<|X 19 17 1<|
O 6 (.new 55 #[.int .i64 0, .int .u64 0, .int .i64 0, .int .i64 0, .int .u64 0, .int .i64 0, .int .u64 0, .int .i64 0, .int .i64 0, .int .u64 0, .int .i64 0, .int .u64 0, .bool false, .int .i64 0, .int .i64 0, .slice none 0 0])<|
N (.st 16 (t 6) (t 18))<|V 7 (t 19)<|
E) (O 6 (.new 55 #[.int .i64 0, .int .u64 0, .int .i64 0, .int .i64 0, .int .u64 0, .int .i64 0, .int .u64 0, .int .i64 0, .int .i64 0, .int .u64 0, .int .i64 0, .int .u64 0, .bool false, .int .i64 0, .int .i64 0, .slice none 0 0])<|
C 17 50 [t 14, t 16]<|X 18 17 0<|X 19 17 1<|N (.st 16 (t 6) (t 18))<|V 7 (t 19)<|E))<|S (O 21 (.un .not (t 7))<|E)<|Q (I (t 21) (S (C 24 51 [t 0, t 1, i 2]<|
E)<|R) (Z))<|S (F 28 6 0<|L 29 28<|F 30 1 5<|M 31 2 30<|F 32 13 5<|M 33 2 32<|C 34 52 [t 29, t 31, t 33]<|X 35 34 0<|X 36 34 1<|V 8 (t 35)<|V 9 (t 36)<|E)<|
B 0 (S (V 52 (t 8)<|E)<|I (t 52) (Y (F 57 1 5<|M 58 2 57<|C 59 27 [t 0, t 58]<|C 60 26 [t 0, t 1, t 59]<|E)) (S (O 64 (.bini .neq (t 9) (i 0))<|
H 65 (.fa 15 (t 6)) 64<|H 66 (.ld none (t 65)) 64<|H 67 (.fa 13 (t 5)) 64<|H 68 (.ld (some 2) (t 67)) 64<|H 69 (.call (f 53) [t 66, t 68]) 64<|
O 61 (.pick (t 64) (b true) (t 69))<|E)<|I (t 61) (Y (C 73 51 [t 0, t 1, i 4]<|E)) (Y (F 40 9 0<|L 41 40<|F 43 1 5<|M 44 2 43<|F 45 13 5<|M 46 2 45<|
O 47 (.agg [.c (t 1) 0 1, .z (.bool false), .c (t 44) 0 2, .c (t 44) 1 2, .c (t 46) 0 2, .c (t 46) 1 2])<|
O 48 (.bsl 105 [.c (t 47) 0 6, .c (t 47) 1 6, .c (t 47) 2 6, .c (t 47) 3 6, .c (t 47) 4 6, .c (t 47) 5 6] 1)<|
O 49 (.ap 105 6 48 #[.int .i64 0, .bool false, .int .i64 0, .int .u64 0, .int .i64 0, .int .i64 0] (t 41) (t 48))<|F 51 9 0<|N (.st 1 (t 51) (t 49))<|E))))
theorem b29 : bodyO 7088296523122193992704 1189816119204062957568 Tryz.prog 29 = some (74, [], c29) := by kernel_rfl
theorem k29 : callOk Tryz.prog 29 = true := by kernel_rfl
/-- (*leapfrog/peer.Peer).free -/
def c30 : Go.SL.CC := S (O 3 (.box 34 (t 0))<|O 5 (.box 47 (t 2))<|L 10 3<|F 12 6 10<|L 13 12<|F 14 1 5<|M 15 2 14<|F 16 13 5<|M 17 2 16<|.both (C 18 54 [t 13, t 15, t 17]<|
X 19 18 0<|X 20 18 1<|X 21 18 2<|O 6 (.new 45 #[.int .i64 0, .int .i64 0])<|N (.st 2 (t 6) (t 19))<|V 7 (t 20)<|V 8 (t 21)<|
E) (O 6 (.new 45 #[.int .i64 0, .int .i64 0])<|C 18 54 [t 13, t 15, t 17]<|X 19 18 0<|X 20 18 1<|X 21 18 2<|N (.st 2 (t 6) (t 19))<|V 7 (t 20)<|V 8 (t 21)<|
E))<|S (O 23 (.bini .neq (t 8) (i 0))<|E)<|Q (I (t 23) (S (L 24 3<|C 26 51 [t 24, t 1, i 4]<|E)<|R) (Z))<|S (L 27 3<|C 29 51 [t 27, t 1, i 1]<|
O 31 (.un .not (t 7))<|E)<|Q (I (t 31) (R) (Z))<|Y (L 32 3<|O 33 (.mkf 56 [t 5, t 6])<|O 34 (.mkf 57 [t 3])<|C 35 55 [t 32, t 33, t 34]<|E)
theorem b30 : bodyO 1379926528 2048 Tryz.prog 30 = some (36, [], c30) := by kernel_rfl
theorem k30 : callOk Tryz.prog 30 = true := by kernel_rfl
/-- (*leapfrog/peer.Peer).free$1 -/
def c56 : Go.SL.CC := S (O 3 (.box 105 (t 0))<|V 4 (b false)<|F 5 1 3<|L 6 5<|O 8 (.un .not (t 6))<|G 9 (.fa 2 (t 3)) 8<|G 10 (.ld (some 2) (t 9)) 8<|G 11 (.fa 1 (t 1)) 8<|
G 12 (.ld (some 2) (t 11)) 8<|G 13 (.eqs false [.i, .i] (t 10) (t 12)) 8<|O 15 (.pick (t 8) (t 13) (b false))<|G 16 (.fa 4 (t 3)) 15<|
G 17 (.ld (some 2) (t 16)) 15<|G 18 (.ld (some 2) (t 2)) 15<|G 19 (.eqs false [.i, .i] (t 17) (t 18)) 15<|O 4 (.pick (t 15) (t 19) (b false))<|E)<|R
theorem b56 : bodyO 0 1065088 Tryz.prog 56 = some (21, [.t 4], c56) := by kernel_rfl
theorem k56 : callOk Tryz.prog 56 = true := by kernel_rfl
/-- (*leapfrog/peer.Peer).free$2 -/
def c57 : Go.SL.CC := Y (O 2 (.box 105 (t 0))<|L 3 1<|F 4 0 2<|L 5 4<|L 6 1<|F 7 2 2<|M 8 2 7<|C 9 27 [t 6, t 8]<|A 3 (.ld none (t 1))<|A 5 (.ld none (t 4))<|
C 10 26 [t 3, t 5, t 9]<|E)
theorem b57 : bodyO 0 0 Tryz.prog 57 = some (11, [], c57) := by kernel_rfl
theorem k57 : callOk Tryz.prog 57 = true := by kernel_rfl
/-- (*leapfrog/peer.Peer).yes -/
def c31 : Go.SL.CC := B 0 (S (O 11 (.bini .eql (t 2) (i 0))<|E)<|I (t 11) (Y (C 16 51 [t 0, t 1, i 1]<|E)) (S (V 19 (t 3)<|G 21 (.bini .eql (t 2) (i 82)) 19<|
O 17 (.pick (t 19) (t 21) (b false))<|E)<|I (t 17) (Y (C 25 51 [t 0, t 1, i 2]<|E)) (Y (C 10 51 [t 0, t 1, i 4]<|E))))
theorem b31 : bodyO 26530560 4202496 Tryz.prog 31 = some (26, [], c31) := by kernel_rfl
theorem k31 : callOk Tryz.prog 31 = true := by kernel_rfl
/-- (*leapfrog/peer.Peer).out -/
def c35 : Go.SL.CC := S (O 3 (.box 34 (t 0))<|O 5 (.box 47 (t 2))<|L 9 3<|F 11 6 9<|L 12 11<|F 13 1 5<|M 14 2 13<|F 15 13 5<|M 16 2 15<|C 17 68 [t 12, t 14, t 16]<|X 18 17 0<|
X 19 17 1<|L 20 3<|C 23 31 [t 20, t 1, t 19, b false]<|O 25 (.bini .eql (t 19) (i 0))<|E)<|I (t 25) (Y (L 26 3<|O 27 (.mkf 69 [t 5])<|O 28 (.mkf 70 [t 3])<|
C 29 55 [t 26, t 27, t 28]<|E)) (Z)
theorem b35 : bodyO 23069120 1024 Tryz.prog 35 = some (30, [], c35) := by kernel_rfl
theorem k35 : callOk Tryz.prog 35 = true := by kernel_rfl
/-- (*leapfrog/peer.Peer).out$1 -/
def c69 : Go.SL.CC := S (O 2 (.box 105 (t 0))<|V 3 (b false)<|F 4 1 2<|L 5 4<|O 7 (.un .not (t 5))<|G 8 (.fa 2 (t 2)) 7<|G 9 (.ld (some 2) (t 8)) 7<|G 10 (.fa 1 (t 1)) 7<|
G 11 (.ld (some 2) (t 10)) 7<|G 12 (.eqs false [.i, .i] (t 9) (t 11)) 7<|O 3 (.pick (t 7) (t 12) (b false))<|E)<|R
theorem b69 : bodyO 0 8256 Tryz.prog 69 = some (14, [.t 3], c69) := by kernel_rfl
theorem k69 : callOk Tryz.prog 69 = true := by kernel_rfl
/-- (*leapfrog/peer.Peer).out$2 -/
def c70 : Go.SL.CC := Y (O 2 (.box 105 (t 0))<|L 3 1<|F 4 0 2<|L 5 4<|C 6 51 [t 3, t 5, i 2]<|E)
theorem b70 : bodyO 0 0 Tryz.prog 70 = some (7, [], c70) := by kernel_rfl
theorem k70 : callOk Tryz.prog 70 = true := by kernel_rfl
/-- (*leapfrog/peer.Peer).mark -/
def c36 : Go.SL.CC := B 0 (S (C 19 71 [t 0]<|H 22 (.fa 8 (t 0)) 19<|H 23 (.ld none (t 22)) 19<|O 16 (.pick (t 19) (b true) (t 23))<|E)<|I (t 16) (Y (C 27 51 [t 0, t 1, i 4]<|
E)) (S (F 31 7 0<|L 32 31<|O 28 (.un .not (t 32))<|E)<|I (t 28) (Y (F 37 9 0<|L 38 37<|
O 40 (.agg [.c (t 1) 0 1, .c (b true) 0 1, .z (.int .i64 0), .z (.int .u64 0), .z (.int .i64 0), .z (.int .i64 0)])<|
O 41 (.bsl 105 [.c (t 40) 0 6, .c (t 40) 1 6, .c (t 40) 2 6, .c (t 40) 3 6, .c (t 40) 4 6, .c (t 40) 5 6] 1)<|
O 42 (.ap 105 6 48 #[.int .i64 0, .bool false, .int .i64 0, .int .u64 0, .int .i64 0, .int .i64 0] (t 38) (t 41))<|F 44 9 0<|N (.st 1 (t 44) (t 42))<|
E)) (Y (F 6 8 0<|N (.st 1 (t 6) (b true))<|F 11 5 0<|L 12 11<|C 13 38 [t 12]<|
O 14 (.agg [.c (i 1) 0 1, .z (.bool false), .z (.int .i64 0), .z (.int .i64 0), .z (.int .u64 0), .z (.int .i64 0), .z (.int .u64 0), .z (.int .i64 0), .z (.int .i64 0), .z (.int .u64 0), .z (.int .i64 0), .z (.int .u64 0), .c (t 13) 0 1])<|
C 15 26 [t 0, t 1, t 14]<|E))))
theorem b36 : bodyO 601934136208 8874495312928 Tryz.prog 36 = some (45, [], c36) := by kernel_rfl
theorem k36 : callOk Tryz.prog 36 = true := by kernel_rfl
/-- (*leapfrog/peer.Peer).join -/
def c37 : Go.SL.CC := S (O 2 (.box 34 (t 0))<|L 4 2<|C 5 71 [t 4]<|E)<|Q (I (t 5) (S (L 6 2<|C 8 51 [t 6, t 1, i 4]<|E)<|R) (Z))<|Y (L 9 2<|F 11 7 9<|N (.st 1 (t 11) (b true))<|
L 12 2<|C 14 51 [t 12, t 1, i 1]<|L 15 2<|O 16 (.mkf 73 [t 2])<|C 17 55 [t 15, f 72, t 16]<|E)
theorem b37 : bodyO 8320 1024 Tryz.prog 37 = some (18, [], c37) := by kernel_rfl
theorem k37 : callOk Tryz.prog 37 = true := by kernel_rfl
/-- (*leapfrog/peer.Peer).join$1 -/
def c72 : Go.SL.CC := S (O 1 (.box 105 (t 0))<|V 2 (b false)<|F 3 1 1<|L 2 3<|E)<|R
theorem b72 : bodyO 0 16 Tryz.prog 72 = some (5, [.t 2], c72) := by kernel_rfl
theorem k72 : callOk Tryz.prog 72 = true := by kernel_rfl
/-- (*leapfrog/peer.Peer).join$2 -/
def c73 : Go.SL.CC := Y (O 2 (.box 105 (t 0))<|L 3 1<|F 4 0 2<|L 5 4<|C 6 36 [t 3, t 5]<|E)
theorem b73 : bodyO 0 0 Tryz.prog 73 = some (7, [], c73) := by kernel_rfl
theorem k73 : callOk Tryz.prog 73 = true := by kernel_rfl
/-- (*leapfrog/peer.Peer).get -/
def c28 : Go.SL.CC := S (O 6 (.agg [.z (.int .i64 0), .z (.int .u64 0)])<|C 7 27 [t 0, t 6]<|
O 4 (.new 65 #[.int .i64 0, .bool false, .int .i64 0, .int .i64 0, .int .u64 0, .int .i64 0, .int .u64 0, .int .i64 0, .int .i64 0, .int .u64 0, .int .i64 0, .int .u64 0, .slice none 0 0])<|
N (.st 13 (t 4) (t 7))<|F 8 0 4<|L 9 8<|O 10 (.bini .eql (t 9) (i 1))<|E)<|Q (I (t 10) (Y (F 13 5 0<|L 14 13<|C 15 38 [t 14]<|F 16 12 4<|
N (.st 1 (t 16) (t 15))<|E)) (Z))<|Y (M 19 13 4<|C 20 26 [t 0, t 1, t 19]<|E)
theorem b28 : bodyO 395296 4096 Tryz.prog 28 = some (21, [], c28) := by kernel_rfl
theorem k28 : callOk Tryz.prog 28 = true := by kernel_rfl
/-- (*leapfrog/peer.Peer).Ask -/
def c9 : Go.SL.CC := S (O 5 (.box 47 (t 2))<|V 6 (k (.slice none 0 0))<|V 7 (i 0)<|C 9 24 [t 0]<|O 10 (.un .not (t 9))<|E)<|Q (I (t 10) (S (V 6 (k (.slice none 0 0))<|V 7 (i 4)<|
E)<|R) (Z))<|S (M 11 15 5<|C 12 25 [t 11]<|O 13 (.bini .neq (t 12) (i 0))<|E)<|Q (I (t 13) (S (V 6 (k (.slice none 0 0))<|V 7 (i 91)<|E)<|R) (Z))<|
S (F 16 10 0<|N (.st 1 (t 16) (k (.slice none 0 0)))<|F 17 0 5<|L 18 17<|E)<|
Q (B 0 (Q (B 11 (B 10 (Q (B 9 (Q (B 8 (Q (B 7 (Q (B 6 (Q (B 5 (Q (B 4 (Q (B 3 (Q (B 2 (Q (B 1 (S (O 19 (.bini .eql (t 18) (i 1))<|E)<|Q (I (t 19) (J 1) (Z))<|
S (O 21 (.bini .eql (t 18) (i 2))<|E)<|Q (I (t 21) (J 2) (Z))<|S (O 23 (.bini .eql (t 18) (i 3))<|E)<|Q (I (t 23) (J 3) (Z))<|
S (O 25 (.bini .eql (t 18) (i 4))<|E)<|Q (I (t 25) (J 4) (Z))<|S (O 27 (.bini .eql (t 18) (i 5))<|E)<|Q (I (t 27) (J 5) (Z))<|
S (O 29 (.bini .eql (t 18) (i 6))<|E)<|Q (I (t 29) (J 6) (Z))<|S (O 31 (.bini .eql (t 18) (i 7))<|E)<|Q (I (t 31) (J 7) (Z))<|
S (O 33 (.bini .eql (t 18) (i 8))<|E)<|Q (I (t 33) (J 8) (Z))<|S (O 35 (.bini .eql (t 18) (i 9))<|E)<|Q (I (t 35) (J 9) (Z))<|
S (O 37 (.bini .eql (t 18) (i 10))<|E)<|Q (I (t 37) (J 10) (Z))<|J 11))<|S (F 42 1 5<|M 43 2 42<|C 44 27 [t 0, t 43]<|C 45 26 [t 0, t 1, t 44]<|E)<|J 0))<|
S (C 48 28 [t 0, t 1]<|E)<|J 0))<|S (M 51 15 5<|C 52 29 [t 0, t 1, t 51]<|E)<|J 0))<|S (M 55 15 5<|C 56 30 [t 0, t 1, t 55]<|E)<|J 0))<|S (F 61 6 0<|L 62 61<|
F 63 1 5<|M 64 2 63<|F 65 3 5<|M 66 5 65<|F 67 13 5<|M 68 2 67<|C 69 32 [t 62, t 64, t 66, t 68]<|C 70 31 [t 0, t 1, t 69, b false]<|E)<|J 0))<|S (F 75 6 0<|
L 76 75<|F 77 1 5<|M 78 2 77<|F 79 3 5<|M 80 5 79<|C 81 33 [t 76, t 78, t 80]<|C 82 31 [t 0, t 1, t 81, b true]<|E)<|J 0))<|S (F 87 6 0<|L 88 87<|F 89 1 5<|
M 90 2 89<|F 91 3 5<|M 92 5 91<|F 93 8 5<|M 94 5 93<|F 95 13 5<|M 96 2 95<|C 97 34 [t 88, t 90, t 92, t 94, t 96]<|C 98 31 [t 0, t 1, t 97, b false]<|E)<|
J 0))<|S (M 101 15 5<|C 102 35 [t 0, t 1, t 101]<|E)<|J 0))<|S (C 105 36 [t 0, t 1]<|E)<|J 0)))<|S (C 108 37 [t 0, t 1]<|E)<|J 0))<|S (F 111 10 0<|L 6 111<|
V 7 (i 0)<|E)<|R
theorem b9 : bodyO 924751180582868567232841208840448 6490371150558677609852737283981312 Tryz.prog 9 = some (113, [.t 6, .t 7], c9) := by kernel_rfl
theorem k9 : callOk Tryz.prog 9 = true := by kernel_rfl
/-- (*leapfrog/peer.Peer).State -/
def c10 : Go.SL.CC := S (O 2 (.new 50 #[.int .i64 0, .int .i64 0, .int .u64 0, .int .i64 0, .int .u64 0, .slice none 0 0, .bool false, .bool false, .slice none 0 0])<|C 4 24 [t 0]<|
O 5 (.un .not (t 4))<|E)<|
Q (I (t 5) (S (O 6 (.agg [.z (.int .i64 0), .z (.int .i64 0), .z (.int .u64 0), .z (.int .i64 0), .z (.int .u64 0), .z (.slice none 0 0), .z (.bool false), .z (.bool false), .z (.slice none 0 0)])<|
N (.st 9 (t 2) (t 6))<|E)<|R) (Z))<|S (F 9 0 0<|M 10 5 9<|F 13 5 0<|L 14 13<|F 18 7 0<|L 19 18<|F 22 8 0<|L 23 22<|F 26 6 0<|L 27 26<|C 15 38 [t 14]<|
A 10 (.ld (some 5) (t 9))<|A 19 (.ld none (t 18))<|A 23 (.ld none (t 22))<|A 27 (.ld none (t 26))<|C 28 39 [t 27]<|A 10 (.ld (some 5) (t 9))<|
A 19 (.ld none (t 18))<|A 23 (.ld none (t 22))<|
O 29 (.agg [.c (t 10) 0 5, .c (t 10) 1 5, .c (t 10) 2 5, .c (t 10) 3 5, .c (t 10) 4 5, .c (t 15) 0 1, .c (t 19) 0 1, .c (t 23) 0 1, .c (t 28) 0 1])<|
N (.st 9 (t 2) (t 29))<|E)<|R
theorem b10 : bodyO 17893512 35787008 Tryz.prog 10 = some (30, [.c 2 (some 9)], c10) := by kernel_rfl
theorem k10 : callOk Tryz.prog 10 = true := by kernel_rfl
/-- (*leapfrog/peer.Peer).Will -/
def c15 : Go.SL.CC := S (O 3 (.box 27 (t 1))<|
O 4 (.new 65 #[.int .i64 0, .bool false, .int .i64 0, .int .i64 0, .int .u64 0, .int .i64 0, .int .u64 0, .int .i64 0, .int .i64 0, .int .u64 0, .int .i64 0, .int .u64 0, .slice none 0 0])<|
V 5 (i 0)<|C 8 24 [t 0]<|O 9 (.un .not (t 8))<|E)<|
Q (I (t 9) (S (O 10 (.agg [.z (.int .i64 0), .z (.bool false), .z (.int .i64 0), .z (.int .i64 0), .z (.int .u64 0), .z (.int .i64 0), .z (.int .u64 0), .z (.int .i64 0), .z (.int .i64 0), .z (.int .u64 0), .z (.int .i64 0), .z (.int .u64 0), .z (.slice none 0 0)])<|
N (.st 13 (t 4) (t 10))<|V 5 (i 4)<|E)<|R) (Z))<|S (M 11 2 3<|C 12 43 [t 11]<|O 13 (.bini .neq (t 12) (i 0))<|E)<|
Q (I (t 13) (S (O 14 (.agg [.z (.int .i64 0), .z (.bool false), .z (.int .i64 0), .z (.int .i64 0), .z (.int .u64 0), .z (.int .i64 0), .z (.int .u64 0), .z (.int .i64 0), .z (.int .i64 0), .z (.int .u64 0), .z (.int .i64 0), .z (.int .u64 0), .z (.slice none 0 0)])<|
N (.st 13 (t 4) (t 14))<|V 5 (i 90)<|E)<|R) (Z))<|S (M 16 2 3<|C 17 27 [t 0, t 16]<|
O 6 (.new 65 #[.int .i64 0, .bool false, .int .i64 0, .int .i64 0, .int .u64 0, .int .i64 0, .int .u64 0, .int .i64 0, .int .i64 0, .int .u64 0, .int .i64 0, .int .u64 0, .slice none 0 0])<|
N (.st 13 (t 6) (t 17))<|F 20 8 0<|L 21 20<|F 22 2 6<|M 23 5 22<|F 24 7 6<|M 25 5 24<|
O 26 (.agg [.c (i 3) 0 1, .c (t 21) 0 1, .c (t 23) 0 5, .c (t 23) 1 5, .c (t 23) 2 5, .c (t 23) 3 5, .c (t 23) 4 5, .c (t 25) 0 5, .c (t 25) 1 5, .c (t 25) 2 5, .c (t 25) 3 5, .c (t 25) 4 5, .z (.slice none 0 0)])<|
N (.st 13 (t 4) (t 26))<|V 5 (i 0)<|E)<|R
theorem b15 : bodyO 295040 524288 Tryz.prog 15 = some (27, [.c 4 (some 13), .t 5], c15) := by kernel_rfl
theorem k15 : callOk Tryz.prog 15 = true := by kernel_rfl
/-- (*leapfrog/peer.Peer).Open -/
def c14 : Go.SL.CC := S (V 2 (k (.slice none 0 0))<|C 7 24 [t 0]<|O 8 (.un .not (t 7))<|E)<|Q (I (t 8) (S (V 2 (k (.slice none 0 0))<|E)<|R) (Z))<|S (V 3 (k (.slice none 0 0))<|
F 11 9 0<|L 12 11<|O 13 (.ln (t 12))<|V 14 (i 0)<|E)<|Q (P 0 (S (O 15 (.bini .lss (t 14) (t 13))<|E)<|Q (I (t 15) (Z) (J 0))<|
Q (B 1 (Y (O 16 (.ia 6 (t 12) (t 14))<|M 17 6 16<|O 5 (.new 105 #[.int .i64 0, .bool false, .int .i64 0, .int .u64 0, .int .i64 0, .int .i64 0])<|
N (.st 6 (t 5) (t 17))<|F 19 0 5<|L 20 19<|O 21 (.bsl 3 [.c (t 20) 0 1] 1)<|O 3 (.ap 3 1 8 #[.int .i64 0] (t 3) (t 21))<|E)))<|
Y (O 14 (.bini .add (t 14) (i 1))<|E)))<|S (V 2 (t 3)<|E)<|R
theorem b14 : bodyO 17039936 12583936 Tryz.prog 14 = some (25, [.t 2], c14) := by kernel_rfl
theorem k14 : callOk Tryz.prog 14 = true := by kernel_rfl
/-- leapfrog/leapfrogref09.New -/
def c21 : Go.SL.CC := S (O 2 (.box 29 (t 0))<|V 4 (k (.pointer none))<|V 5 (i 0)<|F 6 1 2<|F 7 0 6<|L 8 7<|O 10 (.bini .neq (t 8) (i 2))<|H 11 (.fa 3 (t 2)) 10<|
H 12 (.ld (some 2) (t 11)) 10<|H 13 (.call (f 40) [t 12]) 10<|H 14 (.un .not (t 13)) 10<|O 16 (.pick (t 10) (b true) (t 14))<|H 17 (.fa 0 (t 2)) 16<|
H 18 (.ld none (t 17)) 16<|H 19 (.bini .lss (t 18) (i 2)) 16<|O 21 (.pick (t 16) (b true) (t 19))<|H 22 (.fa 0 (t 2)) 21<|H 23 (.ld none (t 22)) 21<|
H 24 (.bini .geq (t 23) (i 1024)) 21<|O 26 (.pick (t 21) (b true) (t 24))<|H 28 (.ln (t 1)) 26<|H 29 (.bini .gtr (t 28) (i 1024)) 26<|
O 30 (.pick (t 26) (b true) (t 29))<|E)<|Q (I (t 30) (S (V 4 (k (.pointer none))<|V 5 (i 90)<|E)<|R) (Z))<|S (M 31 5 2<|O 32 (.bsl 5 [] 0)<|
O 34 (.ap 5 1 1 #[.int .u8 0] (t 32) (t 1))<|A 31 (.ld (some 5) (t 2))<|
O 35 (.agg [.c (t 31) 0 5, .c (t 31) 1 5, .c (t 31) 2 5, .c (t 31) 3 5, .c (t 31) 4 5, .c (t 34) 0 1, .z (.bool false), .z (.bool false), .z (.bool false), .z (.slice none 0 0), .z (.slice none 0 0)])<|
O 4 (.box 59 (t 35))<|V 5 (i 0)<|E)<|R
theorem b21 : bodyO 8724152320 68754113024 Tryz.prog 21 = some (37, [.t 4, .t 5], c21) := by kernel_rfl
theorem k21 : callOk Tryz.prog 21 = true := by kernel_rfl
/-- leapfrog/leapfrogref09.NewEnd -/
def c19 : Go.SL.CC := S (V 4 (k (.pointer none))<|V 5 (i 0)<|C 10 47 [t 1]<|X 11 10 0<|X 12 10 1<|O 6 (.new 29 #[.int .i64 0, .int .i64 0, .int .u64 0, .int .i64 0, .int .u64 0])<|
N (.st 5 (t 6) (t 11))<|V 7 (t 12)<|V 13 (t 0)<|E)<|Q (I (t 13) (Y (C 16 48 [t 1]<|X 17 16 0<|X 18 16 1<|N (.st 5 (t 6) (t 17))<|V 7 (t 18)<|E)) (Z))<|
S (O 20 (.bini .neq (t 7) (i 0))<|E)<|Q (I (t 20) (S (V 4 (k (.pointer none))<|V 5 (t 7)<|E)<|R) (Z))<|S (M 22 5 6<|
O 23 (.agg [.c (t 22) 0 5, .c (t 22) 1 5, .c (t 22) 2 5, .c (t 22) 3 5, .c (t 22) 4 5, .z (.slice none 0 0), .c (b true) 0 1, .c (b true) 0 1, .z (.bool false), .z (.slice none 0 0), .z (.slice none 0 0)])<|
O 4 (.box 59 (t 23))<|V 5 (i 0)<|E)<|R
theorem b19 : bodyO 2671360 16777216 Tryz.prog 19 = some (25, [.t 4, .t 5], c19) := by kernel_rfl
theorem k19 : callOk Tryz.prog 19 = true := by kernel_rfl
/-- leapfrog/leapfroglaw09.alive -/
def c8 : Go.SL.CC := S (V 0 (b false)<|C 16 22 [i 3]<|V 15 (t 16)<|X 17 15 0<|X 18 15 1<|O 1 (.new 29 #[.int .i64 0, .int .i64 0, .int .u64 0, .int .i64 0, .int .u64 0])<|
N (.st 5 (t 1) (t 17))<|V 2 (t 18)<|C 20 23 [i 3]<|V 19 (t 20)<|X 21 19 0<|X 22 19 1<|
O 3 (.new 29 #[.int .i64 0, .int .i64 0, .int .u64 0, .int .i64 0, .int .u64 0])<|N (.st 5 (t 3) (t 21))<|V 4 (t 22)<|O 24 (.agg [.c (i 2) 0 1, .c (u 5) 0 1])<|
O 25 (.agg [.c (i 3) 0 1, .c (u 5) 0 1])<|O 26 (.agg [.c (i 2) 0 1, .c (t 24) 0 2, .c (t 24) 1 2, .c (t 25) 0 2, .c (t 25) 1 2])<|
O 27 (.bsl 5 [.c (k (.int .u8 118)) 0 1] 1)<|O 28 (.raw ⟨some 28, .convert 30 30 (t 27), 30, "law.go:26", #[⟨3, .data⟩], none⟩)<|C 29 20 [t 26, t 28]<|
V 23 (t 29)<|X 30 23 0<|X 31 23 1<|V 5 (t 30)<|V 6 (t 31)<|V 32 (t 2)<|O 33 (.bini .neq (t 32) (i 0))<|V 34 (t 33)<|H 35 (.mv (t 4)) 34<|
H 36 (.bini .neq (t 35) (i 0)) 34<|O 37 (.pick (t 34) (b true) (t 36))<|V 38 (t 37)<|H 39 (.mv (t 6)) 38<|H 40 (.bini .neq (t 39) (i 0)) 38<|
O 41 (.pick (t 38) (b true) (t 40))<|V 42 (t 41)<|H 43 (.mv (t 5)) 42<|H 44 (.cmp .p false (t 43) (k (.pointer none))) 42<|O 45 (.pick (t 42) (b true) (t 44))<|
E)<|Q (I (t 45) (S (V 0 (b false)<|E)<|R) (Z))<|S (O 46 (.agg [.z (.int .i64 0), .c (i 1) 0 1])<|O 47 (.agg [.z (.int .i64 0), .c (i 2) 0 1])<|
O 7 (.new 45 #[.int .i64 0, .int .i64 0])<|O 8 (.new 45 #[.int .i64 0, .int .i64 0])<|N (.st 2 (t 7) (t 46))<|N (.st 2 (t 8) (t 47))<|V 49 (t 5)<|M 50 5 1<|
M 51 5 3<|M 52 2 7<|
O 53 (.agg [.c (i 7) 0 1, .z (.int .i64 0), .z (.int .u64 0), .c (t 50) 0 5, .c (t 50) 1 5, .c (t 50) 2 5, .c (t 50) 3 5, .c (t 50) 4 5, .c (t 51) 0 5, .c (t 51) 1 5, .c (t 51) 2 5, .c (t 51) 3 5, .c (t 51) 4 5, .c (t 52) 0 2, .c (t 52) 1 2])<|
C 54 9 [t 49, i 7, t 53]<|V 48 (t 54)<|X 55 48 0<|X 56 48 1<|V 9 (t 55)<|V 10 (t 56)<|V 58 (t 5)<|M 59 2 8<|
O 60 (.agg [.c (i 3) 0 1, .z (.int .i64 0), .z (.int .u64 0), .z (.int .i64 0), .z (.int .i64 0), .z (.int .u64 0), .z (.int .i64 0), .z (.int .u64 0), .z (.int .i64 0), .z (.int .i64 0), .z (.int .u64 0), .z (.int .i64 0), .z (.int .u64 0), .c (t 59) 0 2, .c (t 59) 1 2])<|
C 61 9 [t 58, i 8, t 60]<|V 57 (t 61)<|X 62 57 0<|X 63 57 1<|V 11 (t 62)<|V 12 (t 63)<|V 65 (t 5)<|M 66 2 7<|
O 67 (.agg [.c (i 4) 0 1, .z (.int .i64 0), .z (.int .u64 0), .z (.int .i64 0), .z (.int .i64 0), .z (.int .u64 0), .z (.int .i64 0), .z (.int .u64 0), .z (.int .i64 0), .z (.int .i64 0), .z (.int .u64 0), .z (.int .i64 0), .z (.int .u64 0), .c (t 66) 0 2, .c (t 66) 1 2])<|
C 68 9 [t 65, i 9, t 67]<|V 64 (t 68)<|X 69 64 0<|X 70 64 1<|V 13 (t 69)<|V 14 (t 70)<|V 71 (t 10)<|O 72 (.bini .eql (t 71) (i 0))<|V 73 (t 72)<|
G 74 (.mv (t 12)) 73<|G 75 (.bini .eql (t 74) (i 0)) 73<|O 76 (.pick (t 73) (t 75) (b false))<|V 77 (t 76)<|G 78 (.mv (t 14)) 77<|
G 79 (.bini .eql (t 78) (i 0)) 77<|O 80 (.pick (t 77) (t 79) (b false))<|V 81 (t 80)<|G 82 (.mv (t 9)) 81<|G 83 (.ln (t 82)) 81<|
G 84 (.bini .eql (t 83) (i 1)) 81<|O 85 (.pick (t 81) (t 84) (b false))<|V 86 (t 85)<|G 87 (.mv (t 9)) 86<|G 88 (.ia 14 (t 87) (i 0)) 86<|
G 89 (.fa 1 (t 88)) 86<|G 90 (.fa 0 (t 89)) 86<|G 91 (.ld none (t 90)) 86<|G 92 (.bini .eql (t 91) (i 1)) 86<|O 93 (.pick (t 86) (t 92) (b false))<|
V 94 (t 93)<|G 95 (.mv (t 11)) 94<|G 96 (.ln (t 95)) 94<|G 97 (.bini .eql (t 96) (i 0)) 94<|O 98 (.pick (t 94) (t 97) (b false))<|V 99 (t 98)<|
G 100 (.mv (t 13)) 99<|G 101 (.ln (t 100)) 99<|G 102 (.bini .eql (t 101) (i 2)) 99<|O 103 (.pick (t 99) (t 102) (b false))<|V 104 (t 103)<|
G 105 (.mv (t 13)) 104<|G 106 (.ia 14 (t 105) (i 1)) 104<|G 107 (.fa 0 (t 106)) 104<|G 108 (.ld none (t 107)) 104<|G 109 (.bini .eql (t 108) (i 8)) 104<|
O 110 (.pick (t 104) (t 109) (b false))<|V 111 (t 110)<|G 112 (.mv (t 13)) 111<|G 113 (.ia 14 (t 112) (i 1)) 111<|G 114 (.fa 1 (t 113)) 111<|
G 115 (.fa 7 (t 114)) 111<|G 116 (.ld (some 5) (t 115)) 111<|G 117 (.ld (some 5) (t 3)) 111<|G 118 (.eqs false [.i, .i, .i, .i, .i] (t 116) (t 117)) 111<|
O 119 (.pick (t 111) (t 118) (b false))<|V 0 (t 119)<|E)<|R
theorem b8 : bodyO 0 0 Tryz.prog 8 = some (120, [.t 0], c8) := by kernel_rfl
theorem k8 : callOk Tryz.prog 8 = true := by kernel_rfl
/-- leapfrog/leapfroglaw09.made -/
def c7 : Go.SL.CC := S (O 1 (.box 32 (t 0))<|V 2 (k (.pointer none))<|V 3 (k (.pointer none))<|V 4 (b false)<|F 13 7 1<|L 14 13<|O 15 (.ln (t 14))<|
O 16 (.bini .gtr (t 15) (i 1025))<|E)<|Q (I (t 16) (Y (F 17 7 1<|L 18 17<|O 19 (.sl 1 (t 18) none (some (i 1025)) none)<|F 20 7 1<|N (.st 1 (t 20) (t 19))<|
E)) (Z))<|S (F 21 0 1<|L 22 21<|O 24 (.bini .eql (t 22) (i 1))<|H 25 (.fa 0 (t 1)) 24<|H 26 (.ld none (t 25)) 24<|H 27 (.bini .eql (t 26) (i 2)) 24<|
O 28 (.pick (t 24) (b true) (t 27))<|E)<|Q (I (t 28) (S (F 30 0 1<|L 31 30<|O 32 (.bini .eql (t 31) (i 2))<|F 33 1 1<|L 34 33<|C 35 18 [t 32, t 34]<|X 36 35 0<|
X 37 35 1<|F 39 0 1<|L 40 39<|O 41 (.bini .eql (t 40) (i 2))<|F 42 1 1<|L 43 42<|C 44 19 [t 41, t 43]<|X 45 44 0<|X 46 44 1<|O 52 (.bini .eql (t 37) (t 46))<|
G 54 (.cmp .p false (t 36) (k (.pointer none))) 52<|G 56 (.cmp .p false (t 45) (k (.pointer none))) 52<|G 57 (.cmp .b false (t 54) (t 56)) 52<|
O 58 (.pick (t 52) (t 57) (b false))<|V 2 (t 36)<|V 3 (t 45)<|V 4 (t 58)<|E)<|R) (Z))<|S (F 60 2 1<|M 61 5 60<|F 62 7 1<|L 63 62<|C 64 20 [t 61, t 63]<|
X 65 64 0<|X 66 64 1<|F 68 2 1<|M 69 5 68<|F 70 7 1<|L 71 70<|C 72 21 [t 69, t 71]<|X 73 72 0<|X 74 72 1<|O 80 (.bini .eql (t 66) (t 74))<|
G 82 (.cmp .p false (t 65) (k (.pointer none))) 80<|G 84 (.cmp .p false (t 73) (k (.pointer none))) 80<|G 85 (.cmp .b false (t 82) (t 84)) 80<|
O 86 (.pick (t 80) (t 85) (b false))<|V 2 (t 65)<|V 3 (t 73)<|V 4 (t 86)<|E)<|R
theorem b7 : bodyO 12656090371651325166362592 604462912059114409426944 Tryz.prog 7 = some (87, [.t 2, .t 3, .t 4], c7) := by kernel_rfl
theorem k7 : callOk Tryz.prog 7 = true := by kernel_rfl
/-- leapfrog/leapfroglaw09.PeerSorted -/
def c3 : Go.SL.CC := S (O 2 (.box 32 (t 0))<|V 4 (b false)<|M 14 8 2<|C 15 7 [t 14]<|X 16 15 0<|X 17 15 1<|X 18 15 2<|V 5 (t 16)<|V 6 (t 17)<|V 7 (t 18)<|O 21 (.un .not (t 7))<|
H 23 (.cmp .p false (t 6) (k (.pointer none))) 21<|O 24 (.pick (t 21) (b true) (t 23))<|E)<|Q (I (t 24) (S (V 26 (t 7)<|G 27 (.call (f 8) []) 26<|
O 4 (.pick (t 26) (t 27) (b false))<|E)<|R) (Z))<|S (V 8 (i 0)<|E)<|Q (P 0 (S (O 31 (.ln (t 1))<|O 33 (.bini .lss (t 8) (t 31))<|
G 35 (.bini .lss (t 8) (i 80)) 33<|O 36 (.pick (t 33) (t 35) (b false))<|E)<|Q (I (t 36) (Z) (J 0))<|Q (B 1 (S (O 43 (.ia 15 (t 1) (t 8))<|M 44 15 43<|
C 45 9 [t 5, t 8, t 44]<|C 47 10 [t 5]<|O 9 (.fld false 1 8 (t 47))<|V 10 (i 0)<|E)<|P 2 (S (O 51 (.ln (t 9))<|O 52 (.bini .lss (t 10) (t 51))<|E)<|
Q (I (t 52) (Z) (J 2))<|Q (B 3 (S (F 55 0 2<|L 56 55<|O 58 (.bini .neq (t 56) (i 1))<|G 61 (.ia 16 (t 9) (t 10)) 58<|G 62 (.fa 2 (t 61)) 58<|
G 63 (.fa 1 (t 62)) 58<|G 64 (.ld (some 2) (t 63)) 58<|G 67 (.fa 0 (t 6)) 58<|G 68 (.fa 1 (t 67)) 58<|G 69 (.ld (some 2) (t 68)) 58<|
G 70 (.call (f 11) [t 64, t 69]) 58<|G 71 (.un .not (t 70)) 58<|O 72 (.pick (t 58) (t 71) (b false))<|F 73 0 2<|L 74 73<|O 76 (.bini .neq (t 74) (i 2))<|
G 79 (.fa 0 (t 6)) 76<|G 80 (.fa 1 (t 79)) 76<|G 81 (.ld (some 2) (t 80)) 76<|G 84 (.ia 16 (t 9) (t 10)) 76<|G 85 (.fa 7 (t 84)) 76<|G 86 (.fa 1 (t 85)) 76<|
G 87 (.ld (some 2) (t 86)) 76<|G 88 (.call (f 11) [t 81, t 87]) 76<|G 89 (.un .not (t 88)) 76<|O 90 (.pick (t 76) (t 89) (b false))<|V 92 (t 72)<|
H 93 (.mv (t 90)) 92<|O 95 (.pick (t 92) (b true) (t 93))<|H 96 (.fa 0 (t 2)) 95<|H 97 (.ld none (t 96)) 95<|H 98 (.bini .neq (t 97) (i 1)) 95<|
H 99 (.mv (t 98)) 95<|G 100 (.fa 0 (t 2)) 99<|G 101 (.ld none (t 100)) 99<|G 102 (.bini .neq (t 101) (i 2)) 99<|H 103 (.pick (t 99) (t 102) (b false)) 95<|
H 104 (.mv (t 103)) 95<|G 107 (.fa 0 (t 6)) 104<|G 108 (.fa 3 (t 107)) 104<|G 109 (.ld (some 2) (t 108)) 104<|G 112 (.ia 16 (t 9) (t 10)) 104<|
G 113 (.fa 0 (t 112)) 104<|G 114 (.ld (some 2) (t 113)) 104<|G 115 (.call (f 12) [t 109, t 114]) 104<|G 116 (.un .not (t 115)) 104<|
H 117 (.pick (t 104) (t 116) (b false)) 95<|O 118 (.pick (t 95) (b true) (t 117))<|E)<|I (t 118) (S (V 4 (b false)<|E)<|R) (Z)))<|
Y (O 10 (.bini .add (t 10) (i 1))<|E))))<|Y (O 8 (.bini .add (t 8) (i 1))<|E)))<|S (C 4 8 []<|E)<|R
theorem b3 : bodyO 3934789953646766829478920084535296 664695147338253256035837967829303296 Tryz.prog 3 = some (120, [.t 4], c3) := by kernel_rfl
theorem k3 : callOk Tryz.prog 3 = true := by kernel_rfl
/-- leapfrog/leapfroglaw09.PeerOnce -/
def c4 : Go.SL.CC := S (O 2 (.box 32 (t 0))<|V 4 (b false)<|M 16 8 2<|C 17 7 [t 16]<|V 15 (t 17)<|X 18 15 0<|X 19 15 1<|X 20 15 2<|V 5 (t 18)<|V 6 (t 19)<|V 7 (t 20)<|V 21 (t 7)<|
O 22 (.un .not (t 21))<|V 23 (t 22)<|H 24 (.mv (t 6)) 23<|H 25 (.cmp .p false (t 24) (k (.pointer none))) 23<|O 26 (.pick (t 23) (b true) (t 25))<|E)<|
Q (I (t 26) (S (V 27 (t 7)<|V 28 (t 27)<|G 29 (.call (f 8) []) 28<|O 30 (.pick (t 28) (t 29) (b false))<|V 4 (t 30)<|E)<|R) (Z))<|S (O 31 (.mkm)<|V 8 (t 31)<|
V 9 (i 0)<|F 32 0 2<|L 33 32<|O 34 (.bini .eql (t 33) (i 1))<|V 35 (t 34)<|H 36 (.fa 0 (t 2)) 35<|H 37 (.ld none (t 36)) 35<|H 38 (.bini .eql (t 37) (i 2)) 35<|
O 39 (.pick (t 35) (b true) (t 38))<|V 10 (t 39)<|V 11 (i 0)<|E)<|Q (P 0 (S (V 40 (t 11)<|V 41 (t 1)<|O 42 (.ln (t 41))<|O 43 (.bini .lss (t 40) (t 42))<|
V 44 (t 43)<|G 45 (.mv (t 11)) 44<|G 46 (.bini .lss (t 45) (i 80)) 44<|O 47 (.pick (t 44) (t 46) (b false))<|E)<|Q (I (t 47) (Z) (J 0))<|Q (B 1 (S (V 51 (t 5)<|
V 52 (t 11)<|V 53 (t 1)<|V 54 (t 11)<|O 55 (.ia 15 (t 53) (t 54))<|M 56 15 55<|C 57 9 [t 51, t 52, t 56]<|V 50 (t 57)<|X 58 50 0<|X 59 50 1<|V 12 (t 58)<|
V 13 (t 59)<|V 60 (t 13)<|O 61 (.bini .neq (t 60) (i 0))<|E)<|Q (I (t 61) (J 1) (Z))<|S (V 62 (t 8)<|V 63 (t 11)<|V 64 (t 1)<|V 65 (t 11)<|
O 66 (.ia 15 (t 64) (t 65))<|F 67 0 66<|L 68 67<|O 69 (.bini .eql (t 68) (i 9))<|N (.mup 3 (t 62) (t 63) (t 69))<|V 70 (t 10)<|V 71 (t 70)<|
H 72 (.mv (t 1)) 71<|H 73 (.mv (t 11)) 71<|H 74 (.ia 15 (t 72) (t 73)) 71<|H 75 (.fa 0 (t 74)) 71<|H 76 (.ld none (t 75)) 71<|
H 77 (.bini .eql (t 76) (i 10)) 71<|O 78 (.pick (t 71) (b true) (t 77))<|V 10 (t 78)<|V 14 (i 0)<|E)<|P 2 (S (V 79 (t 14)<|V 80 (t 12)<|O 81 (.ln (t 80))<|
O 82 (.bini .lss (t 79) (t 81))<|E)<|Q (I (t 82) (Z) (J 2))<|Q (B 3 (S (V 85 (t 8)<|V 86 (t 12)<|V 87 (t 14)<|O 88 (.ia 14 (t 86) (t 87))<|F 89 0 88<|L 90 89<|
O 91 (.lkp false 3 (.bool false) (t 85) (t 90))<|V 92 (t 91)<|G 93 (.mv (t 12)) 92<|G 94 (.mv (t 14)) 92<|G 95 (.ia 14 (t 93) (t 94)) 92<|
G 96 (.fa 1 (t 95)) 92<|G 97 (.fa 0 (t 96)) 92<|G 98 (.ld none (t 97)) 92<|G 99 (.bini .eql (t 98) (i 1)) 92<|O 100 (.pick (t 92) (t 99) (b false))<|E)<|
I (t 100) (S (V 101 (t 9)<|O 102 (.bini .add (t 101) (i 1))<|V 9 (t 102)<|V 103 (t 10)<|O 104 (.un .not (t 103))<|V 105 (t 104)<|H 106 (.mv (t 12)) 105<|
H 107 (.mv (t 14)) 105<|H 108 (.ia 14 (t 106) (t 107)) 105<|H 109 (.fa 1 (t 108)) 105<|H 110 (.fa 12 (t 109)) 105<|H 111 (.ld none (t 110)) 105<|
H 113 (.fa 7 (t 2)) 105<|H 114 (.ld none (t 113)) 105<|
.both (H 112 (.raw ⟨some 112, .convert 30 9 (t 111), 9, "law.go:139", #[⟨8, .data⟩, ⟨2, .guard⟩], some (2, false)⟩) 105<|
.ag ⟨some 114, .ld none (t 113), some (105, false)⟩<|
H 115 (.raw ⟨some 115, .convert 30 9 (t 114), 9, "law.go:139", #[⟨11, .data⟩, ⟨2, .guard⟩], some (2, false)⟩) 105<|
.ag ⟨some 111, .ld none (t 110), some (105, false)⟩<|H 116 (.cmp .s true (t 112) (t 115)) 105<|O 117 (.pick (t 105) (b true) (t 116))<|V 118 (t 117)<|
H 119 (.fa 0 (t 2)) 118<|H 120 (.ld none (t 119)) 118<|H 121 (.bini .eql (t 120) (i 1)) 118<|O 122 (.pick (t 118) (b true) (t 121))<|V 123 (t 122)<|
H 124 (.fa 0 (t 2)) 123<|H 125 (.ld none (t 124)) 123<|H 126 (.bini .eql (t 125) (i 2)) 123<|O 127 (.pick (t 123) (b true) (t 126))<|
E) (H 115 (.raw ⟨some 115, .convert 30 9 (t 114), 9, "law.go:139", #[⟨11, .data⟩, ⟨2, .guard⟩], some (2, false)⟩) 105<|
.ag ⟨some 111, .ld none (t 110), some (105, false)⟩<|
H 112 (.raw ⟨some 112, .convert 30 9 (t 111), 9, "law.go:139", #[⟨8, .data⟩, ⟨2, .guard⟩], some (2, false)⟩) 105<|
.ag ⟨some 114, .ld none (t 113), some (105, false)⟩<|H 116 (.cmp .s true (t 112) (t 115)) 105<|O 117 (.pick (t 105) (b true) (t 116))<|V 118 (t 117)<|
H 119 (.fa 0 (t 2)) 118<|H 120 (.ld none (t 119)) 118<|H 121 (.bini .eql (t 120) (i 1)) 118<|O 122 (.pick (t 118) (b true) (t 121))<|V 123 (t 122)<|
H 124 (.fa 0 (t 2)) 123<|H 125 (.ld none (t 124)) 123<|H 126 (.bini .eql (t 125) (i 2)) 123<|O 127 (.pick (t 123) (b true) (t 126))<|E))<|
I (t 127) (S (V 4 (b false)<|E)<|R) (Z)) (Z)))<|Y (V 83 (t 14)<|O 84 (.bini .add (t 83) (i 1))<|V 14 (t 84)<|E))))<|Y (V 48 (t 11)<|
O 49 (.bini .add (t 48) (i 1))<|V 11 (t 49)<|E)))<|S (V 128 (t 9)<|O 129 (.bini .leq (t 128) (i 1))<|V 130 (t 129)<|G 131 (.mv (t 5)) 130<|
G 132 (.call (f 10) [t 131]) 130<|G 133 (.fld false 1 7 (t 132)) 130<|G 134 (.mv (t 9)) 130<|G 135 (.bini .eql (t 134) (i 1)) 130<|
G 136 (.cmp .b false (t 133) (t 135)) 130<|O 137 (.pick (t 130) (t 136) (b false))<|V 138 (t 137)<|G 139 (.call (f 8) []) 138<|
O 140 (.pick (t 138) (t 139) (b false))<|V 4 (t 140)<|E)<|R
theorem b4 : bodyO 0 0 Tryz.prog 4 = some (141, [.t 4], c4) := by kernel_rfl
theorem k4 : callOk Tryz.prog 4 = true := by kernel_rfl
/-- leapfrog/leapfroglaw09.PeerEach -/
def c5 : Go.SL.CC := S (O 2 (.box 32 (t 0))<|V 4 (b false)<|M 16 8 2<|C 17 7 [t 16]<|X 18 17 0<|X 19 17 1<|X 20 17 2<|O 5 (.new 34 #[.pointer none])<|N (.st 1 (t 5) (t 18))<|
V 7 (t 20)<|O 23 (.un .not (t 7))<|H 25 (.cmp .p false (t 19) (k (.pointer none))) 23<|O 26 (.pick (t 23) (b true) (t 25))<|E)<|Q (I (t 26) (S (V 28 (t 7)<|
G 29 (.call (f 8) []) 28<|O 4 (.pick (t 28) (t 29) (b false))<|E)<|R) (Z))<|S (O 31 (.mkm)<|O 8 (.new 68 #[.map none])<|N (.st 1 (t 8) (t 31))<|
O 9 (.new 3 #[.int .i64 0])<|N (.st 1 (t 9) (i 0))<|O 10 (.mkf 13 [t 5, t 9, t 8])<|V 11 (i 0)<|E)<|Q (P 0 (S (O 35 (.ln (t 1))<|
O 37 (.bini .lss (t 11) (t 35))<|G 39 (.bini .lss (t 11) (i 80)) 37<|O 40 (.pick (t 37) (t 39) (b false))<|E)<|Q (I (t 40) (Z) (J 0))<|
Q (B 1 (S (O 46 (.ia 15 (t 1) (t 11))<|M 47 15 46<|O 48 (.call (t 10) [t 47])<|O 49 (.un .not (t 48))<|E)<|I (t 49) (S (V 4 (b false)<|E)<|R) (Z)))<|
Y (O 11 (.bini .add (t 11) (i 1))<|E)))<|
S (O 51 (.agg [.c (i 10) 0 1, .z (.int .i64 0), .z (.int .u64 0), .z (.int .i64 0), .z (.int .i64 0), .z (.int .u64 0), .z (.int .i64 0), .z (.int .u64 0), .z (.int .i64 0), .z (.int .i64 0), .z (.int .u64 0), .z (.int .i64 0), .z (.int .u64 0), .z (.int .i64 0), .z (.int .i64 0)])<|
O 52 (.call (t 10) [t 51])<|O 53 (.un .not (t 52))<|E)<|Q (I (t 53) (S (V 4 (b false)<|E)<|R) (Z))<|S (V 12 (i 0)<|E)<|
Q (P 2 (S (O 55 (.bini .lss (t 12) (i 81))<|E)<|Q (I (t 55) (Z) (J 2))<|Q (B 3 (S (L 58 5<|C 59 10 [t 58]<|O 13 (.fld false 1 8 (t 59))<|V 14 (i 0)<|E)<|
P 4 (S (O 63 (.ln (t 13))<|O 64 (.bini .lss (t 14) (t 63))<|E)<|Q (I (t 64) (Z) (J 4))<|Q (B 5 (S (O 69 (.ia 16 (t 13) (t 14))<|F 70 12 69<|L 72 70<|
G 76 (.ia 16 (t 13) (t 14)) 72<|G 77 (.fa 0 (t 76)) 72<|G 78 (.ld (some 2) (t 77)) 72<|G 81 (.ia 16 (t 13) (t 14)) 72<|G 82 (.fa 13 (t 81)) 72<|
G 83 (.ld (some 2) (t 82)) 72<|
G 84 (.agg [.c (i 4) 0 1, .c (t 78) 0 2, .c (t 78) 1 2, .z (.int .i64 0), .z (.int .i64 0), .z (.int .u64 0), .z (.int .i64 0), .z (.int .u64 0), .z (.int .i64 0), .z (.int .i64 0), .z (.int .u64 0), .z (.int .i64 0), .z (.int .u64 0), .c (t 83) 0 2, .c (t 83) 1 2]) 72<|
G 85 (.call (t 10) [t 84]) 72<|G 86 (.un .not (t 85)) 72<|O 87 (.pick (t 72) (t 86) (b false))<|E)<|I (t 87) (S (V 4 (b false)<|E)<|R) (Z)))<|
Y (O 14 (.bini .add (t 14) (i 1))<|E))))<|Y (O 12 (.bini .add (t 12) (i 1))<|E)))<|S (L 88 5<|C 89 14 [t 88]<|O 90 (.ln (t 89))<|
O 92 (.bini .eql (t 90) (i 0))<|G 93 (.ld none (t 8)) 92<|G 94 (.lnm (t 93)) 92<|G 95 (.ld none (t 9)) 92<|G 96 (.bini .eql (t 94) (t 95)) 92<|
O 98 (.pick (t 92) (t 96) (b false))<|G 99 (.call (f 8) []) 98<|O 4 (.pick (t 98) (t 99) (b false))<|E)<|R
theorem b5 : bodyO 1879988484319027813974080 1428582807771596096128071761920 Tryz.prog 5 = some (101, [.t 4], c5) := by kernel_rfl
theorem k5 : callOk Tryz.prog 5 = true := by kernel_rfl
/-- leapfrog/leapfroglaw09.PeerEach$1 -/
def c13 : Go.SL.CC := S (O 4 (.box 47 (t 0))<|V 5 (b false)<|L 10 1<|L 11 2<|M 12 15 4<|C 13 9 [t 10, t 11, t 12]<|X 14 13 0<|X 15 13 1<|V 6 (t 14)<|V 7 (t 15)<|
O 17 (.bini .eql (t 7) (i 0))<|E)<|Q (I (t 17) (Y (L 18 2<|O 19 (.bini .add (t 18) (i 1))<|N (.st 1 (t 2) (t 19))<|E)) (Z))<|S (V 8 (i 0)<|E)<|
Q (P 0 (S (O 22 (.ln (t 6))<|O 23 (.bini .lss (t 8) (t 22))<|E)<|Q (I (t 23) (Z) (J 0))<|Q (B 1 (S (L 26 3<|O 29 (.ia 14 (t 6) (t 8))<|F 30 0 29<|L 31 30<|
O 32 (.lkp false 3 (.int .i64 0) (t 26) (t 31))<|O 33 (.bini .add (t 32) (i 1))<|N (.mup 3 (t 26) (t 31) (t 33))<|O 36 (.bini .neq (t 7) (i 0))<|
H 37 (.ld none (t 3)) 36<|H 40 (.ia 14 (t 6) (t 8)) 36<|H 41 (.fa 0 (t 40)) 36<|H 42 (.ld none (t 41)) 36<|H 43 (.lkp false 3 (.int .i64 0) (t 37) (t 42)) 36<|
H 44 (.bini .gtr (t 43) (i 1)) 36<|O 46 (.pick (t 36) (b true) (t 44))<|H 49 (.ia 14 (t 6) (t 8)) 46<|H 50 (.fa 0 (t 49)) 46<|H 51 (.ld none (t 50)) 46<|
H 52 (.ld none (t 2)) 46<|H 53 (.bini .geq (t 51) (t 52)) 46<|O 55 (.pick (t 46) (b true) (t 53))<|H 58 (.ia 14 (t 6) (t 8)) 55<|H 59 (.fa 0 (t 58)) 55<|
H 60 (.ld none (t 59)) 55<|H 61 (.bini .lss (t 60) (i 0)) 55<|O 62 (.pick (t 55) (b true) (t 61))<|E)<|I (t 62) (S (V 5 (b false)<|E)<|R) (Z)))<|
Y (O 8 (.bini .add (t 8) (i 1))<|E)))<|S (V 5 (b true)<|E)<|R
theorem b13 : bodyO 216595836815081984 18049617274863616 Tryz.prog 13 = some (63, [.t 5], c13) := by kernel_rfl
theorem k13 : callOk Tryz.prog 13 = true := by kernel_rfl
/-- leapfrog/leapfroglaw09.PeerNobody -/
def c6 : Go.SL.CC := S (O 2 (.box 47 (t 0))<|O 3 (.box 27 (t 1))<|V 4 (b false)<|
O 13 (.agg [.z (.int .i64 0), .z (.int .i64 0), .z (.int .u64 0), .z (.int .i64 0), .z (.int .u64 0), .z (.slice none 0 0), .z (.pointer none), .z (.bool false), .z (.bool false), .z (.slice none 0 0), .z (.slice none 0 0)])<|
O 14 (.box 75 (t 13))<|O 15 (.bsl 34 [.c (k (.pointer none)) 0 1, .c (t 14) 0 1] 2)<|O 16 (.ln (t 15))<|V 17 (i 0)<|E)<|
Q (P 0 (S (O 18 (.bini .lss (t 17) (t 16))<|E)<|Q (I (t 18) (Z) (J 0))<|Q (B 1 (S (O 19 (.ia 1 (t 15) (t 17))<|L 20 19<|M 23 15 2<|C 24 9 [t 20, i 1, t 23]<|
X 25 24 0<|X 26 24 1<|M 29 2 3<|C 30 15 [t 20, t 29]<|X 31 30 0<|X 32 30 1<|
O 10 (.new 65 #[.int .i64 0, .bool false, .int .i64 0, .int .i64 0, .int .u64 0, .int .i64 0, .int .u64 0, .int .i64 0, .int .i64 0, .int .u64 0, .int .i64 0, .int .u64 0, .slice none 0 0])<|
N (.st 13 (t 10) (t 31))<|O 35 (.bini .neq (t 26) (i 4))<|H 37 (.bini .neq (t 32) (i 4)) 35<|O 39 (.pick (t 35) (b true) (t 37))<|H 41 (.ln (t 25)) 39<|
H 43 (.call (f 14) [t 20]) 39<|H 44 (.ln (t 43)) 39<|H 45 (.bini .add (t 41) (t 44)) 39<|H 46 (.bini .neq (t 45) (i 0)) 39<|
O 48 (.pick (t 39) (b true) (t 46))<|H 49 (.ld (some 13) (t 10)) 48<|
H 50 (.agg [.z (.int .i64 0), .z (.bool false), .z (.int .i64 0), .z (.int .i64 0), .z (.int .u64 0), .z (.int .i64 0), .z (.int .u64 0), .z (.int .i64 0), .z (.int .i64 0), .z (.int .u64 0), .z (.int .i64 0), .z (.int .u64 0), .z (.slice none 0 0)]) 48<|
H 51 (.call (f 16) [t 49, t 50]) 48<|H 52 (.un .not (t 51)) 48<|O 54 (.pick (t 48) (b true) (t 52))<|H 56 (.call (f 10) [t 20]) 54<|
H 57 (.agg [.z (.int .i64 0), .z (.int .i64 0), .z (.int .u64 0), .z (.int .i64 0), .z (.int .u64 0), .z (.slice none 0 0), .z (.bool false), .z (.bool false), .z (.slice none 0 0)]) 54<|
H 58 (.call (f 17) [t 56, t 57]) 54<|H 59 (.un .not (t 58)) 54<|O 60 (.pick (t 54) (b true) (t 59))<|E)<|I (t 60) (S (V 4 (b false)<|E)<|R) (Z)))<|
Y (O 17 (.bini .add (t 17) (i 1))<|E)))<|S (C 4 8 []<|E)<|R
theorem b6 : bodyO 36034372295465888 6926677256441954304 Tryz.prog 6 = some (63, [.t 4], c6) := by kernel_rfl
theorem k6 : callOk Tryz.prog 6 = true := by kernel_rfl
/-- leapfrog/leapfrogref09.SameAnswer -/
def c16 : Go.SL.CC := S (O 2 (.box 65 (t 0))<|O 3 (.box 65 (t 1))<|V 4 (b false)<|F 5 0 2<|L 6 5<|F 7 0 3<|L 8 7<|O 9 (.bini .eql (t 6) (t 8))<|V 10 (t 9)<|G 11 (.fa 1 (t 2)) 10<|
G 12 (.ld none (t 11)) 10<|G 13 (.fa 1 (t 3)) 10<|G 14 (.ld none (t 13)) 10<|G 15 (.cmp .b false (t 12) (t 14)) 10<|O 16 (.pick (t 10) (t 15) (b false))<|
V 17 (t 16)<|G 18 (.fa 2 (t 2)) 17<|G 19 (.ld (some 5) (t 18)) 17<|G 20 (.fa 2 (t 3)) 17<|G 21 (.ld (some 5) (t 20)) 17<|
G 22 (.eqs false [.i, .i, .i, .i, .i] (t 19) (t 21)) 17<|O 23 (.pick (t 17) (t 22) (b false))<|V 24 (t 23)<|G 25 (.fa 7 (t 2)) 24<|
G 26 (.ld (some 5) (t 25)) 24<|G 27 (.fa 7 (t 3)) 24<|G 28 (.ld (some 5) (t 27)) 24<|G 29 (.eqs false [.i, .i, .i, .i, .i] (t 26) (t 28)) 24<|
O 30 (.pick (t 24) (t 29) (b false))<|V 31 (t 30)<|G 32 (.fa 12 (t 2)) 31<|G 33 (.ld none (t 32)) 31<|
G 34 (.raw ⟨some 34, .convert 30 9 (t 33), 9, "ref.go:380", #[⟨28, .data⟩, ⟨26, .guard⟩], some (26, true)⟩) 31<|G 35 (.fa 12 (t 3)) 31<|
G 36 (.ld none (t 35)) 31<|G 37 (.raw ⟨some 37, .convert 30 9 (t 36), 9, "ref.go:380", #[⟨31, .data⟩, ⟨26, .guard⟩], some (26, true)⟩) 31<|
G 38 (.cmp .s false (t 34) (t 37)) 31<|O 39 (.pick (t 31) (t 38) (b false))<|V 4 (t 39)<|E)<|R
theorem b16 : bodyO 0 0 Tryz.prog 16 = some (40, [.t 4], c16) := by kernel_rfl
theorem k16 : callOk Tryz.prog 16 = true := by kernel_rfl
/-- leapfrog/leapfrogref09.SameState -/
def c17 : Go.SL.CC := S (O 2 (.box 50 (t 0))<|O 3 (.box 50 (t 1))<|V 4 (b false)<|F 8 0 2<|M 9 5 8<|F 10 0 3<|M 11 5 10<|O 12 (.eqs true [.i, .i, .i, .i, .i] (t 9) (t 11))<|
V 13 (t 12)<|H 14 (.fa 5 (t 2)) 13<|H 15 (.ld none (t 14)) 13<|
H 16 (.raw ⟨some 16, .convert 30 9 (t 15), 9, "ref.go:398", #[⟨7, .data⟩, ⟨5, .guard⟩], some (5, false)⟩) 13<|H 17 (.fa 5 (t 3)) 13<|H 18 (.ld none (t 17)) 13<|
H 19 (.raw ⟨some 19, .convert 30 9 (t 18), 9, "ref.go:398", #[⟨10, .data⟩, ⟨5, .guard⟩], some (5, false)⟩) 13<|H 20 (.cmp .s true (t 16) (t 19)) 13<|
O 21 (.pick (t 13) (b true) (t 20))<|V 22 (t 21)<|H 23 (.fa 6 (t 2)) 22<|H 24 (.ld none (t 23)) 22<|H 25 (.fa 6 (t 3)) 22<|H 26 (.ld none (t 25)) 22<|
H 27 (.cmp .b true (t 24) (t 26)) 22<|O 28 (.pick (t 22) (b true) (t 27))<|V 29 (t 28)<|H 30 (.fa 7 (t 2)) 29<|H 31 (.ld none (t 30)) 29<|
H 32 (.fa 7 (t 3)) 29<|H 33 (.ld none (t 32)) 29<|H 34 (.cmp .b true (t 31) (t 33)) 29<|O 35 (.pick (t 29) (b true) (t 34))<|V 36 (t 35)<|
H 37 (.fa 8 (t 2)) 36<|H 38 (.ld none (t 37)) 36<|H 39 (.ln (t 38)) 36<|H 40 (.fa 8 (t 3)) 36<|H 41 (.ld none (t 40)) 36<|H 42 (.ln (t 41)) 36<|
H 43 (.bini .neq (t 39) (t 42)) 36<|O 44 (.pick (t 36) (b true) (t 43))<|E)<|Q (I (t 44) (S (V 4 (b false)<|E)<|R) (Z))<|S (V 5 (i 0)<|E)<|
Q (P 0 (S (V 45 (t 5)<|F 46 8 2<|L 47 46<|O 48 (.ln (t 47))<|O 49 (.bini .lss (t 45) (t 48))<|E)<|Q (I (t 49) (Z) (J 0))<|Q (B 1 (S (F 52 8 2<|L 53 52<|
V 54 (t 5)<|O 55 (.ia 16 (t 53) (t 54))<|M 56 16 55<|F 57 8 3<|L 58 57<|V 59 (t 5)<|O 60 (.ia 16 (t 58) (t 59))<|M 61 16 60<|
.both (O 6 (.new 55 #[.int .i64 0, .int .u64 0, .int .i64 0, .int .i64 0, .int .u64 0, .int .i64 0, .int .u64 0, .int .i64 0, .int .i64 0, .int .u64 0, .int .i64 0, .int .u64 0, .bool false, .int .i64 0, .int .i64 0, .slice none 0 0])<|
O 7 (.new 55 #[.int .i64 0, .int .u64 0, .int .i64 0, .int .i64 0, .int .u64 0, .int .i64 0, .int .u64 0, .int .i64 0, .int .i64 0, .int .u64 0, .int .i64 0, .int .u64 0, .bool false, .int .i64 0, .int .i64 0, .slice none 0 0])<|
N (.st 16 (t 6) (t 56))<|A 58 (.ld none (t 57))<|A 61 (.ld (some 16) (t 60))<|N (.st 16 (t 7) (t 61))<|
E) (O 7 (.new 55 #[.int .i64 0, .int .u64 0, .int .i64 0, .int .i64 0, .int .u64 0, .int .i64 0, .int .u64 0, .int .i64 0, .int .i64 0, .int .u64 0, .int .i64 0, .int .u64 0, .bool false, .int .i64 0, .int .i64 0, .slice none 0 0])<|
O 6 (.new 55 #[.int .i64 0, .int .u64 0, .int .i64 0, .int .i64 0, .int .u64 0, .int .i64 0, .int .u64 0, .int .i64 0, .int .i64 0, .int .u64 0, .int .i64 0, .int .u64 0, .bool false, .int .i64 0, .int .i64 0, .slice none 0 0])<|
N (.st 16 (t 6) (t 56))<|A 58 (.ld none (t 57))<|A 61 (.ld (some 16) (t 60))<|N (.st 16 (t 7) (t 61))<|E))<|S (F 62 0 6<|M 63 2 62<|F 64 0 7<|M 65 2 64<|
O 66 (.eqs true [.i, .i] (t 63) (t 65))<|V 67 (t 66)<|H 68 (.fa 2 (t 6)) 67<|H 69 (.ld (some 5) (t 68)) 67<|H 70 (.fa 2 (t 7)) 67<|
H 71 (.ld (some 5) (t 70)) 67<|H 72 (.eqs true [.i, .i, .i, .i, .i] (t 69) (t 71)) 67<|O 73 (.pick (t 67) (b true) (t 72))<|V 74 (t 73)<|H 75 (.fa 7 (t 6)) 74<|
H 76 (.ld (some 5) (t 75)) 74<|H 77 (.fa 7 (t 7)) 74<|H 78 (.ld (some 5) (t 77)) 74<|H 79 (.eqs true [.i, .i, .i, .i, .i] (t 76) (t 78)) 74<|
O 80 (.pick (t 74) (b true) (t 79))<|V 81 (t 80)<|H 82 (.fa 12 (t 6)) 81<|H 83 (.ld none (t 82)) 81<|H 84 (.fa 12 (t 7)) 81<|H 85 (.ld none (t 84)) 81<|
H 86 (.cmp .b true (t 83) (t 85)) 81<|O 87 (.pick (t 81) (b true) (t 86))<|V 88 (t 87)<|H 89 (.fa 13 (t 6)) 88<|H 90 (.ld (some 2) (t 89)) 88<|
H 91 (.fa 13 (t 7)) 88<|H 92 (.ld (some 2) (t 91)) 88<|H 93 (.eqs true [.i, .i] (t 90) (t 92)) 88<|O 94 (.pick (t 88) (b true) (t 93))<|V 95 (t 94)<|
H 96 (.fa 15 (t 6)) 95<|H 97 (.ld none (t 96)) 95<|H 98 (.fa 15 (t 7)) 95<|H 99 (.ld none (t 98)) 95<|H 100 (.call (f 44) [t 97, t 99]) 95<|
H 101 (.un .not (t 100)) 95<|O 102 (.pick (t 95) (b true) (t 101))<|E)<|I (t 102) (S (V 4 (b false)<|E)<|R) (Z)))<|Y (V 50 (t 5)<|
O 51 (.bini .add (t 50) (i 1))<|V 5 (t 51)<|E)))<|S (V 4 (b true)<|E)<|R
theorem b17 : bodyO 0 0 Tryz.prog 17 = some (103, [.t 4], c17) := by kernel_rfl
theorem k17 : callOk Tryz.prog 17 = true := by kernel_rfl
end Go.Proofs.YtmeajliiloaegaaGreat
