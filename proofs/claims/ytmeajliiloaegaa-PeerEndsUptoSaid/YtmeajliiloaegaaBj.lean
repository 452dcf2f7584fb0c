/- The bodies of some functions of the program, without their noise, and that they are these. Conditions: none. Written by a program of this workplace (Print.lean). -/
import Derived.Test.YtmeajliiloaegaaProg
import Derived.Test.YtmeajliiloaegaaSlW
import Derived.KernelRfl
namespace Go.Proofs.Ytmeajliiloaegaa
open Go.SL Go.SL.W
set_option maxRecDepth 100000

/-- leapfrog/lock.New -/
def c54 : Go.SL.CC := S (V 0 (k (.pointer none))<|O 1 (.agg [.c (b true) 0 1, .z (.bool false), .z (.int .i64 0), .z (.int .i64 0), .z (.slice none 0 0)])<|O 0 (.box 144 (t 1))<|E)<|
R
theorem b54 : bodyO 0 4 Try.prog 54 = some (3, [.t 0], c54) := by kernel_rfl
theorem k54 : callOk Try.prog 54 = true := by kernel_rfl
/-- (*leapfrog/lock.Lock).Ask -/
def c55 : Go.SL.CC := S (O 3 (.box 52 (t 1))<|V 4 (b false)<|V 5 (i 0)<|M 8 2 3<|C 6 74 [t 0, t 8]<|O 11 (.bini .neq (t 6) (i 0))<|E)<|Q (I (t 11) (S (V 4 (b false)<|V 5 (t 6)<|E)<|
R) (Z))<|Q (B 0 (S (F 16 1 0<|L 18 16<|G 21 (.fa 2 (t 0)) 18<|G 22 (.ld (some 2) (t 21)) 18<|G 23 (.ld (some 2) (t 3)) 18<|
G 24 (.eqs false [.i, .i] (t 22) (t 23)) 18<|O 13 (.pick (t 18) (t 24) (b false))<|E)<|I (t 13) (S (V 4 (b true)<|V 5 (i 0)<|E)<|R) (S (F 29 4 0<|L 30 29<|
M 31 2 3<|C 26 41 [t 30, t 31]<|E)<|I (t 26) (S (V 4 (b false)<|V 5 (i 0)<|E)<|R) (S (F 36 1 0<|L 37 36<|O 33 (.un .not (t 37))<|E)<|I (t 33) (S (M 41 2 3<|
F 43 1 0<|N (.st 1 (t 43) (b true))<|A 41 (.ld (some 2) (t 3))<|F 45 2 0<|N (.st 2 (t 45) (t 41))<|V 4 (b true)<|V 5 (i 0)<|E)<|R) (S (F 49 4 0<|L 50 49<|
O 51 (.ln (t 50))<|O 46 (.bini .geq (t 51) (i 64))<|E)<|I (t 46) (S (V 4 (b false)<|V 5 (i 3)<|E)<|R) (Z))))))<|S (F 56 4 0<|L 57 56<|F 60 4 0<|L 61 60<|
O 62 (.ln (t 61))<|F 65 4 0<|L 66 65<|O 67 (.ln (t 66))<|O 68 (.sl 2 (t 57) none (some (t 62)) (some (t 67)))<|M 69 2 3<|
O 70 (.bsl 52 [.c (t 69) 0 2, .c (t 69) 1 2] 1)<|O 71 (.ap 52 2 16 #[.int .i64 0, .int .i64 0] (t 68) (t 70))<|F 73 4 0<|N (.st 1 (t 73) (t 71))<|
V 4 (b false)<|V 5 (i 0)<|E)<|R
theorem b55 : bodyO 9538766414841140352 4741430523871349604864 Try.prog 55 = some (74, [.t 4, .t 5], c55) := by kernel_rfl
theorem k55 : callOk Try.prog 55 = true := by kernel_rfl
/-- (*leapfrog/lock.Lock).Waits -/
def c78 : Go.SL.CC := S (V 2 (k (.slice none 0 0))<|C 4 79 [t 0]<|O 5 (.un .not (t 4))<|E)<|Q (I (t 5) (S (V 2 (k (.slice none 0 0))<|E)<|R) (Z))<|S (F 8 4 0<|L 9 8<|C 2 82 [t 9]<|
E)<|R
theorem b78 : bodyO 72 1152 Try.prog 78 = some (11, [.t 2], c78) := by kernel_rfl
theorem k78 : callOk Try.prog 78 = true := by kernel_rfl
/-- (*leapfrog/lock.Lock).Free -/
def c67 : Go.SL.CC := S (O 3 (.box 52 (t 1))<|O 4 (.new 52 #[.int .i64 0, .int .i64 0])<|V 5 (b false)<|V 6 (i 0)<|M 9 2 3<|C 7 74 [t 0, t 9]<|O 12 (.bini .neq (t 7) (i 0))<|E)<|
Q (I (t 12) (S (O 13 (.agg [.z (.int .i64 0), .z (.int .i64 0)])<|N (.st 2 (t 4) (t 13))<|V 5 (b false)<|V 6 (t 7)<|E)<|R) (Z))<|S (F 17 1 0<|L 18 17<|
O 20 (.un .not (t 18))<|H 23 (.fa 2 (t 0)) 20<|H 24 (.ld (some 2) (t 23)) 20<|H 25 (.ld (some 2) (t 3)) 20<|H 26 (.eqs true [.i, .i] (t 24) (t 25)) 20<|
O 27 (.pick (t 20) (b true) (t 26))<|E)<|Q (I (t 27) (S (O 28 (.agg [.z (.int .i64 0), .z (.int .i64 0)])<|N (.st 2 (t 4) (t 28))<|V 5 (b false)<|V 6 (i 71)<|
E)<|R) (Z))<|S (F 31 4 0<|L 32 31<|O 33 (.ln (t 32))<|O 34 (.bini .eql (t 33) (i 0))<|E)<|Q (I (t 34) (S (O 37 (.agg [.z (.int .i64 0), .z (.int .i64 0)])<|
F 39 1 0<|N (.st 1 (t 39) (b false))<|F 41 2 0<|N (.st 2 (t 41) (t 37))<|O 42 (.agg [.z (.int .i64 0), .z (.int .i64 0)])<|N (.st 2 (t 4) (t 42))<|
V 5 (b false)<|V 6 (i 0)<|E)<|R) (Z))<|S (F 47 4 0<|L 48 47<|O 49 (.ia 2 (t 48) (i 0))<|M 50 2 49<|F 53 4 0<|L 54 53<|F 57 4 0<|L 58 57<|O 59 (.ln (t 58))<|
F 62 4 0<|L 63 62<|O 64 (.ln (t 63))<|O 65 (.sl 2 (t 54) (some (i 1)) (some (t 59)) (some (t 64)))<|F 67 2 0<|N (.st 2 (t 67) (t 50))<|F 69 4 0<|
N (.st 1 (t 69) (t 65))<|F 72 2 0<|M 73 2 72<|N (.st 2 (t 4) (t 73))<|V 5 (b true)<|V 6 (i 0)<|E)<|R
theorem b67 : bodyO 1181782884495120189696 2732500598856104870912 Try.prog 67 = some (74, [.c 4 (some 2), .t 5, .t 6], c67) := by kernel_rfl
theorem k67 : callOk Try.prog 67 = true := by kernel_rfl
/-- (*leapfrog/lock.Lock).Holder -/
def c68 : Go.SL.CC := S (O 2 (.new 52 #[.int .i64 0, .int .i64 0])<|V 3 (b false)<|C 5 79 [t 0]<|O 6 (.un .not (t 5))<|E)<|
Q (I (t 6) (S (O 7 (.agg [.z (.int .i64 0), .z (.int .i64 0)])<|N (.st 2 (t 2) (t 7))<|V 3 (b false)<|E)<|R) (Z))<|S (F 10 2 0<|M 11 2 10<|F 14 1 0<|L 15 14<|
N (.st 2 (t 2) (t 11))<|A 15 (.ld none (t 14))<|V 3 (t 15)<|E)<|R
theorem b68 : bodyO 4368 8704 Try.prog 68 = some (16, [.c 2 (some 2), .t 3], c68) := by kernel_rfl
theorem k68 : callOk Try.prog 68 = true := by kernel_rfl
/-- (*leapfrog/lock.Lock).End -/
def c75 : Go.SL.CC := S (V 2 (k (.slice none 0 0))<|V 3 (i 0)<|C 6 79 [t 0]<|O 7 (.un .not (t 6))<|E)<|Q (I (t 7) (S (V 2 (k (.slice none 0 0))<|V 3 (i 4)<|E)<|R) (Z))<|S (F 10 4 0<|
L 11 10<|O 15 (.agg [.z (.int .i64 0), .z (.int .i64 0)])<|F 17 1 0<|N (.st 1 (t 17) (b false))<|F 19 2 0<|N (.st 2 (t 19) (t 15))<|F 21 4 0<|
N (.st 1 (t 21) (k (.slice none 0 0)))<|C 2 82 [t 11]<|V 3 (i 0)<|E)<|R
theorem b75 : bodyO 4223280 9765376 Try.prog 75 = some (24, [.t 2, .t 3], c75) := by kernel_rfl
theorem k75 : callOk Try.prog 75 = true := by kernel_rfl
/-- leapfrog/lock.Check -/
def c53 : Go.SL.CC := S (O 1 (.box 52 (t 0))<|V 2 (i 0)<|F 3 0 1<|L 4 3<|O 6 (.bini .lss (t 4) (i 0))<|H 7 (.fa 0 (t 1)) 6<|H 8 (.ld none (t 7)) 6<|
H 9 (.bini .geq (t 8) (i 1024)) 6<|O 11 (.pick (t 6) (b true) (t 9))<|H 12 (.fa 1 (t 1)) 11<|H 13 (.ld none (t 12)) 11<|H 14 (.bini .lss (t 13) (i 1)) 11<|
O 16 (.pick (t 11) (b true) (t 14))<|H 17 (.fa 1 (t 1)) 16<|H 18 (.ld none (t 17)) 16<|H 19 (.bini .gtr (t 18) (i 1073741824)) 16<|
O 20 (.pick (t 16) (b true) (t 19))<|E)<|Q (I (t 20) (S (V 2 (i 70)<|E)<|R) (Z))<|S (V 2 (i 0)<|E)<|R
theorem b53 : bodyO 0 33824 Try.prog 53 = some (21, [.t 2], c53) := by kernel_rfl
theorem k53 : callOk Try.prog 53 = true := by kernel_rfl
/-- (*leapfrog/lock.Lock).asked -/
def c74 : Go.SL.CC := S (O 3 (.box 52 (t 1))<|V 4 (i 0)<|C 6 79 [t 0]<|O 7 (.un .not (t 6))<|E)<|Q (I (t 7) (S (V 4 (i 4)<|E)<|R) (Z))<|S (M 8 2 3<|C 4 53 [t 8]<|E)<|R
theorem b74 : bodyO 32 512 Try.prog 74 = some (10, [.t 4], c74) := by kernel_rfl
theorem k74 : callOk Try.prog 74 = true := by kernel_rfl
/-- (*leapfrog/lock.Lock).there -/
def c79 : Go.SL.CC := S (V 2 (b false)<|O 5 (.cmp .p true (t 0) (k (.pointer none)))<|G 8 (.fa 0 (t 0)) 5<|G 9 (.ld none (t 8)) 5<|O 2 (.pick (t 5) (t 9) (b false))<|E)<|R
theorem b79 : bodyO 72 1168 Try.prog 79 = some (11, [.t 2], c79) := by kernel_rfl
theorem k79 : callOk Try.prog 79 = true := by kernel_rfl
/-- slices.Contains[[]leapfrog/api.Owner,leapfrog/api.Owner] -/
def c41 : Go.SL.CC := S (O 3 (.box 52 (t 1))<|V 4 (b false)<|M 6 2 3<|C 7 66 [t 0, t 6]<|O 4 (.bini .geq (t 7) (i 0))<|E)<|R
theorem b41 : bodyO 32 256 Try.prog 41 = some (9, [.t 4], c41) := by kernel_rfl
theorem k41 : callOk Try.prog 41 = true := by kernel_rfl
/-- slices.Clone[[]leapfrog/api.Owner,leapfrog/api.Owner] -/
def c82 : Go.SL.CC := S (V 2 (k (.slice none 0 0))<|O 4 (.cmp .sl false (t 0) (k (.slice none 0 0)))<|E)<|Q (I (t 4) (S (V 2 (k (.slice none 0 0))<|E)<|R) (Z))<|
S (O 5 (.bsl 52 [] 0)<|O 2 (.ap 52 2 16 #[.int .i64 0, .int .i64 0] (t 5) (t 0))<|E)<|R
theorem b82 : bodyO 72 128 Try.prog 82 = some (8, [.t 2], c82) := by kernel_rfl
theorem k82 : callOk Try.prog 82 = true := by kernel_rfl
/-- slices.Index[[]leapfrog/api.Owner,leapfrog/api.Owner] -/
def c66 : Go.SL.CC := S (O 3 (.box 52 (t 1))<|V 4 (i 0)<|O 7 (.ln (t 0))<|V 8 (i 0)<|E)<|Q (P 0 (S (O 9 (.bini .lss (t 8) (t 7))<|E)<|Q (I (t 9) (Z) (J 0))<|Q (B 1 (S (V 5 (t 8)<|
M 11 2 3<|O 14 (.ia 2 (t 0) (t 5))<|M 15 2 14<|O 16 (.eqs false [.i, .i] (t 11) (t 15))<|E)<|I (t 16) (S (V 4 (t 5)<|E)<|R) (Z)))<|
Y (O 8 (.bini .add (t 8) (i 1))<|E)))<|S (V 4 (i (-1))<|E)<|R
theorem b66 : bodyO 144448 262144 Try.prog 66 = some (19, [.t 4], c66) := by kernel_rfl
theorem k66 : callOk Try.prog 66 = true := by kernel_rfl
/-- leapfrog/vec.Right -/
def c17 : Go.SL.CC := S (O 1 (.box 27 (t 0))<|V 2 (i 0)<|F 3 0 1<|L 4 3<|O 6 (.bini .lss (t 4) (i 0))<|H 7 (.fa 0 (t 1)) 6<|H 8 (.ld none (t 7)) 6<|H 9 (.bini .gtr (t 8) (i 32)) 6<|
O 11 (.pick (t 6) (b true) (t 9))<|H 12 (.fa 1 (t 1)) 11<|H 13 (.ld none (t 12)) 11<|H 14 (.fa 0 (t 1)) 11<|H 15 (.ld none (t 14)) 11<|
H 16 (.call (f 35) [t 15]) 11<|.ag ⟨some 13, .ld none (t 12), some (11, false)⟩<|H 17 (.bini .gtr (t 13) (t 16)) 11<|O 18 (.pick (t 11) (b true) (t 17))<|E)<|
Q (I (t 18) (S (V 2 (i 10)<|E)<|R) (Z))<|S (V 2 (i 0)<|E)<|R
theorem b17 : bodyO 0 1056 Try.prog 17 = some (19, [.t 2], c17) := by kernel_rfl
theorem k17 : callOk Try.prog 17 = true := by kernel_rfl
/-- leapfrog/vec.low -/
def c35 : Go.SL.CC := S (V 2 (u 0)<|O 4 (.cv .u64 (t 0))<|O 5 (.bini .shl (u 1) (t 4))<|O 2 (.bini .sub (t 5) (u 1))<|E)<|R
theorem b35 : bodyO 8 64 Try.prog 35 = some (7, [.t 2], c35) := by kernel_rfl
theorem k35 : callOk Try.prog 35 = true := by kernel_rfl
/-- leapfrog/vec.Begins -/
def c73 : Go.SL.CC := S (O 2 (.box 27 (t 0))<|O 3 (.box 27 (t 1))<|V 4 (b false)<|M 5 2 2<|C 6 17 [t 5]<|O 8 (.bini .eql (t 6) (i 0))<|G 9 (.ld (some 2) (t 3)) 8<|
G 10 (.call (f 17) [t 9]) 8<|G 11 (.bini .eql (t 10) (i 0)) 8<|O 13 (.pick (t 8) (t 11) (b false))<|G 14 (.fa 0 (t 3)) 13<|G 15 (.ld none (t 14)) 13<|
G 16 (.fa 0 (t 2)) 13<|G 17 (.ld none (t 16)) 13<|G 18 (.bini .leq (t 15) (t 17)) 13<|O 20 (.pick (t 13) (t 18) (b false))<|G 21 (.ld (some 2) (t 2)) 20<|
G 22 (.fa 0 (t 3)) 20<|G 23 (.ld none (t 22)) 20<|G 25 (.ld (some 2) (t 3)) 20<|G 24 (.call (f 81) [t 21, t 23]) 20<|
.ag ⟨some 25, .ld (some 2) (t 3), some (20, true)⟩<|G 26 (.eqs false [.i, .i] (t 24) (t 25)) 20<|O 4 (.pick (t 20) (t 26) (b false))<|E)<|R
theorem b73 : bodyO 0 134746240 Try.prog 73 = some (28, [.t 4], c73) := by kernel_rfl
theorem k73 : callOk Try.prog 73 = true := by kernel_rfl
/-- leapfrog/vec.prefix -/
def c81 : Go.SL.CC := S (O 2 (.box 27 (t 0))<|O 4 (.new 27 #[.int .i64 0, .int .u64 0])<|F 6 1 2<|L 7 6<|F 8 0 2<|L 9 8<|O 11 (.bini .sub (t 9) (t 1))<|O 12 (.cv .u64 (t 11))<|
O 13 (.bini .shr (t 7) (t 12))<|O 14 (.agg [.c (t 1) 0 1, .c (t 13) 0 1])<|N (.st 2 (t 4) (t 14))<|E)<|R
theorem b81 : bodyO 1056 0 Try.prog 81 = some (15, [.c 4 (some 2)], c81) := by kernel_rfl
theorem k81 : callOk Try.prog 81 = true := by kernel_rfl
/-- leapfrog/key.Check -/
def c34 : Go.SL.CC := S (O 1 (.box 25 (t 0))<|V 2 (i 0)<|F 3 0 1<|L 4 3<|O 6 (.bini .eql (t 4) (i 2))<|H 7 (.fa 0 (t 1)) 6<|H 8 (.ld none (t 7)) 6<|H 9 (.bini .eql (t 8) (i 1)) 6<|
H 10 (.mv (t 9)) 6<|H 11 (.fa 0 (t 1)) 10<|H 12 (.ld none (t 11)) 10<|H 13 (.bini .eql (t 12) (i 3)) 10<|H 14 (.pick (t 10) (b true) (t 13)) 6<|
H 15 (.mv (t 14)) 6<|G 16 (.fa 1 (t 1)) 15<|G 17 (.ld none (t 16)) 15<|G 18 (.bini .eql (t 17) (u 0)) 15<|H 19 (.pick (t 15) (t 18) (b false)) 6<|
O 20 (.pick (t 6) (b true) (t 19))<|E)<|Q (I (t 20) (S (V 2 (i 0)<|E)<|R) (Z))<|S (V 2 (i 20)<|E)<|R
theorem b34 : bodyO 0 32 Try.prog 34 = some (21, [.t 2], c34) := by kernel_rfl
theorem k34 : callOk Try.prog 34 = true := by kernel_rfl
/-- leapfrog/key.Less -/
def c69 : Go.SL.CC := S (O 2 (.box 25 (t 0))<|O 3 (.box 25 (t 1))<|V 4 (b false)<|M 5 2 2<|M 6 2 3<|C 7 80 [t 5, t 6]<|O 4 (.bini .lss (t 7) (i 0))<|E)<|R
theorem b69 : bodyO 0 256 Try.prog 69 = some (9, [.t 4], c69) := by kernel_rfl
theorem k69 : callOk Try.prog 69 = true := by kernel_rfl
/-- leapfrog/key.Compare -/
def c80 : Go.SL.CC := S (O 2 (.box 25 (t 0))<|O 3 (.box 25 (t 1))<|V 4 (i 0)<|F 5 0 2<|L 6 5<|F 7 0 3<|L 8 7<|F 10 1 2<|L 11 10<|F 12 1 3<|L 13 12<|C 9 85 [t 6, t 8]<|
A 11 (.ld none (t 10))<|A 13 (.ld none (t 12))<|C 14 86 [t 11, t 13]<|O 15 (.bsl 3 [.c (t 9) 0 1, .c (t 14) 0 1] 2)<|C 4 84 [t 15]<|E)<|R
theorem b80 : bodyO 0 65536 Try.prog 80 = some (17, [.t 4], c80) := by kernel_rfl
theorem k80 : callOk Try.prog 80 = true := by kernel_rfl
/-- cmp.Or[int] -/
def c84 : Go.SL.CC := S (V 2 (i 0)<|V 3 (i 0)<|V 6 (t 0)<|O 7 (.ln (t 6))<|V 8 (i 0)<|E)<|Q (P 0 (S (O 9 (.bini .lss (t 8) (t 7))<|E)<|Q (I (t 9) (Z) (J 0))<|
Q (B 1 (S (O 10 (.ia 1 (t 6) (t 8))<|L 5 10<|O 14 (.bini .neq (t 5) (t 3))<|E)<|I (t 14) (S (V 2 (t 5)<|E)<|R) (Z)))<|Y (O 8 (.bini .add (t 8) (i 1))<|E)))<|
S (V 2 (t 3)<|E)<|R
theorem b84 : bodyO 176128 67584 Try.prog 84 = some (18, [.t 2], c84) := by kernel_rfl
theorem k84 : callOk Try.prog 84 = true := by kernel_rfl
/-- cmp.Compare[leapfrog/api.Rank] -/
def c85 : Go.SL.CC := S (V 4 (i 0)<|C 8 87 [t 0]<|C 6 87 [t 1]<|V 11 (t 8)<|E)<|Q (I (t 11) (S (V 12 (t 6)<|E)<|Q (I (t 12) (S (V 4 (i 0)<|E)<|R) (Z))<|S (V 4 (i (-1))<|E)<|R) (Z))<|
S (V 13 (t 6)<|E)<|Q (I (t 13) (S (V 4 (i 1)<|E)<|R) (Z))<|S (O 16 (.bini .lss (t 0) (t 1))<|E)<|Q (I (t 16) (S (V 4 (i (-1))<|E)<|R) (Z))<|
S (O 19 (.bini .gtr (t 0) (t 1))<|E)<|Q (I (t 19) (S (V 4 (i 1)<|E)<|R) (Z))<|S (V 4 (i 0)<|E)<|R
theorem b85 : bodyO 443040 1024 Try.prog 85 = some (20, [.t 4], c85) := by kernel_rfl
theorem k85 : callOk Try.prog 85 = true := by kernel_rfl
/-- cmp.Compare[uint64] -/
def c86 : Go.SL.CC := S (V 4 (i 0)<|C 8 88 [t 0]<|C 6 88 [t 1]<|V 11 (t 8)<|E)<|Q (I (t 11) (S (V 12 (t 6)<|E)<|Q (I (t 12) (S (V 4 (i 0)<|E)<|R) (Z))<|S (V 4 (i (-1))<|E)<|R) (Z))<|
S (V 13 (t 6)<|E)<|Q (I (t 13) (S (V 4 (i 1)<|E)<|R) (Z))<|S (O 16 (.bini .lss (t 0) (t 1))<|E)<|Q (I (t 16) (S (V 4 (i (-1))<|E)<|R) (Z))<|
S (O 19 (.bini .gtr (t 0) (t 1))<|E)<|Q (I (t 19) (S (V 4 (i 1)<|E)<|R) (Z))<|S (V 4 (i 0)<|E)<|R
theorem b86 : bodyO 443040 1024 Try.prog 86 = some (20, [.t 4], c86) := by kernel_rfl
theorem k86 : callOk Try.prog 86 = true := by kernel_rfl
/-- cmp.isNaN[leapfrog/api.Rank] -/
def c87 : Go.SL.CC := S (V 2 (b false)<|O 2 (.bini .neq (t 0) (t 0))<|E)<|R
theorem b87 : bodyO 24 32 Try.prog 87 = some (6, [.t 2], c87) := by kernel_rfl
theorem k87 : callOk Try.prog 87 = true := by kernel_rfl
/-- cmp.isNaN[uint64] -/
def c88 : Go.SL.CC := S (V 2 (b false)<|O 2 (.bini .neq (t 0) (t 0))<|E)<|R
theorem b88 : bodyO 24 32 Try.prog 88 = some (6, [.t 2], c88) := by kernel_rfl
theorem k88 : callOk Try.prog 88 = true := by kernel_rfl
/-- leapfrog/leapfrogref01.Power -/
def c36 : Go.SL.CC := S (V 2 (u 0)<|V 3 (u 1)<|E)<|Q (P 0 (S (O 5 (.bini .gtr (t 0) (i 0))<|E)<|Q (I (t 5) (Z) (J 0))<|Q (B 1 (Y (O 3 (.bini .mul (t 3) (u 2))<|E)))<|
Y (O 0 (.bini .sub (t 0) (i 1))<|E)))<|S (V 2 (t 3)<|E)<|R
theorem b36 : bodyO 1360 640 Try.prog 36 = some (11, [.t 2], c36) := by kernel_rfl
theorem k36 : callOk Try.prog 36 = true := by kernel_rfl
/-- leapfrog/leapfrogref01.Right -/
def c19 : Go.SL.CC := S (O 1 (.box 27 (t 0))<|V 2 (b false)<|F 3 0 1<|L 4 3<|O 6 (.bini .geq (t 4) (i 0))<|G 7 (.fa 0 (t 1)) 6<|G 8 (.ld none (t 7)) 6<|
G 9 (.bini .leq (t 8) (i 32)) 6<|O 11 (.pick (t 6) (t 9) (b false))<|G 12 (.fa 1 (t 1)) 11<|G 13 (.ld none (t 12)) 11<|G 14 (.fa 0 (t 1)) 11<|
G 15 (.ld none (t 14)) 11<|G 16 (.call (f 36) [t 15]) 11<|.ag ⟨some 13, .ld none (t 12), some (11, true)⟩<|G 17 (.bini .lss (t 13) (t 16)) 11<|
O 2 (.pick (t 11) (t 17) (b false))<|E)<|R
theorem b19 : bodyO 0 263200 Try.prog 19 = some (19, [.t 2], c19) := by kernel_rfl
theorem k19 : callOk Try.prog 19 = true := by kernel_rfl
/-- leapfrog/leapfrogref09.Head -/
def c5 : Go.SL.CC := S (O 2 (.new 29 #[.int .i64 0, .int .i64 0, .int .u64 0, .int .i64 0, .int .u64 0])<|V 3 (i 0)<|O 6 (.bini .lss (t 0) (i 0))<|H 8 (.bini .gtr (t 0) (i 32)) 6<|
O 9 (.pick (t 6) (b true) (t 8))<|E)<|Q (I (t 9) (S (O 10 (.agg [.z (.int .i64 0), .z (.int .i64 0), .z (.int .u64 0), .z (.int .i64 0), .z (.int .u64 0)])<|
N (.st 5 (t 2) (t 10))<|V 3 (i 90)<|E)<|R) (Z))<|S (O 11 (.agg [.c (i 1) 0 1, .z (.int .u64 0)])<|O 13 (.agg [.c (t 0) 0 1, .z (.int .u64 0)])<|
O 14 (.agg [.c (i 0) 0 1, .c (t 11) 0 2, .c (t 11) 1 2, .c (t 13) 0 2, .c (t 13) 1 2])<|N (.st 5 (t 2) (t 14))<|V 3 (i 0)<|E)<|R
theorem b5 : bodyO 4240 32 Try.prog 5 = some (15, [.c 2 (some 5), .t 3], c5) := by kernel_rfl
theorem k5 : callOk Try.prog 5 = true := by kernel_rfl
/-- leapfrog/leapfrogref09.Tail -/
def c7 : Go.SL.CC := S (O 2 (.new 29 #[.int .i64 0, .int .i64 0, .int .u64 0, .int .i64 0, .int .u64 0])<|V 3 (i 0)<|O 6 (.bini .lss (t 0) (i 0))<|H 8 (.bini .gtr (t 0) (i 32)) 6<|
O 9 (.pick (t 6) (b true) (t 8))<|E)<|Q (I (t 9) (S (O 10 (.agg [.z (.int .i64 0), .z (.int .i64 0), .z (.int .u64 0), .z (.int .i64 0), .z (.int .u64 0)])<|
N (.st 5 (t 2) (t 10))<|V 3 (i 90)<|E)<|R) (Z))<|S (O 11 (.agg [.c (i 3) 0 1, .z (.int .u64 0)])<|O 13 (.agg [.c (t 0) 0 1, .z (.int .u64 0)])<|
O 14 (.agg [.c (i 1) 0 1, .c (t 11) 0 2, .c (t 11) 1 2, .c (t 13) 0 2, .c (t 13) 1 2])<|N (.st 5 (t 2) (t 14))<|V 3 (i 0)<|E)<|R
theorem b7 : bodyO 4240 32 Try.prog 7 = some (15, [.c 2 (some 5), .t 3], c7) := by kernel_rfl
theorem k7 : callOk Try.prog 7 = true := by kernel_rfl
/-- leapfrog/peer.Head -/
def c4 : Go.SL.CC := S (O 2 (.new 29 #[.int .i64 0, .int .i64 0, .int .u64 0, .int .i64 0, .int .u64 0])<|V 3 (i 0)<|C 5 10 [b false, t 0]<|X 6 5 0<|X 7 5 1<|N (.st 5 (t 2) (t 6))<|
V 3 (t 7)<|E)<|R
theorem b4 : bodyO 16 0 Try.prog 4 = some (8, [.c 2 (some 5), .t 3], c4) := by kernel_rfl
theorem k4 : callOk Try.prog 4 = true := by kernel_rfl
/-- leapfrog/peer.Tail -/
def c6 : Go.SL.CC := S (O 2 (.new 29 #[.int .i64 0, .int .i64 0, .int .u64 0, .int .i64 0, .int .u64 0])<|V 3 (i 0)<|C 5 10 [b true, t 0]<|X 6 5 0<|X 7 5 1<|N (.st 5 (t 2) (t 6))<|
V 3 (t 7)<|E)<|R
theorem b6 : bodyO 16 0 Try.prog 6 = some (8, [.c 2 (some 5), .t 3], c6) := by kernel_rfl
theorem k6 : callOk Try.prog 6 = true := by kernel_rfl
/-- leapfrog/peer.end -/
def c10 : Go.SL.CC := S (O 4 (.new 29 #[.int .i64 0, .int .i64 0, .int .u64 0, .int .i64 0, .int .u64 0])<|V 5 (i 0)<|O 9 (.bini .lss (t 1) (i 0))<|H 11 (.bini .gtr (t 1) (i 32)) 9<|
O 12 (.pick (t 9) (b true) (t 11))<|E)<|Q (I (t 12) (S (O 13 (.agg [.z (.int .i64 0), .z (.int .i64 0), .z (.int .u64 0), .z (.int .i64 0), .z (.int .u64 0)])<|
N (.st 5 (t 4) (t 13))<|V 5 (i 90)<|E)<|R) (Z))<|S (O 14 (.agg [.c (i 1) 0 1, .z (.int .u64 0)])<|O 16 (.agg [.c (t 1) 0 1, .z (.int .u64 0)])<|
O 17 (.agg [.z (.int .i64 0), .c (t 14) 0 2, .c (t 14) 1 2, .c (t 16) 0 2, .c (t 16) 1 2])<|
O 6 (.new 29 #[.int .i64 0, .int .i64 0, .int .u64 0, .int .i64 0, .int .u64 0])<|N (.st 5 (t 6) (t 17))<|V 18 (t 0)<|E)<|Q (I (t 18) (Y (F 19 0 6<|
N (.st 1 (t 19) (i 1))<|F 20 1 6<|F 21 0 20<|N (.st 1 (t 21) (i 3))<|E)) (Z))<|S (M 22 5 6<|N (.st 5 (t 4) (t 22))<|V 5 (i 0)<|E)<|R
theorem b10 : bodyO 33920 256 Try.prog 10 = some (23, [.c 4 (some 5), .t 5], c10) := by kernel_rfl
theorem k10 : callOk Try.prog 10 = true := by kernel_rfl
end Go.Proofs.Ytmeajliiloaegaa
