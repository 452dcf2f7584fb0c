/- The bodies of some functions of the program, without their noise, and that they are these. Conditions: none. Written by a program of this workplace (Print.lean). -/
import Derived.Test.YtnipmjpdklbbcaaProg
import Derived.Test.YtnipmjpdklbbcaaSlW
import Derived.KernelRfl
namespace Go.Proofs.Ytnipmjpdklbbcaa
open Go.SL Go.SL.W
set_option maxRecDepth 100000

/-- leapfrog/lock.New -/
def c102 : Go.SL.CC := S (V 0 (k (.pointer none))<|O 1 (.agg [.c (b true) 0 1, .z (.bool false), .z (.int .i64 0), .z (.int .i64 0), .z (.slice none 0 0)])<|O 0 (.box 201 (t 1))<|E)<|
R
theorem b102 : bodyO 0 4 Try.prog 102 = some (3, [.t 0], c102) := by kernel_rfl
theorem k102 : callOk Try.prog 102 = true := by kernel_rfl
/-- (*leapfrog/lock.Lock).Ask -/
def c103 : Go.SL.CC := S (O 3 (.box 77 (t 1))<|V 4 (b false)<|V 5 (i 0)<|M 8 2 3<|C 6 139 [t 0, t 8]<|O 11 (.bini .neq (t 6) (i 0))<|E)<|Q (I (t 11) (S (V 4 (b false)<|V 5 (t 6)<|E)<|
R) (Z))<|Q (B 0 (S (F 16 1 0<|L 18 16<|G 21 (.fa 2 (t 0)) 18<|G 22 (.ld (some 2) (t 21)) 18<|G 23 (.ld (some 2) (t 3)) 18<|
G 24 (.eqs false [.i, .i] (t 22) (t 23)) 18<|O 13 (.pick (t 18) (t 24) (b false))<|E)<|I (t 13) (S (V 4 (b true)<|V 5 (i 0)<|E)<|R) (S (F 29 4 0<|L 30 29<|
M 31 2 3<|C 26 140 [t 30, t 31]<|E)<|I (t 26) (S (V 4 (b false)<|V 5 (i 0)<|E)<|R) (S (F 36 1 0<|L 37 36<|O 33 (.un .not (t 37))<|E)<|I (t 33) (S (M 41 2 3<|
F 43 1 0<|N (.st 1 (t 43) (b true))<|A 41 (.ld (some 2) (t 3))<|F 45 2 0<|N (.st 2 (t 45) (t 41))<|V 4 (b true)<|V 5 (i 0)<|E)<|R) (S (F 49 4 0<|L 50 49<|
O 51 (.ln (t 50))<|O 46 (.bini .geq (t 51) (i 64))<|E)<|I (t 46) (S (V 4 (b false)<|V 5 (i 3)<|E)<|R) (Z))))))<|S (F 56 4 0<|L 57 56<|F 60 4 0<|L 61 60<|
O 62 (.ln (t 61))<|F 65 4 0<|L 66 65<|O 67 (.ln (t 66))<|O 68 (.sl 2 (t 57) none (some (t 62)) (some (t 67)))<|M 69 2 3<|
O 70 (.bsl 77 [.c (t 69) 0 2, .c (t 69) 1 2] 1)<|O 71 (.ap 77 2 16 #[.int .i64 0, .int .i64 0] (t 68) (t 70))<|F 73 4 0<|N (.st 1 (t 73) (t 71))<|
V 4 (b false)<|V 5 (i 0)<|E)<|R
theorem b103 : bodyO 9538766414841140352 4741430523871349604864 Try.prog 103 = some (74, [.t 4, .t 5], c103) := by kernel_rfl
theorem k103 : callOk Try.prog 103 = true := by kernel_rfl
/-- (*leapfrog/lock.Lock).Waits -/
def c109 : Go.SL.CC := S (V 2 (k (.slice none 0 0))<|C 4 141 [t 0]<|O 5 (.un .not (t 4))<|E)<|Q (I (t 5) (S (V 2 (k (.slice none 0 0))<|E)<|R) (Z))<|S (F 8 4 0<|L 9 8<|C 2 142 [t 9]<|
E)<|R
theorem b109 : bodyO 72 1152 Try.prog 109 = some (11, [.t 2], c109) := by kernel_rfl
theorem k109 : callOk Try.prog 109 = true := by kernel_rfl
/-- (*leapfrog/lock.Lock).Free -/
def c143 : Go.SL.CC := S (O 3 (.box 77 (t 1))<|O 4 (.new 77 #[.int .i64 0, .int .i64 0])<|V 5 (b false)<|V 6 (i 0)<|M 9 2 3<|C 7 139 [t 0, t 9]<|O 12 (.bini .neq (t 7) (i 0))<|E)<|
Q (I (t 12) (S (O 13 (.agg [.z (.int .i64 0), .z (.int .i64 0)])<|N (.st 2 (t 4) (t 13))<|V 5 (b false)<|V 6 (t 7)<|E)<|R) (Z))<|S (F 17 1 0<|L 18 17<|
O 20 (.un .not (t 18))<|H 23 (.fa 2 (t 0)) 20<|H 24 (.ld (some 2) (t 23)) 20<|H 25 (.ld (some 2) (t 3)) 20<|H 26 (.eqs true [.i, .i] (t 24) (t 25)) 20<|
O 27 (.pick (t 20) (b true) (t 26))<|E)<|Q (I (t 27) (S (O 28 (.agg [.z (.int .i64 0), .z (.int .i64 0)])<|N (.st 2 (t 4) (t 28))<|V 5 (b false)<|V 6 (i 71)<|
E)<|R) (Z))<|S (F 31 4 0<|L 32 31<|O 33 (.ln (t 32))<|O 34 (.bini .eql (t 33) (i 0))<|E)<|Q (I (t 34) (S (O 37 (.agg [.z (.int .i64 0), .z (.int .i64 0)])<|
F 39 1 0<|N (.st 1 (t 39) (b false))<|F 41 2 0<|N (.st 2 (t 41) (t 37))<|O 42 (.agg [.z (.int .i64 0), .z (.int .i64 0)])<|N (.st 2 (t 4) (t 42))<|
V 5 (b false)<|V 6 (i 0)<|E)<|R) (Z))<|S (F 47 4 0<|L 48 47<|O 49 (.ia 2 (t 48) (i 0))<|M 50 2 49<|F 53 4 0<|L 54 53<|F 57 4 0<|L 58 57<|O 59 (.ln (t 58))<|
F 62 4 0<|L 63 62<|O 64 (.ln (t 63))<|O 65 (.sl 2 (t 54) (some (i 1)) (some (t 59)) (some (t 64)))<|F 67 2 0<|N (.st 2 (t 67) (t 50))<|F 69 4 0<|
N (.st 1 (t 69) (t 65))<|F 72 2 0<|M 73 2 72<|N (.st 2 (t 4) (t 73))<|V 5 (b true)<|V 6 (i 0)<|E)<|R
theorem b143 : bodyO 1181782884495120189696 2732500598856104870912 Try.prog 143 = some (74, [.c 4 (some 2), .t 5, .t 6], c143) := by kernel_rfl
theorem k143 : callOk Try.prog 143 = true := by kernel_rfl
/-- (*leapfrog/lock.Lock).Holder -/
def c110 : Go.SL.CC := S (O 2 (.new 77 #[.int .i64 0, .int .i64 0])<|V 3 (b false)<|C 5 141 [t 0]<|O 6 (.un .not (t 5))<|E)<|
Q (I (t 6) (S (O 7 (.agg [.z (.int .i64 0), .z (.int .i64 0)])<|N (.st 2 (t 2) (t 7))<|V 3 (b false)<|E)<|R) (Z))<|S (F 10 2 0<|M 11 2 10<|F 14 1 0<|L 15 14<|
N (.st 2 (t 2) (t 11))<|A 15 (.ld none (t 14))<|V 3 (t 15)<|E)<|R
theorem b110 : bodyO 4368 8704 Try.prog 110 = some (16, [.c 2 (some 2), .t 3], c110) := by kernel_rfl
theorem k110 : callOk Try.prog 110 = true := by kernel_rfl
/-- (*leapfrog/lock.Lock).End -/
def c106 : Go.SL.CC := S (V 2 (k (.slice none 0 0))<|V 3 (i 0)<|C 6 141 [t 0]<|O 7 (.un .not (t 6))<|E)<|Q (I (t 7) (S (V 2 (k (.slice none 0 0))<|V 3 (i 4)<|E)<|R) (Z))<|
S (F 10 4 0<|L 11 10<|O 15 (.agg [.z (.int .i64 0), .z (.int .i64 0)])<|F 17 1 0<|N (.st 1 (t 17) (b false))<|F 19 2 0<|N (.st 2 (t 19) (t 15))<|F 21 4 0<|
N (.st 1 (t 21) (k (.slice none 0 0)))<|C 2 142 [t 11]<|V 3 (i 0)<|E)<|R
theorem b106 : bodyO 4223280 9765376 Try.prog 106 = some (24, [.t 2, .t 3], c106) := by kernel_rfl
theorem k106 : callOk Try.prog 106 = true := by kernel_rfl
/-- leapfrog/lock.Check -/
def c101 : Go.SL.CC := S (O 1 (.box 77 (t 0))<|V 2 (i 0)<|F 3 0 1<|L 4 3<|O 6 (.bini .lss (t 4) (i 0))<|H 7 (.fa 0 (t 1)) 6<|H 8 (.ld none (t 7)) 6<|
H 9 (.bini .geq (t 8) (i 1024)) 6<|O 11 (.pick (t 6) (b true) (t 9))<|H 12 (.fa 1 (t 1)) 11<|H 13 (.ld none (t 12)) 11<|H 14 (.bini .lss (t 13) (i 1)) 11<|
O 16 (.pick (t 11) (b true) (t 14))<|H 17 (.fa 1 (t 1)) 16<|H 18 (.ld none (t 17)) 16<|H 19 (.bini .gtr (t 18) (i 1073741824)) 16<|
O 20 (.pick (t 16) (b true) (t 19))<|E)<|Q (I (t 20) (S (V 2 (i 70)<|E)<|R) (Z))<|S (V 2 (i 0)<|E)<|R
theorem b101 : bodyO 0 33824 Try.prog 101 = some (21, [.t 2], c101) := by kernel_rfl
theorem k101 : callOk Try.prog 101 = true := by kernel_rfl
/-- (*leapfrog/lock.Lock).asked -/
def c139 : Go.SL.CC := S (O 3 (.box 77 (t 1))<|V 4 (i 0)<|C 6 141 [t 0]<|O 7 (.un .not (t 6))<|E)<|Q (I (t 7) (S (V 4 (i 4)<|E)<|R) (Z))<|S (M 8 2 3<|C 4 101 [t 8]<|E)<|R
theorem b139 : bodyO 32 512 Try.prog 139 = some (10, [.t 4], c139) := by kernel_rfl
theorem k139 : callOk Try.prog 139 = true := by kernel_rfl
/-- (*leapfrog/lock.Lock).there -/
def c141 : Go.SL.CC := S (V 2 (b false)<|O 5 (.cmp .p true (t 0) (k (.pointer none)))<|G 8 (.fa 0 (t 0)) 5<|G 9 (.ld none (t 8)) 5<|O 2 (.pick (t 5) (t 9) (b false))<|E)<|R
theorem b141 : bodyO 72 1168 Try.prog 141 = some (11, [.t 2], c141) := by kernel_rfl
theorem k141 : callOk Try.prog 141 = true := by kernel_rfl
/-- slices.Contains[[]leapfrog/api.Owner,leapfrog/api.Owner] -/
def c140 : Go.SL.CC := S (O 3 (.box 77 (t 1))<|V 4 (b false)<|M 6 2 3<|C 7 162 [t 0, t 6]<|O 4 (.bini .geq (t 7) (i 0))<|E)<|R
theorem b140 : bodyO 32 256 Try.prog 140 = some (9, [.t 4], c140) := by kernel_rfl
theorem k140 : callOk Try.prog 140 = true := by kernel_rfl
/-- slices.Clone[[]leapfrog/api.Owner,leapfrog/api.Owner] -/
def c142 : Go.SL.CC := S (V 2 (k (.slice none 0 0))<|O 4 (.cmp .sl false (t 0) (k (.slice none 0 0)))<|E)<|Q (I (t 4) (S (V 2 (k (.slice none 0 0))<|E)<|R) (Z))<|
S (O 5 (.bsl 77 [] 0)<|O 2 (.ap 77 2 16 #[.int .i64 0, .int .i64 0] (t 5) (t 0))<|E)<|R
theorem b142 : bodyO 72 128 Try.prog 142 = some (8, [.t 2], c142) := by kernel_rfl
theorem k142 : callOk Try.prog 142 = true := by kernel_rfl
/-- slices.Index[[]leapfrog/api.Owner,leapfrog/api.Owner] -/
def c162 : Go.SL.CC := S (O 3 (.box 77 (t 1))<|V 4 (i 0)<|O 7 (.ln (t 0))<|V 8 (i 0)<|E)<|Q (P 0 (S (O 9 (.bini .lss (t 8) (t 7))<|E)<|Q (I (t 9) (Z) (J 0))<|Q (B 1 (S (V 5 (t 8)<|
M 11 2 3<|O 14 (.ia 2 (t 0) (t 5))<|M 15 2 14<|O 16 (.eqs false [.i, .i] (t 11) (t 15))<|E)<|I (t 16) (S (V 4 (t 5)<|E)<|R) (Z)))<|
Y (O 8 (.bini .add (t 8) (i 1))<|E)))<|S (V 4 (i (-1))<|E)<|R
theorem b162 : bodyO 144448 262144 Try.prog 162 = some (19, [.t 4], c162) := by kernel_rfl
theorem k162 : callOk Try.prog 162 = true := by kernel_rfl
end Go.Proofs.Ytnipmjpdklbbcaa
