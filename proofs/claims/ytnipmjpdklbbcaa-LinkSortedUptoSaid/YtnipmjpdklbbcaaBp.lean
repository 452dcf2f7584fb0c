/- The bodies of some functions of the program, without their noise, and that they are these. Conditions: none. Written by a program of this workplace (Print.lean). -/
import Derived.Test.YtnipmjpdklbbcaaProg
import Derived.Test.YtnipmjpdklbbcaaSlW
import Derived.KernelRfl
namespace Go.Proofs.Ytnipmjpdklbbcaa
open Go.SL Go.SL.W
set_option maxRecDepth 100000

/-- (*leapfrog/link.Links).All -/
def c32 : Go.SL.CC := S (V 2 (k (.slice none 0 0))<|C 8 76 [t 0]<|O 9 (.un .not (t 8))<|E)<|Q (I (t 9) (S (V 2 (k (.slice none 0 0))<|E)<|R) (Z))<|S (V 3 (k (.slice none 0 0))<|
F 12 5 0<|L 13 12<|O 14 (.rng (t 13))<|E)<|Q (P 0 (S (O 15 (.nxt (t 14))<|X 16 15 0<|E)<|Q (I (t 16) (Z) (J 0))<|B 1 (S (O 17 (.ent (t 14))<|X 18 17 0<|
X 19 17 1<|O 4 (.new 30 #[.int .i64 0, .int .u64 0])<|N (.st 2 (t 4) (t 18))<|M 21 2 4<|C 22 77 [t 19, t 21]<|
O 6 (.new 80 #[.int .i64 0, .int .u64 0, .int .i64 0, .int .i64 0, .int .u64 0, .int .i64 0, .int .u64 0, .int .i64 0, .int .i64 0, .int .u64 0, .int .i64 0, .int .u64 0, .bool false, .int .i64 0, .int .i64 0, .slice none 0 0])<|
N (.st 16 (t 6) (t 22))<|C 24 78 [t 0]<|O 26 (.un .not (t 24))<|H 27 (.ld (some 16) (t 6)) 26<|H 30 (.ld (some 2) (t 4)) 26<|H 29 (.call (f 80) [t 0]) 26<|
.ag ⟨some 27, .ld (some 16) (t 6), some (26, false)⟩<|.ag ⟨some 30, .ld (some 2) (t 4), some (26, false)⟩<|H 31 (.call (f 77) [t 29, t 30]) 26<|
.ag ⟨some 27, .ld (some 16) (t 6), some (26, false)⟩<|H 32 (.call (f 79) [t 27, t 31]) 26<|H 33 (.un .not (t 32)) 26<|O 34 (.pick (t 26) (b true) (t 33))<|E)<|
I (t 34) (Y (M 36 16 6<|
O 37 (.bsl 80 [.c (t 36) 0 16, .c (t 36) 1 16, .c (t 36) 2 16, .c (t 36) 3 16, .c (t 36) 4 16, .c (t 36) 5 16, .c (t 36) 6 16, .c (t 36) 7 16, .c (t 36) 8 16, .c (t 36) 9 16, .c (t 36) 10 16, .c (t 36) 11 16, .c (t 36) 12 16, .c (t 36) 13 16, .c (t 36) 14 16, .c (t 36) 15 16] 1)<|
O 3 (.ap 80 16 144 #[.int .i64 0, .int .u64 0, .int .i64 0, .int .i64 0, .int .u64 0, .int .i64 0, .int .u64 0, .int .i64 0, .int .i64 0, .int .u64 0, .int .i64 0, .int .u64 0, .bool false, .int .i64 0, .int .i64 0, .slice none 0 0] (t 3) (t 37))<|
E)) (Z))))<|S (C 40 81 [t 3, f 82]<|V 2 (t 3)<|E)<|R
theorem b32 : bodyO 2783416681632 274911463424 Try.prog 32 = some (42, [.t 2], c32) := by kernel_rfl
theorem k32 : callOk Try.prog 32 = true := by kernel_rfl
/-- (*leapfrog/link.Links).All$1 -/
def c82 : Go.SL.CC := S (O 2 (.box 80 (t 0))<|O 3 (.box 80 (t 1))<|V 4 (i 0)<|F 8 0 2<|M 9 2 8<|F 10 0 3<|M 11 2 10<|C 12 83 [t 9, t 11]<|X 13 12 0<|X 14 12 1<|V 4 (t 13)<|E)<|R
theorem b82 : bodyO 32992 0 Try.prog 82 = some (16, [.t 4], c82) := by kernel_rfl
theorem k82 : callOk Try.prog 82 = true := by kernel_rfl
/-- leapfrog/leapfroglaw08.LinkSorted -/
def c10 : Go.SL.CC := S (O 2 (.box 32 (t 0))<|V 4 (b false)<|C 12 30 []<|O 13 (.un .not (t 12))<|E)<|Q (I (t 13) (S (V 4 (b false)<|E)<|R) (Z))<|S (M 14 5 2<|C 5 31 [t 14, t 1]<|
O 18 (.cmp .p false (t 5) (k (.pointer none)))<|E)<|Q (I (t 18) (S (V 4 (b true)<|E)<|R) (Z))<|S (C 6 32 [t 5]<|V 7 (i 0)<|E)<|Q (P 0 (S (O 23 (.ln (t 6))<|
O 24 (.bini .lss (t 7) (t 23))<|E)<|Q (I (t 24) (Z) (J 0))<|Q (B 1 (S (O 29 (.ia 16 (t 6) (t 7))<|M 30 16 29<|
O 8 (.new 80 #[.int .i64 0, .int .u64 0, .int .i64 0, .int .i64 0, .int .u64 0, .int .i64 0, .int .u64 0, .int .i64 0, .int .i64 0, .int .u64 0, .int .i64 0, .int .u64 0, .bool false, .int .i64 0, .int .i64 0, .slice none 0 0])<|
N (.st 16 (t 8) (t 30))<|F 31 2 8<|M 32 5 31<|O 33 (.agg [.z (.int .i64 0), .z (.int .i64 0), .z (.int .u64 0), .z (.int .i64 0), .z (.int .u64 0)])<|
O 35 (.eqs false [.i, .i, .i, .i, .i] (t 32) (t 33))<|G 36 (.fa 1 (t 2)) 35<|G 37 (.fa 0 (t 36)) 35<|G 38 (.ld none (t 37)) 35<|
G 39 (.bini .eql (t 38) (i 1)) 35<|O 41 (.pick (t 35) (t 39) (b false))<|H 42 (.fa 2 (t 8)) 41<|H 43 (.fa 1 (t 42)) 41<|H 44 (.ld (some 2) (t 43)) 41<|
H 45 (.call (f 33) [t 44]) 41<|H 46 (.bini .eql (t 45) (i 0)) 41<|H 47 (.mv (t 46)) 41<|G 48 (.fa 2 (t 8)) 47<|G 49 (.fa 1 (t 48)) 47<|
G 50 (.ld (some 2) (t 49)) 47<|G 51 (.fa 1 (t 2)) 47<|G 52 (.ld (some 2) (t 51)) 47<|G 53 (.call (f 34) [t 50, t 52]) 47<|
H 54 (.pick (t 47) (t 53) (b false)) 41<|O 55 (.pick (t 41) (b true) (t 54))<|F 56 7 8<|M 57 5 56<|
O 58 (.agg [.z (.int .i64 0), .z (.int .i64 0), .z (.int .u64 0), .z (.int .i64 0), .z (.int .u64 0)])<|O 60 (.eqs false [.i, .i, .i, .i, .i] (t 57) (t 58))<|
G 61 (.fa 1 (t 2)) 60<|G 62 (.fa 0 (t 61)) 60<|G 63 (.ld none (t 62)) 60<|G 64 (.bini .eql (t 63) (i 3)) 60<|O 66 (.pick (t 60) (t 64) (b false))<|
H 67 (.fa 7 (t 8)) 66<|H 68 (.fa 1 (t 67)) 66<|H 69 (.ld (some 2) (t 68)) 66<|H 70 (.call (f 33) [t 69]) 66<|H 71 (.bini .eql (t 70) (i 0)) 66<|
H 72 (.mv (t 71)) 66<|G 73 (.fa 1 (t 2)) 72<|G 74 (.ld (some 2) (t 73)) 72<|G 75 (.fa 7 (t 8)) 72<|G 76 (.fa 1 (t 75)) 72<|G 77 (.ld (some 2) (t 76)) 72<|
G 78 (.call (f 34) [t 74, t 77]) 72<|H 79 (.pick (t 72) (t 78) (b false)) 66<|O 80 (.pick (t 66) (b true) (t 79))<|O 83 (.un .not (t 55))<|
H 85 (.un .not (t 80)) 83<|O 87 (.pick (t 83) (b true) (t 85))<|H 89 (.fa 0 (t 8)) 87<|H 90 (.ld (some 2) (t 89)) 87<|H 91 (.call (f 35) [t 5, t 90]) 87<|
H 92 (.un .not (t 91)) 87<|O 94 (.pick (t 87) (b true) (t 92))<|H 95 (.fa 15 (t 8)) 94<|H 96 (.ld none (t 95)) 94<|H 97 (.ln (t 96)) 94<|
H 98 (.bini .gtr (t 97) (i 0)) 94<|H 99 (.mv (t 98)) 94<|G 100 (.fa 12 (t 8)) 99<|G 101 (.ld none (t 100)) 99<|G 102 (.un .not (t 101)) 99<|
H 103 (.pick (t 99) (t 102) (b false)) 94<|O 104 (.pick (t 94) (b true) (t 103))<|E)<|Q (I (t 104) (S (V 4 (b false)<|E)<|R) (Z))<|S (V 11 (i 0)<|E)<|
P 2 (S (O 107 (.bini .lss (t 11) (t 7))<|E)<|Q (I (t 107) (Z) (J 2))<|Q (B 3 (S (O 112 (.ia 16 (t 6) (t 11))<|F 113 0 112<|M 114 2 113<|F 115 0 8<|M 116 2 115<|
O 117 (.eqs false [.i, .i] (t 114) (t 116))<|E)<|I (t 117) (S (V 4 (b false)<|E)<|R) (Z)))<|Y (O 11 (.bini .add (t 11) (i 1))<|E))))<|
Y (O 7 (.bini .add (t 7) (i 1))<|E)))<|S (V 4 (b true)<|E)<|R
theorem b10 : bodyO 4340435986427132045133106087888384 649047093044160940353311596412928 Try.prog 10 = some (118, [.t 4], c10) := by kernel_rfl
theorem k10 : callOk Try.prog 10 = true := by kernel_rfl
/-- leapfrog/leapfrogref02.Check -/
def c33 : Go.SL.CC := S (O 1 (.box 25 (t 0))<|V 2 (i 0)<|F 3 0 1<|L 4 3<|O 6 (.bini .eql (t 4) (i 2))<|H 7 (.fa 0 (t 1)) 6<|H 8 (.ld none (t 7)) 6<|H 9 (.bini .eql (t 8) (i 1)) 6<|
H 10 (.mv (t 9)) 6<|H 11 (.fa 0 (t 1)) 10<|H 12 (.ld none (t 11)) 10<|H 13 (.bini .eql (t 12) (i 3)) 10<|H 14 (.pick (t 10) (b true) (t 13)) 6<|
H 15 (.mv (t 14)) 6<|G 16 (.fa 1 (t 1)) 15<|G 17 (.ld none (t 16)) 15<|G 18 (.bini .eql (t 17) (u 0)) 15<|H 19 (.pick (t 15) (t 18) (b false)) 6<|
O 20 (.pick (t 6) (b true) (t 19))<|E)<|Q (I (t 20) (S (V 2 (i 0)<|E)<|R) (Z))<|S (V 2 (i 20)<|E)<|R
theorem b33 : bodyO 0 32 Try.prog 33 = some (21, [.t 2], c33) := by kernel_rfl
theorem k33 : callOk Try.prog 33 = true := by kernel_rfl
/-- leapfrog/leapfrogref02.Less -/
def c34 : Go.SL.CC := S (O 2 (.box 25 (t 0))<|O 3 (.box 25 (t 1))<|V 4 (b false)<|M 5 2 2<|M 6 2 3<|C 7 84 [t 5, t 6]<|O 4 (.bini .lss (t 7) (i 0))<|E)<|R
theorem b34 : bodyO 0 256 Try.prog 34 = some (9, [.t 4], c34) := by kernel_rfl
theorem k34 : callOk Try.prog 34 = true := by kernel_rfl
/-- leapfrog/leapfrogref02.Compare -/
def c84 : Go.SL.CC := S (O 2 (.box 25 (t 0))<|O 3 (.box 25 (t 1))<|V 4 (i 0)<|E)<|Q (B 0 (S (F 6 0 2<|L 7 6<|F 8 0 3<|L 9 8<|O 11 (.bini .lss (t 7) (t 9))<|H 12 (.fa 0 (t 2)) 11<|
H 13 (.ld none (t 12)) 11<|H 14 (.fa 0 (t 3)) 11<|H 15 (.ld none (t 14)) 11<|H 16 (.bini .eql (t 13) (t 15)) 11<|H 17 (.mv (t 16)) 11<|G 18 (.fa 1 (t 2)) 17<|
G 19 (.ld none (t 18)) 17<|G 20 (.fa 1 (t 3)) 17<|G 21 (.ld none (t 20)) 17<|G 22 (.bini .lss (t 19) (t 21)) 17<|H 23 (.pick (t 17) (t 22) (b false)) 11<|
O 5 (.pick (t 11) (b true) (t 23))<|E)<|I (t 5) (S (V 4 (i (-1))<|E)<|R) (S (M 26 2 2<|M 27 2 3<|O 25 (.eqs false [.i, .i] (t 26) (t 27))<|E)<|
I (t 25) (S (V 4 (i 0)<|E)<|R) (Z))))<|S (V 4 (i 1)<|E)<|R
theorem b84 : bodyO 0 285213696 Try.prog 84 = some (29, [.t 4], c84) := by kernel_rfl
theorem k84 : callOk Try.prog 84 = true := by kernel_rfl
end Go.Proofs.Ytnipmjpdklbbcaa
