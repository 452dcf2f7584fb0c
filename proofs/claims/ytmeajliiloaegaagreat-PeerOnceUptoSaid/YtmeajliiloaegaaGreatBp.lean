/- The bodies of some functions of the program, without their noise, and that they are these. Conditions: none. Written by a program of this workplace (Print.lean). -/
import Derived.Test.YtmeajliiloaegaaGreatProg
import Derived.Test.YtmeajliiloaegaaGreatSlW
import Derived.KernelRfl
namespace Go.Proofs.YtmeajliiloaegaaGreat
open Go.SL Go.SL.W
set_option maxRecDepth 100000

/-- (*leapfrog/link.Links).All -/
def c39 : Go.SL.CC := S (V 2 (k (.slice none 0 0))<|C 8 60 [t 0]<|O 9 (.un .not (t 8))<|E)<|Q (I (t 9) (S (V 2 (k (.slice none 0 0))<|E)<|R) (Z))<|S (V 3 (k (.slice none 0 0))<|
F 12 5 0<|L 13 12<|O 14 (.rng (t 13))<|E)<|Q (P 0 (S (O 15 (.nxt (t 14))<|X 16 15 0<|E)<|Q (I (t 16) (Z) (J 0))<|B 1 (S (O 17 (.ent (t 14))<|X 18 17 0<|
X 19 17 1<|O 4 (.new 27 #[.int .i64 0, .int .u64 0])<|N (.st 2 (t 4) (t 18))<|M 21 2 4<|C 22 74 [t 19, t 21]<|
O 6 (.new 55 #[.int .i64 0, .int .u64 0, .int .i64 0, .int .i64 0, .int .u64 0, .int .i64 0, .int .u64 0, .int .i64 0, .int .i64 0, .int .u64 0, .int .i64 0, .int .u64 0, .bool false, .int .i64 0, .int .i64 0, .slice none 0 0])<|
N (.st 16 (t 6) (t 22))<|C 24 63 [t 0]<|O 26 (.un .not (t 24))<|H 27 (.ld (some 16) (t 6)) 26<|H 30 (.ld (some 2) (t 4)) 26<|H 29 (.call (f 76) [t 0]) 26<|
.ag ⟨some 27, .ld (some 16) (t 6), some (26, false)⟩<|.ag ⟨some 30, .ld (some 2) (t 4), some (26, false)⟩<|H 31 (.call (f 74) [t 29, t 30]) 26<|
.ag ⟨some 27, .ld (some 16) (t 6), some (26, false)⟩<|H 32 (.call (f 75) [t 27, t 31]) 26<|H 33 (.un .not (t 32)) 26<|O 34 (.pick (t 26) (b true) (t 33))<|E)<|
I (t 34) (Y (M 36 16 6<|
O 37 (.bsl 55 [.c (t 36) 0 16, .c (t 36) 1 16, .c (t 36) 2 16, .c (t 36) 3 16, .c (t 36) 4 16, .c (t 36) 5 16, .c (t 36) 6 16, .c (t 36) 7 16, .c (t 36) 8 16, .c (t 36) 9 16, .c (t 36) 10 16, .c (t 36) 11 16, .c (t 36) 12 16, .c (t 36) 13 16, .c (t 36) 14 16, .c (t 36) 15 16] 1)<|
O 3 (.ap 55 16 144 #[.int .i64 0, .int .u64 0, .int .i64 0, .int .i64 0, .int .u64 0, .int .i64 0, .int .u64 0, .int .i64 0, .int .i64 0, .int .u64 0, .int .i64 0, .int .u64 0, .bool false, .int .i64 0, .int .i64 0, .slice none 0 0] (t 3) (t 37))<|
E)) (Z))))<|S (C 40 77 [t 3, f 78]<|V 2 (t 3)<|E)<|R
theorem b39 : bodyO 2783416681632 274911463424 Tryz.prog 39 = some (42, [.t 2], c39) := by kernel_rfl
theorem k39 : callOk Tryz.prog 39 = true := by kernel_rfl
/-- (*leapfrog/link.Links).All$1 -/
def c78 : Go.SL.CC := S (O 2 (.box 55 (t 0))<|O 3 (.box 55 (t 1))<|V 4 (i 0)<|F 8 0 2<|M 9 2 8<|F 10 0 3<|M 11 2 10<|C 12 79 [t 9, t 11]<|X 13 12 0<|X 14 12 1<|V 4 (t 13)<|E)<|R
theorem b78 : bodyO 32992 0 Tryz.prog 78 = some (16, [.t 4], c78) := by kernel_rfl
theorem k78 : callOk Tryz.prog 78 = true := by kernel_rfl
end Go.Proofs.YtmeajliiloaegaaGreat
