/- The bodies of some functions of the program, without their noise, and that they are these. Conditions: none. Written by a program of this workplace (Print.lean). -/
import Derived.Test.YtnipmjpdklbbcaaGreatProg
import Derived.Test.YtnipmjpdklbbcaaGreatSlW
import Derived.KernelRfl
namespace Go.Proofs.YtnipmjpdklbbcaaGreat
open Go.SL Go.SL.W
set_option maxRecDepth 100000

/-- leapfrog/leapfrogref08.Same -/
def c28 : Go.SL.CC := S (O 2 (.box 53 (t 0))<|O 3 (.box 53 (t 1))<|V 4 (b false)<|F 5 0 2<|M 6 2 5<|F 7 0 3<|M 8 2 7<|O 10 (.eqs true [.i, .i] (t 6) (t 8))<|H 11 (.fa 2 (t 2)) 10<|
H 12 (.ld (some 5) (t 11)) 10<|H 13 (.fa 2 (t 3)) 10<|H 14 (.ld (some 5) (t 13)) 10<|H 15 (.eqs true [.i, .i, .i, .i, .i] (t 12) (t 14)) 10<|
O 17 (.pick (t 10) (b true) (t 15))<|H 18 (.fa 7 (t 2)) 17<|H 19 (.ld (some 5) (t 18)) 17<|H 20 (.fa 7 (t 3)) 17<|H 21 (.ld (some 5) (t 20)) 17<|
H 22 (.eqs true [.i, .i, .i, .i, .i] (t 19) (t 21)) 17<|O 24 (.pick (t 17) (b true) (t 22))<|H 25 (.fa 12 (t 2)) 24<|H 26 (.ld none (t 25)) 24<|
H 27 (.fa 12 (t 3)) 24<|H 28 (.ld none (t 27)) 24<|H 29 (.cmp .b true (t 26) (t 28)) 24<|O 31 (.pick (t 24) (b true) (t 29))<|H 32 (.fa 13 (t 2)) 31<|
H 33 (.ld (some 2) (t 32)) 31<|H 34 (.fa 13 (t 3)) 31<|H 35 (.ld (some 2) (t 34)) 31<|H 36 (.eqs true [.i, .i] (t 33) (t 35)) 31<|
O 37 (.pick (t 31) (b true) (t 36))<|E)<|Q (I (t 37) (S (V 4 (b false)<|E)<|R) (Z))<|S (F 38 15 2<|L 39 38<|F 40 15 3<|L 41 40<|C 4 84 [t 39, t 41]<|E)<|R
theorem b28 : bodyO 0 4399128707584 Tryz.prog 28 = some (43, [.t 4], c28) := by kernel_rfl
theorem k28 : callOk Tryz.prog 28 = true := by kernel_rfl
/-- leapfrog/leapfrogref08.SameOwners -/
def c84 : Go.SL.CC := S (V 4 (b false)<|O 7 (.ln (t 0))<|O 9 (.ln (t 1))<|O 10 (.bini .neq (t 7) (t 9))<|E)<|Q (I (t 10) (S (V 4 (b false)<|E)<|R) (Z))<|S (V 5 (i 0)<|E)<|
Q (P 0 (S (O 13 (.ln (t 0))<|O 14 (.bini .lss (t 5) (t 13))<|E)<|Q (I (t 14) (Z) (J 0))<|Q (B 1 (S (O 19 (.ia 2 (t 0) (t 5))<|M 20 2 19<|
O 23 (.ia 2 (t 1) (t 5))<|M 24 2 23<|O 25 (.eqs true [.i, .i] (t 20) (t 24))<|E)<|I (t 25) (S (V 4 (b false)<|E)<|R) (Z)))<|Y (O 5 (.bini .add (t 5) (i 1))<|
E)))<|S (V 4 (b true)<|E)<|R
theorem b84 : bodyO 6723904 65536 Tryz.prog 84 = some (26, [.t 4], c84) := by kernel_rfl
theorem k84 : callOk Tryz.prog 84 = true := by kernel_rfl
end Go.Proofs.YtnipmjpdklbbcaaGreat
