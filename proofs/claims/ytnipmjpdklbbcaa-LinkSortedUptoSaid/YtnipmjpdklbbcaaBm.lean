/- The bodies of some functions of the program, without their noise, and that they are these. Conditions: none. Written by a program of this workplace (Print.lean). -/
import Derived.Test.YtnipmjpdklbbcaaProg
import Derived.Test.YtnipmjpdklbbcaaSlW
import Derived.KernelRfl
namespace Go.Proofs.Ytnipmjpdklbbcaa
open Go.SL Go.SL.W
set_option maxRecDepth 100000

/-- leapfrog/leapfroglaw08.play -/
def c31 : Go.SL.CC := S (O 2 (.box 32 (t 0))<|V 4 (k (.pointer none))<|M 9 5 2<|C 10 66 [t 9]<|X 11 10 0<|X 12 10 1<|V 5 (t 11)<|O 14 (.bini .neq (t 12) (i 0))<|E)<|
Q (I (t 14) (S (V 4 (k (.pointer none))<|E)<|R) (Z))<|S (V 7 (i 0)<|E)<|Q (P 0 (S (O 17 (.ln (t 1))<|O 19 (.bini .lss (t 7) (t 17))<|
G 21 (.bini .lss (t 7) (i 60)) 19<|O 22 (.pick (t 19) (t 21) (b false))<|E)<|Q (I (t 22) (Z) (J 0))<|Q (B 1 (Y (O 28 (.ia 15 (t 1) (t 7))<|M 29 15 28<|
C 30 75 [t 5, t 29]<|E)))<|Y (O 7 (.bini .add (t 7) (i 1))<|E)))<|S (V 4 (t 5)<|E)<|R
theorem b31 : bodyO 2391908672 17039360 Try.prog 31 = some (32, [.t 4], c31) := by kernel_rfl
theorem k31 : callOk Try.prog 31 = true := by kernel_rfl
/-- leapfrog/leapfroglaw08.do -/
def c75 : Go.SL.CC := S (O 3 (.box 135 (t 1))<|V 4 (i 0)<|V 5 (i 0)<|F 6 0 3<|L 7 6<|E)<|Q (B 0 (S (O 8 (.bini .eql (t 7) (i 1))<|E)<|I (t 8) (Y (F 11 1 3<|M 12 2 11<|F 13 3 3<|
M 14 5 13<|F 15 8 3<|M 16 5 15<|F 17 13 3<|M 18 2 17<|C 5 68 [t 0, t 12, t 14, t 16, t 18]<|E)) (S (O 20 (.bini .eql (t 7) (i 2))<|E)<|I (t 20) (Y (F 24 1 3<|
M 25 2 24<|F 26 13 3<|M 27 2 26<|C 28 74 [t 0, t 25, t 27]<|X 29 28 0<|X 5 28 1<|E)) (S (O 31 (.bini .eql (t 7) (i 3))<|E)<|I (t 31) (Y (F 34 1 3<|M 35 2 34<|
F 36 3 3<|M 37 5 36<|C 5 107 [t 0, t 35, t 37]<|E)) (S (O 39 (.bini .eql (t 7) (i 4))<|E)<|I (t 39) (Y (F 42 1 3<|M 43 2 42<|F 44 3 3<|M 45 5 44<|F 46 13 3<|
M 47 2 46<|C 5 71 [t 0, t 43, t 45, t 47]<|E)) (S (O 49 (.bini .eql (t 7) (i 5))<|E)<|I (t 49) (Y (F 53 1 3<|M 54 2 53<|F 55 13 3<|M 56 2 55<|
C 57 73 [t 0, t 54, t 56]<|X 58 57 0<|X 5 57 1<|E)) (S (O 60 (.bini .eql (t 7) (i 6))<|E)<|I (t 60) (Y (F 64 1 3<|M 65 2 64<|F 66 13 3<|M 67 2 66<|
C 68 108 [t 0, t 65, t 67]<|X 69 68 0<|X 70 68 1<|X 5 68 2<|E)) (Z))))))))<|S (V 4 (t 5)<|E)<|R
theorem b75 : bodyO 4736208298531994207232 2364066953950984143360 Try.prog 75 = some (73, [.t 4], c75) := by kernel_rfl
theorem k75 : callOk Try.prog 75 = true := by kernel_rfl
end Go.Proofs.Ytnipmjpdklbbcaa
