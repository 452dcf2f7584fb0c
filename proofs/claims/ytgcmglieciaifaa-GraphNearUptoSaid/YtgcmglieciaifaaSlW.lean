/- The walk's own words, part W: short names in which bodies are written down. Conditions: none. -/
import Derived.Test.YtgcmglieciaifaaSlO
namespace Go.SL.W
open Go Go.SL
abbrev t (n : Nat) : Operand := .tmp n
abbrev k (v : Value) : Operand := .const v
abbrev i (n : Int) : Operand := .const (.int .i64 n)
abbrev u (n : Int) : Operand := .const (.int .u64 n)
abbrev b (x : Bool) : Operand := .const (.bool x)
abbrev f (n : Nat) : Operand := .func n
abbrev O (d : Nat) (c : Kd) (r : Tr) : Tr := .st ⟨some d, c, none⟩ r
abbrev G (d : Nat) (c : Kd) (g : Nat) (r : Tr) : Tr := .st ⟨some d, c, some (g, true)⟩ r
abbrev H (d : Nat) (c : Kd) (g : Nat) (r : Tr) : Tr := .st ⟨some d, c, some (g, false)⟩ r
abbrev N (c : Kd) (r : Tr) : Tr := .st ⟨none, c, none⟩ r
abbrev A (d : Nat) (c : Kd) (r : Tr) : Tr := .ag ⟨some d, c, none⟩ r
abbrev L (d a : Nat) (r : Tr) : Tr := .st ⟨some d, .ld none (.tmp a), none⟩ r
abbrev M (d n a : Nat) (r : Tr) : Tr := .st ⟨some d, .ld (some n) (.tmp a), none⟩ r
abbrev F (d o a : Nat) (r : Tr) : Tr := .st ⟨some d, .fa o (.tmp a), none⟩ r
abbrev X (d a j : Nat) (r : Tr) : Tr := .st ⟨some d, .ext (.tmp a) j, none⟩ r
abbrev V (d : Nat) (x : Operand) (r : Tr) : Tr := .st ⟨some d, .mv x, none⟩ r
abbrev C (d g : Nat) (l : List Operand) (r : Tr) : Tr := .st ⟨some d, .call (.func g) l, none⟩ r
abbrev E : Tr := .done
abbrev S (x : Tr) (y : CC) : CC := .seq (.ops x) y
abbrev Q (x y : CC) : CC := .seq x y
abbrev Y (x : Tr) : CC := .ops x
abbrev I (o : Operand) (x y : CC) : CC := .cond o x y
abbrev B (n : Nat) (x : CC) : CC := .block n x
abbrev P (n : Nat) (x : CC) : CC := .block n (.loop x)
abbrev Z : CC := .skip
abbrev J (n : Nat) : CC := .exit n
abbrev R : CC := .ret
end Go.SL.W
