/- Layer 9: what is made of a law's setting. Conditions: none. -/
import Derived.Test.YtmeajliiloaegaaGreatPm
set_option linter.unusedSimpArgs false
set_option linter.unusedVariables false
set_option maxRecDepth 100000
set_option maxHeartbeats 4000000
namespace Go.SL
open Go
structure StpE where
  en : Int
  h : Int
  me : Ref
  v : List UInt8
  a : Option Addr
  c : Nat
  deriving Inhabited
def stpC (s : StpE) : List Value := [i64 s.en, i64 s.h, i64 s.me.id, i64 s.me.key.rank, u64 s.me.key.n, i64 s.me.vec.len, u64 s.me.vec.bits, .slice s.a s.v.length s.c]
abbrev stv (s : StpE) : Value := .agg (stpC s).toArray
instance : FS stpC 2 5 refC StpE.me := ⟨fun _ => rfl⟩
def StpE.isEnd (s : StpE) : Prop := s.en = 1 ∨ s.en = 2
instance (s : StpE) : Decidable s.isEnd := by unfold StpE.isEnd; infer_instance
def StpE.ok (s : StpE) : Prop := if s.isEnd then hOk s.h else meOk s.me s.v
instance (s : StpE) : Decidable s.ok := by unfold StpE.ok; infer_instance
def StpE.ref (s : StpE) : Ref := if s.isEnd then endR (decide (s.en = 2)) s.h else s.me
def StpE.pe (s : StpE) : Pe := if s.isEnd then Pe.new (endR (decide (s.en = 2)) s.h) [] true else Pe.new s.me s.v false
/-- The reference's peer, in memory. -/
def R9P (b : Nat) (me : Ref) : Assn := ex fun x : Option Addr × Nat × Nat × Bool => pc b 59 (r9C me x.1 x.2.1 x.2.2.1 x.2.2.2)
section
variable {P : Program} {n : Nat} {ρ : Env} {cs r ds : List Assn} {cc : CC} {t : Tr} {K : Env → List Assn → Prop} {Q : Exit → Env → List Assn → Prop} {b : Nat} {me : Ref} {a : Option Addr} {k c : Nat} {e : Bool}
theorem J.openR9 (hh : Has cs (R9P b me) r) (h : ∀ a k c e, J P n cc ρ (pc b 59 (r9C me a k c e) :: r) Q) : J P n cc ρ cs Q := J.has hh (J.ex fun x => h x.1 x.2.1 x.2.2.1 x.2.2.2)
theorem R9P.fold (h1 : Has cs (pc b 59 (r9C me a k c e)) r) (h2 : Imp r ds) : Imp cs (R9P b me :: ds) :=
  Imp.trans (Imp.take h1 h2) (Imp.ex_in (A := fun x : Option Addr × Nat × Nat × Bool => pc b 59 (r9C me x.1 x.2.1 x.2.2.1 x.2.2.2)) (a, k, c, e))
end
end Go.SL
namespace Go.Proofs.YtmeajliiloaegaaGreat
open Go Go.SL
attribute [local irreducible] pc rc SlT Me Mt It pt ro pur ex sep old Meets
attribute [local irreducible] LockP RecP RecsA LinksP LinksH RdA PeW PeP PeI
theorem l09made_ok (s : StpE) (F : List Assn) (hs : s.ok) :
    Meets Tryz.prog 7 [stv s] (byO s.a s.c s.v :: F) (Some' (fun _ : Nat × Nat => True) (fun x => .tuple #[ptr x.1, ptr x.2, .bool true]) (fun x => PeI x.1 s.pe :: R9P x.2 s.ref :: byO s.a s.c s.v :: F)) := by
  refine Meets.intro b7 k7 (by simp) ?_
  refine J.slF Has.here (fun hC hL _ => ?_)
  by_cases hE : s.isEnd
  · unfold StpE.ok at hs; rw [if_pos hE] at hs
    unfold StpE.pe StpE.ref; rw [if_pos hE, if_pos hE]
    rcases hE with e | e
    · have q1 : ∀ F, Meets Tryz.prog 18 [.bool false, i64 s.h] F _ := fun F => pePEnd_ok false s.h F hs
      have q2 : ∀ F, Meets Tryz.prog 19 [.bool false, i64 s.h] F _ := fun F => r9NewEnd_ok false s.h F hs
      have e2 : decide (s.en = 2) = false := by rw [e]; rfl
      rw [e2]
      focus
       refine zs <| yB rfl fun b1 => zc rfl <| zc rfl <| zc rfl <| zfl rfl rfl rfl <| zc rfl <| zj rfl rfl rfl <| zd <| zq <| zi rfl (fun h1 => ?_) (fun h1 => ?_)
       refine zo <| zfl rfl rfl rfl ?_
       ((refine JT.G rfl .no (.si rfl (by omega)) .no (by decide) (by omega) (by omega) (by omega) (by omega) (fun a19 => ?_)); (try simp only [List.take_length, List.drop_zero, Nat.sub_zero]))
       refine zf 7 rfl rfl <| yS rfl rfl rfl rfl rfl (Nat.le_of_ble_eq_true rfl) rfl <| zd <| zs <| zfl rfl rfl rfl <| zy (.ceqT rfl rfl (by omega)) <| zv rfl rfl <| zv rfl rfl <| zv rfl rfl <| zy (.pickT rfl rfl) <| zd <| zq ?_
       refine zt rfl <| zs <| zfl rfl rfl rfl <| zy (.ceqF rfl rfl (by omega)) <| zfl rfl rfl rfl <| yE rfl rfl (.of .rf) (q1 _) fun x35 _ => zc rfl <| zc rfl <| zfl rfl rfl rfl <| zy (.ceqF rfl rfl (by omega)) <| zfl rfl rfl rfl <| yE rfl rfl (.of .rf) (q2 _) fun x44 _ => ?_
       refine zc rfl <| zc rfl <| zy (.ceqT rfl rfl (by decide)) <| yG rfl <| zc rfl <| yG rfl <| zc rfl <| yG rfl <| zc rfl <| zy (.pickT rfl rfl) <| zc rfl <| zc rfl ?_
       refine zc rfl <| zd <| zr <| yQ ⟨_, _⟩ (.t rfl (.t rfl (.t rfl .nil))) trivial rfl (.of (.t1 (R9P.fold .here (.t2 (.d (.d .rf))))))
       refine zk <| zs <| zfl rfl rfl rfl <| zy (.ceqT rfl rfl (by omega)) <| zv rfl rfl <| zv rfl rfl <| zv rfl rfl <| zy (.pickT rfl rfl) <| zd <| zq <| zt rfl <| zs ?_
       refine zfl rfl rfl rfl <| zy (.ceqF rfl rfl (by omega)) <| zfl rfl rfl rfl <| yE rfl rfl (.of .rf) (q1 _) fun x35 _ => zc rfl <| zc rfl <| zfl rfl rfl rfl <| zy (.ceqF rfl rfl (by omega)) <| zfl rfl rfl rfl <| yE rfl rfl (.of .rf) (q2 _) fun x44 _ => zc rfl <| zc rfl ?_
       refine zy (.ceqT rfl rfl (by decide)) <| yG rfl <| zc rfl <| yG rfl <| zc rfl <| yG rfl <| zc rfl <| zy (.pickT rfl rfl) <| zc rfl <| zc rfl <| zc rfl <| zd ?_
       refine zr <| yQ ⟨_, _⟩ (.t rfl (.t rfl (.t rfl .nil))) trivial rfl (.of (.t1 (R9P.fold .here (.t1 (.d .rf)))))
    · have q1 : ∀ F, Meets Tryz.prog 18 [.bool true, i64 s.h] F _ := fun F => pePEnd_ok true s.h F hs
      have q2 : ∀ F, Meets Tryz.prog 19 [.bool true, i64 s.h] F _ := fun F => r9NewEnd_ok true s.h F hs
      have e2 : decide (s.en = 2) = true := by rw [e]; rfl
      rw [e2]
      focus
       refine zs <| yB rfl fun b1 => zc rfl <| zc rfl <| zc rfl <| zfl rfl rfl rfl <| zc rfl <| zj rfl rfl rfl <| zd <| zq <| zi rfl (fun h1 => ?_) (fun h1 => ?_)
       refine zo <| zfl rfl rfl rfl ?_
       ((refine JT.G rfl .no (.si rfl (by omega)) .no (by decide) (by omega) (by omega) (by omega) (by omega) (fun a19 => ?_)); (try simp only [List.take_length, List.drop_zero, Nat.sub_zero]))
       refine zf 7 rfl rfl <| yS rfl rfl rfl rfl rfl (Nat.le_of_ble_eq_true rfl) rfl <| zd <| zs <| zfl rfl rfl rfl <| zy (.ceqF rfl rfl (by omega)) <| yG rfl <| zf 0 rfl rfl <| yG rfl <| zl rfl rfl <| yG rfl <| zy (.ceqT rfl rfl (by omega)) ?_
       refine zy (.pickF rfl rfl) <| zd <| zq <| zt rfl <| zs <| zfl rfl rfl rfl <| zy (.ceqT rfl rfl (by omega)) <| zfl rfl rfl rfl <| yE rfl rfl (.of .rf) (q1 _) fun x35 _ => zc rfl <| zc rfl <| zfl rfl rfl rfl ?_
       refine zy (.ceqT rfl rfl (by omega)) <| zfl rfl rfl rfl <| yE rfl rfl (.of .rf) (q2 _) fun x44 _ => zc rfl <| zc rfl <| zy (.ceqT rfl rfl (by decide)) <| yG rfl <| zc rfl <| yG rfl <| zc rfl <| yG rfl <| zc rfl ?_
       refine zy (.pickT rfl rfl) <| zc rfl <| zc rfl <| zc rfl <| zd <| zr <| yQ ⟨_, _⟩ (.t rfl (.t rfl (.t rfl .nil))) trivial rfl (.of (.t1 (R9P.fold .here (.t2 (.d (.d .rf))))))
       refine zk <| zs <| zfl rfl rfl rfl <| zy (.ceqF rfl rfl (by omega)) <| yG rfl <| zf 0 rfl rfl <| yG rfl <| zl rfl rfl <| yG rfl <| zy (.ceqT rfl rfl (by omega)) <| zy (.pickF rfl rfl) <| zd ?_
       refine zq <| zt rfl <| zs <| zfl rfl rfl rfl <| zy (.ceqT rfl rfl (by omega)) <| zfl rfl rfl rfl <| yE rfl rfl (.of .rf) (q1 _) fun x35 _ => zc rfl <| zc rfl <| zfl rfl rfl rfl <| zy (.ceqT rfl rfl (by omega)) <| zfl rfl rfl rfl ?_
       refine yE rfl rfl (.of .rf) (q2 _) fun x44 _ => zc rfl <| zc rfl <| zy (.ceqT rfl rfl (by decide)) <| yG rfl <| zc rfl <| yG rfl <| zc rfl <| yG rfl <| zc rfl <| zy (.pickT rfl rfl) <| zc rfl ?_
       refine zc rfl <| zc rfl <| zd <| zr <| yQ ⟨_, _⟩ (.t rfl (.t rfl (.t rfl .nil))) trivial rfl (.of (.t1 (R9P.fold .here (.t1 (.d .rf)))))
  · unfold StpE.ok at hs; rw [if_neg hE] at hs
    unfold StpE.pe StpE.ref; rw [if_neg hE, if_neg hE]
    unfold StpE.isEnd at hE
    have hl : s.v.length ≤ 1024 := hs.2
    focus
     refine zs <| yB rfl fun b1 => zc rfl <| zc rfl <| zc rfl <| zfl rfl rfl rfl <| zc rfl <| zy (.cgtF rfl rfl (by omega)) <| zd <| zq <| zu rfl <| zk ?_
     refine zs <| zfl rfl rfl rfl <| zy (.ceqF rfl rfl (by omega)) <| yG rfl <| zf 0 rfl rfl <| yG rfl <| zl rfl rfl <| yG rfl <| zy (.ceqF rfl rfl (by omega)) <| zy (.pickF rfl rfl) <| zd <| zq ?_
     refine zu rfl <| zk <| zs <| zfw [_, _, _, _, _] rfl rfl rfl rfl <| zfl rfl rfl rfl <| yE rfl rfl (.of .rf) (peNew_ok _ (by assumption)) fun x64 _ => zc rfl <| zc rfl <| zfw [_, _, _, _, _] rfl rfl rfl rfl <| zfl rfl rfl rfl <| yE rfl rfl (.of .rf) (r9New_ok _ (by assumption)) fun ⟨a72, c72⟩ _ => zc rfl ?_
     refine zc rfl <| zy (.ceqT rfl rfl (by decide)) <| yG rfl <| zc rfl <| yG rfl <| zc rfl <| yG rfl <| zc rfl <| zy (.pickT rfl rfl) <| zc rfl <| zc rfl <| zc rfl ?_
     refine zd <| zr <| yQ ⟨_, _⟩ (.t rfl (.t rfl (.t rfl .nil))) trivial rfl (.of (.t1 (R9P.fold .here (.t1 (.d .rf)))))
theorem l09made_no (s : StpE) (F : List Assn) (hs : ¬ s.ok) :
    Meets Tryz.prog 7 [stv s] (byO s.a s.c s.v :: F) (Det (.tuple #[.pointer none, .pointer none, .bool true]) (byO s.a s.c s.v :: F)) := by
  refine Meets.intro b7 k7 (by simp) ?_
  refine J.slF Has.here (fun hC hL _ => ?_)
  by_cases hE : s.isEnd
  · unfold StpE.ok at hs; rw [if_pos hE] at hs
    unfold StpE.isEnd at hE
    have q1 := fun hi F => pePEnd_no hi s.h F hs
    have q2 := fun hi F => r9NewEnd_no hi s.h F hs
    focus
     refine zs <| yB rfl fun b1 => zc rfl <| zc rfl <| zc rfl <| zfl rfl rfl rfl <| zc rfl <| zj rfl rfl rfl <| zd <| zq <| zi rfl (fun h1 => ?_) (fun h1 => ?_)
     refine zo <| zfl rfl rfl rfl ?_
     ((refine JT.G rfl .no (.si rfl (by omega)) .no (by decide) (by omega) (by omega) (by omega) (by omega) (fun a19 => ?_)); (try simp only [List.take_length, List.drop_zero, Nat.sub_zero]))
     refine zf 7 rfl rfl <| yS rfl rfl rfl rfl rfl (Nat.le_of_ble_eq_true rfl) rfl <| zd <| zs <| zfl rfl rfl rfl <| zj rfl rfl rfl <| zh rfl rfl (fun h2 => .fa' 0 rfl rfl) <| zh rfl rfl (fun h2 => by rw [h2]; exact .L rfl rfl) <| zh rfl rfl (fun h2 => by rw [h2]; exact .int rfl rfl rfl) <| zy (.pickO rfl rfl rfl) <| zd <| zq ?_
     refine zi rfl (fun h2 => ?_) (fun h2 => ?_)
     refine zs <| zfl rfl rfl rfl <| zj rfl rfl rfl <| zfl rfl rfl rfl <| yD rfl rfl (.of .rf) (q1 _ _) <| zc rfl <| zc rfl <| zfl rfl rfl rfl <| zj rfl rfl rfl <| zfl rfl rfl rfl <| yD rfl rfl (.of .rf) (q2 _ _) <| zc rfl ?_
     refine zc rfl <| zy (.ceqT rfl rfl (by decide)) <| yG rfl <| zc rfl <| yG rfl <| zc rfl <| yG rfl <| zc rfl <| zy (.pickT rfl rfl) <| zc rfl <| zc rfl <| zc rfl ?_
     refine zd <| zr <| yR (.t rfl (.t rfl (.t rfl .nil))) rfl (.of (.t2 (.d (.d .rf))))
     (exfalso; omega)
     refine zk <| zs <| zfl rfl rfl rfl <| zj rfl rfl rfl <| zh rfl rfl (fun h2 => .fa' 0 rfl rfl) <| zh rfl rfl (fun h2 => by rw [h2]; exact .L rfl rfl) <| zh rfl rfl (fun h2 => by rw [h2]; exact .int rfl rfl rfl) <| zy (.pickO rfl rfl rfl) <| zd <| zq <| zi rfl (fun h2 => ?_) (fun h2 => ?_)
     refine zs <| zfl rfl rfl rfl <| zj rfl rfl rfl <| zfl rfl rfl rfl <| yD rfl rfl (.of .rf) (q1 _ _) <| zc rfl <| zc rfl <| zfl rfl rfl rfl <| zj rfl rfl rfl <| zfl rfl rfl rfl <| yD rfl rfl (.of .rf) (q2 _ _) <| zc rfl ?_
     refine zc rfl <| zy (.ceqT rfl rfl (by decide)) <| yG rfl <| zc rfl <| yG rfl <| zc rfl <| yG rfl <| zc rfl <| zy (.pickT rfl rfl) <| zc rfl <| zc rfl <| zc rfl ?_
     refine zd <| zr <| yR (.t rfl (.t rfl (.t rfl .nil))) rfl (.of (.t1 (.d .rf)))
     (exfalso; omega)
  · unfold StpE.ok at hs; rw [if_neg hE] at hs
    unfold StpE.isEnd at hE
    by_cases hl : s.v.length ≤ 1025
    · focus
       refine zs <| yB rfl fun b1 => zc rfl <| zc rfl <| zc rfl <| zfl rfl rfl rfl <| zc rfl <| zy (.cgtF rfl rfl (by omega)) <| zd <| zq <| zu rfl <| zk ?_
       refine zs <| zfl rfl rfl rfl <| zy (.ceqF rfl rfl (by omega)) <| yG rfl <| zf 0 rfl rfl <| yG rfl <| zl rfl rfl <| yG rfl <| zy (.ceqF rfl rfl (by omega)) <| zy (.pickF rfl rfl) <| zd <| zq ?_
       refine zu rfl <| zk <| zs <| zfw [_, _, _, _, _] rfl rfl rfl rfl <| zfl rfl rfl rfl <| yD rfl rfl (.of .rf) (peNew_no _ (by assumption)) <| zc rfl <| zc rfl <| zfw [_, _, _, _, _] rfl rfl rfl rfl <| zfl rfl rfl rfl <| yD rfl rfl (.of .rf) (r9New_no _ (by assumption)) <| zc rfl ?_
       refine zc rfl <| zy (.ceqT rfl rfl (by decide)) <| yG rfl <| zc rfl <| yG rfl <| zc rfl <| yG rfl <| zc rfl <| zy (.pickT rfl rfl) <| zc rfl <| zc rfl <| zc rfl ?_
       refine zd <| zr <| yR (.t rfl (.t rfl (.t rfl .nil))) rfl (.of (.t1 (.d .rf)))
    · have hno : ¬ meOk s.me (s.v.take (Int.toNat 1025)) := fun h => by
        have := h.2; rw [List.length_take] at this; omega
      have q1 : ∀ a c F, Meets Tryz.prog 20 [rv s.me, .slice a (s.v.take (Int.toNat 1025)).length c] (byO a c (s.v.take (Int.toNat 1025)) :: F) (Det (.tuple #[.pointer none, i64 90]) (byO a c (s.v.take (Int.toNat 1025)) :: F)) := fun a c F => peNew_no s.me hno
      have q2 : ∀ a c F, Meets Tryz.prog 21 [rv s.me, .slice a (s.v.take (Int.toNat 1025)).length c] (byO a c (s.v.take (Int.toNat 1025)) :: F) (Det (.tuple #[.pointer none, i64 90]) (byO a c (s.v.take (Int.toNat 1025)) :: F)) := fun a c F => r9New_no s.me hno
      focus
       refine zs <| yB rfl fun b1 => zc rfl <| zc rfl <| zc rfl <| zfl rfl rfl rfl <| zc rfl <| zy (.cgtT rfl rfl (by omega)) <| zd <| zq <| zt rfl <| zo ?_
       refine zfl rfl rfl rfl ?_
       ((refine JT.G rfl .no (.si rfl (by omega)) .no (by decide) (by omega) (by omega) (by omega) (by omega) (fun a19 => ?_)); (try simp only [List.take_length, List.drop_zero, Nat.sub_zero]))
       refine zf 7 rfl rfl <| yS rfl rfl rfl rfl rfl (Nat.le_of_ble_eq_true rfl) rfl <| zd <| zs <| zfl rfl rfl rfl <| zy (.ceqF rfl rfl (by omega)) <| yG rfl <| zf 0 rfl rfl <| yG rfl <| zl rfl rfl <| yG rfl <| zy (.ceqF rfl rfl (by omega)) ?_
       refine zy (.pickF rfl rfl) <| zd <| zq <| zu rfl <| zk <| zs <| zfw [_, _, _, _, _] rfl rfl rfl rfl <| zfl rfl rfl rfl <| yD rfl rfl (.of (.t1 .rf)) (q1 _ _ _) <| zc rfl <| zc rfl <| zfw [_, _, _, _, _] rfl rfl rfl rfl ?_
       refine zfl rfl rfl rfl <| yD rfl rfl (.of (.t0 .rf)) (q2 _ _ _) <| zc rfl <| zc rfl <| zy (.ceqT rfl rfl (by decide)) <| yG rfl <| zc rfl <| yG rfl <| zc rfl <| yG rfl <| zc rfl <| zy (.pickT rfl rfl) ?_
       refine zc rfl <| zc rfl <| zc rfl <| zd <| zr <| yR (.t rfl (.t rfl (.t rfl .nil))) rfl (.of (.t2 (.d (.d .rf))))
end Go.Proofs.YtmeajliiloaegaaGreat
