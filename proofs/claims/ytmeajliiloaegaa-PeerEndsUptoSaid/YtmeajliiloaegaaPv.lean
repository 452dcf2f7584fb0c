/- Layer 9: the law PeerEnds: what its function does. Conditions: none. -/
import Derived.Test.YtmeajliiloaegaaPo
set_option linter.unusedSimpArgs false
set_option linter.unusedVariables false
set_option maxRecDepth 100000
set_option maxHeartbeats 4000000
namespace Go.Proofs.Ytmeajliiloaegaa
open Go Go.SL
attribute [local irreducible] pc rc SlT Me Mt It pt ro pur ex sep old Meets
attribute [local irreducible] LockP RecP RecsA LinksP LinksH RdA PeW PeP PeI R9P
theorem PeerEnds_fn (h : Int) (s : StpE) (F : List Assn) :
    Meets Try.prog 3 [i64 h, stv s] (byO s.a s.c s.v :: F) (Det (.bool true) (byO s.a s.c s.v :: F)) := by
  refine Meets.intro b3 k3 (by simp) ?_
  have q1 := fun F => peHead_fn h F
  have q2 := fun F => peTail_fn h F
  have q3 := fun F => r9Head_fn h F
  have q4 := fun F => r9Tail_fn h F
  generalize (if hOk h then endR false h else zR) = A at q1 q3
  generalize (if hOk h then endR true h else zR) = B at q2 q4
  generalize (if hOk h then (0 : Int) else 90) = e at q1 q2 q3 q4
  by_cases ho : s.ok
  · have hok := fun F => l09made_ok s F ho
    focus
     refine zs <| yB rfl fun b3 => zc rfl <| yD rfl rfl (.of .rf) (q1 _) <| zc rfl <| zc rfl <| yN fun b5 => yW rfl rfl rfl rfl rfl <| yD rfl rfl (.of .rf) (q3 _) <| zc rfl <| zc rfl <| yN fun b7 => ?_
     refine yW rfl rfl rfl rfl rfl <| yD rfl rfl (.of .rf) (q2 _) <| zc rfl <| zc rfl <| yN fun b9 => yW rfl rfl rfl rfl rfl <| yD rfl rfl (.of .rf) (q4 _) <| zc rfl <| zc rfl <| yN fun b11 => yW rfl rfl rfl rfl rfl <| zw rfl rfl ?_
     refine yE rfl rfl (.of (.t5 .rf)) (hok _) fun ⟨a38, c38⟩ _ => zc rfl <| zc rfl <| zc rfl <| zw rfl rfl <| zw rfl rfl ?_
     refine zy (.eqT rfl rfl) <| zp rfl (fun h1 => ?_) (fun h1 => ?_)
     refine zy (.ceqT rfl rfl (by omega)) <| zy (.pickTp rfl (by assumption) rfl) <| yG rfl <| zw rfl rfl <| yG rfl <| zw rfl rfl <| yG rfl ?_
     refine zy (.eqT rfl rfl) <| zy (.pickT rfl rfl) <| zp rfl (fun h2 => ?_) (fun h2 => ?_)
     refine zy (.ceqT rfl rfl (by omega)) <| zy (.pickTp rfl (by assumption) rfl) <| yG rfl <| zc rfl <| zy (.pickT rfl rfl) <| yG rfl <| yD rfl rfl (.of .rf) (l09alive_fn _) <| zy (.pickT rfl rfl) <| zd <| zr <| yR (.t rfl .nil) rfl (.of (.t2 (.d (.d (.d (.d (.d (.d (.d .rf)))))))))
     contradiction
     contradiction
  · have hno := fun F => l09made_no s F ho
    focus
     refine zs <| yB rfl fun b3 => zc rfl <| yD rfl rfl (.of .rf) (q1 _) <| zc rfl <| zc rfl <| yN fun b5 => yW rfl rfl rfl rfl rfl <| yD rfl rfl (.of .rf) (q3 _) <| zc rfl <| zc rfl <| yN fun b7 => ?_
     refine yW rfl rfl rfl rfl rfl <| yD rfl rfl (.of .rf) (q2 _) <| zc rfl <| zc rfl <| yN fun b9 => yW rfl rfl rfl rfl rfl <| yD rfl rfl (.of .rf) (q4 _) <| zc rfl <| zc rfl <| yN fun b11 => yW rfl rfl rfl rfl rfl <| zw rfl rfl ?_
     refine yD rfl rfl (.of (.t5 .rf)) (hno _) <| zc rfl <| zc rfl <| zc rfl <| zw rfl rfl <| zw rfl rfl ?_
     refine zy (.eqT rfl rfl) <| zp rfl (fun h1 => ?_) (fun h1 => ?_)
     refine zy (.ceqT rfl rfl (by omega)) <| zy (.pickTp rfl (by assumption) rfl) <| yG rfl <| zw rfl rfl <| yG rfl <| zw rfl rfl <| yG rfl ?_
     refine zy (.eqT rfl rfl) <| zy (.pickT rfl rfl) <| zp rfl (fun h2 => ?_) (fun h2 => ?_)
     refine zy (.ceqT rfl rfl (by omega)) <| zy (.pickTp rfl (by assumption) rfl) <| yG rfl <| zc rfl <| zy (.pickT rfl rfl) <| yG rfl <| yD rfl rfl (.of .rf) (l09alive_fn _) <| zy (.pickT rfl rfl) <| zd <| zr <| yR (.t rfl .nil) rfl (.of (.t0 (.d (.d (.d (.d (.d .rf)))))))
     contradiction
     contradiction
end Go.Proofs.Ytmeajliiloaegaa
