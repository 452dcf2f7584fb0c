/- Layer 6: the laws' first look: a request that is asked, heard, sent again, answered and told once. Conditions: none. -/
import Derived.Test.YtienlpaehgdpaaaTm
import Derived.Test.YtienlpaehgdpaaaBy
set_option linter.unusedSimpArgs false
set_option linter.unusedVariables false
set_option maxRecDepth 100000
set_option maxHeartbeats 4000000
namespace Go.SL
open Go
abbrev aQ : Ask := ⟨2, ⟨0, 0⟩, ⟨0, ⟨0, 0⟩, ⟨0, 0⟩⟩, ⟨0, ⟨0, 0⟩, ⟨0, 0⟩⟩, ⟨0, 0⟩⟩
abbrev aX : Ans := ⟨2, false, ⟨0, ⟨0, 0⟩, ⟨0, 0⟩⟩, ⟨0, ⟨0, 0⟩, ⟨0, 0⟩⟩, []⟩
abbrev aP : Pkt := ⟨false, ⟨true, 1⟩, ⟨false, 2⟩, 1, aQ, ⟨0, false, ⟨0, ⟨0, 0⟩, ⟨0, 0⟩⟩, ⟨0, ⟨0, 0⟩, ⟨0, 0⟩⟩, []⟩⟩
abbrev aR : Pkt := ⟨true, ⟨false, 2⟩, ⟨true, 1⟩, 1, ⟨0, ⟨0, 0⟩, ⟨0, ⟨0, 0⟩, ⟨0, 0⟩⟩, ⟨0, ⟨0, 0⟩, ⟨0, 0⟩⟩, ⟨0, 0⟩⟩, aX⟩
abbrev aC0 : Clr := ⟨⟨true, 1⟩, 2, 0, []⟩
abbrev aC1 : Clr := ⟨⟨true, 1⟩, 2, 1, [⟨aP, 0⟩]⟩
abbrev aC2 : Clr := ⟨⟨true, 1⟩, 2, 1, [⟨aP, 1⟩]⟩
abbrev aC3 : Clr := ⟨⟨true, 1⟩, 2, 1, [⟨aP, 2⟩]⟩
abbrev aC4 : Clr := ⟨⟨true, 1⟩, 2, 1, []⟩
abbrev aA0 : Anr := ⟨⟨false, 2⟩, []⟩
abbrev aA1 : Anr := ⟨⟨false, 2⟩, [(aP, none)]⟩
abbrev aA2 : Anr := ⟨⟨false, 2⟩, [(aP, some aR)]⟩
theorem aq1 : aC0.ask ⟨false, 2⟩ aQ = (aC1, aP, 0) := rfl
theorem aq2 : aA0.take aP = (aA1, zPkt, 1) := rfl
theorem aq3 : aA1.take aP = (aA1, zPkt, 2) := rfl
theorem aq4 : aC1.tick = (aC2, []) := rfl
theorem aq5 : aC2.tick = (aC3, [aP]) := rfl
theorem aq6 : aA1.reply ⟨true, 1⟩ 1 aX = (aA2, aR, 0) := rfl
theorem aq7 : aA2.take aP = (aA2, aR, 3) := rfl
theorem aq8 : aC3.take aR = (aC4, aP, true) := rfl
theorem aq9 : aC4.take aR = (aC4, zPkt, false) := rfl
theorem ao0 : aC0.Ok := .new _ (by decide)
theorem ao1 : aC1.Ok := ao0.ask ⟨false, 2⟩ aQ
theorem ao2 : aC2.Ok := ao1.tick
theorem ao3 : aC3.Ok := ao2.tick
theorem ao4 : aC4.Ok := ao3.take aR
theorem ap0 : aA0.Ok := .new _
theorem ap1 : aA1.Ok := ap0.take aP
theorem ap2 : aA2.Ok := ap1.reply ⟨true, 1⟩ 1 aX
end Go.SL
namespace Go.Proofs.Ytienlpaehgdpaaa
open Go Go.SL
attribute [local irreducible] pc rc SlT Me Mt It pt ro pur ex sep old Meets
attribute [local irreducible] CallsA CallerP KnP KnsA AnswererP
theorem l06agent_fn (F : List Assn) : Meets Try.prog 24 [] F (Det (adv ⟨true, 1⟩) F) := by
  refine Meets.intro b24 k24 (by simp) ?_
  focus
   refine zs <| yN fun b0 => zg rfl <| yW rfl rfl rfl rfl rfl <| zd <| zr <| yR (.w rfl rfl .nil) rfl (.of (.d .rf))
theorem l06peer_fn (F : List Assn) : Meets Try.prog 26 [] F (Det (adv ⟨false, 2⟩) F) := by
  refine Meets.intro b26 k26 (by simp) ?_
  focus
   refine zs <| yN fun b0 => zg rfl <| yW rfl rfl rfl rfl rfl <| zd <| zr <| yR (.w rfl rfl .nil) rfl (.of (.d .rf))
theorem l06awake_fn (F : List Assn) : Meets Try.prog 16 [] F (Det (.bool true) F) := by
  refine Meets.intro b16 k16 (by simp) ?_
  refine J.nilS byteC 1 false (by decide) ?_
  have h1 : ∀ b F, Meets Try.prog 25 [ptr b, adv ⟨false, 2⟩, askv aQ] (CallerP b aC0 :: F) (Det (.tuple #[pkv (p0 aP), i64 0]) (CallerP b aC1 :: F)) := fun b F => rcAsk_P b aC0 ⟨false, 2⟩ aQ F ao0
  have h2 : ∀ b F, Meets Try.prog 33 [ptr b, pkv (p0 aP)] (AnswererP b aA0 :: pkO (p0 aP) :: F) (Some' (fun _ : Option Addr × Nat => True) (fun z => .tuple #[pkv ⟨zPkt, z.1, z.2⟩, i64 1]) (fun z => byO z.1 z.2 [] :: AnswererP b aA1 :: pkO (p0 aP) :: F)) := fun b F => raTake_P b aA0 (p0 aP) F ap0
  have h3 : ∀ b F, Meets Try.prog 33 [ptr b, pkv (p0 aP)] (AnswererP b aA1 :: pkO (p0 aP) :: F) (Some' (fun _ : Option Addr × Nat => True) (fun z => .tuple #[pkv ⟨zPkt, z.1, z.2⟩, i64 2]) (fun z => byO z.1 z.2 [] :: AnswererP b aA1 :: pkO (p0 aP) :: F)) := fun b F => raTake_P b aA1 (p0 aP) F ap1
  have h4 : ∀ b F, Meets Try.prog 30 [ptr b] (CallerP b aC1 :: F) (Some' (fun _ : Option Addr × Nat => True) (fun x => .slice x.1 0 x.2) (fun x => CallerP b aC2 :: F)) := fun b F => Meets.post (rcTick_P b aC1 F ao1 (by intro x hx; simp at hx; subst hx; decide)) (by rintro v c ⟨x, _, rfl, rfl⟩; exact ⟨_, Up.of Imp.drop, x, trivial, rfl, rfl⟩)
  have h5 : ∀ b F, Meets Try.prog 30 [ptr b] (CallerP b aC2 :: F) (Some' (fun _ : Option Addr × Nat => True) (fun x => .slice x.1 1 x.2) (fun x => CallerP b aC3 :: F)) := fun b F => Meets.post (rcTick_P b aC2 F ao2 (by intro x hx; simp at hx; subst hx; decide)) (by rintro v c ⟨x, _, rfl, rfl⟩; exact ⟨_, Up.of Imp.drop, x, trivial, rfl, rfl⟩)
  have h6 : ∀ b F, Meets Try.prog 36 [ptr b, adv ⟨true, 1⟩, i64 1, anv ⟨aX, none, 0⟩] (AnswererP b aA1 :: byO none 0 [] :: F) (Some' (fun _ : Option Addr × Nat => True) (fun z => .tuple #[pkv ⟨aR, z.1, z.2⟩, i64 0]) (fun z => byO z.1 z.2 [] :: AnswererP b aA2 :: byO none 0 [] :: F)) := fun b F => raReply_P b aA1 ⟨true, 1⟩ 1 ⟨aX, none, 0⟩ F
  have h7 : ∀ b F, Meets Try.prog 33 [ptr b, pkv (p0 aP)] (AnswererP b aA2 :: pkO (p0 aP) :: F) (Some' (fun _ : Option Addr × Nat => True) (fun z => .tuple #[pkv ⟨aR, z.1, z.2⟩, i64 3]) (fun z => byO z.1 z.2 [] :: AnswererP b aA2 :: pkO (p0 aP) :: F)) := fun b F => raTake_P b aA2 (p0 aP) F ap2
  have h8 : ∀ b z1 z2 F, Meets Try.prog 41 [ptr b, pkv ⟨aR, z1, z2⟩] (CallerP b aC3 :: byO z1 z2 [] :: F) (Det (.tuple #[pkv (p0 aP), .bool true]) (CallerP b aC4 :: byO z1 z2 [] :: F)) := fun b z1 z2 F => rcTake_P b aC3 ⟨aR, z1, z2⟩ (byO z1 z2 [] :: F)
  have h9 : ∀ b z1 z2 F, Meets Try.prog 41 [ptr b, pkv ⟨aR, z1, z2⟩] (CallerP b aC4 :: byO z1 z2 [] :: F) (Det (.tuple #[pkv (p0 zPkt), .bool false]) (CallerP b aC4 :: byO z1 z2 [] :: F)) := fun b z1 z2 F => rcTake_P b aC4 ⟨aR, z1, z2⟩ (byO z1 z2 [] :: F)
  have h10 : ∀ b F, Meets Try.prog 22 [ptr b] (CallerP b aC4 :: F) (Some' (fun _ : Option Addr × Nat => True) (fun x => .slice x.1 0 x.2) (fun x => CallerP b aC4 :: F)) := fun b F => Meets.post (rcOpen_P b aC4 F ao4) (by rintro v c ⟨x, _, rfl, rfl⟩; exact ⟨_, Up.of Imp.drop, x, trivial, rfl, rfl⟩)
  focus
   refine zs <| zc rfl <| yD rfl rfl (.of .rf) (l06agent_fn _) <| yE rfl rfl (.of .rf) (rcNew_ok ⟨_, _⟩ _ _ (by omega)) fun x22 _ => zc rfl <| zc rfl <| zc rfl <| yD rfl rfl (.of .rf) (l06peer_fn _) <| yE rfl rfl (.of .rf) (raNew_fn ⟨_, _⟩ _) fun x3 _ => zy (.cneF rfl rfl (by decide)) <| yG rfl <| zc rfl ?_
   refine zy (.pickF rfl rfl) <| yG rfl <| zc rfl <| zy (.pickF rfl rfl) <| zd <| zq <| zu rfl <| zk <| zs <| yD rfl rfl (.of .rf) (l06peer_fn _) <| zg rfl <| yD rfl rfl (.of (.t1 .rf)) (h1 _ _) ?_
   refine zc rfl <| zc rfl <| yN fun b4 => yW rfl rfl rfl rfl rfl <| zc rfl <| zw rfl rfl <| yE rfl rfl (.of (.t2 (.t2 .rf))) (h2 _ _) fun ⟨a47, c47⟩ _ => zc rfl <| zc rfl <| yN fun b6 => yW rfl rfl rfl rfl rfl <| zc rfl ?_
   refine zw rfl rfl <| yE rfl rfl (.of (.t2 (.t2 .rf))) (h3 _ _) fun ⟨a53, c53⟩ _ => zc rfl <| zc rfl <| yN fun b8 => yW rfl rfl rfl rfl rfl <| zc rfl <| yE rfl rfl (.of (.tk (.there (.there (.there (.there (.there (.there (.there .here))))))) .rf)) (h4 _ _) fun ⟨a57, c57⟩ _ => yE rfl rfl (.of (.t0 .rf)) (h5 _ _) fun ⟨a59, c59⟩ _ => zc rfl <| zc rfl <| zf 5 rfl rfl ?_
   refine zl rfl rfl <| zg rfl <| JT.both ?_ ?_
   refine yD rfl rfl (.of .rf) (l06agent_fn _) <| JT.yA rfl (Ev.L rfl rfl) <| JT.both ?_ ?_
   refine yE rfl rfl (.of (.t3 (.t3 .rf))) (h6 _ _) fun ⟨a66, c66⟩ _ => zc rfl <| zc rfl <| yN fun b12 => yW rfl rfl rfl rfl rfl <| zc rfl <| zd <| zs <| zw rfl rfl <| yE rfl rfl (.of (.t2 (.t2 .rf))) (h7 _ _) fun ⟨a72, c72⟩ _ => zc rfl <| zc rfl ?_
   refine yN fun b14 => yW rfl rfl rfl rfl rfl <| zw rfl rfl <| yD rfl rfl (.of (.t6 (.t5 .rf))) (h8 _ _ _ _) <| zc rfl <| zc rfl <| yN fun b16 => yW rfl rfl rfl rfl rfl <| zw rfl rfl <| yD rfl rfl (.of (.t1 (.t1 .rf))) (h9 _ _ _ _) <| zc rfl <| zc rfl ?_
   refine yN fun b18 => yW rfl rfl rfl rfl rfl <| zy (.ceqT rfl rfl (by decide)) <| yG rfl <| zy (.ceqT rfl rfl (by decide)) <| zy (.pickT rfl rfl) <| yG rfl <| zf 5 rfl rfl <| yG rfl <| zl rfl rfl <| yG rfl <| zy (.ceqT rfl rfl (by decide)) ?_
   refine zy (.pickT rfl rfl) <| yG rfl <| zy (.ceqT rfl rfl (by decide)) <| zy (.pickT rfl rfl) <| yG rfl <| zy (.ceqT rfl rfl (by decide)) <| zy (.pickT rfl rfl) <| yG rfl <| zy (.ceqT rfl rfl (by decide)) <| zy (.pickT rfl rfl) <| yG rfl <| zc rfl ?_
   refine yG rfl <| zy (.ceqT rfl rfl (by omega)) <| zy (.pickT rfl rfl) <| yG rfl <| zc rfl <| yG rfl <| zy (.ceqT rfl rfl (by omega)) <| zy (.pickT rfl rfl) <| yG rfl <| zc rfl <| zy (.pickT rfl rfl) <| yG rfl ?_
   refine zc rfl <| zy (.pickT rfl rfl) <| yG rfl <| yE rfl rfl (.of (.t1 .rf)) (h10 _ _) fun ⟨a129, c129⟩ _ => yG rfl <| zc rfl <| yG rfl <| zy (.ceqT rfl rfl (by omega)) <| zy (.pickT rfl rfl) <| zd <| zr <| yR (.t rfl .nil) rfl (.of (.d (.d (.d (.d (.d (.d (.d (.d (.d (.d (.d (.d (.d (.d .rf)))))))))))))))
   refine yN fun b12 => yE rfl rfl (.of (.t4 (.t4 .rf))) (h6 _ _) fun ⟨a66, c66⟩ _ => zc rfl <| zc rfl <| yW rfl rfl rfl rfl rfl <| zc rfl <| zd <| zs <| zw rfl rfl <| yE rfl rfl (.of (.t2 (.t2 .rf))) (h7 _ _) fun ⟨a72, c72⟩ _ => zc rfl <| zc rfl ?_
   refine yN fun b14 => yW rfl rfl rfl rfl rfl <| zw rfl rfl <| yD rfl rfl (.of (.t6 (.t5 .rf))) (h8 _ _ _ _) <| zc rfl <| zc rfl <| yN fun b16 => yW rfl rfl rfl rfl rfl <| zw rfl rfl <| yD rfl rfl (.of (.t1 (.t1 .rf))) (h9 _ _ _ _) <| zc rfl <| zc rfl ?_
   refine yN fun b18 => yW rfl rfl rfl rfl rfl <| zy (.ceqT rfl rfl (by decide)) <| yG rfl <| zy (.ceqT rfl rfl (by decide)) <| zy (.pickT rfl rfl) <| yG rfl <| zf 5 rfl rfl <| yG rfl <| zl rfl rfl <| yG rfl <| zy (.ceqT rfl rfl (by decide)) ?_
   refine zy (.pickT rfl rfl) <| yG rfl <| zy (.ceqT rfl rfl (by decide)) <| zy (.pickT rfl rfl) <| yG rfl <| zy (.ceqT rfl rfl (by decide)) <| zy (.pickT rfl rfl) <| yG rfl <| zy (.ceqT rfl rfl (by decide)) <| zy (.pickT rfl rfl) <| yG rfl <| zc rfl ?_
   refine yG rfl <| zy (.ceqT rfl rfl (by omega)) <| zy (.pickT rfl rfl) <| yG rfl <| zc rfl <| yG rfl <| zy (.ceqT rfl rfl (by omega)) <| zy (.pickT rfl rfl) <| yG rfl <| zc rfl <| zy (.pickT rfl rfl) <| yG rfl ?_
   refine zc rfl <| zy (.pickT rfl rfl) <| yG rfl <| yE rfl rfl (.of (.t1 .rf)) (h10 _ _) fun ⟨a129, c129⟩ _ => yG rfl <| zc rfl <| yG rfl <| zy (.ceqT rfl rfl (by omega)) <| zy (.pickT rfl rfl) <| zd <| zr <| yR (.t rfl .nil) rfl (.of (.d (.d (.d (.d (.d (.d (.d (.d (.d (.d (.d (.d (.d (.d .rf)))))))))))))))
   refine yN fun b12 => yD rfl rfl (.of .rf) (l06agent_fn _) <| JT.yA rfl (Ev.L rfl rfl) <| yE rfl rfl (.of (.t4 (.t4 .rf))) (h6 _ _) fun ⟨a66, c66⟩ _ => zc rfl <| zc rfl <| yW rfl rfl rfl rfl rfl <| zc rfl <| zd <| zs <| zw rfl rfl <| yE rfl rfl (.of (.t2 (.t2 .rf))) (h7 _ _) fun ⟨a72, c72⟩ _ => ?_
   refine zc rfl <| zc rfl <| yN fun b14 => yW rfl rfl rfl rfl rfl <| zw rfl rfl <| yD rfl rfl (.of (.t6 (.t5 .rf))) (h8 _ _ _ _) <| zc rfl <| zc rfl <| yN fun b16 => yW rfl rfl rfl rfl rfl <| zw rfl rfl <| yD rfl rfl (.of (.t1 (.t1 .rf))) (h9 _ _ _ _) ?_
   refine zc rfl <| zc rfl <| yN fun b18 => yW rfl rfl rfl rfl rfl <| zy (.ceqT rfl rfl (by decide)) <| yG rfl <| zy (.ceqT rfl rfl (by decide)) <| zy (.pickT rfl rfl) <| yG rfl <| zf 5 rfl rfl <| yG rfl <| zl rfl rfl ?_
   refine yG rfl <| zy (.ceqT rfl rfl (by decide)) <| zy (.pickT rfl rfl) <| yG rfl <| zy (.ceqT rfl rfl (by decide)) <| zy (.pickT rfl rfl) <| yG rfl <| zy (.ceqT rfl rfl (by decide)) <| zy (.pickT rfl rfl) <| yG rfl <| zy (.ceqT rfl rfl (by decide)) <| zy (.pickT rfl rfl) ?_
   refine yG rfl <| zc rfl <| yG rfl <| zy (.ceqT rfl rfl (by omega)) <| zy (.pickT rfl rfl) <| yG rfl <| zc rfl <| yG rfl <| zy (.ceqT rfl rfl (by omega)) <| zy (.pickT rfl rfl) <| yG rfl <| zc rfl ?_
   refine zy (.pickT rfl rfl) <| yG rfl <| zc rfl <| zy (.pickT rfl rfl) <| yG rfl <| yE rfl rfl (.of (.t1 .rf)) (h10 _ _) fun ⟨a129, c129⟩ _ => yG rfl <| zc rfl <| yG rfl <| zy (.ceqT rfl rfl (by omega)) <| zy (.pickT rfl rfl) <| zd ?_
   refine zr <| yR (.t rfl .nil) rfl (.of (.d (.d (.d (.d (.d (.d (.d (.d (.d (.d (.d (.d (.d (.d .rf)))))))))))))))
end Go.Proofs.Ytienlpaehgdpaaa
