-- Written by myprint.py (the prover's own turn of the printer); not trusted: Lean checks it.
import Derived.Test.YthjbcpakpfdkaaaPStackx0
import Derived.Test.YthjbcpakpfdkaaaPStackx5
namespace Go.Proofs.Ythjbcpakpfdkaaa.PStack
open Go.RowKit Go.Proofs.YthjbcpakpfdkaaaW.PrintWords Go.Proofs.YthjbcpakpfdkaaaW.PrintLast Go.Proofs.YthjbcpakpfdkaaaW.PrintMore
attribute [local go_sem] str_leq op_leq op_gtr op_geq max2_int min2_int max_two min_two max_three min_three max_four min_four   -- for this text's walks alone
set_option linter.unusedVariables false
set_option linter.unusedSimpArgs false

/-- THE ONE PURE STATEMENT of recensionlaw25_StackFour: yours. -/
def recensionlaw25_StackFour.Pure : Prop := ∀ (a0 : Int), ((Lit.int .i64 a0).wf = true) → ∃ k, recensionlaw25_StackFour.f k a0 = some true
theorem recensionlaw25_StackFour.walk (P : recensionlaw25_StackFour.Pure) (a0 : Int) (w : World) (G0 : (Lit.int .i64 a0).wf = true) :
  Calls Try.prog 5 #[.int .i64 a0] w fun e w' => e = .returned (.bool true) ∧ Below w.heap.size w w' := by
 obtain ⟨k, h⟩ := P a0 G0
 refine (recensionlaw25_StackFour.calls k a0 true w  ⟨rfl⟩ h).mono ?_
 rintro e w' ⟨rfl, hd⟩
 exact ⟨rfl, hd⟩
end Go.Proofs.Ythjbcpakpfdkaaa.PStack
