/- Where there is no stack nothing is kept, taken back or done again, and nothing is written. Condition: none beside the statement's own. -/
import Derived.Test.YthjbcpakpfdkaaaPStackx5
namespace Go.Proofs.Ythjbcpakpfdkaaa.Pure
open Go.RowKit Go.Proofs.Ythjbcpakpfdkaaa.PStack Go.Proofs.YthjbcpakpfdkaaaW.PrintWords Go.Proofs.YthjbcpakpfdkaaaW.PrintLast Go.Proofs.YthjbcpakpfdkaaaW.PrintMore
instance : DecidableEq S56 := fun a b => decidable_of_iff (a.f0 = b.f0 ∧ a.f1 = b.f1 ∧ a.f2 = b.f2 ∧ a.f3 = b.f3 ∧ a.f4 = b.f4) (by
  obtain ⟨a0, a1, a2, a3, a4⟩ := a
  obtain ⟨b0, b1, b2, b3, b4⟩ := b
  simp)
theorem begun_k : BegunOK 200 := by
  refine ⟨by decide +kernel, by decide +kernel, by decide +kernel, (stack_enc 200 [[chg ⟨#[97]⟩ ⟨#[120]⟩ ⟨#[121]⟩]] [[chg ⟨#[97]⟩ ⟨#[121]⟩ ⟨#[122]⟩]]).getD [], by decide +kernel, by decide +kernel, by decide +kernel⟩
theorem StackNone : recensionlaw25_StackNone.Pure := ⟨200, if_pos begun_k⟩

end Go.Proofs.Ythjbcpakpfdkaaa.Pure
