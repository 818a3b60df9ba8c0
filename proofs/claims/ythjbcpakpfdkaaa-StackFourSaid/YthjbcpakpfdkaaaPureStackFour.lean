/- Of more than four steps the eldest are gone; the others come back in turn and go on again. Condition: none beside the statement's own. -/
import Derived.Test.YthjbcpakpfdkaaaPStackx6
namespace Go.Proofs.Ythjbcpakpfdkaaa.Pure
open Go.RowKit Go.Proofs.Ythjbcpakpfdkaaa.PStack Go.Proofs.YthjbcpakpfdkaaaW.PrintWords Go.Proofs.YthjbcpakpfdkaaaW.PrintLast Go.Proofs.YthjbcpakpfdkaaaW.PrintMore
instance : DecidableEq S56 := fun a b => decidable_of_iff (a.f0 = b.f0 ∧ a.f1 = b.f1 ∧ a.f2 = b.f2 ∧ a.f3 = b.f3 ∧ a.f4 = b.f4) (by
  obtain ⟨a0, a1, a2, a3, a4⟩ := a
  obtain ⟨b0, b1, b2, b3, b4⟩ := b
  simp)
theorem begun_k : BegunOK 200 := by
  refine ⟨by decide +kernel, by decide +kernel, by decide +kernel, (stack_enc 200 [[chg ⟨#[97]⟩ ⟨#[120]⟩ ⟨#[121]⟩]] [[chg ⟨#[97]⟩ ⟨#[121]⟩ ⟨#[122]⟩]]).getD [], by decide +kernel, by decide +kernel, by decide +kernel⟩
theorem may_one (k : Nat) (n o t : ByteArray) (hf : name_File.f k n = some true) (ho : o.size ≤ 2000) (ht : t.size ≤ 2000) : stack_may.f k n true true o t = some true := by
  unfold stack_may.f
  rw [hf, Option.bind_some, if_pos rfl, if_pos rfl, if_neg (by omega), if_neg (by omega), if_pos rfl]
theorem May_one (k : Nat) (n o t : ByteArray) (hf : name_File.f (k + 1) n = some true) (ho : o.size ≤ 2000) (ht : t.size ≤ 2000) : stack_May.f (k + 2) [chg n o t] = some true := by
  have h1 : rd_T56 [chg n o t] 0 = chg n o t := rfl
  have h2 : wrap64 (0 + 1) = 1 := by decide +kernel
  have hl : (([chg n o t] : List S56).length : Int) = 1 := rfl
  unfold stack_May.f
  simp only [stack_May.l0, h1, h2, hl]
  rw [if_pos (by decide), if_pos (by decide), if_pos (by decide)]
  have := may_one (k + 1) n o t hf ho ht
  show (stack_may.f (k + 1) n true true o t).bind _ = _
  rw [this, Option.bind_some, if_pos rfl, if_neg (by decide), if_neg (by decide), if_pos (by decide)]
  rfl
theorem one_size (v : Int) : (strOfNums [v]).size = 1 := rfl
theorem StackFour : recensionlaw25_StackFour.Pure := by
  intro n _
  refine ⟨200, if_pos ⟨begun_k, ?_⟩⟩
  by_cases h : n < 0 ∨ 20 < n
  · exact .inl h
  · refine .inr ⟨by omega, by omega, ?_⟩
    intro i _
    exact May_one 198 _ _ _ (by decide +kernel) (by rw [one_size]; omega) (by rw [one_size]; omega)

end Go.Proofs.Ythjbcpakpfdkaaa.Pure
