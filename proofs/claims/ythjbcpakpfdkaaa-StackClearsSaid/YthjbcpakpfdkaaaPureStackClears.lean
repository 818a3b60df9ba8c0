/- Behind a new step what was taken back is not done again, for up to four steps and any text. Condition: none beside the statement's own. -/
import Derived.Test.YthjbcpakpfdkaaaPStackx5
namespace Go.Proofs.Ythjbcpakpfdkaaa.Pure
open Go.RowKit Go.Proofs.Ythjbcpakpfdkaaa.PStack Go.Proofs.YthjbcpakpfdkaaaW.PrintWords Go.Proofs.YthjbcpakpfdkaaaW.PrintLast Go.Proofs.YthjbcpakpfdkaaaW.PrintMore
instance : DecidableEq S56 := fun a b => decidable_of_iff (a.f0 = b.f0 ∧ a.f1 = b.f1 ∧ a.f2 = b.f2 ∧ a.f3 = b.f3 ∧ a.f4 = b.f4) (by
  obtain ⟨a0, a1, a2, a3, a4⟩ := a
  obtain ⟨b0, b1, b2, b3, b4⟩ := b
  simp)
theorem begun_k : BegunOK 200 := by
  refine ⟨by decide +kernel, by decide +kernel, by decide +kernel, (stack_enc 200 [[chg ⟨#[97]⟩ ⟨#[120]⟩ ⟨#[121]⟩]] [[chg ⟨#[97]⟩ ⟨#[121]⟩ ⟨#[122]⟩]]).getD [], by decide +kernel, by decide +kernel, by decide +kernel⟩
theorem may_one (k : Nat) (n o t : ByteArray) (hf : name_File.f k n = some true) (ho : o.size ≤ 2000) (ht : t.size ≤ 2000) : stack_may.f k n true true o t = some true := by
  unfold stack_may.f
  rw [hf, Option.bind_some, if_pos rfl, if_pos rfl, if_neg (by omega), if_neg (by omega), if_pos rfl]
theorem May_one (k : Nat) (n o t : ByteArray) (hf : name_File.f (k + 1) n = some true) (ho : o.size ≤ 2000) (ht : t.size ≤ 2000) : stack_May.f (k + 2) [chg n o t] = some true := by
  have h1 : rd_T56 [chg n o t] 0 = chg n o t := rfl
  have h2 : wrap64 (0 + 1) = 1 := by decide +kernel
  have hl : (([chg n o t] : List S56).length : Int) = 1 := rfl
  unfold stack_May.f
  simp only [stack_May.l0, h1, h2, hl]
  rw [if_pos (by decide), if_pos (by decide), if_pos (by decide)]
  have := may_one (k + 1) n o t hf ho ht
  show (stack_may.f (k + 1) n true true o t).bind _ = _
  rw [this, Option.bind_some, if_pos rfl, if_neg (by decide), if_neg (by decide), if_pos (by decide)]
  rfl
theorem cut20 (a : ByteArray) : ∃ s, recensionlaw3_Cut.f a 20 = some s ∧ s.size ≤ 20 := by
  unfold recensionlaw3_Cut.f
  by_cases h : (a.size : Int) > 20
  · rw [if_pos h, if_pos (by decide), if_pos (by omega)]
    exact ⟨_, rfl, by rw [ByteArray.size_extract]; show min 20 a.size - 0 ≤ 20; omega⟩
  · rw [if_neg h]; exact ⟨_, rfl, by omega⟩
theorem StackClears : recensionlaw25_StackClears.Pure := by
  intro n back a _ _ _
  refine ⟨200, if_pos ⟨begun_k, ?_⟩⟩
  by_cases h : n < 0 ∨ 4 < n ∨ back < 0 ∨ n < back
  · exact .inl h
  · obtain ⟨s, h1, h2⟩ := cut20 a
    refine .inr ⟨by omega, by omega, by omega, by omega, s, h1, ?_, May_one 198 _ _ s (by decide +kernel) (by decide) (by omega)⟩
    intro i h0 h4
    have hi : i = 0 ∨ i = 1 ∨ i = 2 ∨ i = 3 := by omega
    rcases hi with rfl | rfl | rfl | rfl <;> decide +kernel

end Go.Proofs.Ythjbcpakpfdkaaa.Pure
