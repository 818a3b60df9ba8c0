/- A word of n bytes q is a name from 1 to 24 and a file's name from 1 to 16, for every n. Condition: none beside the statement's own. -/
import Derived.Test.YtebfhmhfmeibcaaPNameLongx3
namespace Go.Proofs.Ytebfhmhfmeibcaa.Pure
open Go.RowKit Go.Proofs.Ytebfhmhfmeibcaa.PNameLong Go.Proofs.YtebfhmhfmeibcaaW.PrintWords Go.Proofs.YtebfhmhfmeibcaaW.PrintLast

theorem long_in : ∀ n : Fin 41, recensionlaw4_NameLong.f 60 (n.val : Int) = some true := by decide +kernel
theorem begun_f : recensionlaw4_begun.f 40 = some true := by decide +kernel

theorem NameLong : recensionlaw4_NameLong.Pure := by
  intro n _
  refine ⟨60, ?_⟩
  by_cases h : 0 ≤ n ∧ n ≤ 40
  · have := long_in ⟨n.toNat, by omega⟩
    have e : ((n.toNat : Nat) : Int) = n := by omega
    rw [← e]; exact this
  · have hb : recensionlaw4_begun.f 60 = some true := at_rounds (fun k => recensionlaw4_begun.mono k) (by omega : 40 ≤ 60) begun_f
    unfold recensionlaw4_NameLong.f
    rw [hb]
    simp only [Option.bind_some, if_true]
    by_cases h1 : n < 0
    · rw [if_pos h1]; rfl
    · rw [if_neg h1]
      have e : decide (n > 40) = true := by simp; omega
      rw [e]; rfl

end Go.Proofs.Ytebfhmhfmeibcaa.Pure
