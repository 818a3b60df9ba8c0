/- Each of the eight operators that have a rank is an operator of a rank from 1 to 5, stands between blanks and ends no line, whatever number picks it. Condition: none beside the statement's own. -/
import Derived.Test.YtghcagmnhaphbaaPTokenRanksx3
namespace Go.Proofs.Ytghcagmnhaphbaa.Pure
open Go.RowKit Go.Proofs.Ytghcagmnhaphbaa.PTokenRanks Go.Proofs.YtghcagmnhaphbaaW.PrintWords Go.Proofs.YtghcagmnhaphbaaW.PrintLast Go.Proofs.YtghcagmnhaphbaaW.PrintMore
theorem ranks_all : ∀ j : Fin 8, recensionlaw5_TokenRanks.f 60 (j.val : Int) = some true := by decide +kernel
theorem at8 (a : Int) : 0 ≤ Int.tmod (wrap64 ((Int.tmod a 8) + 8)) 8 ∧ Int.tmod (wrap64 ((Int.tmod a 8) + 8)) 8 < 8 ∧ Int.tmod (wrap64 ((Int.tmod (Int.tmod (wrap64 ((Int.tmod a 8) + 8)) 8) 8) + 8)) 8 = Int.tmod (wrap64 ((Int.tmod a 8) + 8)) 8 := by
  have hb : -8 < Int.tmod a 8 ∧ Int.tmod a 8 < 8 := ⟨Int.lt_tmod_of_pos a (by decide), Int.tmod_lt_of_pos a (by decide)⟩
  obtain ⟨hb1, hb2⟩ := hb
  generalize Int.tmod a 8 = t at hb1 hb2 ⊢
  have ew : wrap64 (t + 8) = t + 8 := by unfold wrap64; omega
  rw [ew, Int.tmod_eq_emod_of_nonneg (by omega : 0 ≤ t + 8)]
  have e3 : 0 ≤ (t + 8) % 8 ∧ (t + 8) % 8 < 8 := by omega
  generalize (t + 8) % 8 = u at e3 ⊢
  refine ⟨e3.1, e3.2, ?_⟩
  rw [Int.tmod_eq_emod_of_nonneg e3.1, show u % 8 = u by omega]
  have ew2 : wrap64 (u + 8) = u + 8 := by unfold wrap64; omega
  rw [ew2, Int.tmod_eq_emod_of_nonneg (by omega : 0 ≤ u + 8)]
  omega
theorem TokenRanks : recensionlaw5_TokenRanks.Pure := by
  intro a _
  obtain ⟨h2, h3, h4⟩ := at8 a
  refine ⟨60, ?_⟩
  have hj := ranks_all ⟨(Int.tmod (wrap64 ((Int.tmod a 8) + 8)) 8).toNat, by omega⟩
  have ej : (((Int.tmod (wrap64 ((Int.tmod a 8) + 8)) 8).toNat : Nat) : Int) = Int.tmod (wrap64 ((Int.tmod a 8) + 8)) 8 := by omega
  simp only [ej] at hj
  unfold recensionlaw5_TokenRanks.f at hj ⊢
  rw [h4] at hj
  exact hj

end Go.Proofs.Ytghcagmnhaphbaa.Pure
