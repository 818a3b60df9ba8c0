/- Newlines behind a word make one semicolon just if the word ends a statement. Condition: none beside the statement's own. -/
import Derived.Test.YtohhnblaoihgbaaDoorPScanx18
namespace Go.Proofs.YtohhnblaoihgbaaDoor.Pure
open Go.RowKit Go.Proofs.YtohhnblaoihgbaaDoor.PScan Go.Proofs.YtohhnblaoihgbaaDoorW.PrintWords Go.Proofs.YtohhnblaoihgbaaDoorW.PrintLast Go.Proofs.YtohhnblaoihgbaaDoorW.PrintMore
set_option maxRecDepth 100000
theorem begun_f : recensionlaw6_begun.f = some true := by decide +kernel
theorem semis_all : ∀ q : Fin 17, ∀ n : Fin 10, recensionlaw6_ScanSemis.f 100 (q.val : Int) ((n.val + 1 : Nat) : Int) = some true := by decide +kernel
theorem semis_l0 (a q : Int) (h : Int.tmod (wrap64 ((Int.tmod a 17) + 17)) 17 = Int.tmod (wrap64 ((Int.tmod q 17) + 17)) 17) (k : Nat) : ∀ x1 x7 x8 x9, recensionlaw6_ScanSemis.l0 k a x1 x7 x8 x9 = recensionlaw6_ScanSemis.l0 k q x1 x7 x8 x9 := by
  induction k with
  | zero => intro x1 x7 x8 x9; rfl
  | succ k ih =>
    intro x1 x7 x8 x9
    simp only [recensionlaw6_ScanSemis.l0, h, ih]
theorem semis_f (a q n : Int) (k : Nat) (h : Int.tmod (wrap64 ((Int.tmod a 17) + 17)) 17 = Int.tmod (wrap64 ((Int.tmod q 17) + 17)) 17) : recensionlaw6_ScanSemis.f k a n = recensionlaw6_ScanSemis.f k q n := by
  have hj : ∀ k x1 x7 x30, recensionlaw6_ScanSemis.j0 k a x1 x7 x30 = recensionlaw6_ScanSemis.j0 k q x1 x7 x30 := by
    intro k x1 x7 x30
    cases k with
    | zero => rfl
    | succ k => simp only [recensionlaw6_ScanSemis.j0, semis_l0 a q h]
  unfold recensionlaw6_ScanSemis.f
  simp only [h, hj]
theorem tmod_in (a : Int) (h0 : -17 < a) (h1 : a < 17) : ∃ q : Fin 17, Int.tmod (wrap64 (a + 17)) 17 = (q.val : Int) := by
  have hw : wrap64 (a + 17) = a + 17 := by unfold wrap64; omega
  rw [hw, Int.tmod_eq_emod_of_nonneg (by omega)]
  exact ⟨⟨((a + 17) % 17).toNat, by omega⟩, by simp only; omega⟩
theorem tmod_own : ∀ q : Fin 17, Int.tmod (wrap64 ((Int.tmod (q.val : Int) 17) + 17)) 17 = (q.val : Int) := by decide +kernel
theorem ScanSemis : recensionlaw6_ScanSemis.Pure := by
  intro a n _ _
  refine ⟨100, ?_⟩
  have hb : -17 < Int.tmod a 17 ∧ Int.tmod a 17 < 17 := ⟨by have := Int.lt_tmod_of_pos a (by decide : (0 : Int) < 17); omega, Int.tmod_lt_of_pos a (by decide)⟩
  obtain ⟨q, hq⟩ := tmod_in (Int.tmod a 17) hb.1 hb.2
  rw [semis_f a (q.val : Int) n 100 (by rw [hq, tmod_own])]
  by_cases h : 1 ≤ n ∧ n ≤ 10
  · have := semis_all q ⟨(n - 1).toNat, by omega⟩
    rw [show (((n - 1).toNat + 1 : Nat) : Int) = n by omega] at this
    exact this
  · have hall : ∀ q : Fin 17, 0 ≤ (q.val : Int) ∧ (q.val : Int) < 17 := fun q => ⟨by omega, by omega⟩
    unfold recensionlaw6_ScanSemis.f
    rw [begun_f, Option.bind_some, if_pos rfl, Option.bind_some, tmod_own, if_pos (by omega), if_pos (by simp only [List.length_cons, List.length_nil]; omega)]
    by_cases h1 : n < 1
    · rw [if_pos h1]; rfl
    · rw [if_neg h1, decide_eq_true (by omega : n > 10)]; rfl

end Go.Proofs.YtohhnblaoihgbaaDoor.Pure
