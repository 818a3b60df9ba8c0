-- Written by myprint.py (the prover's own turn of the printer); not trusted: Lean checks it.
import Derived.Test.YtghcagmnhaphbaaPTokenAllx0
import Derived.Test.YtghcagmnhaphbaaPTokenAllx1
import Derived.Test.YtghcagmnhaphbaaPTokenAllx2
import Derived.Test.YtghcagmnhaphbaaPTokenAllx3
import Derived.Test.YtghcagmnhaphbaaPTokenAllx4
import Derived.Test.YtghcagmnhaphbaaPTokenAllx5
import Derived.Test.YtghcagmnhaphbaaPTokenAllx6
import Derived.Test.YtghcagmnhaphbaaPTokenAllx7
import Derived.Test.YtghcagmnhaphbaaPTokenAllx8
import Derived.Test.YtghcagmnhaphbaaPTokenAllx9
import Derived.Test.YtghcagmnhaphbaaPTokenAllx10
namespace Go.Proofs.Ytghcagmnhaphbaa.PTokenAll
open Go.RowKit Go.Proofs.YtghcagmnhaphbaaW.PrintWords Go.Proofs.YtghcagmnhaphbaaW.PrintLast Go.Proofs.YtghcagmnhaphbaaW.PrintMore
attribute [local go_sem] max2_int min2_int max_two min_two max_three min_three max_four min_four   -- for this text's walks alone
set_option linter.unusedVariables false
set_option linter.unusedSimpArgs false

theorem ite_some {α : Type} {c : Prop} [Decidable c] {a b : Option α} {r : α} (h : (if c then a else b) = some r) : (c ∧ a = some r) ∨ (¬ c ∧ b = some r) := by
  by_cases hc : c
  · exact Or.inl ⟨hc, by rwa [if_pos hc] at h⟩
  · exact Or.inr ⟨hc, by rwa [if_neg hc] at h⟩
theorem recensionlaw5_TokenAll.split (k : Nat) (a0 : ByteArray) (a1_0 : Int) (a1_1 : ByteArray) (a1_2 : Int) (a1_3 : Int) (a1_4 : Bool) (a2_0 : Int) (a2_1 : ByteArray) (a2_2 : Int) (a2_3 : Int) (a2_4 : Bool) (a3_0 : Int) (a3_1 : ByteArray) (a3_2 : Int) (a3_3 : Int) (a3_4 : Bool) (r : (Bool)) (h : recensionlaw5_TokenAll.f k a0 a1_0 a1_1 a1_2 a1_3 a1_4 a2_0 a2_1 a2_2 a2_3 a2_4 a3_0 a3_1 a3_2 a3_3 a3_4 = some r) : recensionlaw5_TokenAll_1.f k a0 a1_0 a1_1 a1_2 a1_3 a1_4 a2_0 a2_1 a2_2 a2_3 a2_4 a3_0 a3_1 a3_2 a3_3 a3_4 = some r ∨ recensionlaw5_TokenAll_2.f k a0 a1_0 a1_1 a1_2 a1_3 a1_4 a2_0 a2_1 a2_2 a2_3 a2_4 a3_0 a3_1 a3_2 a3_3 a3_4 = some r ∨ recensionlaw5_TokenAll_3.f k a0 a1_0 a1_1 a1_2 a1_3 a1_4 a2_0 a2_1 a2_2 a2_3 a2_4 a3_0 a3_1 a3_2 a3_3 a3_4 = some r ∨ recensionlaw5_TokenAll_4.f k a0 a1_0 a1_1 a1_2 a1_3 a1_4 a2_0 a2_1 a2_2 a2_3 a2_4 a3_0 a3_1 a3_2 a3_3 a3_4 = some r := by
 unfold recensionlaw5_TokenAll.f at h
 obtain ⟨t273, A1, h⟩ := Option.bind_eq_some_iff.mp h
 rcases ite_some h with ⟨c2, h⟩ | ⟨c2, h⟩
 ·skip
  obtain ⟨t274, A3, h⟩ := Option.bind_eq_some_iff.mp h
  obtain ⟨bt275, A4, h⟩ := Option.bind_eq_some_iff.mp h
  obtain ⟨bt280, A5, h⟩ := Option.bind_eq_some_iff.mp h
  obtain ⟨bt285, A6, h⟩ := Option.bind_eq_some_iff.mp h
  obtain ⟨t290, A7, h⟩ := Option.bind_eq_some_iff.mp h
  obtain ⟨t291, A8, h⟩ := Option.bind_eq_some_iff.mp h
  rcases ite_some h with ⟨c9, h⟩ | ⟨c9, h⟩
  ·skip
   obtain ⟨t292, A10, h⟩ := Option.bind_eq_some_iff.mp h
   obtain ⟨t293, A11, h⟩ := Option.bind_eq_some_iff.mp h
   rcases ite_some h with ⟨c12, h⟩ | ⟨c12, h⟩
   ·skip
    obtain ⟨t294, A13, h⟩ := Option.bind_eq_some_iff.mp h
    rcases ite_some h with ⟨c14, h⟩ | ⟨c14, h⟩
    ·skip
     rcases ite_some h with ⟨c15, h⟩ | ⟨c15, h⟩
     ·skip
      obtain ⟨t295, A16, h⟩ := Option.bind_eq_some_iff.mp h
      obtain ⟨t296, A17, h⟩ := Option.bind_eq_some_iff.mp h
      rcases ite_some h with ⟨c18, h⟩ | ⟨c18, h⟩
      ·skip
       obtain ⟨t297, A19, h⟩ := Option.bind_eq_some_iff.mp h
       rcases ite_some h with ⟨c20, h⟩ | ⟨c20, h⟩
       ·skip
        rcases ite_some h with ⟨c21, h⟩ | ⟨c21, h⟩
        ·skip
         obtain ⟨t298, A22, h⟩ := Option.bind_eq_some_iff.mp h
         obtain ⟨t299, A23, h⟩ := Option.bind_eq_some_iff.mp h
         exact (Or.inl (by simp only [recensionlaw5_TokenAll_1.f, A1, if_pos c2, A3, A4, A5, A6, A7, A8, if_pos c9, A10, A11, if_pos c12, A13, if_pos c14, if_pos c15, A16, A17, if_pos c18, A19, if_pos c20, if_pos c21, A22, A23, Option.bind_some]; exact h))
        ·skip
         exact (Or.inl (by simp only [recensionlaw5_TokenAll_1.f, A1, if_pos c2, A3, A4, A5, A6, A7, A8, if_pos c9, A10, A11, if_pos c12, A13, if_pos c14, if_pos c15, A16, A17, if_pos c18, A19, if_pos c20, if_neg c21, Option.bind_some]; exact h))
       ·skip
        rcases ite_some h with ⟨c24, h⟩ | ⟨c24, h⟩
        ·skip
         obtain ⟨t300, A25, h⟩ := Option.bind_eq_some_iff.mp h
         obtain ⟨t301, A26, h⟩ := Option.bind_eq_some_iff.mp h
         exact (Or.inr (Or.inl (by simp only [recensionlaw5_TokenAll_2.f, A1, if_pos c2, A3, A4, A5, A6, A7, A8, if_pos c9, A10, A11, if_pos c12, A13, if_pos c14, if_pos c15, A16, A17, if_pos c18, A19, if_neg c20, if_pos c24, A25, A26, Option.bind_some]; exact h)))
        ·skip
         exact (Or.inr (Or.inl (by simp only [recensionlaw5_TokenAll_2.f, A1, if_pos c2, A3, A4, A5, A6, A7, A8, if_pos c9, A10, A11, if_pos c12, A13, if_pos c14, if_pos c15, A16, A17, if_pos c18, A19, if_neg c20, if_neg c24, Option.bind_some]; exact h)))
      ·skip
       exact (Or.inl (by simp only [recensionlaw5_TokenAll_1.f, A1, if_pos c2, A3, A4, A5, A6, A7, A8, if_pos c9, A10, A11, if_pos c12, A13, if_pos c14, if_pos c15, A16, A17, if_neg c18, Option.bind_some]; exact h))
     ·skip
      exact (Or.inl (by simp only [recensionlaw5_TokenAll_1.f, A1, if_pos c2, A3, A4, A5, A6, A7, A8, if_pos c9, A10, A11, if_pos c12, A13, if_pos c14, if_neg c15, Option.bind_some]; exact h))
    ·skip
     rcases ite_some h with ⟨c27, h⟩ | ⟨c27, h⟩
     ·skip
      obtain ⟨t302, A28, h⟩ := Option.bind_eq_some_iff.mp h
      obtain ⟨t303, A29, h⟩ := Option.bind_eq_some_iff.mp h
      rcases ite_some h with ⟨c30, h⟩ | ⟨c30, h⟩
      ·skip
       obtain ⟨t304, A31, h⟩ := Option.bind_eq_some_iff.mp h
       rcases ite_some h with ⟨c32, h⟩ | ⟨c32, h⟩
       ·skip
        rcases ite_some h with ⟨c33, h⟩ | ⟨c33, h⟩
        ·skip
         obtain ⟨t305, A34, h⟩ := Option.bind_eq_some_iff.mp h
         obtain ⟨t306, A35, h⟩ := Option.bind_eq_some_iff.mp h
         exact (Or.inr (Or.inr (Or.inl (by simp only [recensionlaw5_TokenAll_3.f, A1, if_pos c2, A3, A4, A5, A6, A7, A8, if_pos c9, A10, A11, if_pos c12, A13, if_neg c14, if_pos c27, A28, A29, if_pos c30, A31, if_pos c32, if_pos c33, A34, A35, Option.bind_some]; exact h))))
        ·skip
         exact (Or.inr (Or.inr (Or.inl (by simp only [recensionlaw5_TokenAll_3.f, A1, if_pos c2, A3, A4, A5, A6, A7, A8, if_pos c9, A10, A11, if_pos c12, A13, if_neg c14, if_pos c27, A28, A29, if_pos c30, A31, if_pos c32, if_neg c33, Option.bind_some]; exact h))))
       ·skip
        rcases ite_some h with ⟨c36, h⟩ | ⟨c36, h⟩
        ·skip
         obtain ⟨t307, A37, h⟩ := Option.bind_eq_some_iff.mp h
         obtain ⟨t308, A38, h⟩ := Option.bind_eq_some_iff.mp h
         exact (Or.inr (Or.inr (Or.inr ((by simp only [recensionlaw5_TokenAll_4.f, A1, if_pos c2, A3, A4, A5, A6, A7, A8, if_pos c9, A10, A11, if_pos c12, A13, if_neg c14, if_pos c27, A28, A29, if_pos c30, A31, if_neg c32, if_pos c36, A37, A38, Option.bind_some]; exact h)))))
        ·skip
         exact (Or.inr (Or.inr (Or.inr ((by simp only [recensionlaw5_TokenAll_4.f, A1, if_pos c2, A3, A4, A5, A6, A7, A8, if_pos c9, A10, A11, if_pos c12, A13, if_neg c14, if_pos c27, A28, A29, if_pos c30, A31, if_neg c32, if_neg c36, Option.bind_some]; exact h)))))
      ·skip
       exact (Or.inr (Or.inr (Or.inl (by simp only [recensionlaw5_TokenAll_3.f, A1, if_pos c2, A3, A4, A5, A6, A7, A8, if_pos c9, A10, A11, if_pos c12, A13, if_neg c14, if_pos c27, A28, A29, if_neg c30, Option.bind_some]; exact h))))
     ·skip
      exact (Or.inr (Or.inr (Or.inl (by simp only [recensionlaw5_TokenAll_3.f, A1, if_pos c2, A3, A4, A5, A6, A7, A8, if_pos c9, A10, A11, if_pos c12, A13, if_neg c14, if_neg c27, Option.bind_some]; exact h))))
   ·skip
    exact (Or.inl (by simp only [recensionlaw5_TokenAll_1.f, A1, if_pos c2, A3, A4, A5, A6, A7, A8, if_pos c9, A10, A11, if_neg c12, Option.bind_some]; exact h))
  ·skip
   exact (Or.inl (by simp only [recensionlaw5_TokenAll_1.f, A1, if_pos c2, A3, A4, A5, A6, A7, A8, if_neg c9, Option.bind_some]; exact h))
 ·skip
  exact (Or.inl (by simp only [recensionlaw5_TokenAll_1.f, A1, if_neg c2, Option.bind_some]; exact h))

set_option maxHeartbeats 8000000 in
set_option maxRecDepth 100000 in
theorem recensionlaw5_TokenAll.calls (k : Nat) (a0 : ByteArray) (a1_0 : Int) (a1_1 : ByteArray) (a1_2 : Int) (a1_3 : Int) (a1_4 : Bool) (a2_0 : Int) (a2_1 : ByteArray) (a2_2 : Int) (a2_3 : Int) (a2_4 : Bool) (a3_0 : Int) (a3_1 : ByteArray) (a3_2 : Int) (a3_3 : Int) (a3_4 : Bool) (r : Bool) (w : World) (hrt : Aside0 (r = true)) (h : recensionlaw5_TokenAll.f k a0 a1_0 a1_1 a1_2 a1_3 a1_4 a2_0 a2_1 a2_2 a2_3 a2_4 a3_0 a3_1 a3_2 a3_3 a3_4 = some r) :
  Calls Try.prog 3 #[.string a0, .agg #[.int .i64 a1_0, .string a1_1, .int .i64 a1_2, .int .i64 a1_3, .bool a1_4], .agg #[.int .i64 a2_0, .string a2_1, .int .i64 a2_2, .int .i64 a2_3, .bool a2_4], .agg #[.int .i64 a3_0, .string a3_1, .int .i64 a3_2, .int .i64 a3_3, .bool a3_4]] w fun e w' => e = .returned (.bool r) ∧ Below w.heap.size w w' := by
 rcases recensionlaw5_TokenAll.split k a0 a1_0 a1_1 a1_2 a1_3 a1_4 a2_0 a2_1 a2_2 a2_3 a2_4 a3_0 a3_1 a3_2 a3_3 a3_4 r h with h | h | h | h
 ·exact recensionlaw5_TokenAll_1.calls k a0 a1_0 a1_1 a1_2 a1_3 a1_4 a2_0 a2_1 a2_2 a2_3 a2_4 a3_0 a3_1 a3_2 a3_3 a3_4 r w hrt h
 ·exact recensionlaw5_TokenAll_2.calls k a0 a1_0 a1_1 a1_2 a1_3 a1_4 a2_0 a2_1 a2_2 a2_3 a2_4 a3_0 a3_1 a3_2 a3_3 a3_4 r w hrt h
 ·exact recensionlaw5_TokenAll_3.calls k a0 a1_0 a1_1 a1_2 a1_3 a1_4 a2_0 a2_1 a2_2 a2_3 a2_4 a3_0 a3_1 a3_2 a3_3 a3_4 r w hrt h
 ·exact recensionlaw5_TokenAll_4.calls k a0 a1_0 a1_1 a1_2 a1_3 a1_4 a2_0 a2_1 a2_2 a2_3 a2_4 a3_0 a3_1 a3_2 a3_3 a3_4 r w hrt h
theorem recensionlaw5_TokenAll.walk (P : recensionlaw5_TokenAll.Pure) (a0 : ByteArray) (a1_0 : Int) (a1_1 : ByteArray) (a1_2 : Int) (a1_3 : Int) (a1_4 : Bool) (a2_0 : Int) (a2_1 : ByteArray) (a2_2 : Int) (a2_3 : Int) (a2_4 : Bool) (a3_0 : Int) (a3_1 : ByteArray) (a3_2 : Int) (a3_3 : Int) (a3_4 : Bool) (w : World) (G0 : a0.size ≤ 140737488351232) (G1 : g23 (⟨a1_0, a1_1, a1_2, a1_3, a1_4⟩ : S23)) (G2 : g23 (⟨a2_0, a2_1, a2_2, a2_3, a2_4⟩ : S23)) (G3 : g23 (⟨a3_0, a3_1, a3_2, a3_3, a3_4⟩ : S23)) :
  Calls Try.prog 3 #[.string a0, .agg #[.int .i64 a1_0, .string a1_1, .int .i64 a1_2, .int .i64 a1_3, .bool a1_4], .agg #[.int .i64 a2_0, .string a2_1, .int .i64 a2_2, .int .i64 a2_3, .bool a2_4], .agg #[.int .i64 a3_0, .string a3_1, .int .i64 a3_2, .int .i64 a3_3, .bool a3_4]] w fun e w' => e = .returned (.bool true) ∧ Below w.heap.size w w' := by
 obtain ⟨k, h⟩ := P a0 a1_0 a1_1 a1_2 a1_3 a1_4 a2_0 a2_1 a2_2 a2_3 a2_4 a3_0 a3_1 a3_2 a3_3 a3_4 G0 G1 G2 G3
 refine (recensionlaw5_TokenAll.calls k a0 a1_0 a1_1 a1_2 a1_3 a1_4 a2_0 a2_1 a2_2 a2_3 a2_4 a3_0 a3_1 a3_2 a3_3 a3_4 true w  ⟨rfl⟩ h).mono ?_
 rintro e w' ⟨rfl, hd⟩
 exact ⟨rfl, hd⟩

end Go.Proofs.Ytghcagmnhaphbaa.PTokenAll

