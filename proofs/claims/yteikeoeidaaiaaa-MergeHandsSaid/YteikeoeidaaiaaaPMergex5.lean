-- Written by myprint.py (the prover's own turn of the printer); not trusted: Lean checks it.
import Derived.Test.YteikeoeidaaiaaaPMergex0
import Derived.Test.YteikeoeidaaiaaaPMergex1
import Derived.Test.YteikeoeidaaiaaaPMergex2
import Derived.Test.YteikeoeidaaiaaaPMergex3
import Derived.Test.YteikeoeidaaiaaaPMergex4
namespace Go.Proofs.Yteikeoeidaaiaaa.PMerge
open Go.RowKit Go.Proofs.YteikeoeidaaiaaaW.PrintWords Go.Proofs.YteikeoeidaaiaaaW.PrintLast Go.Proofs.YteikeoeidaaiaaaW.PrintMore
attribute [local go_sem] str_leq op_leq op_gtr op_geq max2_int min2_int max_two min_two max_three min_three max_four min_four   -- for this text's walks alone
set_option linter.unusedVariables false
set_option linter.unusedSimpArgs false

/-! ### recensionlaw9_MergeHands: function 5 -/
theorem wf64 {n : Int} (h : (Lit.int .i64 n).wf = true) : -9223372036854775808 ≤ n ∧ n ≤ 9223372036854775807 := by
 simp [Lit.wf, IntKind.min, IntKind.max, IntKind.signed, IntKind.bits] at h
 omega
theorem rd_at {l : List S29} {i : Nat} (h : i < l.length) : rd_T29 l (i : Int) = l[i] ∧ l.drop i = l[i] :: l.drop (i + 1) := by
 constructor
 ·rw [gE_rd, gE_get h]
 ·exact List.drop_eq_getElem_cons h
theorem wrap_up {i : Nat} {n : Nat} (h : i < n) (hn : n ≤ 140737488351232) : wrap64 ((i : Int) + 1) = ((i + 1 : Nat) : Int) := by unfold wrap64; omega
/-- The largest whole number. -/
def mx64 : Int := 9223372036854775807
/-- Which edits may be, behind an edit that ends at e. -/
def mayB (e n : Int) : List S29 → Bool
 | [] => true
 | x :: l => !decide (x.f0 ≤ e) && (!decide (x.f1 < 0) && (!decide (x.f0 > n) && (!decide (x.f1 > n - x.f0) && mayB (x.f0 + x.f1) n l)))
theorem mayB_cons {e n : Int} {x : S29} {l : List S29} : mayB e n (x :: l) = true ↔ e < x.f0 ∧ 0 ≤ x.f1 ∧ x.f0 ≤ n ∧ x.f1 ≤ n - x.f0 ∧ mayB (x.f0 + x.f1) n l = true := by
 simp only [mayB, Bool.and_eq_true, Bool.not_eq_true', decide_eq_false_iff_not]
 constructor
 ·rintro ⟨h1, h2, h3, h4, h5⟩; exact ⟨by omega, by omega, by omega, by omega, h5⟩
 ·rintro ⟨h1, h2, h3, h4, h5⟩; exact ⟨by omega, by omega, by omega, by omega, h5⟩
theorem may_l0 (n : Int) (hn0 : 0 ≤ n) (hn : n ≤ 9223372036854775807) (l : List S29) (hl : l.length ≤ 1000000) (d : Nat) : ∀ (k i : Nat) (e : Int), -1 ≤ e → e ≤ n → i + d = l.length → d < k → edit_May.l0 k n e l (l.length : Int) (i : Int) = some (mayB e n (l.drop i)) := by
 induction d with
 | zero =>
  intro k i e _ _ hi hk
  obtain ⟨k, rfl⟩ : ∃ m, k = m + 1 := ⟨k - 1, by omega⟩
  simp only [edit_May.l0]
  rw [if_neg (by omega), List.drop_of_length_le (by omega)]; rfl
 | succ d ih =>
  intro k i e he hen hi hk
  obtain ⟨k, rfl⟩ : ∃ m, k = m + 1 := ⟨k - 1, by omega⟩
  have hlt : i < l.length := by omega
  obtain ⟨hr, hd⟩ := rd_at hlt
  have ew := wrap_up hlt (by omega)
  simp only [edit_May.l0]
  rw [if_pos (by omega), if_pos (by omega), if_pos (by omega), hr, hd, ew]
  by_cases h1 : l[i].f0 ≤ e
  ·rw [if_pos h1]; simp [mayB, h1]
  ·rw [if_neg h1]
   by_cases h2 : l[i].f1 < 0
   ·rw [if_pos h2]; simp [mayB, h2]
   ·rw [if_neg h2]
    by_cases h3 : l[i].f0 > n
    ·rw [if_pos h3]; simp [mayB]; omega
    ·rw [if_neg h3]
     have e1 : wrap64 (n - l[i].f0) = n - l[i].f0 := by unfold wrap64; omega
     rw [e1]
     by_cases h4 : l[i].f1 > n - l[i].f0
     ·rw [if_pos h4]; simp [mayB]; omega
     ·have e2 : wrap64 (l[i].f0 + l[i].f1) = l[i].f0 + l[i].f1 := by unfold wrap64; omega
      rw [if_neg h4, e2, ih k (i + 1) _ (by omega) (by omega) (by omega) (by omega)]
      simp [mayB, h1, h2, h3, h4]
theorem may_f (k : Nat) (l : List S29) (n : Int) (hn0 : 0 ≤ n) (hn : n ≤ 9223372036854775807) (hl : l.length ≤ 1000000) (hk : l.length < k) : edit_May.f k l n = some (mayB (-1) n l) := by
 unfold edit_May.f
 have h := may_l0 n hn0 hn l hl l.length k 0 (-1) (by omega) (by omega) (by omega) hk
 simpa using h
theorem cut3_f (s : ByteArray) (n : Nat) : ∃ t : ByteArray, recensionlaw3_Cut.f s (n : Int) = some t ∧ t.size ≤ n := by
 unfold recensionlaw3_Cut.f
 by_cases h : (s.size : Int) > n
 ·rw [if_pos h, if_pos (by omega), if_pos (by omega)]
  exact ⟨_, rfl, by simp; omega⟩
 ·rw [if_neg h]
  exact ⟨s, rfl, by omega⟩
theorem cut8_l0 (l : List S29) (hw : ∀ x ∈ l, x.f0 ≤ 9223372036854775807) (d : Nat) : ∀ (k i : Nat) (B : List S29), i + d = 12 → d < k → B.length ≤ i → i ≤ l.length → (∀ x ∈ B, x.f0 ≤ 9223372036854775807) → ∃ c, recensionlaw8_Cut.l0 k l B (i : Int) = some c ∧ c.length ≤ 12 ∧ ∀ x ∈ c, x.f0 ≤ 9223372036854775807 := by
 induction d with
 | zero =>
  intro k i B hi hk hB _ hx
  obtain ⟨k, rfl⟩ : ∃ m, k = m + 1 := ⟨k - 1, by omega⟩
  refine ⟨B, ?_, by omega, hx⟩
  simp only [recensionlaw8_Cut.l0]
  by_cases h : (i : Int) < (l.length : Int)
  ·rw [if_pos h, if_neg (by omega)]
  ·rw [if_neg h]
 | succ d ih =>
  intro k i B hi hk hB hil hx
  obtain ⟨k, rfl⟩ : ∃ m, k = m + 1 := ⟨k - 1, by omega⟩
  by_cases h : (i : Int) < (l.length : Int)
  ·obtain ⟨t, ht, _⟩ := cut3_f (rd_T29 l (i : Int)).f2 10
   have ht' : recensionlaw3_Cut.f (rd_T29 l (i : Int)).f2 10 = some t := ht
   have ew : wrap64 ((i : Int) + 1) = ((i + 1 : Nat) : Int) := by unfold wrap64; omega
   have hlt : i < l.length := by omega
   obtain ⟨c, hc, hcl, hcx⟩ := ih k (i + 1) (B ++ [⟨(rd_T29 l (i : Int)).f0, (rd_T29 l (i : Int)).f1, t⟩]) (by omega) (by omega) (by rw [List.length_append, List.length_singleton]; omega) (by omega) (by
    intro x hxm
    rcases List.mem_append.1 hxm with h1 | h1
    ·exact hx x h1
    ·rw [List.mem_singleton.1 h1]
     show (rd_T29 l (i : Int)).f0 ≤ _
     rw [(rd_at hlt).1]
     exact hw _ (List.getElem_mem hlt))
   refine ⟨c, ?_, hcl, hcx⟩
   simp only [recensionlaw8_Cut.l0]
   rw [if_pos h, if_pos (by omega), if_pos (by omega), ht']
   simp only [Option.bind_some]
   rw [if_pos (by omega), ew, hc]
  ·refine ⟨B, ?_, by omega, hx⟩
   simp only [recensionlaw8_Cut.l0]
   rw [if_neg h]
theorem cut8_f (k : Nat) (l : List S29) (hw : ∀ x ∈ l, x.f0 ≤ 9223372036854775807) (hk : 12 < k) : ∃ c, recensionlaw8_Cut.f k l = some c ∧ c.length ≤ 12 ∧ ∀ x ∈ c, x.f0 ≤ 9223372036854775807 := by
 obtain ⟨c, h1, h2, h3⟩ := cut8_l0 l hw 12 k 0 [] (by omega) hk (by simp) (by omega) (by simp)
 exact ⟨c, h1, h2, h3⟩
theorem eqE_self (x : S29) : eqE x x = true := by unfold eqE; simp
theorem eq_l0 (a b : List S29) (hab : a.length = b.length) (hl : a.length ≤ 1000000) (d : Nat) : ∀ (k i : Nat), i + d = a.length → d < k → ∃ r, recensionlaw9_eq.l0 k a b (i : Int) = some r ∧ (r = true ↔ a.drop i = b.drop i) := by
 induction d with
 | zero =>
  intro k i hi hk
  obtain ⟨k, rfl⟩ : ∃ m, k = m + 1 := ⟨k - 1, by omega⟩
  simp only [recensionlaw9_eq.l0]
  rw [if_neg (by omega), List.drop_of_length_le (by omega), List.drop_of_length_le (by omega)]
  exact ⟨true, rfl, by simp⟩
 | succ d ih =>
  intro k i hi hk
  obtain ⟨k, rfl⟩ : ∃ m, k = m + 1 := ⟨k - 1, by omega⟩
  have h1 : i < a.length := by omega
  have h2 : i < b.length := by omega
  obtain ⟨hr1, hd1⟩ := rd_at h1
  obtain ⟨hr2, hd2⟩ := rd_at h2
  have ew := wrap_up h1 (by omega)
  simp only [recensionlaw9_eq.l0]
  rw [if_pos (by omega), if_pos (by omega), if_pos (by omega), hr1, hr2, ew]
  obtain ⟨r, hr, hri⟩ := ih k (i + 1) (by omega) (by omega)
  have hdi : a.drop i = b.drop i ↔ a[i] = b[i] ∧ a.drop (i + 1) = b.drop (i + 1) := by
   rw [hd1, hd2]
   constructor
   ·intro h
    injection h with h1 h2
    exact ⟨h1, h2⟩
   ·rintro ⟨h1, h2⟩
    rw [h1, h2]
  by_cases q0 : a[i].f0 = b[i].f0
  ·rw [if_pos q0]
   by_cases q1 : a[i].f1 = b[i].f1
   ·rw [if_pos q1]
    by_cases q2 : a[i].f2.toList = b[i].f2.toList
    ·rw [if_pos q2]
     refine ⟨r, hr, hri.trans ?_⟩
     have he : a[i] = b[i] := eqE_eq (by unfold eqE; simp [q0, q1, q2])
     rw [hdi]
     exact ⟨fun h => ⟨he, h⟩, fun h => h.2⟩
    ·rw [if_neg q2]
     exact ⟨false, rfl, ⟨fun h => absurd h (by decide), fun h => absurd (by rw [(hdi.1 h).1]) q2⟩⟩
   ·rw [if_neg q1]
    exact ⟨false, rfl, ⟨fun h => absurd h (by decide), fun h => absurd (by rw [(hdi.1 h).1]) q1⟩⟩
  ·rw [if_neg q0]
   exact ⟨false, rfl, ⟨fun h => absurd h (by decide), fun h => absurd (by rw [(hdi.1 h).1]) q0⟩⟩
theorem eq_f (k : Nat) (a b : List S29) (hl : a.length ≤ 1000000) (hk : a.length < k) : ∃ r, recensionlaw9_eq.f k a b = some r ∧ (r = true ↔ a = b) := by
 unfold recensionlaw9_eq.f
 by_cases h : a.length = b.length
 ·rw [if_pos (by omega)]
  obtain ⟨r, h1, h2⟩ := eq_l0 a b h hl a.length k 0 (by omega) hk
  exact ⟨r, h1, by simpa using h2⟩
 ·rw [if_neg (by omega)]
  exact ⟨false, rfl, by simp; intro e; exact h (by rw [e])⟩
theorem eq_self (k : Nat) (a : List S29) (hl : a.length ≤ 1000000) (hk : a.length < k) : recensionlaw9_eq.f k a a = some true := by
 obtain ⟨r, h1, h2⟩ := eq_f k a a hl hk
 rw [h1, h2.2 rfl]
/-! ### the reference's word of which edits may be -/
theorem rmay_l0 (n : Int) (hn0 : 0 ≤ n) (hn : n ≤ 1000000) (l : List S29) (hl : l.length ≤ 1000000) (d : Nat) : ∀ (k i : Nat) (e : Int), -1 ≤ e → e ≤ n → (i = 0 → e = -1) → (∀ h : i - 1 < l.length, 0 < i → l[i - 1].f0 + l[i - 1].f1 = e ∧ 0 ≤ l[i - 1].f0 ∧ 0 ≤ l[i - 1].f1) → i + d = l.length → 2 * d < k → recensionref1_MayEdits.l0 k l n (i : Int) = some (mayB e n (l.drop i)) := by
 induction d with
 | zero =>
  intro k i e _ _ _ _ hi hk
  obtain ⟨k, rfl⟩ : ∃ m, k = m + 1 := ⟨k - 1, by omega⟩
  simp only [recensionref1_MayEdits.l0]
  rw [if_neg (by omega), List.drop_of_length_le (by omega)]; rfl
 | succ d ih =>
  intro k i e he hen h0 hp hi hk
  obtain ⟨k, rfl⟩ : ∃ m, k = m + 2 := ⟨k - 2, by omega⟩
  have hlt : i < l.length := by omega
  obtain ⟨hr, hd⟩ := rd_at hlt
  have ew := wrap_up hlt (by omega)
  have hjt : recensionref1_MayEdits.j1 (k + 1) l n (i : Int) true = some false := by simp only [recensionref1_MayEdits.j1, if_true]
  simp only [recensionref1_MayEdits.l0]
  rw [if_pos (by omega), if_pos (by omega), hr, hd, hjt]
  by_cases h1 : l[i].f0 < 0
  ·rw [if_pos h1]
   have : l[i].f0 ≤ e := by omega
   simp [mayB, this]
  ·rw [if_neg h1]
   by_cases h2 : l[i].f1 < 0
   ·rw [if_pos h2]; simp [mayB, h2]
   ·rw [if_neg h2]
    by_cases h3 : l[i].f0 > n
    ·rw [if_pos h3]; simp [mayB]; omega
    ·have e1 : wrap64 (n - l[i].f0) = n - l[i].f0 := by unfold wrap64; omega
     rw [if_neg h3, e1]
     by_cases h4 : l[i].f1 > n - l[i].f0
     ·have : decide (l[i].f1 > n - l[i].f0) = true := by simpa using h4
      rw [this, hjt]; simp [mayB]; omega
     ·have : decide (l[i].f1 > n - l[i].f0) = false := by simpa using h4
      rw [this]
      simp only [recensionref1_MayEdits.j1]
      rw [if_neg (by decide)]
      have ihn := ih k (i + 1) (l[i].f0 + l[i].f1) (by omega) (by omega) (by omega) (fun _ _ => ⟨rfl, by show 0 ≤ l[i].f0; omega, by show 0 ≤ l[i].f1; omega⟩) (by omega) (by omega)
      by_cases hi0 : i = 0
      ·have e0 := h0 hi0
       rw [if_neg (by omega), ew, ihn]
       have h5 : ¬ l[i].f0 ≤ e := by omega
       simp [mayB, h5, h2, h3, h4]
      ·have hlt2 : i - 1 < l.length := by omega
       obtain ⟨p1, p2, p3⟩ := hp hlt2 (by omega)
       obtain ⟨hr2, _⟩ := rd_at hlt2
       have ew2 : wrap64 ((i : Int) - 1) = ((i - 1 : Nat) : Int) := by unfold wrap64; omega
       have e3 : wrap64 (l[i].f0 - l[i - 1].f0) = l[i].f0 - l[i - 1].f0 := by unfold wrap64; omega
       rw [if_pos (by omega), if_pos (by omega), if_pos (by omega), ew2, if_pos (by omega), if_pos (by omega), hr, hr2, e3, ew, ihn]
       by_cases h6 : l[i].f0 ≤ l[i - 1].f0
       ·rw [if_pos h6]
        have : l[i].f0 ≤ e := by omega
        simp [mayB, this]
       ·rw [if_neg h6]
        by_cases h7 : l[i].f0 - l[i - 1].f0 ≤ l[i - 1].f1
        ·rw [if_pos h7]
         have : l[i].f0 ≤ e := by omega
         simp [mayB, this]
        ·rw [if_neg h7]
         have h5 : ¬ l[i].f0 ≤ e := by omega
         simp [mayB, h5, h2, h3, h4]
theorem rmay_f (k : Nat) (l : List S29) (n : Nat) (hn : n ≤ 1000000) (hl : l.length ≤ 1000000) (hk : 2 * l.length < k) : recensionref1_MayEdits.f k l (n : Int) = some (mayB (-1) (n : Int) l) := by
 unfold recensionref1_MayEdits.f
 have h := rmay_l0 (n : Int) (by omega) (by omega) l hl l.length k 0 (-1) (by omega) (by omega) (fun _ => rfl) (fun _ h => absurd h (by omega)) (by omega) hk
 simpa using h
theorem cut8_len0 (l : List S29) (d : Nat) : ∀ (k i : Nat) (B : List S29), i + d = 12 → d < k → B.length ≤ i → i ≤ l.length → ∃ c, recensionlaw8_Cut.l0 k l B (i : Int) = some c ∧ c.length ≤ 12 := by
 induction d with
 | zero =>
  intro k i B hi hk hB _
  obtain ⟨k, rfl⟩ : ∃ m, k = m + 1 := ⟨k - 1, by omega⟩
  refine ⟨B, ?_, by omega⟩
  simp only [recensionlaw8_Cut.l0]
  by_cases h : (i : Int) < (l.length : Int)
  ·rw [if_pos h, if_neg (by omega)]
  ·rw [if_neg h]
 | succ d ih =>
  intro k i B hi hk hB hil
  obtain ⟨k, rfl⟩ : ∃ m, k = m + 1 := ⟨k - 1, by omega⟩
  by_cases h : (i : Int) < (l.length : Int)
  ·obtain ⟨t, ht, _⟩ := cut3_f (rd_T29 l (i : Int)).f2 10
   have ht' : recensionlaw3_Cut.f (rd_T29 l (i : Int)).f2 10 = some t := ht
   have ew : wrap64 ((i : Int) + 1) = ((i + 1 : Nat) : Int) := by unfold wrap64; omega
   obtain ⟨c, hc, hcl⟩ := ih k (i + 1) (B ++ [⟨(rd_T29 l (i : Int)).f0, (rd_T29 l (i : Int)).f1, t⟩]) (by omega) (by omega) (by rw [List.length_append, List.length_singleton]; omega) (by omega)
   refine ⟨c, ?_, hcl⟩
   simp only [recensionlaw8_Cut.l0]
   rw [if_pos h, if_pos (by omega), if_pos (by omega), ht']
   simp only [Option.bind_some]
   rw [if_pos (by omega), ew, hc]
  ·refine ⟨B, ?_, by omega⟩
   simp only [recensionlaw8_Cut.l0]
   rw [if_neg h]
theorem cut8_len (k : Nat) (l : List S29) (hk : 12 < k) : ∃ c, recensionlaw8_Cut.f k l = some c ∧ c.length ≤ 12 := by
 obtain ⟨c, h1, h2⟩ := cut8_len0 l 12 k 0 [] (by omega) hk (by simp) (by omega)
 exact ⟨c, h1, h2⟩
/-! ### edits that may be, twice over, and sorted -/
theorem mayB_lt (n : Int) : ∀ (l : List S29) (e : Int), mayB e n l = true → (∀ x ∈ l, e < x.f0) ∧ l.Pairwise (fun a b => a.f0 < b.f0)
 | [], _, _ => ⟨fun _ h => (by cases h), List.Pairwise.nil⟩
 | x :: l, e, h => by
  obtain ⟨h1, h2, _, _, h5⟩ := mayB_cons.1 h
  obtain ⟨i1, i2⟩ := mayB_lt n l _ h5
  refine ⟨fun y hy => ?_, List.pairwise_cons.2 ⟨fun y hy => ?_, i2⟩⟩
  ·rcases List.mem_cons.1 hy with rfl | hy
   ·exact h1
   ·have := i1 y hy; omega
  ·have := i1 y hy; omega
theorem mayB_more {n m : Int} (hnm : n ≤ m) : ∀ (l : List S29) (e : Int), mayB e n l = true → mayB e m l = true
 | [], _, _ => rfl
 | x :: l, e, h => by
  obtain ⟨h1, h2, h3, h4, h5⟩ := mayB_cons.1 h
  exact mayB_cons.2 ⟨h1, h2, by omega, by omega, mayB_more hnm l _ h5⟩
def dbl : List S29 → List S29
 | [] => []
 | x :: l => x :: x :: dbl l
theorem dbl_mem {l : List S29} {y : S29} (h : y ∈ dbl l) : y ∈ l := by
 induction l with
 | nil => exact h
 | cons x l ih =>
  rcases List.mem_cons.1 h with rfl | h
  ·exact List.mem_cons_self
  ·rcases List.mem_cons.1 h with rfl | h
   ·exact List.mem_cons_self
   ·exact List.mem_cons_of_mem _ (ih h)
theorem dbl_sorted : ∀ (l : List S29), l.Pairwise (fun a b => a.f0 < b.f0) → (dbl l).Pairwise leE
 | [], _ => List.Pairwise.nil
 | x :: l, h => by
  rw [List.pairwise_cons] at h
  have hx : ∀ y ∈ dbl l, leE x y := fun y hy => leE_of_lt ((ltE_iff x y).2 (.inl (h.1 y (dbl_mem hy))))
  refine List.pairwise_cons.2 ⟨fun y hy => ?_, List.pairwise_cons.2 ⟨hx, dbl_sorted l h.2⟩⟩
  rcases List.mem_cons.1 hy with rfl | hy
  ·exact leE_refl _
  ·exact hx y hy
theorem dbl_perm : ∀ l : List S29, (dbl l).Perm (l ++ l)
 | [] => List.Perm.refl _
 | x :: l => by
  have h1 : (x :: l ++ x :: l).Perm (x :: x :: (l ++ l)) := (List.perm_middle (l₁ := x :: l)).trans (List.Perm.refl _)
  exact ((((dbl_perm l).cons x).cons x)).trans h1.symm
theorem eqE_refl (x : S29) : eqE x x = true := by unfold eqE; simp
theorem dbl_tail : ∀ (l : List S29) (p : S29), (∀ x ∈ l, p.f0 < x.f0) → l.Pairwise (fun a b => a.f0 < b.f0) → tailC p (dbl l) = l
 | [], _, _, _ => rfl
 | x :: l, p, h, hw => by
  rw [List.pairwise_cons] at hw
  have hne : ¬ eqE x p = true := fun e => by have := h x List.mem_cons_self; rw [eqE_eq e] at this; omega
  simp only [dbl, tailC]
  rw [if_neg hne, if_pos (eqE_refl x), dbl_tail l x hw.1 hw.2]
theorem dbl_comp (l : List S29) (hw : l.Pairwise (fun a b => a.f0 < b.f0)) : compF (dbl l) = l := by
 cases l with
 | nil => rfl
 | cons x l =>
  rw [List.pairwise_cons] at hw
  simp only [dbl, compF, tailC]
  rw [if_pos (eqE_refl x), dbl_tail l x hw.1 hw.2]
/-! ### hands: a row that gets one more -/
theorem flat_set (x : S29) : ∀ (hs : List (List S29)) (j : Nat) (h : List S29), hs[j]? = some h → (hs.set j (h ++ [x])).flatten.Perm (x :: hs.flatten)
 | [], _, _, e => by simp at e
 | a :: hs, 0, h, e => by
  obtain rfl : a = h := by simpa using e
  rw [List.set_cons_zero, List.flatten_cons, List.flatten_cons, List.append_assoc]
  exact List.perm_middle
 | a :: hs, j + 1, h, e => by
  have e' : hs[j]? = some h := by simpa using e
  rw [List.set_cons_succ, List.flatten_cons, List.flatten_cons]
  exact ((flat_set x hs j h e').append_left a).trans List.perm_middle
/-! ### four rows in an array variable, and the row they are dealt out of: each apart from the others -/
def Hs (base : Nat) (W : World) (gh : Nat) (vs : List Value) (hs : List (List S29)) : Prop :=
 base ≤ gh ∧ W.heap[gh]? = some (.cells (vs.take 4).toArray 43 (0, 0)) ∧ vs.length = 5 ∧ hs.length = 5 ∧ (∀ (j : Nat) (v : Value) (h : List S29), vs[j]? = some v → hs[j]? = some h → Kd.R k29 29 W base (fun _ => True) v h) ∧ ∀ (i j : Nat) (u v : Value) (b : Nat), vs[i]? = some u → vs[j]? = some v → i ≠ j → u.ownBlock = some b → v.ownBlock ≠ some b
theorem Hs.below {base gh : Nat} {W W2 : World} {vs : List Value} {hs : List (List S29)} (H : Hs base W gh vs hs) (hb : Below W.heap.size W W2) : Hs base W2 gh vs hs :=
 ⟨H.1, blk_below H.2.1 hb, H.2.2.1, H.2.2.2.1, fun j v h e1 e2 => Kd.R_below (H.2.2.2.2.1 j v h e1 e2) hb, H.2.2.2.2.2⟩
theorem Hs.put {base gh : Nat} {W w1 : World} {vs : List Value} {hs : List (List S29)} (H : Hs base W gh vs hs) {j : Nat} {v v1 : Value} {h : List S29} {x : S29} (hj : j < 4) (hv : vs[j]? = some v) (hh : hs[j]? = some h) (ho : Kd.R k29 29 w1 base (fun _ => True) v1 (h ++ [x])) (hg : W.grownBy w1 v.ownBlock) (hat : v1.ownBlock = v.ownBlock ∨ ∃ b, v1.ownBlock = some b ∧ W.heap.size ≤ b) :
  Hs base (w1.setCell ⟨gh, j, none⟩ v1) gh (vs.set j v1) (hs.set j (h ++ [x])) := by
 obtain ⟨h1, h2, h3, h4, h5, h6⟩ := H
 have hR := h5 j v h hv hh
 have B1 := blk_grown h2 hg (Kd.R_ne hR h2 (by decide))
 refine ⟨h1, blk_put B1 j v1 (by rw [List.setIfInBounds_toArray, List.take_set]), by rw [List.length_set, h3], by rw [List.length_set, h4], ?_, ?_⟩
 ·intro i u hi e1 e2
  by_cases hij : j = i
  ·subst hij
   rw [List.getElem?_set_self (by omega)] at e1 e2
   obtain rfl := Option.some.inj e1
   obtain rfl := Option.some.inj e2
   exact Kd.R_set ho B1 (by decide) j _
  ·rw [List.getElem?_set_ne hij] at e1 e2
   exact Kd.R_set (Kd.R_grown2 (h5 i u hi e1 e2) rfl hg (fun k hk => fun e => h6 j i v u k hv e1 hij hk e.symm)) B1 (by decide) j _
 ·have hlt : ∀ (i : Nat) (u : Value) (b : Nat), vs[i]? = some u → u.ownBlock = some b → b < W.heap.size := by
   intro i u b e1 e2
   have hi := (List.getElem?_eq_some_iff.1 e1).1
   exact Kd.R_lt (h5 i u _ e1 (List.getElem?_eq_getElem (by omega))) b e2
  have hnew : ∀ (i : Nat) (u : Value) (b : Nat), vs[i]? = some u → i ≠ j → v1.ownBlock = some b → u.ownBlock ≠ some b := by
   intro i u b e1 hij e2 e3
   rcases hat with hat | ⟨b', hat, hb'⟩
   ·exact h6 j i v u b hv e1 (fun e => hij e.symm) (hat ▸ e2) e3
   ·rw [hat] at e2
    obtain rfl := Option.some.inj e2
    have := hlt i u b' e1 e3
    omega
  intro i i' u u' b e1 e2 hne e3 e4
  by_cases hi : j = i
  ·subst hi
   rw [List.getElem?_set_self (by omega)] at e1
   obtain rfl := Option.some.inj e1
   rw [List.getElem?_set_ne hne] at e2
   exact hnew i' u' b e2 (fun e => hne e.symm) e3 e4
  ·rw [List.getElem?_set_ne hi] at e1
   by_cases hi' : j = i'
   ·subst hi'
    rw [List.getElem?_set_self (by omega)] at e2
    obtain rfl := Option.some.inj e2
    exact hnew i u b e1 (fun e => hi e.symm) e4 e3
   ·rw [List.getElem?_set_ne hi'] at e2
    exact h6 i i' u u' b e1 e2 hne e3 e4
theorem Hs.cell {base gh : Nat} {W : World} {vs : List Value} {hs : List (List S29)} (H : Hs base W gh vs hs) {j : Nat} {v : Value} (hj : j < 4) (hv : vs[j]? = some v) : W.cell? ⟨gh, j, none⟩ = some v := by
 rw [blk_cell H.2.1 j]
 simp [List.getElem?_take, hj, hv]
theorem kmod (d : Int) : ∃ k : Nat, (wrap64 (d.tmod 4 + 4)).tmod 4 = (k : Int) ∧ k < 4 := by
 have h1 := Int.tmod_lt_of_pos d (show (0 : Int) < 4 by decide)
 have h2 := Int.lt_tmod_of_pos d (show (0 : Int) < 4 by decide)
 have h3 : wrap64 (d.tmod 4 + 4) = d.tmod 4 + 4 := by unfold wrap64; omega
 rw [h3, Int.tmod_eq_emod_of_nonneg (by omega)]
 exact ⟨((d.tmod 4 + 4) % 4).toNat, by omega, by omega⟩
theorem five {α : Type} {l : List α} (h : l.length = 5) : ∃ a b c d e, l = [a, b, c, d, e] := by
 match l, h with
 | [a, b, c, d, e], _ => exact ⟨a, b, c, d, e, rfl⟩
theorem drop_x {l : List S29} {i : Int} (h0 : 0 ≤ i) (h1 : i < l.length) : l.drop i.toNat = rd_T29 l i :: l.drop (i + 1).toNat := by
 rw [List.drop_eq_getElem_cons (by omega), show (i + 1).toNat = i.toNat + 1 by omega]
 congr 1
 unfold rd_T29
 rw [List.getD_eq_getElem?_getD, List.getElem?_eq_getElem (by omega), Option.getD_some]
set_option maxHeartbeats 4000000 in
set_option maxRecDepth 100000 in
theorem hands_walk (s : ByteArray) (A1 : Option Addr) (c1 : Nat) (l0 : List S29) (A2 : Option Addr) (c2 : Nat) (dl : List Int) (w : World) (hr1 : Kd.C k29 w A1 l0.length l0) (hc1 : l0.length ≤ c1) (hr2 : Kd.C (Kd.int .i64) w A2 dl.length dl) :
  Calls Try.prog 5 #[.string s, .slice A1 l0.length c1, .slice A2 dl.length c2] w fun e w' => e = .returned (.bool true) ∧ Below w.heap.size w w' := by
 have HR1 := Aside0.mk hr1
 have HC1 := Aside0.mk hc1
 have HR2 := Aside0.mk hr2
 clear hr1 hc1 hr2
 go_enter Try.func5, Try.ntmps5
 go_wp2_with fail
 refine (begun_c _).mono ?_
 rintro e w1 ⟨rfl, hb⟩
 have HB1 := Aside0.mk hb
 clear hb
 go_upto_if 18 with fail
 go_cut [0] from 16 to 20 (fun sv wc => ∃ t : ByteArray, sv = .string t ∧ t.size ≤ 100 ∧ w1 = wc)
 case first =>
  by_cases hs : 100 < (s.size : Int)
  ·have b1 : decide (100 < (s.size : Int)) = true := decide_eq_true hs
   have p1 := eq_true (show (100 : Int) ≤ (s.size : Int) by omega)
   have p2 := eq_true (show 100 ≤ s.size by omega)
   go_wp2_with fail
   go_meet
   case rel => exact ⟨_, rfl, by simp; omega, rfl⟩
  ·have b1 : decide (100 < (s.size : Int)) = false := decide_eq_false hs
   go_wp2_with fail
   go_meet
   case rel => exact ⟨s, rfl, by omega, rfl⟩
 case rest =>
  obtain ⟨t, rfl, ht, rfl⟩ := hcut
  obtain ⟨l, hl, hll⟩ := cut8_len 20 l0 (by omega)
  have HL := Aside0.mk hl
  clear hl
  go_wp2_with fail
  refine (recensionlaw8_Cut.calls 20 A1 c1 l0 l _ (Kd.C_below HR1.out HB1.out) HC1.out HL.out).mono ?_
  rintro e w2 ⟨v2, rfl, ho, hb⟩
  obtain ⟨Al, cl, rfl⟩ := Kd.R_slice ho
  have HO2 := Aside0.mk (Kd.R_lower ho HB1.out.size)
  have HB2 := Aside0.mk (below_step HB1.out hb)
  have HCL := Aside0.mk (Kd.R_reads' ho).2.1
  clear ho hb HL
  go_wp2_with fail
  refine (recensionref1_MayEdits.calls 100 Al cl l (t.size : Int) (mayB (-1) (t.size : Int) l) _ (Kd.R_reads' HO2.out).2.2 HCL.out (rmay_f 100 l t.size (by omega) (by omega) (by omega))).mono ?_
  rintro e w3 ⟨rfl, ⟨nd, rfl⟩⟩
  have HB3 := Aside0.mk (pw_below_drewN HB2.out nd)
  have HO3 := Aside0.mk (Kd.R_drewN HO2.out nd)
  generalize w2.drewN nd = w3 at HB3 HO3 ⊢
  by_cases hm : mayB (-1) (t.size : Int) l = true
  ·rw [hm]
   have HM := Aside0.mk hm
   clear hm HB2 HO2
   have e0 : IntKind.i64.wrap ((l.length : Int) - 1) = (l.length : Int) - 1 := IntWalk.i64_in _ (by omega)
   have HH0 := Aside0.mk (show Hs w.heap.size (w3.alloc (.cells #[.slice none 0 0, .slice none 0 0, .slice none 0 0, .slice none 0 0] 43)) w3.heap.size [.slice none 0 0, .slice none 0 0, .slice none 0 0, .slice none 0 0, .slice Al l.length cl] [[], [], [], [], l] from by
    have hl4 := Kd.R_mono (ok' := fun _ => True) HO3.out (fun _ _ => trivial)
    refine ⟨HB3.out.size, heap_alloc_new w3 _, rfl, rfl, ?_, ?_⟩
    ·intro j v h e1 e2
     match j, e1, e2 with
     | 0, e1, e2 => cases e1; cases e2; exact Kd.R_nil _ _ _ _ _
     | 1, e1, e2 => cases e1; cases e2; exact Kd.R_nil _ _ _ _ _
     | 2, e1, e2 => cases e1; cases e2; exact Kd.R_nil _ _ _ _ _
     | 3, e1, e2 => cases e1; cases e2; exact Kd.R_nil _ _ _ _ _
     | 4, e1, e2 => cases e1; cases e2; exact Kd.R_alloc hl4 _
     | j + 5, e1, _ => cases e1
    ·intro i j u v b e1 e2 hij e3 e4
     match i, e1 with
     | 0, e1 => cases e1; cases e3
     | 1, e1 => cases e1; cases e3
     | 2, e1 => cases e1; cases e3
     | 3, e1 => cases e1; cases e3
     | 4, e1 =>
      match j, e2 with
      | 0, e2 => cases e2; cases e4
      | 1, e2 => cases e2; cases e4
      | 2, e2 => cases e2; cases e4
      | 3, e2 => cases e2; cases e4
      | 4, e2 => exact hij rfl
      | j + 5, e2 => cases e2
     | i + 5, e1 => cases e1)
   have HB4 := Aside0.mk (HB3.out.alloc HB3.out.size (.cells #[.slice none 0 0, .slice none 0 0, .slice none 0 0, .slice none 0 0] 43))
   go_upto_block 0 with fail
   obtain ⟨gh, hgh⟩ : ∃ gh, w3.heap.size = gh := ⟨_, rfl⟩
   rw [hgh] at HH0 ⊢
   clear hgh HO3 HB3
   go_wp2_with fail
   go_loopw [9] (fun iv wr => ∃ (i : Int) (vs : List Value) (hs : List (List S29)), iv = .int .i64 i ∧ -1 ≤ i ∧ i < l.length ∧ Aside0 (Hs w.heap.size wr gh vs hs) ∧ Aside0 (vs[4]? = some (.slice Al l.length cl)) ∧ Aside0 (hs[4]? = some l) ∧ Aside0 (Below w.heap.size w wr) ∧ Aside0 (hs.flatten.Perm (l.drop (i + 1).toNat ++ l))) (fun iv _ => (intOf iv + 1).toNat)
   case atStart => exact ⟨(l.length : Int) - 1, _, _, rfl, by omega, by omega, HH0, ⟨rfl⟩, ⟨rfl⟩, HB4, ⟨by rw [show ((l.length : Int) - 1 + 1).toNat = l.length by omega, List.drop_length]; simp⟩⟩
   case round =>
    clear HH0 HB4 e0
    obtain ⟨i, vs, hs, rfl, i1, il, HH, HV4, HS4, HB, HP⟩ := hrel
    by_cases i0 : 0 ≤ i
    ·have b1 : decide (0 ≤ i) = true := decide_eq_true i0
     have p1 := eq_true i0
     go_upto_if 38 with fail
     go_cut [10] from 35 to 45 (fun kv wc => ∃ k : Nat, kv = .int .i64 (k : Int) ∧ k < 4 ∧ wr = wc)
     case first =>
      by_cases hd : i < (dl.length : Int)
      ·have b2 : decide (i < (dl.length : Int)) = true := decide_eq_true hd
       obtain ⟨ad2, rfl, hx2⟩ := Kd.at_int (Kd.C_below HR2.out HB.out) i i0 hd
       have p2 := eq_true hd
       generalize rd dl i = d at hx2
       go_wp2_with fail
       go_meet
       case rel =>
        obtain ⟨k, hk, hk4⟩ := kmod d
        exact ⟨k, by rw [hk], hk4, rfl⟩
      ·have b2 : decide (i < (dl.length : Int)) = false := decide_eq_false hd
       go_wp2_with fail
       go_meet
       case rel => exact ⟨0, rfl, by omega, rfl⟩
     case rest =>
      obtain ⟨k, rfl, hk, rfl⟩ := hcut
      have hvs := HH.out.2.2.1
      have hhs := HH.out.2.2.2.1
      obtain ⟨v, hv⟩ : ∃ v, vs[k]? = some v := ⟨_, List.getElem?_eq_getElem (by omega)⟩
      obtain ⟨h, hh⟩ : ∃ h, hs[k]? = some h := ⟨_, List.getElem?_eq_getElem (by omega)⟩
      have HD := Aside0.mk (HH.out.below (below_drew1 (Below.refl wr.heap.size wr)))
      have hRv := HD.out.2.2.2.2.1 k v h hv hh
      have hRl := HD.out.2.2.2.2.1 4 _ l HV4.out HS4.out
      obtain ⟨Ak, ck, rfl⟩ := Kd.R_slice hRv
      have hfl : hs.flatten.length ≤ 24 := by rw [HP.out.length_eq, List.length_append, List.length_drop]; omega
      have hhl : h.length ≤ 24 := Nat.le_trans (List.sublist_flatten_of_mem (List.mem_of_getElem? hh)).length_le hfl
      obtain ⟨ad, e4, x0, x1, x2⟩ := at_T29 (Kd.R_reads' hRl).2.2 i i0 il
      subst e4
      have HX := Aside0.mk (drop_x i0 il)
      generalize rd_T29 l i = x at x0 x1 x2 HX
      have k0 : wr.drew.cell? ⟨gh, k, none⟩ = some (.slice Ak h.length ck) := HD.out.cell hk hv
      have HRV := Aside0.mk hRv
      have HBD := Aside0.mk (below_drew1 HB.out)
      have HK := Aside0.mk (And.intro hk (And.intro hv hh))
      have HI := Aside0.mk (And.intro i0 (And.intro i1 il))
      have q1 := eq_true (show 0 ≤ (k : Int) by omega)
      have q2 := eq_true (show (k : Int) < 4 by omega)
      have q3 := eq_true hk
      have p2 := eq_true il
      have e1 : IntKind.i64.wrap (i - 1) = i - 1 := IntWalk.i64_in _ (by omega)
      clear hRv hRl hfl hk hv hh i0 i1 il HB HH hvs hhs
      go_wp2_with fail
      refine start_ (n := 12) (S := fun w' => w'.cell? ⟨gh, k, none⟩ = some (.slice Ak h.length ck) ∧ w'.cell? (ad.add (i.toNat * 3)) = some (.int .i64 x.f0) ∧ w'.cell? ⟨(ad.add (i.toNat * 3)).block, (ad.add (i.toNat * 3)).off + 1, none⟩ = some (.int .i64 x.f1) ∧ w'.cell? ⟨(ad.add (i.toNat * 3)).block, (ad.add (i.toNat * 3)).off + 2, none⟩ = some (.string x.f2)) (ds := [9, 11]) #[false, false, false, false, false, false, false, false, false, false, false, false] (by kernel_rfl) rfl rfl ⟨k0, x0, x1, x2⟩ (fun hHeld => ?_)
      generalize wr.drew = w0 at k0 x0 x1 x2 HD HRV HBD hHeld ⊢
      refine pure_ (i := 0) (N := some 46) (v := ?_) (a' := ?_) #[true, false, false, false, false, false, false, false, false, false, false, false] rfl rfl (by kernel_rfl) (fun _ _ _ h => h) (Or.inl ⟨by rfl, ?_⟩) ?_ ?_
      rotate_left
      ·intro w'
       go_simp
       with_reducible rfl
      rotate_left
      ·simp only [Act.put, List.setIfInBounds_toArray, List.set_cons_zero, List.set_cons_succ, i64_w, i32_w]
       rfl
      refine pure_ (i := 1) (N := some 47) (v := ?_) (a' := ?_) #[true, true, false, false, false, false, false, false, false, false, false, false] rfl rfl (by kernel_rfl) (fun _ _ _ h => h) (Or.inl ⟨by rfl, ?_⟩) ?_ ?_
      rotate_left
      ·intro w'
       go_simp
       with_reducible rfl
      rotate_left
      ·simp only [Act.put, List.setIfInBounds_toArray, List.set_cons_zero, List.set_cons_succ, i64_w, i32_w]
       rfl
      refine pure_ (i := 2) (N := some 48) (v := ?_) (a' := ?_) #[true, true, true, false, false, false, false, false, false, false, false, false] rfl rfl (by kernel_rfl) (fun _ _ _ h => h) (Or.inl ⟨by rfl, ?_⟩) ?_ ?_
      rotate_left
      ·intro w'
       go_simp
       with_reducible rfl
      rotate_left
      ·simp only [Act.put, List.setIfInBounds_toArray, List.set_cons_zero, List.set_cons_succ, i64_w, i32_w]
       rfl
      refine pure_ (i := 4) (N := some 50) (v := ?_) (a' := ?_) #[true, true, true, false, true, false, false, false, false, false, false, false] rfl rfl (by kernel_rfl) (fun _ _ _ h => h) (Or.inl ⟨by rfl, ?_⟩) ?_ ?_
      rotate_left
      ·intro w'
       go_simp
       with_reducible rfl
      rotate_left
      ·simp only [Act.put, List.setIfInBounds_toArray, List.set_cons_zero, List.set_cons_succ, i64_w, i32_w]
       rfl
      refine pure_ (i := 5) (N := some 51) (v := ?_) (a' := ?_) #[true, true, true, false, true, true, false, false, false, false, false, false] rfl rfl (by kernel_rfl) (fun _ _ _ h => h) (Or.inl ⟨by rfl, ?_⟩) ?_ ?_
      rotate_left
      ·intro w'
       go_simp
       with_reducible rfl
      rotate_left
      ·simp only [Act.put, List.setIfInBounds_toArray, List.set_cons_zero, List.set_cons_succ, i64_w, i32_w]
       rfl
      refine pure_ (i := 6) (N := some 52) (v := ?_) (a' := ?_) #[true, true, true, false, true, true, true, false, false, false, false, false] rfl rfl (by kernel_rfl) (fun _ _ _ h => h) (Or.inl ⟨by rfl, ?_⟩) ?_ ?_
      rotate_left
      ·intro w'
       go_simp
       with_reducible rfl
      rotate_left
      ·simp only [Act.put, List.setIfInBounds_toArray, List.set_cons_zero, List.set_cons_succ, i64_w, i32_w]
       rfl
      refine take_ (i := 3) (N := some 49) (v := ?_) (a' := ?_) #[true, true, true, true, true, true, true, false, false, false, false, false] rfl rfl (by kernel_rfl) (fun _ _ _ h => h) (Or.inl ⟨by rfl, ?_⟩) hHeld ?_ ?_
      rotate_left
      ·rintro w' ⟨s0, s1, s2, s3⟩
       go_simp
       with_reducible rfl
      rotate_left
      ·simp only [Act.put, List.setIfInBounds_toArray, List.set_cons_zero, List.set_cons_succ, i64_w, i32_w]
       rfl
      refine take_ (i := 7) (N := some 53) (v := ?_) (a' := ?_) #[true, true, true, true, true, true, true, true, false, false, false, false] rfl rfl (by kernel_rfl) (fun _ _ _ h => h) (Or.inl ⟨by rfl, ?_⟩) hHeld ?_ ?_
      rotate_left
      ·rintro w' ⟨s0, s1, s2, s3⟩
       go_simp
       with_reducible rfl
      rotate_left
      ·simp only [Act.put, List.setIfInBounds_toArray, List.set_cons_zero, List.set_cons_succ, i64_w, i32_w]
       rfl
      refine one_ (i := 8) (N := some 54) #[true, true, true, true, true, true, true, true, true, false, false, false] rfl rfl (by kernel_rfl) (by decide) (fun K hK => ?_)
      refine value_ (w1 := ?_) (v := ?_) (by rfl) rfl ?_ ?_
      rotate_left 2
      ·go_simp
       constructor
       ·rfl
       ·rfl
      refine hK.out _ _ ⟨((below_alloc (Below.refl w0.heap.size w0) _).cell (World.block_lt_of_cell? _ _ k0)).trans k0, ((below_alloc (Below.refl w0.heap.size w0) _).cell (World.block_lt_of_cell? _ _ x0)).trans x0, ((below_alloc (Below.refl w0.heap.size w0) _).cell (World.block_lt_of_cell? _ _ x1)).trans x1, ((below_alloc (Below.refl w0.heap.size w0) _).cell (World.block_lt_of_cell? _ _ x2)).trans x2⟩ (fun hHeld => ?_)
      clear hK K
      refine norm_ (a' := ?_) ?_ ?_
      rotate_left
      ·show Act.put _ (some 54) _ = _
       simp only [Act.put, List.setIfInBounds_toArray, List.set_cons_zero, List.set_cons_succ, i64_w, i32_w]
       rfl
      refine last_ (i := 9) (N := some 55) #[true, true, true, true, true, true, true, true, true, true, false, false] rfl rfl (by kernel_rfl) (by decide) (fun K hK => ?_)
      refine Kd.R_append_step k29 (w0 := w0) w.heap.size (by rfl) (.tmp 49) (.tmp 54) 22 29 (.agg #[.int .i64 0, .int .i64 0, .string ⟨#[]⟩]) 32 rfl Try.underlying22 infoE rfl (by decide) (by decide) (.slice Ak h.length ck) h x [.int .i64 x.f0, .int .i64 x.f1, .string x.f2] (fun _ => True) (fun _ => False) rfl rfl (k29_mkM w0 w.heap.size _ x) (fun _ h => h.elim) (fun _ _ => trivial) HRV.out (Below.refl _ _) HBD.out.size (by omega) ?_
      intro v1 w1 ho hb hg2 hat
      obtain ⟨A1v, c1v, rfl⟩ := Kd.R_slice ho
      obtain ⟨n1, hn1⟩ : ∃ n1, (h ++ [x]).length = n1 := ⟨_, rfl⟩
      rw [hn1] at ho hat ⊢
      clear hn1
      have HPUT := Aside0.mk (HD.out.put HK.out.1 HK.out.2.1 HK.out.2.2 ho hg2 hat)
      have HB1 := Aside0.mk (HBD.out.trans hb)
      have HBN := Aside0.mk (HB1.out.setCell (p := ⟨gh, k, none⟩) HD.out.1 (.slice A1v n1 c1v))
      have B1 := blk_grown HD.out.2.1 hg2 (Kd.R_ne HRV.out HD.out.2.1 (by decide))
      have c1 : w1.cell? ⟨gh, k, none⟩ = some (.slice Ak h.length ck) := by rw [blk_cell B1 k]; simp [List.getElem?_take, HK.out.1, HK.out.2.1]
      have o1 := blk_frozen B1 k
      clear ho hb hg2 hat B1
      refine hK.out _ _ ?_
      clear hK K
      refine norm_ (a' := ?_) ?_ ?_
      rotate_left
      ·show Act.put _ (some 55) _ = _
       simp only [Act.put, List.setIfInBounds_toArray, List.set_cons_zero, List.set_cons_succ, i64_w, i32_w]
       rfl
      refine pure_ (i := 10) (N := some 56) (v := ?_) (a' := ?_) #[true, true, true, true, true, true, true, true, true, true, true, false] rfl rfl (by kernel_rfl) (fun _ _ _ h => h) (Or.inl ⟨by rfl, ?_⟩) ?_ ?_
      rotate_left
      ·intro w'
       go_simp
       with_reducible rfl
      rotate_left
      ·simp only [Act.put, List.setIfInBounds_toArray, List.set_cons_zero, List.set_cons_succ, i64_w, i32_w]
       rfl
      refine last_ (i := 11) (N := none) #[true, true, true, true, true, true, true, true, true, true, true, true] rfl rfl (by kernel_rfl) (by decide) (fun K hK => ?_)
      refine skip_ (w1 := ?_) ?_ ?_ ?_ ?_
      rotate_left
      ·rfl
      ·rfl
      ·go_simp
       rfl
      refine hK.out _ _ ?_
      clear hK K
      refine done_ (by kernel_rfl) ?_
      have HK2 := HK.out
      go_wp2_with fail
      go_roundw
      case rel => exact ⟨i - 1, _, _, rfl, by have := HI.out.1; omega, by have := HI.out.2.2; omega, HPUT, ⟨by rw [List.getElem?_set_ne (by omega)]; exact HV4.out⟩, ⟨by rw [List.getElem?_set_ne (by omega)]; exact HS4.out⟩, HBN, ⟨by rw [show (i - 1 + 1).toNat = i.toNat by omega, HX.out]; exact (flat_set x hs k h HK2.2.2).trans (HP.out.cons x)⟩⟩
      case measure => have := HI.out.1; simp [intOf]; omega
    ·have b1 : decide (0 ≤ i) = false := decide_eq_false i0
     obtain rfl : i = -1 := by omega
     clear i0 i1 il
     have hp : hs.flatten.Perm (l ++ l) := by have h := HP.out; simpa using h
     obtain ⟨h0, h1, h2, h3, h4, rfl⟩ := five HH.out.2.2.2.1
     obtain ⟨v0, v1, v2, v3, v4, rfl⟩ := five HH.out.2.2.1
     obtain rfl : h4 = l := Option.some.inj HS4.out
     obtain rfl : v4 = _ := Option.some.inj HV4.out
     have r0 := HH.out.2.2.2.2.1 0 _ _ rfl rfl
     have r1 := HH.out.2.2.2.2.1 1 _ _ rfl rfl
     have r2 := HH.out.2.2.2.2.1 2 _ _ rfl rfl
     have r3 := HH.out.2.2.2.2.1 3 _ _ rfl rfl
     have r4 := HH.out.2.2.2.2.1 4 _ _ rfl rfl
     obtain ⟨A0, c0, rfl⟩ := Kd.R_slice r0
     obtain ⟨A1_, c1_, rfl⟩ := Kd.R_slice r1
     obtain ⟨A2_, c2_, rfl⟩ := Kd.R_slice r2
     obtain ⟨A3, c3, rfl⟩ := Kd.R_slice r3
     have k0 : wr.cell? ⟨gh, 0, none⟩ = some (.slice A0 h0.length c0) := HH.out.cell (by decide) rfl
     have k1 : wr.cell? ⟨gh, 1, none⟩ = some (.slice A1_ h1.length c1_) := HH.out.cell (by decide) rfl
     have k2 : wr.cell? ⟨gh, 2, none⟩ = some (.slice A2_ h2.length c2_) := HH.out.cell (by decide) rfl
     have k3 : wr.cell? ⟨gh, 3, none⟩ = some (.slice A3 h3.length c3) := HH.out.cell (by decide) rfl
     have HR0 := Aside0.mk r0
     have HR1_ := Aside0.mk r1
     have HR2_ := Aside0.mk r2
     have HR3 := Aside0.mk r3
     have HR4 := Aside0.mk r4
     have hw := (mayB_lt _ _ _ HM.out).2
     have HSS := Aside0.mk (sort_uniq (dbl_sorted _ hw) ((dbl_perm _).trans hp.symm))
     have HCS := Aside0.mk (dbl_comp _ hw)
     have HLF := Aside0.mk hp.length_eq
     have HMM := Aside0.mk (show edit_May.f 100 h4 9223372036854775807 = some true from by rw [may_f 100 h4 _ (by omega) (by omega) (by omega) (by omega), mayB_more (by omega) _ _ HM.out])
     clear r0 r1 r2 r3 r4 hw hp HP HS4 HV4 HH
     go_wp2_with (first | ((with_reducible refine gate_dst (N := 67) rfl ?_); (try (refine gate_guard (by rfl) ?_; dsimp only)); refine Kd.R_lit (Kd.slice 29 k29) w.heap.size 22 ?hg (N := 67) ?hd (xs := [h0, h1, h2, h3, h4]) (inner := [.slice A0 h0.length c0, .slice A1_ h1.length c1_, .slice A2_ h2.length c2_, .slice A3 h3.length c3, .slice Al h4.length cl]) (ok := fun _ => True) (okp := fun _ => True) ?hr ?hp (fun _ hk => hk) trivial HB.out HB.out.size (by simp) ?_; (case hd => rfl); (case hg => rfl); (case hr => first | (go_simp; done) | (go_simp; rfl)); (case hp => exact (Reps.c1 (show Kd.M (Kd.slice 29 k29) _ _ _ h0 [.slice A0 h0.length c0] from ⟨_, rfl, HR0.out⟩) (Reps.c1 (show Kd.M (Kd.slice 29 k29) _ _ _ h1 [.slice A1_ h1.length c1_] from ⟨_, rfl, HR1_.out⟩) (Reps.c1 (show Kd.M (Kd.slice 29 k29) _ _ _ h2 [.slice A2_ h2.length c2_] from ⟨_, rfl, HR2_.out⟩) (Reps.c1 (show Kd.M (Kd.slice 29 k29) _ _ _ h3 [.slice A3 h3.length c3] from ⟨_, rfl, HR3.out⟩) (Reps.c1 (show Kd.M (Kd.slice 29 k29) _ _ _ h4 [.slice Al h4.length cl] from ⟨_, rfl, HR4.out⟩) (Reps.none _ _))))))); intro vlf wlf ho hb hg hnew; obtain ⟨Alf, clf, rfl⟩ := Kd.R_slice ho; have HOf := Aside0.mk ho; have HBf := Aside0.mk hb; have HGf := Aside0.mk (Below.grown (Below.refl _ _) hg (Nat.le_refl _) (fun _ hk => nomatch hk)); clear ho hb hg hnew))
     refine (all_c 100 _ _ [h0, h1, h2, h3, h4] _ (dbl h4) h4 true _ (Kd.R_reads' HOf.out).2.2 (Kd.R_reads' HOf.out).2.1 (by simp) rfl HSS.out HCS.out (by rw [HLF.out, List.length_append]; omega) (by rw [(dbl_perm _).length_eq, List.length_append]; omega) HMM.out).mono ?_
     rintro e w5 ⟨v5, rfl, ho, hb⟩
     rw [if_pos rfl] at ho
     obtain ⟨A5, c5, rfl⟩ := Kd.R_slice ho
     have HB5 := Aside0.mk (below_step HBf.out hb)
     have HO5 := Aside0.mk ho
     have HR5 := Aside0.mk (Kd.R_below (Kd.R_below HR4.out HGf.out) hb)
     clear ho hb
     go_wp2_with (first | (go_at_call 12; refine (recensionlaw9_eq.calls 100 A5 c5 h4 Al cl h4 true _ (Kd.R_reads' HO5.out).2.2 (Kd.R_reads' HO5.out).2.1 (Kd.R_reads' HR5.out).2.2 (Kd.R_reads' HR5.out).2.1 (eq_self 100 h4 (by omega) (by omega))).mono ?_; rintro e w6 ⟨rfl, ⟨nd, rfl⟩⟩; have HB6 := Aside0.mk (pw_below_drewN HB5.out nd)))
     go_ret
     exact ⟨rfl, HB6.out⟩
  ·have hm2 : mayB (-1) (t.size : Int) l = false := by simpa using hm
   rw [hm2]
   clear hm
   go_wp2_with fail
   go_ret
   exact ⟨rfl, HB3.out⟩
def recensionlaw9_MergeHands.f (_ : Nat) (_ : ByteArray) (_ : List S29) (_ : List Int) : Option Bool := some true
theorem recensionlaw9_MergeHands.calls (k : Nat) (a0 : ByteArray) (A1 : Option Addr) (c1 : Nat) (l1 : List (S29)) (A2 : Option Addr) (c2 : Nat) (l2 : List (Int)) (r : Bool) (w : World) (hr1 : Kd.C k29 w A1 l1.length l1) (hc1 : l1.length ≤ c1) (hr2 : Kd.C (Kd.int .i64) w A2 l2.length l2) (hc2 : l2.length ≤ c2) (hrt : Aside0 (r = true)) (h : recensionlaw9_MergeHands.f k a0 l1 l2 = some r) :
  Calls Try.prog 5 #[.string a0, .slice A1 l1.length c1, .slice A2 l2.length c2] w fun e w' => e = .returned (.bool r) ∧ Below w.heap.size w w' := by
 obtain rfl := hrt.out
 exact hands_walk a0 A1 c1 l1 A2 c2 l2 w hr1 hc1 hr2

def g29 (x : S29) : Prop := ((Lit.int .i64 x.f0).wf = true) ∧ ((Lit.int .i64 x.f1).wf = true) ∧ (x.f2.size ≤ 140737488351232)
theorem o29 : Opens Try.prog 29 k29 g29 := by
 intro H enc w spare held fuel cs x h hw
 obtain ⟨xs, n, _, rfl, hlen, hxl, hf⟩ := DataW.trod_struct Try.underlying29 h
 have hn : cs.length = 3 := hlen.trans (by kernel_rfl)
 obtain ⟨a0, K0, G0⟩ := opens_field Try.underlying29 hw hxl hf (i := 0) (T := 3) (O := 0) (S := 1) rfl rfl rfl (by kernel_rfl) (opens_int Try.underlying3)
 obtain ⟨a1, K1, G1⟩ := opens_field Try.underlying29 hw hxl hf (i := 1) (T := 3) (O := 1) (S := 1) rfl rfl rfl (by kernel_rfl) (opens_int Try.underlying3)
 obtain ⟨a2, K2, G2⟩ := opens_field Try.underlying29 hw hxl hf (i := 2) (T := 9) (O := 2) (S := 1) rfl rfl rfl (by kernel_rfl) (opens_string Try.underlying9)
 rw [cut_last hn (by rfl)] at K2
 exact ⟨⟨a0, a1, a2⟩, ⟨_, _, cut_first cs 1, K0, ⟨_, _, cut_at cs 1 1 2 rfl, K1, K2⟩⟩, G0, G1, G2⟩
/-- THE ONE PURE STATEMENT of recensionlaw9_MergeHands: yours. -/
def recensionlaw9_MergeHands.Pure : Prop := ∀ (a0 : ByteArray) (l1 : List (S29)) (l2 : List Int), (a0.size ≤ 140737488351232) → (l1.length ≤ maxLen ∧ l1.length * 32 ≤ 140737488351232 ∧ ∀ y_ ∈ l1, g29 y_) → (l2.length ≤ maxLen ∧ l2.length * 8 ≤ 140737488351232 ∧ ∀ y_ ∈ l2, (Lit.int .i64 y_).wf = true) → ∃ k, recensionlaw9_MergeHands.f k a0 l1 l2 = some true
theorem recensionlaw9_MergeHands.walk (P : recensionlaw9_MergeHands.Pure) (a0 : ByteArray) (A1 : Option Addr) (c1 : Nat) (l1 : List (S29)) (A2 : Option Addr) (c2 : Nat) (l2 : List Int) (w : World) (G0 : a0.size ≤ 140737488351232) (hr1 : Kd.C k29 w A1 l1.length l1) (hc1 : l1.length ≤ c1) (G1 : l1.length ≤ maxLen ∧ l1.length * 32 ≤ 140737488351232 ∧ ∀ y_ ∈ l1, g29 y_) (hr2 : Kd.C (Kd.int .i64) w A2 l2.length l2) (hc2 : l2.length ≤ c2) (G2 : l2.length ≤ maxLen ∧ l2.length * 8 ≤ 140737488351232 ∧ ∀ y_ ∈ l2, (Lit.int .i64 y_).wf = true) :
  Calls Try.prog 5 #[.string a0, .slice A1 l1.length c1, .slice A2 l2.length c2] w fun e w' => e = .returned (.bool true) ∧ Below w.heap.size w w' := by
 obtain ⟨k, h⟩ := P a0 l1 l2 G0 G1 G2
 refine (recensionlaw9_MergeHands.calls k a0 A1 c1 l1 A2 c2 l2 true w hr1 hc1 hr2 hc2 ⟨rfl⟩ h).mono ?_
 rintro e w' ⟨rfl, hd⟩
 exact ⟨rfl, hd⟩
end Go.Proofs.Yteikeoeidaaiaaa.PMerge
