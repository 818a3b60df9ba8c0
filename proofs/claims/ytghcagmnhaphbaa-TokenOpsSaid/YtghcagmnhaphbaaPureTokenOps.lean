/- Any two operators, behind any third one or a name: the code lays a blank between them just where the answer does, knows each as an operator and tells its rank. Condition: none beside the statement's own. -/
import Derived.Test.YtghcagmnhaphbaaPTokenOpsx5
namespace Go.Proofs.Ytghcagmnhaphbaa.Pure
open Go.RowKit Go.Proofs.Ytghcagmnhaphbaa.PTokenOps Go.Proofs.YtghcagmnhaphbaaW.PrintWords Go.Proofs.YtghcagmnhaphbaaW.PrintLast Go.Proofs.YtghcagmnhaphbaaW.PrintMore
theorem wrap_up {i : Int} {n : Nat} (h0 : 0 ≤ i) (h : i < (n : Int)) (hn : n ≤ 140737488351232) : wrap64 (i + 1) = i + 1 := by
  unfold wrap64
  omega
theorem rd_at (l : List ByteArray) (i : Int) (h0 : 0 ≤ i) (h : i < (l.length : Int)) : (rdOf ByteArray.empty l i).toList = (l.map ByteArray.toList)[i.toNat]'(by rw [List.length_map]; omega) := by
  have hr : rdOf ByteArray.empty l i = l[i.toNat]'(by omega) := by
    unfold rdOf; rw [List.getD_eq_getElem?_getD, List.getElem?_eq_getElem (by omega)]; rfl
  rw [hr]; simp
theorem in_l0 (s : ByteArray) (l : List ByteArray) (hn : l.length ≤ 1000) (d : Nat) : ∀ (k : Nat) (i : Int), 0 ≤ i → (l.length : Int) - i = d → d < k → recensionref1_in.l0 k s l i = some (decide (s.toList ∈ (l.map ByteArray.toList).drop i.toNat)) := by
  induction d with
  | zero =>
    intro k i h0 hd hk
    obtain ⟨k, rfl⟩ : ∃ m, k = m + 1 := ⟨k - 1, by omega⟩
    simp only [recensionref1_in.l0]
    rw [if_neg (by omega), List.drop_of_length_le (by rw [List.length_map]; omega)]; simp
  | succ d ih =>
    intro k i h0 hd hk
    obtain ⟨k, rfl⟩ : ∃ m, k = m + 1 := ⟨k - 1, by omega⟩
    have hlt : i < (l.length : Int) := by omega
    have hlt' : i.toNat < (l.map ByteArray.toList).length := by rw [List.length_map]; omega
    have hw : wrap64 (i + 1) = i + 1 := wrap_up h0 hlt (by omega)
    have e1 : (i + 1).toNat = i.toNat + 1 := by omega
    simp only [recensionref1_in.l0]
    rw [if_pos hlt, if_pos h0, hw, ih k (i + 1) (by omega) (by omega) (by omega), List.drop_eq_getElem_cons hlt', rd_at l i h0 hlt, e1]
    by_cases e : (l.map ByteArray.toList)[i.toNat] = s.toList
    · rw [if_pos e, ← e]; simp
    · rw [if_neg e]; have e' : ¬ s.toList = (l.map ByteArray.toList)[i.toNat] := fun h => e h.symm
      congr 1; rw [decide_eq_decide, List.mem_cons]; simp only [e', false_or]
theorem in_m (k : Nat) (s : ByteArray) (l : List ByteArray) (L : List (List UInt8)) (hl : l.map ByteArray.toList = L) (hn : l.length ≤ 20) (hk : 22 ≤ k) : recensionref1_in.f k s l = some (decide (s.toList ∈ L)) := by
  unfold recensionref1_in.f
  rw [in_l0 s l (by omega) l.length k 0 (by omega) (by omega) (by omega), ← hl]; rfl
theorem ix_l0 (s : ByteArray) (l : List ByteArray) (hn : l.length ≤ 1000) (d : Nat) : ∀ (k : Nat) (i : Int), 0 ≤ i → (l.length : Int) - i = d → d < k → ∃ r, slices_Index_string_string.l0 k l s (l.length : Int) i = some r ∧ decide (r ≥ 0) = decide (s.toList ∈ (l.map ByteArray.toList).drop i.toNat) := by
  induction d with
  | zero =>
    intro k i h0 hd hk
    obtain ⟨k, rfl⟩ : ∃ m, k = m + 1 := ⟨k - 1, by omega⟩
    simp only [slices_Index_string_string.l0]
    rw [if_neg (by omega), List.drop_of_length_le (by rw [List.length_map]; omega)]; exact ⟨_, rfl, by simp⟩
  | succ d ih =>
    intro k i h0 hd hk
    obtain ⟨k, rfl⟩ : ∃ m, k = m + 1 := ⟨k - 1, by omega⟩
    have hlt : i < (l.length : Int) := by omega
    have hlt' : i.toNat < (l.map ByteArray.toList).length := by rw [List.length_map]; omega
    have hw : wrap64 (i + 1) = i + 1 := wrap_up h0 hlt (by omega)
    have e1 : (i + 1).toNat = i.toNat + 1 := by omega
    obtain ⟨r, hr1, hr2⟩ := ih k (i + 1) (by omega) (by omega) (by omega)
    simp only [slices_Index_string_string.l0]
    rw [if_pos hlt, if_pos h0, if_pos hlt, hw, List.drop_eq_getElem_cons hlt', rd_at l i h0 hlt]
    by_cases e : s.toList = (l.map ByteArray.toList)[i.toNat]
    · rw [if_pos e, ← e]; exact ⟨_, rfl, by simp [h0]⟩
    · rw [if_neg e]; refine ⟨r, hr1, ?_⟩
      rw [hr2, e1, decide_eq_decide, List.mem_cons]; simp only [e, false_or]
theorem has_m (k : Nat) (s : ByteArray) (l : List ByteArray) (L : List (List UInt8)) (hl : l.map ByteArray.toList = L) (hn : l.length ≤ 20) (hk : 22 ≤ k) : slices_Contains_string_string.f k l s = some (decide (s.toList ∈ L)) := by
  unfold slices_Contains_string_string.f slices_Index_string_string.f
  obtain ⟨r, h1, h2⟩ := ix_l0 s l (by omega) l.length k 0 (by omega) (by omega) (by omega)
  rw [h1, ← hl]; simp only [Option.bind_some, h2]; rfl
def isP (kind : Int) (t : ByteArray) (L : List (List UInt8)) : Prop := kind = 4 ∧ t.toList ∈ L
instance (kind : Int) (t : ByteArray) (L : List (List UInt8)) : Decidable (isP kind t L) := by unfold isP; infer_instance
theorem is_m (k : Nat) (a0 : Int) (a1 : ByteArray) (a2 a3 : Int) (a4 : Bool) (l : List ByteArray) (L : List (List UInt8)) (hl : l.map ByteArray.toList = L) (hn : l.length ≤ 20) (hk : 22 ≤ k) : token_is.f k a0 a1 a2 a3 a4 l = some (decide (isP a0 a1 L)) := by
  unfold token_is.f isP
  by_cases h : a0 = 4
  · rw [if_pos h, has_m k a1 l L hl hn hk]; simp [h]
  · rw [if_neg h]; simp [h]

def rankB (t : List UInt8) : Int := if t = [124, 124] then 1 else if t = [38, 38] then 2 else if t ∈ [[61, 61], [33, 61], [60]] then 3 else if t ∈ [[43], [45]] then 4 else if t = [42] then 5 else 0
theorem rank_f (k : Nat) (s : ByteArray) : token_Rank.f (k + 2) s = some (rankB s.toList) := by
  unfold token_Rank.f rankB
  simp only [token_Rank.j0, token_Rank.j1]
  generalize s.toList = t
  by_cases h1 : t = [124, 124]
  · simp [h1]
  by_cases h2 : t = [38, 38]
  · simp [h2]
  by_cases h3 : t = [61, 61]
  · simp [h3]
  by_cases h4 : t = [33, 61]
  · simp [h4]
  by_cases h5 : t = [60]
  · simp [h5]
  by_cases h6 : t = [43]
  · simp [h6]
  by_cases h7 : t = [45]
  · simp [h7]
  by_cases h8 : t = [42]
  · simp [h8]
  simp [h1, h2, h3, h4, h5, h6, h7, h8]
theorem rrank_f (k : Nat) (s : ByteArray) (hk : 22 ≤ k) : recensionref1_Rank.f (k + 6) s = some (rankB s.toList) := by
  unfold recensionref1_Rank.f rankB
  have w0 : wrap64 (0 + 1) = 1 := by decide +kernel
  have w1 : wrap64 (1 + 1) = 2 := by decide +kernel
  have w2 : wrap64 (2 + 1) = 3 := by decide +kernel
  have w3 : wrap64 (3 + 1) = 4 := by decide +kernel
  have w4 : wrap64 (4 + 1) = 5 := by decide +kernel
  simp only [recensionref1_Rank.l0, rd_L1, List.length_cons, List.length_nil, List.getD_cons_zero, List.getD_cons_succ, Int.toNat_zero, w0, w1, w2, w3, w4, Int.reduceToNat]
  rw [in_m _ s [(⟨#[124, 124]⟩ : ByteArray)] [[124, 124]] (by decide +kernel) (by decide) (show 22 ≤ k + 5 by omega), in_m _ s [(⟨#[38, 38]⟩ : ByteArray)] [[38, 38]] (by decide +kernel) (by decide) (show 22 ≤ k + 4 by omega), in_m _ s [(⟨#[61, 61]⟩ : ByteArray), (⟨#[33, 61]⟩ : ByteArray), (⟨#[60]⟩ : ByteArray)] [[61, 61], [33, 61], [60]] (by decide +kernel) (by decide) (show 22 ≤ k + 3 by omega), in_m _ s [(⟨#[43]⟩ : ByteArray), (⟨#[45]⟩ : ByteArray)] [[43], [45]] (by decide +kernel) (by decide) (show 22 ≤ k + 2 by omega), in_m _ s [(⟨#[42]⟩ : ByteArray)] [[42]] (by decide +kernel) (by decide) (show 22 ≤ k + 1 by omega)]
  simp only [Option.bind_some]
  generalize s.toList = t
  simp only [List.mem_cons, List.not_mem_nil, or_false, decide_eq_true_eq]
  by_cases h1 : t = [124, 124]
  · simp [h1]
  by_cases h2 : t = [38, 38]
  · simp [h2]
  by_cases h3 : t = [61, 61] ∨ t = [33, 61] ∨ t = [60]
  · simp only [h1, h2, h3, if_true, if_false]; decide
  by_cases h4 : t = [43] ∨ t = [45]
  · simp only [h1, h2, h3, h4, if_true, if_false]; decide
  by_cases h5 : t = [42]
  · simp [h5]
  simp only [h1, h2, h3, h4, h5, if_false]; simp
def operandB (k : Int) (t : List UInt8) : Bool := decide (k = 1) || decide (k = 2) || decide (k = 3) || (decide (k = 4) && decide (t = [41]))
theorem operand_f (a0 : Int) (a1 : ByteArray) (a2 a3 : Int) (a4 : Bool) : recensionref1_operand.f a0 a1 a2 a3 a4 = some (operandB a0 a1.toList) := by
  unfold recensionref1_operand.f operandB
  by_cases h1 : a0 = 1
  · simp [h1]
  by_cases h2 : a0 = 2
  · simp [h2]
  by_cases h3 : a0 = 3
  · simp [h3]
  by_cases h4 : a0 = 4
  · simp [h4]
    by_cases h : a1.toList = [41] <;> simp [h]
  simp [h1, h2, h3, h4]
theorem value_f (k : Nat) (hk : 22 ≤ k) (a0 : Int) (a1 : ByteArray) (a2 a3 : Int) (a4 : Bool) : token_value.f k a0 a1 a2 a3 a4 = some (operandB a0 a1.toList) := by
  unfold token_value.f operandB
  rw [is_m k a0 a1 a2 a3 a4 _ [[41]] (by decide +kernel) (by decide) hk]
  by_cases h1 : a0 = 1
  · simp [h1]
  by_cases h2 : a0 = 2
  · simp [h2]
  by_cases h3 : a0 = 3
  · simp [h3]
  simp [h1, h2, h3, isP]
def opX (k : Int) (t : ByteArray) : ByteArray := if k = 4 then t else ⟨#[]⟩
theorem opX_eq (k : Int) (t : ByteArray) (L : List UInt8) (hL : L ≠ []) : ((opX k t).toList = L) = isP k t [L] := by
  unfold opX isP
  have e0 : (⟨#[]⟩ : ByteArray).toList = [] := by decide +kernel
  by_cases h : k = 4
  · simp [h]
  · simp [h, e0]; exact fun e => hL e
theorem isP_or (k : Int) (t : ByteArray) (L : List UInt8) (Ls : List (List UInt8)) : isP k t (L :: Ls) ↔ isP k t [L] ∨ isP k t Ls := by
  unfold isP; simp only [List.mem_cons, List.not_mem_nil, or_false]
  exact ⟨fun ⟨a, b⟩ => b.elim (fun b => Or.inl ⟨a, b⟩) (fun b => Or.inr ⟨a, b⟩), fun h => h.elim (fun ⟨a, b⟩ => ⟨a, Or.inl b⟩) (fun ⟨a, b⟩ => ⟨a, Or.inr b⟩)⟩
def spaceP (v : Bool) (ak : Int) (at_ : ByteArray) (bk : Int) (bt_ : ByteArray) : Bool :=
  !(decide (isP ak at_ [[40], [46], [33]]) || (decide (isP ak at_ [[45]]) && !v) || decide (isP bk bt_ [[41], [44], [46], [58]]) || (decide (isP bk bt_ [[40]]) && (decide (ak = 1) || decide (isP ak at_ [[41]]))) || (decide (isP ak at_ [[123]]) && decide (isP bk bt_ [[125]])))
theorem space_f (k : Nat) (hk : 24 ≤ k) (a0 : Int) (a1 : ByteArray) (a2 a3 : Int) (a4 : Bool) (b0 : Int) (b1 : ByteArray) (b2 b3 : Int) (b4 : Bool) (c0 : Int) (c1 : ByteArray) (c2 c3 : Int) (c4 : Bool) : token_Space.f k a0 a1 a2 a3 a4 b0 b1 b2 b3 b4 c0 c1 c2 c3 c4 = some (spaceP (operandB a0 a1.toList) b0 b1 c0 c1) := by
  obtain ⟨m, rfl⟩ : ∃ m, k = m + 2 := ⟨k - 2, by omega⟩
  unfold token_Space.f spaceP
  simp only [token_Space.j0, token_Space.j1]
  rw [is_m (m + 2) b0 b1 b2 b3 b4 _ [[40], [46], [33]] (by decide +kernel) (by decide) (by omega),
    is_m (m + 2) b0 b1 b2 b3 b4 _ [[45]] (by decide +kernel) (by decide) (by omega), value_f (m + 2) (by omega),
    is_m (m + 1) c0 c1 c2 c3 c4 _ [[41], [44], [46], [58]] (by decide +kernel) (by decide) (by omega),
    is_m (m + 1) c0 c1 c2 c3 c4 _ [[40]] (by decide +kernel) (by decide) (by omega),
    is_m (m + 1) b0 b1 b2 b3 b4 _ [[41]] (by decide +kernel) (by decide) (by omega),
    is_m m b0 b1 b2 b3 b4 _ [[123]] (by decide +kernel) (by decide) (by omega),
    is_m m c0 c1 c2 c3 c4 _ [[125]] (by decide +kernel) (by decide) (by omega)]
  simp only [Option.bind_some]
  generalize decide (isP b0 b1 [[40], [46], [33]]) = x1
  generalize decide (isP b0 b1 [[45]]) = x2
  generalize decide (isP c0 c1 [[41], [44], [46], [58]]) = x3
  generalize decide (isP c0 c1 [[40]]) = x4
  generalize decide (isP b0 b1 [[41]]) = x5
  generalize decide (isP b0 b1 [[123]]) = x6
  generalize decide (isP c0 c1 [[125]]) = x7
  generalize operandB a0 a1.toList = v
  by_cases h : b0 = 1
  · simp only [h, if_true, decide_true]
    revert x1 x2 x3 x4 x5 x6 x7 v; decide
  · simp only [h, if_false, decide_false]
    revert x1 x2 x3 x4 x5 x6 x7 v; decide
theorem rspace_f (k : Nat) (hk : 6 ≤ k) (a0 : Int) (a1 : ByteArray) (a2 a3 : Int) (a4 : Bool) (b0 : Int) (b1 : ByteArray) (b2 b3 : Int) (b4 : Bool) (c0 : Int) (c1 : ByteArray) (c2 c3 : Int) (c4 : Bool) : recensionref1_Space.f k a0 a1 a2 a3 a4 b0 b1 b2 b3 b4 c0 c1 c2 c3 c4 = some (spaceP (operandB a0 a1.toList) b0 b1 c0 c1) := by
  obtain ⟨m, rfl⟩ : ∃ m, k = m + 5 := ⟨k - 5, by omega⟩
  have H : recensionref1_Space.f (m + 5) a0 a1 a2 a3 a4 b0 b1 b2 b3 b4 c0 c1 c2 c3 c4 = recensionref1_Space.j1 (m + 4) (opX b0 b1) (opX c0 c1) a0 a1 a2 a3 a4 b0 b1 b2 b3 b4 := by
    unfold recensionref1_Space.f opX
    simp only [recensionref1_Space.j0]
    by_cases h : b0 = 4 <;> by_cases h' : c0 = 4 <;> simp only [h, h', if_true, if_false]
  rw [H]
  have q1 : ∀ L : List UInt8, L ≠ [] → ((opX b0 b1).toList == L) = decide (isP b0 b1 [L]) := fun L hL => by rw [Bool.eq_iff_iff, beq_iff_eq, decide_eq_true_iff, opX_eq _ _ _ hL]
  have q2 : ∀ L : List UInt8, L ≠ [] → ((opX c0 c1).toList == L) = decide (isP c0 c1 [L]) := fun L hL => by rw [Bool.eq_iff_iff, beq_iff_eq, decide_eq_true_iff, opX_eq _ _ _ hL]
  have p1 : ∀ L : List UInt8, L ≠ [] → ((opX b0 b1).toList = L) = (decide (isP b0 b1 [L]) = true) := fun L hL => by rw [decide_eq_true_iff, opX_eq _ _ _ hL]
  have p2 : ∀ L : List UInt8, L ≠ [] → ((opX c0 c1).toList = L) = (decide (isP c0 c1 [L]) = true) := fun L hL => by rw [decide_eq_true_iff, opX_eq _ _ _ hL]
  unfold spaceP
  simp only [recensionref1_Space.j1, recensionref1_Space.j2, recensionref1_Space.j3, recensionref1_Space.j4, operand_f, Option.bind_some, isP_or b0 b1 [40] [[46], [33]], isP_or b0 b1 [46] [[33]], isP_or c0 c1 [41] [[44], [46], [58]], isP_or c0 c1 [44] [[46], [58]], isP_or c0 c1 [46] [[58]]]
  simp only [p1 _ (show [40] ≠ [] by decide), p1 _ (show [46] ≠ [] by decide), p1 _ (show [33] ≠ [] by decide), p1 _ (show [45] ≠ [] by decide), p1 _ (show [123] ≠ [] by decide), q1 _ (show [41] ≠ [] by decide), p2 _ (show [41] ≠ [] by decide), p2 _ (show [44] ≠ [] by decide), p2 _ (show [46] ≠ [] by decide), q2 _ (show [58] ≠ [] by decide), p2 _ (show [40] ≠ [] by decide), p2 _ (show [125] ≠ [] by decide), Bool.decide_or]
  generalize decide (isP b0 b1 [[40]]) = x1
  generalize decide (isP b0 b1 [[46]]) = x2
  generalize decide (isP b0 b1 [[33]]) = x3
  generalize decide (isP b0 b1 [[45]]) = x4
  generalize decide (isP b0 b1 [[41]]) = x5
  generalize decide (isP b0 b1 [[123]]) = x6
  generalize decide (isP c0 c1 [[41]]) = y1
  generalize decide (isP c0 c1 [[44]]) = y2
  generalize decide (isP c0 c1 [[46]]) = y3
  generalize decide (isP c0 c1 [[58]]) = y4
  generalize decide (isP c0 c1 [[40]]) = y5
  generalize decide (isP c0 c1 [[125]]) = y6
  generalize operandB a0 a1.toList = v
  by_cases h : b0 = 1
  · simp only [h, if_true, decide_true]
    cases x1 <;> cases x2 <;> cases x3 <;> try rfl
    cases x4 <;> cases v <;> cases y1 <;> cases y2 <;> cases y3 <;> try rfl
    all_goals (cases y4 <;> cases y5 <;> try rfl)
    all_goals (cases x5 <;> cases x6 <;> cases y6 <;> rfl)
  · simp only [h, if_false, decide_false]
    cases x1 <;> cases x2 <;> cases x3 <;> try rfl
    cases x4 <;> cases v <;> cases y1 <;> cases y2 <;> cases y3 <;> try rfl
    all_goals (cases y4 <;> cases y5 <;> try rfl)
    all_goals (cases x5 <;> cases x6 <;> cases y6 <;> rfl)
theorem begun_k (k : Nat) (h : 60 ≤ k) : recensionlaw5_begun.f k = some true := at_rounds (fun k => recensionlaw5_begun.mono k) h (by decide +kernel)
theorem at18 (a : Int) : 0 ≤ Int.tmod (wrap64 ((Int.tmod a 18) + 18)) 18 ∧ Int.tmod (wrap64 ((Int.tmod a 18) + 18)) 18 < 18 := by
  have hb : -18 < Int.tmod a 18 ∧ Int.tmod a 18 < 18 := ⟨Int.lt_tmod_of_pos a (by decide), Int.tmod_lt_of_pos a (by decide)⟩
  obtain ⟨hb1, hb2⟩ := hb
  generalize Int.tmod a 18 = t at hb1 hb2 ⊢
  have ew : wrap64 (t + 18) = t + 18 := by unfold wrap64; omega
  rw [ew, Int.tmod_eq_emod_of_nonneg (by omega : 0 ≤ t + 18)]
  omega
def opB : List ByteArray := [(⟨#[40]⟩ : ByteArray), (⟨#[41]⟩ : ByteArray), (⟨#[123]⟩ : ByteArray), (⟨#[125]⟩ : ByteArray), (⟨#[44]⟩ : ByteArray), (⟨#[46]⟩ : ByteArray), (⟨#[58]⟩ : ByteArray), (⟨#[58, 61]⟩ : ByteArray), (⟨#[61]⟩ : ByteArray), (⟨#[61, 61]⟩ : ByteArray), (⟨#[33, 61]⟩ : ByteArray), (⟨#[60]⟩ : ByteArray), (⟨#[43]⟩ : ByteArray), (⟨#[45]⟩ : ByteArray), (⟨#[42]⟩ : ByteArray), (⟨#[33]⟩ : ByteArray), (⟨#[38, 38]⟩ : ByteArray), (⟨#[124, 124]⟩ : ByteArray)]
theorem op_yes (k : Nat) (hk : 22 ≤ k) (i : Int) (h0 : 0 ≤ i) (h1 : i < 18) : token_Op.f k (rdOf ByteArray.empty opB i) = some true := by
  unfold token_Op.f
  rw [has_m k _ _ _ rfl (by decide) hk]
  have : (rdOf ByteArray.empty opB i).toList ∈ opB.map ByteArray.toList := by
    rw [rd_at opB i h0 (by show i < (18 : Int); exact h1)]
    exact List.getElem_mem _
  have e := decide_eq_true this
  show ((some (decide ((rdOf ByteArray.empty opB i).toList ∈ opB.map ByteArray.toList))).bind fun t => some t) = some true
  rw [e]
  rfl
theorem tail_f (k : Nat) (hk : 60 ≤ k) (i : Int) (h0 : 0 ≤ i) (h1 : i < 18) (b c : ByteArray) (p : Int) :
    recensionlaw5_TokenOps.j0 (k + 1) 4 (rdOf ByteArray.empty opB i) 0 0 false 4 b 0 0 false p c 0 0 false = some true := by
  obtain ⟨n, rfl⟩ : ∃ n, k = n + 6 := ⟨k - 6, by omega⟩
  have hr1 := rank_f (n + 4) (rdOf ByteArray.empty opB i)
  have hr2 := rrank_f n (rdOf ByteArray.empty opB i) (by omega)
  simp only [recensionlaw5_TokenOps.j0, recensionlaw5_word.f, Option.bind_some, space_f (n + 6) (by omega), rspace_f (n + 6) (by omega), beq_self_eq_true, if_true, op_yes (n + 6) (by omega) i h0 h1, hr1, hr2]
theorem TokenOps : recensionlaw5_TokenOps.Pure := by
  intro a b c z _ _ _
  obtain ⟨k, hk⟩ : ∃ k, k = 100 := ⟨_, rfl⟩
  refine ⟨k + 1, ?_⟩
  obtain ⟨a0, a1⟩ := at18 a
  obtain ⟨b0, b1⟩ := at18 b
  obtain ⟨c0, c1⟩ := at18 c
  unfold recensionlaw5_TokenOps.f
  rw [begun_k (k + 1) (by omega), Option.bind_some, if_pos rfl]
  show (some opB).bind _ = _
  rw [Option.bind_some]
  have hn : (opB.length : Int) = 18 := rfl
  generalize Int.tmod (wrap64 ((Int.tmod a 18) + 18)) 18 = i at a0 a1 ⊢
  generalize Int.tmod (wrap64 ((Int.tmod b 18) + 18)) 18 = j at b0 b1 ⊢
  generalize Int.tmod (wrap64 ((Int.tmod c 18) + 18)) 18 = m at c0 c1 ⊢
  simp only [hn, a0, a1, b0, b1, c0, c1, if_true, recensionlaw5_op.f, recensionlaw5_word.f, Option.bind_some]
  cases z
  · rw [if_neg (by decide)]; exact tail_f k (by omega) i a0 a1 _ _ _
  · rw [if_pos rfl]; exact tail_f k (by omega) i a0 a1 _ _ _

end Go.Proofs.Ytghcagmnhaphbaa.Pure
