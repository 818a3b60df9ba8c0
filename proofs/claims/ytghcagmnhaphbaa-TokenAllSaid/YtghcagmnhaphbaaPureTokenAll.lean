/- Of any word and any three tokens, cut to length: the code and the answer tell the same operators, ranks, ends and blanks, and Unary and Eq are what the statement says. Condition: none beside the statement's own. -/
import Derived.Test.YtghcagmnhaphbaaPTokenAllx6
namespace Go.Proofs.Ytghcagmnhaphbaa.Pure
open Go.RowKit Go.Proofs.Ytghcagmnhaphbaa.PTokenAll Go.Proofs.YtghcagmnhaphbaaW.PrintWords Go.Proofs.YtghcagmnhaphbaaW.PrintLast Go.Proofs.YtghcagmnhaphbaaW.PrintMore
theorem wrap_up {i : Int} {n : Nat} (h0 : 0 ≤ i) (h : i < (n : Int)) (hn : n ≤ 140737488351232) : wrap64 (i + 1) = i + 1 := by
  unfold wrap64
  omega
theorem rd_at (l : List ByteArray) (i : Int) (h0 : 0 ≤ i) (h : i < (l.length : Int)) : (rdOf ByteArray.empty l i).toList = (l.map ByteArray.toList)[i.toNat]'(by rw [List.length_map]; omega) := by
  have hr : rdOf ByteArray.empty l i = l[i.toNat]'(by omega) := by
    unfold rdOf; rw [List.getD_eq_getElem?_getD, List.getElem?_eq_getElem (by omega)]; rfl
  rw [hr]; simp
theorem in_l0 (s : ByteArray) (l : List ByteArray) (hn : l.length ≤ 1000) (d : Nat) : ∀ (k : Nat) (i : Int), 0 ≤ i → (l.length : Int) - i = d → d < k → recensionref1_in.l0 k s l i = some (decide (s.toList ∈ (l.map ByteArray.toList).drop i.toNat)) := by
  induction d with
  | zero =>
    intro k i h0 hd hk
    obtain ⟨k, rfl⟩ : ∃ m, k = m + 1 := ⟨k - 1, by omega⟩
    simp only [recensionref1_in.l0]
    rw [if_neg (by omega), List.drop_of_length_le (by rw [List.length_map]; omega)]; simp
  | succ d ih =>
    intro k i h0 hd hk
    obtain ⟨k, rfl⟩ : ∃ m, k = m + 1 := ⟨k - 1, by omega⟩
    have hlt : i < (l.length : Int) := by omega
    have hlt' : i.toNat < (l.map ByteArray.toList).length := by rw [List.length_map]; omega
    have hw : wrap64 (i + 1) = i + 1 := wrap_up h0 hlt (by omega)
    have e1 : (i + 1).toNat = i.toNat + 1 := by omega
    simp only [recensionref1_in.l0]
    rw [if_pos hlt, if_pos h0, hw, ih k (i + 1) (by omega) (by omega) (by omega), List.drop_eq_getElem_cons hlt', rd_at l i h0 hlt, e1]
    by_cases e : (l.map ByteArray.toList)[i.toNat] = s.toList
    · rw [if_pos e, ← e]; simp
    · rw [if_neg e]; have e' : ¬ s.toList = (l.map ByteArray.toList)[i.toNat] := fun h => e h.symm
      congr 1; rw [decide_eq_decide, List.mem_cons]; simp only [e', false_or]
theorem in_m (k : Nat) (s : ByteArray) (l : List ByteArray) (L : List (List UInt8)) (hl : l.map ByteArray.toList = L) (hn : l.length ≤ 20) (hk : 22 ≤ k) : recensionref1_in.f k s l = some (decide (s.toList ∈ L)) := by
  unfold recensionref1_in.f
  rw [in_l0 s l (by omega) l.length k 0 (by omega) (by omega) (by omega), ← hl]; rfl
theorem ix_l0 (s : ByteArray) (l : List ByteArray) (hn : l.length ≤ 1000) (d : Nat) : ∀ (k : Nat) (i : Int), 0 ≤ i → (l.length : Int) - i = d → d < k → ∃ r, slices_Index_string_string.l0 k l s (l.length : Int) i = some r ∧ decide (r ≥ 0) = decide (s.toList ∈ (l.map ByteArray.toList).drop i.toNat) := by
  induction d with
  | zero =>
    intro k i h0 hd hk
    obtain ⟨k, rfl⟩ : ∃ m, k = m + 1 := ⟨k - 1, by omega⟩
    simp only [slices_Index_string_string.l0]
    rw [if_neg (by omega), List.drop_of_length_le (by rw [List.length_map]; omega)]; exact ⟨_, rfl, by simp⟩
  | succ d ih =>
    intro k i h0 hd hk
    obtain ⟨k, rfl⟩ : ∃ m, k = m + 1 := ⟨k - 1, by omega⟩
    have hlt : i < (l.length : Int) := by omega
    have hlt' : i.toNat < (l.map ByteArray.toList).length := by rw [List.length_map]; omega
    have hw : wrap64 (i + 1) = i + 1 := wrap_up h0 hlt (by omega)
    have e1 : (i + 1).toNat = i.toNat + 1 := by omega
    obtain ⟨r, hr1, hr2⟩ := ih k (i + 1) (by omega) (by omega) (by omega)
    simp only [slices_Index_string_string.l0]
    rw [if_pos hlt, if_pos h0, if_pos hlt, hw, List.drop_eq_getElem_cons hlt', rd_at l i h0 hlt]
    by_cases e : s.toList = (l.map ByteArray.toList)[i.toNat]
    · rw [if_pos e, ← e]; exact ⟨_, rfl, by simp [h0]⟩
    · rw [if_neg e]; refine ⟨r, hr1, ?_⟩
      rw [hr2, e1, decide_eq_decide, List.mem_cons]; simp only [e, false_or]
theorem has_m (k : Nat) (s : ByteArray) (l : List ByteArray) (L : List (List UInt8)) (hl : l.map ByteArray.toList = L) (hn : l.length ≤ 20) (hk : 22 ≤ k) : slices_Contains_string_string.f k l s = some (decide (s.toList ∈ L)) := by
  unfold slices_Contains_string_string.f slices_Index_string_string.f
  obtain ⟨r, h1, h2⟩ := ix_l0 s l (by omega) l.length k 0 (by omega) (by omega) (by omega)
  rw [h1, ← hl]; simp only [Option.bind_some, h2]; rfl
def isP (kind : Int) (t : ByteArray) (L : List (List UInt8)) : Prop := kind = 4 ∧ t.toList ∈ L
instance (kind : Int) (t : ByteArray) (L : List (List UInt8)) : Decidable (isP kind t L) := by unfold isP; infer_instance
theorem is_m (k : Nat) (a0 : Int) (a1 : ByteArray) (a2 a3 : Int) (a4 : Bool) (l : List ByteArray) (L : List (List UInt8)) (hl : l.map ByteArray.toList = L) (hn : l.length ≤ 20) (hk : 22 ≤ k) : token_is.f k a0 a1 a2 a3 a4 l = some (decide (isP a0 a1 L)) := by
  unfold token_is.f isP
  by_cases h : a0 = 4
  · rw [if_pos h, has_m k a1 l L hl hn hk]; simp [h]
  · rw [if_neg h]; simp [h]

theorem op_same (k : Nat) (s : ByteArray) (hk : 22 ≤ k) : ∃ v, token_Op.f k s = some v ∧ recensionref1_Op.f k s = some v := by
  unfold token_Op.f recensionref1_Op.f
  rw [has_m k s _ _ rfl (by decide) hk, in_m k s _ _ rfl (by decide) hk]
  exact ⟨_, rfl, rfl⟩

def rankB (t : List UInt8) : Int := if t = [124, 124] then 1 else if t = [38, 38] then 2 else if t ∈ [[61, 61], [33, 61], [60]] then 3 else if t ∈ [[43], [45]] then 4 else if t = [42] then 5 else 0
theorem rank_f (k : Nat) (s : ByteArray) : token_Rank.f (k + 2) s = some (rankB s.toList) := by
  unfold token_Rank.f rankB
  simp only [token_Rank.j0, token_Rank.j1]
  generalize s.toList = t
  by_cases h1 : t = [124, 124]
  · simp [h1]
  by_cases h2 : t = [38, 38]
  · simp [h2]
  by_cases h3 : t = [61, 61]
  · simp [h3]
  by_cases h4 : t = [33, 61]
  · simp [h4]
  by_cases h5 : t = [60]
  · simp [h5]
  by_cases h6 : t = [43]
  · simp [h6]
  by_cases h7 : t = [45]
  · simp [h7]
  by_cases h8 : t = [42]
  · simp [h8]
  simp [h1, h2, h3, h4, h5, h6, h7, h8]
theorem rrank_f (k : Nat) (s : ByteArray) (hk : 22 ≤ k) : recensionref1_Rank.f (k + 6) s = some (rankB s.toList) := by
  unfold recensionref1_Rank.f rankB
  have w0 : wrap64 (0 + 1) = 1 := by decide +kernel
  have w1 : wrap64 (1 + 1) = 2 := by decide +kernel
  have w2 : wrap64 (2 + 1) = 3 := by decide +kernel
  have w3 : wrap64 (3 + 1) = 4 := by decide +kernel
  have w4 : wrap64 (4 + 1) = 5 := by decide +kernel
  simp only [recensionref1_Rank.l0, rd_L1, List.length_cons, List.length_nil, List.getD_cons_zero, List.getD_cons_succ, Int.toNat_zero, w0, w1, w2, w3, w4, Int.reduceToNat]
  rw [in_m _ s [(⟨#[124, 124]⟩ : ByteArray)] [[124, 124]] (by decide +kernel) (by decide) (show 22 ≤ k + 5 by omega), in_m _ s [(⟨#[38, 38]⟩ : ByteArray)] [[38, 38]] (by decide +kernel) (by decide) (show 22 ≤ k + 4 by omega), in_m _ s [(⟨#[61, 61]⟩ : ByteArray), (⟨#[33, 61]⟩ : ByteArray), (⟨#[60]⟩ : ByteArray)] [[61, 61], [33, 61], [60]] (by decide +kernel) (by decide) (show 22 ≤ k + 3 by omega), in_m _ s [(⟨#[43]⟩ : ByteArray), (⟨#[45]⟩ : ByteArray)] [[43], [45]] (by decide +kernel) (by decide) (show 22 ≤ k + 2 by omega), in_m _ s [(⟨#[42]⟩ : ByteArray)] [[42]] (by decide +kernel) (by decide) (show 22 ≤ k + 1 by omega)]
  simp only [Option.bind_some]
  generalize s.toList = t
  simp only [List.mem_cons, List.not_mem_nil, or_false, decide_eq_true_eq]
  by_cases h1 : t = [124, 124]
  · simp [h1]
  by_cases h2 : t = [38, 38]
  · simp [h2]
  by_cases h3 : t = [61, 61] ∨ t = [33, 61] ∨ t = [60]
  · simp only [h1, h2, h3, if_true, if_false]; decide
  by_cases h4 : t = [43] ∨ t = [45]
  · simp only [h1, h2, h3, h4, if_true, if_false]; decide
  by_cases h5 : t = [42]
  · simp [h5]
  simp only [h1, h2, h3, h4, h5, if_false]; simp
def operandB (k : Int) (t : List UInt8) : Bool := decide (k = 1) || decide (k = 2) || decide (k = 3) || (decide (k = 4) && decide (t = [41]))
theorem operand_f (a0 : Int) (a1 : ByteArray) (a2 a3 : Int) (a4 : Bool) : recensionref1_operand.f a0 a1 a2 a3 a4 = some (operandB a0 a1.toList) := by
  unfold recensionref1_operand.f operandB
  by_cases h1 : a0 = 1
  · simp [h1]
  by_cases h2 : a0 = 2
  · simp [h2]
  by_cases h3 : a0 = 3
  · simp [h3]
  by_cases h4 : a0 = 4
  · simp [h4]
    by_cases h : a1.toList = [41] <;> simp [h]
  simp [h1, h2, h3, h4]
theorem value_f (k : Nat) (hk : 22 ≤ k) (a0 : Int) (a1 : ByteArray) (a2 a3 : Int) (a4 : Bool) : token_value.f k a0 a1 a2 a3 a4 = some (operandB a0 a1.toList) := by
  unfold token_value.f operandB
  rw [is_m k a0 a1 a2 a3 a4 _ [[41]] (by decide +kernel) (by decide) hk]
  by_cases h1 : a0 = 1
  · simp [h1]
  by_cases h2 : a0 = 2
  · simp [h2]
  by_cases h3 : a0 = 3
  · simp [h3]
  simp [h1, h2, h3, isP]
theorem ends_same (k : Nat) (hk : 23 ≤ k) (a0 : Int) (a1 : ByteArray) (a2 a3 : Int) (a4 : Bool) : ∃ v, token_Ends.f k a0 a1 a2 a3 a4 = some v ∧ recensionref1_Ends.f k a0 a1 a2 a3 a4 = some v := by
  obtain ⟨m, rfl⟩ : ∃ m, k = m + 1 := ⟨k - 1, by omega⟩
  unfold token_Ends.f recensionref1_Ends.f
  simp only [token_Ends.j0, operand_f, Option.bind_some, operandB]
  rw [is_m m a0 a1 a2 a3 a4 _ [[41], [125]] (by decide +kernel) (by decide) (by omega), in_m (m + 1) a1 _ [[114, 101, 116, 117, 114, 110], [98, 114, 101, 97, 107], [99, 111, 110, 116, 105, 110, 117, 101]] (by decide +kernel) (by decide) (by omega)]
  unfold isP
  by_cases h1 : a0 = 1
  · simp [h1]
  by_cases h2 : a0 = 2
  · simp [h2]
  by_cases h3 : a0 = 3
  · simp [h3]
  by_cases h4 : a0 = 4
  · subst h4
    by_cases e1 : a1.toList = [41]
    · simp [e1]
    by_cases e2 : a1.toList = [125]
    · simp [e2]
    simp [e1, e2]
  by_cases h5 : a0 = 5
  · subst h5
    by_cases e1 : a1.toList = [114, 101, 116, 117, 114, 110]
    · simp [e1]
    by_cases e2 : a1.toList = [98, 114, 101, 97, 107]
    · simp [e2]
    by_cases e3 : a1.toList = [99, 111, 110, 116, 105, 110, 117, 101]
    · simp [e3]
    simp [e1, e2, e3]
  simp [h1, h2, h3, h4, h5]
def opX (k : Int) (t : ByteArray) : ByteArray := if k = 4 then t else ⟨#[]⟩
theorem opX_eq (k : Int) (t : ByteArray) (L : List UInt8) (hL : L ≠ []) : ((opX k t).toList = L) = isP k t [L] := by
  unfold opX isP
  have e0 : (⟨#[]⟩ : ByteArray).toList = [] := by decide +kernel
  by_cases h : k = 4
  · simp [h]
  · simp [h, e0]; exact fun e => hL e
theorem isP_or (k : Int) (t : ByteArray) (L : List UInt8) (Ls : List (List UInt8)) : isP k t (L :: Ls) ↔ isP k t [L] ∨ isP k t Ls := by
  unfold isP; simp only [List.mem_cons, List.not_mem_nil, or_false]
  exact ⟨fun ⟨a, b⟩ => b.elim (fun b => Or.inl ⟨a, b⟩) (fun b => Or.inr ⟨a, b⟩), fun h => h.elim (fun ⟨a, b⟩ => ⟨a, Or.inl b⟩) (fun ⟨a, b⟩ => ⟨a, Or.inr b⟩)⟩
def spaceP (v : Bool) (ak : Int) (at_ : ByteArray) (bk : Int) (bt_ : ByteArray) : Bool :=
  !(decide (isP ak at_ [[40], [46], [33]]) || (decide (isP ak at_ [[45]]) && !v) || decide (isP bk bt_ [[41], [44], [46], [58]]) || (decide (isP bk bt_ [[40]]) && (decide (ak = 1) || decide (isP ak at_ [[41]]))) || (decide (isP ak at_ [[123]]) && decide (isP bk bt_ [[125]])))
theorem space_f (k : Nat) (hk : 24 ≤ k) (a0 : Int) (a1 : ByteArray) (a2 a3 : Int) (a4 : Bool) (b0 : Int) (b1 : ByteArray) (b2 b3 : Int) (b4 : Bool) (c0 : Int) (c1 : ByteArray) (c2 c3 : Int) (c4 : Bool) : token_Space.f k a0 a1 a2 a3 a4 b0 b1 b2 b3 b4 c0 c1 c2 c3 c4 = some (spaceP (operandB a0 a1.toList) b0 b1 c0 c1) := by
  obtain ⟨m, rfl⟩ : ∃ m, k = m + 2 := ⟨k - 2, by omega⟩
  unfold token_Space.f spaceP
  simp only [token_Space.j0, token_Space.j1]
  rw [is_m (m + 2) b0 b1 b2 b3 b4 _ [[40], [46], [33]] (by decide +kernel) (by decide) (by omega),
    is_m (m + 2) b0 b1 b2 b3 b4 _ [[45]] (by decide +kernel) (by decide) (by omega), value_f (m + 2) (by omega),
    is_m (m + 1) c0 c1 c2 c3 c4 _ [[41], [44], [46], [58]] (by decide +kernel) (by decide) (by omega),
    is_m (m + 1) c0 c1 c2 c3 c4 _ [[40]] (by decide +kernel) (by decide) (by omega),
    is_m (m + 1) b0 b1 b2 b3 b4 _ [[41]] (by decide +kernel) (by decide) (by omega),
    is_m m b0 b1 b2 b3 b4 _ [[123]] (by decide +kernel) (by decide) (by omega),
    is_m m c0 c1 c2 c3 c4 _ [[125]] (by decide +kernel) (by decide) (by omega)]
  simp only [Option.bind_some]
  generalize decide (isP b0 b1 [[40], [46], [33]]) = x1
  generalize decide (isP b0 b1 [[45]]) = x2
  generalize decide (isP c0 c1 [[41], [44], [46], [58]]) = x3
  generalize decide (isP c0 c1 [[40]]) = x4
  generalize decide (isP b0 b1 [[41]]) = x5
  generalize decide (isP b0 b1 [[123]]) = x6
  generalize decide (isP c0 c1 [[125]]) = x7
  generalize operandB a0 a1.toList = v
  by_cases h : b0 = 1
  · simp only [h, if_true, decide_true]
    revert x1 x2 x3 x4 x5 x6 x7 v; decide
  · simp only [h, if_false, decide_false]
    revert x1 x2 x3 x4 x5 x6 x7 v; decide
theorem rspace_f (k : Nat) (hk : 6 ≤ k) (a0 : Int) (a1 : ByteArray) (a2 a3 : Int) (a4 : Bool) (b0 : Int) (b1 : ByteArray) (b2 b3 : Int) (b4 : Bool) (c0 : Int) (c1 : ByteArray) (c2 c3 : Int) (c4 : Bool) : recensionref1_Space.f k a0 a1 a2 a3 a4 b0 b1 b2 b3 b4 c0 c1 c2 c3 c4 = some (spaceP (operandB a0 a1.toList) b0 b1 c0 c1) := by
  obtain ⟨m, rfl⟩ : ∃ m, k = m + 5 := ⟨k - 5, by omega⟩
  have H : recensionref1_Space.f (m + 5) a0 a1 a2 a3 a4 b0 b1 b2 b3 b4 c0 c1 c2 c3 c4 = recensionref1_Space.j1 (m + 4) (opX b0 b1) (opX c0 c1) a0 a1 a2 a3 a4 b0 b1 b2 b3 b4 := by
    unfold recensionref1_Space.f opX
    simp only [recensionref1_Space.j0]
    by_cases h : b0 = 4 <;> by_cases h' : c0 = 4 <;> simp only [h, h', if_true, if_false]
  rw [H]
  have q1 : ∀ L : List UInt8, L ≠ [] → ((opX b0 b1).toList == L) = decide (isP b0 b1 [L]) := fun L hL => by rw [Bool.eq_iff_iff, beq_iff_eq, decide_eq_true_iff, opX_eq _ _ _ hL]
  have q2 : ∀ L : List UInt8, L ≠ [] → ((opX c0 c1).toList == L) = decide (isP c0 c1 [L]) := fun L hL => by rw [Bool.eq_iff_iff, beq_iff_eq, decide_eq_true_iff, opX_eq _ _ _ hL]
  have p1 : ∀ L : List UInt8, L ≠ [] → ((opX b0 b1).toList = L) = (decide (isP b0 b1 [L]) = true) := fun L hL => by rw [decide_eq_true_iff, opX_eq _ _ _ hL]
  have p2 : ∀ L : List UInt8, L ≠ [] → ((opX c0 c1).toList = L) = (decide (isP c0 c1 [L]) = true) := fun L hL => by rw [decide_eq_true_iff, opX_eq _ _ _ hL]
  unfold spaceP
  simp only [recensionref1_Space.j1, recensionref1_Space.j2, recensionref1_Space.j3, recensionref1_Space.j4, operand_f, Option.bind_some, isP_or b0 b1 [40] [[46], [33]], isP_or b0 b1 [46] [[33]], isP_or c0 c1 [41] [[44], [46], [58]], isP_or c0 c1 [44] [[46], [58]], isP_or c0 c1 [46] [[58]]]
  simp only [p1 _ (show [40] ≠ [] by decide), p1 _ (show [46] ≠ [] by decide), p1 _ (show [33] ≠ [] by decide), p1 _ (show [45] ≠ [] by decide), p1 _ (show [123] ≠ [] by decide), q1 _ (show [41] ≠ [] by decide), p2 _ (show [41] ≠ [] by decide), p2 _ (show [44] ≠ [] by decide), p2 _ (show [46] ≠ [] by decide), q2 _ (show [58] ≠ [] by decide), p2 _ (show [40] ≠ [] by decide), p2 _ (show [125] ≠ [] by decide), Bool.decide_or]
  generalize decide (isP b0 b1 [[40]]) = x1
  generalize decide (isP b0 b1 [[46]]) = x2
  generalize decide (isP b0 b1 [[33]]) = x3
  generalize decide (isP b0 b1 [[45]]) = x4
  generalize decide (isP b0 b1 [[41]]) = x5
  generalize decide (isP b0 b1 [[123]]) = x6
  generalize decide (isP c0 c1 [[41]]) = y1
  generalize decide (isP c0 c1 [[44]]) = y2
  generalize decide (isP c0 c1 [[46]]) = y3
  generalize decide (isP c0 c1 [[58]]) = y4
  generalize decide (isP c0 c1 [[40]]) = y5
  generalize decide (isP c0 c1 [[125]]) = y6
  generalize operandB a0 a1.toList = v
  by_cases h : b0 = 1
  · simp only [h, if_true, decide_true]
    cases x1 <;> cases x2 <;> cases x3 <;> try rfl
    cases x4 <;> cases v <;> cases y1 <;> cases y2 <;> cases y3 <;> try rfl
    all_goals (cases y4 <;> cases y5 <;> try rfl)
    all_goals (cases x5 <;> cases x6 <;> cases y6 <;> rfl)
  · simp only [h, if_false, decide_false]
    cases x1 <;> cases x2 <;> cases x3 <;> try rfl
    cases x4 <;> cases v <;> cases y1 <;> cases y2 <;> cases y3 <;> try rfl
    all_goals (cases y4 <;> cases y5 <;> try rfl)
    all_goals (cases x5 <;> cases x6 <;> cases y6 <;> rfl)
theorem cut_f (a : ByteArray) (n : Int) (hn : 0 ≤ n) : ∃ t, recensionlaw3_Cut.f a n = some t := by
  unfold recensionlaw3_Cut.f
  by_cases h : (a.size : Int) > n
  · rw [if_pos h, if_pos hn, if_pos (by omega)]; exact ⟨_, rfl⟩
  · rw [if_neg h]; exact ⟨_, rfl⟩
theorem cut5_f (a0 : Int) (a1 : ByteArray) (a2 a3 : Int) (a4 : Bool) : ∃ t, recensionlaw5_Cut.f a0 a1 a2 a3 a4 = some (a0, t, a2, a3, a4) := by
  obtain ⟨t, h⟩ := cut_f a1 20 (by decide)
  exact ⟨t, by unfold recensionlaw5_Cut.f; rw [h]; rfl⟩
theorem begun_f : recensionlaw5_begun.f 60 = some true := by decide +kernel
theorem unary_f (s : ByteArray) : token_Unary.f s = some (decide (s.toList = [45]) || (s.toList == [33])) := by
  unfold token_Unary.f
  by_cases h : s.toList = [45]
  · simp [h]
  · simp [h]
theorem eq_f (a0 : Int) (a1 : ByteArray) (a2 a3 : Int) (a4 : Bool) (b0 : Int) (b1 : ByteArray) (b2 b3 : Int) (b4 : Bool) : token_Eq.f a0 a1 a2 a3 a4 b0 b1 b2 b3 b4 = some (decide (a0 = b0) && (a1.toList == b1.toList)) := by
  unfold token_Eq.f
  by_cases h : a0 = b0
  · simp [h]
  · simp [h]
theorem TokenAll : recensionlaw5_TokenAll.Pure := by
  intro a0 a1_0 a1_1 a1_2 a1_3 a1_4 a2_0 a2_1 a2_2 a2_3 a2_4 a3_0 a3_1 a3_2 a3_3 a3_4 _ _ _ _
  refine ⟨60, ?_⟩
  obtain ⟨s, hs⟩ := cut_f a0 10 (by decide)
  obtain ⟨t1, h1⟩ := cut5_f a1_0 a1_1 a1_2 a1_3 a1_4
  obtain ⟨t2, h2⟩ := cut5_f a2_0 a2_1 a2_2 a2_3 a2_4
  obtain ⟨t3, h3⟩ := cut5_f a3_0 a3_1 a3_2 a3_3 a3_4
  obtain ⟨vo, ho1, ho2⟩ := op_same 60 s (by decide)
  obtain ⟨ve, he1, he2⟩ := ends_same 60 (by decide) a2_0 t2 a2_2 a2_3 a2_4
  have hr1 := rank_f 58 s
  have hr2 := rrank_f 54 s (by decide)
  have hp1 := space_f 60 (by decide) a1_0 t1 a1_2 a1_3 a1_4 a2_0 t2 a2_2 a2_3 a2_4 a3_0 t3 a3_2 a3_3 a3_4
  have hp2 := rspace_f 60 (by decide) a1_0 t1 a1_2 a1_3 a1_4 a2_0 t2 a2_2 a2_3 a2_4 a3_0 t3 a3_2 a3_3 a3_4
  unfold recensionlaw5_TokenAll.f
  simp only [begun_f, hs, h1, h2, h3, ho1, ho2, he1, he2, hr1, hr2, hp1, hp2, unary_f, eq_f, Option.bind_some, if_true, beq_self_eq_true]
  by_cases c1 : s.toList = [45] <;> by_cases c2 : a2_0 = a3_0 <;> simp [c1, c2]

end Go.Proofs.Ytghcagmnhaphbaa.Pure
