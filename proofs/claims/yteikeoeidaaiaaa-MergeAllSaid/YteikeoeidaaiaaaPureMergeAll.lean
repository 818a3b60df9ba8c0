/- Edits of many hands in one order, each once; those that overlap or touch are refused. Condition: none beside the statement's own. -/
import Derived.Test.YteikeoeidaaiaaaPMergex0
import Derived.Test.YteikeoeidaaiaaaPMergex1
import Derived.Test.YteikeoeidaaiaaaPMergex2
import Derived.Test.YteikeoeidaaiaaaPMergex3
import Derived.Test.YteikeoeidaaiaaaPMergex4
import Derived.Test.YteikeoeidaaiaaaPMergex5
import Derived.Test.YteikeoeidaaiaaaPMergex6
namespace Go.Proofs.Yteikeoeidaaiaaa.Pure
open Go.RowKit Go.Proofs.Yteikeoeidaaiaaa.PMerge Go.Proofs.YteikeoeidaaiaaaW.PrintWords Go.Proofs.YteikeoeidaaiaaaW.PrintLast Go.Proofs.YteikeoeidaaiaaaW.PrintMore
theorem wf64 {n : Int} (h : (Lit.int .i64 n).wf = true) : -9223372036854775808 ≤ n ∧ n ≤ 9223372036854775807 := by
  simp [Lit.wf, IntKind.min, IntKind.max, IntKind.signed, IntKind.bits] at h
  omega
theorem rd_at {l : List S29} {i : Nat} (h : i < l.length) : rd_T29 l (i : Int) = l[i] ∧ l.drop i = l[i] :: l.drop (i + 1) := by
  constructor
  · rw [gE_rd, gE_get h]
  · exact List.drop_eq_getElem_cons h
theorem wrap_up {i : Nat} {n : Nat} (h : i < n) (hn : n ≤ 140737488351232) : wrap64 ((i : Int) + 1) = ((i + 1 : Nat) : Int) := by unfold wrap64; omega
/-- The largest whole number. -/
def mx64 : Int := 9223372036854775807
/-- Which edits may be, behind an edit that ends at e. -/
def mayB (e n : Int) : List S29 → Bool
  | [] => true
  | x :: l => !decide (x.f0 ≤ e) && (!decide (x.f1 < 0) && (!decide (x.f0 > n) && (!decide (x.f1 > n - x.f0) && mayB (x.f0 + x.f1) n l)))
theorem mayB_cons {e n : Int} {x : S29} {l : List S29} : mayB e n (x :: l) = true ↔ e < x.f0 ∧ 0 ≤ x.f1 ∧ x.f0 ≤ n ∧ x.f1 ≤ n - x.f0 ∧ mayB (x.f0 + x.f1) n l = true := by
  simp only [mayB, Bool.and_eq_true, Bool.not_eq_true', decide_eq_false_iff_not]
  constructor
  · rintro ⟨h1, h2, h3, h4, h5⟩; exact ⟨by omega, by omega, by omega, by omega, h5⟩
  · rintro ⟨h1, h2, h3, h4, h5⟩; exact ⟨by omega, by omega, by omega, by omega, h5⟩
theorem may_l0 (n : Int) (hn0 : 0 ≤ n) (hn : n ≤ 9223372036854775807) (l : List S29) (hl : l.length ≤ 1000000) (d : Nat) : ∀ (k i : Nat) (e : Int), -1 ≤ e → e ≤ n → i + d = l.length → d < k → edit_May.l0 k n e l (l.length : Int) (i : Int) = some (mayB e n (l.drop i)) := by
  induction d with
  | zero =>
    intro k i e _ _ hi hk
    obtain ⟨k, rfl⟩ : ∃ m, k = m + 1 := ⟨k - 1, by omega⟩
    simp only [edit_May.l0]
    rw [if_neg (by omega), List.drop_of_length_le (by omega)]; rfl
  | succ d ih =>
    intro k i e he hen hi hk
    obtain ⟨k, rfl⟩ : ∃ m, k = m + 1 := ⟨k - 1, by omega⟩
    have hlt : i < l.length := by omega
    obtain ⟨hr, hd⟩ := rd_at hlt
    have ew := wrap_up hlt (by omega)
    simp only [edit_May.l0]
    rw [if_pos (by omega), if_pos (by omega), if_pos (by omega), hr, hd, ew]
    by_cases h1 : l[i].f0 ≤ e
    · rw [if_pos h1]; simp [mayB, h1]
    · rw [if_neg h1]
      by_cases h2 : l[i].f1 < 0
      · rw [if_pos h2]; simp [mayB, h2]
      · rw [if_neg h2]
        by_cases h3 : l[i].f0 > n
        · rw [if_pos h3]; simp [mayB]; omega
        · rw [if_neg h3]
          have e1 : wrap64 (n - l[i].f0) = n - l[i].f0 := by unfold wrap64; omega
          rw [e1]
          by_cases h4 : l[i].f1 > n - l[i].f0
          · rw [if_pos h4]; simp [mayB]; omega
          · have e2 : wrap64 (l[i].f0 + l[i].f1) = l[i].f0 + l[i].f1 := by unfold wrap64; omega
            rw [if_neg h4, e2, ih k (i + 1) _ (by omega) (by omega) (by omega) (by omega)]
            simp [mayB, h1, h2, h3, h4]
theorem may_f (k : Nat) (l : List S29) (n : Int) (hn0 : 0 ≤ n) (hn : n ≤ 9223372036854775807) (hl : l.length ≤ 1000000) (hk : l.length < k) : edit_May.f k l n = some (mayB (-1) n l) := by
  unfold edit_May.f
  have h := may_l0 n hn0 hn l hl l.length k 0 (-1) (by omega) (by omega) (by omega) hk
  simpa using h
theorem cut3_f (s : ByteArray) (n : Nat) : ∃ t : ByteArray, recensionlaw3_Cut.f s (n : Int) = some t ∧ t.size ≤ n := by
  unfold recensionlaw3_Cut.f
  by_cases h : (s.size : Int) > n
  · rw [if_pos h, if_pos (by omega), if_pos (by omega)]
    exact ⟨_, rfl, by simp; omega⟩
  · rw [if_neg h]
    exact ⟨s, rfl, by omega⟩
theorem cut8_l0 (l : List S29) (hw : ∀ x ∈ l, x.f0 ≤ 9223372036854775807) (d : Nat) : ∀ (k i : Nat) (B : List S29), i + d = 12 → d < k → B.length ≤ i → i ≤ l.length → (∀ x ∈ B, x.f0 ≤ 9223372036854775807) → ∃ c, recensionlaw8_Cut.l0 k l B (i : Int) = some c ∧ c.length ≤ 12 ∧ ∀ x ∈ c, x.f0 ≤ 9223372036854775807 := by
  induction d with
  | zero =>
    intro k i B hi hk hB _ hx
    obtain ⟨k, rfl⟩ : ∃ m, k = m + 1 := ⟨k - 1, by omega⟩
    refine ⟨B, ?_, by omega, hx⟩
    simp only [recensionlaw8_Cut.l0]
    by_cases h : (i : Int) < (l.length : Int)
    · rw [if_pos h, if_neg (by omega)]
    · rw [if_neg h]
  | succ d ih =>
    intro k i B hi hk hB hil hx
    obtain ⟨k, rfl⟩ : ∃ m, k = m + 1 := ⟨k - 1, by omega⟩
    by_cases h : (i : Int) < (l.length : Int)
    · obtain ⟨t, ht, _⟩ := cut3_f (rd_T29 l (i : Int)).f2 10
      have ht' : recensionlaw3_Cut.f (rd_T29 l (i : Int)).f2 10 = some t := ht
      have ew : wrap64 ((i : Int) + 1) = ((i + 1 : Nat) : Int) := by unfold wrap64; omega
      have hlt : i < l.length := by omega
      obtain ⟨c, hc, hcl, hcx⟩ := ih k (i + 1) (B ++ [⟨(rd_T29 l (i : Int)).f0, (rd_T29 l (i : Int)).f1, t⟩]) (by omega) (by omega) (by rw [List.length_append, List.length_singleton]; omega) (by omega) (by
        intro x hxm
        rcases List.mem_append.1 hxm with h1 | h1
        · exact hx x h1
        · rw [List.mem_singleton.1 h1]
          show (rd_T29 l (i : Int)).f0 ≤ _
          rw [(rd_at hlt).1]
          exact hw _ (List.getElem_mem hlt))
      refine ⟨c, ?_, hcl, hcx⟩
      simp only [recensionlaw8_Cut.l0]
      rw [if_pos h, if_pos (by omega), if_pos (by omega), ht']
      simp only [Option.bind_some]
      rw [if_pos (by omega), ew, hc]
    · refine ⟨B, ?_, by omega, hx⟩
      simp only [recensionlaw8_Cut.l0]
      rw [if_neg h]
theorem cut8_f (k : Nat) (l : List S29) (hw : ∀ x ∈ l, x.f0 ≤ 9223372036854775807) (hk : 12 < k) : ∃ c, recensionlaw8_Cut.f k l = some c ∧ c.length ≤ 12 ∧ ∀ x ∈ c, x.f0 ≤ 9223372036854775807 := by
  obtain ⟨c, h1, h2, h3⟩ := cut8_l0 l hw 12 k 0 [] (by omega) hk (by simp) (by omega) (by simp)
  exact ⟨c, h1, h2, h3⟩
theorem eqE_self (x : S29) : eqE x x = true := by unfold eqE; simp
theorem eq_l0 (a b : List S29) (hab : a.length = b.length) (hl : a.length ≤ 1000000) (d : Nat) : ∀ (k i : Nat), i + d = a.length → d < k → ∃ r, recensionlaw9_eq.l0 k a b (i : Int) = some r ∧ (r = true ↔ a.drop i = b.drop i) := by
  induction d with
  | zero =>
    intro k i hi hk
    obtain ⟨k, rfl⟩ : ∃ m, k = m + 1 := ⟨k - 1, by omega⟩
    simp only [recensionlaw9_eq.l0]
    rw [if_neg (by omega), List.drop_of_length_le (by omega), List.drop_of_length_le (by omega)]
    exact ⟨true, rfl, by simp⟩
  | succ d ih =>
    intro k i hi hk
    obtain ⟨k, rfl⟩ : ∃ m, k = m + 1 := ⟨k - 1, by omega⟩
    have h1 : i < a.length := by omega
    have h2 : i < b.length := by omega
    obtain ⟨hr1, hd1⟩ := rd_at h1
    obtain ⟨hr2, hd2⟩ := rd_at h2
    have ew := wrap_up h1 (by omega)
    simp only [recensionlaw9_eq.l0]
    rw [if_pos (by omega), if_pos (by omega), if_pos (by omega), hr1, hr2, ew]
    obtain ⟨r, hr, hri⟩ := ih k (i + 1) (by omega) (by omega)
    have hdi : a.drop i = b.drop i ↔ a[i] = b[i] ∧ a.drop (i + 1) = b.drop (i + 1) := by
      rw [hd1, hd2]
      constructor
      · intro h
        injection h with h1 h2
        exact ⟨h1, h2⟩
      · rintro ⟨h1, h2⟩
        rw [h1, h2]
    by_cases q0 : a[i].f0 = b[i].f0
    · rw [if_pos q0]
      by_cases q1 : a[i].f1 = b[i].f1
      · rw [if_pos q1]
        by_cases q2 : a[i].f2.toList = b[i].f2.toList
        · rw [if_pos q2]
          refine ⟨r, hr, hri.trans ?_⟩
          have he : a[i] = b[i] := eqE_eq (by unfold eqE; simp [q0, q1, q2])
          rw [hdi]
          exact ⟨fun h => ⟨he, h⟩, fun h => h.2⟩
        · rw [if_neg q2]
          exact ⟨false, rfl, ⟨fun h => absurd h (by decide), fun h => absurd (by rw [(hdi.1 h).1]) q2⟩⟩
      · rw [if_neg q1]
        exact ⟨false, rfl, ⟨fun h => absurd h (by decide), fun h => absurd (by rw [(hdi.1 h).1]) q1⟩⟩
    · rw [if_neg q0]
      exact ⟨false, rfl, ⟨fun h => absurd h (by decide), fun h => absurd (by rw [(hdi.1 h).1]) q0⟩⟩
theorem eq_f (k : Nat) (a b : List S29) (hl : a.length ≤ 1000000) (hk : a.length < k) : ∃ r, recensionlaw9_eq.f k a b = some r ∧ (r = true ↔ a = b) := by
  unfold recensionlaw9_eq.f
  by_cases h : a.length = b.length
  · rw [if_pos (by omega)]
    obtain ⟨r, h1, h2⟩ := eq_l0 a b h hl a.length k 0 (by omega) hk
    exact ⟨r, h1, by simpa using h2⟩
  · rw [if_neg (by omega)]
    exact ⟨false, rfl, by simp; intro e; exact h (by rw [e])⟩
theorem eq_self (k : Nat) (a : List S29) (hl : a.length ≤ 1000000) (hk : a.length < k) : recensionlaw9_eq.f k a a = some true := by
  obtain ⟨r, h1, h2⟩ := eq_f k a a hl hk
  rw [h1, h2.2 rfl]
/-! ### the law's own list of edits, each once -/
theorem one_slice {l : List S29} {i : Nat} (h : i < l.length) : (l.take (i + 1)).drop i = [l[i]] := by
  rw [List.drop_take, List.drop_eq_getElem_cons h, show i + 1 - i = 1 by omega]
  rfl
theorem once_l1 (x4 : List (List S29)) (S : List S29) (hl : S.length ≤ 1000) (K : Nat) (R : Option Bool) (hK : 4 ≤ K)
    (hend : ∀ k, K ≤ k → ((merge_All.f k x4).bind fun t => recensionlaw9_MergeAll.l2 k (compF S) t.1 t.2 0) = R) (d : Nat) :
    ∀ (k i : Nat) (once : List S29), i + d = S.length → K + d < k → once.length ≤ i → (i = 0 → once = []) → (∀ h : i - 1 < S.length, 0 < i → compF S = once ++ tailC S[i - 1] (S.drop i)) → recensionlaw9_MergeAll.l1 k x4 S once (i : Int) = R := by
  induction d with
  | zero =>
    intro k i once hi hk ho h0 h1
    obtain ⟨k, rfl⟩ : ∃ m, k = m + 1 := ⟨k - 1, by omega⟩
    have he : compF S = once := by
      by_cases hi0 : i = 0
      · rw [h0 hi0, List.length_eq_zero_iff.1 (show S.length = 0 by omega)]
        rfl
      · rw [h1 (by omega) (by omega), List.drop_of_length_le (by omega)]
        simp [tailC]
    simp only [recensionlaw9_MergeAll.l1]
    rw [if_neg (by omega), ← he]
    exact hend k (by omega)
  | succ d ih =>
    intro k i once hi hk ho h0 h1
    obtain ⟨k, rfl⟩ : ∃ m, k = m + 1 := ⟨k - 1, by omega⟩
    have hlt : i < S.length := by omega
    obtain ⟨hr, hd⟩ := rd_at hlt
    have ew := wrap_up hlt (by omega)
    simp only [recensionlaw9_MergeAll.l1]
    rw [if_pos (by omega), hr, ew]
    by_cases hi0 : i = 0
    · subst hi0
      obtain rfl := h0 rfl
      rw [if_pos (by omega), if_pos (by omega), if_pos (by simp)]
      refine ih k (0 + 1) _ (by omega) (by omega) (by simp) (by omega) (fun h _ => ?_)
      have hS : S = S[0] :: S.drop 1 := by simpa using hd
      conv => lhs; rw [hS]
      rfl
    · rw [if_neg (by omega), if_pos (by omega), if_pos (by omega), if_pos (by omega)]
      have hlt2 : i - 1 < S.length := by omega
      have ew2 : wrap64 ((i : Int) - 1) = ((i - 1 : Nat) : Int) := by unfold wrap64; omega
      rw [ew2, if_pos (by omega), if_pos (by omega), if_pos (by omega), Int.toNat_natCast, Int.toNat_natCast, Int.toNat_natCast, one_slice hlt]
      have hs2 : (S.take i).drop (i - 1) = [S[i - 1]] := by
        have := one_slice hlt2
        rwa [show i - 1 + 1 = i by omega] at this
      rw [hs2]
      obtain ⟨r, hr1, hr2⟩ := eq_f k [S[i]] [S[i - 1]] (by simp) (by simp; omega)
      rw [hr1]
      simp only [Option.bind_some]
      have hc := h1 hlt2 (by omega)
      rw [hd] at hc
      simp only [tailC] at hc
      by_cases hq : r = true
      · rw [if_pos hq]
        have he : S[i] = S[i - 1] := by have := hr2.1 hq; simpa using this
        refine ih k (i + 1) once (by omega) (by omega) (by omega) (by omega) (fun h _ => ?_)
        rw [if_pos (by rw [he]; exact eqE_self _)] at hc
        simpa using hc
      · rw [if_neg hq, if_pos (by omega)]
        have hne : ¬ eqE S[i] S[i - 1] = true := fun h => hq (hr2.2 (by rw [eqE_eq h]))
        refine ih k (i + 1) _ (by omega) (by omega) (by simp; omega) (by omega) (fun h _ => ?_)
        rw [if_neg hne] at hc
        rw [hc]
        simp
/-! ### the law's own look at them -/
theorem bad_l2 (C L : List S29) (hl : C.length ≤ 1000) (hw : ∀ x ∈ C, x.f0 ≤ 9223372036854775807) (b : Bool) (hL : L = if b = true then C else []) (d : Nat) :
    ∀ (k i : Nat) (e : Int), -1 ≤ e → e ≤ 9223372036854775807 → (i = 0 → e = -1) → (∀ h : i - 1 < C.length, 0 < i → C[i - 1].f0 + C[i - 1].f1 = e ∧ 0 ≤ C[i - 1].f0 ∧ 0 ≤ C[i - 1].f1) → i + d = C.length → d + C.length + 2 < k → mayB e 9223372036854775807 (C.drop i) = b → recensionlaw9_MergeAll.l2 k C L b (i : Int) = some true := by
  have hno : b = false → (if b = true then some false else some ((L.length : Int) == 0)) = some true := by
    intro hb
    subst hb
    rw [hL]
    rfl
  induction d with
  | zero =>
    intro k i e _ _ _ _ hi hk hm
    obtain ⟨k, rfl⟩ : ∃ m, k = m + 1 := ⟨k - 1, by omega⟩
    rw [List.drop_of_length_le (by omega)] at hm
    obtain rfl : true = b := hm
    rw [if_pos rfl] at hL
    simp only [recensionlaw9_MergeAll.l2]
    rw [if_neg (by omega), hL, eq_self k C (by omega) (by omega)]
    rfl
  | succ d ih =>
    intro k i e he hen h0 hp hi hk hm
    obtain ⟨k, rfl⟩ : ∃ m, k = m + 1 := ⟨k - 1, by omega⟩
    have hlt : i < C.length := by omega
    obtain ⟨hr, hd⟩ := rd_at hlt
    have ew := wrap_up hlt (by omega)
    have hwx := hw _ (List.getElem_mem hlt)
    rw [hd] at hm
    have hf : ∀ {p : Prop}, (p → mayB e 9223372036854775807 (C[i] :: C.drop (i + 1)) = false) → p → (if b = true then some false else some ((L.length : Int) == 0)) = some true := fun h hp => hno (by rw [← hm]; exact h hp)
    simp only [recensionlaw9_MergeAll.l2]
    rw [if_pos (by omega), if_pos (by omega), hr]
    by_cases h1 : C[i].f0 < 0
    · rw [if_pos h1]
      refine hf (fun _ => ?_) h1
      have : C[i].f0 ≤ e := by omega
      simp [mayB, this]
    · rw [if_neg h1]
      by_cases h2 : C[i].f1 < 0
      · rw [if_pos h2]
        refine hf (fun _ => ?_) h2
        simp [mayB, h2]
      · rw [if_neg h2]
        have e1 : wrap64 (9223372036854775807 - C[i].f0) = 9223372036854775807 - C[i].f0 := by unfold wrap64; omega
        rw [e1]
        by_cases h4 : C[i].f1 > 9223372036854775807 - C[i].f0
        · rw [if_pos h4]
          refine hf (fun _ => ?_) h4
          simp [mayB]; omega
        · rw [if_neg h4]
          have hnx : e < C[i].f0 → recensionlaw9_MergeAll.l2 k C L b (wrap64 ((i : Int) + 1)) = some true := by
            intro hlt3
            rw [ew]
            refine ih k (i + 1) (C[i].f0 + C[i].f1) (by omega) (by omega) (by omega) (fun _ _ => ⟨rfl, by show 0 ≤ C[i].f0; omega, by show 0 ≤ C[i].f1; omega⟩) (by omega) (by omega) ?_
            rw [← hm]
            have h5 : ¬ C[i].f0 ≤ e := by omega
            have h6 : ¬ C[i].f0 > 9223372036854775807 := by omega
            simp [mayB, h5, h2, h6, h4]
          by_cases hi0 : i = 0
          · have e0 := h0 hi0
            rw [if_neg (by omega)]
            exact hnx (by omega)
          · have hlt2 : i - 1 < C.length := by omega
            obtain ⟨p1, p2, p3⟩ := hp hlt2 (by omega)
            obtain ⟨hr2, _⟩ := rd_at hlt2
            have ew2 : wrap64 ((i : Int) - 1) = ((i - 1 : Nat) : Int) := by unfold wrap64; omega
            have e3 : wrap64 (C[i].f0 - C[i - 1].f0) = C[i].f0 - C[i - 1].f0 := by unfold wrap64; omega
            rw [if_pos (by omega), ew2, if_pos (by omega), if_pos (by omega), hr2, e3]
            by_cases h6 : C[i].f0 ≤ C[i - 1].f0
            · rw [if_pos h6]
              refine hf (fun _ => ?_) h6
              have : C[i].f0 ≤ e := by omega
              simp [mayB, this]
            · rw [if_neg h6]
              by_cases h7 : C[i].f0 - C[i - 1].f0 ≤ C[i - 1].f1
              · rw [if_pos h7]
                refine hf (fun _ => ?_) h7
                have : C[i].f0 ≤ e := by omega
                simp [mayB, this]
              · rw [if_neg h7]
                exact hnx (by omega)
theorem tailC_mem (l : List S29) : ∀ (p x : S29), x ∈ tailC p l → x ∈ l := by
  induction l with
  | nil => intro p x h; exact h
  | cons y l ih =>
    intro p x h
    simp only [tailC] at h
    split at h
    · exact List.mem_cons_of_mem _ (ih _ _ h)
    · rcases List.mem_cons.1 h with h | h
      · rw [h]; exact List.mem_cons_self
      · exact List.mem_cons_of_mem _ (ih _ _ h)
theorem compF_mem {l : List S29} {x : S29} (h : x ∈ compF l) : x ∈ l := by
  cases l with
  | nil => exact h
  | cons y l =>
    rcases List.mem_cons.1 h with h | h
    · rw [h]; exact List.mem_cons_self
    · exact List.mem_cons_of_mem _ (tailC_mem _ _ _ h)
theorem compF_len (l : List S29) : (compF l).length ≤ l.length := by
  cases l with
  | nil => exact Nat.le_refl _
  | cons y l => exact Nat.succ_le_succ (tailC_len l y)
theorem all_j1 (k : Nat) (x4 : List (List S29)) (x5 : List S29) (h5 : x4.flatten = x5) (h4 : x4.length ≤ 5) (hl : x5.length ≤ 60) (hw : ∀ x ∈ x5, x.f0 ≤ 9223372036854775807) (hk : 400 < k) : recensionlaw9_MergeAll.j1 k x4 x5 = some true := by
  obtain ⟨k, rfl⟩ : ∃ m, k = m + 1 := ⟨k - 1, by omega⟩
  have hsl := sortF_len x5
  simp only [recensionlaw9_MergeAll.j1]
  unfold recensionlaw9_sorted.f merge_Sort.f
  rw [if_pos (by omega)]
  simp only [Option.bind_some]
  rw [eq_self k (sortF x5) (by omega) (by omega)]
  simp only [Option.bind_some, if_true]
  have hcl := compF_len (sortF x5)
  refine once_l1 x4 (sortF x5) (by omega) 200 (some true) (by omega) (fun k hk => ?_) (sortF x5).length k 0 [] (by omega) (by omega) (by simp) (fun _ => rfl) (fun _ h => absurd h (by omega))
  unfold merge_All.f
  rw [if_pos ⟨by omega, by rw [h5]; omega⟩, h5, may_f k (compF (sortF x5)) 9223372036854775807 (by omega) (by omega) (by omega) (by omega)]
  simp only [Option.bind_some]
  exact bad_l2 (compF (sortF x5)) _ (by omega) (fun x hx => hw x ((sortF_perm x5).subset (compF_mem hx))) _ rfl _ k 0 (-1) (by omega) (by omega) (fun _ => rfl) (fun _ h => absurd h (by omega)) (Nat.zero_add _) (by omega) rfl
theorem all_l0 (l0 : List (List S29)) (hw : ∀ y ∈ l0, ∀ x ∈ y, x.f0 ≤ 9223372036854775807) (d : Nat) : ∀ (k i : Nat) (x4 : List (List S29)) (x5 : List S29), i + d = 5 → 450 + d < k → x4.flatten = x5 → x4.length ≤ i → x5.length ≤ 12 * i → (∀ x ∈ x5, x.f0 ≤ 9223372036854775807) → recensionlaw9_MergeAll.l0 k l0 x4 x5 (i : Int) = some true := by
  induction d with
  | zero =>
    intro k i x4 x5 hi hk h1 h2 h3 h4
    obtain ⟨k, rfl⟩ : ∃ m, k = m + 1 := ⟨k - 1, by omega⟩
    have hj := all_j1 k x4 x5 h1 (by omega) (by omega) h4 (by omega)
    simp only [recensionlaw9_MergeAll.l0]
    by_cases h : (i : Int) < (l0.length : Int)
    · rw [if_pos h, if_neg (by omega), hj]
    · rw [if_neg h, hj]
  | succ d ih =>
    intro k i x4 x5 hi hk h1 h2 h3 h4
    obtain ⟨k, rfl⟩ : ∃ m, k = m + 1 := ⟨k - 1, by omega⟩
    simp only [recensionlaw9_MergeAll.l0]
    by_cases h : (i : Int) < (l0.length : Int)
    · have hlt : i < l0.length := by omega
      have hrd : rd_L3 l0 (i : Int) = l0[i] := by
        unfold rd_L3
        rw [Int.toNat_natCast, List.getD_eq_getElem?_getD, List.getElem?_eq_getElem hlt, Option.getD_some]
      obtain ⟨c, hc, hcl, hcw⟩ := cut8_f k l0[i] (hw _ (List.getElem_mem hlt)) (by omega)
      have ew : wrap64 ((i : Int) + 1) = ((i + 1 : Nat) : Int) := by unfold wrap64; omega
      rw [if_pos h, if_pos (by omega), if_pos (by omega), hrd, hc]
      simp only [Option.bind_some]
      rw [if_pos (by omega), if_pos (by omega), ew]
      refine ih k (i + 1) _ _ (by omega) (by omega) (by rw [List.flatten_append, h1]; simp) (by simp; omega) (by rw [List.length_append]; omega) ?_
      intro x hx
      rcases List.mem_append.1 hx with hx | hx
      · exact h4 x hx
      · exact hcw x hx
    · rw [if_neg h]
      exact all_j1 k x4 x5 h1 (by omega) (by omega) h4 (by omega)
theorem MergeAll : recensionlaw9_MergeAll.Pure := by
  intro l0 h
  refine ⟨1000, ?_⟩
  unfold recensionlaw9_MergeAll.f recensionlaw9_begun.f
  simp only [Option.bind_some, if_true]
  exact all_l0 l0 (fun y hy x hx => (wf64 ((h.2.2 y hy).2.2 x hx).1).2) 5 1000 0 [] [] (by omega) (by omega) rfl (by simp) (by simp) (by simp)

end Go.Proofs.Yteikeoeidaaiaaa.Pure
