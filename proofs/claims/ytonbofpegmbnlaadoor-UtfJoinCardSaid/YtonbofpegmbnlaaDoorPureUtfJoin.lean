/- Behind a text the first fault of two is the second one's, and the counts add up. Condition: none beside the statement's own. -/
import Derived.Test.YtonbofpegmbnlaaDoorPUtfJoinx1
namespace Go.Proofs.YtonbofpegmbnlaaDoor.Pure
open Go.RowKit Go.Proofs.YtonbofpegmbnlaaDoor.PUtfJoin Go.Proofs.YtonbofpegmbnlaaDoorW.PrintWords Go.Proofs.YtonbofpegmbnlaaDoorW.PrintLast Go.Proofs.YtonbofpegmbnlaaDoorW.PrintMore
theorem wrap_small {x : Int} (h0 : -9223372036854775808 ≤ x) (h1 : x ≤ 9223372036854775807) : wrap64 x = x := by
  unfold wrap64
  omega
theorem wrap32_small {x : Int} (h0 : -2147483648 ≤ x) (h1 : x ≤ 2147483647) : wrap32 x = x := by
  unfold wrap32
  omega
theorem w_cast (i : Int) (h0 : -3000000 ≤ i) (h : i ≤ 3000000) : wrap64 i = i := wrap_small (by omega) (by omega)
theorem w_succ (i : Nat) (h : i ≤ 2000000) : wrap64 ((i : Int) + 1) = ((i + 1 : Nat) : Int) := by rw [wrap_small (by omega) (by omega)]; omega
theorem w_add (a b : Nat) (h : a + b ≤ 3000000) : wrap64 ((a : Int) + (b : Int)) = ((a + b : Nat) : Int) := by rw [w_cast _ (by omega) (by omega)]; omega
def mk (l : List UInt8) : ByteArray := ⟨l.toArray⟩
theorem list_data (s : ByteArray) : s.toList = s.data.toList := ByteArray.toList_eq s
theorem list_len (s : ByteArray) : s.toList.length = s.size := by rw [ByteArray.toList_eq]; simp
theorem mk_list (l : List UInt8) : (mk l).toList = l := by rw [list_data]; rfl
theorem mk_data (l : List UInt8) : (mk l).data.toList = l := rfl
theorem mk_size (l : List UInt8) : (mk l).size = l.length := by show (l.toArray).size = _; simp
theorem mk_of (s : ByteArray) : mk s.toList = s := by rw [list_data]; unfold mk; simp
theorem data_ext (a b : ByteArray) (h : a.data.toList = b.data.toList) : a = b := by
  apply ByteArray.ext
  exact Array.toList_inj.1 h
theorem mk_extract (l : List UInt8) (a b : Nat) : (mk l).extract a b = mk ((l.take b).drop a) := by
  apply data_ext
  rw [Lib.extract_data, mk_data, mk_data, List.drop_take]
theorem mk_rest (l : List UInt8) (a : Nat) : (mk l).extract a (mk l).size = mk (l.drop a) := by
  rw [mk_extract, mk_size, List.take_length]
theorem mk_app (a b : List UInt8) : mk a ++ mk b = mk (a ++ b) := by
  apply ByteArray.ext
  unfold mk
  simp
/-- A list's byte, nought behind its end. -/
def nb (l : List UInt8) (i : Nat) : Nat := (l.getD i 0).toNat
theorem nb_lt (l : List UInt8) (i : Nat) : nb l i < 256 := UInt8.toNat_lt _
theorem get_nb (l : List UInt8) (i : Nat) : ((mk l).get! i).toNat = nb l i := by
  unfold nb mk
  congr 1
  show (l.toArray)[i]! = l.getD i 0
  simp [List.getD_eq_getElem?_getD, getElem!_def]
  cases h : l[i]? <;> rfl
theorem bt_nb (l : List UInt8) (i : Nat) : bt (mk l) (i : Int) = (nb l i : Int) := by
  unfold bt nb
  by_cases h : i < l.length
  · rw [dif_pos (by rw [mk_size]; simpa using h)]
    congr 1
    simp only [Int.toNat_natCast, List.getD_eq_getElem?_getD, List.getElem?_eq_getElem h, Option.getD_some]
    rfl
  · rw [dif_neg (by rw [mk_size]; simpa using h)]
    simp only [List.getD_eq_getElem?_getD, List.getElem?_eq_none (by omega : l.length ≤ i), Option.getD_none]
    rfl
theorem nb_drop (l : List UInt8) (p i : Nat) : nb (l.drop p) i = nb l (p + i) := by
  unfold nb
  simp [List.getD_eq_getElem?_getD]
/-- The first rune of some bytes, and its width. -/
def dL (l : List UInt8) : Nat × Nat := Lib.decodeN l.length (nb l 0) (nb l 1) (nb l 2) (nb l 3)
theorem decode_dL (l : List UInt8) (p : Nat) : Utf8.decode (mk l) p = dL (l.drop p) := by
  rw [Lib.decode_at]
  unfold dL
  rw [mk_size, List.length_drop, nb_drop, nb_drop, nb_drop, nb_drop, get_nb, get_nb, get_nb, get_nb]
  rfl
def okD (d : Nat × Nat) : Bool := !(d.1 == 65533 && d.2 == 1)
/-- Is what was read at fault? -/
def badD (d : Nat × Nat) : Prop := ((d.1 < 32 ∧ d.1 ≠ 9 ∧ d.1 ≠ 10) ∨ d.1 = 127) ∨ (d.1 = 65533 ∧ d.2 = 1)
instance (d : Nat × Nat) : Decidable (badD d) := by unfold badD; exact inferInstance
theorem dL_low (l : List UInt8) (h : nb l 0 < 128) : dL l = (nb l 0, 1) := by unfold dL Lib.decodeN; rw [if_pos h]
theorem dL_high (l : List UInt8) (h : ¬ nb l 0 < 128) : 128 ≤ (dL l).1 := by
  unfold dL Lib.decodeN
  rw [if_neg h]
  have h0 := nb_lt l 0
  have h1 := nb_lt l 1
  have h2 := nb_lt l 2
  have h3 := nb_lt l 3
  repeat' split
  all_goals (first | omega | (simp only []; omega))
theorem dL_wid (l : List UInt8) (h : l ≠ []) : 1 ≤ (dL l).2 ∧ (dL l).2 ≤ l.length := by
  have hl : 0 < l.length := List.length_pos_iff.2 h
  unfold dL Lib.decodeN
  repeat' split
  all_goals (first | omega | (simp only []; omega))
/-- The first fault from a place on, of the rest of the bytes. -/
def fl : Nat → Nat → List UInt8 → Int
  | 0, _, _ => -1
  | k + 1, pos, l => if l = [] then -1 else if badD (dL l) then (pos : Int) else fl k (pos + (dL l).2) (l.drop (dL l).2)
def rl : Nat → List UInt8 → Int
  | 0, _ => 0
  | k + 1, l => if l = [] then 0 else rl k (l.drop (dL l).2) + 1
theorem drop_nil_iff (l : List UInt8) (pos : Nat) : (l.drop pos = []) ↔ ¬ pos < l.length := by
  rw [List.drop_eq_nil_iff]; omega
theorem faults_fl (l : List UInt8) (k : Nat) : ∀ pos, faults (mk l) k pos = fl k pos (l.drop pos) := by
  induction k with
  | zero => intro pos; rfl
  | succ k ih =>
    intro pos
    unfold faults fl
    rw [mk_size]
    by_cases h : pos < l.length
    · rw [if_pos h, if_neg (fun e => (drop_nil_iff l pos).1 e h), decode_dL]
      have e : (Lib.decodeGo ((mk l).extract pos l.length)).2 = (dL (l.drop pos)).2 := by
        have := mk_rest l pos
        rw [mk_size] at this
        rw [this]
        unfold Lib.decodeGo
        rw [if_neg (by rw [mk_size, List.length_drop]; omega), decode_dL, List.drop_zero]
      rw [e, ih, List.drop_drop]
      by_cases h1 : ((dL (l.drop pos)).1 < 32 ∧ (dL (l.drop pos)).1 ≠ 9 ∧ (dL (l.drop pos)).1 ≠ 10) ∨ (dL (l.drop pos)).1 = 127
      · rw [if_pos h1, if_pos (show badD _ from Or.inl h1)]
      · rw [if_neg h1]
        by_cases h2 : (dL (l.drop pos)).1 = 65533 ∧ (dL (l.drop pos)).2 = 1
        · rw [if_pos h2, if_pos (show badD _ from Or.inr h2)]
        · rw [if_neg h2, if_neg (show ¬ badD _ from fun e => Or.elim e h1 h2)]
    · rw [if_neg h, if_pos ((drop_nil_iff l pos).2 h)]
theorem runes_rl (l : List UInt8) (k : Nat) : ∀ pos, runes (mk l) k pos = rl k (l.drop pos) := by
  induction k with
  | zero => intro pos; rfl
  | succ k ih =>
    intro pos
    unfold runes rl
    rw [mk_size]
    by_cases h : pos < l.length
    · rw [if_pos h, if_neg (fun e => (drop_nil_iff l pos).1 e h), decode_dL, ih, List.drop_drop]
    · rw [if_neg h, if_pos ((drop_nil_iff l pos).2 h)]
theorem fl_fuel (d : Nat) : ∀ (k k' pos : Nat) (l : List UInt8), l.length ≤ d → l.length ≤ k → l.length ≤ k' → fl k pos l = fl k' pos l := by
  induction d with
  | zero =>
    intro k k' pos l h _ _
    obtain rfl : l = [] := List.eq_nil_of_length_eq_zero (by omega)
    cases k <;> cases k' <;> simp [fl]
  | succ d ih =>
    intro k k' pos l h h1 h2
    by_cases hl : l = []
    · subst hl; cases k <;> cases k' <;> simp [fl]
    · have hp := List.length_pos_iff.2 hl
      obtain ⟨k, rfl⟩ : ∃ m, k = m + 1 := ⟨k - 1, by omega⟩
      obtain ⟨k', rfl⟩ : ∃ m, k' = m + 1 := ⟨k' - 1, by omega⟩
      have hw := dL_wid l hl
      simp only [fl, if_neg hl]
      split
      · rfl
      · exact ih k k' _ _ (by rw [List.length_drop]; omega) (by rw [List.length_drop]; omega) (by rw [List.length_drop]; omega)
theorem rl_fuel (d : Nat) : ∀ (k k' : Nat) (l : List UInt8), l.length ≤ d → l.length ≤ k → l.length ≤ k' → rl k l = rl k' l := by
  induction d with
  | zero =>
    intro k k' l h _ _
    obtain rfl : l = [] := List.eq_nil_of_length_eq_zero (by omega)
    cases k <;> cases k' <;> simp [rl]
  | succ d ih =>
    intro k k' l h h1 h2
    by_cases hl : l = []
    · subst hl; cases k <;> cases k' <;> simp [rl]
    · have hp := List.length_pos_iff.2 hl
      obtain ⟨k, rfl⟩ : ∃ m, k = m + 1 := ⟨k - 1, by omega⟩
      obtain ⟨k', rfl⟩ : ∃ m, k' = m + 1 := ⟨k' - 1, by omega⟩
      have hw := dL_wid l hl
      simp only [rl, if_neg hl]
      rw [ih k k' _ (by rw [List.length_drop]; omega) (by rw [List.length_drop]; omega) (by rw [List.length_drop]; omega)]
/-- The first fault of some bytes; how many runes they are. -/
def flt (l : List UInt8) : Int := fl l.length 0 l
def cnt (l : List UInt8) : Int := rl l.length l
theorem fault_f (l : List UInt8) : utf_Fault.f (mk l) = some (flt l) := by
  unfold utf_Fault.f flt
  rw [faults_fl, mk_size, List.drop_zero]
/-- What was read whole is read so, whatever comes behind. -/
theorem decodeN_more (n b0 b1 b2 b3 n' c1 c2 c3 : Nat) (hn : n ≤ n') (h1 : 1 < n → c1 = b1) (h2 : 2 < n → c2 = b2) (h3 : 3 < n → c3 = b3) (h : ¬ ((Lib.decodeN n b0 b1 b2 b3).1 = 65533 ∧ (Lib.decodeN n b0 b1 b2 b3).2 = 1)) :
    Lib.decodeN n' b0 c1 c2 c3 = Lib.decodeN n b0 b1 b2 b3 := by
  unfold Lib.decodeN at h ⊢
  by_cases a0 : b0 < 128
  · rw [if_pos a0, if_pos a0]
  rw [if_neg a0] at h
  rw [if_neg a0, if_neg a0]
  by_cases a1 : b0 / 32 = 6 ∧ (1 < n ∧ b1 / 64 = 2)
  · rw [if_pos a1, if_pos ⟨a1.1, by omega, by rw [h1 a1.2.1]; exact a1.2.2⟩, h1 a1.2.1]
  rw [if_neg a1] at h
  rw [if_neg a1]
  by_cases a2 : b0 / 16 = 14 ∧ (1 < n ∧ b1 / 64 = 2) ∧ (2 < n ∧ b2 / 64 = 2)
  · rw [if_neg (by omega), if_pos a2, if_pos ⟨a2.1, ⟨by omega, by rw [h1 a2.2.1.1]; exact a2.2.1.2⟩, by omega, by rw [h2 a2.2.2.1]; exact a2.2.2.2⟩, h1 a2.2.1.1, h2 a2.2.2.1]
  rw [if_neg a2] at h
  rw [if_neg a2]
  by_cases a3 : b0 / 8 = 30 ∧ (1 < n ∧ b1 / 64 = 2) ∧ (2 < n ∧ b2 / 64 = 2) ∧ (3 < n ∧ b3 / 64 = 2)
  · rw [if_neg (by omega), if_neg (by omega), if_pos a3, if_pos ⟨a3.1, ⟨by omega, by rw [h1 a3.2.1.1]; exact a3.2.1.2⟩, ⟨by omega, by rw [h2 a3.2.2.1.1]; exact a3.2.2.1.2⟩, by omega, by rw [h3 a3.2.2.2.1]; exact a3.2.2.2.2⟩, h1 a3.2.1.1, h2 a3.2.2.1.1, h3 a3.2.2.2.1]
  · rw [if_neg a3] at h
    exact absurd ⟨rfl, rfl⟩ h
theorem nb_app (a b : List UInt8) (i : Nat) (h : i < a.length) : nb (a ++ b) i = nb a i := by
  unfold nb
  simp [List.getD_eq_getElem?_getD, List.getElem?_append_left h]
theorem dL_more (a b : List UInt8) (hne : a ≠ []) (h : ¬ badD (dL a)) : dL (a ++ b) = dL a := by
  have hp := List.length_pos_iff.2 hne
  unfold dL
  rw [nb_app a b 0 hp]
  exact decodeN_more _ _ _ _ _ _ _ _ _ (by simp) (fun e => nb_app a b 1 e) (fun e => nb_app a b 2 e) (fun e => nb_app a b 3 e) (fun e => h (Or.inr e))
theorem fl_join (b : List UInt8) (d : Nat) : ∀ (k pos : Nat) (a : List UInt8), a.length ≤ d → a.length + b.length ≤ k → fl k pos a < 0 → fl k pos (a ++ b) = fl b.length (pos + a.length) b := by
  induction d with
  | zero =>
    intro k pos a ha hk _
    obtain rfl : a = [] := List.eq_nil_of_length_eq_zero (by omega)
    rw [List.nil_append, List.length_nil, Nat.add_zero]
    exact fl_fuel b.length _ _ _ _ (Nat.le_refl _) (by simpa using hk) (Nat.le_refl _)
  | succ d ih =>
    intro k pos a ha hk hf
    by_cases hne : a = []
    · subst hne
      rw [List.nil_append, List.length_nil, Nat.add_zero]
      exact fl_fuel b.length _ _ _ _ (Nat.le_refl _) (by simpa using hk) (Nat.le_refl _)
    have hp := List.length_pos_iff.2 hne
    have hw := dL_wid a hne
    obtain ⟨k, rfl⟩ : ∃ m, k = m + 1 := ⟨k - 1, by omega⟩
    simp only [fl, if_neg hne] at hf
    have hne2 : a ++ b ≠ [] := fun e => hne (List.append_eq_nil_iff.1 e).1
    simp only [fl, if_neg hne2]
    by_cases hb : badD (dL a)
    · rw [if_pos hb] at hf; omega
    rw [if_neg hb] at hf
    rw [dL_more a b hne hb, if_neg hb, List.drop_append_of_le_length hw.2]
    have := ih k (pos + (dL a).2) (a.drop (dL a).2) (by rw [List.length_drop]; omega) (by rw [List.length_drop]; omega) hf
    rw [this, List.length_drop]
    congr 1; omega
theorem fl_shift (d : Nat) : ∀ (k pos m : Nat) (l : List UInt8), l.length ≤ d → (fl k pos l < 0 → fl k (pos + m) l = -1) ∧ (0 ≤ fl k pos l → fl k (pos + m) l = fl k pos l + m) := by
  induction d with
  | zero =>
    intro k pos m l h
    obtain rfl : l = [] := List.eq_nil_of_length_eq_zero (by omega)
    cases k <;> simp [fl]
  | succ d ih =>
    intro k pos m l h
    cases k with
    | zero => simp [fl]
    | succ k =>
      simp only [fl]
      by_cases hl : l = []
      · simp [hl]
      · have hw := dL_wid l hl
        simp only [if_neg hl]
        by_cases hb : badD (dL l)
        · simp only [if_pos hb]; omega
        · simp only [if_neg hb]
          rw [show pos + m + (dL l).2 = pos + (dL l).2 + m by omega]
          exact ih k _ m _ (by rw [List.length_drop]; omega)
theorem flt_join (a b : List UInt8) (h : flt a < 0) : flt (a ++ b) = if flt b < 0 then -1 else flt b + a.length := by
  unfold flt at h ⊢
  have h2 : fl (a ++ b).length 0 a < 0 := by rw [fl_fuel a.length (a ++ b).length a.length 0 a (Nat.le_refl _) (by simp) (Nat.le_refl _)]; exact h
  rw [fl_join b a.length _ 0 a (Nat.le_refl _) (by simp) h2]
  obtain ⟨g1, g2⟩ := fl_shift b.length b.length 0 a.length b (Nat.le_refl _)
  split
  · rename_i g; exact g1 g
  · rename_i g; exact g2 (by omega)
theorem fl_lo (k : Nat) : ∀ (pos : Nat) (l : List UInt8), -1 ≤ fl k pos l := by
  induction k with
  | zero => intro pos l; simp [fl]
  | succ k ih =>
    intro pos l
    unfold fl
    split
    · omega
    · split
      · omega
      · exact ih _ _
theorem fl_hi (d : Nat) : ∀ (k pos : Nat) (l : List UInt8), l.length ≤ d → fl k pos l ≤ pos + l.length := by
  induction d with
  | zero =>
    intro k pos l h
    obtain rfl : l = [] := List.eq_nil_of_length_eq_zero (by omega)
    cases k <;> simp [fl]
    all_goals omega
  | succ d ih =>
    intro k pos l h
    cases k with
    | zero => simp [fl]; omega
    | succ k =>
      unfold fl
      by_cases hl : l = []
      · rw [if_pos hl]; omega
      · have hw := dL_wid l hl
        rw [if_neg hl]
        split
        · omega
        · have := ih k (pos + (dL l).2) (l.drop (dL l).2) (by rw [List.length_drop]; omega)
          rw [List.length_drop] at this; omega
theorem count_f (l : List UInt8) (hl : l.length ≤ 1000000) : utf_Count.f (mk l) = some (cnt l) := by
  unfold utf_Count.f cnt
  rw [if_pos (by rw [mk_size]; omega), runes_rl, mk_size, List.drop_zero]
theorem rl_le (k : Nat) : ∀ l : List UInt8, 0 ≤ rl k l ∧ rl k l ≤ k := by
  induction k with
  | zero => intro l; simp [rl]
  | succ k ih =>
    intro l
    unfold rl
    split
    · omega
    · have := ih (l.drop (dL l).2); omega
theorem cut_f (s : ByteArray) (n : Nat) : ∃ c : List UInt8, recensionlaw3_Cut.f s (n : Int) = some (mk c) ∧ c.length ≤ n := by
  unfold recensionlaw3_Cut.f
  by_cases h : (s.size : Int) > (n : Int)
  · rw [if_pos h, if_pos (by omega), if_pos (by omega)]
    exact ⟨(s.extract 0 n).toList, by rw [mk_of, Int.toNat_natCast], by rw [list_len]; simp [ByteArray.size_extract]; omega⟩
  · rw [if_neg h]; exact ⟨s.toList, by rw [mk_of], by rw [list_len]; omega⟩
theorem begun_f : recensionlaw3_begun.f = some true := by decide +kernel
theorem rl_join (b : List UInt8) (d : Nat) : ∀ (k k1 pos : Nat) (a : List UInt8), a.length ≤ d → a.length + b.length ≤ k → a.length ≤ k1 → fl k1 pos a < 0 → rl k (a ++ b) = rl k1 a + rl b.length b := by
  induction d with
  | zero =>
    intro k k1 pos a ha hk h1 _
    obtain rfl : a = [] := List.eq_nil_of_length_eq_zero (by omega)
    rw [List.nil_append, rl_fuel b.length k b.length b (Nat.le_refl _) (by simpa using hk) (Nat.le_refl _)]
    cases k1 <;> simp [rl]
  | succ d ih =>
    intro k k1 pos a ha hk h1 hf
    by_cases hne : a = []
    · subst hne
      rw [List.nil_append, rl_fuel b.length k b.length b (Nat.le_refl _) (by simpa using hk) (Nat.le_refl _)]
      cases k1 <;> simp [rl]
    have hp := List.length_pos_iff.2 hne
    have hw := dL_wid a hne
    obtain ⟨k, rfl⟩ : ∃ m, k = m + 1 := ⟨k - 1, by omega⟩
    obtain ⟨k1, rfl⟩ : ∃ m, k1 = m + 1 := ⟨k1 - 1, by omega⟩
    simp only [fl, if_neg hne] at hf
    have hne2 : a ++ b ≠ [] := fun e => hne (List.append_eq_nil_iff.1 e).1
    by_cases hb : badD (dL a)
    · rw [if_pos hb] at hf; omega
    rw [if_neg hb] at hf
    simp only [rl, if_neg hne2, if_neg hne]
    rw [dL_more a b hne hb, List.drop_append_of_le_length hw.2]
    rw [ih k k1 (pos + (dL a).2) (a.drop (dL a).2) (by rw [List.length_drop]; omega) (by rw [List.length_drop]; omega) (by rw [List.length_drop]; omega) hf]
    omega
theorem UtfJoin : recensionlaw3_UtfJoin.Pure := by
  intro a b ha hb
  obtain ⟨k, hk⟩ : ∃ k, k = 1000 := ⟨_, rfl⟩
  refine ⟨k + 1, ?_⟩
  obtain ⟨x, hx, hxl⟩ := cut_f a 60
  obtain ⟨y, hy, hyl⟩ := cut_f b 60
  unfold recensionlaw3_UtfJoin.f
  rw [begun_f, Option.bind_some, if_pos rfl, show recensionlaw3_Cut.f a 60 = some (mk x) from hx, Option.bind_some, show recensionlaw3_Cut.f b 60 = some (mk y) from hy, Option.bind_some, fault_f, Option.bind_some]
  by_cases h : flt x ≥ 0
  · rw [if_pos h]
  rw [if_neg h, fault_f, Option.bind_some]
  have hj := flt_join x y (by omega)
  have hlo : -1 ≤ flt y := fl_lo _ _ _
  have hhi : flt y ≤ y.length := by have := fl_hi y.length y.length 0 y (Nat.le_refl _); unfold flt; omega
  have hcnt : cnt (x ++ y) = cnt x + cnt y := by
    unfold cnt
    exact rl_join y x.length _ x.length 0 x (Nat.le_refl _) (by simp) (Nat.le_refl _) (by unfold flt at h; omega)
  have key : recensionlaw3_UtfJoin.j0 (k + 1) (mk x) (mk y) (flt (x ++ y)) = some true := by
    have c1 := rl_le x.length x
    have c2 := rl_le y.length y
    simp only [recensionlaw3_UtfJoin.j0]
    rw [if_pos (by rw [mk_size, mk_size]; omega), mk_app, fault_f, Option.bind_some, if_pos rfl, count_f _ (by simp; omega), Option.bind_some, count_f x (by omega), Option.bind_some, count_f y (by omega), Option.bind_some, w_cast (cnt x + cnt y) (by unfold cnt; omega) (by unfold cnt; omega), hcnt]
    simp
  rw [hj] at key
  by_cases hy0 : flt y ≥ 0
  · rw [if_neg (by omega)] at key
    rw [if_pos hy0, mk_size, w_cast _ (by omega) (by omega)]
    exact key
  · rw [if_pos (by omega)] at key
    rw [if_neg hy0, show flt y = -1 by omega]
    exact key

end Go.Proofs.YtonbofpegmbnlaaDoor.Pure
