/- No key is a name, a key with a letter more is one and no key, and the world's names are names. Condition: none beside the statement's own. -/
import Derived.Test.YtebfhmhfmeibcaaPNameKeysx3
namespace Go.Proofs.Ytebfhmhfmeibcaa.Pure
open Go.RowKit Go.Proofs.Ytebfhmhfmeibcaa.PNameKeys Go.Proofs.YtebfhmhfmeibcaaW.PrintWords Go.Proofs.YtebfhmhfmeibcaaW.PrintLast
theorem wrap_up {i : Int} {n : Nat} (h0 : 0 ≤ i) (h : i < (n : Int)) (hn : n ≤ 140737488351232) : wrap64 (i + 1) = i + 1 := by
  unfold wrap64
  omega

def letB (c : Int) : Bool := (decide (97 ≤ c) && decide (c ≤ 122)) || (decide (65 ≤ c) && decide (c ≤ 90)) || c == 95
def digB (c : Int) : Bool := decide (48 ≤ c) && decide (c ≤ 57)

theorem letter_f (c : Int) : name_Letter.f c = some (letB c) := by
  unfold name_Letter.f letB
  repeat' split
  all_goals (simp only [Option.some.injEq]; first | (simp; omega) | (by_cases h : c = 95 <;> simp [h] <;> omega))

theorem digit_f (c : Int) : name_Digit.f c = some (digB c) := by
  unfold name_Digit.f digB
  repeat' split
  all_goals (simp only [Option.some.injEq]; simp; omega)

def keyL : List (List UInt8) := [[112, 97, 99, 107, 97, 103, 101], [105, 109, 112, 111, 114, 116], [118, 97, 114], [99, 111, 110, 115, 116], [116, 121, 112, 101], [115, 116, 114, 117, 99, 116], [102, 117, 110, 99], [105, 102], [101, 108, 115, 101], [102, 111, 114], [114, 101, 116, 117, 114, 110], [98, 114, 101, 97, 107], [99, 111, 110, 116, 105, 110, 117, 101]]
def keyB (l : List UInt8) : Bool := decide (l ∈ keyL)

theorem ite_key {l K : List UInt8} {Ks : List (List UInt8)} {r : Option Bool} (h : r = some (decide (l ∈ Ks))) : (if l = K then some true else r) = some (decide (l ∈ K :: Ks)) := by
  by_cases e : l = K
  · rw [if_pos e, e]; simp
  · rw [if_neg e, h]; simp [e]

theorem key_f (s : ByteArray) : name_Key.f s = some (keyB s.toList) := by
  unfold name_Key.f keyB keyL
  repeat (refine ite_key ?_)
  simp

def allB (p : Int → Bool) (s : ByteArray) : Nat → Bool
  | 0 => true
  | d + 1 => p (bt s ((s.size : Int) - (d + 1))) && allB p s d
def wordB (c : Int) : Bool := letB c || digB c
def isB (s : ByteArray) : Bool := !decide (s.size < 1) && !decide (24 < s.size) && !digB (bt s 0) && !keyB s.toList && allB wordB s s.size

theorem is_l0 (s : ByteArray) (hn : s.size ≤ 140737488351232) (d : Nat) : ∀ (k : Nat) (i : Int), 0 ≤ i → (s.size : Int) - i = d → d < k → name_Is.l0 k s (s.size : Int) i = some (allB wordB s d) := by
  induction d with
  | zero =>
    intro k i h0 hd hk
    obtain ⟨k, rfl⟩ : ∃ m, k = m + 1 := ⟨k - 1, by omega⟩
    simp only [name_Is.l0, allB]
    rw [if_neg (by omega)]
  | succ d ih =>
    intro k i h0 hd hk
    obtain ⟨k, rfl⟩ : ∃ m, k = m + 1 := ⟨k - 1, by omega⟩
    have hlt : i < (s.size : Int) := by omega
    have e : (s.size : Int) - (↑d + 1) = i := by omega
    simp only [name_Is.l0, allB, e]
    rw [if_pos hlt, if_pos h0, if_pos hlt, letter_f, digit_f, wrap_up h0 hlt hn, ih k (i + 1) (by omega) (by omega) (by omega)]
    simp only [Option.bind_some, wordB]
    cases letB (bt s i) <;> cases digB (bt s i) <;> simp

theorem is_f (k : Nat) (s : ByteArray) (hn : s.size ≤ 140737488351232) (hk : s.size + 2 ≤ k) : name_Is.f k s = some (isB s) := by
  obtain ⟨k, rfl⟩ : ∃ m, k = m + 1 := ⟨k - 1, by omega⟩
  have hl := is_l0 s hn s.size k 0 (by omega) (by omega) (by omega)
  have he : s.toList = [] ↔ s.size = 0 := by
    rw [ByteArray.toList_eq, Array.toList_eq_nil_iff, ← Array.size_eq_zero_iff]; rfl
  unfold name_Is.f isB
  simp only [name_Is.j0, hl, digit_f, key_f, Option.bind_some]
  by_cases h1 : s.size = 0
  · rw [if_pos (he.2 h1)]; simp [h1]
  · rw [if_neg (fun h => h1 (he.1 h))]
    by_cases h2 : 24 < s.size
    · rw [if_pos (by omega)]; simp [h2]
    · rw [if_neg (by omega), if_pos (by omega)]
      have h3 : decide (s.size < 1) = false := by simpa using h1
      have h4 : decide (24 < s.size) = false := by simpa using h2
      rw [h3, h4]
      cases digB (bt s 0) <;> cases keyB s.toList <;> simp

def fileC (c : Int) : Bool := (decide (97 ≤ c) && decide (c ≤ 122)) || digB c || c == 46 || c == 45 || c == 95
def fileB (s : ByteArray) : Bool := !decide (s.size < 1) && !decide (16 < s.size) && !(bt s 0 == 46) && allB fileC s s.size

theorem file_l0 (s : ByteArray) (hn : s.size ≤ 140737488351232) (d : Nat) : ∀ (k : Nat) (i : Int), 0 ≤ i → (s.size : Int) - i = d → d < k → name_File.l0 k s (s.size : Int) i = some (allB fileC s d) := by
  induction d with
  | zero =>
    intro k i h0 hd hk
    obtain ⟨k, rfl⟩ : ∃ m, k = m + 1 := ⟨k - 1, by omega⟩
    simp only [name_File.l0, allB]
    rw [if_neg (by omega)]
  | succ d ih =>
    intro k i h0 hd hk
    obtain ⟨k, rfl⟩ : ∃ m, k = m + 1 := ⟨k - 1, by omega⟩
    have hlt : i < (s.size : Int) := by omega
    have e : (s.size : Int) - (↑d + 1) = i := by omega
    simp only [name_File.l0, allB, e]
    rw [if_pos hlt, if_pos h0, if_pos hlt, digit_f, wrap_up h0 hlt hn, ih k (i + 1) (by omega) (by omega) (by omega)]
    simp only [Option.bind_some, fileC]
    by_cases h1 : 97 ≤ bt s i <;> by_cases h2 : bt s i ≤ 122 <;> by_cases h3 : bt s i = 46 <;> by_cases h4 : bt s i = 45 <;> by_cases h5 : bt s i = 95 <;> cases digB (bt s i) <;> simp [h1, h2, h3, h4, h5]

theorem file_f (k : Nat) (s : ByteArray) (hn : s.size ≤ 140737488351232) (hk : s.size + 2 ≤ k) : name_File.f k s = some (fileB s) := by
  obtain ⟨k, rfl⟩ : ∃ m, k = m + 1 := ⟨k - 1, by omega⟩
  have hl := file_l0 s hn s.size k 0 (by omega) (by omega) (by omega)
  have he : s.toList = [] ↔ s.size = 0 := by
    rw [ByteArray.toList_eq, Array.toList_eq_nil_iff, ← Array.size_eq_zero_iff]; rfl
  unfold name_File.f fileB
  simp only [name_File.j0, hl]
  by_cases h1 : s.size = 0
  · rw [if_pos (he.2 h1)]; simp [h1]
  · rw [if_neg (fun h => h1 (he.1 h))]
    by_cases h2 : 16 < s.size
    · rw [if_pos (by omega)]; simp [h2]
    · rw [if_neg (by omega), if_pos (by omega)]
      have h3 : decide (s.size < 1) = false := by simpa using h1
      have h4 : decide (16 < s.size) = false := by simpa using h2
      rw [h3, h4]
      cases (bt s 0 == 46) <;> simp

def idxB (l : List UInt8) : Int → List (List UInt8) → Int
  | _, [] => -1
  | i, x :: xs => if l = x then i else idxB l (i + 1) xs
def worldL : List (List UInt8) := [[105, 110, 116], [115, 116, 114, 105, 110, 103], [98, 111, 111, 108], [116, 114, 117, 101], [102, 97, 108, 115, 101]]

theorem idx_l0 (s : ByteArray) (l : List ByteArray) (hn : l.length ≤ 1000) (d : Nat) : ∀ (k : Nat) (i : Int), 0 ≤ i → (l.length : Int) - i = d → d < k → slices_Index_string_string.l0 k l s (l.length : Int) i = some (idxB s.toList i ((l.map ByteArray.toList).drop i.toNat)) := by
  induction d with
  | zero =>
    intro k i h0 hd hk
    obtain ⟨k, rfl⟩ : ∃ m, k = m + 1 := ⟨k - 1, by omega⟩
    simp only [slices_Index_string_string.l0]
    rw [if_neg (by omega), List.drop_of_length_le (by rw [List.length_map]; omega)]; rfl
  | succ d ih =>
    intro k i h0 hd hk
    obtain ⟨k, rfl⟩ : ∃ m, k = m + 1 := ⟨k - 1, by omega⟩
    have hlt : i < (l.length : Int) := by omega
    have hlt' : i.toNat < (l.map ByteArray.toList).length := by rw [List.length_map]; omega
    have hr : rdOf ByteArray.empty l i = l[i.toNat]'(by omega) := by
      unfold rdOf; rw [List.getD_eq_getElem?_getD, List.getElem?_eq_getElem (by omega)]; rfl
    have hw : wrap64 (i + 1) = i + 1 := wrap_up h0 hlt (by omega)
    have e1 : (i + 1).toNat = i.toNat + 1 := by omega
    simp only [slices_Index_string_string.l0]
    rw [if_pos hlt, if_pos h0, if_pos hlt, hw, ih k (i + 1) (by omega) (by omega) (by omega), List.drop_eq_getElem_cons hlt', hr, e1]
    simp only [idxB, List.getElem_map]
    split <;> rfl

theorem world_f (k : Nat) (s : ByteArray) (hk : 6 ≤ k) : name_World.f k s = some (idxB s.toList 0 worldL) := by
  unfold name_World.f slices_Index_string_string.f
  rw [idx_l0 s _ (by decide) 5 k 0 (by omega) (by decide) (by omega)]
  have e : ∀ l : List (List UInt8), l = worldL → (some (idxB s.toList 0 l)).bind (fun t109 => some t109) = some (idxB s.toList 0 worldL) := fun l h => by rw [h]; rfl
  exact e _ (by decide +kernel)

theorem cut_f (s : ByteArray) (n : Nat) : ∃ t : ByteArray, recensionlaw3_Cut.f s (n : Int) = some t ∧ t.size ≤ n := by
  unfold recensionlaw3_Cut.f
  by_cases h : (s.size : Int) > n
  · rw [if_pos h, if_pos (by omega), if_pos (by omega)]
    exact ⟨_, rfl, by simp; omega⟩
  · rw [if_neg h]
    exact ⟨s, rfl, by omega⟩

theorem begun_f : recensionlaw4_begun.f 40 = some true := by decide +kernel

theorem idx_mem (l : List UInt8) : ∀ (xs : List (List UInt8)) (i : Int), 0 ≤ i → l ∉ xs → idxB l i xs = -1
  | [], _, _, _ => rfl
  | x :: xs, i, h0, h => by
    simp only [List.mem_cons, not_or] at h
    simp only [idxB]
    rw [if_neg h.1]
    exact idx_mem l xs (i + 1) (by omega) h.2

theorem world_all : ∀ l ∈ worldL, (isB ⟨l.toArray⟩ && !keyB l) = true := by decide +kernel
theorem key_all : ∀ l ∈ keyL, (!isB ⟨l.toArray⟩ && isB ((⟨l.toArray⟩ : ByteArray) ++ (⟨#[120]⟩ : ByteArray)) && !keyB ((⟨l.toArray⟩ : ByteArray) ++ (⟨#[120]⟩ : ByteArray)).toList) = true := by decide +kernel
theorem back (s : ByteArray) : s = ⟨s.toList.toArray⟩ := by
  rw [ByteArray.toList_eq]

theorem NameKeys : recensionlaw4_NameKeys.Pure := by
  intro s _
  obtain ⟨t, ht, hs⟩ := cut_f s 30
  have ht' : recensionlaw3_Cut.f s 30 = some t := ht
  refine ⟨50, ?_⟩
  have hb : recensionlaw4_begun.f 50 = some true := at_rounds (fun k => recensionlaw4_begun.mono k) (by omega : 40 ≤ 50) begun_f
  have hx : (t ++ (⟨#[120]⟩ : ByteArray)).size = t.size + 1 := by rw [ByteArray.size_append]; rfl
  unfold recensionlaw4_NameKeys.f
  rw [hb, ht']
  simp only [Option.bind_some, is_f 50 t (by omega) (by omega), key_f, world_f 50 t (by omega), if_true]
  have hj : recensionlaw4_NameKeys.j0 50 t false = some true := by
    simp only [recensionlaw4_NameKeys.j0, is_f 49 t (by omega) (by omega), is_f 49 (t ++ (⟨#[120]⟩ : ByteArray)) (by omega) (by omega), key_f, Option.bind_some]
    by_cases hk : keyB t.toList = true
    · have := key_all t.toList (by simpa [keyB] using hk)
      rw [← back] at this
      simp only [Bool.and_eq_true, Bool.not_eq_true'] at this
      simp [hk, this.1.1, this.1.2, this.2]
      try omega
    · simp [hk]
  by_cases hw : t.toList ∈ worldL
  · have := world_all _ hw
    rw [← back] at this
    simp only [Bool.and_eq_true, Bool.not_eq_true'] at this
    rw [this.1, this.2, hj]
    simp
  · rw [if_neg (by rw [idx_mem _ _ _ (by omega) hw]; omega), hj]

end Go.Proofs.Ytebfhmhfmeibcaa.Pure
