/- Of the columns of each line of a text of at most eight lines each is a byte, up to its newline's; behind it there is none. Condition: none beside the statement's own. -/
import Derived.Test.YthioodhmfclinaaDoorPLinesAtx3
namespace Go.Proofs.YthioodhmfclinaaDoor.Pure
open Go.RowKit Go.Proofs.YthioodhmfclinaaDoor.PLinesAt Go.Proofs.YthioodhmfclinaaDoorW.PrintWords Go.Proofs.YthioodhmfclinaaDoorW.PrintLast Go.Proofs.YthioodhmfclinaaDoorW.PrintMore
theorem wrap_small {x : Int} (h0 : -9223372036854775808 ≤ x) (h1 : x ≤ 9223372036854775807) : wrap64 x = x := by
  unfold wrap64
  omega
/-- Where lines begin, behind the first: i bytes stand ahead. -/
def st : Nat → List UInt8 → List Int
  | _, [] => []
  | i, c :: t => if c = 10 then ((i + 1 : Nat) : Int) :: st (i + 1) t else st (i + 1) t
theorem st_len (l : List UInt8) : ∀ i, (st i l).length = l.count 10 := by
  induction l with
  | nil => intro i; rfl
  | cons c t ih =>
    intro i
    unfold st
    by_cases h : c = 10
    · rw [if_pos h, List.length_cons, ih, h, List.count_cons_self]
    · rw [if_neg h, ih, List.count_cons_of_ne h]
def colF : Int → List UInt8 → Int
  | c, [] => c
  | c, b :: t => if b = 10 then colF 1 t else colF (c + 1) t
/-- Each start of a line stands behind what is ahead. -/
theorem st_gt (l : List UInt8) : ∀ (i : Nat) (x : Int), x ∈ st i l → (i : Int) < x := by
  induction l with
  | nil => intro i x h; cases h
  | cons c t ih =>
    intro i x h
    unfold st at h
    by_cases hc : c = 10
    · rw [if_pos hc] at h
      rcases List.mem_cons.1 h with e | h
      · omega
      · have := ih (i + 1) x h; omega
    · rw [if_neg hc] at h
      have := ih (i + 1) x h; omega
theorem st_sorted (l : List UInt8) : ∀ i : Nat, (st i l).Pairwise (· < ·) := by
  induction l with
  | nil => intro i; exact List.Pairwise.nil
  | cons c t ih =>
    intro i
    unfold st
    by_cases hc : c = 10
    · rw [if_pos hc]
      exact List.Pairwise.cons (fun x hx => st_gt t (i + 1) x hx) (ih (i + 1))
    · rw [if_neg hc]; exact ih (i + 1)
/-- The starts up to a place: as many as newlines ahead of it; the last of them tells the column. -/
theorem st_at (l : List UInt8) : ∀ (i : Nat) (base : Int) (n : Nat), n ≤ l.length → base ≤ i →
    let m := (l.take n).count 10
    (∃ x, (base :: st i l)[m]? = some x ∧ x ≤ (i : Int) + n ∧ (i : Int) + n - x + 1 = colF (i - base + 1) (l.take n)) ∧ (∀ y, (base :: st i l)[m + 1]? = some y → (i : Int) + n < y) := by
  induction l with
  | nil =>
    intro i base n hn hb
    obtain rfl : n = 0 := by simpa using hn
    exact ⟨⟨base, rfl, by simpa using hb, by simp [colF]⟩, fun y hy => by simp [st] at hy⟩
  | cons c t ih =>
    intro i base n hn hb
    cases n with
    | zero =>
      refine ⟨⟨base, rfl, by simpa using hb, by simp [colF]⟩, fun y hy => ?_⟩
      have hm : y ∈ st i (c :: t) := by
        have := List.mem_of_getElem? (show (st i (c :: t))[0]? = some y by simpa using hy)
        exact this
      have := st_gt _ _ _ hm; simpa using this
    | succ n =>
      have hn' : n ≤ t.length := by simpa using hn
      by_cases hc : c = 10
      · subst hc
        obtain ⟨⟨x, h1, h2, h3⟩, h4⟩ := ih (i + 1) ((i + 1 : Nat) : Int) n hn' (by omega)
        simp only [List.take_succ_cons, List.count_cons_self, st, if_true, colF]
        refine ⟨⟨x, by simpa using h1, by omega, ?_⟩, fun y hy => ?_⟩
        · have e : ((i + 1 : Nat) : Int) - ((i + 1 : Nat) : Int) + 1 = 1 := by omega
          rw [e] at h3; rw [← h3]; omega
        · have := h4 y (by simpa using hy); omega
      · obtain ⟨⟨x, h1, h2, h3⟩, h4⟩ := ih (i + 1) base n hn' (by omega)
        simp only [List.take_succ_cons, List.count_cons_of_ne hc, st, if_neg hc, colF]
        refine ⟨⟨x, h1, by omega, ?_⟩, fun y hy => ?_⟩
        · have e : ((i + 1 : Nat) : Int) - base + 1 = (i : Int) - base + 1 + 1 := by omega
          rw [e] at h3; rw [← h3]; omega
        · have := h4 y hy; omega
/-- The lines of some bytes. -/
def sp : List UInt8 → List (List UInt8)
  | [] => [[]]
  | c :: t => if c = 10 then [] :: sp t else match sp t with | [] => [[c]] | h :: r => (c :: h) :: r
theorem sp_nl (t : List UInt8) : sp (10 :: t) = [] :: sp t := by simp [sp]
theorem sp_ne (l : List UInt8) : sp l ≠ [] := by
  cases l with
  | nil => simp [sp]
  | cons c t =>
    unfold sp
    split
    · simp
    · split <;> simp
theorem sp_other {c : UInt8} (t : List UInt8) (hc : c ≠ 10) : ∃ h r, sp t = h :: r ∧ sp (c :: t) = (c :: h) :: r := by
  obtain ⟨h, r, e⟩ := List.exists_cons_of_ne_nil (sp_ne t)
  exact ⟨h, r, e, by rw [sp, if_neg hc, e]⟩
theorem sp_len (l : List UInt8) : (sp l).length = l.count 10 + 1 := by
  induction l with
  | nil => rfl
  | cons c t ih =>
    by_cases hc : c = 10
    · subst hc; rw [sp_nl, List.length_cons, ih, List.count_cons_self]
    · obtain ⟨h, r, e1, e2⟩ := sp_other t hc
      rw [e2, List.count_cons_of_ne hc, ← ih, e1]; rfl
theorem st_shift (l : List UInt8) : ∀ i : Nat, st (i + 1) l = (st i l).map (· + 1) := by
  induction l with
  | nil => intro i; rfl
  | cons c t ih =>
    intro i
    by_cases hc : c = 10
    · simp only [st, if_pos hc, List.map_cons, ih (i + 1)]; congr 1
    · simp only [st, if_neg hc, ih (i + 1)]
theorem sp_st (l : List UInt8) : ∀ (j : Nat) (h : List UInt8), (sp l)[j]? = some h → ∃ p : Nat, ((0 : Int) :: st 0 l)[j]? = some (p : Int) ∧ p + h.length ≤ l.length ∧ h = (l.drop p).take h.length ∧ (l.take p).count 10 = j ∧ (∀ b ∈ h, b ≠ 10) ∧ (p + h.length = l.length ∨ l[p + h.length]? = some 10) := by
  induction l with
  | nil =>
    intro j h hj
    cases j with
    | zero => simp [sp] at hj; subst hj; exact ⟨0, by simp, by simp, by simp, by simp, by simp, Or.inl rfl⟩
    | succ j => simp [sp] at hj
  | cons c t ih =>
    intro j h hj
    by_cases hc : c = 10
    · subst hc
      rw [sp_nl] at hj
      have es : st 0 (10 :: t) = 1 :: (st 0 t).map (· + 1) := by simp only [st, if_true]; rw [st_shift]; rfl
      cases j with
      | zero =>
        simp at hj; subst hj
        exact ⟨0, by simp, by simp, by simp, by simp, by simp, Or.inr (by simp)⟩
      | succ j =>
        obtain ⟨p, h1, h2, h3, h4, h5, h6⟩ := ih j h (by simpa using hj)
        refine ⟨p + 1, ?_, by simp; omega, by simpa using h3, by simp [h4], h5, ?_⟩
        · rw [es]
          have : ((0 : Int) :: 1 :: (st 0 t).map (· + 1)) = 0 :: ((0 :: st 0 t).map (· + 1)) := by simp
          rw [this, List.getElem?_cons_succ, List.getElem?_map, h1]; simp
        · rcases h6 with h6 | h6
          · exact Or.inl (by simp; omega)
          · right; rw [show p + 1 + h.length = (p + h.length) + 1 by omega]; simpa using h6
    · obtain ⟨a, r, e1, e2⟩ := sp_other t hc
      rw [e2] at hj
      have es : st 0 (c :: t) = (st 0 t).map (· + 1) := by simp only [st, if_neg hc]; rw [st_shift]
      cases j with
      | zero =>
        simp at hj; subst hj
        obtain ⟨p, h1, h2, h3, h4, h5, h6⟩ := ih 0 a (by rw [e1]; rfl)
        have hp : p = 0 := by simp at h1; omega
        subst hp
        refine ⟨0, by simp, by simp at h2 ⊢; omega, by simpa using h3, by simp, fun b hb => ?_, ?_⟩
        · rcases List.mem_cons.1 hb with rfl | hb
          · exact hc
          · exact h5 b hb
        · rcases h6 with h6 | h6
          · exact Or.inl (by simp at h6 ⊢; omega)
          · right; simpa using h6
      | succ j =>
        obtain ⟨p, h1, h2, h3, h4, h5, h6⟩ := ih (j + 1) h (by rw [e1]; simpa using hj)
        refine ⟨p + 1, ?_, by simp; omega, by simpa using h3, by simp [List.count_cons_of_ne hc, h4], h5, ?_⟩
        · rw [es, List.getElem?_cons_succ, List.getElem?_map]
          rw [List.getElem?_cons_succ] at h1
          rw [h1]; simp
        · rcases h6 with h6 | h6
          · exact Or.inl (by simp; omega)
          · right; rw [show p + 1 + h.length = (p + h.length) + 1 by omega]; simpa using h6
/-- Where a place stands: in a line's span. -/
theorem place (l : List UInt8) (n : Nat) (hn : n ≤ l.length) : ∃ (p : Nat) (h : List UInt8), (sp l)[(l.take n).count 10]? = some h ∧ ((0 : Int) :: st 0 l)[(l.take n).count 10]? = some (p : Int) ∧ p ≤ n ∧ n ≤ p + h.length ∧ ((n : Int) - p + 1 = colF 1 (l.take n)) := by
  have hc : (l.take n).count 10 ≤ l.count 10 := (List.take_sublist n l).count_le 10
  have hlt : (l.take n).count 10 < (sp l).length := by rw [sp_len]; omega
  obtain ⟨⟨x, h1, h2, h3⟩, h4⟩ := st_at l 0 0 n hn (by omega)
  obtain ⟨p, q1, q2, q3, q4, q5, q6⟩ := sp_st l _ _ (List.getElem?_eq_getElem hlt)
  rw [q1] at h1
  obtain rfl := Option.some.inj h1
  refine ⟨p, _, List.getElem?_eq_getElem hlt, q1, by omega, ?_, ?_⟩
  · apply Classical.byContradiction
    intro hh
    rcases q6 with q6 | q6
    · omega
    · have hle : p + ((sp l)[(l.take n).count 10]).length + 1 ≤ n := by omega
      have e : ((l.take (p + ((sp l)[(l.take n).count 10]).length + 1)).count 10) ≤ (l.take n).count 10 := by
        have : l.take (p + ((sp l)[(l.take n).count 10]).length + 1) = (l.take n).take (p + ((sp l)[(l.take n).count 10]).length + 1) := by rw [List.take_take, Nat.min_eq_left hle]
        rw [this]; exact (List.take_sublist _ _).count_le 10
      rw [List.take_add_one, q6] at e
      simp only [Option.toList_some, List.count_append, List.count_singleton_self] at e
      have e2 : (l.take p).count 10 ≤ (l.take (p + ((sp l)[(l.take n).count 10]).length)).count 10 := by
        have : l.take p = (l.take (p + ((sp l)[(l.take n).count 10]).length)).take p := by rw [List.take_take, Nat.min_eq_left (by omega)]
        rw [this]; exact (List.take_sublist _ _).count_le 10
      omega
  · simpa using h3
/-- And each column of a line is a place. -/
theorem placed (l : List UInt8) (j : Nat) (h : List UInt8) (hj : (sp l)[j]? = some h) (p : Nat) (hp : ((0 : Int) :: st 0 l)[j]? = some (p : Int)) (c : Nat) (hc : c ≤ h.length) : p + c ≤ l.length ∧ (l.take (p + c)).count 10 = j := by
  obtain ⟨p', q1, q2, q3, q4, q5, q6⟩ := sp_st l j h hj
  rw [hp] at q1
  have e : p = p' := by have := Option.some.inj q1; omega
  subst e
  refine ⟨by omega, ?_⟩
  rw [List.take_add, List.count_append, q4]
  have : ((l.drop p).take c).count 10 = 0 := by
    rw [List.count_eq_zero]
    intro hm
    have : (l.drop p).take c = h.take c := by rw [q3, List.take_take]; congr 1; omega
    rw [this] at hm
    exact q5 10 (List.mem_of_mem_take hm) rfl
  omega
theorem colF_app (a t : List UInt8) : ∀ c : Int, colF c (a ++ 10 :: t) = colF 1 t := by
  induction a with
  | nil => intro c; simp [colF]
  | cons b a ih =>
    intro c
    simp only [List.cons_append, colF]
    split <;> exact ih _
theorem isnan_f (a : Int) : slices_isNaN_int.f a = some false := by unfold slices_isNaN_int.f; simp
theorem less_f (a b : Int) : cmp_Less_int.f a b = some (decide (a < b)) := by unfold cmp_Less_int.f cmp_isNaN_int.f; simp
theorem rd_get (l : List Int) (i : Int) (n : Nat) (e : i = n) (x : Int) (h : l[n]? = some x) : rd l i = x := by
  subst e
  unfold rd
  simp [h]
theorem half (a b : Int) (h0 : 0 ≤ a) (h1 : a < b) (h2 : b ≤ 1000001) : wrap64 ((IntKind.u64.wrap (wrap64 (a + b))) / 2) = (a + b) / 2 := by
  rw [wrap_small (x := a + b) (by omega) (by omega)]
  have e : IntKind.u64.wrap (a + b) = a + b := by
    rw [show IntKind.u64.wrap (a + b) = (a + b) % 18446744073709551616 from by simp [IntKind.wrap, IntKind.signed, IntKind.bits]]
    omega
  rw [e, wrap_small (by omega) (by omega)]
theorem search_end (l : List Int) (x : Int) (k a : Nat) (hb : a ≤ l.length) (ha : ∀ i y, i < a → l[i]? = some y → y < x) (hbb : ∀ i y, a ≤ i → l[i]? = some y → x ≤ y) :
    ∃ n h, slices_BinarySearch_int_int.l0 (k + 1) l x (l.length : Int) (a : Int) (a : Int) = some (((n : Nat) : Int), h) ∧ n ≤ l.length ∧ (∀ i y, i < n → l[i]? = some y → y < x) ∧ (∀ i y, n ≤ i → l[i]? = some y → x ≤ y) ∧ (h = decide (l[n]? = some x)) := by
  simp only [slices_BinarySearch_int_int.l0]
  rw [if_neg (by omega)]
  by_cases h : a < l.length
  · rw [if_pos (by omega), if_pos (by omega), if_pos (by omega)]
    have hg : l[a]? = some l[a] := List.getElem?_eq_getElem h
    have hr := rd_get l (a : Int) a rfl _ hg
    rw [hr]
    by_cases e : l[a] = x
    · rw [if_pos e]; exact ⟨a, true, rfl, hb, ha, hbb, by rw [hg, e]; simp⟩
    · rw [if_neg e, isnan_f]; exact ⟨a, false, rfl, hb, ha, hbb, by rw [hg]; simp [e]⟩
  · rw [if_neg (by omega)]; exact ⟨a, false, rfl, hb, ha, hbb, by rw [List.getElem?_eq_none (by omega)]; simp⟩
/-- The search: from a to b, with all ahead of a smaller than x and none from b on. -/
theorem search_l0 (l : List Int) (x : Int) (hs : l.Pairwise (· < ·)) (hl : l.length ≤ 1000001) (d : Nat) : ∀ (k a b : Nat), a ≤ b → b ≤ l.length → b - a ≤ d → d < k →
    (∀ i y, i < a → l[i]? = some y → y < x) → (∀ i y, b ≤ i → l[i]? = some y → x ≤ y) →
    ∃ n h, slices_BinarySearch_int_int.l0 k l x (l.length : Int) (a : Int) (b : Int) = some (((n : Nat) : Int), h) ∧ n ≤ l.length ∧ (∀ i y, i < n → l[i]? = some y → y < x) ∧ (∀ i y, n ≤ i → l[i]? = some y → x ≤ y) ∧ (h = decide (l[n]? = some x)) := by
  induction d with
  | zero =>
    intro k a b hab hb hd hk ha hbb
    obtain ⟨k, rfl⟩ : ∃ m, k = m + 1 := ⟨k - 1, by omega⟩
    obtain rfl : a = b := by omega
    exact search_end l x k a hb ha hbb
  | succ d ih =>
    intro k a b hab hb hd hk ha hbb
    by_cases hlt : a = b
    · subst hlt
      obtain ⟨k, rfl⟩ : ∃ m, k = m + 1 := ⟨k - 1, by omega⟩
      exact search_end l x k a hb ha hbb
    obtain ⟨k, rfl⟩ : ∃ m, k = m + 1 := ⟨k - 1, by omega⟩
    have hm := half (a : Int) (b : Int) (by omega) (by omega) (by omega)
    obtain ⟨m, hm1⟩ : ∃ m : Nat, m = (a + b) / 2 := ⟨_, rfl⟩
    have hm2 : ((a : Int) + b) / 2 = (m : Int) := by omega
    have hml : m < l.length := by omega
    have hg : l[m]? = some l[m] := List.getElem?_eq_getElem hml
    have hr := rd_get l (m : Int) m rfl _ hg
    have hw : wrap64 ((m : Int) + 1) = ((m + 1 : Nat) : Int) := by rw [wrap_small (by omega) (by omega)]; omega
    simp only [slices_BinarySearch_int_int.l0, hm, hm2, hr, less_f, Option.bind_some, hw]
    clear hm hw hr hg
    rw [if_pos (by omega), if_pos (by omega), if_pos (by omega)]
    have hp := List.pairwise_iff_getElem.1 hs
    by_cases h : l[m] < x
    · rw [if_pos (by simpa using h)]
      refine ih k (m + 1) b (by omega) hb (by omega) (by omega) (fun i y hi hy => ?_) hbb
      obtain ⟨hil, rfl⟩ := List.getElem?_eq_some_iff.1 hy
      by_cases e : i = m
      · subst e; exact h
      · have := hp i m hil hml (by omega); omega
    · rw [if_neg (by simpa using h)]
      refine ih k a m (by omega) (by omega) (by omega) (by omega) ha (fun i y hi hy => ?_)
      obtain ⟨hil, rfl⟩ := List.getElem?_eq_some_iff.1 hy
      by_cases e : i = m
      · subst e; omega
      · have := hp m i hml hil (by omega); omega
theorem list_len (s : ByteArray) : s.toList.length = s.size := by rw [ByteArray.toList_eq]; simp
theorem bt_list (s : ByteArray) (i : Nat) (h : i < s.toList.length) : bt s (i : Int) = ((s.toList[i]'h).toNat : Int) := by
  have hs : i < s.size := by rwa [list_len] at h
  unfold bt
  rw [dif_pos (by simpa using hs)]
  congr 2
  simp only [ByteArray.toList_eq]
  rfl
theorem is_nl (s : ByteArray) (i : Nat) (h : i < s.toList.length) : (bt s (i : Int) = 10) ↔ s.toList[i]'h = 10 := by
  rw [bt_list s i h]
  constructor
  · intro e
    have : (s.toList[i]'h).toNat = 10 := by omega
    exact UInt8.toNat_inj.1 this
  · intro e; rw [e]; rfl
theorem starts_l0 (s : ByteArray) (hn : s.size ≤ 1000000) (d : Nat) : ∀ (k : Nat) (acc : List Int) (i : Nat), i + d = s.size → d < k → acc.length + d ≤ 1000001 →
    lines_Starts.l0 k s acc (s.size : Int) (i : Int) = some (acc ++ st i (s.toList.drop i)) := by
  induction d with
  | zero =>
    intro k acc i hd hk _
    obtain ⟨k, rfl⟩ : ∃ m, k = m + 1 := ⟨k - 1, by omega⟩
    simp only [lines_Starts.l0]
    rw [if_neg (by omega), List.drop_of_length_le (by rw [list_len]; omega)]
    simp [st]
  | succ d ih =>
    intro k acc i hd hk ha
    obtain ⟨k, rfl⟩ : ∃ m, k = m + 1 := ⟨k - 1, by omega⟩
    have hl : i < s.toList.length := by rw [list_len]; omega
    have hw : wrap64 ((i : Int) + 1) = ((i + 1 : Nat) : Int) := by rw [wrap_small (by omega) (by omega)]; omega
    simp only [lines_Starts.l0, hw]
    rw [if_pos (by omega), if_pos (by omega), if_pos (by omega), List.drop_eq_getElem_cons hl]
    by_cases h : s.toList[i] = 10
    · rw [if_pos ((is_nl s i hl).2 h), if_pos (by omega), ih k _ (i + 1) (by omega) (by omega) (by rw [List.length_append]; simp; omega)]
      simp only [st, h, if_true, List.append_assoc, List.singleton_append]
    · rw [if_neg (fun e => h ((is_nl s i hl).1 e)), ih k _ (i + 1) (by omega) (by omega) (by omega)]
      simp only [st, if_neg h]
theorem starts_f (k : Nat) (s : ByteArray) (hn : s.size ≤ 1000000) (hk : s.size < k) : lines_Starts.f k s = some (0 :: st 0 s.toList) := by
  unfold lines_Starts.f
  have := starts_l0 s hn s.size k [0] 0 (by omega) hk (by simp; omega)
  simpa using this
theorem w_succ (i : Nat) (h : i ≤ 2000000) : wrap64 ((i : Int) + 1) = ((i + 1 : Nat) : Int) := by rw [wrap_small (by omega) (by omega)]; omega
theorem w_zero (i : Nat) (h : i ≤ 2000000) : wrap64 ((i : Int) + 0) = (i : Int) := by rw [wrap_small (by omega) (by omega)]; omega
theorem w_pred (i : Nat) (h : i ≤ 2000000) : wrap64 (((i + 1 : Nat) : Int) - 1) = (i : Int) := by rw [wrap_small (by omega) (by omega)]; omega
theorem w_cast (i : Int) (h0 : -2000000 ≤ i) (h : i ≤ 2000000) : wrap64 i = i := wrap_small (by omega) (by omega)
def mk (l : List UInt8) : ByteArray := ⟨l.toArray⟩
theorem list_data (s : ByteArray) : s.toList = s.data.toList := ByteArray.toList_eq s
theorem mk_list (l : List UInt8) : (mk l).toList = l := by rw [list_data]; rfl
theorem mk_data (l : List UInt8) : (mk l).data.toList = l := rfl
theorem mk_size (l : List UInt8) : (mk l).size = l.length := by show (l.toArray).size = _; simp
theorem mk_of (s : ByteArray) : mk s.toList = s := by rw [list_data]; unfold mk; simp
theorem data_ext (a b : ByteArray) (h : a.data.toList = b.data.toList) : a = b := by
  apply ByteArray.ext
  exact Array.toList_inj.1 h
theorem mk_extract (l : List UInt8) (a b : Nat) : (mk l).extract a b = mk ((l.take b).drop a) := by
  apply data_ext
  rw [Lib.extract_data, mk_data, mk_data, List.drop_take]
theorem mk_app (a b : List UInt8) : mk a ++ mk b = mk (a ++ b) := by
  apply ByteArray.ext
  unfold mk
  simp
theorem idx (l : List UInt8) : (10 ∉ l ∧ Lib.indexByte l 10 = -1) ∨ ∃ a t, l = a ++ 10 :: t ∧ 10 ∉ a ∧ Lib.indexByte l 10 = a.length := by
  induction l with
  | nil => left; exact ⟨by simp, rfl⟩
  | cons c l ih =>
    by_cases hc : c = 10
    · right; subst hc; exact ⟨[], l, rfl, by simp, by simp [Lib.indexByte]⟩
    · rcases ih with ⟨h1, h2⟩ | ⟨a, t, h1, h2, h3⟩
      · left; exact ⟨by simp [h1, Ne.symm hc], by simp [Lib.indexByte, hc, h2]⟩
      · right
        refine ⟨c :: a, t, by rw [h1]; rfl, by simp [h2, Ne.symm hc], ?_⟩
        have e : (Lib.indexByte l 10 == -1) = false := by rw [h3]; simp
        unfold Lib.indexByte
        rw [if_neg (by simpa using hc), e]
        simp [h3]
theorem sp_one (l : List UInt8) (h : 10 ∉ l) : sp l = [l] := by
  induction l with
  | nil => rfl
  | cons c l ih =>
    have hc : c ≠ 10 := fun e => h (by rw [e]; exact List.mem_cons_self)
    rw [sp, if_neg hc, ih (fun e => h (List.mem_cons_of_mem _ e))]
theorem sp_first (a t : List UInt8) (h : 10 ∉ a) : sp (a ++ 10 :: t) = a :: sp t := by
  induction a with
  | nil => exact sp_nl t
  | cons c l ih =>
    have hc : c ≠ 10 := fun e => h (by rw [e]; exact List.mem_cons_self)
    rw [List.cons_append, sp, if_neg hc, ih (fun e => h (List.mem_cons_of_mem _ e))]
def nl : ByteArray := ⟨#[10]⟩
theorem w_nl (i : Nat) (h : i ≤ 2000000) : wrap64 ((i : Int) + (nl.size : Int)) = ((i + 1 : Nat) : Int) := w_succ i h
theorem index_f (l : List UInt8) : strings_Index.f (mk l) nl = some (Lib.indexByte l 10) := by
  unfold strings_Index.f stringslite_Index.f nl
  rfl
theorem count_f (l : List UInt8) : strings_Count.f (mk l) nl = some (l.count 10 : Int) := by
  unfold strings_Count.f nl
  rfl
theorem set_take {α : Type} (l : List α) (i : Nat) (x : α) (h : i < l.length) : (l.set i x).take (i + 1) = l.take i ++ [x] := by
  rw [List.take_add_one, List.take_set_of_le (Nat.le_refl _), List.getElem?_set_self h]; rfl
theorem split_l0 (d : Nat) : ∀ (k : Nat) (l : List UInt8) (x9 : List ByteArray) (i : Nat), l.count 10 = d → d < k → x9.length = i + d + 1 → l.length ≤ 1000000 → i + d ≤ 1000000 →
    strings_genSplit.l0 k (mk l) nl 0 ((i + d : Nat) : Int) x9 (i : Int) = some (x9.take i ++ (sp l).map mk) := by
  induction d with
  | zero =>
    intro k l x9 i hc hk h9 hl hi
    obtain ⟨k, rfl⟩ : ∃ m, k = m + 1 := ⟨k - 1, by omega⟩
    simp only [strings_genSplit.l0, w_succ i (by omega)]
    rw [if_neg (by omega), if_pos (by omega), if_pos (by omega), if_pos (by omega), if_pos (by omega)]
    rw [sp_one l (List.count_eq_zero.1 hc)]
    have := set_take x9 i (mk l) (by omega)
    simpa using this
  | succ d ih =>
    intro k l x9 i hc hk h9 hl hi
    obtain ⟨k, rfl⟩ : ∃ m, k = m + 1 := ⟨k - 1, by omega⟩
    rcases idx l with ⟨h1, h2⟩ | ⟨a, t, rfl, h2, h3⟩
    · rw [List.count_eq_zero.2 h1] at hc; omega
    have hla : a.length + t.length + 1 ≤ 1000000 := by simp at hl; omega
    have hca : (a ++ 10 :: t).count 10 = t.count 10 + 1 := by rw [List.count_append, List.count_cons_self, List.count_eq_zero.2 h2]; omega
    have hs : (mk (a ++ 10 :: t)).size = a.length + t.length + 1 := by rw [mk_size]; simp; omega
    have he1 : (mk (a ++ 10 :: t)).extract 0 a.length = mk a := by rw [mk_extract]; simp
    have he2 : (mk (a ++ 10 :: t)).extract (a.length + 1) (a.length + t.length + 1) = mk t := by
      rw [mk_extract, List.take_of_length_le (by simp; omega)]; congr 1; simp
    simp only [strings_genSplit.l0, w_succ i (by omega), index_f, Option.bind_some]
    rw [h3, w_zero a.length (by omega), w_nl a.length (by omega), hs]
    clear hs h3
    rw [if_pos (by omega), if_neg (by omega), if_pos (by omega), if_pos (by omega), if_pos (by omega), if_pos (by omega), if_pos (by omega), if_pos (by omega)]
    simp only [Int.toNat_natCast, he1, he2]
    rw [show ((i + (d + 1) : Nat) : Int) = (((i + 1) + d : Nat) : Int) by omega, ih k t (x9.set i (mk a)) (i + 1) (by omega) (by omega) (by rw [List.length_set]; omega) (by omega) (by omega), set_take _ _ _ (by omega), sp_first a t h2]
    simp
theorem split_j0 (k c n : Nat) (s : ByteArray) (hn : s.size = n) (h : n ≤ 1000000) (hc : c ≤ n) : strings_genSplit.j0 (k + 1) s nl 0 (wrap64 ((c : Int) + 1)) = strings_genSplit.l0 k s nl 0 (c : Int) (List.replicate (c + 1) (⟨#[]⟩ : ByteArray)) 0 := by
  have hm : mn ((c + 1 : Nat) : Int) ((n + 1 : Nat) : Int) = ((c + 1 : Nat) : Int) := by unfold mn; omega
  simp only [strings_genSplit.j0, hn]
  rw [w_succ c (by omega), w_succ n (by omega), hm, w_pred c (by omega), if_pos (by omega), if_pos (by omega)]
  simp only [Int.toNat_natCast]
theorem split_f (k : Nat) (s : ByteArray) (hs : s.size ≤ 1000000) (hk : s.size + 3 ≤ k) : strings_Split.f k s nl = some ((sp s.toList).map mk) := by
  have hc : s.toList.count 10 ≤ s.size := by rw [← list_len]; exact List.count_le_length
  obtain ⟨k, rfl⟩ : ∃ m, k = m + 1 := ⟨k - 1, by omega⟩
  have hcf : strings_Count.f s nl = some (s.toList.count 10 : Int) := by have := count_f s.toList; rwa [mk_of] at this
  have hl0 := split_l0 (s.toList.count 10) k s.toList (List.replicate (s.toList.count 10 + 1) (⟨#[]⟩ : ByteArray)) 0 rfl (by omega) (by simp) (by rw [list_len]; omega) (by omega)
  have hj := split_j0 k (s.toList.count 10) s.size s rfl hs hc
  rw [mk_of] at hl0
  unfold strings_Split.f strings_genSplit.f
  rw [if_neg (by decide), if_neg (by rw [list_data]; simp [nl]), if_pos (by decide), hcf, Option.bind_some, hj]
  simp only [Int.natCast_zero, Nat.zero_add, List.take_zero, List.nil_append] at hl0
  rw [hl0]
  rfl
theorem line_in (k : Nat) (s : ByteArray) (n : Int) (j : Nat) (h : List UInt8) (hs : s.size ≤ 1000000) (hk : s.size + 3 ≤ k) (hn : n = (j : Int) + 1) (hj : (sp s.toList)[j]? = some h) : lines_Line.f k s n = some (mk h, true) := by
  subst hn
  have hlt := (List.getElem?_eq_some_iff.1 hj).1
  have hcl : (sp s.toList).length ≤ s.size + 1 := by rw [sp_len, ← list_len]; have := @List.count_le_length _ _ (10 : UInt8) s.toList; omega
  unfold lines_Line.f
  rw [show (⟨#[10]⟩ : ByteArray) = nl from rfl, split_f k s hs hk]
  rw [Option.bind_some]
  simp only [List.length_map]
  rw [show wrap64 ((j : Int) + 1 - 1) = (j : Int) from w_pred j (by omega)]
  rw [if_neg (by omega), if_neg (by omega), if_pos (by omega), if_pos (by omega)]
  unfold rdOf
  simp [hj]
theorem line_out (k : Nat) (s : ByteArray) (n : Int) (hs : s.size ≤ 1000000) (hk : s.size + 3 ≤ k) (hn : n < 1 ∨ n > ((sp s.toList).length : Int)) : lines_Line.f k s n = some ((⟨#[]⟩ : ByteArray), false) := by
  unfold lines_Line.f
  rw [show (⟨#[10]⟩ : ByteArray) = nl from rfl, split_f k s hs hk]
  simp only [Option.bind_some, List.length_map]
  rcases hn with hn | hn
  · rw [if_pos hn]
  · by_cases h1 : n < 1
    · rw [if_pos h1]
    · rw [if_neg h1, if_pos hn]
theorem w_sub (a b : Nat) (ha : a ≤ 2000000) (hb : b ≤ 2000000) : wrap64 ((a : Int) - (b : Int)) = (a : Int) - b := wrap_small (by omega) (by omega)
theorem w_col (a b : Nat) (ha : a ≤ 2000000) (hb : b ≤ 2000000) : wrap64 (wrap64 ((a : Int) - (b : Int)) + 1) = (a : Int) - b + 1 := by rw [w_sub a b ha hb, wrap_small (by omega) (by omega)]
theorem w_back (m : Nat) (h : m ≤ 2000000) : wrap64 (wrap64 ((m : Int) + 1) - 1) = (m : Int) := by rw [w_succ m h, w_pred m h]
theorem sorted_all (l : List UInt8) : ((0 : Int) :: st 0 l).Pairwise (· < ·) := List.Pairwise.cons (fun x hx => by have := st_gt l 0 x hx; omega) (st_sorted l 0)
theorem of_in (k : Nat) (s : ByteArray) (n : Nat) (hs : s.size ≤ 1000000) (hn : n ≤ s.size) (hk : s.size + 4 ≤ k) :
    lines_Of.f k s (n : Int) = some ((((s.toList.take n).count 10 + 1 : Nat) : Int), colF 1 (s.toList.take n)) := by
  obtain ⟨k, rfl⟩ : ∃ m, k = m + 1 := ⟨k - 1, by omega⟩
  have hcl : s.toList.count 10 ≤ s.size := by rw [← list_len]; exact List.count_le_length
  have hlen : ((0 : Int) :: st 0 s.toList).length = s.toList.count 10 + 1 := by rw [List.length_cons, st_len]
  have hnl : n ≤ s.toList.length := by rw [list_len]; exact hn
  obtain ⟨p, h, h1, h2, h3, h4, h5⟩ := place s.toList n hnl
  obtain ⟨_, hnext⟩ := st_at s.toList 0 0 n hnl (by omega)
  have hp := List.pairwise_iff_getElem.1 (sorted_all s.toList)
  obtain ⟨m, hm⟩ : ∃ m, m = (s.toList.take n).count 10 := ⟨_, rfl⟩
  rw [← hm] at h1 h2 hnext ⊢
  obtain ⟨q, b, g1, g2, g3, g4, g5⟩ := search_l0 ((0 : Int) :: st 0 s.toList) (n : Int) (sorted_all s.toList) (by omega) (s.toList.count 10 + 1) k 0 (s.toList.count 10 + 1) (by omega) (by omega) (by omega) (by omega) (fun i y hi => absurd hi (by omega)) (fun i y hi hy => by
    have := (List.getElem?_eq_some_iff.1 hy).1; omega)
  obtain ⟨L, hL⟩ : ∃ L, L = (0 : Int) :: st 0 s.toList := ⟨_, rfl⟩
  rw [← hL] at g1 g2 g3 g4 g5 h2 hnext hlen hp
  have hml : m < L.length := (List.getElem?_eq_some_iff.1 h2).1
  have hbs : slices_BinarySearch_int_int.f k L (n : Int) = some (((q : Nat) : Int), b) := by unfold slices_BinarySearch_int_int.f; rw [hlen] at g1 ⊢; exact g1
  have e0 : lines_Of.f (k + 1) s (n : Int) = lines_Of.j0 (k + 1) s (n : Int) false := by
    unfold lines_Of.f; rw [if_neg (by omega)]; congr 1; simp; omega
  rw [e0]
  simp only [lines_Of.j0, Bool.false_eq_true, if_false]
  rw [starts_f k s hs (by omega), ← hL, Option.bind_some, hbs, Option.bind_some]
  have hlm : L[m] = (p : Int) := by have := List.getElem?_eq_getElem hml; rw [h2] at this; exact (Option.some.inj this).symm
  by_cases hq : L[q]? = some (n : Int)
  · have hb : b = true := by rw [g5]; simpa using hq
    obtain ⟨hql, hqe⟩ := List.getElem?_eq_some_iff.1 hq
    have e : q = m := by
      rcases Nat.lt_trichotomy q m with hlt | he | hgt
      · have := hp q m hql hml hlt; omega
      · exact he
      · exfalso
        have hm1 : m + 1 < L.length := by omega
        have hx := hnext _ (List.getElem?_eq_getElem hm1)
        rcases Nat.lt_or_eq_of_le (show m + 1 ≤ q by omega) with hlt | he
        · have := hp (m + 1) q hm1 hql hlt; omega
        · subst he; omega
    subst e
    simp only [hb, if_true]
    rw [w_back q (by omega), if_pos (by omega), if_pos (by omega), w_succ q (by omega), rd_get L (q : Int) q rfl (p : Int) h2, w_col n p (by omega) (by omega), h5]
  · have hb : b = false := by rw [g5]; simpa using hq
    have e : q = m + 1 := by
      have ha : m < q := by
        apply Classical.byContradiction
        intro hh
        have hqm : q ≤ m := by omega
        have hql : q < L.length := by omega
        have hy := g4 q _ (Nat.le_refl _) (List.getElem?_eq_getElem hql)
        have hle : L[q] ≤ (p : Int) := by
          rcases Nat.lt_or_eq_of_le hqm with hlt | he
          · have := hp q m hql hml hlt; omega
          · subst he; omega
        exact hq (by rw [List.getElem?_eq_getElem hql]; congr 1; omega)
      apply Classical.byContradiction
      intro hh
      have hm1 : m + 1 < L.length := by omega
      have hx := hnext _ (List.getElem?_eq_getElem hm1)
      have hy := g3 (m + 1) _ (by omega) (List.getElem?_eq_getElem hm1)
      omega
    subst e
    simp only [hb, Bool.false_eq_true, if_false]
    rw [w_pred m (by omega), if_pos (by omega), if_pos (by omega), rd_get L (m : Int) m rfl (p : Int) h2, w_col n p (by omega) (by omega), h5]
theorem of_out (k : Nat) (s : ByteArray) (n : Int) (hn : n < 0 ∨ n > s.size) (hk : 1 ≤ k) : lines_Of.f k s n = some (0, 0) := by
  obtain ⟨k, rfl⟩ : ∃ m, k = m + 1 := ⟨k - 1, by omega⟩
  unfold lines_Of.f
  rcases hn with hn | hn
  · rw [if_pos hn]; simp [lines_Of.j0]
  · rw [if_neg (by omega)]; simp [lines_Of.j0, hn]
theorem at_in (k : Nat) (s : ByteArray) (j c p : Nat) (h : List UInt8) (hs : s.size ≤ 1000000) (hk : s.size + 4 ≤ k) (hj : (sp s.toList)[j]? = some h) (hp : ((0 : Int) :: st 0 s.toList)[j]? = some (p : Int)) (line col : Int) (hl : line = (j : Int) + 1) (hcol : col = (c : Int) + 1) (hc : c ≤ h.length) :
    lines_At.f k s line col = some ((p : Int) + c) := by
  have hpl := (placed s.toList j h hj p hp h.length (Nat.le_refl _)).1
  rw [list_len] at hpl
  have hjl := (List.getElem?_eq_some_iff.1 hp).1
  have hcl : s.toList.count 10 ≤ s.size := by rw [← list_len]; exact List.count_le_length
  have hlen : ((0 : Int) :: st 0 s.toList).length = s.toList.count 10 + 1 := by rw [List.length_cons, st_len]
  unfold lines_At.f
  rw [line_in k s line j h hs (by omega) hl hj, Option.bind_some]
  simp only [if_true, mk_size]
  rw [w_succ h.length (by omega), if_neg (by omega), if_neg (by omega), starts_f k s hs (by omega), Option.bind_some]
  subst hl hcol
  rw [show wrap64 ((j : Int) + 1 - 1) = (j : Int) from w_pred j (by omega), if_pos (by omega), if_pos (by omega), rd_get _ (j : Int) j rfl (p : Int) hp]
  have e : wrap64 (wrap64 ((p : Int) + ((c : Int) + 1)) - 1) = (p : Int) + c := by
    rw [w_cast ((p : Int) + ((c : Int) + 1)) (by omega) (by omega), w_cast _ (by omega) (by omega)]; omega
  rw [e]
theorem at_line (k : Nat) (s : ByteArray) (hs : s.size ≤ 1000000) (hk : s.size + 4 ≤ k) (line col : Int) (hl : line < 1 ∨ line > ((sp s.toList).length : Int)) : lines_At.f k s line col = some (-1) := by
  unfold lines_At.f
  rw [line_out k s line hs (by omega) hl, Option.bind_some]
  simp
theorem at_col (k : Nat) (s : ByteArray) (j : Nat) (h : List UInt8) (hs : s.size ≤ 1000000) (hk : s.size + 4 ≤ k) (hj : (sp s.toList)[j]? = some h) (line col : Int) (hl : line = (j : Int) + 1) (hcol : col < 1 ∨ col > (h.length : Int) + 1) :
    lines_At.f k s line col = some (-1) := by
  obtain ⟨p, q1, q2, _⟩ := sp_st s.toList j h hj
  rw [list_len] at q2
  unfold lines_At.f
  rw [line_in k s line j h hs (by omega) hl hj, Option.bind_some]
  simp only [if_true, mk_size]
  rw [w_succ h.length (by omega)]
  by_cases h1 : col < 1
  · rw [if_pos h1]
  · rw [if_neg h1, if_pos (by omega)]
theorem begun_f : recensionlaw7_begun.f 20 = some true := by decide +kernel
theorem begun_k (k : Nat) (h : 20 ≤ k) : recensionlaw7_begun.f k = some true := at_rounds (fun k => recensionlaw7_begun.mono k) h begun_f
theorem colF_snoc (b : UInt8) (a : List UInt8) : ∀ c : Int, colF c (a ++ [b]) = if b = 10 then 1 else colF c a + 1 := by
  induction a with
  | nil => intro c; simp [colF]
  | cons x a ih =>
    intro c
    simp only [List.cons_append, colF]
    split <;> exact ih _
theorem st_app (a b : List UInt8) : ∀ i, st i (a ++ b) = st i a ++ st (i + a.length) b := by
  induction a with
  | nil => intro i; rfl
  | cons c a ih =>
    intro i
    simp only [List.cons_append, st, List.length_cons]
    have := ih (i + 1)
    rw [show i + 1 + a.length = i + (a.length + 1) by omega] at this
    split <;> simp [this]
theorem st_rep (m : Nat) : ∀ i, st i (List.replicate m 120 ++ [10]) = [((i + m + 1 : Nat) : Int)] := by
  induction m with
  | zero => intro i; simp [st]
  | succ m ih =>
    intro i
    rw [List.replicate_succ, List.cons_append, st, if_neg (by decide), ih (i + 1)]
    congr 2; omega
theorem line_last (l : List UInt8) (j p : Nat) (h : List UInt8) (hj : (sp l)[j]? = some h) (hp : ((0 : Int) :: st 0 l)[j]? = some (p : Int)) (hc : j = l.count 10) : p + h.length = l.length := by
  obtain ⟨p', q1, q2, q3, q4, q5, q6⟩ := sp_st l j h hj
  rw [hp] at q1
  have e : p = p' := by have := Option.some.inj q1; omega
  subst e
  rcases q6 with q6 | q6
  · exact q6
  · exfalso
    have h1 := (placed l j h hj p hp h.length (Nat.le_refl _)).2
    have h2 : (l.take (p + h.length + 1)).count 10 ≤ l.count 10 := (List.take_sublist _ _).count_le 10
    rw [List.take_add_one, q6, List.count_append, h1] at h2
    simp at h2; omega
theorem line_next (l : List UInt8) (j p : Nat) (h : List UInt8) (hj : (sp l)[j]? = some h) (hp : ((0 : Int) :: st 0 l)[j]? = some (p : Int)) (hc : j < l.count 10) : ((0 : Int) :: st 0 l)[j + 1]? = some (((p + h.length + 1 : Nat)) : Int) := by
  obtain ⟨p', q1, q2, q3, q4, q5, q6⟩ := sp_st l j h hj
  rw [hp] at q1
  have e : p = p' := by have := Option.some.inj q1; omega
  subst e
  have h1 := (placed l j h hj p hp h.length (Nat.le_refl _)).2
  rcases q6 with q6 | q6
  · rw [q6, List.take_length] at h1; omega
  · have hlt := (List.getElem?_eq_some_iff.1 q6).1
    obtain ⟨p2, h2, r1, r2, r3, r4, r5⟩ := place l (p + h.length + 1) (by omega)
    have et : l.take (p + h.length + 1) = l.take (p + h.length) ++ [10] := by rw [List.take_add_one, q6]; rfl
    rw [et, List.count_append, h1] at r2
    rw [et, colF_snoc, if_pos rfl] at r5
    simp at r2
    rw [List.getElem?_cons_succ, r2]; congr 1; omega
theorem width (x : Int) : 0 ≤ Int.tmod (wrap64 ((Int.tmod x 9) + 9)) 9 ∧ Int.tmod (wrap64 ((Int.tmod x 9) + 9)) 9 ≤ 8 := by
  have h1 := Int.lt_tmod_of_pos x (show (0 : Int) < 9 by omega)
  have h2 := Int.tmod_lt_of_pos x (show (0 : Int) < 9 by omega)
  rw [w_cast _ (by omega) (by omega)]
  have h3 := Int.tmod_lt_of_pos (x.tmod 9 + 9) (show (0 : Int) < 9 by omega)
  have h4 := Int.tmod_nonneg 9 (show 0 ≤ x.tmod 9 + 9 by omega)
  omega
theorem att_l1 (x0 : List Int) (line col : Int) (n : Nat) (hn : n < x0.length) (x10 : List Int) (m : Nat) (hm : Int.tmod (wrap64 ((Int.tmod (rd x0 (n : Int)) 9) + 9)) 9 = (m : Int)) (hm8 : m ≤ 8) (hn8 : n ≤ 8) (d : Nat) : ∀ (k j : Nat) (l : List UInt8), j + d = m → l.length + d ≤ 1000 →
    recensionlaw7_LinesAt.l1 (k + d + 1) x0 line col (mk l) (n : Int) x10 (j : Int) = recensionlaw7_LinesAt.l0 k x0 line col (mk (l ++ List.replicate d 120 ++ [10])) ((n + 1 : Nat) : Int) x10 := by
  induction d with
  | zero =>
    intro k j l hj hl
    rw [show k + 0 + 1 = k + 1 by omega]
    simp only [recensionlaw7_LinesAt.l1]
    rw [hm, if_pos (by omega), if_pos (by omega), if_neg (by omega), if_pos (by rw [mk_size]; omega), w_succ n (by omega), show (⟨#[10]⟩ : ByteArray) = mk [10] from rfl, mk_app]
    simp
  | succ d ih =>
    intro k j l hj hl
    obtain ⟨q, hq⟩ : ∃ q, q = k + d + 1 := ⟨_, rfl⟩
    rw [show k + (d + 1) + 1 = q + 1 by omega]
    simp only [recensionlaw7_LinesAt.l1]
    subst hq
    rw [hm, if_pos (by omega), if_pos (by omega), if_pos (by omega), if_pos (by rw [mk_size]; omega), w_succ j (by omega), show (⟨#[120]⟩ : ByteArray) = mk [120] from rfl, mk_app]
    rw [ih k (j + 1) (l ++ [120]) (by omega) (by simp; omega)]
    congr 2
    simp [List.replicate_succ]
theorem att_end (k n : Nat) (line col : Int) (l : List UInt8) (x10 : List Int) (h1 : x10 ++ [(l.length : Int)] = (0 : Int) :: st 0 l) (hc : l.count 10 = n) (hn : n ≤ 8) (hl : l.length ≤ 1000) (hk : 2000 ≤ k) (x0 : List Int) (hl0 : (Lit.int .i64 line).wf = true) :
    recensionlaw7_LinesAt.j1 k x0 line col (mk l) (n : Int) x10 false = some true := by
  obtain ⟨k, rfl⟩ : ∃ m, k = m + 3 := ⟨k - 3, by omega⟩
  have hlen : ((0 : Int) :: st 0 l).length = n + 1 := by rw [List.length_cons, st_len, hc]
  have hsl : (sp l).length = n + 1 := by rw [sp_len, hc]
  have hx : x10.length = n := by have := congrArg List.length h1; rw [hlen] at this; simpa using this
  have hsz : (mk l).size = l.length := mk_size l
  have hmk : (mk l).toList = l := mk_list l
  obtain ⟨f, hf⟩ : ∃ f, (sp l)[0]? = some f := ⟨_, List.getElem?_eq_getElem (show 0 < (sp l).length by omega)⟩
  have hbad : recensionlaw7_LinesAt.j3 (k + 2) line col (mk l) (n : Int) ((0 : Int) :: st 0 l) true = some true := by
    have a1 := at_line (k + 1) (mk l) (by omega) (by omega) 0 1 (Or.inl (by omega))
    have a2 := at_col (k + 1) (mk l) 0 f (by omega) (by omega) (by rw [hmk]; exact hf) 1 0 rfl (Or.inl (by omega))
    have a3 := at_line (k + 1) (mk l) (by omega) (by omega) ((n : Int) + 2) 1 (Or.inr (by rw [hmk, hsl]; omega))
    simp only [recensionlaw7_LinesAt.j3, if_true]
    rw [a1, Option.bind_some, if_pos rfl, a2, Option.bind_some, if_pos rfl, w_cast _ (by omega) (by omega), a3]
    rfl
  simp only [recensionlaw7_LinesAt.j1, Bool.false_eq_true, if_false]
  rw [if_pos (by omega), hsz, h1, Option.bind_some]
  by_cases c1 : line < 1
  · rw [if_pos c1]; exact hbad
  rw [if_neg c1, w_succ n (by omega)]
  by_cases c2 : line > ((n + 1 : Nat) : Int)
  · rw [if_pos c2]; exact hbad
  rw [if_neg c2]
  by_cases c3 : col < 1
  · rw [if_pos c3]; exact hbad
  rw [if_neg c3]
  by_cases c4 : col > 20
  · rw [show decide (col > 20) = true by simpa using c4]; exact hbad
  rw [show decide (col > 20) = false by simpa using c4]
  obtain ⟨j, rfl⟩ : ∃ j : Nat, line = (j : Int) + 1 := ⟨(line - 1).toNat, by omega⟩
  obtain ⟨c, rfl⟩ : ∃ c : Nat, col = (c : Int) + 1 := ⟨(col - 1).toNat, by omega⟩
  obtain ⟨h, hj⟩ : ∃ h, (sp l)[j]? = some h := ⟨_, List.getElem?_eq_getElem (show j < (sp l).length by omega)⟩
  obtain ⟨p, hp, hpl, _⟩ := sp_st l j h hj
  have hj4 : recensionlaw7_LinesAt.j4 (k + 1) ((j : Int) + 1) ((c : Int) + 1) (mk l) ((0 : Int) :: st 0 l) ((p + h.length : Nat) : Int) = some true := by
    have li := line_in k (mk l) ((j : Int) + 1) j h (by omega) (by omega) rfl (by rw [hmk]; exact hj)
    simp only [recensionlaw7_LinesAt.j4]
    rw [show wrap64 ((j : Int) + 1 - 1) = (j : Int) from w_pred j (by omega), if_pos (by omega), if_pos (by omega), rd_get _ (j : Int) j rfl (p : Int) hp]
    have e : wrap64 (wrap64 ((p : Int) + ((c : Int) + 1)) - 1) = (p : Int) + c := by
      rw [w_cast ((p : Int) + ((c : Int) + 1)) (by omega) (by omega), w_cast _ (by omega) (by omega)]; omega
    have e2 : wrap64 (((p + h.length : Nat) : Int) - (p : Int)) = (h.length : Int) := by rw [w_cast _ (by omega) (by omega)]; omega
    rw [e, e2]
    clear e e2
    by_cases hch : c ≤ h.length
    · have ai := at_in k (mk l) j c p h (by omega) (by omega) (by rw [hmk]; exact hj) (by rw [hmk]; exact hp) _ _ rfl rfl hch
      rw [if_neg (by omega), li, Option.bind_some, ai, Option.bind_some, if_pos rfl]
      simp [mk_size]
    · have ai := at_col k (mk l) j h (by omega) (by omega) (by rw [hmk]; exact hj) ((j : Int) + 1) ((c : Int) + 1) rfl (Or.inr (by omega))
      rw [if_pos (by omega), li, Option.bind_some, ai, Option.bind_some, if_pos rfl]
      simp [mk_size]
  simp only [recensionlaw7_LinesAt.j3, Bool.false_eq_true, if_false]
  by_cases hjn : (j : Int) + 1 ≤ (n : Int)
  · rw [if_pos hjn, if_pos (by omega), if_pos (by omega), rd_get _ ((j : Int) + 1) (j + 1) (by omega) _ (line_next l j p h hj hp (by omega)), show wrap64 (((p + h.length + 1 : Nat) : Int) - 1) = ((p + h.length : Nat) : Int) from w_pred _ (by omega)]
    exact hj4
  · rw [if_neg hjn, hsz, show (l.length : Int) = ((p + h.length : Nat) : Int) by rw [line_last l j p h hj hp (by omega)]]
    exact hj4
theorem att_l0 (x0 : List Int) (line col : Int) (hl0 : (Lit.int .i64 line).wf = true) (d : Nat) : ∀ (k n : Nat) (l : List UInt8) (x10 : List Int), n + d = 8 → n ≤ x0.length → x10 ++ [(l.length : Int)] = (0 : Int) :: st 0 l → l.count 10 = n → l.length ≤ 9 * n → 12 * d + 3000 ≤ k →
    recensionlaw7_LinesAt.l0 k x0 line col (mk l) (n : Int) x10 = some true := by
  induction d with
  | zero =>
    intro k n l x10 hd hn h1 h2 h3 hk
    obtain ⟨k, rfl⟩ : ∃ m, k = m + 1 := ⟨k - 1, by omega⟩
    have he := att_end k n line col l x10 h1 h2 (by omega) (by omega) (by omega) x0 hl0
    simp only [recensionlaw7_LinesAt.l0]
    rw [show decide ((n : Int) < 8) = false by simp; omega]
    split <;> exact he
  | succ d ih =>
    intro k n l x10 hd hn h1 h2 h3 hk
    obtain ⟨k, rfl⟩ : ∃ m, k = m + 2 := ⟨k - 2, by omega⟩
    have he := att_end (k + 1) n line col l x10 h1 h2 (by omega) (by omega) (by omega) x0 hl0
    simp only [recensionlaw7_LinesAt.l0]
    by_cases hlt : n < x0.length
    · rw [if_pos (by omega), show decide ((n : Int) < 8) = true by simp; omega]
      have hlen : ((0 : Int) :: st 0 l).length = n + 1 := by rw [List.length_cons, st_len, h2]
      have hx : x10.length = n := by have := congrArg List.length h1; rw [hlen] at this; simpa using this
      obtain ⟨w1, w2⟩ := width (rd x0 (n : Int))
      obtain ⟨m, hm⟩ : ∃ m : Nat, Int.tmod (wrap64 ((Int.tmod (rd x0 (n : Int)) 9) + 9)) 9 = (m : Int) := ⟨_, (Int.toNat_of_nonneg w1).symm⟩
      have hm8 : m ≤ 8 := by rw [hm] at w2; omega
      clear w1 w2
      have hl1 := att_l1 x0 line col n hlt ((0 : Int) :: st 0 l) m hm hm8 (by omega) m (k - m - 1) 0 l (by omega) (by omega)
      clear hm
      simp only [recensionlaw7_LinesAt.j1, if_true]
      rw [if_pos (by omega), mk_size, h1]
      rw [show k = k - m - 1 + m + 1 by omega]
      refine Eq.trans hl1 (ih (k - m - 1) (n + 1) _ _ (by omega) (by omega) ?_ ?_ ?_ (by omega))
      · rw [List.append_assoc, st_app, st_rep, List.cons_append]
        simp; omega
      · rw [List.append_assoc, List.count_append, h2, List.count_append]
        simp [List.count_replicate]
      · simp; omega
    · rw [if_neg (by omega)]
      exact he
theorem LinesAt : recensionlaw7_LinesAt.Pure := by
  intro x0 line col h1 h2 h3 h4 h5
  obtain ⟨k, hk⟩ : ∃ k, k = 5000 := ⟨_, rfl⟩
  refine ⟨k, ?_⟩
  unfold recensionlaw7_LinesAt.f
  rw [begun_k k (by omega), Option.bind_some, if_pos rfl]
  exact att_l0 x0 line col h4 8 k 0 [] [] (by omega) (by omega) rfl rfl (by simp) (by omega)

end Go.Proofs.YthioodhmfclinaaDoor.Pure
