/- A string goes to the next quote, over anything but a newline or the end. Condition: none beside the statement's own. -/
import Derived.Test.YtohhnblaoihgbaaDoorPScanx6
namespace Go.Proofs.YtohhnblaoihgbaaDoor.Pure
open Go.RowKit Go.Proofs.YtohhnblaoihgbaaDoor.PScan Go.Proofs.YtohhnblaoihgbaaDoorW.PrintWords Go.Proofs.YtohhnblaoihgbaaDoorW.PrintLast Go.Proofs.YtohhnblaoihgbaaDoorW.PrintMore
theorem wrap_small {x : Int} (h0 : -9223372036854775808 ≤ x) (h1 : x ≤ 9223372036854775807) : wrap64 x = x := by
  unfold wrap64
  omega
theorem wrap32_small {x : Int} (h0 : -2147483648 ≤ x) (h1 : x ≤ 2147483647) : wrap32 x = x := by
  unfold wrap32
  omega
theorem w_cast (i : Int) (h0 : -3000000 ≤ i) (h : i ≤ 3000000) : wrap64 i = i := wrap_small (by omega) (by omega)
theorem w_succ (i : Nat) (h : i ≤ 2000000) : wrap64 ((i : Int) + 1) = ((i + 1 : Nat) : Int) := by rw [wrap_small (by omega) (by omega)]; omega
theorem w_add (a b : Nat) (h : a + b ≤ 3000000) : wrap64 ((a : Int) + (b : Int)) = ((a + b : Nat) : Int) := by rw [w_cast _ (by omega) (by omega)]; omega
def mk (l : List UInt8) : ByteArray := ⟨l.toArray⟩
theorem list_data (s : ByteArray) : s.toList = s.data.toList := ByteArray.toList_eq s
theorem list_len (s : ByteArray) : s.toList.length = s.size := by rw [ByteArray.toList_eq]; simp
theorem mk_list (l : List UInt8) : (mk l).toList = l := by rw [list_data]; rfl
theorem mk_data (l : List UInt8) : (mk l).data.toList = l := rfl
theorem mk_size (l : List UInt8) : (mk l).size = l.length := by show (l.toArray).size = _; simp
theorem mk_of (s : ByteArray) : mk s.toList = s := by rw [list_data]; unfold mk; simp
theorem data_ext (a b : ByteArray) (h : a.data.toList = b.data.toList) : a = b := by
  apply ByteArray.ext
  exact Array.toList_inj.1 h
theorem mk_extract (l : List UInt8) (a b : Nat) : (mk l).extract a b = mk ((l.take b).drop a) := by
  apply data_ext
  rw [Lib.extract_data, mk_data, mk_data, List.drop_take]
theorem mk_rest (l : List UInt8) (a : Nat) : (mk l).extract a (mk l).size = mk (l.drop a) := by
  rw [mk_extract, mk_size, List.take_length]
theorem mk_app (a b : List UInt8) : mk a ++ mk b = mk (a ++ b) := by
  apply ByteArray.ext
  unfold mk
  simp
/-- A list's byte, nought behind its end. -/
def nb (l : List UInt8) (i : Nat) : Nat := (l.getD i 0).toNat
theorem nb_lt (l : List UInt8) (i : Nat) : nb l i < 256 := UInt8.toNat_lt _
theorem get_nb (l : List UInt8) (i : Nat) : ((mk l).get! i).toNat = nb l i := by
  unfold nb mk
  congr 1
  show (l.toArray)[i]! = l.getD i 0
  simp [List.getD_eq_getElem?_getD, getElem!_def]
  cases h : l[i]? <;> rfl
theorem bt_nb (l : List UInt8) (i : Nat) : bt (mk l) (i : Int) = (nb l i : Int) := by
  unfold bt nb
  by_cases h : i < l.length
  · rw [dif_pos (by rw [mk_size]; simpa using h)]
    congr 1
    simp only [Int.toNat_natCast, List.getD_eq_getElem?_getD, List.getElem?_eq_getElem h, Option.getD_some]
    rfl
  · rw [dif_neg (by rw [mk_size]; simpa using h)]
    simp only [List.getD_eq_getElem?_getD, List.getElem?_eq_none (by omega : l.length ≤ i), Option.getD_none]
    rfl
theorem nb_drop (l : List UInt8) (p i : Nat) : nb (l.drop p) i = nb l (p + i) := by
  unfold nb
  simp [List.getD_eq_getElem?_getD]
/-- The first rune of some bytes, and its width. -/
def dL (l : List UInt8) : Nat × Nat := Lib.decodeN l.length (nb l 0) (nb l 1) (nb l 2) (nb l 3)
theorem decode_dL (l : List UInt8) (p : Nat) : Utf8.decode (mk l) p = dL (l.drop p) := by
  rw [Lib.decode_at]
  unfold dL
  rw [mk_size, List.length_drop, nb_drop, nb_drop, nb_drop, nb_drop, get_nb, get_nb, get_nb, get_nb]
  rfl
def okD (d : Nat × Nat) : Bool := !(d.1 == 65533 && d.2 == 1)
/-- Is what was read at fault? -/
def badD (d : Nat × Nat) : Prop := ((d.1 < 32 ∧ d.1 ≠ 9 ∧ d.1 ≠ 10) ∨ d.1 = 127) ∨ (d.1 = 65533 ∧ d.2 = 1)
instance (d : Nat × Nat) : Decidable (badD d) := by unfold badD; exact inferInstance
theorem dL_low (l : List UInt8) (h : nb l 0 < 128) : dL l = (nb l 0, 1) := by unfold dL Lib.decodeN; rw [if_pos h]
theorem dL_high (l : List UInt8) (h : ¬ nb l 0 < 128) : 128 ≤ (dL l).1 := by
  unfold dL Lib.decodeN
  rw [if_neg h]
  have h0 := nb_lt l 0
  have h1 := nb_lt l 1
  have h2 := nb_lt l 2
  have h3 := nb_lt l 3
  repeat' split
  all_goals (first | omega | (simp only []; omega))
theorem dL_wid (l : List UInt8) (h : l ≠ []) : 1 ≤ (dL l).2 ∧ (dL l).2 ≤ l.length := by
  have hl : 0 < l.length := List.length_pos_iff.2 h
  unfold dL Lib.decodeN
  repeat' split
  all_goals (first | omega | (simp only []; omega))
/-- The first fault from a place on, of the rest of the bytes. -/
def fl : Nat → Nat → List UInt8 → Int
  | 0, _, _ => -1
  | k + 1, pos, l => if l = [] then -1 else if badD (dL l) then (pos : Int) else fl k (pos + (dL l).2) (l.drop (dL l).2)
def rl : Nat → List UInt8 → Int
  | 0, _ => 0
  | k + 1, l => if l = [] then 0 else rl k (l.drop (dL l).2) + 1
theorem drop_nil_iff (l : List UInt8) (pos : Nat) : (l.drop pos = []) ↔ ¬ pos < l.length := by
  rw [List.drop_eq_nil_iff]; omega
theorem faults_fl (l : List UInt8) (k : Nat) : ∀ pos, faults (mk l) k pos = fl k pos (l.drop pos) := by
  induction k with
  | zero => intro pos; rfl
  | succ k ih =>
    intro pos
    unfold faults fl
    rw [mk_size]
    by_cases h : pos < l.length
    · rw [if_pos h, if_neg (fun e => (drop_nil_iff l pos).1 e h), decode_dL]
      have e : (Lib.decodeGo ((mk l).extract pos l.length)).2 = (dL (l.drop pos)).2 := by
        have := mk_rest l pos
        rw [mk_size] at this
        rw [this]
        unfold Lib.decodeGo
        rw [if_neg (by rw [mk_size, List.length_drop]; omega), decode_dL, List.drop_zero]
      rw [e, ih, List.drop_drop]
      by_cases h1 : ((dL (l.drop pos)).1 < 32 ∧ (dL (l.drop pos)).1 ≠ 9 ∧ (dL (l.drop pos)).1 ≠ 10) ∨ (dL (l.drop pos)).1 = 127
      · rw [if_pos h1, if_pos (show badD _ from Or.inl h1)]
      · rw [if_neg h1]
        by_cases h2 : (dL (l.drop pos)).1 = 65533 ∧ (dL (l.drop pos)).2 = 1
        · rw [if_pos h2, if_pos (show badD _ from Or.inr h2)]
        · rw [if_neg h2, if_neg (show ¬ badD _ from fun e => Or.elim e h1 h2)]
    · rw [if_neg h, if_pos ((drop_nil_iff l pos).2 h)]
theorem runes_rl (l : List UInt8) (k : Nat) : ∀ pos, runes (mk l) k pos = rl k (l.drop pos) := by
  induction k with
  | zero => intro pos; rfl
  | succ k ih =>
    intro pos
    unfold runes rl
    rw [mk_size]
    by_cases h : pos < l.length
    · rw [if_pos h, if_neg (fun e => (drop_nil_iff l pos).1 e h), decode_dL, ih, List.drop_drop]
    · rw [if_neg h, if_pos ((drop_nil_iff l pos).2 h)]
theorem fl_fuel (d : Nat) : ∀ (k k' pos : Nat) (l : List UInt8), l.length ≤ d → l.length ≤ k → l.length ≤ k' → fl k pos l = fl k' pos l := by
  induction d with
  | zero =>
    intro k k' pos l h _ _
    obtain rfl : l = [] := List.eq_nil_of_length_eq_zero (by omega)
    cases k <;> cases k' <;> simp [fl]
  | succ d ih =>
    intro k k' pos l h h1 h2
    by_cases hl : l = []
    · subst hl; cases k <;> cases k' <;> simp [fl]
    · have hp := List.length_pos_iff.2 hl
      obtain ⟨k, rfl⟩ : ∃ m, k = m + 1 := ⟨k - 1, by omega⟩
      obtain ⟨k', rfl⟩ : ∃ m, k' = m + 1 := ⟨k' - 1, by omega⟩
      have hw := dL_wid l hl
      simp only [fl, if_neg hl]
      split
      · rfl
      · exact ih k k' _ _ (by rw [List.length_drop]; omega) (by rw [List.length_drop]; omega) (by rw [List.length_drop]; omega)
theorem rl_fuel (d : Nat) : ∀ (k k' : Nat) (l : List UInt8), l.length ≤ d → l.length ≤ k → l.length ≤ k' → rl k l = rl k' l := by
  induction d with
  | zero =>
    intro k k' l h _ _
    obtain rfl : l = [] := List.eq_nil_of_length_eq_zero (by omega)
    cases k <;> cases k' <;> simp [rl]
  | succ d ih =>
    intro k k' l h h1 h2
    by_cases hl : l = []
    · subst hl; cases k <;> cases k' <;> simp [rl]
    · have hp := List.length_pos_iff.2 hl
      obtain ⟨k, rfl⟩ : ∃ m, k = m + 1 := ⟨k - 1, by omega⟩
      obtain ⟨k', rfl⟩ : ∃ m, k' = m + 1 := ⟨k' - 1, by omega⟩
      have hw := dL_wid l hl
      simp only [rl, if_neg hl]
      rw [ih k k' _ (by rw [List.length_drop]; omega) (by rw [List.length_drop]; omega) (by rw [List.length_drop]; omega)]
/-- The first fault of some bytes; how many runes they are. -/
def flt (l : List UInt8) : Int := fl l.length 0 l
def cnt (l : List UInt8) : Int := rl l.length l
theorem fault_f (l : List UInt8) : utf_Fault.f (mk l) = some (flt l) := by
  unfold utf_Fault.f flt
  rw [faults_fl, mk_size, List.drop_zero]
/-! ### bytes as lists -/
def pb (p : Int → Bool) (b : UInt8) : Bool := p (b.toNat : Int)
theorem bt_mk (L : List UInt8) (i : Nat) (h : i < L.length) : bt (mk L) (i : Int) = ((L[i]).toNat : Int) := by
  rw [bt_nb]; unfold nb
  rw [List.getD_eq_getElem?_getD, List.getElem?_eq_getElem h, Option.getD_some]
theorem take_tw (q : UInt8 → Bool) (M : List UInt8) : M.take (M.takeWhile q).length = M.takeWhile q := by
  induction M with
  | nil => rfl
  | cons b M ih =>
    rw [List.takeWhile_cons]
    split
    · rw [List.length_cons, List.take_succ_cons, ih]
    · rfl
theorem tw_le (q : UInt8 → Bool) (M : List UInt8) : (M.takeWhile q).length ≤ M.length := by
  induction M with
  | nil => exact Nat.le_refl _
  | cons b M ih =>
    rw [List.takeWhile_cons]
    split <;> simp only [List.length_cons, List.length_nil] <;> omega
theorem tw_stop (q : UInt8 → Bool) (M : List UInt8) (h : (M.takeWhile q).length < M.length) : q (M[(M.takeWhile q).length]) = false := by
  induction M with
  | nil => exact absurd h (by simp)
  | cons b M ih =>
    by_cases hb : q b = true
    · have e : (b :: M).takeWhile q = b :: M.takeWhile q := by rw [List.takeWhile_cons, if_pos hb]
      rw [e, List.length_cons] at h
      simp only [e, List.length_cons, List.getElem_cons_succ]
      exact ih (by simpa using h)
    · have e : (b :: M).takeWhile q = [] := by rw [List.takeWhile_cons, if_neg hb]
      simp only [e, List.length_nil, List.getElem_cons_zero]
      simpa using hb
theorem runP_tw (p : Int → Bool) (L : List UInt8) (n : Nat) : ∀ i : Nat, i ≤ L.length → L.length ≤ i + n → runP p (mk L) n (i : Int) = ((i + ((L.drop i).takeWhile (pb p)).length : Nat) : Int) := by
  induction n with
  | zero =>
    intro i h1 h2
    rw [runP, List.drop_of_length_le (by omega)]; rfl
  | succ n ih =>
    intro i h1 h2
    by_cases hi : i < L.length
    · rw [List.drop_eq_getElem_cons hi, List.takeWhile_cons]
      by_cases hp : pb p L[i] = true
      · have hp' : p (bt (mk L) (i : Int)) = true := by rw [bt_mk L i hi]; exact hp
        rw [runP, if_pos ⟨by rw [mk_size]; omega, hp'⟩, if_pos hp, show ((i : Int) + 1) = ((i + 1 : Nat) : Int) by omega, ih (i + 1) (by omega) (by omega), List.length_cons]
        omega
      · have hp' : p (bt (mk L) (i : Int)) = false := by rw [bt_mk L i hi]; simpa [pb] using hp
        rw [runP_no p _ _ _ hp', if_neg hp]; rfl
    · rw [runP_end p _ _ _ (by rw [mk_size]; omega), List.drop_of_length_le (by omega)]; rfl
theorem index_tw (M : List UInt8) (c : UInt8) : Lib.indexByte M c = if (M.takeWhile (fun b => b != c)).length < M.length then ((M.takeWhile (fun b => b != c)).length : Int) else -1 := by
  induction M with
  | nil => rfl
  | cons b M ih =>
    have e : Lib.indexByte (b :: M) c = if (b == c) = true then 0 else if (Lib.indexByte M c == -1) = true then -1 else Lib.indexByte M c + 1 := rfl
    have hle := tw_le (fun b => b != c) M
    by_cases hb : b = c
    · subst hb
      have a : (b :: M).takeWhile (fun x => x != b) = [] := by rw [List.takeWhile_cons, if_neg (by simp)]
      rw [e, if_pos (beq_self_eq_true b), a, if_pos (by simp)]; rfl
    · have a : (b :: M).takeWhile (fun x => x != c) = b :: M.takeWhile (fun x => x != c) := by rw [List.takeWhile_cons, if_pos (by simpa using hb)]
      rw [e, if_neg (by simpa using hb), a, List.length_cons, List.length_cons]
      by_cases h : (M.takeWhile (fun b => b != c)).length < M.length
      · rw [if_pos h] at ih
        rw [ih, if_neg (by simp), if_pos (by omega)]; omega
      · rw [if_neg h] at ih
        rw [ih, if_pos (by decide), if_neg (by omega)]
theorem line_tw (M : List UInt8) : lineP (mk M) = mk (M.takeWhile (fun b => b != 10)) := by
  unfold lineP
  rw [mk_data, index_tw]
  have hle := tw_le (fun b => b != 10) M
  by_cases h : (M.takeWhile (fun b => b != 10)).length < M.length
  · rw [if_pos h, if_pos (by omega), mk_extract, Int.toNat_natCast, List.drop_zero, take_tw]
  · rw [if_neg h, if_neg (by decide)]
    have : M.takeWhile (fun b => b != 10) = M := by
      have := take_tw (fun b => b != 10) M
      rw [List.take_of_length_le (by omega)] at this
      exact this.symm
    rw [this]
theorem rest_tw (L : List UInt8) (i : Nat) : restP (mk L) (i : Int) = mk ((L.drop i).takeWhile (fun b => b != 10)) := by
  unfold restP
  rw [Int.toNat_natCast, mk_rest, line_tw]
theorem ext_nat (L : List UInt8) (a b : Nat) : (mk L).extract a b = mk ((L.drop a).take (b - a)) := by
  rw [mk_extract, List.drop_take]
/-! ### single steps, over lists -/
theorem pb_bt (L : List UInt8) (n : Nat) (b : UInt8) (M : List UInt8) (h : L.drop n = b :: M) : n < L.length ∧ bt (mk L) (n : Int) = (b.toNat : Int) := by
  have hn : n < L.length := by
    rcases Nat.lt_or_ge n L.length with h1 | h1
    · exact h1
    · rw [List.drop_of_length_le h1] at h; cases h
  rw [List.drop_eq_getElem_cons hn] at h
  injection h with h1 h2
  exact ⟨hn, by rw [bt_mk L n hn, h1]⟩
theorem ext_run (L : List UInt8) (p : Int → Bool) (n : Nat) (hn : n ≤ L.length) : (mk L).extract (n : Int).toNat (runP p (mk L) (mk L).size (n : Int)).toNat = mk ((L.drop n).takeWhile (pb p)) := by
  rw [runP_tw p L (mk L).size n hn (by rw [mk_size]; omega), Int.toNat_natCast, Int.toNat_natCast, ext_nat, Nat.add_sub_cancel_left, take_tw]
theorem not_slash (L : List UInt8) (n : Nat) (b : UInt8) (M : List UInt8) (h : L.drop n = b :: M) (hb : b ≠ 47) : ¬ slashP ((mk L).extract (n : Int).toNat (mk L).size) = true := by
  rw [Int.toNat_natCast, mk_rest, h]
  unfold slashP
  rw [mk_extract, mk_list, List.drop_zero, List.take_succ_cons]
  simp only [Bool.and_eq_true, beq_iff_eq, List.cons.injEq]
  exact fun h2 => hb h2.2.1
theorem one_blank (L : List UInt8) (n : Nat) (M : List UInt8) (h : L.drop n = 32 :: M) (line : Int) (l : List S29) (c : List S32) (f : Int) : oneP (mk L) (n : Int) line l c f = ⟨((n + 1 : Nat) : Int), line, l, c, f⟩ := by
  obtain ⟨_, hb⟩ := pb_bt L n 32 M h
  unfold oneP
  rw [hb, if_neg (by decide), if_pos (by decide)]; rfl
theorem one_nl (L : List UInt8) (n : Nat) (M : List UInt8) (h : L.drop n = 10 :: M) (line : Int) (l : List S29) (c : List S32) (f : Int) : oneP (mk L) (n : Int) line l c f = ⟨((n + 1 : Nat) : Int), line + 1, semiL l n line, c, f⟩ := by
  obtain ⟨_, hb⟩ := pb_bt L n 10 M h
  unfold oneP
  rw [hb, if_pos (by decide)]; rfl
theorem one_name (L : List UInt8) (n : Nat) (b : UInt8) (M : List UInt8) (h : L.drop n = b :: M) (hl : pb letterP b = true) (line : Int) (l : List S29) (c : List S32) (f : Int) : oneP (mk L) (n : Int) line l c f = nameP n line l c f (mk ((b :: M).takeWhile (pb wordP))) := by
  obtain ⟨hn, hb⟩ := pb_bt L n b M h
  have hl' : letterP (b.toNat : Int) = true := hl
  have h47 : b ≠ 47 := by rintro rfl; exact absurd hl (by decide)
  have h10 : ¬ (b.toNat : Int) = 10 := by intro e; rw [e] at hl'; exact absurd hl' (by decide)
  have h32 : ¬ ((b.toNat : Int) = 32 ∨ (b.toNat : Int) = 9) := by rintro (e | e) <;> (rw [e] at hl'; exact absurd hl' (by decide))
  unfold oneP
  rw [hb, if_neg h10, if_neg h32, if_neg (not_slash L n b M h h47), if_pos hl', ext_run L wordP n (by omega), h]
theorem one_num (L : List UInt8) (n : Nat) (b : UInt8) (M : List UInt8) (h : L.drop n = b :: M) (hl : pb digitP b = true) (line : Int) (l : List S29) (c : List S32) (f : Int) : oneP (mk L) (n : Int) line l c f = numberP (mk L) n line l c f (mk ((b :: M).takeWhile (pb digitP))) := by
  obtain ⟨hn, hb⟩ := pb_bt L n b M h
  have hl' : digitP (b.toNat : Int) = true := hl
  have h47 : b ≠ 47 := by rintro rfl; exact absurd hl (by decide)
  have hlt : ¬ letterP (b.toNat : Int) = true := by
    unfold digitP at hl'
    unfold letterP
    simp only [Bool.and_eq_true, decide_eq_true_eq] at hl'
    simp only [Bool.or_eq_true, Bool.and_eq_true, decide_eq_true_eq, beq_iff_eq]; omega
  have h10 : ¬ (b.toNat : Int) = 10 := by intro e; rw [e] at hl'; exact absurd hl' (by decide)
  have h32 : ¬ ((b.toNat : Int) = 32 ∨ (b.toNat : Int) = 9) := by rintro (e | e) <;> (rw [e] at hl'; exact absurd hl' (by decide))
  unfold oneP
  rw [hb, if_neg h10, if_neg h32, if_neg (not_slash L n b M h h47), if_neg hlt, if_pos hl', ext_run L digitP n (by omega), h]
theorem one_str (L : List UInt8) (n : Nat) (M : List UInt8) (h : L.drop n = 34 :: M) (line : Int) (l : List S29) (c : List S32) (f : Int) : oneP (mk L) (n : Int) line l c f = textP n line l c f (mk ((34 :: M).takeWhile (fun b => b != 10))) := by
  obtain ⟨hn, hb⟩ := pb_bt L n 34 M h
  unfold oneP
  rw [hb, if_neg (by decide), if_neg (by decide), if_neg (not_slash L n 34 M h (by decide)), if_neg (by decide), if_neg (by decide), if_pos (by decide), rest_tw, h]
theorem one_com (L : List UInt8) (n : Nat) (M : List UInt8) (h : L.drop n = 47 :: 47 :: M) (line : Int) (l : List S29) (c : List S32) (f : Int) :
    oneP (mk L) (n : Int) line l c f = ⟨((n + ((47 :: 47 :: M).takeWhile (fun b : UInt8 => b != 10)).length : Nat) : Int), line, semiL l n line, c ++ [⟨mk ((47 :: 47 :: M).takeWhile (fun b : UInt8 => b != 10)), n, line, (semiL l n line).length⟩], f⟩ := by
  obtain ⟨hn, hb⟩ := pb_bt L n 47 (47 :: M) h
  have hs : slashP ((mk L).extract (n : Int).toNat (mk L).size) = true := by
    rw [Int.toNat_natCast, mk_rest, h]
    unfold slashP
    rw [mk_extract, mk_list, mk_size]
    simp
  unfold oneP
  rw [hb, if_neg (by decide), if_neg (by decide), if_pos hs, rest_tw, h, mk_size, Int.natCast_add]
theorem one_plus (L : List UInt8) (n : Nat) (M : List UInt8) (h : L.drop n = 43 :: M) (line : Int) (l : List S29) (c : List S32) (f : Int) : oneP (mk L) (n : Int) line l c f = ⟨((n + 1 : Nat) : Int), line, l ++ [⟨4, mk [43], n, line, false⟩], c, f⟩ := by
  obtain ⟨hn, hb⟩ := pb_bt L n 43 M h
  have e2 : ¬ opOk (mk L) (n : Int) 2 := by
    rintro ⟨_, h2⟩
    rw [Int.toNat_natCast, show ((n : Int) + 2).toNat = n + 2 by omega, ext_nat, Nat.add_sub_cancel_left, h, List.take_succ_cons] at h2
    unfold opP at h2
    have := of_decide_eq_true h2
    rw [mk_list] at this
    cases M with
    | nil => rename_i h1; rw [mk_size] at h1; have := congrArg List.length h; rw [List.length_drop] at this; simp at this; omega
    | cons m M => simp [opL] at this
  have e1 : opOk (mk L) (n : Int) 1 := by
    refine ⟨by rw [mk_size]; omega, ?_⟩
    rw [Int.toNat_natCast, show ((n : Int) + 1).toNat = n + 1 by omega, ext_nat, Nat.add_sub_cancel_left, h, List.take_succ_cons, List.take_zero]
    decide +kernel
  unfold oneP
  rw [hb, if_neg (by decide), if_neg (by decide), if_neg (not_slash L n 43 M h (by decide)), if_neg (by decide), if_neg (by decide), if_neg (by decide), if_neg (by decide)]
  unfold opRes
  rw [if_neg e2, if_pos e1]
  unfold putP
  rw [Int.toNat_natCast, show ((n : Int) + 1).toNat = n + 1 by omega, ext_nat, Nat.add_sub_cancel_left, h, List.take_succ_cons, List.take_zero]
  rfl
theorem loop_step (L : List UInt8) (N n : Nat) (line : Int) (l : List S29) (c : List S32) (y : ScSt) (hn : n < L.length) (h : oneP (mk L) (n : Int) line l c (-1) = y) : scanLoop (mk L) (N + 1) ⟨(n : Int), line, l, c, -1⟩ = scanLoop (mk L) N y := by
  rw [scanLoop_step _ _ _ _ _ _ _ (by rw [mk_size]; omega) (by decide), h]
theorem loop_end (L : List UInt8) (N n : Nat) (line : Int) (l : List S29) (c : List S32) (hn : L.length ≤ n) : scanLoop (mk L) N ⟨(n : Int), line, l, c, -1⟩ = ⟨(n : Int), line, l, c, -1⟩ := scanLoop_end _ _ _ (fun h => by have := h.1; rw [mk_size] at this; simp only at this; omega)
theorem loop_bad (L : List UInt8) (N n : Nat) (line : Int) (l : List S29) (c : List S32) : scanLoop (mk L) N ⟨(n : Int), line, l, c, (n : Int)⟩ = ⟨(n : Int), line, l, c, (n : Int)⟩ := scanLoop_end _ _ _ (fun h => by have := h.2; simp only at this; omega)
/-- A text of plain bytes has no fault. -/
def plain (b : UInt8) : Prop := b = 10 ∨ b = 9 ∨ (32 ≤ b.toNat ∧ b.toNat < 127)
theorem fl_plain (k : Nat) : ∀ (pos : Nat) (l : List UInt8), (∀ b ∈ l, plain b) → fl k pos l = -1 := by
  induction k with
  | zero => intro pos l _; rfl
  | succ k ih =>
    intro pos l h
    cases l with
    | nil => simp [fl]
    | cons b l =>
      have hb := h b List.mem_cons_self
      have e0 : nb (b :: l) 0 = b.toNat := rfl
      have hlt : b.toNat < 127 := by rcases hb with rfl | rfl | hb <;> first | decide | omega
      have hd : dL (b :: l) = (b.toNat, 1) := by rw [dL_low _ (by rw [e0]; omega), e0]
      have hbad : ¬ badD (b.toNat, 1) := by
        unfold badD
        simp only
        rcases hb with rfl | rfl | hb
        · decide
        · decide
        · omega
      simp only [fl]
      rw [if_neg (by simp), hd, if_neg hbad]
      exact ih _ _ (fun x hx => h x (List.mem_cons_of_mem _ (by simpa using hx)))
theorem flt_plain (l : List UInt8) (h : ∀ b ∈ l, plain b) : flt l = -1 := fl_plain _ _ _ h
/-- How a scan of plain bytes ends. -/
theorem scan_plain (L : List UInt8) (hL : L.length ≤ 2000) (hp : ∀ b ∈ L, plain b) (a line : Int) (l : List S29) (c : List S32) (f : Int) (h : scanLoop (mk L) (L.length + 2) ⟨0, 1, [], [], -1⟩ = ⟨a, line, l, c, f⟩) :
    scan_Scan.f (mk L) = some (if f ≥ 0 then ([], [], f) else (semiL l a line ++ [⟨7, ⟨#[]⟩, a, line, false⟩], c, -1)) := by
  have hF : faults (mk L) (mk L).size 0 = flt L := by unfold flt; rw [faults_fl, mk_size, List.drop_zero]
  unfold scan_Scan.f
  rw [if_pos (by rw [mk_size]; omega)]
  congr 1
  rw [show (mk L).size + 2 = L.length + 2 by rw [mk_size], h]
  have e : fault2 (mk L) f = f := by
    unfold fault2
    rw [hF, flt_plain L hp, if_neg (by rw [mk_size]; omega)]; rfl
  unfold scanEnd
  simp only [e]
theorem wf8 {n : Int} (h : (Lit.int .u8 n).wf = true) : 0 ≤ n ∧ n ≤ 255 := by
  simp [Lit.wf, IntKind.min, IntKind.max, IntKind.signed, IntKind.bits] at h
  omega
theorem begun_f : recensionlaw6_begun.f = some true := by decide +kernel
theorem key0 : keyP (mk [120]) = false := by decide +kernel
theorem tw_app (q : UInt8 → Bool) (M : List UInt8) (z : UInt8) (Z : List UInt8) (h : ∀ b ∈ M, q b = true) (hz : q z = false) : (M ++ z :: Z).takeWhile q = M := by
  induction M with
  | nil => rw [List.nil_append, List.takeWhile_cons, if_neg (by rw [hz]; decide)]
  | cons b M ih => rw [List.cons_append, List.takeWhile_cons, if_pos (h b List.mem_cons_self), ih (fun x hx => h x (List.mem_cons_of_mem _ hx))]
theorem tw_all (q : UInt8 → Bool) (M : List UInt8) (h : ∀ b ∈ M, q b = true) : M.takeWhile q = M := by
  induction M with
  | nil => rfl
  | cons b M ih => rw [List.takeWhile_cons, if_pos (h b List.mem_cons_self), ih (fun x hx => h x (List.mem_cons_of_mem _ hx))]
/-- A byte that may stand in a string here. -/
def inner (b : UInt8) : Prop := 32 ≤ b.toNat ∧ b.toNat ≤ 126 ∧ b ≠ 34
theorem inner_plain {b : UInt8} (h : inner b) : plain b := .inr (.inr ⟨h.1, by have := h.2.1; omega⟩)
theorem inner_nl {b : UInt8} (h : inner b) : (b != 10) = true := by
  have : b ≠ 10 := by rintro rfl; exact absurd h.1 (by decide)
  simpa using this
theorem inner_q {b : UInt8} (h : inner b) : (b != 34) = true := by simpa using h.2.2
theorem quote_none (R : List UInt8) (h : ∀ b ∈ R, inner b) : quoteN (mk (34 :: R)) = -1 := by
  unfold quoteN
  rw [mk_rest, mk_data, List.drop_succ_cons, List.drop_zero, index_tw, tw_all _ _ (fun b hb => inner_q (h b hb)), if_neg (by omega)]
theorem quote_some (R : List UInt8) (h : ∀ b ∈ R, inner b) : quoteN (mk (34 :: (R ++ [34]))) = (R.length : Int) := by
  unfold quoteN
  rw [mk_rest, mk_data, List.drop_succ_cons, List.drop_zero, index_tw, tw_app _ R 34 [] (fun b hb => inner_q (h b hb)) (by decide), if_pos (by simp)]
/-- A string that is not shut: at its end, or ahead of a newline. -/
theorem scan_open (R Z : List UInt8) (hR : R.length ≤ 30) (h : ∀ b ∈ R, inner b) (hZ : Z = [] ∨ Z = [10, 121, 34]) : ∃ r, scan_Scan.f (mk (120 :: 34 :: (R ++ Z))) = some r ∧ r.2.2 = 1 := by
  obtain ⟨L, hL⟩ : ∃ L, 120 :: 34 :: (R ++ Z) = L := ⟨_, rfl⟩
  have hZl : Z.length ≤ 3 := by rcases hZ with rfl | rfl <;> simp
  have hLl : L.length = R.length + Z.length + 2 := by rw [← hL]; simp
  have hp : ∀ x ∈ L, plain x := by
    intro x hx
    rw [← hL] at hx
    rcases List.mem_cons.1 hx with rfl | hx
    · exact .inr (.inr (by decide))
    rcases List.mem_cons.1 hx with rfl | hx
    · exact .inr (.inr (by decide))
    rcases List.mem_append.1 hx with hx | hx
    · exact inner_plain (h x hx)
    · rcases hZ with rfl | rfl
      · cases hx
      · rcases List.mem_cons.1 hx with rfl | hx
        · exact .inl rfl
        rcases List.mem_cons.1 hx with rfl | hx
        · exact .inr (.inr (by decide))
        · rw [List.mem_singleton.1 hx]; exact .inr (.inr (by decide))
  have d0 : L.drop 0 = 120 :: 34 :: (R ++ Z) := hL.symm
  have d1 : L.drop 1 = 34 :: (R ++ Z) := by rw [← hL]; rfl
  have s1 := one_name L 0 120 _ d0 (by decide) 1 [] [] (-1)
  have t1 : (120 :: 34 :: (R ++ Z)).takeWhile (pb wordP) = [120] := by rw [List.takeWhile_cons, if_pos (by decide), List.takeWhile_cons, if_neg (by decide)]
  rw [t1] at s1
  have s1' : oneP (mk L) ((0 : Nat) : Int) 1 [] [] (-1) = ⟨((1 : Nat) : Int), 1, [⟨1, mk [120], ((0 : Nat) : Int), 1, false⟩], [], -1⟩ := s1.trans (by unfold nameP putP; rw [if_neg (by decide), key0]; rfl)
  have s2 := one_str L 1 _ d1 1 [⟨1, mk [120], ((0 : Nat) : Int), 1, false⟩] [] (-1)
  have t2 : (34 :: (R ++ Z)).takeWhile (fun b => b != 10) = 34 :: R := by
    rw [List.takeWhile_cons, if_pos (by decide)]
    congr 1
    rcases hZ with rfl | rfl
    · rw [List.append_nil]; exact tw_all _ _ (fun b hb => inner_nl (h b hb))
    · exact tw_app _ R 10 _ (fun b hb => inner_nl (h b hb)) (by decide)
  rw [t2] at s2
  unfold textP at s2
  rw [quote_none R h, if_pos (by decide)] at s2
  obtain ⟨N, hN⟩ : ∃ N, L.length + 2 = N + 1 + 1 := ⟨L.length, rfl⟩
  have hl : scanLoop (mk L) (L.length + 2) ⟨((0 : Nat) : Int), 1, [], [], -1⟩ = ⟨((1 : Nat) : Int), 1, [⟨1, mk [120], ((0 : Nat) : Int), 1, false⟩], [], ((1 : Nat) : Int)⟩ := by
    rw [hN, loop_step _ _ 0 1 [] [] _ (by omega) s1', loop_step _ _ 1 1 _ [] _ (by omega) s2, loop_bad]
  rw [hL]
  exact ⟨_, scan_plain _ (by omega) hp _ _ _ _ _ hl, rfl⟩
/-- A string that is shut. -/
theorem scan_shut (R : List UInt8) (hR : R.length ≤ 30) (h : ∀ b ∈ R, inner b) : ∃ r, scan_Scan.f (mk (120 :: 34 :: (R ++ [34]))) = some r ∧ r.2.2 = -1 ∧ r.2.1 = [] ∧ ∃ x y z, r.1 = [x, ⟨3, mk (34 :: (R ++ [34])), 1, 1, false⟩, y, z] := by
  obtain ⟨L, hL⟩ : ∃ L, 120 :: 34 :: (R ++ [34]) = L := ⟨_, rfl⟩
  have hLl : L.length = R.length + 3 := by rw [← hL]; simp
  have hp : ∀ x ∈ L, plain x := by
    intro x hx
    rw [← hL] at hx
    rcases List.mem_cons.1 hx with rfl | hx
    · exact .inr (.inr (by decide))
    rcases List.mem_cons.1 hx with rfl | hx
    · exact .inr (.inr (by decide))
    rcases List.mem_append.1 hx with hx | hx
    · exact inner_plain (h x hx)
    · rw [List.mem_singleton.1 hx]; exact .inr (.inr (by decide))
  have d0 : L.drop 0 = 120 :: 34 :: (R ++ [34]) := hL.symm
  have d1 : L.drop 1 = 34 :: (R ++ [34]) := by rw [← hL]; rfl
  have s1 := one_name L 0 120 _ d0 (by decide) 1 [] [] (-1)
  have t1 : (120 :: 34 :: (R ++ [34])).takeWhile (pb wordP) = [120] := by rw [List.takeWhile_cons, if_pos (by decide), List.takeWhile_cons, if_neg (by decide)]
  rw [t1] at s1
  have s1' : oneP (mk L) ((0 : Nat) : Int) 1 [] [] (-1) = ⟨((1 : Nat) : Int), 1, [⟨1, mk [120], ((0 : Nat) : Int), 1, false⟩], [], -1⟩ := s1.trans (by unfold nameP putP; rw [if_neg (by decide), key0]; rfl)
  have s2 := one_str L 1 _ d1 1 [⟨1, mk [120], ((0 : Nat) : Int), 1, false⟩] [] (-1)
  have t2 : (34 :: (R ++ [34])).takeWhile (fun b => b != 10) = 34 :: (R ++ [34]) := by
    apply tw_all
    intro b hb
    rcases List.mem_cons.1 hb with rfl | hb
    · decide
    rcases List.mem_append.1 hb with hb | hb
    · exact inner_nl (h b hb)
    · rw [List.mem_singleton.1 hb]; decide
  rw [t2] at s2
  unfold textP at s2
  have e5 : (mk (34 :: (R ++ [34]))).extract 0 ((R.length : Int) + 2).toNat = mk (34 :: (R ++ [34])) := by
    rw [show ((R.length : Int) + 2).toNat = R.length + 2 by omega, ext_nat, List.drop_zero, Nat.sub_zero, List.take_of_length_le (by simp)]
  rw [quote_some R h, if_neg (by omega), e5] at s2
  unfold putP at s2
  have hs : (mk (34 :: (R ++ [34]))).size = R.length + 2 := by rw [mk_size]; simp
  rw [hs, show (((1 : Nat) : Int) + ((R.length + 2 : Nat) : Int)) = ((R.length + 3 : Nat) : Int) by omega] at s2
  obtain ⟨N, hN⟩ : ∃ N, L.length + 2 = N + 1 + 1 := ⟨L.length, rfl⟩
  have hl : scanLoop (mk L) (L.length + 2) ⟨((0 : Nat) : Int), 1, [], [], -1⟩ = ⟨((R.length + 3 : Nat) : Int), 1, [⟨1, mk [120], ((0 : Nat) : Int), 1, false⟩] ++ [⟨3, mk (34 :: (R ++ [34])), ((1 : Nat) : Int), 1, false⟩], [], -1⟩ := by
    rw [hN, loop_step _ _ 0 1 [] [] _ (by omega) s1', loop_step _ _ 1 1 _ [] _ (by omega) s2, loop_end _ _ _ _ _ _ (by omega)]
  rw [hL]
  refine ⟨_, scan_plain _ (by omega) hp _ _ _ _ _ hl, rfl, rfl, ?_⟩
  rw [if_neg (by decide)]
  have hsemi : semiL ([⟨1, mk [120], ((0 : Nat) : Int), 1, false⟩] ++ [⟨3, mk (34 :: (R ++ [34])), ((1 : Nat) : Int), 1, false⟩]) ((R.length + 3 : Nat) : Int) 1 = [⟨1, mk [120], ((0 : Nat) : Int), 1, false⟩, ⟨3, mk (34 :: (R ++ [34])), ((1 : Nat) : Int), 1, false⟩, ⟨6, ⟨#[59]⟩, ((R.length + 3 : Nat) : Int), 1, true⟩] := by
    unfold semiL
    rw [if_neg (by simp), if_pos]
    · rfl
    · unfold endsP; exact decide_eq_true (.inr (.inr (.inl rfl)))
  rw [hsemi]
  exact ⟨_, _, _, rfl⟩
theorem strings_end (k n : Nat) (x : Int) (x2 : Bool) (R : List UInt8) (hn : R.length = n) (h2 : n ≤ 30) (h : ∀ b ∈ R, inner b) : recensionlaw6_ScanStrings.l0 (k + 1) (n : Int) x x2 (mk (120 :: 34 :: R)) (n : Int) = some true := by
  simp only [recensionlaw6_ScanStrings.l0]
  have e34 : mk (120 :: 34 :: R) ++ (⟨#[34]⟩ : ByteArray) = mk (120 :: 34 :: (R ++ [34])) := by rw [show (⟨#[34]⟩ : ByteArray) = mk [34] from rfl, mk_app]; rfl
  have e3 : mk (120 :: 34 :: R) ++ (⟨#[10, 121, 34]⟩ : ByteArray) = mk (120 :: 34 :: (R ++ [10, 121, 34])) := by rw [show (⟨#[10, 121, 34]⟩ : ByteArray) = mk [10, 121, 34] from rfl, mk_app]; rfl
  have hsz : (mk (120 :: 34 :: R)).size = n + 2 := by rw [mk_size]; simp; omega
  rw [if_neg (by omega), hsz, e34, e3]
  cases x2 with
  | true =>
    obtain ⟨r, h1, h2, h3, a, y, z, h4⟩ := scan_shut R (by omega) h
    have e1 : rd_T29 [a, ⟨3, mk (34 :: (R ++ [34])), 1, 1, false⟩, y, z] 1 = ⟨3, mk (34 :: (R ++ [34])), 1, 1, false⟩ := rfl
    have hs : (mk (34 :: (R ++ [34]))).size = n + 2 := by rw [mk_size]; simp; omega
    have hw : wrap64 ((n : Int) + 2) = ((n + 2 : Nat) : Int) := by unfold wrap64; omega
    rw [if_pos rfl, if_pos (by omega), h1, Option.bind_some, h2, h3, h4, e1, hw]
    simp [hs]
  | false =>
    obtain ⟨r, a1, a2⟩ := scan_open R [] (by omega) h (.inl rfl)
    obtain ⟨r', b1, b2⟩ := scan_open R [10, 121, 34] (by omega) h (.inr rfl)
    rw [List.append_nil] at a1
    rw [if_neg (by decide), a1, Option.bind_some, if_pos (by omega), b1, Option.bind_some, a2, b2, if_pos rfl]
    rfl
theorem strings_l0 (n : Nat) (x : Int) (r : Nat) (hx : x = (r : Int)) (hr : inner (UInt8.ofNat r)) (x2 : Bool) (h2 : n ≤ 30) (d : Nat) : ∀ (k i : Nat) (R : List UInt8), R.length = i → (∀ b ∈ R, inner b) → i + d = n → d < k → recensionlaw6_ScanStrings.l0 k (n : Int) x x2 (mk (120 :: 34 :: R)) (i : Int) = some true := by
  induction d with
  | zero =>
    intro k i R hR hall hd hk
    obtain ⟨k, rfl⟩ : ∃ m, k = m + 1 := ⟨k - 1, by omega⟩
    obtain rfl : i = n := by omega
    exact strings_end k i x x2 R hR h2 hall
  | succ d ih =>
    intro k i R hR hall hd hk
    obtain ⟨k, rfl⟩ : ∃ m, k = m + 1 := ⟨k - 1, by omega⟩
    have e1 : strOfNums ([x] : List Int) = mk [UInt8.ofNat r] := by
      apply data_ext
      simp only [strOfNums, mk, List.map_cons, List.map_nil]
      rw [hx, Int.toNat_natCast]
    simp only [recensionlaw6_ScanStrings.l0]
    rw [if_pos (by omega), Option.bind_some, e1, mk_app, if_pos (by rw [mk_size, mk_size]; simp; omega), w_succ i (by omega)]
    refine ih k (i + 1) (R ++ [UInt8.ofNat r]) (by simp [hR]) ?_ (by omega) (by omega)
    intro b hb
    rcases List.mem_append.1 hb with h | h
    · exact hall b h
    · rw [List.mem_singleton.1 h]; exact hr
theorem ScanStrings : recensionlaw6_ScanStrings.Pure := by
  intro n x x2 hn hx
  obtain ⟨k, hk⟩ : ∃ k, k = 1000 := ⟨_, rfl⟩
  refine ⟨k, ?_⟩
  obtain ⟨k', rfl⟩ : ∃ m, k = m + 1 := ⟨k - 1, by omega⟩
  unfold recensionlaw6_ScanStrings.f
  rw [begun_f, Option.bind_some, if_pos rfl]
  simp only [recensionlaw6_ScanStrings.j0]
  by_cases h0 : n < 0
  · rw [if_pos h0]; rfl
  rw [if_neg h0]
  by_cases h1 : n > 30
  · rw [if_pos h1]; rfl
  rw [if_neg h1]
  by_cases h32 : x < 32
  · rw [if_pos h32]; rfl
  rw [if_neg h32]
  by_cases h126 : x > 126
  · rw [if_pos h126]; rfl
  rw [if_neg h126]
  by_cases h34 : x = 34
  · rw [if_pos (by simpa using h34)]
  rw [if_neg (by simpa using h34)]
  obtain ⟨m, rfl⟩ : ∃ m : Nat, n = (m : Int) := ⟨n.toNat, by omega⟩
  obtain ⟨r, rfl⟩ : ∃ m : Nat, x = (m : Int) := ⟨x.toNat, by omega⟩
  have ht : (UInt8.ofNat r).toNat = r := by rw [UInt8.toNat_ofNat']; omega
  refine strings_l0 m _ r rfl ⟨by omega, by omega, ?_⟩ x2 (by omega) m k' 0 [] rfl (by simp) (by omega) (by omega)
  intro e
  rw [e] at ht
  have : r = 34 := ht.symm
  omega

end Go.Proofs.YtohhnblaoihgbaaDoor.Pure
