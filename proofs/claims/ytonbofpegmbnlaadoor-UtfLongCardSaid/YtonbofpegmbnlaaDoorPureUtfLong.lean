/- Letters and a tail are a text just if they are at most two thousand bytes and the tail has no fault. Condition: none beside the statement's own. -/
import Derived.Test.YtonbofpegmbnlaaDoorPUtfLongx2
namespace Go.Proofs.YtonbofpegmbnlaaDoor.Pure
open Go.RowKit Go.Proofs.YtonbofpegmbnlaaDoor.PUtfLong Go.Proofs.YtonbofpegmbnlaaDoorW.PrintWords Go.Proofs.YtonbofpegmbnlaaDoorW.PrintLast Go.Proofs.YtonbofpegmbnlaaDoorW.PrintMore
theorem wrap_small {x : Int} (h0 : -9223372036854775808 ≤ x) (h1 : x ≤ 9223372036854775807) : wrap64 x = x := by
  unfold wrap64
  omega
theorem wrap32_small {x : Int} (h0 : -2147483648 ≤ x) (h1 : x ≤ 2147483647) : wrap32 x = x := by
  unfold wrap32
  omega
theorem w_cast (i : Int) (h0 : -3000000 ≤ i) (h : i ≤ 3000000) : wrap64 i = i := wrap_small (by omega) (by omega)
theorem w_succ (i : Nat) (h : i ≤ 2000000) : wrap64 ((i : Int) + 1) = ((i + 1 : Nat) : Int) := by rw [wrap_small (by omega) (by omega)]; omega
theorem w_add (a b : Nat) (h : a + b ≤ 3000000) : wrap64 ((a : Int) + (b : Int)) = ((a + b : Nat) : Int) := by rw [w_cast _ (by omega) (by omega)]; omega
def mk (l : List UInt8) : ByteArray := ⟨l.toArray⟩
theorem list_data (s : ByteArray) : s.toList = s.data.toList := ByteArray.toList_eq s
theorem list_len (s : ByteArray) : s.toList.length = s.size := by rw [ByteArray.toList_eq]; simp
theorem mk_list (l : List UInt8) : (mk l).toList = l := by rw [list_data]; rfl
theorem mk_data (l : List UInt8) : (mk l).data.toList = l := rfl
theorem mk_size (l : List UInt8) : (mk l).size = l.length := by show (l.toArray).size = _; simp
theorem mk_of (s : ByteArray) : mk s.toList = s := by rw [list_data]; unfold mk; simp
theorem data_ext (a b : ByteArray) (h : a.data.toList = b.data.toList) : a = b := by
  apply ByteArray.ext
  exact Array.toList_inj.1 h
theorem mk_extract (l : List UInt8) (a b : Nat) : (mk l).extract a b = mk ((l.take b).drop a) := by
  apply data_ext
  rw [Lib.extract_data, mk_data, mk_data, List.drop_take]
theorem mk_rest (l : List UInt8) (a : Nat) : (mk l).extract a (mk l).size = mk (l.drop a) := by
  rw [mk_extract, mk_size, List.take_length]
theorem mk_app (a b : List UInt8) : mk a ++ mk b = mk (a ++ b) := by
  apply ByteArray.ext
  unfold mk
  simp
/-- A list's byte, nought behind its end. -/
def nb (l : List UInt8) (i : Nat) : Nat := (l.getD i 0).toNat
theorem nb_lt (l : List UInt8) (i : Nat) : nb l i < 256 := UInt8.toNat_lt _
theorem get_nb (l : List UInt8) (i : Nat) : ((mk l).get! i).toNat = nb l i := by
  unfold nb mk
  congr 1
  show (l.toArray)[i]! = l.getD i 0
  simp [List.getD_eq_getElem?_getD, getElem!_def]
  cases h : l[i]? <;> rfl
theorem bt_nb (l : List UInt8) (i : Nat) : bt (mk l) (i : Int) = (nb l i : Int) := by
  unfold bt nb
  by_cases h : i < l.length
  · rw [dif_pos (by rw [mk_size]; simpa using h)]
    congr 1
    simp only [Int.toNat_natCast, List.getD_eq_getElem?_getD, List.getElem?_eq_getElem h, Option.getD_some]
    rfl
  · rw [dif_neg (by rw [mk_size]; simpa using h)]
    simp only [List.getD_eq_getElem?_getD, List.getElem?_eq_none (by omega : l.length ≤ i), Option.getD_none]
    rfl
theorem nb_drop (l : List UInt8) (p i : Nat) : nb (l.drop p) i = nb l (p + i) := by
  unfold nb
  simp [List.getD_eq_getElem?_getD]
/-- The first rune of some bytes, and its width. -/
def dL (l : List UInt8) : Nat × Nat := Lib.decodeN l.length (nb l 0) (nb l 1) (nb l 2) (nb l 3)
theorem decode_dL (l : List UInt8) (p : Nat) : Utf8.decode (mk l) p = dL (l.drop p) := by
  rw [Lib.decode_at]
  unfold dL
  rw [mk_size, List.length_drop, nb_drop, nb_drop, nb_drop, nb_drop, get_nb, get_nb, get_nb, get_nb]
  rfl
def okD (d : Nat × Nat) : Bool := !(d.1 == 65533 && d.2 == 1)
/-- Is what was read at fault? -/
def badD (d : Nat × Nat) : Prop := ((d.1 < 32 ∧ d.1 ≠ 9 ∧ d.1 ≠ 10) ∨ d.1 = 127) ∨ (d.1 = 65533 ∧ d.2 = 1)
instance (d : Nat × Nat) : Decidable (badD d) := by unfold badD; exact inferInstance
theorem dL_low (l : List UInt8) (h : nb l 0 < 128) : dL l = (nb l 0, 1) := by unfold dL Lib.decodeN; rw [if_pos h]
theorem dL_high (l : List UInt8) (h : ¬ nb l 0 < 128) : 128 ≤ (dL l).1 := by
  unfold dL Lib.decodeN
  rw [if_neg h]
  have h0 := nb_lt l 0
  have h1 := nb_lt l 1
  have h2 := nb_lt l 2
  have h3 := nb_lt l 3
  repeat' split
  all_goals (first | omega | (simp only []; omega))
theorem dL_wid (l : List UInt8) (h : l ≠ []) : 1 ≤ (dL l).2 ∧ (dL l).2 ≤ l.length := by
  have hl : 0 < l.length := List.length_pos_iff.2 h
  unfold dL Lib.decodeN
  repeat' split
  all_goals (first | omega | (simp only []; omega))
/-- The first fault from a place on, of the rest of the bytes. -/
def fl : Nat → Nat → List UInt8 → Int
  | 0, _, _ => -1
  | k + 1, pos, l => if l = [] then -1 else if badD (dL l) then (pos : Int) else fl k (pos + (dL l).2) (l.drop (dL l).2)
def rl : Nat → List UInt8 → Int
  | 0, _ => 0
  | k + 1, l => if l = [] then 0 else rl k (l.drop (dL l).2) + 1
theorem drop_nil_iff (l : List UInt8) (pos : Nat) : (l.drop pos = []) ↔ ¬ pos < l.length := by
  rw [List.drop_eq_nil_iff]; omega
theorem faults_fl (l : List UInt8) (k : Nat) : ∀ pos, faults (mk l) k pos = fl k pos (l.drop pos) := by
  induction k with
  | zero => intro pos; rfl
  | succ k ih =>
    intro pos
    unfold faults fl
    rw [mk_size]
    by_cases h : pos < l.length
    · rw [if_pos h, if_neg (fun e => (drop_nil_iff l pos).1 e h), decode_dL]
      have e : (Lib.decodeGo ((mk l).extract pos l.length)).2 = (dL (l.drop pos)).2 := by
        have := mk_rest l pos
        rw [mk_size] at this
        rw [this]
        unfold Lib.decodeGo
        rw [if_neg (by rw [mk_size, List.length_drop]; omega), decode_dL, List.drop_zero]
      rw [e, ih, List.drop_drop]
      by_cases h1 : ((dL (l.drop pos)).1 < 32 ∧ (dL (l.drop pos)).1 ≠ 9 ∧ (dL (l.drop pos)).1 ≠ 10) ∨ (dL (l.drop pos)).1 = 127
      · rw [if_pos h1, if_pos (show badD _ from Or.inl h1)]
      · rw [if_neg h1]
        by_cases h2 : (dL (l.drop pos)).1 = 65533 ∧ (dL (l.drop pos)).2 = 1
        · rw [if_pos h2, if_pos (show badD _ from Or.inr h2)]
        · rw [if_neg h2, if_neg (show ¬ badD _ from fun e => Or.elim e h1 h2)]
    · rw [if_neg h, if_pos ((drop_nil_iff l pos).2 h)]
theorem runes_rl (l : List UInt8) (k : Nat) : ∀ pos, runes (mk l) k pos = rl k (l.drop pos) := by
  induction k with
  | zero => intro pos; rfl
  | succ k ih =>
    intro pos
    unfold runes rl
    rw [mk_size]
    by_cases h : pos < l.length
    · rw [if_pos h, if_neg (fun e => (drop_nil_iff l pos).1 e h), decode_dL, ih, List.drop_drop]
    · rw [if_neg h, if_pos ((drop_nil_iff l pos).2 h)]
theorem fl_fuel (d : Nat) : ∀ (k k' pos : Nat) (l : List UInt8), l.length ≤ d → l.length ≤ k → l.length ≤ k' → fl k pos l = fl k' pos l := by
  induction d with
  | zero =>
    intro k k' pos l h _ _
    obtain rfl : l = [] := List.eq_nil_of_length_eq_zero (by omega)
    cases k <;> cases k' <;> simp [fl]
  | succ d ih =>
    intro k k' pos l h h1 h2
    by_cases hl : l = []
    · subst hl; cases k <;> cases k' <;> simp [fl]
    · have hp := List.length_pos_iff.2 hl
      obtain ⟨k, rfl⟩ : ∃ m, k = m + 1 := ⟨k - 1, by omega⟩
      obtain ⟨k', rfl⟩ : ∃ m, k' = m + 1 := ⟨k' - 1, by omega⟩
      have hw := dL_wid l hl
      simp only [fl, if_neg hl]
      split
      · rfl
      · exact ih k k' _ _ (by rw [List.length_drop]; omega) (by rw [List.length_drop]; omega) (by rw [List.length_drop]; omega)
theorem rl_fuel (d : Nat) : ∀ (k k' : Nat) (l : List UInt8), l.length ≤ d → l.length ≤ k → l.length ≤ k' → rl k l = rl k' l := by
  induction d with
  | zero =>
    intro k k' l h _ _
    obtain rfl : l = [] := List.eq_nil_of_length_eq_zero (by omega)
    cases k <;> cases k' <;> simp [rl]
  | succ d ih =>
    intro k k' l h h1 h2
    by_cases hl : l = []
    · subst hl; cases k <;> cases k' <;> simp [rl]
    · have hp := List.length_pos_iff.2 hl
      obtain ⟨k, rfl⟩ : ∃ m, k = m + 1 := ⟨k - 1, by omega⟩
      obtain ⟨k', rfl⟩ : ∃ m, k' = m + 1 := ⟨k' - 1, by omega⟩
      have hw := dL_wid l hl
      simp only [rl, if_neg hl]
      rw [ih k k' _ (by rw [List.length_drop]; omega) (by rw [List.length_drop]; omega) (by rw [List.length_drop]; omega)]
/-- The first fault of some bytes; how many runes they are. -/
def flt (l : List UInt8) : Int := fl l.length 0 l
def cnt (l : List UInt8) : Int := rl l.length l
theorem fault_f (l : List UInt8) : utf_Fault.f (mk l) = some (flt l) := by
  unfold utf_Fault.f flt
  rw [faults_fl, mk_size, List.drop_zero]
theorem ref_step (k : Nat) (l : List UInt8) (n low : Int) (r i : Nat) (hi : (i : Int) < n) (hn : n ≤ l.length) (hr : r ≤ 2000000) (hil : i ≤ 10) :
    recensionref1_Decode.l0 (k + 1) (mk l) n low (r : Int) (i : Int) = if 128 ≤ nb l i ∧ nb l i ≤ 191 then recensionref1_Decode.l0 k (mk l) n low ((r * 64 + nb l i - 128 : Nat) : Int) ((i + 1 : Nat) : Int) else some (1, false) := by
  have hb := nb_lt l i
  simp only [recensionref1_Decode.l0]
  rw [if_pos hi, if_pos (by omega), if_pos (by rw [mk_size]; omega), bt_nb]
  by_cases h : 128 ≤ nb l i ∧ nb l i ≤ 191
  · rw [if_neg (by omega), if_neg (by omega), if_pos h, w_succ i (by omega)]
    congr 1
    rw [wrap32_small (x := (r : Int) * 64) (by omega) (by omega), wrap32_small (x := (nb l i : Int)) (by omega) (by omega), wrap32_small (x := (r : Int) * 64 + (nb l i : Int)) (by omega) (by omega), wrap32_small (by omega) (by omega)]
    omega
  · rw [if_neg h]
    by_cases h1 : (nb l i : Int) < 128
    · rw [if_pos h1]
    · rw [if_neg h1, if_pos (by omega)]
theorem ref_fin (k : Nat) (l : List UInt8) (n low : Int) (r : Nat) :
    recensionref1_Decode.l0 (k + 1) (mk l) n low (r : Int) n = some (if low ≤ (r : Int) ∧ r ≤ 1114111 ∧ ¬ (55296 ≤ r ∧ r < 57344) then (n, true) else (1, false)) := by
  simp only [recensionref1_Decode.l0]
  rw [if_neg (by omega)]
  by_cases h1 : (r : Int) < low
  · rw [if_pos h1, if_neg (by omega)]
  rw [if_neg h1]
  by_cases h2 : (r : Int) > 1114111
  · rw [if_pos h2, if_neg (by omega)]
  rw [if_neg h2]
  by_cases h3 : (r : Int) ≥ 55296
  · rw [if_pos h3]
    by_cases h4 : (r : Int) < 57344
    · rw [if_pos h4, if_neg (by omega)]
    · rw [if_neg h4, if_pos (by omega)]
  · rw [if_neg h3, if_pos (by omega)]
theorem dec_ref (k : Nat) (l : List UInt8) (hl : l ≠ []) (hk : 12 ≤ k) : recensionref1_Decode.f k (mk l) = some (((dL l).2 : Int), okD (dL l)) := by
  have hp := List.length_pos_iff.2 hl
  have h0 := nb_lt l 0
  have h1 := nb_lt l 1
  have h2 := nb_lt l 2
  have h3 := nb_lt l 3
  obtain ⟨k, rfl⟩ : ∃ m, k = m + 8 := ⟨k - 8, by omega⟩
  have b0 : bt (mk l) 0 = (nb l 0 : Int) := bt_nb l 0
  unfold recensionref1_Decode.f
  rw [if_pos (by rw [mk_size]; omega), b0]
  by_cases c0 : nb l 0 < 128
  · rw [if_pos (by omega), dL_low l c0]
    have : okD (nb l 0, 1) = true := by unfold okD; simp; omega
    rw [this]; rfl
  rw [if_neg (by omega)]
  have bad : ∀ d : Nat × Nat, d = (65533, 1) → some ((1 : Int), false) = some ((d.2 : Int), okD d) := by rintro d rfl; rfl
  have hdl : dL l = Lib.decodeN l.length (nb l 0) (nb l 1) (nb l 2) (nb l 3) := rfl
  unfold Lib.decodeN at hdl
  rw [if_neg c0] at hdl
  by_cases c1 : nb l 0 < 192
  · rw [if_neg (by omega)]
    simp only [recensionref1_Decode.j0, Bool.false_eq_true, if_false]
    rw [if_neg (by omega)]
    simp only [recensionref1_Decode.j1, Bool.false_eq_true, if_false]
    rw [if_neg (by omega)]
    rw [if_neg (by omega), if_neg (by omega), if_neg (by omega)] at hdl
    exact bad _ hdl
  rw [if_pos (by omega)]
  by_cases c2 : nb l 0 < 224
  · rw [show decide ((nb l 0 : Int) < 224) = true by simp; omega]
    simp only [recensionref1_Decode.j0, if_true]
    rw [wrap32_small (x := (nb l 0 : Int)) (by omega) (by omega), wrap32_small (x := (nb l 0 : Int) - 192) (by omega) (by omega)]
    simp only [recensionref1_Decode.j2]
    by_cases hn : l.length < 2
    · rw [if_pos (by rw [mk_size]; omega)]
      rw [if_neg (by omega), if_neg (by omega), if_neg (by omega)] at hdl
      exact bad _ hdl
    rw [if_neg (by rw [mk_size]; omega)]
    have e := ref_step (k + 5) l 2 128 (nb l 0 - 192) 1 (by omega) (by omega) (by omega) (by omega)
    rw [show ((nb l 0 - 192 : Nat) : Int) = (nb l 0 : Int) - 192 by omega] at e
    rw [show (1 : Int) = ((1 : Nat) : Int) from rfl, e]
    by_cases d1 : 128 ≤ nb l 1 ∧ nb l 1 ≤ 191
    · rw [if_pos d1, show (((1 + 1 : Nat) : Int)) = 2 from rfl, ref_fin]
      rw [if_pos (by omega)] at hdl
      by_cases g : 128 ≤ nb l 0 % 32 * 64 + nb l 1 % 64
      · rw [if_pos g] at hdl
        rw [hdl, if_pos (by omega)]
        have : okD (nb l 0 % 32 * 64 + nb l 1 % 64, 2) = true := by unfold okD; simp
        rw [this]; rfl
      · rw [if_neg g] at hdl
        rw [if_neg (by omega)]
        exact bad _ hdl
    · rw [if_neg d1]
      rw [if_neg (by omega), if_neg (by omega), if_neg (by omega)] at hdl
      exact bad _ hdl
  rw [show decide ((nb l 0 : Int) < 224) = false by simp; omega]
  simp only [recensionref1_Decode.j0, Bool.false_eq_true, if_false]
  rw [if_pos (by omega)]
  by_cases c3 : nb l 0 < 240
  · rw [show decide ((nb l 0 : Int) < 240) = true by simp; omega]
    simp only [recensionref1_Decode.j1, if_true]
    rw [wrap32_small (x := (nb l 0 : Int)) (by omega) (by omega), wrap32_small (x := (nb l 0 : Int) - 224) (by omega) (by omega)]
    simp only [recensionref1_Decode.j2]
    by_cases hn : l.length < 3
    · rw [if_pos (by rw [mk_size]; omega)]
      rw [if_neg (by omega), if_neg (by omega), if_neg (by omega)] at hdl
      exact bad _ hdl
    rw [if_neg (by rw [mk_size]; omega)]
    have e := ref_step (k + 4) l 3 2048 (nb l 0 - 224) 1 (by omega) (by omega) (by omega) (by omega)
    rw [show ((nb l 0 - 224 : Nat) : Int) = (nb l 0 : Int) - 224 by omega] at e
    rw [show (1 : Int) = ((1 : Nat) : Int) from rfl, e]
    by_cases d1 : 128 ≤ nb l 1 ∧ nb l 1 ≤ 191
    · rw [if_pos d1, ref_step (k + 3) l 3 2048 _ 2 (by omega) (by omega) (by omega) (by omega)]
      by_cases d2 : 128 ≤ nb l 2 ∧ nb l 2 ≤ 191
      · rw [if_pos d2, show (((2 + 1 : Nat) : Int)) = 3 from rfl, ref_fin]
        rw [if_neg (by omega), if_pos (by omega)] at hdl
        split at hdl
        · rename_i g
          rw [hdl, if_pos (by omega)]
          have : okD (nb l 0 % 16 * 4096 + nb l 1 % 64 * 64 + nb l 2 % 64, 3) = true := by unfold okD; simp
          rw [this]; rfl
        · rename_i g
          rw [if_neg (by omega)]
          exact bad _ hdl
      · rw [if_neg d2]
        rw [if_neg (by omega), if_neg (by omega), if_neg (by omega)] at hdl
        exact bad _ hdl
    · rw [if_neg d1]
      rw [if_neg (by omega), if_neg (by omega), if_neg (by omega)] at hdl
      exact bad _ hdl
  rw [show decide ((nb l 0 : Int) < 240) = false by simp; omega]
  simp only [recensionref1_Decode.j1, Bool.false_eq_true, if_false]
  rw [if_pos (by omega)]
  by_cases c4 : nb l 0 < 248
  · rw [if_pos (by omega)]
    rw [wrap32_small (x := (nb l 0 : Int)) (by omega) (by omega), wrap32_small (x := (nb l 0 : Int) - 240) (by omega) (by omega)]
    simp only [recensionref1_Decode.j2]
    by_cases hn : l.length < 4
    · rw [if_pos (by rw [mk_size]; omega)]
      rw [if_neg (by omega), if_neg (by omega), if_neg (by omega)] at hdl
      exact bad _ hdl
    rw [if_neg (by rw [mk_size]; omega)]
    have e := ref_step (k + 4) l 4 65536 (nb l 0 - 240) 1 (by omega) (by omega) (by omega) (by omega)
    rw [show ((nb l 0 - 240 : Nat) : Int) = (nb l 0 : Int) - 240 by omega] at e
    rw [show (1 : Int) = ((1 : Nat) : Int) from rfl, e]
    by_cases d1 : 128 ≤ nb l 1 ∧ nb l 1 ≤ 191
    · rw [if_pos d1, ref_step (k + 3) l 4 65536 _ 2 (by omega) (by omega) (by omega) (by omega)]
      by_cases d2 : 128 ≤ nb l 2 ∧ nb l 2 ≤ 191
      · rw [if_pos d2, ref_step (k + 2) l 4 65536 _ 3 (by omega) (by omega) (by omega) (by omega)]
        by_cases d3 : 128 ≤ nb l 3 ∧ nb l 3 ≤ 191
        · rw [if_pos d3, show (((3 + 1 : Nat) : Int)) = 4 from rfl, ref_fin]
          rw [if_neg (by omega), if_neg (by omega), if_pos (by omega)] at hdl
          split at hdl
          · rename_i g
            rw [hdl, if_pos (by omega)]
            have : okD (nb l 0 % 8 * 262144 + nb l 1 % 64 * 4096 + nb l 2 % 64 * 64 + nb l 3 % 64, 4) = true := by unfold okD; simp
            rw [this]; rfl
          · rename_i g
            rw [if_neg (by omega)]
            exact bad _ hdl
        · rw [if_neg d3]
          rw [if_neg (by omega), if_neg (by omega), if_neg (by omega)] at hdl
          exact bad _ hdl
      · rw [if_neg d2]
        rw [if_neg (by omega), if_neg (by omega), if_neg (by omega)] at hdl
        exact bad _ hdl
    · rw [if_neg d1]
      rw [if_neg (by omega), if_neg (by omega), if_neg (by omega)] at hdl
      exact bad _ hdl
  · rw [if_neg (by omega)]
    rw [if_neg (by omega), if_neg (by omega), if_neg (by omega)] at hdl
    exact bad _ hdl
theorem not_bad_high (l : List UInt8) (h : ¬ nb l 0 < 128) : badD (dL l) ↔ okD (dL l) = false := by
  have h1 := dL_high l h
  unfold badD okD
  simp
  omega
theorem bad_low (l : List UInt8) (h : nb l 0 < 128) : badD (dL l) ↔ ((nb l 0 < 32 ∧ nb l 0 ≠ 9 ∧ nb l 0 ≠ 10) ∨ nb l 0 = 127) := by
  rw [dL_low l h]
  unfold badD
  simp only
  omega
theorem ref_fault (l : List UInt8) (hl : l.length ≤ 1000000) (d : Nat) : ∀ (k f pos : Nat), l.length ≤ pos + d → pos ≤ l.length → d + 14 ≤ k → d ≤ f →
    recensionref1_Fault.l0 k (mk l) (pos : Int) = some (fl f pos (l.drop pos)) := by
  induction d with
  | zero =>
    intro k f pos hd hp hk hf
    obtain ⟨k, rfl⟩ : ∃ m, k = m + 1 := ⟨k - 1, by omega⟩
    simp only [recensionref1_Fault.l0]
    rw [if_neg (by rw [mk_size]; omega), (drop_nil_iff l pos).2 (by omega)]
    cases f <;> simp [fl]
  | succ d ih =>
    intro k f pos hd hp hk hf
    obtain ⟨k, rfl⟩ : ∃ m, k = m + 1 := ⟨k - 1, by omega⟩
    obtain ⟨f, rfl⟩ : ∃ m, f = m + 1 := ⟨f - 1, by omega⟩
    by_cases hlt : pos < l.length
    · have hne : l.drop pos ≠ [] := fun e => (drop_nil_iff l pos).1 e hlt
      have hw := dL_wid _ hne
      rw [List.length_drop] at hw
      have hb := bt_nb l pos
      have hb0 : nb (l.drop pos) 0 = nb l pos := by rw [nb_drop]; rfl
      have hih := ih k f (pos + (dL (l.drop pos)).2) (by omega) (by omega) (by omega) (by omega)
      have er : (mk l).extract (pos : Int).toNat (mk l).size = mk (l.drop pos) := by rw [Int.toNat_natCast, mk_rest]
      simp only [recensionref1_Fault.l0, er, hb]
      rw [if_pos (by rw [mk_size]; omega), if_pos (by omega), if_pos (by rw [mk_size]; omega), dec_ref k _ hne (by omega), Option.bind_some]
      simp only [w_add pos (dL (l.drop pos)).2 (by omega)]
      clear er hb
      simp only [fl, if_neg hne, List.drop_drop]
      by_cases hlow : nb l pos < 128
      · have hbl := bad_low (l.drop pos) (by rw [hb0]; exact hlow)
        rw [hb0] at hbl
        have hok : okD (dL (l.drop pos)) = true := by rw [dL_low _ (by rw [hb0]; exact hlow)]; unfold okD; rw [hb0]; simp; omega
        rw [if_pos hok]
        by_cases q1 : nb l pos < 32
        · rw [if_pos (show (nb l pos : Int) < 32 by omega)]
          by_cases q2 : nb l pos = 9
          · rw [if_pos (show (nb l pos : Int) = 9 by omega), if_neg (show ¬ (nb l pos : Int) = 127 by omega), if_neg (fun e => by have := hbl.1 e; omega)]; exact hih
          · rw [if_neg (show ¬ (nb l pos : Int) = 9 by omega)]
            by_cases q3 : nb l pos = 10
            · rw [if_pos (show (nb l pos : Int) = 10 by omega), if_neg (show ¬ (nb l pos : Int) = 127 by omega), if_neg (fun e => by have := hbl.1 e; omega)]; exact hih
            · rw [if_neg (show ¬ (nb l pos : Int) = 10 by omega), if_pos (hbl.2 (by omega))]
        · rw [if_neg (show ¬ (nb l pos : Int) < 32 by omega)]
          by_cases q4 : nb l pos = 127
          · rw [if_pos (show (nb l pos : Int) = 127 by omega), if_pos (hbl.2 (by omega))]
          · rw [if_neg (show ¬ (nb l pos : Int) = 127 by omega), if_neg (fun e => by have := hbl.1 e; omega)]; exact hih
      · have hbh := not_bad_high (l.drop pos) (by rw [hb0]; exact hlow)
        by_cases hok : okD (dL (l.drop pos)) = true
        · rw [if_pos hok, if_neg (show ¬ (nb l pos : Int) < 32 by omega), if_neg (show ¬ (nb l pos : Int) = 127 by omega), if_neg (fun e => by rw [hbh.1 e] at hok; cases hok)]; exact hih
        · rw [if_neg hok, if_pos (hbh.2 (by simpa using hok))]
    · have e := ih k f pos (by omega) hp (by omega) (by omega)
      rw [(drop_nil_iff l pos).2 hlt] at e ⊢
      simp only [recensionref1_Fault.l0]
      rw [if_neg (by rw [mk_size]; omega)]
      simp [fl]
theorem ref_fault_f (k : Nat) (l : List UInt8) (hl : l.length ≤ 1000000) (hk : l.length + 14 ≤ k) : recensionref1_Fault.f k (mk l) = some (flt l) := by
  unfold recensionref1_Fault.f flt
  have := ref_fault l hl l.length k l.length 0 (by omega) (by omega) (by omega) (by omega)
  simpa using this
/-- What was read whole is read so, whatever comes behind. -/
theorem decodeN_more (n b0 b1 b2 b3 n' c1 c2 c3 : Nat) (hn : n ≤ n') (h1 : 1 < n → c1 = b1) (h2 : 2 < n → c2 = b2) (h3 : 3 < n → c3 = b3) (h : ¬ ((Lib.decodeN n b0 b1 b2 b3).1 = 65533 ∧ (Lib.decodeN n b0 b1 b2 b3).2 = 1)) :
    Lib.decodeN n' b0 c1 c2 c3 = Lib.decodeN n b0 b1 b2 b3 := by
  unfold Lib.decodeN at h ⊢
  by_cases a0 : b0 < 128
  · rw [if_pos a0, if_pos a0]
  rw [if_neg a0] at h
  rw [if_neg a0, if_neg a0]
  by_cases a1 : b0 / 32 = 6 ∧ (1 < n ∧ b1 / 64 = 2)
  · rw [if_pos a1, if_pos ⟨a1.1, by omega, by rw [h1 a1.2.1]; exact a1.2.2⟩, h1 a1.2.1]
  rw [if_neg a1] at h
  rw [if_neg a1]
  by_cases a2 : b0 / 16 = 14 ∧ (1 < n ∧ b1 / 64 = 2) ∧ (2 < n ∧ b2 / 64 = 2)
  · rw [if_neg (by omega), if_pos a2, if_pos ⟨a2.1, ⟨by omega, by rw [h1 a2.2.1.1]; exact a2.2.1.2⟩, by omega, by rw [h2 a2.2.2.1]; exact a2.2.2.2⟩, h1 a2.2.1.1, h2 a2.2.2.1]
  rw [if_neg a2] at h
  rw [if_neg a2]
  by_cases a3 : b0 / 8 = 30 ∧ (1 < n ∧ b1 / 64 = 2) ∧ (2 < n ∧ b2 / 64 = 2) ∧ (3 < n ∧ b3 / 64 = 2)
  · rw [if_neg (by omega), if_neg (by omega), if_pos a3, if_pos ⟨a3.1, ⟨by omega, by rw [h1 a3.2.1.1]; exact a3.2.1.2⟩, ⟨by omega, by rw [h2 a3.2.2.1.1]; exact a3.2.2.1.2⟩, by omega, by rw [h3 a3.2.2.2.1]; exact a3.2.2.2.2⟩, h1 a3.2.1.1, h2 a3.2.2.1.1, h3 a3.2.2.2.1]
  · rw [if_neg a3] at h
    exact absurd ⟨rfl, rfl⟩ h
theorem nb_app (a b : List UInt8) (i : Nat) (h : i < a.length) : nb (a ++ b) i = nb a i := by
  unfold nb
  simp [List.getD_eq_getElem?_getD, List.getElem?_append_left h]
theorem dL_more (a b : List UInt8) (hne : a ≠ []) (h : ¬ badD (dL a)) : dL (a ++ b) = dL a := by
  have hp := List.length_pos_iff.2 hne
  unfold dL
  rw [nb_app a b 0 hp]
  exact decodeN_more _ _ _ _ _ _ _ _ _ (by simp) (fun e => nb_app a b 1 e) (fun e => nb_app a b 2 e) (fun e => nb_app a b 3 e) (fun e => h (Or.inr e))
theorem fl_join (b : List UInt8) (d : Nat) : ∀ (k pos : Nat) (a : List UInt8), a.length ≤ d → a.length + b.length ≤ k → fl k pos a < 0 → fl k pos (a ++ b) = fl b.length (pos + a.length) b := by
  induction d with
  | zero =>
    intro k pos a ha hk _
    obtain rfl : a = [] := List.eq_nil_of_length_eq_zero (by omega)
    rw [List.nil_append, List.length_nil, Nat.add_zero]
    exact fl_fuel b.length _ _ _ _ (Nat.le_refl _) (by simpa using hk) (Nat.le_refl _)
  | succ d ih =>
    intro k pos a ha hk hf
    by_cases hne : a = []
    · subst hne
      rw [List.nil_append, List.length_nil, Nat.add_zero]
      exact fl_fuel b.length _ _ _ _ (Nat.le_refl _) (by simpa using hk) (Nat.le_refl _)
    have hp := List.length_pos_iff.2 hne
    have hw := dL_wid a hne
    obtain ⟨k, rfl⟩ : ∃ m, k = m + 1 := ⟨k - 1, by omega⟩
    simp only [fl, if_neg hne] at hf
    have hne2 : a ++ b ≠ [] := fun e => hne (List.append_eq_nil_iff.1 e).1
    simp only [fl, if_neg hne2]
    by_cases hb : badD (dL a)
    · rw [if_pos hb] at hf; omega
    rw [if_neg hb] at hf
    rw [dL_more a b hne hb, if_neg hb, List.drop_append_of_le_length hw.2]
    have := ih k (pos + (dL a).2) (a.drop (dL a).2) (by rw [List.length_drop]; omega) (by rw [List.length_drop]; omega) hf
    rw [this, List.length_drop]
    congr 1; omega
theorem fl_shift (d : Nat) : ∀ (k pos m : Nat) (l : List UInt8), l.length ≤ d → (fl k pos l < 0 → fl k (pos + m) l = -1) ∧ (0 ≤ fl k pos l → fl k (pos + m) l = fl k pos l + m) := by
  induction d with
  | zero =>
    intro k pos m l h
    obtain rfl : l = [] := List.eq_nil_of_length_eq_zero (by omega)
    cases k <;> simp [fl]
  | succ d ih =>
    intro k pos m l h
    cases k with
    | zero => simp [fl]
    | succ k =>
      simp only [fl]
      by_cases hl : l = []
      · simp [hl]
      · have hw := dL_wid l hl
        simp only [if_neg hl]
        by_cases hb : badD (dL l)
        · simp only [if_pos hb]; omega
        · simp only [if_neg hb]
          rw [show pos + m + (dL l).2 = pos + (dL l).2 + m by omega]
          exact ih k _ m _ (by rw [List.length_drop]; omega)
theorem flt_join (a b : List UInt8) (h : flt a < 0) : flt (a ++ b) = if flt b < 0 then -1 else flt b + a.length := by
  unfold flt at h ⊢
  have h2 : fl (a ++ b).length 0 a < 0 := by rw [fl_fuel a.length (a ++ b).length a.length 0 a (Nat.le_refl _) (by simp) (Nat.le_refl _)]; exact h
  rw [fl_join b a.length _ 0 a (Nat.le_refl _) (by simp) h2]
  obtain ⟨g1, g2⟩ := fl_shift b.length b.length 0 a.length b (Nat.le_refl _)
  split
  · rename_i g; exact g1 g
  · rename_i g; exact g2 (by omega)
theorem fl_lo (k : Nat) : ∀ (pos : Nat) (l : List UInt8), -1 ≤ fl k pos l := by
  induction k with
  | zero => intro pos l; simp [fl]
  | succ k ih =>
    intro pos l
    unfold fl
    split
    · omega
    · split
      · omega
      · exact ih _ _
theorem fl_hi (d : Nat) : ∀ (k pos : Nat) (l : List UInt8), l.length ≤ d → fl k pos l ≤ pos + l.length := by
  induction d with
  | zero =>
    intro k pos l h
    obtain rfl : l = [] := List.eq_nil_of_length_eq_zero (by omega)
    cases k <;> simp [fl]
    all_goals omega
  | succ d ih =>
    intro k pos l h
    cases k with
    | zero => simp [fl]; omega
    | succ k =>
      unfold fl
      by_cases hl : l = []
      · rw [if_pos hl]; omega
      · have hw := dL_wid l hl
        rw [if_neg hl]
        split
        · omega
        · have := ih k (pos + (dL l).2) (l.drop (dL l).2) (by rw [List.length_drop]; omega)
          rw [List.length_drop] at this; omega
theorem cut_f (s : ByteArray) (n : Nat) : ∃ c : List UInt8, recensionlaw3_Cut.f s (n : Int) = some (mk c) ∧ c.length ≤ n := by
  unfold recensionlaw3_Cut.f
  by_cases h : (s.size : Int) > (n : Int)
  · rw [if_pos h, if_pos (by omega), if_pos (by omega)]
    exact ⟨(s.extract 0 n).toList, by rw [mk_of, Int.toNat_natCast], by rw [list_len]; simp [ByteArray.size_extract]; omega⟩
  · rw [if_neg h]; exact ⟨s.toList, by rw [mk_of], by rw [list_len]; omega⟩
theorem begun_f : recensionlaw3_begun.f = some true := by decide +kernel
theorem dL_a (l : List UInt8) : dL (97 :: l) = (97, 1) := dL_low (97 :: l) (by show (97 : Nat) < 128; omega)
theorem flt_as (n : Nat) (t : List UInt8) : (flt (List.replicate n 97 ++ t) < 0) ↔ (flt t < 0) := by
  have h : ∀ n : Nat, flt (List.replicate n 97) < 0 := by
    intro n
    unfold flt
    have : ∀ (n k pos : Nat), fl k pos (List.replicate n 97) = -1 := by
      intro n
      induction n with
      | zero => intro k pos; cases k <;> simp [fl]
      | succ n ih =>
        intro k pos
        cases k with
        | zero => rfl
        | succ k =>
          rw [List.replicate_succ]
          simp only [fl]
          rw [if_neg (by simp), dL_a, if_neg (by decide)]
          exact ih k _
    rw [this]; omega
  rw [flt_join _ _ (h n)]
  split
  · rename_i g; exact ⟨fun _ => g, fun _ => by omega⟩
  · rename_i g; exact ⟨fun e => by omega, fun e => absurd e g⟩
theorem set_as (n i : Nat) (hi : i < n) (l : List Int) (hl : l = List.replicate i 97 ++ List.replicate (n - i) 0) : l.set i 97 = List.replicate (i + 1) 97 ++ List.replicate (n - (i + 1)) 0 := by
  subst hl
  rw [List.set_append_right _ _ (by simp)]
  rw [List.length_replicate, Nat.sub_self]
  obtain ⟨m, hm⟩ : ∃ m, n - i = m + 1 := ⟨n - i - 1, by omega⟩
  rw [hm, List.replicate_succ, List.set_cons_zero, show n - (i + 1) = m by omega, List.replicate_succ', List.append_assoc]
  rfl
theorem nums_as (n : Nat) : strOfNums (List.replicate n 97) = mk (List.replicate n 97) := by
  apply data_ext
  unfold strOfNums mk
  simp
theorem long_l0 (t : List UInt8) (ht : t.length ≤ 10) (n : Nat) (hn : n ≤ 2100) (d : Nat) : ∀ (k i : Nat), i + d = n → d + 40 ≤ k →
    recensionlaw3_UtfLong.l0 k (mk t) (List.replicate i 97 ++ List.replicate (n - i) 0) (n : Int) (i : Int) = some true := by
  induction d with
  | zero =>
    intro k i hd hk
    obtain ⟨k, rfl⟩ : ∃ m, k = m + 1 := ⟨k - 1, by omega⟩
    obtain rfl : i = n := by omega
    simp only [recensionlaw3_UtfLong.l0]
    rw [if_neg (by omega), Nat.sub_self, List.replicate_zero, List.append_nil, nums_as, mk_app, mk_size, mk_size, mk_size, List.length_append, List.length_replicate, if_pos (by omega)]
    have hf := flt_as i t
    have ht : utf_Text.f (mk (List.replicate i 97 ++ t)) = some (decide (i + t.length ≤ 2000) && decide (flt t < 0)) := by
      unfold utf_Text.f
      rw [mk_size, List.length_append, List.length_replicate]
      by_cases h : i + t.length ≤ 2000
      · rw [if_pos (by omega), fault_f, Option.bind_some]
        simp [h, hf]
      · rw [if_neg (by omega)]
        simp [h]
    rw [ht, Option.bind_some]
    by_cases h : i + t.length ≤ 2000
    · rw [if_pos (by omega), ref_fault_f k t (by omega) (by omega), Option.bind_some]
      simp [h]
    · rw [if_neg (by omega)]
      simp [h]
  | succ d ih =>
    intro k i hd hk
    obtain ⟨k, rfl⟩ : ∃ m, k = m + 1 := ⟨k - 1, by omega⟩
    simp only [recensionlaw3_UtfLong.l0]
    rw [if_pos (by omega), if_pos (by omega), if_pos (by simp; omega), Int.toNat_natCast, set_as n i (by omega) _ rfl, w_succ i (by omega)]
    exact ih k (i + 1) (by omega) (by omega)
theorem UtfLong : recensionlaw3_UtfLong.Pure := by
  intro n b hn hb
  obtain ⟨k, hk⟩ : ∃ k, k = 5000 := ⟨_, rfl⟩
  refine ⟨k + 1, ?_⟩
  obtain ⟨t, ht, htl⟩ := cut_f b 10
  unfold recensionlaw3_UtfLong.f
  rw [begun_f, Option.bind_some, if_pos rfl, show recensionlaw3_Cut.f b 10 = some (mk t) from ht, Option.bind_some]
  by_cases h1 : n < 0
  · rw [if_pos h1]; simp [recensionlaw3_UtfLong.j0]
  rw [if_neg h1]
  by_cases h2 : n > 2100
  · rw [show decide (n > 2100) = true by simpa using h2]; simp [recensionlaw3_UtfLong.j0]
  rw [show decide (n > 2100) = false by simpa using h2]
  obtain ⟨m, rfl⟩ : ∃ m : Nat, n = m := ⟨n.toNat, by omega⟩
  have := long_l0 t htl m (by omega) m k 0 (by omega) (by omega)
  simp only [recensionlaw3_UtfLong.j0, Bool.false_eq_true, if_false]
  rw [if_pos (by omega), if_pos (by omega), Option.bind_some, List.length_replicate, Int.toNat_natCast]
  simpa using this

end Go.Proofs.YtonbofpegmbnlaaDoor.Pure
