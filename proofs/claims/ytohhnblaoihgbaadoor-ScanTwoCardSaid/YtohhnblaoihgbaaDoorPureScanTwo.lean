/- Two texts with anything, a newline or a blank between are scanned as the document says. Condition: none beside the statement's own. -/
import Derived.Test.YtohhnblaoihgbaaDoorPScanx17
namespace Go.Proofs.YtohhnblaoihgbaaDoor.Pure
open Go.RowKit Go.Proofs.YtohhnblaoihgbaaDoor.PScan Go.Proofs.YtohhnblaoihgbaaDoorW.PrintWords Go.Proofs.YtohhnblaoihgbaaDoorW.PrintLast Go.Proofs.YtohhnblaoihgbaaDoorW.PrintMore
theorem wrap_small {x : Int} (h0 : -9223372036854775808 ≤ x) (h1 : x ≤ 9223372036854775807) : wrap64 x = x := by
  unfold wrap64
  omega
theorem wrap32_small {x : Int} (h0 : -2147483648 ≤ x) (h1 : x ≤ 2147483647) : wrap32 x = x := by
  unfold wrap32
  omega
theorem w_cast (i : Int) (h0 : -3000000 ≤ i) (h : i ≤ 3000000) : wrap64 i = i := wrap_small (by omega) (by omega)
theorem w_succ (i : Nat) (h : i ≤ 2000000) : wrap64 ((i : Int) + 1) = ((i + 1 : Nat) : Int) := by rw [wrap_small (by omega) (by omega)]; omega
theorem w_add (a b : Nat) (h : a + b ≤ 3000000) : wrap64 ((a : Int) + (b : Int)) = ((a + b : Nat) : Int) := by rw [w_cast _ (by omega) (by omega)]; omega
def mk (l : List UInt8) : ByteArray := ⟨l.toArray⟩
theorem list_data (s : ByteArray) : s.toList = s.data.toList := ByteArray.toList_eq s
theorem list_len (s : ByteArray) : s.toList.length = s.size := by rw [ByteArray.toList_eq]; simp
theorem mk_list (l : List UInt8) : (mk l).toList = l := by rw [list_data]; rfl
theorem mk_data (l : List UInt8) : (mk l).data.toList = l := rfl
theorem mk_size (l : List UInt8) : (mk l).size = l.length := by show (l.toArray).size = _; simp
theorem mk_of (s : ByteArray) : mk s.toList = s := by rw [list_data]; unfold mk; simp
theorem data_ext (a b : ByteArray) (h : a.data.toList = b.data.toList) : a = b := by
  apply ByteArray.ext
  exact Array.toList_inj.1 h
theorem mk_extract (l : List UInt8) (a b : Nat) : (mk l).extract a b = mk ((l.take b).drop a) := by
  apply data_ext
  rw [Lib.extract_data, mk_data, mk_data, List.drop_take]
theorem mk_rest (l : List UInt8) (a : Nat) : (mk l).extract a (mk l).size = mk (l.drop a) := by
  rw [mk_extract, mk_size, List.take_length]
theorem mk_app (a b : List UInt8) : mk a ++ mk b = mk (a ++ b) := by
  apply ByteArray.ext
  unfold mk
  simp
/-- A list's byte, nought behind its end. -/
def nb (l : List UInt8) (i : Nat) : Nat := (l.getD i 0).toNat
theorem nb_lt (l : List UInt8) (i : Nat) : nb l i < 256 := UInt8.toNat_lt _
theorem get_nb (l : List UInt8) (i : Nat) : ((mk l).get! i).toNat = nb l i := by
  unfold nb mk
  congr 1
  show (l.toArray)[i]! = l.getD i 0
  simp [List.getD_eq_getElem?_getD, getElem!_def]
  cases h : l[i]? <;> rfl
theorem bt_nb (l : List UInt8) (i : Nat) : bt (mk l) (i : Int) = (nb l i : Int) := by
  unfold bt nb
  by_cases h : i < l.length
  · rw [dif_pos (by rw [mk_size]; simpa using h)]
    congr 1
    simp only [Int.toNat_natCast, List.getD_eq_getElem?_getD, List.getElem?_eq_getElem h, Option.getD_some]
    rfl
  · rw [dif_neg (by rw [mk_size]; simpa using h)]
    simp only [List.getD_eq_getElem?_getD, List.getElem?_eq_none (by omega : l.length ≤ i), Option.getD_none]
    rfl
theorem nb_drop (l : List UInt8) (p i : Nat) : nb (l.drop p) i = nb l (p + i) := by
  unfold nb
  simp [List.getD_eq_getElem?_getD]
/-- The first rune of some bytes, and its width. -/
def dL (l : List UInt8) : Nat × Nat := Lib.decodeN l.length (nb l 0) (nb l 1) (nb l 2) (nb l 3)
theorem decode_dL (l : List UInt8) (p : Nat) : Utf8.decode (mk l) p = dL (l.drop p) := by
  rw [Lib.decode_at]
  unfold dL
  rw [mk_size, List.length_drop, nb_drop, nb_drop, nb_drop, nb_drop, get_nb, get_nb, get_nb, get_nb]
  rfl
def okD (d : Nat × Nat) : Bool := !(d.1 == 65533 && d.2 == 1)
/-- Is what was read at fault? -/
def badD (d : Nat × Nat) : Prop := ((d.1 < 32 ∧ d.1 ≠ 9 ∧ d.1 ≠ 10) ∨ d.1 = 127) ∨ (d.1 = 65533 ∧ d.2 = 1)
instance (d : Nat × Nat) : Decidable (badD d) := by unfold badD; exact inferInstance
theorem dL_low (l : List UInt8) (h : nb l 0 < 128) : dL l = (nb l 0, 1) := by unfold dL Lib.decodeN; rw [if_pos h]
theorem dL_high (l : List UInt8) (h : ¬ nb l 0 < 128) : 128 ≤ (dL l).1 := by
  unfold dL Lib.decodeN
  rw [if_neg h]
  have h0 := nb_lt l 0
  have h1 := nb_lt l 1
  have h2 := nb_lt l 2
  have h3 := nb_lt l 3
  repeat' split
  all_goals (first | omega | (simp only []; omega))
theorem dL_wid (l : List UInt8) (h : l ≠ []) : 1 ≤ (dL l).2 ∧ (dL l).2 ≤ l.length := by
  have hl : 0 < l.length := List.length_pos_iff.2 h
  unfold dL Lib.decodeN
  repeat' split
  all_goals (first | omega | (simp only []; omega))
/-- The first fault from a place on, of the rest of the bytes. -/
def fl : Nat → Nat → List UInt8 → Int
  | 0, _, _ => -1
  | k + 1, pos, l => if l = [] then -1 else if badD (dL l) then (pos : Int) else fl k (pos + (dL l).2) (l.drop (dL l).2)
def rl : Nat → List UInt8 → Int
  | 0, _ => 0
  | k + 1, l => if l = [] then 0 else rl k (l.drop (dL l).2) + 1
theorem drop_nil_iff (l : List UInt8) (pos : Nat) : (l.drop pos = []) ↔ ¬ pos < l.length := by
  rw [List.drop_eq_nil_iff]; omega
theorem faults_fl (l : List UInt8) (k : Nat) : ∀ pos, faults (mk l) k pos = fl k pos (l.drop pos) := by
  induction k with
  | zero => intro pos; rfl
  | succ k ih =>
    intro pos
    unfold faults fl
    rw [mk_size]
    by_cases h : pos < l.length
    · rw [if_pos h, if_neg (fun e => (drop_nil_iff l pos).1 e h), decode_dL]
      have e : (Lib.decodeGo ((mk l).extract pos l.length)).2 = (dL (l.drop pos)).2 := by
        have := mk_rest l pos
        rw [mk_size] at this
        rw [this]
        unfold Lib.decodeGo
        rw [if_neg (by rw [mk_size, List.length_drop]; omega), decode_dL, List.drop_zero]
      rw [e, ih, List.drop_drop]
      by_cases h1 : ((dL (l.drop pos)).1 < 32 ∧ (dL (l.drop pos)).1 ≠ 9 ∧ (dL (l.drop pos)).1 ≠ 10) ∨ (dL (l.drop pos)).1 = 127
      · rw [if_pos h1, if_pos (show badD _ from Or.inl h1)]
      · rw [if_neg h1]
        by_cases h2 : (dL (l.drop pos)).1 = 65533 ∧ (dL (l.drop pos)).2 = 1
        · rw [if_pos h2, if_pos (show badD _ from Or.inr h2)]
        · rw [if_neg h2, if_neg (show ¬ badD _ from fun e => Or.elim e h1 h2)]
    · rw [if_neg h, if_pos ((drop_nil_iff l pos).2 h)]
theorem runes_rl (l : List UInt8) (k : Nat) : ∀ pos, runes (mk l) k pos = rl k (l.drop pos) := by
  induction k with
  | zero => intro pos; rfl
  | succ k ih =>
    intro pos
    unfold runes rl
    rw [mk_size]
    by_cases h : pos < l.length
    · rw [if_pos h, if_neg (fun e => (drop_nil_iff l pos).1 e h), decode_dL, ih, List.drop_drop]
    · rw [if_neg h, if_pos ((drop_nil_iff l pos).2 h)]
theorem fl_fuel (d : Nat) : ∀ (k k' pos : Nat) (l : List UInt8), l.length ≤ d → l.length ≤ k → l.length ≤ k' → fl k pos l = fl k' pos l := by
  induction d with
  | zero =>
    intro k k' pos l h _ _
    obtain rfl : l = [] := List.eq_nil_of_length_eq_zero (by omega)
    cases k <;> cases k' <;> simp [fl]
  | succ d ih =>
    intro k k' pos l h h1 h2
    by_cases hl : l = []
    · subst hl; cases k <;> cases k' <;> simp [fl]
    · have hp := List.length_pos_iff.2 hl
      obtain ⟨k, rfl⟩ : ∃ m, k = m + 1 := ⟨k - 1, by omega⟩
      obtain ⟨k', rfl⟩ : ∃ m, k' = m + 1 := ⟨k' - 1, by omega⟩
      have hw := dL_wid l hl
      simp only [fl, if_neg hl]
      split
      · rfl
      · exact ih k k' _ _ (by rw [List.length_drop]; omega) (by rw [List.length_drop]; omega) (by rw [List.length_drop]; omega)
theorem rl_fuel (d : Nat) : ∀ (k k' : Nat) (l : List UInt8), l.length ≤ d → l.length ≤ k → l.length ≤ k' → rl k l = rl k' l := by
  induction d with
  | zero =>
    intro k k' l h _ _
    obtain rfl : l = [] := List.eq_nil_of_length_eq_zero (by omega)
    cases k <;> cases k' <;> simp [rl]
  | succ d ih =>
    intro k k' l h h1 h2
    by_cases hl : l = []
    · subst hl; cases k <;> cases k' <;> simp [rl]
    · have hp := List.length_pos_iff.2 hl
      obtain ⟨k, rfl⟩ : ∃ m, k = m + 1 := ⟨k - 1, by omega⟩
      obtain ⟨k', rfl⟩ : ∃ m, k' = m + 1 := ⟨k' - 1, by omega⟩
      have hw := dL_wid l hl
      simp only [rl, if_neg hl]
      rw [ih k k' _ (by rw [List.length_drop]; omega) (by rw [List.length_drop]; omega) (by rw [List.length_drop]; omega)]
/-- The first fault of some bytes; how many runes they are. -/
def flt (l : List UInt8) : Int := fl l.length 0 l
def cnt (l : List UInt8) : Int := rl l.length l
theorem fault_f (l : List UInt8) : utf_Fault.f (mk l) = some (flt l) := by
  unfold utf_Fault.f flt
  rw [faults_fl, mk_size, List.drop_zero]
theorem ref_step (k : Nat) (l : List UInt8) (n low : Int) (r i : Nat) (hi : (i : Int) < n) (hn : n ≤ l.length) (hr : r ≤ 2000000) (hil : i ≤ 10) :
    recensionref1_Decode.l0 (k + 1) (mk l) n low (r : Int) (i : Int) = if 128 ≤ nb l i ∧ nb l i ≤ 191 then recensionref1_Decode.l0 k (mk l) n low ((r * 64 + nb l i - 128 : Nat) : Int) ((i + 1 : Nat) : Int) else some (1, false) := by
  have hb := nb_lt l i
  simp only [recensionref1_Decode.l0]
  rw [if_pos hi, if_pos (by omega), if_pos (by rw [mk_size]; omega), bt_nb]
  by_cases h : 128 ≤ nb l i ∧ nb l i ≤ 191
  · rw [if_neg (by omega), if_neg (by omega), if_pos h, w_succ i (by omega)]
    congr 1
    rw [wrap32_small (x := (r : Int) * 64) (by omega) (by omega), wrap32_small (x := (nb l i : Int)) (by omega) (by omega), wrap32_small (x := (r : Int) * 64 + (nb l i : Int)) (by omega) (by omega), wrap32_small (by omega) (by omega)]
    omega
  · rw [if_neg h]
    by_cases h1 : (nb l i : Int) < 128
    · rw [if_pos h1]
    · rw [if_neg h1, if_pos (by omega)]
theorem ref_fin (k : Nat) (l : List UInt8) (n low : Int) (r : Nat) :
    recensionref1_Decode.l0 (k + 1) (mk l) n low (r : Int) n = some (if low ≤ (r : Int) ∧ r ≤ 1114111 ∧ ¬ (55296 ≤ r ∧ r < 57344) then (n, true) else (1, false)) := by
  simp only [recensionref1_Decode.l0]
  rw [if_neg (by omega)]
  by_cases h1 : (r : Int) < low
  · rw [if_pos h1, if_neg (by omega)]
  rw [if_neg h1]
  by_cases h2 : (r : Int) > 1114111
  · rw [if_pos h2, if_neg (by omega)]
  rw [if_neg h2]
  by_cases h3 : (r : Int) ≥ 55296
  · rw [if_pos h3]
    by_cases h4 : (r : Int) < 57344
    · rw [if_pos h4, if_neg (by omega)]
    · rw [if_neg h4, if_pos (by omega)]
  · rw [if_neg h3, if_pos (by omega)]
theorem dec_ref (k : Nat) (l : List UInt8) (hl : l ≠ []) (hk : 12 ≤ k) : recensionref1_Decode.f k (mk l) = some (((dL l).2 : Int), okD (dL l)) := by
  have hp := List.length_pos_iff.2 hl
  have h0 := nb_lt l 0
  have h1 := nb_lt l 1
  have h2 := nb_lt l 2
  have h3 := nb_lt l 3
  obtain ⟨k, rfl⟩ : ∃ m, k = m + 8 := ⟨k - 8, by omega⟩
  have b0 : bt (mk l) 0 = (nb l 0 : Int) := bt_nb l 0
  unfold recensionref1_Decode.f
  rw [if_pos (by rw [mk_size]; omega), b0]
  by_cases c0 : nb l 0 < 128
  · rw [if_pos (by omega), dL_low l c0]
    have : okD (nb l 0, 1) = true := by unfold okD; simp; omega
    rw [this]; rfl
  rw [if_neg (by omega)]
  have bad : ∀ d : Nat × Nat, d = (65533, 1) → some ((1 : Int), false) = some ((d.2 : Int), okD d) := by rintro d rfl; rfl
  have hdl : dL l = Lib.decodeN l.length (nb l 0) (nb l 1) (nb l 2) (nb l 3) := rfl
  unfold Lib.decodeN at hdl
  rw [if_neg c0] at hdl
  by_cases c1 : nb l 0 < 192
  · rw [if_neg (by omega)]
    simp only [recensionref1_Decode.j0, Bool.false_eq_true, if_false]
    rw [if_neg (by omega)]
    simp only [recensionref1_Decode.j1, Bool.false_eq_true, if_false]
    rw [if_neg (by omega)]
    rw [if_neg (by omega), if_neg (by omega), if_neg (by omega)] at hdl
    exact bad _ hdl
  rw [if_pos (by omega)]
  by_cases c2 : nb l 0 < 224
  · rw [show decide ((nb l 0 : Int) < 224) = true by simp; omega]
    simp only [recensionref1_Decode.j0, if_true]
    rw [wrap32_small (x := (nb l 0 : Int)) (by omega) (by omega), wrap32_small (x := (nb l 0 : Int) - 192) (by omega) (by omega)]
    simp only [recensionref1_Decode.j2]
    by_cases hn : l.length < 2
    · rw [if_pos (by rw [mk_size]; omega)]
      rw [if_neg (by omega), if_neg (by omega), if_neg (by omega)] at hdl
      exact bad _ hdl
    rw [if_neg (by rw [mk_size]; omega)]
    have e := ref_step (k + 5) l 2 128 (nb l 0 - 192) 1 (by omega) (by omega) (by omega) (by omega)
    rw [show ((nb l 0 - 192 : Nat) : Int) = (nb l 0 : Int) - 192 by omega] at e
    rw [show (1 : Int) = ((1 : Nat) : Int) from rfl, e]
    by_cases d1 : 128 ≤ nb l 1 ∧ nb l 1 ≤ 191
    · rw [if_pos d1, show (((1 + 1 : Nat) : Int)) = 2 from rfl, ref_fin]
      rw [if_pos (by omega)] at hdl
      by_cases g : 128 ≤ nb l 0 % 32 * 64 + nb l 1 % 64
      · rw [if_pos g] at hdl
        rw [hdl, if_pos (by omega)]
        have : okD (nb l 0 % 32 * 64 + nb l 1 % 64, 2) = true := by unfold okD; simp
        rw [this]; rfl
      · rw [if_neg g] at hdl
        rw [if_neg (by omega)]
        exact bad _ hdl
    · rw [if_neg d1]
      rw [if_neg (by omega), if_neg (by omega), if_neg (by omega)] at hdl
      exact bad _ hdl
  rw [show decide ((nb l 0 : Int) < 224) = false by simp; omega]
  simp only [recensionref1_Decode.j0, Bool.false_eq_true, if_false]
  rw [if_pos (by omega)]
  by_cases c3 : nb l 0 < 240
  · rw [show decide ((nb l 0 : Int) < 240) = true by simp; omega]
    simp only [recensionref1_Decode.j1, if_true]
    rw [wrap32_small (x := (nb l 0 : Int)) (by omega) (by omega), wrap32_small (x := (nb l 0 : Int) - 224) (by omega) (by omega)]
    simp only [recensionref1_Decode.j2]
    by_cases hn : l.length < 3
    · rw [if_pos (by rw [mk_size]; omega)]
      rw [if_neg (by omega), if_neg (by omega), if_neg (by omega)] at hdl
      exact bad _ hdl
    rw [if_neg (by rw [mk_size]; omega)]
    have e := ref_step (k + 4) l 3 2048 (nb l 0 - 224) 1 (by omega) (by omega) (by omega) (by omega)
    rw [show ((nb l 0 - 224 : Nat) : Int) = (nb l 0 : Int) - 224 by omega] at e
    rw [show (1 : Int) = ((1 : Nat) : Int) from rfl, e]
    by_cases d1 : 128 ≤ nb l 1 ∧ nb l 1 ≤ 191
    · rw [if_pos d1, ref_step (k + 3) l 3 2048 _ 2 (by omega) (by omega) (by omega) (by omega)]
      by_cases d2 : 128 ≤ nb l 2 ∧ nb l 2 ≤ 191
      · rw [if_pos d2, show (((2 + 1 : Nat) : Int)) = 3 from rfl, ref_fin]
        rw [if_neg (by omega), if_pos (by omega)] at hdl
        split at hdl
        · rename_i g
          rw [hdl, if_pos (by omega)]
          have : okD (nb l 0 % 16 * 4096 + nb l 1 % 64 * 64 + nb l 2 % 64, 3) = true := by unfold okD; simp
          rw [this]; rfl
        · rename_i g
          rw [if_neg (by omega)]
          exact bad _ hdl
      · rw [if_neg d2]
        rw [if_neg (by omega), if_neg (by omega), if_neg (by omega)] at hdl
        exact bad _ hdl
    · rw [if_neg d1]
      rw [if_neg (by omega), if_neg (by omega), if_neg (by omega)] at hdl
      exact bad _ hdl
  rw [show decide ((nb l 0 : Int) < 240) = false by simp; omega]
  simp only [recensionref1_Decode.j1, Bool.false_eq_true, if_false]
  rw [if_pos (by omega)]
  by_cases c4 : nb l 0 < 248
  · rw [if_pos (by omega)]
    rw [wrap32_small (x := (nb l 0 : Int)) (by omega) (by omega), wrap32_small (x := (nb l 0 : Int) - 240) (by omega) (by omega)]
    simp only [recensionref1_Decode.j2]
    by_cases hn : l.length < 4
    · rw [if_pos (by rw [mk_size]; omega)]
      rw [if_neg (by omega), if_neg (by omega), if_neg (by omega)] at hdl
      exact bad _ hdl
    rw [if_neg (by rw [mk_size]; omega)]
    have e := ref_step (k + 4) l 4 65536 (nb l 0 - 240) 1 (by omega) (by omega) (by omega) (by omega)
    rw [show ((nb l 0 - 240 : Nat) : Int) = (nb l 0 : Int) - 240 by omega] at e
    rw [show (1 : Int) = ((1 : Nat) : Int) from rfl, e]
    by_cases d1 : 128 ≤ nb l 1 ∧ nb l 1 ≤ 191
    · rw [if_pos d1, ref_step (k + 3) l 4 65536 _ 2 (by omega) (by omega) (by omega) (by omega)]
      by_cases d2 : 128 ≤ nb l 2 ∧ nb l 2 ≤ 191
      · rw [if_pos d2, ref_step (k + 2) l 4 65536 _ 3 (by omega) (by omega) (by omega) (by omega)]
        by_cases d3 : 128 ≤ nb l 3 ∧ nb l 3 ≤ 191
        · rw [if_pos d3, show (((3 + 1 : Nat) : Int)) = 4 from rfl, ref_fin]
          rw [if_neg (by omega), if_neg (by omega), if_pos (by omega)] at hdl
          split at hdl
          · rename_i g
            rw [hdl, if_pos (by omega)]
            have : okD (nb l 0 % 8 * 262144 + nb l 1 % 64 * 4096 + nb l 2 % 64 * 64 + nb l 3 % 64, 4) = true := by unfold okD; simp
            rw [this]; rfl
          · rename_i g
            rw [if_neg (by omega)]
            exact bad _ hdl
        · rw [if_neg d3]
          rw [if_neg (by omega), if_neg (by omega), if_neg (by omega)] at hdl
          exact bad _ hdl
      · rw [if_neg d2]
        rw [if_neg (by omega), if_neg (by omega), if_neg (by omega)] at hdl
        exact bad _ hdl
    · rw [if_neg d1]
      rw [if_neg (by omega), if_neg (by omega), if_neg (by omega)] at hdl
      exact bad _ hdl
  · rw [if_neg (by omega)]
    rw [if_neg (by omega), if_neg (by omega), if_neg (by omega)] at hdl
    exact bad _ hdl
theorem not_bad_high (l : List UInt8) (h : ¬ nb l 0 < 128) : badD (dL l) ↔ okD (dL l) = false := by
  have h1 := dL_high l h
  unfold badD okD
  simp
  omega
theorem bad_low (l : List UInt8) (h : nb l 0 < 128) : badD (dL l) ↔ ((nb l 0 < 32 ∧ nb l 0 ≠ 9 ∧ nb l 0 ≠ 10) ∨ nb l 0 = 127) := by
  rw [dL_low l h]
  unfold badD
  simp only
  omega
theorem ref_fault (l : List UInt8) (hl : l.length ≤ 1000000) (d : Nat) : ∀ (k f pos : Nat), l.length ≤ pos + d → pos ≤ l.length → d + 14 ≤ k → d ≤ f →
    recensionref1_Fault.l0 k (mk l) (pos : Int) = some (fl f pos (l.drop pos)) := by
  induction d with
  | zero =>
    intro k f pos hd hp hk hf
    obtain ⟨k, rfl⟩ : ∃ m, k = m + 1 := ⟨k - 1, by omega⟩
    simp only [recensionref1_Fault.l0]
    rw [if_neg (by rw [mk_size]; omega), (drop_nil_iff l pos).2 (by omega)]
    cases f <;> simp [fl]
  | succ d ih =>
    intro k f pos hd hp hk hf
    obtain ⟨k, rfl⟩ : ∃ m, k = m + 1 := ⟨k - 1, by omega⟩
    obtain ⟨f, rfl⟩ : ∃ m, f = m + 1 := ⟨f - 1, by omega⟩
    by_cases hlt : pos < l.length
    · have hne : l.drop pos ≠ [] := fun e => (drop_nil_iff l pos).1 e hlt
      have hw := dL_wid _ hne
      rw [List.length_drop] at hw
      have hb := bt_nb l pos
      have hb0 : nb (l.drop pos) 0 = nb l pos := by rw [nb_drop]; rfl
      have hih := ih k f (pos + (dL (l.drop pos)).2) (by omega) (by omega) (by omega) (by omega)
      have er : (mk l).extract (pos : Int).toNat (mk l).size = mk (l.drop pos) := by rw [Int.toNat_natCast, mk_rest]
      simp only [recensionref1_Fault.l0, er, hb]
      rw [if_pos (by rw [mk_size]; omega), if_pos (by omega), if_pos (by rw [mk_size]; omega), dec_ref k _ hne (by omega), Option.bind_some]
      simp only [w_add pos (dL (l.drop pos)).2 (by omega)]
      clear er hb
      simp only [fl, if_neg hne, List.drop_drop]
      by_cases hlow : nb l pos < 128
      · have hbl := bad_low (l.drop pos) (by rw [hb0]; exact hlow)
        rw [hb0] at hbl
        have hok : okD (dL (l.drop pos)) = true := by rw [dL_low _ (by rw [hb0]; exact hlow)]; unfold okD; rw [hb0]; simp; omega
        rw [if_pos hok]
        by_cases q1 : nb l pos < 32
        · rw [if_pos (show (nb l pos : Int) < 32 by omega)]
          by_cases q2 : nb l pos = 9
          · rw [if_pos (show (nb l pos : Int) = 9 by omega), if_neg (show ¬ (nb l pos : Int) = 127 by omega), if_neg (fun e => by have := hbl.1 e; omega)]; exact hih
          · rw [if_neg (show ¬ (nb l pos : Int) = 9 by omega)]
            by_cases q3 : nb l pos = 10
            · rw [if_pos (show (nb l pos : Int) = 10 by omega), if_neg (show ¬ (nb l pos : Int) = 127 by omega), if_neg (fun e => by have := hbl.1 e; omega)]; exact hih
            · rw [if_neg (show ¬ (nb l pos : Int) = 10 by omega), if_pos (hbl.2 (by omega))]
        · rw [if_neg (show ¬ (nb l pos : Int) < 32 by omega)]
          by_cases q4 : nb l pos = 127
          · rw [if_pos (show (nb l pos : Int) = 127 by omega), if_pos (hbl.2 (by omega))]
          · rw [if_neg (show ¬ (nb l pos : Int) = 127 by omega), if_neg (fun e => by have := hbl.1 e; omega)]; exact hih
      · have hbh := not_bad_high (l.drop pos) (by rw [hb0]; exact hlow)
        by_cases hok : okD (dL (l.drop pos)) = true
        · rw [if_pos hok, if_neg (show ¬ (nb l pos : Int) < 32 by omega), if_neg (show ¬ (nb l pos : Int) = 127 by omega), if_neg (fun e => by rw [hbh.1 e] at hok; cases hok)]; exact hih
        · rw [if_neg hok, if_pos (hbh.2 (by simpa using hok))]
    · have e := ih k f pos (by omega) hp (by omega) (by omega)
      rw [(drop_nil_iff l pos).2 hlt] at e ⊢
      simp only [recensionref1_Fault.l0]
      rw [if_neg (by rw [mk_size]; omega)]
      simp [fl]
theorem ref_fault_f (k : Nat) (l : List UInt8) (hl : l.length ≤ 1000000) (hk : l.length + 14 ≤ k) : recensionref1_Fault.f k (mk l) = some (flt l) := by
  unfold recensionref1_Fault.f flt
  have := ref_fault l hl l.length k l.length 0 (by omega) (by omega) (by omega) (by omega)
  simpa using this
theorem fl_ge (k : Nat) : ∀ (pos : Nat) (l : List UInt8), -1 ≤ fl k pos l := by
  induction k with
  | zero => intro pos l; exact Int.le_refl _
  | succ k ih =>
    intro pos l
    simp only [fl]
    split
    · omega
    · split
      · omega
      · exact ih _ _
theorem flt_ge (l : List UInt8) : -1 ≤ flt l := fl_ge _ _ _
/-! ### bytes as lists -/
def pb (p : Int → Bool) (b : UInt8) : Bool := p (b.toNat : Int)
theorem bt_mk (L : List UInt8) (i : Nat) (h : i < L.length) : bt (mk L) (i : Int) = ((L[i]).toNat : Int) := by
  rw [bt_nb]; unfold nb
  rw [List.getD_eq_getElem?_getD, List.getElem?_eq_getElem h, Option.getD_some]
theorem take_tw (q : UInt8 → Bool) (M : List UInt8) : M.take (M.takeWhile q).length = M.takeWhile q := by
  induction M with
  | nil => rfl
  | cons b M ih =>
    rw [List.takeWhile_cons]
    split
    · rw [List.length_cons, List.take_succ_cons, ih]
    · rfl
theorem tw_le (q : UInt8 → Bool) (M : List UInt8) : (M.takeWhile q).length ≤ M.length := by
  induction M with
  | nil => exact Nat.le_refl _
  | cons b M ih =>
    rw [List.takeWhile_cons]
    split <;> simp only [List.length_cons, List.length_nil] <;> omega
theorem tw_stop (q : UInt8 → Bool) (M : List UInt8) (h : (M.takeWhile q).length < M.length) : q (M[(M.takeWhile q).length]) = false := by
  induction M with
  | nil => exact absurd h (by simp)
  | cons b M ih =>
    by_cases hb : q b = true
    · have e : (b :: M).takeWhile q = b :: M.takeWhile q := by rw [List.takeWhile_cons, if_pos hb]
      rw [e, List.length_cons] at h
      simp only [e, List.length_cons, List.getElem_cons_succ]
      exact ih (by simpa using h)
    · have e : (b :: M).takeWhile q = [] := by rw [List.takeWhile_cons, if_neg hb]
      simp only [e, List.length_nil, List.getElem_cons_zero]
      simpa using hb
theorem runP_tw (p : Int → Bool) (L : List UInt8) (n : Nat) : ∀ i : Nat, i ≤ L.length → L.length ≤ i + n → runP p (mk L) n (i : Int) = ((i + ((L.drop i).takeWhile (pb p)).length : Nat) : Int) := by
  induction n with
  | zero =>
    intro i h1 h2
    rw [runP, List.drop_of_length_le (by omega)]; rfl
  | succ n ih =>
    intro i h1 h2
    by_cases hi : i < L.length
    · rw [List.drop_eq_getElem_cons hi, List.takeWhile_cons]
      by_cases hp : pb p L[i] = true
      · have hp' : p (bt (mk L) (i : Int)) = true := by rw [bt_mk L i hi]; exact hp
        rw [runP, if_pos ⟨by rw [mk_size]; omega, hp'⟩, if_pos hp, show ((i : Int) + 1) = ((i + 1 : Nat) : Int) by omega, ih (i + 1) (by omega) (by omega), List.length_cons]
        omega
      · have hp' : p (bt (mk L) (i : Int)) = false := by rw [bt_mk L i hi]; simpa [pb] using hp
        rw [runP_no p _ _ _ hp', if_neg hp]; rfl
    · rw [runP_end p _ _ _ (by rw [mk_size]; omega), List.drop_of_length_le (by omega)]; rfl
theorem index_tw (M : List UInt8) (c : UInt8) : Lib.indexByte M c = if (M.takeWhile (fun b => b != c)).length < M.length then ((M.takeWhile (fun b => b != c)).length : Int) else -1 := by
  induction M with
  | nil => rfl
  | cons b M ih =>
    have e : Lib.indexByte (b :: M) c = if (b == c) = true then 0 else if (Lib.indexByte M c == -1) = true then -1 else Lib.indexByte M c + 1 := rfl
    have hle := tw_le (fun b => b != c) M
    by_cases hb : b = c
    · subst hb
      have a : (b :: M).takeWhile (fun x => x != b) = [] := by rw [List.takeWhile_cons, if_neg (by simp)]
      rw [e, if_pos (beq_self_eq_true b), a, if_pos (by simp)]; rfl
    · have a : (b :: M).takeWhile (fun x => x != c) = b :: M.takeWhile (fun x => x != c) := by rw [List.takeWhile_cons, if_pos (by simpa using hb)]
      rw [e, if_neg (by simpa using hb), a, List.length_cons, List.length_cons]
      by_cases h : (M.takeWhile (fun b => b != c)).length < M.length
      · rw [if_pos h] at ih
        rw [ih, if_neg (by simp), if_pos (by omega)]; omega
      · rw [if_neg h] at ih
        rw [ih, if_pos (by decide), if_neg (by omega)]
theorem line_tw (M : List UInt8) : lineP (mk M) = mk (M.takeWhile (fun b => b != 10)) := by
  unfold lineP
  rw [mk_data, index_tw]
  have hle := tw_le (fun b => b != 10) M
  by_cases h : (M.takeWhile (fun b => b != 10)).length < M.length
  · rw [if_pos h, if_pos (by omega), mk_extract, Int.toNat_natCast, List.drop_zero, take_tw]
  · rw [if_neg h, if_neg (by decide)]
    have : M.takeWhile (fun b => b != 10) = M := by
      have := take_tw (fun b => b != 10) M
      rw [List.take_of_length_le (by omega)] at this
      exact this.symm
    rw [this]
theorem rest_tw (L : List UInt8) (i : Nat) : restP (mk L) (i : Int) = mk ((L.drop i).takeWhile (fun b => b != 10)) := by
  unfold restP
  rw [Int.toNat_natCast, mk_rest, line_tw]
theorem ext_nat (L : List UInt8) (a b : Nat) : (mk L).extract a b = mk ((L.drop a).take (b - a)) := by
  rw [mk_extract, List.drop_take]
theorem str_list (M : List UInt8) :
    (((M.takeWhile (pb strB)).length < M.length ∧ M[(M.takeWhile (pb strB)).length]? ≠ some 10) ↔ (((M.takeWhile (fun b => b != 10)).takeWhile (fun b => b != 34)).length < (M.takeWhile (fun b => b != 10)).length)) ∧
    ((((M.takeWhile (fun b => b != 10)).takeWhile (fun b => b != 34)).length < (M.takeWhile (fun b => b != 10)).length) → ((M.takeWhile (fun b => b != 10)).takeWhile (fun b => b != 34)).length = (M.takeWhile (pb strB)).length ∧ (M.takeWhile (fun b => b != 10)).take ((M.takeWhile (pb strB)).length + 1) = M.take ((M.takeWhile (pb strB)).length + 1)) := by
  induction M with
  | nil => simp
  | cons b M ih =>
    obtain ⟨ih1, ih2⟩ := ih
    have h34 : pb strB 34 = false := by decide
    have h10 : pb strB 10 = false := by decide
    by_cases e1 : b = 34
    · subst e1
      have a : (34 :: M).takeWhile (pb strB) = [] := by rw [List.takeWhile_cons, if_neg (by rw [h34]; decide)]
      have c : (34 :: M).takeWhile (fun b => b != 10) = 34 :: M.takeWhile (fun b => b != 10) := by rw [List.takeWhile_cons, if_pos (by decide)]
      have d : ((34 : UInt8) :: M.takeWhile (fun b => b != 10)).takeWhile (fun b => b != 34) = [] := by rw [List.takeWhile_cons, if_neg (by decide)]
      simp only [a, c, d]
      constructor
      · constructor
        · intro _; simp
        · intro _; exact ⟨by simp, by simp⟩
      · intro _; exact ⟨trivial, by simp⟩
    by_cases e2 : b = 10
    · subst e2
      have a : (10 :: M).takeWhile (pb strB) = [] := by rw [List.takeWhile_cons, if_neg (by rw [h10]; decide)]
      have c : ((10 : UInt8) :: M).takeWhile (fun b => b != 10) = [] := by rw [List.takeWhile_cons, if_neg (by decide)]
      simp only [a, c, List.takeWhile_nil]
      constructor
      · constructor
        · rintro ⟨h, h2⟩; exact absurd (by simp) h2
        · intro h; exact absurd h (by simp)
      · intro h; exact absurd h (by simp)
    · have hs : pb strB b = true := by
        unfold pb strB
        have n1 : ¬ (b.toNat : Int) = 34 := fun h => e1 (UInt8.toNat_inj.1 (by rw [show (34 : UInt8).toNat = 34 from rfl]; omega))
        have n2 : ¬ (b.toNat : Int) = 10 := fun h => e2 (UInt8.toNat_inj.1 (by rw [show (10 : UInt8).toNat = 10 from rfl]; omega))
        simp [n1, n2]
      have a : (b :: M).takeWhile (pb strB) = b :: M.takeWhile (pb strB) := by rw [List.takeWhile_cons, if_pos hs]
      have c : (b :: M).takeWhile (fun b => b != 10) = b :: M.takeWhile (fun b => b != 10) := by rw [List.takeWhile_cons, if_pos (by simpa using e2)]
      have d : (b :: M.takeWhile (fun b => b != 10)).takeWhile (fun b => b != 34) = b :: (M.takeWhile (fun b => b != 10)).takeWhile (fun b => b != 34) := by rw [List.takeWhile_cons, if_pos (by simpa using e1)]
      simp only [a, c, d, List.length_cons, List.getElem?_cons_succ, List.take_succ_cons]
      constructor
      · rw [Nat.add_lt_add_iff_right, Nat.add_lt_add_iff_right]; exact ih1
      · intro h
        obtain ⟨q1, q2⟩ := ih2 (by omega)
        exact ⟨by rw [q1], by rw [q2]⟩
/-! ### one step of the two scanners -/
def toSc (y : RSt) (f : Int) : ScSt := ⟨y.at_, y.line, y.l, y.c, f⟩
theorem slash_iff (L : List UInt8) (n : Nat) (hn : n < L.length) : slashP ((mk L).extract (n : Int).toNat (mk L).size) = true ↔ (bt (mk L) (n : Int) = 47 ∧ isCom (mk L) (n : Int)) := by
  rw [Int.toNat_natCast, mk_rest, List.drop_eq_getElem_cons hn]
  unfold slashP isCom
  rw [mk_extract, mk_list, mk_size, mk_size, bt_mk L n hn, List.drop_zero]
  have h47 : ∀ b : UInt8, ((b.toNat : Int) = 47) ↔ b = 47 := fun b => ⟨fun h => UInt8.toNat_inj.1 (by rw [show (47 : UInt8).toNat = 47 from rfl]; omega), fun h => by subst h; rfl⟩
  by_cases h1 : n + 1 < L.length
  · rw [show ((n : Int) + 1) = ((n + 1 : Nat) : Int) by omega, bt_mk L (n + 1) h1, List.drop_eq_getElem_cons h1, h47, h47]
    have h2 : ((n + 1 : Nat) : Int) < (L.length : Int) := by omega
    have h3 : (L[n] :: L[n + 1] :: List.drop (n + 1 + 1) L).length ≥ 2 := by simp only [List.length_cons]; omega
    simp only [List.take_succ_cons, List.take_zero, h2, h3, decide_true, Bool.true_and, true_and, beq_iff_eq, List.cons.injEq, and_true]
  · have h2 : ¬ ((n : Int) + 1 < (L.length : Int)) := by omega
    rw [List.drop_of_length_le (by omega : L.length ≤ n + 1)]
    simp [h2]
theorem head_extract (L : List UInt8) (n k : Nat) (hn : n < L.length) (hk : 0 < k) : ((mk L).extract n (n + k)).toList.head? = some L[n] := by
  rw [ext_nat, mk_list, List.drop_eq_getElem_cons hn, show n + k - n = (k - 1) + 1 by omega, List.take_succ_cons]; rfl
theorem op_head : ∀ x ∈ opL, x.head? ≠ some 47 := by decide
theorem op_no (L : List UInt8) (n k : Nat) (hn : n < L.length) (hk : 0 < k) (h : bt (mk L) (n : Int) = 47) : ¬ opOk (mk L) (n : Int) (k : Int) := by
  rintro ⟨_, h2⟩
  rw [Int.toNat_natCast, show ((n : Int) + (k : Int)).toNat = n + k by omega] at h2
  unfold opP at h2
  refine op_head _ (of_decide_eq_true h2) ?_
  rw [head_extract L n k hn hk]
  rw [bt_mk L n hn] at h
  congr 1
  exact UInt8.toNat_inj.1 (by rw [show (47 : UInt8).toNat = 47 from rfl]; omega)
theorem com_text (L : List UInt8) (n : Nat) (hn : n ≤ L.length) : restP (mk L) (n : Int) = (mk L).extract (n : Int).toNat (runP notNl (mk L) (mk L).size (n : Int)).toNat ∧ (n : Int) + (restP (mk L) (n : Int)).size = runP notNl (mk L) (mk L).size (n : Int) := by
  have e : (fun b : UInt8 => b != 10) = pb notNl := by
    funext b
    unfold pb notNl
    by_cases h : b = 10
    · subst h; rfl
    · have : ¬ (b.toNat : Int) = 10 := fun h2 => h (UInt8.toNat_inj.1 (by rw [show (10 : UInt8).toNat = 10 from rfl]; omega))
      rw [show (b != 10) = true from by simpa using h, show (((b.toNat : Int)) != 10) = true from by simpa using this]
  have hr := runP_tw notNl L (mk L).size n hn (by rw [mk_size]; omega)
  rw [hr, rest_tw, e, Int.toNat_natCast, Int.toNat_natCast, ext_nat, Nat.add_sub_cancel_left, take_tw, mk_size]
  exact ⟨rfl, by omega⟩
theorem run_text (L : List UInt8) (p : Int → Bool) (n : Nat) (hn : n ≤ L.length) : (n : Int) + ((mk L).extract (n : Int).toNat (runP p (mk L) (mk L).size (n : Int)).toNat).size = runP p (mk L) (mk L).size (n : Int) ∧ (n : Int) ≤ runP p (mk L) (mk L).size (n : Int) := by
  have hr := runP_tw p L (mk L).size n hn (by rw [mk_size]; omega)
  have hle := tw_le (pb p) (L.drop n)
  rw [List.length_drop] at hle
  rw [hr, Int.toNat_natCast, Int.toNat_natCast, ext_nat, Nat.add_sub_cancel_left, take_tw, mk_size]
  exact ⟨by omega, by omega⟩
theorem bt_ext0 (L : List UInt8) (n m : Nat) (h : n < m) (hn : n < L.length) : bt ((mk L).extract n m) 0 = bt (mk L) (n : Int) := by
  rw [ext_nat, show (0 : Int) = ((0 : Nat) : Int) from rfl, bt_nb, bt_nb]
  unfold nb
  rw [List.drop_eq_getElem_cons hn, show m - n = (m - n - 1) + 1 by omega, List.take_succ_cons]
  rw [List.getD_eq_getElem?_getD, List.getD_eq_getElem?_getD, List.getElem?_cons_zero, List.getElem?_eq_getElem hn]
theorem one_semi (L : List UInt8) (n : Nat) (hn : n < L.length) (h : bt (mk L) (n : Int) = 59) : (⟨#[59]⟩ : ByteArray) = (mk L).extract (n : Int).toNat ((n : Int) + 1).toNat := by
  rw [Int.toNat_natCast, show ((n : Int) + 1).toNat = n + 1 by omega, ext_nat, Nat.add_sub_cancel_left, List.drop_eq_getElem_cons hn]
  rw [bt_mk L n hn] at h
  have : L[n] = 59 := UInt8.toNat_inj.1 (by rw [show (59 : UInt8).toNat = 59 from rfl]; omega)
  rw [this]; rfl
theorem quote_same (L : List UInt8) (n : Nat) (hn : n < L.length) (h : bt (mk L) (n : Int) = 34) :
    (quoteN (restP (mk L) (n : Int)) < 0 ↔ strBad (mk L) (runP strB (mk L) (mk L).size ((n : Int) + 1))) ∧
    (¬ quoteN (restP (mk L) (n : Int)) < 0 → (restP (mk L) (n : Int)).extract 0 (quoteN (restP (mk L) (n : Int)) + 2).toNat = (mk L).extract (n : Int).toNat (runP strB (mk L) (mk L).size ((n : Int) + 1) + 1).toNat ∧
      (n : Int) + ((restP (mk L) (n : Int)).extract 0 (quoteN (restP (mk L) (n : Int)) + 2).toNat).size = runP strB (mk L) (mk L).size ((n : Int) + 1) + 1) := by
  have hb : L[n] = 34 := by
    rw [bt_mk L n hn] at h
    exact UInt8.toNat_inj.1 (by rw [show (34 : UInt8).toNat = 34 from rfl]; omega)
  obtain ⟨M, hM⟩ : ∃ M, L.drop (n + 1) = M := ⟨_, rfl⟩
  have hd : L.drop n = 34 :: M := by rw [List.drop_eq_getElem_cons hn, hb, hM]
  have hml : M.length = L.length - (n + 1) := by rw [← hM, List.length_drop]
  have hR := runP_tw strB L (mk L).size (n + 1) (by omega) (by rw [mk_size]; omega)
  rw [hM] at hR
  have hT : restP (mk L) (n : Int) = mk (34 :: M.takeWhile (fun b => b != 10)) := by rw [rest_tw, hd, List.takeWhile_cons, if_pos (by decide)]
  obtain ⟨T, hTT⟩ : ∃ T, M.takeWhile (fun b => b != 10) = T := ⟨_, rfl⟩
  obtain ⟨s1, s2⟩ := str_list M
  rw [hTT] at hT s1 s2
  have hq : quoteN (restP (mk L) (n : Int)) = if (T.takeWhile (fun b => b != 34)).length < T.length then ((T.takeWhile (fun b => b != 34)).length : Int) else -1 := by
    unfold quoteN
    rw [hT, mk_rest, mk_data, List.drop_succ_cons, List.drop_zero, index_tw]
  have hle := tw_le (pb strB) M
  rw [show ((n : Int) + 1) = ((n + 1 : Nat) : Int) by omega, hR]
  have hbad : strBad (mk L) (((n + 1 + (M.takeWhile (pb strB)).length : Nat)) : Int) ↔ ¬ ((M.takeWhile (pb strB)).length < M.length ∧ M[(M.takeWhile (pb strB)).length]? ≠ some 10) := by
    unfold strBad
    rw [mk_size]
    by_cases hlt : (M.takeWhile (pb strB)).length < M.length
    · have hlt2 : n + 1 + (M.takeWhile (pb strB)).length < L.length := by omega
      rw [bt_mk L _ hlt2]
      have hg : L[n + 1 + (M.takeWhile (pb strB)).length] = M[(M.takeWhile (pb strB)).length] := by
        simp only [← hM, List.getElem_drop]
      rw [hg, List.getElem?_eq_getElem hlt]
      have h10 : (((M[(M.takeWhile (pb strB)).length]).toNat : Int) = 10) ↔ M[(M.takeWhile (pb strB)).length] = 10 := ⟨fun h => UInt8.toNat_inj.1 (by rw [show (10 : UInt8).toNat = 10 from rfl]; omega), fun h => by rw [h]; rfl⟩
      rw [h10]
      constructor
      · rintro (e | e)
        · omega
        · rw [e]; exact fun h => h.2 rfl
      · intro h
        refine .inr (Classical.byContradiction fun h2 => h ⟨hlt, fun h3 => h2 (Option.some.inj h3)⟩)
    · constructor
      · intro _ h; exact hlt h.1
      · intro _; left; omega
  rw [hq]
  by_cases hc : (T.takeWhile (fun b => b != 34)).length < T.length
  · rw [if_pos hc]
    refine ⟨⟨fun h => absurd h (by omega), fun h => absurd (s1.2 hc) (hbad.1 h)⟩, fun _ => ?_⟩
    obtain ⟨q1, q2⟩ := s2 hc
    have hTl := (s1.2 hc).1
    have e2 : (((T.takeWhile (fun b => b != 34)).length : Int) + 2).toNat = (M.takeWhile (pb strB)).length + 1 + 1 := by rw [q1]; omega
    have e3 : (((n + 1 + (M.takeWhile (pb strB)).length : Nat) : Int) + 1).toNat = n + ((M.takeWhile (pb strB)).length + 1 + 1) := by omega
    have e4 : (restP (mk L) (n : Int)).extract 0 (((T.takeWhile (fun b => b != 34)).length : Int) + 2).toNat = (mk L).extract (n : Int).toNat (((n + 1 + (M.takeWhile (pb strB)).length : Nat) : Int) + 1).toNat := by
      rw [hT, e2, e3, Int.toNat_natCast, ext_nat, ext_nat, List.drop_zero, Nat.sub_zero, Nat.add_sub_cancel_left, hd, List.take_succ_cons, List.take_succ_cons, q2]
    refine ⟨e4, ?_⟩
    rw [e4, e3, Int.toNat_natCast, ext_nat, mk_size, Nat.add_sub_cancel_left, List.length_take, List.length_drop]
    omega
  · rw [if_neg hc]
    exact ⟨⟨fun _ => hbad.2 (fun h => hc (s1.1 h)), fun _ => by decide⟩, fun h => absurd h (by decide)⟩
theorem one_same (L : List UInt8) (n : Nat) (hn : n < L.length) (line : Int) (l : List S29) (c : List S32) (fault : Int) :
    oneP (mk L) (n : Int) line l c fault = if (oneR (mk L) (n : Int) line l c).1 = true then toSc (oneR (mk L) (n : Int) line l c).2 fault else ⟨(n : Int), line, l, c, (n : Int)⟩ := by
  obtain ⟨s, hs⟩ : ∃ s, mk L = s := ⟨_, rfl⟩
  obtain ⟨B, hB⟩ : ∃ B, bt s (n : Int) = B := ⟨_, rfl⟩
  obtain ⟨R, hR⟩ : ∃ R, oneR s (n : Int) line l c = R := ⟨_, rfl⟩
  rw [hs, hR]
  have hR2 := hR
  unfold oneR at hR2
  unfold oneP
  rw [hB] at hR2 ⊢
  by_cases a1 : B = 10
  · rw [if_neg (by omega), if_pos a1] at hR2
    rw [if_pos a1, ← hR2]; rfl
  rw [if_neg a1]
  by_cases a2 : B = 32 ∨ B = 9
  · rw [if_pos a2] at hR2
    rw [if_pos a2, ← hR2]; rfl
  rw [if_neg a2]
  rw [if_neg a2, if_neg a1] at hR2
  by_cases a3 : slashP (s.extract (n : Int).toNat s.size) = true
  · obtain ⟨h47, hcom⟩ := (slash_iff L n hn).1 (by rw [hs]; exact a3)
    obtain ⟨t1, t2⟩ := com_text L n (by omega)
    rw [hs, hB] at h47
    rw [hs] at hcom t1 t2
    rw [if_neg (by omega), if_pos h47, if_pos hcom] at hR2
    rw [if_pos a3, ← hR2]
    simp only [toSc, comYes, if_true]
    rw [t2, t1]
  rw [if_neg a3]
  by_cases a4 : B = 47
  · have hnc : ¬ isCom s (n : Int) := fun h => a3 (by have := (slash_iff L n hn).2; rw [hs, hB] at this; exact this ⟨a4, h⟩)
    have hl : letterP B = false := by rw [a4]; rfl
    have hd : digitP B = false := by rw [a4]; rfl
    have o2 : ¬ opOk s (n : Int) 2 := by have := op_no L n 2 hn (by omega); rw [hs, hB] at this; exact this a4
    have o1 : ¬ opOk s (n : Int) 1 := by have := op_no L n 1 hn (by omega); rw [hs, hB] at this; exact this a4
    rw [if_neg (by omega), if_pos a4, if_neg hnc] at hR2
    rw [hl, hd, if_neg (by decide), if_neg (by decide), if_neg (by omega), if_neg (by omega)]
    unfold opRes
    rw [if_neg o2, if_neg o1, ← hR2]
    simp
  by_cases a5 : letterP B = true
  · have hd : digitP B = false := by
      unfold letterP at a5; unfold digitP
      simp only [Bool.or_eq_true, Bool.and_eq_true, decide_eq_true_eq, beq_iff_eq] at a5
      simp only [Bool.and_eq_false_iff, decide_eq_false_iff_not]; omega
    have h59 : ¬ B = 59 := by intro h; rw [h] at a5; exact absurd a5 (by decide)
    have h34 : ¬ B = 34 := by intro h; rw [h] at a5; exact absurd a5 (by decide)
    obtain ⟨t1, t2⟩ := run_text L wordP n (by omega)
    rw [hs] at t1 t2
    rw [if_neg h59, if_neg a4, if_neg h34, if_neg (by rw [hd]; decide), if_pos a5] at hR2
    rw [if_pos a5]
    unfold nameP
    by_cases h24 : (s.extract (n : Int).toNat (runP wordP s s.size (n : Int)).toNat).size > 24
    · rw [if_pos (show runP wordP s s.size (n : Int) - (n : Int) > 24 by omega)] at hR2
      rw [if_pos h24, ← hR2]; simp
    · rw [if_neg (show ¬ runP wordP s s.size (n : Int) - (n : Int) > 24 by omega)] at hR2
      rw [if_neg h24, ← hR2]
      simp only [toSc, addP, putP, if_true]
      rw [t1]
  rw [if_neg a5]
  by_cases a6 : digitP B = true
  · have h59 : ¬ B = 59 := by intro h; rw [h] at a6; exact absurd a6 (by decide)
    have h34 : ¬ B = 34 := by intro h; rw [h] at a6; exact absurd a6 (by decide)
    obtain ⟨t1, t2⟩ := run_text L digitP n (by omega)
    have hb := runP_pos digitP (mk L) (n : Int) (by omega) (by rw [mk_size]; omega) (by rw [hs, hB]; exact a6)
    have h0 := bt_ext0 L n (runP digitP s s.size (n : Int)).toNat
    rw [hs] at t1 t2 hb h0
    rw [if_neg h59, if_neg a4, if_neg h34, if_pos a6] at hR2
    rw [if_pos a6]
    have hiff : numBad s (n : Int) (s.extract (n : Int).toNat (runP digitP s s.size (n : Int)).toNat) ↔ rnumBad s (n : Int) (runP digitP s s.size (n : Int)) := by
      unfold numBad rnumBad
      rw [t1]
      have h0' : bt (s.extract (n : Int).toNat (runP digitP s s.size (n : Int)).toNat) 0 = bt s (n : Int) := by
        rw [Int.toNat_natCast]; exact h0 (by omega) hn
      rw [h0']
      have e1 : ((s.extract (n : Int).toNat (runP digitP s s.size (n : Int)).toNat).size > 12) ↔ runP digitP s s.size (n : Int) - (n : Int) > 12 := by omega
      have e2 : ((s.extract (n : Int).toNat (runP digitP s s.size (n : Int)).toNat).size > 1) ↔ runP digitP s s.size (n : Int) - (n : Int) > 1 := by omega
      rw [e1, e2]
    unfold numberP
    by_cases h : rnumBad s (n : Int) (runP digitP s s.size (n : Int))
    · rw [if_pos h] at hR2
      rw [if_pos (hiff.2 h), ← hR2]; simp
    · rw [if_neg h] at hR2
      rw [if_neg (fun h2 => h (hiff.1 h2)), ← hR2]
      simp only [toSc, addP, putP, if_true]
      rw [t1]
  rw [if_neg a6]
  by_cases a7 : B = 34
  · obtain ⟨q1, q2⟩ := quote_same L n hn (by rw [hs, hB]; exact a7)
    rw [hs] at q1 q2
    rw [if_neg (by omega : ¬ B = 59), if_neg a4, if_pos a7] at hR2
    rw [if_pos a7]
    unfold textP
    by_cases h : quoteN (restP s (n : Int)) < 0
    · rw [if_pos (q1.1 h)] at hR2
      rw [if_pos h, ← hR2]; simp
    · obtain ⟨q3, q4⟩ := q2 h
      rw [if_neg (fun h2 => h (q1.2 h2))] at hR2
      rw [if_neg h, ← hR2]
      simp only [toSc, addP, putP, if_true]
      rw [q4, q3]
  rw [if_neg a7]
  by_cases a8 : B = 59
  · have h1 := one_semi L n hn (by rw [hs, hB]; exact a8)
    rw [hs] at h1
    rw [if_pos a8] at hR2
    rw [if_pos a8, ← hR2]
    simp only [toSc, addP, putP, if_true]
    rw [← h1]; rfl
  rw [if_neg a8, if_neg a4, if_neg a7, if_neg a6, if_neg a5] at hR2
  rw [if_neg a8]
  have hsz : s.size = L.length := by rw [← hs, mk_size]
  unfold opRes
  by_cases o2 : opOk s (n : Int) 2
  · rw [if_pos o2] at hR2
    rw [if_pos o2, ← hR2]
    simp only [toSc, addP, putP, if_true]
    have := o2.1
    rw [Int.toNat_natCast, show ((n : Int) + 2).toNat = n + 2 by omega, ByteArray.size_extract, show (n : Int) + ((min (n + 2) s.size - n : Nat) : Int) = (n : Int) + 2 by omega]
  rw [if_neg o2] at hR2 ⊢
  by_cases o1 : opOk s (n : Int) 1
  · rw [if_pos o1] at hR2
    rw [if_pos o1, ← hR2]
    simp only [toSc, addP, putP, if_true]
    have := o1.1
    rw [Int.toNat_natCast, show ((n : Int) + 1).toNat = n + 1 by omega, ByteArray.size_extract, show (n : Int) + ((min (n + 1) s.size - n : Nat) : Int) = (n : Int) + 1 by omega]
  · rw [if_neg o1] at hR2 ⊢
    rw [← hR2]; simp
/-! ### the two scans -/
theorem loop_same (L : List UInt8) (N : Nat) : ∀ (x : RSt), RGood (mk L) x → scanLoop (mk L) N (toSc x (-1)) = if (refLoop (mk L) N x).1 = true then toSc (refLoop (mk L) N x).2 (-1) else toSc (refLoop (mk L) N x).2 (refLoop (mk L) N x).2.at_ := by
  induction N with
  | zero => intro x _; simp [scanLoop, refLoop]
  | succ N ih =>
    rintro ⟨a, line, l, c⟩ hg
    obtain ⟨n, rfl⟩ : ∃ n : Nat, a = (n : Int) := ⟨a.toNat, by have := hg.a0; simp only at this; omega⟩
    by_cases hlt : (n : Int) < (mk L).size
    · obtain ⟨⟨b, y⟩, hy⟩ : ∃ z, oneR (mk L) (n : Int) line l c = z := ⟨_, rfl⟩
      have hs := one_same L n (by rw [mk_size] at hlt; omega) line l c (-1)
      have hgood := oneR_good hg hlt hy
      rw [refLoop_step _ N _ _ _ _ b y hlt hy]
      show scanLoop (mk L) (N + 1) ⟨(n : Int), line, l, c, -1⟩ = _
      rw [scanLoop_step _ _ _ _ _ _ _ hlt (by decide), hs, hy]
      cases b with
      | true => simp only [if_true]; exact ih y (hgood.1 rfl).1
      | false =>
        rw [hgood.2 rfl]
        simp only [Bool.false_eq_true, if_false]
        rw [scanLoop_end _ _ _ (fun h => absurd h.2 (by simp only; omega))]; rfl
    · rw [refLoop_end _ _ _ hlt, scanLoop_end _ _ _ (fun h => hlt h.1)]; simp
theorem loop_ends (s : ByteArray) (N : Nat) : ∀ (x : RSt), RGood s x → (s.size : Int) + 1 ≤ x.at_ + N → RGood s (refLoop s N x).2 ∧ ((refLoop s N x).1 = true → (refLoop s N x).2.at_ = s.size) := by
  induction N with
  | zero =>
    intro x hg h
    have := hg.a1
    omega
  | succ N ih =>
    rintro ⟨a, line, l, c⟩ hg h
    have h0 := hg.a0
    have h1 := hg.a1
    simp only at h h0 h1
    by_cases hlt : a < s.size
    · obtain ⟨⟨b, y⟩, hy⟩ : ∃ z, oneR s a line l c = z := ⟨_, rfl⟩
      have hgood := oneR_good hg hlt hy
      rw [refLoop_step _ N _ _ _ _ b y hlt hy]
      cases b with
      | true =>
        obtain ⟨g1, g2⟩ := hgood.1 rfl
        rw [if_pos rfl]; exact ih y g1 (by omega)
      | false =>
        rw [if_neg (by decide), hgood.2 rfl]
        exact ⟨hg, fun h => absurd h (by simp)⟩
    · rw [refLoop_end _ _ _ hlt]
      exact ⟨hg, fun _ => by simp only; omega⟩
theorem least_ok (n : Nat) (F : Int) (h : -1 ≤ F) : (if n > 2000 then leastF (leastF (-1) F) 2000 else leastF (-1) F) = (if n > 2000 ∧ (F < 0 ∨ F > 2000) then 2000 else if F < 0 then -1 else F) := by
  unfold leastF
  repeat' split
  all_goals omega
theorem least_bad (n : Nat) (a F : Int) (ha : 0 ≤ a) (h : -1 ≤ F) : (if n > 2000 then leastF (leastF a F) 2000 else leastF a F) = (if (if n > 2000 ∧ (F < 0 ∨ F > 2000) then (2000 : Int) else F) < 0 ∨ a < (if n > 2000 ∧ (F < 0 ∨ F > 2000) then (2000 : Int) else F) then a else (if n > 2000 ∧ (F < 0 ∨ F > 2000) then (2000 : Int) else F)) := by
  unfold leastF
  repeat' split
  all_goals omega
theorem least_bad0 (n : Nat) (a F : Int) (ha : 0 ≤ a) : 0 ≤ (if (if n > 2000 ∧ (F < 0 ∨ F > 2000) then (2000 : Int) else F) < 0 ∨ a < (if n > 2000 ∧ (F < 0 ∨ F > 2000) then (2000 : Int) else F) then a else (if n > 2000 ∧ (F < 0 ∨ F > 2000) then (2000 : Int) else F)) := by
  repeat' split
  all_goals omega
theorem scan_same (L : List UInt8) (k : Nat) (hL : L.length ≤ 100000) (hk : L.length + 14 ≤ k) : ∃ R, scan_Scan.f (mk L) = some R ∧ recensionref1_Scan.f k (mk L) = some R ∧ R.1.length ≤ 600000 ∧ R.2.1.length ≤ 1000000 := by
  have hf := ref_fault_f k L (by omega) hk
  have hF : faults (mk L) (mk L).size 0 = flt L := by unfold flt; rw [faults_fl, mk_size, List.drop_zero]
  unfold scan_Scan.f recensionref1_Scan.f
  rw [if_pos (by rw [mk_size]; omega), if_pos (by rw [mk_size]; omega), hf, Option.bind_some]
  have hg0 : RGood (mk L) ⟨0, 1, [], []⟩ := ⟨by simp, by simp, by simp, by simp, by simp, by simp⟩
  have hl := loop_same L ((mk L).size + 2) ⟨0, 1, [], []⟩ hg0
  have he := loop_ends (mk L) ((mk L).size + 2) ⟨0, 1, [], []⟩ hg0 (by simp only; omega)
  obtain ⟨⟨b, x⟩, hx⟩ : ∃ z, refLoop (mk L) ((mk L).size + 2) ⟨0, 1, [], []⟩ = z := ⟨_, rfl⟩
  rw [hx] at hl he ⊢
  simp only at hl he
  have hl2 : scanLoop (mk L) ((mk L).size + 2) ⟨0, 1, [], [], -1⟩ = if b = true then toSc x (-1) else toSc x x.at_ := hl
  have hge := flt_ge L
  obtain ⟨hgx, hbx⟩ := he
  obtain ⟨xa, xn, xl, xc⟩ := x
  obtain ⟨g0, g1, g2, g3, g4, g5⟩ := hgx.out (by rw [mk_size]; omega)
  have hsl := semiL_le xl xa xn
  refine ⟨refEnd (mk L) (flt L) (b, ⟨xa, xn, xl, xc⟩), ?_, rfl, ?_⟩
  · rw [hl2]
    congr 1
    unfold scanEnd refEnd fault2 refF
    rw [hF]
    cases b with
    | true =>
      have hat := hbx rfl
      simp only at hat
      simp only [if_true, toSc]
      have e := least_ok (mk L).size (flt L) hge
      rw [e, ← hat]
      by_cases h1 : (mk L).size > 2000 ∧ (flt L < 0 ∨ flt L > 2000)
      · rw [if_pos h1, if_pos h1]
      · rw [if_neg h1, if_neg h1]
        by_cases h2 : flt L < 0
        · rw [if_pos h2, if_neg (by omega), if_neg (by omega)]
        · rw [if_neg h2]
    | false =>
      simp only [toSc, Bool.false_eq_true, if_false]
      have e := least_bad (mk L).size xa (flt L) g0 hge
      have e0 : 0 ≤ (if (mk L).size > 2000 then leastF (leastF xa (flt L)) 2000 else leastF xa (flt L)) := by
        rw [e]; exact least_bad0 _ _ _ g0
      rw [if_pos (by omega), e]
  · unfold refEnd
    cases b with
    | true =>
      simp only [if_true]
      by_cases h : refF (mk L) (flt L) ≥ 0
      · rw [if_pos h]; simp
      · rw [if_neg h]; simp only [List.length_append, List.length_singleton]; omega
    | false => simp
/-! ### 'same' tells true -/
theorem eqt_l0 (l : List S29) (hl : l.length ≤ 1000000) (d : Nat) : ∀ (k i : Nat), i + d = l.length → d < k → recensionlaw6_EqTokens.l0 k l l (i : Int) = some true := by
  induction d with
  | zero =>
    intro k i hd hk
    obtain ⟨k, rfl⟩ : ∃ m, k = m + 1 := ⟨k - 1, by omega⟩
    simp only [recensionlaw6_EqTokens.l0]
    rw [if_neg (by omega)]
  | succ d ih =>
    intro k i hd hk
    obtain ⟨k, rfl⟩ : ∃ m, k = m + 1 := ⟨k - 1, by omega⟩
    simp only [recensionlaw6_EqTokens.l0]
    rw [if_pos (by omega), if_pos (by omega), if_pos (by omega), if_pos trivial, if_pos trivial, if_pos trivial, if_pos trivial, if_neg (by simp), w_succ i (by omega)]
    exact ih k (i + 1) (by omega) (by omega)
theorem eqc_l0 (l : List S32) (hl : l.length ≤ 1000000) (d : Nat) : ∀ (k i : Nat), i + d = l.length → d < k → recensionlaw6_same.l0 k l l (i : Int) = some true := by
  induction d with
  | zero =>
    intro k i hd hk
    obtain ⟨k, rfl⟩ : ∃ m, k = m + 1 := ⟨k - 1, by omega⟩
    simp only [recensionlaw6_same.l0]
    rw [if_neg (by omega)]
  | succ d ih =>
    intro k i hd hk
    obtain ⟨k, rfl⟩ : ∃ m, k = m + 1 := ⟨k - 1, by omega⟩
    simp only [recensionlaw6_same.l0]
    rw [if_pos (by omega), if_pos (by omega), if_pos (by omega), if_pos trivial, if_pos trivial, if_pos trivial, if_pos trivial, w_succ i (by omega)]
    exact ih k (i + 1) (by omega) (by omega)
theorem same_f (k : Nat) (L : List UInt8) (hL : L.length ≤ 100000) (hk : 1000010 ≤ k) : recensionlaw6_same.f k (mk L) = some true := by
  obtain ⟨R, h1, h2, h3, h4⟩ := scan_same L k hL (by omega)
  have e1 := eqt_l0 R.1 (by omega) R.1.length k 0 (by omega) (by omega)
  obtain ⟨k', rfl⟩ : ∃ m, k = m + 1 := ⟨k - 1, by omega⟩
  have e2 := eqc_l0 R.2.1 (by omega) R.2.1.length k' 0 (by omega) (by omega)
  unfold recensionlaw6_same.f recensionlaw6_EqTokens.f
  rw [h1, Option.bind_some, h2, Option.bind_some, if_pos rfl, if_pos rfl, show (0 : Int) = ((0 : Nat) : Int) from rfl, e1, Option.bind_some, if_pos rfl]
  simp only [recensionlaw6_same.j0]
  rw [if_neg (by simp), show (0 : Int) = ((0 : Nat) : Int) from rfl, e2]
theorem begun_f : recensionlaw6_begun.f = some true := by decide +kernel
theorem cut_f (s : ByteArray) (n : Nat) : ∃ c : List UInt8, recensionlaw3_Cut.f s (n : Int) = some (mk c) ∧ c.length ≤ n := by
  unfold recensionlaw3_Cut.f
  by_cases h : (s.size : Int) > (n : Int)
  · rw [if_pos h, if_pos (by omega), if_pos (by omega)]
    exact ⟨(s.extract 0 n).toList, by rw [mk_of, Int.toNat_natCast], by rw [list_len]; simp [ByteArray.size_extract]; omega⟩
  · rw [if_neg h]; exact ⟨s.toList, by rw [mk_of], by rw [list_len]; omega⟩
theorem ScanTwo : recensionlaw6_ScanTwo.Pure := by
  intro a b c ha hb hc
  obtain ⟨k, hk⟩ : ∃ k, k = 2000000 := ⟨_, rfl⟩
  refine ⟨k, ?_⟩
  obtain ⟨x, hx, hxl⟩ := cut_f a 200
  obtain ⟨y, hy, hyl⟩ := cut_f b 5
  obtain ⟨z, hz, hzl⟩ := cut_f c 200
  have e10 : (⟨#[10]⟩ : ByteArray) = mk [10] := rfl
  have e32 : (⟨#[32]⟩ : ByteArray) = mk [32] := rfl
  unfold recensionlaw6_ScanTwo.f
  rw [begun_f, Option.bind_some, if_pos rfl, show recensionlaw3_Cut.f a 200 = some (mk x) from hx, Option.bind_some, show recensionlaw3_Cut.f b 5 = some (mk y) from hy, Option.bind_some, show recensionlaw3_Cut.f c 200 = some (mk z) from hz, Option.bind_some, e10, e32]
  simp only [mk_app, mk_size]
  rw [if_pos (by omega), if_pos (by simp only [List.length_append]; omega), same_f k _ (by simp only [List.length_append]; omega) (by omega), Option.bind_some, if_pos rfl, if_pos (by omega), if_pos (by simp only [List.length_append, List.length_singleton]; omega), same_f k _ (by simp only [List.length_append, List.length_singleton]; omega) (by omega), Option.bind_some, if_pos rfl, if_pos (by simp only [List.length_append, List.length_singleton]; omega), same_f k _ (by simp only [List.length_append, List.length_singleton]; omega) (by omega)]
  rfl

end Go.Proofs.YtohhnblaoihgbaaDoor.Pure
