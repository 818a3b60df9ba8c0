/- A list of one entry may be, and has bytes, just if its span is as long as its bytes need. Condition: none beside the statement's own. -/
import Derived.Test.YtloabiheaelbnaaPDirSpanx5
namespace Go.Proofs.Ytloabiheaelbnaa.Pure
open Go.RowKit Go.Proofs.Ytloabiheaelbnaa.PDirSpan Go.Proofs.YtloabiheaelbnaaW.PrintWords Go.Proofs.YtloabiheaelbnaaW.PrintLast Go.Proofs.YtloabiheaelbnaaW.PrintMore
theorem or128_all : ∀ y : Fin 256, Go.bits .or .u8 (y.val : Int) 128 = (y.val : Int) % 128 + 128 := by decide +kernel
theorem and127_all : ∀ y : Fin 256, Go.bits .and .u8 (y.val : Int) 127 = (y.val : Int) % 128 := by decide +kernel
theorem or128 (y : Int) (h0 : 0 ≤ y) (h1 : y < 256) : Go.bits .or .u8 y 128 = y % 128 + 128 := by
  have h := or128_all ⟨y.toNat, by omega⟩
  have e : ((y.toNat : Nat) : Int) = y := by omega
  simp only [e] at h; exact h
theorem and127 (y : Int) (h0 : 0 ≤ y) (h1 : y < 256) : Go.bits .and .u8 y 127 = y % 128 := by
  have h := and127_all ⟨y.toNat, by omega⟩
  have e : ((y.toNat : Nat) : Int) = y := by omega
  simp only [e] at h; exact h
theorem wrap_u64 (n : Int) : IntKind.u64.wrap n = n % 18446744073709551616 := by simp [IntKind.wrap, IntKind.bits, IntKind.signed]
theorem not_u64 (x : Nat) (h : x < 18446744073709551616) : Go.bits .xor .u64 18446744073709551615 (x : Int) = 18446744073709551615 - (x : Int) := by
  have e := bits_xor_u64_nat 18446744073709551615 x (by omega) h
  have e2 : (18446744073709551615 : Nat) ^^^ x = 18446744073709551615 - x := by
    have h1 := BitVec.toNat_not (x := BitVec.ofNat 64 x)
    have h2 : (BitVec.ofNat 64 x).toNat = x := by rw [BitVec.toNat_ofNat]; exact Nat.mod_eq_of_lt h
    have h3 : ~~~(BitVec.ofNat 64 x) = BitVec.allOnes 64 ^^^ BitVec.ofNat 64 x := BitVec.allOnes_xor.symm
    rw [h3, BitVec.toNat_xor, h2, BitVec.toNat_allOnes] at h1
    exact h1
  rw [e2] at e
  have e3 : ((18446744073709551615 : Nat) : Int) = 18446744073709551615 := rfl
  rw [e3] at e
  rw [e]; omega
theorem not_i64_all (x : Int) (h0 : 0 ≤ x) (h1 : x < 9223372036854775808) : Go.bits .xor .i64 (-1) x = -1 - x := by
  have h : BitVec.ofInt 64 (-1) = BitVec.allOnes 64 := by decide +kernel
  have e : (BitVec.ofInt 64 x).toNat = x.toNat := by
    rw [BitVec.toNat_ofInt]
    have : x % (2 ^ 64 : Nat) = x := Int.emod_eq_of_lt h0 (by omega)
    rw [this]
  have e2 : (BitVec.ofInt 64 (-1) ^^^ BitVec.ofInt 64 x).toNat = 18446744073709551615 - x.toNat := by
    rw [h, BitVec.allOnes_xor, BitVec.toNat_not, e]
  show IntKind.i64.wrap ((BitVec.ofInt 64 (-1) ^^^ BitVec.ofInt 64 x).toNat : Int) = -1 - x
  rw [e2, IntKind.wrap_i64]
  omega

/-- A number's bytes. -/
def enc (u : Nat) : List Int := if u > 127 then ((u % 128 + 128 : Nat) : Int) :: enc (u / 128) else [(u : Int)]
  termination_by u
  decreasing_by omega
theorem enc_big {u : Nat} (h : u > 127) : enc u = ((u % 128 + 128 : Nat) : Int) :: enc (u / 128) := by rw [enc, if_pos h]
theorem enc_small {u : Nat} (h : ¬ u > 127) : enc u = [(u : Int)] := by rw [enc, if_neg h]
theorem enc_pos (u : Nat) : 0 < (enc u).length := by
  by_cases h : u > 127
  · rw [enc_big h]; simp
  · rw [enc_small h]; simp
theorem enc_le (d : Nat) : ∀ u : Nat, u < 128 ^ (d + 1) → (enc u).length ≤ d + 1 := by
  induction d with
  | zero => intro u h; rw [enc_small (by omega)]; simp
  | succ d ih =>
    intro u h
    by_cases hu : u > 127
    · rw [enc_big hu, List.length_cons]
      have := ih (u / 128) (by rw [Nat.pow_succ] at h; omega)
      omega
    · rw [enc_small hu]; simp

theorem put_l0 (d : Nat) : ∀ (k : Nat) (l : List Int) (u : Nat), u < 128 ^ (d + 1) → d < k → l.length + d + 1 ≤ 140737488355327 → num_Put.l0 k l (u : Int) = some (l ++ enc u) := by
  induction d with
  | zero =>
    intro k l u hu hk hl
    obtain ⟨k, rfl⟩ : ∃ m, k = m + 1 := ⟨k - 1, by omega⟩
    simp only [num_Put.l0]
    rw [if_neg (by omega), if_pos (by omega), enc_small (by omega)]
    congr 3; omega
  | succ d ih =>
    intro k l u hu hk hl
    obtain ⟨k, rfl⟩ : ∃ m, k = m + 1 := ⟨k - 1, by omega⟩
    simp only [num_Put.l0]
    by_cases h : u > 127
    · rw [if_pos (by omega), if_pos (by omega), or128 _ (by omega) (by omega), enc_big h, show ((u : Int) / 128) = ((u / 128 : Nat) : Int) by omega, ih k _ (u / 128) (by rw [Nat.pow_succ] at hu; omega) (by omega) (by simp; omega)]
      rw [List.append_assoc]
      congr 3
      rw [List.singleton_append]; congr 1; omega
    · rw [if_neg (by omega), if_pos (by omega), enc_small h]
      congr 3; omega

def zig (n : Int) : Nat := if n < 0 then (-2 * n - 1).toNat else (2 * n).toNat
theorem zig_lt {n : Int} (h0 : -9223372036854775808 ≤ n) (h1 : n ≤ 9223372036854775807) : zig n < 18446744073709551616 := by
  unfold zig; split <;> omega
theorem zig_of {n : Int} (h0 : -9223372036854775808 ≤ n) (h1 : n ≤ 9223372036854775807) :
    (n < 0 → Go.bits .xor .u64 18446744073709551615 (IntKind.u64.wrap ((IntKind.u64.wrap (n)) * 2)) = (zig n : Int)) ∧ (¬ n < 0 → IntKind.u64.wrap ((IntKind.u64.wrap (n)) * 2) = (zig n : Int)) := by
  constructor
  · intro h
    have e : IntKind.u64.wrap ((IntKind.u64.wrap (n)) * 2) = (((18446744073709551616 + 2 * n).toNat : Nat) : Int) := by
      rw [wrap_u64, wrap_u64]; omega
    rw [e, not_u64 _ (by omega)]
    unfold zig; rw [if_pos h]; omega
  · intro h
    rw [wrap_u64, wrap_u64]
    unfold zig; rw [if_neg h]; omega

theorem put_f (k : Nat) (l : List Int) (n : Int) (h0 : -9223372036854775808 ≤ n) (h1 : n ≤ 9223372036854775807) (hk : 12 ≤ k) (hl : l.length ≤ 140737488350000) : num_Put.f k l n = some (l ++ enc (zig n)) := by
  obtain ⟨k, rfl⟩ : ∃ m, k = m + 1 := ⟨k - 1, by omega⟩
  obtain ⟨hz1, hz2⟩ := zig_of h0 h1
  have hz := zig_lt h0 h1
  unfold num_Put.f
  by_cases h : n < 0
  · rw [if_pos h, hz1 h]
    simp only [num_Put.j0]
    exact put_l0 9 k l _ (by omega) (by omega) (by omega)
  · rw [if_neg h, hz2 h]
    simp only [num_Put.j0]
    exact put_l0 9 k l _ (by omega) (by omega) (by omega)

theorem enc10 {n : Int} (h0 : -9223372036854775808 ≤ n) (h1 : n ≤ 9223372036854775807) : (enc (zig n)).length ≤ 10 := enc_le 9 _ (by have := zig_lt h0 h1; omega)
theorem wsm {x : Int} (h0 : -9223372036854775808 ≤ x) (h1 : x ≤ 9223372036854775807) : wrap64 x = x := by
  unfold wrap64
  omega
theorem w_cast (i : Int) (h0 : -3000000 ≤ i) (h : i ≤ 3000000) : wrap64 i = i := wsm (by omega) (by omega)
theorem w_succ (i : Nat) (h : i ≤ 2000000) : wrap64 ((i : Int) + 1) = ((i + 1 : Nat) : Int) := by rw [wsm (by omega) (by omega)]; omega
theorem w_pred (i : Nat) (h : i ≤ 2000000) : wrap64 (((i + 1 : Nat) : Int) - 1) = (i : Int) := by rw [wsm (by omega) (by omega)]; omega
/-- May an entry be, by itself? -/
def may1 (e : S32) : Prop := 1 ≤ e.f0.size ∧ e.f0.size ≤ 20 ∧ 0 ≤ e.f1 ∧ e.f1 ≤ 65536 ∧ e.f2.f1 = (e.f1 + 63) / 64 ∧ 0 ≤ e.f2.f0 ∧ e.f2.f0 ≤ 2048 ∧ (0 < e.f1 ∨ e.f2.f0 = 0)
instance (e : S32) : Decidable (may1 e) := by unfold may1; exact inferInstance
def less (a b : S32) : Prop := Op.bytesLess a.f0.toList b.f0.toList = true
instance (a b : S32) : Decidable (less a b) := by unfold less; exact inferInstance
/-- From a place on each entry may be, and stands behind the one ahead. -/
def okFrom (l : List S32) (i : Nat) : Prop := ∀ j e, i ≤ j → l[j]? = some e → may1 e ∧ (∀ p, 0 < j → l[j - 1]? = some p → less p e)
theorem rd_get (l : List S32) (i : Int) (n : Nat) (e : i = n) (x : S32) (h : l[n]? = some x) : rd_T32 l i = x := by
  subst e
  unfold rd_T32
  simp [h]
theorem sect (n : Int) (h0 : 0 ≤ n) (h1 : n ≤ 65536) : dir_Sectors.f n = some ((n + 63) / 64) := by
  unfold dir_Sectors.f
  rw [w_cast (n + 64) (by omega) (by omega), w_cast (n + 64 - 1) (by omega) (by omega), Int.tdiv_eq_ediv_of_nonneg (by omega), w_cast _ (by omega) (by omega)]
  congr 2; omega
theorem may_f (e : S32) : dir_may.f e.f0 e.f1 e.f2.f0 e.f2.f1 = some (decide (may1 e)) := by
  unfold dir_may.f
  by_cases h1 : (e.f0.size : Int) < 1
  · rw [if_pos h1]; congr 1; symm; rw [decide_eq_false_iff_not]; unfold may1; omega
  rw [if_neg h1]
  by_cases h2 : (e.f0.size : Int) > 20
  · rw [if_pos h2]; congr 1; symm; rw [decide_eq_false_iff_not]; unfold may1; omega
  rw [if_neg h2]
  by_cases h3 : e.f1 < 0
  · rw [if_pos h3]; congr 1; symm; rw [decide_eq_false_iff_not]; unfold may1; omega
  rw [if_neg h3]
  by_cases h4 : e.f1 > 65536
  · rw [if_pos h4]; congr 1; symm; rw [decide_eq_false_iff_not]; unfold may1; omega
  rw [if_neg h4, sect e.f1 (by omega) (by omega), Option.bind_some]
  by_cases h5 : e.f2.f1 = (e.f1 + 63) / 64
  · rw [if_pos h5]
    by_cases h6 : e.f2.f0 ≥ 0
    · rw [if_pos h6]
      by_cases h7 : e.f2.f0 ≤ 2048
      · rw [if_pos h7]
        by_cases h8 : e.f1 > 0
        · rw [if_pos h8]; congr 1; symm; rw [decide_eq_true_eq]; unfold may1; omega
        · rw [if_neg h8]; congr 1
          by_cases h9 : e.f2.f0 = 0
          · rw [h9]; symm; rw [beq_self_eq_true, decide_eq_true_eq]; unfold may1; omega
          · rw [beq_eq_false_iff_ne.2 h9]; symm; rw [decide_eq_false_iff_not]; unfold may1; omega
      · rw [if_neg h7]; congr 1; symm; rw [decide_eq_false_iff_not]; unfold may1; omega
    · rw [if_neg h6]; congr 1; symm; rw [decide_eq_false_iff_not]; unfold may1; omega
  · rw [if_neg h5]; congr 1; symm; rw [decide_eq_false_iff_not]; unfold may1; omega
theorem ok_end (l : List S32) (i : Nat) (h : l.length ≤ i) : okFrom l i := by
  intro j e hj he
  have := (List.getElem?_eq_some_iff.1 he).1
  omega
theorem ok_step (l : List S32) (i : Nat) (e : S32) (he : l[i]? = some e) : okFrom l i ↔ (may1 e ∧ (∀ p, 0 < i → l[i - 1]? = some p → less p e)) ∧ okFrom l (i + 1) := by
  constructor
  · intro h; exact ⟨h i e (Nat.le_refl _) he, fun j e' hj he' => h j e' (by omega) he'⟩
  · rintro ⟨h1, h2⟩ j e' hj he'
    by_cases hji : j = i
    · subst hji
      rw [he] at he'
      obtain rfl := Option.some.inj he'
      exact h1
    · exact h2 j e' (by omega) he'
theorem May_l0 (l : List S32) (hl : l.length ≤ 1000000) (d : Nat) : ∀ (k i : Nat), i + d = l.length → d < k →
    (okFrom l i → dir_May.l0 k l l (l.length : Int) (i : Int) = some (decide (l.length ≤ 32))) ∧ (¬ okFrom l i → dir_May.l0 k l l (l.length : Int) (i : Int) = some false) := by
  induction d with
  | zero =>
    intro k i hd hk
    obtain ⟨k, rfl⟩ : ∃ m, k = m + 1 := ⟨k - 1, by omega⟩
    refine ⟨fun _ => ?_, fun h => absurd (ok_end l i (by omega)) h⟩
    simp only [dir_May.l0]
    rw [if_neg (by omega)]
    congr 1
    exact decide_eq_decide.2 (by omega)
  | succ d ih =>
    intro k i hd hk
    obtain ⟨k, rfl⟩ : ∃ m, k = m + 1 := ⟨k - 1, by omega⟩
    have hlt : i < l.length := by omega
    have hg : l[i]? = some l[i] := List.getElem?_eq_getElem hlt
    have hr := rd_get l (i : Int) i rfl _ hg
    obtain ⟨ih1, ih2⟩ := ih k (i + 1) (by omega) (by omega)
    have hs := ok_step l i _ hg
    simp only [dir_May.l0, hr, w_succ i (by omega)]
    rw [if_pos (by omega), if_pos (by omega), if_pos (by omega), may_f, Option.bind_some]
    by_cases hm : may1 l[i]
    · rw [if_pos (by simpa using hm)]
      cases i with
      | zero =>
        rw [if_neg (by omega)]
        have hiff : okFrom l 0 ↔ okFrom l 1 := by
          rw [hs]; exact ⟨fun h => h.2, fun h => ⟨⟨hm, fun p hp => absurd hp (by omega)⟩, h⟩⟩
        rw [hiff]
        exact ⟨ih1, ih2⟩
      | succ i =>
        have hg2 : l[i]? = some l[i] := List.getElem?_eq_getElem (by omega)
        have hr2 := rd_get l (i : Int) i rfl _ hg2
        rw [if_pos (by omega), w_pred i (by omega), if_pos (by omega), if_pos (by omega), hr2]
        have hiff : okFrom l (i + 1) ↔ less l[i] l[i + 1] ∧ okFrom l (i + 1 + 1) := by
          rw [hs]
          constructor
          · rintro ⟨⟨_, h⟩, h2⟩; exact ⟨h l[i] (by omega) (by simp), h2⟩
          · rintro ⟨h, h2⟩
            refine ⟨⟨hm, fun p _ hp => ?_⟩, h2⟩
            rw [show i + 1 - 1 = i by omega, hg2] at hp
            obtain rfl := Option.some.inj hp
            exact h
        by_cases hle : Op.bytesLess l[i].f0.toList l[i + 1].f0.toList = true
        · rw [if_pos hle]
          exact ⟨fun h => ih1 (hiff.1 h).2, fun h => ih2 (fun h2 => h (hiff.2 ⟨hle, h2⟩))⟩
        · rw [if_neg hle]
          exact ⟨fun h => absurd (hiff.1 h).1 hle, fun _ => rfl⟩
    · rw [if_neg (by simpa using hm)]
      exact ⟨fun h => absurd (hs.1 h).1.1 hm, fun _ => rfl⟩
theorem May_yes (k : Nat) (l : List S32) (hl : l.length ≤ 1000000) (hk : l.length < k) (h : okFrom l 0) (h32 : l.length ≤ 32) : dir_May.f k l = some true := by
  have := (May_l0 l hl l.length k 0 (by omega) hk).1 h
  unfold dir_May.f
  rw [show (0 : Int) = ((0 : Nat) : Int) from rfl, this, decide_eq_true h32]
theorem May_no (k : Nat) (l : List S32) (hl : l.length ≤ 1000000) (hk : l.length < k) (h : ¬ (okFrom l 0 ∧ l.length ≤ 32)) : dir_May.f k l = some false := by
  obtain ⟨h1, h2⟩ := May_l0 l hl l.length k 0 (by omega) hk
  unfold dir_May.f
  by_cases ho : okFrom l 0
  · have := h1 ho
    rw [show (0 : Int) = ((0 : Nat) : Int) from rfl, this, decide_eq_false (fun e => h ⟨ho, e⟩)]
  · exact h2 ho
theorem puttext_f (k : Nat) (l : List Int) (s : ByteArray) (hs : s.size ≤ 1000000) (hk : 12 ≤ k) (hl : l.length ≤ 140737480000000) : num_PutText.f k l s = some (l ++ enc (2 * s.size) ++ bytesOf s) := by
  unfold num_PutText.f
  rw [put_f k l _ (by omega) (by omega) hk (by omega)]
  have hz : zig (s.size : Int) = 2 * s.size := by unfold zig; rw [if_neg (by omega)]; omega
  have h10 := enc10 (n := (s.size : Int)) (by omega) (by omega)
  rw [hz] at h10 ⊢
  simp only [Option.bind_some]
  rw [if_pos (by rw [List.length_append]; omega)]
/-- An entry's bytes; a list's. -/
def entB (e : S32) : List Int := enc (2 * e.f0.size) ++ bytesOf e.f0 ++ (enc (zig e.f1) ++ (enc (zig e.f2.f0) ++ enc (zig e.f2.f1)))
def entsB : List S32 → List Int
  | [] => []
  | e :: l => entB e ++ entsB l
def encL (l : List S32) : List Int := enc (zig (l.length : Int)) ++ entsB l
/-- An entry whose numbers are numbers. -/
def num1 (e : S32) : Prop := e.f0.size ≤ 50000 ∧ (-9223372036854775808 ≤ e.f1 ∧ e.f1 ≤ 9223372036854775807) ∧ (-9223372036854775808 ≤ e.f2.f0 ∧ e.f2.f0 ≤ 9223372036854775807) ∧ (-9223372036854775808 ≤ e.f2.f1 ∧ e.f2.f1 ≤ 9223372036854775807)
theorem entB_len (e : S32) (h : num1 e) : (entB e).length ≤ 50040 := by
  obtain ⟨h0, h1, h2, h3⟩ := h
  have a := enc10 (n := (e.f0.size : Int)) (by omega) (by omega)
  have hz : zig (e.f0.size : Int) = 2 * e.f0.size := by unfold zig; rw [if_neg (by omega)]; omega
  rw [hz] at a
  have b := enc10 h1.1 h1.2
  have c := enc10 h2.1 h2.2
  have d := enc10 h3.1 h3.2
  have hb := bytesOf_length e.f0
  unfold entB
  simp only [List.length_append, hb]
  omega
theorem put3_f (k : Nat) (e : S32) (b : List Int) (h : num1 e) (hk : 12 ≤ k) (hb : b.length ≤ 140737480000000) : put3 k e 0 b = some (b ++ (enc (zig e.f1) ++ (enc (zig e.f2.f0) ++ enc (zig e.f2.f1)))) := by
  obtain ⟨h0, h1, h2, h3⟩ := h
  have b1 := enc10 h1.1 h1.2
  have b2 := enc10 h2.1 h2.2
  unfold put3
  rw [if_pos rfl, put_f k b _ h1.1 h1.2 hk (by omega), Option.bind_some, put_f k _ _ h2.1 h2.2 hk (by rw [List.length_append]; omega), Option.bind_some, put_f k _ _ h3.1 h3.2 hk (by rw [List.length_append, List.length_append]; omega)]
  simp [List.append_assoc]
theorem go_f (k : Nat) (hk : 12 ≤ k) (l : List S32) : ∀ (b : List Int), (∀ e ∈ l, num1 e) → b.length + 50040 * l.length ≤ 140737480000000 → dir_Encode.go k b l = some (b ++ entsB l) := by
  induction l with
  | nil => intro b _ _; simp [dir_Encode.go, entsB]
  | cons e l ih =>
    intro b h hb
    have he := h e List.mem_cons_self
    have hel := entB_len e he
    rw [List.length_cons] at hb
    simp only [dir_Encode.go]
    have h1 := he.1
    have ha : (enc (2 * e.f0.size) ++ bytesOf e.f0).length ≤ (entB e).length := by unfold entB; simp only [List.length_append]; omega
    rw [puttext_f k b e.f0 (by omega) hk (by omega), Option.bind_some, put3_f k e _ he hk (by rw [List.append_assoc, List.length_append]; omega), Option.bind_some]
    have e2 : b ++ enc (2 * e.f0.size) ++ bytesOf e.f0 ++ (enc (zig e.f1) ++ (enc (zig e.f2.f0) ++ enc (zig e.f2.f1))) = b ++ entB e := by unfold entB; simp [List.append_assoc]
    rw [e2, ih (b ++ entB e) (fun x hx => h x (List.mem_cons_of_mem _ hx)) (by rw [List.length_append]; omega), entsB, List.append_assoc]
theorem may_num {e : S32} (h : may1 e) : num1 e := by
  unfold may1 at h; unfold num1; omega
theorem ok_num {l : List S32} (h : okFrom l 0) : ∀ e ∈ l, num1 e := by
  intro e he
  obtain ⟨i, hi, rfl⟩ := List.mem_iff_getElem.1 he
  exact may_num (h i _ (Nat.zero_le _) (List.getElem?_eq_getElem hi)).1
theorem Encode_yes (k : Nat) (l : List S32) (h : okFrom l 0) (hl : l.length ≤ 32) (hk : 40 ≤ k) : dir_Encode.f k l = some (encL l) := by
  unfold dir_Encode.f
  rw [if_pos (by omega), May_yes k l (by omega) (by omega) h hl, Option.bind_some, if_pos rfl, put_f k [] _ (by omega) (by omega) (by omega) (by simp), Option.bind_some, List.nil_append]
  have h10 := enc10 (n := (l.length : Int)) (by omega) (by omega)
  exact go_f k (by omega) l _ (ok_num h) (by omega)
theorem Encode_no (k : Nat) (l : List S32) (h : ¬ (okFrom l 0 ∧ l.length ≤ 32)) (hl : l.length ≤ 1000000) (hk : l.length < k) : dir_Encode.f k l = some [] := by
  unfold dir_Encode.f
  rw [if_pos (by omega), May_no k l hl hk h, Option.bind_some, if_neg (by decide)]
theorem begun_f : recensionlaw23_begun.f 60 = some true := by decide +kernel
theorem begun_k (k : Nat) (h : 60 ≤ k) : recensionlaw23_begun.f k = some true := at_rounds (fun k => recensionlaw23_begun.mono k) h begun_f
theorem one_ok (e : S32) : okFrom [e] 0 ↔ may1 e := by
  constructor
  · intro h; exact (h 0 e (Nat.le_refl _) rfl).1
  · intro h j e' _ he
    cases j with
    | zero => simp at he; subst he; exact ⟨h, fun p hp => absurd hp (by omega)⟩
    | succ j => simp at he
theorem enc_some (l : List S32) : 0 < (encL l).length := by
  unfold encL
  have := enc_pos (zig (l.length : Int))
  rw [List.length_append]; omega
theorem span_two (k : Nat) (hk : 40 ≤ k) (e : S32) (b : Bool) (hb : b = decide (may1 e)) :
    ((dir_May.f k [e]).bind fun t => (if (t == b) = true then ((dir_Encode.f k [e]).bind fun u => (some ((decide ((u.length : Int) > 0)) == b))) else (some false))) = some true := by
  subst hb
  have h1 := one_ok e
  by_cases h : may1 e
  · have hp := enc_some [e]
    have hp2 : ((encL [e]).length : Int) > 0 := by omega
    rw [May_yes k [e] (by simp) (by simp; omega) (h1.2 h) (by simp), Option.bind_some, Encode_yes k [e] (h1.2 h) (by simp) hk, Option.bind_some, decide_eq_true h, decide_eq_true hp2]
    rfl
  · have hok : ¬ (okFrom [e] 0 ∧ [e].length ≤ 32) := fun g => h (h1.1 g.1)
    rw [May_no k [e] (by simp) (by simp; omega) hok, Option.bind_some, Encode_no k [e] hok (by simp) (by simp; omega), Option.bind_some, decide_eq_false h]
    rfl
theorem DirSpan : recensionlaw23_DirSpan.Pure := by
  intro size span at_ _ _ _
  obtain ⟨k, hk⟩ : ∃ k, k = 100 := ⟨_, rfl⟩
  refine ⟨k + 1, ?_⟩
  have hj : recensionlaw23_DirSpan.j0 (k + 1) size span at_ true = some true := by simp [recensionlaw23_DirSpan.j0]
  unfold recensionlaw23_DirSpan.f
  rw [begun_k (k + 1) (by omega), Option.bind_some, if_pos rfl]
  by_cases c1 : size < 0
  · rw [if_pos c1]; exact hj
  rw [if_neg c1]
  by_cases c2 : size > 70000
  · rw [if_pos c2]; exact hj
  rw [if_neg c2]
  by_cases c3 : span < 0
  · rw [if_pos c3]; exact hj
  rw [if_neg c3]
  by_cases c4 : span > 1200
  · rw [decide_eq_true c4]; exact hj
  rw [decide_eq_false c4]
  clear hj
  simp only [recensionlaw23_DirSpan.j0, Bool.false_eq_true, if_false]
  rw [Option.bind_some]
  have hs : wrap64 (Int.tdiv (wrap64 (size + 63)) 64) = (size + 63) / 64 := by
    rw [w_cast (size + 63) (by omega) (by omega), Int.tdiv_eq_ediv_of_nonneg (by omega), w_cast _ (by omega) (by omega)]
  rw [hs]
  clear hs
  have key := span_two k (by omega) ⟨⟨#[97]⟩, size, ⟨at_, span⟩⟩
  have hsz : (⟨#[97]⟩ : ByteArray).size = 1 := rfl
  have hm : may1 ⟨⟨#[97]⟩, size, ⟨at_, span⟩⟩ ↔ (size ≤ 65536 ∧ span = (size + 63) / 64 ∧ 0 ≤ at_ ∧ at_ ≤ 2048 ∧ (0 < size ∨ at_ = 0)) := by
    unfold may1; simp only [hsz]; omega
  by_cases d1 : size ≤ 65536
  · rw [if_pos d1]
    by_cases d2 : span = (size + 63) / 64
    · rw [if_pos d2]
      by_cases d3 : at_ ≥ 0
      · rw [if_pos d3]
        by_cases d4 : at_ ≤ 2048
        · rw [if_pos d4]
          by_cases d5 : span > 0
          · rw [if_pos d5]
            exact key true (by symm; rw [decide_eq_true_eq, hm]; omega)
          · rw [if_neg d5]
            by_cases d6 : at_ = 0
            · have e : (at_ == 0) = true := beq_iff_eq.2 d6
              simp only [e]
              exact key true (by symm; rw [decide_eq_true_eq, hm]; omega)
            · have e : (at_ == 0) = false := beq_eq_false_iff_ne.2 d6
              simp only [e]
              exact key false (by symm; rw [decide_eq_false_iff_not, hm]; omega)
        · rw [if_neg d4]; exact key false (by symm; rw [decide_eq_false_iff_not, hm]; omega)
      · rw [if_neg d3]; exact key false (by symm; rw [decide_eq_false_iff_not, hm]; omega)
    · rw [if_neg d2]; exact key false (by symm; rw [decide_eq_false_iff_not, hm]; omega)
  · rw [if_neg d1]; exact key false (by symm; rw [decide_eq_false_iff_not, hm]; omega)

end Go.Proofs.Ytloabiheaelbnaa.Pure
