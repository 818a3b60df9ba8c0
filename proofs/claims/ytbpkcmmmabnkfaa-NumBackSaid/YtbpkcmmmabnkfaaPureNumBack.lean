/- Any 64-bit number and any text go to the reference's bytes behind whatever stands ahead, and are read back whatever stands behind. Condition: none beside the statement's own. -/
import Derived.Test.YtbpkcmmmabnkfaaPNumBackx3
namespace Go.Proofs.Ytbpkcmmmabnkfaa.Pure
open Go.RowKit Go.Proofs.Ytbpkcmmmabnkfaa.PNumBack Go.Proofs.YtbpkcmmmabnkfaaW.PrintWords Go.Proofs.YtbpkcmmmabnkfaaW.PrintLast Go.Proofs.YtbpkcmmmabnkfaaW.PrintMore
theorem or128_all : ∀ y : Fin 256, Go.bits .or .u8 (y.val : Int) 128 = (y.val : Int) % 128 + 128 := by decide +kernel
theorem and127_all : ∀ y : Fin 256, Go.bits .and .u8 (y.val : Int) 127 = (y.val : Int) % 128 := by decide +kernel
theorem or128 (y : Int) (h0 : 0 ≤ y) (h1 : y < 256) : Go.bits .or .u8 y 128 = y % 128 + 128 := by
  have h := or128_all ⟨y.toNat, by omega⟩
  have e : ((y.toNat : Nat) : Int) = y := by omega
  simp only [e] at h; exact h
theorem and127 (y : Int) (h0 : 0 ≤ y) (h1 : y < 256) : Go.bits .and .u8 y 127 = y % 128 := by
  have h := and127_all ⟨y.toNat, by omega⟩
  have e : ((y.toNat : Nat) : Int) = y := by omega
  simp only [e] at h; exact h
theorem wrap_u64 (n : Int) : IntKind.u64.wrap n = n % 18446744073709551616 := by simp [IntKind.wrap, IntKind.bits, IntKind.signed]
theorem not_u64 (x : Nat) (h : x < 18446744073709551616) : Go.bits .xor .u64 18446744073709551615 (x : Int) = 18446744073709551615 - (x : Int) := by
  have e := bits_xor_u64_nat 18446744073709551615 x (by omega) h
  have e2 : (18446744073709551615 : Nat) ^^^ x = 18446744073709551615 - x := by
    have h1 := BitVec.toNat_not (x := BitVec.ofNat 64 x)
    have h2 : (BitVec.ofNat 64 x).toNat = x := by rw [BitVec.toNat_ofNat]; exact Nat.mod_eq_of_lt h
    have h3 : ~~~(BitVec.ofNat 64 x) = BitVec.allOnes 64 ^^^ BitVec.ofNat 64 x := BitVec.allOnes_xor.symm
    rw [h3, BitVec.toNat_xor, h2, BitVec.toNat_allOnes] at h1
    exact h1
  rw [e2] at e
  have e3 : ((18446744073709551615 : Nat) : Int) = 18446744073709551615 := rfl
  rw [e3] at e
  rw [e]; omega
theorem not_i64_all (x : Int) (h0 : 0 ≤ x) (h1 : x < 9223372036854775808) : Go.bits .xor .i64 (-1) x = -1 - x := by
  have h : BitVec.ofInt 64 (-1) = BitVec.allOnes 64 := by decide +kernel
  have e : (BitVec.ofInt 64 x).toNat = x.toNat := by
    rw [BitVec.toNat_ofInt]
    have : x % (2 ^ 64 : Nat) = x := Int.emod_eq_of_lt h0 (by omega)
    rw [this]
  have e2 : (BitVec.ofInt 64 (-1) ^^^ BitVec.ofInt 64 x).toNat = 18446744073709551615 - x.toNat := by
    rw [h, BitVec.allOnes_xor, BitVec.toNat_not, e]
  show IntKind.i64.wrap ((BitVec.ofInt 64 (-1) ^^^ BitVec.ofInt 64 x).toNat : Int) = -1 - x
  rw [e2, IntKind.wrap_i64]
  omega

/-- A number's bytes. -/
def enc (u : Nat) : List Int := if u > 127 then ((u % 128 + 128 : Nat) : Int) :: enc (u / 128) else [(u : Int)]
  termination_by u
  decreasing_by omega
theorem enc_big {u : Nat} (h : u > 127) : enc u = ((u % 128 + 128 : Nat) : Int) :: enc (u / 128) := by rw [enc, if_pos h]
theorem enc_small {u : Nat} (h : ¬ u > 127) : enc u = [(u : Int)] := by rw [enc, if_neg h]
theorem enc_pos (u : Nat) : 0 < (enc u).length := by
  by_cases h : u > 127
  · rw [enc_big h]; simp
  · rw [enc_small h]; simp
theorem enc_le (d : Nat) : ∀ u : Nat, u < 128 ^ (d + 1) → (enc u).length ≤ d + 1 := by
  induction d with
  | zero => intro u h; rw [enc_small (by omega)]; simp
  | succ d ih =>
    intro u h
    by_cases hu : u > 127
    · rw [enc_big hu, List.length_cons]
      have := ih (u / 128) (by rw [Nat.pow_succ] at h; omega)
      omega
    · rw [enc_small hu]; simp

theorem put_l0 (d : Nat) : ∀ (k : Nat) (l : List Int) (u : Nat), u < 128 ^ (d + 1) → d < k → l.length + d + 1 ≤ 140737488355327 → num_Put.l0 k l (u : Int) = some (l ++ enc u) := by
  induction d with
  | zero =>
    intro k l u hu hk hl
    obtain ⟨k, rfl⟩ : ∃ m, k = m + 1 := ⟨k - 1, by omega⟩
    simp only [num_Put.l0]
    rw [if_neg (by omega), if_pos (by omega), enc_small (by omega)]
    congr 3; omega
  | succ d ih =>
    intro k l u hu hk hl
    obtain ⟨k, rfl⟩ : ∃ m, k = m + 1 := ⟨k - 1, by omega⟩
    simp only [num_Put.l0]
    by_cases h : u > 127
    · rw [if_pos (by omega), if_pos (by omega), or128 _ (by omega) (by omega), enc_big h, show ((u : Int) / 128) = ((u / 128 : Nat) : Int) by omega, ih k _ (u / 128) (by rw [Nat.pow_succ] at hu; omega) (by omega) (by simp; omega)]
      rw [List.append_assoc]
      congr 3
      rw [List.singleton_append]; congr 1; omega
    · rw [if_neg (by omega), if_pos (by omega), enc_small h]
      congr 3; omega

def zig (n : Int) : Nat := if n < 0 then (-2 * n - 1).toNat else (2 * n).toNat
theorem zig_lt {n : Int} (h0 : -9223372036854775808 ≤ n) (h1 : n ≤ 9223372036854775807) : zig n < 18446744073709551616 := by
  unfold zig; split <;> omega
theorem zig_of {n : Int} (h0 : -9223372036854775808 ≤ n) (h1 : n ≤ 9223372036854775807) :
    (n < 0 → Go.bits .xor .u64 18446744073709551615 (IntKind.u64.wrap ((IntKind.u64.wrap (n)) * 2)) = (zig n : Int)) ∧ (¬ n < 0 → IntKind.u64.wrap ((IntKind.u64.wrap (n)) * 2) = (zig n : Int)) := by
  constructor
  · intro h
    have e : IntKind.u64.wrap ((IntKind.u64.wrap (n)) * 2) = (((18446744073709551616 + 2 * n).toNat : Nat) : Int) := by
      rw [wrap_u64, wrap_u64]; omega
    rw [e, not_u64 _ (by omega)]
    unfold zig; rw [if_pos h]; omega
  · intro h
    rw [wrap_u64, wrap_u64]
    unfold zig; rw [if_neg h]; omega

theorem put_f (k : Nat) (l : List Int) (n : Int) (h0 : -9223372036854775808 ≤ n) (h1 : n ≤ 9223372036854775807) (hk : 12 ≤ k) (hl : l.length ≤ 140737488350000) : num_Put.f k l n = some (l ++ enc (zig n)) := by
  obtain ⟨k, rfl⟩ : ∃ m, k = m + 1 := ⟨k - 1, by omega⟩
  obtain ⟨hz1, hz2⟩ := zig_of h0 h1
  have hz := zig_lt h0 h1
  unfold num_Put.f
  by_cases h : n < 0
  · rw [if_pos h, hz1 h]
    simp only [num_Put.j0]
    exact put_l0 9 k l _ (by omega) (by omega) (by omega)
  · rw [if_neg h, hz2 h]
    simp only [num_Put.j0]
    exact put_l0 9 k l _ (by omega) (by omega) (by omega)

theorem enc10 {n : Int} (h0 : -9223372036854775808 ≤ n) (h1 : n ≤ 9223372036854775807) : (enc (zig n)).length ≤ 10 := enc_le 9 _ (by have := zig_lt h0 h1; omega)
theorem wf64 {n : Int} (h : (Lit.int .i64 n).wf = true) : -9223372036854775808 ≤ n ∧ n ≤ 9223372036854775807 := by
  simp [Lit.wf, IntKind.min, IntKind.max, IntKind.signed, IntKind.bits] at h
  omega
theorem puttext_f (k : Nat) (l : List Int) (s : ByteArray) (hs : s.size ≤ 1000000) (hk : 12 ≤ k) (hl : l.length ≤ 140737480000000) : num_PutText.f k l s = some (l ++ enc (2 * s.size) ++ bytesOf s) := by
  unfold num_PutText.f
  rw [put_f k l _ (by omega) (by omega) hk (by omega)]
  have hz : zig (s.size : Int) = 2 * s.size := by unfold zig; rw [if_neg (by omega)]; omega
  have h10 := enc10 (n := (s.size : Int)) (by omega) (by omega)
  rw [hz] at h10 ⊢
  simp only [Option.bind_some]
  rw [if_pos (by rw [List.length_append]; omega)]

def unz (u : Nat) : Int := if u % 2 = 1 then -1 - (u / 2 : Nat) else ((u / 2 : Nat) : Int)
theorem unz_zig {n : Int} (_h0 : -9223372036854775808 ≤ n) (_h1 : n ≤ 9223372036854775807) : unz (zig n) = n := by
  unfold unz zig
  by_cases h : n < 0
  · rw [if_pos h, if_pos (by omega)]; omega
  · rw [if_neg h, if_neg (by omega)]; omega
theorem pow7 (i : Nat) : (128 : Nat) ^ i = 2 ^ (7 * i) := by rw [Nat.pow_mul]
theorem shl7 (i m : Nat) (hi : i ≤ 9) (h : m * 128 ^ i < 18446744073709551616) : shl .u64 (m : Int) (wrap64 (7 * (i : Int))) = ((m * 128 ^ i : Nat) : Int) := by
  have e : wrap64 (7 * (i : Int)) = 7 * (i : Int) := by unfold wrap64; omega
  have e2 : (7 * (i : Int)).toNat = 7 * i := by omega
  have e3 : min (7 * i) IntKind.u64.bits = 7 * i := Nat.min_eq_left (by simp [IntKind.bits]; omega)
  unfold shl
  rw [e, e2, e3, wrap_u64]
  have e4 : ((m : Int) * 2 ^ (7 * i)) = ((m * 128 ^ i : Nat) : Int) := by
    rw [pow7]; push_cast; rfl
  rw [e4]; omega
theorem or_up (acc m i : Nat) (ha : acc < 128 ^ i) (h : acc + m * 128 ^ i < 18446744073709551616) : Go.bits .or .u64 (acc : Int) ((m * 128 ^ i : Nat) : Int) = ((acc + m * 128 ^ i : Nat) : Int) := by
  rw [bits_or_u64_nat _ _ (by omega) (by omega)]
  congr 1
  rw [Nat.or_comm]
  have e := Nat.two_pow_add_eq_or_of_lt (i := 7 * i) (b := acc) (by rw [← pow7]; exact ha) m
  rw [← pow7, Nat.mul_comm (128 ^ i) m] at e
  omega
theorem one_u64 (x : Nat) (h : x < 18446744073709551616) : Go.bits .and .u64 (x : Int) 1 = (x : Int) % 2 := by
  have e := bits_and_u64_nat x 1 h (by omega)
  rw [Nat.and_one_is_mod] at e
  have e2 : ((1 : Nat) : Int) = 1 := rfl
  rw [e2] at e
  rw [e]; omega
theorem le9 {v i : Nat} (h : v * 128 ^ i < 18446744073709551616) (hv : i = 0 ∨ 1 ≤ v) : i ≤ 9 := by
  rcases hv with rfl | hv
  · omega
  · rcases Nat.lt_or_ge i 10 with h10 | h10
    · omega
    · have h1 : (128 : Nat) ^ 10 ≤ 128 ^ i := Nat.pow_le_pow_right (by decide) h10
      have h2 : 1 * 128 ^ i ≤ v * 128 ^ i := Nat.mul_le_mul_right _ hv
      omega
theorem get_end (k : Nat) (u i : Nat) (hu : u < 18446744073709551616) (hi : i ≤ 9) (hk : 1 ≤ k) : num_Get.j2 k (u : Int) (i : Int) false = some (unz u, (i : Int) + 1, 0) := by
  obtain ⟨k, rfl⟩ : ∃ m, k = m + 1 := ⟨k - 1, by omega⟩
  have ew : wrap64 ((i : Int) + 1) = (i : Int) + 1 := by unfold wrap64; omega
  have eh : wrap64 ((u : Int) / 2) = (u : Int) / 2 := by unfold wrap64; omega
  simp only [num_Get.j2]
  rw [if_neg (by decide), one_u64 u hu, ew, eh]
  unfold unz
  by_cases h : u % 2 = 1
  · rw [if_pos (by omega), if_pos h, not_i64_all _ (by omega) (by omega)]
    congr 3
  · rw [if_neg (by omega), if_neg h]
    congr 3

theorem drop_cons {l tl : List Int} {c : Int} {i : Nat} (h : l.drop i = c :: tl) : i < l.length ∧ rd l (i : Int) = c ∧ l.drop (i + 1) = tl := by
  have hlt : i < l.length := by
    rcases Nat.lt_or_ge i l.length with h1 | h1
    · exact h1
    · rw [List.drop_of_length_le h1] at h; cases h
  rw [List.drop_eq_getElem_cons hlt] at h
  injection h with h1 h2
  refine ⟨hlt, ?_, h2⟩
  unfold rd
  have e : ((i : Int)).toNat = i := by omega
  rw [e, List.getD_eq_getElem?_getD, List.getElem?_eq_getElem hlt]; exact h1

theorem get_last (l : List Int) (_hL : l.length ≤ 100000000) (k acc v i : Nat) (rest : List Int) (hv : v < 128) (hk : 3 < k) (hl : l.drop i = enc v ++ rest) (ha : acc < 128 ^ i) (hb : acc + v * 128 ^ i < 18446744073709551616) (h1 : i = 0 ∨ 1 ≤ v) :
    num_Get.l0 k (acc : Int) l (l.length : Int) (i : Int) = some (unz (acc + v * 128 ^ i), (i : Int) + (enc v).length, 0) := by
  obtain ⟨k, rfl⟩ : ∃ m, k = m + 2 := ⟨k - 2, by omega⟩
  have hi : i ≤ 9 := le9 (by omega) h1
  rw [enc_small (by omega)] at hl ⊢
  obtain ⟨hlt, hr, _⟩ := drop_cons hl
  have hs := shl7 i v hi (by omega)
  have ho := or_up acc v i ha hb
  have e7 : wrap64 (7 * (i : Int)) = 7 * (i : Int) := by unfold wrap64; omega
  simp only [num_Get.l0]
  rw [if_pos (by omega), if_pos (by omega), if_pos (by omega), hr]
  have hb9 : (if (i : Int) = 9 then num_Get.j1 (k + 1) (acc : Int) (i : Int) (v : Int) l (l.length : Int) (i : Int) (decide ((v : Int) > 1)) else num_Get.j1 (k + 1) (acc : Int) (i : Int) (v : Int) l (l.length : Int) (i : Int) false) = num_Get.j1 (k + 1) (acc : Int) (i : Int) (v : Int) l (l.length : Int) (i : Int) false := by
    by_cases h9 : (i : Int) = 9
    · rw [if_pos h9]
      have h9' : i = 9 := by omega
      subst h9'
      have : decide ((v : Int) > 1) = false := by simp; omega
      rw [this]
    · rw [if_neg h9]
  rw [hb9]
  simp only [num_Get.j1]
  rw [e7] at hs
  rw [if_neg (by decide), e7, if_pos (by omega), if_neg (by omega), and127 _ (by omega) (by omega), show ((v : Int) % 128) = (v : Int) by omega, show IntKind.u64.wrap (v : Int) = (v : Int) by rw [wrap_u64]; omega, hs, ho]
  have hz : (if (i : Int) > 0 then num_Get.j2 k ((acc + v * 128 ^ i : Nat) : Int) (i : Int) ((v : Int) == 0) else num_Get.j2 k ((acc + v * 128 ^ i : Nat) : Int) (i : Int) false) = num_Get.j2 k ((acc + v * 128 ^ i : Nat) : Int) (i : Int) false := by
    by_cases h0 : (i : Int) > 0
    · rw [if_pos h0]
      have : ((v : Int) == 0) = false := by simp; omega
      rw [this]
    · rw [if_neg h0]
  rw [hz, get_end k _ i hb hi (by omega)]
  have e1 : ((([(v : Int)] : List Int).length : Nat) : Int) = 1 := rfl
  rw [e1]

theorem get_step (l : List Int) (k acc i m acc2 : Nat) (hlt : i < l.length) (hi : i ≤ 8) (hm : m < 128) (hr : rd l (i : Int) = ((m + 128 : Nat) : Int)) (ho : Go.bits .or .u64 (acc : Int) (shl .u64 (m : Int) (7 * (i : Int))) = (acc2 : Int)) :
    num_Get.l0 (k + 2) (acc : Int) l (l.length : Int) (i : Int) = num_Get.l0 k (acc2 : Int) l (l.length : Int) ((i + 1 : Nat) : Int) := by
  have e7 : wrap64 (7 * (i : Int)) = 7 * (i : Int) := by unfold wrap64; omega
  have ew : wrap64 ((i : Int) + 1) = ((i + 1 : Nat) : Int) := by unfold wrap64; omega
  have t1 : (i : Int) < (l.length : Int) := by omega
  have t0 : 0 ≤ (i : Int) := Int.natCast_nonneg _
  have t9 : ¬ (i : Int) = 9 := by omega
  have t7 : 0 ≤ 7 * (i : Int) := by omega
  have tm : ((m + 128 : Nat) : Int) > 127 := by omega
  have em : Go.bits .and .u8 ((m + 128 : Nat) : Int) 127 = (m : Int) := by rw [and127 _ (by omega) (by omega)]; omega
  have eu : IntKind.u64.wrap (m : Int) = (m : Int) := by rw [wrap_u64]; omega
  simp only [num_Get.l0]
  rw [if_pos t1, if_pos t0, if_pos t1, hr, if_neg t9]
  simp only [num_Get.j1]
  rw [if_neg (by decide), e7, if_pos t7, if_pos tm, em, eu, ho, ew]

theorem get_l0 (l : List Int) (hL : l.length ≤ 100000000) (d : Nat) : ∀ (k acc v i : Nat) (rest : List Int), v < 128 ^ (d + 1) → 3 * d + 3 < k → l.drop i = enc v ++ rest → acc < 128 ^ i → acc + v * 128 ^ i < 18446744073709551616 → (i = 0 ∨ 1 ≤ v) →
    num_Get.l0 k (acc : Int) l (l.length : Int) (i : Int) = some (unz (acc + v * 128 ^ i), (i : Int) + (enc v).length, 0) := by
  induction d with
  | zero =>
    intro k acc v i rest hv hk hl ha hb h1
    exact get_last l hL k acc v i rest (by omega) (by omega) hl ha hb h1
  | succ d ih =>
    intro k acc v i rest hv hk hl ha hb h1
    by_cases hbig : v > 127
    · obtain ⟨k, rfl⟩ : ∃ m, k = m + 2 := ⟨k - 2, by omega⟩
      have hi : i ≤ 9 := le9 (by omega) h1
      have hk2 : 3 * d + 3 < k := by omega
      have hv1 : 1 ≤ v / 128 := by omega
      have hm : v % 128 < 128 := by omega
      rw [enc_big hbig] at hl ⊢
      obtain ⟨hlt, hr, hd⟩ := drop_cons hl
      have hv2 : v * 128 ^ i = v % 128 * 128 ^ i + v / 128 * 128 ^ (i + 1) := by
        have e := Nat.div_add_mod v 128
        have e2 : v / 128 * 128 ^ (i + 1) = 128 * (v / 128) * 128 ^ i := by rw [Nat.pow_succ, Nat.mul_comm 128 (v / 128), Nat.mul_assoc, Nat.mul_comm (128 ^ i) 128]
        rw [e2, ← Nat.add_mul]; congr 1; omega
      have hi8 : i ≤ 8 := by
        rcases Nat.lt_or_ge i 9 with h9 | h9
        · omega
        · have h9' : i = 9 := by omega
          subst h9'; omega
      have hs := shl7 i (v % 128) hi (by omega)
      have e7 : wrap64 (7 * (i : Int)) = 7 * (i : Int) := by unfold wrap64; omega
      rw [e7] at hs
      have ho := or_up acc (v % 128) i ha (by omega)
      rw [← hs] at ho
      have ha2 : acc + v % 128 * 128 ^ i < 128 ^ (i + 1) := by
        rw [Nat.pow_succ]
        have h3 : v % 128 * 128 ^ i ≤ 127 * 128 ^ i := Nat.mul_le_mul_right _ (by omega)
        omega
      have hq : v / 128 < 128 ^ (d + 1) := by rw [Nat.pow_succ] at hv; omega
      have hsum : acc + v % 128 * 128 ^ i + v / 128 * 128 ^ (i + 1) = acc + v * 128 ^ i := by omega
      rw [get_step l k acc i (v % 128) _ hlt hi8 hm hr ho, ih k _ (v / 128) (i + 1) rest hq hk2 hd ha2 (by rw [hsum]; exact hb) (.inr hv1), hsum]
      have e1 : ((((v % 128 + 128 : Nat) : Int) :: enc (v / 128)).length : Int) = ((enc (v / 128)).length : Int) + 1 := rfl
      have e2 : ((i + 1 : Nat) : Int) + ((enc (v / 128)).length : Int) = (i : Int) + (((enc (v / 128)).length : Int) + 1) := by clear hs ho hsum hv2 ha2 hb ha ih; omega
      rw [e1, e2]
    · exact get_last l hL k acc v i rest (by omega) (by omega) hl ha hb h1

theorem get_f (k : Nat) (n : Int) (rest : List Int) (h0 : -9223372036854775808 ≤ n) (h1 : n ≤ 9223372036854775807) (hk : 40 ≤ k) (hr : rest.length ≤ 10000000) : num_Get.f k (enc (zig n) ++ rest) = some (n, ((enc (zig n)).length : Int), 0) := by
  have hz := zig_lt h0 h1
  have h10 := enc10 h0 h1
  have h := get_l0 (enc (zig n) ++ rest) (by rw [List.length_append]; omega) 9 k 0 (zig n) 0 rest (by omega) (by omega) (by simp) (by decide) (by omega) (.inl rfl)
  unfold num_Get.f
  have e : ((0 : Nat) : Int) = 0 := rfl
  rw [e] at h
  rw [h]
  simp [unz_zig h0 h1]

theorem rput_l0 (d : Nat) : ∀ (k : Nat) (l : List Int) (u : Nat), u < 128 ^ (d + 1) → u < 18446744073709551616 → d < k → l.length + d + 1 ≤ 140737488355327 → recensionref1_Put.l0 k (u : Int) l = some (l ++ enc u) := by
  induction d with
  | zero =>
    intro k l u hu _ hk hl
    obtain ⟨k, rfl⟩ : ∃ m, k = m + 1 := ⟨k - 1, by omega⟩
    simp only [recensionref1_Put.l0]
    rw [if_neg (by omega), if_pos (by omega), enc_small (by omega)]
    congr 3; omega
  | succ d ih =>
    intro k l u hu h64 hk hl
    obtain ⟨k, rfl⟩ : ∃ m, k = m + 1 := ⟨k - 1, by omega⟩
    simp only [recensionref1_Put.l0]
    by_cases h : u > 127
    · have e1 : IntKind.u64.wrap (Int.tdiv (u : Int) 128) = ((u / 128 : Nat) : Int) := by rw [wrap_u64, Int.tdiv_eq_ediv_of_nonneg (by omega)]; omega
      have e2 : (IntKind.u64.wrap ((Int.tmod (u : Int) 128) + 128)) % 256 = ((u % 128 + 128 : Nat) : Int) := by rw [wrap_u64, Int.tmod_eq_emod_of_nonneg (by omega)]; omega
      rw [if_pos (by omega), if_pos (by omega), e1, e2, enc_big h, ih k _ (u / 128) (by rw [Nat.pow_succ] at hu; omega) (by omega) (by omega) (by simp; omega)]
      rw [List.append_assoc, List.singleton_append]
    · rw [if_neg (by omega), if_pos (by omega), enc_small h]
      congr 3; omega
theorem rput_f (k : Nat) (n : Int) (h0 : -9223372036854775808 ≤ n) (h1 : n ≤ 9223372036854775807) (hk : 12 ≤ k) : recensionref1_Put.f k n = some (enc (zig n)) := by
  obtain ⟨k, rfl⟩ : ∃ m, k = m + 1 := ⟨k - 1, by omega⟩
  obtain ⟨hz1, hz2⟩ := zig_of h0 h1
  have hz := zig_lt h0 h1
  have h := rput_l0 9 k [] (zig n) (by omega) hz (by omega) (by simp)
  rw [List.nil_append] at h
  unfold recensionref1_Put.f
  by_cases hn : n < 0
  · rw [if_pos hn, hz1 hn]
    simp only [recensionref1_Put.j0]; exact h
  · rw [if_neg hn, hz2 hn]
    simp only [recensionref1_Put.j0]; exact h
theorem rputtext_f (k : Nat) (s : ByteArray) (hs : s.size ≤ 1000000) (hk : 12 ≤ k) : recensionref1_PutText.f k s = some (enc (2 * s.size) ++ bytesOf s) := by
  unfold recensionref1_PutText.f
  rw [rput_f k _ (by omega) (by omega) hk]
  have hz : zig (s.size : Int) = 2 * s.size := by unfold zig; rw [if_neg (by omega)]; omega
  have h10 := enc10 (n := (s.size : Int)) (by omega) (by omega)
  rw [hz] at h10 ⊢
  simp only [Option.bind_some]
  rw [if_pos (by omega)]
theorem str_back (s : ByteArray) : strOfNums (bytesOf s) = s := by
  obtain ⟨d⟩ := s
  have e : (fun n : Int => UInt8.ofNat n.toNat) ∘ (fun b : UInt8 => (b.toNat : Int)) = id := by
    funext b; simp
  simp [strOfNums, bytesOf, List.map_map, e]
theorem str_append (a b : List Int) : (strOfNums (a ++ b)).toList = (strOfNums a ++ strOfNums b).toList := by
  rw [ByteArray.toList_eq, ByteArray.toList_eq, strOfNums_data, List.map_append]
  simp [strOfNums]

theorem gettext_f (k : Nat) (s : ByteArray) (rest : List Int) (hs : s.size ≤ 60000) (hk : 41 ≤ k) (hr : rest.length ≤ 1000000) :
    num_GetText.f k (enc (2 * s.size) ++ bytesOf s ++ rest) = some (s, ((enc (2 * s.size) ++ bytesOf s).length : Int), 0) := by
  have hz : zig (s.size : Int) = 2 * s.size := by unfold zig; rw [if_neg (by omega)]; omega
  have h10 := enc10 (n := (s.size : Int)) (by omega) (by omega)
  rw [hz] at h10
  have hbl := bytesOf_length s
  obtain ⟨k, rfl⟩ : ∃ q, k = q + 1 := ⟨k - 1, by omega⟩
  have hg := get_f (k + 1) (s.size : Int) (bytesOf s ++ rest) (by omega) (by omega) (by omega) (by rw [List.length_append]; omega)
  rw [hz, ← List.append_assoc] at hg
  have hLl : (enc (2 * s.size) ++ bytesOf s ++ rest).length = (enc (2 * s.size)).length + s.size + rest.length := by rw [List.length_append, List.length_append, hbl]
  unfold num_GetText.f
  rw [hg]
  simp only [Option.bind_some, if_true]
  rw [if_neg (by omega)]
  have e2 : decide ((s.size : Int) > 65536) = false := by simp; omega
  rw [e2]
  simp only [num_GetText.j0]
  have ea : wrap64 (((enc (2 * s.size) ++ bytesOf s ++ rest).length : Int) - ((enc (2 * s.size)).length : Int)) = (s.size : Int) + (rest.length : Int) := by rw [hLl]; unfold wrap64; omega
  have eb : wrap64 (((enc (2 * s.size)).length : Int) + (s.size : Int)) = (((enc (2 * s.size) ++ bytesOf s).length : Nat) : Int) := by rw [List.length_append, hbl]; unfold wrap64; omega
  have ec : ((((enc (2 * s.size) ++ bytesOf s).length : Nat) : Int)).toNat = (enc (2 * s.size) ++ bytesOf s).length := by omega
  have ed : (((enc (2 * s.size)).length : Int)).toNat = (enc (2 * s.size)).length := by omega
  rw [if_neg (by decide), ea, eb, if_neg (by omega), if_pos (by omega), if_pos (by rw [List.length_append]; omega), if_pos (by rw [hLl, List.length_append, hbl]; omega), ec, ed, List.take_left, List.drop_left, str_back]

theorem begun_f : recensionlaw1_begun.f 40 = some true := by decide +kernel
theorem cut_f (s : ByteArray) (n : Nat) : ∃ t : ByteArray, recensionlaw1_Cut.f s (n : Int) = some t ∧ t.size ≤ n := by
  unfold recensionlaw1_Cut.f
  by_cases h : (s.size : Int) > n
  · rw [if_pos h, if_pos (by omega), if_pos (by omega)]
    exact ⟨_, rfl, by simp; omega⟩
  · rw [if_neg h]
    exact ⟨s, rfl, by omega⟩
theorem short_f (s : List Int) (n : Nat) : ∃ t : List Int, recensionlaw1_Short.f s (n : Int) = some t ∧ t.length ≤ n := by
  unfold recensionlaw1_Short.f
  by_cases h : (s.length : Int) > n
  · rw [if_pos h, if_pos (by omega), if_pos (by omega)]
    exact ⟨_, rfl, by simp; omega⟩
  · rw [if_neg h]
    exact ⟨s, rfl, by omega⟩

theorem NumBack : recensionlaw1_NumBack.Pure := by
  intro l0 l1 n s _ _ _ _ _ _ hw _
  obtain ⟨h0, h1⟩ := wf64 hw
  obtain ⟨t, ht, hs⟩ := cut_f s 100
  obtain ⟨A, hA, hAl⟩ := short_f l0 20
  obtain ⟨R, hR, hRl⟩ := short_f l1 20
  have ht' : recensionlaw1_Cut.f s 100 = some t := ht
  have hA' : recensionlaw1_Short.f l0 20 = some A := hA
  have hR' : recensionlaw1_Short.f l1 20 = some R := hR
  have hb : recensionlaw1_begun.f 300 = some true := at_rounds (fun k => recensionlaw1_begun.mono k) (by omega : 40 ≤ 300) begun_f
  have hp := put_f 300 A n h0 h1 (by omega) (by omega)
  have hq := puttext_f 300 A t (by omega) (by omega) (by omega)
  have hrp := rput_f 300 n h0 h1 (by omega)
  have hrq := rputtext_f 300 t (by omega) (by omega)
  have hg := get_f 299 n R h0 h1 (by omega) (by omega)
  have hgt := gettext_f 299 t R (by omega) (by omega) (by omega)
  have hz : zig (t.size : Int) = 2 * t.size := by unfold zig; rw [if_neg (by omega)]; omega
  have h10t := enc10 (n := (t.size : Int)) (by omega) (by omega)
  rw [hz] at h10t
  have h10 := enc10 h0 h1
  have hbl := bytesOf_length t
  rw [List.append_assoc] at hq
  generalize hX : enc (zig n) = X at hp hrp hg h10
  have hYl : (enc (2 * t.size) ++ bytesOf t).length ≤ 200 := by rw [List.length_append]; omega
  generalize hY : enc (2 * t.size) ++ bytesOf t = Y at hq hrq hgt hYl
  refine ⟨300, ?_⟩
  unfold recensionlaw1_NumBack.f
  rw [hb, hA', hR', ht']
  simp only [Option.bind_some, if_true, List.nil_append, hp, hq, hrp, hrq]
  have ew1 : wrap64 (((A ++ X).length : Int) - (A.length : Int)) = (X.length : Int) := by rw [List.length_append]; unfold wrap64; omega
  have ew2 : wrap64 (((A ++ Y).length : Int) - (A.length : Int)) = (Y.length : Int) := by rw [List.length_append]; unfold wrap64; omega
  have en : ((A.length : Int)).toNat = A.length := by omega
  rw [if_pos (by simp; omega), if_pos (by rw [strOfNums_size, strOfNums_size]; omega), if_pos (str_append A X), if_pos (by rw [strOfNums_size, strOfNums_size]; omega)]
  have eb : ((strOfNums (A ++ Y)).toList != ((strOfNums A) ++ (strOfNums Y)).toList) = false := by rw [str_append]; simp
  rw [eb]
  simp only [recensionlaw1_NumBack.j0]
  rw [if_neg (by decide), if_pos (by omega), if_pos (by rw [List.length_append]; omega), en, List.drop_left]
  simp only [Option.bind_some, List.nil_append]
  rw [if_pos (by simp; omega), if_pos (by omega), hg]
  simp only [Option.bind_some]
  rw [if_pos (by rw [List.length_append]; omega), List.drop_left, if_pos (by simp; omega), if_pos (by omega), hgt, ew1, ew2]
  simp

end Go.Proofs.Ytbpkcmmmabnkfaa.Pure
