/- Lists that may be go to bytes and back, each name is found where it stands, and two lists have one text just if they are the same; other lists have no bytes. Condition: none beside the statement's own. -/
import Derived.Test.YtloabiheaelbnaaPDirAllx9
namespace Go.Proofs.Ytloabiheaelbnaa.Pure
open Go.RowKit Go.Proofs.Ytloabiheaelbnaa.PDirAll Go.Proofs.YtloabiheaelbnaaW.PrintWords Go.Proofs.YtloabiheaelbnaaW.PrintLast Go.Proofs.YtloabiheaelbnaaW.PrintMore
theorem or128_all : ∀ y : Fin 256, Go.bits .or .u8 (y.val : Int) 128 = (y.val : Int) % 128 + 128 := by decide +kernel
theorem and127_all : ∀ y : Fin 256, Go.bits .and .u8 (y.val : Int) 127 = (y.val : Int) % 128 := by decide +kernel
theorem or128 (y : Int) (h0 : 0 ≤ y) (h1 : y < 256) : Go.bits .or .u8 y 128 = y % 128 + 128 := by
  have h := or128_all ⟨y.toNat, by omega⟩
  have e : ((y.toNat : Nat) : Int) = y := by omega
  simp only [e] at h; exact h
theorem and127 (y : Int) (h0 : 0 ≤ y) (h1 : y < 256) : Go.bits .and .u8 y 127 = y % 128 := by
  have h := and127_all ⟨y.toNat, by omega⟩
  have e : ((y.toNat : Nat) : Int) = y := by omega
  simp only [e] at h; exact h
theorem wrap_u64 (n : Int) : IntKind.u64.wrap n = n % 18446744073709551616 := by simp [IntKind.wrap, IntKind.bits, IntKind.signed]
theorem not_u64 (x : Nat) (h : x < 18446744073709551616) : Go.bits .xor .u64 18446744073709551615 (x : Int) = 18446744073709551615 - (x : Int) := by
  have e := bits_xor_u64_nat 18446744073709551615 x (by omega) h
  have e2 : (18446744073709551615 : Nat) ^^^ x = 18446744073709551615 - x := by
    have h1 := BitVec.toNat_not (x := BitVec.ofNat 64 x)
    have h2 : (BitVec.ofNat 64 x).toNat = x := by rw [BitVec.toNat_ofNat]; exact Nat.mod_eq_of_lt h
    have h3 : ~~~(BitVec.ofNat 64 x) = BitVec.allOnes 64 ^^^ BitVec.ofNat 64 x := BitVec.allOnes_xor.symm
    rw [h3, BitVec.toNat_xor, h2, BitVec.toNat_allOnes] at h1
    exact h1
  rw [e2] at e
  have e3 : ((18446744073709551615 : Nat) : Int) = 18446744073709551615 := rfl
  rw [e3] at e
  rw [e]; omega
theorem not_i64_all (x : Int) (h0 : 0 ≤ x) (h1 : x < 9223372036854775808) : Go.bits .xor .i64 (-1) x = -1 - x := by
  have h : BitVec.ofInt 64 (-1) = BitVec.allOnes 64 := by decide +kernel
  have e : (BitVec.ofInt 64 x).toNat = x.toNat := by
    rw [BitVec.toNat_ofInt]
    have : x % (2 ^ 64 : Nat) = x := Int.emod_eq_of_lt h0 (by omega)
    rw [this]
  have e2 : (BitVec.ofInt 64 (-1) ^^^ BitVec.ofInt 64 x).toNat = 18446744073709551615 - x.toNat := by
    rw [h, BitVec.allOnes_xor, BitVec.toNat_not, e]
  show IntKind.i64.wrap ((BitVec.ofInt 64 (-1) ^^^ BitVec.ofInt 64 x).toNat : Int) = -1 - x
  rw [e2, IntKind.wrap_i64]
  omega

/-- A number's bytes. -/
def enc (u : Nat) : List Int := if u > 127 then ((u % 128 + 128 : Nat) : Int) :: enc (u / 128) else [(u : Int)]
  termination_by u
  decreasing_by omega
theorem enc_big {u : Nat} (h : u > 127) : enc u = ((u % 128 + 128 : Nat) : Int) :: enc (u / 128) := by rw [enc, if_pos h]
theorem enc_small {u : Nat} (h : ¬ u > 127) : enc u = [(u : Int)] := by rw [enc, if_neg h]
theorem enc_pos (u : Nat) : 0 < (enc u).length := by
  by_cases h : u > 127
  · rw [enc_big h]; simp
  · rw [enc_small h]; simp
theorem enc_le (d : Nat) : ∀ u : Nat, u < 128 ^ (d + 1) → (enc u).length ≤ d + 1 := by
  induction d with
  | zero => intro u h; rw [enc_small (by omega)]; simp
  | succ d ih =>
    intro u h
    by_cases hu : u > 127
    · rw [enc_big hu, List.length_cons]
      have := ih (u / 128) (by rw [Nat.pow_succ] at h; omega)
      omega
    · rw [enc_small hu]; simp

theorem put_l0 (d : Nat) : ∀ (k : Nat) (l : List Int) (u : Nat), u < 128 ^ (d + 1) → d < k → l.length + d + 1 ≤ 140737488355327 → num_Put.l0 k l (u : Int) = some (l ++ enc u) := by
  induction d with
  | zero =>
    intro k l u hu hk hl
    obtain ⟨k, rfl⟩ : ∃ m, k = m + 1 := ⟨k - 1, by omega⟩
    simp only [num_Put.l0]
    rw [if_neg (by omega), if_pos (by omega), enc_small (by omega)]
    congr 3; omega
  | succ d ih =>
    intro k l u hu hk hl
    obtain ⟨k, rfl⟩ : ∃ m, k = m + 1 := ⟨k - 1, by omega⟩
    simp only [num_Put.l0]
    by_cases h : u > 127
    · rw [if_pos (by omega), if_pos (by omega), or128 _ (by omega) (by omega), enc_big h, show ((u : Int) / 128) = ((u / 128 : Nat) : Int) by omega, ih k _ (u / 128) (by rw [Nat.pow_succ] at hu; omega) (by omega) (by simp; omega)]
      rw [List.append_assoc]
      congr 3
      rw [List.singleton_append]; congr 1; omega
    · rw [if_neg (by omega), if_pos (by omega), enc_small h]
      congr 3; omega

def zig (n : Int) : Nat := if n < 0 then (-2 * n - 1).toNat else (2 * n).toNat
theorem zig_lt {n : Int} (h0 : -9223372036854775808 ≤ n) (h1 : n ≤ 9223372036854775807) : zig n < 18446744073709551616 := by
  unfold zig; split <;> omega
theorem zig_of {n : Int} (h0 : -9223372036854775808 ≤ n) (h1 : n ≤ 9223372036854775807) :
    (n < 0 → Go.bits .xor .u64 18446744073709551615 (IntKind.u64.wrap ((IntKind.u64.wrap (n)) * 2)) = (zig n : Int)) ∧ (¬ n < 0 → IntKind.u64.wrap ((IntKind.u64.wrap (n)) * 2) = (zig n : Int)) := by
  constructor
  · intro h
    have e : IntKind.u64.wrap ((IntKind.u64.wrap (n)) * 2) = (((18446744073709551616 + 2 * n).toNat : Nat) : Int) := by
      rw [wrap_u64, wrap_u64]; omega
    rw [e, not_u64 _ (by omega)]
    unfold zig; rw [if_pos h]; omega
  · intro h
    rw [wrap_u64, wrap_u64]
    unfold zig; rw [if_neg h]; omega

theorem put_f (k : Nat) (l : List Int) (n : Int) (h0 : -9223372036854775808 ≤ n) (h1 : n ≤ 9223372036854775807) (hk : 12 ≤ k) (hl : l.length ≤ 140737488350000) : num_Put.f k l n = some (l ++ enc (zig n)) := by
  obtain ⟨k, rfl⟩ : ∃ m, k = m + 1 := ⟨k - 1, by omega⟩
  obtain ⟨hz1, hz2⟩ := zig_of h0 h1
  have hz := zig_lt h0 h1
  unfold num_Put.f
  by_cases h : n < 0
  · rw [if_pos h, hz1 h]
    simp only [num_Put.j0]
    exact put_l0 9 k l _ (by omega) (by omega) (by omega)
  · rw [if_neg h, hz2 h]
    simp only [num_Put.j0]
    exact put_l0 9 k l _ (by omega) (by omega) (by omega)

theorem enc10 {n : Int} (h0 : -9223372036854775808 ≤ n) (h1 : n ≤ 9223372036854775807) : (enc (zig n)).length ≤ 10 := enc_le 9 _ (by have := zig_lt h0 h1; omega)

def unz (u : Nat) : Int := if u % 2 = 1 then -1 - (u / 2 : Nat) else ((u / 2 : Nat) : Int)
theorem unz_zig {n : Int} (_h0 : -9223372036854775808 ≤ n) (_h1 : n ≤ 9223372036854775807) : unz (zig n) = n := by
  unfold unz zig
  by_cases h : n < 0
  · rw [if_pos h, if_pos (by omega)]; omega
  · rw [if_neg h, if_neg (by omega)]; omega
theorem pow7 (i : Nat) : (128 : Nat) ^ i = 2 ^ (7 * i) := by rw [Nat.pow_mul]
theorem shl7 (i m : Nat) (hi : i ≤ 9) (h : m * 128 ^ i < 18446744073709551616) : shl .u64 (m : Int) (wrap64 (7 * (i : Int))) = ((m * 128 ^ i : Nat) : Int) := by
  have e : wrap64 (7 * (i : Int)) = 7 * (i : Int) := by unfold wrap64; omega
  have e2 : (7 * (i : Int)).toNat = 7 * i := by omega
  have e3 : min (7 * i) IntKind.u64.bits = 7 * i := Nat.min_eq_left (by simp [IntKind.bits]; omega)
  unfold shl
  rw [e, e2, e3, wrap_u64]
  have e4 : ((m : Int) * 2 ^ (7 * i)) = ((m * 128 ^ i : Nat) : Int) := by
    rw [pow7]; push_cast; rfl
  rw [e4]; omega
theorem or_up (acc m i : Nat) (ha : acc < 128 ^ i) (h : acc + m * 128 ^ i < 18446744073709551616) : Go.bits .or .u64 (acc : Int) ((m * 128 ^ i : Nat) : Int) = ((acc + m * 128 ^ i : Nat) : Int) := by
  rw [bits_or_u64_nat _ _ (by omega) (by omega)]
  congr 1
  rw [Nat.or_comm]
  have e := Nat.two_pow_add_eq_or_of_lt (i := 7 * i) (b := acc) (by rw [← pow7]; exact ha) m
  rw [← pow7, Nat.mul_comm (128 ^ i) m] at e
  omega
theorem one_u64 (x : Nat) (h : x < 18446744073709551616) : Go.bits .and .u64 (x : Int) 1 = (x : Int) % 2 := by
  have e := bits_and_u64_nat x 1 h (by omega)
  rw [Nat.and_one_is_mod] at e
  have e2 : ((1 : Nat) : Int) = 1 := rfl
  rw [e2] at e
  rw [e]; omega
theorem le9 {v i : Nat} (h : v * 128 ^ i < 18446744073709551616) (hv : i = 0 ∨ 1 ≤ v) : i ≤ 9 := by
  rcases hv with rfl | hv
  · omega
  · rcases Nat.lt_or_ge i 10 with h10 | h10
    · omega
    · have h1 : (128 : Nat) ^ 10 ≤ 128 ^ i := Nat.pow_le_pow_right (by decide) h10
      have h2 : 1 * 128 ^ i ≤ v * 128 ^ i := Nat.mul_le_mul_right _ hv
      omega
theorem get_end (k : Nat) (u i : Nat) (hu : u < 18446744073709551616) (hi : i ≤ 9) (hk : 1 ≤ k) : num_Get.j2 k (u : Int) (i : Int) false = some (unz u, (i : Int) + 1, 0) := by
  obtain ⟨k, rfl⟩ : ∃ m, k = m + 1 := ⟨k - 1, by omega⟩
  have ew : wrap64 ((i : Int) + 1) = (i : Int) + 1 := by unfold wrap64; omega
  have eh : wrap64 ((u : Int) / 2) = (u : Int) / 2 := by unfold wrap64; omega
  simp only [num_Get.j2]
  rw [if_neg (by decide), one_u64 u hu, ew, eh]
  unfold unz
  by_cases h : u % 2 = 1
  · rw [if_pos (by omega), if_pos h, not_i64_all _ (by omega) (by omega)]
    congr 3
  · rw [if_neg (by omega), if_neg h]
    congr 3

theorem drop_cons {l tl : List Int} {c : Int} {i : Nat} (h : l.drop i = c :: tl) : i < l.length ∧ rd l (i : Int) = c ∧ l.drop (i + 1) = tl := by
  have hlt : i < l.length := by
    rcases Nat.lt_or_ge i l.length with h1 | h1
    · exact h1
    · rw [List.drop_of_length_le h1] at h; cases h
  rw [List.drop_eq_getElem_cons hlt] at h
  injection h with h1 h2
  refine ⟨hlt, ?_, h2⟩
  unfold rd
  have e : ((i : Int)).toNat = i := by omega
  rw [e, List.getD_eq_getElem?_getD, List.getElem?_eq_getElem hlt]; exact h1

theorem get_last (l : List Int) (_hL : l.length ≤ 100000000) (k acc v i : Nat) (rest : List Int) (hv : v < 128) (hk : 3 < k) (hl : l.drop i = enc v ++ rest) (ha : acc < 128 ^ i) (hb : acc + v * 128 ^ i < 18446744073709551616) (h1 : i = 0 ∨ 1 ≤ v) :
    num_Get.l0 k (acc : Int) l (l.length : Int) (i : Int) = some (unz (acc + v * 128 ^ i), (i : Int) + (enc v).length, 0) := by
  obtain ⟨k, rfl⟩ : ∃ m, k = m + 2 := ⟨k - 2, by omega⟩
  have hi : i ≤ 9 := le9 (by omega) h1
  rw [enc_small (by omega)] at hl ⊢
  obtain ⟨hlt, hr, _⟩ := drop_cons hl
  have hs := shl7 i v hi (by omega)
  have ho := or_up acc v i ha hb
  have e7 : wrap64 (7 * (i : Int)) = 7 * (i : Int) := by unfold wrap64; omega
  simp only [num_Get.l0]
  rw [if_pos (by omega), if_pos (by omega), if_pos (by omega), hr]
  have hb9 : (if (i : Int) = 9 then num_Get.j1 (k + 1) (acc : Int) (i : Int) (v : Int) l (l.length : Int) (i : Int) (decide ((v : Int) > 1)) else num_Get.j1 (k + 1) (acc : Int) (i : Int) (v : Int) l (l.length : Int) (i : Int) false) = num_Get.j1 (k + 1) (acc : Int) (i : Int) (v : Int) l (l.length : Int) (i : Int) false := by
    by_cases h9 : (i : Int) = 9
    · rw [if_pos h9]
      have h9' : i = 9 := by omega
      subst h9'
      have : decide ((v : Int) > 1) = false := by simp; omega
      rw [this]
    · rw [if_neg h9]
  rw [hb9]
  simp only [num_Get.j1]
  rw [e7] at hs
  rw [if_neg (by decide), e7, if_pos (by omega), if_neg (by omega), and127 _ (by omega) (by omega), show ((v : Int) % 128) = (v : Int) by omega, show IntKind.u64.wrap (v : Int) = (v : Int) by rw [wrap_u64]; omega, hs, ho]
  have hz : (if (i : Int) > 0 then num_Get.j2 k ((acc + v * 128 ^ i : Nat) : Int) (i : Int) ((v : Int) == 0) else num_Get.j2 k ((acc + v * 128 ^ i : Nat) : Int) (i : Int) false) = num_Get.j2 k ((acc + v * 128 ^ i : Nat) : Int) (i : Int) false := by
    by_cases h0 : (i : Int) > 0
    · rw [if_pos h0]
      have : ((v : Int) == 0) = false := by simp; omega
      rw [this]
    · rw [if_neg h0]
  rw [hz, get_end k _ i hb hi (by omega)]
  have e1 : ((([(v : Int)] : List Int).length : Nat) : Int) = 1 := rfl
  rw [e1]

theorem get_step (l : List Int) (k acc i m acc2 : Nat) (hlt : i < l.length) (hi : i ≤ 8) (hm : m < 128) (hr : rd l (i : Int) = ((m + 128 : Nat) : Int)) (ho : Go.bits .or .u64 (acc : Int) (shl .u64 (m : Int) (7 * (i : Int))) = (acc2 : Int)) :
    num_Get.l0 (k + 2) (acc : Int) l (l.length : Int) (i : Int) = num_Get.l0 k (acc2 : Int) l (l.length : Int) ((i + 1 : Nat) : Int) := by
  have e7 : wrap64 (7 * (i : Int)) = 7 * (i : Int) := by unfold wrap64; omega
  have ew : wrap64 ((i : Int) + 1) = ((i + 1 : Nat) : Int) := by unfold wrap64; omega
  have t1 : (i : Int) < (l.length : Int) := by omega
  have t0 : 0 ≤ (i : Int) := Int.natCast_nonneg _
  have t9 : ¬ (i : Int) = 9 := by omega
  have t7 : 0 ≤ 7 * (i : Int) := by omega
  have tm : ((m + 128 : Nat) : Int) > 127 := by omega
  have em : Go.bits .and .u8 ((m + 128 : Nat) : Int) 127 = (m : Int) := by rw [and127 _ (by omega) (by omega)]; omega
  have eu : IntKind.u64.wrap (m : Int) = (m : Int) := by rw [wrap_u64]; omega
  simp only [num_Get.l0]
  rw [if_pos t1, if_pos t0, if_pos t1, hr, if_neg t9]
  simp only [num_Get.j1]
  rw [if_neg (by decide), e7, if_pos t7, if_pos tm, em, eu, ho, ew]

theorem get_l0 (l : List Int) (hL : l.length ≤ 100000000) (d : Nat) : ∀ (k acc v i : Nat) (rest : List Int), v < 128 ^ (d + 1) → 3 * d + 3 < k → l.drop i = enc v ++ rest → acc < 128 ^ i → acc + v * 128 ^ i < 18446744073709551616 → (i = 0 ∨ 1 ≤ v) →
    num_Get.l0 k (acc : Int) l (l.length : Int) (i : Int) = some (unz (acc + v * 128 ^ i), (i : Int) + (enc v).length, 0) := by
  induction d with
  | zero =>
    intro k acc v i rest hv hk hl ha hb h1
    exact get_last l hL k acc v i rest (by omega) (by omega) hl ha hb h1
  | succ d ih =>
    intro k acc v i rest hv hk hl ha hb h1
    by_cases hbig : v > 127
    · obtain ⟨k, rfl⟩ : ∃ m, k = m + 2 := ⟨k - 2, by omega⟩
      have hi : i ≤ 9 := le9 (by omega) h1
      have hk2 : 3 * d + 3 < k := by omega
      have hv1 : 1 ≤ v / 128 := by omega
      have hm : v % 128 < 128 := by omega
      rw [enc_big hbig] at hl ⊢
      obtain ⟨hlt, hr, hd⟩ := drop_cons hl
      have hv2 : v * 128 ^ i = v % 128 * 128 ^ i + v / 128 * 128 ^ (i + 1) := by
        have e := Nat.div_add_mod v 128
        have e2 : v / 128 * 128 ^ (i + 1) = 128 * (v / 128) * 128 ^ i := by rw [Nat.pow_succ, Nat.mul_comm 128 (v / 128), Nat.mul_assoc, Nat.mul_comm (128 ^ i) 128]
        rw [e2, ← Nat.add_mul]; congr 1; omega
      have hi8 : i ≤ 8 := by
        rcases Nat.lt_or_ge i 9 with h9 | h9
        · omega
        · have h9' : i = 9 := by omega
          subst h9'; omega
      have hs := shl7 i (v % 128) hi (by omega)
      have e7 : wrap64 (7 * (i : Int)) = 7 * (i : Int) := by unfold wrap64; omega
      rw [e7] at hs
      have ho := or_up acc (v % 128) i ha (by omega)
      rw [← hs] at ho
      have ha2 : acc + v % 128 * 128 ^ i < 128 ^ (i + 1) := by
        rw [Nat.pow_succ]
        have h3 : v % 128 * 128 ^ i ≤ 127 * 128 ^ i := Nat.mul_le_mul_right _ (by omega)
        omega
      have hq : v / 128 < 128 ^ (d + 1) := by rw [Nat.pow_succ] at hv; omega
      have hsum : acc + v % 128 * 128 ^ i + v / 128 * 128 ^ (i + 1) = acc + v * 128 ^ i := by omega
      rw [get_step l k acc i (v % 128) _ hlt hi8 hm hr ho, ih k _ (v / 128) (i + 1) rest hq hk2 hd ha2 (by rw [hsum]; exact hb) (.inr hv1), hsum]
      have e1 : ((((v % 128 + 128 : Nat) : Int) :: enc (v / 128)).length : Int) = ((enc (v / 128)).length : Int) + 1 := rfl
      have e2 : ((i + 1 : Nat) : Int) + ((enc (v / 128)).length : Int) = (i : Int) + (((enc (v / 128)).length : Int) + 1) := by clear hs ho hsum hv2 ha2 hb ha ih; omega
      rw [e1, e2]
    · exact get_last l hL k acc v i rest (by omega) (by omega) hl ha hb h1

theorem get_f (k : Nat) (n : Int) (rest : List Int) (h0 : -9223372036854775808 ≤ n) (h1 : n ≤ 9223372036854775807) (hk : 40 ≤ k) (hr : rest.length ≤ 10000000) : num_Get.f k (enc (zig n) ++ rest) = some (n, ((enc (zig n)).length : Int), 0) := by
  have hz := zig_lt h0 h1
  have h10 := enc10 h0 h1
  have h := get_l0 (enc (zig n) ++ rest) (by rw [List.length_append]; omega) 9 k 0 (zig n) 0 rest (by omega) (by omega) (by simp) (by decide) (by omega) (.inl rfl)
  unfold num_Get.f
  have e : ((0 : Nat) : Int) = 0 := rfl
  rw [e] at h
  rw [h]
  simp [unz_zig h0 h1]
theorem wsm {x : Int} (h0 : -9223372036854775808 ≤ x) (h1 : x ≤ 9223372036854775807) : wrap64 x = x := by
  unfold wrap64
  omega
theorem w_cast (i : Int) (h0 : -3000000 ≤ i) (h : i ≤ 3000000) : wrap64 i = i := wsm (by omega) (by omega)
theorem w_succ (i : Nat) (h : i ≤ 2000000) : wrap64 ((i : Int) + 1) = ((i + 1 : Nat) : Int) := by rw [wsm (by omega) (by omega)]; omega
theorem w_pred (i : Nat) (h : i ≤ 2000000) : wrap64 (((i + 1 : Nat) : Int) - 1) = (i : Int) := by rw [wsm (by omega) (by omega)]; omega
/-- May an entry be, by itself? -/
def may1 (e : S32) : Prop := 1 ≤ e.f0.size ∧ e.f0.size ≤ 20 ∧ 0 ≤ e.f1 ∧ e.f1 ≤ 65536 ∧ e.f2.f1 = (e.f1 + 63) / 64 ∧ 0 ≤ e.f2.f0 ∧ e.f2.f0 ≤ 2048 ∧ (0 < e.f1 ∨ e.f2.f0 = 0)
instance (e : S32) : Decidable (may1 e) := by unfold may1; exact inferInstance
def less (a b : S32) : Prop := Op.bytesLess a.f0.toList b.f0.toList = true
instance (a b : S32) : Decidable (less a b) := by unfold less; exact inferInstance
/-- From a place on each entry may be, and stands behind the one ahead. -/
def okFrom (l : List S32) (i : Nat) : Prop := ∀ j e, i ≤ j → l[j]? = some e → may1 e ∧ (∀ p, 0 < j → l[j - 1]? = some p → less p e)
theorem rd_get (l : List S32) (i : Int) (n : Nat) (e : i = n) (x : S32) (h : l[n]? = some x) : rd_T32 l i = x := by
  subst e
  unfold rd_T32
  simp [h]
theorem sect (n : Int) (h0 : 0 ≤ n) (h1 : n ≤ 65536) : dir_Sectors.f n = some ((n + 63) / 64) := by
  unfold dir_Sectors.f
  rw [w_cast (n + 64) (by omega) (by omega), w_cast (n + 64 - 1) (by omega) (by omega), Int.tdiv_eq_ediv_of_nonneg (by omega), w_cast _ (by omega) (by omega)]
  congr 2; omega
theorem may_f (e : S32) : dir_may.f e.f0 e.f1 e.f2.f0 e.f2.f1 = some (decide (may1 e)) := by
  unfold dir_may.f
  by_cases h1 : (e.f0.size : Int) < 1
  · rw [if_pos h1]; congr 1; symm; rw [decide_eq_false_iff_not]; unfold may1; omega
  rw [if_neg h1]
  by_cases h2 : (e.f0.size : Int) > 20
  · rw [if_pos h2]; congr 1; symm; rw [decide_eq_false_iff_not]; unfold may1; omega
  rw [if_neg h2]
  by_cases h3 : e.f1 < 0
  · rw [if_pos h3]; congr 1; symm; rw [decide_eq_false_iff_not]; unfold may1; omega
  rw [if_neg h3]
  by_cases h4 : e.f1 > 65536
  · rw [if_pos h4]; congr 1; symm; rw [decide_eq_false_iff_not]; unfold may1; omega
  rw [if_neg h4, sect e.f1 (by omega) (by omega), Option.bind_some]
  by_cases h5 : e.f2.f1 = (e.f1 + 63) / 64
  · rw [if_pos h5]
    by_cases h6 : e.f2.f0 ≥ 0
    · rw [if_pos h6]
      by_cases h7 : e.f2.f0 ≤ 2048
      · rw [if_pos h7]
        by_cases h8 : e.f1 > 0
        · rw [if_pos h8]; congr 1; symm; rw [decide_eq_true_eq]; unfold may1; omega
        · rw [if_neg h8]; congr 1
          by_cases h9 : e.f2.f0 = 0
          · rw [h9]; symm; rw [beq_self_eq_true, decide_eq_true_eq]; unfold may1; omega
          · rw [beq_eq_false_iff_ne.2 h9]; symm; rw [decide_eq_false_iff_not]; unfold may1; omega
      · rw [if_neg h7]; congr 1; symm; rw [decide_eq_false_iff_not]; unfold may1; omega
    · rw [if_neg h6]; congr 1; symm; rw [decide_eq_false_iff_not]; unfold may1; omega
  · rw [if_neg h5]; congr 1; symm; rw [decide_eq_false_iff_not]; unfold may1; omega
theorem ok_end (l : List S32) (i : Nat) (h : l.length ≤ i) : okFrom l i := by
  intro j e hj he
  have := (List.getElem?_eq_some_iff.1 he).1
  omega
theorem ok_step (l : List S32) (i : Nat) (e : S32) (he : l[i]? = some e) : okFrom l i ↔ (may1 e ∧ (∀ p, 0 < i → l[i - 1]? = some p → less p e)) ∧ okFrom l (i + 1) := by
  constructor
  · intro h; exact ⟨h i e (Nat.le_refl _) he, fun j e' hj he' => h j e' (by omega) he'⟩
  · rintro ⟨h1, h2⟩ j e' hj he'
    by_cases hji : j = i
    · subst hji
      rw [he] at he'
      obtain rfl := Option.some.inj he'
      exact h1
    · exact h2 j e' (by omega) he'
theorem May_l0 (l : List S32) (hl : l.length ≤ 1000000) (d : Nat) : ∀ (k i : Nat), i + d = l.length → d < k →
    (okFrom l i → dir_May.l0 k l l (l.length : Int) (i : Int) = some (decide (l.length ≤ 32))) ∧ (¬ okFrom l i → dir_May.l0 k l l (l.length : Int) (i : Int) = some false) := by
  induction d with
  | zero =>
    intro k i hd hk
    obtain ⟨k, rfl⟩ : ∃ m, k = m + 1 := ⟨k - 1, by omega⟩
    refine ⟨fun _ => ?_, fun h => absurd (ok_end l i (by omega)) h⟩
    simp only [dir_May.l0]
    rw [if_neg (by omega)]
    congr 1
    exact decide_eq_decide.2 (by omega)
  | succ d ih =>
    intro k i hd hk
    obtain ⟨k, rfl⟩ : ∃ m, k = m + 1 := ⟨k - 1, by omega⟩
    have hlt : i < l.length := by omega
    have hg : l[i]? = some l[i] := List.getElem?_eq_getElem hlt
    have hr := rd_get l (i : Int) i rfl _ hg
    obtain ⟨ih1, ih2⟩ := ih k (i + 1) (by omega) (by omega)
    have hs := ok_step l i _ hg
    simp only [dir_May.l0, hr, w_succ i (by omega)]
    rw [if_pos (by omega), if_pos (by omega), if_pos (by omega), may_f, Option.bind_some]
    by_cases hm : may1 l[i]
    · rw [if_pos (by simpa using hm)]
      cases i with
      | zero =>
        rw [if_neg (by omega)]
        have hiff : okFrom l 0 ↔ okFrom l 1 := by
          rw [hs]; exact ⟨fun h => h.2, fun h => ⟨⟨hm, fun p hp => absurd hp (by omega)⟩, h⟩⟩
        rw [hiff]
        exact ⟨ih1, ih2⟩
      | succ i =>
        have hg2 : l[i]? = some l[i] := List.getElem?_eq_getElem (by omega)
        have hr2 := rd_get l (i : Int) i rfl _ hg2
        rw [if_pos (by omega), w_pred i (by omega), if_pos (by omega), if_pos (by omega), hr2]
        have hiff : okFrom l (i + 1) ↔ less l[i] l[i + 1] ∧ okFrom l (i + 1 + 1) := by
          rw [hs]
          constructor
          · rintro ⟨⟨_, h⟩, h2⟩; exact ⟨h l[i] (by omega) (by simp), h2⟩
          · rintro ⟨h, h2⟩
            refine ⟨⟨hm, fun p _ hp => ?_⟩, h2⟩
            rw [show i + 1 - 1 = i by omega, hg2] at hp
            obtain rfl := Option.some.inj hp
            exact h
        by_cases hle : Op.bytesLess l[i].f0.toList l[i + 1].f0.toList = true
        · rw [if_pos hle]
          exact ⟨fun h => ih1 (hiff.1 h).2, fun h => ih2 (fun h2 => h (hiff.2 ⟨hle, h2⟩))⟩
        · rw [if_neg hle]
          exact ⟨fun h => absurd (hiff.1 h).1 hle, fun _ => rfl⟩
    · rw [if_neg (by simpa using hm)]
      exact ⟨fun h => absurd (hs.1 h).1.1 hm, fun _ => rfl⟩
theorem May_yes (k : Nat) (l : List S32) (hl : l.length ≤ 1000000) (hk : l.length < k) (h : okFrom l 0) (h32 : l.length ≤ 32) : dir_May.f k l = some true := by
  have := (May_l0 l hl l.length k 0 (by omega) hk).1 h
  unfold dir_May.f
  rw [show (0 : Int) = ((0 : Nat) : Int) from rfl, this, decide_eq_true h32]
theorem May_no (k : Nat) (l : List S32) (hl : l.length ≤ 1000000) (hk : l.length < k) (h : ¬ (okFrom l 0 ∧ l.length ≤ 32)) : dir_May.f k l = some false := by
  obtain ⟨h1, h2⟩ := May_l0 l hl l.length k 0 (by omega) hk
  unfold dir_May.f
  by_cases ho : okFrom l 0
  · have := h1 ho
    rw [show (0 : Int) = ((0 : Nat) : Int) from rfl, this, decide_eq_false (fun e => h ⟨ho, e⟩)]
  · exact h2 ho
theorem puttext_f (k : Nat) (l : List Int) (s : ByteArray) (hs : s.size ≤ 1000000) (hk : 12 ≤ k) (hl : l.length ≤ 140737480000000) : num_PutText.f k l s = some (l ++ enc (2 * s.size) ++ bytesOf s) := by
  unfold num_PutText.f
  rw [put_f k l _ (by omega) (by omega) hk (by omega)]
  have hz : zig (s.size : Int) = 2 * s.size := by unfold zig; rw [if_neg (by omega)]; omega
  have h10 := enc10 (n := (s.size : Int)) (by omega) (by omega)
  rw [hz] at h10 ⊢
  simp only [Option.bind_some]
  rw [if_pos (by rw [List.length_append]; omega)]
/-- An entry's bytes; a list's. -/
def entB (e : S32) : List Int := enc (2 * e.f0.size) ++ bytesOf e.f0 ++ (enc (zig e.f1) ++ (enc (zig e.f2.f0) ++ enc (zig e.f2.f1)))
def entsB : List S32 → List Int
  | [] => []
  | e :: l => entB e ++ entsB l
def encL (l : List S32) : List Int := enc (zig (l.length : Int)) ++ entsB l
/-- An entry whose numbers are numbers. -/
def num1 (e : S32) : Prop := e.f0.size ≤ 50000 ∧ (-9223372036854775808 ≤ e.f1 ∧ e.f1 ≤ 9223372036854775807) ∧ (-9223372036854775808 ≤ e.f2.f0 ∧ e.f2.f0 ≤ 9223372036854775807) ∧ (-9223372036854775808 ≤ e.f2.f1 ∧ e.f2.f1 ≤ 9223372036854775807)
theorem entB_len (e : S32) (h : num1 e) : (entB e).length ≤ 50040 := by
  obtain ⟨h0, h1, h2, h3⟩ := h
  have a := enc10 (n := (e.f0.size : Int)) (by omega) (by omega)
  have hz : zig (e.f0.size : Int) = 2 * e.f0.size := by unfold zig; rw [if_neg (by omega)]; omega
  rw [hz] at a
  have b := enc10 h1.1 h1.2
  have c := enc10 h2.1 h2.2
  have d := enc10 h3.1 h3.2
  have hb := bytesOf_length e.f0
  unfold entB
  simp only [List.length_append, hb]
  omega
theorem put3_f (k : Nat) (e : S32) (b : List Int) (h : num1 e) (hk : 12 ≤ k) (hb : b.length ≤ 140737480000000) : put3 k e 0 b = some (b ++ (enc (zig e.f1) ++ (enc (zig e.f2.f0) ++ enc (zig e.f2.f1)))) := by
  obtain ⟨h0, h1, h2, h3⟩ := h
  have b1 := enc10 h1.1 h1.2
  have b2 := enc10 h2.1 h2.2
  unfold put3
  rw [if_pos rfl, put_f k b _ h1.1 h1.2 hk (by omega), Option.bind_some, put_f k _ _ h2.1 h2.2 hk (by rw [List.length_append]; omega), Option.bind_some, put_f k _ _ h3.1 h3.2 hk (by rw [List.length_append, List.length_append]; omega)]
  simp [List.append_assoc]
theorem go_f (k : Nat) (hk : 12 ≤ k) (l : List S32) : ∀ (b : List Int), (∀ e ∈ l, num1 e) → b.length + 50040 * l.length ≤ 140737480000000 → dir_Encode.go k b l = some (b ++ entsB l) := by
  induction l with
  | nil => intro b _ _; simp [dir_Encode.go, entsB]
  | cons e l ih =>
    intro b h hb
    have he := h e List.mem_cons_self
    have hel := entB_len e he
    rw [List.length_cons] at hb
    simp only [dir_Encode.go]
    have h1 := he.1
    have ha : (enc (2 * e.f0.size) ++ bytesOf e.f0).length ≤ (entB e).length := by unfold entB; simp only [List.length_append]; omega
    rw [puttext_f k b e.f0 (by omega) hk (by omega), Option.bind_some, put3_f k e _ he hk (by rw [List.append_assoc, List.length_append]; omega), Option.bind_some]
    have e2 : b ++ enc (2 * e.f0.size) ++ bytesOf e.f0 ++ (enc (zig e.f1) ++ (enc (zig e.f2.f0) ++ enc (zig e.f2.f1))) = b ++ entB e := by unfold entB; simp [List.append_assoc]
    rw [e2, ih (b ++ entB e) (fun x hx => h x (List.mem_cons_of_mem _ hx)) (by rw [List.length_append]; omega), entsB, List.append_assoc]
theorem may_num {e : S32} (h : may1 e) : num1 e := by
  unfold may1 at h; unfold num1; omega
theorem ok_num {l : List S32} (h : okFrom l 0) : ∀ e ∈ l, num1 e := by
  intro e he
  obtain ⟨i, hi, rfl⟩ := List.mem_iff_getElem.1 he
  exact may_num (h i _ (Nat.zero_le _) (List.getElem?_eq_getElem hi)).1
theorem Encode_yes (k : Nat) (l : List S32) (h : okFrom l 0) (hl : l.length ≤ 32) (hk : 40 ≤ k) : dir_Encode.f k l = some (encL l) := by
  unfold dir_Encode.f
  rw [if_pos (by omega), May_yes k l (by omega) (by omega) h hl, Option.bind_some, if_pos rfl, put_f k [] _ (by omega) (by omega) (by omega) (by simp), Option.bind_some, List.nil_append]
  have h10 := enc10 (n := (l.length : Int)) (by omega) (by omega)
  exact go_f k (by omega) l _ (ok_num h) (by omega)
theorem Encode_no (k : Nat) (l : List S32) (h : ¬ (okFrom l 0 ∧ l.length ≤ 32)) (hl : l.length ≤ 1000000) (hk : l.length < k) : dir_Encode.f k l = some [] := by
  unfold dir_Encode.f
  rw [if_pos (by omega), May_no k l hl hk h, Option.bind_some, if_neg (by decide)]
theorem begun_f : recensionlaw23_begun.f 60 = some true := by decide +kernel
theorem begun_k (k : Nat) (h : 60 ≤ k) : recensionlaw23_begun.f k = some true := at_rounds (fun k => recensionlaw23_begun.mono k) h begun_f
theorem str_back (s : ByteArray) : strOfNums (bytesOf s) = s := by
  obtain ⟨d⟩ := s
  have e : (fun n : Int => UInt8.ofNat n.toNat) ∘ (fun b : UInt8 => (b.toNat : Int)) = id := by
    funext b; simp
  simp [strOfNums, bytesOf, List.map_map, e]
theorem gettext_f (k : Nat) (s : ByteArray) (rest : List Int) (hs : s.size ≤ 60000) (hk : 41 ≤ k) (hr : rest.length ≤ 1000000) :
    num_GetText.f k (enc (2 * s.size) ++ bytesOf s ++ rest) = some (s, ((enc (2 * s.size) ++ bytesOf s).length : Int), 0) := by
  have hz : zig (s.size : Int) = 2 * s.size := by unfold zig; rw [if_neg (by omega)]; omega
  have h10 := enc10 (n := (s.size : Int)) (by omega) (by omega)
  rw [hz] at h10
  have hbl := bytesOf_length s
  obtain ⟨k, rfl⟩ : ∃ q, k = q + 1 := ⟨k - 1, by omega⟩
  have hg := get_f (k + 1) (s.size : Int) (bytesOf s ++ rest) (by omega) (by omega) (by omega) (by rw [List.length_append]; omega)
  rw [hz, ← List.append_assoc] at hg
  have hLl : (enc (2 * s.size) ++ bytesOf s ++ rest).length = (enc (2 * s.size)).length + s.size + rest.length := by rw [List.length_append, List.length_append, hbl]
  unfold num_GetText.f
  rw [hg]
  simp only [Option.bind_some, if_true]
  rw [if_neg (by omega)]
  have e2 : decide ((s.size : Int) > 65536) = false := by simp; omega
  rw [e2]
  simp only [num_GetText.j0]
  have ea : wrap64 (((enc (2 * s.size) ++ bytesOf s ++ rest).length : Int) - ((enc (2 * s.size)).length : Int)) = (s.size : Int) + (rest.length : Int) := by rw [hLl]; unfold wrap64; omega
  have eb : wrap64 (((enc (2 * s.size)).length : Int) + (s.size : Int)) = (((enc (2 * s.size) ++ bytesOf s).length : Nat) : Int) := by rw [List.length_append, hbl]; unfold wrap64; omega
  have ec : ((((enc (2 * s.size) ++ bytesOf s).length : Nat) : Int)).toNat = (enc (2 * s.size) ++ bytesOf s).length := by omega
  have ed : (((enc (2 * s.size)).length : Int)).toNat = (enc (2 * s.size)).length := by omega
  rw [if_neg (by decide), ea, eb, if_neg (by omega), if_pos (by omega), if_pos (by rw [List.length_append]; omega), if_pos (by rw [hLl, List.length_append, hbl]; omega), ec, ed, List.take_left, List.drop_left, str_back]
theorem drop_at (P Q : List Int) (y : Int) (hy : y = (P.length : Int)) : (P ++ Q).drop y.toNat = Q := by
  subst hy
  rw [Int.toNat_natCast, List.drop_left]
theorem get_at (k : Nat) (P rest : List Int) (n y : Int) (h0 : -9223372036854775808 ≤ n) (h1 : n ≤ 9223372036854775807) (hk : 40 ≤ k) (hr : rest.length ≤ 10000000) (hy : y = (P.length : Int)) :
    one_get k (P ++ (enc (zig n) ++ rest)) y = some (n, ((enc (zig n)).length : Int), 0) := by
  unfold one_get
  rw [if_pos (by omega), if_pos (by rw [List.length_append]; omega), drop_at P _ y hy]
  exact get_f k n rest h0 h1 hk hr
theorem one_f (k : Nat) (e : S32) (rest : List Int) (he : num1 e) (hk : 41 ≤ k) (hr : rest.length ≤ 900000) : dir_one.f k (entB e ++ rest) = some (e.f0, e.f1, e.f2.f0, e.f2.f1, ((entB e).length : Int)) := by
  obtain ⟨h0, h1, h2, h3⟩ := he
  have l1 := enc10 h1.1 h1.2
  have l2 := enc10 h2.1 h2.2
  have l3 := enc10 h3.1 h3.2
  obtain ⟨T, hT⟩ : ∃ T, T = enc (2 * e.f0.size) ++ bytesOf e.f0 := ⟨_, rfl⟩
  have hTl : T.length ≤ 50010 := by
    have hz : zig (e.f0.size : Int) = 2 * e.f0.size := by unfold zig; rw [if_neg (by omega)]; omega
    have h10 := enc10 (n := (e.f0.size : Int)) (by omega) (by omega)
    rw [hz] at h10
    have := bytesOf_length e.f0
    rw [hT, List.length_append]; omega
  have e0 : entB e ++ rest = T ++ (enc (zig e.f1) ++ (enc (zig e.f2.f0) ++ (enc (zig e.f2.f1) ++ rest))) := by
    unfold entB; rw [← hT]; simp [List.append_assoc]
  have e1 : entB e ++ rest = (T ++ enc (zig e.f1)) ++ (enc (zig e.f2.f0) ++ (enc (zig e.f2.f1) ++ rest)) := by rw [e0]; simp [List.append_assoc]
  have e2 : entB e ++ rest = (T ++ enc (zig e.f1) ++ enc (zig e.f2.f0)) ++ (enc (zig e.f2.f1) ++ rest) := by rw [e0]; simp [List.append_assoc]
  have eL : ((entB e).length : Int) = (T.length : Int) + ((enc (zig e.f1)).length : Int) + ((enc (zig e.f2.f0)).length : Int) + ((enc (zig e.f2.f1)).length : Int) := by
    unfold entB; rw [← hT]; simp only [List.length_append]; omega
  have g0 : num_GetText.f k (entB e ++ rest) = some (e.f0, (T.length : Int), 0) := by
    rw [e0]
    have := gettext_f k e.f0 (enc (zig e.f1) ++ (enc (zig e.f2.f0) ++ (enc (zig e.f2.f1) ++ rest))) (by omega) hk (by simp only [List.length_append]; omega)
    rw [← hT] at this
    exact this
  have g1 : one_get k (entB e ++ rest) (T.length : Int) = some (e.f1, ((enc (zig e.f1)).length : Int), 0) := by
    rw [e0]; exact get_at k T _ _ _ h1.1 h1.2 (by omega) (by simp only [List.length_append]; omega) rfl
  have g2 : one_get k (entB e ++ rest) ((T.length : Int) + ((enc (zig e.f1)).length : Int)) = some (e.f2.f0, ((enc (zig e.f2.f0)).length : Int), 0) := by
    rw [e1]; exact get_at k _ _ _ _ h2.1 h2.2 (by omega) (by simp only [List.length_append]; omega) (by rw [List.length_append]; omega)
  have g3 : one_get k (entB e ++ rest) ((T.length : Int) + ((enc (zig e.f1)).length : Int) + ((enc (zig e.f2.f0)).length : Int)) = some (e.f2.f1, ((enc (zig e.f2.f1)).length : Int), 0) := by
    rw [e2]; exact get_at k _ _ _ _ h3.1 h3.2 (by omega) (by omega) (by rw [List.length_append, List.length_append]; omega)
  unfold dir_one.f
  rw [g0, Option.bind_some, if_pos rfl]
  unfold one3
  rw [if_pos rfl]
  simp only
  rw [g1, Option.bind_some, if_pos rfl]
  simp only
  rw [w_cast ((T.length : Int) + ((enc (zig e.f1)).length : Int)) (by omega) (by omega), g2, Option.bind_some, if_pos rfl]
  simp only
  rw [w_cast _ (by omega) (by omega), g3, Option.bind_some, if_pos rfl]
  simp only
  rw [w_cast _ (by omega) (by omega), eL]
theorem entB_pos (e : S32) : 0 < (entB e).length := by
  have := enc_pos (2 * e.f0.size)
  unfold entB
  simp only [List.length_append]; omega
theorem go_back (k : Nat) (hk : 41 ≤ k) (l : List S32) : ∀ (P : List Int) (acc : List S32) (y : Int), (∀ e ∈ l, num1 e) → (entsB l).length ≤ 900000 → P.length + (entsB l).length ≤ 2000000 → y = (P.length : Int) → dec_go k (P ++ entsB l) l.length y acc = some (some (acc ++ l)) := by
  induction l with
  | nil => intro P acc y _ _ _ _; simp [dec_go]
  | cons e l ih =>
    intro P acc y h hl hP hy
    have he := h e List.mem_cons_self
    have hel := entB_len e he
    have hep := entB_pos e
    simp only [entsB, List.length_append] at hl hP
    rw [List.length_cons, dec_go, if_pos (by omega), if_pos (by rw [List.length_append]; omega), drop_at P _ y hy, entsB, one_f k e _ he hk (by omega), Option.bind_some]
    simp only
    rw [if_neg (by omega), w_cast _ (by omega) (by omega), show P ++ (entB e ++ entsB l) = (P ++ entB e) ++ entsB l by rw [List.append_assoc]]
    rw [ih (P ++ entB e) _ _ (fun x hx => h x (List.mem_cons_of_mem _ hx)) (by omega) (by rw [List.length_append]; omega) (by rw [List.length_append]; omega)]
    simp
theorem entsB_len (l : List S32) (h : ∀ e ∈ l, may1 e) : (entsB l).length ≤ 70 * l.length := by
  induction l with
  | nil => simp [entsB]
  | cons e l ih =>
    have h1 := ih (fun x hx => h x (List.mem_cons_of_mem _ hx))
    have hm := h e List.mem_cons_self
    obtain ⟨hs0, q1, q2, q3⟩ := may_num hm
    have a := enc10 (n := (e.f0.size : Int)) (by omega) (by omega)
    have hz : zig (e.f0.size : Int) = 2 * e.f0.size := by unfold zig; rw [if_neg (by omega)]; omega
    rw [hz] at a
    have b := enc10 q1.1 q1.2
    have c := enc10 q2.1 q2.2
    have d := enc10 q3.1 q3.2
    have hb := bytesOf_length e.f0
    have hsz : e.f0.size ≤ 20 := by unfold may1 at hm; omega
    have he : (entB e).length ≤ 70 := by unfold entB; simp only [List.length_append, hb]; omega
    rw [entsB, List.length_append, List.length_cons]; omega
theorem ok_may {l : List S32} (h : okFrom l 0) : ∀ e ∈ l, may1 e := by
  intro e he
  obtain ⟨i, hi, rfl⟩ := List.mem_iff_getElem.1 he
  exact (h i _ (Nat.zero_le _) (List.getElem?_eq_getElem hi)).1
theorem encL_len (l : List S32) (h : okFrom l 0) (hl : l.length ≤ 32) : (encL l).length ≤ 2300 := by
  have h1 := entsB_len l (ok_may h)
  have h2 := enc10 (n := (l.length : Int)) (by omega) (by omega)
  unfold encL
  rw [List.length_append]; omega
theorem encL_pos (l : List S32) : 0 < (encL l).length := by
  unfold encL
  have := enc_pos (zig (l.length : Int))
  rw [List.length_append]; omega
theorem bytes_self (l : List Int) : bytes_Equal.f l l = some true := by unfold bytes_Equal.f; simp
theorem Decode_enc (k : Nat) (l : List S32) (h : okFrom l 0) (hl : l.length ≤ 32) (hk : 41 ≤ k) : dir_Decode.f k (encL l) = some (l, 0) := by
  have h1 := entsB_len l (ok_may h)
  have hp := encL_pos l
  have hne : encL l ≠ [] := fun e => by rw [e] at hp; simp at hp
  unfold dir_Decode.f
  have hg : num_Get.f k (encL l) = some ((l.length : Int), ((enc (zig (l.length : Int))).length : Int), 0) := get_f k _ _ (by omega) (by omega) (by omega) (by omega)
  have h2 := enc10 (n := (l.length : Int)) (by omega) (by omega)
  rw [hg, Option.bind_some, if_pos rfl, if_pos (Int.natCast_nonneg _), if_pos (show ((l.length : Int)) ≤ 32 by omega)]
  simp only [Int.toNat_natCast]
  have hb := go_back k hk l (enc (zig (l.length : Int))) [] ((enc (zig (l.length : Int))).length : Int) (ok_num h) (by omega) (by omega) rfl
  rw [show encL l = enc (zig (l.length : Int)) ++ entsB l from rfl, hb, Option.bind_some, List.nil_append]
  simp only [dec_end]
  rw [Encode_yes k l h hl (by omega), Option.bind_some, if_neg hne, ← show encL l = enc (zig (l.length : Int)) ++ entsB l from rfl, bytes_self, Option.bind_some, if_pos rfl]
theorem eq_l0 (l : List S32) (hl : l.length ≤ 1000) (d : Nat) : ∀ (k i : Nat), i + d = l.length → d < k → recensionlaw23_eq.l0 k l l (i : Int) = some true := by
  induction d with
  | zero =>
    intro k i hd hk
    obtain ⟨k, rfl⟩ : ∃ m, k = m + 1 := ⟨k - 1, by omega⟩
    simp only [recensionlaw23_eq.l0]
    rw [if_neg (by omega)]
  | succ d ih =>
    intro k i hd hk
    obtain ⟨k, rfl⟩ : ∃ m, k = m + 1 := ⟨k - 1, by omega⟩
    simp only [recensionlaw23_eq.l0]
    rw [if_pos (by omega), if_pos (by omega), if_pos (by omega), if_pos trivial, if_pos trivial, if_pos trivial, if_pos trivial, w_succ i (by omega)]
    exact ih k (i + 1) (by omega) (by omega)
theorem eq_self (k : Nat) (l : List S32) (hl : l.length ≤ 1000) (hk : l.length < k) : recensionlaw23_eq.f k l l = some true := by
  unfold recensionlaw23_eq.f
  rw [if_pos rfl]
  exact eq_l0 l hl l.length k 0 (by omega) hk
theorem rput_l0 (d : Nat) : ∀ (k : Nat) (l : List Int) (u : Nat), u < 128 ^ (d + 1) → u < 18446744073709551616 → d < k → l.length + d + 1 ≤ 140737488355327 → recensionref1_Put.l0 k (u : Int) l = some (l ++ enc u) := by
  induction d with
  | zero =>
    intro k l u hu _ hk hl
    obtain ⟨k, rfl⟩ : ∃ m, k = m + 1 := ⟨k - 1, by omega⟩
    simp only [recensionref1_Put.l0]
    rw [if_neg (by omega), if_pos (by omega), enc_small (by omega)]
    congr 3; omega
  | succ d ih =>
    intro k l u hu h64 hk hl
    obtain ⟨k, rfl⟩ : ∃ m, k = m + 1 := ⟨k - 1, by omega⟩
    simp only [recensionref1_Put.l0]
    by_cases h : u > 127
    · have e1 : IntKind.u64.wrap (Int.tdiv (u : Int) 128) = ((u / 128 : Nat) : Int) := by rw [wrap_u64, Int.tdiv_eq_ediv_of_nonneg (by omega)]; omega
      have e2 : (IntKind.u64.wrap ((Int.tmod (u : Int) 128) + 128)) % 256 = ((u % 128 + 128 : Nat) : Int) := by rw [wrap_u64, Int.tmod_eq_emod_of_nonneg (by omega)]; omega
      rw [if_pos (by omega), if_pos (by omega), e1, e2, enc_big h, ih k _ (u / 128) (by rw [Nat.pow_succ] at hu; omega) (by omega) (by omega) (by simp; omega)]
      rw [List.append_assoc, List.singleton_append]
    · rw [if_neg (by omega), if_pos (by omega), enc_small h]
      congr 3; omega
theorem rput_f (k : Nat) (n : Int) (h0 : -9223372036854775808 ≤ n) (h1 : n ≤ 9223372036854775807) (hk : 12 ≤ k) : recensionref1_Put.f k n = some (enc (zig n)) := by
  obtain ⟨k, rfl⟩ : ∃ m, k = m + 1 := ⟨k - 1, by omega⟩
  obtain ⟨hz1, hz2⟩ := zig_of h0 h1
  have hz := zig_lt h0 h1
  have h := rput_l0 9 k [] (zig n) (by omega) hz (by omega) (by simp)
  rw [List.nil_append] at h
  unfold recensionref1_Put.f
  by_cases hn : n < 0
  · rw [if_pos hn, hz1 hn]
    simp only [recensionref1_Put.j0]; exact h
  · rw [if_neg hn, hz2 hn]
    simp only [recensionref1_Put.j0]; exact h
theorem rputtext_f (k : Nat) (s : ByteArray) (hs : s.size ≤ 1000000) (hk : 12 ≤ k) : recensionref1_PutText.f k s = some (enc (2 * s.size) ++ bytesOf s) := by
  unfold recensionref1_PutText.f
  rw [rput_f k _ (by omega) (by omega) hk]
  have hz : zig (s.size : Int) = 2 * s.size := by unfold zig; rw [if_neg (by omega)]; omega
  have h10 := enc10 (n := (s.size : Int)) (by omega) (by omega)
  rw [hz] at h10 ⊢
  simp only [Option.bind_some]
  rw [if_pos (by omega)]
/-! ### nothing that is read is ever out of form -/
theorem or_any (x : Int) : ∃ y : Int, y = x := ⟨x, rfl⟩
theorem get_j2 (k : Nat) (u i : Int) (z : Bool) (hi0 : 0 ≤ i) (hi : i ≤ 9) : ∃ n kk e, num_Get.j2 (k + 1) u i z = some (n, kk, e) ∧ (e = 0 → kk = i + 1) := by
  have ew : wrap64 (i + 1) = i + 1 := wsm (by omega) (by omega)
  simp only [num_Get.j2, ew]
  by_cases hz : z = true
  · rw [if_pos hz]; exact ⟨_, _, _, rfl, fun h => absurd h (by decide)⟩
  · rw [if_neg hz]
    by_cases h1 : Go.bits .and .u64 u 1 = 1
    · rw [if_pos h1]; exact ⟨_, _, _, rfl, fun _ => rfl⟩
    · rw [if_neg h1]; exact ⟨_, _, _, rfl, fun _ => rfl⟩
theorem get_tot0 (l : List Int) (_hl : l.length ≤ 1000000) (d : Nat) : ∀ (k i : Nat) (u : Int), i + d = 9 → 2 * d + 3 ≤ k → i ≤ l.length → ∃ n kk e, num_Get.l0 k u l (l.length : Int) (i : Int) = some (n, kk, e) ∧ (e = 0 → (i : Int) + 1 ≤ kk ∧ kk ≤ l.length) := by
  induction d with
  | zero =>
    intro k i u hd hk hil
    obtain ⟨k, rfl⟩ : ∃ m, k = m + 3 := ⟨k - 3, by omega⟩
    have hi9 : (i : Int) = 9 := by omega
    have e7 : wrap64 (7 * (i : Int)) = 7 * (i : Int) := wsm (by omega) (by omega)
    simp only [num_Get.l0]
    by_cases hlt : (i : Int) < (l.length : Int)
    · rw [if_pos hlt, if_pos (by omega), if_pos hlt, if_pos hi9]
      simp only [num_Get.j1]
      by_cases hb : rd l (i : Int) > 1
      · rw [if_pos (by simpa using hb)]; exact ⟨_, _, _, rfl, fun h => absurd h (by decide)⟩
      · rw [if_neg (by simpa using hb), e7, if_pos (by omega), if_neg (by omega), if_pos (by omega)]
        obtain ⟨n, kk, e, h1, h2⟩ := get_j2 k (Go.bits .or .u64 u (shl .u64 (IntKind.u64.wrap (Go.bits .and .u8 (rd l (i : Int)) 127)) (7 * (i : Int)))) (i : Int) (rd l (i : Int) == 0) (by omega) (by omega)
        exact ⟨n, kk, e, h1, fun he => by have := h2 he; omega⟩
    · rw [if_neg hlt]; exact ⟨_, _, _, rfl, fun h => absurd h (by decide)⟩
  | succ d ih =>
    intro k i u hd hk hil
    obtain ⟨k, rfl⟩ : ∃ m, k = m + 3 := ⟨k - 3, by omega⟩
    have e7 : wrap64 (7 * (i : Int)) = 7 * (i : Int) := wsm (by omega) (by omega)
    have ew : wrap64 ((i : Int) + 1) = ((i + 1 : Nat) : Int) := by rw [wsm (by omega) (by omega)]; omega
    simp only [num_Get.l0]
    by_cases hlt : (i : Int) < (l.length : Int)
    · rw [if_pos hlt, if_pos (by omega), if_pos hlt, if_neg (by omega : ¬ (i : Int) = 9)]
      simp only [num_Get.j1]
      rw [if_neg (by decide), e7, if_pos (by omega), ew]
      by_cases hb : rd l (i : Int) > 127
      · rw [if_pos hb]
        obtain ⟨n, kk, e, h1, h2⟩ := ih (k + 1) (i + 1) (Go.bits .or .u64 u (shl .u64 (IntKind.u64.wrap (Go.bits .and .u8 (rd l (i : Int)) 127)) (7 * (i : Int)))) (by omega) (by omega) (by omega)
        exact ⟨n, kk, e, h1, fun he => by have := h2 he; omega⟩
      · rw [if_neg hb]
        by_cases h0 : (i : Int) > 0
        · rw [if_pos h0]
          obtain ⟨n, kk, e, h1, h2⟩ := get_j2 k (Go.bits .or .u64 u (shl .u64 (IntKind.u64.wrap (Go.bits .and .u8 (rd l (i : Int)) 127)) (7 * (i : Int)))) (i : Int) (rd l (i : Int) == 0) (by omega) (by omega)
          exact ⟨n, kk, e, h1, fun he => by have := h2 he; omega⟩
        · rw [if_neg h0]
          obtain ⟨n, kk, e, h1, h2⟩ := get_j2 k (Go.bits .or .u64 u (shl .u64 (IntKind.u64.wrap (Go.bits .and .u8 (rd l (i : Int)) 127)) (7 * (i : Int)))) (i : Int) false (by omega) (by omega)
          exact ⟨n, kk, e, h1, fun he => by have := h2 he; omega⟩
    · rw [if_neg hlt]; exact ⟨_, _, _, rfl, fun h => absurd h (by decide)⟩
theorem get_tot (k : Nat) (hk : 40 ≤ k) (l : List Int) (hl : l.length ≤ 1000000) : ∃ n kk e, num_Get.f k l = some (n, kk, e) ∧ (e = 0 → 1 ≤ kk ∧ kk ≤ l.length) := by
  obtain ⟨n, kk, e, h1, h2⟩ := get_tot0 l hl 9 k 0 0 rfl (by omega) (by omega)
  exact ⟨n, kk, e, h1, fun he => by have := h2 he; omega⟩
theorem gettext_tot (k : Nat) (hk : 41 ≤ k) (l : List Int) (hl : l.length ≤ 1000000) : ∃ s kk e, num_GetText.f k l = some (s, kk, e) ∧ (e = 0 → 1 ≤ kk ∧ kk ≤ l.length) := by
  obtain ⟨n, kk, e, h1, h2⟩ := get_tot k (by omega) l hl
  obtain ⟨k, rfl⟩ : ∃ q, k = q + 1 := ⟨k - 1, by omega⟩
  unfold num_GetText.f
  rw [h1, Option.bind_some]
  simp only
  by_cases he : e = 0
  · obtain ⟨g1, g2⟩ := h2 he
    rw [if_pos he]
    by_cases hn : n < 0
    · rw [if_pos hn]
      simp only [num_GetText.j0]
      rw [if_pos trivial]; exact ⟨_, _, _, rfl, fun h => absurd h (by decide)⟩
    · rw [if_neg hn]
      simp only [num_GetText.j0]
      by_cases hbig : n > 65536
      · rw [if_pos (by simpa using hbig)]; exact ⟨_, _, _, rfl, fun h => absurd h (by decide)⟩
      · have w1 : wrap64 ((l.length : Int) - kk) = (l.length : Int) - kk := wsm (by omega) (by omega)
        have w2 : wrap64 (kk + n) = kk + n := wsm (by omega) (by omega)
        rw [if_neg (by simpa using hbig), w1, w2]
        by_cases hm : n > (l.length : Int) - kk
        · rw [if_pos hm]; exact ⟨_, _, _, rfl, fun h => absurd h (by decide)⟩
        · rw [if_neg hm, if_pos (by omega), if_pos (by omega), if_pos (by omega)]
          exact ⟨_, _, _, rfl, fun _ => by omega⟩
  · rw [if_neg he]; exact ⟨_, _, _, rfl, fun h => absurd h he⟩
theorem one_get_tot (k : Nat) (hk : 41 ≤ k) (l : List Int) (hl : l.length ≤ 1000000) (y : Int) (h0 : 0 ≤ y) (h1 : y ≤ l.length) : ∃ n kk e, one_get k l y = some (n, kk, e) ∧ (e = 0 → y + 1 ≤ y + kk ∧ y + kk ≤ l.length) := by
  obtain ⟨n, kk, e, g1, g2⟩ := get_tot k (by omega) (l.drop y.toNat) (by rw [List.length_drop]; omega)
  unfold one_get
  rw [if_pos h0, if_pos h1, g1]
  exact ⟨n, kk, e, rfl, fun he => by have := g2 he; rw [List.length_drop] at this; omega⟩
theorem one_tot (k : Nat) (hk : 41 ≤ k) (l : List Int) (hl : l.length ≤ 1000000) : ∃ s a b c y, dir_one.f k l = some (s, a, b, c, y) ∧ 0 ≤ y ∧ y ≤ l.length := by
  obtain ⟨s, kk, e, h1, h2⟩ := gettext_tot k hk l hl
  unfold dir_one.f
  rw [h1, Option.bind_some]
  simp only
  by_cases he : e = 0
  · obtain ⟨g1, g2⟩ := h2 he
    rw [if_pos he]
    unfold one3
    rw [if_pos rfl]
    obtain ⟨n1, k1, e1, q1, p1⟩ := one_get_tot k hk l hl kk (by omega) (by omega)
    rw [q1, Option.bind_some]
    simp only
    by_cases he1 : e1 = 0
    · have r1 := p1 he1
      rw [if_pos he1, wsm (x := kk + k1) (by omega) (by omega)]
      obtain ⟨n2, k2, e2, q2, p2⟩ := one_get_tot k hk l hl (kk + k1) (by omega) (by omega)
      rw [q2, Option.bind_some]
      simp only
      by_cases he2 : e2 = 0
      · have r2 := p2 he2
        rw [if_pos he2, wsm (x := kk + k1 + k2) (by omega) (by omega)]
        obtain ⟨n3, k3, e3, q3, p3⟩ := one_get_tot k hk l hl (kk + k1 + k2) (by omega) (by omega)
        rw [q3, Option.bind_some]
        simp only
        by_cases he3 : e3 = 0
        · have r3 := p3 he3
          rw [if_pos he3, wsm (x := kk + k1 + k2 + k3) (by omega) (by omega)]
          exact ⟨_, _, _, _, _, rfl, by omega, by omega⟩
        · rw [if_neg he3]; exact ⟨_, _, _, _, _, rfl, by decide, by simp⟩
      · rw [if_neg he2]; exact ⟨_, _, _, _, _, rfl, by decide, by simp⟩
    · rw [if_neg he1]; exact ⟨_, _, _, _, _, rfl, by decide, by simp⟩
  · rw [if_neg he]; exact ⟨_, _, _, _, _, rfl, by decide, by simp⟩
theorem go_tot (k : Nat) (hk : 41 ≤ k) (b : List Int) (hb : b.length ≤ 1000000) (m : Nat) : ∀ (y : Int) (acc : List S32), 0 ≤ y → y ≤ b.length → ∃ o, dec_go k b m y acc = some o ∧ ∀ l, o = some l → l.length = acc.length + m := by
  induction m with
  | zero => intro y acc _ _; exact ⟨some acc, rfl, fun l h => by injection h with h; rw [h]; rfl⟩
  | succ m ih =>
    intro y acc h0 h1
    obtain ⟨s, a, c, d, z, g1, g2, g3⟩ := one_tot k hk (b.drop y.toNat) (by rw [List.length_drop]; omega)
    rw [List.length_drop] at g3
    rw [dec_go, if_pos h0, if_pos h1, g1, Option.bind_some]
    simp only
    by_cases hz : z = 0
    · rw [if_pos hz]; exact ⟨none, rfl, fun l h => by cases h⟩
    · rw [if_neg hz, wsm (x := y + z) (by omega) (by omega)]
      obtain ⟨o, q1, q2⟩ := ih (y + z) (acc ++ [⟨s, a, ⟨c, d⟩⟩]) (by omega) (by omega)
      exact ⟨o, q1, fun l hl => by rw [q2 l hl, List.length_append, List.length_singleton]; omega⟩
/-- What is told of any bytes: a list that may be and whose bytes they are, or none. -/
theorem decode_tot (k : Nat) (hk : 60 ≤ k) (b : List Int) (hb : b.length ≤ 1000000) : dir_Decode.f k b = some ([], 11) ∨ ∃ l, dir_Decode.f k b = some (l, 0) ∧ okFrom l 0 ∧ l.length ≤ 32 ∧ ((strOfNums (encL l)).toList == (strOfNums b).toList) = true := by
  obtain ⟨n, kk, e, h1, h2⟩ := get_tot k (by omega) b hb
  unfold dir_Decode.f
  rw [h1, Option.bind_some]
  simp only
  by_cases he : e = 0
  · obtain ⟨g1, g2⟩ := h2 he
    rw [if_pos he]
    by_cases h0 : 0 ≤ n
    · rw [if_pos h0]
      by_cases h32 : n ≤ 32
      · rw [if_pos h32]
        obtain ⟨o, q1, q2⟩ := go_tot k (by omega) b hb n.toNat kk [] (by omega) (by omega)
        rw [q1, Option.bind_some]
        cases o with
        | none => exact .inl rfl
        | some l =>
          have hl := q2 l rfl
          rw [List.length_nil, Nat.zero_add] at hl
          simp only [dec_end]
          have hbe : b ≠ [] := by rintro rfl; simp at g2; omega
          by_cases hok : okFrom l 0 ∧ l.length ≤ 32
          · have hp := encL_pos l
            rw [Encode_yes k l hok.1 hok.2 (by omega), Option.bind_some, if_neg (fun e => by rw [e] at hp; simp at hp)]
            unfold bytes_Equal.f
            rw [Option.bind_some]
            by_cases heq : ((strOfNums (encL l)).toList == (strOfNums b).toList) = true
            · rw [if_pos heq]
              exact .inr ⟨l, rfl, hok.1, hok.2, heq⟩
            · rw [if_neg heq]; exact .inl rfl
          · rw [Encode_no k l hok (by omega) (by omega), Option.bind_some, if_pos rfl, if_neg hbe]; exact .inl rfl
      · rw [if_neg h32]; exact .inl rfl
    · rw [if_neg h0]; exact .inl rfl
  · rw [if_neg he]; exact .inl rfl
/-! ### the answer's may, bytes, tells -/
theorem rmay_j1 (k : Nat) (l : List S32) (i : Int) (b : Bool) (s : ByteArray) (a c d : Int) (ha0 : 0 ≤ a) (hbd : b = false → d = (a + 63) / 64) :
    recensionlaw23_may.j1 (k + 1) l i b s a c d = if b = false ∧ 0 ≤ c ∧ c ≤ 2048 ∧ (0 < a ∨ c = 0) then recensionlaw23_may.l0 k l (wrap64 (i + 1)) else some false := by
  simp only [recensionlaw23_may.j1]
  cases b with
  | true => rw [if_pos rfl, if_neg (fun h => absurd h.1 (by decide))]
  | false =>
    have hd := hbd rfl
    rw [if_neg (by decide)]
    by_cases h1 : c < 0
    · rw [if_pos h1, if_neg (fun h => by omega)]
    rw [if_neg h1]
    by_cases h2 : c > 2048
    · rw [if_pos h2, if_neg (fun h => by omega)]
    rw [if_neg h2]
    by_cases h3 : d = 0
    · rw [if_pos h3]
      by_cases h4 : c = 0
      · rw [if_pos h4, if_pos ⟨rfl, by omega, by omega, .inr h4⟩]
      · rw [if_neg h4, if_neg (fun h => by omega)]
    · rw [if_neg h3, if_pos ⟨rfl, by omega, by omega, .inl (by omega)⟩]
theorem rmay_j1t (k : Nat) (l : List S32) (i : Int) (s : ByteArray) (a c d : Int) : recensionlaw23_may.j1 (k + 1) l i true s a c d = some false := by
  simp only [recensionlaw23_may.j1]
  rw [if_pos trivial]
theorem rmay_tail (k : Nat) (l : List S32) (i : Int) (e : S32) (h1 : 1 ≤ e.f0.size) (h2 : e.f0.size ≤ 20) :
    (if e.f1 < 0 then recensionlaw23_may.j1 (k + 1) l i true e.f0 e.f1 e.f2.f0 e.f2.f1 else (if e.f1 > 65536 then recensionlaw23_may.j1 (k + 1) l i true e.f0 e.f1 e.f2.f0 e.f2.f1 else recensionlaw23_may.j1 (k + 1) l i (e.f2.f1 != wrap64 (Int.tdiv (wrap64 (e.f1 + 63)) 64)) e.f0 e.f1 e.f2.f0 e.f2.f1)) = if may1 e then recensionlaw23_may.l0 k l (wrap64 (i + 1)) else some false := by
  by_cases a1 : e.f1 < 0
  · rw [if_pos a1, rmay_j1t, if_neg (fun h => by unfold may1 at h; omega)]
  rw [if_neg a1]
  by_cases a2 : e.f1 > 65536
  · rw [if_pos a2, rmay_j1t, if_neg (fun h => by unfold may1 at h; omega)]
  rw [if_neg a2, wsm (x := e.f1 + 63) (by omega) (by omega), Int.tdiv_eq_ediv_of_nonneg (by omega), wsm (x := (e.f1 + 63) / 64) (by omega) (by omega)]
  rw [rmay_j1 k l i _ _ _ _ _ (by omega) (fun h => by simpa using h)]
  by_cases a3 : e.f2.f1 = (e.f1 + 63) / 64
  · have hb : (e.f2.f1 != (e.f1 + 63) / 64) = false := by simpa using a3
    rw [hb]
    by_cases a4 : 0 ≤ e.f2.f0 ∧ e.f2.f0 ≤ 2048 ∧ (0 < e.f1 ∨ e.f2.f0 = 0)
    · rw [if_pos ⟨rfl, a4⟩, if_pos (show may1 e from ⟨h1, h2, by omega, by omega, a3, a4.1, a4.2.1, a4.2.2⟩)]
    · rw [if_neg (fun h => a4 h.2), if_neg (fun h => a4 ⟨h.2.2.2.2.2.1, h.2.2.2.2.2.2.1, h.2.2.2.2.2.2.2⟩)]
  · have hb : (e.f2.f1 != (e.f1 + 63) / 64) = true := by simpa using a3
    rw [hb, if_neg (fun h => absurd h.1 (by decide)), if_neg (fun h => a3 h.2.2.2.2.1)]
theorem rmay_l0 (l : List S32) (hl : l.length ≤ 1000000) (d : Nat) : ∀ (k i : Nat), i + d = l.length → 2 * d + 2 ≤ k →
    (okFrom l i → recensionlaw23_may.l0 k l (i : Int) = some (decide (l.length ≤ 32))) ∧ (¬ okFrom l i → recensionlaw23_may.l0 k l (i : Int) = some false) := by
  induction d with
  | zero =>
    intro k i hd hk
    obtain ⟨k, rfl⟩ : ∃ m, k = m + 1 := ⟨k - 1, by omega⟩
    refine ⟨fun _ => ?_, fun h => absurd (ok_end l i (by omega)) h⟩
    simp only [recensionlaw23_may.l0]
    rw [if_neg (by omega)]
    congr 1
    exact decide_eq_decide.2 (by omega)
  | succ d ih =>
    intro k i hd hk
    obtain ⟨k, rfl⟩ : ∃ m, k = m + 1 + 1 := ⟨k - 2, by omega⟩
    have hlt : i < l.length := by omega
    have hg : l[i]? = some l[i] := List.getElem?_eq_getElem hlt
    have hr := rd_get l (i : Int) i rfl _ hg
    obtain ⟨ih1, ih2⟩ := ih k (i + 1) (by omega) (by omega)
    have hs := ok_step l i _ hg
    obtain ⟨e, he⟩ : ∃ e, l[i] = e := ⟨_, rfl⟩
    rw [he] at hg hr hs
    simp only [recensionlaw23_may.l0, hr]
    rw [if_pos (by omega), if_pos (by omega)]
    by_cases b1 : (e.f0.size : Int) < 1
    · rw [if_pos b1, rmay_j1t]
      exact ⟨fun h => absurd (hs.1 h).1.1 (fun h => by unfold may1 at h; omega), fun _ => rfl⟩
    rw [if_neg b1]
    by_cases b2 : (e.f0.size : Int) > 20
    · rw [if_pos b2, rmay_j1t]
      exact ⟨fun h => absurd (hs.1 h).1.1 (fun h => by unfold may1 at h; omega), fun _ => rfl⟩
    rw [if_neg b2]
    have ht := rmay_tail k l (i : Int) e (by omega) (by omega)
    rw [w_succ i (by omega)] at ht
    cases i with
    | zero =>
      rw [if_neg (by omega), ht]
      by_cases hm : may1 e
      · rw [if_pos hm]
        have hiff : okFrom l 0 ↔ okFrom l 1 := by
          rw [hs]; exact ⟨fun h => h.2, fun h => ⟨⟨hm, fun p hp => absurd hp (by omega)⟩, h⟩⟩
        rw [hiff]
        exact ⟨ih1, ih2⟩
      · rw [if_neg hm]
        exact ⟨fun h => absurd (hs.1 h).1.1 hm, fun _ => rfl⟩
    | succ i =>
      have hg2 : l[i]? = some l[i] := List.getElem?_eq_getElem (by omega)
      have hr2 := rd_get l (i : Int) i rfl _ hg2
      rw [if_pos (by omega), w_pred i (by omega), if_pos (by omega), if_pos (by omega), hr2]
      by_cases hle : Op.bytesLess l[i].f0.toList e.f0.toList = true
      · rw [if_pos hle, ht]
        by_cases hm : may1 e
        · rw [if_pos hm]
          have hiff : okFrom l (i + 1) ↔ okFrom l (i + 1 + 1) := by
            rw [hs]
            refine ⟨fun h => h.2, fun h => ⟨⟨hm, fun p _ hp => ?_⟩, h⟩⟩
            rw [show i + 1 - 1 = i by omega, hg2] at hp
            obtain rfl := Option.some.inj hp
            exact hle
          rw [hiff]
          exact ⟨ih1, ih2⟩
        · rw [if_neg hm]
          exact ⟨fun h => absurd (hs.1 h).1.1 hm, fun _ => rfl⟩
      · rw [if_neg hle, rmay_j1t]
        exact ⟨fun h => absurd ((hs.1 h).1.2 l[i] (by omega) (by rw [show i + 1 - 1 = i by omega]; exact hg2)) hle, fun _ => rfl⟩
theorem rmay_t (k : Nat) (l : List S32) (hl : l.length ≤ 1000000) (hk : 2 * l.length + 2 ≤ k) (ho : okFrom l 0) (h : l.length ≤ 32) : recensionlaw23_may.f k l = some true := by
  obtain ⟨h1, _⟩ := rmay_l0 l hl l.length k 0 (by omega) hk
  unfold recensionlaw23_may.f
  rw [show (0 : Int) = ((0 : Nat) : Int) from rfl, h1 ho]
  congr 1; exact decide_eq_true (by omega)
theorem rmay_n (k : Nat) (l : List S32) (hl : l.length ≤ 1000000) (hk : 2 * l.length + 2 ≤ k) (hn : ¬ (okFrom l 0 ∧ l.length ≤ 32)) : recensionlaw23_may.f k l = some false := by
  obtain ⟨h1, h2⟩ := rmay_l0 l hl l.length k 0 (by omega) hk
  unfold recensionlaw23_may.f
  rw [show (0 : Int) = ((0 : Nat) : Int) from rfl]
  by_cases ho : okFrom l 0
  · rw [h1 ho]; congr 1; exact decide_eq_false (fun h => hn ⟨ho, by omega⟩)
  · rw [h2 ho]
theorem rbytes_l0 (l : List S32) (h : ∀ e ∈ l, num1 e) (hl : l.length ≤ 1000) (d : Nat) : ∀ (k i : Nat) (acc : List Int), i + d = l.length → d + 14 ≤ k → acc.length + 50040 * d ≤ 140737480000000 → recensionlaw23_bytes.l0 k l acc (i : Int) = some (acc ++ entsB (l.drop i)) := by
  induction d with
  | zero =>
    intro k i acc hd hk hb
    obtain ⟨k, rfl⟩ : ∃ m, k = m + 1 := ⟨k - 1, by omega⟩
    simp only [recensionlaw23_bytes.l0]
    rw [if_neg (by omega), List.drop_of_length_le (by omega)]; simp [entsB]
  | succ d ih =>
    intro k i acc hd hk hb
    obtain ⟨k, rfl⟩ : ∃ m, k = m + 1 := ⟨k - 1, by omega⟩
    have hlt : i < l.length := by omega
    have hg : l[i]? = some l[i] := List.getElem?_eq_getElem hlt
    have hr := rd_get l (i : Int) i rfl _ hg
    have he := h l[i] (List.getElem_mem hlt)
    have hdr : l.drop i = l[i] :: l.drop (i + 1) := List.drop_eq_getElem_cons hlt
    obtain ⟨e, hee⟩ : ∃ e, l[i] = e := ⟨_, rfl⟩
    rw [hee] at hr he hdr
    have hel := entB_len e he
    obtain ⟨q0, q1, q2, q3⟩ := he
    have a1 := enc10 q1.1 q1.2
    have a2 := enc10 q2.1 q2.2
    have a3 := enc10 q3.1 q3.2
    have hbl := bytesOf_length e.f0
    have ht : (enc (2 * e.f0.size) ++ bytesOf e.f0).length ≤ (entB e).length := by unfold entB; simp only [List.length_append]; omega
    simp only [recensionlaw23_bytes.l0, hr]
    rw [if_pos (by omega), if_pos (by omega), rputtext_f k e.f0 (by omega) (by omega), Option.bind_some, if_pos (by omega), Option.bind_some, rput_f k _ q1.1 q1.2 (by omega), Option.bind_some, if_pos (by rw [List.length_append]; omega), Option.bind_some, rput_f k _ q2.1 q2.2 (by omega), Option.bind_some, if_pos (by rw [List.length_append, List.length_append]; omega), Option.bind_some, rput_f k _ q3.1 q3.2 (by omega), Option.bind_some, if_pos (by rw [List.length_append, List.length_append, List.length_append]; omega), w_succ i (by omega)]
    have ea : acc ++ (enc (2 * e.f0.size) ++ bytesOf e.f0) ++ enc (zig e.f1) ++ enc (zig e.f2.f0) ++ enc (zig e.f2.f1) = acc ++ entB e := by unfold entB; simp [List.append_assoc]
    rw [ea, ih k (i + 1) (acc ++ entB e) (by omega) (by omega) (by rw [List.length_append]; omega), hdr, entsB, List.append_assoc]
theorem rbytes_f (k : Nat) (l : List S32) (h : okFrom l 0) (hl : l.length ≤ 32) (hk : 50 ≤ k) : recensionlaw23_bytes.f k l = some (encL l) := by
  unfold recensionlaw23_bytes.f
  have h10 := enc10 (n := (l.length : Int)) (by omega) (by omega)
  rw [rput_f k _ (by omega) (by omega) (by omega), Option.bind_some, show (0 : Int) = ((0 : Nat) : Int) from rfl, rbytes_l0 l (ok_num h) (by omega) l.length k 0 _ (by omega) (by omega) (by omega), List.drop_zero]
  rfl
theorem cut3_f (s : ByteArray) : ∃ c, recensionlaw3_Cut.f s 22 = some c := by
  unfold recensionlaw3_Cut.f
  by_cases h : (s.size : Int) > 22
  · rw [if_pos h, if_pos (by decide), if_pos (by omega)]; exact ⟨_, rfl⟩
  · rw [if_neg h]; exact ⟨_, rfl⟩
theorem Cut_l0 (x : List S32) (d : Nat) : ∀ (k i : Nat) (acc : List S32), i + d = 34 → d + 1 ≤ k → acc.length = i → ∃ r, recensionlaw23_Cut.l0 k x acc (i : Int) = some r ∧ r.length ≤ 34 := by
  induction d with
  | zero =>
    intro k i acc hd hk ha
    obtain ⟨k, rfl⟩ : ∃ m, k = m + 1 := ⟨k - 1, by omega⟩
    simp only [recensionlaw23_Cut.l0]
    rw [if_neg (by omega : ¬ (i : Int) < 34)]
    exact ⟨acc, by split <;> rfl, by omega⟩
  | succ d ih =>
    intro k i acc hd hk ha
    obtain ⟨k, rfl⟩ : ∃ m, k = m + 1 := ⟨k - 1, by omega⟩
    simp only [recensionlaw23_Cut.l0]
    by_cases h : (i : Int) < (x.length : Int)
    · obtain ⟨c, hc⟩ := cut3_f (rd_T32 x (i : Int)).f0
      rw [if_pos h, if_pos (by omega), if_pos (by omega), hc, Option.bind_some, if_pos (by omega), w_succ i (by omega)]
      exact ih k (i + 1) _ (by omega) (by omega) (by simp [ha])
    · rw [if_neg h]; exact ⟨acc, rfl, by omega⟩
theorem bl_trans : ∀ (x y z : List UInt8), Op.bytesLess x y = true → Op.bytesLess y z = true → Op.bytesLess x z = true := by
  intro x
  induction x with
  | nil => intro y z h1 h2; cases y <;> cases z <;> simp_all [Op.bytesLess]
  | cons a x ih =>
    intro y z h1 h2
    cases y with
    | nil => simp [Op.bytesLess] at h1
    | cons b y =>
      cases z with
      | nil => simp [Op.bytesLess] at h2
      | cons c z =>
        simp only [Op.bytesLess, Bool.or_eq_true, Bool.and_eq_true, decide_eq_true_eq, beq_iff_eq] at h1 h2 ⊢
        rcases h1 with h1 | ⟨rfl, h1⟩
        · rcases h2 with h2 | ⟨rfl, h2⟩
          · exact .inl (UInt8.lt_trans h1 h2)
          · exact .inl h1
        · rcases h2 with h2 | ⟨rfl, h2⟩
          · exact .inl h2
          · exact .inr ⟨rfl, ih y z h1 h2⟩
theorem bl_irr : ∀ x : List UInt8, Op.bytesLess x x = false := by
  intro x
  induction x with
  | nil => rfl
  | cons a x ih => simp [Op.bytesLess, ih]
theorem ok_less {l : List S32} (h : okFrom l 0) (d : Nat) : ∀ (i : Nat) (e f : S32), l[i]? = some e → l[i + 1 + d]? = some f → less e f := by
  induction d with
  | zero => intro i e f he hf; exact (h (i + 1) f (Nat.zero_le _) hf).2 e (by omega) he
  | succ d ih =>
    intro i e f he hf
    have hj := (List.getElem?_eq_some_iff.1 hf).1
    have hg : l[i + 1 + d]? = some l[i + 1 + d] := List.getElem?_eq_getElem (by omega)
    have h1 := ih i e _ he hg
    have h2 := (h (i + 1 + (d + 1)) f (Nat.zero_le _) hf).2 _ (by omega) hg
    exact bl_trans _ _ _ h1 h2
theorem ok_apart {l : List S32} (h : okFrom l 0) : l.Pairwise (fun e f => ¬ e.f0.toList = f.f0.toList) := by
  rw [List.pairwise_iff_getElem]
  intro i j hi hj hij he
  obtain ⟨d, rfl⟩ : ∃ d, j = i + 1 + d := ⟨j - i - 1, by omega⟩
  have := ok_less h d i _ _ (List.getElem?_eq_getElem hi) (List.getElem?_eq_getElem hj)
  unfold less at this
  rw [he, bl_irr] at this
  cases this
theorem atL_no (s : ByteArray) (l : List S32) : ∀ (i a : Int), (∀ e ∈ l, ¬ e.f0.toList = s.toList) → atL s l i a = a := by
  induction l with
  | nil => intro i a _; rfl
  | cons x l ih =>
    intro i a h
    rw [atL, if_neg (h x List.mem_cons_self)]
    exact ih _ _ (fun e he => h e (List.mem_cons_of_mem _ he))
theorem atL_find (s : ByteArray) (l : List S32) : ∀ i : Int, l.Pairwise (fun e f => ¬ e.f0.toList = f.f0.toList) → atL s l i (-1) = findL s l i := by
  induction l with
  | nil => intro i _; rfl
  | cons x l ih =>
    intro i h
    rw [List.pairwise_cons] at h
    rw [atL, findL]
    by_cases hx : x.f0.toList = s.toList
    · rw [if_pos hx, if_pos hx]
      exact atL_no s l _ _ (fun e he hs => h.1 e he (hx.trans hs.symm))
    · rw [if_neg hx, if_neg hx]
      exact ih _ h.2
theorem s32_ext {e f : S32} (h0 : e.f0.toList = f.f0.toList) (h1 : e.f1 = f.f1) (h2 : e.f2.f0 = f.f2.f0) (h3 : e.f2.f1 = f.f2.f1) : e = f := by
  obtain ⟨a, b, c, d⟩ := e
  obtain ⟨a', b', c', d'⟩ := f
  simp only at h0 h1 h2 h3
  rw [ByteArray.toList_eq, ByteArray.toList_eq] at h0
  have : a = a' := by
    cases a; cases a'
    simp only at h0
    exact congrArg ByteArray.mk (Array.toList_inj.1 h0)
  subst this h1 h2 h3
  rfl
theorem eqg_l0 (l m : List S32) (hl : l.length ≤ 1000) (hm : l.length = m.length) (d : Nat) : ∀ (k i : Nat), i + d = l.length → d < k → ∃ q, recensionlaw23_eq.l0 k l m (i : Int) = some q ∧ (q = true ↔ l.drop i = m.drop i) := by
  induction d with
  | zero =>
    intro k i hd hk
    obtain ⟨k, rfl⟩ : ∃ n, k = n + 1 := ⟨k - 1, by omega⟩
    simp only [recensionlaw23_eq.l0]
    rw [if_neg (by omega)]
    exact ⟨true, rfl, by rw [List.drop_of_length_le (by omega), List.drop_of_length_le (by omega)]; simp⟩
  | succ d ih =>
    intro k i hd hk
    obtain ⟨k, rfl⟩ : ∃ n, k = n + 1 := ⟨k - 1, by omega⟩
    obtain ⟨q, h1, h2⟩ := ih k (i + 1) (by omega) (by omega)
    have hil : i < l.length := by omega
    have him : i < m.length := by omega
    simp only [recensionlaw23_eq.l0]
    rw [if_pos (by omega), if_pos (by omega), if_pos (by omega), rd_get l (i : Int) i rfl _ (List.getElem?_eq_getElem hil), rd_get m (i : Int) i rfl _ (List.getElem?_eq_getElem him), w_succ i (by omega), List.drop_eq_getElem_cons hil, List.drop_eq_getElem_cons him]
    by_cases c0 : l[i].f0.toList = m[i].f0.toList
    · rw [if_pos c0]
      by_cases c1 : l[i].f1 = m[i].f1
      · rw [if_pos c1]
        by_cases c2 : l[i].f2.f0 = m[i].f2.f0
        · rw [if_pos c2]
          by_cases c3 : l[i].f2.f1 = m[i].f2.f1
          · rw [if_pos c3]
            have e := s32_ext c0 c1 c2 c3
            exact ⟨q, h1, h2.trans ⟨fun h => (by rw [e, h]), fun h => (List.cons.inj h).2⟩⟩
          · rw [if_neg c3]
            exact ⟨false, rfl, ⟨fun h => (by cases h), fun h => absurd (congrArg (fun z : S32 => z.f2.f1) (List.cons.inj h).1) c3⟩⟩
        · rw [if_neg c2]
          exact ⟨false, rfl, ⟨fun h => (by cases h), fun h => absurd (congrArg (fun z : S32 => z.f2.f0) (List.cons.inj h).1) c2⟩⟩
      · rw [if_neg c1]
        exact ⟨false, rfl, ⟨fun h => (by cases h), fun h => absurd (congrArg (fun z : S32 => z.f1) (List.cons.inj h).1) c1⟩⟩
    · rw [if_neg c0]
      exact ⟨false, rfl, ⟨fun h => (by cases h), fun h => absurd (congrArg (fun z : S32 => z.f0.toList) (List.cons.inj h).1) c0⟩⟩
theorem eqg_f (k : Nat) (l m : List S32) (hl : l.length ≤ 1000) (hk : l.length < k) : ∃ q, recensionlaw23_eq.f k l m = some q ∧ (q = true ↔ l = m) := by
  unfold recensionlaw23_eq.f
  by_cases h : l.length = m.length
  · rw [if_pos (by omega)]
    obtain ⟨q, h1, h2⟩ := eqg_l0 l m hl h l.length k 0 (by omega) hk
    exact ⟨q, h1, by simpa using h2⟩
  · rw [if_neg (by omega)]
    exact ⟨false, rfl, by simp; intro e; exact h (by rw [e])⟩
def byteL (l : List Int) : Prop := ∀ x ∈ l, 0 ≤ x ∧ x < 256
theorem byteL_app {a b : List Int} (ha : byteL a) (hb : byteL b) : byteL (a ++ b) := by
  intro x hx
  rcases List.mem_append.1 hx with h | h
  · exact ha x h
  · exact hb x h
theorem enc_byte (u : Nat) : byteL (enc u) := by
  induction u using Nat.strongRecOn with
  | ind u ih =>
    by_cases h : u > 127
    · rw [enc_big h]
      intro x hx
      rcases List.mem_cons.1 hx with rfl | hx
      · omega
      · exact ih (u / 128) (by omega) x hx
    · rw [enc_small h]
      intro x hx
      simp at hx
      omega
theorem bytesOf_byte (s : ByteArray) : byteL (bytesOf s) := by
  intro x hx
  unfold bytesOf at hx
  simp only [List.mem_map] at hx
  obtain ⟨b, _, rfl⟩ := hx
  have := b.toNat_lt
  omega
theorem entsB_byte (l : List S32) : byteL (entsB l) := by
  induction l with
  | nil => intro x hx; simp [entsB] at hx
  | cons e l ih =>
    simp only [entsB, entB]
    exact byteL_app (byteL_app (byteL_app (enc_byte _) (bytesOf_byte _)) (byteL_app (enc_byte _) (byteL_app (enc_byte _) (enc_byte _)))) ih
theorem encL_byte (l : List S32) : byteL (encL l) := byteL_app (enc_byte _) (entsB_byte l)
theorem of_str {l : List Int} (h : byteL l) : bytesOf (strOfNums l) = l := by
  unfold bytesOf
  rw [strOfNums_data, List.map_map]
  conv => rhs; rw [← List.map_id l]
  apply List.map_congr_left
  intro x hx
  have := h x hx
  simp only [Function.comp_apply, id]
  rw [UInt8.toNat_ofNat_of_lt' (by show x.toNat < 256; omega)]
  omega
theorem encL_inj {l m : List S32} (hl : okFrom l 0) (hm : okFrom m 0) (hl2 : l.length ≤ 32) (hm2 : m.length ≤ 32) (h : (strOfNums (encL m)).toList = (strOfNums (encL l)).toList) : l = m := by
  have e : strOfNums (encL m) = strOfNums (encL l) := by
    rw [ByteArray.toList_eq, ByteArray.toList_eq] at h
    exact congrArg ByteArray.mk (Array.toList_inj.1 h)
  have e2 : encL m = encL l := by rw [← of_str (encL_byte m), e, of_str (encL_byte l)]
  have h1 := Decode_enc 41 l hl hl2 (Nat.le_refl _)
  have h2 := Decode_enc 41 m hm hm2 (Nat.le_refl _)
  rw [e2, h1] at h2
  injection h2 with h2
  injection h2
theorem Cut_f (k : Nat) (x : List S32) (hk : 35 ≤ k) : ∃ r, recensionlaw23_Cut.f k x = some r ∧ r.length ≤ 34 := by
  unfold recensionlaw23_Cut.f
  exact Cut_l0 x 34 k 0 [] rfl hk rfl
theorem DirAll : recensionlaw23_DirAll.Pure := by
  intro l0 m0 a _ _ _
  obtain ⟨k, hk⟩ : ∃ k, k = 1000 := ⟨_, rfl⟩
  obtain ⟨l, hl, hl2⟩ := Cut_f k l0 (by omega)
  obtain ⟨m, hm, hm2⟩ := Cut_f k m0 (by omega)
  obtain ⟨s, hs⟩ := cut3_f a
  refine ⟨k, ?_⟩
  unfold recensionlaw23_DirAll.f
  refine if_pos ⟨begun_k k (by omega), l, m, s, hl, hm, hs, ?_⟩
  by_cases ho : okFrom l 0 ∧ l.length ≤ 32
  · obtain ⟨o1, o2⟩ := ho
    refine .inr ⟨encL l, findL s l 0, Encode_yes k l o1 o2 (by omega), May_yes k l (by omega) (by omega) o1 o2, rmay_t k l (by omega) (by omega) o1 o2, Decode_enc k l o1 o2 (by omega), rbytes_f k l o1 o2 (by omega), eq_self k l (by omega) (by omega), ?_, atL_find s l 0 (ok_apart o1), by omega, ?_⟩
    · unfold dir_Find.f
      rw [if_pos (by omega)]
    · by_cases hp : okFrom m 0 ∧ m.length ≤ 32
      · obtain ⟨p1, p2⟩ := hp
        obtain ⟨q, q1, q2⟩ := eqg_f k l m (by omega) (by omega)
        refine .inr ⟨encL m, q, rmay_t k m (by omega) (by omega) p1 p2, Encode_yes k m p1 p2 (by omega), q1, ?_⟩
        rw [Bool.eq_iff_iff, q2, beq_iff_eq]
        constructor
        · exact encL_inj o1 p1 o2 p2
        · rintro rfl; rfl
      · exact .inl (rmay_n k m (by omega) (by omega) hp)
  · exact .inl ⟨Encode_no k l ho (by omega) (by omega), May_no k l (by omega) (by omega) ho, rmay_n k l (by omega) (by omega) ho⟩

end Go.Proofs.Ytloabiheaelbnaa.Pure
