/- Steps come, are taken back, done again, written and read as the document's stack does it. Condition: none beside the statement's own. -/
import Derived.Test.YthjbcpakpfdkaaaPStackx10
namespace Go.Proofs.Ythjbcpakpfdkaaa.Pure
open Go.RowKit Go.Proofs.Ythjbcpakpfdkaaa.PStack Go.Proofs.YthjbcpakpfdkaaaW.PrintWords Go.Proofs.YthjbcpakpfdkaaaW.PrintLast Go.Proofs.YthjbcpakpfdkaaaW.PrintMore
instance : DecidableEq S56 := fun a b => decidable_of_iff (a.f0 = b.f0 ∧ a.f1 = b.f1 ∧ a.f2 = b.f2 ∧ a.f3 = b.f3 ∧ a.f4 = b.f4) (by
  obtain ⟨a0, a1, a2, a3, a4⟩ := a
  obtain ⟨b0, b1, b2, b3, b4⟩ := b
  simp)
theorem begun_k : BegunOK 200 := by
  refine ⟨by decide +kernel, by decide +kernel, by decide +kernel, (stack_enc 200 [[chg ⟨#[97]⟩ ⟨#[120]⟩ ⟨#[121]⟩]] [[chg ⟨#[97]⟩ ⟨#[121]⟩ ⟨#[122]⟩]]).getD [], by decide +kernel, by decide +kernel, by decide +kernel⟩
theorem may_one (k : Nat) (n o t : ByteArray) (hf : name_File.f k n = some true) (ho : o.size ≤ 2000) (ht : t.size ≤ 2000) : stack_may.f k n true true o t = some true := by
  unfold stack_may.f
  rw [hf, Option.bind_some, if_pos rfl, if_pos rfl, if_neg (by omega), if_neg (by omega), if_pos rfl]
theorem May_one (k : Nat) (n o t : ByteArray) (hf : name_File.f (k + 1) n = some true) (ho : o.size ≤ 2000) (ht : t.size ≤ 2000) : stack_May.f (k + 2) [chg n o t] = some true := by
  have h1 : rd_T56 [chg n o t] 0 = chg n o t := rfl
  have h2 : wrap64 (0 + 1) = 1 := by decide +kernel
  have hl : (([chg n o t] : List S56).length : Int) = 1 := rfl
  unfold stack_May.f
  simp only [stack_May.l0, h1, h2, hl]
  rw [if_pos (by decide), if_pos (by decide), if_pos (by decide)]
  have := may_one (k + 1) n o t hf ho ht
  show (stack_may.f (k + 1) n true true o t).bind _ = _
  rw [this, Option.bind_some, if_pos rfl, if_neg (by decide), if_neg (by decide), if_pos (by decide)]
  rfl
theorem or128_all : ∀ y : Fin 256, Go.bits .or .u8 (y.val : Int) 128 = (y.val : Int) % 128 + 128 := by decide +kernel
theorem and127_all : ∀ y : Fin 256, Go.bits .and .u8 (y.val : Int) 127 = (y.val : Int) % 128 := by decide +kernel
theorem or128 (y : Int) (h0 : 0 ≤ y) (h1 : y < 256) : Go.bits .or .u8 y 128 = y % 128 + 128 := by
  have h := or128_all ⟨y.toNat, by omega⟩
  have e : ((y.toNat : Nat) : Int) = y := by omega
  simp only [e] at h; exact h
theorem and127 (y : Int) (h0 : 0 ≤ y) (h1 : y < 256) : Go.bits .and .u8 y 127 = y % 128 := by
  have h := and127_all ⟨y.toNat, by omega⟩
  have e : ((y.toNat : Nat) : Int) = y := by omega
  simp only [e] at h; exact h
theorem wrap_u64 (n : Int) : IntKind.u64.wrap n = n % 18446744073709551616 := by simp [IntKind.wrap, IntKind.bits, IntKind.signed]
theorem not_u64 (x : Nat) (h : x < 18446744073709551616) : Go.bits .xor .u64 18446744073709551615 (x : Int) = 18446744073709551615 - (x : Int) := by
  have e := bits_xor_u64_nat 18446744073709551615 x (by omega) h
  have e2 : (18446744073709551615 : Nat) ^^^ x = 18446744073709551615 - x := by
    have h1 := BitVec.toNat_not (x := BitVec.ofNat 64 x)
    have h2 : (BitVec.ofNat 64 x).toNat = x := by rw [BitVec.toNat_ofNat]; exact Nat.mod_eq_of_lt h
    have h3 : ~~~(BitVec.ofNat 64 x) = BitVec.allOnes 64 ^^^ BitVec.ofNat 64 x := BitVec.allOnes_xor.symm
    rw [h3, BitVec.toNat_xor, h2, BitVec.toNat_allOnes] at h1
    exact h1
  rw [e2] at e
  have e3 : ((18446744073709551615 : Nat) : Int) = 18446744073709551615 := rfl
  rw [e3] at e
  rw [e]; omega
theorem not_i64_all (x : Int) (h0 : 0 ≤ x) (h1 : x < 9223372036854775808) : Go.bits .xor .i64 (-1) x = -1 - x := by
  have h : BitVec.ofInt 64 (-1) = BitVec.allOnes 64 := by decide +kernel
  have e : (BitVec.ofInt 64 x).toNat = x.toNat := by
    rw [BitVec.toNat_ofInt]
    have : x % (2 ^ 64 : Nat) = x := Int.emod_eq_of_lt h0 (by omega)
    rw [this]
  have e2 : (BitVec.ofInt 64 (-1) ^^^ BitVec.ofInt 64 x).toNat = 18446744073709551615 - x.toNat := by
    rw [h, BitVec.allOnes_xor, BitVec.toNat_not, e]
  show IntKind.i64.wrap ((BitVec.ofInt 64 (-1) ^^^ BitVec.ofInt 64 x).toNat : Int) = -1 - x
  rw [e2, IntKind.wrap_i64]
  omega

/-- A number's bytes. -/
def enc (u : Nat) : List Int := if u > 127 then ((u % 128 + 128 : Nat) : Int) :: enc (u / 128) else [(u : Int)]
  termination_by u
  decreasing_by omega
theorem enc_big {u : Nat} (h : u > 127) : enc u = ((u % 128 + 128 : Nat) : Int) :: enc (u / 128) := by rw [enc, if_pos h]
theorem enc_small {u : Nat} (h : ¬ u > 127) : enc u = [(u : Int)] := by rw [enc, if_neg h]
theorem enc_pos (u : Nat) : 0 < (enc u).length := by
  by_cases h : u > 127
  · rw [enc_big h]; simp
  · rw [enc_small h]; simp
theorem enc_le (d : Nat) : ∀ u : Nat, u < 128 ^ (d + 1) → (enc u).length ≤ d + 1 := by
  induction d with
  | zero => intro u h; rw [enc_small (by omega)]; simp
  | succ d ih =>
    intro u h
    by_cases hu : u > 127
    · rw [enc_big hu, List.length_cons]
      have := ih (u / 128) (by rw [Nat.pow_succ] at h; omega)
      omega
    · rw [enc_small hu]; simp

theorem put_l0 (d : Nat) : ∀ (k : Nat) (l : List Int) (u : Nat), u < 128 ^ (d + 1) → d < k → l.length + d + 1 ≤ 140737488355327 → num_Put.l0 k l (u : Int) = some (l ++ enc u) := by
  induction d with
  | zero =>
    intro k l u hu hk hl
    obtain ⟨k, rfl⟩ : ∃ m, k = m + 1 := ⟨k - 1, by omega⟩
    simp only [num_Put.l0]
    rw [if_neg (by omega), if_pos (by omega), enc_small (by omega)]
    congr 3; omega
  | succ d ih =>
    intro k l u hu hk hl
    obtain ⟨k, rfl⟩ : ∃ m, k = m + 1 := ⟨k - 1, by omega⟩
    simp only [num_Put.l0]
    by_cases h : u > 127
    · rw [if_pos (by omega), if_pos (by omega), or128 _ (by omega) (by omega), enc_big h, show ((u : Int) / 128) = ((u / 128 : Nat) : Int) by omega, ih k _ (u / 128) (by rw [Nat.pow_succ] at hu; omega) (by omega) (by simp; omega)]
      rw [List.append_assoc]
      congr 3
      rw [List.singleton_append]; congr 1; omega
    · rw [if_neg (by omega), if_pos (by omega), enc_small h]
      congr 3; omega

def zig (n : Int) : Nat := if n < 0 then (-2 * n - 1).toNat else (2 * n).toNat
theorem zig_lt {n : Int} (h0 : -9223372036854775808 ≤ n) (h1 : n ≤ 9223372036854775807) : zig n < 18446744073709551616 := by
  unfold zig; split <;> omega
theorem zig_of {n : Int} (h0 : -9223372036854775808 ≤ n) (h1 : n ≤ 9223372036854775807) :
    (n < 0 → Go.bits .xor .u64 18446744073709551615 (IntKind.u64.wrap ((IntKind.u64.wrap (n)) * 2)) = (zig n : Int)) ∧ (¬ n < 0 → IntKind.u64.wrap ((IntKind.u64.wrap (n)) * 2) = (zig n : Int)) := by
  constructor
  · intro h
    have e : IntKind.u64.wrap ((IntKind.u64.wrap (n)) * 2) = (((18446744073709551616 + 2 * n).toNat : Nat) : Int) := by
      rw [wrap_u64, wrap_u64]; omega
    rw [e, not_u64 _ (by omega)]
    unfold zig; rw [if_pos h]; omega
  · intro h
    rw [wrap_u64, wrap_u64]
    unfold zig; rw [if_neg h]; omega

theorem put_f (k : Nat) (l : List Int) (n : Int) (h0 : -9223372036854775808 ≤ n) (h1 : n ≤ 9223372036854775807) (hk : 12 ≤ k) (hl : l.length ≤ 140737488350000) : num_Put.f k l n = some (l ++ enc (zig n)) := by
  obtain ⟨k, rfl⟩ : ∃ m, k = m + 1 := ⟨k - 1, by omega⟩
  obtain ⟨hz1, hz2⟩ := zig_of h0 h1
  have hz := zig_lt h0 h1
  unfold num_Put.f
  by_cases h : n < 0
  · rw [if_pos h, hz1 h]
    simp only [num_Put.j0]
    exact put_l0 9 k l _ (by omega) (by omega) (by omega)
  · rw [if_neg h, hz2 h]
    simp only [num_Put.j0]
    exact put_l0 9 k l _ (by omega) (by omega) (by omega)

theorem enc10 {n : Int} (h0 : -9223372036854775808 ≤ n) (h1 : n ≤ 9223372036854775807) : (enc (zig n)).length ≤ 10 := enc_le 9 _ (by have := zig_lt h0 h1; omega)
theorem wf64 {n : Int} (h : (Lit.int .i64 n).wf = true) : -9223372036854775808 ≤ n ∧ n ≤ 9223372036854775807 := by
  simp [Lit.wf, IntKind.min, IntKind.max, IntKind.signed, IntKind.bits] at h
  omega
theorem puttext_f (k : Nat) (l : List Int) (s : ByteArray) (hs : s.size ≤ 1000000) (hk : 12 ≤ k) (hl : l.length ≤ 140737480000000) : num_PutText.f k l s = some (l ++ enc (2 * s.size) ++ bytesOf s) := by
  unfold num_PutText.f
  rw [put_f k l _ (by omega) (by omega) hk (by omega)]
  have hz : zig (s.size : Int) = 2 * s.size := by unfold zig; rw [if_neg (by omega)]; omega
  have h10 := enc10 (n := (s.size : Int)) (by omega) (by omega)
  rw [hz] at h10 ⊢
  simp only [Option.bind_some]
  rw [if_pos (by rw [List.length_append]; omega)]
theorem wsm {x : Int} (h0 : -9223372036854775808 ≤ x) (h1 : x ≤ 9223372036854775807) : wrap64 x = x := by
  unfold wrap64
  omega
theorem w_cast (i : Int) (h0 : -3000000 ≤ i) (h : i ≤ 3000000) : wrap64 i = i := wsm (by omega) (by omega)
theorem w_succ (i : Nat) (h : i ≤ 2000000) : wrap64 ((i : Int) + 1) = ((i + 1 : Nat) : Int) := by rw [wsm (by omega) (by omega)]; omega
theorem w_pred (i : Nat) (h : i ≤ 2000000) : wrap64 (((i + 1 : Nat) : Int) - 1) = (i : Int) := by rw [wsm (by omega) (by omega)]; omega
theorem get_j2 (k : Nat) (u i : Int) (z : Bool) (hi0 : 0 ≤ i) (hi : i ≤ 9) : ∃ n kk e, num_Get.j2 (k + 1) u i z = some (n, kk, e) ∧ (e = 0 → kk = i + 1) := by
  have ew : wrap64 (i + 1) = i + 1 := wsm (by omega) (by omega)
  simp only [num_Get.j2, ew]
  by_cases hz : z = true
  · rw [if_pos hz]; exact ⟨_, _, _, rfl, fun h => absurd h (by decide)⟩
  · rw [if_neg hz]
    by_cases h1 : Go.bits .and .u64 u 1 = 1
    · rw [if_pos h1]; exact ⟨_, _, _, rfl, fun _ => rfl⟩
    · rw [if_neg h1]; exact ⟨_, _, _, rfl, fun _ => rfl⟩
theorem get_tot0 (l : List Int) (_hl : l.length ≤ 1000000) (d : Nat) : ∀ (k i : Nat) (u : Int), i + d = 9 → 2 * d + 3 ≤ k → i ≤ l.length → ∃ n kk e, num_Get.l0 k u l (l.length : Int) (i : Int) = some (n, kk, e) ∧ (e = 0 → (i : Int) + 1 ≤ kk ∧ kk ≤ l.length) := by
  induction d with
  | zero =>
    intro k i u hd hk hil
    obtain ⟨k, rfl⟩ : ∃ m, k = m + 3 := ⟨k - 3, by omega⟩
    have hi9 : (i : Int) = 9 := by omega
    have e7 : wrap64 (7 * (i : Int)) = 7 * (i : Int) := wsm (by omega) (by omega)
    simp only [num_Get.l0]
    by_cases hlt : (i : Int) < (l.length : Int)
    · rw [if_pos hlt, if_pos (by omega), if_pos hlt, if_pos hi9]
      simp only [num_Get.j1]
      by_cases hb : rd l (i : Int) > 1
      · rw [if_pos (by simpa using hb)]; exact ⟨_, _, _, rfl, fun h => absurd h (by decide)⟩
      · rw [if_neg (by simpa using hb), e7, if_pos (by omega), if_neg (by omega), if_pos (by omega)]
        obtain ⟨n, kk, e, h1, h2⟩ := get_j2 k (Go.bits .or .u64 u (shl .u64 (IntKind.u64.wrap (Go.bits .and .u8 (rd l (i : Int)) 127)) (7 * (i : Int)))) (i : Int) (rd l (i : Int) == 0) (by omega) (by omega)
        exact ⟨n, kk, e, h1, fun he => by have := h2 he; omega⟩
    · rw [if_neg hlt]; exact ⟨_, _, _, rfl, fun h => absurd h (by decide)⟩
  | succ d ih =>
    intro k i u hd hk hil
    obtain ⟨k, rfl⟩ : ∃ m, k = m + 3 := ⟨k - 3, by omega⟩
    have e7 : wrap64 (7 * (i : Int)) = 7 * (i : Int) := wsm (by omega) (by omega)
    have ew : wrap64 ((i : Int) + 1) = ((i + 1 : Nat) : Int) := by rw [wsm (by omega) (by omega)]; omega
    simp only [num_Get.l0]
    by_cases hlt : (i : Int) < (l.length : Int)
    · rw [if_pos hlt, if_pos (by omega), if_pos hlt, if_neg (by omega : ¬ (i : Int) = 9)]
      simp only [num_Get.j1]
      rw [if_neg (by decide), e7, if_pos (by omega), ew]
      by_cases hb : rd l (i : Int) > 127
      · rw [if_pos hb]
        obtain ⟨n, kk, e, h1, h2⟩ := ih (k + 1) (i + 1) (Go.bits .or .u64 u (shl .u64 (IntKind.u64.wrap (Go.bits .and .u8 (rd l (i : Int)) 127)) (7 * (i : Int)))) (by omega) (by omega) (by omega)
        exact ⟨n, kk, e, h1, fun he => by have := h2 he; omega⟩
      · rw [if_neg hb]
        by_cases h0 : (i : Int) > 0
        · rw [if_pos h0]
          obtain ⟨n, kk, e, h1, h2⟩ := get_j2 k (Go.bits .or .u64 u (shl .u64 (IntKind.u64.wrap (Go.bits .and .u8 (rd l (i : Int)) 127)) (7 * (i : Int)))) (i : Int) (rd l (i : Int) == 0) (by omega) (by omega)
          exact ⟨n, kk, e, h1, fun he => by have := h2 he; omega⟩
        · rw [if_neg h0]
          obtain ⟨n, kk, e, h1, h2⟩ := get_j2 k (Go.bits .or .u64 u (shl .u64 (IntKind.u64.wrap (Go.bits .and .u8 (rd l (i : Int)) 127)) (7 * (i : Int)))) (i : Int) false (by omega) (by omega)
          exact ⟨n, kk, e, h1, fun he => by have := h2 he; omega⟩
    · rw [if_neg hlt]; exact ⟨_, _, _, rfl, fun h => absurd h (by decide)⟩
theorem get_tot (k : Nat) (hk : 40 ≤ k) (l : List Int) (hl : l.length ≤ 1000000) : ∃ n kk e, num_Get.f k l = some (n, kk, e) ∧ (e = 0 → 1 ≤ kk ∧ kk ≤ l.length) := by
  obtain ⟨n, kk, e, h1, h2⟩ := get_tot0 l hl 9 k 0 0 rfl (by omega) (by omega)
  exact ⟨n, kk, e, h1, fun he => by have := h2 he; omega⟩
theorem sz_of (l : List Int) : (strOfNums l).size = l.length := by
  simp [strOfNums, ByteArray.size]
theorem gettext_tot (k : Nat) (hk : 41 ≤ k) (l : List Int) (hl : l.length ≤ 1000000) : ∃ s kk e, num_GetText.f k l = some (s, kk, e) ∧ (e = 0 → 1 ≤ kk ∧ kk ≤ l.length) ∧ s.size ≤ l.length := by
  obtain ⟨n, kk, e, h1, h2⟩ := get_tot k (by omega) l hl
  obtain ⟨k, rfl⟩ : ∃ q, k = q + 1 := ⟨k - 1, by omega⟩
  unfold num_GetText.f
  rw [h1, Option.bind_some]
  simp only
  by_cases he : e = 0
  · obtain ⟨g1, g2⟩ := h2 he
    rw [if_pos he]
    by_cases hn : n < 0
    · rw [if_pos hn]
      simp only [num_GetText.j0]
      rw [if_pos trivial]; exact ⟨_, _, _, rfl, fun h => absurd h (by decide), Nat.zero_le _⟩
    · rw [if_neg hn]
      simp only [num_GetText.j0]
      by_cases hbig : n > 65536
      · rw [if_pos (by simpa using hbig)]; exact ⟨_, _, _, rfl, fun h => absurd h (by decide), Nat.zero_le _⟩
      · have w1 : wrap64 ((l.length : Int) - kk) = (l.length : Int) - kk := wsm (by omega) (by omega)
        have w2 : wrap64 (kk + n) = kk + n := wsm (by omega) (by omega)
        rw [if_neg (by simpa using hbig), w1, w2]
        by_cases hm : n > (l.length : Int) - kk
        · rw [if_pos hm]; exact ⟨_, _, _, rfl, fun h => absurd h (by decide), Nat.zero_le _⟩
        · rw [if_neg hm, if_pos (by omega), if_pos (by omega), if_pos (by omega)]
          exact ⟨_, _, _, rfl, fun _ => by omega, by rw [sz_of, List.length_drop, List.length_take]; omega⟩
  · rw [if_neg he]; exact ⟨_, _, _, rfl, fun h => absurd h he, Nat.zero_le _⟩
theorem dig_tot (c : Int) : ∃ t, name_Digit.f c = some t := by
  unfold name_Digit.f
  split <;> exact ⟨_, rfl⟩
theorem file_l0_tot (s : ByteArray) (hn : s.size ≤ 16) (d : Nat) : ∀ (k i : Nat), i + d = s.size → d < k → ∃ r, name_File.l0 k s (s.size : Int) (i : Int) = some r := by
  induction d with
  | zero =>
    intro k i hd hk
    obtain ⟨k, rfl⟩ : ∃ m, k = m + 1 := ⟨k - 1, by omega⟩
    simp only [name_File.l0]
    rw [if_neg (by omega)]
    exact ⟨_, rfl⟩
  | succ d ih =>
    intro k i hd hk
    obtain ⟨k, rfl⟩ : ∃ m, k = m + 1 := ⟨k - 1, by omega⟩
    obtain ⟨r, hr⟩ := ih k (i + 1) (by omega) (by omega)
    obtain ⟨t, ht⟩ := dig_tot (bt s (i : Int))
    simp only [name_File.l0]
    rw [if_pos (by omega), if_pos (by omega), if_pos (by omega), w_succ i (by omega), hr, ht]
    simp only [Option.bind_some]
    repeat' split
    all_goals exact ⟨_, rfl⟩
theorem file_tot (k : Nat) (hk : 19 ≤ k) (s : ByteArray) : ∃ r, name_File.f k s = some r := by
  obtain ⟨k, rfl⟩ : ∃ m, k = m + 1 := ⟨k - 1, by omega⟩
  have hj : ∀ b, s.size ≤ 16 ∨ b = true → ∃ r, name_File.j0 (k + 1) s b = some r := by
    intro b hb
    simp only [name_File.j0]
    by_cases h : b = true
    · rw [if_pos h]; exact ⟨_, rfl⟩
    · rw [if_neg h]
      have := file_l0_tot s (by rcases hb with hb | hb; exact hb; exact absurd hb h) s.size k 0 (by omega) (by rcases hb with hb | hb; omega; exact absurd hb h)
      exact this
  have he : s.toList = [] ↔ s.size = 0 := by
    rw [ByteArray.toList_eq, Array.toList_eq_nil_iff, ← Array.size_eq_zero_iff]; rfl
  unfold name_File.f
  by_cases h1 : s.size = 0
  · rw [if_pos (he.2 h1)]; exact hj _ (.inr rfl)
  · rw [if_neg (fun h => h1 (he.1 h))]
    by_cases h2 : 16 < s.size
    · rw [if_pos (by omega)]; exact hj _ (.inr rfl)
    · rw [if_neg (by omega), if_pos (by omega)]; exact hj _ (.inl (by omega))
theorem may_tot (k : Nat) (hk : 19 ≤ k) (a : ByteArray) (b c : Bool) (d e : ByteArray) : ∃ r, stack_may.f k a b c d e = some r := by
  obtain ⟨t, ht⟩ := file_tot k hk a
  unfold stack_may.f
  rw [ht, Option.bind_some]
  repeat' split
  all_goals exact ⟨_, rfl⟩
theorem May_l0_tot (xs : List S56) (hx : xs.length ≤ 1000) (d : Nat) : ∀ (k i : Nat), i + d = xs.length → d + 21 ≤ k → ∃ r, stack_May.l0 k xs xs (xs.length : Int) (i : Int) = some r := by
  induction d with
  | zero =>
    intro k i hd hk
    obtain ⟨k, rfl⟩ : ∃ m, k = m + 1 := ⟨k - 1, by omega⟩
    simp only [stack_May.l0]
    rw [if_neg (by omega)]
    split <;> exact ⟨_, rfl⟩
  | succ d ih =>
    intro k i hd hk
    obtain ⟨k, rfl⟩ : ∃ m, k = m + 1 := ⟨k - 1, by omega⟩
    obtain ⟨r, hr⟩ := ih k (i + 1) (by omega) (by omega)
    obtain ⟨t, ht⟩ := may_tot k (by omega) (rd_T56 xs (i : Int)).f0 (rd_T56 xs (i : Int)).f1 (rd_T56 xs (i : Int)).f2 (rd_T56 xs (i : Int)).f3 (rd_T56 xs (i : Int)).f4
    simp only [stack_May.l0]
    rw [if_pos (by omega), if_pos (by omega), if_pos (by omega), ht, Option.bind_some, w_succ i (by omega), hr, wsm (x := (i : Int) - 1) (by omega) (by omega)]
    by_cases h1 : t = true
    · rw [if_pos h1]
      by_cases h2 : (i : Int) > 0
      · rw [if_pos h2, if_pos (by omega), if_pos (by omega)]
        split <;> exact ⟨_, rfl⟩
      · rw [if_neg h2]; exact ⟨_, rfl⟩
    · rw [if_neg h1]; exact ⟨_, rfl⟩
theorem May_tot (k : Nat) (xs : List S56) (hx : xs.length ≤ 20) (hk : 50 ≤ k) : ∃ r, stack_May.f k xs = some r := May_l0_tot xs (by omega) xs.length k 0 (by omega) (by omega)
theorem rnum_tot (k : Nat) (hk : 41 ≤ k) (most : Int) (l : List Int) (bad : Bool) (hl : l.length ≤ 1000000) : ∃ z, rnum k most l bad = some z ∧ z.2.1.length ≤ l.length := by
  obtain ⟨n, kk, e, h1, h2⟩ := get_tot k (by omega) l hl
  unfold rnum
  rw [h1, Option.bind_some]
  simp only
  by_cases hc : e = 0 ∧ 0 ≤ n ∧ n ≤ most
  · have := h2 hc.1
    rw [if_pos hc, if_pos (by omega)]
    exact ⟨_, rfl, by simp⟩
  · rw [if_neg hc]; exact ⟨_, rfl, Nat.le_refl _⟩
theorem rtext_tot (k : Nat) (hk : 41 ≤ k) (l : List Int) (bad : Bool) (hl : l.length ≤ 1000000) : ∃ z, rtext k l bad = some z ∧ z.2.1.length ≤ l.length ∧ z.1.size ≤ 1000000 := by
  obtain ⟨n, kk, e, h1, h2, h3⟩ := gettext_tot k hk l hl
  unfold rtext
  rw [h1, Option.bind_some]
  simp only
  by_cases hc : e = 0
  · have := h2 hc
    rw [if_pos hc, if_pos (by omega)]
    exact ⟨_, rfl, by simp, by show n.size ≤ _; omega⟩
  · rw [if_neg hc]; exact ⟨_, rfl, Nat.le_refl _, Nat.zero_le _⟩
def szc (N : Nat) (c : S56) : Prop := c.f0.size ≤ N ∧ c.f3.size ≤ N ∧ c.f4.size ≤ N
theorem rchange_tot (k : Nat) (hk : 41 ≤ k) (l : List Int) (bad : Bool) (hl : l.length ≤ 1000000) : ∃ z, rchange k l bad = some z ∧ z.2.1.length ≤ l.length ∧ szc 1000000 z.1 := by
  obtain ⟨a, ha, la, sa⟩ := rtext_tot k hk l bad hl
  obtain ⟨b, hb, lb⟩ := rnum_tot k hk 1 a.2.1 a.2.2 (by omega)
  obtain ⟨c, hc, lc⟩ := rnum_tot k hk 1 b.2.1 b.2.2 (by omega)
  obtain ⟨d, hd, ld, sd⟩ := rtext_tot k hk c.2.1 c.2.2 (by omega)
  obtain ⟨e, he, le, se⟩ := rtext_tot k hk d.2.1 d.2.2 (by omega)
  unfold rchange
  rw [ha, Option.bind_some, hb, Option.bind_some, hc, Option.bind_some, hd, Option.bind_some, he, Option.bind_some]
  exact ⟨_, rfl, by show e.2.1.length ≤ _; omega, sa, sd, se⟩
theorem rloop_tot (k : Nat) (hk : 41 ≤ k) (n : Nat) : ∀ (l : List Int) (bad : Bool) (xs : List S56), l.length ≤ 1000000 → (∀ c ∈ xs, szc 1000000 c) → ∃ z, rloop k n l bad xs = some z ∧ z.2.1.length ≤ l.length ∧ ∀ c ∈ z.1, szc 1000000 c := by
  induction n with
  | zero => intro l bad xs hl hx; exact ⟨_, rfl, Nat.le_refl _, hx⟩
  | succ n ih =>
    intro l bad xs hl hx
    simp only [rloop]
    by_cases hb : bad = true
    · rw [if_pos hb]; exact ⟨_, rfl, Nat.le_refl _, hx⟩
    · rw [if_neg hb]
      obtain ⟨z, hz, lz, sz⟩ := rchange_tot k hk l bad hl
      rw [hz, Option.bind_some]
      obtain ⟨y, hy, ly, sy⟩ := ih z.2.1 z.2.2 (xs ++ [z.1]) (by omega) (by intro c hc; rcases List.mem_append.1 hc with h | h; exact hx c h; rw [List.mem_singleton.1 h]; exact sz)
      exact ⟨y, hy, by omega, sy⟩
theorem rstep_tot (k : Nat) (hk : 60 ≤ k) (l : List Int) (bad : Bool) (hl : l.length ≤ 1000000) : ∃ z, rstep k l bad = some z ∧ z.2.1.length ≤ l.length ∧ ∀ c ∈ z.1, szc 1000000 c := by
  obtain ⟨a, ha, la⟩ := rnum_tot k (by omega) 8 l bad hl
  obtain ⟨z, hz, lz, sz⟩ := rloop_tot k (by omega) a.1.toNat a.2.1 a.2.2 [] (by omega) (by simp)
  have h8 := (rnum_le (by decide) (show rnum k 8 l bad = some (a.1, a.2.1, a.2.2) from ha)).2
  have hzl := rloop_len _ hz
  rw [List.length_nil] at hzl
  obtain ⟨m, hm⟩ := May_tot k z.1 (by omega) (by omega)
  unfold rstep
  rw [ha, Option.bind_some, hz, Option.bind_some, hm, Option.bind_some]
  split
  · exact ⟨_, rfl, by show z.2.1.length ≤ _; omega, sz⟩
  · exact ⟨_, rfl, by show z.2.1.length ≤ _; omega, sz⟩
theorem sloop_tot (k : Nat) (hk : 60 ≤ k) (n : Int) (d : Nat) : ∀ (x : Int) (l : List Int) (bad : Bool) (U R : List (List S56)), l.length ≤ 1000000 → (∀ y ∈ U ++ R, ∀ c ∈ y, szc 1000000 c) → ∃ z, sloop k n d x l bad U R = some z ∧ ∀ y ∈ z.1 ++ z.2.1, ∀ c ∈ y, szc 1000000 c := by
  induction d with
  | zero => intro x l bad U R hl hx; exact ⟨_, rfl, hx⟩
  | succ d ih =>
    intro x l bad U R hl hx
    simp only [sloop]
    by_cases hb : bad = true
    · rw [if_pos hb]; exact ⟨_, rfl, hx⟩
    · rw [if_neg hb]
      obtain ⟨z, hz, lz, sz⟩ := rstep_tot k hk l bad hl
      rw [hz, Option.bind_some]
      split
      · exact ih _ _ _ _ _ (by omega) (by intro q hq; simp only [List.mem_append, List.mem_singleton] at hq; rcases hq with (hq | rfl) | hq; exact hx q (List.mem_append_left _ hq); exact sz; exact hx q (List.mem_append_right _ hq))
      · exact ih _ _ _ _ _ (by omega) (by intro q hq; simp only [List.mem_append, List.mem_singleton] at hq; rcases hq with hq | hq | rfl; exact hx q (List.mem_append_left _ hq); exact hx q (List.mem_append_right _ hq); exact sz)
theorem flag_f (k : Nat) (hk : 12 ≤ k) (b : List Int) (v : Bool) (hb : b.length ≤ 140737488350000) : ∃ r, stack_flag.f k b v = some r ∧ b.length ≤ r.length ∧ r.length ≤ b.length + 10 := by
  have h1 := enc10 (n := 1) (by decide) (by decide)
  have h0 := enc10 (n := 0) (by decide) (by decide)
  unfold stack_flag.f
  rw [put_f k b 1 (by decide) (by decide) hk hb, put_f k b 0 (by decide) (by decide) hk hb, Option.bind_some, Option.bind_some]
  split
  · exact ⟨_, rfl, by simp, by rw [List.length_append]; omega⟩
  · exact ⟨_, rfl, by simp, by rw [List.length_append]; omega⟩
theorem ptext_f (k : Nat) (hk : 12 ≤ k) (b : List Int) (s : ByteArray) (N : Nat) (hN : N ≤ 1000000) (hs : s.size ≤ N) (hb : b.length ≤ 140737480000000) : ∃ r, num_PutText.f k b s = some r ∧ b.length ≤ r.length ∧ r.length ≤ b.length + (10 + N) := by
  rw [puttext_f k b s (by omega) hk hb]
  have hz : zig (s.size : Int) = 2 * s.size := by unfold zig; rw [if_neg (by omega)]; omega
  have h10 := enc10 (n := (s.size : Int)) (by omega) (by omega)
  rw [hz] at h10
  have hbl := bytesOf_length s
  exact ⟨_, rfl, by rw [List.length_append, List.length_append]; omega, by rw [List.length_append, List.length_append]; omega⟩
theorem encC_tot (k : Nat) (hk : 12 ≤ k) (N M : Nat) (hN : N ≤ 1000000) (hM : M = 50 + 3 * N) (l : List S56) : ∀ (b : List Int), (∀ c ∈ l, szc N c) → b.length + M * l.length ≤ 100000000000 → ∃ r, stack_encC k b l = some r ∧ b.length ≤ r.length ∧ r.length ≤ b.length + M * l.length := by
  induction l with
  | nil => intro b _ _; exact ⟨_, rfl, Nat.le_refl _, by omega⟩
  | cons c l ih =>
    intro b hc hb
    rw [List.length_cons, Nat.mul_succ] at hb
    obtain ⟨s0, s3, s4⟩ := hc c List.mem_cons_self
    obtain ⟨b1, e1, l1, m1⟩ := ptext_f k hk b c.f0 N hN s0 (by omega)
    obtain ⟨b2, e2, l2, m2⟩ := flag_f k hk b1 c.f1 (by omega)
    obtain ⟨b3, e3, l3, m3⟩ := flag_f k hk b2 c.f2 (by omega)
    obtain ⟨b4, e4, l4, m4⟩ := ptext_f k hk b3 c.f3 N hN s3 (by omega)
    obtain ⟨b5, e5, l5, m5⟩ := ptext_f k hk b4 c.f4 N hN s4 (by omega)
    obtain ⟨r, h1, h2, h3⟩ := ih b5 (fun x hx => hc x (List.mem_cons_of_mem _ hx)) (by omega)
    simp only [stack_encC]
    rw [e1, Option.bind_some, e2, Option.bind_some, e3, Option.bind_some, e4, Option.bind_some, e5, Option.bind_some, h1, List.length_cons, Nat.mul_succ]
    exact ⟨r, rfl, by omega, by omega⟩
theorem encS_tot (k : Nat) (hk : 12 ≤ k) (N M : Nat) (hN : N ≤ 1000000) (hM : M = 50 + 3 * N) (l : List (List S56)) : ∀ (b : List Int), (∀ x ∈ l, x.length ≤ 10 ∧ ∀ c ∈ x, szc N c) → b.length + (10 + M * 10) * l.length ≤ 100000000000 → ∃ r, stack_encS k b l = some r ∧ b.length ≤ r.length ∧ r.length ≤ b.length + (10 + M * 10) * l.length := by
  induction l with
  | nil => intro b _ _; exact ⟨_, rfl, Nat.le_refl _, by simp⟩
  | cons x l ih =>
    intro b hc hb
    rw [List.length_cons, Nat.mul_succ] at hb
    obtain ⟨x10, sx⟩ := hc x List.mem_cons_self
    have hm := Nat.mul_le_mul_left M x10
    have h10 := enc10 (n := (x.length : Int)) (by omega) (by omega)
    have e1 := put_f k b (x.length : Int) (by omega) (by omega) hk (by omega)
    obtain ⟨b2, e2, l2, m2⟩ := encC_tot k hk N M hN hM x (b ++ enc (zig (x.length : Int))) sx (by rw [List.length_append]; omega)
    rw [List.length_append] at l2 m2
    obtain ⟨r, h1, h2, h3⟩ := ih b2 (fun y hy => hc y (List.mem_cons_of_mem _ hy)) (by omega)
    simp only [stack_encS]
    rw [e1, Option.bind_some, e2, Option.bind_some, h1, List.length_cons, Nat.mul_succ]
    exact ⟨r, rfl, by omega, by omega⟩
theorem enc_tot (k : Nat) (hk : 12 ≤ k) (N M : Nat) (hN : N ≤ 1000000) (hM : M = 50 + 3 * N) (U R : List (List S56)) (hx : ∀ x ∈ U ++ R, x.length ≤ 10 ∧ ∀ c ∈ x, szc N c) (hl : U.length + R.length ≤ 8) : ∃ r, stack_enc k U R = some r ∧ 0 < r.length ∧ r.length ≤ 20 + (10 + M * 10) * (U.length + R.length) := by
  have a1 := enc10 (n := (U.length : Int)) (by omega) (by omega)
  have a2 := enc10 (n := (R.length : Int)) (by omega) (by omega)
  have p1 := enc_pos (zig (U.length : Int))
  have e1 := put_f k [] (U.length : Int) (by omega) (by omega) hk (by simp)
  rw [List.nil_append] at e1
  have e2 := put_f k (enc (zig (U.length : Int))) (R.length : Int) (by omega) (by omega) hk (by omega)
  have hm := Nat.mul_le_mul_left (10 + M * 10) hl
  obtain ⟨r, h1, h2, h3⟩ := encS_tot k hk N M hN hM (U ++ R) (enc (zig (U.length : Int)) ++ enc (zig (R.length : Int))) hx (by rw [List.length_append, List.length_append]; omega)
  rw [List.length_append, List.length_append] at h3
  rw [List.length_append] at h2
  unfold stack_enc
  rw [e1, Option.bind_some, e2, Option.bind_some, h1]
  exact ⟨r, rfl, by omega, by omega⟩
theorem cutn (a : ByteArray) (n : Nat) : ∃ s, recensionlaw3_Cut.f a (n : Int) = some s ∧ s.size ≤ n := by
  unfold recensionlaw3_Cut.f
  by_cases h : (a.size : Int) > (n : Int)
  · rw [if_pos h, if_pos (by omega), if_pos (by omega)]
    exact ⟨_, rfl, by rw [ByteArray.size_extract]; omega⟩
  · rw [if_neg h]; exact ⟨_, rfl, by omega⟩
theorem Cut_l0_tot (x : List S56) (d : Nat) : ∀ (k i : Nat) (acc : List S56), i + d = 10 → 2 * d + 2 ≤ k → acc.length = i → (∀ c ∈ acc, szc 60 c) → ∃ r, recensionlaw25_Cut.l0 k x acc (i : Int) = some r ∧ r.length ≤ 10 ∧ ∀ c ∈ r, szc 60 c := by
  induction d with
  | zero =>
    intro k i acc hd hk ha hs
    obtain ⟨k, rfl⟩ : ∃ m, k = m + 2 := ⟨k - 2, by omega⟩
    have hf : decide ((i : Int) < 10) = false := decide_eq_false (by omega)
    simp only [recensionlaw25_Cut.l0, recensionlaw25_Cut.j1, hf]
    exact ⟨acc, by split <;> simp, by omega, hs⟩
  | succ d ih =>
    intro k i acc hd hk ha hs
    obtain ⟨k, rfl⟩ : ∃ m, k = m + 2 := ⟨k - 2, by omega⟩
    have hf : decide ((i : Int) < 10) = true := decide_eq_true (by omega)
    simp only [recensionlaw25_Cut.l0, recensionlaw25_Cut.j1, hf]
    by_cases h : (i : Int) < (x.length : Int)
    · obtain ⟨c0, h0, s0⟩ := cutn (rd_T56 x (i : Int)).f0 20
      obtain ⟨c3, h3, s3⟩ := cutn (rd_T56 x (i : Int)).f3 60
      obtain ⟨c4, h4, s4⟩ := cutn (rd_T56 x (i : Int)).f4 60
      rw [if_pos h, if_pos trivial, if_pos (by omega), if_pos h, show recensionlaw3_Cut.f (rd_T56 x (i : Int)).f0 20 = _ from h0, Option.bind_some, show recensionlaw3_Cut.f (rd_T56 x (i : Int)).f3 60 = _ from h3, Option.bind_some, show recensionlaw3_Cut.f (rd_T56 x (i : Int)).f4 60 = _ from h4, Option.bind_some, if_pos (by omega), w_succ i (by omega)]
      exact ih k (i + 1) _ (by omega) (by omega) (by simp [ha]) (by intro c hc; rcases List.mem_append.1 hc with hq | hq; exact hs c hq; rw [List.mem_singleton.1 hq]; exact ⟨by show c0.size ≤ 60; omega, s3, s4⟩)
    · rw [if_neg h]; exact ⟨acc, by simp, by omega, hs⟩

def unz (u : Nat) : Int := if u % 2 = 1 then -1 - (u / 2 : Nat) else ((u / 2 : Nat) : Int)
theorem unz_zig {n : Int} (_h0 : -9223372036854775808 ≤ n) (_h1 : n ≤ 9223372036854775807) : unz (zig n) = n := by
  unfold unz zig
  by_cases h : n < 0
  · rw [if_pos h, if_pos (by omega)]; omega
  · rw [if_neg h, if_neg (by omega)]; omega
theorem pow7 (i : Nat) : (128 : Nat) ^ i = 2 ^ (7 * i) := by rw [Nat.pow_mul]
theorem shl7 (i m : Nat) (hi : i ≤ 9) (h : m * 128 ^ i < 18446744073709551616) : shl .u64 (m : Int) (wrap64 (7 * (i : Int))) = ((m * 128 ^ i : Nat) : Int) := by
  have e : wrap64 (7 * (i : Int)) = 7 * (i : Int) := by unfold wrap64; omega
  have e2 : (7 * (i : Int)).toNat = 7 * i := by omega
  have e3 : min (7 * i) IntKind.u64.bits = 7 * i := Nat.min_eq_left (by simp [IntKind.bits]; omega)
  unfold shl
  rw [e, e2, e3, wrap_u64]
  have e4 : ((m : Int) * 2 ^ (7 * i)) = ((m * 128 ^ i : Nat) : Int) := by
    rw [pow7]; push_cast; rfl
  rw [e4]; omega
theorem or_up (acc m i : Nat) (ha : acc < 128 ^ i) (h : acc + m * 128 ^ i < 18446744073709551616) : Go.bits .or .u64 (acc : Int) ((m * 128 ^ i : Nat) : Int) = ((acc + m * 128 ^ i : Nat) : Int) := by
  rw [bits_or_u64_nat _ _ (by omega) (by omega)]
  congr 1
  rw [Nat.or_comm]
  have e := Nat.two_pow_add_eq_or_of_lt (i := 7 * i) (b := acc) (by rw [← pow7]; exact ha) m
  rw [← pow7, Nat.mul_comm (128 ^ i) m] at e
  omega
theorem one_u64 (x : Nat) (h : x < 18446744073709551616) : Go.bits .and .u64 (x : Int) 1 = (x : Int) % 2 := by
  have e := bits_and_u64_nat x 1 h (by omega)
  rw [Nat.and_one_is_mod] at e
  have e2 : ((1 : Nat) : Int) = 1 := rfl
  rw [e2] at e
  rw [e]; omega
theorem le9 {v i : Nat} (h : v * 128 ^ i < 18446744073709551616) (hv : i = 0 ∨ 1 ≤ v) : i ≤ 9 := by
  rcases hv with rfl | hv
  · omega
  · rcases Nat.lt_or_ge i 10 with h10 | h10
    · omega
    · have h1 : (128 : Nat) ^ 10 ≤ 128 ^ i := Nat.pow_le_pow_right (by decide) h10
      have h2 : 1 * 128 ^ i ≤ v * 128 ^ i := Nat.mul_le_mul_right _ hv
      omega
theorem get_end (k : Nat) (u i : Nat) (hu : u < 18446744073709551616) (hi : i ≤ 9) (hk : 1 ≤ k) : num_Get.j2 k (u : Int) (i : Int) false = some (unz u, (i : Int) + 1, 0) := by
  obtain ⟨k, rfl⟩ : ∃ m, k = m + 1 := ⟨k - 1, by omega⟩
  have ew : wrap64 ((i : Int) + 1) = (i : Int) + 1 := by unfold wrap64; omega
  have eh : wrap64 ((u : Int) / 2) = (u : Int) / 2 := by unfold wrap64; omega
  simp only [num_Get.j2]
  rw [if_neg (by decide), one_u64 u hu, ew, eh]
  unfold unz
  by_cases h : u % 2 = 1
  · rw [if_pos (by omega), if_pos h, not_i64_all _ (by omega) (by omega)]
    congr 3
  · rw [if_neg (by omega), if_neg h]
    congr 3

theorem drop_cons {l tl : List Int} {c : Int} {i : Nat} (h : l.drop i = c :: tl) : i < l.length ∧ rd l (i : Int) = c ∧ l.drop (i + 1) = tl := by
  have hlt : i < l.length := by
    rcases Nat.lt_or_ge i l.length with h1 | h1
    · exact h1
    · rw [List.drop_of_length_le h1] at h; cases h
  rw [List.drop_eq_getElem_cons hlt] at h
  injection h with h1 h2
  refine ⟨hlt, ?_, h2⟩
  unfold rd
  have e : ((i : Int)).toNat = i := by omega
  rw [e, List.getD_eq_getElem?_getD, List.getElem?_eq_getElem hlt]; exact h1

theorem get_last (l : List Int) (_hL : l.length ≤ 100000000) (k acc v i : Nat) (rest : List Int) (hv : v < 128) (hk : 3 < k) (hl : l.drop i = enc v ++ rest) (ha : acc < 128 ^ i) (hb : acc + v * 128 ^ i < 18446744073709551616) (h1 : i = 0 ∨ 1 ≤ v) :
    num_Get.l0 k (acc : Int) l (l.length : Int) (i : Int) = some (unz (acc + v * 128 ^ i), (i : Int) + (enc v).length, 0) := by
  obtain ⟨k, rfl⟩ : ∃ m, k = m + 2 := ⟨k - 2, by omega⟩
  have hi : i ≤ 9 := le9 (by omega) h1
  rw [enc_small (by omega)] at hl ⊢
  obtain ⟨hlt, hr, _⟩ := drop_cons hl
  have hs := shl7 i v hi (by omega)
  have ho := or_up acc v i ha hb
  have e7 : wrap64 (7 * (i : Int)) = 7 * (i : Int) := by unfold wrap64; omega
  simp only [num_Get.l0]
  rw [if_pos (by omega), if_pos (by omega), if_pos (by omega), hr]
  have hb9 : (if (i : Int) = 9 then num_Get.j1 (k + 1) (acc : Int) (i : Int) (v : Int) l (l.length : Int) (i : Int) (decide ((v : Int) > 1)) else num_Get.j1 (k + 1) (acc : Int) (i : Int) (v : Int) l (l.length : Int) (i : Int) false) = num_Get.j1 (k + 1) (acc : Int) (i : Int) (v : Int) l (l.length : Int) (i : Int) false := by
    by_cases h9 : (i : Int) = 9
    · rw [if_pos h9]
      have h9' : i = 9 := by omega
      subst h9'
      have : decide ((v : Int) > 1) = false := by simp; omega
      rw [this]
    · rw [if_neg h9]
  rw [hb9]
  simp only [num_Get.j1]
  rw [e7] at hs
  rw [if_neg (by decide), e7, if_pos (by omega), if_neg (by omega), and127 _ (by omega) (by omega), show ((v : Int) % 128) = (v : Int) by omega, show IntKind.u64.wrap (v : Int) = (v : Int) by rw [wrap_u64]; omega, hs, ho]
  have hz : (if (i : Int) > 0 then num_Get.j2 k ((acc + v * 128 ^ i : Nat) : Int) (i : Int) ((v : Int) == 0) else num_Get.j2 k ((acc + v * 128 ^ i : Nat) : Int) (i : Int) false) = num_Get.j2 k ((acc + v * 128 ^ i : Nat) : Int) (i : Int) false := by
    by_cases h0 : (i : Int) > 0
    · rw [if_pos h0]
      have : ((v : Int) == 0) = false := by simp; omega
      rw [this]
    · rw [if_neg h0]
  rw [hz, get_end k _ i hb hi (by omega)]
  have e1 : ((([(v : Int)] : List Int).length : Nat) : Int) = 1 := rfl
  rw [e1]

theorem get_step (l : List Int) (k acc i m acc2 : Nat) (hlt : i < l.length) (hi : i ≤ 8) (hm : m < 128) (hr : rd l (i : Int) = ((m + 128 : Nat) : Int)) (ho : Go.bits .or .u64 (acc : Int) (shl .u64 (m : Int) (7 * (i : Int))) = (acc2 : Int)) :
    num_Get.l0 (k + 2) (acc : Int) l (l.length : Int) (i : Int) = num_Get.l0 k (acc2 : Int) l (l.length : Int) ((i + 1 : Nat) : Int) := by
  have e7 : wrap64 (7 * (i : Int)) = 7 * (i : Int) := by unfold wrap64; omega
  have ew : wrap64 ((i : Int) + 1) = ((i + 1 : Nat) : Int) := by unfold wrap64; omega
  have t1 : (i : Int) < (l.length : Int) := by omega
  have t0 : 0 ≤ (i : Int) := Int.natCast_nonneg _
  have t9 : ¬ (i : Int) = 9 := by omega
  have t7 : 0 ≤ 7 * (i : Int) := by omega
  have tm : ((m + 128 : Nat) : Int) > 127 := by omega
  have em : Go.bits .and .u8 ((m + 128 : Nat) : Int) 127 = (m : Int) := by rw [and127 _ (by omega) (by omega)]; omega
  have eu : IntKind.u64.wrap (m : Int) = (m : Int) := by rw [wrap_u64]; omega
  simp only [num_Get.l0]
  rw [if_pos t1, if_pos t0, if_pos t1, hr, if_neg t9]
  simp only [num_Get.j1]
  rw [if_neg (by decide), e7, if_pos t7, if_pos tm, em, eu, ho, ew]

theorem get_l0 (l : List Int) (hL : l.length ≤ 100000000) (d : Nat) : ∀ (k acc v i : Nat) (rest : List Int), v < 128 ^ (d + 1) → 3 * d + 3 < k → l.drop i = enc v ++ rest → acc < 128 ^ i → acc + v * 128 ^ i < 18446744073709551616 → (i = 0 ∨ 1 ≤ v) →
    num_Get.l0 k (acc : Int) l (l.length : Int) (i : Int) = some (unz (acc + v * 128 ^ i), (i : Int) + (enc v).length, 0) := by
  induction d with
  | zero =>
    intro k acc v i rest hv hk hl ha hb h1
    exact get_last l hL k acc v i rest (by omega) (by omega) hl ha hb h1
  | succ d ih =>
    intro k acc v i rest hv hk hl ha hb h1
    by_cases hbig : v > 127
    · obtain ⟨k, rfl⟩ : ∃ m, k = m + 2 := ⟨k - 2, by omega⟩
      have hi : i ≤ 9 := le9 (by omega) h1
      have hk2 : 3 * d + 3 < k := by omega
      have hv1 : 1 ≤ v / 128 := by omega
      have hm : v % 128 < 128 := by omega
      rw [enc_big hbig] at hl ⊢
      obtain ⟨hlt, hr, hd⟩ := drop_cons hl
      have hv2 : v * 128 ^ i = v % 128 * 128 ^ i + v / 128 * 128 ^ (i + 1) := by
        have e := Nat.div_add_mod v 128
        have e2 : v / 128 * 128 ^ (i + 1) = 128 * (v / 128) * 128 ^ i := by rw [Nat.pow_succ, Nat.mul_comm 128 (v / 128), Nat.mul_assoc, Nat.mul_comm (128 ^ i) 128]
        rw [e2, ← Nat.add_mul]; congr 1; omega
      have hi8 : i ≤ 8 := by
        rcases Nat.lt_or_ge i 9 with h9 | h9
        · omega
        · have h9' : i = 9 := by omega
          subst h9'; omega
      have hs := shl7 i (v % 128) hi (by omega)
      have e7 : wrap64 (7 * (i : Int)) = 7 * (i : Int) := by unfold wrap64; omega
      rw [e7] at hs
      have ho := or_up acc (v % 128) i ha (by omega)
      rw [← hs] at ho
      have ha2 : acc + v % 128 * 128 ^ i < 128 ^ (i + 1) := by
        rw [Nat.pow_succ]
        have h3 : v % 128 * 128 ^ i ≤ 127 * 128 ^ i := Nat.mul_le_mul_right _ (by omega)
        omega
      have hq : v / 128 < 128 ^ (d + 1) := by rw [Nat.pow_succ] at hv; omega
      have hsum : acc + v % 128 * 128 ^ i + v / 128 * 128 ^ (i + 1) = acc + v * 128 ^ i := by omega
      rw [get_step l k acc i (v % 128) _ hlt hi8 hm hr ho, ih k _ (v / 128) (i + 1) rest hq hk2 hd ha2 (by rw [hsum]; exact hb) (.inr hv1), hsum]
      have e1 : ((((v % 128 + 128 : Nat) : Int) :: enc (v / 128)).length : Int) = ((enc (v / 128)).length : Int) + 1 := rfl
      have e2 : ((i + 1 : Nat) : Int) + ((enc (v / 128)).length : Int) = (i : Int) + (((enc (v / 128)).length : Int) + 1) := by clear hs ho hsum hv2 ha2 hb ha ih; omega
      rw [e1, e2]
    · exact get_last l hL k acc v i rest (by omega) (by omega) hl ha hb h1

theorem get_f (k : Nat) (n : Int) (rest : List Int) (h0 : -9223372036854775808 ≤ n) (h1 : n ≤ 9223372036854775807) (hk : 40 ≤ k) (hr : rest.length ≤ 10000000) : num_Get.f k (enc (zig n) ++ rest) = some (n, ((enc (zig n)).length : Int), 0) := by
  have hz := zig_lt h0 h1
  have h10 := enc10 h0 h1
  have h := get_l0 (enc (zig n) ++ rest) (by rw [List.length_append]; omega) 9 k 0 (zig n) 0 rest (by omega) (by omega) (by simp) (by decide) (by omega) (.inl rfl)
  unfold num_Get.f
  have e : ((0 : Nat) : Int) = 0 := rfl
  rw [e] at h
  rw [h]
  simp [unz_zig h0 h1]

theorem rput_l0 (d : Nat) : ∀ (k : Nat) (l : List Int) (u : Nat), u < 128 ^ (d + 1) → u < 18446744073709551616 → d < k → l.length + d + 1 ≤ 140737488355327 → recensionref1_Put.l0 k (u : Int) l = some (l ++ enc u) := by
  induction d with
  | zero =>
    intro k l u hu _ hk hl
    obtain ⟨k, rfl⟩ : ∃ m, k = m + 1 := ⟨k - 1, by omega⟩
    simp only [recensionref1_Put.l0]
    rw [if_neg (by omega), if_pos (by omega), enc_small (by omega)]
    congr 3; omega
  | succ d ih =>
    intro k l u hu h64 hk hl
    obtain ⟨k, rfl⟩ : ∃ m, k = m + 1 := ⟨k - 1, by omega⟩
    simp only [recensionref1_Put.l0]
    by_cases h : u > 127
    · have e1 : IntKind.u64.wrap (Int.tdiv (u : Int) 128) = ((u / 128 : Nat) : Int) := by rw [wrap_u64, Int.tdiv_eq_ediv_of_nonneg (by omega)]; omega
      have e2 : (IntKind.u64.wrap ((Int.tmod (u : Int) 128) + 128)) % 256 = ((u % 128 + 128 : Nat) : Int) := by rw [wrap_u64, Int.tmod_eq_emod_of_nonneg (by omega)]; omega
      rw [if_pos (by omega), if_pos (by omega), e1, e2, enc_big h, ih k _ (u / 128) (by rw [Nat.pow_succ] at hu; omega) (by omega) (by omega) (by simp; omega)]
      rw [List.append_assoc, List.singleton_append]
    · rw [if_neg (by omega), if_pos (by omega), enc_small h]
      congr 3; omega
theorem rput_f (k : Nat) (n : Int) (h0 : -9223372036854775808 ≤ n) (h1 : n ≤ 9223372036854775807) (hk : 12 ≤ k) : recensionref1_Put.f k n = some (enc (zig n)) := by
  obtain ⟨k, rfl⟩ : ∃ m, k = m + 1 := ⟨k - 1, by omega⟩
  obtain ⟨hz1, hz2⟩ := zig_of h0 h1
  have hz := zig_lt h0 h1
  have h := rput_l0 9 k [] (zig n) (by omega) hz (by omega) (by simp)
  rw [List.nil_append] at h
  unfold recensionref1_Put.f
  by_cases hn : n < 0
  · rw [if_pos hn, hz1 hn]
    simp only [recensionref1_Put.j0]; exact h
  · rw [if_neg hn, hz2 hn]
    simp only [recensionref1_Put.j0]; exact h
theorem rputtext_f (k : Nat) (s : ByteArray) (hs : s.size ≤ 1000000) (hk : 12 ≤ k) : recensionref1_PutText.f k s = some (enc (2 * s.size) ++ bytesOf s) := by
  unfold recensionref1_PutText.f
  rw [rput_f k _ (by omega) (by omega) hk]
  have hz : zig (s.size : Int) = 2 * s.size := by unfold zig; rw [if_neg (by omega)]; omega
  have h10 := enc10 (n := (s.size : Int)) (by omega) (by omega)
  rw [hz] at h10 ⊢
  simp only [Option.bind_some]
  rw [if_pos (by omega)]
theorem str_back (s : ByteArray) : strOfNums (bytesOf s) = s := by
  obtain ⟨d⟩ := s
  have e : (fun n : Int => UInt8.ofNat n.toNat) ∘ (fun b : UInt8 => (b.toNat : Int)) = id := by
    funext b; simp
  simp [strOfNums, bytesOf, List.map_map, e]
theorem str_append (a b : List Int) : (strOfNums (a ++ b)).toList = (strOfNums a ++ strOfNums b).toList := by
  rw [ByteArray.toList_eq, ByteArray.toList_eq, strOfNums_data, List.map_append]
  simp [strOfNums]

theorem gettext_f (k : Nat) (s : ByteArray) (rest : List Int) (hs : s.size ≤ 60000) (hk : 41 ≤ k) (hr : rest.length ≤ 1000000) :
    num_GetText.f k (enc (2 * s.size) ++ bytesOf s ++ rest) = some (s, ((enc (2 * s.size) ++ bytesOf s).length : Int), 0) := by
  have hz : zig (s.size : Int) = 2 * s.size := by unfold zig; rw [if_neg (by omega)]; omega
  have h10 := enc10 (n := (s.size : Int)) (by omega) (by omega)
  rw [hz] at h10
  have hbl := bytesOf_length s
  obtain ⟨k, rfl⟩ : ∃ q, k = q + 1 := ⟨k - 1, by omega⟩
  have hg := get_f (k + 1) (s.size : Int) (bytesOf s ++ rest) (by omega) (by omega) (by omega) (by rw [List.length_append]; omega)
  rw [hz, ← List.append_assoc] at hg
  have hLl : (enc (2 * s.size) ++ bytesOf s ++ rest).length = (enc (2 * s.size)).length + s.size + rest.length := by rw [List.length_append, List.length_append, hbl]
  unfold num_GetText.f
  rw [hg]
  simp only [Option.bind_some, if_true]
  rw [if_neg (by omega)]
  have e2 : decide ((s.size : Int) > 65536) = false := by simp; omega
  rw [e2]
  simp only [num_GetText.j0]
  have ea : wrap64 (((enc (2 * s.size) ++ bytesOf s ++ rest).length : Int) - ((enc (2 * s.size)).length : Int)) = (s.size : Int) + (rest.length : Int) := by rw [hLl]; unfold wrap64; omega
  have eb : wrap64 (((enc (2 * s.size)).length : Int) + (s.size : Int)) = (((enc (2 * s.size) ++ bytesOf s).length : Nat) : Int) := by rw [List.length_append, hbl]; unfold wrap64; omega
  have ec : ((((enc (2 * s.size) ++ bytesOf s).length : Nat) : Int)).toNat = (enc (2 * s.size) ++ bytesOf s).length := by omega
  have ed : (((enc (2 * s.size)).length : Int)).toNat = (enc (2 * s.size)).length := by omega
  rw [if_neg (by decide), ea, eb, if_neg (by omega), if_pos (by omega), if_pos (by rw [List.length_append]; omega), if_pos (by rw [hLl, List.length_append, hbl]; omega), ec, ed, List.take_left, List.drop_left, str_back]

theorem wrap_up {i : Int} {n : Nat} (h0 : 0 ≤ i) (h : i < (n : Int)) (hn : n ≤ 140737488351232) : wrap64 (i + 1) = i + 1 := by
  unfold wrap64
  omega

def digB (c : Int) : Bool := decide (48 ≤ c) && decide (c ≤ 57)

theorem digit_f (c : Int) : name_Digit.f c = some (digB c) := by
  unfold name_Digit.f digB
  repeat' split
  all_goals (simp only [Option.some.injEq]; simp; omega)

def allB (p : Int → Bool) (s : ByteArray) : Nat → Bool
  | 0 => true
  | d + 1 => p (bt s ((s.size : Int) - (d + 1))) && allB p s d
def fileC (c : Int) : Bool := (decide (97 ≤ c) && decide (c ≤ 122)) || digB c || c == 46 || c == 45 || c == 95
def fileB (s : ByteArray) : Bool := !decide (s.size < 1) && !decide (16 < s.size) && !(bt s 0 == 46) && allB fileC s s.size

theorem file_l0 (s : ByteArray) (hn : s.size ≤ 140737488351232) (d : Nat) : ∀ (k : Nat) (i : Int), 0 ≤ i → (s.size : Int) - i = d → d < k → name_File.l0 k s (s.size : Int) i = some (allB fileC s d) := by
  induction d with
  | zero =>
    intro k i h0 hd hk
    obtain ⟨k, rfl⟩ : ∃ m, k = m + 1 := ⟨k - 1, by omega⟩
    simp only [name_File.l0, allB]
    rw [if_neg (by omega)]
  | succ d ih =>
    intro k i h0 hd hk
    obtain ⟨k, rfl⟩ : ∃ m, k = m + 1 := ⟨k - 1, by omega⟩
    have hlt : i < (s.size : Int) := by omega
    have e : (s.size : Int) - (↑d + 1) = i := by omega
    simp only [name_File.l0, allB, e]
    rw [if_pos hlt, if_pos h0, if_pos hlt, digit_f, wrap_up h0 hlt hn, ih k (i + 1) (by omega) (by omega) (by omega)]
    simp only [Option.bind_some, fileC]
    by_cases h1 : 97 ≤ bt s i <;> by_cases h2 : bt s i ≤ 122 <;> by_cases h3 : bt s i = 46 <;> by_cases h4 : bt s i = 45 <;> by_cases h5 : bt s i = 95 <;> cases digB (bt s i) <;> simp [h1, h2, h3, h4, h5]

theorem file_f (k : Nat) (s : ByteArray) (hn : s.size ≤ 140737488351232) (hk : s.size + 2 ≤ k) : name_File.f k s = some (fileB s) := by
  obtain ⟨k, rfl⟩ : ∃ m, k = m + 1 := ⟨k - 1, by omega⟩
  have hl := file_l0 s hn s.size k 0 (by omega) (by omega) (by omega)
  have he : s.toList = [] ↔ s.size = 0 := by
    rw [ByteArray.toList_eq, Array.toList_eq_nil_iff, ← Array.size_eq_zero_iff]; rfl
  unfold name_File.f fileB
  simp only [name_File.j0, hl]
  by_cases h1 : s.size = 0
  · rw [if_pos (he.2 h1)]; simp [h1]
  · rw [if_neg (fun h => h1 (he.1 h))]
    by_cases h2 : 16 < s.size
    · rw [if_pos (by omega)]; simp [h2]
    · rw [if_neg (by omega), if_pos (by omega)]
      have h3 : decide (s.size < 1) = false := by simpa using h1
      have h4 : decide (16 < s.size) = false := by simpa using h2
      rw [h3, h4]
      cases (bt s 0 == 46) <;> simp

theorem rdigit_f (c : Int) : recensionref1_Digit.f c = some (digB c) := by
  unfold recensionref1_Digit.f digB
  repeat' split
  all_goals (simp only [Option.some.injEq]; simp; omega)

theorem rfile_l0 (s : ByteArray) (hn : s.size ≤ 140737488351232) (d : Nat) : ∀ (k : Nat) (i : Int), 0 ≤ i → (s.size : Int) - i = d → d < k → recensionref1_FileName.l0 k s i = some (allB fileC s d) := by
  induction d with
  | zero =>
    intro k i h0 hd hk
    obtain ⟨k, rfl⟩ : ∃ m, k = m + 1 := ⟨k - 1, by omega⟩
    simp only [recensionref1_FileName.l0, allB]
    rw [if_neg (by omega)]
  | succ d ih =>
    intro k i h0 hd hk
    obtain ⟨k, rfl⟩ : ∃ m, k = m + 1 := ⟨k - 1, by omega⟩
    have hlt : i < (s.size : Int) := by omega
    have e : (s.size : Int) - (↑d + 1) = i := by omega
    simp only [recensionref1_FileName.l0, allB, e]
    rw [if_pos hlt, if_pos h0, rdigit_f, wrap_up h0 hlt hn, ih k (i + 1) (by omega) (by omega) (by omega)]
    simp only [Option.bind_some, fileC]
    by_cases h1 : 97 ≤ bt s i <;> by_cases h2 : bt s i ≤ 122 <;> by_cases h3 : bt s i = 46 <;> by_cases h4 : bt s i = 45 <;> by_cases h5 : bt s i = 95 <;> cases digB (bt s i) <;> simp [h1, h2, h3, h4, h5]

theorem rfile_f (k : Nat) (s : ByteArray) (hn : s.size ≤ 140737488351232) (hk : s.size + 2 ≤ k) : recensionref1_FileName.f k s = some (fileB s) := by
  obtain ⟨k, rfl⟩ : ∃ m, k = m + 1 := ⟨k - 1, by omega⟩
  have hl := rfile_l0 s hn s.size k 0 (by omega) (by omega) (by omega)
  unfold recensionref1_FileName.f fileB
  simp only [recensionref1_FileName.j0, hl]
  by_cases h1 : s.size = 0
  · rw [if_pos (by omega)]; simp [h1]
  · rw [if_neg (by omega)]
    by_cases h2 : 16 < s.size
    · rw [if_pos (by omega)]; simp [h2]
    · rw [if_neg (by omega), if_pos (by omega)]
      have h3 : decide (s.size < 1) = false := by simpa using h1
      have h4 : decide (16 < s.size) = false := by simpa using h2
      rw [h3, h4]
      cases (bt s 0 == 46) <;> simp

/-! ### what a stack's bytes are -/
def textB (s : ByteArray) : List Int := enc (2 * s.size) ++ bytesOf s
def flagB (b : Bool) : List Int := enc (zig (if b = true then 1 else 0))
def chB (c : S56) : List Int := textB c.f0 ++ (flagB c.f1 ++ (flagB c.f2 ++ (textB c.f3 ++ textB c.f4)))
def chsB : List S56 → List Int
  | [] => []
  | c :: l => chB c ++ chsB l
def stepB (x : List S56) : List Int := enc (zig (x.length : Int)) ++ chsB x
def stepsB : List (List S56) → List Int
  | [] => []
  | x :: l => stepB x ++ stepsB l
def stackB (U R : List (List S56)) : List Int := enc (zig (U.length : Int)) ++ (enc (zig (R.length : Int)) ++ stepsB (U ++ R))
theorem textB_len {s : ByteArray} (h : s.size ≤ 60) : (textB s).length ≤ 70 := by
  have h10 := enc10 (n := (s.size : Int)) (by omega) (by omega)
  rw [show zig (s.size : Int) = 2 * s.size by unfold zig; rw [if_neg (by omega)]; omega] at h10
  unfold textB
  rw [List.length_append, bytesOf_length]
  omega
theorem flagB_len (b : Bool) : (flagB b).length ≤ 10 := by
  cases b
  · exact enc10 (n := 0) (by omega) (by omega)
  · exact enc10 (n := 1) (by omega) (by omega)
theorem chB_len {c : S56} (h : szc 60 c) : (chB c).length ≤ 230 := by
  have h0 := textB_len h.1
  have h1 := flagB_len c.f1
  have h2 := flagB_len c.f2
  have h3 := textB_len h.2.1
  have h4 := textB_len h.2.2
  unfold chB
  simp only [List.length_append]
  omega
theorem chsB_len (l : List S56) (h : ∀ c ∈ l, szc 60 c) : (chsB l).length ≤ 230 * l.length := by
  induction l with
  | nil => simp [chsB]
  | cons c l ih =>
    have h1 := chB_len (h c (by simp))
    have h2 := ih (fun c hc => h c (by simp [hc]))
    simp only [chsB, List.length_append, List.length_cons]
    omega
def okS (x : List S56) : Prop := x.length ≤ 8 ∧ ∀ c ∈ x, szc 60 c
theorem stepB_len {x : List S56} (h : okS x) : (stepB x).length ≤ 1850 := by
  have h1 := chsB_len x h.2
  have h10 := enc10 (n := (x.length : Int)) (by have := h.1; omega) (by have := h.1; omega)
  have := h.1
  unfold stepB
  rw [List.length_append]
  omega
theorem stepsB_len (l : List (List S56)) (h : ∀ x ∈ l, okS x) : (stepsB l).length ≤ 1850 * l.length := by
  induction l with
  | nil => simp [stepsB]
  | cons c l ih =>
    have h1 := stepB_len (h c (by simp))
    have h2 := ih (fun c hc => h c (by simp [hc]))
    simp only [stepsB, List.length_append, List.length_cons]
    omega
/-! ### what is written -/
theorem text_put (k : Nat) (b : List Int) (s : ByteArray) (hs : s.size ≤ 60) (hk : 12 ≤ k) (hb : b.length ≤ 100000000) : num_PutText.f k b s = some (b ++ textB s) := by
  rw [puttext_f k b s (by omega) hk (by omega), List.append_assoc]; rfl
theorem flag_put (k : Nat) (b : List Int) (v : Bool) (hk : 12 ≤ k) (hb : b.length ≤ 100000000) : stack_flag.f k b v = some (b ++ flagB v) := by
  unfold stack_flag.f flagB
  cases v
  · rw [if_neg (by decide), put_f k b 0 (by omega) (by omega) hk (by omega)]; rfl
  · rw [if_pos rfl, put_f k b 1 (by omega) (by omega) hk (by omega)]; rfl
theorem encC_f (k : Nat) (hk : 12 ≤ k) (l : List S56) : ∀ b : List Int, (∀ c ∈ l, szc 60 c) → b.length + 230 * l.length ≤ 10000000 → stack_encC k b l = some (b ++ chsB l) := by
  induction l with
  | nil => intro b _ _; simp [stack_encC, chsB]
  | cons c l ih =>
    intro b hc hb
    have h1 := hc c (by simp)
    have l1 := chB_len h1
    rw [List.length_cons] at hb
    simp only [chB, List.length_append] at l1
    simp only [stack_encC]
    rw [text_put k b c.f0 h1.1 hk (by omega), Option.bind_some, flag_put k _ c.f1 hk (by simp only [List.length_append]; omega), Option.bind_some, flag_put k _ c.f2 hk (by simp only [List.length_append]; omega), Option.bind_some,
      text_put k _ c.f3 h1.2.1 hk (by simp only [List.length_append]; omega), Option.bind_some, text_put k _ c.f4 h1.2.2 hk (by simp only [List.length_append]; omega), Option.bind_some,
      ih _ (fun c hc' => hc c (by simp [hc'])) (by simp only [List.length_append]; omega)]
    simp [chsB, chB]
theorem encS_f (k : Nat) (hk : 12 ≤ k) (l : List (List S56)) : ∀ b : List Int, (∀ x ∈ l, okS x) → b.length + 1850 * l.length ≤ 1000000 → stack_encS k b l = some (b ++ stepsB l) := by
  induction l with
  | nil => intro b _ _; simp [stack_encS, stepsB]
  | cons x l ih =>
    intro b hx hb
    have h1 := hx x (by simp)
    have l1 := stepB_len h1
    have h8 := h1.1
    rw [List.length_cons] at hb
    simp only [stepB, List.length_append] at l1
    simp only [stack_encS]
    rw [put_f k b (x.length : Int) (by omega) (by omega) hk (by omega), Option.bind_some, encC_f k hk x _ h1.2 (by simp only [List.length_append]; omega), Option.bind_some, ih _ (fun y hy => hx y (by simp [hy])) (by simp only [List.length_append]; omega)]
    simp [stepsB, stepB]
theorem stackB_len {U R : List (List S56)} (hx : ∀ x ∈ U ++ R, okS x) (hl : U.length + R.length ≤ 4) : (stackB U R).length ≤ 7420 := by
  have h1 := stepsB_len _ hx
  have h2 := enc10 (n := (U.length : Int)) (by omega) (by omega)
  have h3 := enc10 (n := (R.length : Int)) (by omega) (by omega)
  rw [List.length_append] at h1
  have h4 := Nat.mul_le_mul_left 1850 hl
  unfold stackB
  simp only [List.length_append]
  omega
theorem enc_f (k : Nat) (hk : 12 ≤ k) (U R : List (List S56)) (hx : ∀ x ∈ U ++ R, okS x) (hl : U.length + R.length ≤ 4) : stack_enc k U R = some (stackB U R) := by
  have h2 := enc10 (n := (U.length : Int)) (by omega) (by omega)
  have h3 := enc10 (n := (R.length : Int)) (by omega) (by omega)
  have h4 := Nat.mul_le_mul_left 1850 hl
  unfold stack_enc
  rw [put_f k [] (U.length : Int) (by omega) (by omega) hk (by simp), Option.bind_some, put_f k _ (R.length : Int) (by omega) (by omega) hk (by simp; omega), Option.bind_some, encS_f k hk (U ++ R) _ hx (by simp only [List.length_append, List.nil_append]; omega)]
  simp [stackB]
theorem yes_f (k : Nat) (v : Bool) (hk : 12 ≤ k) : recensionref25_yes.f k v = some (flagB v) := by
  unfold recensionref25_yes.f flagB
  cases v
  · rw [if_neg (by decide), rput_f k 0 (by omega) (by omega) hk]; rfl
  · rw [if_pos rfl, rput_f k 1 (by omega) (by omega) hk]; rfl
theorem rbytesC_f (k : Nat) (hk : 12 ≤ k) (l : List S56) : ∀ b : List Int, (∀ c ∈ l, szc 60 c) → b.length + 230 * l.length ≤ 10000000 → rbytesC k b l = some (b ++ chsB l) := by
  induction l with
  | nil => intro b _ _; simp [rbytesC, chsB]
  | cons c l ih =>
    intro b hc hb
    have h1 := hc c (by simp)
    have l1 := chB_len h1
    rw [List.length_cons] at hb
    simp only [chB, List.length_append] at l1
    simp only [rbytesC]
    rw [show recensionref1_PutText.f k c.f0 = some (textB c.f0) from rputtext_f k _ (by have := h1.1; omega) hk, Option.bind_some, yes_f k _ hk, Option.bind_some, yes_f k _ hk, Option.bind_some,
      show recensionref1_PutText.f k c.f3 = some (textB c.f3) from rputtext_f k _ (by have := h1.2.1; omega) hk, Option.bind_some, show recensionref1_PutText.f k c.f4 = some (textB c.f4) from rputtext_f k _ (by have := h1.2.2; omega) hk, Option.bind_some,
      if_pos (by omega), ih _ (fun c hc' => hc c (by simp [hc'])) (by simp only [List.length_append]; omega)]
    simp [chsB, chB]
theorem rbytesS_f (k : Nat) (hk : 12 ≤ k) (l : List (List S56)) : ∀ b : List Int, (∀ x ∈ l, okS x) → b.length + 1850 * l.length ≤ 1000000 → rbytesS k b l = some (b ++ stepsB l) := by
  induction l with
  | nil => intro b _ _; simp [rbytesS, stepsB]
  | cons x l ih =>
    intro b hx hb
    have h1 := hx x (by simp)
    have l1 := stepB_len h1
    have h8 := h1.1
    rw [List.length_cons] at hb
    simp only [stepB, List.length_append] at l1
    simp only [rbytesS]
    rw [rput_f k (x.length : Int) (by omega) (by omega) hk, Option.bind_some, if_pos (by omega), rbytesC_f k hk x _ h1.2 (by simp only [List.length_append]; omega), Option.bind_some, ih _ (fun y hy => hx y (by simp [hy])) (by simp only [List.length_append]; omega)]
    simp [stepsB, stepB]
theorem rbytes_f (k : Nat) (hk : 12 ≤ k) (U R : List (List S56)) (hx : ∀ x ∈ U ++ R, okS x) (hl : U.length + R.length ≤ 4) : rbytes k U R = some (stackB U R) := by
  have h2 := enc10 (n := (U.length : Int)) (by omega) (by omega)
  have h3 := enc10 (n := (R.length : Int)) (by omega) (by omega)
  have h4 := Nat.mul_le_mul_left 1850 hl
  unfold rbytes
  rw [rput_f k (U.length : Int) (by omega) (by omega) hk, Option.bind_some, rput_f k (R.length : Int) (by omega) (by omega) hk, Option.bind_some, if_pos (by omega), rbytesS_f k hk (U ++ R) _ hx (by simp only [List.length_append]; omega)]
  simp [stackB]
/-! ### what is read -/
theorem drop_at (P Q : List Int) (y : Int) (hy : y = (P.length : Int)) : (P ++ Q).drop y.toNat = Q := by
  subst hy
  rw [Int.toNat_natCast, List.drop_left]
theorem rnum_f (k : Nat) (hk : 41 ≤ k) (most n : Int) (rest : List Int) (bad : Bool) (h0 : 0 ≤ n) (h1 : n ≤ most) (hm : most ≤ 8) (hr : rest.length ≤ 900000) : rnum k most (enc (zig n) ++ rest) bad = some (n, rest, bad) := by
  unfold rnum
  rw [get_f k n rest (by omega) (by omega) (by omega) (by omega), Option.bind_some]
  dsimp only
  rw [if_pos ⟨rfl, h0, h1⟩, if_pos ⟨by omega, by rw [List.length_append]; omega⟩, drop_at _ _ _ rfl]
theorem rtext_f (k : Nat) (hk : 41 ≤ k) (s : ByteArray) (rest : List Int) (bad : Bool) (hs : s.size ≤ 60) (hr : rest.length ≤ 900000) : rtext k (textB s ++ rest) bad = some (s, rest, bad) := by
  have h := gettext_f k s rest (by omega) hk (by omega)
  unfold rtext
  rw [show textB s ++ rest = enc (2 * s.size) ++ bytesOf s ++ rest from rfl, h, Option.bind_some]
  dsimp only
  rw [if_pos rfl, if_pos ⟨by omega, by simp only [List.length_append]; omega⟩, drop_at _ _ _ rfl]
theorem flag_back (v : Bool) : ((if v = true then 1 else 0 : Int) == 1) = v := by cases v <;> rfl
theorem rchange_f (k : Nat) (hk : 41 ≤ k) (c : S56) (rest : List Int) (hc : szc 60 c) (hr : rest.length ≤ 800000) : rchange k (chB c ++ rest) false = some (c, rest, false) := by
  have h0 := textB_len hc.1
  have h1 := flagB_len c.f1
  have h2 := flagB_len c.f2
  have h3 := textB_len hc.2.1
  have h4 := textB_len hc.2.2
  have b1 : 0 ≤ (if c.f1 = true then 1 else 0 : Int) ∧ (if c.f1 = true then 1 else 0 : Int) ≤ 1 := by split <;> omega
  have b2 : 0 ≤ (if c.f2 = true then 1 else 0 : Int) ∧ (if c.f2 = true then 1 else 0 : Int) ≤ 1 := by split <;> omega
  unfold rchange chB
  simp only [List.append_assoc]
  rw [rtext_f k hk c.f0 _ false hc.1 (by simp only [List.length_append]; omega), Option.bind_some]
  simp only [flagB] at h1 h2 ⊢
  rw [rnum_f k hk 1 _ _ false b1.1 b1.2 (by omega) (by simp only [List.length_append]; omega), Option.bind_some]
  simp only
  rw [rnum_f k hk 1 _ _ false b2.1 b2.2 (by omega) (by simp only [List.length_append]; omega), Option.bind_some]
  simp only
  rw [rtext_f k hk c.f3 _ false hc.2.1 (by simp only [List.length_append]; omega), Option.bind_some]
  simp only
  rw [rtext_f k hk c.f4 _ false hc.2.2 (by omega), Option.bind_some, flag_back, flag_back]
theorem rloop_f (k : Nat) (hk : 41 ≤ k) (l : List S56) : ∀ (rest : List Int) (acc : List S56), (∀ c ∈ l, szc 60 c) → 230 * l.length + rest.length ≤ 800000 → rloop k l.length (chsB l ++ rest) false acc = some (acc ++ l, rest, false) := by
  induction l with
  | nil => intro rest acc _ _; simp [rloop, chsB]
  | cons c l ih =>
    intro rest acc hc hr
    rw [List.length_cons] at hr
    have hl := chsB_len l (fun c hc' => hc c (by simp [hc']))
    simp only [List.length_cons, rloop, chsB, List.append_assoc]
    rw [if_neg (by decide), rchange_f k hk c _ (hc c (by simp)) (by rw [List.length_append]; omega), Option.bind_some]
    simp only
    rw [ih rest _ (fun c hc' => hc c (by simp [hc'])) (by omega)]
    simp
theorem rstep_f (k : Nat) (hk : 41 ≤ k) (x : List S56) (rest : List Int) (hx : okS x) (hM : stack_May.f k x = some true) (hr : rest.length ≤ 700000) : rstep k (stepB x ++ rest) false = some (x, rest, false) := by
  have h8 := hx.1
  have hl := chsB_len x hx.2
  unfold rstep stepB
  rw [List.append_assoc, rnum_f k hk 8 _ _ false (by omega) (by omega) (by omega) (by rw [List.length_append]; omega), Option.bind_some]
  simp only [Int.toNat_natCast]
  rw [rloop_f k hk x rest [] hx.2 (by omega), Option.bind_some]
  simp only [List.nil_append]
  rw [if_neg (by decide), hM]
  rfl
theorem sloop_r (k : Nat) (hk : 41 ≤ k) (n : Int) (V : List (List S56)) : ∀ (x : Int) (U R : List (List S56)), n ≤ x → (∀ y ∈ V, okS y ∧ stack_May.f k y = some true) → 1850 * V.length ≤ 600000 → sloop k n V.length x (stepsB V) false U R = some (U, R ++ V, false) := by
  induction V with
  | nil => intro x U R _ _ _; simp [sloop]
  | cons y V ih =>
    intro x U R hx hV hl
    rw [List.length_cons] at hl
    have h2 := stepsB_len V (fun y hy => (hV y (by simp [hy])).1)
    have h1 := hV y (by simp)
    simp only [List.length_cons, sloop, stepsB]
    rw [if_neg (by decide), rstep_f k hk y _ h1.1 h1.2 (by omega), Option.bind_some, if_neg (by omega)]
    simp only
    rw [ih (x + 1) U (R ++ [y]) (by omega) (fun y hy => hV y (by simp [hy])) (by omega)]
    simp
theorem sloop_f (k : Nat) (hk : 41 ≤ k) (n : Int) (W V : List (List S56)) : ∀ (x : Int) (U R : List (List S56)), n = x + W.length → (∀ y ∈ W ++ V, okS y ∧ stack_May.f k y = some true) → 1850 * (W.length + V.length) ≤ 600000 → sloop k n (W.length + V.length) x (stepsB (W ++ V)) false U R = some (U ++ W, R ++ V, false) := by
  induction W with
  | nil =>
    intro x U R hx hV hl
    simp only [List.length_nil, Nat.zero_add, List.nil_append, List.append_nil] at hx hV hl ⊢
    exact sloop_r k hk n V x U R (by omega) hV (by omega)
  | cons y W ih =>
    intro x U R hx hV hl
    rw [List.length_cons] at hl hx
    have h2 := stepsB_len (W ++ V) (fun y hy => (hV y (List.mem_cons_of_mem _ hy)).1)
    rw [List.length_append] at h2
    have h1 := hV y (by simp)
    rw [List.length_cons, show W.length + 1 + V.length = (W.length + V.length) + 1 by omega, List.cons_append]
    simp only [sloop, stepsB]
    rw [if_neg (by decide), rstep_f k hk y _ h1.1 h1.2 (by omega), Option.bind_some, if_pos (by omega)]
    simp only
    rw [ih (x + 1) (U ++ [y]) R (by omega) (fun y hy => hV y (List.mem_cons_of_mem _ hy)) (by omega)]
    simp
theorem dec_f (k : Nat) (hk : 41 ≤ k) (U R : List (List S56)) (hx : ∀ x ∈ U ++ R, okS x ∧ stack_May.f k x = some true) (hl : U.length + R.length ≤ 4) : stack_dec k (stackB U R) = some (some (U, R)) := by
  have h1 := stepsB_len _ (fun x h => (hx x h).1)
  have h3 := enc10 (n := (R.length : Int)) (by omega) (by omega)
  rw [List.length_append] at h1
  have h4 := Nat.mul_le_mul_left 1850 hl
  have hE := enc_f k (by omega) U R (fun x h => (hx x h).1) hl
  have hs := sloop_f k hk (U.length : Int) U R 0 [] [] (by omega) hx (by omega)
  unfold stack_dec
  rw [show stackB U R = enc (zig (U.length : Int)) ++ (enc (zig (R.length : Int)) ++ stepsB (U ++ R)) from rfl, rnum_f k hk 4 _ _ false (by omega) (by omega) (by omega) (by rw [List.length_append]; omega), Option.bind_some]
  simp only
  rw [rnum_f k hk 4 _ _ false (by omega) (by omega) (by omega) (by omega), Option.bind_some]
  simp only
  rw [show ((U.length : Int) + (R.length : Int)).toNat = U.length + R.length by omega, hs, Option.bind_some]
  simp only [List.nil_append]
  rw [if_neg (by decide), if_neg (by omega), hE, Option.bind_some]
  unfold bytes_Equal.f stackB
  simp
/-! ### which steps may be: both ways the same -/
theorem may_rbad (k : Nat) (hk : 70 ≤ k) (c p : S56) (hs : c.f0.size ≤ 60) : stack_may.f k c.f0 c.f1 c.f2 c.f3 c.f4 = some (!(rbad (fileB c.f0) true p c)) := by
  unfold stack_may.f rbad
  rw [file_f k c.f0 (by omega) (by omega), Option.bind_some]
  cases hb : fileB c.f0
  · rw [if_neg (by decide)]; simp
  · rw [if_pos rfl]
    cases h1 : c.f1 <;> cases h2 : c.f2 <;> by_cases h3 : (c.f3.size : Int) > 2000 <;> by_cases h4 : (c.f4.size : Int) > 2000 <;> by_cases h5 : c.f3.toList = [] <;> by_cases h6 : c.f4.toList = [] <;> simp [h3, h4, h5, h6] <;> first | omega | (cases hq : c.f4.toList <;> simp_all [bne])
theorem rbad_split (b : Bool) (p c : S56) : rbad b false p c = (rbad b true p c || !(Op.bytesLess p.f0.toList c.f0.toList)) := by
  unfold rbad
  cases b <;> cases Op.bytesLess p.f0.toList c.f0.toList <;> cases c.f1 <;> cases c.f2 <;> simp
theorem May_eq_l0 (x : List S56) (hx : x.length ≤ 20) (hs : ∀ c ∈ x, szc 60 c) (d : Nat) : ∀ (k i : Nat), i + d = x.length → d + 80 ≤ k → stack_May.l0 k x x (x.length : Int) (i : Int) = recensionref25_May.l0 k x (i : Int) := by
  induction d with
  | zero =>
    intro k i hi hk
    obtain ⟨k, rfl⟩ : ∃ m, k = m + 1 := ⟨k - 1, by omega⟩
    have c1 : ¬ ((i : Int) < (x.length : Int)) := by omega
    simp only [stack_May.l0, recensionref25_May.l0]
    rw [if_neg c1, if_neg c1]
  | succ d ih =>
    intro k i hi hk
    obtain ⟨k, rfl⟩ : ∃ m, k = m + 1 := ⟨k - 1, by omega⟩
    have hl : i < x.length := by omega
    have hm : rd_T56 x (i : Int) ∈ x := by
      unfold rd_T56
      rw [Int.toNat_natCast, List.getD_eq_getElem?_getD, List.getElem?_eq_getElem hl]
      exact List.getElem_mem hl
    have hw := w_succ i (by omega)
    have hih := ih k (i + 1) (by omega) (by omega)
    simp only [stack_May.l0, recensionref25_May.l0]
    have c1 : (i : Int) < (x.length : Int) := by omega
    have c2 : 0 ≤ (i : Int) := by omega
    rw [if_pos c1, if_pos c2, if_pos c1, if_pos c1, if_pos c2, may_rbad k (by omega) _ (rd_T56 x (wrap64 ((i : Int) - 1))) (hs _ hm).1, Option.bind_some, rfile_f k _ (by have := (hs _ hm).1; omega) (by have := (hs _ hm).1; omega), Option.bind_some, hw, hih]
    by_cases h0 : i = 0
    · subst h0
      rw [show decide (((0 : Nat) : Int) ≤ 0) = true by decide]
      cases rbad (fileB (rd_T56 x ((0 : Nat) : Int)).f0) true (rd_T56 x (wrap64 (((0 : Nat) : Int) - 1))) (rd_T56 x ((0 : Nat) : Int))
      · rw [if_pos (by decide), if_neg (by decide), if_neg (by decide)]
      · rw [if_neg (by decide), if_pos (by decide)]
    · obtain ⟨j, rfl⟩ : ∃ j, i = j + 1 := ⟨i - 1, by omega⟩
      rw [show decide (((j + 1 : Nat) : Int) ≤ 0) = false from decide_eq_false (by omega), rbad_split]
      have hp := w_pred j (by omega)
      rw [hp]
      cases rbad (fileB (rd_T56 x ((j + 1 : Nat) : Int)).f0) true (rd_T56 x (j : Int)) (rd_T56 x ((j + 1 : Nat) : Int))
      · rw [if_pos (by decide), if_pos (by omega), if_pos (by omega), if_pos (by omega)]
        cases Op.bytesLess (rd_T56 x (j : Int)).f0.toList (rd_T56 x ((j + 1 : Nat) : Int)).f0.toList
        · rw [if_neg (by decide), if_pos (by decide)]
        · rw [if_pos rfl, if_neg (by decide)]
      · rw [if_neg (by decide), if_pos (by simp)]
theorem May_both (k : Nat) (x : List S56) (hx : x.length ≤ 10) (hs : ∀ c ∈ x, szc 60 c) (hk : 100 ≤ k) : ∃ b, stack_May.f k x = some b ∧ recensionref25_May.f k x = some b := by
  obtain ⟨b, hb⟩ := May_tot k x (by omega) (by omega)
  refine ⟨b, hb, ?_⟩
  have := May_eq_l0 x (by omega) hs x.length k 0 (by omega) (by omega)
  unfold stack_May.f at hb
  unfold recensionref25_May.f
  rw [← hb]
  exact this.symm
theorem May_len_l0 (x : List S56) : ∀ (k : Nat) (n i : Int), stack_May.l0 k x x n i = some true → x.length ≤ 8 := by
  intro k
  induction k with
  | zero => intro n i h; simp [stack_May.l0] at h
  | succ k ih =>
    intro n i h
    simp only [stack_May.l0] at h
    repeat' split at h
    all_goals first
      | exact ih _ _ h
      | (cases h; done)
      | (obtain ⟨t, _, h⟩ := Option.bind_eq_some_iff.1 h
         repeat' split at h
         all_goals first
           | exact ih _ _ h
           | (cases h; done))
      | (have := of_decide_eq_true (Option.some.inj h); omega)
theorem eq_l0 (l : List S56) (hl : l.length ≤ 1000) (d : Nat) : ∀ (k i : Nat), i + d = l.length → d < k → recensionref25_EqStep.l0 k l l (i : Int) = some true := by
  induction d with
  | zero =>
    intro k i hi hk
    obtain ⟨k, rfl⟩ : ∃ m, k = m + 1 := ⟨k - 1, by omega⟩
    simp only [recensionref25_EqStep.l0]
    rw [if_neg (by omega)]
  | succ d ih =>
    intro k i hi hk
    obtain ⟨k, rfl⟩ : ∃ m, k = m + 1 := ⟨k - 1, by omega⟩
    simp only [recensionref25_EqStep.l0]
    rw [if_pos (by omega), if_pos (by omega), if_pos (by omega), w_succ i (by omega), ih k (i + 1) (by omega) (by omega)]
    simp
theorem eq_self (k : Nat) (l : List S56) (hl : l.length ≤ 1000) (hk : l.length < k) : recensionlaw25_eq.f k l l = some true := by
  unfold recensionlaw25_eq.f recensionref25_EqStep.f
  rw [if_pos rfl]
  have := eq_l0 l hl l.length k 0 (by omega) (by omega)
  rw [show ((0 : Nat) : Int) = 0 from rfl] at this
  rw [this]
  rfl
/-! ### the law -/
theorem all_ok (l : List S32) : AllOK 200 l := by
  refine ⟨begun_k, fun x => stack_May.f 200 x = some true ∧ okS x, ⟨eq_self 200 [] (by simp) (by simp), fun x hx => ⟨by have := hx.2.1; omega, eq_self 200 x (by have := hx.2.1; omega) (by have := hx.2.1; omega)⟩⟩, fun U R hl hg => ⟨stackB U R, by have := stackB_len (fun x hx => (hg x hx).2) hl; omega, enc_f 200 (by omega) U R (fun x hx => (hg x hx).2) hl, rbytes_f 200 (by omega) U R (fun x hx => (hg x hx).2) hl, dec_f 200 (by omega) U R (fun x hx => ⟨(hg x hx).2, (hg x hx).1⟩) hl⟩, fun o _ => ?_⟩
  obtain ⟨x, hx, lx, sx⟩ := Cut_l0_tot o.f1 10 200 0 [] rfl (by omega) rfl (by simp)
  obtain ⟨b, h1, h2⟩ := May_both 200 x lx sx (by omega)
  exact ⟨x, b, hx, by omega, h1, h2, fun hb => by subst hb; exact ⟨h1, May_len_l0 x 200 _ _ h1, sx⟩⟩
theorem StackAll : recensionlaw25_StackAll.Pure := fun l _ => ⟨200, if_pos (all_ok l)⟩

end Go.Proofs.Ythjbcpakpfdkaaa.Pure
