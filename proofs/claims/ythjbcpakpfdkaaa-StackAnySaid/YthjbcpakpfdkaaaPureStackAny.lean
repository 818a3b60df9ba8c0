/- Any bytes are told as a stack's, just its, or as none's; those that were changed, too. Condition: none beside the statement's own. -/
import Derived.Test.YthjbcpakpfdkaaaPStackx5
namespace Go.Proofs.Ythjbcpakpfdkaaa.Pure
open Go.RowKit Go.Proofs.Ythjbcpakpfdkaaa.PStack Go.Proofs.YthjbcpakpfdkaaaW.PrintWords Go.Proofs.YthjbcpakpfdkaaaW.PrintLast Go.Proofs.YthjbcpakpfdkaaaW.PrintMore
instance : DecidableEq S56 := fun a b => decidable_of_iff (a.f0 = b.f0 ∧ a.f1 = b.f1 ∧ a.f2 = b.f2 ∧ a.f3 = b.f3 ∧ a.f4 = b.f4) (by
  obtain ⟨a0, a1, a2, a3, a4⟩ := a
  obtain ⟨b0, b1, b2, b3, b4⟩ := b
  simp)
theorem begun_k : BegunOK 200 := by
  refine ⟨by decide +kernel, by decide +kernel, by decide +kernel, (stack_enc 200 [[chg ⟨#[97]⟩ ⟨#[120]⟩ ⟨#[121]⟩]] [[chg ⟨#[97]⟩ ⟨#[121]⟩ ⟨#[122]⟩]]).getD [], by decide +kernel, by decide +kernel, by decide +kernel⟩
theorem may_one (k : Nat) (n o t : ByteArray) (hf : name_File.f k n = some true) (ho : o.size ≤ 2000) (ht : t.size ≤ 2000) : stack_may.f k n true true o t = some true := by
  unfold stack_may.f
  rw [hf, Option.bind_some, if_pos rfl, if_pos rfl, if_neg (by omega), if_neg (by omega), if_pos rfl]
theorem May_one (k : Nat) (n o t : ByteArray) (hf : name_File.f (k + 1) n = some true) (ho : o.size ≤ 2000) (ht : t.size ≤ 2000) : stack_May.f (k + 2) [chg n o t] = some true := by
  have h1 : rd_T56 [chg n o t] 0 = chg n o t := rfl
  have h2 : wrap64 (0 + 1) = 1 := by decide +kernel
  have hl : (([chg n o t] : List S56).length : Int) = 1 := rfl
  unfold stack_May.f
  simp only [stack_May.l0, h1, h2, hl]
  rw [if_pos (by decide), if_pos (by decide), if_pos (by decide)]
  have := may_one (k + 1) n o t hf ho ht
  show (stack_may.f (k + 1) n true true o t).bind _ = _
  rw [this, Option.bind_some, if_pos rfl, if_neg (by decide), if_neg (by decide), if_pos (by decide)]
  rfl
theorem or128_all : ∀ y : Fin 256, Go.bits .or .u8 (y.val : Int) 128 = (y.val : Int) % 128 + 128 := by decide +kernel
theorem and127_all : ∀ y : Fin 256, Go.bits .and .u8 (y.val : Int) 127 = (y.val : Int) % 128 := by decide +kernel
theorem or128 (y : Int) (h0 : 0 ≤ y) (h1 : y < 256) : Go.bits .or .u8 y 128 = y % 128 + 128 := by
  have h := or128_all ⟨y.toNat, by omega⟩
  have e : ((y.toNat : Nat) : Int) = y := by omega
  simp only [e] at h; exact h
theorem and127 (y : Int) (h0 : 0 ≤ y) (h1 : y < 256) : Go.bits .and .u8 y 127 = y % 128 := by
  have h := and127_all ⟨y.toNat, by omega⟩
  have e : ((y.toNat : Nat) : Int) = y := by omega
  simp only [e] at h; exact h
theorem wrap_u64 (n : Int) : IntKind.u64.wrap n = n % 18446744073709551616 := by simp [IntKind.wrap, IntKind.bits, IntKind.signed]
theorem not_u64 (x : Nat) (h : x < 18446744073709551616) : Go.bits .xor .u64 18446744073709551615 (x : Int) = 18446744073709551615 - (x : Int) := by
  have e := bits_xor_u64_nat 18446744073709551615 x (by omega) h
  have e2 : (18446744073709551615 : Nat) ^^^ x = 18446744073709551615 - x := by
    have h1 := BitVec.toNat_not (x := BitVec.ofNat 64 x)
    have h2 : (BitVec.ofNat 64 x).toNat = x := by rw [BitVec.toNat_ofNat]; exact Nat.mod_eq_of_lt h
    have h3 : ~~~(BitVec.ofNat 64 x) = BitVec.allOnes 64 ^^^ BitVec.ofNat 64 x := BitVec.allOnes_xor.symm
    rw [h3, BitVec.toNat_xor, h2, BitVec.toNat_allOnes] at h1
    exact h1
  rw [e2] at e
  have e3 : ((18446744073709551615 : Nat) : Int) = 18446744073709551615 := rfl
  rw [e3] at e
  rw [e]; omega
theorem not_i64_all (x : Int) (h0 : 0 ≤ x) (h1 : x < 9223372036854775808) : Go.bits .xor .i64 (-1) x = -1 - x := by
  have h : BitVec.ofInt 64 (-1) = BitVec.allOnes 64 := by decide +kernel
  have e : (BitVec.ofInt 64 x).toNat = x.toNat := by
    rw [BitVec.toNat_ofInt]
    have : x % (2 ^ 64 : Nat) = x := Int.emod_eq_of_lt h0 (by omega)
    rw [this]
  have e2 : (BitVec.ofInt 64 (-1) ^^^ BitVec.ofInt 64 x).toNat = 18446744073709551615 - x.toNat := by
    rw [h, BitVec.allOnes_xor, BitVec.toNat_not, e]
  show IntKind.i64.wrap ((BitVec.ofInt 64 (-1) ^^^ BitVec.ofInt 64 x).toNat : Int) = -1 - x
  rw [e2, IntKind.wrap_i64]
  omega

/-- A number's bytes. -/
def enc (u : Nat) : List Int := if u > 127 then ((u % 128 + 128 : Nat) : Int) :: enc (u / 128) else [(u : Int)]
  termination_by u
  decreasing_by omega
theorem enc_big {u : Nat} (h : u > 127) : enc u = ((u % 128 + 128 : Nat) : Int) :: enc (u / 128) := by rw [enc, if_pos h]
theorem enc_small {u : Nat} (h : ¬ u > 127) : enc u = [(u : Int)] := by rw [enc, if_neg h]
theorem enc_pos (u : Nat) : 0 < (enc u).length := by
  by_cases h : u > 127
  · rw [enc_big h]; simp
  · rw [enc_small h]; simp
theorem enc_le (d : Nat) : ∀ u : Nat, u < 128 ^ (d + 1) → (enc u).length ≤ d + 1 := by
  induction d with
  | zero => intro u h; rw [enc_small (by omega)]; simp
  | succ d ih =>
    intro u h
    by_cases hu : u > 127
    · rw [enc_big hu, List.length_cons]
      have := ih (u / 128) (by rw [Nat.pow_succ] at h; omega)
      omega
    · rw [enc_small hu]; simp

theorem put_l0 (d : Nat) : ∀ (k : Nat) (l : List Int) (u : Nat), u < 128 ^ (d + 1) → d < k → l.length + d + 1 ≤ 140737488355327 → num_Put.l0 k l (u : Int) = some (l ++ enc u) := by
  induction d with
  | zero =>
    intro k l u hu hk hl
    obtain ⟨k, rfl⟩ : ∃ m, k = m + 1 := ⟨k - 1, by omega⟩
    simp only [num_Put.l0]
    rw [if_neg (by omega), if_pos (by omega), enc_small (by omega)]
    congr 3; omega
  | succ d ih =>
    intro k l u hu hk hl
    obtain ⟨k, rfl⟩ : ∃ m, k = m + 1 := ⟨k - 1, by omega⟩
    simp only [num_Put.l0]
    by_cases h : u > 127
    · rw [if_pos (by omega), if_pos (by omega), or128 _ (by omega) (by omega), enc_big h, show ((u : Int) / 128) = ((u / 128 : Nat) : Int) by omega, ih k _ (u / 128) (by rw [Nat.pow_succ] at hu; omega) (by omega) (by simp; omega)]
      rw [List.append_assoc]
      congr 3
      rw [List.singleton_append]; congr 1; omega
    · rw [if_neg (by omega), if_pos (by omega), enc_small h]
      congr 3; omega

def zig (n : Int) : Nat := if n < 0 then (-2 * n - 1).toNat else (2 * n).toNat
theorem zig_lt {n : Int} (h0 : -9223372036854775808 ≤ n) (h1 : n ≤ 9223372036854775807) : zig n < 18446744073709551616 := by
  unfold zig; split <;> omega
theorem zig_of {n : Int} (h0 : -9223372036854775808 ≤ n) (h1 : n ≤ 9223372036854775807) :
    (n < 0 → Go.bits .xor .u64 18446744073709551615 (IntKind.u64.wrap ((IntKind.u64.wrap (n)) * 2)) = (zig n : Int)) ∧ (¬ n < 0 → IntKind.u64.wrap ((IntKind.u64.wrap (n)) * 2) = (zig n : Int)) := by
  constructor
  · intro h
    have e : IntKind.u64.wrap ((IntKind.u64.wrap (n)) * 2) = (((18446744073709551616 + 2 * n).toNat : Nat) : Int) := by
      rw [wrap_u64, wrap_u64]; omega
    rw [e, not_u64 _ (by omega)]
    unfold zig; rw [if_pos h]; omega
  · intro h
    rw [wrap_u64, wrap_u64]
    unfold zig; rw [if_neg h]; omega

theorem put_f (k : Nat) (l : List Int) (n : Int) (h0 : -9223372036854775808 ≤ n) (h1 : n ≤ 9223372036854775807) (hk : 12 ≤ k) (hl : l.length ≤ 140737488350000) : num_Put.f k l n = some (l ++ enc (zig n)) := by
  obtain ⟨k, rfl⟩ : ∃ m, k = m + 1 := ⟨k - 1, by omega⟩
  obtain ⟨hz1, hz2⟩ := zig_of h0 h1
  have hz := zig_lt h0 h1
  unfold num_Put.f
  by_cases h : n < 0
  · rw [if_pos h, hz1 h]
    simp only [num_Put.j0]
    exact put_l0 9 k l _ (by omega) (by omega) (by omega)
  · rw [if_neg h, hz2 h]
    simp only [num_Put.j0]
    exact put_l0 9 k l _ (by omega) (by omega) (by omega)

theorem enc10 {n : Int} (h0 : -9223372036854775808 ≤ n) (h1 : n ≤ 9223372036854775807) : (enc (zig n)).length ≤ 10 := enc_le 9 _ (by have := zig_lt h0 h1; omega)
theorem wf64 {n : Int} (h : (Lit.int .i64 n).wf = true) : -9223372036854775808 ≤ n ∧ n ≤ 9223372036854775807 := by
  simp [Lit.wf, IntKind.min, IntKind.max, IntKind.signed, IntKind.bits] at h
  omega
theorem puttext_f (k : Nat) (l : List Int) (s : ByteArray) (hs : s.size ≤ 1000000) (hk : 12 ≤ k) (hl : l.length ≤ 140737480000000) : num_PutText.f k l s = some (l ++ enc (2 * s.size) ++ bytesOf s) := by
  unfold num_PutText.f
  rw [put_f k l _ (by omega) (by omega) hk (by omega)]
  have hz : zig (s.size : Int) = 2 * s.size := by unfold zig; rw [if_neg (by omega)]; omega
  have h10 := enc10 (n := (s.size : Int)) (by omega) (by omega)
  rw [hz] at h10 ⊢
  simp only [Option.bind_some]
  rw [if_pos (by rw [List.length_append]; omega)]
theorem wsm {x : Int} (h0 : -9223372036854775808 ≤ x) (h1 : x ≤ 9223372036854775807) : wrap64 x = x := by
  unfold wrap64
  omega
theorem w_cast (i : Int) (h0 : -3000000 ≤ i) (h : i ≤ 3000000) : wrap64 i = i := wsm (by omega) (by omega)
theorem w_succ (i : Nat) (h : i ≤ 2000000) : wrap64 ((i : Int) + 1) = ((i + 1 : Nat) : Int) := by rw [wsm (by omega) (by omega)]; omega
theorem w_pred (i : Nat) (h : i ≤ 2000000) : wrap64 (((i + 1 : Nat) : Int) - 1) = (i : Int) := by rw [wsm (by omega) (by omega)]; omega
theorem get_j2 (k : Nat) (u i : Int) (z : Bool) (hi0 : 0 ≤ i) (hi : i ≤ 9) : ∃ n kk e, num_Get.j2 (k + 1) u i z = some (n, kk, e) ∧ (e = 0 → kk = i + 1) := by
  have ew : wrap64 (i + 1) = i + 1 := wsm (by omega) (by omega)
  simp only [num_Get.j2, ew]
  by_cases hz : z = true
  · rw [if_pos hz]; exact ⟨_, _, _, rfl, fun h => absurd h (by decide)⟩
  · rw [if_neg hz]
    by_cases h1 : Go.bits .and .u64 u 1 = 1
    · rw [if_pos h1]; exact ⟨_, _, _, rfl, fun _ => rfl⟩
    · rw [if_neg h1]; exact ⟨_, _, _, rfl, fun _ => rfl⟩
theorem get_tot0 (l : List Int) (_hl : l.length ≤ 1000000) (d : Nat) : ∀ (k i : Nat) (u : Int), i + d = 9 → 2 * d + 3 ≤ k → i ≤ l.length → ∃ n kk e, num_Get.l0 k u l (l.length : Int) (i : Int) = some (n, kk, e) ∧ (e = 0 → (i : Int) + 1 ≤ kk ∧ kk ≤ l.length) := by
  induction d with
  | zero =>
    intro k i u hd hk hil
    obtain ⟨k, rfl⟩ : ∃ m, k = m + 3 := ⟨k - 3, by omega⟩
    have hi9 : (i : Int) = 9 := by omega
    have e7 : wrap64 (7 * (i : Int)) = 7 * (i : Int) := wsm (by omega) (by omega)
    simp only [num_Get.l0]
    by_cases hlt : (i : Int) < (l.length : Int)
    · rw [if_pos hlt, if_pos (by omega), if_pos hlt, if_pos hi9]
      simp only [num_Get.j1]
      by_cases hb : rd l (i : Int) > 1
      · rw [if_pos (by simpa using hb)]; exact ⟨_, _, _, rfl, fun h => absurd h (by decide)⟩
      · rw [if_neg (by simpa using hb), e7, if_pos (by omega), if_neg (by omega), if_pos (by omega)]
        obtain ⟨n, kk, e, h1, h2⟩ := get_j2 k (Go.bits .or .u64 u (shl .u64 (IntKind.u64.wrap (Go.bits .and .u8 (rd l (i : Int)) 127)) (7 * (i : Int)))) (i : Int) (rd l (i : Int) == 0) (by omega) (by omega)
        exact ⟨n, kk, e, h1, fun he => by have := h2 he; omega⟩
    · rw [if_neg hlt]; exact ⟨_, _, _, rfl, fun h => absurd h (by decide)⟩
  | succ d ih =>
    intro k i u hd hk hil
    obtain ⟨k, rfl⟩ : ∃ m, k = m + 3 := ⟨k - 3, by omega⟩
    have e7 : wrap64 (7 * (i : Int)) = 7 * (i : Int) := wsm (by omega) (by omega)
    have ew : wrap64 ((i : Int) + 1) = ((i + 1 : Nat) : Int) := by rw [wsm (by omega) (by omega)]; omega
    simp only [num_Get.l0]
    by_cases hlt : (i : Int) < (l.length : Int)
    · rw [if_pos hlt, if_pos (by omega), if_pos hlt, if_neg (by omega : ¬ (i : Int) = 9)]
      simp only [num_Get.j1]
      rw [if_neg (by decide), e7, if_pos (by omega), ew]
      by_cases hb : rd l (i : Int) > 127
      · rw [if_pos hb]
        obtain ⟨n, kk, e, h1, h2⟩ := ih (k + 1) (i + 1) (Go.bits .or .u64 u (shl .u64 (IntKind.u64.wrap (Go.bits .and .u8 (rd l (i : Int)) 127)) (7 * (i : Int)))) (by omega) (by omega) (by omega)
        exact ⟨n, kk, e, h1, fun he => by have := h2 he; omega⟩
      · rw [if_neg hb]
        by_cases h0 : (i : Int) > 0
        · rw [if_pos h0]
          obtain ⟨n, kk, e, h1, h2⟩ := get_j2 k (Go.bits .or .u64 u (shl .u64 (IntKind.u64.wrap (Go.bits .and .u8 (rd l (i : Int)) 127)) (7 * (i : Int)))) (i : Int) (rd l (i : Int) == 0) (by omega) (by omega)
          exact ⟨n, kk, e, h1, fun he => by have := h2 he; omega⟩
        · rw [if_neg h0]
          obtain ⟨n, kk, e, h1, h2⟩ := get_j2 k (Go.bits .or .u64 u (shl .u64 (IntKind.u64.wrap (Go.bits .and .u8 (rd l (i : Int)) 127)) (7 * (i : Int)))) (i : Int) false (by omega) (by omega)
          exact ⟨n, kk, e, h1, fun he => by have := h2 he; omega⟩
    · rw [if_neg hlt]; exact ⟨_, _, _, rfl, fun h => absurd h (by decide)⟩
theorem get_tot (k : Nat) (hk : 40 ≤ k) (l : List Int) (hl : l.length ≤ 1000000) : ∃ n kk e, num_Get.f k l = some (n, kk, e) ∧ (e = 0 → 1 ≤ kk ∧ kk ≤ l.length) := by
  obtain ⟨n, kk, e, h1, h2⟩ := get_tot0 l hl 9 k 0 0 rfl (by omega) (by omega)
  exact ⟨n, kk, e, h1, fun he => by have := h2 he; omega⟩
theorem sz_of (l : List Int) : (strOfNums l).size = l.length := by
  simp [strOfNums, ByteArray.size]
theorem gettext_tot (k : Nat) (hk : 41 ≤ k) (l : List Int) (hl : l.length ≤ 1000000) : ∃ s kk e, num_GetText.f k l = some (s, kk, e) ∧ (e = 0 → 1 ≤ kk ∧ kk ≤ l.length) ∧ s.size ≤ l.length := by
  obtain ⟨n, kk, e, h1, h2⟩ := get_tot k (by omega) l hl
  obtain ⟨k, rfl⟩ : ∃ q, k = q + 1 := ⟨k - 1, by omega⟩
  unfold num_GetText.f
  rw [h1, Option.bind_some]
  simp only
  by_cases he : e = 0
  · obtain ⟨g1, g2⟩ := h2 he
    rw [if_pos he]
    by_cases hn : n < 0
    · rw [if_pos hn]
      simp only [num_GetText.j0]
      rw [if_pos trivial]; exact ⟨_, _, _, rfl, fun h => absurd h (by decide), Nat.zero_le _⟩
    · rw [if_neg hn]
      simp only [num_GetText.j0]
      by_cases hbig : n > 65536
      · rw [if_pos (by simpa using hbig)]; exact ⟨_, _, _, rfl, fun h => absurd h (by decide), Nat.zero_le _⟩
      · have w1 : wrap64 ((l.length : Int) - kk) = (l.length : Int) - kk := wsm (by omega) (by omega)
        have w2 : wrap64 (kk + n) = kk + n := wsm (by omega) (by omega)
        rw [if_neg (by simpa using hbig), w1, w2]
        by_cases hm : n > (l.length : Int) - kk
        · rw [if_pos hm]; exact ⟨_, _, _, rfl, fun h => absurd h (by decide), Nat.zero_le _⟩
        · rw [if_neg hm, if_pos (by omega), if_pos (by omega), if_pos (by omega)]
          exact ⟨_, _, _, rfl, fun _ => by omega, by rw [sz_of, List.length_drop, List.length_take]; omega⟩
  · rw [if_neg he]; exact ⟨_, _, _, rfl, fun h => absurd h he, Nat.zero_le _⟩
theorem dig_tot (c : Int) : ∃ t, name_Digit.f c = some t := by
  unfold name_Digit.f
  split <;> exact ⟨_, rfl⟩
theorem file_l0_tot (s : ByteArray) (hn : s.size ≤ 16) (d : Nat) : ∀ (k i : Nat), i + d = s.size → d < k → ∃ r, name_File.l0 k s (s.size : Int) (i : Int) = some r := by
  induction d with
  | zero =>
    intro k i hd hk
    obtain ⟨k, rfl⟩ : ∃ m, k = m + 1 := ⟨k - 1, by omega⟩
    simp only [name_File.l0]
    rw [if_neg (by omega)]
    exact ⟨_, rfl⟩
  | succ d ih =>
    intro k i hd hk
    obtain ⟨k, rfl⟩ : ∃ m, k = m + 1 := ⟨k - 1, by omega⟩
    obtain ⟨r, hr⟩ := ih k (i + 1) (by omega) (by omega)
    obtain ⟨t, ht⟩ := dig_tot (bt s (i : Int))
    simp only [name_File.l0]
    rw [if_pos (by omega), if_pos (by omega), if_pos (by omega), w_succ i (by omega), hr, ht]
    simp only [Option.bind_some]
    repeat' split
    all_goals exact ⟨_, rfl⟩
theorem file_tot (k : Nat) (hk : 19 ≤ k) (s : ByteArray) : ∃ r, name_File.f k s = some r := by
  obtain ⟨k, rfl⟩ : ∃ m, k = m + 1 := ⟨k - 1, by omega⟩
  have hj : ∀ b, s.size ≤ 16 ∨ b = true → ∃ r, name_File.j0 (k + 1) s b = some r := by
    intro b hb
    simp only [name_File.j0]
    by_cases h : b = true
    · rw [if_pos h]; exact ⟨_, rfl⟩
    · rw [if_neg h]
      have := file_l0_tot s (by rcases hb with hb | hb; exact hb; exact absurd hb h) s.size k 0 (by omega) (by rcases hb with hb | hb; omega; exact absurd hb h)
      exact this
  have he : s.toList = [] ↔ s.size = 0 := by
    rw [ByteArray.toList_eq, Array.toList_eq_nil_iff, ← Array.size_eq_zero_iff]; rfl
  unfold name_File.f
  by_cases h1 : s.size = 0
  · rw [if_pos (he.2 h1)]; exact hj _ (.inr rfl)
  · rw [if_neg (fun h => h1 (he.1 h))]
    by_cases h2 : 16 < s.size
    · rw [if_pos (by omega)]; exact hj _ (.inr rfl)
    · rw [if_neg (by omega), if_pos (by omega)]; exact hj _ (.inl (by omega))
theorem may_tot (k : Nat) (hk : 19 ≤ k) (a : ByteArray) (b c : Bool) (d e : ByteArray) : ∃ r, stack_may.f k a b c d e = some r := by
  obtain ⟨t, ht⟩ := file_tot k hk a
  unfold stack_may.f
  rw [ht, Option.bind_some]
  repeat' split
  all_goals exact ⟨_, rfl⟩
theorem May_l0_tot (xs : List S56) (hx : xs.length ≤ 1000) (d : Nat) : ∀ (k i : Nat), i + d = xs.length → d + 21 ≤ k → ∃ r, stack_May.l0 k xs xs (xs.length : Int) (i : Int) = some r := by
  induction d with
  | zero =>
    intro k i hd hk
    obtain ⟨k, rfl⟩ : ∃ m, k = m + 1 := ⟨k - 1, by omega⟩
    simp only [stack_May.l0]
    rw [if_neg (by omega)]
    split <;> exact ⟨_, rfl⟩
  | succ d ih =>
    intro k i hd hk
    obtain ⟨k, rfl⟩ : ∃ m, k = m + 1 := ⟨k - 1, by omega⟩
    obtain ⟨r, hr⟩ := ih k (i + 1) (by omega) (by omega)
    obtain ⟨t, ht⟩ := may_tot k (by omega) (rd_T56 xs (i : Int)).f0 (rd_T56 xs (i : Int)).f1 (rd_T56 xs (i : Int)).f2 (rd_T56 xs (i : Int)).f3 (rd_T56 xs (i : Int)).f4
    simp only [stack_May.l0]
    rw [if_pos (by omega), if_pos (by omega), if_pos (by omega), ht, Option.bind_some, w_succ i (by omega), hr, wsm (x := (i : Int) - 1) (by omega) (by omega)]
    by_cases h1 : t = true
    · rw [if_pos h1]
      by_cases h2 : (i : Int) > 0
      · rw [if_pos h2, if_pos (by omega), if_pos (by omega)]
        split <;> exact ⟨_, rfl⟩
      · rw [if_neg h2]; exact ⟨_, rfl⟩
    · rw [if_neg h1]; exact ⟨_, rfl⟩
theorem May_tot (k : Nat) (xs : List S56) (hx : xs.length ≤ 20) (hk : 50 ≤ k) : ∃ r, stack_May.f k xs = some r := May_l0_tot xs (by omega) xs.length k 0 (by omega) (by omega)
theorem rnum_tot (k : Nat) (hk : 41 ≤ k) (most : Int) (l : List Int) (bad : Bool) (hl : l.length ≤ 1000000) : ∃ z, rnum k most l bad = some z ∧ z.2.1.length ≤ l.length := by
  obtain ⟨n, kk, e, h1, h2⟩ := get_tot k (by omega) l hl
  unfold rnum
  rw [h1, Option.bind_some]
  simp only
  by_cases hc : e = 0 ∧ 0 ≤ n ∧ n ≤ most
  · have := h2 hc.1
    rw [if_pos hc, if_pos (by omega)]
    exact ⟨_, rfl, by simp⟩
  · rw [if_neg hc]; exact ⟨_, rfl, Nat.le_refl _⟩
theorem rtext_tot (k : Nat) (hk : 41 ≤ k) (l : List Int) (bad : Bool) (hl : l.length ≤ 1000000) : ∃ z, rtext k l bad = some z ∧ z.2.1.length ≤ l.length ∧ z.1.size ≤ 1000000 := by
  obtain ⟨n, kk, e, h1, h2, h3⟩ := gettext_tot k hk l hl
  unfold rtext
  rw [h1, Option.bind_some]
  simp only
  by_cases hc : e = 0
  · have := h2 hc
    rw [if_pos hc, if_pos (by omega)]
    exact ⟨_, rfl, by simp, by show n.size ≤ _; omega⟩
  · rw [if_neg hc]; exact ⟨_, rfl, Nat.le_refl _, Nat.zero_le _⟩
def szc (N : Nat) (c : S56) : Prop := c.f0.size ≤ N ∧ c.f3.size ≤ N ∧ c.f4.size ≤ N
theorem rchange_tot (k : Nat) (hk : 41 ≤ k) (l : List Int) (bad : Bool) (hl : l.length ≤ 1000000) : ∃ z, rchange k l bad = some z ∧ z.2.1.length ≤ l.length ∧ szc 1000000 z.1 := by
  obtain ⟨a, ha, la, sa⟩ := rtext_tot k hk l bad hl
  obtain ⟨b, hb, lb⟩ := rnum_tot k hk 1 a.2.1 a.2.2 (by omega)
  obtain ⟨c, hc, lc⟩ := rnum_tot k hk 1 b.2.1 b.2.2 (by omega)
  obtain ⟨d, hd, ld, sd⟩ := rtext_tot k hk c.2.1 c.2.2 (by omega)
  obtain ⟨e, he, le, se⟩ := rtext_tot k hk d.2.1 d.2.2 (by omega)
  unfold rchange
  rw [ha, Option.bind_some, hb, Option.bind_some, hc, Option.bind_some, hd, Option.bind_some, he, Option.bind_some]
  exact ⟨_, rfl, by show e.2.1.length ≤ _; omega, sa, sd, se⟩
theorem rloop_tot (k : Nat) (hk : 41 ≤ k) (n : Nat) : ∀ (l : List Int) (bad : Bool) (xs : List S56), l.length ≤ 1000000 → (∀ c ∈ xs, szc 1000000 c) → ∃ z, rloop k n l bad xs = some z ∧ z.2.1.length ≤ l.length ∧ ∀ c ∈ z.1, szc 1000000 c := by
  induction n with
  | zero => intro l bad xs hl hx; exact ⟨_, rfl, Nat.le_refl _, hx⟩
  | succ n ih =>
    intro l bad xs hl hx
    simp only [rloop]
    by_cases hb : bad = true
    · rw [if_pos hb]; exact ⟨_, rfl, Nat.le_refl _, hx⟩
    · rw [if_neg hb]
      obtain ⟨z, hz, lz, sz⟩ := rchange_tot k hk l bad hl
      rw [hz, Option.bind_some]
      obtain ⟨y, hy, ly, sy⟩ := ih z.2.1 z.2.2 (xs ++ [z.1]) (by omega) (by intro c hc; rcases List.mem_append.1 hc with h | h; exact hx c h; rw [List.mem_singleton.1 h]; exact sz)
      exact ⟨y, hy, by omega, sy⟩
theorem rstep_tot (k : Nat) (hk : 60 ≤ k) (l : List Int) (bad : Bool) (hl : l.length ≤ 1000000) : ∃ z, rstep k l bad = some z ∧ z.2.1.length ≤ l.length ∧ ∀ c ∈ z.1, szc 1000000 c := by
  obtain ⟨a, ha, la⟩ := rnum_tot k (by omega) 8 l bad hl
  obtain ⟨z, hz, lz, sz⟩ := rloop_tot k (by omega) a.1.toNat a.2.1 a.2.2 [] (by omega) (by simp)
  have h8 := (rnum_le (by decide) (show rnum k 8 l bad = some (a.1, a.2.1, a.2.2) from ha)).2
  have hzl := rloop_len _ hz
  rw [List.length_nil] at hzl
  obtain ⟨m, hm⟩ := May_tot k z.1 (by omega) (by omega)
  unfold rstep
  rw [ha, Option.bind_some, hz, Option.bind_some, hm, Option.bind_some]
  split
  · exact ⟨_, rfl, by show z.2.1.length ≤ _; omega, sz⟩
  · exact ⟨_, rfl, by show z.2.1.length ≤ _; omega, sz⟩
theorem sloop_tot (k : Nat) (hk : 60 ≤ k) (n : Int) (d : Nat) : ∀ (x : Int) (l : List Int) (bad : Bool) (U R : List (List S56)), l.length ≤ 1000000 → (∀ y ∈ U ++ R, ∀ c ∈ y, szc 1000000 c) → ∃ z, sloop k n d x l bad U R = some z ∧ ∀ y ∈ z.1 ++ z.2.1, ∀ c ∈ y, szc 1000000 c := by
  induction d with
  | zero => intro x l bad U R hl hx; exact ⟨_, rfl, hx⟩
  | succ d ih =>
    intro x l bad U R hl hx
    simp only [sloop]
    by_cases hb : bad = true
    · rw [if_pos hb]; exact ⟨_, rfl, hx⟩
    · rw [if_neg hb]
      obtain ⟨z, hz, lz, sz⟩ := rstep_tot k hk l bad hl
      rw [hz, Option.bind_some]
      split
      · exact ih _ _ _ _ _ (by omega) (by intro q hq; simp only [List.mem_append, List.mem_singleton] at hq; rcases hq with (hq | rfl) | hq; exact hx q (List.mem_append_left _ hq); exact sz; exact hx q (List.mem_append_right _ hq))
      · exact ih _ _ _ _ _ (by omega) (by intro q hq; simp only [List.mem_append, List.mem_singleton] at hq; rcases hq with hq | hq | rfl; exact hx q (List.mem_append_left _ hq); exact hx q (List.mem_append_right _ hq); exact sz)
theorem flag_f (k : Nat) (hk : 12 ≤ k) (b : List Int) (v : Bool) (hb : b.length ≤ 140737488350000) : ∃ r, stack_flag.f k b v = some r ∧ b.length ≤ r.length ∧ r.length ≤ b.length + 10 := by
  have h1 := enc10 (n := 1) (by decide) (by decide)
  have h0 := enc10 (n := 0) (by decide) (by decide)
  unfold stack_flag.f
  rw [put_f k b 1 (by decide) (by decide) hk hb, put_f k b 0 (by decide) (by decide) hk hb, Option.bind_some, Option.bind_some]
  split
  · exact ⟨_, rfl, by simp, by rw [List.length_append]; omega⟩
  · exact ⟨_, rfl, by simp, by rw [List.length_append]; omega⟩
theorem ptext_f (k : Nat) (hk : 12 ≤ k) (b : List Int) (s : ByteArray) (N : Nat) (hN : N ≤ 1000000) (hs : s.size ≤ N) (hb : b.length ≤ 140737480000000) : ∃ r, num_PutText.f k b s = some r ∧ b.length ≤ r.length ∧ r.length ≤ b.length + (10 + N) := by
  rw [puttext_f k b s (by omega) hk hb]
  have hz : zig (s.size : Int) = 2 * s.size := by unfold zig; rw [if_neg (by omega)]; omega
  have h10 := enc10 (n := (s.size : Int)) (by omega) (by omega)
  rw [hz] at h10
  have hbl := bytesOf_length s
  exact ⟨_, rfl, by rw [List.length_append, List.length_append]; omega, by rw [List.length_append, List.length_append]; omega⟩
theorem encC_tot (k : Nat) (hk : 12 ≤ k) (N M : Nat) (hN : N ≤ 1000000) (hM : M = 50 + 3 * N) (l : List S56) : ∀ (b : List Int), (∀ c ∈ l, szc N c) → b.length + M * l.length ≤ 100000000000 → ∃ r, stack_encC k b l = some r ∧ b.length ≤ r.length ∧ r.length ≤ b.length + M * l.length := by
  induction l with
  | nil => intro b _ _; exact ⟨_, rfl, Nat.le_refl _, by omega⟩
  | cons c l ih =>
    intro b hc hb
    rw [List.length_cons, Nat.mul_succ] at hb
    obtain ⟨s0, s3, s4⟩ := hc c List.mem_cons_self
    obtain ⟨b1, e1, l1, m1⟩ := ptext_f k hk b c.f0 N hN s0 (by omega)
    obtain ⟨b2, e2, l2, m2⟩ := flag_f k hk b1 c.f1 (by omega)
    obtain ⟨b3, e3, l3, m3⟩ := flag_f k hk b2 c.f2 (by omega)
    obtain ⟨b4, e4, l4, m4⟩ := ptext_f k hk b3 c.f3 N hN s3 (by omega)
    obtain ⟨b5, e5, l5, m5⟩ := ptext_f k hk b4 c.f4 N hN s4 (by omega)
    obtain ⟨r, h1, h2, h3⟩ := ih b5 (fun x hx => hc x (List.mem_cons_of_mem _ hx)) (by omega)
    simp only [stack_encC]
    rw [e1, Option.bind_some, e2, Option.bind_some, e3, Option.bind_some, e4, Option.bind_some, e5, Option.bind_some, h1, List.length_cons, Nat.mul_succ]
    exact ⟨r, rfl, by omega, by omega⟩
theorem encS_tot (k : Nat) (hk : 12 ≤ k) (N M : Nat) (hN : N ≤ 1000000) (hM : M = 50 + 3 * N) (l : List (List S56)) : ∀ (b : List Int), (∀ x ∈ l, x.length ≤ 10 ∧ ∀ c ∈ x, szc N c) → b.length + (10 + M * 10) * l.length ≤ 100000000000 → ∃ r, stack_encS k b l = some r ∧ b.length ≤ r.length ∧ r.length ≤ b.length + (10 + M * 10) * l.length := by
  induction l with
  | nil => intro b _ _; exact ⟨_, rfl, Nat.le_refl _, by simp⟩
  | cons x l ih =>
    intro b hc hb
    rw [List.length_cons, Nat.mul_succ] at hb
    obtain ⟨x10, sx⟩ := hc x List.mem_cons_self
    have hm := Nat.mul_le_mul_left M x10
    have h10 := enc10 (n := (x.length : Int)) (by omega) (by omega)
    have e1 := put_f k b (x.length : Int) (by omega) (by omega) hk (by omega)
    obtain ⟨b2, e2, l2, m2⟩ := encC_tot k hk N M hN hM x (b ++ enc (zig (x.length : Int))) sx (by rw [List.length_append]; omega)
    rw [List.length_append] at l2 m2
    obtain ⟨r, h1, h2, h3⟩ := ih b2 (fun y hy => hc y (List.mem_cons_of_mem _ hy)) (by omega)
    simp only [stack_encS]
    rw [e1, Option.bind_some, e2, Option.bind_some, h1, List.length_cons, Nat.mul_succ]
    exact ⟨r, rfl, by omega, by omega⟩
theorem enc_tot (k : Nat) (hk : 12 ≤ k) (N M : Nat) (hN : N ≤ 1000000) (hM : M = 50 + 3 * N) (U R : List (List S56)) (hx : ∀ x ∈ U ++ R, x.length ≤ 10 ∧ ∀ c ∈ x, szc N c) (hl : U.length + R.length ≤ 8) : ∃ r, stack_enc k U R = some r ∧ 0 < r.length ∧ r.length ≤ 20 + (10 + M * 10) * (U.length + R.length) := by
  have a1 := enc10 (n := (U.length : Int)) (by omega) (by omega)
  have a2 := enc10 (n := (R.length : Int)) (by omega) (by omega)
  have p1 := enc_pos (zig (U.length : Int))
  have e1 := put_f k [] (U.length : Int) (by omega) (by omega) hk (by simp)
  rw [List.nil_append] at e1
  have e2 := put_f k (enc (zig (U.length : Int))) (R.length : Int) (by omega) (by omega) hk (by omega)
  have hm := Nat.mul_le_mul_left (10 + M * 10) hl
  obtain ⟨r, h1, h2, h3⟩ := encS_tot k hk N M hN hM (U ++ R) (enc (zig (U.length : Int)) ++ enc (zig (R.length : Int))) hx (by rw [List.length_append, List.length_append]; omega)
  rw [List.length_append, List.length_append] at h3
  rw [List.length_append] at h2
  unfold stack_enc
  rw [e1, Option.bind_some, e2, Option.bind_some, h1]
  exact ⟨r, rfl, by omega, by omega⟩
theorem dec_tot (k : Nat) (hk : 60 ≤ k) (l : List Int) (hl : l.length ≤ 1000000) : ∃ r, stack_dec k l = some r := by
  obtain ⟨a, ha, la⟩ := rnum_tot k (by omega) 4 l false hl
  obtain ⟨b, hb, lb⟩ := rnum_tot k (by omega) 4 a.2.1 a.2.2 (by omega)
  obtain ⟨z, hz, sz⟩ := sloop_tot k hk a.1 (a.1 + b.1).toNat 0 b.2.1 b.2.2 [] [] (by omega) (by simp)
  have n4 := (rnum_le (by decide) (show rnum k 4 l false = some (a.1, a.2.1, a.2.2) from ha)).2
  have m4 := (rnum_le (by decide) (show rnum k 4 a.2.1 a.2.2 = some (b.1, b.2.1, b.2.2) from hb)).2
  have hzl := sloop_len _ hz (by simp)
  obtain ⟨c, hc, _⟩ := enc_tot k (by omega) 1000000 _ (by omega) rfl z.1 z.2.1 (fun x hx => ⟨by have := hzl.2 x hx; omega, sz x hx⟩) (by have := hzl.1; simp at this; omega)
  unfold stack_dec
  rw [ha, Option.bind_some, hb, Option.bind_some, hz, Option.bind_some, hc]
  simp only [Option.bind_some, bytes_Equal.f]
  repeat' split
  all_goals exact ⟨_, rfl⟩
theorem cutn (a : ByteArray) (n : Nat) : ∃ s, recensionlaw3_Cut.f a (n : Int) = some s ∧ s.size ≤ n := by
  unfold recensionlaw3_Cut.f
  by_cases h : (a.size : Int) > (n : Int)
  · rw [if_pos h, if_pos (by omega), if_pos (by omega)]
    exact ⟨_, rfl, by rw [ByteArray.size_extract]; omega⟩
  · rw [if_neg h]; exact ⟨_, rfl, by omega⟩
theorem Cut_l0_tot (x : List S56) (d : Nat) : ∀ (k i : Nat) (acc : List S56), i + d = 10 → 2 * d + 2 ≤ k → acc.length = i → (∀ c ∈ acc, szc 60 c) → ∃ r, recensionlaw25_Cut.l0 k x acc (i : Int) = some r ∧ r.length ≤ 10 ∧ ∀ c ∈ r, szc 60 c := by
  induction d with
  | zero =>
    intro k i acc hd hk ha hs
    obtain ⟨k, rfl⟩ : ∃ m, k = m + 2 := ⟨k - 2, by omega⟩
    have hf : decide ((i : Int) < 10) = false := decide_eq_false (by omega)
    simp only [recensionlaw25_Cut.l0, recensionlaw25_Cut.j1, hf]
    exact ⟨acc, by split <;> simp, by omega, hs⟩
  | succ d ih =>
    intro k i acc hd hk ha hs
    obtain ⟨k, rfl⟩ : ∃ m, k = m + 2 := ⟨k - 2, by omega⟩
    have hf : decide ((i : Int) < 10) = true := decide_eq_true (by omega)
    simp only [recensionlaw25_Cut.l0, recensionlaw25_Cut.j1, hf]
    by_cases h : (i : Int) < (x.length : Int)
    · obtain ⟨c0, h0, s0⟩ := cutn (rd_T56 x (i : Int)).f0 20
      obtain ⟨c3, h3, s3⟩ := cutn (rd_T56 x (i : Int)).f3 60
      obtain ⟨c4, h4, s4⟩ := cutn (rd_T56 x (i : Int)).f4 60
      rw [if_pos h, if_pos trivial, if_pos (by omega), if_pos h, show recensionlaw3_Cut.f (rd_T56 x (i : Int)).f0 20 = _ from h0, Option.bind_some, show recensionlaw3_Cut.f (rd_T56 x (i : Int)).f3 60 = _ from h3, Option.bind_some, show recensionlaw3_Cut.f (rd_T56 x (i : Int)).f4 60 = _ from h4, Option.bind_some, if_pos (by omega), w_succ i (by omega)]
      exact ih k (i + 1) _ (by omega) (by omega) (by simp [ha]) (by intro c hc; rcases List.mem_append.1 hc with hq | hq; exact hs c hq; rw [List.mem_singleton.1 hq]; exact ⟨by show c0.size ≤ 60; omega, s3, s4⟩)
    · rw [if_neg h]; exact ⟨acc, by simp, by omega, hs⟩
theorem Short_f (l : List Int) : ∃ r, recensionlaw1_Short.f l 60 = some r ∧ r.length ≤ 60 := by
  unfold recensionlaw1_Short.f
  by_cases h : (l.length : Int) > 60
  · rw [if_pos h, if_pos (by decide), if_pos (by omega)]; exact ⟨_, rfl, by simp [List.length_take]; omega⟩
  · rw [if_neg h]; exact ⟨_, rfl, by omega⟩
set_option maxRecDepth 20000 in
theorem any_len (a u : Nat) (h : a ≤ 20 + (10 + 230 * 10) * (u + 1)) (hu : u ≤ 1) : a ≤ 10000 := by
  have := Nat.mul_le_mul_left 2310 (show u + 1 ≤ 2 by omega)
  omega
set_option maxRecDepth 20000 in
theorem StackAny : recensionlaw25_StackAny.Pure := by
  intro b x at_ y _ _ _ _
  obtain ⟨b1, hb1, lb1⟩ := Short_f b
  obtain ⟨x1, hx1, lx1, sx1⟩ := Cut_l0_tot x 10 200 0 [] rfl (by omega) rfl (by simp)
  obtain ⟨r0, h0⟩ := dec_tot 200 (by omega) b1 (by omega)
  obtain ⟨m, hm⟩ := May_tot 200 x1 (by omega) (by omega)
  have hq : stack_May.f 200 [qt] = some true := May_one 198 _ _ _ (by decide +kernel) (by decide) (by decide)
  have sq : [qt].length ≤ 10 ∧ ∀ c ∈ [qt], szc 60 c := ⟨by decide, by intro c hc; rw [List.mem_singleton.1 hc]; exact ⟨by decide, by decide, by decide⟩⟩
  obtain ⟨U, hU, lU, sU⟩ : ∃ U : List (List S56), ((stack_May.f 200 x1 = some true ∧ U = [x1]) ∨ (stack_May.f 200 x1 = some false ∧ U = [])) ∧ U.length ≤ 1 ∧ ∀ z ∈ U, z.length ≤ 10 ∧ ∀ c ∈ z, szc 60 c := by
    cases m
    · exact ⟨[], .inr ⟨hm, rfl⟩, by simp, by simp⟩
    · exact ⟨[x1], .inl ⟨hm, rfl⟩, by simp, by intro z hz; rw [List.mem_singleton.1 hz]; exact ⟨lx1, sx1⟩⟩
  obtain ⟨cs, hc, p, lc⟩ := enc_tot 200 (by omega) 60 230 (by omega) rfl U [[qt]] (by intro z hz; rcases List.mem_append.1 hz with h | h; exact sU z h; rw [List.mem_singleton.1 h]; exact sq) (by simp; omega)
  have lc2 : cs.length ≤ 10000 := any_len cs.length U.length lc lU
  clear lc
  refine ⟨200, if_pos ⟨begun_k, b1, x1, hb1, hx1, ⟨r0, h0⟩, by omega, hq, U, cs, hU, hc, p, by omega, ?_⟩⟩
  intro ha
  have hm0 : 0 ≤ Int.tmod at_ (cs.length : Int) := by rw [Int.tmod_eq_emod_of_nonneg (by omega)]; exact Int.emod_nonneg _ (by omega)
  have hm1 : Int.tmod at_ (cs.length : Int) < (cs.length : Int) := by rw [Int.tmod_eq_emod_of_nonneg (by omega)]; exact Int.emod_lt_of_pos _ (by omega)
  obtain ⟨r1, h1⟩ := dec_tot 200 (by omega) cs (by omega)
  obtain ⟨r2, h2⟩ := dec_tot 200 (by omega) (cs.set (Int.tmod at_ (cs.length : Int)).toNat (Go.bits .xor .u8 (rd cs (Int.tmod at_ (cs.length : Int))) y)) (by rw [List.length_set]; omega)
  obtain ⟨r3, h3⟩ := dec_tot 200 (by omega) (cs.take (Int.tmod at_ (cs.length : Int)).toNat) (by rw [List.length_take]; omega)
  obtain ⟨r4, h4⟩ := dec_tot 200 (by omega) (cs.set (Int.tmod at_ (cs.length : Int)).toNat (Go.bits .xor .u8 (rd cs (Int.tmod at_ (cs.length : Int))) y) ++ [y]) (by rw [List.length_append, List.length_set]; simp; omega)
  exact ⟨_, r1, r2, r3, r4, rfl, hm0, hm1, h1, h2, h3, h4⟩

end Go.Proofs.Ythjbcpakpfdkaaa.Pure
