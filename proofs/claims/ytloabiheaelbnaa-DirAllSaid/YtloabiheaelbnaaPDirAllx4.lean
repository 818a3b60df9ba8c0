-- Written by myprint.py (the prover's own turn of the printer); not trusted: Lean checks it.
import Derived.Test.YtloabiheaelbnaaPDirAllx0
import Derived.Test.YtloabiheaelbnaaPDirAllx3
namespace Go.Proofs.Ytloabiheaelbnaa.PDirAll
open Go.RowKit Go.Proofs.YtloabiheaelbnaaW.PrintWords Go.Proofs.YtloabiheaelbnaaW.PrintLast Go.Proofs.YtloabiheaelbnaaW.PrintMore
attribute [local go_sem] str_leq op_leq op_gtr op_geq max2_int min2_int max_two min_two max_three min_three max_four min_four   -- for this text's walks alone
set_option linter.unusedVariables false
set_option linter.unusedSimpArgs false

/-! ### dir_one: function 23 -/
abbrev OneR := ByteArray × Int × Int × Int × Int
def oneZ : OneR := (⟨#[]⟩, 0, 0, 0, 0)
def one_get (k : Nat) (l : List Int) (at_ : Int) : Option (Int × Int × Int) := if 0 ≤ at_ then (if at_ ≤ (l.length : Int) then num_Get.f k (l.drop at_.toNat) else none) else none
/-- What is left to be read of an entry's three numbers. -/
def one3 (k : Nat) (l : List Int) (s : ByteArray) (i at_ a b c : Int) : Option OneR :=
 if i = 0 then (one_get k l at_).bind fun g => if g.2.2 = 0 then (one_get k l (wrap64 (at_ + g.2.1))).bind fun h => if h.2.2 = 0 then (one_get k l (wrap64 ((wrap64 (at_ + g.2.1)) + h.2.1))).bind fun j => if j.2.2 = 0 then some (s, g.1, h.1, j.1, wrap64 ((wrap64 ((wrap64 (at_ + g.2.1)) + h.2.1)) + j.2.1)) else some oneZ else some oneZ else some oneZ
 else if i = 1 then (one_get k l at_).bind fun h => if h.2.2 = 0 then (one_get k l (wrap64 (at_ + h.2.1))).bind fun j => if j.2.2 = 0 then some (s, a, h.1, j.1, wrap64 ((wrap64 (at_ + h.2.1)) + j.2.1)) else some oneZ else some oneZ
 else if i = 2 then (one_get k l at_).bind fun j => if j.2.2 = 0 then some (s, a, b, j.1, wrap64 (at_ + j.2.1)) else some oneZ
 else some (s, a, b, c, at_)
def dir_one.f (k : Nat) (l0 : List Int) : Option OneR := (num_GetText.f k l0).bind fun g => if g.2.2 = 0 then one3 k l0 g.1 0 g.2.1 0 0 0 else some oneZ
theorem oneZ_eq {r1 : ByteArray} {r2 r3 r4 r5 : Int} (h : (r1, r2, r3, r4, r5) = oneZ) : r1 = ⟨#[]⟩ ∧ r2 = 0 ∧ r3 = 0 ∧ r4 = 0 ∧ r5 = 0 := by
 unfold oneZ at h
 simpa using h
theorem get_at1 (k : Nat) (A0 : Option Addr) (c0 : Nat) (l0 : List Int) (y n kk e : Int) (W : World) (hC : Kd.C (Kd.int .u8) W A0 l0.length l0) (hc : l0.length ≤ c0) (yl : y ≤ (l0.length : Int)) (G : num_Get.f k (l0.drop y.toNat) = some (n, kk, e)) (hne : ¬ c0 = y.toNat) :
  Calls Try.prog 22 #[.slice (Option.map (fun x => x.add y.toNat) A0) (l0.length - y.toNat) (c0 - y.toNat)] W fun e' w' => e' = .returned (.tuple #[.int .i64 n, .int .i64 kk, .int .i64 e]) ∧ Drawn0 W w' := by
 have h := Kd.C_drop (m := y.toNat) (c := c0) hC (by omega) hc
 rw [if_neg hne] at h
 have e1 : (fun x : Addr => x.add (y.toNat * (Kd.int .u8).sz)) = fun x : Addr => x.add y.toNat := by funext x; rw [show (Kd.int .u8).sz = 1 from rfl, Nat.mul_one]
 rw [e1] at h
 have := num_Get.calls k (Option.map (fun x => x.add y.toNat) A0) (c0 - y.toNat) (l0.drop y.toNat) n kk e W h (by rw [List.length_drop]; omega) G
 rwa [List.length_drop] at this
theorem get_at2 (k : Nat) (A0 : Option Addr) (l0 : List Int) (y n kk e : Int) (W : World) (hC : Kd.C (Kd.int .u8) W A0 l0.length l0) (yl : y ≤ (l0.length : Int)) (G : num_Get.f k (l0.drop y.toNat) = some (n, kk, e)) (hc : l0.length ≤ y.toNat) :
  Calls Try.prog 22 #[.slice A0 (l0.length - y.toNat) 0] W fun e' w' => e' = .returned (.tuple #[.int .i64 n, .int .i64 kk, .int .i64 e]) ∧ Drawn0 W w' := by
 have h := Kd.C_drop (m := y.toNat) (c := y.toNat) hC (by omega) hc
 rw [if_pos rfl] at h
 have := num_Get.calls k A0 0 (l0.drop y.toNat) n kk e W h (by rw [List.length_drop]; omega) G
 rwa [List.length_drop] at this
theorem get_of {k : Nat} {l : List Int} {y : Int} {g : Int × Int × Int} (h : one_get k l y = some g) : 0 ≤ y ∧ y ≤ (l.length : Int) ∧ num_Get.f k (l.drop y.toNat) = some g := by
 unfold one_get at h
 by_cases h0 : 0 ≤ y
 ·rw [if_pos h0] at h
  by_cases h1 : y ≤ (l.length : Int)
  ·rw [if_pos h1] at h; exact ⟨h0, h1, h⟩
  ·rw [if_neg h1] at h; cases h
 ·rw [if_neg h0] at h; cases h
theorem one3_0 {k : Nat} {l : List Int} {s : ByteArray} {y a b c : Int} {R : OneR} (h : one3 k l s 0 y a b c = some R) :
  ∃ n kk e, 0 ≤ y ∧ y ≤ (l.length : Int) ∧ num_Get.f k (l.drop y.toNat) = some (n, kk, e) ∧ ((e = 0 ∧ one3 k l s 1 (wrap64 (y + kk)) n b c = some R) ∨ (e ≠ 0 ∧ R = oneZ)) := by
 simp only [one3, if_true] at h
 obtain ⟨⟨n, kk, e⟩, h1, h2⟩ := Option.bind_eq_some_iff.1 h
 obtain ⟨g1, g2, g3⟩ := get_of h1
 refine ⟨n, kk, e, g1, g2, g3, ?_⟩
 by_cases he : e = 0
 ·rw [if_pos he] at h2; exact .inl ⟨he, by simpa [one3] using h2⟩
 ·rw [if_neg he] at h2; exact .inr ⟨he, (Option.some.inj h2).symm⟩
theorem one3_1 {k : Nat} {l : List Int} {s : ByteArray} {y a b c : Int} {R : OneR} (h : one3 k l s 1 y a b c = some R) :
  ∃ n kk e, 0 ≤ y ∧ y ≤ (l.length : Int) ∧ num_Get.f k (l.drop y.toNat) = some (n, kk, e) ∧ ((e = 0 ∧ one3 k l s 2 (wrap64 (y + kk)) a n c = some R) ∨ (e ≠ 0 ∧ R = oneZ)) := by
 simp only [one3] at h
 rw [if_neg (by decide), if_pos trivial] at h
 obtain ⟨⟨n, kk, e⟩, h1, h2⟩ := Option.bind_eq_some_iff.1 h
 obtain ⟨g1, g2, g3⟩ := get_of h1
 refine ⟨n, kk, e, g1, g2, g3, ?_⟩
 by_cases he : e = 0
 ·rw [if_pos he] at h2; exact .inl ⟨he, by simpa [one3] using h2⟩
 ·rw [if_neg he] at h2; exact .inr ⟨he, (Option.some.inj h2).symm⟩
theorem one3_2 {k : Nat} {l : List Int} {s : ByteArray} {y a b c : Int} {R : OneR} (h : one3 k l s 2 y a b c = some R) :
  ∃ n kk e, 0 ≤ y ∧ y ≤ (l.length : Int) ∧ num_Get.f k (l.drop y.toNat) = some (n, kk, e) ∧ ((e = 0 ∧ one3 k l s 3 (wrap64 (y + kk)) a b n = some R) ∨ (e ≠ 0 ∧ R = oneZ)) := by
 simp only [one3] at h
 rw [if_neg (by decide), if_neg (by decide), if_pos trivial] at h
 obtain ⟨⟨n, kk, e⟩, h1, h2⟩ := Option.bind_eq_some_iff.1 h
 obtain ⟨g1, g2, g3⟩ := get_of h1
 refine ⟨n, kk, e, g1, g2, g3, ?_⟩
 by_cases he : e = 0
 ·rw [if_pos he] at h2; exact .inl ⟨he, by simpa [one3] using h2⟩
 ·rw [if_neg he] at h2; exact .inr ⟨he, (Option.some.inj h2).symm⟩
theorem one3_3 {k : Nat} {l : List Int} {s : ByteArray} {y a b c : Int} {R : OneR} (h : one3 k l s 3 y a b c = some R) : R = (s, a, b, c, y) := by
 simp [one3] at h
 exact h.symm
set_option maxHeartbeats 4000000 in
set_option maxRecDepth 100000 in
theorem one_bad (k : Nat) (A0 : Option Addr) (c0 : Nat) (l0 : List Int) (r1 : ByteArray) (r2 r3 r4 r5 : Int) (w : World) (hr0 : Kd.C (Kd.int .u8) w A0 l0.length l0) (hc0 : l0.length ≤ c0) (s : ByteArray) (at_ e : Int) (h1 : num_GetText.f k l0 = some (s, at_, e)) (he : ¬ e = 0) (h2 : oneZ = (r1, r2, r3, r4, r5)) :
  Calls Try.prog 23 #[.slice A0 l0.length c0] w fun e w' => e = .returned (.tuple #[.agg #[.string r1, .int .i64 r2, .int .i64 r3, .int .i64 r4], .int .i64 r5]) ∧ Below w.heap.size w w' := by
 obtain ⟨rfl, rfl, rfl, rfl, rfl⟩ := oneZ_eq h2.symm
 have t1 : (e == 0) = false := by simpa using he
 have t2 : (e != 0) = true := by simpa using he
 have HR := Lib.hid hr0
 have HC := Lib.hid hc0
 have H1 := Lib.hid h1
 clear hr0 h1 hc0 h2 he
 go_enter Try.func23, Try.ntmps23
 go_wp2_with (go_at_call 30; refine (num_GetText.calls k A0 c0 l0 s at_ e _ (Kd.C_alloc HR.out _) HC.out H1.out).mono ?_; rintro e' w1 ⟨rfl, ⟨n1, rfl⟩⟩)
 exact bodyPost_ret (v := .tuple #[.agg #[.string ⟨#[]⟩, .int .i64 0, .int .i64 0, .int .i64 0], .int .i64 0]) (by simp [results, Try.results23, go_sem]) rfl ⟨rfl, below_set (below_set (below_set (below_set (pw_below_drewN (below_alloc (Below.refl _ _) _) n1) (Nat.le_refl _)) (Nat.le_refl _)) (Nat.le_refl _)) (Nat.le_refl _)⟩
set_option maxHeartbeats 4000000 in
set_option maxRecDepth 100000 in
theorem one_walk (k : Nat) (A0 : Option Addr) (c0 : Nat) (l0 : List Int) (r1 : ByteArray) (r2 r3 r4 r5 : Int) (w : World) (hr0 : Kd.C (Kd.int .u8) w A0 l0.length l0) (hc0 : l0.length ≤ c0) (s : ByteArray) (at_ : Int) (h1 : num_GetText.f k l0 = some (s, at_, 0)) (h2 : one3 k l0 s 0 at_ 0 0 0 = some (r1, r2, r3, r4, r5)) :
  Calls Try.prog 23 #[.slice A0 l0.length c0] w fun e w' => e = .returned (.tuple #[.agg #[.string r1, .int .i64 r2, .int .i64 r3, .int .i64 r4], .int .i64 r5]) ∧ Below w.heap.size w w' := by
 have HR := Lib.hid hr0
 have HC := Lib.hid hc0
 have H1 := Lib.hid h1
 have H2 := Lib.hid h2
 clear hr0 h1 h2 hc0
 go_enter Try.func23, Try.ntmps23
 go_wp2_with (go_at_call 30; refine (num_GetText.calls k A0 c0 l0 s at_ 0 _ (Kd.C_alloc HR.out _) HC.out H1.out).mono ?_; rintro e w1 ⟨rfl, ⟨n1, rfl⟩⟩)
 go_loopw [5, 21] (fun v i wr => ∃ (x y a b c : Int), i = .int .i64 x ∧ v = .int .i64 y ∧ Aside0 (x = 0 ∨ x = 1 ∨ x = 2 ∨ x = 3) ∧ Aside0 (wr.heap[w.heap.size]? = some (.cells #[.string ⟨#[]⟩, .int .i64 0, .int .i64 0, .int .i64 0] 32 (0, 0))) ∧ Aside0 (wr.heap[w.heap.size + 1]? = some (.cells #[.int .i64 a, .int .i64 b, .int .i64 c] 61 (0, 0))) ∧ Aside0 (Below w.heap.size w wr) ∧ Aside0 (one3 k l0 s x y a b c = some (r1, r2, r3, r4, r5))) (fun _ i _ => 3 - (intOf i).toNat)
 case atStart =>
  refine ⟨0, at_, 0, 0, 0, rfl, rfl, ⟨.inl rfl⟩, ⟨?_⟩, ⟨?_⟩, ⟨?_⟩, ⟨H2.out⟩⟩
  ·exact blk_alloc (blk_drewN (blk_new w _) _) _
  ·have := blk_new ((w.alloc (.cells #[.string ⟨#[]⟩, .int .i64 0, .int .i64 0, .int .i64 0] 32)).drewN n1) (.cells #[.int .i64 0, .int .i64 0, .int .i64 0] 61)
   simpa using this
  ·exact below_alloc (pw_below_drewN (below_alloc (Below.refl _ _) _) _) _
 case round =>
  obtain ⟨x, y, a, b, c, rfl, rfl, hx, B0, B1, HB, HG⟩ := hrel
  have p0 := (blk_cell B0.out 0).trans rfl
  have o0 := blk_frozen B0.out 0
  have p1 := (blk_cell B0.out 1).trans rfl
  have o1 := blk_frozen B0.out 1
  have p2 := (blk_cell B0.out 2).trans rfl
  have o2 := blk_frozen B0.out 2
  have p3 := (blk_cell B0.out 3).trans rfl
  have o3 := blk_frozen B0.out 3
  have d0 := (blk_cell B1.out 0).trans rfl
  have d1 := (blk_cell B1.out 1).trans rfl
  have d2 := (blk_cell B1.out 2).trans rfl
  have f0 := blk_frozen B1.out 0
  have f1 := blk_frozen B1.out 1
  have f2 := blk_frozen B1.out 2
  rcases hx.out with rfl | rfl | rfl | rfl
  ·obtain ⟨n, kk, e, y0, yl, G, hcase⟩ := one3_0 HG.out
   have GG := Lib.hid G
   have HCASE := Lib.hid hcase
   clear G hcase hx
   rcases HCASE.out with ⟨rfl, h3⟩ | ⟨he, h3⟩
   ·have H3 := Lib.hid h3
    clear h3
    by_cases hcy : c0 = y.toNat
    all_goals
     (try subst hcy)
     go_wp2_with (go_at_call 22; (first | (with_reducible refine (get_at1 k A0 _ l0 y n kk _ _ (Kd.C_below HR.out HB.out) HC.out yl GG.out hcy).mono ?_) | (with_reducible refine (get_at2 k A0 l0 y n kk _ _ (Kd.C_below HR.out HB.out) yl GG.out HC.out).mono ?_)); rintro e w4 ⟨rfl, ⟨n4, rfl⟩⟩)
     go_roundw
     case rel => exact ⟨1, _, n, b, c, rfl, rfl, ⟨.inr (.inl rfl)⟩, ⟨(Below.heap_setCell _ _ _ _ (by simp)).trans (blk_drewN B0.out n4)⟩, ⟨blk_put (cs := #[.int .i64 a, .int .i64 b, .int .i64 c]) (blk_drewN B1.out n4) 0 _ rfl⟩, ⟨below_set (pw_below_drewN HB.out n4) (by simp)⟩, ⟨H3.out⟩⟩
     case measure => simp [intOf]
   ·have t1 : (e == 0) = false := by simpa using he
    have t2 : (e != 0) = true := by simpa using he
    have H3 := Lib.hid h3
    clear h3
    by_cases hcy : c0 = y.toNat
    all_goals
     (try subst hcy)
     go_wp2_with (go_at_call 22; (first | (with_reducible refine (get_at1 k A0 _ l0 y n kk _ _ (Kd.C_below HR.out HB.out) HC.out yl GG.out hcy).mono ?_) | (with_reducible refine (get_at2 k A0 l0 y n kk _ _ (Kd.C_below HR.out HB.out) yl GG.out HC.out).mono ?_)); rintro e w4 ⟨rfl, ⟨n4, rfl⟩⟩)
     obtain ⟨rfl, rfl, rfl, rfl, rfl⟩ := oneZ_eq H3.out
     exact bodyPost_ret (v := .tuple #[.agg #[.string ⟨#[]⟩, .int .i64 0, .int .i64 0, .int .i64 0], .int .i64 0]) (by simp [results, Try.results23, go_sem, p0, p1, p2, p3]) rfl ⟨rfl, below_set (below_set (below_set (below_set (pw_below_drewN HB.out n4) (Nat.le_refl _)) (Nat.le_refl _)) (Nat.le_refl _)) (Nat.le_refl _)⟩
  ·obtain ⟨n, kk, e, y0, yl, G, hcase⟩ := one3_1 HG.out
   have GG := Lib.hid G
   have HCASE := Lib.hid hcase
   clear G hcase hx
   rcases HCASE.out with ⟨rfl, h3⟩ | ⟨he, h3⟩
   ·have H3 := Lib.hid h3
    clear h3
    by_cases hcy : c0 = y.toNat
    all_goals
     (try subst hcy)
     go_wp2_with (go_at_call 22; (first | (with_reducible refine (get_at1 k A0 _ l0 y n kk _ _ (Kd.C_below HR.out HB.out) HC.out yl GG.out hcy).mono ?_) | (with_reducible refine (get_at2 k A0 l0 y n kk _ _ (Kd.C_below HR.out HB.out) yl GG.out HC.out).mono ?_)); rintro e w4 ⟨rfl, ⟨n4, rfl⟩⟩)
     go_roundw
     case rel => exact ⟨2, _, a, n, c, rfl, rfl, ⟨.inr (.inr (.inl rfl))⟩, ⟨(Below.heap_setCell _ _ _ _ (by simp)).trans (blk_drewN B0.out n4)⟩, ⟨blk_put (cs := #[.int .i64 a, .int .i64 b, .int .i64 c]) (blk_drewN B1.out n4) 1 _ rfl⟩, ⟨below_set (pw_below_drewN HB.out n4) (by simp)⟩, ⟨H3.out⟩⟩
     case measure => simp [intOf]
   ·have t1 : (e == 0) = false := by simpa using he
    have t2 : (e != 0) = true := by simpa using he
    have H3 := Lib.hid h3
    clear h3
    by_cases hcy : c0 = y.toNat
    all_goals
     (try subst hcy)
     go_wp2_with (go_at_call 22; (first | (with_reducible refine (get_at1 k A0 _ l0 y n kk _ _ (Kd.C_below HR.out HB.out) HC.out yl GG.out hcy).mono ?_) | (with_reducible refine (get_at2 k A0 l0 y n kk _ _ (Kd.C_below HR.out HB.out) yl GG.out HC.out).mono ?_)); rintro e w4 ⟨rfl, ⟨n4, rfl⟩⟩)
     obtain ⟨rfl, rfl, rfl, rfl, rfl⟩ := oneZ_eq H3.out
     exact bodyPost_ret (v := .tuple #[.agg #[.string ⟨#[]⟩, .int .i64 0, .int .i64 0, .int .i64 0], .int .i64 0]) (by simp [results, Try.results23, go_sem, p0, p1, p2, p3]) rfl ⟨rfl, below_set (below_set (below_set (below_set (pw_below_drewN HB.out n4) (Nat.le_refl _)) (Nat.le_refl _)) (Nat.le_refl _)) (Nat.le_refl _)⟩
  ·obtain ⟨n, kk, e, y0, yl, G, hcase⟩ := one3_2 HG.out
   have GG := Lib.hid G
   have HCASE := Lib.hid hcase
   clear G hcase hx
   rcases HCASE.out with ⟨rfl, h3⟩ | ⟨he, h3⟩
   ·have H3 := Lib.hid h3
    clear h3
    by_cases hcy : c0 = y.toNat
    all_goals
     (try subst hcy)
     go_wp2_with (go_at_call 22; (first | (with_reducible refine (get_at1 k A0 _ l0 y n kk _ _ (Kd.C_below HR.out HB.out) HC.out yl GG.out hcy).mono ?_) | (with_reducible refine (get_at2 k A0 l0 y n kk _ _ (Kd.C_below HR.out HB.out) yl GG.out HC.out).mono ?_)); rintro e w4 ⟨rfl, ⟨n4, rfl⟩⟩)
     go_roundw
     case rel => exact ⟨3, _, a, b, n, rfl, rfl, ⟨.inr (.inr (.inr rfl))⟩, ⟨(Below.heap_setCell _ _ _ _ (by simp)).trans (blk_drewN B0.out n4)⟩, ⟨blk_put (cs := #[.int .i64 a, .int .i64 b, .int .i64 c]) (blk_drewN B1.out n4) 2 _ rfl⟩, ⟨below_set (pw_below_drewN HB.out n4) (by simp)⟩, ⟨H3.out⟩⟩
     case measure => simp [intOf]
   ·have t1 : (e == 0) = false := by simpa using he
    have t2 : (e != 0) = true := by simpa using he
    have H3 := Lib.hid h3
    clear h3
    by_cases hcy : c0 = y.toNat
    all_goals
     (try subst hcy)
     go_wp2_with (go_at_call 22; (first | (with_reducible refine (get_at1 k A0 _ l0 y n kk _ _ (Kd.C_below HR.out HB.out) HC.out yl GG.out hcy).mono ?_) | (with_reducible refine (get_at2 k A0 l0 y n kk _ _ (Kd.C_below HR.out HB.out) yl GG.out HC.out).mono ?_)); rintro e w4 ⟨rfl, ⟨n4, rfl⟩⟩)
     obtain ⟨rfl, rfl, rfl, rfl, rfl⟩ := oneZ_eq H3.out
     exact bodyPost_ret (v := .tuple #[.agg #[.string ⟨#[]⟩, .int .i64 0, .int .i64 0, .int .i64 0], .int .i64 0]) (by simp [results, Try.results23, go_sem, p0, p1, p2, p3]) rfl ⟨rfl, below_set (below_set (below_set (below_set (pw_below_drewN HB.out n4) (Nat.le_refl _)) (Nat.le_refl _)) (Nat.le_refl _)) (Nat.le_refl _)⟩
  ·have HR3 := Lib.hid (one3_3 HG.out)
   clear hx
   go_wp2
   obtain ⟨rfl, rfl, rfl, rfl, rfl⟩ : r1 = s ∧ r2 = a ∧ r3 = b ∧ r4 = c ∧ r5 = y := by simpa using HR3.out
   exact bodyPost_ret (v := .tuple #[.agg #[.string r1, .int .i64 r2, .int .i64 r3, .int .i64 r4], .int .i64 r5]) (by simp [results, Try.results23, go_sem, p0, p1, p2, p3]) rfl ⟨rfl, below_set (below_set (below_set (below_set HB.out (Nat.le_refl _)) (Nat.le_refl _)) (Nat.le_refl _)) (Nat.le_refl _)⟩
theorem dir_one.calls (k : Nat) (A0 : Option Addr) (c0 : Nat) (l0 : List Int) (r1 : ByteArray) (r2 : Int) (r3 : Int) (r4 : Int) (r5 : Int) (w : World) (hr0 : Kd.C (Kd.int .u8) w A0 l0.length l0) (hc0 : l0.length ≤ c0) (h : dir_one.f k l0 = some (r1, r2, r3, r4, r5)) :
  Calls Try.prog 23 #[.slice A0 l0.length c0] w fun e w' => e = .returned (.tuple #[.agg #[.string r1, .int .i64 r2, .int .i64 r3, .int .i64 r4], .int .i64 r5]) ∧ Below w.heap.size w w' := by
 unfold dir_one.f at h
 obtain ⟨⟨s, y, e⟩, h1, h2⟩ := Option.bind_eq_some_iff.1 h
 by_cases he : e = 0
 ·subst he
  rw [if_pos rfl] at h2
  exact one_walk k A0 c0 l0 r1 r2 r3 r4 r5 w hr0 hc0 s y h1 h2
 ·rw [if_neg he] at h2
  exact one_bad k A0 c0 l0 r1 r2 r3 r4 r5 w hr0 hc0 s y e h1 he (Option.some.inj h2)
theorem dir_one.mono : ∀ a0 k, LeO (dir_one.f k a0) (dir_one.f (k + 1) a0) := by
 intro a0 k
 have hg : ∀ y, LeO (one_get k a0 y) (one_get (k + 1) a0 y) := fun y => LeO.ite (LeO.ite (num_Get.mono _ _) (LeO.none _)) (LeO.none _)
 unfold dir_one.f
 refine LeO.bind (num_GetText.mono _ _) (fun g => LeO.ite ?_ (LeO.refl _))
 unfold one3
 refine LeO.ite (LeO.bind (hg _) (fun _ => LeO.ite (LeO.bind (hg _) (fun _ => LeO.ite (LeO.bind (hg _) (fun _ => LeO.ite (LeO.refl _) (LeO.refl _))) (LeO.refl _))) (LeO.refl _))) (LeO.ite (LeO.bind (hg _) (fun _ => LeO.ite (LeO.bind (hg _) (fun _ => LeO.ite (LeO.refl _) (LeO.refl _))) (LeO.refl _))) (LeO.ite (LeO.bind (hg _) (fun _ => LeO.ite (LeO.refl _) (LeO.refl _))) (LeO.refl _)))

/-! ### bytes_Equal: function 24 -/
def bytes_Equal.f (l0 : List Int) (l1 : List Int) : Option (Bool) := some ((strOfNums l0).toList == (strOfNums l1).toList)
set_option maxHeartbeats 8000000 in
set_option maxRecDepth 100000 in
theorem bytes_Equal.calls (A0 : Option Addr) (c0 : Nat) (l0 : List Int) (A1 : Option Addr) (c1 : Nat) (l1 : List Int) (r : Bool) (w : World) (hr0 : Kd.C (Kd.int .u8) w A0 l0.length l0) (hc0 : l0.length ≤ c0) (hr1 : Kd.C (Kd.int .u8) w A1 l1.length l1) (hc1 : l1.length ≤ c1) (h : bytes_Equal.f l0 l1 = some r) :
  Calls Try.prog 24 #[.slice A0 l0.length c0, .slice A1 l1.length c1] w fun e w' => e = .returned (.bool r) ∧ Drawn0 w w' := by
 have HR0 := Aside0.mk hr0
 have HC0 := Aside0.mk hc0
 clear hr0 hc0
 have HR1 := Aside0.mk hr1
 have HC1 := Aside0.mk hc1
 clear hr1 hc1
 have H : (some ((strOfNums l0).toList == (strOfNums l1).toList)) = some r := h
 clear h
 obtain rfl := Option.some.inj H
 have hcv3 := Kd.C_string (P := Try.prog) (A := A0) (c := c0) Try.underlying26 Try.underlying5 Try.underlying9 HR0.out
 have hcv4 := fun nd_ : Nat => Kd.C_string (P := Try.prog) (A := A0) (c := c0) Try.underlying26 Try.underlying5 Try.underlying9 (Kd.C_drewN HR0.out nd_)
 have hcv5 := Kd.C_string (P := Try.prog) (A := A1) (c := c1) Try.underlying26 Try.underlying5 Try.underlying9 HR1.out
 have hcv6 := fun nd_ : Nat => Kd.C_string (P := Try.prog) (A := A1) (c := c1) Try.underlying26 Try.underlying5 Try.underlying9 (Kd.C_drewN HR1.out nd_)
 go_enter Try.func24, Try.ntmps24
 go_wp2
 go_ret
 exact ⟨by first | rfl | (simp; done) | (simp [*]; done), by repeat (first | exact Drawn0.refl _ | apply Drawn0.step)⟩

/-! ### dir_Decode: function 13 -/
theorem dec_info : (Try.prog.info? 32).map (fun i => (i.zero, i.size, i.bytes)) = some (some (.agg #[(.string ⟨#[]⟩), (.int .i64 0), (.int .i64 0), (.int .i64 0)]), 4, 40) := by kernel_rfl
/-- The entries that are left to be read. -/
def dec_go (k : Nat) (b : List Int) : Nat → Int → List S32 → Option (Option (List S32))
 | 0, _, l => some (some l)
 | m + 1, y, l => if 0 ≤ y then (if y ≤ (b.length : Int) then (dir_one.f k (b.drop y.toNat)).bind fun g => if g.2.2.2.2 = 0 then some none else dec_go k b m (wrap64 (y + g.2.2.2.2)) (l ++ [⟨g.1, g.2.1, ⟨g.2.2.1, g.2.2.2.1⟩⟩]) else none) else none
/-- What is told of the entries that were read. -/
def dec_end (k : Nat) (l0 : List Int) : Option (List S32) → Option (List S32 × Int)
 | none => some ([], 11)
 | some l => (dir_Encode.f k l).bind fun c => if c = [] then (if l0 = [] then none else some ([], 11)) else (bytes_Equal.f c l0).bind fun q => if q = true then some (l, 0) else some ([], 11)
def dir_Decode.f (k : Nat) (l0 : List Int) : Option (List S32 × Int) := (num_Get.f k l0).bind fun g => if g.2.2 = 0 then (if 0 ≤ g.1 then (if g.1 ≤ 32 then (dec_go k l0 g.1.toNat g.2.1 []).bind fun o => dec_end k l0 o else some ([], 11)) else some ([], 11)) else some ([], 11)
theorem one_at1 (k : Nat) (A0 : Option Addr) (c0 : Nat) (l0 : List Int) (y : Int) (r1 : ByteArray) (r2 r3 r4 r5 : Int) (W : World) (hC : Kd.C (Kd.int .u8) W A0 l0.length l0) (hc : l0.length ≤ c0) (yl : y ≤ (l0.length : Int)) (G : dir_one.f k (l0.drop y.toNat) = some (r1, r2, r3, r4, r5)) (hne : ¬ c0 = y.toNat) :
  Calls Try.prog 23 #[.slice (Option.map (fun x => x.add y.toNat) A0) (l0.length - y.toNat) (c0 - y.toNat)] W fun e' w' => e' = .returned (.tuple #[.agg #[.string r1, .int .i64 r2, .int .i64 r3, .int .i64 r4], .int .i64 r5]) ∧ Below W.heap.size W w' := by
 have h := Kd.C_drop (m := y.toNat) (c := c0) hC (by omega) hc
 rw [if_neg hne] at h
 have e1 : (fun x : Addr => x.add (y.toNat * (Kd.int .u8).sz)) = fun x : Addr => x.add y.toNat := by funext x; rw [show (Kd.int .u8).sz = 1 from rfl, Nat.mul_one]
 rw [e1] at h
 have := dir_one.calls k (Option.map (fun x => x.add y.toNat) A0) (c0 - y.toNat) (l0.drop y.toNat) r1 r2 r3 r4 r5 W h (by rw [List.length_drop]; omega) G
 rwa [List.length_drop] at this
theorem one_at2 (k : Nat) (A0 : Option Addr) (l0 : List Int) (y : Int) (r1 : ByteArray) (r2 r3 r4 r5 : Int) (W : World) (hC : Kd.C (Kd.int .u8) W A0 l0.length l0) (yl : y ≤ (l0.length : Int)) (G : dir_one.f k (l0.drop y.toNat) = some (r1, r2, r3, r4, r5)) (hc : l0.length ≤ y.toNat) :
  Calls Try.prog 23 #[.slice A0 (l0.length - y.toNat) 0] W fun e' w' => e' = .returned (.tuple #[.agg #[.string r1, .int .i64 r2, .int .i64 r3, .int .i64 r4], .int .i64 r5]) ∧ Below W.heap.size W w' := by
 have h := Kd.C_drop (m := y.toNat) (c := y.toNat) hC (by omega) hc
 rw [if_pos rfl] at h
 have := dir_one.calls k A0 0 (l0.drop y.toNat) r1 r2 r3 r4 r5 W h (by rw [List.length_drop]; omega) G
 rwa [List.length_drop] at this
/-- The head: what is no count is corrupt. -/
theorem dec_bad (k : Nat) (A0 : Option Addr) (c0 : Nat) (l0 : List Int) (w : World) (hr0 : Kd.C (Kd.int .u8) w A0 l0.length l0) (hc0 : l0.length ≤ c0) (n y e : Int) (h1 : num_Get.f k l0 = some (n, y, e)) (hb : ¬ (e = 0 ∧ 0 ≤ n ∧ n ≤ 32)) :
  Calls Try.prog 13 #[.slice A0 l0.length c0] w fun e w' => ∃ v0_ : Value, e = .returned (.tuple #[v0_, .int .i64 11]) ∧ Kd.R k32 32 w' w.heap.size (fun _ => True) v0_ [] ∧ Below w.heap.size w w' := by
 have HR := Lib.hid hr0
 have H1 := Lib.hid h1
 clear hr0 h1
 have hB := Lib.hid hb
 clear hb
 by_cases he : e = 0
 ·subst he
  by_cases hn : n < 0
  ·clear hB
   go_enter Try.func13, Try.ntmps13
   go_wp2_with (go_at_call 22; refine (num_Get.calls k A0 c0 l0 n y 0 _ HR.out hc0 H1.out).mono ?_; rintro e w1 ⟨rfl, ⟨n1, rfl⟩⟩)
   go_ret2
   exact ⟨.slice none 0 0, rfl, Kd.R_nil _ _ _ _ _, pw_below_drewN (Below.refl _ _) n1⟩
  ·have h32 : 32 < n := by have := hB.out; omega
   clear hB
   go_enter Try.func13, Try.ntmps13
   go_wp2_with (go_at_call 22; refine (num_Get.calls k A0 c0 l0 n y 0 _ HR.out hc0 H1.out).mono ?_; rintro e w1 ⟨rfl, ⟨n1, rfl⟩⟩)
   go_ret2
   exact ⟨.slice none 0 0, rfl, Kd.R_nil _ _ _ _ _, pw_below_drewN (Below.refl _ _) n1⟩
 ·have t1 : (e == 0) = false := by simpa using he
  have t2 : (e != 0) = true := by simpa using he
  clear he hB
  go_enter Try.func13, Try.ntmps13
  go_wp2_with (go_at_call 22; refine (num_Get.calls k A0 c0 l0 n y e _ HR.out hc0 H1.out).mono ?_; rintro e' w1 ⟨rfl, ⟨n1, rfl⟩⟩)
  go_ret2
  exact ⟨.slice none 0 0, rfl, Kd.R_nil _ _ _ _ _, pw_below_drewN (Below.refl _ _) n1⟩
theorem go_none {k : Nat} {b : List Int} {m : Nat} {y : Int} {l : List S32} {o : Option (List S32)} (h : dec_go k b (m + 1) y l = some o) :
  ∃ r1 r2 r3 r4 r5, 0 ≤ y ∧ y ≤ (b.length : Int) ∧ dir_one.f k (b.drop y.toNat) = some (r1, r2, r3, r4, r5) ∧ ((r5 = 0 ∧ o = none) ∨ (¬ r5 = 0 ∧ dec_go k b m (wrap64 (y + r5)) (l ++ [⟨r1, r2, ⟨r3, r4⟩⟩]) = some o)) := by
 simp only [dec_go] at h
 by_cases h0 : 0 ≤ y
 ·rw [if_pos h0] at h
  by_cases h1 : y ≤ (b.length : Int)
  ·rw [if_pos h1] at h
   obtain ⟨⟨r1, r2, r3, r4, r5⟩, g1, g2⟩ := Option.bind_eq_some_iff.1 h
   refine ⟨r1, r2, r3, r4, r5, h0, h1, g1, ?_⟩
   by_cases h5 : r5 = 0
   ·rw [if_pos h5] at g2; exact .inl ⟨h5, (Option.some.inj g2).symm⟩
   ·rw [if_neg h5] at g2; exact .inr ⟨h5, g2⟩
  ·rw [if_neg h1] at h; cases h
 ·rw [if_neg h0] at h; cases h
theorem go_len {k : Nat} {b : List Int} (m : Nat) : ∀ {y : Int} {l r : List S32}, dec_go k b m y l = some (some r) → r.length = l.length + m := by
 induction m with
 | zero => intro y l r h; simp [dec_go] at h; subst h; rfl
 | succ m ih =>
  intro y l r h
  obtain ⟨r1, r2, r3, r4, r5, _, _, _, h5⟩ := go_none h
  rcases h5 with ⟨_, h6⟩ | ⟨_, h6⟩
  ·cases h6
  ·have := ih h6; simp at this; omega
theorem dec_end_some {k : Nat} {l0 : List Int} {l : List S32} {R : List S32 × Int} (h : dec_end k l0 (some l) = some R) :
  ∃ c q, dir_Encode.f k l = some c ∧ bytes_Equal.f c l0 = some q ∧ ((q = false ∧ R = ([], 11)) ∨ (q = true ∧ R = (l, 0) ∧ c ≠ [])) := by
 simp only [dec_end] at h
 obtain ⟨c, h1, h2⟩ := Option.bind_eq_some_iff.1 h
 by_cases hc : c = []
 ·rw [if_pos hc] at h2
  by_cases hl : l0 = []
  ·rw [if_pos hl] at h2; cases h2
  ·rw [if_neg hl] at h2
   subst hc
   refine ⟨[], false, h1, ?_, .inl ⟨rfl, (Option.some.inj h2).symm⟩⟩
   unfold bytes_Equal.f
   congr 1
   rw [beq_eq_false_iff_ne]
   intro e
   have := congrArg List.length e
   rw [ByteArray.toList_eq, ByteArray.toList_eq] at this
   simp [strOfNums] at this
   exact hl (List.eq_nil_of_length_eq_zero this.symm)
 ·rw [if_neg hc] at h2
  obtain ⟨q, h3, h4⟩ := Option.bind_eq_some_iff.1 h2
  refine ⟨c, q, h1, h3, ?_⟩
  cases q with
  | false => exact .inl ⟨rfl, (Option.some.inj (by simpa using h4)).symm⟩
  | true => exact .inr ⟨rfl, (Option.some.inj (by simpa using h4)).symm, hc⟩
set_option maxHeartbeats 4000000 in
set_option maxRecDepth 100000 in
theorem dec_main (k : Nat) (A0 : Option Addr) (c0 : Nat) (l0 : List Int) (r1 : List S32) (r2 : Int) (w : World) (hr0 : Kd.C (Kd.int .u8) w A0 l0.length l0) (hc0 : l0.length ≤ c0) (n y : Int) (h1 : num_Get.f k l0 = some (n, y, 0)) (hn0 : 0 ≤ n) (hn1 : n ≤ 32) (o : Option (List S32)) (h2 : dec_go k l0 n.toNat y [] = some o)
  (h3 : dec_end k l0 o = some (r1, r2)) :
  Calls Try.prog 13 #[.slice A0 l0.length c0] w fun e w' => ∃ v0_ : Value, e = .returned (.tuple #[v0_, .int .i64 r2]) ∧ Kd.R k32 32 w' w.heap.size (fun _ => True) v0_ r1 ∧ Below w.heap.size w w' := by
 have HR := Lib.hid hr0
 have HC := Lib.hid hc0
 have H1 := Lib.hid h1
 have H2 := Lib.hid h2
 have H3 := Lib.hid h3
 clear hr0 h1 h2 h3 hc0
 go_enter Try.func13, Try.ntmps13
 go_wp2_with (go_at_call 22; refine (num_Get.calls k A0 c0 l0 n y 0 _ HR.out HC.out H1.out).mono ?_; rintro e w1 ⟨rfl, ⟨n1, rfl⟩⟩)
 go_loopw [5, 7, 28] (fun a v i wr => ∃ (x z : Int) (l : List S32), i = .int .i64 x ∧ a = .int .i64 z ∧ 0 ≤ x ∧ x ≤ n ∧ Aside0 (Kd.R k32 32 wr w.heap.size (fun k_ => w.heap.size ≤ k_) v l) ∧ Aside0 (l.length = x.toNat) ∧ Aside0 (Below w.heap.size w wr) ∧ Aside0 (dec_go k l0 (n - x).toNat z l = some o)) (fun _ _ i _ => (n - intOf i).toNat)
 case atStart => exact ⟨0, y, [], rfl, rfl, Int.le_refl _, hn0, ⟨Kd.R_nil _ _ _ _ _⟩, ⟨rfl⟩, ⟨pw_below_drewN (Below.refl _ _) n1⟩, ⟨by rw [Int.sub_zero]; exact H2.out⟩⟩
 case round =>
  obtain ⟨x, z, l, rfl, rfl, hx0, hxn, HO, HL, HB, HG⟩ := hrel
  obtain ⟨Av, cv, ev⟩ := Kd.R_slice HO.out
  subst ev
  by_cases hlt : x < n
  ·obtain ⟨m, hm⟩ : ∃ m, (n - x).toNat = m + 1 := ⟨(n - x).toNat - 1, by omega⟩
   obtain ⟨s1, s2, s3, s4, s5, z0, zl, G, hcase⟩ := go_none (by rw [← hm]; exact HG.out)
   have GG := Lib.hid G
   have HCASE := Lib.hid hcase
   clear G hcase
   rcases HCASE.out with ⟨h5, h6⟩ | ⟨h5, h6⟩
   ·subst h5 h6
    obtain ⟨rfl, rfl⟩ : [] = r1 ∧ 11 = r2 := by have := H3.out; simp only [dec_end, Option.some.injEq, Prod.mk.injEq] at this; exact this
    clear H3
    by_cases hcy : c0 = z.toNat
    all_goals
     (try subst hcy)
     go_wp2_with (go_at_call 23; (first | (with_reducible refine (one_at1 k A0 _ l0 z s1 s2 s3 s4 0 _ (Kd.C_below HR.out HB.out) HC.out zl GG.out hcy).mono ?_) | (with_reducible refine (one_at2 k A0 l0 z s1 s2 s3 s4 0 _ (Kd.C_below HR.out HB.out) zl GG.out HC.out).mono ?_)); rintro e w4 ⟨rfl, hb4⟩; have HB4 := Lib.hid (below_step HB.out hb4); have HO4 := Lib.hid (Kd.R_below HO.out hb4); clear hb4)
     go_ret2
     exact ⟨.slice none 0 0, rfl, Kd.R_nil _ _ _ _ _, below_alloc HB4.out _⟩
   ·have t1 : (s5 == 0) = false := by simpa using h5
    have t2 : (s5 != 0) = true := by simpa using h5
    have H6 := Lib.hid h6
    clear h5 h6
    by_cases hcy : c0 = z.toNat
    all_goals
     (try subst hcy)
     go_wp2_with (first | (go_at_call 23; (first | (with_reducible refine (one_at1 k A0 _ l0 z s1 s2 s3 s4 s5 _ (Kd.C_below HR.out HB.out) HC.out zl GG.out hcy).mono ?_) | (with_reducible refine (one_at2 k A0 l0 z s1 s2 s3 s4 s5 _ (Kd.C_below HR.out HB.out) zl GG.out HC.out).mono ?_)); rintro e w4 ⟨rfl, hb4⟩; have HB4 := Lib.hid (below_step HB.out hb4); have HO4 := Lib.hid (Kd.R_below HO.out hb4); clear hb4) | (at_builtin; refine Kd.R_append k32 (w0 := w) w.heap.size rfl (.tmp 39) (.tmp 41) 22 32 (.agg #[(.string ⟨#[]⟩), (.int .i64 0), (.int .i64 0), (.int .i64 0)]) 40 rfl Try.underlying22 dec_info rfl (by decide) (by decide) (.slice Av l.length cv) l ⟨s1, s2, ⟨s3, s4⟩⟩ [.string s1, .int .i64 s2, .int .i64 s3, .int .i64 s4] (fun k_ => w.heap.size ≤ k_) (fun _ => False) (by rfl) (by simp [Act.eval]) (k32_mkM _ _ _ ⟨s1, s2, ⟨s3, s4⟩⟩) (fun _ hk => hk.elim) ?aF (Kd.R_alloc HO4.out _) (below_alloc HB4.out _) ?aS ?aL ?_; (case aF => exact fun k_ hk => Nat.le_trans (below_alloc HB4.out _).size hk); (case aS => exact (below_alloc HB4.out _).size); (case aL => have := HL.out; omega); intro v5 w5 ho5 hb5 _ _; have HO5 := Lib.hid ho5; have HB5 := Lib.hid hb5; clear ho5 hb5))
     go_roundw
     case rel => exact ⟨x + 1, _, _, rfl, rfl, by omega, by omega, ⟨HO5.out⟩, ⟨by have := HL.out; rw [List.length_append, this, List.length_singleton]; omega⟩, ⟨HB5.out⟩, ⟨by rw [show (n - (x + 1)).toNat = m by omega]; exact H6.out⟩⟩
     case measure => simp [intOf]; omega
  ·have hxe : x = n := by omega
   subst hxe
   have ho : o = some l := by
    have e := HG.out
    rw [Int.sub_self] at e
    exact (Option.some.inj e).symm
   subst ho
   obtain ⟨c, q, g1, g2, hcase⟩ := dec_end_some H3.out
   have G1 := Lib.hid g1
   have G2 := Lib.hid g2
   have HCASE := Lib.hid hcase
   clear g1 g2 hcase H3
   obtain ⟨_, hlc, hC⟩ := Kd.R_reads' HO.out
   have HLC := Lib.hid hlc
   have HCC := Lib.hid hC
   clear hlc hC
   have hnil := fun (w : World) (a : Option Addr) (n c : Nat) => Lib.run_eql_slice_nil (P := Try.prog) w 26 5 a n c 0 0 Try.underlying26
   go_wp2_with fail
   refine (dir_Encode.calls k Av cv l c _ HCC.out HLC.out G1.out).mono ?_
   rintro e w6 ⟨v6, rfl, ho6, hb6⟩
   obtain ⟨Ac, cc, ec⟩ := Kd.R_slice ho6
   subst ec
   have HO6 := Lib.hid ho6
   have HB6 := Lib.hid (below_step HB.out hb6)
   have HR6 := Lib.hid (Kd.R_below HO.out hb6)
   clear ho6 hb6
   rcases Ac with _ | ac
   ·have hc0 : c = [] := by
     obtain ⟨_, _, h⟩ := Kd.R_reads' HO6.out
     by_cases hp : 0 < c.length
     ·obtain ⟨g, _, e, _⟩ := Kd.R_form HO6.out hp
      simp at e
     ·exact List.eq_nil_of_length_eq_zero (by omega)
    have hz : ([], 11) = (r1, r2) := by
     rcases HCASE.out with ⟨_, h⟩ | ⟨_, _, h⟩
     ·exact h.symm
     ·exact absurd hc0 h
    obtain ⟨rfl, rfl⟩ : [] = r1 ∧ 11 = r2 := by simpa using hz
    clear hz
    go_wp2_with fail
    go_ret2
    exact ⟨.slice none 0 0, rfl, Kd.R_nil _ _ _ _ _, HB6.out⟩
   ·have hcc := (Kd.R_reads' HO6.out).2
    have HCX := Lib.hid hcc
    clear hcc
    rcases HCASE.out with ⟨rfl, h⟩ | ⟨rfl, h, _⟩
    ·obtain ⟨rfl, rfl⟩ : r1 = [] ∧ r2 = 11 := by simpa using h
     go_wp2_with (go_at_call 24; refine (bytes_Equal.calls _ cc c A0 c0 l0 false _ HCX.out.2 HCX.out.1 (Kd.C_below HR.out HB6.out) HC.out G2.out).mono ?_; rintro e w7 ⟨rfl, ⟨n7, rfl⟩⟩)
     go_ret2
     exact ⟨.slice none 0 0, rfl, Kd.R_nil _ _ _ _ _, pw_below_drewN HB6.out n7⟩
    ·obtain ⟨rfl, rfl⟩ : r1 = l ∧ r2 = 0 := by simpa using h
     go_wp2_with (go_at_call 24; refine (bytes_Equal.calls _ cc c A0 c0 l0 true _ HCX.out.2 HCX.out.1 (Kd.C_below HR.out HB6.out) HC.out G2.out).mono ?_; rintro e w7 ⟨rfl, ⟨n7, rfl⟩⟩)
     go_ret2
     exact ⟨_, rfl, Kd.R_mono (Kd.R_drewN HR6.out n7) (fun _ _ => trivial), pw_below_drewN HB6.out n7⟩
theorem dir_Decode.calls (k : Nat) (A0 : Option Addr) (c0 : Nat) (l0 : List Int) (r1 : List S32) (r2 : Int) (w : World) (hr0 : Kd.C (Kd.int .u8) w A0 l0.length l0) (hc0 : l0.length ≤ c0) (h : dir_Decode.f k l0 = some (r1, r2)) :
  Calls Try.prog 13 #[.slice A0 l0.length c0] w fun e w' => ∃ v0_ : Value, e = .returned (.tuple #[v0_, .int .i64 r2]) ∧ Kd.R k32 32 w' w.heap.size (fun _ => True) v0_ r1 ∧ Below w.heap.size w w' := by
 unfold dir_Decode.f at h
 obtain ⟨⟨n, y, e⟩, h1, h2⟩ := Option.bind_eq_some_iff.1 h
 by_cases hg : e = 0 ∧ 0 ≤ n ∧ n ≤ 32
 ·obtain ⟨rfl, hn0, hn1⟩ := hg
  simp only [hn0, hn1, if_true] at h2
  obtain ⟨o, h3, h4⟩ := Option.bind_eq_some_iff.1 h2
  exact dec_main k A0 c0 l0 r1 r2 w hr0 hc0 n y h1 hn0 hn1 o h3 h4
 ·have hz : ([], 11) = (r1, r2) := by
   by_cases he : e = 0
   ·subst he
    by_cases hn0 : 0 ≤ n
    ·have hn1 : ¬ n ≤ 32 := fun h => hg ⟨rfl, hn0, h⟩
     simpa [hn0, hn1] using h2
    ·simpa [hn0] using h2
   ·simpa [he] using h2
  obtain ⟨rfl, rfl⟩ : [] = r1 ∧ 11 = r2 := by simpa using hz
  exact dec_bad k A0 c0 l0 w hr0 hc0 n y e h1 hg
theorem dir_Decode.mono : ∀ a0 k, LeO (dir_Decode.f k a0) (dir_Decode.f (k + 1) a0) := by
 intro a0 k
 have hg : ∀ (m : Nat) y l, LeO (dec_go k a0 m y l) (dec_go (k + 1) a0 m y l) := by
  intro m
  induction m with
  | zero => intro y l; exact LeO.refl _
  | succ m ih => intro y l; exact LeO.ite (LeO.ite (LeO.bind (dir_one.mono _ _) (fun _ => LeO.ite (LeO.refl _) (ih _ _))) (LeO.none _)) (LeO.none _)
 have he : ∀ o, LeO (dec_end k a0 o) (dec_end (k + 1) a0 o) := by
  intro o
  cases o with
  | none => exact LeO.refl _
  | some l => exact LeO.bind (dir_Encode.mono _ _) (fun _ => LeO.refl _)
 exact LeO.bind (num_Get.mono _ _) (fun _ => LeO.ite (LeO.ite (LeO.ite (LeO.bind (hg _ _ _) (fun _ => he _)) (LeO.refl _)) (LeO.refl _)) (LeO.refl _))

/-! ### recensionlaw23_eq: function 15 -/
def recensionlaw23_eq.l0 : Nat → List (S32) → List (S32) → Int → Option (Bool)
 | 0, _, _, _ => none
 | k + 1, x0, x1, x5 => if x5 < (x0.length : Int) then (if 0 ≤ x5 then (if x5 < (x1.length : Int) then (if ((rd_T32 x0 x5).f0).toList = ((rd_T32 x1 x5).f0).toList then (if ((rd_T32 x0 x5).f1) = ((rd_T32 x1 x5).f1) then (if ((rd_T32 x0 x5).f2.f0) = ((rd_T32 x1 x5).f2.f0) then (if ((rd_T32 x0 x5).f2.f1) = ((rd_T32 x1 x5).f2.f1) then (recensionlaw23_eq.l0 k x0 x1 (wrap64 (x5 + 1))) else (some false)) else (some false)) else (some false)) else (some false)) else (none)) else (none)) else (some true)
def recensionlaw23_eq.f (k : Nat) (l0 : List (S32)) (l1 : List (S32)) : Option (Bool) := if (l0.length : Int) = (l1.length : Int) then (recensionlaw23_eq.l0 k l0 l1 0) else (some false)
theorem recensionlaw23_eq.mono_l : ∀ k, (∀ y0 y1 y2, LeO (recensionlaw23_eq.l0 k y0 y1 y2) (recensionlaw23_eq.l0 (k + 1) y0 y1 y2))
 | 0 => fun _ _ _ r h => by simp [recensionlaw23_eq.l0] at h
 | k + 1 => by
  have ih0 := recensionlaw23_eq.mono_l k
  ·intro y0 y1 y2
   unfold recensionlaw23_eq.l0
   repeat' first
   | (with_reducible exact ih0 _ _ _)
   | (with_reducible exact LeO.refl _)
   | (with_reducible exact LeO.none _)
   | (with_reducible refine LeO.ite ?_ ?_)
   | (with_reducible refine LeO.bind ?_ (fun _ => ?_))
   | exact ih0 _ _ _
   | exact LeO.none _
   | refine LeO.ite ?_ ?_
   | refine LeO.bind ?_ (fun _ => ?_)
theorem recensionlaw23_eq.mono : ∀ a0 a1 k, LeO (recensionlaw23_eq.f k a0 a1) (recensionlaw23_eq.f (k + 1) a0 a1) := by
 intro a0 a1 k
 have ih0 := recensionlaw23_eq.mono_l k
 unfold recensionlaw23_eq.f
 repeat' first
   | (with_reducible exact ih0 _ _ _)
   | (with_reducible exact LeO.refl _)
   | (with_reducible exact LeO.none _)
   | (with_reducible refine LeO.ite ?_ ?_)
   | (with_reducible refine LeO.bind ?_ (fun _ => ?_))
   | exact ih0 _ _ _
   | exact LeO.none _
   | refine LeO.ite ?_ ?_
   | refine LeO.bind ?_ (fun _ => ?_)
set_option maxHeartbeats 8000000 in
set_option maxRecDepth 100000 in
theorem recensionlaw23_eq.calls (k : Nat) (A0 : Option Addr) (c0 : Nat) (l0 : List (S32)) (A1 : Option Addr) (c1 : Nat) (l1 : List (S32)) (r : Bool) (w : World) (hr0 : Kd.C k32 w A0 l0.length l0) (hc0 : l0.length ≤ c0) (hr1 : Kd.C k32 w A1 l1.length l1) (hc1 : l1.length ≤ c1) (h : recensionlaw23_eq.f k l0 l1 = some r) :
  Calls Try.prog 15 #[.slice A0 l0.length c0, .slice A1 l1.length c1] w fun e w' => e = .returned (.bool r) ∧ Drawn0 w w' := by
 have HR0 := Aside0.mk hr0
 have HC0 := Aside0.mk hc0
 clear hr0 hc0
 have HR1 := Aside0.mk hr1
 have HC1 := Aside0.mk hc1
 clear hr1 hc1
 have H : (if (l0.length : Int) = (l1.length : Int) then (recensionlaw23_eq.l0 k l0 l1 0) else (some false)) = some r := h
 clear h
 by_cases c3 : (l0.length : Int) = (l1.length : Int)
 ·rw [if_pos c3] at H
  have c3b0 : ((l0.length : Int) == (l1.length : Int)) = true := beq_iff_eq.mpr c3
  have c3b1 : ((l0.length : Int) != (l1.length : Int)) = false := bne_eq_false_iff_eq.mpr c3
  have c3b2 : (l0.length == l1.length) = true := by first | simpa using c3 | (simp at c3 ⊢; omega)
  clear c3
  have H' := Aside0.mk H
  clear H
  go_enter Try.func15, Try.ntmps15
  go_wp2
  repeat (go_quiet (fail); try go_wp2)
  go_loopg [5] k (fun kq v5 w' => ∃ (x5_1 : Int), v5 = .int .i64 x5_1 ∧ Aside0 (recensionlaw23_eq.l0 kq l0 l1 x5_1 = some r) ∧ Aside0 (kq ≤ k) ∧ Drawn0 w w')
  case atStart => exact ⟨(0), (by first | rfl | (simp; done) | (simp [*]; done)), H', ⟨Nat.le_refl _⟩, by repeat (first | exact Drawn0.refl _ | apply Drawn0.step)⟩
  case round =>
   clear H'
   try clear c1
   try clear p2
   try clear c3
   try clear c3b0
   try clear c3b1
   try clear c3b2
   obtain ⟨x5_1, rfl, HA, HK1, ⟨m1, rfl⟩⟩ := hrel
   cases gk with
   | zero => exact absurd HA.out (by simp [recensionlaw23_eq.l0])
   | succ k1 =>
    have H := HA.out
    clear HA
    simp only [recensionlaw23_eq.l0] at H
    by_cases c4 : x5_1 < (l0.length : Int)
    ·rw [if_pos c4] at H
     have c4b0 : decide (x5_1 < (l0.length : Int)) = true := decide_eq_true c4
     clear c4
     by_cases c5 : 0 ≤ x5_1
     ·rw [if_pos c5] at H
      have c5b0 : decide (0 ≤ x5_1) = true := decide_eq_true c5
      clear c5
      by_cases c6 : x5_1 < (l1.length : Int)
      ·rw [if_pos c6] at H
       have c6b0 : decide (x5_1 < (l1.length : Int)) = true := decide_eq_true c6
       clear c6
       by_cases c7 : ((rd_T32 l0 x5_1).f0).toList = ((rd_T32 l1 x5_1).f0).toList
       ·rw [if_pos c7] at H
        have c7b0 : (((rd_T32 l0 x5_1).f0).toList == ((rd_T32 l1 x5_1).f0).toList) = true := beq_iff_eq.mpr c7
        have c7b1 : (((rd_T32 l0 x5_1).f0).toList != ((rd_T32 l1 x5_1).f0).toList) = false := bne_eq_false_iff_eq.mpr c7
        clear c7
        by_cases c8 : ((rd_T32 l0 x5_1).f1) = ((rd_T32 l1 x5_1).f1)
        ·rw [if_pos c8] at H
         have c8b0 : (((rd_T32 l0 x5_1).f1) == ((rd_T32 l1 x5_1).f1)) = true := beq_iff_eq.mpr c8
         have c8b1 : (((rd_T32 l0 x5_1).f1) != ((rd_T32 l1 x5_1).f1)) = false := bne_eq_false_iff_eq.mpr c8
         clear c8
         by_cases c9 : ((rd_T32 l0 x5_1).f2.f0) = ((rd_T32 l1 x5_1).f2.f0)
         ·rw [if_pos c9] at H
          have c9b0 : (((rd_T32 l0 x5_1).f2.f0) == ((rd_T32 l1 x5_1).f2.f0)) = true := beq_iff_eq.mpr c9
          have c9b1 : (((rd_T32 l0 x5_1).f2.f0) != ((rd_T32 l1 x5_1).f2.f0)) = false := bne_eq_false_iff_eq.mpr c9
          clear c9
          by_cases c10 : ((rd_T32 l0 x5_1).f2.f1) = ((rd_T32 l1 x5_1).f2.f1)
          ·rw [if_pos c10] at H
           have c10b0 : (((rd_T32 l0 x5_1).f2.f1) == ((rd_T32 l1 x5_1).f2.f1)) = true := beq_iff_eq.mpr c10
           have c10b1 : (((rd_T32 l0 x5_1).f2.f1) != ((rd_T32 l1 x5_1).f2.f1)) = false := bne_eq_false_iff_eq.mpr c10
           clear c10
           have H' := Aside0.mk H
           clear H
           have p124 : 0 ≤ (x5_1 : Int) := of_decide_eq_true (by first | (with_reducible assumption) | assumption)
           have q124 : x5_1 < (l0.length : Int) := of_decide_eq_true (by first | (with_reducible assumption) | assumption)
           obtain ⟨ad124, e124, hx124_0, hx124_1, hx124_2, hx124_3⟩ := at_T32 HR0.out x5_1 p124 q124
           cases e124
           replace p124 := eq_true p124
           replace q124 := eq_true q124
           have p125 : 0 ≤ (x5_1 : Int) := of_decide_eq_true (by first | (with_reducible assumption) | assumption)
           have q125 : x5_1 < (l1.length : Int) := of_decide_eq_true (by first | (with_reducible assumption) | assumption)
           obtain ⟨ad125, e125, hx125_0, hx125_1, hx125_2, hx125_3⟩ := at_T32 HR1.out x5_1 p125 q125
           cases e125
           replace p125 := eq_true p125
           replace q125 := eq_true q125
           have p126 : 0 ≤ (x5_1 : Int) := of_decide_eq_true (by first | (with_reducible assumption) | assumption)
           have q126 : x5_1 < (l0.length : Int) := of_decide_eq_true (by first | (with_reducible assumption) | assumption)
           obtain ⟨ad126, e126, hx126_0, hx126_1, hx126_2, hx126_3⟩ := at_T32 HR0.out x5_1 p126 q126
           obtain rfl : ad124 = ad126 := (by injection e126)
           replace p126 := eq_true p126
           replace q126 := eq_true q126
           have p127 : 0 ≤ (x5_1 : Int) := of_decide_eq_true (by first | (with_reducible assumption) | assumption)
           have q127 : x5_1 < (l1.length : Int) := of_decide_eq_true (by first | (with_reducible assumption) | assumption)
           obtain ⟨ad127, e127, hx127_0, hx127_1, hx127_2, hx127_3⟩ := at_T32 HR1.out x5_1 p127 q127
           obtain rfl : ad125 = ad127 := (by injection e127)
           replace p127 := eq_true p127
           replace q127 := eq_true q127
           have p128 : 0 ≤ (x5_1 : Int) := of_decide_eq_true (by first | (with_reducible assumption) | assumption)
           have q128 : x5_1 < (l0.length : Int) := of_decide_eq_true (by first | (with_reducible assumption) | assumption)
           obtain ⟨ad128, e128, hx128_0, hx128_1, hx128_2, hx128_3⟩ := at_T32 HR0.out x5_1 p128 q128
           obtain rfl : ad124 = ad128 := (by injection e128)
           replace p128 := eq_true p128
           replace q128 := eq_true q128
           have p129 : 0 ≤ (x5_1 : Int) := of_decide_eq_true (by first | (with_reducible assumption) | assumption)
           have q129 : x5_1 < (l1.length : Int) := of_decide_eq_true (by first | (with_reducible assumption) | assumption)
           obtain ⟨ad129, e129, hx129_0, hx129_1, hx129_2, hx129_3⟩ := at_T32 HR1.out x5_1 p129 q129
           obtain rfl : ad125 = ad129 := (by injection e129)
           replace p129 := eq_true p129
           replace q129 := eq_true q129
           have p130 : 0 ≤ (x5_1 : Int) := of_decide_eq_true (by first | (with_reducible assumption) | assumption)
           have q130 : x5_1 < (l0.length : Int) := of_decide_eq_true (by first | (with_reducible assumption) | assumption)
           obtain ⟨ad130, e130, hx130_0, hx130_1, hx130_2, hx130_3⟩ := at_T32 HR0.out x5_1 p130 q130
           obtain rfl : ad124 = ad130 := (by injection e130)
           replace p130 := eq_true p130
           replace q130 := eq_true q130
           have p131 : 0 ≤ (x5_1 : Int) := of_decide_eq_true (by first | (with_reducible assumption) | assumption)
           have q131 : x5_1 < (l1.length : Int) := of_decide_eq_true (by first | (with_reducible assumption) | assumption)
           obtain ⟨ad131, e131, hx131_0, hx131_1, hx131_2, hx131_3⟩ := at_T32 HR1.out x5_1 p131 q131
           obtain rfl : ad125 = ad131 := (by injection e131)
           replace p131 := eq_true p131
           replace q131 := eq_true q131
           go_wp2
           repeat (go_quiet (fail); try go_wp2)
           go_roundg k1
           case measure => have := HK1.out; omega
           case rel => exact ⟨(wrap64 (x5_1 + 1)), (by first | rfl | (simp; done) | (simp [*]; done)), H', ⟨by have := HK1.out; omega⟩, by repeat (first | exact Drawn0.refl _ | apply Drawn0.step)⟩
          ·rw [if_neg c10] at H
           have c10b0 : (((rd_T32 l0 x5_1).f2.f1) == ((rd_T32 l1 x5_1).f2.f1)) = false := beq_eq_false_iff_ne.mpr c10
           have c10b1 : (((rd_T32 l0 x5_1).f2.f1) != ((rd_T32 l1 x5_1).f2.f1)) = true := bne_iff_ne.mpr c10
           obtain rfl := Option.some.inj H
           have p124 : 0 ≤ (x5_1 : Int) := of_decide_eq_true (by first | (with_reducible assumption) | assumption)
           have q124 : x5_1 < (l0.length : Int) := of_decide_eq_true (by first | (with_reducible assumption) | assumption)
           obtain ⟨ad124, e124, hx124_0, hx124_1, hx124_2, hx124_3⟩ := at_T32 HR0.out x5_1 p124 q124
           cases e124
           replace p124 := eq_true p124
           replace q124 := eq_true q124
           have p125 : 0 ≤ (x5_1 : Int) := of_decide_eq_true (by first | (with_reducible assumption) | assumption)
           have q125 : x5_1 < (l1.length : Int) := of_decide_eq_true (by first | (with_reducible assumption) | assumption)
           obtain ⟨ad125, e125, hx125_0, hx125_1, hx125_2, hx125_3⟩ := at_T32 HR1.out x5_1 p125 q125
           cases e125
           replace p125 := eq_true p125
           replace q125 := eq_true q125
           have p126 : 0 ≤ (x5_1 : Int) := of_decide_eq_true (by first | (with_reducible assumption) | assumption)
           have q126 : x5_1 < (l0.length : Int) := of_decide_eq_true (by first | (with_reducible assumption) | assumption)
           obtain ⟨ad126, e126, hx126_0, hx126_1, hx126_2, hx126_3⟩ := at_T32 HR0.out x5_1 p126 q126
           obtain rfl : ad124 = ad126 := (by injection e126)
           replace p126 := eq_true p126
           replace q126 := eq_true q126
           have p127 : 0 ≤ (x5_1 : Int) := of_decide_eq_true (by first | (with_reducible assumption) | assumption)
           have q127 : x5_1 < (l1.length : Int) := of_decide_eq_true (by first | (with_reducible assumption) | assumption)
           obtain ⟨ad127, e127, hx127_0, hx127_1, hx127_2, hx127_3⟩ := at_T32 HR1.out x5_1 p127 q127
           obtain rfl : ad125 = ad127 := (by injection e127)
           replace p127 := eq_true p127
           replace q127 := eq_true q127
           have p128 : 0 ≤ (x5_1 : Int) := of_decide_eq_true (by first | (with_reducible assumption) | assumption)
           have q128 : x5_1 < (l0.length : Int) := of_decide_eq_true (by first | (with_reducible assumption) | assumption)
           obtain ⟨ad128, e128, hx128_0, hx128_1, hx128_2, hx128_3⟩ := at_T32 HR0.out x5_1 p128 q128
           obtain rfl : ad124 = ad128 := (by injection e128)
           replace p128 := eq_true p128
           replace q128 := eq_true q128
           have p129 : 0 ≤ (x5_1 : Int) := of_decide_eq_true (by first | (with_reducible assumption) | assumption)
           have q129 : x5_1 < (l1.length : Int) := of_decide_eq_true (by first | (with_reducible assumption) | assumption)
           obtain ⟨ad129, e129, hx129_0, hx129_1, hx129_2, hx129_3⟩ := at_T32 HR1.out x5_1 p129 q129
           obtain rfl : ad125 = ad129 := (by injection e129)
           replace p129 := eq_true p129
           replace q129 := eq_true q129
           have p130 : 0 ≤ (x5_1 : Int) := of_decide_eq_true (by first | (with_reducible assumption) | assumption)
           have q130 : x5_1 < (l0.length : Int) := of_decide_eq_true (by first | (with_reducible assumption) | assumption)
           obtain ⟨ad130, e130, hx130_0, hx130_1, hx130_2, hx130_3⟩ := at_T32 HR0.out x5_1 p130 q130
           obtain rfl : ad124 = ad130 := (by injection e130)
           replace p130 := eq_true p130
           replace q130 := eq_true q130
           have p131 : 0 ≤ (x5_1 : Int) := of_decide_eq_true (by first | (with_reducible assumption) | assumption)
           have q131 : x5_1 < (l1.length : Int) := of_decide_eq_true (by first | (with_reducible assumption) | assumption)
           obtain ⟨ad131, e131, hx131_0, hx131_1, hx131_2, hx131_3⟩ := at_T32 HR1.out x5_1 p131 q131
           obtain rfl : ad125 = ad131 := (by injection e131)
           replace p131 := eq_true p131
           replace q131 := eq_true q131
           go_wp2
           repeat (go_quiet (fail); try go_wp2)
           go_ret
           exact ⟨by first | rfl | (simp; done) | (simp [*]; done), by repeat (first | exact Drawn0.refl _ | apply Drawn0.step)⟩
         ·rw [if_neg c9] at H
          have c9b0 : (((rd_T32 l0 x5_1).f2.f0) == ((rd_T32 l1 x5_1).f2.f0)) = false := beq_eq_false_iff_ne.mpr c9
          have c9b1 : (((rd_T32 l0 x5_1).f2.f0) != ((rd_T32 l1 x5_1).f2.f0)) = true := bne_iff_ne.mpr c9
          obtain rfl := Option.some.inj H
          have p124 : 0 ≤ (x5_1 : Int) := of_decide_eq_true (by first | (with_reducible assumption) | assumption)
          have q124 : x5_1 < (l0.length : Int) := of_decide_eq_true (by first | (with_reducible assumption) | assumption)
          obtain ⟨ad124, e124, hx124_0, hx124_1, hx124_2, hx124_3⟩ := at_T32 HR0.out x5_1 p124 q124
          cases e124
          replace p124 := eq_true p124
          replace q124 := eq_true q124
          have p125 : 0 ≤ (x5_1 : Int) := of_decide_eq_true (by first | (with_reducible assumption) | assumption)
          have q125 : x5_1 < (l1.length : Int) := of_decide_eq_true (by first | (with_reducible assumption) | assumption)
          obtain ⟨ad125, e125, hx125_0, hx125_1, hx125_2, hx125_3⟩ := at_T32 HR1.out x5_1 p125 q125
          cases e125
          replace p125 := eq_true p125
          replace q125 := eq_true q125
          have p126 : 0 ≤ (x5_1 : Int) := of_decide_eq_true (by first | (with_reducible assumption) | assumption)
          have q126 : x5_1 < (l0.length : Int) := of_decide_eq_true (by first | (with_reducible assumption) | assumption)
          obtain ⟨ad126, e126, hx126_0, hx126_1, hx126_2, hx126_3⟩ := at_T32 HR0.out x5_1 p126 q126
          obtain rfl : ad124 = ad126 := (by injection e126)
          replace p126 := eq_true p126
          replace q126 := eq_true q126
          have p127 : 0 ≤ (x5_1 : Int) := of_decide_eq_true (by first | (with_reducible assumption) | assumption)
          have q127 : x5_1 < (l1.length : Int) := of_decide_eq_true (by first | (with_reducible assumption) | assumption)
          obtain ⟨ad127, e127, hx127_0, hx127_1, hx127_2, hx127_3⟩ := at_T32 HR1.out x5_1 p127 q127
          obtain rfl : ad125 = ad127 := (by injection e127)
          replace p127 := eq_true p127
          replace q127 := eq_true q127
          have p128 : 0 ≤ (x5_1 : Int) := of_decide_eq_true (by first | (with_reducible assumption) | assumption)
          have q128 : x5_1 < (l0.length : Int) := of_decide_eq_true (by first | (with_reducible assumption) | assumption)
          obtain ⟨ad128, e128, hx128_0, hx128_1, hx128_2, hx128_3⟩ := at_T32 HR0.out x5_1 p128 q128
          obtain rfl : ad124 = ad128 := (by injection e128)
          replace p128 := eq_true p128
          replace q128 := eq_true q128
          have p129 : 0 ≤ (x5_1 : Int) := of_decide_eq_true (by first | (with_reducible assumption) | assumption)
          have q129 : x5_1 < (l1.length : Int) := of_decide_eq_true (by first | (with_reducible assumption) | assumption)
          obtain ⟨ad129, e129, hx129_0, hx129_1, hx129_2, hx129_3⟩ := at_T32 HR1.out x5_1 p129 q129
          obtain rfl : ad125 = ad129 := (by injection e129)
          replace p129 := eq_true p129
          replace q129 := eq_true q129
          go_wp2
          repeat (go_quiet (fail); try go_wp2)
          go_ret
          exact ⟨by first | rfl | (simp; done) | (simp [*]; done), by repeat (first | exact Drawn0.refl _ | apply Drawn0.step)⟩
        ·rw [if_neg c8] at H
         have c8b0 : (((rd_T32 l0 x5_1).f1) == ((rd_T32 l1 x5_1).f1)) = false := beq_eq_false_iff_ne.mpr c8
         have c8b1 : (((rd_T32 l0 x5_1).f1) != ((rd_T32 l1 x5_1).f1)) = true := bne_iff_ne.mpr c8
         obtain rfl := Option.some.inj H
         have p124 : 0 ≤ (x5_1 : Int) := of_decide_eq_true (by first | (with_reducible assumption) | assumption)
         have q124 : x5_1 < (l0.length : Int) := of_decide_eq_true (by first | (with_reducible assumption) | assumption)
         obtain ⟨ad124, e124, hx124_0, hx124_1, hx124_2, hx124_3⟩ := at_T32 HR0.out x5_1 p124 q124
         cases e124
         replace p124 := eq_true p124
         replace q124 := eq_true q124
         have p125 : 0 ≤ (x5_1 : Int) := of_decide_eq_true (by first | (with_reducible assumption) | assumption)
         have q125 : x5_1 < (l1.length : Int) := of_decide_eq_true (by first | (with_reducible assumption) | assumption)
         obtain ⟨ad125, e125, hx125_0, hx125_1, hx125_2, hx125_3⟩ := at_T32 HR1.out x5_1 p125 q125
         cases e125
         replace p125 := eq_true p125
         replace q125 := eq_true q125
         have p126 : 0 ≤ (x5_1 : Int) := of_decide_eq_true (by first | (with_reducible assumption) | assumption)
         have q126 : x5_1 < (l0.length : Int) := of_decide_eq_true (by first | (with_reducible assumption) | assumption)
         obtain ⟨ad126, e126, hx126_0, hx126_1, hx126_2, hx126_3⟩ := at_T32 HR0.out x5_1 p126 q126
         obtain rfl : ad124 = ad126 := (by injection e126)
         replace p126 := eq_true p126
         replace q126 := eq_true q126
         have p127 : 0 ≤ (x5_1 : Int) := of_decide_eq_true (by first | (with_reducible assumption) | assumption)
         have q127 : x5_1 < (l1.length : Int) := of_decide_eq_true (by first | (with_reducible assumption) | assumption)
         obtain ⟨ad127, e127, hx127_0, hx127_1, hx127_2, hx127_3⟩ := at_T32 HR1.out x5_1 p127 q127
         obtain rfl : ad125 = ad127 := (by injection e127)
         replace p127 := eq_true p127
         replace q127 := eq_true q127
         go_wp2
         repeat (go_quiet (fail); try go_wp2)
         go_ret
         exact ⟨by first | rfl | (simp; done) | (simp [*]; done), by repeat (first | exact Drawn0.refl _ | apply Drawn0.step)⟩
       ·rw [if_neg c7] at H
        have c7b0 : (((rd_T32 l0 x5_1).f0).toList == ((rd_T32 l1 x5_1).f0).toList) = false := beq_eq_false_iff_ne.mpr c7
        have c7b1 : (((rd_T32 l0 x5_1).f0).toList != ((rd_T32 l1 x5_1).f0).toList) = true := bne_iff_ne.mpr c7
        obtain rfl := Option.some.inj H
        have p124 : 0 ≤ (x5_1 : Int) := of_decide_eq_true (by first | (with_reducible assumption) | assumption)
        have q124 : x5_1 < (l0.length : Int) := of_decide_eq_true (by first | (with_reducible assumption) | assumption)
        obtain ⟨ad124, e124, hx124_0, hx124_1, hx124_2, hx124_3⟩ := at_T32 HR0.out x5_1 p124 q124
        cases e124
        replace p124 := eq_true p124
        replace q124 := eq_true q124
        have p125 : 0 ≤ (x5_1 : Int) := of_decide_eq_true (by first | (with_reducible assumption) | assumption)
        have q125 : x5_1 < (l1.length : Int) := of_decide_eq_true (by first | (with_reducible assumption) | assumption)
        obtain ⟨ad125, e125, hx125_0, hx125_1, hx125_2, hx125_3⟩ := at_T32 HR1.out x5_1 p125 q125
        cases e125
        replace p125 := eq_true p125
        replace q125 := eq_true q125
        go_wp2
        repeat (go_quiet (fail); try go_wp2)
        go_ret
        exact ⟨by first | rfl | (simp; done) | (simp [*]; done), by repeat (first | exact Drawn0.refl _ | apply Drawn0.step)⟩
      ·rw [if_neg c6] at H
       exact absurd H (by simp)
     ·rw [if_neg c5] at H
      exact absurd H (by simp)
    ·rw [if_neg c4] at H
     have c4b0 : decide (x5_1 < (l0.length : Int)) = false := decide_eq_false c4
     clear c4
     obtain rfl := Option.some.inj H
     go_wp2
     repeat (go_quiet (fail); try go_wp2)
     go_ret
     exact ⟨by first | rfl | (simp; done) | (simp [*]; done), by repeat (first | exact Drawn0.refl _ | apply Drawn0.step)⟩
 ·rw [if_neg c3] at H
  have c3b0 : ((l0.length : Int) == (l1.length : Int)) = false := beq_eq_false_iff_ne.mpr c3
  have c3b1 : ((l0.length : Int) != (l1.length : Int)) = true := bne_iff_ne.mpr c3
  have c3b2 : (l0.length == l1.length) = false := by first | simpa using c3 | (simp at c3 ⊢; omega)
  obtain rfl := Option.some.inj H
  go_enter Try.func15, Try.ntmps15
  go_wp2
  repeat (go_quiet (fail); try go_wp2)
  go_ret
  exact ⟨by first | rfl | (simp; done) | (simp [*]; done), by repeat (first | exact Drawn0.refl _ | apply Drawn0.step)⟩

-- NOT PRINTED: function 27 (dir_Entry)

/-! ### dir_Find: function 16 -/
def findL (s : ByteArray) : List S32 → Int → Int
 | [], _ => -1
 | e :: l, i => if e.f0.toList = s.toList then i else findL s l (i + 1)
def dir_Find.f (l0 : List S32) (a1 : ByteArray) : Option Int := if l0.length ≤ 1000000000 then some (findL a1 l0 0) else none
set_option maxHeartbeats 1000000 in
set_option maxRecDepth 100000 in
theorem clos_any (e : S32) (b : Nat) (a1 : ByteArray) (w : World) (hc : w.cell? ⟨b, 0, none⟩ = some (.string a1)) :
  Calls Try.prog 28 #[.agg #[.string e.f0, .int .i64 e.f1, .int .i64 e.f2.f0, .int .i64 e.f2.f1], .pointer (some ⟨b, 0, none⟩)] w fun e' w' => e' = .returned (.bool (e.f0.toList == a1.toList)) ∧ Below w.heap.size w w' := by
 have hb := World.block_lt_of_cell? w _ hc
 have hc2 := fun o => ((below_alloc (Below.refl w.heap.size w) o).cell hb).trans hc
 go_enter Try.func28, Try.ntmps28
 go_wp2
 go_ret
 exact ⟨rfl, below_alloc (Below.refl _ _) _⟩
set_option maxHeartbeats 1000000 in
set_option maxRecDepth 100000 in
theorem index_any (A0 : Option Addr) (c0 : Nat) (l0 : List S32) (b : Nat) (a1 : ByteArray) (w : World) (hr0 : Kd.C k32 w A0 l0.length l0) (hl : l0.length ≤ 1000000000) (hc : w.cell? ⟨b, 0, none⟩ = some (.string a1)) :
  Calls Try.prog 27 #[.slice A0 l0.length c0, .func (Fn.func 28) #[] #[.pointer (some ⟨b, 0, none⟩)]] w fun e w' => e = .returned (.int .i64 (findL a1 l0 0)) ∧ Below w.heap.size w w' := by
 have HR := Lib.hid hr0
 have HC := Lib.hid hc
 clear hr0 hc
 go_enter Try.func27, Try.ntmps27
 go_wp2
 go_loopw [8] (fun i wr => ∃ (x : Int), i = .int .i64 x ∧ 0 ≤ x ∧ x ≤ l0.length ∧ Aside0 (Below w.heap.size w wr) ∧ Aside0 (findL a1 (l0.drop x.toNat) x = findL a1 l0 0)) (fun i _ => l0.length - (intOf i).toNat)
 case atStart => exact ⟨0, rfl, Int.le_refl _, by omega, ⟨Below.refl _ _⟩, ⟨rfl⟩⟩
 case round =>
  obtain ⟨x, rfl, hx0, hxl, HB, HG⟩ := hrel
  by_cases hlt : x < (l0.length : Int)
  ·obtain ⟨ad, e0, q0, q1, q2, q3⟩ := at_T32 HR.out x hx0 hlt
   subst e0
   obtain ⟨ent, hent⟩ : ∃ ent, rd_T32 l0 x = ent := ⟨_, rfl⟩
   rw [hent] at q0 q1 q2 q3
   replace q0 := (HB.out.cell (World.block_lt_of_cell? w _ q0)).trans q0
   replace q1 := (HB.out.cell (World.block_lt_of_cell? w _ q1)).trans q1
   replace q2 := (HB.out.cell (World.block_lt_of_cell? w _ q2)).trans q2
   replace q3 := (HB.out.cell (World.block_lt_of_cell? w _ q3)).trans q3
   have hgo : (if ent.f0.toList = a1.toList then x else findL a1 (l0.drop (x + 1).toNat) (x + 1)) = findL a1 l0 0 := by
    have e := HG.out
    have hl : x.toNat < l0.length := by omega
    rw [List.drop_eq_getElem_cons hl] at e
    have e1 : l0[x.toNat] = ent := by rw [← hent]; unfold rd_T32; simp [hl]
    rw [show (x + 1).toNat = x.toNat + 1 by omega, ← e1]
    exact e
   have HGO := Lib.hid hgo
   have hcw := Lib.hid ((HB.out.cell (World.block_lt_of_cell? w _ HC.out)).trans HC.out)
   clear hgo hent HG
   by_cases hq : ent.f0.toList = a1.toList
   all_goals
    have hq2 := Lib.hid hq
    first | have t1 : (ent.f0.toList == a1.toList) = true := beq_iff_eq.2 hq | have t1 : (ent.f0.toList == a1.toList) = false := beq_eq_false_iff_ne.2 hq
    clear hq
    go_wp2_with (go_at_call 28; refine (clos_any ent b a1 _ hcw.out).mono ?_; rintro e w4 ⟨rfl, hb4⟩; have HB4 := Lib.hid (below_step HB.out hb4); clear hb4)
   ·go_ret
    exact ⟨congrArg (fun z => Ending.returned (.int .i64 z)) (by have := HGO.out; rwa [if_pos hq2.out] at this), HB4.out⟩
   ·go_roundw
    case rel => exact ⟨x + 1, rfl, by omega, by omega, ⟨HB4.out⟩, ⟨by have := HGO.out; rwa [if_neg hq2.out] at this⟩⟩
    case measure => simp [intOf]; omega
  ·have hxe : x = (l0.length : Int) := by omega
   have hr : -1 = findL a1 l0 0 := by
    have e := HG.out
    rw [hxe, Int.toNat_natCast, List.drop_length] at e
    exact e
   have HRR := Lib.hid hr
   clear hr HG
   go_wp2
   go_ret
   exact ⟨congrArg (fun z => Ending.returned (.int .i64 z)) HRR.out, HB.out⟩
set_option maxHeartbeats 1000000 in
set_option maxRecDepth 100000 in
theorem find_walk (A0 : Option Addr) (c0 : Nat) (l0 : List S32) (a1 : ByteArray) (w : World) (hr0 : Kd.C k32 w A0 l0.length l0) (hc0 : l0.length ≤ c0) (hl : l0.length ≤ 1000000000) :
  Calls Try.prog 16 #[.slice A0 l0.length c0, .string a1] w fun e w' => e = .returned (.int .i64 (findL a1 l0 0)) ∧ Below w.heap.size w w' := by
 have HR := Lib.hid hr0
 clear hr0
 go_enter Try.func16, Try.ntmps16
 have hcc := (blk_cell (blk_new w (.cells #[.string a1] 9)) 0).trans rfl
 have HCC := Lib.hid hcc
 clear hcc
 go_wp2_with (go_at_call 27; refine (index_any A0 c0 l0 w.heap.size a1 _ (Kd.C_alloc HR.out _) hl HCC.out).mono ?_; rintro e w4 ⟨rfl, hb4⟩; have HB4 := Lib.hid (below_step (below_alloc (Below.refl w.heap.size w) _) hb4); clear hb4)
 go_ret
 exact ⟨rfl, HB4.out⟩
theorem dir_Find.calls (A0 : Option Addr) (c0 : Nat) (l0 : List S32) (a1 : ByteArray) (r : Int) (w : World) (hr0 : Kd.C k32 w A0 l0.length l0) (hc0 : l0.length ≤ c0) (h : dir_Find.f l0 a1 = some r) :
  Calls Try.prog 16 #[.slice A0 l0.length c0, .string a1] w fun e w' => e = .returned (.int .i64 r) ∧ Below w.heap.size w w' := by
 unfold dir_Find.f at h
 by_cases hl : l0.length ≤ 1000000000
 ·rw [if_pos hl] at h
  obtain rfl := Option.some.inj h
  exact find_walk A0 c0 l0 a1 w hr0 hc0 hl
 ·rw [if_neg hl] at h; cases h

end Go.Proofs.Ytloabiheaelbnaa.PDirAll
