-- Written by myprint.py (the prover's own turn of the printer); not trusted: Lean checks it.
import Derived.Test.YtdbkapkiaigddaaPEditAllx0
namespace Go.Proofs.Ytdbkapkiaigddaa.PEditAll
open Go.RowKit Go.Proofs.YtdbkapkiaigddaaW.PrintWords Go.Proofs.YtdbkapkiaigddaaW.PrintLast Go.Proofs.YtdbkapkiaigddaaW.PrintMore
attribute [local go_sem] max2_int min2_int max_two min_two max_three min_three max_four min_four   -- for this text's walks alone
set_option linter.unusedVariables false
set_option linter.unusedSimpArgs false

/-! ### recensionref1_Apply: function 14 -/
def recensionref1_Apply.l0 : Nat → ByteArray → List (S31) → ByteArray → Int → Int → Option (ByteArray)
 | 0, _, _, _, _, _ => none
 | k + 1, x0, x1, x5, x6, x7 => if x7 < (x1.length : Int) then (if 0 ≤ x7 then (if 0 ≤ x6 then (if x6 ≤ ((rd_T31 x1 x7).f0) then (if ((rd_T31 x1 x7).f0) ≤ (x0.size : Int) then (if (x0.extract (x6 : Int).toNat (((rd_T31 x1 x7).f0) : Int).toNat).size + ((rd_T31 x1 x7).f2).size ≤ 9223372036854775807 then (if x5.size + ((x0.extract (x6 : Int).toNat (((rd_T31 x1 x7).f0) : Int).toNat) ++ ((rd_T31 x1 x7).f2)).size ≤ 9223372036854775807 then (recensionref1_Apply.l0 k x0 x1 (x5 ++ ((x0.extract (x6 : Int).toNat (((rd_T31 x1 x7).f0) : Int).toNat) ++ ((rd_T31 x1 x7).f2))) (wrap64 (((rd_T31 x1 x7).f0) + ((rd_T31 x1 x7).f1))) (wrap64 (x7 + 1))) else (none)) else (none)) else (none)) else (none)) else (none)) else (none)) else (if 0 ≤ x6 then (if x6 ≤ (x0.size : Int) then (if x5.size + (x0.extract (x6 : Int).toNat x0.size).size ≤ 9223372036854775807 then (some (x5 ++ (x0.extract (x6 : Int).toNat x0.size))) else (none)) else (none)) else (none))
def recensionref1_Apply.f (k : Nat) (a0 : ByteArray) (l1 : List (S31)) : Option (ByteArray) := recensionref1_Apply.l0 k a0 l1 (⟨#[]⟩ : ByteArray) 0 0
theorem recensionref1_Apply.mono_l : ∀ k, (∀ y0 y1 y2 y3 y4, LeO (recensionref1_Apply.l0 k y0 y1 y2 y3 y4) (recensionref1_Apply.l0 (k + 1) y0 y1 y2 y3 y4))
 | 0 => fun _ _ _ _ _ r h => by simp [recensionref1_Apply.l0] at h
 | k + 1 => by
  have ih0 := recensionref1_Apply.mono_l k
  ·intro y0 y1 y2 y3 y4
   unfold recensionref1_Apply.l0
   repeat' first
   | (with_reducible exact ih0 _ _ _ _ _)
   | (with_reducible exact LeO.refl _)
   | (with_reducible exact LeO.none _)
   | (with_reducible refine LeO.ite ?_ ?_)
   | (with_reducible refine LeO.bind ?_ (fun _ => ?_))
   | exact ih0 _ _ _ _ _
   | exact LeO.none _
   | refine LeO.ite ?_ ?_
   | refine LeO.bind ?_ (fun _ => ?_)
theorem recensionref1_Apply.mono : ∀ a0 a1 k, LeO (recensionref1_Apply.f k a0 a1) (recensionref1_Apply.f (k + 1) a0 a1) := by
 intro a0 a1 k
 have ih0 := recensionref1_Apply.mono_l k
 unfold recensionref1_Apply.f
 repeat' first
   | (with_reducible exact ih0 _ _ _ _ _)
   | (with_reducible exact LeO.refl _)
   | (with_reducible exact LeO.none _)
   | (with_reducible refine LeO.ite ?_ ?_)
   | (with_reducible refine LeO.bind ?_ (fun _ => ?_))
   | exact ih0 _ _ _ _ _
   | exact LeO.none _
   | refine LeO.ite ?_ ?_
   | refine LeO.bind ?_ (fun _ => ?_)
set_option maxHeartbeats 8000000 in
set_option maxRecDepth 100000 in
theorem recensionref1_Apply.calls (k : Nat) (a0 : ByteArray) (A1 : Option Addr) (c1 : Nat) (l1 : List (S31)) (r : ByteArray) (w : World) (hr1 : Kd.C k31 w A1 l1.length l1) (hc1 : l1.length ≤ c1) (h : recensionref1_Apply.f k a0 l1 = some r) :
  Calls Try.prog 14 #[.string a0, .slice A1 l1.length c1] w fun e w' => e = .returned (.string r) ∧ Drawn0 w w' := by
 have HR1 := Aside0.mk hr1
 have HC1 := Aside0.mk hc1
 clear hr1 hc1
 have H : (recensionref1_Apply.l0 k a0 l1 (⟨#[]⟩ : ByteArray) 0 0) = some r := h
 clear h
 have H' := Aside0.mk H
 clear H
 go_enter Try.func14, Try.ntmps14
 go_wp2
 repeat (go_quiet (fail); try go_wp2)
 go_loopg [5, 6, 7] k (fun kq v5 v6 v7 w' => ∃ (x5_1 : ByteArray) (x6_1 : Int) (x7_1 : Int), v5 = .string x5_1 ∧ v6 = .int .i64 x6_1 ∧ v7 = .int .i64 x7_1 ∧ Aside0 (recensionref1_Apply.l0 kq a0 l1 x5_1 x6_1 x7_1 = some r) ∧ Aside0 (kq ≤ k) ∧ Drawn0 w w')
 case atStart => exact ⟨((⟨#[]⟩ : ByteArray)), (0), (0), (by first | rfl | (simp; done) | (simp [*]; done)), (by first | rfl | (simp; done) | (simp [*]; done)), (by first | rfl | (simp; done) | (simp [*]; done)), H', ⟨Nat.le_refl _⟩, by repeat (first | exact Drawn0.refl _ | apply Drawn0.step)⟩
 case round =>
  clear H'
  try clear c1
  try clear p2
  obtain ⟨x5_1, x6_1, x7_1, rfl, rfl, rfl, HA, HK1, ⟨m1, rfl⟩⟩ := hrel
  cases gk with
  | zero => exact absurd HA.out (by simp [recensionref1_Apply.l0])
  | succ k1 =>
   have H := HA.out
   clear HA
   simp only [recensionref1_Apply.l0] at H
   by_cases c3 : x7_1 < (l1.length : Int)
   ·rw [if_pos c3] at H
    have c3b0 : decide (x7_1 < (l1.length : Int)) = true := decide_eq_true c3
    clear c3
    by_cases c4 : 0 ≤ x7_1
    ·rw [if_pos c4] at H
     have c4b0 : decide (0 ≤ x7_1) = true := decide_eq_true c4
     clear c4
     by_cases c5 : 0 ≤ x6_1
     ·rw [if_pos c5] at H
      have c5b0 := eq_true c5
      have c5b1 : decide (0 ≤ x6_1) = true := decide_eq_true c5
      clear c5
      by_cases c6 : x6_1 ≤ ((rd_T31 l1 x7_1).f0)
      ·rw [if_pos c6] at H
       have c6b0 := eq_true c6
       have c6b1 : decide (x6_1 ≤ ((rd_T31 l1 x7_1).f0)) = true := decide_eq_true c6
       clear c6
       by_cases c7 : ((rd_T31 l1 x7_1).f0) ≤ (a0.size : Int)
       ·rw [if_pos c7] at H
        have c7b0 := eq_true c7
        have c7b1 : decide (((rd_T31 l1 x7_1).f0) ≤ (a0.size : Int)) = true := decide_eq_true c7
        clear c7
        by_cases c8 : (a0.extract (x6_1 : Int).toNat (((rd_T31 l1 x7_1).f0) : Int).toNat).size + ((rd_T31 l1 x7_1).f2).size ≤ 9223372036854775807
        ·rw [if_pos c8] at H
         have c8b0 := eq_true c8
         have c8b1 : decide ((a0.extract (x6_1 : Int).toNat (((rd_T31 l1 x7_1).f0) : Int).toNat).size + ((rd_T31 l1 x7_1).f2).size ≤ 9223372036854775807) = true := decide_eq_true c8
         try have c8b2 : (9223372036854775807 < (a0.extract (x6_1 : Int).toNat (((rd_T31 l1 x7_1).f0) : Int).toNat).size + ((rd_T31 l1 x7_1).f2).size) = False := eq_false (Nat.not_lt.2 c8)
         by_cases c9 : x5_1.size + ((a0.extract (x6_1 : Int).toNat (((rd_T31 l1 x7_1).f0) : Int).toNat) ++ ((rd_T31 l1 x7_1).f2)).size ≤ 9223372036854775807
         ·rw [if_pos c9] at H
          have c9b0 := eq_true c9
          have c9b1 : decide (x5_1.size + ((a0.extract (x6_1 : Int).toNat (((rd_T31 l1 x7_1).f0) : Int).toNat) ++ ((rd_T31 l1 x7_1).f2)).size ≤ 9223372036854775807) = true := decide_eq_true c9
          try have c9b2 : (9223372036854775807 < x5_1.size + ((a0.extract (x6_1 : Int).toNat (((rd_T31 l1 x7_1).f0) : Int).toNat) ++ ((rd_T31 l1 x7_1).f2)).size) = False := eq_false (Nat.not_lt.2 c9)
          have H' := Aside0.mk H
          clear H
          have p159 : 0 ≤ (x7_1 : Int) := of_decide_eq_true (by first | (with_reducible assumption) | assumption)
          have q159 : x7_1 < (l1.length : Int) := of_decide_eq_true (by first | (with_reducible assumption) | assumption)
          obtain ⟨ad159, e159, hx159_0, hx159_1, hx159_2⟩ := at_T31 HR1.out x7_1 p159 q159
          cases e159
          replace p159 := eq_true p159
          replace q159 := eq_true q159
          have p160 : 0 ≤ (x7_1 : Int) := of_decide_eq_true (by first | (with_reducible assumption) | assumption)
          have q160 : x7_1 < (l1.length : Int) := of_decide_eq_true (by first | (with_reducible assumption) | assumption)
          obtain ⟨ad160, e160, hx160_0, hx160_1, hx160_2⟩ := at_T31 HR1.out x7_1 p160 q160
          obtain rfl : ad159 = ad160 := (by injection e160)
          replace p160 := eq_true p160
          replace q160 := eq_true q160
          have p161 : 0 ≤ (x7_1 : Int) := of_decide_eq_true (by first | (with_reducible assumption) | assumption)
          have q161 : x7_1 < (l1.length : Int) := of_decide_eq_true (by first | (with_reducible assumption) | assumption)
          obtain ⟨ad161, e161, hx161_0, hx161_1, hx161_2⟩ := at_T31 HR1.out x7_1 p161 q161
          obtain rfl : ad159 = ad161 := (by injection e161)
          replace p161 := eq_true p161
          replace q161 := eq_true q161
          have p162 : 0 ≤ (x7_1 : Int) := of_decide_eq_true (by first | (with_reducible assumption) | assumption)
          have q162 : x7_1 < (l1.length : Int) := of_decide_eq_true (by first | (with_reducible assumption) | assumption)
          obtain ⟨ad162, e162, hx162_0, hx162_1, hx162_2⟩ := at_T31 HR1.out x7_1 p162 q162
          obtain rfl : ad159 = ad162 := (by injection e162)
          replace p162 := eq_true p162
          replace q162 := eq_true q162
          go_wp2
          repeat (go_quiet (fail); try go_wp2)
          go_roundg k1
          case measure => have := HK1.out; omega
          case rel => exact ⟨(x5_1 ++ ((a0.extract (x6_1 : Int).toNat (((rd_T31 l1 x7_1).f0) : Int).toNat) ++ ((rd_T31 l1 x7_1).f2))), (wrap64 (((rd_T31 l1 x7_1).f0) + ((rd_T31 l1 x7_1).f1))), (wrap64 (x7_1 + 1)), (by first | rfl | (simp; done) | (simp [*]; done)), (by first | rfl | (simp; done) | (simp [*]; done)), (by first | rfl | (simp; done) | (simp [*]; done)), H', ⟨by have := HK1.out; omega⟩, by repeat (first | exact Drawn0.refl _ | apply Drawn0.step)⟩
         ·rw [if_neg c9] at H
          exact absurd H (by simp)
        ·rw [if_neg c8] at H
         exact absurd H (by simp)
       ·rw [if_neg c7] at H
        exact absurd H (by simp)
      ·rw [if_neg c6] at H
       exact absurd H (by simp)
     ·rw [if_neg c5] at H
      exact absurd H (by simp)
    ·rw [if_neg c4] at H
     exact absurd H (by simp)
   ·rw [if_neg c3] at H
    have c3b0 : decide (x7_1 < (l1.length : Int)) = false := decide_eq_false c3
    clear c3
    by_cases c10 : 0 ≤ x6_1
    ·rw [if_pos c10] at H
     have c10b0 := eq_true c10
     have c10b1 : decide (0 ≤ x6_1) = true := decide_eq_true c10
     clear c10
     by_cases c11 : x6_1 ≤ (a0.size : Int)
     ·rw [if_pos c11] at H
      have c11b0 := eq_true c11
      have c11b1 : decide (x6_1 ≤ (a0.size : Int)) = true := decide_eq_true c11
      clear c11
      by_cases c12 : x5_1.size + (a0.extract (x6_1 : Int).toNat a0.size).size ≤ 9223372036854775807
      ·rw [if_pos c12] at H
       have c12b0 := eq_true c12
       have c12b1 : decide (x5_1.size + (a0.extract (x6_1 : Int).toNat a0.size).size ≤ 9223372036854775807) = true := decide_eq_true c12
       try have c12b2 : (9223372036854775807 < x5_1.size + (a0.extract (x6_1 : Int).toNat a0.size).size) = False := eq_false (Nat.not_lt.2 c12)
       obtain rfl := Option.some.inj H
       go_wp2
       repeat (go_quiet (fail); try go_wp2)
       go_ret
       exact ⟨by first | rfl | (simp; done) | (simp [*]; done), by repeat (first | exact Drawn0.refl _ | apply Drawn0.step)⟩
      ·rw [if_neg c12] at H
       exact absurd H (by simp)
     ·rw [if_neg c11] at H
      exact absurd H (by simp)
    ·rw [if_neg c10] at H
     exact absurd H (by simp)

end Go.Proofs.Ytdbkapkiaigddaa.PEditAll
