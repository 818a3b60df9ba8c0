-- Written by myprint.py (the prover's own turn of the printer); not trusted: Lean checks it.
import Derived.Test.YteikeoeidaaiaaaPMergex0
import Derived.Test.YteikeoeidaaiaaaPMergex2
import Derived.Test.YteikeoeidaaiaaaPMergex3
import Derived.Test.YteikeoeidaaiaaaPMergex4
namespace Go.Proofs.Yteikeoeidaaiaaa.PMerge
open Go.RowKit Go.Proofs.YteikeoeidaaiaaaW.PrintWords Go.Proofs.YteikeoeidaaiaaaW.PrintLast Go.Proofs.YteikeoeidaaiaaaW.PrintMore
attribute [local go_sem] str_leq op_leq op_gtr op_geq max2_int min2_int max_two min_two max_three min_three max_four min_four   -- for this text's walks alone
set_option linter.unusedVariables false
set_option linter.unusedSimpArgs false

/-! ### recensionlaw9_eq: function 12 -/
def recensionlaw9_eq.l0 : Nat → List (S29) → List (S29) → Int → Option (Bool)
 | 0, _, _, _ => none
 | k + 1, x0, x1, x5 => if x5 < (x0.length : Int) then (if 0 ≤ x5 then (if x5 < (x1.length : Int) then (if ((rd_T29 x0 x5).f0) = ((rd_T29 x1 x5).f0) then (if ((rd_T29 x0 x5).f1) = ((rd_T29 x1 x5).f1) then (if ((rd_T29 x0 x5).f2).toList = ((rd_T29 x1 x5).f2).toList then (recensionlaw9_eq.l0 k x0 x1 (wrap64 (x5 + 1))) else (some false)) else (some false)) else (some false)) else (none)) else (none)) else (some true)
def recensionlaw9_eq.f (k : Nat) (l0 : List (S29)) (l1 : List (S29)) : Option (Bool) := if (l0.length : Int) = (l1.length : Int) then (recensionlaw9_eq.l0 k l0 l1 0) else (some false)
theorem recensionlaw9_eq.mono_l : ∀ k, (∀ y0 y1 y2, LeO (recensionlaw9_eq.l0 k y0 y1 y2) (recensionlaw9_eq.l0 (k + 1) y0 y1 y2))
 | 0 => fun _ _ _ r h => by simp [recensionlaw9_eq.l0] at h
 | k + 1 => by
  have ih0 := recensionlaw9_eq.mono_l k
  ·intro y0 y1 y2
   unfold recensionlaw9_eq.l0
   repeat' first
   | (with_reducible exact ih0 _ _ _)
   | (with_reducible exact LeO.refl _)
   | (with_reducible exact LeO.none _)
   | (with_reducible refine LeO.ite ?_ ?_)
   | (with_reducible refine LeO.bind ?_ (fun _ => ?_))
   | exact ih0 _ _ _
   | exact LeO.none _
   | refine LeO.ite ?_ ?_
   | refine LeO.bind ?_ (fun _ => ?_)
theorem recensionlaw9_eq.mono : ∀ a0 a1 k, LeO (recensionlaw9_eq.f k a0 a1) (recensionlaw9_eq.f (k + 1) a0 a1) := by
 intro a0 a1 k
 have ih0 := recensionlaw9_eq.mono_l k
 unfold recensionlaw9_eq.f
 repeat' first
   | (with_reducible exact ih0 _ _ _)
   | (with_reducible exact LeO.refl _)
   | (with_reducible exact LeO.none _)
   | (with_reducible refine LeO.ite ?_ ?_)
   | (with_reducible refine LeO.bind ?_ (fun _ => ?_))
   | exact ih0 _ _ _
   | exact LeO.none _
   | refine LeO.ite ?_ ?_
   | refine LeO.bind ?_ (fun _ => ?_)
set_option maxHeartbeats 8000000 in
set_option maxRecDepth 100000 in
theorem recensionlaw9_eq.calls (k : Nat) (A0 : Option Addr) (c0 : Nat) (l0 : List (S29)) (A1 : Option Addr) (c1 : Nat) (l1 : List (S29)) (r : Bool) (w : World) (hr0 : Kd.C k29 w A0 l0.length l0) (hc0 : l0.length ≤ c0) (hr1 : Kd.C k29 w A1 l1.length l1) (hc1 : l1.length ≤ c1) (h : recensionlaw9_eq.f k l0 l1 = some r) :
  Calls Try.prog 12 #[.slice A0 l0.length c0, .slice A1 l1.length c1] w fun e w' => e = .returned (.bool r) ∧ Drawn0 w w' := by
 have HR0 := Aside0.mk hr0
 have HC0 := Aside0.mk hc0
 clear hr0 hc0
 have HR1 := Aside0.mk hr1
 have HC1 := Aside0.mk hc1
 clear hr1 hc1
 have H : (if (l0.length : Int) = (l1.length : Int) then (recensionlaw9_eq.l0 k l0 l1 0) else (some false)) = some r := h
 clear h
 by_cases c3 : (l0.length : Int) = (l1.length : Int)
 ·rw [if_pos c3] at H
  have c3b0 : ((l0.length : Int) == (l1.length : Int)) = true := beq_iff_eq.mpr c3
  have c3b1 : ((l0.length : Int) != (l1.length : Int)) = false := bne_eq_false_iff_eq.mpr c3
  have c3b2 : (l0.length == l1.length) = true := by first | simpa using c3 | (simp at c3 ⊢; omega)
  clear c3
  have H' := Aside0.mk H
  clear H
  go_enter Try.func12, Try.ntmps12
  go_wp2
  repeat (go_quiet (fail); try go_wp2)
  go_loopg [5] k (fun kq v5 w' => ∃ (x5_1 : Int), v5 = .int .i64 x5_1 ∧ Aside0 (recensionlaw9_eq.l0 kq l0 l1 x5_1 = some r) ∧ Aside0 (kq ≤ k) ∧ Drawn0 w w')
  case atStart => exact ⟨(0), (by first | rfl | (simp; done) | (simp [*]; done)), H', ⟨Nat.le_refl _⟩, by repeat (first | exact Drawn0.refl _ | apply Drawn0.step)⟩
  case round =>
   clear H'
   try clear c1
   try clear p2
   try clear c3
   try clear c3b0
   try clear c3b1
   try clear c3b2
   obtain ⟨x5_1, rfl, HA, HK1, ⟨m1, rfl⟩⟩ := hrel
   cases gk with
   | zero => exact absurd HA.out (by simp [recensionlaw9_eq.l0])
   | succ k1 =>
    have H := HA.out
    clear HA
    simp only [recensionlaw9_eq.l0] at H
    by_cases c4 : x5_1 < (l0.length : Int)
    ·rw [if_pos c4] at H
     have c4b0 : decide (x5_1 < (l0.length : Int)) = true := decide_eq_true c4
     clear c4
     by_cases c5 : 0 ≤ x5_1
     ·rw [if_pos c5] at H
      have c5b0 : decide (0 ≤ x5_1) = true := decide_eq_true c5
      clear c5
      by_cases c6 : x5_1 < (l1.length : Int)
      ·rw [if_pos c6] at H
       have c6b0 : decide (x5_1 < (l1.length : Int)) = true := decide_eq_true c6
       clear c6
       by_cases c7 : ((rd_T29 l0 x5_1).f0) = ((rd_T29 l1 x5_1).f0)
       ·rw [if_pos c7] at H
        have c7b0 : (((rd_T29 l0 x5_1).f0) == ((rd_T29 l1 x5_1).f0)) = true := beq_iff_eq.mpr c7
        have c7b1 : (((rd_T29 l0 x5_1).f0) != ((rd_T29 l1 x5_1).f0)) = false := bne_eq_false_iff_eq.mpr c7
        clear c7
        by_cases c8 : ((rd_T29 l0 x5_1).f1) = ((rd_T29 l1 x5_1).f1)
        ·rw [if_pos c8] at H
         have c8b0 : (((rd_T29 l0 x5_1).f1) == ((rd_T29 l1 x5_1).f1)) = true := beq_iff_eq.mpr c8
         have c8b1 : (((rd_T29 l0 x5_1).f1) != ((rd_T29 l1 x5_1).f1)) = false := bne_eq_false_iff_eq.mpr c8
         clear c8
         by_cases c9 : ((rd_T29 l0 x5_1).f2).toList = ((rd_T29 l1 x5_1).f2).toList
         ·rw [if_pos c9] at H
          have c9b0 : (((rd_T29 l0 x5_1).f2).toList == ((rd_T29 l1 x5_1).f2).toList) = true := beq_iff_eq.mpr c9
          have c9b1 : (((rd_T29 l0 x5_1).f2).toList != ((rd_T29 l1 x5_1).f2).toList) = false := bne_eq_false_iff_eq.mpr c9
          clear c9
          have H' := Aside0.mk H
          clear H
          have p112 : 0 ≤ (x5_1 : Int) := of_decide_eq_true (by first | (with_reducible assumption) | assumption)
          have q112 : x5_1 < (l0.length : Int) := of_decide_eq_true (by first | (with_reducible assumption) | assumption)
          obtain ⟨ad112, e112, hx112_0, hx112_1, hx112_2⟩ := at_T29 HR0.out x5_1 p112 q112
          cases e112
          replace p112 := eq_true p112
          replace q112 := eq_true q112
          have p113 : 0 ≤ (x5_1 : Int) := of_decide_eq_true (by first | (with_reducible assumption) | assumption)
          have q113 : x5_1 < (l1.length : Int) := of_decide_eq_true (by first | (with_reducible assumption) | assumption)
          obtain ⟨ad113, e113, hx113_0, hx113_1, hx113_2⟩ := at_T29 HR1.out x5_1 p113 q113
          cases e113
          replace p113 := eq_true p113
          replace q113 := eq_true q113
          have p114 : 0 ≤ (x5_1 : Int) := of_decide_eq_true (by first | (with_reducible assumption) | assumption)
          have q114 : x5_1 < (l0.length : Int) := of_decide_eq_true (by first | (with_reducible assumption) | assumption)
          obtain ⟨ad114, e114, hx114_0, hx114_1, hx114_2⟩ := at_T29 HR0.out x5_1 p114 q114
          obtain rfl : ad112 = ad114 := (by injection e114)
          replace p114 := eq_true p114
          replace q114 := eq_true q114
          have p115 : 0 ≤ (x5_1 : Int) := of_decide_eq_true (by first | (with_reducible assumption) | assumption)
          have q115 : x5_1 < (l1.length : Int) := of_decide_eq_true (by first | (with_reducible assumption) | assumption)
          obtain ⟨ad115, e115, hx115_0, hx115_1, hx115_2⟩ := at_T29 HR1.out x5_1 p115 q115
          obtain rfl : ad113 = ad115 := (by injection e115)
          replace p115 := eq_true p115
          replace q115 := eq_true q115
          have p116 : 0 ≤ (x5_1 : Int) := of_decide_eq_true (by first | (with_reducible assumption) | assumption)
          have q116 : x5_1 < (l0.length : Int) := of_decide_eq_true (by first | (with_reducible assumption) | assumption)
          obtain ⟨ad116, e116, hx116_0, hx116_1, hx116_2⟩ := at_T29 HR0.out x5_1 p116 q116
          obtain rfl : ad112 = ad116 := (by injection e116)
          replace p116 := eq_true p116
          replace q116 := eq_true q116
          have p117 : 0 ≤ (x5_1 : Int) := of_decide_eq_true (by first | (with_reducible assumption) | assumption)
          have q117 : x5_1 < (l1.length : Int) := of_decide_eq_true (by first | (with_reducible assumption) | assumption)
          obtain ⟨ad117, e117, hx117_0, hx117_1, hx117_2⟩ := at_T29 HR1.out x5_1 p117 q117
          obtain rfl : ad113 = ad117 := (by injection e117)
          replace p117 := eq_true p117
          replace q117 := eq_true q117
          go_wp2
          repeat (go_quiet (fail); try go_wp2)
          go_roundg k1
          case measure => have := HK1.out; omega
          case rel => exact ⟨(wrap64 (x5_1 + 1)), (by first | rfl | (simp; done) | (simp [*]; done)), H', ⟨by have := HK1.out; omega⟩, by repeat (first | exact Drawn0.refl _ | apply Drawn0.step)⟩
         ·rw [if_neg c9] at H
          have c9b0 : (((rd_T29 l0 x5_1).f2).toList == ((rd_T29 l1 x5_1).f2).toList) = false := beq_eq_false_iff_ne.mpr c9
          have c9b1 : (((rd_T29 l0 x5_1).f2).toList != ((rd_T29 l1 x5_1).f2).toList) = true := bne_iff_ne.mpr c9
          obtain rfl := Option.some.inj H
          have p112 : 0 ≤ (x5_1 : Int) := of_decide_eq_true (by first | (with_reducible assumption) | assumption)
          have q112 : x5_1 < (l0.length : Int) := of_decide_eq_true (by first | (with_reducible assumption) | assumption)
          obtain ⟨ad112, e112, hx112_0, hx112_1, hx112_2⟩ := at_T29 HR0.out x5_1 p112 q112
          cases e112
          replace p112 := eq_true p112
          replace q112 := eq_true q112
          have p113 : 0 ≤ (x5_1 : Int) := of_decide_eq_true (by first | (with_reducible assumption) | assumption)
          have q113 : x5_1 < (l1.length : Int) := of_decide_eq_true (by first | (with_reducible assumption) | assumption)
          obtain ⟨ad113, e113, hx113_0, hx113_1, hx113_2⟩ := at_T29 HR1.out x5_1 p113 q113
          cases e113
          replace p113 := eq_true p113
          replace q113 := eq_true q113
          have p114 : 0 ≤ (x5_1 : Int) := of_decide_eq_true (by first | (with_reducible assumption) | assumption)
          have q114 : x5_1 < (l0.length : Int) := of_decide_eq_true (by first | (with_reducible assumption) | assumption)
          obtain ⟨ad114, e114, hx114_0, hx114_1, hx114_2⟩ := at_T29 HR0.out x5_1 p114 q114
          obtain rfl : ad112 = ad114 := (by injection e114)
          replace p114 := eq_true p114
          replace q114 := eq_true q114
          have p115 : 0 ≤ (x5_1 : Int) := of_decide_eq_true (by first | (with_reducible assumption) | assumption)
          have q115 : x5_1 < (l1.length : Int) := of_decide_eq_true (by first | (with_reducible assumption) | assumption)
          obtain ⟨ad115, e115, hx115_0, hx115_1, hx115_2⟩ := at_T29 HR1.out x5_1 p115 q115
          obtain rfl : ad113 = ad115 := (by injection e115)
          replace p115 := eq_true p115
          replace q115 := eq_true q115
          have p116 : 0 ≤ (x5_1 : Int) := of_decide_eq_true (by first | (with_reducible assumption) | assumption)
          have q116 : x5_1 < (l0.length : Int) := of_decide_eq_true (by first | (with_reducible assumption) | assumption)
          obtain ⟨ad116, e116, hx116_0, hx116_1, hx116_2⟩ := at_T29 HR0.out x5_1 p116 q116
          obtain rfl : ad112 = ad116 := (by injection e116)
          replace p116 := eq_true p116
          replace q116 := eq_true q116
          have p117 : 0 ≤ (x5_1 : Int) := of_decide_eq_true (by first | (with_reducible assumption) | assumption)
          have q117 : x5_1 < (l1.length : Int) := of_decide_eq_true (by first | (with_reducible assumption) | assumption)
          obtain ⟨ad117, e117, hx117_0, hx117_1, hx117_2⟩ := at_T29 HR1.out x5_1 p117 q117
          obtain rfl : ad113 = ad117 := (by injection e117)
          replace p117 := eq_true p117
          replace q117 := eq_true q117
          go_wp2
          repeat (go_quiet (fail); try go_wp2)
          go_ret
          exact ⟨by first | rfl | (simp; done) | (simp [*]; done), by repeat (first | exact Drawn0.refl _ | apply Drawn0.step)⟩
        ·rw [if_neg c8] at H
         have c8b0 : (((rd_T29 l0 x5_1).f1) == ((rd_T29 l1 x5_1).f1)) = false := beq_eq_false_iff_ne.mpr c8
         have c8b1 : (((rd_T29 l0 x5_1).f1) != ((rd_T29 l1 x5_1).f1)) = true := bne_iff_ne.mpr c8
         obtain rfl := Option.some.inj H
         have p112 : 0 ≤ (x5_1 : Int) := of_decide_eq_true (by first | (with_reducible assumption) | assumption)
         have q112 : x5_1 < (l0.length : Int) := of_decide_eq_true (by first | (with_reducible assumption) | assumption)
         obtain ⟨ad112, e112, hx112_0, hx112_1, hx112_2⟩ := at_T29 HR0.out x5_1 p112 q112
         cases e112
         replace p112 := eq_true p112
         replace q112 := eq_true q112
         have p113 : 0 ≤ (x5_1 : Int) := of_decide_eq_true (by first | (with_reducible assumption) | assumption)
         have q113 : x5_1 < (l1.length : Int) := of_decide_eq_true (by first | (with_reducible assumption) | assumption)
         obtain ⟨ad113, e113, hx113_0, hx113_1, hx113_2⟩ := at_T29 HR1.out x5_1 p113 q113
         cases e113
         replace p113 := eq_true p113
         replace q113 := eq_true q113
         have p114 : 0 ≤ (x5_1 : Int) := of_decide_eq_true (by first | (with_reducible assumption) | assumption)
         have q114 : x5_1 < (l0.length : Int) := of_decide_eq_true (by first | (with_reducible assumption) | assumption)
         obtain ⟨ad114, e114, hx114_0, hx114_1, hx114_2⟩ := at_T29 HR0.out x5_1 p114 q114
         obtain rfl : ad112 = ad114 := (by injection e114)
         replace p114 := eq_true p114
         replace q114 := eq_true q114
         have p115 : 0 ≤ (x5_1 : Int) := of_decide_eq_true (by first | (with_reducible assumption) | assumption)
         have q115 : x5_1 < (l1.length : Int) := of_decide_eq_true (by first | (with_reducible assumption) | assumption)
         obtain ⟨ad115, e115, hx115_0, hx115_1, hx115_2⟩ := at_T29 HR1.out x5_1 p115 q115
         obtain rfl : ad113 = ad115 := (by injection e115)
         replace p115 := eq_true p115
         replace q115 := eq_true q115
         go_wp2
         repeat (go_quiet (fail); try go_wp2)
         go_ret
         exact ⟨by first | rfl | (simp; done) | (simp [*]; done), by repeat (first | exact Drawn0.refl _ | apply Drawn0.step)⟩
       ·rw [if_neg c7] at H
        have c7b0 : (((rd_T29 l0 x5_1).f0) == ((rd_T29 l1 x5_1).f0)) = false := beq_eq_false_iff_ne.mpr c7
        have c7b1 : (((rd_T29 l0 x5_1).f0) != ((rd_T29 l1 x5_1).f0)) = true := bne_iff_ne.mpr c7
        obtain rfl := Option.some.inj H
        have p112 : 0 ≤ (x5_1 : Int) := of_decide_eq_true (by first | (with_reducible assumption) | assumption)
        have q112 : x5_1 < (l0.length : Int) := of_decide_eq_true (by first | (with_reducible assumption) | assumption)
        obtain ⟨ad112, e112, hx112_0, hx112_1, hx112_2⟩ := at_T29 HR0.out x5_1 p112 q112
        cases e112
        replace p112 := eq_true p112
        replace q112 := eq_true q112
        have p113 : 0 ≤ (x5_1 : Int) := of_decide_eq_true (by first | (with_reducible assumption) | assumption)
        have q113 : x5_1 < (l1.length : Int) := of_decide_eq_true (by first | (with_reducible assumption) | assumption)
        obtain ⟨ad113, e113, hx113_0, hx113_1, hx113_2⟩ := at_T29 HR1.out x5_1 p113 q113
        cases e113
        replace p113 := eq_true p113
        replace q113 := eq_true q113
        go_wp2
        repeat (go_quiet (fail); try go_wp2)
        go_ret
        exact ⟨by first | rfl | (simp; done) | (simp [*]; done), by repeat (first | exact Drawn0.refl _ | apply Drawn0.step)⟩
      ·rw [if_neg c6] at H
       exact absurd H (by simp)
     ·rw [if_neg c5] at H
      exact absurd H (by simp)
    ·rw [if_neg c4] at H
     have c4b0 : decide (x5_1 < (l0.length : Int)) = false := decide_eq_false c4
     clear c4
     obtain rfl := Option.some.inj H
     go_wp2
     repeat (go_quiet (fail); try go_wp2)
     go_ret
     exact ⟨by first | rfl | (simp; done) | (simp [*]; done), by repeat (first | exact Drawn0.refl _ | apply Drawn0.step)⟩
 ·rw [if_neg c3] at H
  have c3b0 : ((l0.length : Int) == (l1.length : Int)) = false := beq_eq_false_iff_ne.mpr c3
  have c3b1 : ((l0.length : Int) != (l1.length : Int)) = true := bne_iff_ne.mpr c3
  have c3b2 : (l0.length == l1.length) = false := by first | simpa using c3 | (simp at c3 ⊢; omega)
  obtain rfl := Option.some.inj H
  go_enter Try.func12, Try.ntmps12
  go_wp2
  repeat (go_quiet (fail); try go_wp2)
  go_ret
  exact ⟨by first | rfl | (simp; done) | (simp [*]; done), by repeat (first | exact Drawn0.refl _ | apply Drawn0.step)⟩

/-! ### recensionlaw9_MergeQueue: function 3 -/
theorem cut_one (x : S29) : ∃ e, recensionlaw8_Cut.f 3 [x] = some [e] := by
 have h3 : ∃ t, recensionlaw3_Cut.f x.f2 10 = some t := by
  unfold recensionlaw3_Cut.f
  by_cases h : (x.f2.size : Int) > 10
  ·rw [if_pos h, if_pos (by omega), if_pos (by omega)]
   exact ⟨_, rfl⟩
  ·rw [if_neg h]
   exact ⟨_, rfl⟩
 obtain ⟨t, ht⟩ := h3
 refine ⟨⟨x.f0, x.f1, t⟩, ?_⟩
 have hx : rd_T29 [x] 0 = x := rfl
 unfold recensionlaw8_Cut.f
 simp [recensionlaw8_Cut.l0, hx, ht, wrap64]
theorem eq_one (x : S29) : recensionlaw9_eq.f 2 [x] [x] = some true := by
 unfold recensionlaw9_eq.f
 simp [recensionlaw9_eq.l0, wrap64]
theorem eq_ones (A0 : Option Addr) (c0 : Nat) (A1 : Option Addr) (c1 : Nat) (x : S29) (w : World) (hr0 : Kd.C k29 w A0 [x].length [x]) (hc0 : [x].length ≤ c0) (hr1 : Kd.C k29 w A1 [x].length [x]) (hc1 : [x].length ≤ c1) :
  Calls Try.prog 12 #[.slice A0 1 c0, .slice A1 1 c1] w fun e w' => e = .returned (.bool true) ∧ Drawn0 w w' :=
 recensionlaw9_eq.calls 2 A0 c0 [x] A1 c1 [x] true w hr0 hc0 hr1 hc1 (eq_one x)
/-- The queue holds qs as a heap, the law's own row v the same edits in order. -/
def QW (P : Nat → Prop) (base : Nat) (W : World) (gq : Nat) (qs : List S29) (v : Value) (ws : List S29) : Prop :=
 Qu P base W gq qs ∧ Kd.Q k29 29 W base (fun k => ¬ P k) v ws ∧ HP qs qs.length ∧ sortF qs = ws
theorem QW.bound {P : Nat → Prop} {base gq : Nat} {W : World} {qs ws : List S29} {v : Value} (h : QW P base W gq qs v ws) : QW (fun k => P k ∧ k < W.heap.size) base W gq qs v ws :=
 ⟨h.1.bound, Kd.Q_mono h.2.1 (fun _ hk h => hk h.1), h.2.2⟩
theorem QW.below {P : Nat → Prop} {base gq : Nat} {W W2 : World} {qs ws : List S29} {v : Value} (h : QW P base W gq qs v ws) (hb : Below W.heap.size W W2) : QW P base W2 gq qs v ws :=
 ⟨h.1.below hb, Kd.Q_below h.2.1 hb, h.2.2⟩
set_option maxHeartbeats 4000000 in
set_option maxRecDepth 100000 in
theorem queue_walk (A0 : Option Addr) (c0 : Nat) (l0 : List S29) (A1 : Option Addr) (c1 : Nat) (l1 : List Bool) (w : World) (hr0 : Kd.C k29 w A0 l0.length l0) (hc0 : l0.length ≤ c0) (hr1 : Kd.C Kd.bool w A1 l1.length l1) :
  Calls Try.prog 3 #[.slice A0 l0.length c0, .slice A1 l1.length c1] w fun e w' => e = .returned (.bool true) ∧ Below w.heap.size w w' := by
 have HR0 := Aside0.mk hr0
 have HC0 := Aside0.mk hc0
 have HR1 := Aside0.mk hr1
 clear hr0 hc0 hr1
 go_enter Try.func3, Try.ntmps3
 go_wp2_with fail
 refine (begun_c _).mono ?_
 rintro e w1 ⟨rfl, hb⟩
 have HQ0 := Aside0.mk (show Qu (fun k => k = w1.heap.size) w.heap.size (w1.alloc (.cells #[.slice none 0 0] 27)) w1.heap.size [] from ⟨hb.size, rfl, _, heap_alloc_new w1 _, Kd.R_nil _ _ _ _ _⟩)
 have HB0 := Aside0.mk (hb.alloc hb.size (.cells #[.slice none 0 0] 27))
 clear hb
 go_upto_block 0 with fail
 obtain ⟨gq, hgq⟩ : ∃ gq, w1.heap.size = gq := ⟨_, rfl⟩
 replace HQ0 := Aside0.mk (show QW (fun k => k = gq) w.heap.size (w1.alloc (.cells #[.slice none 0 0] 27)) gq [] (.slice none 0 0) [] from ⟨by rw [← hgq]; exact HQ0.out, Kd.Q_nil _ _ _ _ _, fun k _ hk => absurd hk (Nat.not_lt_zero _), rfl⟩)
 rw [hgq]
 clear hgq
 go_cut [7, 8, 9, 10, 11] from 19 to 74 (fun v _ _ _ _ wc => ∃ (P : Nat → Prop) (qs ws : List S29), qs.length ≤ 40 ∧ Aside0 (QW P w.heap.size wc gq qs v ws) ∧ Aside0 (Below w.heap.size w wc))
 case first =>
  go_wp2_with fail
  go_loopw [7, 8] (fun v iv wr => ∃ (i : Int) (P : Nat → Prop) (qs ws : List S29), iv = .int .i64 i ∧ 0 ≤ i ∧ i ≤ 40 ∧ qs.length ≤ i ∧ Aside0 (QW P w.heap.size wr gq qs v ws) ∧ Aside0 (Below w.heap.size w wr)) (fun _ iv _ => 40 - (intOf iv).toNat)
  case atStart => exact ⟨0, _, [], [], rfl, by omega, by omega, by simp, HQ0, HB0⟩
  case round =>
  clear HQ0 HB0
  obtain ⟨i, P, qs, ws, rfl, i0, i40, hql, HW, HB⟩ := hrel
  by_cases hlt : i < (l0.length : Int)
  ·have b1 : decide (i < (l0.length : Int)) = true := decide_eq_true hlt
   by_cases h40 : i < 40
   ·have b2 : decide (i < 40) = true := decide_eq_true h40
    have HW1 := Aside0.mk HW.out.bound
    have HWS := Aside0.mk (show ws.length = qs.length from by rw [← HW.out.2.2.2, sortF_len])
    have e1 : IntKind.i64.wrap (i + 1) = i + 1 := IntWalk.i64_in _ (by omega)
    obtain ⟨_, hi0, _, hsz, _⟩ := info_parts info29
    have hcut9 := cut_mid (P := Try.prog) 22 29 .i64 .i64 Try.underlying22 hi0 3 hsz A0 l0.length c0 i (i + 1) i0 (by omega) (by omega) HC0.out
    have hr9 := Kd.C_mid (lo := i.toNat) (hi := (i + 1).toNat) (c := c0) (Kd.C_below HR0.out HB.out) (by omega) (by omega) HC0.out
    rw [show (i + 1).toNat - i.toNat = 1 by omega] at hcut9
    obtain ⟨a, ha⟩ : ∃ a, (l0.take (i + 1).toNat).drop i.toNat = [a] := ⟨l0[i.toNat]'(by omega), by rw [show (i + 1).toNat = i.toNat + 1 by omega, List.drop_take, List.drop_eq_getElem_cons (by omega), show i.toNat + 1 - i.toNat = 1 by omega]; rfl⟩
    rw [ha] at hr9
    obtain ⟨A9, hA9⟩ : ∃ A9, (if c0 = i.toNat then A0 else A0.map (·.add (i.toNat * 3))) = A9 := ⟨_, rfl⟩
    rw [hA9] at hcut9
    have HR9 := Aside0.mk (show Kd.C k29 wr A9 [a].length [a] from by rw [← hA9]; exact hr9)
    have HC9 := Aside0.mk (show [a].length ≤ c0 - i.toNat from by have := HC0.out; show 1 ≤ c0 - i.toNat; omega)
    obtain ⟨x, hx⟩ := cut_one a
    have HX := Aside0.mk hx
    have HI := Aside0.mk (And.intro i0 (And.intro hlt h40))
    clear hr9 ha hA9 hi0 hsz hx hlt h40 i0
    go_wp2_with (first | (go_at_call 8; refine (recensionlaw8_Cut.calls 3 A9 (c0 - i.toNat) [a] [x] _ HR9.out HC9.out HX.out).mono ?_; rintro e w2 ⟨v2, rfl, ho, hb⟩; obtain ⟨g2, c2, rfl, _, _, _, _⟩ := Kd.R_form ho (by simp); obtain ⟨x0, x1, x2, _, _, _⟩ := row_E ho 0 (by omega) (by simp); replace x0 : w2.cell? ⟨g2, 0, none⟩ = some (.int .i64 x.f0) := x0; replace x1 : w2.cell? ⟨g2, 1, none⟩ = some (.int .i64 x.f1) := x1; replace x2 : w2.cell? ⟨g2, 2, none⟩ = some (.string x.f2) := x2; have HB2 := Aside0.mk (below_step HB.out hb); have HW2 := Aside0.mk (HW1.out.below hb); have HS2 := Aside0.mk hb.size; clear ho hb) | ((with_reducible refine gate_dst (N := 9) rfl ?_); (try (refine gate_guard (by rfl) ?_; dsimp only)); refine box_event ?hg (N := 9) ?hd (cs := #[.int .i64 0, .int .i64 0, .string ⟨#[]⟩]) (t := 29) ?hr ?_; (case hd => rfl); (case hg => rfl); (case hr => first | (go_simp; done) | (go_simp; rfl)); intro gb hgb w12 hbox hb12; have HBL := Aside0.mk hb12; have BX := Aside0.mk hbox; have GE := Aside0.mk (show w2.heap.size ≤ gb from by rw [hgb]; exact Nat.le_refl _); clear hb12 hbox hgb; have z0 : w12.cell? ⟨gb, 0, none⟩ = some (.int .i64 0) := (blk_cell BX.out 0).trans rfl; have z1 : w12.cell? ⟨gb, 1, none⟩ = some (.int .i64 0) := (blk_cell BX.out 1).trans rfl; have z2 : w12.cell? ⟨gb, 2, none⟩ = some (.string ⟨#[]⟩) := (blk_cell BX.out 2).trans rfl; have f0 := blk_frozen BX.out 0; have f1 := blk_frozen BX.out 1; have f2 := blk_frozen BX.out 2) | ((with_reducible refine gate_store (t := 29) (p := 9) rfl ?_); refine store_event (t := 29) (p := 9) (v := ?vo__9) (w1 := (((w12.setCell ⟨gb, 0, none⟩ (.int .i64 x.f0)).setCell ⟨gb, 1, none⟩ (.int .i64 x.f1)).setCell ⟨gb, 2, none⟩ (.string x.f2))) ?hg ?ho ?hn ?hr ?_; (case ho => rfl); (case hg => rfl); (case hn => rfl); (case hr => first | (go_simp; done) | (go_simp; rfl)); intro w14 hw; have BX2 := Aside0.mk (show w14.heap[gb]? = some (.cells #[.int .i64 x.f0, .int .i64 x.f1, .string x.f2] 29 (0, 0)) from by rw [hw]; exact blk_put (cs := #[.int .i64 x.f0, .int .i64 x.f1, .string ⟨#[]⟩]) (blk_put (cs := #[.int .i64 x.f0, .int .i64 0, .string ⟨#[]⟩]) (blk_put BX.out 0 (.int .i64 x.f0) rfl) 1 (.int .i64 x.f1) rfl) 2 (.string x.f2) rfl); have HBL2 := Aside0.mk (show Below w2.heap.size w2 w14 from by rw [hw]; exact below_set3 HBL.out GE.out 0 1 2 _ _ _); clear hw z0 z1 z2 f0 f1 f2 BX HBL; have y0 : w14.cell? ⟨gb, 0, none⟩ = some (.int .i64 x.f0) := (blk_cell BX2.out 0).trans rfl; have y1 : w14.cell? ⟨gb, 1, none⟩ = some (.int .i64 x.f1) := (blk_cell BX2.out 1).trans rfl; have y2 : w14.cell? ⟨gb, 2, none⟩ = some (.string x.f2) := (blk_cell BX2.out 2).trans rfl; clear x0 x1 x2))
    refine (add_c _ w.heap.size gq qs x _ (HW2.out.1.below HBL2.out) (Nat.le_trans HB2.out.size HBL2.out.size) (by omega)).mono ?_
    rintro e w3 ⟨rfl, hq3, hb3, hk3⟩
    have B3 := Aside0.mk (blk_kept BX2.out hk3 (fun h => by have h1 := GE.out; have h2 := HS2.out; have := h.2; omega))
    have HQ3 := Aside0.mk (hq3.below (below_drew1 (Below.refl w3.heap.size w3)))
    have HB3 := Aside0.mk (below_drew1 ((HB2.out.trans (HBL2.out.mono HB2.out.size)).trans hb3))
    obtain ⟨Aw, cw, rfl, _⟩ := Kd.Q_slice HW2.out.2.1
    have HCW := Aside0.mk (Kd.C_drew (Kd.Q_reads' (Kd.Q_kept (Kd.Q_below HW2.out.2.1 HBL2.out) hk3 (fun k h1 h2 => h1 h2))).2.2)
    have y0 : w3.drew.cell? ⟨gb, 0, none⟩ = some (.int .i64 x.f0) := (blk_cell B3.out 0).trans rfl
    have y1 : w3.drew.cell? ⟨gb, 1, none⟩ = some (.int .i64 x.f1) := (blk_cell B3.out 1).trans rfl
    have y2 : w3.drew.cell? ⟨gb, 2, none⟩ = some (.string x.f2) := (blk_cell B3.out 2).trans rfl
    have hwl : ws.length ≤ 40 := by have := HWS.out; omega
    clear hq3 hb3 hk3 HBL2 BX2 GE
    go_wp2_with fail
    refine start_ (n := 7) (S := fun w' => w'.cell? ⟨gb, 0, none⟩ = some (.int .i64 x.f0) ∧ w'.cell? ⟨gb, 1, none⟩ = some (.int .i64 x.f1) ∧ w'.cell? ⟨gb, 2, none⟩ = some (.string x.f2)) (ds := []) #[false, false, false, false, false, false, false] (by kernel_rfl) rfl rfl ⟨y0, y1, y2⟩ (fun hHeld => ?_)
    generalize w3.drew = W0 at y0 y1 y2 HCW HQ3 HB3 hHeld ⊢
    refine pure_ (i := 0) (N := some 39) (v := ?_) (a' := ?_) #[true, false, false, false, false, false, false] rfl rfl (by kernel_rfl) (fun _ _ _ h => h) (Or.inl ⟨by rfl, ?_⟩) ?_ ?_
    rotate_left
    ·intro w'
     go_simp
     with_reducible rfl
    rotate_left
    ·simp only [Act.put, List.setIfInBounds_toArray, List.set_cons_zero, List.set_cons_succ, i64_w, i32_w]
     rfl
    refine take_ (i := 2) (N := some 41) (v := ?_) (a' := ?_) #[true, false, true, false, false, false, false] rfl rfl (by kernel_rfl) (fun _ _ _ h => h) (Or.inl ⟨by rfl, ?_⟩) hHeld ?_ ?_
    rotate_left
    ·rintro w' ⟨s0, s1, s2⟩
     go_simp
     with_reducible rfl
    rotate_left
    ·simp only [Act.put, List.setIfInBounds_toArray, List.set_cons_zero, List.set_cons_succ, i64_w, i32_w]
     rfl
    refine join_ (σ := Value × Value) 3 #[true, true, true, true, false, false, false] (fun s => [(40, s.1), (42, s.2)]) (fun s w' => Kd.R k29 29 w' W0.heap.size (fun _ => True) s.1 ws ∧ Kd.R k29 29 w' W0.heap.size (fun _ => True) s.2 [x] ∧ Below W0.heap.size W0 w' ∧ (w'.cell? ⟨gb, 0, none⟩ = some (.int .i64 x.f0) ∧ w'.cell? ⟨gb, 1, none⟩ = some (.int .i64 x.f1) ∧ w'.cell? ⟨gb, 2, none⟩ = some (.string x.f2))) ?_ ?_
    rotate_left
    ·intro hCont
     refine two_ (i := 1) (j := 3) (Ni := some 40) (Nj := some 42) #[true, true, true, false, false, false, false] #[true, false, true, true, false, false, false] rfl rfl rfl rfl (by kernel_rfl) (by decide) (by decide) (fun K hK => ?_) (fun K hK => ?_)
     ·skip
      refine Kd.R_append_rows_step k29 (w0 := W0) W0.heap.size (by rfl) (.const (.slice none 0 0)) (.tmp 39) 22 29 (.agg #[.int .i64 0, .int .i64 0, .string ⟨#[]⟩]) 32 rfl Try.underlying22 infoE rfl (by decide) (by decide) (.slice none 0 0) [] ws Aw ws.length cw (fun _ => True) (fun _ => False) rfl rfl (Kd.R_nil _ _ _ _ _) HCW.out (fun x cs h => k29_KM h) (fun _ h => h.elim) (fun _ _ => trivial) (Below.refl _ _) (Nat.le_refl _) (by simp; omega) ?_
      intro v40 w40 ho40 hb40 hg40 _
      rw [List.nil_append] at ho40
      refine hK.out _ _ ⟨(hb40.cell (World.block_lt_of_cell? _ _ y0)).trans y0, (hb40.cell (World.block_lt_of_cell? _ _ y1)).trans y1, (hb40.cell (World.block_lt_of_cell? _ _ y2)).trans y2⟩ (fun hHeld => ?_)
      clear hK K
      refine norm_ (a' := ?_) ?_ ?_
      rotate_left
      ·show Act.put _ (some 40) _ = _
       simp only [Act.put, List.setIfInBounds_toArray, List.set_cons_zero, List.set_cons_succ, i64_w, i32_w]
       rfl
      refine one_ (i := 3) (N := some 42) #[true, true, true, true, false, false, false] rfl rfl (by kernel_rfl) (by decide) (fun K hK => ?_)
      refine Kd.R_lit_step k29 (w0 := W0) W0.heap.size 29 (by rfl) (N := 42) rfl (xs := [x]) (inner := [.int .i64 x.f0, .int .i64 x.f1, .string x.f2]) (ok := fun _ => True) (okp := fun _ => True) ?hr (Reps.c3 (k29_mkM _ _ _ x) (Reps.none _ _)) (fun _ h => h) trivial hb40 hb40.size (by simp) ?_
      case hr => first | (go_simp; done) | (go_simp; rfl)
      intro v42 w42 ho42 hb42 hg42 _
      replace ho40 := Kd.R_below ho40 (Below.grown (Below.refl _ _) hg42 (Nat.le_refl _) (fun _ hk => nomatch hk))
      refine hK.out _ _ ⟨(hb42.cell (World.block_lt_of_cell? _ _ y0)).trans y0, (hb42.cell (World.block_lt_of_cell? _ _ y1)).trans y1, (hb42.cell (World.block_lt_of_cell? _ _ y2)).trans y2⟩ (fun hHeld => ?_)
      clear hK K
      refine norm_ (a' := ?_) ?_ ?_
      rotate_left
      ·show Act.put _ (some 42) _ = _
       simp only [Act.put, List.setIfInBounds_toArray, List.set_cons_zero, List.set_cons_succ, i64_w, i32_w]
       rfl
      exact norm_ (by simp only [putAll, Act.put, List.setIfInBounds_toArray, List.set_cons_zero, List.set_cons_succ]) (hCont (v40, v42) _ ⟨ho40, ho42, hb42, ⟨(hb42.cell (World.block_lt_of_cell? _ _ y0)).trans y0, (hb42.cell (World.block_lt_of_cell? _ _ y1)).trans y1, (hb42.cell (World.block_lt_of_cell? _ _ y2)).trans y2⟩⟩)
     ·skip
      refine Kd.R_lit_step k29 (w0 := W0) W0.heap.size 29 (by rfl) (N := 42) rfl (xs := [x]) (inner := [.int .i64 x.f0, .int .i64 x.f1, .string x.f2]) (ok := fun _ => True) (okp := fun _ => True) ?hr (Reps.c3 (k29_mkM _ _ _ x) (Reps.none _ _)) (fun _ h => h) trivial (Below.refl _ _) (Nat.le_refl _) (by simp) ?_
      case hr => first | (go_simp; done) | (go_simp; rfl)
      intro v42 w42 ho42 hb42 hg42 _
      refine hK.out _ _ ⟨(hb42.cell (World.block_lt_of_cell? _ _ y0)).trans y0, (hb42.cell (World.block_lt_of_cell? _ _ y1)).trans y1, (hb42.cell (World.block_lt_of_cell? _ _ y2)).trans y2⟩ (fun hHeld => ?_)
      clear hK K
      refine norm_ (a' := ?_) ?_ ?_
      rotate_left
      ·show Act.put _ (some 42) _ = _
       simp only [Act.put, List.setIfInBounds_toArray, List.set_cons_zero, List.set_cons_succ, i64_w, i32_w]
       rfl
      refine one_ (i := 1) (N := some 40) #[true, true, true, true, false, false, false] rfl rfl (by kernel_rfl) (by decide) (fun K hK => ?_)
      refine Kd.R_append_rows_step k29 (w0 := W0) W0.heap.size (by rfl) (.const (.slice none 0 0)) (.tmp 39) 22 29 (.agg #[.int .i64 0, .int .i64 0, .string ⟨#[]⟩]) 32 rfl Try.underlying22 infoE rfl (by decide) (by decide) (.slice none 0 0) [] ws Aw ws.length cw (fun _ => True) (fun _ => False) rfl rfl (Kd.R_nil _ _ _ _ _) (Kd.C_below HCW.out hb42) (fun x cs h => k29_KM h) (fun _ h => h.elim) (fun _ _ => trivial) hb42 hb42.size (by simp; omega) ?_
      intro v40 w40 ho40 hb40 hg40 _
      rw [List.nil_append] at ho40
      replace ho42 := Kd.R_below ho42 (Below.grown (Below.refl _ _) hg40 (Nat.le_refl _) (fun _ hk => nomatch hk))
      refine hK.out _ _ ⟨(hb40.cell (World.block_lt_of_cell? _ _ y0)).trans y0, (hb40.cell (World.block_lt_of_cell? _ _ y1)).trans y1, (hb40.cell (World.block_lt_of_cell? _ _ y2)).trans y2⟩ (fun hHeld => ?_)
      clear hK K
      refine norm_ (a' := ?_) ?_ ?_
      rotate_left
      ·show Act.put _ (some 40) _ = _
       simp only [Act.put, List.setIfInBounds_toArray, List.set_cons_zero, List.set_cons_succ, i64_w, i32_w]
       rfl
      exact norm_ (by simp only [putAll, Act.put, List.setIfInBounds_toArray, List.set_cons_zero, List.set_cons_succ]) (hCont (v40, v42) _ ⟨ho40, ho42, hb40, ⟨(hb40.cell (World.block_lt_of_cell? _ _ y0)).trans y0, (hb40.cell (World.block_lt_of_cell? _ _ y1)).trans y1, (hb40.cell (World.block_lt_of_cell? _ _ y2)).trans y2⟩⟩)
    rintro ⟨v40, v42⟩ w5 ⟨ho40, ho42, hb5, hHeld⟩
    obtain ⟨A40, c40, rfl⟩ := Kd.R_slice ho40
    obtain ⟨A42, c42, rfl⟩ := Kd.R_slice ho42
    refine norm_ (a' := ?_) ?_ ?_
    rotate_left
    ·simp only [putAll, Act.put, List.setIfInBounds_toArray, List.set_cons_zero, List.set_cons_succ]
     rfl
    refine one_ (i := 4) (N := some 43) #[true, true, true, true, true, false, false] rfl rfl (by kernel_rfl) (by decide) (fun K hK => ?_)
    refine Kd.R_append_rows_step k29 (w0 := W0) W0.heap.size (by rfl) (.tmp 40) (.tmp 42) 22 29 (.agg #[.int .i64 0, .int .i64 0, .string ⟨#[]⟩]) 32 rfl Try.underlying22 infoE rfl (by decide) (by decide) (.slice A40 ws.length c40) ws [x] A42 1 c42 (fun _ => True) (fun _ => False) rfl rfl ho40 (Kd.R_reads' ho42).2.2 (fun x cs h => k29_KM h) (fun _ h => h.elim) (fun _ _ => trivial) hb5 hb5.size (by omega) ?_
    intro v43 w43 ho43 hb43 hg43 _
    obtain ⟨zs, hzs⟩ : ∃ zs, ws ++ [x] = zs := ⟨_, rfl⟩
    rw [hzs] at ho43
    obtain ⟨A43, c43, rfl⟩ := Kd.R_slice ho43
    refine hK.out _ _ ⟨(hb43.cell (World.block_lt_of_cell? _ _ y0)).trans y0, (hb43.cell (World.block_lt_of_cell? _ _ y1)).trans y1, (hb43.cell (World.block_lt_of_cell? _ _ y2)).trans y2⟩ (fun hHeld => ?_)
    clear hK K
    refine norm_ (a' := ?_) ?_ ?_
    rotate_left
    ·show Act.put _ (some 43) _ = _
     simp only [Act.put, List.setIfInBounds_toArray, List.set_cons_zero, List.set_cons_succ, i64_w, i32_w]
     rfl
    refine one_ (i := 5) (N := some 44) #[true, true, true, true, true, true, false] rfl rfl (by kernel_rfl) (by decide) (fun K hK => ?_)
    refine goes_ Try.func10 (by kernel_rfl) rfl #[.slice A43 zs.length c43] (by rfl) rfl rfl (by simp only [List.map_toArray, List.map_cons, List.map_nil]; rfl) ?_
    with_reducible refine (sorted_c A43 c43 zs _ (Kd.R_reads' ho43).2.2 (Kd.R_reads' ho43).2.1 (by rw [← hzs]; simp; omega)).mono ?_
    rintro e w6 ⟨v6, rfl, ho6, hb6⟩
    have HO6 := Aside0.mk ho6
    have HB6 := Aside0.mk (below_step hb43 hb6)
    have HS6 := Aside0.mk hb43.size
    have HZS := Aside0.mk hzs
    refine ⟨_, rfl, ?_⟩
    refine hK.out _ _ ⟨((below_step hb43 hb6).cell (World.block_lt_of_cell? _ _ y0)).trans y0, ((below_step hb43 hb6).cell (World.block_lt_of_cell? _ _ y1)).trans y1, ((below_step hb43 hb6).cell (World.block_lt_of_cell? _ _ y2)).trans y2⟩ (fun hHeld => ?_)
    clear hK K
    refine norm_ (a' := ?_) ?_ ?_
    rotate_left
    ·show Act.put _ (some 44) _ = _
     simp only [Act.put, List.setIfInBounds_toArray, List.set_cons_zero, List.set_cons_succ, i64_w, i32_w]
     rfl
    refine pure_ (i := 6) (N := some 7) (v := ?_) (a' := ?_) #[true, true, true, true, true, true, true] rfl rfl (by kernel_rfl) (fun _ _ _ h => h) (Or.inl ⟨by rfl, ?_⟩) ?_ ?_
    rotate_left
    ·intro w'
     go_simp
     with_reducible rfl
    rotate_left
    ·simp only [Act.put, List.setIfInBounds_toArray, List.set_cons_zero, List.set_cons_succ, i64_w, i32_w]
     rfl
    refine done_ (by kernel_rfl) ?_
    obtain ⟨qs', hqs⟩ : ∃ qs', pushF qs x = qs' := ⟨_, rfl⟩
    have hql6 : qs'.length = qs.length + 1 := by rw [← hqs]; exact pushF_len qs x
    obtain ⟨P6, HW6⟩ : ∃ P6, Aside0 (QW P6 w.heap.size w6 gq qs' v6 (sortF zs)) := by
     refine ⟨_, ⟨(hqs ▸ HQ3.out).bound.below HB6.out, Kd.Q_of_R (Kd.R_lower (Kd.R_mono (Kd.R_bound HO6.out) (fun k hk h2 => ?_)) (Nat.le_trans HB3.out.size HS6.out)), ?_, ?_⟩⟩
     ·have h3 := hk.2.1
      have h4 := HS6.out
      have := h2.2
      omega
     ·rw [← hqs]
      exact push_heap HW1.out.2.2.1 x
     ·rw [← hqs, sort_push, HW1.out.2.2.2, HZS.out]
    obtain ⟨vs, hvs⟩ : ∃ vs, sortF zs = vs := ⟨_, rfl⟩
    rw [hvs] at HW6
    have HB7 := Aside0.mk (HB3.out.trans (HB6.out.mono HB3.out.size))
    have hvl : vs.length = qs'.length := by rw [← HW6.out.2.2.2, sortF_len]
    obtain ⟨A6, c6, rfl, hc6⟩ := Kd.Q_slice HW6.out.2.1
    rw [hvl] at HW6 hc6 ⊢
    have HQL := Aside0.mk hql6
    have HQ40 := Aside0.mk hql
    clear hvs hqs hvl hql hql6 HO6 HB6 HS6 HZS HQ3 HB3 HW HW1 HW2 HB2 HB y0 y1 y2 hHeld HCW HWS B3 hwl HS2 HR9 HC9 HX hcut9
    have p1 := eq_true HI.out.1
    by_cases hn : i < (l1.length : Int)
    ·have b3 : decide (i < (l1.length : Int)) = true := decide_eq_true hn
     obtain ⟨adn, rfl, hx1⟩ := Kd.at_bool (Kd.C_below HR1.out HB7.out) i HI.out.1 hn
     have p2 := eq_true hn
     clear hn
     cases hbn : rdOf false l1 i
     ·rw [hbn] at hx1
      go_wp2_with fail
      refine (len_c P6 w.heap.size gq qs' _ HW6.out.1).mono ?_
      rintro e w7 ⟨rfl, rfl⟩
      go_wp2_with fail
      go_roundw
      case rel => exact ⟨i + 1, P6, qs', vs, rfl, by have := HI.out.1; omega, by have := HI.out.2.2; omega, by have := HQL.out; have := HQ40.out; omega, HW6, HB7⟩
      case measure => have := HI.out; simp [intOf]; omega
     ·rw [hbn] at hx1
      have hp : 0 < qs'.length := by have := HQL.out; omega
      have hsp := popZ_split hp
      have hph := (pop_heap HW6.out.2.2.1 hp).1
      have hso := sort_pop HW6.out.2.2.1 hp
      rw [HW6.out.2.2.2] at hso
      obtain ⟨z, hz⟩ : ∃ z, rd_T29 (popZ qs') ((qs'.length : Int) - 1) = z := ⟨_, rfl⟩
      obtain ⟨ys, hys⟩ : ∃ ys, (popZ qs').dropLast = ys := ⟨_, rfl⟩
      obtain ⟨us, hus⟩ : ∃ us, sortF ys = us := ⟨_, rfl⟩
      have hyl : qs'.length = ys.length + 1 := by rw [← hys, List.length_dropLast, popZ_len]; omega
      rw [hz, hys] at hsp hso
      rw [hys] at hph
      rw [hus] at hso
      have HSP := Aside0.mk hsp
      have HPH := Aside0.mk hph
      have HSO := Aside0.mk hso
      have HUS := Aside0.mk hus
      obtain ⟨ad6, rfl, _⟩ := (Kd.Q_reads' HW6.out.2.1).2.2.2.2 (by rw [hso]; simp)
      have HC6 := Aside0.mk (show [z].length ≤ c6 from by show 1 ≤ c6; omega)
      have HYL := Aside0.mk hyl
      rw [hyl] at HW6 ⊢
      have r1 := eq_true (show 1 ≤ c6 by omega)
      have r2 := eq_true (show (1 : Int) ≤ (c6 : Int) by omega)
      clear hz hys hsp hph hso hus hp hyl hc6
      go_wp2_with fail
      refine (next_yes P6 w.heap.size gq qs' ys z _ HW6.out.1 HB7.out.size (by have := HQ40.out; have := HQL.out; omega) (by have := HYL.out; omega) HSP.out).mono ?_
      rintro e w8 ⟨rfl, hq, hb, hk⟩
      have HQ8 := Aside0.mk hq
      have HV8 := Aside0.mk (Kd.Q_kept HW6.out.2.1 hk (fun k h1 h2 => h1 h2))
      have HB8 := Aside0.mk (HB7.out.trans hb)
      clear hq hb hk HW6 HB7 HSP
      go_wp2_with (first | ((with_reducible refine gate_dst (N := 10) rfl ?_); (try (refine gate_guard (by rfl) ?_; dsimp only)); refine box_event ?hg (N := 10) ?hd (cs := #[.int .i64 0, .int .i64 0, .string ⟨#[]⟩]) (t := 29) ?hr ?_; (case hd => rfl); (case hg => rfl); (case hr => first | (go_simp; done) | (go_simp; rfl)); intro gbz hgb w12z hbox hb12; have HBLz := Aside0.mk hb12; have BXz := Aside0.mk hbox; have GEz := Aside0.mk (show w8.heap.size ≤ gbz from by rw [hgb]; exact Nat.le_refl _); clear hb12 hbox hgb; have z0 : w12z.cell? ⟨gbz, 0, none⟩ = some (.int .i64 0) := (blk_cell BXz.out 0).trans rfl; have z1 : w12z.cell? ⟨gbz, 1, none⟩ = some (.int .i64 0) := (blk_cell BXz.out 1).trans rfl; have z2 : w12z.cell? ⟨gbz, 2, none⟩ = some (.string ⟨#[]⟩) := (blk_cell BXz.out 2).trans rfl; have f0 := blk_frozen BXz.out 0; have f1 := blk_frozen BXz.out 1; have f2 := blk_frozen BXz.out 2) | ((with_reducible refine gate_store (t := 29) (p := 10) rfl ?_); refine store_event (t := 29) (p := 10) (v := ?vo_z_10) (w1 := (((w12z.setCell ⟨gbz, 0, none⟩ (.int .i64 z.f0)).setCell ⟨gbz, 1, none⟩ (.int .i64 z.f1)).setCell ⟨gbz, 2, none⟩ (.string z.f2))) ?hg ?ho ?hn ?hr ?_; (case ho => rfl); (case hg => rfl); (case hn => rfl); (case hr => first | (go_simp; done) | (go_simp; rfl)); intro w14z hw; have BX2z := Aside0.mk (show w14z.heap[gbz]? = some (.cells #[.int .i64 z.f0, .int .i64 z.f1, .string z.f2] 29 (0, 0)) from by rw [hw]; exact blk_put (cs := #[.int .i64 z.f0, .int .i64 z.f1, .string ⟨#[]⟩]) (blk_put (cs := #[.int .i64 z.f0, .int .i64 0, .string ⟨#[]⟩]) (blk_put BXz.out 0 (.int .i64 z.f0) rfl) 1 (.int .i64 z.f1) rfl) 2 (.string z.f2) rfl); have HBL2z := Aside0.mk (show Below w8.heap.size w8 w14z from by rw [hw]; exact below_set3 HBLz.out GEz.out 0 1 2 _ _ _); clear hw z0 z1 z2 f0 f1 f2 BXz HBLz; skip))
      have y0 : w14z.drew.cell? ⟨gbz, 0, none⟩ = some (.int .i64 z.f0) := (blk_cell BX2z.out 0).trans rfl
      have y1 : w14z.drew.cell? ⟨gbz, 1, none⟩ = some (.int .i64 z.f1) := (blk_cell BX2z.out 1).trans rfl
      have y2 : w14z.drew.cell? ⟨gbz, 2, none⟩ = some (.string z.f2) := (blk_cell BX2z.out 2).trans rfl
      have HVD := Aside0.mk (Kd.Q_drew (Kd.Q_below HV8.out HBL2z.out))
      have HQD := Aside0.mk ((HQ8.out.below HBL2z.out).below (below_drew1 (Below.refl _ _)))
      have HBD := Aside0.mk (below_drew1 (HB8.out.trans (HBL2z.out.mono HB8.out.size)))
      have HT := Aside0.mk (show Kd.C k29 w14z.drew (some ad6) [z].length [z] from by have h := Kd.C_take (m := 1) (Kd.Q_reads' HVD.out).2.2 (by rw [HSO.out]; simp); rwa [HSO.out] at h)
      clear HV8 HQ8 HB8 HBL2z BX2z GEz
      refine start_ (n := 10) (S := fun w' => w'.cell? ⟨gbz, 0, none⟩ = some (.int .i64 z.f0) ∧ w'.cell? ⟨gbz, 1, none⟩ = some (.int .i64 z.f1) ∧ w'.cell? ⟨gbz, 2, none⟩ = some (.string z.f2)) (ds := []) #[false, false, false, false, false, false, false, false, false, false] (by kernel_rfl) rfl rfl ⟨y0, y1, y2⟩ (fun hHeld => ?_)
      generalize w14z.drew = WD at y0 y1 y2 HVD HQD HBD HT hHeld ⊢
      refine pure_ (i := 0) (N := some 59) (v := ?_) (a' := ?_) #[true, false, false, false, false, false, false, false, false, false] rfl rfl (by kernel_rfl) (fun _ _ _ h => h) (Or.inl ⟨by rfl, ?_⟩) ?_ ?_
      rotate_left
      ·intro w'
       go_simp
       with_reducible rfl
      rotate_left
      ·simp only [Act.put, List.setIfInBounds_toArray, List.set_cons_zero, List.set_cons_succ, i64_w, i32_w]
       rfl
      refine pure_ (i := 1) (N := some 60) (v := ?_) (a' := ?_) #[true, true, false, false, false, false, false, false, false, false] rfl rfl (by kernel_rfl) (fun _ _ _ h => h) (Or.inl ⟨by rfl, ?_⟩) ?_ ?_
      rotate_left
      ·intro w'
       go_simp
       with_reducible rfl
      rotate_left
      ·simp only [Act.put, List.setIfInBounds_toArray, List.set_cons_zero, List.set_cons_succ, i64_w, i32_w]
       rfl
      refine pure_ (i := 2) (N := some 61) (v := ?_) (a' := ?_) #[true, true, true, false, false, false, false, false, false, false] rfl rfl (by kernel_rfl) (fun _ _ _ h => h) (Or.inl ⟨by rfl, ?_⟩) ?_ ?_
      rotate_left
      ·intro w'
       go_simp
       with_reducible rfl
      rotate_left
      ·simp only [Act.put, List.setIfInBounds_toArray, List.set_cons_zero, List.set_cons_succ, i64_w, i32_w]
       rfl
      refine pure_ (i := 5) (N := some 64) (v := ?_) (a' := ?_) #[true, true, true, false, false, true, false, false, false, false] rfl rfl (by kernel_rfl) (fun _ _ _ h => h) (Or.inl ⟨by rfl, ?_⟩) ?_ ?_
      rotate_left
      ·intro w'
       go_simp
       with_reducible rfl
      rotate_left
      ·simp only [Act.put, List.setIfInBounds_toArray, List.set_cons_zero, List.set_cons_succ, i64_w, i32_w]
       rfl
      refine pure_ (i := 6) (N := some 65) (v := ?_) (a' := ?_) #[true, true, true, false, false, true, true, false, false, false] rfl rfl (by kernel_rfl) (fun _ _ _ h => h) (Or.inl ⟨by rfl, ?_⟩) ?_ ?_
      rotate_left
      ·intro w'
       go_simp
       with_reducible rfl
      rotate_left
      ·simp only [Act.put, List.setIfInBounds_toArray, List.set_cons_zero, List.set_cons_succ, i64_w, i32_w]
       rfl
      refine take_ (i := 3) (N := some 62) (v := ?_) (a' := ?_) #[true, true, true, true, false, true, true, false, false, false] rfl rfl (by kernel_rfl) (fun _ _ _ h => h) (Or.inl ⟨by rfl, ?_⟩) hHeld ?_ ?_
      rotate_left
      ·rintro w' ⟨s0, s1, s2⟩
       go_simp
       with_reducible rfl
      rotate_left
      ·simp only [Act.put, List.setIfInBounds_toArray, List.set_cons_zero, List.set_cons_succ, i64_w, i32_w]
       rfl
      refine one_ (i := 4) (N := some 63) #[true, true, true, true, true, true, true, false, false, false] rfl rfl (by kernel_rfl) (by decide) (fun K hK => ?_)
      refine Kd.R_lit_step k29 (w0 := WD) WD.heap.size 29 (by rfl) (N := 63) rfl (xs := [z]) (inner := [.int .i64 z.f0, .int .i64 z.f1, .string z.f2]) (ok := fun _ => True) (okp := fun _ => True) ?hr (Reps.c3 (k29_mkM _ _ _ z) (Reps.none _ _)) (fun _ h => h) trivial (Below.refl _ _) (Nat.le_refl _) (by simp) ?_
      case hr => first | (go_simp; done) | (go_simp; rfl)
      intro v63 w63 ho63 hb63 hg63 _
      obtain ⟨A63, c63, rfl⟩ := Kd.R_slice ho63
      refine hK.out _ _ ⟨(hb63.cell (World.block_lt_of_cell? _ _ y0)).trans y0, (hb63.cell (World.block_lt_of_cell? _ _ y1)).trans y1, (hb63.cell (World.block_lt_of_cell? _ _ y2)).trans y2⟩ (fun hHeld => ?_)
      clear hK K
      refine norm_ (a' := ?_) ?_ ?_
      rotate_left
      ·show Act.put _ (some 63) _ = _
       simp only [Act.put, List.setIfInBounds_toArray, List.set_cons_zero, List.set_cons_succ, i64_w, i32_w]
       rfl
      refine one_ (i := 7) (N := some 66) #[true, true, true, true, true, true, true, true, false, false] rfl rfl (by kernel_rfl) (by decide) (fun K hK => ?_)
      refine goes_ Try.func12 (by kernel_rfl) rfl #[.slice A63 1 c63, .slice (some ad6) 1 c6] (by rfl) rfl rfl (by simp only [List.map_toArray, List.map_cons, List.map_nil]; rfl) ?_
      with_reducible refine (eq_ones A63 c63 (some ad6) c6 z _ (Kd.R_reads' ho63).2.2 (Kd.R_reads' ho63).2.1 (Kd.C_below HT.out hb63) HC6.out).mono ?_
      rintro e w10 ⟨rfl, ⟨nd, rfl⟩⟩
      have HB10 := Aside0.mk (pw_below_drewN hb63 nd)
      generalize w63.drewN nd = w10 at HB10 ⊢
      refine ⟨_, rfl, ?_⟩
      refine hK.out _ _ ⟨(HB10.out.cell (World.block_lt_of_cell? _ _ y0)).trans y0, (HB10.out.cell (World.block_lt_of_cell? _ _ y1)).trans y1, (HB10.out.cell (World.block_lt_of_cell? _ _ y2)).trans y2⟩ (fun hHeld => ?_)
      clear hK K
      refine norm_ (a' := ?_) ?_ ?_
      rotate_left
      ·show Act.put _ (some 66) _ = _
       simp only [Act.put, List.setIfInBounds_toArray, List.set_cons_zero, List.set_cons_succ, i64_w, i32_w]
       rfl
      refine pure_ (i := 8) (N := some 67) (v := ?_) (a' := ?_) #[true, true, true, true, true, true, true, true, true, false] rfl rfl (by kernel_rfl) (fun _ _ _ h => h) (Or.inl ⟨by rfl, ?_⟩) ?_ ?_
      rotate_left
      ·intro w'
       go_simp
       with_reducible rfl
      rotate_left
      ·simp only [Act.put, List.setIfInBounds_toArray, List.set_cons_zero, List.set_cons_succ, i64_w, i32_w]
       rfl
      refine pure_ (i := 9) (N := some 68) (v := ?_) (a' := ?_) #[true, true, true, true, true, true, true, true, true, true] rfl rfl (by kernel_rfl) (fun _ _ _ h => h) (Or.inl ⟨by rfl, ?_⟩) ?_ ?_
      rotate_left
      ·intro w'
       go_simp
       with_reducible rfl
      rotate_left
      ·simp only [Act.put, List.setIfInBounds_toArray, List.set_cons_zero, List.set_cons_succ, i64_w, i32_w]
       rfl
      refine done_ (by kernel_rfl) ?_
      by_cases hc1 : c6 = 1
      ·have r3 := eq_true hc1
       skip
       have HVN := Aside0.mk (show Kd.Q k29 29 w10 w.heap.size (fun k => ¬ P6 k) (.slice (some ad6) ys.length 0) us from by
        have h := Kd.Q_drop (k := 1) (Kd.Q_below HVD.out HB10.out) (by rw [HSO.out]; simp)
        rw [HSO.out] at h
        rw [if_pos hc1, show c6 - 1 = 0 by omega] at h
        exact h)
       have HWN := Aside0.mk (show QW P6 w.heap.size w10 gq ys (.slice (some ad6) ys.length 0) us from ⟨HQD.out.below HB10.out, HVN.out, HPH.out, HUS.out⟩)
       have HBN := Aside0.mk (HBD.out.trans (HB10.out.mono HBD.out.size))
       clear HVN HVD HQD HBD HB10 y0 y1 y2 hHeld HT HPH HUS
       go_wp2_with fail
       refine (len_c P6 w.heap.size gq ys _ HWN.out.1).mono ?_
       rintro e w7 ⟨rfl, rfl⟩
       go_wp2_with fail
       go_roundw
       case rel => exact ⟨i + 1, P6, ys, us, rfl, by have := HI.out.1; omega, by have := HI.out.2.2; omega, by have := HQL.out; have := HQ40.out; have := HYL.out; omega, HWN, HBN⟩
       case measure => have := HI.out; simp [intOf]; omega
      ·have r3 := eq_false hc1
       skip
       have HVN := Aside0.mk (show Kd.Q k29 29 w10 w.heap.size (fun k => ¬ P6 k) (.slice (some (ad6.add 3)) ys.length (c6 - 1)) us from by
        have h := Kd.Q_drop (k := 1) (Kd.Q_below HVD.out HB10.out) (by rw [HSO.out]; simp)
        rw [HSO.out] at h
        rw [if_neg hc1] at h
        exact h)
       have HWN := Aside0.mk (show QW P6 w.heap.size w10 gq ys (.slice (some (ad6.add 3)) ys.length (c6 - 1)) us from ⟨HQD.out.below HB10.out, HVN.out, HPH.out, HUS.out⟩)
       have HBN := Aside0.mk (HBD.out.trans (HB10.out.mono HBD.out.size))
       clear HVN HVD HQD HBD HB10 y0 y1 y2 hHeld HT HPH HUS
       go_wp2_with fail
       refine (len_c P6 w.heap.size gq ys _ HWN.out.1).mono ?_
       rintro e w7 ⟨rfl, rfl⟩
       go_wp2_with fail
       go_roundw
       case rel => exact ⟨i + 1, P6, ys, us, rfl, by have := HI.out.1; omega, by have := HI.out.2.2; omega, by have := HQL.out; have := HQ40.out; have := HYL.out; omega, HWN, HBN⟩
       case measure => have := HI.out; simp [intOf]; omega
    ·have b3 : decide (i < (l1.length : Int)) = false := decide_eq_false hn
     clear hn
     go_wp2_with fail
     refine (len_c P6 w.heap.size gq qs' _ HW6.out.1).mono ?_
     rintro e w7 ⟨rfl, rfl⟩
     go_wp2_with fail
     go_roundw
     case rel => exact ⟨i + 1, P6, qs', vs, rfl, by have := HI.out.1; omega, by have := HI.out.2.2; omega, by have := HQL.out; have := HQ40.out; omega, HW6, HB7⟩
     case measure => have := HI.out; simp [intOf]; omega
   ·have b2 : decide (i < 40) = false := decide_eq_false h40
    clear hlt h40 i0
    go_wp2_with fail
    go_meet
    case rel => exact ⟨P, qs, ws, by omega, HW, HB⟩
  ·have b1 : decide (i < (l0.length : Int)) = false := decide_eq_false hlt
   clear hlt i0
   go_wp2_with fail
   go_meet
   case rel => exact ⟨P, qs, ws, by omega, HW, HB⟩
 case rest =>
  clear HQ0 HB0
  obtain ⟨P, qs, ws, hql, HW, HB⟩ := hcut
  go_wp2_with fail
  go_loopw [7] (fun v wr => ∃ (P : Nat → Prop) (qs ws : List S29), qs.length ≤ 40 ∧ Aside0 (QW P w.heap.size wr gq qs v ws) ∧ Aside0 (Below w.heap.size w wr)) (fun v _ => lenV v)
  case atStart => exact ⟨P, qs, ws, hql, HW, HB⟩
  case round =>
   clear HW HB hql
   obtain ⟨P, qs, ws, hql, HW, HB⟩ := hrel
   have hvl : ws.length = qs.length := by rw [← HW.out.2.2.2, sortF_len]
   obtain ⟨A6, c6, rfl, hc6⟩ := Kd.Q_slice HW.out.2.1
   rw [hvl] at HW hc6 ⊢
   have HQ40 := Aside0.mk hql
   by_cases hq0 : qs = []
   ·subst hq0
    clear hvl hql
    obtain ⟨z, hz⟩ : ∃ z, z29 = z := ⟨_, rfl⟩
    have hnn := fun W (h : Qu P w.heap.size W gq []) (hb : w.heap.size ≤ W.heap.size) => next_no P w.heap.size gq W h hb
    rw [hz] at hnn
    have HNN := Aside0.mk hnn
    clear hnn hz
    go_wp2_with (first | (go_at_call 11; refine (HNN.out _ HW.out.1 HB.out.size).mono ?_; rintro e w8 ⟨rfl, hb8⟩; have HB8 := Aside0.mk (below_step HB.out hb8); have HQ8 := Aside0.mk (HW.out.1.below hb8); clear hb8) | (go_at_call 13; refine (len_c P w.heap.size gq [] _ HQ9.out).mono ?_; rintro e w9 ⟨rfl, rfl⟩) | ((with_reducible refine gate_dst (N := 14) rfl ?_); (try (refine gate_guard (by rfl) ?_; dsimp only)); refine box_event ?hg (N := 14) ?hd (cs := #[.int .i64 0, .int .i64 0, .string ⟨#[]⟩]) (t := 29) ?hr ?_; (case hd => rfl); (case hg => rfl); (case hr => first | (go_simp; done) | (go_simp; rfl)); intro gbz hgb w12z hbox hb12; have HBLz := Aside0.mk hb12; have BXz := Aside0.mk hbox; have GEz := Aside0.mk (show w8.heap.size ≤ gbz from by rw [hgb]; exact Nat.le_refl _); clear hb12 hbox hgb; have z0 : w12z.cell? ⟨gbz, 0, none⟩ = some (.int .i64 0) := (blk_cell BXz.out 0).trans rfl; have z1 : w12z.cell? ⟨gbz, 1, none⟩ = some (.int .i64 0) := (blk_cell BXz.out 1).trans rfl; have z2 : w12z.cell? ⟨gbz, 2, none⟩ = some (.string ⟨#[]⟩) := (blk_cell BXz.out 2).trans rfl; have f0 := blk_frozen BXz.out 0; have f1 := blk_frozen BXz.out 1; have f2 := blk_frozen BXz.out 2) | ((with_reducible refine gate_store (t := 29) (p := 14) rfl ?_); refine store_event (t := 29) (p := 14) (v := ?vo_z_14) (w1 := (((w12z.setCell ⟨gbz, 0, none⟩ (.int .i64 z.f0)).setCell ⟨gbz, 1, none⟩ (.int .i64 z.f1)).setCell ⟨gbz, 2, none⟩ (.string z.f2))) ?hg ?ho ?hn ?hr ?_; (case ho => rfl); (case hg => rfl); (case hn => rfl); (case hr => first | (go_simp; done) | (go_simp; rfl)); intro w14z hw; have BX2z := Aside0.mk (show w14z.heap[gbz]? = some (.cells #[.int .i64 z.f0, .int .i64 z.f1, .string z.f2] 29 (0, 0)) from by rw [hw]; exact blk_put (cs := #[.int .i64 z.f0, .int .i64 z.f1, .string ⟨#[]⟩]) (blk_put (cs := #[.int .i64 z.f0, .int .i64 0, .string ⟨#[]⟩]) (blk_put BXz.out 0 (.int .i64 z.f0) rfl) 1 (.int .i64 z.f1) rfl) 2 (.string z.f2) rfl); have HBL2z := Aside0.mk (show Below w8.heap.size w8 w14z from by rw [hw]; exact below_set3 HBLz.out GEz.out 0 1 2 _ _ _); clear hw z0 z1 z2 f0 f1 f2 BXz HBLz; have HB9 := Aside0.mk (HB8.out.trans (HBL2z.out.mono HB8.out.size)); have HQ9 := Aside0.mk (HQ8.out.below HBL2z.out)))
    go_ret
    exact ⟨rfl, HB9.out⟩
   ·have hpos := List.length_pos_iff.2 hq0
    have b1 : decide (0 < (qs.length : Int)) = true := decide_eq_true (by omega)
    have b1' : decide (0 < qs.length) = true := decide_eq_true hpos
    have HPOS := Aside0.mk hpos
    clear hvl hql hpos hq0
    have hp : 0 < qs.length := by have := HPOS.out; omega
    have hsp := popZ_split hp
    have hph := (pop_heap HW.out.2.2.1 hp).1
    have hso := sort_pop HW.out.2.2.1 hp
    rw [HW.out.2.2.2] at hso
    obtain ⟨z, hz⟩ : ∃ z, rd_T29 (popZ qs) ((qs.length : Int) - 1) = z := ⟨_, rfl⟩
    obtain ⟨ys, hys⟩ : ∃ ys, (popZ qs).dropLast = ys := ⟨_, rfl⟩
    obtain ⟨us, hus⟩ : ∃ us, sortF ys = us := ⟨_, rfl⟩
    have hyl : qs.length = ys.length + 1 := by rw [← hys, List.length_dropLast, popZ_len]; omega
    rw [hz, hys] at hsp hso
    rw [hys] at hph
    rw [hus] at hso
    have HSP := Aside0.mk hsp
    have HPH := Aside0.mk hph
    have HSO := Aside0.mk hso
    have HUS := Aside0.mk hus
    obtain ⟨ad6, rfl, _⟩ := (Kd.Q_reads' HW.out.2.1).2.2.2.2 (by rw [hso]; simp)
    have HC6 := Aside0.mk (show [z].length ≤ c6 from by show 1 ≤ c6; omega)
    have HYL := Aside0.mk hyl
    rw [hyl] at HW ⊢
    have r1 := eq_true (show 1 ≤ c6 by omega)
    have r2 := eq_true (show (1 : Int) ≤ (c6 : Int) by omega)
    clear hz hys hsp hph hso hus hp hyl hc6
    go_wp2_with fail
    refine (next_yes P w.heap.size gq qs ys z _ HW.out.1 HB.out.size (by have := HQ40.out; omega) (by have := HYL.out; omega) HSP.out).mono ?_
    rintro e w8 ⟨rfl, hq, hb, hk⟩
    have HQ8 := Aside0.mk hq
    have HV8 := Aside0.mk (Kd.Q_kept HW.out.2.1 hk (fun k h1 h2 => h1 h2))
    have HB8 := Aside0.mk (HB.out.trans hb)
    clear hq hb hk HW HB HSP
    go_wp2_with (first | ((with_reducible refine gate_dst (N := 12) rfl ?_); (try (refine gate_guard (by rfl) ?_; dsimp only)); refine box_event ?hg (N := 12) ?hd (cs := #[.int .i64 0, .int .i64 0, .string ⟨#[]⟩]) (t := 29) ?hr ?_; (case hd => rfl); (case hg => rfl); (case hr => first | (go_simp; done) | (go_simp; rfl)); intro gbz hgb w12z hbox hb12; have HBLz := Aside0.mk hb12; have BXz := Aside0.mk hbox; have GEz := Aside0.mk (show w8.heap.size ≤ gbz from by rw [hgb]; exact Nat.le_refl _); clear hb12 hbox hgb; have z0 : w12z.cell? ⟨gbz, 0, none⟩ = some (.int .i64 0) := (blk_cell BXz.out 0).trans rfl; have z1 : w12z.cell? ⟨gbz, 1, none⟩ = some (.int .i64 0) := (blk_cell BXz.out 1).trans rfl; have z2 : w12z.cell? ⟨gbz, 2, none⟩ = some (.string ⟨#[]⟩) := (blk_cell BXz.out 2).trans rfl; have f0 := blk_frozen BXz.out 0; have f1 := blk_frozen BXz.out 1; have f2 := blk_frozen BXz.out 2) | ((with_reducible refine gate_store (t := 29) (p := 12) rfl ?_); refine store_event (t := 29) (p := 12) (v := ?vo_z_12) (w1 := (((w12z.setCell ⟨gbz, 0, none⟩ (.int .i64 z.f0)).setCell ⟨gbz, 1, none⟩ (.int .i64 z.f1)).setCell ⟨gbz, 2, none⟩ (.string z.f2))) ?hg ?ho ?hn ?hr ?_; (case ho => rfl); (case hg => rfl); (case hn => rfl); (case hr => first | (go_simp; done) | (go_simp; rfl)); intro w14z hw; have BX2z := Aside0.mk (show w14z.heap[gbz]? = some (.cells #[.int .i64 z.f0, .int .i64 z.f1, .string z.f2] 29 (0, 0)) from by rw [hw]; exact blk_put (cs := #[.int .i64 z.f0, .int .i64 z.f1, .string ⟨#[]⟩]) (blk_put (cs := #[.int .i64 z.f0, .int .i64 0, .string ⟨#[]⟩]) (blk_put BXz.out 0 (.int .i64 z.f0) rfl) 1 (.int .i64 z.f1) rfl) 2 (.string z.f2) rfl); have HBL2z := Aside0.mk (show Below w8.heap.size w8 w14z from by rw [hw]; exact below_set3 HBLz.out GEz.out 0 1 2 _ _ _); clear hw z0 z1 z2 f0 f1 f2 BXz HBLz; skip))
    have y0 : w14z.drew.cell? ⟨gbz, 0, none⟩ = some (.int .i64 z.f0) := (blk_cell BX2z.out 0).trans rfl
    have y1 : w14z.drew.cell? ⟨gbz, 1, none⟩ = some (.int .i64 z.f1) := (blk_cell BX2z.out 1).trans rfl
    have y2 : w14z.drew.cell? ⟨gbz, 2, none⟩ = some (.string z.f2) := (blk_cell BX2z.out 2).trans rfl
    have HVD := Aside0.mk (Kd.Q_drew (Kd.Q_below HV8.out HBL2z.out))
    have HQD := Aside0.mk ((HQ8.out.below HBL2z.out).below (below_drew1 (Below.refl _ _)))
    have HBD := Aside0.mk (below_drew1 (HB8.out.trans (HBL2z.out.mono HB8.out.size)))
    have HT := Aside0.mk (show Kd.C k29 w14z.drew (some ad6) [z].length [z] from by have h := Kd.C_take (m := 1) (Kd.Q_reads' HVD.out).2.2 (by rw [HSO.out]; simp); rwa [HSO.out] at h)
    clear HV8 HQ8 HB8 HBL2z BX2z GEz
    refine start_ (n := 10) (S := fun w' => w'.cell? ⟨gbz, 0, none⟩ = some (.int .i64 z.f0) ∧ w'.cell? ⟨gbz, 1, none⟩ = some (.int .i64 z.f1) ∧ w'.cell? ⟨gbz, 2, none⟩ = some (.string z.f2)) (ds := []) #[false, false, false, false, false, false, false, false, false, false] (by kernel_rfl) rfl rfl ⟨y0, y1, y2⟩ (fun hHeld => ?_)
    generalize w14z.drew = WD at y0 y1 y2 HVD HQD HBD HT hHeld ⊢
    refine pure_ (i := 0) (N := some 82) (v := ?_) (a' := ?_) #[true, false, false, false, false, false, false, false, false, false] rfl rfl (by kernel_rfl) (fun _ _ _ h => h) (Or.inl ⟨by rfl, ?_⟩) ?_ ?_
    rotate_left
    ·intro w'
     go_simp
     with_reducible rfl
    rotate_left
    ·simp only [Act.put, List.setIfInBounds_toArray, List.set_cons_zero, List.set_cons_succ, i64_w, i32_w]
     rfl
    refine pure_ (i := 1) (N := some 83) (v := ?_) (a' := ?_) #[true, true, false, false, false, false, false, false, false, false] rfl rfl (by kernel_rfl) (fun _ _ _ h => h) (Or.inl ⟨by rfl, ?_⟩) ?_ ?_
    rotate_left
    ·intro w'
     go_simp
     with_reducible rfl
    rotate_left
    ·simp only [Act.put, List.setIfInBounds_toArray, List.set_cons_zero, List.set_cons_succ, i64_w, i32_w]
     rfl
    refine pure_ (i := 2) (N := some 84) (v := ?_) (a' := ?_) #[true, true, true, false, false, false, false, false, false, false] rfl rfl (by kernel_rfl) (fun _ _ _ h => h) (Or.inl ⟨by rfl, ?_⟩) ?_ ?_
    rotate_left
    ·intro w'
     go_simp
     with_reducible rfl
    rotate_left
    ·simp only [Act.put, List.setIfInBounds_toArray, List.set_cons_zero, List.set_cons_succ, i64_w, i32_w]
     rfl
    refine pure_ (i := 5) (N := some 87) (v := ?_) (a' := ?_) #[true, true, true, false, false, true, false, false, false, false] rfl rfl (by kernel_rfl) (fun _ _ _ h => h) (Or.inl ⟨by rfl, ?_⟩) ?_ ?_
    rotate_left
    ·intro w'
     go_simp
     with_reducible rfl
    rotate_left
    ·simp only [Act.put, List.setIfInBounds_toArray, List.set_cons_zero, List.set_cons_succ, i64_w, i32_w]
     rfl
    refine pure_ (i := 6) (N := some 88) (v := ?_) (a' := ?_) #[true, true, true, false, false, true, true, false, false, false] rfl rfl (by kernel_rfl) (fun _ _ _ h => h) (Or.inl ⟨by rfl, ?_⟩) ?_ ?_
    rotate_left
    ·intro w'
     go_simp
     with_reducible rfl
    rotate_left
    ·simp only [Act.put, List.setIfInBounds_toArray, List.set_cons_zero, List.set_cons_succ, i64_w, i32_w]
     rfl
    refine take_ (i := 3) (N := some 85) (v := ?_) (a' := ?_) #[true, true, true, true, false, true, true, false, false, false] rfl rfl (by kernel_rfl) (fun _ _ _ h => h) (Or.inl ⟨by rfl, ?_⟩) hHeld ?_ ?_
    rotate_left
    ·rintro w' ⟨s0, s1, s2⟩
     go_simp
     with_reducible rfl
    rotate_left
    ·simp only [Act.put, List.setIfInBounds_toArray, List.set_cons_zero, List.set_cons_succ, i64_w, i32_w]
     rfl
    refine one_ (i := 4) (N := some 86) #[true, true, true, true, true, true, true, false, false, false] rfl rfl (by kernel_rfl) (by decide) (fun K hK => ?_)
    refine Kd.R_lit_step k29 (w0 := WD) WD.heap.size 29 (by rfl) (N := 86) rfl (xs := [z]) (inner := [.int .i64 z.f0, .int .i64 z.f1, .string z.f2]) (ok := fun _ => True) (okp := fun _ => True) ?hr (Reps.c3 (k29_mkM _ _ _ z) (Reps.none _ _)) (fun _ h => h) trivial (Below.refl _ _) (Nat.le_refl _) (by simp) ?_
    case hr => first | (go_simp; done) | (go_simp; rfl)
    intro v63 w63 ho63 hb63 hg63 _
    obtain ⟨A63, c63, rfl⟩ := Kd.R_slice ho63
    refine hK.out _ _ ⟨(hb63.cell (World.block_lt_of_cell? _ _ y0)).trans y0, (hb63.cell (World.block_lt_of_cell? _ _ y1)).trans y1, (hb63.cell (World.block_lt_of_cell? _ _ y2)).trans y2⟩ (fun hHeld => ?_)
    clear hK K
    refine norm_ (a' := ?_) ?_ ?_
    rotate_left
    ·show Act.put _ (some 86) _ = _
     simp only [Act.put, List.setIfInBounds_toArray, List.set_cons_zero, List.set_cons_succ, i64_w, i32_w]
     rfl
    refine one_ (i := 7) (N := some 89) #[true, true, true, true, true, true, true, true, false, false] rfl rfl (by kernel_rfl) (by decide) (fun K hK => ?_)
    refine goes_ Try.func12 (by kernel_rfl) rfl #[.slice A63 1 c63, .slice (some ad6) 1 c6] (by rfl) rfl rfl (by simp only [List.map_toArray, List.map_cons, List.map_nil]; rfl) ?_
    with_reducible refine (eq_ones A63 c63 (some ad6) c6 z _ (Kd.R_reads' ho63).2.2 (Kd.R_reads' ho63).2.1 (Kd.C_below HT.out hb63) HC6.out).mono ?_
    rintro e w10 ⟨rfl, ⟨nd, rfl⟩⟩
    have HB10 := Aside0.mk (pw_below_drewN hb63 nd)
    generalize w63.drewN nd = w10 at HB10 ⊢
    refine ⟨_, rfl, ?_⟩
    refine hK.out _ _ ⟨(HB10.out.cell (World.block_lt_of_cell? _ _ y0)).trans y0, (HB10.out.cell (World.block_lt_of_cell? _ _ y1)).trans y1, (HB10.out.cell (World.block_lt_of_cell? _ _ y2)).trans y2⟩ (fun hHeld => ?_)
    clear hK K
    refine norm_ (a' := ?_) ?_ ?_
    rotate_left
    ·show Act.put _ (some 89) _ = _
     simp only [Act.put, List.setIfInBounds_toArray, List.set_cons_zero, List.set_cons_succ, i64_w, i32_w]
     rfl
    refine pure_ (i := 8) (N := some 90) (v := ?_) (a' := ?_) #[true, true, true, true, true, true, true, true, true, false] rfl rfl (by kernel_rfl) (fun _ _ _ h => h) (Or.inl ⟨by rfl, ?_⟩) ?_ ?_
    rotate_left
    ·intro w'
     go_simp
     with_reducible rfl
    rotate_left
    ·simp only [Act.put, List.setIfInBounds_toArray, List.set_cons_zero, List.set_cons_succ, i64_w, i32_w]
     rfl
    refine pure_ (i := 9) (N := some 91) (v := ?_) (a' := ?_) #[true, true, true, true, true, true, true, true, true, true] rfl rfl (by kernel_rfl) (fun _ _ _ h => h) (Or.inl ⟨by rfl, ?_⟩) ?_ ?_
    rotate_left
    ·intro w'
     go_simp
     with_reducible rfl
    rotate_left
    ·simp only [Act.put, List.setIfInBounds_toArray, List.set_cons_zero, List.set_cons_succ, i64_w, i32_w]
     rfl
    refine done_ (by kernel_rfl) ?_
    by_cases hc1 : c6 = 1
    ·have r3 := eq_true hc1
     skip
     have HVN := Aside0.mk (show Kd.Q k29 29 w10 w.heap.size (fun k => ¬ P k) (.slice (some ad6) ys.length 0) us from by
      have h := Kd.Q_drop (k := 1) (Kd.Q_below HVD.out HB10.out) (by rw [HSO.out]; simp)
      rw [HSO.out] at h
      rw [if_pos hc1, show c6 - 1 = 0 by omega] at h
      exact h)
     have HWN := Aside0.mk (show QW P w.heap.size w10 gq ys (.slice (some ad6) ys.length 0) us from ⟨HQD.out.below HB10.out, HVN.out, HPH.out, HUS.out⟩)
     have HBN := Aside0.mk (HBD.out.trans (HB10.out.mono HBD.out.size))
     clear HVN HVD HQD HBD HB10 y0 y1 y2 hHeld HT HPH HUS
     go_wp2_with fail
     go_roundw
     case rel => exact ⟨P, ys, us, by have := HQ40.out; have := HYL.out; omega, HWN, HBN⟩
     case measure => simp [lenV]
    ·have r3 := eq_false hc1
     skip
     have HVN := Aside0.mk (show Kd.Q k29 29 w10 w.heap.size (fun k => ¬ P k) (.slice (some (ad6.add 3)) ys.length (c6 - 1)) us from by
      have h := Kd.Q_drop (k := 1) (Kd.Q_below HVD.out HB10.out) (by rw [HSO.out]; simp)
      rw [HSO.out] at h
      rw [if_neg hc1] at h
      exact h)
     have HWN := Aside0.mk (show QW P w.heap.size w10 gq ys (.slice (some (ad6.add 3)) ys.length (c6 - 1)) us from ⟨HQD.out.below HB10.out, HVN.out, HPH.out, HUS.out⟩)
     have HBN := Aside0.mk (HBD.out.trans (HB10.out.mono HBD.out.size))
     clear HVN HVD HQD HBD HB10 y0 y1 y2 hHeld HT HPH HUS
     go_wp2_with fail
     go_roundw
     case rel => exact ⟨P, ys, us, by have := HQ40.out; have := HYL.out; omega, HWN, HBN⟩
     case measure => simp [lenV]
def recensionlaw9_MergeQueue.f (_ : Nat) (_ : List S29) (_ : List Bool) : Option Bool := some true
theorem recensionlaw9_MergeQueue.calls (k : Nat) (A0 : Option Addr) (c0 : Nat) (l0 : List (S29)) (A1 : Option Addr) (c1 : Nat) (l1 : List (Bool)) (r : Bool) (w : World) (hr0 : Kd.C k29 w A0 l0.length l0) (hc0 : l0.length ≤ c0) (hr1 : Kd.C Kd.bool w A1 l1.length l1) (hc1 : l1.length ≤ c1) (hrt : Aside0 (r = true)) (h : recensionlaw9_MergeQueue.f k l0 l1 = some r) :
  Calls Try.prog 3 #[.slice A0 l0.length c0, .slice A1 l1.length c1] w fun e w' => e = .returned (.bool r) ∧ Below w.heap.size w w' := by
 obtain rfl := hrt.out
 exact queue_walk A0 c0 l0 A1 c1 l1 w hr0 hc0 hr1

end Go.Proofs.Yteikeoeidaaiaaa.PMerge
