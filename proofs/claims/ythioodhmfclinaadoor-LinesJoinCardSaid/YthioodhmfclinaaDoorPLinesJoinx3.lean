-- Written by myprint.py (the prover's own turn of the printer); not trusted: Lean checks it.
import Derived.Test.YthioodhmfclinaaDoorPLinesJoinx0
import Derived.Test.YthioodhmfclinaaDoorPLinesJoinx1
import Derived.Test.YthioodhmfclinaaDoorPLinesJoinx2
namespace Go.Proofs.YthioodhmfclinaaDoor.PLinesJoin
open Go.RowKit Go.Proofs.YthioodhmfclinaaDoorW.PrintWords Go.Proofs.YthioodhmfclinaaDoorW.PrintLast Go.Proofs.YthioodhmfclinaaDoorW.PrintMore
attribute [local go_sem] max2_int min2_int max_two min_two max_three min_three max_four min_four   -- for this text's walks alone
set_option linter.unusedVariables false
set_option linter.unusedSimpArgs false

/-! ### recensionlaw7_LinesJoin: function 4 -/
mutual
def recensionlaw7_LinesJoin.l0 : Nat → ByteArray → Int → ByteArray → Int → Option (Bool)
 | 0, _, _, _, _ => none
 | k + 1, x0, x4, x5, x6 => if x6 ≤ x4 then ((lines_Line.f k x0 x6).bind fun bt169 => (if bt169.2 = true then (recensionlaw7_LinesJoin.l1 k x0 x4 x5 x6 bt169.1 0) else (some false))) else ((lines_Line.f k x0 0).bind fun bt165 => ((lines_Line.f k x0 (wrap64 (x4 + 1))).bind fun bt167 => (if x5.toList = x0.toList then (if bt165.2 = true then (some false) else (some (!bt167.2))) else (some false))))
def recensionlaw7_LinesJoin.l1 : Nat → ByteArray → Int → ByteArray → Int → ByteArray → Int → Option (Bool)
 | 0, _, _, _, _, _, _ => none
 | k + 1, x0, x4, x5, x6, x7, x9 => if x9 < (x7.size : Int) then (if 0 ≤ x9 then (if (bt x7 x9) = 10 then (some false) else (recensionlaw7_LinesJoin.l1 k x0 x4 x5 x6 x7 (wrap64 (x9 + 1)))) else (none)) else (if x6 > 1 then (if x5.size + 1 ≤ 9223372036854775807 then (if (x5 ++ (⟨#[10]⟩ : ByteArray)).size + x7.size ≤ 9223372036854775807 then (recensionlaw7_LinesJoin.l0 k x0 x4 ((x5 ++ (⟨#[10]⟩ : ByteArray)) ++ x7) (wrap64 (x6 + 1))) else (none)) else (none)) else (if x5.size + x7.size ≤ 9223372036854775807 then (recensionlaw7_LinesJoin.l0 k x0 x4 (x5 ++ x7) (wrap64 (x6 + 1))) else (none)))
end
def recensionlaw7_LinesJoin.f (k : Nat) (a0 : ByteArray) : Option (Bool) := (recensionlaw7_begun.f k).bind fun t160 => (if t160 = true then ((recensionlaw3_Cut.f a0 200).bind fun t161 => ((lines_Starts.f k t161).bind fun t162 => (recensionlaw7_LinesJoin.l0 k t161 (t162.length : Int) (⟨#[]⟩ : ByteArray) 1))) else (some false))
theorem recensionlaw7_LinesJoin.mono_l : ∀ k, (∀ y0 y1 y2 y3, LeO (recensionlaw7_LinesJoin.l0 k y0 y1 y2 y3) (recensionlaw7_LinesJoin.l0 (k + 1) y0 y1 y2 y3)) ∧ (∀ y0 y1 y2 y3 y4 y5, LeO (recensionlaw7_LinesJoin.l1 k y0 y1 y2 y3 y4 y5) (recensionlaw7_LinesJoin.l1 (k + 1) y0 y1 y2 y3 y4 y5))
 | 0 => ⟨fun _ _ _ _ r h => by simp [recensionlaw7_LinesJoin.l0] at h, fun _ _ _ _ _ _ r h => by simp [recensionlaw7_LinesJoin.l1] at h⟩
 | k + 1 => by
  obtain ⟨ih0, ih1⟩ := recensionlaw7_LinesJoin.mono_l k
  refine ⟨?_, ?_⟩
  ·intro y0 y1 y2 y3
   unfold recensionlaw7_LinesJoin.l0
   repeat' first
   | (with_reducible exact ih0 _ _ _ _)
   | (with_reducible exact ih1 _ _ _ _ _ _)
   | (with_reducible exact lines_Line.mono _ _ _)
   | (with_reducible exact lines_Starts.mono _ _)
   | (with_reducible exact recensionlaw7_begun.mono _)
   | (with_reducible exact LeO.refl _)
   | (with_reducible exact LeO.none _)
   | (with_reducible refine LeO.ite ?_ ?_)
   | (with_reducible refine LeO.bind ?_ (fun _ => ?_))
   | exact ih0 _ _ _ _
   | exact ih1 _ _ _ _ _ _
   | exact lines_Line.mono _ _ _
   | exact lines_Starts.mono _ _
   | exact recensionlaw7_begun.mono _
   | exact LeO.none _
   | refine LeO.ite ?_ ?_
   | refine LeO.bind ?_ (fun _ => ?_)
  ·intro y0 y1 y2 y3 y4 y5
   unfold recensionlaw7_LinesJoin.l1
   repeat' first
   | (with_reducible exact ih0 _ _ _ _)
   | (with_reducible exact ih1 _ _ _ _ _ _)
   | (with_reducible exact lines_Line.mono _ _ _)
   | (with_reducible exact lines_Starts.mono _ _)
   | (with_reducible exact recensionlaw7_begun.mono _)
   | (with_reducible exact LeO.refl _)
   | (with_reducible exact LeO.none _)
   | (with_reducible refine LeO.ite ?_ ?_)
   | (with_reducible refine LeO.bind ?_ (fun _ => ?_))
   | exact ih0 _ _ _ _
   | exact ih1 _ _ _ _ _ _
   | exact lines_Line.mono _ _ _
   | exact lines_Starts.mono _ _
   | exact recensionlaw7_begun.mono _
   | exact LeO.none _
   | refine LeO.ite ?_ ?_
   | refine LeO.bind ?_ (fun _ => ?_)
theorem recensionlaw7_LinesJoin.mono : ∀ a0 k, LeO (recensionlaw7_LinesJoin.f k a0) (recensionlaw7_LinesJoin.f (k + 1) a0) := by
 intro a0 k
 obtain ⟨ih0, ih1⟩ := recensionlaw7_LinesJoin.mono_l k
 unfold recensionlaw7_LinesJoin.f
 repeat' first
   | (with_reducible exact ih0 _ _ _ _)
   | (with_reducible exact ih1 _ _ _ _ _ _)
   | (with_reducible exact lines_Line.mono _ _ _)
   | (with_reducible exact lines_Starts.mono _ _)
   | (with_reducible exact recensionlaw7_begun.mono _)
   | (with_reducible exact LeO.refl _)
   | (with_reducible exact LeO.none _)
   | (with_reducible refine LeO.ite ?_ ?_)
   | (with_reducible refine LeO.bind ?_ (fun _ => ?_))
   | exact ih0 _ _ _ _
   | exact ih1 _ _ _ _ _ _
   | exact lines_Line.mono _ _ _
   | exact lines_Starts.mono _ _
   | exact recensionlaw7_begun.mono _
   | exact LeO.none _
   | refine LeO.ite ?_ ?_
   | refine LeO.bind ?_ (fun _ => ?_)
set_option maxHeartbeats 8000000 in
set_option maxRecDepth 100000 in
theorem recensionlaw7_LinesJoin.calls (k : Nat) (a0 : ByteArray) (r : Bool) (w : World) (hrt : Aside0 (r = true)) (h : recensionlaw7_LinesJoin.f k a0 = some r) :
  Calls Tryd.prog 4 #[.string a0] w fun e w' => e = .returned (.bool r) ∧ Below w.heap.size w w' := by
 have HB := Aside0.mk (Below.refl w.heap.size w)
 have H : ((recensionlaw7_begun.f k).bind fun t160 => (if t160 = true then ((recensionlaw3_Cut.f a0 200).bind fun t161 => ((lines_Starts.f k t161).bind fun t162 => (recensionlaw7_LinesJoin.l0 k t161 (t162.length : Int) (⟨#[]⟩ : ByteArray) 1))) else (some false))) = some r := h
 clear h
 replace H := Option.bind_eq_some_iff.mp H
 obtain ⟨t160, A20, H⟩ := H
 replace H : (if t160 = true then ((recensionlaw3_Cut.f a0 200).bind fun t161 => ((lines_Starts.f k t161).bind fun t162 => (recensionlaw7_LinesJoin.l0 k t161 (t162.length : Int) (⟨#[]⟩ : ByteArray) 1))) else (some false)) = some r := H
 have A2 := Aside0.mk A20
 clear A20
 by_cases c3 : t160 = true
 ·subst c3
  have H1 : ((recensionlaw3_Cut.f a0 200).bind fun t161 => ((lines_Starts.f k t161).bind fun t162 => (recensionlaw7_LinesJoin.l0 k t161 (t162.length : Int) (⟨#[]⟩ : ByteArray) 1))) = some r := by rw [if_pos rfl] at H; exact H
  clear H
  have H := H1
  clear H1
  replace H := Option.bind_eq_some_iff.mp H
  obtain ⟨t161, A40, H⟩ := H
  replace H : ((lines_Starts.f k t161).bind fun t162 => (recensionlaw7_LinesJoin.l0 k t161 (t162.length : Int) (⟨#[]⟩ : ByteArray) 1)) = some r := H
  have A4 := Aside0.mk A40
  clear A40
  replace H := Option.bind_eq_some_iff.mp H
  obtain ⟨t162, A50, H⟩ := H
  replace H : (recensionlaw7_LinesJoin.l0 k t161 (t162.length : Int) (⟨#[]⟩ : ByteArray) 1) = some r := H
  have A5 := Aside0.mk A50
  clear A50
  have H' := Aside0.mk H
  clear H
  go_enter Tryd.func4, Tryd.ntmps4
  go_wp2_with (first | ((with_reducible refine gate_callee (f := 7) rfl ?_); refine goesL_ (some 14) rfl rfl Tryd.func7 (by kernel_rfl) rfl #[] rfl (by (try simp only [List.map_toArray, List.map_cons, List.map_nil]); first | done | rfl | (simp only [List.length_drop, List.length_take]; rfl) | (simp only [wrap64_wl, wrap64_wr]; rfl)) ?_; (with_reducible refine (recensionlaw7_begun.calls k  true _ A2.out).mono ?_); rintro e w6 ⟨rfl, hb⟩; refine ⟨_, rfl, ?_⟩; have n0_ := Aside0.mk (below_step (by repeat (first | (with_reducible first | exact HB.out | apply below_alloc | apply pw_below_drewN | apply below_drew1) | exact HB.out)) hb); clear HB; have HB := n0_; clear n0_; (try clear hb); (try clear hb2); (try clear hk); (try clear hi)) | ((with_reducible refine gate_callee (f := 8) rfl ?_); refine goesL_ (some 18) rfl rfl Tryd.func8 (by kernel_rfl) rfl #[.string a0, .int .i64 200] rfl (by (try simp only [List.map_toArray, List.map_cons, List.map_nil]); first | done | rfl | (simp only [List.length_drop, List.length_take]; rfl) | (simp only [wrap64_wl, wrap64_wr]; rfl)) ?_; (with_reducible refine (recensionlaw3_Cut.calls a0 200 t161 _ A4.out).mono ?_); rintro e w' ⟨rfl, ⟨nd, rfl⟩⟩; refine ⟨_, rfl, ?_⟩) | ((with_reducible refine gate_callee (f := 9) rfl ?_); refine goesL_ (some 20) rfl rfl Tryd.func9 (by kernel_rfl) rfl #[.string t161] rfl (by (try simp only [List.map_toArray, List.map_cons, List.map_nil]); first | done | rfl | (simp only [List.length_drop, List.length_take]; rfl) | (simp only [wrap64_wl, wrap64_wr]; rfl)) ?_; (with_reducible refine (lines_Starts.calls k t161 t162 _ A5.out).mono ?_); rintro e w7 ⟨v163, rfl, ho0, hb⟩; refine ⟨_, rfl, ?_⟩; have n0_ := Aside0.mk (Kd.R_lower ho0 (below_size (by repeat (first | (with_reducible first | exact HB.out | apply below_alloc | apply pw_below_drewN | apply below_drew1) | exact HB.out)))); have n1_ := Aside0.mk (below_step (by repeat (first | (with_reducible first | exact HB.out | apply below_alloc | apply pw_below_drewN | apply below_drew1) | exact HB.out)) hb); clear HB; have HO164 := n0_; have HB := n1_; clear n0_ n1_; (try clear hb); (try clear hb2); (try clear hk); (try clear hi); (try clear ho0); obtain ⟨Ao8, co8, eo8⟩ := Kd.R_slice HO164.out; subst eo8))
  go_loopg [5, 6] k (fun kq v5 v6 w' => ∃ (x5_1 : ByteArray) (x6_1 : Int), v5 = .string x5_1 ∧ v6 = .int .i64 x6_1 ∧ Aside0 (recensionlaw7_LinesJoin.l0 kq t161 (t162.length : Int) x5_1 x6_1 = some r) ∧ Aside0 (kq ≤ k) ∧ Aside0 (Below w.heap.size w w'))
  case atStart => exact ⟨((⟨#[]⟩ : ByteArray)), (1), (by first | rfl | (simp; done) | (simp [*]; done)), (by first | rfl | (simp; done) | (simp [*]; done)), H', ⟨Nat.le_refl _⟩, ⟨by repeat (first | (with_reducible first | exact HB.out | apply below_alloc | apply pw_below_drewN | apply below_drew1) | exact HB.out)⟩⟩
  case round =>
   clear H'
   try clear p2
   try clear c3
   try clear c4
   try clear p6
   try clear c7
   try clear c8
   obtain ⟨x5_1, x6_1, rfl, rfl, HA, HK1, HB⟩ := hrel
   cases gk with
   | zero => exact absurd HA.out (by simp [recensionlaw7_LinesJoin.l0])
   | succ k1 =>
    have H := HA.out
    clear HA
    simp only [recensionlaw7_LinesJoin.l0] at H
    by_cases c9 : x6_1 ≤ (t162.length : Int)
    ·rw [if_pos c9] at H
     have c9b0 : decide (x6_1 ≤ (t162.length : Int)) = true := decide_eq_true c9
     clear c9
     replace H := Option.bind_eq_some_iff.mp H
     obtain ⟨⟨t169, t170⟩, A100, H⟩ := H
     replace H : (if t170 = true then (recensionlaw7_LinesJoin.l1 k1 t161 (t162.length : Int) x5_1 x6_1 t169 0) else (some false)) = some r := H
     have A10 := Aside0.mk A100
     clear A100
     by_cases c11 : t170 = true
     ·subst c11
      have H1 : (recensionlaw7_LinesJoin.l1 k1 t161 (t162.length : Int) x5_1 x6_1 t169 0) = some r := by rw [if_pos rfl] at H; exact H
      clear H
      have H := H1
      clear H1
      have H' := Aside0.mk H
      clear H
      go_wp2_with (first | ((with_reducible refine gate_callee (f := 12) rfl ?_); refine goesL_ (some 30) rfl rfl Tryd.func12 (by kernel_rfl) rfl #[.string t161, .int .i64 x6_1] rfl (by (try simp only [List.map_toArray, List.map_cons, List.map_nil]); first | done | rfl | (simp only [List.length_drop, List.length_take]; rfl) | (simp only [wrap64_wl, wrap64_wr]; rfl)) ?_; (with_reducible refine (lines_Line.calls k1 t161 x6_1 t169 true _ A10.out).mono ?_); rintro e w12 ⟨rfl, hb⟩; refine ⟨_, rfl, ?_⟩; have n0_ := Aside0.mk (below_step (by repeat (first | (with_reducible first | exact HB.out | apply below_alloc | apply pw_below_drewN | apply below_drew1) | exact HB.out)) hb); clear HB; have HB := n0_; clear n0_; (try clear hb); (try clear hb2); (try clear hk); (try clear hi)))
      go_loopg [9] k1 (fun kq v9 w' => ∃ (x9_2 : Int), v9 = .int .i64 x9_2 ∧ Aside0 (recensionlaw7_LinesJoin.l1 kq t161 (t162.length : Int) x5_1 x6_1 t169 x9_2 = some r) ∧ Aside0 (kq ≤ k1) ∧ Aside0 (Below w.heap.size w w'))
      case atStart => exact ⟨(0), (by first | rfl | (simp; done) | (simp [*]; done)), H', ⟨Nat.le_refl _⟩, ⟨by repeat (first | (with_reducible first | exact HB.out | apply below_alloc | apply pw_below_drewN | apply below_drew1) | exact HB.out)⟩⟩
      case round =>
       clear H'
       try clear c1
       try clear p2
       try clear c3
       try clear c4
       try clear p6
       try clear c7
       try clear c8
       try clear c9
       try clear c9b0
       try clear c11
       try clear c12
       try clear p2
       try clear p6
       obtain ⟨x9_2, rfl, HA, HK2, HB⟩ := hrel
       cases gk with
       | zero => exact absurd HA.out (by simp [recensionlaw7_LinesJoin.l1])
       | succ k2 =>
        have H := HA.out
        clear HA
        simp only [recensionlaw7_LinesJoin.l1] at H
        by_cases c13 : x9_2 < (t169.size : Int)
        ·rw [if_pos c13] at H
         have c13b0 : decide (x9_2 < (t169.size : Int)) = true := decide_eq_true c13
         clear c13
         by_cases c14 : 0 ≤ x9_2
         ·rw [if_pos c14] at H
          have c14b0 : decide (0 ≤ x9_2) = true := decide_eq_true c14
          clear c14
          by_cases c16 : (bt t169 x9_2) = 10
          ·rw [if_pos c16] at H
           have c16b0 : ((bt t169 x9_2) == 10) = true := beq_iff_eq.mpr c16
           have c16b1 : ((bt t169 x9_2) != 10) = false := bne_eq_false_iff_eq.mpr c16
           clear c16
           exact absurd (H.trans (congrArg some hrt.out)) (by simp)
          ·rw [if_neg c16] at H
           have c16b0 : ((bt t169 x9_2) == 10) = false := beq_eq_false_iff_ne.mpr c16
           have c16b1 : ((bt t169 x9_2) != 10) = true := bne_iff_ne.mpr c16
           have H' := Aside0.mk H
           clear H
           have p15 : 0 ≤ (x9_2 : Int) := of_decide_eq_true (by first | (with_reducible assumption) | assumption)
           have q15 : x9_2 < (t169.size : Int) := of_decide_eq_true (by first | (with_reducible assumption) | assumption)
           have hx15 := bt_at t169 x9_2
           replace p15 := eq_true p15
           replace q15 := eq_true q15
           go_wp2
           go_roundg k2
           case measure => have := HK1.out; have := HK2.out; omega
           case rel => exact ⟨(wrap64 (x9_2 + 1)), (by first | rfl | (simp; done) | (simp [*]; done)), H', ⟨by have := HK1.out; have := HK2.out; omega⟩, ⟨by repeat (first | (with_reducible first | exact HB.out | apply below_alloc | apply pw_below_drewN | apply below_drew1) | exact HB.out)⟩⟩
         ·rw [if_neg c14] at H
          exact absurd H (by simp)
        ·rw [if_neg c13] at H
         have c13b0 : decide (x9_2 < (t169.size : Int)) = false := decide_eq_false c13
         clear c13
         by_cases c17 : x6_1 > 1
         ·rw [if_pos c17] at H
          have c17b0 : decide (1 < x6_1) = true := decide_eq_true c17
          clear c17
          by_cases c18 : x5_1.size + 1 ≤ 9223372036854775807
          ·rw [if_pos c18] at H
           have c18b0 := eq_true c18
           have c18b1 : decide (x5_1.size + 1 ≤ 9223372036854775807) = true := decide_eq_true c18
           try have c18b2 : (9223372036854775807 < x5_1.size + 1) = False := eq_false (Nat.not_lt.2 c18)
           by_cases c19 : (x5_1 ++ (⟨#[10]⟩ : ByteArray)).size + t169.size ≤ 9223372036854775807
           ·rw [if_pos c19] at H
            have c19b0 := eq_true c19
            have c19b1 : decide ((x5_1 ++ (⟨#[10]⟩ : ByteArray)).size + t169.size ≤ 9223372036854775807) = true := decide_eq_true c19
            try have c19b2 : (9223372036854775807 < (x5_1 ++ (⟨#[10]⟩ : ByteArray)).size + t169.size) = False := eq_false (Nat.not_lt.2 c19)
            have H' := Aside0.mk H
            clear H
            go_wp2
            go_roundg k2
            case measure => have := HK1.out; have := HK2.out; omega
            case rel => exact ⟨((x5_1 ++ (⟨#[10]⟩ : ByteArray)) ++ t169), (wrap64 (x6_1 + 1)), (by first | rfl | (simp; done) | (simp [*]; done)), (by first | rfl | (simp; done) | (simp [*]; done)), H', ⟨by have := HK1.out; have := HK2.out; omega⟩, ⟨by repeat (first | (with_reducible first | exact HB.out | apply below_alloc | apply pw_below_drewN | apply below_drew1) | exact HB.out)⟩⟩
           ·rw [if_neg c19] at H
            exact absurd H (by simp)
          ·rw [if_neg c18] at H
           exact absurd H (by simp)
         ·rw [if_neg c17] at H
          have c17b0 : decide (1 < x6_1) = false := decide_eq_false c17
          clear c17
          by_cases c20 : x5_1.size + t169.size ≤ 9223372036854775807
          ·rw [if_pos c20] at H
           have c20b0 := eq_true c20
           have c20b1 : decide (x5_1.size + t169.size ≤ 9223372036854775807) = true := decide_eq_true c20
           try have c20b2 : (9223372036854775807 < x5_1.size + t169.size) = False := eq_false (Nat.not_lt.2 c20)
           have H' := Aside0.mk H
           clear H
           go_wp2
           go_roundg k2
           case measure => have := HK1.out; have := HK2.out; omega
           case rel => exact ⟨(x5_1 ++ t169), (wrap64 (x6_1 + 1)), (by first | rfl | (simp; done) | (simp [*]; done)), (by first | rfl | (simp; done) | (simp [*]; done)), H', ⟨by have := HK1.out; have := HK2.out; omega⟩, ⟨by repeat (first | (with_reducible first | exact HB.out | apply below_alloc | apply pw_below_drewN | apply below_drew1) | exact HB.out)⟩⟩
          ·rw [if_neg c20] at H
           exact absurd H (by simp)
     ·replace c11 := Bool.eq_false_iff.mpr c11
      subst c11
      have H1 : (some false) = some r := by rw [if_neg (show ¬ (false = true) by decide)] at H; exact H
      clear H
      have H := H1
      clear H1
      exact absurd (H.trans (congrArg some hrt.out)) (by simp)
    ·rw [if_neg c9] at H
     have c9b0 : decide (x6_1 ≤ (t162.length : Int)) = false := decide_eq_false c9
     clear c9
     replace H := Option.bind_eq_some_iff.mp H
     obtain ⟨⟨t165, t166⟩, A210, H⟩ := H
     replace H : ((lines_Line.f k1 t161 (wrap64 ((t162.length : Int) + 1))).bind fun bt167 => (if x5_1.toList = t161.toList then (if t166 = true then (some false) else (some (!bt167.2))) else (some false))) = some r := H
     have A21 := Aside0.mk A210
     clear A210
     replace H := Option.bind_eq_some_iff.mp H
     obtain ⟨⟨t167, t168⟩, A220, H⟩ := H
     replace H : (if x5_1.toList = t161.toList then (if t166 = true then (some false) else (some (!t168))) else (some false)) = some r := H
     have A22 := Aside0.mk A220
     clear A220
     by_cases c23 : x5_1.toList = t161.toList
     ·rw [if_pos c23] at H
      have c23b0 : (x5_1.toList == t161.toList) = true := beq_iff_eq.mpr c23
      have c23b1 : (x5_1.toList != t161.toList) = false := bne_eq_false_iff_eq.mpr c23
      clear c23
      by_cases c24 : t166 = true
      ·subst c24
       have H1 : (some false) = some r := by rw [if_pos rfl] at H; exact H
       clear H
       have H := H1
       clear H1
       exact absurd (H.trans (congrArg some hrt.out)) (by simp)
      ·replace c24 := Bool.eq_false_iff.mpr c24
       subst c24
       have H1 : (some (!t168)) = some r := by rw [if_neg (show ¬ (false = true) by decide)] at H; exact H
       clear H
       have H := H1
       clear H1
       obtain rfl := Option.some.inj H
       go_wp2_with (first | ((with_reducible refine gate_callee (f := 12) rfl ?_); refine goesL_ (some 54) rfl rfl Tryd.func12 (by kernel_rfl) rfl #[.string t161, .int .i64 0] rfl (by (try simp only [List.map_toArray, List.map_cons, List.map_nil]); first | done | rfl | (simp only [List.length_drop, List.length_take]; rfl) | (simp only [wrap64_wl, wrap64_wr]; rfl)) ?_; (with_reducible refine (lines_Line.calls k1 t161 0 t165 false _ A21.out).mono ?_); rintro e w25 ⟨rfl, hb⟩; refine ⟨_, rfl, ?_⟩; have n0_ := Aside0.mk (below_step (by repeat (first | (with_reducible first | exact HB.out | apply below_alloc | apply pw_below_drewN | apply below_drew1) | exact HB.out)) hb); clear HB; have HB := n0_; clear n0_; (try clear hb); (try clear hb2); (try clear hk); (try clear hi)) | ((with_reducible refine gate_callee (f := 12) rfl ?_); refine goesL_ (some 61) rfl rfl Tryd.func12 (by kernel_rfl) rfl #[.string t161, .int .i64 (wrap64 ((t162.length : Int) + 1))] rfl (by (try simp only [List.map_toArray, List.map_cons, List.map_nil]); first | done | rfl | (simp only [List.length_drop, List.length_take]; rfl) | (simp only [wrap64_wl, wrap64_wr]; rfl)) ?_; (with_reducible refine (lines_Line.calls k1 t161 (wrap64 ((t162.length : Int) + 1)) t167 t168 _ A22.out).mono ?_); rintro e w26 ⟨rfl, hb⟩; refine ⟨_, rfl, ?_⟩; have n0_ := Aside0.mk (below_step (by repeat (first | (with_reducible first | exact HB.out | apply below_alloc | apply pw_below_drewN | apply below_drew1) | exact HB.out)) hb); clear HB; have HB := n0_; clear n0_; (try clear hb); (try clear hb2); (try clear hk); (try clear hi)))
       go_ret
       exact ⟨by first | rfl | (simp [errW_none, errW_some] <;> rfl) | (simp [*, errW_none, errW_some] <;> rfl), by repeat (first | (with_reducible first | exact HB.out | apply below_alloc | apply pw_below_drewN | apply below_drew1) | exact HB.out)⟩
     ·rw [if_neg c23] at H
      have c23b0 : (x5_1.toList == t161.toList) = false := beq_eq_false_iff_ne.mpr c23
      have c23b1 : (x5_1.toList != t161.toList) = true := bne_iff_ne.mpr c23
      exact absurd (H.trans (congrArg some hrt.out)) (by simp)
 ·replace c3 := Bool.eq_false_iff.mpr c3
  subst c3
  have H1 : (some false) = some r := by rw [if_neg (show ¬ (false = true) by decide)] at H; exact H
  clear H
  have H := H1
  clear H1
  exact absurd (H.trans (congrArg some hrt.out)) (by simp)

/-- THE ONE PURE STATEMENT of recensionlaw7_LinesJoin: yours. -/
def recensionlaw7_LinesJoin.Pure : Prop := ∀ (a0 : ByteArray), a0.size ≤ 140737488351232 → ∃ k, recensionlaw7_LinesJoin.f k a0 = some true
theorem recensionlaw7_LinesJoin.walk (P : recensionlaw7_LinesJoin.Pure) (a0 : ByteArray) (w : World) (w0 : a0.size ≤ 140737488351232) :
  Calls Tryd.prog 4 #[.string a0] w fun e w' => e = .returned (.bool true) ∧ Below w.heap.size w w' := by
 obtain ⟨k, h⟩ := P a0 w0
 refine (recensionlaw7_LinesJoin.calls k a0 true w ⟨rfl⟩ h).mono ?_
 rintro e w' ⟨rfl, hd⟩
 exact ⟨rfl, hd⟩

end Go.Proofs.YthioodhmfclinaaDoor.PLinesJoin
