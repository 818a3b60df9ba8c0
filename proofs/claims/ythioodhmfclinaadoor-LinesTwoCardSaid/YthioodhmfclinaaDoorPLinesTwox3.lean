-- Written by myprint.py (the prover's own turn of the printer); not trusted: Lean checks it.
import Derived.Test.YthioodhmfclinaaDoorPLinesTwox0
import Derived.Test.YthioodhmfclinaaDoorPLinesTwox1
import Derived.Test.YthioodhmfclinaaDoorPLinesTwox2
namespace Go.Proofs.YthioodhmfclinaaDoor.PLinesTwo
open Go.RowKit Go.Proofs.YthioodhmfclinaaDoorW.PrintWords Go.Proofs.YthioodhmfclinaaDoorW.PrintLast Go.Proofs.YthioodhmfclinaaDoorW.PrintMore
attribute [local go_sem] max2_int min2_int max_two min_two max_three min_three max_four min_four   -- for this text's walks alone
set_option linter.unusedVariables false
set_option linter.unusedSimpArgs false

/-! ### recensionlaw7_LinesTwo: function 5 -/
def recensionlaw7_LinesTwo.j0 : Nat → ByteArray → ByteArray → Int → Bool → Option (Bool)
 | 0, _, _, _, _ => none
 | k + 1, x0, x1, x2, x27 => if x27 = true then (some true) else ((lines_Starts.f k x0).bind fun t163 => (if x0.size + 1 ≤ 9223372036854775807 then (if (x0 ++ (⟨#[10]⟩ : ByteArray)).size + x1.size ≤ 9223372036854775807 then ((lines_Of.f k ((x0 ++ (⟨#[10]⟩ : ByteArray)) ++ x1) (wrap64 ((wrap64 ((x0.size : Int) + 1)) + x2))).bind fun bt166 => ((lines_Of.f k x1 x2).bind fun bt168 => (if bt166.1 = (wrap64 ((t163.length : Int) + bt168.1)) then (some (bt166.2 == bt168.2)) else (some false)))) else (none)) else (none)))
def recensionlaw7_LinesTwo.f (k : Nat) (a0 : ByteArray) (a1 : ByteArray) (a2 : Int) : Option (Bool) := (recensionlaw7_begun.f k).bind fun t160 => (if t160 = true then ((recensionlaw3_Cut.f a0 60).bind fun t161 => ((recensionlaw3_Cut.f a1 60).bind fun t162 => (if a2 < 0 then (recensionlaw7_LinesTwo.j0 k t161 t162 a2 true) else (recensionlaw7_LinesTwo.j0 k t161 t162 a2 (decide (a2 > (t162.size : Int))))))) else (some false))
theorem recensionlaw7_LinesTwo.mono_l : ∀ k, (∀ y0 y1 y2 y3, LeO (recensionlaw7_LinesTwo.j0 k y0 y1 y2 y3) (recensionlaw7_LinesTwo.j0 (k + 1) y0 y1 y2 y3))
 | 0 => fun _ _ _ _ r h => by simp [recensionlaw7_LinesTwo.j0] at h
 | k + 1 => by
  have ih0 := recensionlaw7_LinesTwo.mono_l k
  ·intro y0 y1 y2 y3
   unfold recensionlaw7_LinesTwo.j0
   repeat' first
   | (with_reducible exact ih0 _ _ _ _)
   | (with_reducible exact lines_Of.mono _ _ _)
   | (with_reducible exact lines_Starts.mono _ _)
   | (with_reducible exact recensionlaw7_begun.mono _)
   | (with_reducible exact LeO.refl _)
   | (with_reducible exact LeO.none _)
   | (with_reducible refine LeO.ite ?_ ?_)
   | (with_reducible refine LeO.bind ?_ (fun _ => ?_))
   | exact ih0 _ _ _ _
   | exact lines_Of.mono _ _ _
   | exact lines_Starts.mono _ _
   | exact recensionlaw7_begun.mono _
   | exact LeO.none _
   | refine LeO.ite ?_ ?_
   | refine LeO.bind ?_ (fun _ => ?_)
theorem recensionlaw7_LinesTwo.mono : ∀ a0 a1 a2 k, LeO (recensionlaw7_LinesTwo.f k a0 a1 a2) (recensionlaw7_LinesTwo.f (k + 1) a0 a1 a2) := by
 intro a0 a1 a2 k
 have ih0 := recensionlaw7_LinesTwo.mono_l k
 unfold recensionlaw7_LinesTwo.f
 repeat' first
   | (with_reducible exact ih0 _ _ _ _)
   | (with_reducible exact lines_Of.mono _ _ _)
   | (with_reducible exact lines_Starts.mono _ _)
   | (with_reducible exact recensionlaw7_begun.mono _)
   | (with_reducible exact LeO.refl _)
   | (with_reducible exact LeO.none _)
   | (with_reducible refine LeO.ite ?_ ?_)
   | (with_reducible refine LeO.bind ?_ (fun _ => ?_))
   | exact ih0 _ _ _ _
   | exact lines_Of.mono _ _ _
   | exact lines_Starts.mono _ _
   | exact recensionlaw7_begun.mono _
   | exact LeO.none _
   | refine LeO.ite ?_ ?_
   | refine LeO.bind ?_ (fun _ => ?_)
set_option maxHeartbeats 8000000 in
set_option maxRecDepth 100000 in
theorem recensionlaw7_LinesTwo.calls (k : Nat) (a0 : ByteArray) (a1 : ByteArray) (a2 : Int) (r : Bool) (w : World) (hrt : Aside0 (r = true)) (h : recensionlaw7_LinesTwo.f k a0 a1 a2 = some r) :
  Calls Tryd.prog 5 #[.string a0, .string a1, .int .i64 a2] w fun e w' => e = .returned (.bool r) ∧ Below w.heap.size w w' := by
 have HB := Aside0.mk (Below.refl w.heap.size w)
 have H : ((recensionlaw7_begun.f k).bind fun t160 => (if t160 = true then ((recensionlaw3_Cut.f a0 60).bind fun t161 => ((recensionlaw3_Cut.f a1 60).bind fun t162 => (if a2 < 0 then (recensionlaw7_LinesTwo.j0 k t161 t162 a2 true) else (recensionlaw7_LinesTwo.j0 k t161 t162 a2 (decide (a2 > (t162.size : Int))))))) else (some false))) = some r := h
 clear h
 replace H := Option.bind_eq_some_iff.mp H
 obtain ⟨t160, A40, H⟩ := H
 replace H : (if t160 = true then ((recensionlaw3_Cut.f a0 60).bind fun t161 => ((recensionlaw3_Cut.f a1 60).bind fun t162 => (if a2 < 0 then (recensionlaw7_LinesTwo.j0 k t161 t162 a2 true) else (recensionlaw7_LinesTwo.j0 k t161 t162 a2 (decide (a2 > (t162.size : Int))))))) else (some false)) = some r := H
 have A4 := Aside0.mk A40
 clear A40
 by_cases c5 : t160 = true
 ·subst c5
  have H1 : ((recensionlaw3_Cut.f a0 60).bind fun t161 => ((recensionlaw3_Cut.f a1 60).bind fun t162 => (if a2 < 0 then (recensionlaw7_LinesTwo.j0 k t161 t162 a2 true) else (recensionlaw7_LinesTwo.j0 k t161 t162 a2 (decide (a2 > (t162.size : Int))))))) = some r := by rw [if_pos rfl] at H; exact H
  clear H
  have H := H1
  clear H1
  replace H := Option.bind_eq_some_iff.mp H
  obtain ⟨t161, A60, H⟩ := H
  replace H : ((recensionlaw3_Cut.f a1 60).bind fun t162 => (if a2 < 0 then (recensionlaw7_LinesTwo.j0 k t161 t162 a2 true) else (recensionlaw7_LinesTwo.j0 k t161 t162 a2 (decide (a2 > (t162.size : Int)))))) = some r := H
  have A6 := Aside0.mk A60
  clear A60
  replace H := Option.bind_eq_some_iff.mp H
  obtain ⟨t162, A70, H⟩ := H
  replace H : (if a2 < 0 then (recensionlaw7_LinesTwo.j0 k t161 t162 a2 true) else (recensionlaw7_LinesTwo.j0 k t161 t162 a2 (decide (a2 > (t162.size : Int))))) = some r := H
  have A7 := Aside0.mk A70
  clear A70
  have HC8 := Aside0.mk H
  clear H
  go_enter Tryd.func5, Tryd.ntmps5
  go_upto_region 5 with (first | ((with_reducible refine gate_callee (f := 7) rfl ?_); refine goesL_ (some 13) rfl rfl Tryd.func7 (by kernel_rfl) rfl #[] rfl (by (try simp only [List.map_toArray, List.map_cons, List.map_nil]); first | done | rfl | (simp only [List.length_drop, List.length_take]; rfl) | (simp only [wrap64_wl, wrap64_wr]; rfl)) ?_; (with_reducible refine (recensionlaw7_begun.calls k  true _ A4.out).mono ?_); rintro e w9 ⟨rfl, hb⟩; refine ⟨_, rfl, ?_⟩; have n0_ := Aside0.mk (below_step (by repeat (first | (with_reducible first | exact HB.out | apply below_alloc | apply pw_below_drewN | apply below_drew1) | exact HB.out)) hb); clear HB; have HB := n0_; clear n0_; (try clear hb); (try clear hb2); (try clear hk); (try clear hi)) | ((with_reducible refine gate_callee (f := 8) rfl ?_); refine goesL_ (some 17) rfl rfl Tryd.func8 (by kernel_rfl) rfl #[.string a0, .int .i64 60] rfl (by (try simp only [List.map_toArray, List.map_cons, List.map_nil]); first | done | rfl | (simp only [List.length_drop, List.length_take]; rfl) | (simp only [wrap64_wl, wrap64_wr]; rfl)) ?_; (with_reducible refine (recensionlaw3_Cut.calls a0 60 t161 _ A6.out).mono ?_); rintro e w' ⟨rfl, ⟨nd, rfl⟩⟩; refine ⟨_, rfl, ?_⟩) | ((with_reducible refine gate_callee (f := 8) rfl ?_); refine goesL_ (some 19) rfl rfl Tryd.func8 (by kernel_rfl) rfl #[.string a1, .int .i64 60] rfl (by (try simp only [List.map_toArray, List.map_cons, List.map_nil]); first | done | rfl | (simp only [List.length_drop, List.length_take]; rfl) | (simp only [wrap64_wl, wrap64_wr]; rfl)) ?_; (with_reducible refine (recensionlaw3_Cut.calls a1 60 t162 _ A7.out).mono ?_); rintro e w' ⟨rfl, ⟨nd, rfl⟩⟩; refine ⟨_, rfl, ?_⟩))
  (try simp only [Act.put, List.setIfInBounds_toArray, List.set_cons_zero, List.set_cons_succ])
  go_cut [27] (fun v27 wc => ∃ (kq : Nat) (x27_7 : Bool), v27 = .bool x27_7 ∧ Aside0 (recensionlaw7_LinesTwo.j0 kq t161 t162 a2 x27_7 = some r) ∧ Aside0 (kq ≤ k) ∧ Aside0 (Below w.heap.size w wc))
  case first =>
   have H := HC8.out
   clear HC8
   by_cases c10 : a2 < 0
   ·rw [if_pos c10] at H
    have c10b0 : decide (a2 < 0) = true := decide_eq_true c10
    clear c10
    (first | rw [c10b0] | (simp only [i64_w, i32_w]; rw [c10b0]) | skip)
    have H' := Aside0.mk H
    clear H
    go_wp2
    go_meet
    case rel => exact ⟨_, (true), (by first | rfl | (simp; done) | (simp [*]; done)), H', ⟨by first | omega | exact Nat.le_refl _⟩, ⟨by repeat (first | (with_reducible first | exact HB.out | apply below_alloc | apply pw_below_drewN | apply below_drew1) | exact HB.out)⟩⟩
   ·rw [if_neg c10] at H
    have c10b0 : decide (a2 < 0) = false := decide_eq_false c10
    clear c10
    (first | rw [c10b0] | (simp only [i64_w, i32_w]; rw [c10b0]) | skip)
    have H' := Aside0.mk H
    clear H
    go_wp2
    go_meet
    case rel => exact ⟨_, (decide (a2 > (t162.size : Int))), (by first | rfl | (simp; done) | (simp [*]; done)), H', ⟨by first | omega | exact Nat.le_refl _⟩, ⟨by repeat (first | (with_reducible first | exact HB.out | apply below_alloc | apply pw_below_drewN | apply below_drew1) | exact HB.out)⟩⟩
  case rest =>
   clear HC8
   try clear c1
   try clear p2
   try clear c5
   try clear p6
   try clear c7
   try clear c8
   try clear c10
   try clear c10b0
   obtain ⟨kq, x27_7, rfl, HA, HJ7, HB⟩ := hcut
   cases kq with
   | zero => exact absurd HA.out (by simp [recensionlaw7_LinesTwo.j0])
   | succ kj7 =>
    have H := HA.out
    clear HA
    simp only [recensionlaw7_LinesTwo.j0] at H
    by_cases c11 : x27_7 = true
    ·subst c11
     have H1 : (some true) = some r := by rw [if_pos rfl] at H; exact H
     clear H
     have H := H1
     clear H1
     obtain rfl := Option.some.inj H
     go_wp2
     go_ret
     exact ⟨by first | rfl | (simp [errW_none, errW_some] <;> rfl) | (simp [*, errW_none, errW_some] <;> rfl), by repeat (first | (with_reducible first | exact HB.out | apply below_alloc | apply pw_below_drewN | apply below_drew1) | exact HB.out)⟩
    ·replace c11 := Bool.eq_false_iff.mpr c11
     subst c11
     have H1 : ((lines_Starts.f kj7 t161).bind fun t163 => (if t161.size + 1 ≤ 9223372036854775807 then (if (t161 ++ (⟨#[10]⟩ : ByteArray)).size + t162.size ≤ 9223372036854775807 then ((lines_Of.f kj7 ((t161 ++ (⟨#[10]⟩ : ByteArray)) ++ t162) (wrap64 ((wrap64 ((t161.size : Int) + 1)) + a2))).bind fun bt166 => ((lines_Of.f kj7 t162 a2).bind fun bt168 => (if bt166.1 = (wrap64 ((t163.length : Int) + bt168.1)) then (some (bt166.2 == bt168.2)) else (some false)))) else (none)) else (none))) = some r := by rw [if_neg (show ¬ (false = true) by decide)] at H; exact H
     clear H
     have H := H1
     clear H1
     replace H := Option.bind_eq_some_iff.mp H
     obtain ⟨t163, A120, H⟩ := H
     replace H : (if t161.size + 1 ≤ 9223372036854775807 then (if (t161 ++ (⟨#[10]⟩ : ByteArray)).size + t162.size ≤ 9223372036854775807 then ((lines_Of.f kj7 ((t161 ++ (⟨#[10]⟩ : ByteArray)) ++ t162) (wrap64 ((wrap64 ((t161.size : Int) + 1)) + a2))).bind fun bt166 => ((lines_Of.f kj7 t162 a2).bind fun bt168 => (if bt166.1 = (wrap64 ((t163.length : Int) + bt168.1)) then (some (bt166.2 == bt168.2)) else (some false)))) else (none)) else (none)) = some r := H
     have A12 := Aside0.mk A120
     clear A120
     by_cases c13 : t161.size + 1 ≤ 9223372036854775807
     ·rw [if_pos c13] at H
      have c13b0 := eq_true c13
      have c13b1 : decide (t161.size + 1 ≤ 9223372036854775807) = true := decide_eq_true c13
      try have c13b2 : (9223372036854775807 < t161.size + 1) = False := eq_false (Nat.not_lt.2 c13)
      by_cases c14 : (t161 ++ (⟨#[10]⟩ : ByteArray)).size + t162.size ≤ 9223372036854775807
      ·rw [if_pos c14] at H
       have c14b0 := eq_true c14
       have c14b1 : decide ((t161 ++ (⟨#[10]⟩ : ByteArray)).size + t162.size ≤ 9223372036854775807) = true := decide_eq_true c14
       try have c14b2 : (9223372036854775807 < (t161 ++ (⟨#[10]⟩ : ByteArray)).size + t162.size) = False := eq_false (Nat.not_lt.2 c14)
       replace H := Option.bind_eq_some_iff.mp H
       obtain ⟨⟨t166, t167⟩, A150, H⟩ := H
       replace H : ((lines_Of.f kj7 t162 a2).bind fun bt168 => (if t166 = (wrap64 ((t163.length : Int) + bt168.1)) then (some (t167 == bt168.2)) else (some false))) = some r := H
       have A15 := Aside0.mk A150
       clear A150
       replace H := Option.bind_eq_some_iff.mp H
       obtain ⟨⟨t168, t169⟩, A160, H⟩ := H
       replace H : (if t166 = (wrap64 ((t163.length : Int) + t168)) then (some (t167 == t169)) else (some false)) = some r := H
       have A16 := Aside0.mk A160
       clear A160
       by_cases c17 : t166 = (wrap64 ((t163.length : Int) + t168))
       ·rw [if_pos c17] at H
        have c17b0 : (t166 == (wrap64 ((t163.length : Int) + t168))) = true := beq_iff_eq.mpr c17
        have c17b1 : (t166 != (wrap64 ((t163.length : Int) + t168))) = false := bne_eq_false_iff_eq.mpr c17
        clear c17
        obtain rfl := Option.some.inj H
        go_wp2_with (first | ((with_reducible refine gate_callee (f := 9) rfl ?_); refine goesL_ (some 29) rfl rfl Tryd.func9 (by kernel_rfl) rfl #[.string t161] rfl (by (try simp only [List.map_toArray, List.map_cons, List.map_nil]); first | done | rfl | (simp only [List.length_drop, List.length_take]; rfl) | (simp only [wrap64_wl, wrap64_wr]; rfl)) ?_; (with_reducible refine (lines_Starts.calls kj7 t161 t163 _ A12.out).mono ?_); rintro e w18 ⟨v164, rfl, ho0, hb⟩; refine ⟨_, rfl, ?_⟩; have n0_ := Aside0.mk (Kd.R_lower ho0 (below_size (by repeat (first | (with_reducible first | exact HB.out | apply below_alloc | apply pw_below_drewN | apply below_drew1) | exact HB.out)))); have n1_ := Aside0.mk (below_step (by repeat (first | (with_reducible first | exact HB.out | apply below_alloc | apply pw_below_drewN | apply below_drew1) | exact HB.out)) hb); clear HB; have HO165 := n0_; have HB := n1_; clear n0_ n1_; (try clear hb); (try clear hb2); (try clear hk); (try clear hi); (try clear ho0); obtain ⟨Ao19, co19, eo19⟩ := Kd.R_slice HO165.out; subst eo19) | ((with_reducible refine gate_callee (f := 10) rfl ?_); refine goesL_ (some 41) rfl rfl Tryd.func10 (by kernel_rfl) rfl #[.string ((t161 ++ (⟨#[10]⟩ : ByteArray)) ++ t162), .int .i64 (wrap64 ((wrap64 ((t161.size : Int) + 1)) + a2))] rfl (by (try simp only [List.map_toArray, List.map_cons, List.map_nil]); first | done | rfl | (simp only [List.length_drop, List.length_take]; rfl) | (simp only [wrap64_wl, wrap64_wr]; rfl)) ?_; (with_reducible refine (lines_Of.calls kj7 ((t161 ++ (⟨#[10]⟩ : ByteArray)) ++ t162) (wrap64 ((wrap64 ((t161.size : Int) + 1)) + a2)) t166 t167 _ A15.out).mono ?_); rintro e w20 ⟨rfl, hb⟩; refine ⟨_, rfl, ?_⟩; have n0_ := Aside0.mk (Kd.R_below (by (with_reducible repeat (first | apply Kd.R_alloc | apply Kd.R_drewN | apply Kd.R_drew)); exact HO165.out) hb); have n1_ := Aside0.mk (below_step (by repeat (first | (with_reducible first | exact HB.out | apply below_alloc | apply pw_below_drewN | apply below_drew1) | exact HB.out)) hb); clear HO165; clear HB; have HO165 := n0_; have HB := n1_; clear n0_ n1_; (try clear hb); (try clear hb2); (try clear hk); (try clear hi)) | ((with_reducible refine gate_callee (f := 10) rfl ?_); refine goesL_ (some 47) rfl rfl Tryd.func10 (by kernel_rfl) rfl #[.string t162, .int .i64 a2] rfl (by (try simp only [List.map_toArray, List.map_cons, List.map_nil]); first | done | rfl | (simp only [List.length_drop, List.length_take]; rfl) | (simp only [wrap64_wl, wrap64_wr]; rfl)) ?_; (with_reducible refine (lines_Of.calls kj7 t162 a2 t168 t169 _ A16.out).mono ?_); rintro e w21 ⟨rfl, hb⟩; refine ⟨_, rfl, ?_⟩; have n0_ := Aside0.mk (Kd.R_below (by (with_reducible repeat (first | apply Kd.R_alloc | apply Kd.R_drewN | apply Kd.R_drew)); exact HO165.out) hb); have n1_ := Aside0.mk (below_step (by repeat (first | (with_reducible first | exact HB.out | apply below_alloc | apply pw_below_drewN | apply below_drew1) | exact HB.out)) hb); clear HO165; clear HB; have HO165 := n0_; have HB := n1_; clear n0_ n1_; (try clear hb); (try clear hb2); (try clear hk); (try clear hi)))
        go_ret
        exact ⟨by first | rfl | (simp [errW_none, errW_some] <;> rfl) | (simp [*, errW_none, errW_some] <;> rfl), by repeat (first | (with_reducible first | exact HB.out | apply below_alloc | apply pw_below_drewN | apply below_drew1) | exact HB.out)⟩
       ·rw [if_neg c17] at H
        have c17b0 : (t166 == (wrap64 ((t163.length : Int) + t168))) = false := beq_eq_false_iff_ne.mpr c17
        have c17b1 : (t166 != (wrap64 ((t163.length : Int) + t168))) = true := bne_iff_ne.mpr c17
        exact absurd (H.trans (congrArg some hrt.out)) (by simp)
      ·rw [if_neg c14] at H
       exact absurd H (by simp)
     ·rw [if_neg c13] at H
      exact absurd H (by simp)
 ·replace c5 := Bool.eq_false_iff.mpr c5
  subst c5
  have H1 : (some false) = some r := by rw [if_neg (show ¬ (false = true) by decide)] at H; exact H
  clear H
  have H := H1
  clear H1
  exact absurd (H.trans (congrArg some hrt.out)) (by simp)

/-- THE ONE PURE STATEMENT of recensionlaw7_LinesTwo: yours. -/
def recensionlaw7_LinesTwo.Pure : Prop := ∀ (a0 : ByteArray) (a1 : ByteArray) (a2 : Int), a0.size ≤ 140737488351232 → a1.size ≤ 140737488351232 → (Lit.int .i64 a2).wf = true → ∃ k, recensionlaw7_LinesTwo.f k a0 a1 a2 = some true
theorem recensionlaw7_LinesTwo.walk (P : recensionlaw7_LinesTwo.Pure) (a0 : ByteArray) (a1 : ByteArray) (a2 : Int) (w : World) (w0 : a0.size ≤ 140737488351232) (w1 : a1.size ≤ 140737488351232) (w2 : (Lit.int .i64 a2).wf = true) :
  Calls Tryd.prog 5 #[.string a0, .string a1, .int .i64 a2] w fun e w' => e = .returned (.bool true) ∧ Below w.heap.size w w' := by
 obtain ⟨k, h⟩ := P a0 a1 a2 w0 w1 w2
 refine (recensionlaw7_LinesTwo.calls k a0 a1 a2 true w ⟨rfl⟩ h).mono ?_
 rintro e w' ⟨rfl, hd⟩
 exact ⟨rfl, hd⟩

end Go.Proofs.YthioodhmfclinaaDoor.PLinesTwo
