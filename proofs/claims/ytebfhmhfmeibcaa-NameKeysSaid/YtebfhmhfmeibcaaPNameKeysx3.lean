-- PRINTED BY print.sh 35421559b90ae4d0a3588c463048766b98c2df88dd9212a6774a882060cdf62d: not written by this session
import Derived.Test.YtebfhmhfmeibcaaPNameKeysx0
import Derived.Test.YtebfhmhfmeibcaaPNameKeysx1
import Derived.Test.YtebfhmhfmeibcaaPNameKeysx2
namespace Go.Proofs.Ytebfhmhfmeibcaa.PNameKeys
open Go.RowKit Go.Proofs.YtebfhmhfmeibcaaW.PrintWords Go.Proofs.YtebfhmhfmeibcaaW.PrintLast Go.Proofs.YtebfhmhfmeibcaaW.PrintMore
attribute [local go_sem] max2_int min2_int max_two min_two max_three min_three max_four min_four   -- for this text's walks alone
set_option linter.unusedVariables false
set_option linter.unusedSimpArgs false

/-! ### recensionlaw4_NameKeys: function 6 -/
def recensionlaw4_NameKeys.j0 : Nat → ByteArray → Bool → Option (Bool)
  | 0, _, _ => none
  | k + 1, x0, x20 => if x20 = true then (some false) else ((name_Key.f x0).bind fun t126 => (if t126 = true then ((name_Is.f k x0).bind fun t127 => (if t127 = true then (some false) else (if x0.size + 1 ≤ 9223372036854775807 then ((name_Is.f k (x0 ++ (⟨#[120]⟩ : ByteArray))).bind fun t128 => (if t128 = true then ((name_Key.f (x0 ++ (⟨#[120]⟩ : ByteArray))).bind fun t129 => (some (!t129))) else (some false))) else (none)))) else (some true)))
def recensionlaw4_NameKeys.f (k : Nat) (a0 : ByteArray) : Option (Bool) := (recensionlaw4_begun.f k).bind fun t121 => (if t121 = true then ((recensionlaw3_Cut.f a0 30).bind fun t122 => ((name_World.f k t122).bind fun t123 => (if t123 ≥ 0 then ((name_Is.f k t122).bind fun t124 => (if t124 = true then ((name_Key.f t122).bind fun t125 => (recensionlaw4_NameKeys.j0 k t122 t125)) else (recensionlaw4_NameKeys.j0 k t122 true))) else (recensionlaw4_NameKeys.j0 k t122 false)))) else (some false))
theorem recensionlaw4_NameKeys.mono_l : ∀ k, (∀ y0 y1, LeO (recensionlaw4_NameKeys.j0 k y0 y1) (recensionlaw4_NameKeys.j0 (k + 1) y0 y1))
  | 0 => fun _ _ r h => by simp [recensionlaw4_NameKeys.j0] at h
  | k + 1 => by
    have ih0 := recensionlaw4_NameKeys.mono_l k
    · intro y0 y1
      unfold recensionlaw4_NameKeys.j0
      repeat' first
      | (with_reducible exact ih0 _ _)
      | (with_reducible exact name_Is.mono _ _)
      | (with_reducible exact name_World.mono _ _)
      | (with_reducible exact recensionlaw4_begun.mono _)
      | (with_reducible exact LeO.refl _)
      | (with_reducible exact LeO.none _)
      | (with_reducible refine LeO.ite ?_ ?_)
      | (with_reducible refine LeO.bind ?_ (fun _ => ?_))
      | exact ih0 _ _
      | exact name_Is.mono _ _
      | exact name_World.mono _ _
      | exact recensionlaw4_begun.mono _
      | exact LeO.none _
      | refine LeO.ite ?_ ?_
      | refine LeO.bind ?_ (fun _ => ?_)
theorem recensionlaw4_NameKeys.mono : ∀ a0 k, LeO (recensionlaw4_NameKeys.f k a0) (recensionlaw4_NameKeys.f (k + 1) a0) := by
  intro a0 k
  have ih0 := recensionlaw4_NameKeys.mono_l k
  unfold recensionlaw4_NameKeys.f
  repeat' first
      | (with_reducible exact ih0 _ _)
      | (with_reducible exact name_Is.mono _ _)
      | (with_reducible exact name_World.mono _ _)
      | (with_reducible exact recensionlaw4_begun.mono _)
      | (with_reducible exact LeO.refl _)
      | (with_reducible exact LeO.none _)
      | (with_reducible refine LeO.ite ?_ ?_)
      | (with_reducible refine LeO.bind ?_ (fun _ => ?_))
      | exact ih0 _ _
      | exact name_Is.mono _ _
      | exact name_World.mono _ _
      | exact recensionlaw4_begun.mono _
      | exact LeO.none _
      | refine LeO.ite ?_ ?_
      | refine LeO.bind ?_ (fun _ => ?_)
set_option maxHeartbeats 8000000 in
set_option maxRecDepth 100000 in
theorem recensionlaw4_NameKeys.calls (k : Nat) (a0 : ByteArray) (r : Bool) (w : World) (h : recensionlaw4_NameKeys.f k a0 = some r) :
    Calls Try.prog 6 #[.string a0] w fun e w' => e = .returned (.bool r) ∧ Below w.heap.size w w' := by
  have HB := Aside0.mk (Below.refl w.heap.size w)
  have H : ((recensionlaw4_begun.f k).bind fun t121 => (if t121 = true then ((recensionlaw3_Cut.f a0 30).bind fun t122 => ((name_World.f k t122).bind fun t123 => (if t123 ≥ 0 then ((name_Is.f k t122).bind fun t124 => (if t124 = true then ((name_Key.f t122).bind fun t125 => (recensionlaw4_NameKeys.j0 k t122 t125)) else (recensionlaw4_NameKeys.j0 k t122 true))) else (recensionlaw4_NameKeys.j0 k t122 false)))) else (some false))) = some r := h
  clear h
  replace H := Option.bind_eq_some_iff.mp H
  obtain ⟨t121, A20, H⟩ := H
  replace H : (if t121 = true then ((recensionlaw3_Cut.f a0 30).bind fun t122 => ((name_World.f k t122).bind fun t123 => (if t123 ≥ 0 then ((name_Is.f k t122).bind fun t124 => (if t124 = true then ((name_Key.f t122).bind fun t125 => (recensionlaw4_NameKeys.j0 k t122 t125)) else (recensionlaw4_NameKeys.j0 k t122 true))) else (recensionlaw4_NameKeys.j0 k t122 false)))) else (some false)) = some r := H
  have A2 := Aside0.mk A20
  clear A20
  by_cases c3 : t121 = true
  · subst c3
    have H1 : ((recensionlaw3_Cut.f a0 30).bind fun t122 => ((name_World.f k t122).bind fun t123 => (if t123 ≥ 0 then ((name_Is.f k t122).bind fun t124 => (if t124 = true then ((name_Key.f t122).bind fun t125 => (recensionlaw4_NameKeys.j0 k t122 t125)) else (recensionlaw4_NameKeys.j0 k t122 true))) else (recensionlaw4_NameKeys.j0 k t122 false)))) = some r := by rw [if_pos rfl] at H; exact H
    clear H
    have H := H1
    clear H1
    replace H := Option.bind_eq_some_iff.mp H
    obtain ⟨t122, A40, H⟩ := H
    replace H : ((name_World.f k t122).bind fun t123 => (if t123 ≥ 0 then ((name_Is.f k t122).bind fun t124 => (if t124 = true then ((name_Key.f t122).bind fun t125 => (recensionlaw4_NameKeys.j0 k t122 t125)) else (recensionlaw4_NameKeys.j0 k t122 true))) else (recensionlaw4_NameKeys.j0 k t122 false))) = some r := H
    have A4 := Aside0.mk A40
    clear A40
    have HC5 := Aside0.mk H
    clear H
    go_enter Try.func6, Try.ntmps6
    go_upto_region 5 with (first | ((with_reducible refine gate_callee (f := 7) rfl ?_); refine goesL_ (some 4) rfl rfl Try.func7 (by kernel_rfl) rfl #[] rfl (by (try simp only [List.map_toArray, List.map_cons, List.map_nil]); first | done | rfl | (simp only [List.length_drop, List.length_take]; rfl)) ?_; (with_reducible refine (recensionlaw4_begun.calls k  true _ A2.out).mono ?_); rintro e w6 ⟨rfl, hb⟩; refine ⟨_, rfl, ?_⟩; have n0_ := Aside0.mk (below_step (by repeat (first | (with_reducible first | exact HB.out | apply below_alloc | apply pw_below_drewN | apply below_drew1) | exact HB.out)) hb); clear HB; have HB := n0_; clear n0_; (try clear hb); (try clear hb2); (try clear hk); (try clear hi)) | ((with_reducible refine gate_callee (f := 8) rfl ?_); refine goesL_ (some 8) rfl rfl Try.func8 (by kernel_rfl) rfl #[.string a0, .int .i64 30] rfl (by (try simp only [List.map_toArray, List.map_cons, List.map_nil]); first | done | rfl | (simp only [List.length_drop, List.length_take]; rfl)) ?_; (with_reducible refine (recensionlaw3_Cut.calls a0 30 t122 _ A4.out).mono ?_); rintro e w' ⟨rfl, ⟨nd, rfl⟩⟩; refine ⟨_, rfl, ?_⟩))
    (try simp only [Act.put, List.setIfInBounds_toArray, List.set_cons_zero, List.set_cons_succ])
    go_cut [20] (fun v20 wc => ∃ (kq : Nat) (x20_4 : Bool), v20 = .bool x20_4 ∧ Aside0 (recensionlaw4_NameKeys.j0 kq t122 x20_4 = some r) ∧ Aside0 (kq ≤ k) ∧ Aside0 (Below w.heap.size w wc))
    case first =>
      have H := HC5.out
      clear HC5
      replace H := Option.bind_eq_some_iff.mp H
      obtain ⟨t123, A70, H⟩ := H
      replace H : (if t123 ≥ 0 then ((name_Is.f k t122).bind fun t124 => (if t124 = true then ((name_Key.f t122).bind fun t125 => (recensionlaw4_NameKeys.j0 k t122 t125)) else (recensionlaw4_NameKeys.j0 k t122 true))) else (recensionlaw4_NameKeys.j0 k t122 false)) = some r := H
      have A7 := Aside0.mk A70
      clear A70
      by_cases c8 : t123 ≥ 0
      · rw [if_pos c8] at H
        have c8b0 : decide (0 ≤ t123) = true := decide_eq_true c8
        clear c8
        (first | rw [c8b0] | (simp only [i64_w, i32_w]; rw [c8b0]) | skip)
        replace H := Option.bind_eq_some_iff.mp H
        obtain ⟨t124, A90, H⟩ := H
        replace H : (if t124 = true then ((name_Key.f t122).bind fun t125 => (recensionlaw4_NameKeys.j0 k t122 t125)) else (recensionlaw4_NameKeys.j0 k t122 true)) = some r := H
        have A9 := Aside0.mk A90
        clear A90
        by_cases c10 : t124 = true
        · subst c10
          have H1 : ((name_Key.f t122).bind fun t125 => (recensionlaw4_NameKeys.j0 k t122 t125)) = some r := by rw [if_pos rfl] at H; exact H
          clear H
          have H := H1
          clear H1
          replace H := Option.bind_eq_some_iff.mp H
          obtain ⟨t125, A110, H⟩ := H
          replace H : (recensionlaw4_NameKeys.j0 k t122 t125) = some r := H
          have A11 := Aside0.mk A110
          clear A110
          have H' := Aside0.mk H
          clear H
          go_wp2_with (first | ((with_reducible refine gate_callee (f := 13) rfl ?_); refine goesL_ (some 10) rfl rfl Try.func13 (by kernel_rfl) rfl #[.string t122] rfl (by (try simp only [List.map_toArray, List.map_cons, List.map_nil]); first | done | rfl | (simp only [List.length_drop, List.length_take]; rfl)) ?_; (with_reducible refine (name_World.calls k t122 t123 _ A7.out).mono ?_); rintro e w12 ⟨rfl, hb⟩; refine ⟨_, rfl, ?_⟩; have n0_ := Aside0.mk (below_step (by repeat (first | (with_reducible first | exact HB.out | apply below_alloc | apply pw_below_drewN | apply below_drew1) | exact HB.out)) hb); clear HB; have HB := n0_; clear n0_; (try clear hb); (try clear hb2); (try clear hk); (try clear hi)) | (go_at_call 9; (with_reducible refine (name_Is.calls k t122 true _ A9.out).mono ?_); rintro e w' ⟨rfl, ⟨nd, rfl⟩⟩) | (go_at_call 11; (with_reducible refine (name_Key.calls t122 t125 _ A11.out).mono ?_); rintro e w' ⟨rfl, ⟨nd, rfl⟩⟩))
          go_meet
          case rel => exact ⟨_, (t125), (by first | rfl | (simp; done) | (simp [*]; done)), H', ⟨by first | omega | exact Nat.le_refl _⟩, ⟨by repeat (first | (with_reducible first | exact HB.out | apply below_alloc | apply pw_below_drewN | apply below_drew1) | exact HB.out)⟩⟩
        · replace c10 := Bool.eq_false_iff.mpr c10
          subst c10
          have H1 : (recensionlaw4_NameKeys.j0 k t122 true) = some r := by rw [if_neg (show ¬ (false = true) by decide)] at H; exact H
          clear H
          have H := H1
          clear H1
          have H' := Aside0.mk H
          clear H
          go_wp2_with (first | ((with_reducible refine gate_callee (f := 13) rfl ?_); refine goesL_ (some 10) rfl rfl Try.func13 (by kernel_rfl) rfl #[.string t122] rfl (by (try simp only [List.map_toArray, List.map_cons, List.map_nil]); first | done | rfl | (simp only [List.length_drop, List.length_take]; rfl)) ?_; (with_reducible refine (name_World.calls k t122 t123 _ A7.out).mono ?_); rintro e w13 ⟨rfl, hb⟩; refine ⟨_, rfl, ?_⟩; have n0_ := Aside0.mk (below_step (by repeat (first | (with_reducible first | exact HB.out | apply below_alloc | apply pw_below_drewN | apply below_drew1) | exact HB.out)) hb); clear HB; have HB := n0_; clear n0_; (try clear hb); (try clear hb2); (try clear hk); (try clear hi)) | (go_at_call 9; (with_reducible refine (name_Is.calls k t122 false _ A9.out).mono ?_); rintro e w' ⟨rfl, ⟨nd, rfl⟩⟩))
          go_meet
          case rel => exact ⟨_, (true), (by first | rfl | (simp; done) | (simp [*]; done)), H', ⟨by first | omega | exact Nat.le_refl _⟩, ⟨by repeat (first | (with_reducible first | exact HB.out | apply below_alloc | apply pw_below_drewN | apply below_drew1) | exact HB.out)⟩⟩
      · rw [if_neg c8] at H
        have c8b0 : decide (0 ≤ t123) = false := decide_eq_false c8
        clear c8
        (first | rw [c8b0] | (simp only [i64_w, i32_w]; rw [c8b0]) | skip)
        have H' := Aside0.mk H
        clear H
        go_wp2_with (first | ((with_reducible refine gate_callee (f := 13) rfl ?_); refine goesL_ (some 10) rfl rfl Try.func13 (by kernel_rfl) rfl #[.string t122] rfl (by (try simp only [List.map_toArray, List.map_cons, List.map_nil]); first | done | rfl | (simp only [List.length_drop, List.length_take]; rfl)) ?_; (with_reducible refine (name_World.calls k t122 t123 _ A7.out).mono ?_); rintro e w14 ⟨rfl, hb⟩; refine ⟨_, rfl, ?_⟩; have n0_ := Aside0.mk (below_step (by repeat (first | (with_reducible first | exact HB.out | apply below_alloc | apply pw_below_drewN | apply below_drew1) | exact HB.out)) hb); clear HB; have HB := n0_; clear n0_; (try clear hb); (try clear hb2); (try clear hk); (try clear hi)))
        go_meet
        case rel => exact ⟨_, (false), (by first | rfl | (simp; done) | (simp [*]; done)), H', ⟨by first | omega | exact Nat.le_refl _⟩, ⟨by repeat (first | (with_reducible first | exact HB.out | apply below_alloc | apply pw_below_drewN | apply below_drew1) | exact HB.out)⟩⟩
    case rest =>
      clear HC5
      try clear c1
      try clear p2
      try clear c3
      try clear c6
      try clear c7
      try clear c8
      try clear c8b0
      try clear c10
      try clear c13
      obtain ⟨kq, x20_4, rfl, HA, HJ4, HB⟩ := hcut
      cases kq with
      | zero => exact absurd HA.out (by simp [recensionlaw4_NameKeys.j0])
      | succ kj4 =>
        have H := HA.out
        clear HA
        simp only [recensionlaw4_NameKeys.j0] at H
        by_cases c15 : x20_4 = true
        · subst c15
          have H1 : (some false) = some r := by rw [if_pos rfl] at H; exact H
          clear H
          have H := H1
          clear H1
          obtain rfl := Option.some.inj H
          go_wp2
          go_ret
          exact ⟨by first | rfl | (simp [errW_none, errW_some] <;> rfl) | (simp [*, errW_none, errW_some] <;> rfl), by repeat (first | (with_reducible first | exact HB.out | apply below_alloc | apply pw_below_drewN | apply below_drew1) | exact HB.out)⟩
        · replace c15 := Bool.eq_false_iff.mpr c15
          subst c15
          have H1 : ((name_Key.f t122).bind fun t126 => (if t126 = true then ((name_Is.f kj4 t122).bind fun t127 => (if t127 = true then (some false) else (if t122.size + 1 ≤ 9223372036854775807 then ((name_Is.f kj4 (t122 ++ (⟨#[120]⟩ : ByteArray))).bind fun t128 => (if t128 = true then ((name_Key.f (t122 ++ (⟨#[120]⟩ : ByteArray))).bind fun t129 => (some (!t129))) else (some false))) else (none)))) else (some true))) = some r := by rw [if_neg (show ¬ (false = true) by decide)] at H; exact H
          clear H
          have H := H1
          clear H1
          replace H := Option.bind_eq_some_iff.mp H
          obtain ⟨t126, A160, H⟩ := H
          replace H : (if t126 = true then ((name_Is.f kj4 t122).bind fun t127 => (if t127 = true then (some false) else (if t122.size + 1 ≤ 9223372036854775807 then ((name_Is.f kj4 (t122 ++ (⟨#[120]⟩ : ByteArray))).bind fun t128 => (if t128 = true then ((name_Key.f (t122 ++ (⟨#[120]⟩ : ByteArray))).bind fun t129 => (some (!t129))) else (some false))) else (none)))) else (some true)) = some r := H
          have A16 := Aside0.mk A160
          clear A160
          by_cases c17 : t126 = true
          · subst c17
            have H1 : ((name_Is.f kj4 t122).bind fun t127 => (if t127 = true then (some false) else (if t122.size + 1 ≤ 9223372036854775807 then ((name_Is.f kj4 (t122 ++ (⟨#[120]⟩ : ByteArray))).bind fun t128 => (if t128 = true then ((name_Key.f (t122 ++ (⟨#[120]⟩ : ByteArray))).bind fun t129 => (some (!t129))) else (some false))) else (none)))) = some r := by rw [if_pos rfl] at H; exact H
            clear H
            have H := H1
            clear H1
            replace H := Option.bind_eq_some_iff.mp H
            obtain ⟨t127, A180, H⟩ := H
            replace H : (if t127 = true then (some false) else (if t122.size + 1 ≤ 9223372036854775807 then ((name_Is.f kj4 (t122 ++ (⟨#[120]⟩ : ByteArray))).bind fun t128 => (if t128 = true then ((name_Key.f (t122 ++ (⟨#[120]⟩ : ByteArray))).bind fun t129 => (some (!t129))) else (some false))) else (none))) = some r := H
            have A18 := Aside0.mk A180
            clear A180
            by_cases c19 : t127 = true
            · subst c19
              have H1 : (some false) = some r := by rw [if_pos rfl] at H; exact H
              clear H
              have H := H1
              clear H1
              obtain rfl := Option.some.inj H
              go_wp2_with (first | ((with_reducible refine gate_callee (f := 11) rfl ?_); refine goesL_ (some 22) rfl rfl Try.func11 (by kernel_rfl) rfl #[.string t122] rfl (by (try simp only [List.map_toArray, List.map_cons, List.map_nil]); first | done | rfl | (simp only [List.length_drop, List.length_take]; rfl)) ?_; (with_reducible refine (name_Key.calls t122 true _ A16.out).mono ?_); rintro e w' ⟨rfl, ⟨nd, rfl⟩⟩; refine ⟨_, rfl, ?_⟩) | (go_at_call 9; (with_reducible refine (name_Is.calls kj4 t122 true _ A18.out).mono ?_); rintro e w' ⟨rfl, ⟨nd, rfl⟩⟩))
              go_ret
              exact ⟨by first | rfl | (simp [errW_none, errW_some] <;> rfl) | (simp [*, errW_none, errW_some] <;> rfl), by repeat (first | (with_reducible first | exact HB.out | apply below_alloc | apply pw_below_drewN | apply below_drew1) | exact HB.out)⟩
            · replace c19 := Bool.eq_false_iff.mpr c19
              subst c19
              have H1 : (if t122.size + 1 ≤ 9223372036854775807 then ((name_Is.f kj4 (t122 ++ (⟨#[120]⟩ : ByteArray))).bind fun t128 => (if t128 = true then ((name_Key.f (t122 ++ (⟨#[120]⟩ : ByteArray))).bind fun t129 => (some (!t129))) else (some false))) else (none)) = some r := by rw [if_neg (show ¬ (false = true) by decide)] at H; exact H
              clear H
              have H := H1
              clear H1
              by_cases c20 : t122.size + 1 ≤ 9223372036854775807
              · rw [if_pos c20] at H
                have c20b0 := eq_true c20
                have c20b1 : decide (t122.size + 1 ≤ 9223372036854775807) = true := decide_eq_true c20
                try have c20b2 : (9223372036854775807 < t122.size + 1) = False := eq_false (Nat.not_lt.2 c20)
                replace H := Option.bind_eq_some_iff.mp H
                obtain ⟨t128, A210, H⟩ := H
                replace H : (if t128 = true then ((name_Key.f (t122 ++ (⟨#[120]⟩ : ByteArray))).bind fun t129 => (some (!t129))) else (some false)) = some r := H
                have A21 := Aside0.mk A210
                clear A210
                by_cases c22 : t128 = true
                · subst c22
                  have H1 : ((name_Key.f (t122 ++ (⟨#[120]⟩ : ByteArray))).bind fun t129 => (some (!t129))) = some r := by rw [if_pos rfl] at H; exact H
                  clear H
                  have H := H1
                  clear H1
                  replace H := Option.bind_eq_some_iff.mp H
                  obtain ⟨t129, A230, H⟩ := H
                  replace H : (some (!t129)) = some r := H
                  have A23 := Aside0.mk A230
                  clear A230
                  obtain rfl := Option.some.inj H
                  go_wp2_with (first | ((with_reducible refine gate_callee (f := 11) rfl ?_); refine goesL_ (some 22) rfl rfl Try.func11 (by kernel_rfl) rfl #[.string t122] rfl (by (try simp only [List.map_toArray, List.map_cons, List.map_nil]); first | done | rfl | (simp only [List.length_drop, List.length_take]; rfl)) ?_; (with_reducible refine (name_Key.calls t122 true _ A16.out).mono ?_); rintro e w' ⟨rfl, ⟨nd, rfl⟩⟩; refine ⟨_, rfl, ?_⟩) | (go_at_call 9; (with_reducible refine (name_Is.calls kj4 t122 false _ A18.out).mono ?_); rintro e w' ⟨rfl, ⟨nd, rfl⟩⟩) | (go_at_call 9; (with_reducible refine (name_Is.calls kj4 (t122 ++ (⟨#[120]⟩ : ByteArray)) true _ A21.out).mono ?_); rintro e w' ⟨rfl, ⟨nd, rfl⟩⟩) | (go_at_call 11; (with_reducible refine (name_Key.calls (t122 ++ (⟨#[120]⟩ : ByteArray)) t129 _ A23.out).mono ?_); rintro e w' ⟨rfl, ⟨nd, rfl⟩⟩))
                  go_ret
                  exact ⟨by first | rfl | (simp [errW_none, errW_some] <;> rfl) | (simp [*, errW_none, errW_some] <;> rfl), by repeat (first | (with_reducible first | exact HB.out | apply below_alloc | apply pw_below_drewN | apply below_drew1) | exact HB.out)⟩
                · replace c22 := Bool.eq_false_iff.mpr c22
                  subst c22
                  have H1 : (some false) = some r := by rw [if_neg (show ¬ (false = true) by decide)] at H; exact H
                  clear H
                  have H := H1
                  clear H1
                  obtain rfl := Option.some.inj H
                  go_wp2_with (first | ((with_reducible refine gate_callee (f := 11) rfl ?_); refine goesL_ (some 22) rfl rfl Try.func11 (by kernel_rfl) rfl #[.string t122] rfl (by (try simp only [List.map_toArray, List.map_cons, List.map_nil]); first | done | rfl | (simp only [List.length_drop, List.length_take]; rfl)) ?_; (with_reducible refine (name_Key.calls t122 true _ A16.out).mono ?_); rintro e w' ⟨rfl, ⟨nd, rfl⟩⟩; refine ⟨_, rfl, ?_⟩) | (go_at_call 9; (with_reducible refine (name_Is.calls kj4 t122 false _ A18.out).mono ?_); rintro e w' ⟨rfl, ⟨nd, rfl⟩⟩) | (go_at_call 9; (with_reducible refine (name_Is.calls kj4 (t122 ++ (⟨#[120]⟩ : ByteArray)) false _ A21.out).mono ?_); rintro e w' ⟨rfl, ⟨nd, rfl⟩⟩))
                  go_ret
                  exact ⟨by first | rfl | (simp [errW_none, errW_some] <;> rfl) | (simp [*, errW_none, errW_some] <;> rfl), by repeat (first | (with_reducible first | exact HB.out | apply below_alloc | apply pw_below_drewN | apply below_drew1) | exact HB.out)⟩
              · rw [if_neg c20] at H
                exact absurd H (by simp)
          · replace c17 := Bool.eq_false_iff.mpr c17
            subst c17
            have H1 : (some true) = some r := by rw [if_neg (show ¬ (false = true) by decide)] at H; exact H
            clear H
            have H := H1
            clear H1
            obtain rfl := Option.some.inj H
            go_wp2_with (first | ((with_reducible refine gate_callee (f := 11) rfl ?_); refine goesL_ (some 22) rfl rfl Try.func11 (by kernel_rfl) rfl #[.string t122] rfl (by (try simp only [List.map_toArray, List.map_cons, List.map_nil]); first | done | rfl | (simp only [List.length_drop, List.length_take]; rfl)) ?_; (with_reducible refine (name_Key.calls t122 false _ A16.out).mono ?_); rintro e w' ⟨rfl, ⟨nd, rfl⟩⟩; refine ⟨_, rfl, ?_⟩))
            go_ret
            exact ⟨by first | rfl | (simp [errW_none, errW_some] <;> rfl) | (simp [*, errW_none, errW_some] <;> rfl), by repeat (first | (with_reducible first | exact HB.out | apply below_alloc | apply pw_below_drewN | apply below_drew1) | exact HB.out)⟩
  · replace c3 := Bool.eq_false_iff.mpr c3
    subst c3
    have H1 : (some false) = some r := by rw [if_neg (show ¬ (false = true) by decide)] at H; exact H
    clear H
    have H := H1
    clear H1
    obtain rfl := Option.some.inj H
    go_enter Try.func6, Try.ntmps6
    go_wp2_with (first | ((with_reducible refine gate_callee (f := 7) rfl ?_); refine goesL_ (some 4) rfl rfl Try.func7 (by kernel_rfl) rfl #[] rfl (by (try simp only [List.map_toArray, List.map_cons, List.map_nil]); first | done | rfl | (simp only [List.length_drop, List.length_take]; rfl)) ?_; (with_reducible refine (recensionlaw4_begun.calls k  false _ A2.out).mono ?_); rintro e w24 ⟨rfl, hb⟩; refine ⟨_, rfl, ?_⟩; have n0_ := Aside0.mk (below_step (by repeat (first | (with_reducible first | exact HB.out | apply below_alloc | apply pw_below_drewN | apply below_drew1) | exact HB.out)) hb); clear HB; have HB := n0_; clear n0_; (try clear hb); (try clear hb2); (try clear hk); (try clear hi)))
    go_ret
    exact ⟨by first | rfl | (simp [errW_none, errW_some] <;> rfl) | (simp [*, errW_none, errW_some] <;> rfl), by repeat (first | (with_reducible first | exact HB.out | apply below_alloc | apply pw_below_drewN | apply below_drew1) | exact HB.out)⟩

/-- THE ONE PURE STATEMENT of recensionlaw4_NameKeys: yours. -/
def recensionlaw4_NameKeys.Pure : Prop := ∀ (a0 : ByteArray), a0.size ≤ 140737488351232 → ∃ k, recensionlaw4_NameKeys.f k a0 = some true
theorem recensionlaw4_NameKeys.walk (P : recensionlaw4_NameKeys.Pure) (a0 : ByteArray) (w : World) (w0 : a0.size ≤ 140737488351232) :
    Calls Try.prog 6 #[.string a0] w fun e w' => e = .returned (.bool true) ∧ Below w.heap.size w w' := by
  obtain ⟨k, h⟩ := P a0 w0
  refine (recensionlaw4_NameKeys.calls k a0 true w h).mono ?_
  rintro e w' ⟨rfl, hd⟩
  exact ⟨rfl, hd⟩

end Go.Proofs.Ytebfhmhfmeibcaa.PNameKeys
