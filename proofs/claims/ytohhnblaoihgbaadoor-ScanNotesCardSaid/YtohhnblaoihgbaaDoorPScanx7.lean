-- Written by myprint.py (the prover's own turn of the printer); not trusted: Lean checks it.
import Derived.Test.YtohhnblaoihgbaaDoorPScanx0
import Derived.Test.YtohhnblaoihgbaaDoorPScanx6
namespace Go.Proofs.YtohhnblaoihgbaaDoor.PScan
open Go.RowKit Go.Proofs.YtohhnblaoihgbaaDoorW.PrintWords Go.Proofs.YtohhnblaoihgbaaDoorW.PrintLast Go.Proofs.YtohhnblaoihgbaaDoorW.PrintMore
attribute [local go_sem] str_leq op_leq op_gtr op_geq max2_int min2_int max_two min_two max_three min_three max_four min_four   -- for this text's walks alone
set_option linter.unusedVariables false
set_option linter.unusedSimpArgs false

/-! ### recensionlaw6_ScanNotes: function 4 -/
mutual
def recensionlaw6_ScanNotes.j0 : Nat → Int → Int → Bool → Bool → Option (Bool)
 | 0, _, _, _, _ => none
 | k + 1, x0, x1, x2, x31 => if x31 = true then (some true) else (if x2 = true then (recensionlaw6_ScanNotes.j1 k x0 x1 x2 (⟨#[97]⟩ : ByteArray)) else (recensionlaw6_ScanNotes.j1 k x0 x1 x2 (⟨#[43]⟩ : ByteArray)))
def recensionlaw6_ScanNotes.j1 : Nat → Int → Int → Bool → ByteArray → Option (Bool)
 | 0, _, _, _, _ => none
 | k + 1, x0, x1, x2, x8 => recensionlaw6_ScanNotes.l0 k x0 x1 x2 x8 (⟨#[47, 47]⟩ : ByteArray) 0
def recensionlaw6_ScanNotes.l0 : Nat → Int → Int → Bool → ByteArray → ByteArray → Int → Option (Bool)
 | 0, _, _, _, _, _, _ => none
 | k + 1, x0, x1, x2, x8, x9, x10 => if x10 < x0 then ((some (([x1] : List Int) : List Int)).bind fun y172 => (if x9.size + (strOfNums y172).size ≤ 9223372036854775807 then (recensionlaw6_ScanNotes.l0 k x0 x1 x2 x8 (x9 ++ (strOfNums y172)) (wrap64 (x10 + 1))) else (none))) else (if x8.size + 1 ≤ 9223372036854775807 then (if (x8 ++ (⟨#[32]⟩ : ByteArray)).size + x9.size ≤ 9223372036854775807 then (if ((x8 ++ (⟨#[32]⟩ : ByteArray)) ++ x9).size + 2 ≤ 9223372036854775807 then ((scan_Scan.f (((x8 ++ (⟨#[32]⟩ : ByteArray)) ++ x9) ++ (⟨#[10, 98]⟩ : ByteArray))).bind fun bt175 => (if x2 = true then (if bt175.2.2 = (-1) then (if (bt175.2.1.length : Int) = 1 then (if 0 < (bt175.2.1.length : Int) then (if ((rd_T32 bt175.2.1 0).f0).toList = x9.toList then (if ((rd_T32 bt175.2.1 0).f1) = 2 then (if ((rd_T32 bt175.2.1 0).f2) = 1 then (if (bt175.1.length : Int) = 5 then (if ((rd_T32 bt175.2.1 0).f3) = 2 then (if 2 < (bt175.1.length : Int) then (if ((rd_T29 bt175.1 2).f1).toList = ([98] : List UInt8) then (some (((rd_T29 bt175.1 2).f3) == 2)) else (some false)) else (none)) else (some false)) else (some false)) else (some false)) else (some false)) else (some false)) else (none)) else (some false)) else (some false)) else (if bt175.2.2 = (-1) then (if (bt175.2.1.length : Int) = 1 then (if 0 < (bt175.2.1.length : Int) then (if ((rd_T32 bt175.2.1 0).f0).toList = x9.toList then (if ((rd_T32 bt175.2.1 0).f1) = 2 then (if ((rd_T32 bt175.2.1 0).f2) = 1 then (if (bt175.1.length : Int) = 4 then (if ((rd_T32 bt175.2.1 0).f3) = 1 then (if 1 < (bt175.1.length : Int) then (if ((rd_T29 bt175.1 1).f1).toList = ([98] : List UInt8) then (some (((rd_T29 bt175.1 1).f3) == 2)) else (some false)) else (none)) else (some false)) else (some false)) else (some false)) else (some false)) else (some false)) else (none)) else (some false)) else (some false)))) else (none)) else (none)) else (none))
end
def recensionlaw6_ScanNotes.f (k : Nat) (a0 : Int) (a1 : Int) (a2 : Bool) : Option (Bool) := (recensionlaw6_begun.f).bind fun t171 => (if t171 = true then (if a0 < 0 then (recensionlaw6_ScanNotes.j0 k a0 a1 a2 true) else (if a0 > 30 then (recensionlaw6_ScanNotes.j0 k a0 a1 a2 true) else (if a1 < 32 then (recensionlaw6_ScanNotes.j0 k a0 a1 a2 true) else (recensionlaw6_ScanNotes.j0 k a0 a1 a2 (decide (a1 > 126)))))) else (some false))
theorem recensionlaw6_ScanNotes.mono_l : ∀ k, (∀ y0 y1 y2 y3, LeO (recensionlaw6_ScanNotes.j0 k y0 y1 y2 y3) (recensionlaw6_ScanNotes.j0 (k + 1) y0 y1 y2 y3)) ∧ (∀ y0 y1 y2 y3, LeO (recensionlaw6_ScanNotes.j1 k y0 y1 y2 y3) (recensionlaw6_ScanNotes.j1 (k + 1) y0 y1 y2 y3)) ∧ (∀ y0 y1 y2 y3 y4 y5, LeO (recensionlaw6_ScanNotes.l0 k y0 y1 y2 y3 y4 y5) (recensionlaw6_ScanNotes.l0 (k + 1) y0 y1 y2 y3 y4 y5))
 | 0 => ⟨fun _ _ _ _ r h => by simp [recensionlaw6_ScanNotes.j0] at h, fun _ _ _ _ r h => by simp [recensionlaw6_ScanNotes.j1] at h, fun _ _ _ _ _ _ r h => by simp [recensionlaw6_ScanNotes.l0] at h⟩
 | k + 1 => by
  obtain ⟨ih0, ih1, ih2⟩ := recensionlaw6_ScanNotes.mono_l k
  refine ⟨?_, ?_, ?_⟩
  ·intro y0 y1 y2 y3
   unfold recensionlaw6_ScanNotes.j0
   repeat' first
   | (with_reducible exact ih0 _ _ _ _)
   | (with_reducible exact ih1 _ _ _ _)
   | (with_reducible exact ih2 _ _ _ _ _ _)
   | (with_reducible exact LeO.refl _)
   | (with_reducible exact LeO.none _)
   | (with_reducible refine LeO.ite ?_ ?_)
   | (with_reducible refine LeO.bind ?_ (fun _ => ?_))
   | exact ih0 _ _ _ _
   | exact ih1 _ _ _ _
   | exact ih2 _ _ _ _ _ _
   | exact LeO.none _
   | refine LeO.ite ?_ ?_
   | refine LeO.bind ?_ (fun _ => ?_)
  ·intro y0 y1 y2 y3
   unfold recensionlaw6_ScanNotes.j1
   repeat' first
   | (with_reducible exact ih0 _ _ _ _)
   | (with_reducible exact ih1 _ _ _ _)
   | (with_reducible exact ih2 _ _ _ _ _ _)
   | (with_reducible exact LeO.refl _)
   | (with_reducible exact LeO.none _)
   | (with_reducible refine LeO.ite ?_ ?_)
   | (with_reducible refine LeO.bind ?_ (fun _ => ?_))
   | exact ih0 _ _ _ _
   | exact ih1 _ _ _ _
   | exact ih2 _ _ _ _ _ _
   | exact LeO.none _
   | refine LeO.ite ?_ ?_
   | refine LeO.bind ?_ (fun _ => ?_)
  ·intro y0 y1 y2 y3 y4 y5
   unfold recensionlaw6_ScanNotes.l0
   repeat' first
   | (with_reducible exact ih0 _ _ _ _)
   | (with_reducible exact ih1 _ _ _ _)
   | (with_reducible exact ih2 _ _ _ _ _ _)
   | (with_reducible exact LeO.refl _)
   | (with_reducible exact LeO.none _)
   | (with_reducible refine LeO.ite ?_ ?_)
   | (with_reducible refine LeO.bind ?_ (fun _ => ?_))
   | exact ih0 _ _ _ _
   | exact ih1 _ _ _ _
   | exact ih2 _ _ _ _ _ _
   | exact LeO.none _
   | refine LeO.ite ?_ ?_
   | refine LeO.bind ?_ (fun _ => ?_)
theorem recensionlaw6_ScanNotes.mono : ∀ a0 a1 a2 k, LeO (recensionlaw6_ScanNotes.f k a0 a1 a2) (recensionlaw6_ScanNotes.f (k + 1) a0 a1 a2) := by
 intro a0 a1 a2 k
 obtain ⟨ih0, ih1, ih2⟩ := recensionlaw6_ScanNotes.mono_l k
 unfold recensionlaw6_ScanNotes.f
 repeat' first
   | (with_reducible exact ih0 _ _ _ _)
   | (with_reducible exact ih1 _ _ _ _)
   | (with_reducible exact ih2 _ _ _ _ _ _)
   | (with_reducible exact LeO.refl _)
   | (with_reducible exact LeO.none _)
   | (with_reducible refine LeO.ite ?_ ?_)
   | (with_reducible refine LeO.bind ?_ (fun _ => ?_))
   | exact ih0 _ _ _ _
   | exact ih1 _ _ _ _
   | exact ih2 _ _ _ _ _ _
   | exact LeO.none _
   | refine LeO.ite ?_ ?_
   | refine LeO.bind ?_ (fun _ => ?_)
set_option maxHeartbeats 8000000 in
set_option maxRecDepth 100000 in
theorem recensionlaw6_ScanNotes.calls (k : Nat) (a0 : Int) (a1 : Int) (a2 : Bool) (r : Bool) (w : World) (hrt : Aside0 (r = true)) (hT : Aside0 (Tabs w)) (h : recensionlaw6_ScanNotes.f k a0 a1 a2 = some r) :
  Calls Tryd.prog 4 #[.int .i64 a0, .int .u8 a1, .bool a2] w fun e w' => e = .returned (.bool r) ∧ Below w.heap.size w w' := by
 have HB := Aside0.mk (Below.refl w.heap.size w)
 have H : ((recensionlaw6_begun.f).bind fun t171 => (if t171 = true then (if a0 < 0 then (recensionlaw6_ScanNotes.j0 k a0 a1 a2 true) else (if a0 > 30 then (recensionlaw6_ScanNotes.j0 k a0 a1 a2 true) else (if a1 < 32 then (recensionlaw6_ScanNotes.j0 k a0 a1 a2 true) else (recensionlaw6_ScanNotes.j0 k a0 a1 a2 (decide (a1 > 126)))))) else (some false))) = some r := h
 clear h
 replace H := Option.bind_eq_some_iff.mp H
 obtain ⟨t171, A40, H⟩ := H
 replace H : (if t171 = true then (if a0 < 0 then (recensionlaw6_ScanNotes.j0 k a0 a1 a2 true) else (if a0 > 30 then (recensionlaw6_ScanNotes.j0 k a0 a1 a2 true) else (if a1 < 32 then (recensionlaw6_ScanNotes.j0 k a0 a1 a2 true) else (recensionlaw6_ScanNotes.j0 k a0 a1 a2 (decide (a1 > 126)))))) else (some false)) = some r := H
 have A4 := Aside0.mk A40
 clear A40
 by_cases c5 : t171 = true
 ·subst c5
  have H1 : (if a0 < 0 then (recensionlaw6_ScanNotes.j0 k a0 a1 a2 true) else (if a0 > 30 then (recensionlaw6_ScanNotes.j0 k a0 a1 a2 true) else (if a1 < 32 then (recensionlaw6_ScanNotes.j0 k a0 a1 a2 true) else (recensionlaw6_ScanNotes.j0 k a0 a1 a2 (decide (a1 > 126)))))) = some r := by rw [if_pos rfl] at H; exact H
  clear H
  have H := H1
  clear H1
  have HC6 := Aside0.mk H
  clear H
  go_enter Tryd.func4, Tryd.ntmps4
  go_upto_region 4 with (first | ((with_reducible refine gate_callee (f := 13) rfl ?_); refine goesL_ (some 15) rfl rfl Tryd.func13 (by kernel_rfl) rfl #[] rfl (by (try simp only [List.map_toArray, List.map_cons, List.map_nil]); first | done | rfl | (simp only [List.length_drop, List.length_take]; rfl) | (simp only [wrap64_wl, wrap64_wr]; rfl)) ?_; (with_reducible refine (recensionlaw6_begun.calls  true _ (Aside0.mk (tabs_at hT.out (by repeat (first | (with_reducible first | exact HB.out | apply below_alloc | apply pw_below_drewN | apply below_drew1) | exact HB.out)))) A4.out).mono ?_); rintro e w7 ⟨rfl, hb⟩; refine ⟨_, rfl, ?_⟩; have n0_ := Aside0.mk (below_step (by repeat (first | (with_reducible first | exact HB.out | apply below_alloc | apply pw_below_drewN | apply below_drew1) | exact HB.out)) hb); clear HB; have HB := n0_; clear n0_; (try clear hb); (try clear hb2); (try clear hk); (try clear hi)))
  (try simp only [Act.put, List.setIfInBounds_toArray, List.set_cons_zero, List.set_cons_succ])
  go_cut [31] (fun v31 wc => ∃ (kq : Nat) (x31_5 : Bool), v31 = .bool x31_5 ∧ Aside0 (recensionlaw6_ScanNotes.j0 kq a0 a1 a2 x31_5 = some r) ∧ Aside0 (kq ≤ k) ∧ Aside0 (Below w.heap.size w wc))
  case first =>
   have H := HC6.out
   clear HC6
   by_cases c8 : a0 < 0
   ·rw [if_pos c8] at H
    have c8b0 : decide (a0 < 0) = true := decide_eq_true c8
    clear c8
    (first | rw [c8b0] | (simp only [i64_w, i32_w]; rw [c8b0]) | skip)
    have H' := Aside0.mk H
    clear H
    go_wp2
    go_meet
    case rel => exact ⟨_, (true), (by first | rfl | (simp; done) | (simp [*]; done)), H', ⟨by first | omega | exact Nat.le_refl _⟩, ⟨by repeat (first | (with_reducible first | exact HB.out | apply below_alloc | apply pw_below_drewN | apply below_drew1) | exact HB.out)⟩⟩
   ·rw [if_neg c8] at H
    have c8b0 : decide (a0 < 0) = false := decide_eq_false c8
    clear c8
    (first | rw [c8b0] | (simp only [i64_w, i32_w]; rw [c8b0]) | skip)
    by_cases c9 : a0 > 30
    ·rw [if_pos c9] at H
     have c9b0 : decide (30 < a0) = true := decide_eq_true c9
     clear c9
     have H' := Aside0.mk H
     clear H
     go_wp2
     go_meet
     case rel => exact ⟨_, (true), (by first | rfl | (simp; done) | (simp [*]; done)), H', ⟨by first | omega | exact Nat.le_refl _⟩, ⟨by repeat (first | (with_reducible first | exact HB.out | apply below_alloc | apply pw_below_drewN | apply below_drew1) | exact HB.out)⟩⟩
    ·rw [if_neg c9] at H
     have c9b0 : decide (30 < a0) = false := decide_eq_false c9
     clear c9
     by_cases c10 : a1 < 32
     ·rw [if_pos c10] at H
      have c10b0 : decide (a1 < 32) = true := decide_eq_true c10
      clear c10
      have H' := Aside0.mk H
      clear H
      go_wp2
      go_meet
      case rel => exact ⟨_, (true), (by first | rfl | (simp; done) | (simp [*]; done)), H', ⟨by first | omega | exact Nat.le_refl _⟩, ⟨by repeat (first | (with_reducible first | exact HB.out | apply below_alloc | apply pw_below_drewN | apply below_drew1) | exact HB.out)⟩⟩
     ·rw [if_neg c10] at H
      have c10b0 : decide (a1 < 32) = false := decide_eq_false c10
      clear c10
      have H' := Aside0.mk H
      clear H
      go_wp2
      go_meet
      case rel => exact ⟨_, (decide (a1 > 126)), (by first | rfl | (simp; done) | (simp [*]; done)), H', ⟨by first | omega | exact Nat.le_refl _⟩, ⟨by repeat (first | (with_reducible first | exact HB.out | apply below_alloc | apply pw_below_drewN | apply below_drew1) | exact HB.out)⟩⟩
  case rest =>
   clear HC6
   try clear c1
   try clear p2
   try clear c4
   try clear c5
   try clear p6
   try clear c8
   try clear c8b0
   try clear c9
   try clear c9b0
   try clear c10
   try clear c10b0
   obtain ⟨kq, x31_5, rfl, HA, HJ5, HB⟩ := hcut
   cases kq with
   | zero => exact absurd HA.out (by simp [recensionlaw6_ScanNotes.j0])
   | succ kj5 =>
    have H := HA.out
    clear HA
    simp only [recensionlaw6_ScanNotes.j0] at H
    by_cases c11 : x31_5 = true
    ·subst c11
     have H1 : (some true) = some r := by rw [if_pos rfl] at H; exact H
     clear H
     have H := H1
     clear H1
     obtain rfl := Option.some.inj H
     go_wp2
     go_ret
     exact ⟨by first | rfl | (simp [errW_none, errW_some] <;> rfl) | (simp [*, errW_none, errW_some] <;> rfl), by repeat (first | (with_reducible first | exact HB.out | apply below_alloc | apply pw_below_drewN | apply below_drew1) | exact HB.out)⟩
    ·replace c11 := Bool.eq_false_iff.mpr c11
     subst c11
     have H1 : (if a2 = true then (recensionlaw6_ScanNotes.j1 kj5 a0 a1 a2 (⟨#[97]⟩ : ByteArray)) else (recensionlaw6_ScanNotes.j1 kj5 a0 a1 a2 (⟨#[43]⟩ : ByteArray))) = some r := by rw [if_neg (show ¬ (false = true) by decide)] at H; exact H
     clear H
     have H := H1
     clear H1
     have HC12 := Aside0.mk H
     clear H
     go_upto_if 32 with (fail)
     go_cut [8] (fun v8 wc => ∃ (kq : Nat) (x8_11 : ByteArray), v8 = .string x8_11 ∧ Aside0 (recensionlaw6_ScanNotes.j1 kq a0 a1 a2 x8_11 = some r) ∧ Aside0 (kq ≤ kj5) ∧ Aside0 (Below w.heap.size w wc))
     case first =>
      have H := HC12.out
      clear HC12
      by_cases c13 : a2 = true
      ·subst c13
       have H1 : (recensionlaw6_ScanNotes.j1 kj5 a0 a1 true (⟨#[97]⟩ : ByteArray)) = some r := by rw [if_pos rfl] at H; exact H
       clear H
       have H := H1
       clear H1
       have H' := Aside0.mk H
       clear H
       go_wp2
       go_meet
       case rel => exact ⟨_, ((⟨#[97]⟩ : ByteArray)), (by first | rfl | (simp; done) | (simp [*]; done)), H', ⟨by have := HJ5.out; first | omega | exact Nat.le_refl _⟩, ⟨by repeat (first | (with_reducible first | exact HB.out | apply below_alloc | apply pw_below_drewN | apply below_drew1) | exact HB.out)⟩⟩
      ·replace c13 := Bool.eq_false_iff.mpr c13
       subst c13
       have H1 : (recensionlaw6_ScanNotes.j1 kj5 a0 a1 false (⟨#[43]⟩ : ByteArray)) = some r := by rw [if_neg (show ¬ (false = true) by decide)] at H; exact H
       clear H
       have H := H1
       clear H1
       have H' := Aside0.mk H
       clear H
       go_wp2
       go_meet
       case rel => exact ⟨_, ((⟨#[43]⟩ : ByteArray)), (by first | rfl | (simp; done) | (simp [*]; done)), H', ⟨by have := HJ5.out; first | omega | exact Nat.le_refl _⟩, ⟨by repeat (first | (with_reducible first | exact HB.out | apply below_alloc | apply pw_below_drewN | apply below_drew1) | exact HB.out)⟩⟩
     case rest =>
      clear HC12
      try clear c1
      try clear p2
      try clear c4
      try clear c5
      try clear p6
      try clear c8
      try clear c8b0
      try clear c9
      try clear c9b0
      try clear c10
      try clear c10b0
      try clear c11
      try clear c13
      try clear p2
      try clear p6
      obtain ⟨kq, x8_11, rfl, HA, HJ11, HB⟩ := hcut
      cases kq with
      | zero => exact absurd HA.out (by simp [recensionlaw6_ScanNotes.j1])
      | succ kj11 =>
       have H := HA.out
       clear HA
       simp only [recensionlaw6_ScanNotes.j1] at H
       have H' := Aside0.mk H
       clear H
       go_wp2
       go_loopg [9, 10] kj11 (fun kq v9 v10 w' => ∃ (x9_3 : ByteArray) (x10_3 : Int), v9 = .string x9_3 ∧ v10 = .int .i64 x10_3 ∧ Aside0 (recensionlaw6_ScanNotes.l0 kq a0 a1 a2 x8_11 x9_3 x10_3 = some r) ∧ Aside0 (kq ≤ kj11) ∧ Aside0 (Below w.heap.size w w'))
       case atStart => exact ⟨((⟨#[47, 47]⟩ : ByteArray)), (0), (by first | rfl | (simp; done) | (simp [*]; done)), (by first | rfl | (simp; done) | (simp [*]; done)), H', ⟨Nat.le_refl _⟩, ⟨by repeat (first | (with_reducible first | exact HB.out | apply below_alloc | apply pw_below_drewN | apply below_drew1) | exact HB.out)⟩⟩
       case round =>
        clear H'
        try clear c1
        try clear p2
        try clear c4
        try clear c5
        try clear p6
        try clear c8
        try clear c8b0
        try clear c9
        try clear c9b0
        try clear c10
        try clear c10b0
        try clear c11
        try clear c13
        try clear p2
        try clear p6
        obtain ⟨x9_3, x10_3, rfl, rfl, HA, HK3, HB⟩ := hrel
        cases gk with
        | zero => exact absurd HA.out (by simp [recensionlaw6_ScanNotes.l0])
        | succ k3 =>
         have H := HA.out
         clear HA
         simp only [recensionlaw6_ScanNotes.l0] at H
         by_cases c14 : x10_3 < a0
         ·rw [if_pos c14] at H
          have c14b0 : decide (x10_3 < a0) = true := decide_eq_true c14
          clear c14
          obtain ⟨y172, hy172⟩ : ∃ y_ : List Int, y_ = (([a1] : List Int)) := ⟨_, rfl⟩
          replace H : (if x9_3.size + (strOfNums y172).size ≤ 9223372036854775807 then (recensionlaw6_ScanNotes.l0 k3 a0 a1 a2 x8_11 (x9_3 ++ (strOfNums y172)) (wrap64 (x10_3 + 1))) else (none)) = some r := by first | (rw [hy172]; with_reducible exact H) | (have H2_ := (Option.bind_some _ _).symm.trans H; rw [hy172]; with_reducible exact H2_) | (have H2_ := (Option.bind_some _ _).symm.trans H; with_reducible exact H2_) | with_reducible exact H | (rw [hy172]; exact H) | exact H
          have Ny172 := Aside0.mk hy172
          clear hy172
          by_cases c15 : x9_3.size + (strOfNums y172).size ≤ 9223372036854775807
          ·rw [if_pos c15] at H
           have c15b0 := eq_true c15
           have c15b1 : decide (x9_3.size + (strOfNums y172).size ≤ 9223372036854775807) = true := decide_eq_true c15
           try have c15b2 : (9223372036854775807 < x9_3.size + (strOfNums y172).size) = False := eq_false (Nat.not_lt.2 c15)
           have H' := Aside0.mk H
           clear H
           go_wp2_with (first | ((with_reducible refine gate_dst (N := 40) rfl ?_); (try (refine gate_guard (by rfl) ?_; dsimp only)); refine Kd.R_lit (Kd.int .u8) _ 5 ?hg (N := 40) ?hd (xs := ([a1] : List Int)) (inner := [.int .u8 a1]) (ok := fun _ => True) (okp := fun _ => True) ?hr ?hp (fun _ hk => hk) trivial (Below.refl _ _) (Nat.le_refl _) (by simp) ?_; (case hd => rfl); (case hg => rfl); (case hr => first | (go_simp; done) | (go_simp; rfl)); (case hp => exact (Reps.one (show Kd.M (Kd.int .u8) _ _ _ a1 [.int .u8 a1] from rfl) (Reps.none _ _))); intro v173 w16 ho17 hb hg_ hnew_; clear hg_ hnew_; (first | rw [← Ny172.out] at ho17 | (simp only [Int.reduceToNat] at ho17; rw [← Ny172.out] at ho17)); have n0_ := Aside0.mk (Kd.R_lower ho17 (below_size (by repeat (first | (with_reducible first | exact HB.out | apply below_alloc | apply pw_below_drewN | apply below_drew1) | exact HB.out)))); have n1_ := Aside0.mk (below_step (by repeat (first | (with_reducible first | exact HB.out | apply below_alloc | apply pw_below_drewN | apply below_drew1) | exact HB.out)) hb); clear HB; have HO174 := n0_; have HB := n1_; clear n0_ n1_; clear hb ho17; have hcv18 := own_string (P := Tryd.prog) Tryd.underlying23 Tryd.underlying5 Tryd.underlying9 (Kd.own_of_R HO174.out); have hcv19 := fun nd_ : Nat => own_string (P := Tryd.prog) Tryd.underlying23 Tryd.underlying5 Tryd.underlying9 (Kd.own_of_R (Kd.R_drewN HO174.out nd_))))
           go_roundg k3
           case measure => have := HJ5.out; have := HJ11.out; have := HK3.out; omega
           case rel => exact ⟨(x9_3 ++ (strOfNums y172)), (wrap64 (x10_3 + 1)), (by first | rfl | (simp; done) | (simp [*]; done)), (by first | rfl | (simp; done) | (simp [*]; done)), H', ⟨by have := HJ5.out; have := HJ11.out; have := HK3.out; omega⟩, ⟨by repeat (first | (with_reducible first | exact HB.out | apply below_alloc | apply pw_below_drewN | apply below_drew1) | exact HB.out)⟩⟩
          ·rw [if_neg c15] at H
           exact absurd H (by simp)
         ·rw [if_neg c14] at H
          have c14b0 : decide (x10_3 < a0) = false := decide_eq_false c14
          clear c14
          by_cases c20 : x8_11.size + 1 ≤ 9223372036854775807
          ·rw [if_pos c20] at H
           have c20b0 := eq_true c20
           have c20b1 : decide (x8_11.size + 1 ≤ 9223372036854775807) = true := decide_eq_true c20
           try have c20b2 : (9223372036854775807 < x8_11.size + 1) = False := eq_false (Nat.not_lt.2 c20)
           by_cases c21 : (x8_11 ++ (⟨#[32]⟩ : ByteArray)).size + x9_3.size ≤ 9223372036854775807
           ·rw [if_pos c21] at H
            have c21b0 := eq_true c21
            have c21b1 : decide ((x8_11 ++ (⟨#[32]⟩ : ByteArray)).size + x9_3.size ≤ 9223372036854775807) = true := decide_eq_true c21
            try have c21b2 : (9223372036854775807 < (x8_11 ++ (⟨#[32]⟩ : ByteArray)).size + x9_3.size) = False := eq_false (Nat.not_lt.2 c21)
            (try (have c21b2z := c21b2; simp only [ByteArray.size_append, show (⟨#[32]⟩ : ByteArray).size = 1 from rfl] at c21b2z))
            by_cases c22 : ((x8_11 ++ (⟨#[32]⟩ : ByteArray)) ++ x9_3).size + 2 ≤ 9223372036854775807
            ·rw [if_pos c22] at H
             have c22b0 := eq_true c22
             have c22b1 : decide (((x8_11 ++ (⟨#[32]⟩ : ByteArray)) ++ x9_3).size + 2 ≤ 9223372036854775807) = true := decide_eq_true c22
             try have c22b2 : (9223372036854775807 < ((x8_11 ++ (⟨#[32]⟩ : ByteArray)) ++ x9_3).size + 2) = False := eq_false (Nat.not_lt.2 c22)
             (try (have c22b2z := c22b2; simp only [ByteArray.size_append, show (⟨#[32]⟩ : ByteArray).size = 1 from rfl] at c22b2z))
             replace H := Option.bind_eq_some_iff.mp H
             obtain ⟨⟨t175, t176, t177⟩, A230, H⟩ := H
             replace H : (if a2 = true then (if t177 = (-1) then (if (t176.length : Int) = 1 then (if 0 < (t176.length : Int) then (if ((rd_T32 t176 0).f0).toList = x9_3.toList then (if ((rd_T32 t176 0).f1) = 2 then (if ((rd_T32 t176 0).f2) = 1 then (if (t175.length : Int) = 5 then (if ((rd_T32 t176 0).f3) = 2 then (if 2 < (t175.length : Int) then (if ((rd_T29 t175 2).f1).toList = ([98] : List UInt8) then (some (((rd_T29 t175 2).f3) == 2)) else (some false)) else (none)) else (some false)) else (some false)) else (some false)) else (some false)) else (some false)) else (none)) else (some false)) else (some false)) else (if t177 = (-1) then (if (t176.length : Int) = 1 then (if 0 < (t176.length : Int) then (if ((rd_T32 t176 0).f0).toList = x9_3.toList then (if ((rd_T32 t176 0).f1) = 2 then (if ((rd_T32 t176 0).f2) = 1 then (if (t175.length : Int) = 4 then (if ((rd_T32 t176 0).f3) = 1 then (if 1 < (t175.length : Int) then (if ((rd_T29 t175 1).f1).toList = ([98] : List UInt8) then (some (((rd_T29 t175 1).f3) == 2)) else (some false)) else (none)) else (some false)) else (some false)) else (some false)) else (some false)) else (some false)) else (none)) else (some false)) else (some false))) = some r := H
             have A23 := Aside0.mk A230
             clear A230
             by_cases c24 : a2 = true
             ·subst c24
              have H1 : (if t177 = (-1) then (if (t176.length : Int) = 1 then (if 0 < (t176.length : Int) then (if ((rd_T32 t176 0).f0).toList = x9_3.toList then (if ((rd_T32 t176 0).f1) = 2 then (if ((rd_T32 t176 0).f2) = 1 then (if (t175.length : Int) = 5 then (if ((rd_T32 t176 0).f3) = 2 then (if 2 < (t175.length : Int) then (if ((rd_T29 t175 2).f1).toList = ([98] : List UInt8) then (some (((rd_T29 t175 2).f3) == 2)) else (some false)) else (none)) else (some false)) else (some false)) else (some false)) else (some false)) else (some false)) else (none)) else (some false)) else (some false)) = some r := by rw [if_pos rfl] at H; exact H
              clear H
              have H := H1
              clear H1
              by_cases c25 : t177 = (-1)
              ·rw [if_pos c25] at H
               have c25b0 : (t177 == (-1)) = true := beq_iff_eq.mpr c25
               have c25b1 : (t177 != (-1)) = false := bne_eq_false_iff_eq.mpr c25
               clear c25
               by_cases c26 : (t176.length : Int) = 1
               ·rw [if_pos c26] at H
                have c26b0 : ((t176.length : Int) == 1) = true := beq_iff_eq.mpr c26
                have c26b1 : ((t176.length : Int) != 1) = false := bne_eq_false_iff_eq.mpr c26
                clear c26
                by_cases c27 : 0 < (t176.length : Int)
                ·rw [if_pos c27] at H
                 have c27b0 : decide (0 < (t176.length : Int)) = true := decide_eq_true c27
                 have c27b1 : decide (0 < t176.length) = true := decide_eq_true (by omega)
                 clear c27
                 by_cases c28 : ((rd_T32 t176 0).f0).toList = x9_3.toList
                 ·rw [if_pos c28] at H
                  have c28b0 : (((rd_T32 t176 0).f0).toList == x9_3.toList) = true := beq_iff_eq.mpr c28
                  have c28b1 : (((rd_T32 t176 0).f0).toList != x9_3.toList) = false := bne_eq_false_iff_eq.mpr c28
                  clear c28
                  by_cases c29 : ((rd_T32 t176 0).f1) = 2
                  ·rw [if_pos c29] at H
                   have c29b0 : (((rd_T32 t176 0).f1) == 2) = true := beq_iff_eq.mpr c29
                   have c29b1 : (((rd_T32 t176 0).f1) != 2) = false := bne_eq_false_iff_eq.mpr c29
                   clear c29
                   by_cases c30 : ((rd_T32 t176 0).f2) = 1
                   ·rw [if_pos c30] at H
                    have c30b0 : (((rd_T32 t176 0).f2) == 1) = true := beq_iff_eq.mpr c30
                    have c30b1 : (((rd_T32 t176 0).f2) != 1) = false := bne_eq_false_iff_eq.mpr c30
                    clear c30
                    by_cases c31 : (t175.length : Int) = 5
                    ·rw [if_pos c31] at H
                     have c31b0 : ((t175.length : Int) == 5) = true := beq_iff_eq.mpr c31
                     have c31b1 : ((t175.length : Int) != 5) = false := bne_eq_false_iff_eq.mpr c31
                     clear c31
                     by_cases c32 : ((rd_T32 t176 0).f3) = 2
                     ·rw [if_pos c32] at H
                      have c32b0 : (((rd_T32 t176 0).f3) == 2) = true := beq_iff_eq.mpr c32
                      have c32b1 : (((rd_T32 t176 0).f3) != 2) = false := bne_eq_false_iff_eq.mpr c32
                      clear c32
                      by_cases c33 : 2 < (t175.length : Int)
                      ·rw [if_pos c33] at H
                       have c33b0 : decide (2 < (t175.length : Int)) = true := decide_eq_true c33
                       have c33b1 : decide (2 < t175.length) = true := decide_eq_true (by omega)
                       clear c33
                       by_cases c34 : ((rd_T29 t175 2).f1).toList = ([98] : List UInt8)
                       ·rw [if_pos c34] at H
                        have c34b0 : (((rd_T29 t175 2).f1).toList == ([98] : List UInt8)) = true := beq_iff_eq.mpr c34
                        have c34b1 : (((rd_T29 t175 2).f1).toList != ([98] : List UInt8)) = false := bne_eq_false_iff_eq.mpr c34
                        clear c34
                        obtain rfl := Option.some.inj H
                        go_wp2_with (first | ((with_reducible refine gate_callee (f := 14) rfl ?_); refine goesL_ (some 49) rfl rfl Tryd.func14 (by kernel_rfl) rfl #[.string (((x8_11 ++ (⟨#[32]⟩ : ByteArray)) ++ x9_3) ++ (⟨#[10, 98]⟩ : ByteArray))] rfl (by (try simp only [List.map_toArray, List.map_cons, List.map_nil]); first | done | rfl | (simp only [List.length_drop, List.length_take]; rfl) | (simp only [wrap64_wl, wrap64_wr]; rfl)) ?_; (with_reducible refine (scan_Scan.calls (((x8_11 ++ (⟨#[32]⟩ : ByteArray)) ++ x9_3) ++ (⟨#[10, 98]⟩ : ByteArray)) t175 t176 t177 _ (Aside0.mk (tabs_at hT.out (by repeat (first | (with_reducible first | exact HB.out | apply below_alloc | apply pw_below_drewN | apply below_drew1) | exact HB.out)))) A23.out).mono ?_); rintro e w35 ⟨v178, v180, rfl, ho0, ho1, hb⟩; refine ⟨_, rfl, ?_⟩; have n0_ := Aside0.mk (Kd.R_lower ho0 (below_size (by repeat (first | (with_reducible first | exact HB.out | apply below_alloc | apply pw_below_drewN | apply below_drew1) | exact HB.out)))); have n1_ := Aside0.mk (Kd.R_lower ho1 (below_size (by repeat (first | (with_reducible first | exact HB.out | apply below_alloc | apply pw_below_drewN | apply below_drew1) | exact HB.out)))); have n2_ := Aside0.mk (below_step (by repeat (first | (with_reducible first | exact HB.out | apply below_alloc | apply pw_below_drewN | apply below_drew1) | exact HB.out)) hb); clear HB; have HO179 := n0_; have HO181 := n1_; have HB := n2_; clear n0_ n1_ n2_; (try clear hb); (try clear hb2); (try clear hk); (try clear hi); (try clear ho0); (try clear ho1); obtain ⟨Ao36, co36, eo36⟩ := Kd.R_slice HO181.out; subst eo36; have p182 : 0 ≤ (0 : Int) := (by omega); have q182 : 0 < (t176.length : Int) := of_decide_eq_true (by first | (with_reducible assumption) | assumption); obtain ⟨ad182, e182, hx182_0, hx182_1, hx182_2, hx182_3⟩ := at_T32 (Kd.R_reads' HO181.out).2.2 0 p182 q182; cases e182; have qi182 : (0 < t176.length) = True := eq_true (by omega); (try rw [show ((0 : Int)).toNat = 0 from rfl] at hx182_0); (try rw [show 0 * 4 = 0 from rfl] at hx182_0); (try rw [Addr.add_zero'] at hx182_0); (try rw [show ((0 : Int)).toNat = 0 from rfl] at hx182_1); (try rw [show 0 * 4 = 0 from rfl] at hx182_1); (try rw [Addr.add_zero'] at hx182_1); (try rw [show ((0 : Int)).toNat = 0 from rfl] at hx182_2); (try rw [show 0 * 4 = 0 from rfl] at hx182_2); (try rw [Addr.add_zero'] at hx182_2); (try rw [show ((0 : Int)).toNat = 0 from rfl] at hx182_3); (try rw [show 0 * 4 = 0 from rfl] at hx182_3); (try rw [Addr.add_zero'] at hx182_3); replace p182 := eq_true p182; replace q182 := eq_true q182; have p183 : 0 ≤ (0 : Int) := (by omega); have q183 : 0 < (t176.length : Int) := of_decide_eq_true (by first | (with_reducible assumption) | assumption); obtain ⟨ad183, e183, hx183_0, hx183_1, hx183_2, hx183_3⟩ := at_T32 (Kd.R_reads' HO181.out).2.2 0 p183 q183; obtain rfl : ad182 = ad183 := (by injection e183); have qi183 : (0 < t176.length) = True := eq_true (by omega); (try rw [show ((0 : Int)).toNat = 0 from rfl] at hx183_0); (try rw [show 0 * 4 = 0 from rfl] at hx183_0); (try rw [Addr.add_zero'] at hx183_0); (try rw [show ((0 : Int)).toNat = 0 from rfl] at hx183_1); (try rw [show 0 * 4 = 0 from rfl] at hx183_1); (try rw [Addr.add_zero'] at hx183_1); (try rw [show ((0 : Int)).toNat = 0 from rfl] at hx183_2); (try rw [show 0 * 4 = 0 from rfl] at hx183_2); (try rw [Addr.add_zero'] at hx183_2); (try rw [show ((0 : Int)).toNat = 0 from rfl] at hx183_3); (try rw [show 0 * 4 = 0 from rfl] at hx183_3); (try rw [Addr.add_zero'] at hx183_3); replace p183 := eq_true p183; replace q183 := eq_true q183; have p184 : 0 ≤ (0 : Int) := (by omega); have q184 : 0 < (t176.length : Int) := of_decide_eq_true (by first | (with_reducible assumption) | assumption); obtain ⟨ad184, e184, hx184_0, hx184_1, hx184_2, hx184_3⟩ := at_T32 (Kd.R_reads' HO181.out).2.2 0 p184 q184; obtain rfl : ad182 = ad184 := (by injection e184); have qi184 : (0 < t176.length) = True := eq_true (by omega); (try rw [show ((0 : Int)).toNat = 0 from rfl] at hx184_0); (try rw [show 0 * 4 = 0 from rfl] at hx184_0); (try rw [Addr.add_zero'] at hx184_0); (try rw [show ((0 : Int)).toNat = 0 from rfl] at hx184_1); (try rw [show 0 * 4 = 0 from rfl] at hx184_1); (try rw [Addr.add_zero'] at hx184_1); (try rw [show ((0 : Int)).toNat = 0 from rfl] at hx184_2); (try rw [show 0 * 4 = 0 from rfl] at hx184_2); (try rw [Addr.add_zero'] at hx184_2); (try rw [show ((0 : Int)).toNat = 0 from rfl] at hx184_3); (try rw [show 0 * 4 = 0 from rfl] at hx184_3); (try rw [Addr.add_zero'] at hx184_3); replace p184 := eq_true p184; replace q184 := eq_true q184; obtain ⟨Ao37, co37, eo37⟩ := Kd.R_slice HO179.out; subst eo37; have p185 : 0 ≤ (0 : Int) := (by omega); have q185 : 0 < (t176.length : Int) := of_decide_eq_true (by first | (with_reducible assumption) | assumption); obtain ⟨ad185, e185, hx185_0, hx185_1, hx185_2, hx185_3⟩ := at_T32 (Kd.R_reads' HO181.out).2.2 0 p185 q185; obtain rfl : ad182 = ad185 := (by injection e185); have qi185 : (0 < t176.length) = True := eq_true (by omega); (try rw [show ((0 : Int)).toNat = 0 from rfl] at hx185_0); (try rw [show 0 * 4 = 0 from rfl] at hx185_0); (try rw [Addr.add_zero'] at hx185_0); (try rw [show ((0 : Int)).toNat = 0 from rfl] at hx185_1); (try rw [show 0 * 4 = 0 from rfl] at hx185_1); (try rw [Addr.add_zero'] at hx185_1); (try rw [show ((0 : Int)).toNat = 0 from rfl] at hx185_2); (try rw [show 0 * 4 = 0 from rfl] at hx185_2); (try rw [Addr.add_zero'] at hx185_2); (try rw [show ((0 : Int)).toNat = 0 from rfl] at hx185_3); (try rw [show 0 * 4 = 0 from rfl] at hx185_3); (try rw [Addr.add_zero'] at hx185_3); replace p185 := eq_true p185; replace q185 := eq_true q185; have p186 : 0 ≤ (2 : Int) := (by omega); have q186 : 2 < (t175.length : Int) := of_decide_eq_true (by first | (with_reducible assumption) | assumption); obtain ⟨ad186, e186, hx186_0, hx186_1, hx186_2, hx186_3, hx186_4⟩ := at_T29 (Kd.R_reads' HO179.out).2.2 2 p186 q186; cases e186; (try simp only [show (2 : Int).toNat = 2 from rfl, Nat.reduceMul, Nat.reduceEqDiff, Go.Addr.add, ↓reduceIte] at hx186_0); (try simp only [show (2 : Int).toNat = 2 from rfl, Nat.reduceMul, Nat.reduceEqDiff, Go.Addr.add, ↓reduceIte] at hx186_1); (try simp only [show (2 : Int).toNat = 2 from rfl, Nat.reduceMul, Nat.reduceEqDiff, Go.Addr.add, ↓reduceIte] at hx186_2); (try simp only [show (2 : Int).toNat = 2 from rfl, Nat.reduceMul, Nat.reduceEqDiff, Go.Addr.add, ↓reduceIte] at hx186_3); (try simp only [show (2 : Int).toNat = 2 from rfl, Nat.reduceMul, Nat.reduceEqDiff, Go.Addr.add, ↓reduceIte] at hx186_4); have qi186 : (2 < t175.length) = True := eq_true (by omega); (try rw [show ((2 : Int)).toNat = 2 from rfl] at hx186_0); (try rw [show 2 * 5 = 10 from rfl] at hx186_0); (try rw [show ((2 : Int)).toNat = 2 from rfl] at hx186_1); (try rw [show 2 * 5 = 10 from rfl] at hx186_1); (try rw [show ((2 : Int)).toNat = 2 from rfl] at hx186_2); (try rw [show 2 * 5 = 10 from rfl] at hx186_2); (try rw [show ((2 : Int)).toNat = 2 from rfl] at hx186_3); (try rw [show 2 * 5 = 10 from rfl] at hx186_3); (try rw [show ((2 : Int)).toNat = 2 from rfl] at hx186_4); (try rw [show 2 * 5 = 10 from rfl] at hx186_4); replace p186 := eq_true p186; replace q186 := eq_true q186; have p187 : 0 ≤ (2 : Int) := (by omega); have q187 : 2 < (t175.length : Int) := of_decide_eq_true (by first | (with_reducible assumption) | assumption); obtain ⟨ad187, e187, hx187_0, hx187_1, hx187_2, hx187_3, hx187_4⟩ := at_T29 (Kd.R_reads' HO179.out).2.2 2 p187 q187; obtain rfl : ad186 = ad187 := (by injection e187); (try simp only [show (2 : Int).toNat = 2 from rfl, Nat.reduceMul, Nat.reduceEqDiff, Go.Addr.add, ↓reduceIte] at hx187_0); (try simp only [show (2 : Int).toNat = 2 from rfl, Nat.reduceMul, Nat.reduceEqDiff, Go.Addr.add, ↓reduceIte] at hx187_1); (try simp only [show (2 : Int).toNat = 2 from rfl, Nat.reduceMul, Nat.reduceEqDiff, Go.Addr.add, ↓reduceIte] at hx187_2); (try simp only [show (2 : Int).toNat = 2 from rfl, Nat.reduceMul, Nat.reduceEqDiff, Go.Addr.add, ↓reduceIte] at hx187_3); (try simp only [show (2 : Int).toNat = 2 from rfl, Nat.reduceMul, Nat.reduceEqDiff, Go.Addr.add, ↓reduceIte] at hx187_4); have qi187 : (2 < t175.length) = True := eq_true (by omega); (try rw [show ((2 : Int)).toNat = 2 from rfl] at hx187_0); (try rw [show 2 * 5 = 10 from rfl] at hx187_0); (try rw [show ((2 : Int)).toNat = 2 from rfl] at hx187_1); (try rw [show 2 * 5 = 10 from rfl] at hx187_1); (try rw [show ((2 : Int)).toNat = 2 from rfl] at hx187_2); (try rw [show 2 * 5 = 10 from rfl] at hx187_2); (try rw [show ((2 : Int)).toNat = 2 from rfl] at hx187_3); (try rw [show 2 * 5 = 10 from rfl] at hx187_3); (try rw [show ((2 : Int)).toNat = 2 from rfl] at hx187_4); (try rw [show 2 * 5 = 10 from rfl] at hx187_4); replace p187 := eq_true p187; replace q187 := eq_true q187))
                        go_ret
                        exact ⟨by first | rfl | (simp [errW_none, errW_some] <;> rfl) | (simp [*, errW_none, errW_some] <;> rfl), by repeat (first | (with_reducible first | exact HB.out | apply below_alloc | apply pw_below_drewN | apply below_drew1) | exact HB.out)⟩
                       ·rw [if_neg c34] at H
                        have c34b0 : (((rd_T29 t175 2).f1).toList == ([98] : List UInt8)) = false := beq_eq_false_iff_ne.mpr c34
                        have c34b1 : (((rd_T29 t175 2).f1).toList != ([98] : List UInt8)) = true := bne_iff_ne.mpr c34
                        exact absurd (H.trans (congrArg some hrt.out)) (by simp)
                      ·rw [if_neg c33] at H
                       exact absurd H (by simp)
                     ·rw [if_neg c32] at H
                      have c32b0 : (((rd_T32 t176 0).f3) == 2) = false := beq_eq_false_iff_ne.mpr c32
                      have c32b1 : (((rd_T32 t176 0).f3) != 2) = true := bne_iff_ne.mpr c32
                      exact absurd (H.trans (congrArg some hrt.out)) (by simp)
                    ·rw [if_neg c31] at H
                     have c31b0 : ((t175.length : Int) == 5) = false := beq_eq_false_iff_ne.mpr c31
                     have c31b1 : ((t175.length : Int) != 5) = true := bne_iff_ne.mpr c31
                     exact absurd (H.trans (congrArg some hrt.out)) (by simp)
                   ·rw [if_neg c30] at H
                    have c30b0 : (((rd_T32 t176 0).f2) == 1) = false := beq_eq_false_iff_ne.mpr c30
                    have c30b1 : (((rd_T32 t176 0).f2) != 1) = true := bne_iff_ne.mpr c30
                    exact absurd (H.trans (congrArg some hrt.out)) (by simp)
                  ·rw [if_neg c29] at H
                   have c29b0 : (((rd_T32 t176 0).f1) == 2) = false := beq_eq_false_iff_ne.mpr c29
                   have c29b1 : (((rd_T32 t176 0).f1) != 2) = true := bne_iff_ne.mpr c29
                   exact absurd (H.trans (congrArg some hrt.out)) (by simp)
                 ·rw [if_neg c28] at H
                  have c28b0 : (((rd_T32 t176 0).f0).toList == x9_3.toList) = false := beq_eq_false_iff_ne.mpr c28
                  have c28b1 : (((rd_T32 t176 0).f0).toList != x9_3.toList) = true := bne_iff_ne.mpr c28
                  exact absurd (H.trans (congrArg some hrt.out)) (by simp)
                ·rw [if_neg c27] at H
                 exact absurd H (by simp)
               ·rw [if_neg c26] at H
                have c26b0 : ((t176.length : Int) == 1) = false := beq_eq_false_iff_ne.mpr c26
                have c26b1 : ((t176.length : Int) != 1) = true := bne_iff_ne.mpr c26
                exact absurd (H.trans (congrArg some hrt.out)) (by simp)
              ·rw [if_neg c25] at H
               have c25b0 : (t177 == (-1)) = false := beq_eq_false_iff_ne.mpr c25
               have c25b1 : (t177 != (-1)) = true := bne_iff_ne.mpr c25
               exact absurd (H.trans (congrArg some hrt.out)) (by simp)
             ·replace c24 := Bool.eq_false_iff.mpr c24
              subst c24
              have H1 : (if t177 = (-1) then (if (t176.length : Int) = 1 then (if 0 < (t176.length : Int) then (if ((rd_T32 t176 0).f0).toList = x9_3.toList then (if ((rd_T32 t176 0).f1) = 2 then (if ((rd_T32 t176 0).f2) = 1 then (if (t175.length : Int) = 4 then (if ((rd_T32 t176 0).f3) = 1 then (if 1 < (t175.length : Int) then (if ((rd_T29 t175 1).f1).toList = ([98] : List UInt8) then (some (((rd_T29 t175 1).f3) == 2)) else (some false)) else (none)) else (some false)) else (some false)) else (some false)) else (some false)) else (some false)) else (none)) else (some false)) else (some false)) = some r := by rw [if_neg (show ¬ (false = true) by decide)] at H; exact H
              clear H
              have H := H1
              clear H1
              by_cases c38 : t177 = (-1)
              ·rw [if_pos c38] at H
               have c38b0 : (t177 == (-1)) = true := beq_iff_eq.mpr c38
               have c38b1 : (t177 != (-1)) = false := bne_eq_false_iff_eq.mpr c38
               clear c38
               by_cases c39 : (t176.length : Int) = 1
               ·rw [if_pos c39] at H
                have c39b0 : ((t176.length : Int) == 1) = true := beq_iff_eq.mpr c39
                have c39b1 : ((t176.length : Int) != 1) = false := bne_eq_false_iff_eq.mpr c39
                clear c39
                by_cases c40 : 0 < (t176.length : Int)
                ·rw [if_pos c40] at H
                 have c40b0 : decide (0 < (t176.length : Int)) = true := decide_eq_true c40
                 have c40b1 : decide (0 < t176.length) = true := decide_eq_true (by omega)
                 clear c40
                 by_cases c41 : ((rd_T32 t176 0).f0).toList = x9_3.toList
                 ·rw [if_pos c41] at H
                  have c41b0 : (((rd_T32 t176 0).f0).toList == x9_3.toList) = true := beq_iff_eq.mpr c41
                  have c41b1 : (((rd_T32 t176 0).f0).toList != x9_3.toList) = false := bne_eq_false_iff_eq.mpr c41
                  clear c41
                  by_cases c42 : ((rd_T32 t176 0).f1) = 2
                  ·rw [if_pos c42] at H
                   have c42b0 : (((rd_T32 t176 0).f1) == 2) = true := beq_iff_eq.mpr c42
                   have c42b1 : (((rd_T32 t176 0).f1) != 2) = false := bne_eq_false_iff_eq.mpr c42
                   clear c42
                   by_cases c43 : ((rd_T32 t176 0).f2) = 1
                   ·rw [if_pos c43] at H
                    have c43b0 : (((rd_T32 t176 0).f2) == 1) = true := beq_iff_eq.mpr c43
                    have c43b1 : (((rd_T32 t176 0).f2) != 1) = false := bne_eq_false_iff_eq.mpr c43
                    clear c43
                    by_cases c44 : (t175.length : Int) = 4
                    ·rw [if_pos c44] at H
                     have c44b0 : ((t175.length : Int) == 4) = true := beq_iff_eq.mpr c44
                     have c44b1 : ((t175.length : Int) != 4) = false := bne_eq_false_iff_eq.mpr c44
                     clear c44
                     by_cases c45 : ((rd_T32 t176 0).f3) = 1
                     ·rw [if_pos c45] at H
                      have c45b0 : (((rd_T32 t176 0).f3) == 1) = true := beq_iff_eq.mpr c45
                      have c45b1 : (((rd_T32 t176 0).f3) != 1) = false := bne_eq_false_iff_eq.mpr c45
                      clear c45
                      by_cases c46 : 1 < (t175.length : Int)
                      ·rw [if_pos c46] at H
                       have c46b0 : decide (1 < (t175.length : Int)) = true := decide_eq_true c46
                       have c46b1 : decide (1 < t175.length) = true := decide_eq_true (by omega)
                       clear c46
                       by_cases c47 : ((rd_T29 t175 1).f1).toList = ([98] : List UInt8)
                       ·rw [if_pos c47] at H
                        have c47b0 : (((rd_T29 t175 1).f1).toList == ([98] : List UInt8)) = true := beq_iff_eq.mpr c47
                        have c47b1 : (((rd_T29 t175 1).f1).toList != ([98] : List UInt8)) = false := bne_eq_false_iff_eq.mpr c47
                        clear c47
                        obtain rfl := Option.some.inj H
                        go_wp2_with (first | ((with_reducible refine gate_callee (f := 14) rfl ?_); refine goesL_ (some 49) rfl rfl Tryd.func14 (by kernel_rfl) rfl #[.string (((x8_11 ++ (⟨#[32]⟩ : ByteArray)) ++ x9_3) ++ (⟨#[10, 98]⟩ : ByteArray))] rfl (by (try simp only [List.map_toArray, List.map_cons, List.map_nil]); first | done | rfl | (simp only [List.length_drop, List.length_take]; rfl) | (simp only [wrap64_wl, wrap64_wr]; rfl)) ?_; (with_reducible refine (scan_Scan.calls (((x8_11 ++ (⟨#[32]⟩ : ByteArray)) ++ x9_3) ++ (⟨#[10, 98]⟩ : ByteArray)) t175 t176 t177 _ (Aside0.mk (tabs_at hT.out (by repeat (first | (with_reducible first | exact HB.out | apply below_alloc | apply pw_below_drewN | apply below_drew1) | exact HB.out)))) A23.out).mono ?_); rintro e w48 ⟨v178, v180, rfl, ho0, ho1, hb⟩; refine ⟨_, rfl, ?_⟩; have n0_ := Aside0.mk (Kd.R_lower ho0 (below_size (by repeat (first | (with_reducible first | exact HB.out | apply below_alloc | apply pw_below_drewN | apply below_drew1) | exact HB.out)))); have n1_ := Aside0.mk (Kd.R_lower ho1 (below_size (by repeat (first | (with_reducible first | exact HB.out | apply below_alloc | apply pw_below_drewN | apply below_drew1) | exact HB.out)))); have n2_ := Aside0.mk (below_step (by repeat (first | (with_reducible first | exact HB.out | apply below_alloc | apply pw_below_drewN | apply below_drew1) | exact HB.out)) hb); clear HB; have HO179 := n0_; have HO181 := n1_; have HB := n2_; clear n0_ n1_ n2_; (try clear hb); (try clear hb2); (try clear hk); (try clear hi); (try clear ho0); (try clear ho1); obtain ⟨Ao49, co49, eo49⟩ := Kd.R_slice HO181.out; subst eo49; have p188 : 0 ≤ (0 : Int) := (by omega); have q188 : 0 < (t176.length : Int) := of_decide_eq_true (by first | (with_reducible assumption) | assumption); obtain ⟨ad188, e188, hx188_0, hx188_1, hx188_2, hx188_3⟩ := at_T32 (Kd.R_reads' HO181.out).2.2 0 p188 q188; cases e188; have qi188 : (0 < t176.length) = True := eq_true (by omega); (try rw [show ((0 : Int)).toNat = 0 from rfl] at hx188_0); (try rw [show 0 * 4 = 0 from rfl] at hx188_0); (try rw [Addr.add_zero'] at hx188_0); (try rw [show ((0 : Int)).toNat = 0 from rfl] at hx188_1); (try rw [show 0 * 4 = 0 from rfl] at hx188_1); (try rw [Addr.add_zero'] at hx188_1); (try rw [show ((0 : Int)).toNat = 0 from rfl] at hx188_2); (try rw [show 0 * 4 = 0 from rfl] at hx188_2); (try rw [Addr.add_zero'] at hx188_2); (try rw [show ((0 : Int)).toNat = 0 from rfl] at hx188_3); (try rw [show 0 * 4 = 0 from rfl] at hx188_3); (try rw [Addr.add_zero'] at hx188_3); replace p188 := eq_true p188; replace q188 := eq_true q188; have p189 : 0 ≤ (0 : Int) := (by omega); have q189 : 0 < (t176.length : Int) := of_decide_eq_true (by first | (with_reducible assumption) | assumption); obtain ⟨ad189, e189, hx189_0, hx189_1, hx189_2, hx189_3⟩ := at_T32 (Kd.R_reads' HO181.out).2.2 0 p189 q189; obtain rfl : ad188 = ad189 := (by injection e189); have qi189 : (0 < t176.length) = True := eq_true (by omega); (try rw [show ((0 : Int)).toNat = 0 from rfl] at hx189_0); (try rw [show 0 * 4 = 0 from rfl] at hx189_0); (try rw [Addr.add_zero'] at hx189_0); (try rw [show ((0 : Int)).toNat = 0 from rfl] at hx189_1); (try rw [show 0 * 4 = 0 from rfl] at hx189_1); (try rw [Addr.add_zero'] at hx189_1); (try rw [show ((0 : Int)).toNat = 0 from rfl] at hx189_2); (try rw [show 0 * 4 = 0 from rfl] at hx189_2); (try rw [Addr.add_zero'] at hx189_2); (try rw [show ((0 : Int)).toNat = 0 from rfl] at hx189_3); (try rw [show 0 * 4 = 0 from rfl] at hx189_3); (try rw [Addr.add_zero'] at hx189_3); replace p189 := eq_true p189; replace q189 := eq_true q189; have p190 : 0 ≤ (0 : Int) := (by omega); have q190 : 0 < (t176.length : Int) := of_decide_eq_true (by first | (with_reducible assumption) | assumption); obtain ⟨ad190, e190, hx190_0, hx190_1, hx190_2, hx190_3⟩ := at_T32 (Kd.R_reads' HO181.out).2.2 0 p190 q190; obtain rfl : ad188 = ad190 := (by injection e190); have qi190 : (0 < t176.length) = True := eq_true (by omega); (try rw [show ((0 : Int)).toNat = 0 from rfl] at hx190_0); (try rw [show 0 * 4 = 0 from rfl] at hx190_0); (try rw [Addr.add_zero'] at hx190_0); (try rw [show ((0 : Int)).toNat = 0 from rfl] at hx190_1); (try rw [show 0 * 4 = 0 from rfl] at hx190_1); (try rw [Addr.add_zero'] at hx190_1); (try rw [show ((0 : Int)).toNat = 0 from rfl] at hx190_2); (try rw [show 0 * 4 = 0 from rfl] at hx190_2); (try rw [Addr.add_zero'] at hx190_2); (try rw [show ((0 : Int)).toNat = 0 from rfl] at hx190_3); (try rw [show 0 * 4 = 0 from rfl] at hx190_3); (try rw [Addr.add_zero'] at hx190_3); replace p190 := eq_true p190; replace q190 := eq_true q190; obtain ⟨Ao50, co50, eo50⟩ := Kd.R_slice HO179.out; subst eo50; have p191 : 0 ≤ (0 : Int) := (by omega); have q191 : 0 < (t176.length : Int) := of_decide_eq_true (by first | (with_reducible assumption) | assumption); obtain ⟨ad191, e191, hx191_0, hx191_1, hx191_2, hx191_3⟩ := at_T32 (Kd.R_reads' HO181.out).2.2 0 p191 q191; obtain rfl : ad188 = ad191 := (by injection e191); have qi191 : (0 < t176.length) = True := eq_true (by omega); (try rw [show ((0 : Int)).toNat = 0 from rfl] at hx191_0); (try rw [show 0 * 4 = 0 from rfl] at hx191_0); (try rw [Addr.add_zero'] at hx191_0); (try rw [show ((0 : Int)).toNat = 0 from rfl] at hx191_1); (try rw [show 0 * 4 = 0 from rfl] at hx191_1); (try rw [Addr.add_zero'] at hx191_1); (try rw [show ((0 : Int)).toNat = 0 from rfl] at hx191_2); (try rw [show 0 * 4 = 0 from rfl] at hx191_2); (try rw [Addr.add_zero'] at hx191_2); (try rw [show ((0 : Int)).toNat = 0 from rfl] at hx191_3); (try rw [show 0 * 4 = 0 from rfl] at hx191_3); (try rw [Addr.add_zero'] at hx191_3); replace p191 := eq_true p191; replace q191 := eq_true q191; have p192 : 0 ≤ (1 : Int) := (by omega); have q192 : 1 < (t175.length : Int) := of_decide_eq_true (by first | (with_reducible assumption) | assumption); obtain ⟨ad192, e192, hx192_0, hx192_1, hx192_2, hx192_3, hx192_4⟩ := at_T29 (Kd.R_reads' HO179.out).2.2 1 p192 q192; cases e192; (try simp only [show (1 : Int).toNat = 1 from rfl, Nat.reduceMul, Nat.reduceEqDiff, Go.Addr.add, ↓reduceIte] at hx192_0); (try simp only [show (1 : Int).toNat = 1 from rfl, Nat.reduceMul, Nat.reduceEqDiff, Go.Addr.add, ↓reduceIte] at hx192_1); (try simp only [show (1 : Int).toNat = 1 from rfl, Nat.reduceMul, Nat.reduceEqDiff, Go.Addr.add, ↓reduceIte] at hx192_2); (try simp only [show (1 : Int).toNat = 1 from rfl, Nat.reduceMul, Nat.reduceEqDiff, Go.Addr.add, ↓reduceIte] at hx192_3); (try simp only [show (1 : Int).toNat = 1 from rfl, Nat.reduceMul, Nat.reduceEqDiff, Go.Addr.add, ↓reduceIte] at hx192_4); have qi192 : (1 < t175.length) = True := eq_true (by omega); (try rw [show ((1 : Int)).toNat = 1 from rfl] at hx192_0); (try rw [show 1 * 5 = 5 from rfl] at hx192_0); (try rw [show ((1 : Int)).toNat = 1 from rfl] at hx192_1); (try rw [show 1 * 5 = 5 from rfl] at hx192_1); (try rw [show ((1 : Int)).toNat = 1 from rfl] at hx192_2); (try rw [show 1 * 5 = 5 from rfl] at hx192_2); (try rw [show ((1 : Int)).toNat = 1 from rfl] at hx192_3); (try rw [show 1 * 5 = 5 from rfl] at hx192_3); (try rw [show ((1 : Int)).toNat = 1 from rfl] at hx192_4); (try rw [show 1 * 5 = 5 from rfl] at hx192_4); replace p192 := eq_true p192; replace q192 := eq_true q192; have p193 : 0 ≤ (1 : Int) := (by omega); have q193 : 1 < (t175.length : Int) := of_decide_eq_true (by first | (with_reducible assumption) | assumption); obtain ⟨ad193, e193, hx193_0, hx193_1, hx193_2, hx193_3, hx193_4⟩ := at_T29 (Kd.R_reads' HO179.out).2.2 1 p193 q193; obtain rfl : ad192 = ad193 := (by injection e193); (try simp only [show (1 : Int).toNat = 1 from rfl, Nat.reduceMul, Nat.reduceEqDiff, Go.Addr.add, ↓reduceIte] at hx193_0); (try simp only [show (1 : Int).toNat = 1 from rfl, Nat.reduceMul, Nat.reduceEqDiff, Go.Addr.add, ↓reduceIte] at hx193_1); (try simp only [show (1 : Int).toNat = 1 from rfl, Nat.reduceMul, Nat.reduceEqDiff, Go.Addr.add, ↓reduceIte] at hx193_2); (try simp only [show (1 : Int).toNat = 1 from rfl, Nat.reduceMul, Nat.reduceEqDiff, Go.Addr.add, ↓reduceIte] at hx193_3); (try simp only [show (1 : Int).toNat = 1 from rfl, Nat.reduceMul, Nat.reduceEqDiff, Go.Addr.add, ↓reduceIte] at hx193_4); have qi193 : (1 < t175.length) = True := eq_true (by omega); (try rw [show ((1 : Int)).toNat = 1 from rfl] at hx193_0); (try rw [show 1 * 5 = 5 from rfl] at hx193_0); (try rw [show ((1 : Int)).toNat = 1 from rfl] at hx193_1); (try rw [show 1 * 5 = 5 from rfl] at hx193_1); (try rw [show ((1 : Int)).toNat = 1 from rfl] at hx193_2); (try rw [show 1 * 5 = 5 from rfl] at hx193_2); (try rw [show ((1 : Int)).toNat = 1 from rfl] at hx193_3); (try rw [show 1 * 5 = 5 from rfl] at hx193_3); (try rw [show ((1 : Int)).toNat = 1 from rfl] at hx193_4); (try rw [show 1 * 5 = 5 from rfl] at hx193_4); replace p193 := eq_true p193; replace q193 := eq_true q193))
                        go_ret
                        exact ⟨by first | rfl | (simp [errW_none, errW_some] <;> rfl) | (simp [*, errW_none, errW_some] <;> rfl), by repeat (first | (with_reducible first | exact HB.out | apply below_alloc | apply pw_below_drewN | apply below_drew1) | exact HB.out)⟩
                       ·rw [if_neg c47] at H
                        have c47b0 : (((rd_T29 t175 1).f1).toList == ([98] : List UInt8)) = false := beq_eq_false_iff_ne.mpr c47
                        have c47b1 : (((rd_T29 t175 1).f1).toList != ([98] : List UInt8)) = true := bne_iff_ne.mpr c47
                        exact absurd (H.trans (congrArg some hrt.out)) (by simp)
                      ·rw [if_neg c46] at H
                       exact absurd H (by simp)
                     ·rw [if_neg c45] at H
                      have c45b0 : (((rd_T32 t176 0).f3) == 1) = false := beq_eq_false_iff_ne.mpr c45
                      have c45b1 : (((rd_T32 t176 0).f3) != 1) = true := bne_iff_ne.mpr c45
                      exact absurd (H.trans (congrArg some hrt.out)) (by simp)
                    ·rw [if_neg c44] at H
                     have c44b0 : ((t175.length : Int) == 4) = false := beq_eq_false_iff_ne.mpr c44
                     have c44b1 : ((t175.length : Int) != 4) = true := bne_iff_ne.mpr c44
                     exact absurd (H.trans (congrArg some hrt.out)) (by simp)
                   ·rw [if_neg c43] at H
                    have c43b0 : (((rd_T32 t176 0).f2) == 1) = false := beq_eq_false_iff_ne.mpr c43
                    have c43b1 : (((rd_T32 t176 0).f2) != 1) = true := bne_iff_ne.mpr c43
                    exact absurd (H.trans (congrArg some hrt.out)) (by simp)
                  ·rw [if_neg c42] at H
                   have c42b0 : (((rd_T32 t176 0).f1) == 2) = false := beq_eq_false_iff_ne.mpr c42
                   have c42b1 : (((rd_T32 t176 0).f1) != 2) = true := bne_iff_ne.mpr c42
                   exact absurd (H.trans (congrArg some hrt.out)) (by simp)
                 ·rw [if_neg c41] at H
                  have c41b0 : (((rd_T32 t176 0).f0).toList == x9_3.toList) = false := beq_eq_false_iff_ne.mpr c41
                  have c41b1 : (((rd_T32 t176 0).f0).toList != x9_3.toList) = true := bne_iff_ne.mpr c41
                  exact absurd (H.trans (congrArg some hrt.out)) (by simp)
                ·rw [if_neg c40] at H
                 exact absurd H (by simp)
               ·rw [if_neg c39] at H
                have c39b0 : ((t176.length : Int) == 1) = false := beq_eq_false_iff_ne.mpr c39
                have c39b1 : ((t176.length : Int) != 1) = true := bne_iff_ne.mpr c39
                exact absurd (H.trans (congrArg some hrt.out)) (by simp)
              ·rw [if_neg c38] at H
               have c38b0 : (t177 == (-1)) = false := beq_eq_false_iff_ne.mpr c38
               have c38b1 : (t177 != (-1)) = true := bne_iff_ne.mpr c38
               exact absurd (H.trans (congrArg some hrt.out)) (by simp)
            ·rw [if_neg c22] at H
             exact absurd H (by simp)
           ·rw [if_neg c21] at H
            exact absurd H (by simp)
          ·rw [if_neg c20] at H
           exact absurd H (by simp)
 ·replace c5 := Bool.eq_false_iff.mpr c5
  subst c5
  have H1 : (some false) = some r := by rw [if_neg (show ¬ (false = true) by decide)] at H; exact H
  clear H
  have H := H1
  clear H1
  exact absurd (H.trans (congrArg some hrt.out)) (by simp)

/-- THE ONE PURE STATEMENT of recensionlaw6_ScanNotes: yours. -/
def recensionlaw6_ScanNotes.Pure : Prop := ∀ (a0 : Int) (a1 : Int) (a2 : Bool), (Lit.int .i64 a0).wf = true → (Lit.int .u8 a1).wf = true → ∃ k, recensionlaw6_ScanNotes.f k a0 a1 a2 = some true
theorem recensionlaw6_ScanNotes.walk (P : recensionlaw6_ScanNotes.Pure) (a0 : Int) (a1 : Int) (a2 : Bool) (w : World) (w0 : (Lit.int .i64 a0).wf = true) (w1 : (Lit.int .u8 a1).wf = true) (hT : Tabs w) :
  Calls Tryd.prog 4 #[.int .i64 a0, .int .u8 a1, .bool a2] w fun e w' => e = .returned (.bool true) ∧ Below w.heap.size w w' := by
 obtain ⟨k, h⟩ := P a0 a1 a2 w0 w1
 refine (recensionlaw6_ScanNotes.calls k a0 a1 a2 true w ⟨rfl⟩ ⟨hT⟩ h).mono ?_
 rintro e w' ⟨rfl, hd⟩
 exact ⟨rfl, hd⟩

end Go.Proofs.YtohhnblaoihgbaaDoor.PScan
