-- Written by myprint.py (the prover's own turn of the printer); not trusted: Lean checks it.
import Derived.Test.YthioodhmfclinaaDoorPLinesAtx0
import Derived.Test.YthioodhmfclinaaDoorPLinesAtx2
namespace Go.Proofs.YthioodhmfclinaaDoor.PLinesAt
open Go.RowKit Go.Proofs.YthioodhmfclinaaDoorW.PrintWords Go.Proofs.YthioodhmfclinaaDoorW.PrintLast Go.Proofs.YthioodhmfclinaaDoorW.PrintMore
attribute [local go_sem] max2_int min2_int max_two min_two max_three min_three max_four min_four   -- for this text's walks alone
set_option linter.unusedVariables false
set_option linter.unusedSimpArgs false

/-! ### recensionlaw7_LinesAt: function 6 -/
mutual
def recensionlaw7_LinesAt.l0 : Nat → List Int → Int → Int → ByteArray → Int → List Int → Option (Bool)
 | 0, _, _, _, _, _, _ => none
 | k + 1, x0, x1, x2, x8, x9, x10 => if x9 < (x0.length : Int) then (recensionlaw7_LinesAt.j1 k x0 x1 x2 x8 x9 x10 (decide (x9 < 8))) else (recensionlaw7_LinesAt.j1 k x0 x1 x2 x8 x9 x10 false)
def recensionlaw7_LinesAt.j1 : Nat → List Int → Int → Int → ByteArray → Int → List Int → Bool → Option (Bool)
 | 0, _, _, _, _, _, _, _ => none
 | k + 1, x0, x1, x2, x8, x9, x10, x26 => if x26 = true then (if x10.length < 17592186044416 then (recensionlaw7_LinesAt.l1 k x0 x1 x2 x8 x9 (x10 ++ [(x8.size : Int)]) 0) else (none)) else (if x10.length < 17592186044416 then ((some (x10 ++ [(x8.size : Int)] : List Int)).bind fun y165 => (if x1 < 1 then (recensionlaw7_LinesAt.j3 k x1 x2 x8 x9 y165 true) else (if x1 > (wrap64 (x9 + 1)) then (recensionlaw7_LinesAt.j3 k x1 x2 x8 x9 y165 true) else (if x2 < 1 then (recensionlaw7_LinesAt.j3 k x1 x2 x8 x9 y165 true) else (recensionlaw7_LinesAt.j3 k x1 x2 x8 x9 y165 (decide (x2 > 20))))))) else (none))
def recensionlaw7_LinesAt.l1 : Nat → List Int → Int → Int → ByteArray → Int → List Int → Int → Option (Bool)
 | 0, _, _, _, _, _, _, _ => none
 | k + 1, x0, x1, x2, x8, x9, x10, x11 => if 0 ≤ x9 then (if x9 < (x0.length : Int) then (if x11 < (Int.tmod (wrap64 ((Int.tmod (rd x0 x9) 9) + 9)) 9) then (if x8.size + 1 ≤ 9223372036854775807 then (recensionlaw7_LinesAt.l1 k x0 x1 x2 (x8 ++ (⟨#[120]⟩ : ByteArray)) x9 x10 (wrap64 (x11 + 1))) else (none)) else (if x8.size + 1 ≤ 9223372036854775807 then (recensionlaw7_LinesAt.l0 k x0 x1 x2 (x8 ++ (⟨#[10]⟩ : ByteArray)) (wrap64 (x9 + 1)) x10) else (none))) else (none)) else (none)
def recensionlaw7_LinesAt.j3 : Nat → Int → Int → ByteArray → Int → List Int → Bool → Option (Bool)
 | 0, _, _, _, _, _, _ => none
 | k + 1, x1, x2, x8, x9, x10, x69 => if x69 = true then ((lines_At.f k x8 0 1).bind fun t168 => (if t168 = (-1) then ((lines_At.f k x8 1 0).bind fun t169 => (if t169 = (-1) then ((lines_At.f k x8 (wrap64 (x9 + 2)) 1).bind fun t170 => (some (t170 == (-1)))) else (some false))) else (some false))) else (if x1 ≤ x9 then (if 0 ≤ x1 then (if x1 < (x10.length : Int) then (recensionlaw7_LinesAt.j4 k x1 x2 x8 x10 (wrap64 ((rd x10 x1) - 1))) else (none)) else (none)) else (recensionlaw7_LinesAt.j4 k x1 x2 x8 x10 (x8.size : Int)))
def recensionlaw7_LinesAt.j4 : Nat → Int → Int → ByteArray → List Int → Int → Option (Bool)
 | 0, _, _, _, _, _ => none
 | k + 1, x1, x2, x8, x10, x12 => if 0 ≤ (wrap64 (x1 - 1)) then (if (wrap64 (x1 - 1)) < (x10.length : Int) then (if (wrap64 ((wrap64 ((rd x10 (wrap64 (x1 - 1))) + x2)) - 1)) > x12 then ((lines_Line.f k x8 x1).bind fun bt173 => ((lines_At.f k x8 x1 x2).bind fun t175 => (if t175 = (-1) then (if bt173.2 = true then (some ((bt173.1.size : Int) == (wrap64 (x12 - (rd x10 (wrap64 (x1 - 1))))))) else (some false)) else (some false)))) else ((lines_Line.f k x8 x1).bind fun bt177 => ((lines_At.f k x8 x1 x2).bind fun t179 => (if t179 = (wrap64 ((wrap64 ((rd x10 (wrap64 (x1 - 1))) + x2)) - 1)) then (if bt177.2 = true then (some ((bt177.1.size : Int) == (wrap64 (x12 - (rd x10 (wrap64 (x1 - 1))))))) else (some false)) else (some false))))) else (none)) else (none)
end
def recensionlaw7_LinesAt.f (k : Nat) (l0 : List Int) (a1 : Int) (a2 : Int) : Option (Bool) := (recensionlaw7_begun.f k).bind fun t160 => (if t160 = true then (recensionlaw7_LinesAt.l0 k l0 a1 a2 (⟨#[]⟩ : ByteArray) 0 ([] : List Int)) else (some false))
theorem recensionlaw7_LinesAt.mono_l : ∀ k, (∀ y0 y1 y2 y3 y4 y5, LeO (recensionlaw7_LinesAt.l0 k y0 y1 y2 y3 y4 y5) (recensionlaw7_LinesAt.l0 (k + 1) y0 y1 y2 y3 y4 y5)) ∧ (∀ y0 y1 y2 y3 y4 y5 y6, LeO (recensionlaw7_LinesAt.j1 k y0 y1 y2 y3 y4 y5 y6) (recensionlaw7_LinesAt.j1 (k + 1) y0 y1 y2 y3 y4 y5 y6)) ∧ (∀ y0 y1 y2 y3 y4 y5 y6, LeO (recensionlaw7_LinesAt.l1 k y0 y1 y2 y3 y4 y5 y6) (recensionlaw7_LinesAt.l1 (k + 1) y0 y1 y2 y3 y4 y5 y6)) ∧ (∀ y0 y1 y2 y3 y4 y5, LeO (recensionlaw7_LinesAt.j3 k y0 y1 y2 y3 y4 y5) (recensionlaw7_LinesAt.j3 (k + 1) y0 y1 y2 y3 y4 y5)) ∧ (∀ y0 y1 y2 y3 y4, LeO (recensionlaw7_LinesAt.j4 k y0 y1 y2 y3 y4) (recensionlaw7_LinesAt.j4 (k + 1) y0 y1 y2 y3 y4))
 | 0 => ⟨fun _ _ _ _ _ _ r h => by simp [recensionlaw7_LinesAt.l0] at h, fun _ _ _ _ _ _ _ r h => by simp [recensionlaw7_LinesAt.j1] at h, fun _ _ _ _ _ _ _ r h => by simp [recensionlaw7_LinesAt.l1] at h, fun _ _ _ _ _ _ r h => by simp [recensionlaw7_LinesAt.j3] at h, fun _ _ _ _ _ r h => by simp [recensionlaw7_LinesAt.j4] at h⟩
 | k + 1 => by
  obtain ⟨ih0, ih1, ih2, ih3, ih4⟩ := recensionlaw7_LinesAt.mono_l k
  refine ⟨?_, ?_, ?_, ?_, ?_⟩
  ·intro y0 y1 y2 y3 y4 y5
   unfold recensionlaw7_LinesAt.l0
   repeat' first
   | (with_reducible exact ih0 _ _ _ _ _ _)
   | (with_reducible exact ih1 _ _ _ _ _ _ _)
   | (with_reducible exact ih2 _ _ _ _ _ _ _)
   | (with_reducible exact ih3 _ _ _ _ _ _)
   | (with_reducible exact ih4 _ _ _ _ _)
   | (with_reducible exact lines_At.mono _ _ _ _)
   | (with_reducible exact lines_Line.mono _ _ _)
   | (with_reducible exact recensionlaw7_begun.mono _)
   | (with_reducible exact LeO.refl _)
   | (with_reducible exact LeO.none _)
   | (with_reducible refine LeO.ite ?_ ?_)
   | (with_reducible refine LeO.bind ?_ (fun _ => ?_))
   | exact ih0 _ _ _ _ _ _
   | exact ih1 _ _ _ _ _ _ _
   | exact ih2 _ _ _ _ _ _ _
   | exact ih3 _ _ _ _ _ _
   | exact ih4 _ _ _ _ _
   | exact lines_At.mono _ _ _ _
   | exact lines_Line.mono _ _ _
   | exact recensionlaw7_begun.mono _
   | exact LeO.none _
   | refine LeO.ite ?_ ?_
   | refine LeO.bind ?_ (fun _ => ?_)
  ·intro y0 y1 y2 y3 y4 y5 y6
   unfold recensionlaw7_LinesAt.j1
   repeat' first
   | (with_reducible exact ih0 _ _ _ _ _ _)
   | (with_reducible exact ih1 _ _ _ _ _ _ _)
   | (with_reducible exact ih2 _ _ _ _ _ _ _)
   | (with_reducible exact ih3 _ _ _ _ _ _)
   | (with_reducible exact ih4 _ _ _ _ _)
   | (with_reducible exact lines_At.mono _ _ _ _)
   | (with_reducible exact lines_Line.mono _ _ _)
   | (with_reducible exact recensionlaw7_begun.mono _)
   | (with_reducible exact LeO.refl _)
   | (with_reducible exact LeO.none _)
   | (with_reducible refine LeO.ite ?_ ?_)
   | (with_reducible refine LeO.bind ?_ (fun _ => ?_))
   | exact ih0 _ _ _ _ _ _
   | exact ih1 _ _ _ _ _ _ _
   | exact ih2 _ _ _ _ _ _ _
   | exact ih3 _ _ _ _ _ _
   | exact ih4 _ _ _ _ _
   | exact lines_At.mono _ _ _ _
   | exact lines_Line.mono _ _ _
   | exact recensionlaw7_begun.mono _
   | exact LeO.none _
   | refine LeO.ite ?_ ?_
   | refine LeO.bind ?_ (fun _ => ?_)
  ·intro y0 y1 y2 y3 y4 y5 y6
   unfold recensionlaw7_LinesAt.l1
   repeat' first
   | (with_reducible exact ih0 _ _ _ _ _ _)
   | (with_reducible exact ih1 _ _ _ _ _ _ _)
   | (with_reducible exact ih2 _ _ _ _ _ _ _)
   | (with_reducible exact ih3 _ _ _ _ _ _)
   | (with_reducible exact ih4 _ _ _ _ _)
   | (with_reducible exact lines_At.mono _ _ _ _)
   | (with_reducible exact lines_Line.mono _ _ _)
   | (with_reducible exact recensionlaw7_begun.mono _)
   | (with_reducible exact LeO.refl _)
   | (with_reducible exact LeO.none _)
   | (with_reducible refine LeO.ite ?_ ?_)
   | (with_reducible refine LeO.bind ?_ (fun _ => ?_))
   | exact ih0 _ _ _ _ _ _
   | exact ih1 _ _ _ _ _ _ _
   | exact ih2 _ _ _ _ _ _ _
   | exact ih3 _ _ _ _ _ _
   | exact ih4 _ _ _ _ _
   | exact lines_At.mono _ _ _ _
   | exact lines_Line.mono _ _ _
   | exact recensionlaw7_begun.mono _
   | exact LeO.none _
   | refine LeO.ite ?_ ?_
   | refine LeO.bind ?_ (fun _ => ?_)
  ·intro y0 y1 y2 y3 y4 y5
   unfold recensionlaw7_LinesAt.j3
   repeat' first
   | (with_reducible exact ih0 _ _ _ _ _ _)
   | (with_reducible exact ih1 _ _ _ _ _ _ _)
   | (with_reducible exact ih2 _ _ _ _ _ _ _)
   | (with_reducible exact ih3 _ _ _ _ _ _)
   | (with_reducible exact ih4 _ _ _ _ _)
   | (with_reducible exact lines_At.mono _ _ _ _)
   | (with_reducible exact lines_Line.mono _ _ _)
   | (with_reducible exact recensionlaw7_begun.mono _)
   | (with_reducible exact LeO.refl _)
   | (with_reducible exact LeO.none _)
   | (with_reducible refine LeO.ite ?_ ?_)
   | (with_reducible refine LeO.bind ?_ (fun _ => ?_))
   | exact ih0 _ _ _ _ _ _
   | exact ih1 _ _ _ _ _ _ _
   | exact ih2 _ _ _ _ _ _ _
   | exact ih3 _ _ _ _ _ _
   | exact ih4 _ _ _ _ _
   | exact lines_At.mono _ _ _ _
   | exact lines_Line.mono _ _ _
   | exact recensionlaw7_begun.mono _
   | exact LeO.none _
   | refine LeO.ite ?_ ?_
   | refine LeO.bind ?_ (fun _ => ?_)
  ·intro y0 y1 y2 y3 y4
   unfold recensionlaw7_LinesAt.j4
   repeat' first
   | (with_reducible exact ih0 _ _ _ _ _ _)
   | (with_reducible exact ih1 _ _ _ _ _ _ _)
   | (with_reducible exact ih2 _ _ _ _ _ _ _)
   | (with_reducible exact ih3 _ _ _ _ _ _)
   | (with_reducible exact ih4 _ _ _ _ _)
   | (with_reducible exact lines_At.mono _ _ _ _)
   | (with_reducible exact lines_Line.mono _ _ _)
   | (with_reducible exact recensionlaw7_begun.mono _)
   | (with_reducible exact LeO.refl _)
   | (with_reducible exact LeO.none _)
   | (with_reducible refine LeO.ite ?_ ?_)
   | (with_reducible refine LeO.bind ?_ (fun _ => ?_))
   | exact ih0 _ _ _ _ _ _
   | exact ih1 _ _ _ _ _ _ _
   | exact ih2 _ _ _ _ _ _ _
   | exact ih3 _ _ _ _ _ _
   | exact ih4 _ _ _ _ _
   | exact lines_At.mono _ _ _ _
   | exact lines_Line.mono _ _ _
   | exact recensionlaw7_begun.mono _
   | exact LeO.none _
   | refine LeO.ite ?_ ?_
   | refine LeO.bind ?_ (fun _ => ?_)
theorem recensionlaw7_LinesAt.mono : ∀ a0 a1 a2 k, LeO (recensionlaw7_LinesAt.f k a0 a1 a2) (recensionlaw7_LinesAt.f (k + 1) a0 a1 a2) := by
 intro a0 a1 a2 k
 obtain ⟨ih0, ih1, ih2, ih3, ih4⟩ := recensionlaw7_LinesAt.mono_l k
 unfold recensionlaw7_LinesAt.f
 repeat' first
   | (with_reducible exact ih0 _ _ _ _ _ _)
   | (with_reducible exact ih1 _ _ _ _ _ _ _)
   | (with_reducible exact ih2 _ _ _ _ _ _ _)
   | (with_reducible exact ih3 _ _ _ _ _ _)
   | (with_reducible exact ih4 _ _ _ _ _)
   | (with_reducible exact lines_At.mono _ _ _ _)
   | (with_reducible exact lines_Line.mono _ _ _)
   | (with_reducible exact recensionlaw7_begun.mono _)
   | (with_reducible exact LeO.refl _)
   | (with_reducible exact LeO.none _)
   | (with_reducible refine LeO.ite ?_ ?_)
   | (with_reducible refine LeO.bind ?_ (fun _ => ?_))
   | exact ih0 _ _ _ _ _ _
   | exact ih1 _ _ _ _ _ _ _
   | exact ih2 _ _ _ _ _ _ _
   | exact ih3 _ _ _ _ _ _
   | exact ih4 _ _ _ _ _
   | exact lines_At.mono _ _ _ _
   | exact lines_Line.mono _ _ _
   | exact recensionlaw7_begun.mono _
   | exact LeO.none _
   | refine LeO.ite ?_ ?_
   | refine LeO.bind ?_ (fun _ => ?_)
set_option maxHeartbeats 8000000 in
set_option maxRecDepth 100000 in
theorem recensionlaw7_LinesAt.calls (k : Nat) (A0 : Option Addr) (c0 : Nat) (l0 : List Int) (a1 : Int) (a2 : Int) (r : Bool) (w : World) (hr0 : Kd.C (Kd.int .i64) w A0 l0.length l0) (hc0 : l0.length ≤ c0) (hrt : Aside0 (r = true)) (h : recensionlaw7_LinesAt.f k l0 a1 a2 = some r) :
  Calls Tryd.prog 6 #[.slice A0 l0.length c0, .int .i64 a1, .int .i64 a2] w fun e w' => e = .returned (.bool r) ∧ Below w.heap.size w w' := by
 have HR0 := Aside0.mk hr0
 have HC0 := Aside0.mk hc0
 clear hr0 hc0
 have HB := Aside0.mk (Below.refl w.heap.size w)
 have H : ((recensionlaw7_begun.f k).bind fun t160 => (if t160 = true then (recensionlaw7_LinesAt.l0 k l0 a1 a2 (⟨#[]⟩ : ByteArray) 0 ([] : List Int)) else (some false))) = some r := h
 clear h
 replace H := Option.bind_eq_some_iff.mp H
 obtain ⟨t160, A40, H⟩ := H
 replace H : (if t160 = true then (recensionlaw7_LinesAt.l0 k l0 a1 a2 (⟨#[]⟩ : ByteArray) 0 ([] : List Int)) else (some false)) = some r := H
 have A4 := Aside0.mk A40
 clear A40
 by_cases c5 : t160 = true
 ·subst c5
  have H1 : (recensionlaw7_LinesAt.l0 k l0 a1 a2 (⟨#[]⟩ : ByteArray) 0 ([] : List Int)) = some r := by rw [if_pos rfl] at H; exact H
  clear H
  have H := H1
  clear H1
  have H' := Aside0.mk H
  clear H
  go_enter Tryd.func6, Tryd.ntmps6
  go_wp2_with (first | ((with_reducible refine gate_callee (f := 7) rfl ?_); refine goesL_ (some 16) rfl rfl Tryd.func7 (by kernel_rfl) rfl #[] rfl (by (try simp only [List.map_toArray, List.map_cons, List.map_nil]); first | done | rfl | (simp only [List.length_drop, List.length_take]; rfl) | (simp only [wrap64_wl, wrap64_wr]; rfl)) ?_; (with_reducible refine (recensionlaw7_begun.calls k  true _ A4.out).mono ?_); rintro e w6 ⟨rfl, hb⟩; refine ⟨_, rfl, ?_⟩; have n0_ := Aside0.mk (below_step (by repeat (first | (with_reducible first | exact HB.out | apply below_alloc | apply pw_below_drewN | apply below_drew1) | exact HB.out)) hb); clear HB; have HB := n0_; clear n0_; (try clear hb); (try clear hb2); (try clear hk); (try clear hi)))
  go_loopg [8, 9, 10] k (fun kq v8 v9 v10 w' => ∃ (x8_1 : ByteArray) (x9_1 : Int) (x10_1 : List Int), v8 = .string x8_1 ∧ v9 = .int .i64 x9_1 ∧ Aside0 (recensionlaw7_LinesAt.l0 kq l0 a1 a2 x8_1 x9_1 x10_1 = some r) ∧ Aside0 (kq ≤ k) ∧ Aside0 (Kd.R (Kd.int .i64) 3 w' w.heap.size (fun _ => True) v10 x10_1) ∧ Aside0 (Below w.heap.size w w'))
  case atStart => exact ⟨((⟨#[]⟩ : ByteArray)), (0), (([] : List Int)), (by first | rfl | (simp; done) | (simp [*]; done)), (by first | rfl | (simp; done) | (simp [*]; done)), H', ⟨Nat.le_refl _⟩, ⟨by first | exact Kd.R_nil _ _ _ _ _ | exact Kd.N_nil _ _ _ _ _ | exact Kd.V_nil _ _ _ _ _ | exact Kd.Q_nil _ _ _ _ _ | exact Kd.S_nil _ _ _ _ _⟩, ⟨by repeat (first | (with_reducible first | exact HB.out | apply below_alloc | apply pw_below_drewN | apply below_drew1) | exact HB.out)⟩⟩
  case round =>
   clear H'
   try clear p2
   try clear c5
   try clear c6
   try clear p6
   obtain ⟨x8_1, x9_1, x10_1, rfl, rfl, HA, HK1, HO_10, HB⟩ := hrel
   cases gk with
   | zero => exact absurd HA.out (by simp [recensionlaw7_LinesAt.l0])
   | succ k1 =>
    have H := HA.out
    clear HA
    simp only [recensionlaw7_LinesAt.l0] at H
    have HC7 := Aside0.mk H
    clear H
    go_upto_region 7 with (fail)
    go_cut [26] (fun v26 wc => ∃ (kq : Nat) (x26_6 : Bool), v26 = .bool x26_6 ∧ Aside0 (recensionlaw7_LinesAt.j1 kq l0 a1 a2 x8_1 x9_1 x10_1 x26_6 = some r) ∧ Aside0 (kq ≤ k1) ∧ Aside0 (Kd.R (Kd.int .i64) 3 wc w.heap.size (fun _ => True) u10 x10_1) ∧ Aside0 (Below w.heap.size w wc))
    case first =>
     have H := HC7.out
     clear HC7
     by_cases c8 : x9_1 < (l0.length : Int)
     ·rw [if_pos c8] at H
      have c8b0 : decide (x9_1 < (l0.length : Int)) = true := decide_eq_true c8
      clear c8
      (first | rw [c8b0] | (simp only [i64_w, i32_w]; rw [c8b0]) | skip)
      have H' := Aside0.mk H
      clear H
      go_wp2
      go_meet
      case rel => exact ⟨_, (decide (x9_1 < 8)), (by first | rfl | (simp; done) | (simp [*]; done)), H', ⟨by have := HK1.out; first | omega | exact Nat.le_refl _⟩, ⟨by (with_reducible repeat (first | apply Kd.R_alloc | apply Kd.R_drewN | apply Kd.R_drew)); exact HO_10.out⟩, ⟨by repeat (first | (with_reducible first | exact HB.out | apply below_alloc | apply pw_below_drewN | apply below_drew1) | exact HB.out)⟩⟩
     ·rw [if_neg c8] at H
      have c8b0 : decide (x9_1 < (l0.length : Int)) = false := decide_eq_false c8
      clear c8
      (first | rw [c8b0] | (simp only [i64_w, i32_w]; rw [c8b0]) | skip)
      have H' := Aside0.mk H
      clear H
      go_wp2
      go_meet
      case rel => exact ⟨_, (false), (by first | rfl | (simp; done) | (simp [*]; done)), H', ⟨by have := HK1.out; first | omega | exact Nat.le_refl _⟩, ⟨by (with_reducible repeat (first | apply Kd.R_alloc | apply Kd.R_drewN | apply Kd.R_drew)); exact HO_10.out⟩, ⟨by repeat (first | (with_reducible first | exact HB.out | apply below_alloc | apply pw_below_drewN | apply below_drew1) | exact HB.out)⟩⟩
    case rest =>
     clear HC7
     try clear p2
     try clear c5
     try clear c6
     try clear p6
     try clear c7
     try clear c8
     try clear c8b0
     try clear p2
     try clear p6
     obtain ⟨kq, x26_6, rfl, HA, HJ6, HO_10, HB⟩ := hcut
     cases kq with
     | zero => exact absurd HA.out (by simp [recensionlaw7_LinesAt.j1])
     | succ kj6 =>
      have H := HA.out
      clear HA
      simp only [recensionlaw7_LinesAt.j1] at H
      by_cases c9 : x26_6 = true
      ·subst c9
       have H1 : (if x10_1.length < 17592186044416 then (recensionlaw7_LinesAt.l1 kj6 l0 a1 a2 x8_1 x9_1 (x10_1 ++ [(x8_1.size : Int)]) 0) else (none)) = some r := by rw [if_pos rfl] at H; exact H
       clear H
       have H := H1
       clear H1
       by_cases c10 : x10_1.length < 17592186044416
       ·rw [if_pos c10] at H
        have LMc10 := Aside0.mk c10
        clear c10
        obtain ⟨y161, hy161⟩ : ∃ y_ : List Int, y_ = (x10_1 ++ [(x8_1.size : Int)]) := ⟨_, rfl⟩
        replace H : (recensionlaw7_LinesAt.l1 kj6 l0 a1 a2 x8_1 x9_1 y161 0) = some r := by first | (rw [hy161]; with_reducible exact H) | (have H2_ := (Option.bind_some _ _).symm.trans H; rw [hy161]; with_reducible exact H2_) | (have H2_ := (Option.bind_some _ _).symm.trans H; with_reducible exact H2_) | with_reducible exact H | (rw [hy161]; exact H) | exact H
        have Ny161 := Aside0.mk hy161
        clear hy161
        have H' := Aside0.mk H
        clear H
        go_wp2_with (first | ((with_reducible refine gate_builtin (b := .append) (xs := #[.tmp 29, .tmp 32]) rfl ?_); (try (refine gate_guard (by rfl) ?_; dsimp only)); at_builtin; refine Kd.R_append (Kd.int .i64) (w0 := w) w.heap.size rfl (.tmp 29) (.tmp 32) 24 3 (.int .i64 0) 8 rfl Tryd.underlying24 info3 rfl (by decide) (by omega) u10 x10_1 (x8_1.size : Int) [.int .i64 (x8_1.size : Int)] (fun _ => True) (fun _ => False) rfl rfl ?aP (fun _ hk => hk.elim) ?aF ?aO ?aB ?aS ?aL ?_; (case aP => exact rfl); (case aB => exact (by repeat (first | (with_reducible first | exact HB.out | apply below_alloc | apply pw_below_drewN | apply below_drew1) | exact HB.out))); (case aF => exact (fun _ _ => trivial)); (case aO => exact (by (with_reducible repeat (first | apply Kd.R_alloc | apply Kd.R_drewN | apply Kd.R_drew)); exact HO_10.out)); (case aS => exact (below_size (by repeat (first | (with_reducible first | exact HB.out | apply below_alloc | apply pw_below_drewN | apply below_drew1) | exact HB.out)))); (case aL => have := LMc10.out; omega); intro v162 w11 ho hb hg hat; rw [← Ny161.out] at ho; have n0_ := Aside0.mk (hb); have n1_ := Aside0.mk (ho); clear HB; clear HO_10; have HB := n0_; have HO163 := n1_; clear n0_ n1_; clear ho hb hg hat))
        go_loopg [8, 11] kj6 (fun kq v8 v11 w' => ∃ (x8_3 : ByteArray) (x11_3 : Int), v8 = .string x8_3 ∧ v11 = .int .i64 x11_3 ∧ Aside0 (recensionlaw7_LinesAt.l1 kq l0 a1 a2 x8_3 x9_1 y161 x11_3 = some r) ∧ Aside0 (kq ≤ kj6) ∧ Aside0 (Kd.R (Kd.int .i64) 3 w' w.heap.size (fun _ => True) v162 y161) ∧ Aside0 (Below w.heap.size w w'))
        case atStart => exact ⟨(x8_1), (0), (by first | rfl | (simp; done) | (simp [*]; done)), (by first | rfl | (simp; done) | (simp [*]; done)), H', ⟨Nat.le_refl _⟩, ⟨by (with_reducible repeat (first | apply Kd.R_alloc | apply Kd.R_drewN | apply Kd.R_drew)); exact HO163.out⟩, ⟨by repeat (first | (with_reducible first | exact HB.out | apply below_alloc | apply pw_below_drewN | apply below_drew1) | exact HB.out)⟩⟩
        case round =>
         clear H'
         try clear c1
         try clear p2
         try clear c5
         try clear c6
         try clear p6
         try clear c7
         try clear c8
         try clear c8b0
         try clear c9
         try clear c10
         try clear p2
         try clear p6
         obtain ⟨x8_3, x11_3, rfl, rfl, HA, HK3, HO_10, HB⟩ := hrel
         cases gk with
         | zero => exact absurd HA.out (by simp [recensionlaw7_LinesAt.l1])
         | succ k3 =>
          have H := HA.out
          clear HA
          simp only [recensionlaw7_LinesAt.l1] at H
          by_cases c12 : 0 ≤ x9_1
          ·rw [if_pos c12] at H
           have c12b0 : decide (0 ≤ x9_1) = true := decide_eq_true c12
           clear c12
           by_cases c13 : x9_1 < (l0.length : Int)
           ·rw [if_pos c13] at H
            have c13b0 : decide (x9_1 < (l0.length : Int)) = true := decide_eq_true c13
            clear c13
            by_cases c14 : x11_3 < (Int.tmod (wrap64 ((Int.tmod (rd l0 x9_1) 9) + 9)) 9)
            ·rw [if_pos c14] at H
             have c14b0 : decide (x11_3 < (Int.tmod (wrap64 ((Int.tmod (rd l0 x9_1) 9) + 9)) 9)) = true := decide_eq_true c14
             clear c14
             by_cases c15 : x8_3.size + 1 ≤ 9223372036854775807
             ·rw [if_pos c15] at H
              have c15b0 := eq_true c15
              have c15b1 : decide (x8_3.size + 1 ≤ 9223372036854775807) = true := decide_eq_true c15
              try have c15b2 : (9223372036854775807 < x8_3.size + 1) = False := eq_false (Nat.not_lt.2 c15)
              have H' := Aside0.mk H
              clear H
              have p164 : 0 ≤ (x9_1 : Int) := of_decide_eq_true (by first | (with_reducible assumption) | assumption)
              have q164 : x9_1 < (l0.length : Int) := of_decide_eq_true (by first | (with_reducible assumption) | assumption)
              obtain ⟨ad164, e164, hx164_0⟩ := Kd.at_int HR0.out x9_1 p164 q164
              cases e164
              replace hx164_0 := (HB.out.cell (World.block_lt_of_cell? w _ hx164_0)).trans hx164_0
              replace p164 := eq_true p164
              replace q164 := eq_true q164
              go_wp2
              go_roundg k3
              case measure => have := HK1.out; have := HJ6.out; have := HK3.out; omega
              case rel => exact ⟨(x8_3 ++ (⟨#[120]⟩ : ByteArray)), (wrap64 (x11_3 + 1)), (by first | rfl | (simp; done) | (simp [*]; done)), (by first | rfl | (simp; done) | (simp [*]; done)), H', ⟨by have := HK1.out; have := HJ6.out; have := HK3.out; omega⟩, ⟨by (with_reducible repeat (first | apply Kd.R_alloc | apply Kd.R_drewN | apply Kd.R_drew)); exact HO_10.out⟩, ⟨by repeat (first | (with_reducible first | exact HB.out | apply below_alloc | apply pw_below_drewN | apply below_drew1) | exact HB.out)⟩⟩
             ·rw [if_neg c15] at H
              exact absurd H (by simp)
            ·rw [if_neg c14] at H
             have c14b0 : decide (x11_3 < (Int.tmod (wrap64 ((Int.tmod (rd l0 x9_1) 9) + 9)) 9)) = false := decide_eq_false c14
             clear c14
             by_cases c16 : x8_3.size + 1 ≤ 9223372036854775807
             ·rw [if_pos c16] at H
              have c16b0 := eq_true c16
              have c16b1 : decide (x8_3.size + 1 ≤ 9223372036854775807) = true := decide_eq_true c16
              try have c16b2 : (9223372036854775807 < x8_3.size + 1) = False := eq_false (Nat.not_lt.2 c16)
              have H' := Aside0.mk H
              clear H
              have p164 : 0 ≤ (x9_1 : Int) := of_decide_eq_true (by first | (with_reducible assumption) | assumption)
              have q164 : x9_1 < (l0.length : Int) := of_decide_eq_true (by first | (with_reducible assumption) | assumption)
              obtain ⟨ad164, e164, hx164_0⟩ := Kd.at_int HR0.out x9_1 p164 q164
              cases e164
              replace hx164_0 := (HB.out.cell (World.block_lt_of_cell? w _ hx164_0)).trans hx164_0
              replace p164 := eq_true p164
              replace q164 := eq_true q164
              go_wp2
              go_roundg k3
              case measure => have := HK1.out; have := HJ6.out; have := HK3.out; omega
              case rel => exact ⟨(x8_3 ++ (⟨#[10]⟩ : ByteArray)), (wrap64 (x9_1 + 1)), (y161), (by first | rfl | (simp; done) | (simp [*]; done)), (by first | rfl | (simp; done) | (simp [*]; done)), H', ⟨by have := HK1.out; have := HJ6.out; have := HK3.out; omega⟩, ⟨by (with_reducible repeat (first | apply Kd.R_alloc | apply Kd.R_drewN | apply Kd.R_drew)); exact HO_10.out⟩, ⟨by repeat (first | (with_reducible first | exact HB.out | apply below_alloc | apply pw_below_drewN | apply below_drew1) | exact HB.out)⟩⟩
             ·rw [if_neg c16] at H
              exact absurd H (by simp)
           ·rw [if_neg c13] at H
            exact absurd H (by simp)
          ·rw [if_neg c12] at H
           exact absurd H (by simp)
       ·rw [if_neg c10] at H
        exact absurd H (by simp)
      ·replace c9 := Bool.eq_false_iff.mpr c9
       subst c9
       have H1 : (if x10_1.length < 17592186044416 then ((some (x10_1 ++ [(x8_1.size : Int)] : List Int)).bind fun y165 => (if a1 < 1 then (recensionlaw7_LinesAt.j3 kj6 a1 a2 x8_1 x9_1 y165 true) else (if a1 > (wrap64 (x9_1 + 1)) then (recensionlaw7_LinesAt.j3 kj6 a1 a2 x8_1 x9_1 y165 true) else (if a2 < 1 then (recensionlaw7_LinesAt.j3 kj6 a1 a2 x8_1 x9_1 y165 true) else (recensionlaw7_LinesAt.j3 kj6 a1 a2 x8_1 x9_1 y165 (decide (a2 > 20))))))) else (none)) = some r := by rw [if_neg (show ¬ (false = true) by decide)] at H; exact H
       clear H
       have H := H1
       clear H1
       by_cases c17 : x10_1.length < 17592186044416
       ·rw [if_pos c17] at H
        have LMc17 := Aside0.mk c17
        clear c17
        obtain ⟨y165, hy165⟩ : ∃ y_ : List Int, y_ = (x10_1 ++ [(x8_1.size : Int)]) := ⟨_, rfl⟩
        replace H : (if a1 < 1 then (recensionlaw7_LinesAt.j3 kj6 a1 a2 x8_1 x9_1 y165 true) else (if a1 > (wrap64 (x9_1 + 1)) then (recensionlaw7_LinesAt.j3 kj6 a1 a2 x8_1 x9_1 y165 true) else (if a2 < 1 then (recensionlaw7_LinesAt.j3 kj6 a1 a2 x8_1 x9_1 y165 true) else (recensionlaw7_LinesAt.j3 kj6 a1 a2 x8_1 x9_1 y165 (decide (a2 > 20)))))) = some r := by first | (rw [hy165]; with_reducible exact H) | (have H2_ := (Option.bind_some _ _).symm.trans H; rw [hy165]; with_reducible exact H2_) | (have H2_ := (Option.bind_some _ _).symm.trans H; with_reducible exact H2_) | with_reducible exact H | (rw [hy165]; exact H) | exact H
        have Ny165 := Aside0.mk hy165
        clear hy165
        have HC18 := Aside0.mk H
        clear H
        go_upto_region 16 with (first | ((with_reducible refine gate_builtin (b := .append) (xs := #[.tmp 49, .tmp 52]) rfl ?_); (try (refine gate_guard (by rfl) ?_; dsimp only)); at_builtin; refine Kd.R_append (Kd.int .i64) (w0 := w) w.heap.size rfl (.tmp 49) (.tmp 52) 24 3 (.int .i64 0) 8 rfl Tryd.underlying24 info3 rfl (by decide) (by omega) u10 x10_1 (x8_1.size : Int) [.int .i64 (x8_1.size : Int)] (fun _ => True) (fun _ => False) rfl rfl ?aP (fun _ hk => hk.elim) ?aF ?aO ?aB ?aS ?aL ?_; (case aP => exact rfl); (case aB => exact (by repeat (first | (with_reducible first | exact HB.out | apply below_alloc | apply pw_below_drewN | apply below_drew1) | exact HB.out))); (case aF => exact (fun _ _ => trivial)); (case aO => exact (by (with_reducible repeat (first | apply Kd.R_alloc | apply Kd.R_drewN | apply Kd.R_drew)); exact HO_10.out)); (case aS => exact (below_size (by repeat (first | (with_reducible first | exact HB.out | apply below_alloc | apply pw_below_drewN | apply below_drew1) | exact HB.out)))); (case aL => have := LMc17.out; omega); intro v166 w19 ho hb hg hat; rw [← Ny165.out] at ho; have n0_ := Aside0.mk (hb); have n1_ := Aside0.mk (ho); clear HB; clear HO_10; have HB := n0_; have HO167 := n1_; clear n0_ n1_; clear ho hb hg hat))
        (try simp only [Act.put, List.setIfInBounds_toArray, List.set_cons_zero, List.set_cons_succ])
        go_cut [69] (fun v69 wc => ∃ (kq : Nat) (x69_17 : Bool), v69 = .bool x69_17 ∧ Aside0 (recensionlaw7_LinesAt.j3 kq a1 a2 x8_1 x9_1 y165 x69_17 = some r) ∧ Aside0 (kq ≤ kj6) ∧ Aside0 (Kd.R (Kd.int .i64) 3 wc w.heap.size (fun _ => True) v166 y165) ∧ Aside0 (Below w.heap.size w wc))
        case first =>
         have H := HC18.out
         clear HC18
         by_cases c20 : a1 < 1
         ·rw [if_pos c20] at H
          have c20b0 : decide (a1 < 1) = true := decide_eq_true c20
          clear c20
          (first | rw [c20b0] | (simp only [i64_w, i32_w]; rw [c20b0]) | skip)
          have H' := Aside0.mk H
          clear H
          go_wp2
          go_meet
          case rel => exact ⟨_, (true), (by first | rfl | (simp; done) | (simp [*]; done)), H', ⟨by have := HK1.out; have := HJ6.out; first | omega | exact Nat.le_refl _⟩, ⟨by (with_reducible repeat (first | apply Kd.R_alloc | apply Kd.R_drewN | apply Kd.R_drew)); exact HO167.out⟩, ⟨by repeat (first | (with_reducible first | exact HB.out | apply below_alloc | apply pw_below_drewN | apply below_drew1) | exact HB.out)⟩⟩
         ·rw [if_neg c20] at H
          have c20b0 : decide (a1 < 1) = false := decide_eq_false c20
          clear c20
          (first | rw [c20b0] | (simp only [i64_w, i32_w]; rw [c20b0]) | skip)
          by_cases c21 : a1 > (wrap64 (x9_1 + 1))
          ·rw [if_pos c21] at H
           have c21b0 : decide ((wrap64 (x9_1 + 1)) < a1) = true := decide_eq_true c21
           clear c21
           have H' := Aside0.mk H
           clear H
           go_wp2
           go_meet
           case rel => exact ⟨_, (true), (by first | rfl | (simp; done) | (simp [*]; done)), H', ⟨by have := HK1.out; have := HJ6.out; first | omega | exact Nat.le_refl _⟩, ⟨by (with_reducible repeat (first | apply Kd.R_alloc | apply Kd.R_drewN | apply Kd.R_drew)); exact HO167.out⟩, ⟨by repeat (first | (with_reducible first | exact HB.out | apply below_alloc | apply pw_below_drewN | apply below_drew1) | exact HB.out)⟩⟩
          ·rw [if_neg c21] at H
           have c21b0 : decide ((wrap64 (x9_1 + 1)) < a1) = false := decide_eq_false c21
           clear c21
           by_cases c22 : a2 < 1
           ·rw [if_pos c22] at H
            have c22b0 : decide (a2 < 1) = true := decide_eq_true c22
            clear c22
            have H' := Aside0.mk H
            clear H
            go_wp2
            go_meet
            case rel => exact ⟨_, (true), (by first | rfl | (simp; done) | (simp [*]; done)), H', ⟨by have := HK1.out; have := HJ6.out; first | omega | exact Nat.le_refl _⟩, ⟨by (with_reducible repeat (first | apply Kd.R_alloc | apply Kd.R_drewN | apply Kd.R_drew)); exact HO167.out⟩, ⟨by repeat (first | (with_reducible first | exact HB.out | apply below_alloc | apply pw_below_drewN | apply below_drew1) | exact HB.out)⟩⟩
           ·rw [if_neg c22] at H
            have c22b0 : decide (a2 < 1) = false := decide_eq_false c22
            clear c22
            have H' := Aside0.mk H
            clear H
            go_wp2
            go_meet
            case rel => exact ⟨_, (decide (a2 > 20)), (by first | rfl | (simp; done) | (simp [*]; done)), H', ⟨by have := HK1.out; have := HJ6.out; first | omega | exact Nat.le_refl _⟩, ⟨by (with_reducible repeat (first | apply Kd.R_alloc | apply Kd.R_drewN | apply Kd.R_drew)); exact HO167.out⟩, ⟨by repeat (first | (with_reducible first | exact HB.out | apply below_alloc | apply pw_below_drewN | apply below_drew1) | exact HB.out)⟩⟩
        case rest =>
         clear HC18
         try clear c1
         try clear p1
         try clear q1
         try clear hx1
         try clear c2
         try clear p2
         try clear c5
         try clear c6
         try clear p6
         try clear c7
         try clear c8
         try clear c8b0
         try clear c9
         try clear c10
         try clear c12
         try clear c12b0
         try clear c13
         try clear c13b0
         try clear c14
         try clear c14b0
         try clear c15
         try clear c15b0
         try clear c15b1
         try clear c15b2
         try clear c16
         try clear c16b0
         try clear c16b1
         try clear c16b2
         try clear p16
         try clear q16
         try clear hx16
         try clear c17
         try clear c20
         try clear c20b0
         try clear c21
         try clear c21b0
         try clear c22
         try clear c22b0
         try clear hx164_0
         try clear p164
         try clear p2
         try clear p6
         try clear q164
         obtain ⟨kq, x69_17, rfl, HA, HJ17, HO_10, HB⟩ := hcut
         cases kq with
         | zero => exact absurd HA.out (by simp [recensionlaw7_LinesAt.j3])
         | succ kj17 =>
          have H := HA.out
          clear HA
          simp only [recensionlaw7_LinesAt.j3] at H
          by_cases c23 : x69_17 = true
          ·subst c23
           have H1 : ((lines_At.f kj17 x8_1 0 1).bind fun t168 => (if t168 = (-1) then ((lines_At.f kj17 x8_1 1 0).bind fun t169 => (if t169 = (-1) then ((lines_At.f kj17 x8_1 (wrap64 (x9_1 + 2)) 1).bind fun t170 => (some (t170 == (-1)))) else (some false))) else (some false))) = some r := by rw [if_pos rfl] at H; exact H
           clear H
           have H := H1
           clear H1
           replace H := Option.bind_eq_some_iff.mp H
           obtain ⟨t168, A240, H⟩ := H
           replace H : (if t168 = (-1) then ((lines_At.f kj17 x8_1 1 0).bind fun t169 => (if t169 = (-1) then ((lines_At.f kj17 x8_1 (wrap64 (x9_1 + 2)) 1).bind fun t170 => (some (t170 == (-1)))) else (some false))) else (some false)) = some r := H
           have A24 := Aside0.mk A240
           clear A240
           by_cases c25 : t168 = (-1)
           ·rw [if_pos c25] at H
            have c25b0 : (t168 == (-1)) = true := beq_iff_eq.mpr c25
            have c25b1 : (t168 != (-1)) = false := bne_eq_false_iff_eq.mpr c25
            clear c25
            replace H := Option.bind_eq_some_iff.mp H
            obtain ⟨t169, A260, H⟩ := H
            replace H : (if t169 = (-1) then ((lines_At.f kj17 x8_1 (wrap64 (x9_1 + 2)) 1).bind fun t170 => (some (t170 == (-1)))) else (some false)) = some r := H
            have A26 := Aside0.mk A260
            clear A260
            by_cases c27 : t169 = (-1)
            ·rw [if_pos c27] at H
             have c27b0 : (t169 == (-1)) = true := beq_iff_eq.mpr c27
             have c27b1 : (t169 != (-1)) = false := bne_eq_false_iff_eq.mpr c27
             clear c27
             replace H := Option.bind_eq_some_iff.mp H
             obtain ⟨t170, A280, H⟩ := H
             replace H : (some (t170 == (-1))) = some r := H
             have A28 := Aside0.mk A280
             clear A280
             obtain rfl := Option.some.inj H
             go_wp2_with (first | ((with_reducible refine gate_callee (f := 11) rfl ?_); refine goesL_ (some 71) rfl rfl Tryd.func11 (by kernel_rfl) rfl #[.string x8_1, .int .i64 0, .int .i64 1] rfl (by (try simp only [List.map_toArray, List.map_cons, List.map_nil]); first | done | rfl | (simp only [List.length_drop, List.length_take]; rfl) | (simp only [wrap64_wl, wrap64_wr]; rfl)) ?_; (with_reducible refine (lines_At.calls kj17 x8_1 0 1 t168 _ A24.out).mono ?_); rintro e w29 ⟨rfl, hb⟩; refine ⟨_, rfl, ?_⟩; have n0_ := Aside0.mk (Kd.R_below (by (with_reducible repeat (first | apply Kd.R_alloc | apply Kd.R_drewN | apply Kd.R_drew)); exact HO_10.out) hb); have n1_ := Aside0.mk (below_step (by repeat (first | (with_reducible first | exact HB.out | apply below_alloc | apply pw_below_drewN | apply below_drew1) | exact HB.out)) hb); clear HO_10; clear HB; have HO_10 := n0_; have HB := n1_; clear n0_ n1_; (try clear hb); (try clear hb2); (try clear hk); (try clear hi)) | (go_at_call 11; (with_reducible refine (lines_At.calls kj17 x8_1 1 0 t169 _ A26.out).mono ?_); rintro e w30 ⟨rfl, hb⟩; have n0_ := Aside0.mk (Kd.R_below (by (with_reducible repeat (first | apply Kd.R_alloc | apply Kd.R_drewN | apply Kd.R_drew)); exact HO_10.out) hb); have n1_ := Aside0.mk (below_step (by repeat (first | (with_reducible first | exact HB.out | apply below_alloc | apply pw_below_drewN | apply below_drew1) | exact HB.out)) hb); clear HO_10; clear HB; have HO_10 := n0_; have HB := n1_; clear n0_ n1_; (try clear hb); (try clear hb2); (try clear hk); (try clear hi)) | (go_at_call 11; (with_reducible refine (lines_At.calls kj17 x8_1 (wrap64 (x9_1 + 2)) 1 t170 _ A28.out).mono ?_); rintro e w31 ⟨rfl, hb⟩; have n0_ := Aside0.mk (Kd.R_below (by (with_reducible repeat (first | apply Kd.R_alloc | apply Kd.R_drewN | apply Kd.R_drew)); exact HO_10.out) hb); have n1_ := Aside0.mk (below_step (by repeat (first | (with_reducible first | exact HB.out | apply below_alloc | apply pw_below_drewN | apply below_drew1) | exact HB.out)) hb); clear HO_10; clear HB; have HO_10 := n0_; have HB := n1_; clear n0_ n1_; (try clear hb); (try clear hb2); (try clear hk); (try clear hi)))
             go_ret
             exact ⟨by first | rfl | (simp [errW_none, errW_some] <;> rfl) | (simp [*, errW_none, errW_some] <;> rfl), by repeat (first | (with_reducible first | exact HB.out | apply below_alloc | apply pw_below_drewN | apply below_drew1) | exact HB.out)⟩
            ·rw [if_neg c27] at H
             have c27b0 : (t169 == (-1)) = false := beq_eq_false_iff_ne.mpr c27
             have c27b1 : (t169 != (-1)) = true := bne_iff_ne.mpr c27
             exact absurd (H.trans (congrArg some hrt.out)) (by simp)
           ·rw [if_neg c25] at H
            have c25b0 : (t168 == (-1)) = false := beq_eq_false_iff_ne.mpr c25
            have c25b1 : (t168 != (-1)) = true := bne_iff_ne.mpr c25
            exact absurd (H.trans (congrArg some hrt.out)) (by simp)
          ·replace c23 := Bool.eq_false_iff.mpr c23
           subst c23
           have H1 : (if a1 ≤ x9_1 then (if 0 ≤ a1 then (if a1 < (y165.length : Int) then (recensionlaw7_LinesAt.j4 kj17 a1 a2 x8_1 y165 (wrap64 ((rd y165 a1) - 1))) else (none)) else (none)) else (recensionlaw7_LinesAt.j4 kj17 a1 a2 x8_1 y165 (x8_1.size : Int))) = some r := by rw [if_neg (show ¬ (false = true) by decide)] at H; exact H
           clear H
           have H := H1
           clear H1
           have HC32 := Aside0.mk H
           clear H
           go_upto_if 89 with (fail)
           go_cut [12] (fun v12 wc => ∃ (kq : Nat) (x12_31 : Int), v12 = .int .i64 x12_31 ∧ Aside0 (recensionlaw7_LinesAt.j4 kq a1 a2 x8_1 y165 x12_31 = some r) ∧ Aside0 (kq ≤ kj17) ∧ Aside0 (Kd.R (Kd.int .i64) 3 wc w.heap.size (fun _ => True) v166 y165) ∧ Aside0 (Below w.heap.size w wc))
           case first =>
            have H := HC32.out
            clear HC32
            by_cases c33 : a1 ≤ x9_1
            ·rw [if_pos c33] at H
             have c33b0 : decide (a1 ≤ x9_1) = true := decide_eq_true c33
             clear c33
             (first | rw [c33b0] | (simp only [i64_w, i32_w]; rw [c33b0]) | skip)
             by_cases c34 : 0 ≤ a1
             ·rw [if_pos c34] at H
              have c34b0 : decide (0 ≤ a1) = true := decide_eq_true c34
              clear c34
              by_cases c35 : a1 < (y165.length : Int)
              ·rw [if_pos c35] at H
               have c35b0 : decide (a1 < (y165.length : Int)) = true := decide_eq_true c35
               clear c35
               have H' := Aside0.mk H
               clear H
               obtain ⟨Ao36, co36, eo36⟩ := Kd.R_slice HO_10.out
               subst eo36
               have p171 : 0 ≤ (a1 : Int) := of_decide_eq_true (by first | (with_reducible assumption) | assumption)
               have q171 : a1 < (y165.length : Int) := of_decide_eq_true (by first | (with_reducible assumption) | assumption)
               obtain ⟨ad171, e171, hx171_0⟩ := Kd.at_int (Kd.R_reads' HO_10.out).2.2 a1 p171 q171
               cases e171
               replace p171 := eq_true p171
               replace q171 := eq_true q171
               go_wp2
               go_meet
               case rel => exact ⟨_, (wrap64 ((rd y165 a1) - 1)), (by first | rfl | (simp; done) | (simp [*]; done)), H', ⟨by have := HK1.out; have := HJ6.out; have := HJ17.out; first | omega | exact Nat.le_refl _⟩, ⟨by (with_reducible repeat (first | apply Kd.R_alloc | apply Kd.R_drewN | apply Kd.R_drew)); exact HO_10.out⟩, ⟨by repeat (first | (with_reducible first | exact HB.out | apply below_alloc | apply pw_below_drewN | apply below_drew1) | exact HB.out)⟩⟩
              ·rw [if_neg c35] at H
               exact absurd H (by simp)
             ·rw [if_neg c34] at H
              exact absurd H (by simp)
            ·rw [if_neg c33] at H
             have c33b0 : decide (a1 ≤ x9_1) = false := decide_eq_false c33
             clear c33
             (first | rw [c33b0] | (simp only [i64_w, i32_w]; rw [c33b0]) | skip)
             have H' := Aside0.mk H
             clear H
             go_wp2
             go_meet
             case rel => exact ⟨_, ((x8_1.size : Int)), (by first | rfl | (simp; done) | (simp [*]; done)), H', ⟨by have := HK1.out; have := HJ6.out; have := HJ17.out; first | omega | exact Nat.le_refl _⟩, ⟨by (with_reducible repeat (first | apply Kd.R_alloc | apply Kd.R_drewN | apply Kd.R_drew)); exact HO_10.out⟩, ⟨by repeat (first | (with_reducible first | exact HB.out | apply below_alloc | apply pw_below_drewN | apply below_drew1) | exact HB.out)⟩⟩
           case rest =>
            clear HC32
            try clear c1
            try clear p1
            try clear q1
            try clear hx1
            try clear c2
            try clear p2
            try clear c3
            try clear c5
            try clear c6
            try clear p6
            try clear c7
            try clear c8
            try clear c8b0
            try clear c9
            try clear c10
            try clear c11
            try clear c12
            try clear c12b0
            try clear c13
            try clear c13b0
            try clear c14
            try clear c14b0
            try clear c15
            try clear c15b0
            try clear c15b1
            try clear c15b2
            try clear c16
            try clear c16b0
            try clear c16b1
            try clear c16b2
            try clear p16
            try clear q16
            try clear hx16
            try clear c17
            try clear p17
            try clear q17
            try clear hx17
            try clear c20
            try clear c20b0
            try clear c21
            try clear c21b0
            try clear c22
            try clear c22b0
            try clear c23
            try clear c25
            try clear c25b0
            try clear c25b1
            try clear c27
            try clear c27b0
            try clear c27b1
            try clear c33
            try clear c33b0
            try clear c34
            try clear c34b0
            try clear c35
            try clear c35b0
            try clear hx164_0
            try clear hx171_0
            try clear p1
            try clear p16
            try clear p164
            try clear p171
            try clear p2
            try clear p6
            try clear q1
            try clear q16
            try clear q164
            try clear q171
            obtain ⟨kq, x12_31, rfl, HA, HJ31, HO_10, HB⟩ := hcut
            cases kq with
            | zero => exact absurd HA.out (by simp [recensionlaw7_LinesAt.j4])
            | succ kj31 =>
             have H := HA.out
             clear HA
             simp only [recensionlaw7_LinesAt.j4] at H
             obtain ⟨ji37, hji37⟩ : ∃ j_ : Int, (wrap64 (a1 - 1)) = j_ := ⟨_, rfl⟩
             replace H : (if 0 ≤ (ji37) then (if (ji37) < (y165.length : Int) then (if (wrap64 ((wrap64 ((rd y165 (ji37)) + a2)) - 1)) > x12_31 then ((lines_Line.f kj31 x8_1 a1).bind fun bt173 => ((lines_At.f kj31 x8_1 a1 a2).bind fun t175 => (if t175 = (-1) then (if bt173.2 = true then (some ((bt173.1.size : Int) == (wrap64 (x12_31 - (rd y165 (ji37)))))) else (some false)) else (some false)))) else ((lines_Line.f kj31 x8_1 a1).bind fun bt177 => ((lines_At.f kj31 x8_1 a1 a2).bind fun t179 => (if t179 = (wrap64 ((wrap64 ((rd y165 (ji37)) + a2)) - 1)) then (if bt177.2 = true then (some ((bt177.1.size : Int) == (wrap64 (x12_31 - (rd y165 (ji37)))))) else (some false)) else (some false))))) else (none)) else (none)) = some r := by first | (rw [hji37] at H; exact H) | (simp only [hji37] at H ⊢; exact H)
             have hji37w : (IntKind.i64.wrap (a1 - 1)) = ji37 := (i64_w _).trans hji37
             by_cases c38 : 0 ≤ (ji37)
             ·rw [if_pos c38] at H
              have c38b0 : decide (0 ≤ (ji37)) = true := decide_eq_true c38
              clear c38
              by_cases c39 : (ji37) < (y165.length : Int)
              ·rw [if_pos c39] at H
               have c39b0 : decide ((ji37) < (y165.length : Int)) = true := decide_eq_true c39
               clear c39
               by_cases c40 : (wrap64 ((wrap64 ((rd y165 (ji37)) + a2)) - 1)) > x12_31
               ·rw [if_pos c40] at H
                have c40b0 : decide (x12_31 < (wrap64 ((wrap64 ((rd y165 (ji37)) + a2)) - 1))) = true := decide_eq_true c40
                clear c40
                replace H := Option.bind_eq_some_iff.mp H
                obtain ⟨⟨t173, t174⟩, A410, H⟩ := H
                replace H : ((lines_At.f kj31 x8_1 a1 a2).bind fun t175 => (if t175 = (-1) then (if t174 = true then (some ((t173.size : Int) == (wrap64 (x12_31 - (rd y165 (ji37)))))) else (some false)) else (some false))) = some r := H
                have A41 := Aside0.mk A410
                clear A410
                replace H := Option.bind_eq_some_iff.mp H
                obtain ⟨t175, A420, H⟩ := H
                replace H : (if t175 = (-1) then (if t174 = true then (some ((t173.size : Int) == (wrap64 (x12_31 - (rd y165 (ji37)))))) else (some false)) else (some false)) = some r := H
                have A42 := Aside0.mk A420
                clear A420
                by_cases c43 : t175 = (-1)
                ·rw [if_pos c43] at H
                 have c43b0 : (t175 == (-1)) = true := beq_iff_eq.mpr c43
                 have c43b1 : (t175 != (-1)) = false := bne_eq_false_iff_eq.mpr c43
                 clear c43
                 by_cases c44 : t174 = true
                 ·subst c44
                  have H1 : (some ((t173.size : Int) == (wrap64 (x12_31 - (rd y165 (ji37)))))) = some r := by rw [if_pos rfl] at H; exact H
                  clear H
                  have H := H1
                  clear H1
                  obtain rfl := Option.some.inj H
                  obtain ⟨Ao45, co45, eo45⟩ := Kd.R_slice HO_10.out
                  subst eo45
                  have p172 : 0 ≤ ((ji37) : Int) := of_decide_eq_true (by first | (with_reducible assumption) | assumption)
                  have q172 : (ji37) < (y165.length : Int) := of_decide_eq_true (by first | (with_reducible assumption) | assumption)
                  obtain ⟨ad172, e172, hx172_0⟩ := Kd.at_int (Kd.R_reads' HO_10.out).2.2 (ji37) p172 q172
                  cases e172
                  replace p172 := eq_true p172
                  replace q172 := eq_true q172
                  go_wp2_with (first | ((with_reducible refine gate_callee (f := 12) rfl ?_); refine goesL_ (some 109) rfl rfl Tryd.func12 (by kernel_rfl) rfl #[.string x8_1, .int .i64 a1] rfl (by (try simp only [List.map_toArray, List.map_cons, List.map_nil]); first | done | rfl | (simp only [List.length_drop, List.length_take]; rfl) | (simp only [wrap64_wl, wrap64_wr]; rfl)) ?_; (with_reducible refine (lines_Line.calls kj31 x8_1 a1 t173 true _ A41.out).mono ?_); rintro e w46 ⟨rfl, hb⟩; refine ⟨_, rfl, ?_⟩; have n0_ := Aside0.mk (Kd.R_below (by (with_reducible repeat (first | apply Kd.R_alloc | apply Kd.R_drewN | apply Kd.R_drew)); exact HO_10.out) hb); have n1_ := Aside0.mk (below_step (by repeat (first | (with_reducible first | exact HB.out | apply below_alloc | apply pw_below_drewN | apply below_drew1) | exact HB.out)) hb); clear HO_10; clear HB; have HO_10 := n0_; have HB := n1_; clear n0_ n1_; (try clear hb); (try clear hb2); (try clear hk); (try clear hi)) | ((with_reducible refine gate_callee (f := 11) rfl ?_); refine goesL_ (some 115) rfl rfl Tryd.func11 (by kernel_rfl) rfl #[.string x8_1, .int .i64 a1, .int .i64 a2] rfl (by (try simp only [List.map_toArray, List.map_cons, List.map_nil]); first | done | rfl | (simp only [List.length_drop, List.length_take]; rfl) | (simp only [wrap64_wl, wrap64_wr]; rfl)) ?_; (with_reducible refine (lines_At.calls kj31 x8_1 a1 a2 t175 _ A42.out).mono ?_); rintro e w47 ⟨rfl, hb⟩; refine ⟨_, rfl, ?_⟩; have n0_ := Aside0.mk (Kd.R_below (by (with_reducible repeat (first | apply Kd.R_alloc | apply Kd.R_drewN | apply Kd.R_drew)); exact HO_10.out) hb); have n1_ := Aside0.mk (below_step (by repeat (first | (with_reducible first | exact HB.out | apply below_alloc | apply pw_below_drewN | apply below_drew1) | exact HB.out)) hb); clear HO_10; clear HB; have HO_10 := n0_; have HB := n1_; clear n0_ n1_; (try clear hb); (try clear hb2); (try clear hk); (try clear hi); have p176 : 0 ≤ ((ji37) : Int) := of_decide_eq_true (by first | (with_reducible assumption) | assumption); have q176 : (ji37) < (y165.length : Int) := of_decide_eq_true (by first | (with_reducible assumption) | assumption); obtain ⟨ad176, e176, hx176_0⟩ := Kd.at_int (Kd.R_reads' HO_10.out).2.2 (ji37) p176 q176; obtain rfl : ad172 = ad176 := (by injection e176); replace p176 := eq_true p176; replace q176 := eq_true q176))
                  go_ret
                  exact ⟨by first | rfl | (simp [errW_none, errW_some] <;> rfl) | (simp only [← hji37]; first | rfl | (simp [errW_none, errW_some] <;> rfl)) | (simp [*, errW_none, errW_some] <;> rfl), by repeat (first | (with_reducible first | exact HB.out | apply below_alloc | apply pw_below_drewN | apply below_drew1) | exact HB.out)⟩
                 ·replace c44 := Bool.eq_false_iff.mpr c44
                  subst c44
                  have H1 : (some false) = some r := by rw [if_neg (show ¬ (false = true) by decide)] at H; exact H
                  clear H
                  have H := H1
                  clear H1
                  exact absurd (H.trans (congrArg some hrt.out)) (by simp)
                ·rw [if_neg c43] at H
                 have c43b0 : (t175 == (-1)) = false := beq_eq_false_iff_ne.mpr c43
                 have c43b1 : (t175 != (-1)) = true := bne_iff_ne.mpr c43
                 exact absurd (H.trans (congrArg some hrt.out)) (by simp)
               ·rw [if_neg c40] at H
                have c40b0 : decide (x12_31 < (wrap64 ((wrap64 ((rd y165 (ji37)) + a2)) - 1))) = false := decide_eq_false c40
                clear c40
                replace H := Option.bind_eq_some_iff.mp H
                obtain ⟨⟨t177, t178⟩, A480, H⟩ := H
                replace H : ((lines_At.f kj31 x8_1 a1 a2).bind fun t179 => (if t179 = (wrap64 ((wrap64 ((rd y165 (ji37)) + a2)) - 1)) then (if t178 = true then (some ((t177.size : Int) == (wrap64 (x12_31 - (rd y165 (ji37)))))) else (some false)) else (some false))) = some r := H
                have A48 := Aside0.mk A480
                clear A480
                replace H := Option.bind_eq_some_iff.mp H
                obtain ⟨t179, A490, H⟩ := H
                replace H : (if t179 = (wrap64 ((wrap64 ((rd y165 (ji37)) + a2)) - 1)) then (if t178 = true then (some ((t177.size : Int) == (wrap64 (x12_31 - (rd y165 (ji37)))))) else (some false)) else (some false)) = some r := H
                have A49 := Aside0.mk A490
                clear A490
                by_cases c50 : t179 = (wrap64 ((wrap64 ((rd y165 (ji37)) + a2)) - 1))
                ·rw [if_pos c50] at H
                 have c50b0 : (t179 == (wrap64 ((wrap64 ((rd y165 (ji37)) + a2)) - 1))) = true := beq_iff_eq.mpr c50
                 have c50b1 : (t179 != (wrap64 ((wrap64 ((rd y165 (ji37)) + a2)) - 1))) = false := bne_eq_false_iff_eq.mpr c50
                 clear c50
                 by_cases c51 : t178 = true
                 ·subst c51
                  have H1 : (some ((t177.size : Int) == (wrap64 (x12_31 - (rd y165 (ji37)))))) = some r := by rw [if_pos rfl] at H; exact H
                  clear H
                  have H := H1
                  clear H1
                  obtain rfl := Option.some.inj H
                  obtain ⟨Ao52, co52, eo52⟩ := Kd.R_slice HO_10.out
                  subst eo52
                  have p172 : 0 ≤ ((ji37) : Int) := of_decide_eq_true (by first | (with_reducible assumption) | assumption)
                  have q172 : (ji37) < (y165.length : Int) := of_decide_eq_true (by first | (with_reducible assumption) | assumption)
                  obtain ⟨ad172, e172, hx172_0⟩ := Kd.at_int (Kd.R_reads' HO_10.out).2.2 (ji37) p172 q172
                  cases e172
                  replace p172 := eq_true p172
                  replace q172 := eq_true q172
                  go_wp2_with (first | ((with_reducible refine gate_callee (f := 12) rfl ?_); refine goesL_ (some 109) rfl rfl Tryd.func12 (by kernel_rfl) rfl #[.string x8_1, .int .i64 a1] rfl (by (try simp only [List.map_toArray, List.map_cons, List.map_nil]); first | done | rfl | (simp only [List.length_drop, List.length_take]; rfl) | (simp only [wrap64_wl, wrap64_wr]; rfl)) ?_; (with_reducible refine (lines_Line.calls kj31 x8_1 a1 t177 true _ A48.out).mono ?_); rintro e w53 ⟨rfl, hb⟩; refine ⟨_, rfl, ?_⟩; have n0_ := Aside0.mk (Kd.R_below (by (with_reducible repeat (first | apply Kd.R_alloc | apply Kd.R_drewN | apply Kd.R_drew)); exact HO_10.out) hb); have n1_ := Aside0.mk (below_step (by repeat (first | (with_reducible first | exact HB.out | apply below_alloc | apply pw_below_drewN | apply below_drew1) | exact HB.out)) hb); clear HO_10; clear HB; have HO_10 := n0_; have HB := n1_; clear n0_ n1_; (try clear hb); (try clear hb2); (try clear hk); (try clear hi)) | ((with_reducible refine gate_callee (f := 11) rfl ?_); refine goesL_ (some 115) rfl rfl Tryd.func11 (by kernel_rfl) rfl #[.string x8_1, .int .i64 a1, .int .i64 a2] rfl (by (try simp only [List.map_toArray, List.map_cons, List.map_nil]); first | done | rfl | (simp only [List.length_drop, List.length_take]; rfl) | (simp only [wrap64_wl, wrap64_wr]; rfl)) ?_; (with_reducible refine (lines_At.calls kj31 x8_1 a1 a2 t179 _ A49.out).mono ?_); rintro e w54 ⟨rfl, hb⟩; refine ⟨_, rfl, ?_⟩; have n0_ := Aside0.mk (Kd.R_below (by (with_reducible repeat (first | apply Kd.R_alloc | apply Kd.R_drewN | apply Kd.R_drew)); exact HO_10.out) hb); have n1_ := Aside0.mk (below_step (by repeat (first | (with_reducible first | exact HB.out | apply below_alloc | apply pw_below_drewN | apply below_drew1) | exact HB.out)) hb); clear HO_10; clear HB; have HO_10 := n0_; have HB := n1_; clear n0_ n1_; (try clear hb); (try clear hb2); (try clear hk); (try clear hi); have p180 : 0 ≤ ((ji37) : Int) := of_decide_eq_true (by first | (with_reducible assumption) | assumption); have q180 : (ji37) < (y165.length : Int) := of_decide_eq_true (by first | (with_reducible assumption) | assumption); obtain ⟨ad180, e180, hx180_0⟩ := Kd.at_int (Kd.R_reads' HO_10.out).2.2 (ji37) p180 q180; obtain rfl : ad172 = ad180 := (by injection e180); replace p180 := eq_true p180; replace q180 := eq_true q180))
                  go_ret
                  exact ⟨by first | rfl | (simp [errW_none, errW_some] <;> rfl) | (simp only [← hji37]; first | rfl | (simp [errW_none, errW_some] <;> rfl)) | (simp [*, errW_none, errW_some] <;> rfl), by repeat (first | (with_reducible first | exact HB.out | apply below_alloc | apply pw_below_drewN | apply below_drew1) | exact HB.out)⟩
                 ·replace c51 := Bool.eq_false_iff.mpr c51
                  subst c51
                  have H1 : (some false) = some r := by rw [if_neg (show ¬ (false = true) by decide)] at H; exact H
                  clear H
                  have H := H1
                  clear H1
                  exact absurd (H.trans (congrArg some hrt.out)) (by simp)
                ·rw [if_neg c50] at H
                 have c50b0 : (t179 == (wrap64 ((wrap64 ((rd y165 (ji37)) + a2)) - 1))) = false := beq_eq_false_iff_ne.mpr c50
                 have c50b1 : (t179 != (wrap64 ((wrap64 ((rd y165 (ji37)) + a2)) - 1))) = true := bne_iff_ne.mpr c50
                 exact absurd (H.trans (congrArg some hrt.out)) (by simp)
              ·rw [if_neg c39] at H
               exact absurd H (by simp)
             ·rw [if_neg c38] at H
              exact absurd H (by simp)
       ·rw [if_neg c17] at H
        exact absurd H (by simp)
 ·replace c5 := Bool.eq_false_iff.mpr c5
  subst c5
  have H1 : (some false) = some r := by rw [if_neg (show ¬ (false = true) by decide)] at H; exact H
  clear H
  have H := H1
  clear H1
  exact absurd (H.trans (congrArg some hrt.out)) (by simp)

/-- THE ONE PURE STATEMENT of recensionlaw7_LinesAt: yours. -/
def recensionlaw7_LinesAt.Pure : Prop := ∀ (l0 : List Int) (a1 : Int) (a2 : Int), l0.length ≤ maxLen → l0.length * 8 ≤ 140737488351232 → (∀ x ∈ l0, (Lit.int .i64 x).wf = true) → (Lit.int .i64 a1).wf = true → (Lit.int .i64 a2).wf = true → ∃ k, recensionlaw7_LinesAt.f k l0 a1 a2 = some true
theorem recensionlaw7_LinesAt.walk (P : recensionlaw7_LinesAt.Pure) (a0 : Option Addr) (len0 cap0 : Nat) (z0 : List Int) (a1 : Int) (a2 : Int) (w : World) (w0 : (a0 = none ∧ len0 = 0 ∧ cap0 = 0 ∧ z0 = []) ∨ ∃ x, a0 = some x ∧ len0 ≤ cap0 ∧ cap0 ≤ maxLen ∧ z0.length = cap0 ∧ (∀ i, i < z0.length → w.cell? (x.add i) = some (.int .i64 (z0.getD i 0))) ∧ ∀ n ∈ z0, (Lit.int .i64 n).wf = true) (y0 : len0 * 8 ≤ 140737488351232) (w1 : (Lit.int .i64 a1).wf = true) (w2 : (Lit.int .i64 a2).wf = true) :
  Calls Tryd.prog 6 #[.slice a0 len0 cap0, .int .i64 a1, .int .i64 a2] w fun e w' => e = .returned (.bool true) ∧ Below w.heap.size w w' := by
 obtain ⟨l0, rfl, hr0, hm0, hw0, hc0⟩ := ReadsInt.ofRowC w0
 obtain ⟨k, h⟩ := P l0 a1 a2 hm0 y0 hw0 w1 w2
 refine (recensionlaw7_LinesAt.calls k _ _ l0 a1 a2 true w (Kd.C_of_reads (d := (0 : Int)) (h1 := fun _ => rfl) hr0) hc0 ⟨rfl⟩ h).mono ?_
 rintro e w' ⟨rfl, hd⟩
 exact ⟨rfl, hd⟩

end Go.Proofs.YthioodhmfclinaaDoor.PLinesAt
