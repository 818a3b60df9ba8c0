-- Written by myprint.py (the prover's own turn of the printer); not trusted: Lean checks it.
import Derived.Test.YthioodhmfclinaaDoorPLinesAllx0
import Derived.Test.YthioodhmfclinaaDoorPLinesAllx1
import Derived.Test.YthioodhmfclinaaDoorPLinesAllx2
namespace Go.Proofs.YthioodhmfclinaaDoor.PLinesAll
open Go.RowKit Go.Proofs.YthioodhmfclinaaDoorW.PrintWords Go.Proofs.YthioodhmfclinaaDoorW.PrintLast Go.Proofs.YthioodhmfclinaaDoorW.PrintMore
attribute [local go_sem] max2_int min2_int max_two min_two max_three min_three max_four min_four   -- for this text's walks alone
set_option linter.unusedVariables false
set_option linter.unusedSimpArgs false

/-! ### recensionlaw7_LinesAll: function 3 -/
mutual
def recensionlaw7_LinesAll.j0 : Nat → ByteArray → Int → Int → Int → List Int → Int → Int → Bool → Option (Bool)
 | 0, _, _, _, _, _, _, _, _ => none
 | k + 1, x0, x1, x2, x3, x10, x11, x12, x34 => if x34 = true then (some false) else (recensionlaw7_LinesAll.l0 k x0 x1 x2 x3 x10 x11 x12 0)
def recensionlaw7_LinesAll.l0 : Nat → ByteArray → Int → Int → Int → List Int → Int → Int → Int → Option (Bool)
 | 0, _, _, _, _, _, _, _, _ => none
 | k + 1, x0, x1, x2, x3, x10, x11, x12, x13 => if x13 ≤ (x0.size : Int) then ((lines_Of.f k x0 x13).bind fun bt166 => (if bt166.1 = x11 then (if bt166.2 = x12 then ((lines_At.f k x0 x11 x12).bind fun t168 => (recensionlaw7_LinesAll.j2 k x0 x1 x2 x3 x10 x11 x12 x13 (t168 != x13))) else (recensionlaw7_LinesAll.j2 k x0 x1 x2 x3 x10 x11 x12 x13 true)) else (recensionlaw7_LinesAll.j2 k x0 x1 x2 x3 x10 x11 x12 x13 true))) else ((lines_Of.f k x0 x1).bind fun bt170 => (if x1 < 0 then (if bt170.1 = 0 then (recensionlaw7_LinesAll.j4 k x0 x2 x3 x10 x11 (bt170.2 != 0)) else (recensionlaw7_LinesAll.j4 k x0 x2 x3 x10 x11 true)) else (if x1 > (x0.size : Int) then (if bt170.1 = 0 then (recensionlaw7_LinesAll.j4 k x0 x2 x3 x10 x11 (bt170.2 != 0)) else (recensionlaw7_LinesAll.j4 k x0 x2 x3 x10 x11 true)) else (recensionlaw7_LinesAll.j4 k x0 x2 x3 x10 x11 false))))
def recensionlaw7_LinesAll.j2 : Nat → ByteArray → Int → Int → Int → List Int → Int → Int → Int → Bool → Option (Bool)
 | 0, _, _, _, _, _, _, _, _, _ => none
 | k + 1, x0, x1, x2, x3, x10, x11, x12, x13, x62 => if x62 = true then (some false) else (if x13 < (x0.size : Int) then (if 0 ≤ x13 then (recensionlaw7_LinesAll.j3 k x0 x1 x2 x3 x10 x11 (wrap64 (x12 + 1)) x13 ((bt x0 x13) == 10)) else (none)) else (recensionlaw7_LinesAll.j3 k x0 x1 x2 x3 x10 x11 (wrap64 (x12 + 1)) x13 false))
def recensionlaw7_LinesAll.j3 : Nat → ByteArray → Int → Int → Int → List Int → Int → Int → Int → Bool → Option (Bool)
 | 0, _, _, _, _, _, _, _, _, _ => none
 | k + 1, x0, x1, x2, x3, x10, x11, x12, x13, x74 => if x74 = true then (if x11 ≥ (x10.length : Int) then (some false) else (if 0 ≤ x11 then (if x11 < (x10.length : Int) then (if (rd x10 x11) = (wrap64 (x13 + 1)) then (recensionlaw7_LinesAll.l0 k x0 x1 x2 x3 x10 (wrap64 (x11 + 1)) 1 (wrap64 (x13 + 1))) else (some false)) else (none)) else (none))) else (recensionlaw7_LinesAll.l0 k x0 x1 x2 x3 x10 x11 x12 (wrap64 (x13 + 1)))
def recensionlaw7_LinesAll.j4 : Nat → ByteArray → Int → Int → List Int → Int → Bool → Option (Bool)
 | 0, _, _, _, _, _, _ => none
 | k + 1, x0, x2, x3, x10, x11, x111 => if x111 = true then (some false) else ((lines_At.f k x0 x2 x3).bind fun t172 => (if t172 ≥ 0 then ((lines_Of.f k x0 t172).bind fun bt173 => (if bt173.1 = x2 then (if bt173.2 = x3 then (some (x11 == (x10.length : Int))) else (some false)) else (some false))) else (some (x11 == (x10.length : Int)))))
end
def recensionlaw7_LinesAll.f (k : Nat) (a0 : ByteArray) (a1 : Int) (a2 : Int) (a3 : Int) : Option (Bool) := (recensionlaw7_begun.f k).bind fun t160 => (if t160 = true then ((recensionlaw3_Cut.f a0 100).bind fun t161 => ((lines_Starts.f k t161).bind fun t162 => (if (t162.length : Int) < 1 then (recensionlaw7_LinesAll.j0 k t161 a1 a2 a3 t162 1 1 true) else (if 0 < (t162.length : Int) then (recensionlaw7_LinesAll.j0 k t161 a1 a2 a3 t162 1 1 ((rd t162 0) != 0)) else (none))))) else (some false))
theorem recensionlaw7_LinesAll.mono_l : ∀ k, (∀ y0 y1 y2 y3 y4 y5 y6 y7, LeO (recensionlaw7_LinesAll.j0 k y0 y1 y2 y3 y4 y5 y6 y7) (recensionlaw7_LinesAll.j0 (k + 1) y0 y1 y2 y3 y4 y5 y6 y7)) ∧ (∀ y0 y1 y2 y3 y4 y5 y6 y7, LeO (recensionlaw7_LinesAll.l0 k y0 y1 y2 y3 y4 y5 y6 y7) (recensionlaw7_LinesAll.l0 (k + 1) y0 y1 y2 y3 y4 y5 y6 y7)) ∧ (∀ y0 y1 y2 y3 y4 y5 y6 y7 y8, LeO (recensionlaw7_LinesAll.j2 k y0 y1 y2 y3 y4 y5 y6 y7 y8) (recensionlaw7_LinesAll.j2 (k + 1) y0 y1 y2 y3 y4 y5 y6 y7 y8)) ∧ (∀ y0 y1 y2 y3 y4 y5 y6 y7 y8, LeO (recensionlaw7_LinesAll.j3 k y0 y1 y2 y3 y4 y5 y6 y7 y8) (recensionlaw7_LinesAll.j3 (k + 1) y0 y1 y2 y3 y4 y5 y6 y7 y8)) ∧ (∀ y0 y1 y2 y3 y4 y5, LeO (recensionlaw7_LinesAll.j4 k y0 y1 y2 y3 y4 y5) (recensionlaw7_LinesAll.j4 (k + 1) y0 y1 y2 y3 y4 y5))
 | 0 => ⟨fun _ _ _ _ _ _ _ _ r h => by simp [recensionlaw7_LinesAll.j0] at h, fun _ _ _ _ _ _ _ _ r h => by simp [recensionlaw7_LinesAll.l0] at h, fun _ _ _ _ _ _ _ _ _ r h => by simp [recensionlaw7_LinesAll.j2] at h, fun _ _ _ _ _ _ _ _ _ r h => by simp [recensionlaw7_LinesAll.j3] at h, fun _ _ _ _ _ _ r h => by simp [recensionlaw7_LinesAll.j4] at h⟩
 | k + 1 => by
  obtain ⟨ih0, ih1, ih2, ih3, ih4⟩ := recensionlaw7_LinesAll.mono_l k
  refine ⟨?_, ?_, ?_, ?_, ?_⟩
  ·intro y0 y1 y2 y3 y4 y5 y6 y7
   unfold recensionlaw7_LinesAll.j0
   repeat' first
   | (with_reducible exact ih0 _ _ _ _ _ _ _ _)
   | (with_reducible exact ih1 _ _ _ _ _ _ _ _)
   | (with_reducible exact ih2 _ _ _ _ _ _ _ _ _)
   | (with_reducible exact ih3 _ _ _ _ _ _ _ _ _)
   | (with_reducible exact ih4 _ _ _ _ _ _)
   | (with_reducible exact lines_At.mono _ _ _ _)
   | (with_reducible exact lines_Of.mono _ _ _)
   | (with_reducible exact lines_Starts.mono _ _)
   | (with_reducible exact recensionlaw7_begun.mono _)
   | (with_reducible exact LeO.refl _)
   | (with_reducible exact LeO.none _)
   | (with_reducible refine LeO.ite ?_ ?_)
   | (with_reducible refine LeO.bind ?_ (fun _ => ?_))
   | exact ih0 _ _ _ _ _ _ _ _
   | exact ih1 _ _ _ _ _ _ _ _
   | exact ih2 _ _ _ _ _ _ _ _ _
   | exact ih3 _ _ _ _ _ _ _ _ _
   | exact ih4 _ _ _ _ _ _
   | exact lines_At.mono _ _ _ _
   | exact lines_Of.mono _ _ _
   | exact lines_Starts.mono _ _
   | exact recensionlaw7_begun.mono _
   | exact LeO.none _
   | refine LeO.ite ?_ ?_
   | refine LeO.bind ?_ (fun _ => ?_)
  ·intro y0 y1 y2 y3 y4 y5 y6 y7
   unfold recensionlaw7_LinesAll.l0
   repeat' first
   | (with_reducible exact ih0 _ _ _ _ _ _ _ _)
   | (with_reducible exact ih1 _ _ _ _ _ _ _ _)
   | (with_reducible exact ih2 _ _ _ _ _ _ _ _ _)
   | (with_reducible exact ih3 _ _ _ _ _ _ _ _ _)
   | (with_reducible exact ih4 _ _ _ _ _ _)
   | (with_reducible exact lines_At.mono _ _ _ _)
   | (with_reducible exact lines_Of.mono _ _ _)
   | (with_reducible exact lines_Starts.mono _ _)
   | (with_reducible exact recensionlaw7_begun.mono _)
   | (with_reducible exact LeO.refl _)
   | (with_reducible exact LeO.none _)
   | (with_reducible refine LeO.ite ?_ ?_)
   | (with_reducible refine LeO.bind ?_ (fun _ => ?_))
   | exact ih0 _ _ _ _ _ _ _ _
   | exact ih1 _ _ _ _ _ _ _ _
   | exact ih2 _ _ _ _ _ _ _ _ _
   | exact ih3 _ _ _ _ _ _ _ _ _
   | exact ih4 _ _ _ _ _ _
   | exact lines_At.mono _ _ _ _
   | exact lines_Of.mono _ _ _
   | exact lines_Starts.mono _ _
   | exact recensionlaw7_begun.mono _
   | exact LeO.none _
   | refine LeO.ite ?_ ?_
   | refine LeO.bind ?_ (fun _ => ?_)
  ·intro y0 y1 y2 y3 y4 y5 y6 y7 y8
   unfold recensionlaw7_LinesAll.j2
   repeat' first
   | (with_reducible exact ih0 _ _ _ _ _ _ _ _)
   | (with_reducible exact ih1 _ _ _ _ _ _ _ _)
   | (with_reducible exact ih2 _ _ _ _ _ _ _ _ _)
   | (with_reducible exact ih3 _ _ _ _ _ _ _ _ _)
   | (with_reducible exact ih4 _ _ _ _ _ _)
   | (with_reducible exact lines_At.mono _ _ _ _)
   | (with_reducible exact lines_Of.mono _ _ _)
   | (with_reducible exact lines_Starts.mono _ _)
   | (with_reducible exact recensionlaw7_begun.mono _)
   | (with_reducible exact LeO.refl _)
   | (with_reducible exact LeO.none _)
   | (with_reducible refine LeO.ite ?_ ?_)
   | (with_reducible refine LeO.bind ?_ (fun _ => ?_))
   | exact ih0 _ _ _ _ _ _ _ _
   | exact ih1 _ _ _ _ _ _ _ _
   | exact ih2 _ _ _ _ _ _ _ _ _
   | exact ih3 _ _ _ _ _ _ _ _ _
   | exact ih4 _ _ _ _ _ _
   | exact lines_At.mono _ _ _ _
   | exact lines_Of.mono _ _ _
   | exact lines_Starts.mono _ _
   | exact recensionlaw7_begun.mono _
   | exact LeO.none _
   | refine LeO.ite ?_ ?_
   | refine LeO.bind ?_ (fun _ => ?_)
  ·intro y0 y1 y2 y3 y4 y5 y6 y7 y8
   unfold recensionlaw7_LinesAll.j3
   repeat' first
   | (with_reducible exact ih0 _ _ _ _ _ _ _ _)
   | (with_reducible exact ih1 _ _ _ _ _ _ _ _)
   | (with_reducible exact ih2 _ _ _ _ _ _ _ _ _)
   | (with_reducible exact ih3 _ _ _ _ _ _ _ _ _)
   | (with_reducible exact ih4 _ _ _ _ _ _)
   | (with_reducible exact lines_At.mono _ _ _ _)
   | (with_reducible exact lines_Of.mono _ _ _)
   | (with_reducible exact lines_Starts.mono _ _)
   | (with_reducible exact recensionlaw7_begun.mono _)
   | (with_reducible exact LeO.refl _)
   | (with_reducible exact LeO.none _)
   | (with_reducible refine LeO.ite ?_ ?_)
   | (with_reducible refine LeO.bind ?_ (fun _ => ?_))
   | exact ih0 _ _ _ _ _ _ _ _
   | exact ih1 _ _ _ _ _ _ _ _
   | exact ih2 _ _ _ _ _ _ _ _ _
   | exact ih3 _ _ _ _ _ _ _ _ _
   | exact ih4 _ _ _ _ _ _
   | exact lines_At.mono _ _ _ _
   | exact lines_Of.mono _ _ _
   | exact lines_Starts.mono _ _
   | exact recensionlaw7_begun.mono _
   | exact LeO.none _
   | refine LeO.ite ?_ ?_
   | refine LeO.bind ?_ (fun _ => ?_)
  ·intro y0 y1 y2 y3 y4 y5
   unfold recensionlaw7_LinesAll.j4
   repeat' first
   | (with_reducible exact ih0 _ _ _ _ _ _ _ _)
   | (with_reducible exact ih1 _ _ _ _ _ _ _ _)
   | (with_reducible exact ih2 _ _ _ _ _ _ _ _ _)
   | (with_reducible exact ih3 _ _ _ _ _ _ _ _ _)
   | (with_reducible exact ih4 _ _ _ _ _ _)
   | (with_reducible exact lines_At.mono _ _ _ _)
   | (with_reducible exact lines_Of.mono _ _ _)
   | (with_reducible exact lines_Starts.mono _ _)
   | (with_reducible exact recensionlaw7_begun.mono _)
   | (with_reducible exact LeO.refl _)
   | (with_reducible exact LeO.none _)
   | (with_reducible refine LeO.ite ?_ ?_)
   | (with_reducible refine LeO.bind ?_ (fun _ => ?_))
   | exact ih0 _ _ _ _ _ _ _ _
   | exact ih1 _ _ _ _ _ _ _ _
   | exact ih2 _ _ _ _ _ _ _ _ _
   | exact ih3 _ _ _ _ _ _ _ _ _
   | exact ih4 _ _ _ _ _ _
   | exact lines_At.mono _ _ _ _
   | exact lines_Of.mono _ _ _
   | exact lines_Starts.mono _ _
   | exact recensionlaw7_begun.mono _
   | exact LeO.none _
   | refine LeO.ite ?_ ?_
   | refine LeO.bind ?_ (fun _ => ?_)
theorem recensionlaw7_LinesAll.mono : ∀ a0 a1 a2 a3 k, LeO (recensionlaw7_LinesAll.f k a0 a1 a2 a3) (recensionlaw7_LinesAll.f (k + 1) a0 a1 a2 a3) := by
 intro a0 a1 a2 a3 k
 obtain ⟨ih0, ih1, ih2, ih3, ih4⟩ := recensionlaw7_LinesAll.mono_l k
 unfold recensionlaw7_LinesAll.f
 repeat' first
   | (with_reducible exact ih0 _ _ _ _ _ _ _ _)
   | (with_reducible exact ih1 _ _ _ _ _ _ _ _)
   | (with_reducible exact ih2 _ _ _ _ _ _ _ _ _)
   | (with_reducible exact ih3 _ _ _ _ _ _ _ _ _)
   | (with_reducible exact ih4 _ _ _ _ _ _)
   | (with_reducible exact lines_At.mono _ _ _ _)
   | (with_reducible exact lines_Of.mono _ _ _)
   | (with_reducible exact lines_Starts.mono _ _)
   | (with_reducible exact recensionlaw7_begun.mono _)
   | (with_reducible exact LeO.refl _)
   | (with_reducible exact LeO.none _)
   | (with_reducible refine LeO.ite ?_ ?_)
   | (with_reducible refine LeO.bind ?_ (fun _ => ?_))
   | exact ih0 _ _ _ _ _ _ _ _
   | exact ih1 _ _ _ _ _ _ _ _
   | exact ih2 _ _ _ _ _ _ _ _ _
   | exact ih3 _ _ _ _ _ _ _ _ _
   | exact ih4 _ _ _ _ _ _
   | exact lines_At.mono _ _ _ _
   | exact lines_Of.mono _ _ _
   | exact lines_Starts.mono _ _
   | exact recensionlaw7_begun.mono _
   | exact LeO.none _
   | refine LeO.ite ?_ ?_
   | refine LeO.bind ?_ (fun _ => ?_)
set_option maxHeartbeats 8000000 in
set_option maxRecDepth 100000 in
theorem recensionlaw7_LinesAll.calls (k : Nat) (a0 : ByteArray) (a1 : Int) (a2 : Int) (a3 : Int) (r : Bool) (w : World) (hrt : Aside0 (r = true)) (h : recensionlaw7_LinesAll.f k a0 a1 a2 a3 = some r) :
  Calls Tryd.prog 3 #[.string a0, .int .i64 a1, .int .i64 a2, .int .i64 a3] w fun e w' => e = .returned (.bool r) ∧ Below w.heap.size w w' := by
 have HB := Aside0.mk (Below.refl w.heap.size w)
 have H : ((recensionlaw7_begun.f k).bind fun t160 => (if t160 = true then ((recensionlaw3_Cut.f a0 100).bind fun t161 => ((lines_Starts.f k t161).bind fun t162 => (if (t162.length : Int) < 1 then (recensionlaw7_LinesAll.j0 k t161 a1 a2 a3 t162 1 1 true) else (if 0 < (t162.length : Int) then (recensionlaw7_LinesAll.j0 k t161 a1 a2 a3 t162 1 1 ((rd t162 0) != 0)) else (none))))) else (some false))) = some r := h
 clear h
 replace H := Option.bind_eq_some_iff.mp H
 obtain ⟨t160, A50, H⟩ := H
 replace H : (if t160 = true then ((recensionlaw3_Cut.f a0 100).bind fun t161 => ((lines_Starts.f k t161).bind fun t162 => (if (t162.length : Int) < 1 then (recensionlaw7_LinesAll.j0 k t161 a1 a2 a3 t162 1 1 true) else (if 0 < (t162.length : Int) then (recensionlaw7_LinesAll.j0 k t161 a1 a2 a3 t162 1 1 ((rd t162 0) != 0)) else (none))))) else (some false)) = some r := H
 have A5 := Aside0.mk A50
 clear A50
 by_cases c6 : t160 = true
 ·subst c6
  have H1 : ((recensionlaw3_Cut.f a0 100).bind fun t161 => ((lines_Starts.f k t161).bind fun t162 => (if (t162.length : Int) < 1 then (recensionlaw7_LinesAll.j0 k t161 a1 a2 a3 t162 1 1 true) else (if 0 < (t162.length : Int) then (recensionlaw7_LinesAll.j0 k t161 a1 a2 a3 t162 1 1 ((rd t162 0) != 0)) else (none))))) = some r := by rw [if_pos rfl] at H; exact H
  clear H
  have H := H1
  clear H1
  replace H := Option.bind_eq_some_iff.mp H
  obtain ⟨t161, A70, H⟩ := H
  replace H : ((lines_Starts.f k t161).bind fun t162 => (if (t162.length : Int) < 1 then (recensionlaw7_LinesAll.j0 k t161 a1 a2 a3 t162 1 1 true) else (if 0 < (t162.length : Int) then (recensionlaw7_LinesAll.j0 k t161 a1 a2 a3 t162 1 1 ((rd t162 0) != 0)) else (none)))) = some r := H
  have A7 := Aside0.mk A70
  clear A70
  replace H := Option.bind_eq_some_iff.mp H
  obtain ⟨t162, A80, H⟩ := H
  replace H : (if (t162.length : Int) < 1 then (recensionlaw7_LinesAll.j0 k t161 a1 a2 a3 t162 1 1 true) else (if 0 < (t162.length : Int) then (recensionlaw7_LinesAll.j0 k t161 a1 a2 a3 t162 1 1 ((rd t162 0) != 0)) else (none))) = some r := H
  have A8 := Aside0.mk A80
  clear A80
  have HC9 := Aside0.mk H
  clear H
  go_enter Tryd.func3, Tryd.ntmps3
  go_upto_region 7 with (first | ((with_reducible refine gate_callee (f := 7) rfl ?_); refine goesL_ (some 19) rfl rfl Tryd.func7 (by kernel_rfl) rfl #[] rfl (by (try simp only [List.map_toArray, List.map_cons, List.map_nil]); first | done | rfl | (simp only [List.length_drop, List.length_take]; rfl) | (simp only [wrap64_wl, wrap64_wr]; rfl)) ?_; (with_reducible refine (recensionlaw7_begun.calls k  true _ A5.out).mono ?_); rintro e w10 ⟨rfl, hb⟩; refine ⟨_, rfl, ?_⟩; have n0_ := Aside0.mk (below_step (by repeat (first | (with_reducible first | exact HB.out | apply below_alloc | apply pw_below_drewN | apply below_drew1) | exact HB.out)) hb); clear HB; have HB := n0_; clear n0_; (try clear hb); (try clear hb2); (try clear hk); (try clear hi)) | ((with_reducible refine gate_callee (f := 8) rfl ?_); refine goesL_ (some 23) rfl rfl Tryd.func8 (by kernel_rfl) rfl #[.string a0, .int .i64 100] rfl (by (try simp only [List.map_toArray, List.map_cons, List.map_nil]); first | done | rfl | (simp only [List.length_drop, List.length_take]; rfl) | (simp only [wrap64_wl, wrap64_wr]; rfl)) ?_; (with_reducible refine (recensionlaw3_Cut.calls a0 100 t161 _ A7.out).mono ?_); rintro e w' ⟨rfl, ⟨nd, rfl⟩⟩; refine ⟨_, rfl, ?_⟩) | ((with_reducible refine gate_callee (f := 9) rfl ?_); refine goesL_ (some 25) rfl rfl Tryd.func9 (by kernel_rfl) rfl #[.string t161] rfl (by (try simp only [List.map_toArray, List.map_cons, List.map_nil]); first | done | rfl | (simp only [List.length_drop, List.length_take]; rfl) | (simp only [wrap64_wl, wrap64_wr]; rfl)) ?_; (with_reducible refine (lines_Starts.calls k t161 t162 _ A8.out).mono ?_); rintro e w11 ⟨v163, rfl, ho0, hb⟩; refine ⟨_, rfl, ?_⟩; have n0_ := Aside0.mk (Kd.R_lower ho0 (below_size (by repeat (first | (with_reducible first | exact HB.out | apply below_alloc | apply pw_below_drewN | apply below_drew1) | exact HB.out)))); have n1_ := Aside0.mk (below_step (by repeat (first | (with_reducible first | exact HB.out | apply below_alloc | apply pw_below_drewN | apply below_drew1) | exact HB.out)) hb); clear HB; have HO164 := n0_; have HB := n1_; clear n0_ n1_; (try clear hb); (try clear hb2); (try clear hk); (try clear hi); (try clear ho0)))
  (try simp only [Act.put, List.setIfInBounds_toArray, List.set_cons_zero, List.set_cons_succ])
  go_cut [34] (fun v34 wc => ∃ (kq : Nat) (x34_8 : Bool), v34 = .bool x34_8 ∧ Aside0 (recensionlaw7_LinesAll.j0 kq t161 a1 a2 a3 t162 1 1 x34_8 = some r) ∧ Aside0 (kq ≤ k) ∧ Aside0 (Kd.R (Kd.int .i64) 3 wc w.heap.size (fun _ => True) v163 t162) ∧ Aside0 (Below w.heap.size w wc))
  case first =>
   have H := HC9.out
   clear HC9
   by_cases c12 : (t162.length : Int) < 1
   ·rw [if_pos c12] at H
    have c12b0 : decide ((t162.length : Int) < 1) = true := decide_eq_true c12
    have c12b1 : decide (t162.length < 1) = true := decide_eq_true (by omega)
    clear c12
    (first | rw [c12b0] | (simp only [i64_w, i32_w]; rw [c12b0]) | skip)
    have H' := Aside0.mk H
    clear H
    obtain ⟨Ao13, co13, eo13⟩ := Kd.R_slice HO164.out
    subst eo13
    go_wp2
    go_meet
    case rel => exact ⟨_, (true), (by first | rfl | (simp; done) | (simp [*]; done)), H', ⟨by first | omega | exact Nat.le_refl _⟩, ⟨by (with_reducible repeat (first | apply Kd.R_alloc | apply Kd.R_drewN | apply Kd.R_drew)); exact HO164.out⟩, ⟨by repeat (first | (with_reducible first | exact HB.out | apply below_alloc | apply pw_below_drewN | apply below_drew1) | exact HB.out)⟩⟩
   ·rw [if_neg c12] at H
    have c12b0 : decide ((t162.length : Int) < 1) = false := decide_eq_false c12
    have c12b1 : decide (t162.length < 1) = false := decide_eq_false (by omega)
    clear c12
    (first | rw [c12b0] | (simp only [i64_w, i32_w]; rw [c12b0]) | skip)
    by_cases c14 : 0 < (t162.length : Int)
    ·rw [if_pos c14] at H
     have c14b0 : decide (0 < (t162.length : Int)) = true := decide_eq_true c14
     have c14b1 : decide (0 < t162.length) = true := decide_eq_true (by omega)
     clear c14
     have H' := Aside0.mk H
     clear H
     obtain ⟨Ao15, co15, eo15⟩ := Kd.R_slice HO164.out
     subst eo15
     have p165 : 0 ≤ (0 : Int) := (by omega)
     have q165 : 0 < (t162.length : Int) := of_decide_eq_true (by first | (with_reducible assumption) | assumption)
     obtain ⟨ad165, e165, hx165_0⟩ := Kd.at_int (Kd.R_reads' HO164.out).2.2 0 p165 q165
     cases e165
     have qi165 : (0 < t162.length) = True := eq_true (by omega)
     (try rw [show ((0 : Int)).toNat = 0 from rfl] at hx165_0)
     (try rw [Addr.add_zero'] at hx165_0)
     replace p165 := eq_true p165
     replace q165 := eq_true q165
     go_wp2
     go_meet
     case rel => exact ⟨_, (((rd t162 0) != 0)), (by first | rfl | (simp; done) | (simp [*]; done)), H', ⟨by first | omega | exact Nat.le_refl _⟩, ⟨by (with_reducible repeat (first | apply Kd.R_alloc | apply Kd.R_drewN | apply Kd.R_drew)); exact HO164.out⟩, ⟨by repeat (first | (with_reducible first | exact HB.out | apply below_alloc | apply pw_below_drewN | apply below_drew1) | exact HB.out)⟩⟩
    ·rw [if_neg c14] at H
     exact absurd H (by simp)
  case rest =>
   clear HC9
   try clear c1
   try clear p1
   try clear q1
   try clear hx1
   try clear qi1
   try clear p2
   try clear c3
   try clear c6
   try clear p6
   try clear c7
   try clear c8
   try clear c9
   try clear c12
   try clear c12b0
   try clear c12b1
   try clear c14
   try clear c14b0
   try clear c14b1
   try clear hx165_0
   try clear p165
   try clear q165
   obtain ⟨kq, x34_8, rfl, HA, HJ8, HO_10, HB⟩ := hcut
   cases kq with
   | zero => exact absurd HA.out (by simp [recensionlaw7_LinesAll.j0])
   | succ kj8 =>
    have H := HA.out
    clear HA
    simp only [recensionlaw7_LinesAll.j0] at H
    by_cases c16 : x34_8 = true
    ·subst c16
     have H1 : (some false) = some r := by rw [if_pos rfl] at H; exact H
     clear H
     have H := H1
     clear H1
     exact absurd (H.trans (congrArg some hrt.out)) (by simp)
    ·replace c16 := Bool.eq_false_iff.mpr c16
     subst c16
     have H1 : (recensionlaw7_LinesAll.l0 kj8 t161 a1 a2 a3 t162 1 1 0) = some r := by rw [if_neg (show ¬ (false = true) by decide)] at H; exact H
     clear H
     have H := H1
     clear H1
     have H' := Aside0.mk H
     clear H
     go_wp2
     go_loopg [11, 12, 13] kj8 (fun kq v11 v12 v13 w' => ∃ (x11_2 : Int) (x12_2 : Int) (x13_2 : Int), v11 = .int .i64 x11_2 ∧ v12 = .int .i64 x12_2 ∧ v13 = .int .i64 x13_2 ∧ Aside0 (recensionlaw7_LinesAll.l0 kq t161 a1 a2 a3 t162 x11_2 x12_2 x13_2 = some r) ∧ Aside0 (kq ≤ kj8) ∧ Aside0 (Kd.R (Kd.int .i64) 3 w' w.heap.size (fun _ => True) v163 t162) ∧ Aside0 (Below w.heap.size w w'))
     case atStart => exact ⟨(1), (1), (0), (by first | rfl | (simp; done) | (simp [*]; done)), (by first | rfl | (simp; done) | (simp [*]; done)), (by first | rfl | (simp; done) | (simp [*]; done)), H', ⟨Nat.le_refl _⟩, ⟨by (with_reducible repeat (first | apply Kd.R_alloc | apply Kd.R_drewN | apply Kd.R_drew)); exact HO_10.out⟩, ⟨by repeat (first | (with_reducible first | exact HB.out | apply below_alloc | apply pw_below_drewN | apply below_drew1) | exact HB.out)⟩⟩
     case round =>
      clear H'
      try clear c1
      try clear p1
      try clear q1
      try clear hx1
      try clear qi1
      try clear p2
      try clear c3
      try clear c6
      try clear p6
      try clear c7
      try clear c8
      try clear c9
      try clear c12
      try clear c12b0
      try clear c12b1
      try clear c14
      try clear c14b0
      try clear c14b1
      try clear c16
      try clear p16
      try clear q16
      try clear hx16
      try clear qi16
      try clear hx165_0
      try clear p1
      try clear p165
      try clear p2
      try clear p6
      try clear q1
      try clear q165
      obtain ⟨x11_2, x12_2, x13_2, rfl, rfl, rfl, HA, HK2, HO_10, HB⟩ := hrel
      cases gk with
      | zero => exact absurd HA.out (by simp [recensionlaw7_LinesAll.l0])
      | succ k2 =>
       have H := HA.out
       clear HA
       simp only [recensionlaw7_LinesAll.l0] at H
       by_cases c17 : x13_2 ≤ (t161.size : Int)
       ·rw [if_pos c17] at H
        have c17b0 : decide (x13_2 ≤ (t161.size : Int)) = true := decide_eq_true c17
        clear c17
        replace H := Option.bind_eq_some_iff.mp H
        obtain ⟨⟨t166, t167⟩, A180, H⟩ := H
        replace H : (if t166 = x11_2 then (if t167 = x12_2 then ((lines_At.f k2 t161 x11_2 x12_2).bind fun t168 => (recensionlaw7_LinesAll.j2 k2 t161 a1 a2 a3 t162 x11_2 x12_2 x13_2 (t168 != x13_2))) else (recensionlaw7_LinesAll.j2 k2 t161 a1 a2 a3 t162 x11_2 x12_2 x13_2 true)) else (recensionlaw7_LinesAll.j2 k2 t161 a1 a2 a3 t162 x11_2 x12_2 x13_2 true)) = some r := H
        have A18 := Aside0.mk A180
        clear A180
        have HC19 := Aside0.mk H
        clear H
        go_upto_region 13 with (first | ((with_reducible refine gate_callee (f := 10) rfl ?_); refine goesL_ (some 44) rfl rfl Tryd.func10 (by kernel_rfl) rfl #[.string t161, .int .i64 x13_2] rfl (by (try simp only [List.map_toArray, List.map_cons, List.map_nil]); first | done | rfl | (simp only [List.length_drop, List.length_take]; rfl) | (simp only [wrap64_wl, wrap64_wr]; rfl)) ?_; (with_reducible refine (lines_Of.calls k2 t161 x13_2 t166 t167 _ A18.out).mono ?_); rintro e w20 ⟨rfl, hb⟩; refine ⟨_, rfl, ?_⟩; have n0_ := Aside0.mk (Kd.R_below (by (with_reducible repeat (first | apply Kd.R_alloc | apply Kd.R_drewN | apply Kd.R_drew)); exact HO_10.out) hb); have n1_ := Aside0.mk (below_step (by repeat (first | (with_reducible first | exact HB.out | apply below_alloc | apply pw_below_drewN | apply below_drew1) | exact HB.out)) hb); clear HO_10; clear HB; have HO_10 := n0_; have HB := n1_; clear n0_ n1_; (try clear hb); (try clear hb2); (try clear hk); (try clear hi)))
        (try simp only [Act.put, List.setIfInBounds_toArray, List.set_cons_zero, List.set_cons_succ])
        go_cut [62] (fun v62 wc => ∃ (kq : Nat) (x62_18 : Bool), v62 = .bool x62_18 ∧ Aside0 (recensionlaw7_LinesAll.j2 kq t161 a1 a2 a3 t162 x11_2 x12_2 x13_2 x62_18 = some r) ∧ Aside0 (kq ≤ k2) ∧ Aside0 (Kd.R (Kd.int .i64) 3 wc w.heap.size (fun _ => True) v163 t162) ∧ Aside0 (Below w.heap.size w wc))
        case first =>
         have H := HC19.out
         clear HC19
         by_cases c21 : t166 = x11_2
         ·rw [if_pos c21] at H
          have c21b0 : (t166 == x11_2) = true := beq_iff_eq.mpr c21
          have c21b1 : (t166 != x11_2) = false := bne_eq_false_iff_eq.mpr c21
          clear c21
          (first | rw [c21b0] | (simp only [i64_w, i32_w]; rw [c21b0]) | skip)
          by_cases c22 : t167 = x12_2
          ·rw [if_pos c22] at H
           have c22b0 : (t167 == x12_2) = true := beq_iff_eq.mpr c22
           have c22b1 : (t167 != x12_2) = false := bne_eq_false_iff_eq.mpr c22
           clear c22
           replace H := Option.bind_eq_some_iff.mp H
           obtain ⟨t168, A230, H⟩ := H
           replace H : (recensionlaw7_LinesAll.j2 k2 t161 a1 a2 a3 t162 x11_2 x12_2 x13_2 (t168 != x13_2)) = some r := H
           have A23 := Aside0.mk A230
           clear A230
           have H' := Aside0.mk H
           clear H
           go_wp2_with (first | (go_at_call 11; (with_reducible refine (lines_At.calls k2 t161 x11_2 x12_2 t168 _ A23.out).mono ?_); rintro e w24 ⟨rfl, hb⟩; have n0_ := Aside0.mk (Kd.R_below (by (with_reducible repeat (first | apply Kd.R_alloc | apply Kd.R_drewN | apply Kd.R_drew)); exact HO_10.out) hb); have n1_ := Aside0.mk (below_step (by repeat (first | (with_reducible first | exact HB.out | apply below_alloc | apply pw_below_drewN | apply below_drew1) | exact HB.out)) hb); clear HO_10; clear HB; have HO_10 := n0_; have HB := n1_; clear n0_ n1_; (try clear hb); (try clear hb2); (try clear hk); (try clear hi)))
           go_meet
           case rel => exact ⟨_, ((t168 != x13_2)), (by first | rfl | (simp; done) | (simp [*]; done)), H', ⟨by have := HJ8.out; have := HK2.out; first | omega | exact Nat.le_refl _⟩, ⟨by (with_reducible repeat (first | apply Kd.R_alloc | apply Kd.R_drewN | apply Kd.R_drew)); exact HO_10.out⟩, ⟨by repeat (first | (with_reducible first | exact HB.out | apply below_alloc | apply pw_below_drewN | apply below_drew1) | exact HB.out)⟩⟩
          ·rw [if_neg c22] at H
           have c22b0 : (t167 == x12_2) = false := beq_eq_false_iff_ne.mpr c22
           have c22b1 : (t167 != x12_2) = true := bne_iff_ne.mpr c22
           have H' := Aside0.mk H
           clear H
           go_wp2
           go_meet
           case rel => exact ⟨_, (true), (by first | rfl | (simp; done) | (simp [*]; done)), H', ⟨by have := HJ8.out; have := HK2.out; first | omega | exact Nat.le_refl _⟩, ⟨by (with_reducible repeat (first | apply Kd.R_alloc | apply Kd.R_drewN | apply Kd.R_drew)); exact HO_10.out⟩, ⟨by repeat (first | (with_reducible first | exact HB.out | apply below_alloc | apply pw_below_drewN | apply below_drew1) | exact HB.out)⟩⟩
         ·rw [if_neg c21] at H
          have c21b0 : (t166 == x11_2) = false := beq_eq_false_iff_ne.mpr c21
          have c21b1 : (t166 != x11_2) = true := bne_iff_ne.mpr c21
          (first | rw [c21b0] | (simp only [i64_w, i32_w]; rw [c21b0]) | skip)
          have H' := Aside0.mk H
          clear H
          go_wp2
          go_meet
          case rel => exact ⟨_, (true), (by first | rfl | (simp; done) | (simp [*]; done)), H', ⟨by have := HJ8.out; have := HK2.out; first | omega | exact Nat.le_refl _⟩, ⟨by (with_reducible repeat (first | apply Kd.R_alloc | apply Kd.R_drewN | apply Kd.R_drew)); exact HO_10.out⟩, ⟨by repeat (first | (with_reducible first | exact HB.out | apply below_alloc | apply pw_below_drewN | apply below_drew1) | exact HB.out)⟩⟩
        case rest =>
         clear HC19
         try clear c1
         try clear p1
         try clear q1
         try clear hx1
         try clear qi1
         try clear c2
         try clear p2
         try clear c3
         try clear c6
         try clear p6
         try clear c7
         try clear c8
         try clear c9
         try clear c10
         try clear c12
         try clear c12b0
         try clear c12b1
         try clear c14
         try clear c14b0
         try clear c14b1
         try clear c16
         try clear p16
         try clear q16
         try clear hx16
         try clear qi16
         try clear c17
         try clear c17b0
         try clear c21
         try clear c21b0
         try clear c21b1
         try clear c22
         try clear c22b0
         try clear c22b1
         try clear hx165_0
         try clear p1
         try clear p16
         try clear p165
         try clear p2
         try clear p6
         try clear q1
         try clear q16
         try clear q165
         obtain ⟨kq, x62_18, rfl, HA, HJ18, HO_10, HB⟩ := hcut
         cases kq with
         | zero => exact absurd HA.out (by simp [recensionlaw7_LinesAll.j2])
         | succ kj18 =>
          have H := HA.out
          clear HA
          simp only [recensionlaw7_LinesAll.j2] at H
          by_cases c25 : x62_18 = true
          ·subst c25
           have H1 : (some false) = some r := by rw [if_pos rfl] at H; exact H
           clear H
           have H := H1
           clear H1
           exact absurd (H.trans (congrArg some hrt.out)) (by simp)
          ·replace c25 := Bool.eq_false_iff.mpr c25
           subst c25
           have H1 : (if x13_2 < (t161.size : Int) then (if 0 ≤ x13_2 then (recensionlaw7_LinesAll.j3 kj18 t161 a1 a2 a3 t162 x11_2 (wrap64 (x12_2 + 1)) x13_2 ((bt t161 x13_2) == 10)) else (none)) else (recensionlaw7_LinesAll.j3 kj18 t161 a1 a2 a3 t162 x11_2 (wrap64 (x12_2 + 1)) x13_2 false)) = some r := by rw [if_neg (show ¬ (false = true) by decide)] at H; exact H
           clear H
           have H := H1
           clear H1
           have HC26 := Aside0.mk H
           clear H
           go_upto_region 16 with (fail)
           go_cut [74] (fun v74 wc => ∃ (kq : Nat) (x74_25 : Bool), v74 = .bool x74_25 ∧ Aside0 (recensionlaw7_LinesAll.j3 kq t161 a1 a2 a3 t162 x11_2 (wrap64 (x12_2 + 1)) x13_2 x74_25 = some r) ∧ Aside0 (kq ≤ kj18) ∧ Aside0 (Kd.R (Kd.int .i64) 3 wc w.heap.size (fun _ => True) v163 t162) ∧ Aside0 (Below w.heap.size w wc))
           case first =>
            have H := HC26.out
            clear HC26
            by_cases c27 : x13_2 < (t161.size : Int)
            ·rw [if_pos c27] at H
             have c27b0 : decide (x13_2 < (t161.size : Int)) = true := decide_eq_true c27
             clear c27
             (first | rw [c27b0] | (simp only [i64_w, i32_w]; rw [c27b0]) | skip)
             by_cases c28 : 0 ≤ x13_2
             ·rw [if_pos c28] at H
              have c28b0 : decide (0 ≤ x13_2) = true := decide_eq_true c28
              clear c28
              have H' := Aside0.mk H
              clear H
              have p29 : 0 ≤ (x13_2 : Int) := of_decide_eq_true (by first | (with_reducible assumption) | assumption)
              have q29 : x13_2 < (t161.size : Int) := of_decide_eq_true (by first | (with_reducible assumption) | assumption)
              have hx29 := bt_at t161 x13_2
              replace p29 := eq_true p29
              replace q29 := eq_true q29
              go_wp2
              go_meet
              case rel => exact ⟨_, (((bt t161 x13_2) == 10)), (by first | rfl | (simp; done) | (simp [*]; done)), H', ⟨by have := HJ8.out; have := HK2.out; have := HJ18.out; first | omega | exact Nat.le_refl _⟩, ⟨by (with_reducible repeat (first | apply Kd.R_alloc | apply Kd.R_drewN | apply Kd.R_drew)); exact HO_10.out⟩, ⟨by repeat (first | (with_reducible first | exact HB.out | apply below_alloc | apply pw_below_drewN | apply below_drew1) | exact HB.out)⟩⟩
             ·rw [if_neg c28] at H
              exact absurd H (by simp)
            ·rw [if_neg c27] at H
             have c27b0 : decide (x13_2 < (t161.size : Int)) = false := decide_eq_false c27
             clear c27
             (first | rw [c27b0] | (simp only [i64_w, i32_w]; rw [c27b0]) | skip)
             have H' := Aside0.mk H
             clear H
             go_wp2
             go_meet
             case rel => exact ⟨_, (false), (by first | rfl | (simp; done) | (simp [*]; done)), H', ⟨by have := HJ8.out; have := HK2.out; have := HJ18.out; first | omega | exact Nat.le_refl _⟩, ⟨by (with_reducible repeat (first | apply Kd.R_alloc | apply Kd.R_drewN | apply Kd.R_drew)); exact HO_10.out⟩, ⟨by repeat (first | (with_reducible first | exact HB.out | apply below_alloc | apply pw_below_drewN | apply below_drew1) | exact HB.out)⟩⟩
           case rest =>
            clear HC26
            try clear c1
            try clear p1
            try clear q1
            try clear hx1
            try clear qi1
            try clear c2
            try clear p2
            try clear q2
            try clear hx2
            try clear c3
            try clear c6
            try clear p6
            try clear c7
            try clear c8
            try clear c9
            try clear c10
            try clear c12
            try clear c12b0
            try clear c12b1
            try clear c14
            try clear c14b0
            try clear c14b1
            try clear c16
            try clear p16
            try clear q16
            try clear hx16
            try clear qi16
            try clear c17
            try clear c17b0
            try clear c21
            try clear c21b0
            try clear c21b1
            try clear c22
            try clear c22b0
            try clear c22b1
            try clear c25
            try clear c27
            try clear c27b0
            try clear c28
            try clear c28b0
            try clear p29
            try clear q29
            try clear hx29
            try clear hx165_0
            try clear p1
            try clear p16
            try clear p165
            try clear p2
            try clear p29
            try clear p6
            try clear q1
            try clear q16
            try clear q165
            try clear q29
            obtain ⟨kq, x74_25, rfl, HA, HJ25, HO_10, HB⟩ := hcut
            cases kq with
            | zero => exact absurd HA.out (by simp [recensionlaw7_LinesAll.j3])
            | succ kj25 =>
             have H := HA.out
             clear HA
             simp only [recensionlaw7_LinesAll.j3] at H
             by_cases c30 : x74_25 = true
             ·subst c30
              have H1 : (if x11_2 ≥ (t162.length : Int) then (some false) else (if 0 ≤ x11_2 then (if x11_2 < (t162.length : Int) then (if (rd t162 x11_2) = (wrap64 (x13_2 + 1)) then (recensionlaw7_LinesAll.l0 kj25 t161 a1 a2 a3 t162 (wrap64 (x11_2 + 1)) 1 (wrap64 (x13_2 + 1))) else (some false)) else (none)) else (none))) = some r := by rw [if_pos rfl] at H; exact H
              clear H
              have H := H1
              clear H1
              by_cases c31 : x11_2 ≥ (t162.length : Int)
              ·rw [if_pos c31] at H
               have c31b0 : decide ((t162.length : Int) ≤ x11_2) = true := decide_eq_true c31
               clear c31
               exact absurd (H.trans (congrArg some hrt.out)) (by simp)
              ·rw [if_neg c31] at H
               have c31b0 : decide ((t162.length : Int) ≤ x11_2) = false := decide_eq_false c31
               clear c31
               by_cases c32 : 0 ≤ x11_2
               ·rw [if_pos c32] at H
                have c32b0 : decide (0 ≤ x11_2) = true := decide_eq_true c32
                clear c32
                by_cases c33 : x11_2 < (t162.length : Int)
                ·rw [if_pos c33] at H
                 have c33b0 : decide (x11_2 < (t162.length : Int)) = true := decide_eq_true c33
                 clear c33
                 by_cases c34 : (rd t162 x11_2) = (wrap64 (x13_2 + 1))
                 ·rw [if_pos c34] at H
                  have c34b0 : ((rd t162 x11_2) == (wrap64 (x13_2 + 1))) = true := beq_iff_eq.mpr c34
                  have c34b1 : ((rd t162 x11_2) != (wrap64 (x13_2 + 1))) = false := bne_eq_false_iff_eq.mpr c34
                  clear c34
                  have H' := Aside0.mk H
                  clear H
                  obtain ⟨Ao35, co35, eo35⟩ := Kd.R_slice HO_10.out
                  subst eo35
                  have p169 : 0 ≤ (x11_2 : Int) := of_decide_eq_true (by first | (with_reducible assumption) | assumption)
                  have q169 : x11_2 < (t162.length : Int) := of_decide_eq_true (by first | (with_reducible assumption) | assumption)
                  obtain ⟨ad169, e169, hx169_0⟩ := Kd.at_int (Kd.R_reads' HO_10.out).2.2 x11_2 p169 q169
                  cases e169
                  replace p169 := eq_true p169
                  replace q169 := eq_true q169
                  go_wp2
                  go_roundg kj25
                  case measure => have := HJ8.out; have := HK2.out; have := HJ18.out; have := HJ25.out; omega
                  case rel => exact ⟨(wrap64 (x11_2 + 1)), (1), (wrap64 (x13_2 + 1)), (by first | rfl | (simp; done) | (simp [*]; done)), (by first | rfl | (simp; done) | (simp [*]; done)), (by first | rfl | (simp; done) | (simp [*]; done)), H', ⟨by have := HJ8.out; have := HK2.out; have := HJ18.out; have := HJ25.out; omega⟩, ⟨by (with_reducible repeat (first | apply Kd.R_alloc | apply Kd.R_drewN | apply Kd.R_drew)); exact HO_10.out⟩, ⟨by repeat (first | (with_reducible first | exact HB.out | apply below_alloc | apply pw_below_drewN | apply below_drew1) | exact HB.out)⟩⟩
                 ·rw [if_neg c34] at H
                  have c34b0 : ((rd t162 x11_2) == (wrap64 (x13_2 + 1))) = false := beq_eq_false_iff_ne.mpr c34
                  have c34b1 : ((rd t162 x11_2) != (wrap64 (x13_2 + 1))) = true := bne_iff_ne.mpr c34
                  exact absurd (H.trans (congrArg some hrt.out)) (by simp)
                ·rw [if_neg c33] at H
                 exact absurd H (by simp)
               ·rw [if_neg c32] at H
                exact absurd H (by simp)
             ·replace c30 := Bool.eq_false_iff.mpr c30
              subst c30
              have H1 : (recensionlaw7_LinesAll.l0 kj25 t161 a1 a2 a3 t162 x11_2 (wrap64 (x12_2 + 1)) (wrap64 (x13_2 + 1))) = some r := by rw [if_neg (show ¬ (false = true) by decide)] at H; exact H
              clear H
              have H := H1
              clear H1
              have H' := Aside0.mk H
              clear H
              go_wp2
              go_roundg kj25
              case measure => have := HJ8.out; have := HK2.out; have := HJ18.out; have := HJ25.out; omega
              case rel => exact ⟨(x11_2), ((wrap64 (x12_2 + 1))), (wrap64 (x13_2 + 1)), (by first | rfl | (simp; done) | (simp [*]; done)), (by first | rfl | (simp; done) | (simp [*]; done)), (by first | rfl | (simp; done) | (simp [*]; done)), H', ⟨by have := HJ8.out; have := HK2.out; have := HJ18.out; have := HJ25.out; omega⟩, ⟨by (with_reducible repeat (first | apply Kd.R_alloc | apply Kd.R_drewN | apply Kd.R_drew)); exact HO_10.out⟩, ⟨by repeat (first | (with_reducible first | exact HB.out | apply below_alloc | apply pw_below_drewN | apply below_drew1) | exact HB.out)⟩⟩
       ·rw [if_neg c17] at H
        have c17b0 : decide (x13_2 ≤ (t161.size : Int)) = false := decide_eq_false c17
        clear c17
        replace H := Option.bind_eq_some_iff.mp H
        obtain ⟨⟨t170, t171⟩, A360, H⟩ := H
        replace H : (if a1 < 0 then (if t170 = 0 then (recensionlaw7_LinesAll.j4 k2 t161 a2 a3 t162 x11_2 (t171 != 0)) else (recensionlaw7_LinesAll.j4 k2 t161 a2 a3 t162 x11_2 true)) else (if a1 > (t161.size : Int) then (if t170 = 0 then (recensionlaw7_LinesAll.j4 k2 t161 a2 a3 t162 x11_2 (t171 != 0)) else (recensionlaw7_LinesAll.j4 k2 t161 a2 a3 t162 x11_2 true)) else (recensionlaw7_LinesAll.j4 k2 t161 a2 a3 t162 x11_2 false))) = some r := H
        have A36 := Aside0.mk A360
        clear A360
        have HC37 := Aside0.mk H
        clear H
        go_upto_region 22 with (first | ((with_reducible refine gate_callee (f := 10) rfl ?_); refine goesL_ (some 93) rfl rfl Tryd.func10 (by kernel_rfl) rfl #[.string t161, .int .i64 a1] rfl (by (try simp only [List.map_toArray, List.map_cons, List.map_nil]); first | done | rfl | (simp only [List.length_drop, List.length_take]; rfl) | (simp only [wrap64_wl, wrap64_wr]; rfl)) ?_; (with_reducible refine (lines_Of.calls k2 t161 a1 t170 t171 _ A36.out).mono ?_); rintro e w38 ⟨rfl, hb⟩; refine ⟨_, rfl, ?_⟩; have n0_ := Aside0.mk (Kd.R_below (by (with_reducible repeat (first | apply Kd.R_alloc | apply Kd.R_drewN | apply Kd.R_drew)); exact HO_10.out) hb); have n1_ := Aside0.mk (below_step (by repeat (first | (with_reducible first | exact HB.out | apply below_alloc | apply pw_below_drewN | apply below_drew1) | exact HB.out)) hb); clear HO_10; clear HB; have HO_10 := n0_; have HB := n1_; clear n0_ n1_; (try clear hb); (try clear hb2); (try clear hk); (try clear hi)))
        (try simp only [Act.put, List.setIfInBounds_toArray, List.set_cons_zero, List.set_cons_succ])
        go_cut [111] (fun v111 wc => ∃ (kq : Nat) (x111_36 : Bool), v111 = .bool x111_36 ∧ Aside0 (recensionlaw7_LinesAll.j4 kq t161 a2 a3 t162 x11_2 x111_36 = some r) ∧ Aside0 (kq ≤ k2) ∧ Aside0 (Kd.R (Kd.int .i64) 3 wc w.heap.size (fun _ => True) v163 t162) ∧ Aside0 (Below w.heap.size w wc))
        case first =>
         have H := HC37.out
         clear HC37
         by_cases c39 : a1 < 0
         ·rw [if_pos c39] at H
          have c39b0 : decide (a1 < 0) = true := decide_eq_true c39
          clear c39
          (first | rw [c39b0] | (simp only [i64_w, i32_w]; rw [c39b0]) | skip)
          by_cases c40 : t170 = 0
          ·rw [if_pos c40] at H
           have c40b0 : (t170 == 0) = true := beq_iff_eq.mpr c40
           have c40b1 : (t170 != 0) = false := bne_eq_false_iff_eq.mpr c40
           clear c40
           have H' := Aside0.mk H
           clear H
           go_wp2
           go_meet
           case rel => exact ⟨_, ((t171 != 0)), (by first | rfl | (simp; done) | (simp [*]; done)), H', ⟨by have := HJ8.out; have := HK2.out; first | omega | exact Nat.le_refl _⟩, ⟨by (with_reducible repeat (first | apply Kd.R_alloc | apply Kd.R_drewN | apply Kd.R_drew)); exact HO_10.out⟩, ⟨by repeat (first | (with_reducible first | exact HB.out | apply below_alloc | apply pw_below_drewN | apply below_drew1) | exact HB.out)⟩⟩
          ·rw [if_neg c40] at H
           have c40b0 : (t170 == 0) = false := beq_eq_false_iff_ne.mpr c40
           have c40b1 : (t170 != 0) = true := bne_iff_ne.mpr c40
           have H' := Aside0.mk H
           clear H
           go_wp2
           go_meet
           case rel => exact ⟨_, (true), (by first | rfl | (simp; done) | (simp [*]; done)), H', ⟨by have := HJ8.out; have := HK2.out; first | omega | exact Nat.le_refl _⟩, ⟨by (with_reducible repeat (first | apply Kd.R_alloc | apply Kd.R_drewN | apply Kd.R_drew)); exact HO_10.out⟩, ⟨by repeat (first | (with_reducible first | exact HB.out | apply below_alloc | apply pw_below_drewN | apply below_drew1) | exact HB.out)⟩⟩
         ·rw [if_neg c39] at H
          have c39b0 : decide (a1 < 0) = false := decide_eq_false c39
          clear c39
          (first | rw [c39b0] | (simp only [i64_w, i32_w]; rw [c39b0]) | skip)
          by_cases c41 : a1 > (t161.size : Int)
          ·rw [if_pos c41] at H
           have c41b0 : decide ((t161.size : Int) < a1) = true := decide_eq_true c41
           clear c41
           by_cases c42 : t170 = 0
           ·rw [if_pos c42] at H
            have c42b0 : (t170 == 0) = true := beq_iff_eq.mpr c42
            have c42b1 : (t170 != 0) = false := bne_eq_false_iff_eq.mpr c42
            clear c42
            have H' := Aside0.mk H
            clear H
            go_wp2
            go_meet
            case rel => exact ⟨_, ((t171 != 0)), (by first | rfl | (simp; done) | (simp [*]; done)), H', ⟨by have := HJ8.out; have := HK2.out; first | omega | exact Nat.le_refl _⟩, ⟨by (with_reducible repeat (first | apply Kd.R_alloc | apply Kd.R_drewN | apply Kd.R_drew)); exact HO_10.out⟩, ⟨by repeat (first | (with_reducible first | exact HB.out | apply below_alloc | apply pw_below_drewN | apply below_drew1) | exact HB.out)⟩⟩
           ·rw [if_neg c42] at H
            have c42b0 : (t170 == 0) = false := beq_eq_false_iff_ne.mpr c42
            have c42b1 : (t170 != 0) = true := bne_iff_ne.mpr c42
            have H' := Aside0.mk H
            clear H
            go_wp2
            go_meet
            case rel => exact ⟨_, (true), (by first | rfl | (simp; done) | (simp [*]; done)), H', ⟨by have := HJ8.out; have := HK2.out; first | omega | exact Nat.le_refl _⟩, ⟨by (with_reducible repeat (first | apply Kd.R_alloc | apply Kd.R_drewN | apply Kd.R_drew)); exact HO_10.out⟩, ⟨by repeat (first | (with_reducible first | exact HB.out | apply below_alloc | apply pw_below_drewN | apply below_drew1) | exact HB.out)⟩⟩
          ·rw [if_neg c41] at H
           have c41b0 : decide ((t161.size : Int) < a1) = false := decide_eq_false c41
           clear c41
           have H' := Aside0.mk H
           clear H
           go_wp2
           go_meet
           case rel => exact ⟨_, (false), (by first | rfl | (simp; done) | (simp [*]; done)), H', ⟨by have := HJ8.out; have := HK2.out; first | omega | exact Nat.le_refl _⟩, ⟨by (with_reducible repeat (first | apply Kd.R_alloc | apply Kd.R_drewN | apply Kd.R_drew)); exact HO_10.out⟩, ⟨by repeat (first | (with_reducible first | exact HB.out | apply below_alloc | apply pw_below_drewN | apply below_drew1) | exact HB.out)⟩⟩
        case rest =>
         clear HC37
         try clear c1
         try clear p1
         try clear q1
         try clear hx1
         try clear qi1
         try clear c2
         try clear p2
         try clear q2
         try clear hx2
         try clear c3
         try clear c4
         try clear c6
         try clear p6
         try clear c7
         try clear c8
         try clear c9
         try clear c10
         try clear c12
         try clear c12b0
         try clear c12b1
         try clear c14
         try clear c14b0
         try clear c14b1
         try clear c16
         try clear p16
         try clear q16
         try clear hx16
         try clear qi16
         try clear c17
         try clear c17b0
         try clear c21
         try clear c21b0
         try clear c21b1
         try clear c22
         try clear c22b0
         try clear c22b1
         try clear c25
         try clear c27
         try clear c27b0
         try clear c28
         try clear c28b0
         try clear p29
         try clear q29
         try clear hx29
         try clear c30
         try clear c31
         try clear c31b0
         try clear c32
         try clear c32b0
         try clear c33
         try clear c33b0
         try clear c34
         try clear c34b0
         try clear c34b1
         try clear c39
         try clear c39b0
         try clear c40
         try clear c40b0
         try clear c40b1
         try clear c41
         try clear c41b0
         try clear c42
         try clear c42b0
         try clear c42b1
         try clear hx165_0
         try clear hx169_0
         try clear p1
         try clear p16
         try clear p165
         try clear p169
         try clear p2
         try clear p29
         try clear p6
         try clear q1
         try clear q16
         try clear q165
         try clear q169
         try clear q2
         try clear q29
         obtain ⟨kq, x111_36, rfl, HA, HJ36, HO_10, HB⟩ := hcut
         cases kq with
         | zero => exact absurd HA.out (by simp [recensionlaw7_LinesAll.j4])
         | succ kj36 =>
          have H := HA.out
          clear HA
          simp only [recensionlaw7_LinesAll.j4] at H
          by_cases c43 : x111_36 = true
          ·subst c43
           have H1 : (some false) = some r := by rw [if_pos rfl] at H; exact H
           clear H
           have H := H1
           clear H1
           exact absurd (H.trans (congrArg some hrt.out)) (by simp)
          ·replace c43 := Bool.eq_false_iff.mpr c43
           subst c43
           have H1 : ((lines_At.f kj36 t161 a2 a3).bind fun t172 => (if t172 ≥ 0 then ((lines_Of.f kj36 t161 t172).bind fun bt173 => (if bt173.1 = a2 then (if bt173.2 = a3 then (some (x11_2 == (t162.length : Int))) else (some false)) else (some false))) else (some (x11_2 == (t162.length : Int))))) = some r := by rw [if_neg (show ¬ (false = true) by decide)] at H; exact H
           clear H
           have H := H1
           clear H1
           replace H := Option.bind_eq_some_iff.mp H
           obtain ⟨t172, A440, H⟩ := H
           replace H : (if t172 ≥ 0 then ((lines_Of.f kj36 t161 t172).bind fun bt173 => (if bt173.1 = a2 then (if bt173.2 = a3 then (some (x11_2 == (t162.length : Int))) else (some false)) else (some false))) else (some (x11_2 == (t162.length : Int)))) = some r := H
           have A44 := Aside0.mk A440
           clear A440
           by_cases c45 : t172 ≥ 0
           ·rw [if_pos c45] at H
            have c45b0 : decide (0 ≤ t172) = true := decide_eq_true c45
            clear c45
            replace H := Option.bind_eq_some_iff.mp H
            obtain ⟨⟨t173, t174⟩, A460, H⟩ := H
            replace H : (if t173 = a2 then (if t174 = a3 then (some (x11_2 == (t162.length : Int))) else (some false)) else (some false)) = some r := H
            have A46 := Aside0.mk A460
            clear A460
            by_cases c47 : t173 = a2
            ·rw [if_pos c47] at H
             have c47b0 : (t173 == a2) = true := beq_iff_eq.mpr c47
             have c47b1 : (t173 != a2) = false := bne_eq_false_iff_eq.mpr c47
             clear c47
             by_cases c48 : t174 = a3
             ·rw [if_pos c48] at H
              have c48b0 : (t174 == a3) = true := beq_iff_eq.mpr c48
              have c48b1 : (t174 != a3) = false := bne_eq_false_iff_eq.mpr c48
              clear c48
              obtain rfl := Option.some.inj H
              go_wp2_with (first | ((with_reducible refine gate_callee (f := 11) rfl ?_); refine goesL_ (some 115) rfl rfl Tryd.func11 (by kernel_rfl) rfl #[.string t161, .int .i64 a2, .int .i64 a3] rfl (by (try simp only [List.map_toArray, List.map_cons, List.map_nil]); first | done | rfl | (simp only [List.length_drop, List.length_take]; rfl) | (simp only [wrap64_wl, wrap64_wr]; rfl)) ?_; (with_reducible refine (lines_At.calls kj36 t161 a2 a3 t172 _ A44.out).mono ?_); rintro e w49 ⟨rfl, hb⟩; refine ⟨_, rfl, ?_⟩; have n0_ := Aside0.mk (Kd.R_below (by (with_reducible repeat (first | apply Kd.R_alloc | apply Kd.R_drewN | apply Kd.R_drew)); exact HO_10.out) hb); have n1_ := Aside0.mk (below_step (by repeat (first | (with_reducible first | exact HB.out | apply below_alloc | apply pw_below_drewN | apply below_drew1) | exact HB.out)) hb); clear HO_10; clear HB; have HO_10 := n0_; have HB := n1_; clear n0_ n1_; (try clear hb); (try clear hb2); (try clear hk); (try clear hi)) | ((with_reducible refine gate_callee (f := 10) rfl ?_); refine goesL_ (some 121) rfl rfl Tryd.func10 (by kernel_rfl) rfl #[.string t161, .int .i64 t172] rfl (by (try simp only [List.map_toArray, List.map_cons, List.map_nil]); first | done | rfl | (simp only [List.length_drop, List.length_take]; rfl) | (simp only [wrap64_wl, wrap64_wr]; rfl)) ?_; (with_reducible refine (lines_Of.calls kj36 t161 t172 t173 t174 _ A46.out).mono ?_); rintro e w50 ⟨rfl, hb⟩; refine ⟨_, rfl, ?_⟩; have n0_ := Aside0.mk (Kd.R_below (by (with_reducible repeat (first | apply Kd.R_alloc | apply Kd.R_drewN | apply Kd.R_drew)); exact HO_10.out) hb); have n1_ := Aside0.mk (below_step (by repeat (first | (with_reducible first | exact HB.out | apply below_alloc | apply pw_below_drewN | apply below_drew1) | exact HB.out)) hb); clear HO_10; clear HB; have HO_10 := n0_; have HB := n1_; clear n0_ n1_; (try clear hb); (try clear hb2); (try clear hk); (try clear hi); obtain ⟨Ao51, co51, eo51⟩ := Kd.R_slice HO_10.out; subst eo51))
              go_ret
              exact ⟨by first | rfl | (simp [errW_none, errW_some] <;> rfl) | (simp [*, errW_none, errW_some] <;> rfl), by repeat (first | (with_reducible first | exact HB.out | apply below_alloc | apply pw_below_drewN | apply below_drew1) | exact HB.out)⟩
             ·rw [if_neg c48] at H
              have c48b0 : (t174 == a3) = false := beq_eq_false_iff_ne.mpr c48
              have c48b1 : (t174 != a3) = true := bne_iff_ne.mpr c48
              exact absurd (H.trans (congrArg some hrt.out)) (by simp)
            ·rw [if_neg c47] at H
             have c47b0 : (t173 == a2) = false := beq_eq_false_iff_ne.mpr c47
             have c47b1 : (t173 != a2) = true := bne_iff_ne.mpr c47
             exact absurd (H.trans (congrArg some hrt.out)) (by simp)
           ·rw [if_neg c45] at H
            have c45b0 : decide (0 ≤ t172) = false := decide_eq_false c45
            clear c45
            obtain rfl := Option.some.inj H
            go_wp2_with (first | ((with_reducible refine gate_callee (f := 11) rfl ?_); refine goesL_ (some 115) rfl rfl Tryd.func11 (by kernel_rfl) rfl #[.string t161, .int .i64 a2, .int .i64 a3] rfl (by (try simp only [List.map_toArray, List.map_cons, List.map_nil]); first | done | rfl | (simp only [List.length_drop, List.length_take]; rfl) | (simp only [wrap64_wl, wrap64_wr]; rfl)) ?_; (with_reducible refine (lines_At.calls kj36 t161 a2 a3 t172 _ A44.out).mono ?_); rintro e w52 ⟨rfl, hb⟩; refine ⟨_, rfl, ?_⟩; have n0_ := Aside0.mk (Kd.R_below (by (with_reducible repeat (first | apply Kd.R_alloc | apply Kd.R_drewN | apply Kd.R_drew)); exact HO_10.out) hb); have n1_ := Aside0.mk (below_step (by repeat (first | (with_reducible first | exact HB.out | apply below_alloc | apply pw_below_drewN | apply below_drew1) | exact HB.out)) hb); clear HO_10; clear HB; have HO_10 := n0_; have HB := n1_; clear n0_ n1_; (try clear hb); (try clear hb2); (try clear hk); (try clear hi); obtain ⟨Ao53, co53, eo53⟩ := Kd.R_slice HO_10.out; subst eo53))
            go_ret
            exact ⟨by first | rfl | (simp [errW_none, errW_some] <;> rfl) | (simp [*, errW_none, errW_some] <;> rfl), by repeat (first | (with_reducible first | exact HB.out | apply below_alloc | apply pw_below_drewN | apply below_drew1) | exact HB.out)⟩
 ·replace c6 := Bool.eq_false_iff.mpr c6
  subst c6
  have H1 : (some false) = some r := by rw [if_neg (show ¬ (false = true) by decide)] at H; exact H
  clear H
  have H := H1
  clear H1
  exact absurd (H.trans (congrArg some hrt.out)) (by simp)

/-- THE ONE PURE STATEMENT of recensionlaw7_LinesAll: yours. -/
def recensionlaw7_LinesAll.Pure : Prop := ∀ (a0 : ByteArray) (a1 : Int) (a2 : Int) (a3 : Int), a0.size ≤ 140737488351232 → (Lit.int .i64 a1).wf = true → (Lit.int .i64 a2).wf = true → (Lit.int .i64 a3).wf = true → ∃ k, recensionlaw7_LinesAll.f k a0 a1 a2 a3 = some true
theorem recensionlaw7_LinesAll.walk (P : recensionlaw7_LinesAll.Pure) (a0 : ByteArray) (a1 : Int) (a2 : Int) (a3 : Int) (w : World) (w0 : a0.size ≤ 140737488351232) (w1 : (Lit.int .i64 a1).wf = true) (w2 : (Lit.int .i64 a2).wf = true) (w3 : (Lit.int .i64 a3).wf = true) :
  Calls Tryd.prog 3 #[.string a0, .int .i64 a1, .int .i64 a2, .int .i64 a3] w fun e w' => e = .returned (.bool true) ∧ Below w.heap.size w w' := by
 obtain ⟨k, h⟩ := P a0 a1 a2 a3 w0 w1 w2 w3
 refine (recensionlaw7_LinesAll.calls k a0 a1 a2 a3 true w ⟨rfl⟩ h).mono ?_
 rintro e w' ⟨rfl, hd⟩
 exact ⟨rfl, hd⟩

end Go.Proofs.YthioodhmfclinaaDoor.PLinesAll
