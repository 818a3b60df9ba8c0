-- Written by myprint.py (the prover's own turn of the printer); not trusted: Lean checks it.
import Derived.Test.YtohhnblaoihgbaaDoorPScanx0
import Derived.Test.YtohhnblaoihgbaaDoorPScanx6
namespace Go.Proofs.YtohhnblaoihgbaaDoor.PScan
open Go.RowKit Go.Proofs.YtohhnblaoihgbaaDoorW.PrintWords Go.Proofs.YtohhnblaoihgbaaDoorW.PrintLast Go.Proofs.YtohhnblaoihgbaaDoorW.PrintMore
attribute [local go_sem] str_leq op_leq op_gtr op_geq max2_int min2_int max_two min_two max_three min_three max_four min_four   -- for this text's walks alone
set_option linter.unusedVariables false
set_option linter.unusedSimpArgs false

/-! ### recensionlaw6_ScanNumbers: function 11 -/
mutual
def recensionlaw6_ScanNumbers.j0 : Nat → Int → Int → Int → Bool → Option (Bool)
 | 0, _, _, _, _ => none
 | k + 1, x0, x1, x2, x26 => if x26 = true then (some true) else (recensionlaw6_ScanNumbers.l0 k x0 x1 x2 (⟨#[]⟩ : ByteArray) 0)
def recensionlaw6_ScanNumbers.l0 : Nat → Int → Int → Int → ByteArray → Int → Option (Bool)
 | 0, _, _, _, _, _ => none
 | k + 1, x0, x1, x2, x8, x9 => if x9 < x0 then ((some (([(48 + x1) % 256] : List Int) : List Int)).bind fun y296 => (if x8.size + (strOfNums y296).size ≤ 9223372036854775807 then (recensionlaw6_ScanNumbers.l0 k x0 x1 x2 (x8 ++ (strOfNums y296)) (wrap64 (x9 + 1))) else (none))) else ((scan_Scan.f x8).bind fun bt299 => (if x0 ≤ 12 then (if x0 = 1 then (if ((bt299.2.2 == (-1)) != true) = true then (some false) else (if 1 + x8.size ≤ 9223372036854775807 then ((some (([(97 + (Int.tmod x2 26)) % 256] : List Int) : List Int)).bind fun y306 => (if ((⟨#[43]⟩ : ByteArray) ++ x8).size + (strOfNums y306).size ≤ 9223372036854775807 then ((scan_Scan.f (((⟨#[43]⟩ : ByteArray) ++ x8) ++ (strOfNums y306))).bind fun bt309 => (some (bt309.2.2 == 1))) else (none))) else (none))) else (if ((bt299.2.2 == (-1)) != (x1 != 0)) = true then (some false) else (if x1 = 0 then (if bt299.2.2 = 0 then (if 1 + x8.size ≤ 9223372036854775807 then ((some (([(97 + (Int.tmod x2 26)) % 256] : List Int) : List Int)).bind fun y316 => (if ((⟨#[43]⟩ : ByteArray) ++ x8).size + (strOfNums y316).size ≤ 9223372036854775807 then ((scan_Scan.f (((⟨#[43]⟩ : ByteArray) ++ x8) ++ (strOfNums y316))).bind fun bt319 => (some (bt319.2.2 == 1))) else (none))) else (none)) else (some false)) else (if 1 + x8.size ≤ 9223372036854775807 then ((some (([(97 + (Int.tmod x2 26)) % 256] : List Int) : List Int)).bind fun y326 => (if ((⟨#[43]⟩ : ByteArray) ++ x8).size + (strOfNums y326).size ≤ 9223372036854775807 then ((scan_Scan.f (((⟨#[43]⟩ : ByteArray) ++ x8) ++ (strOfNums y326))).bind fun bt329 => (some (bt329.2.2 == 1))) else (none))) else (none))))) else (if ((bt299.2.2 == (-1)) != false) = true then (some false) else (if bt299.2.2 = 0 then (if 1 + x8.size ≤ 9223372036854775807 then ((some (([(97 + (Int.tmod x2 26)) % 256] : List Int) : List Int)).bind fun y336 => (if ((⟨#[43]⟩ : ByteArray) ++ x8).size + (strOfNums y336).size ≤ 9223372036854775807 then ((scan_Scan.f (((⟨#[43]⟩ : ByteArray) ++ x8) ++ (strOfNums y336))).bind fun bt339 => (some (bt339.2.2 == 1))) else (none))) else (none)) else (some false)))))
end
def recensionlaw6_ScanNumbers.f (k : Nat) (a0 : Int) (a1 : Int) (a2 : Int) : Option (Bool) := (recensionlaw6_begun.f).bind fun t295 => (if t295 = true then (if a0 < 1 then (recensionlaw6_ScanNumbers.j0 k a0 a1 a2 true) else (if a0 > 20 then (recensionlaw6_ScanNumbers.j0 k a0 a1 a2 true) else (recensionlaw6_ScanNumbers.j0 k a0 a1 a2 (decide (a1 > 9))))) else (some false))
theorem recensionlaw6_ScanNumbers.mono_l : ∀ k, (∀ y0 y1 y2 y3, LeO (recensionlaw6_ScanNumbers.j0 k y0 y1 y2 y3) (recensionlaw6_ScanNumbers.j0 (k + 1) y0 y1 y2 y3)) ∧ (∀ y0 y1 y2 y3 y4, LeO (recensionlaw6_ScanNumbers.l0 k y0 y1 y2 y3 y4) (recensionlaw6_ScanNumbers.l0 (k + 1) y0 y1 y2 y3 y4))
 | 0 => ⟨fun _ _ _ _ r h => by simp [recensionlaw6_ScanNumbers.j0] at h, fun _ _ _ _ _ r h => by simp [recensionlaw6_ScanNumbers.l0] at h⟩
 | k + 1 => by
  obtain ⟨ih0, ih1⟩ := recensionlaw6_ScanNumbers.mono_l k
  refine ⟨?_, ?_⟩
  ·intro y0 y1 y2 y3
   unfold recensionlaw6_ScanNumbers.j0
   repeat' first
   | (with_reducible exact ih0 _ _ _ _)
   | (with_reducible exact ih1 _ _ _ _ _)
   | (with_reducible exact LeO.refl _)
   | (with_reducible exact LeO.none _)
   | (with_reducible refine LeO.ite ?_ ?_)
   | (with_reducible refine LeO.bind ?_ (fun _ => ?_))
   | exact ih0 _ _ _ _
   | exact ih1 _ _ _ _ _
   | exact LeO.none _
   | refine LeO.ite ?_ ?_
   | refine LeO.bind ?_ (fun _ => ?_)
  ·intro y0 y1 y2 y3 y4
   unfold recensionlaw6_ScanNumbers.l0
   repeat' first
   | (with_reducible exact ih0 _ _ _ _)
   | (with_reducible exact ih1 _ _ _ _ _)
   | (with_reducible exact LeO.refl _)
   | (with_reducible exact LeO.none _)
   | (with_reducible refine LeO.ite ?_ ?_)
   | (with_reducible refine LeO.bind ?_ (fun _ => ?_))
   | exact ih0 _ _ _ _
   | exact ih1 _ _ _ _ _
   | exact LeO.none _
   | refine LeO.ite ?_ ?_
   | refine LeO.bind ?_ (fun _ => ?_)
theorem recensionlaw6_ScanNumbers.mono : ∀ a0 a1 a2 k, LeO (recensionlaw6_ScanNumbers.f k a0 a1 a2) (recensionlaw6_ScanNumbers.f (k + 1) a0 a1 a2) := by
 intro a0 a1 a2 k
 obtain ⟨ih0, ih1⟩ := recensionlaw6_ScanNumbers.mono_l k
 unfold recensionlaw6_ScanNumbers.f
 repeat' first
   | (with_reducible exact ih0 _ _ _ _)
   | (with_reducible exact ih1 _ _ _ _ _)
   | (with_reducible exact LeO.refl _)
   | (with_reducible exact LeO.none _)
   | (with_reducible refine LeO.ite ?_ ?_)
   | (with_reducible refine LeO.bind ?_ (fun _ => ?_))
   | exact ih0 _ _ _ _
   | exact ih1 _ _ _ _ _
   | exact LeO.none _
   | refine LeO.ite ?_ ?_
   | refine LeO.bind ?_ (fun _ => ?_)
set_option maxHeartbeats 8000000 in
set_option maxRecDepth 100000 in
theorem recensionlaw6_ScanNumbers.calls (k : Nat) (a0 : Int) (a1 : Int) (a2 : Int) (r : Bool) (w : World) (hrt : Aside0 (r = true)) (hT : Aside0 (Tabs w)) (h : recensionlaw6_ScanNumbers.f k a0 a1 a2 = some r) :
  Calls Tryd.prog 11 #[.int .i64 a0, .int .u8 a1, .int .u8 a2] w fun e w' => e = .returned (.bool r) ∧ Below w.heap.size w w' := by
 have HB := Aside0.mk (Below.refl w.heap.size w)
 have H : ((recensionlaw6_begun.f).bind fun t295 => (if t295 = true then (if a0 < 1 then (recensionlaw6_ScanNumbers.j0 k a0 a1 a2 true) else (if a0 > 20 then (recensionlaw6_ScanNumbers.j0 k a0 a1 a2 true) else (recensionlaw6_ScanNumbers.j0 k a0 a1 a2 (decide (a1 > 9))))) else (some false))) = some r := h
 clear h
 replace H := Option.bind_eq_some_iff.mp H
 obtain ⟨t295, A40, H⟩ := H
 replace H : (if t295 = true then (if a0 < 1 then (recensionlaw6_ScanNumbers.j0 k a0 a1 a2 true) else (if a0 > 20 then (recensionlaw6_ScanNumbers.j0 k a0 a1 a2 true) else (recensionlaw6_ScanNumbers.j0 k a0 a1 a2 (decide (a1 > 9))))) else (some false)) = some r := H
 have A4 := Aside0.mk A40
 clear A40
 by_cases c5 : t295 = true
 ·subst c5
  have H1 : (if a0 < 1 then (recensionlaw6_ScanNumbers.j0 k a0 a1 a2 true) else (if a0 > 20 then (recensionlaw6_ScanNumbers.j0 k a0 a1 a2 true) else (recensionlaw6_ScanNumbers.j0 k a0 a1 a2 (decide (a1 > 9))))) = some r := by rw [if_pos rfl] at H; exact H
  clear H
  have H := H1
  clear H1
  have HC6 := Aside0.mk H
  clear H
  go_enter Tryd.func11, Tryd.ntmps11
  go_upto_region 4 with (first | ((with_reducible refine gate_callee (f := 13) rfl ?_); refine goesL_ (some 14) rfl rfl Tryd.func13 (by kernel_rfl) rfl #[] rfl (by (try simp only [List.map_toArray, List.map_cons, List.map_nil]); first | done | rfl | (simp only [List.length_drop, List.length_take]; rfl) | (simp only [wrap64_wl, wrap64_wr]; rfl)) ?_; (with_reducible refine (recensionlaw6_begun.calls  true _ (Aside0.mk (tabs_at hT.out (by repeat (first | (with_reducible first | exact HB.out | apply below_alloc | apply pw_below_drewN | apply below_drew1) | exact HB.out)))) A4.out).mono ?_); rintro e w7 ⟨rfl, hb⟩; refine ⟨_, rfl, ?_⟩; have n0_ := Aside0.mk (below_step (by repeat (first | (with_reducible first | exact HB.out | apply below_alloc | apply pw_below_drewN | apply below_drew1) | exact HB.out)) hb); clear HB; have HB := n0_; clear n0_; (try clear hb); (try clear hb2); (try clear hk); (try clear hi)))
  (try simp only [Act.put, List.setIfInBounds_toArray, List.set_cons_zero, List.set_cons_succ])
  go_cut [26] (fun v26 wc => ∃ (kq : Nat) (x26_5 : Bool), v26 = .bool x26_5 ∧ Aside0 (recensionlaw6_ScanNumbers.j0 kq a0 a1 a2 x26_5 = some r) ∧ Aside0 (kq ≤ k) ∧ Aside0 (Below w.heap.size w wc))
  case first =>
   have H := HC6.out
   clear HC6
   by_cases c8 : a0 < 1
   ·rw [if_pos c8] at H
    have c8b0 : decide (a0 < 1) = true := decide_eq_true c8
    clear c8
    (first | rw [c8b0] | (simp only [i64_w, i32_w]; rw [c8b0]) | skip)
    have H' := Aside0.mk H
    clear H
    go_wp2
    go_meet
    case rel => exact ⟨_, (true), (by first | rfl | (simp; done) | (simp [*]; done)), H', ⟨by first | omega | exact Nat.le_refl _⟩, ⟨by repeat (first | (with_reducible first | exact HB.out | apply below_alloc | apply pw_below_drewN | apply below_drew1) | exact HB.out)⟩⟩
   ·rw [if_neg c8] at H
    have c8b0 : decide (a0 < 1) = false := decide_eq_false c8
    clear c8
    (first | rw [c8b0] | (simp only [i64_w, i32_w]; rw [c8b0]) | skip)
    by_cases c9 : a0 > 20
    ·rw [if_pos c9] at H
     have c9b0 : decide (20 < a0) = true := decide_eq_true c9
     clear c9
     have H' := Aside0.mk H
     clear H
     go_wp2
     go_meet
     case rel => exact ⟨_, (true), (by first | rfl | (simp; done) | (simp [*]; done)), H', ⟨by first | omega | exact Nat.le_refl _⟩, ⟨by repeat (first | (with_reducible first | exact HB.out | apply below_alloc | apply pw_below_drewN | apply below_drew1) | exact HB.out)⟩⟩
    ·rw [if_neg c9] at H
     have c9b0 : decide (20 < a0) = false := decide_eq_false c9
     clear c9
     have H' := Aside0.mk H
     clear H
     go_wp2
     go_meet
     case rel => exact ⟨_, (decide (a1 > 9)), (by first | rfl | (simp; done) | (simp [*]; done)), H', ⟨by first | omega | exact Nat.le_refl _⟩, ⟨by repeat (first | (with_reducible first | exact HB.out | apply below_alloc | apply pw_below_drewN | apply below_drew1) | exact HB.out)⟩⟩
  case rest =>
   clear HC6
   try clear c1
   try clear p2
   try clear c5
   try clear p6
   try clear c8
   try clear c8b0
   try clear c9
   try clear c9b0
   obtain ⟨kq, x26_5, rfl, HA, HJ5, HB⟩ := hcut
   cases kq with
   | zero => exact absurd HA.out (by simp [recensionlaw6_ScanNumbers.j0])
   | succ kj5 =>
    have H := HA.out
    clear HA
    simp only [recensionlaw6_ScanNumbers.j0] at H
    by_cases c10 : x26_5 = true
    ·subst c10
     have H1 : (some true) = some r := by rw [if_pos rfl] at H; exact H
     clear H
     have H := H1
     clear H1
     obtain rfl := Option.some.inj H
     go_wp2
     go_ret
     exact ⟨by first | rfl | (simp [errW_none, errW_some] <;> rfl) | (simp [*, errW_none, errW_some] <;> rfl), by repeat (first | (with_reducible first | exact HB.out | apply below_alloc | apply pw_below_drewN | apply below_drew1) | exact HB.out)⟩
    ·replace c10 := Bool.eq_false_iff.mpr c10
     subst c10
     have H1 : (recensionlaw6_ScanNumbers.l0 kj5 a0 a1 a2 (⟨#[]⟩ : ByteArray) 0) = some r := by rw [if_neg (show ¬ (false = true) by decide)] at H; exact H
     clear H
     have H := H1
     clear H1
     have H' := Aside0.mk H
     clear H
     go_wp2
     go_loopg [8, 9] kj5 (fun kq v8 v9 w' => ∃ (x8_2 : ByteArray) (x9_2 : Int), v8 = .string x8_2 ∧ v9 = .int .i64 x9_2 ∧ Aside0 (recensionlaw6_ScanNumbers.l0 kq a0 a1 a2 x8_2 x9_2 = some r) ∧ Aside0 (kq ≤ kj5) ∧ Aside0 (Below w.heap.size w w'))
     case atStart => exact ⟨((⟨#[]⟩ : ByteArray)), (0), (by first | rfl | (simp; done) | (simp [*]; done)), (by first | rfl | (simp; done) | (simp [*]; done)), H', ⟨Nat.le_refl _⟩, ⟨by repeat (first | (with_reducible first | exact HB.out | apply below_alloc | apply pw_below_drewN | apply below_drew1) | exact HB.out)⟩⟩
     case round =>
      clear H'
      try clear c1
      try clear p2
      try clear c5
      try clear p6
      try clear c8
      try clear c8b0
      try clear c9
      try clear c9b0
      try clear c10
      try clear p2
      try clear p6
      obtain ⟨x8_2, x9_2, rfl, rfl, HA, HK2, HB⟩ := hrel
      cases gk with
      | zero => exact absurd HA.out (by simp [recensionlaw6_ScanNumbers.l0])
      | succ k2 =>
       have H := HA.out
       clear HA
       simp only [recensionlaw6_ScanNumbers.l0] at H
       by_cases c11 : x9_2 < a0
       ·rw [if_pos c11] at H
        have c11b0 : decide (x9_2 < a0) = true := decide_eq_true c11
        clear c11
        obtain ⟨y296, hy296⟩ : ∃ y_ : List Int, y_ = (([(48 + a1) % 256] : List Int)) := ⟨_, rfl⟩
        replace H : (if x8_2.size + (strOfNums y296).size ≤ 9223372036854775807 then (recensionlaw6_ScanNumbers.l0 k2 a0 a1 a2 (x8_2 ++ (strOfNums y296)) (wrap64 (x9_2 + 1))) else (none)) = some r := by first | (rw [hy296]; with_reducible exact H) | (have H2_ := (Option.bind_some _ _).symm.trans H; rw [hy296]; with_reducible exact H2_) | (have H2_ := (Option.bind_some _ _).symm.trans H; with_reducible exact H2_) | with_reducible exact H | (rw [hy296]; exact H) | exact H
        have Ny296 := Aside0.mk hy296
        clear hy296
        by_cases c12 : x8_2.size + (strOfNums y296).size ≤ 9223372036854775807
        ·rw [if_pos c12] at H
         have c12b0 := eq_true c12
         have c12b1 : decide (x8_2.size + (strOfNums y296).size ≤ 9223372036854775807) = true := decide_eq_true c12
         try have c12b2 : (9223372036854775807 < x8_2.size + (strOfNums y296).size) = False := eq_false (Nat.not_lt.2 c12)
         have H' := Aside0.mk H
         clear H
         go_wp2_with (first | ((with_reducible refine gate_dst (N := 35) rfl ?_); refine Kd.R_lit (Kd.int .u8) _ 5 ?hg (N := 35) ?hd (xs := ([(48 + a1) % 256] : List Int)) (inner := [.int .u8 ((48 + a1) % 256)]) (ok := fun _ => True) (okp := fun _ => True) ?hr ?hp (fun _ hk => hk) trivial (Below.refl _ _) (Nat.le_refl _) (by simp) ?_; (case hd => rfl); (case hg => rfl); (case hr => first | (go_simp; done) | (go_simp; rfl)); (case hp => exact (Reps.one (show Kd.M (Kd.int .u8) _ _ _ ((48 + a1) % 256) [.int .u8 ((48 + a1) % 256)] from rfl) (Reps.none _ _))); intro v297 w13 ho14 hb hg_ hnew_; clear hg_ hnew_; (first | rw [← Ny296.out] at ho14 | (simp only [Int.reduceToNat] at ho14; rw [← Ny296.out] at ho14)); have n0_ := Aside0.mk (Kd.R_lower ho14 (below_size (by repeat (first | (with_reducible first | exact HB.out | apply below_alloc | apply pw_below_drewN | apply below_drew1) | exact HB.out)))); have n1_ := Aside0.mk (below_step (by repeat (first | (with_reducible first | exact HB.out | apply below_alloc | apply pw_below_drewN | apply below_drew1) | exact HB.out)) hb); clear HB; have HO298 := n0_; have HB := n1_; clear n0_ n1_; clear hb ho14; have hcv15 := own_string (P := Tryd.prog) Tryd.underlying23 Tryd.underlying5 Tryd.underlying9 (Kd.own_of_R HO298.out); have hcv16 := fun nd_ : Nat => own_string (P := Tryd.prog) Tryd.underlying23 Tryd.underlying5 Tryd.underlying9 (Kd.own_of_R (Kd.R_drewN HO298.out nd_))))
         go_roundg k2
         case measure => have := HJ5.out; have := HK2.out; omega
         case rel => exact ⟨(x8_2 ++ (strOfNums y296)), (wrap64 (x9_2 + 1)), (by first | rfl | (simp; done) | (simp [*]; done)), (by first | rfl | (simp; done) | (simp [*]; done)), H', ⟨by have := HJ5.out; have := HK2.out; omega⟩, ⟨by repeat (first | (with_reducible first | exact HB.out | apply below_alloc | apply pw_below_drewN | apply below_drew1) | exact HB.out)⟩⟩
        ·rw [if_neg c12] at H
         exact absurd H (by simp)
       ·rw [if_neg c11] at H
        have c11b0 : decide (x9_2 < a0) = false := decide_eq_false c11
        clear c11
        replace H := Option.bind_eq_some_iff.mp H
        obtain ⟨⟨t299, t300, t301⟩, A170, H⟩ := H
        replace H : (if a0 ≤ 12 then (if a0 = 1 then (if ((t301 == (-1)) != true) = true then (some false) else (if 1 + x8_2.size ≤ 9223372036854775807 then ((some (([(97 + (Int.tmod a2 26)) % 256] : List Int) : List Int)).bind fun y306 => (if ((⟨#[43]⟩ : ByteArray) ++ x8_2).size + (strOfNums y306).size ≤ 9223372036854775807 then ((scan_Scan.f (((⟨#[43]⟩ : ByteArray) ++ x8_2) ++ (strOfNums y306))).bind fun bt309 => (some (bt309.2.2 == 1))) else (none))) else (none))) else (if ((t301 == (-1)) != (a1 != 0)) = true then (some false) else (if a1 = 0 then (if t301 = 0 then (if 1 + x8_2.size ≤ 9223372036854775807 then ((some (([(97 + (Int.tmod a2 26)) % 256] : List Int) : List Int)).bind fun y316 => (if ((⟨#[43]⟩ : ByteArray) ++ x8_2).size + (strOfNums y316).size ≤ 9223372036854775807 then ((scan_Scan.f (((⟨#[43]⟩ : ByteArray) ++ x8_2) ++ (strOfNums y316))).bind fun bt319 => (some (bt319.2.2 == 1))) else (none))) else (none)) else (some false)) else (if 1 + x8_2.size ≤ 9223372036854775807 then ((some (([(97 + (Int.tmod a2 26)) % 256] : List Int) : List Int)).bind fun y326 => (if ((⟨#[43]⟩ : ByteArray) ++ x8_2).size + (strOfNums y326).size ≤ 9223372036854775807 then ((scan_Scan.f (((⟨#[43]⟩ : ByteArray) ++ x8_2) ++ (strOfNums y326))).bind fun bt329 => (some (bt329.2.2 == 1))) else (none))) else (none))))) else (if ((t301 == (-1)) != false) = true then (some false) else (if t301 = 0 then (if 1 + x8_2.size ≤ 9223372036854775807 then ((some (([(97 + (Int.tmod a2 26)) % 256] : List Int) : List Int)).bind fun y336 => (if ((⟨#[43]⟩ : ByteArray) ++ x8_2).size + (strOfNums y336).size ≤ 9223372036854775807 then ((scan_Scan.f (((⟨#[43]⟩ : ByteArray) ++ x8_2) ++ (strOfNums y336))).bind fun bt339 => (some (bt339.2.2 == 1))) else (none))) else (none)) else (some false)))) = some r := H
        have A17 := Aside0.mk A170
        clear A170
        by_cases c18 : a0 ≤ 12
        ·rw [if_pos c18] at H
         have c18b0 : decide (a0 ≤ 12) = true := decide_eq_true c18
         clear c18
         by_cases c19 : a0 = 1
         ·rw [if_pos c19] at H
          have c19b0 : (a0 == 1) = true := beq_iff_eq.mpr c19
          have c19b1 : (a0 != 1) = false := bne_eq_false_iff_eq.mpr c19
          clear c19
          by_cases c20 : ((t301 == (-1)) != true) = true
          ·rw [if_pos c20] at H
           have c20b0 : ((t301 == (-1)) != true) = true := c20
           (try (have zc20a : (t301 == (-1)) = false := by simpa using c20b0))
           (try (have zc20b : (t301 != (-1)) = true := by simpa using c20b0))
           (try (have c20b1 : decide ((t301 == (-1)) = true) = false := by simpa using c20))
           (try (have c20b2 : ((t301 == (-1)) == true) = false := by simpa using c20))
           (try (have c20b3 : ¬ ((t301 == (-1)) = true) := by simpa using c20))
           clear c20
           exact absurd (H.trans (congrArg some hrt.out)) (by simp)
          ·rw [if_neg c20] at H
           have c20b0 : ((t301 == (-1)) != true) = false := by simpa using c20
           (try (have zc20a : (t301 == (-1)) = true := by simpa using c20b0))
           (try (have zc20b : (t301 != (-1)) = false := by simpa using c20b0))
           (try (have c20b1 : decide ((t301 == (-1)) = true) = true := by simpa using c20))
           (try (have c20b2 : ((t301 == (-1)) == true) = true := by simpa using c20))
           clear c20
           by_cases c21 : 1 + x8_2.size ≤ 9223372036854775807
           ·rw [if_pos c21] at H
            have c21b0 := eq_true c21
            have c21b1 : decide (1 + x8_2.size ≤ 9223372036854775807) = true := decide_eq_true c21
            try have c21b2 : (9223372036854775807 < 1 + x8_2.size) = False := eq_false (Nat.not_lt.2 c21)
            obtain ⟨y306, hy306⟩ : ∃ y_ : List Int, y_ = (([(97 + (Int.tmod a2 26)) % 256] : List Int)) := ⟨_, rfl⟩
            replace H : (if ((⟨#[43]⟩ : ByteArray) ++ x8_2).size + (strOfNums y306).size ≤ 9223372036854775807 then ((scan_Scan.f (((⟨#[43]⟩ : ByteArray) ++ x8_2) ++ (strOfNums y306))).bind fun bt309 => (some (bt309.2.2 == 1))) else (none)) = some r := by first | (rw [hy306]; with_reducible exact H) | (have H2_ := (Option.bind_some _ _).symm.trans H; rw [hy306]; with_reducible exact H2_) | (have H2_ := (Option.bind_some _ _).symm.trans H; with_reducible exact H2_) | with_reducible exact H | (rw [hy306]; exact H) | exact H
            have Ny306 := Aside0.mk hy306
            clear hy306
            by_cases c22 : ((⟨#[43]⟩ : ByteArray) ++ x8_2).size + (strOfNums y306).size ≤ 9223372036854775807
            ·rw [if_pos c22] at H
             have c22b0 := eq_true c22
             have c22b1 : decide (((⟨#[43]⟩ : ByteArray) ++ x8_2).size + (strOfNums y306).size ≤ 9223372036854775807) = true := decide_eq_true c22
             try have c22b2 : (9223372036854775807 < ((⟨#[43]⟩ : ByteArray) ++ x8_2).size + (strOfNums y306).size) = False := eq_false (Nat.not_lt.2 c22)
             (try (have c22b2z := c22b2; simp only [ByteArray.size_append, show (⟨#[43]⟩ : ByteArray).size = 1 from rfl] at c22b2z))
             replace H := Option.bind_eq_some_iff.mp H
             obtain ⟨⟨t309, t310, t311⟩, A230, H⟩ := H
             replace H : (some (t311 == 1)) = some r := H
             have A23 := Aside0.mk A230
             clear A230
             obtain rfl := Option.some.inj H
             go_wp2_with (first | ((with_reducible refine gate_callee (f := 14) rfl ?_); refine goesL_ (some 40) rfl rfl Tryd.func14 (by kernel_rfl) rfl #[.string x8_2] rfl (by (try simp only [List.map_toArray, List.map_cons, List.map_nil]); first | done | rfl | (simp only [List.length_drop, List.length_take]; rfl) | (simp only [wrap64_wl, wrap64_wr]; rfl)) ?_; (with_reducible refine (scan_Scan.calls x8_2 t299 t300 t301 _ (Aside0.mk (tabs_at hT.out (by repeat (first | (with_reducible first | exact HB.out | apply below_alloc | apply pw_below_drewN | apply below_drew1) | exact HB.out)))) A17.out).mono ?_); rintro e w24 ⟨v302, v304, rfl, ho0, ho1, hb⟩; refine ⟨_, rfl, ?_⟩; have n0_ := Aside0.mk (Kd.R_lower ho0 (below_size (by repeat (first | (with_reducible first | exact HB.out | apply below_alloc | apply pw_below_drewN | apply below_drew1) | exact HB.out)))); have n1_ := Aside0.mk (Kd.R_lower ho1 (below_size (by repeat (first | (with_reducible first | exact HB.out | apply below_alloc | apply pw_below_drewN | apply below_drew1) | exact HB.out)))); have n2_ := Aside0.mk (below_step (by repeat (first | (with_reducible first | exact HB.out | apply below_alloc | apply pw_below_drewN | apply below_drew1) | exact HB.out)) hb); clear HB; have HO303 := n0_; have HO305 := n1_; have HB := n2_; clear n0_ n1_ n2_; (try clear hb); (try clear hb2); (try clear hk); (try clear hi); (try clear ho0); (try clear ho1)) | ((with_reducible refine gate_dst (N := 72) rfl ?_); refine Kd.R_lit (Kd.int .u8) _ 5 ?hg (N := 72) ?hd (xs := ([(97 + (Int.tmod a2 26)) % 256] : List Int)) (inner := [.int .u8 ((97 + (Int.tmod a2 26)) % 256)]) (ok := fun _ => True) (okp := fun _ => True) ?hr ?hp (fun _ hk => hk) trivial (Below.refl _ _) (Nat.le_refl _) (by simp) ?_; (case hd => rfl); (case hg => rfl); (case hr => first | (go_simp; done) | (go_simp; rfl)); (case hp => exact (Reps.one (show Kd.M (Kd.int .u8) _ _ _ ((97 + (Int.tmod a2 26)) % 256) [.int .u8 ((97 + (Int.tmod a2 26)) % 256)] from rfl) (Reps.none _ _))); intro v307 w25 ho26 hb hg_ hnew_; clear hg_ hnew_; (first | rw [← Ny306.out] at ho26 | (simp only [Int.reduceToNat] at ho26; rw [← Ny306.out] at ho26)); have n0_ := Aside0.mk (Kd.R_below (by (with_reducible repeat (first | apply Kd.R_alloc | apply Kd.R_drewN | apply Kd.R_drew)); exact HO303.out) hb); have n1_ := Aside0.mk (Kd.R_below (by (with_reducible repeat (first | apply Kd.R_alloc | apply Kd.R_drewN | apply Kd.R_drew)); exact HO305.out) hb); have n2_ := Aside0.mk (Kd.R_lower ho26 (below_size (by repeat (first | (with_reducible first | exact HB.out | apply below_alloc | apply pw_below_drewN | apply below_drew1) | exact HB.out)))); have n3_ := Aside0.mk (below_step (by repeat (first | (with_reducible first | exact HB.out | apply below_alloc | apply pw_below_drewN | apply below_drew1) | exact HB.out)) hb); clear HO303; clear HO305; clear HB; have HO303 := n0_; have HO305 := n1_; have HO308 := n2_; have HB := n3_; clear n0_ n1_ n2_ n3_; clear hb ho26; have hcv27 := own_string (P := Tryd.prog) Tryd.underlying23 Tryd.underlying5 Tryd.underlying9 (Kd.own_of_R HO308.out); have hcv28 := fun nd_ : Nat => own_string (P := Tryd.prog) Tryd.underlying23 Tryd.underlying5 Tryd.underlying9 (Kd.own_of_R (Kd.R_drewN HO308.out nd_))) | ((with_reducible refine gate_callee (f := 14) rfl ?_); refine goesL_ (some 75) rfl rfl Tryd.func14 (by kernel_rfl) rfl #[.string (((⟨#[43]⟩ : ByteArray) ++ x8_2) ++ (strOfNums y306))] rfl (by (try simp only [List.map_toArray, List.map_cons, List.map_nil]); first | done | rfl | (simp only [List.length_drop, List.length_take]; rfl) | (simp only [wrap64_wl, wrap64_wr]; rfl)) ?_; (with_reducible refine (scan_Scan.calls (((⟨#[43]⟩ : ByteArray) ++ x8_2) ++ (strOfNums y306)) t309 t310 t311 _ (Aside0.mk (tabs_at hT.out (by repeat (first | (with_reducible first | exact HB.out | apply below_alloc | apply pw_below_drewN | apply below_drew1) | exact HB.out)))) A23.out).mono ?_); rintro e w29 ⟨v312, v314, rfl, ho0, ho1, hb⟩; refine ⟨_, rfl, ?_⟩; have n0_ := Aside0.mk (Kd.R_elder' (by (with_reducible repeat (first | apply Kd.R_alloc | apply Kd.R_drewN | apply Kd.R_drew)); exact HO303.out) (Kd.R_base ho0) hb); have n1_ := Aside0.mk (Kd.R_elder' (by (with_reducible repeat (first | apply Kd.R_alloc | apply Kd.R_drewN | apply Kd.R_drew)); exact HO305.out) (Kd.R_base ho1) hb); have n2_ := Aside0.mk (Kd.R_below (by (with_reducible repeat (first | apply Kd.R_alloc | apply Kd.R_drewN | apply Kd.R_drew)); exact HO308.out) hb); have n3_ := Aside0.mk (Kd.R_lower (Kd.R_new' ho0 (Kd.R_lt (by (with_reducible repeat (first | apply Kd.R_alloc | apply Kd.R_drewN | apply Kd.R_drew)); exact HO303.out))) (below_size (by repeat (first | (with_reducible first | exact HB.out | apply below_alloc | apply pw_below_drewN | apply below_drew1) | exact HB.out)))); have n4_ := Aside0.mk (Kd.R_lower (Kd.R_new' ho1 (Kd.R_lt (by (with_reducible repeat (first | apply Kd.R_alloc | apply Kd.R_drewN | apply Kd.R_drew)); exact HO305.out))) (below_size (by repeat (first | (with_reducible first | exact HB.out | apply below_alloc | apply pw_below_drewN | apply below_drew1) | exact HB.out)))); have n5_ := Aside0.mk (below_step (by repeat (first | (with_reducible first | exact HB.out | apply below_alloc | apply pw_below_drewN | apply below_drew1) | exact HB.out)) hb); clear HO303; clear HO305; clear HO308; clear HB; have HO303 := n0_; have HO305 := n1_; have HO308 := n2_; have HO313 := n3_; have HO315 := n4_; have HB := n5_; clear n0_ n1_ n2_ n3_ n4_ n5_; (try clear hb); (try clear hb2); (try clear hk); (try clear hi); (try clear ho0); (try clear ho1)))
             go_ret
             exact ⟨by first | rfl | (simp [errW_none, errW_some] <;> rfl) | (simp [*, errW_none, errW_some] <;> rfl), by repeat (first | (with_reducible first | exact HB.out | apply below_alloc | apply pw_below_drewN | apply below_drew1) | exact HB.out)⟩
            ·rw [if_neg c22] at H
             exact absurd H (by simp)
           ·rw [if_neg c21] at H
            exact absurd H (by simp)
         ·rw [if_neg c19] at H
          have c19b0 : (a0 == 1) = false := beq_eq_false_iff_ne.mpr c19
          have c19b1 : (a0 != 1) = true := bne_iff_ne.mpr c19
          by_cases c30 : ((t301 == (-1)) != (a1 != 0)) = true
          ·rw [if_pos c30] at H
           have c30b0 : ((t301 == (-1)) != (a1 != 0)) = true := c30
           (try (have c30b1 : decide ((t301 == (-1)) = (a1 != 0)) = false := by simpa using c30))
           (try (have c30b2 : ((t301 == (-1)) == (a1 != 0)) = false := by simpa using c30))
           (try (have c30b3 : ¬ ((t301 == (-1)) = (a1 != 0)) := by simpa using c30))
           clear c30
           exact absurd (H.trans (congrArg some hrt.out)) (by simp)
          ·rw [if_neg c30] at H
           have c30b0 : ((t301 == (-1)) != (a1 != 0)) = false := by simpa using c30
           (try (have c30b1 : decide ((t301 == (-1)) = (a1 != 0)) = true := by simpa using c30))
           (try (have c30b2 : ((t301 == (-1)) == (a1 != 0)) = true := by simpa using c30))
           clear c30
           by_cases c31 : a1 = 0
           ·rw [if_pos c31] at H
            have c31b0 : (a1 == 0) = true := beq_iff_eq.mpr c31
            have c31b1 : (a1 != 0) = false := bne_eq_false_iff_eq.mpr c31
            (try (have zc31a : (t301 == (-1)) = false := by have q_ := c30b0; rw [c31b1] at q_; simpa using q_))
            (try (have zc31b : (t301 != (-1)) = true := by simpa using zc31a))
            clear c31
            by_cases c32 : t301 = 0
            ·rw [if_pos c32] at H
             have c32b0 : (t301 == 0) = true := beq_iff_eq.mpr c32
             have c32b1 : (t301 != 0) = false := bne_eq_false_iff_eq.mpr c32
             clear c32
             by_cases c33 : 1 + x8_2.size ≤ 9223372036854775807
             ·rw [if_pos c33] at H
              have c33b0 := eq_true c33
              have c33b1 : decide (1 + x8_2.size ≤ 9223372036854775807) = true := decide_eq_true c33
              try have c33b2 : (9223372036854775807 < 1 + x8_2.size) = False := eq_false (Nat.not_lt.2 c33)
              obtain ⟨y316, hy316⟩ : ∃ y_ : List Int, y_ = (([(97 + (Int.tmod a2 26)) % 256] : List Int)) := ⟨_, rfl⟩
              replace H : (if ((⟨#[43]⟩ : ByteArray) ++ x8_2).size + (strOfNums y316).size ≤ 9223372036854775807 then ((scan_Scan.f (((⟨#[43]⟩ : ByteArray) ++ x8_2) ++ (strOfNums y316))).bind fun bt319 => (some (bt319.2.2 == 1))) else (none)) = some r := by first | (rw [hy316]; with_reducible exact H) | (have H2_ := (Option.bind_some _ _).symm.trans H; rw [hy316]; with_reducible exact H2_) | (have H2_ := (Option.bind_some _ _).symm.trans H; with_reducible exact H2_) | with_reducible exact H | (rw [hy316]; exact H) | exact H
              have Ny316 := Aside0.mk hy316
              clear hy316
              by_cases c34 : ((⟨#[43]⟩ : ByteArray) ++ x8_2).size + (strOfNums y316).size ≤ 9223372036854775807
              ·rw [if_pos c34] at H
               have c34b0 := eq_true c34
               have c34b1 : decide (((⟨#[43]⟩ : ByteArray) ++ x8_2).size + (strOfNums y316).size ≤ 9223372036854775807) = true := decide_eq_true c34
               try have c34b2 : (9223372036854775807 < ((⟨#[43]⟩ : ByteArray) ++ x8_2).size + (strOfNums y316).size) = False := eq_false (Nat.not_lt.2 c34)
               (try (have c34b2z := c34b2; simp only [ByteArray.size_append, show (⟨#[43]⟩ : ByteArray).size = 1 from rfl] at c34b2z))
               replace H := Option.bind_eq_some_iff.mp H
               obtain ⟨⟨t319, t320, t321⟩, A350, H⟩ := H
               replace H : (some (t321 == 1)) = some r := H
               have A35 := Aside0.mk A350
               clear A350
               obtain rfl := Option.some.inj H
               go_wp2_with (first | ((with_reducible refine gate_callee (f := 14) rfl ?_); refine goesL_ (some 40) rfl rfl Tryd.func14 (by kernel_rfl) rfl #[.string x8_2] rfl (by (try simp only [List.map_toArray, List.map_cons, List.map_nil]); first | done | rfl | (simp only [List.length_drop, List.length_take]; rfl) | (simp only [wrap64_wl, wrap64_wr]; rfl)) ?_; (with_reducible refine (scan_Scan.calls x8_2 t299 t300 t301 _ (Aside0.mk (tabs_at hT.out (by repeat (first | (with_reducible first | exact HB.out | apply below_alloc | apply pw_below_drewN | apply below_drew1) | exact HB.out)))) A17.out).mono ?_); rintro e w36 ⟨v302, v304, rfl, ho0, ho1, hb⟩; refine ⟨_, rfl, ?_⟩; have n0_ := Aside0.mk (Kd.R_lower ho0 (below_size (by repeat (first | (with_reducible first | exact HB.out | apply below_alloc | apply pw_below_drewN | apply below_drew1) | exact HB.out)))); have n1_ := Aside0.mk (Kd.R_lower ho1 (below_size (by repeat (first | (with_reducible first | exact HB.out | apply below_alloc | apply pw_below_drewN | apply below_drew1) | exact HB.out)))); have n2_ := Aside0.mk (below_step (by repeat (first | (with_reducible first | exact HB.out | apply below_alloc | apply pw_below_drewN | apply below_drew1) | exact HB.out)) hb); clear HB; have HO303 := n0_; have HO305 := n1_; have HB := n2_; clear n0_ n1_ n2_; (try clear hb); (try clear hb2); (try clear hk); (try clear hi); (try clear ho0); (try clear ho1)) | ((with_reducible refine gate_dst (N := 72) rfl ?_); refine Kd.R_lit (Kd.int .u8) _ 5 ?hg (N := 72) ?hd (xs := ([(97 + (Int.tmod a2 26)) % 256] : List Int)) (inner := [.int .u8 ((97 + (Int.tmod a2 26)) % 256)]) (ok := fun _ => True) (okp := fun _ => True) ?hr ?hp (fun _ hk => hk) trivial (Below.refl _ _) (Nat.le_refl _) (by simp) ?_; (case hd => rfl); (case hg => rfl); (case hr => first | (go_simp; done) | (go_simp; rfl)); (case hp => exact (Reps.one (show Kd.M (Kd.int .u8) _ _ _ ((97 + (Int.tmod a2 26)) % 256) [.int .u8 ((97 + (Int.tmod a2 26)) % 256)] from rfl) (Reps.none _ _))); intro v317 w37 ho38 hb hg_ hnew_; clear hg_ hnew_; (first | rw [← Ny316.out] at ho38 | (simp only [Int.reduceToNat] at ho38; rw [← Ny316.out] at ho38)); have n0_ := Aside0.mk (Kd.R_below (by (with_reducible repeat (first | apply Kd.R_alloc | apply Kd.R_drewN | apply Kd.R_drew)); exact HO303.out) hb); have n1_ := Aside0.mk (Kd.R_below (by (with_reducible repeat (first | apply Kd.R_alloc | apply Kd.R_drewN | apply Kd.R_drew)); exact HO305.out) hb); have n2_ := Aside0.mk (Kd.R_lower ho38 (below_size (by repeat (first | (with_reducible first | exact HB.out | apply below_alloc | apply pw_below_drewN | apply below_drew1) | exact HB.out)))); have n3_ := Aside0.mk (below_step (by repeat (first | (with_reducible first | exact HB.out | apply below_alloc | apply pw_below_drewN | apply below_drew1) | exact HB.out)) hb); clear HO303; clear HO305; clear HB; have HO303 := n0_; have HO305 := n1_; have HO318 := n2_; have HB := n3_; clear n0_ n1_ n2_ n3_; clear hb ho38; have hcv39 := own_string (P := Tryd.prog) Tryd.underlying23 Tryd.underlying5 Tryd.underlying9 (Kd.own_of_R HO318.out); have hcv40 := fun nd_ : Nat => own_string (P := Tryd.prog) Tryd.underlying23 Tryd.underlying5 Tryd.underlying9 (Kd.own_of_R (Kd.R_drewN HO318.out nd_))) | ((with_reducible refine gate_callee (f := 14) rfl ?_); refine goesL_ (some 75) rfl rfl Tryd.func14 (by kernel_rfl) rfl #[.string (((⟨#[43]⟩ : ByteArray) ++ x8_2) ++ (strOfNums y316))] rfl (by (try simp only [List.map_toArray, List.map_cons, List.map_nil]); first | done | rfl | (simp only [List.length_drop, List.length_take]; rfl) | (simp only [wrap64_wl, wrap64_wr]; rfl)) ?_; (with_reducible refine (scan_Scan.calls (((⟨#[43]⟩ : ByteArray) ++ x8_2) ++ (strOfNums y316)) t319 t320 t321 _ (Aside0.mk (tabs_at hT.out (by repeat (first | (with_reducible first | exact HB.out | apply below_alloc | apply pw_below_drewN | apply below_drew1) | exact HB.out)))) A35.out).mono ?_); rintro e w41 ⟨v322, v324, rfl, ho0, ho1, hb⟩; refine ⟨_, rfl, ?_⟩; have n0_ := Aside0.mk (Kd.R_elder' (by (with_reducible repeat (first | apply Kd.R_alloc | apply Kd.R_drewN | apply Kd.R_drew)); exact HO303.out) (Kd.R_base ho0) hb); have n1_ := Aside0.mk (Kd.R_elder' (by (with_reducible repeat (first | apply Kd.R_alloc | apply Kd.R_drewN | apply Kd.R_drew)); exact HO305.out) (Kd.R_base ho1) hb); have n2_ := Aside0.mk (Kd.R_below (by (with_reducible repeat (first | apply Kd.R_alloc | apply Kd.R_drewN | apply Kd.R_drew)); exact HO318.out) hb); have n3_ := Aside0.mk (Kd.R_lower (Kd.R_new' ho0 (Kd.R_lt (by (with_reducible repeat (first | apply Kd.R_alloc | apply Kd.R_drewN | apply Kd.R_drew)); exact HO303.out))) (below_size (by repeat (first | (with_reducible first | exact HB.out | apply below_alloc | apply pw_below_drewN | apply below_drew1) | exact HB.out)))); have n4_ := Aside0.mk (Kd.R_lower (Kd.R_new' ho1 (Kd.R_lt (by (with_reducible repeat (first | apply Kd.R_alloc | apply Kd.R_drewN | apply Kd.R_drew)); exact HO305.out))) (below_size (by repeat (first | (with_reducible first | exact HB.out | apply below_alloc | apply pw_below_drewN | apply below_drew1) | exact HB.out)))); have n5_ := Aside0.mk (below_step (by repeat (first | (with_reducible first | exact HB.out | apply below_alloc | apply pw_below_drewN | apply below_drew1) | exact HB.out)) hb); clear HO303; clear HO305; clear HO318; clear HB; have HO303 := n0_; have HO305 := n1_; have HO318 := n2_; have HO323 := n3_; have HO325 := n4_; have HB := n5_; clear n0_ n1_ n2_ n3_ n4_ n5_; (try clear hb); (try clear hb2); (try clear hk); (try clear hi); (try clear ho0); (try clear ho1)))
               go_ret
               exact ⟨by first | rfl | (simp [errW_none, errW_some] <;> rfl) | (simp [*, errW_none, errW_some] <;> rfl), by repeat (first | (with_reducible first | exact HB.out | apply below_alloc | apply pw_below_drewN | apply below_drew1) | exact HB.out)⟩
              ·rw [if_neg c34] at H
               exact absurd H (by simp)
             ·rw [if_neg c33] at H
              exact absurd H (by simp)
            ·rw [if_neg c32] at H
             have c32b0 : (t301 == 0) = false := beq_eq_false_iff_ne.mpr c32
             have c32b1 : (t301 != 0) = true := bne_iff_ne.mpr c32
             exact absurd (H.trans (congrArg some hrt.out)) (by simp)
           ·rw [if_neg c31] at H
            have c31b0 : (a1 == 0) = false := beq_eq_false_iff_ne.mpr c31
            have c31b1 : (a1 != 0) = true := bne_iff_ne.mpr c31
            (try (have zc31a : (t301 == (-1)) = true := by have q_ := c30b0; rw [c31b1] at q_; simpa using q_))
            (try (have zc31b : (t301 != (-1)) = false := by simpa using zc31a))
            by_cases c42 : 1 + x8_2.size ≤ 9223372036854775807
            ·rw [if_pos c42] at H
             have c42b0 := eq_true c42
             have c42b1 : decide (1 + x8_2.size ≤ 9223372036854775807) = true := decide_eq_true c42
             try have c42b2 : (9223372036854775807 < 1 + x8_2.size) = False := eq_false (Nat.not_lt.2 c42)
             obtain ⟨y326, hy326⟩ : ∃ y_ : List Int, y_ = (([(97 + (Int.tmod a2 26)) % 256] : List Int)) := ⟨_, rfl⟩
             replace H : (if ((⟨#[43]⟩ : ByteArray) ++ x8_2).size + (strOfNums y326).size ≤ 9223372036854775807 then ((scan_Scan.f (((⟨#[43]⟩ : ByteArray) ++ x8_2) ++ (strOfNums y326))).bind fun bt329 => (some (bt329.2.2 == 1))) else (none)) = some r := by first | (rw [hy326]; with_reducible exact H) | (have H2_ := (Option.bind_some _ _).symm.trans H; rw [hy326]; with_reducible exact H2_) | (have H2_ := (Option.bind_some _ _).symm.trans H; with_reducible exact H2_) | with_reducible exact H | (rw [hy326]; exact H) | exact H
             have Ny326 := Aside0.mk hy326
             clear hy326
             by_cases c43 : ((⟨#[43]⟩ : ByteArray) ++ x8_2).size + (strOfNums y326).size ≤ 9223372036854775807
             ·rw [if_pos c43] at H
              have c43b0 := eq_true c43
              have c43b1 : decide (((⟨#[43]⟩ : ByteArray) ++ x8_2).size + (strOfNums y326).size ≤ 9223372036854775807) = true := decide_eq_true c43
              try have c43b2 : (9223372036854775807 < ((⟨#[43]⟩ : ByteArray) ++ x8_2).size + (strOfNums y326).size) = False := eq_false (Nat.not_lt.2 c43)
              (try (have c43b2z := c43b2; simp only [ByteArray.size_append, show (⟨#[43]⟩ : ByteArray).size = 1 from rfl] at c43b2z))
              replace H := Option.bind_eq_some_iff.mp H
              obtain ⟨⟨t329, t330, t331⟩, A440, H⟩ := H
              replace H : (some (t331 == 1)) = some r := H
              have A44 := Aside0.mk A440
              clear A440
              obtain rfl := Option.some.inj H
              go_wp2_with (first | ((with_reducible refine gate_callee (f := 14) rfl ?_); refine goesL_ (some 40) rfl rfl Tryd.func14 (by kernel_rfl) rfl #[.string x8_2] rfl (by (try simp only [List.map_toArray, List.map_cons, List.map_nil]); first | done | rfl | (simp only [List.length_drop, List.length_take]; rfl) | (simp only [wrap64_wl, wrap64_wr]; rfl)) ?_; (with_reducible refine (scan_Scan.calls x8_2 t299 t300 t301 _ (Aside0.mk (tabs_at hT.out (by repeat (first | (with_reducible first | exact HB.out | apply below_alloc | apply pw_below_drewN | apply below_drew1) | exact HB.out)))) A17.out).mono ?_); rintro e w45 ⟨v302, v304, rfl, ho0, ho1, hb⟩; refine ⟨_, rfl, ?_⟩; have n0_ := Aside0.mk (Kd.R_lower ho0 (below_size (by repeat (first | (with_reducible first | exact HB.out | apply below_alloc | apply pw_below_drewN | apply below_drew1) | exact HB.out)))); have n1_ := Aside0.mk (Kd.R_lower ho1 (below_size (by repeat (first | (with_reducible first | exact HB.out | apply below_alloc | apply pw_below_drewN | apply below_drew1) | exact HB.out)))); have n2_ := Aside0.mk (below_step (by repeat (first | (with_reducible first | exact HB.out | apply below_alloc | apply pw_below_drewN | apply below_drew1) | exact HB.out)) hb); clear HB; have HO303 := n0_; have HO305 := n1_; have HB := n2_; clear n0_ n1_ n2_; (try clear hb); (try clear hb2); (try clear hk); (try clear hi); (try clear ho0); (try clear ho1)) | ((with_reducible refine gate_dst (N := 72) rfl ?_); refine Kd.R_lit (Kd.int .u8) _ 5 ?hg (N := 72) ?hd (xs := ([(97 + (Int.tmod a2 26)) % 256] : List Int)) (inner := [.int .u8 ((97 + (Int.tmod a2 26)) % 256)]) (ok := fun _ => True) (okp := fun _ => True) ?hr ?hp (fun _ hk => hk) trivial (Below.refl _ _) (Nat.le_refl _) (by simp) ?_; (case hd => rfl); (case hg => rfl); (case hr => first | (go_simp; done) | (go_simp; rfl)); (case hp => exact (Reps.one (show Kd.M (Kd.int .u8) _ _ _ ((97 + (Int.tmod a2 26)) % 256) [.int .u8 ((97 + (Int.tmod a2 26)) % 256)] from rfl) (Reps.none _ _))); intro v327 w46 ho47 hb hg_ hnew_; clear hg_ hnew_; (first | rw [← Ny326.out] at ho47 | (simp only [Int.reduceToNat] at ho47; rw [← Ny326.out] at ho47)); have n0_ := Aside0.mk (Kd.R_below (by (with_reducible repeat (first | apply Kd.R_alloc | apply Kd.R_drewN | apply Kd.R_drew)); exact HO303.out) hb); have n1_ := Aside0.mk (Kd.R_below (by (with_reducible repeat (first | apply Kd.R_alloc | apply Kd.R_drewN | apply Kd.R_drew)); exact HO305.out) hb); have n2_ := Aside0.mk (Kd.R_lower ho47 (below_size (by repeat (first | (with_reducible first | exact HB.out | apply below_alloc | apply pw_below_drewN | apply below_drew1) | exact HB.out)))); have n3_ := Aside0.mk (below_step (by repeat (first | (with_reducible first | exact HB.out | apply below_alloc | apply pw_below_drewN | apply below_drew1) | exact HB.out)) hb); clear HO303; clear HO305; clear HB; have HO303 := n0_; have HO305 := n1_; have HO328 := n2_; have HB := n3_; clear n0_ n1_ n2_ n3_; clear hb ho47; have hcv48 := own_string (P := Tryd.prog) Tryd.underlying23 Tryd.underlying5 Tryd.underlying9 (Kd.own_of_R HO328.out); have hcv49 := fun nd_ : Nat => own_string (P := Tryd.prog) Tryd.underlying23 Tryd.underlying5 Tryd.underlying9 (Kd.own_of_R (Kd.R_drewN HO328.out nd_))) | ((with_reducible refine gate_callee (f := 14) rfl ?_); refine goesL_ (some 75) rfl rfl Tryd.func14 (by kernel_rfl) rfl #[.string (((⟨#[43]⟩ : ByteArray) ++ x8_2) ++ (strOfNums y326))] rfl (by (try simp only [List.map_toArray, List.map_cons, List.map_nil]); first | done | rfl | (simp only [List.length_drop, List.length_take]; rfl) | (simp only [wrap64_wl, wrap64_wr]; rfl)) ?_; (with_reducible refine (scan_Scan.calls (((⟨#[43]⟩ : ByteArray) ++ x8_2) ++ (strOfNums y326)) t329 t330 t331 _ (Aside0.mk (tabs_at hT.out (by repeat (first | (with_reducible first | exact HB.out | apply below_alloc | apply pw_below_drewN | apply below_drew1) | exact HB.out)))) A44.out).mono ?_); rintro e w50 ⟨v332, v334, rfl, ho0, ho1, hb⟩; refine ⟨_, rfl, ?_⟩; have n0_ := Aside0.mk (Kd.R_elder' (by (with_reducible repeat (first | apply Kd.R_alloc | apply Kd.R_drewN | apply Kd.R_drew)); exact HO303.out) (Kd.R_base ho0) hb); have n1_ := Aside0.mk (Kd.R_elder' (by (with_reducible repeat (first | apply Kd.R_alloc | apply Kd.R_drewN | apply Kd.R_drew)); exact HO305.out) (Kd.R_base ho1) hb); have n2_ := Aside0.mk (Kd.R_below (by (with_reducible repeat (first | apply Kd.R_alloc | apply Kd.R_drewN | apply Kd.R_drew)); exact HO328.out) hb); have n3_ := Aside0.mk (Kd.R_lower (Kd.R_new' ho0 (Kd.R_lt (by (with_reducible repeat (first | apply Kd.R_alloc | apply Kd.R_drewN | apply Kd.R_drew)); exact HO303.out))) (below_size (by repeat (first | (with_reducible first | exact HB.out | apply below_alloc | apply pw_below_drewN | apply below_drew1) | exact HB.out)))); have n4_ := Aside0.mk (Kd.R_lower (Kd.R_new' ho1 (Kd.R_lt (by (with_reducible repeat (first | apply Kd.R_alloc | apply Kd.R_drewN | apply Kd.R_drew)); exact HO305.out))) (below_size (by repeat (first | (with_reducible first | exact HB.out | apply below_alloc | apply pw_below_drewN | apply below_drew1) | exact HB.out)))); have n5_ := Aside0.mk (below_step (by repeat (first | (with_reducible first | exact HB.out | apply below_alloc | apply pw_below_drewN | apply below_drew1) | exact HB.out)) hb); clear HO303; clear HO305; clear HO328; clear HB; have HO303 := n0_; have HO305 := n1_; have HO328 := n2_; have HO333 := n3_; have HO335 := n4_; have HB := n5_; clear n0_ n1_ n2_ n3_ n4_ n5_; (try clear hb); (try clear hb2); (try clear hk); (try clear hi); (try clear ho0); (try clear ho1)))
              go_ret
              exact ⟨by first | rfl | (simp [errW_none, errW_some] <;> rfl) | (simp [*, errW_none, errW_some] <;> rfl), by repeat (first | (with_reducible first | exact HB.out | apply below_alloc | apply pw_below_drewN | apply below_drew1) | exact HB.out)⟩
             ·rw [if_neg c43] at H
              exact absurd H (by simp)
            ·rw [if_neg c42] at H
             exact absurd H (by simp)
        ·rw [if_neg c18] at H
         have c18b0 : decide (a0 ≤ 12) = false := decide_eq_false c18
         clear c18
         by_cases c51 : ((t301 == (-1)) != false) = true
         ·rw [if_pos c51] at H
          have c51b0 : ((t301 == (-1)) != false) = true := c51
          (try (have zc51a : (t301 == (-1)) = true := by simpa using c51b0))
          (try (have zc51b : (t301 != (-1)) = false := by simpa using c51b0))
          (try (have c51b1 : decide ((t301 == (-1)) = false) = false := by simpa using c51))
          (try (have c51b2 : ((t301 == (-1)) == false) = false := by simpa using c51))
          (try (have c51b3 : ¬ ((t301 == (-1)) = false) := by simpa using c51))
          clear c51
          exact absurd (H.trans (congrArg some hrt.out)) (by simp)
         ·rw [if_neg c51] at H
          have c51b0 : ((t301 == (-1)) != false) = false := by simpa using c51
          (try (have zc51a : (t301 == (-1)) = false := by simpa using c51b0))
          (try (have zc51b : (t301 != (-1)) = true := by simpa using c51b0))
          (try (have c51b1 : decide ((t301 == (-1)) = false) = true := by simpa using c51))
          (try (have c51b2 : ((t301 == (-1)) == false) = true := by simpa using c51))
          clear c51
          by_cases c52 : t301 = 0
          ·rw [if_pos c52] at H
           have c52b0 : (t301 == 0) = true := beq_iff_eq.mpr c52
           have c52b1 : (t301 != 0) = false := bne_eq_false_iff_eq.mpr c52
           clear c52
           by_cases c53 : 1 + x8_2.size ≤ 9223372036854775807
           ·rw [if_pos c53] at H
            have c53b0 := eq_true c53
            have c53b1 : decide (1 + x8_2.size ≤ 9223372036854775807) = true := decide_eq_true c53
            try have c53b2 : (9223372036854775807 < 1 + x8_2.size) = False := eq_false (Nat.not_lt.2 c53)
            obtain ⟨y336, hy336⟩ : ∃ y_ : List Int, y_ = (([(97 + (Int.tmod a2 26)) % 256] : List Int)) := ⟨_, rfl⟩
            replace H : (if ((⟨#[43]⟩ : ByteArray) ++ x8_2).size + (strOfNums y336).size ≤ 9223372036854775807 then ((scan_Scan.f (((⟨#[43]⟩ : ByteArray) ++ x8_2) ++ (strOfNums y336))).bind fun bt339 => (some (bt339.2.2 == 1))) else (none)) = some r := by first | (rw [hy336]; with_reducible exact H) | (have H2_ := (Option.bind_some _ _).symm.trans H; rw [hy336]; with_reducible exact H2_) | (have H2_ := (Option.bind_some _ _).symm.trans H; with_reducible exact H2_) | with_reducible exact H | (rw [hy336]; exact H) | exact H
            have Ny336 := Aside0.mk hy336
            clear hy336
            by_cases c54 : ((⟨#[43]⟩ : ByteArray) ++ x8_2).size + (strOfNums y336).size ≤ 9223372036854775807
            ·rw [if_pos c54] at H
             have c54b0 := eq_true c54
             have c54b1 : decide (((⟨#[43]⟩ : ByteArray) ++ x8_2).size + (strOfNums y336).size ≤ 9223372036854775807) = true := decide_eq_true c54
             try have c54b2 : (9223372036854775807 < ((⟨#[43]⟩ : ByteArray) ++ x8_2).size + (strOfNums y336).size) = False := eq_false (Nat.not_lt.2 c54)
             (try (have c54b2z := c54b2; simp only [ByteArray.size_append, show (⟨#[43]⟩ : ByteArray).size = 1 from rfl] at c54b2z))
             replace H := Option.bind_eq_some_iff.mp H
             obtain ⟨⟨t339, t340, t341⟩, A550, H⟩ := H
             replace H : (some (t341 == 1)) = some r := H
             have A55 := Aside0.mk A550
             clear A550
             obtain rfl := Option.some.inj H
             go_wp2_with (first | ((with_reducible refine gate_callee (f := 14) rfl ?_); refine goesL_ (some 40) rfl rfl Tryd.func14 (by kernel_rfl) rfl #[.string x8_2] rfl (by (try simp only [List.map_toArray, List.map_cons, List.map_nil]); first | done | rfl | (simp only [List.length_drop, List.length_take]; rfl) | (simp only [wrap64_wl, wrap64_wr]; rfl)) ?_; (with_reducible refine (scan_Scan.calls x8_2 t299 t300 t301 _ (Aside0.mk (tabs_at hT.out (by repeat (first | (with_reducible first | exact HB.out | apply below_alloc | apply pw_below_drewN | apply below_drew1) | exact HB.out)))) A17.out).mono ?_); rintro e w56 ⟨v302, v304, rfl, ho0, ho1, hb⟩; refine ⟨_, rfl, ?_⟩; have n0_ := Aside0.mk (Kd.R_lower ho0 (below_size (by repeat (first | (with_reducible first | exact HB.out | apply below_alloc | apply pw_below_drewN | apply below_drew1) | exact HB.out)))); have n1_ := Aside0.mk (Kd.R_lower ho1 (below_size (by repeat (first | (with_reducible first | exact HB.out | apply below_alloc | apply pw_below_drewN | apply below_drew1) | exact HB.out)))); have n2_ := Aside0.mk (below_step (by repeat (first | (with_reducible first | exact HB.out | apply below_alloc | apply pw_below_drewN | apply below_drew1) | exact HB.out)) hb); clear HB; have HO303 := n0_; have HO305 := n1_; have HB := n2_; clear n0_ n1_ n2_; (try clear hb); (try clear hb2); (try clear hk); (try clear hi); (try clear ho0); (try clear ho1)) | ((with_reducible refine gate_dst (N := 72) rfl ?_); refine Kd.R_lit (Kd.int .u8) _ 5 ?hg (N := 72) ?hd (xs := ([(97 + (Int.tmod a2 26)) % 256] : List Int)) (inner := [.int .u8 ((97 + (Int.tmod a2 26)) % 256)]) (ok := fun _ => True) (okp := fun _ => True) ?hr ?hp (fun _ hk => hk) trivial (Below.refl _ _) (Nat.le_refl _) (by simp) ?_; (case hd => rfl); (case hg => rfl); (case hr => first | (go_simp; done) | (go_simp; rfl)); (case hp => exact (Reps.one (show Kd.M (Kd.int .u8) _ _ _ ((97 + (Int.tmod a2 26)) % 256) [.int .u8 ((97 + (Int.tmod a2 26)) % 256)] from rfl) (Reps.none _ _))); intro v337 w57 ho58 hb hg_ hnew_; clear hg_ hnew_; (first | rw [← Ny336.out] at ho58 | (simp only [Int.reduceToNat] at ho58; rw [← Ny336.out] at ho58)); have n0_ := Aside0.mk (Kd.R_below (by (with_reducible repeat (first | apply Kd.R_alloc | apply Kd.R_drewN | apply Kd.R_drew)); exact HO303.out) hb); have n1_ := Aside0.mk (Kd.R_below (by (with_reducible repeat (first | apply Kd.R_alloc | apply Kd.R_drewN | apply Kd.R_drew)); exact HO305.out) hb); have n2_ := Aside0.mk (Kd.R_lower ho58 (below_size (by repeat (first | (with_reducible first | exact HB.out | apply below_alloc | apply pw_below_drewN | apply below_drew1) | exact HB.out)))); have n3_ := Aside0.mk (below_step (by repeat (first | (with_reducible first | exact HB.out | apply below_alloc | apply pw_below_drewN | apply below_drew1) | exact HB.out)) hb); clear HO303; clear HO305; clear HB; have HO303 := n0_; have HO305 := n1_; have HO338 := n2_; have HB := n3_; clear n0_ n1_ n2_ n3_; clear hb ho58; have hcv59 := own_string (P := Tryd.prog) Tryd.underlying23 Tryd.underlying5 Tryd.underlying9 (Kd.own_of_R HO338.out); have hcv60 := fun nd_ : Nat => own_string (P := Tryd.prog) Tryd.underlying23 Tryd.underlying5 Tryd.underlying9 (Kd.own_of_R (Kd.R_drewN HO338.out nd_))) | ((with_reducible refine gate_callee (f := 14) rfl ?_); refine goesL_ (some 75) rfl rfl Tryd.func14 (by kernel_rfl) rfl #[.string (((⟨#[43]⟩ : ByteArray) ++ x8_2) ++ (strOfNums y336))] rfl (by (try simp only [List.map_toArray, List.map_cons, List.map_nil]); first | done | rfl | (simp only [List.length_drop, List.length_take]; rfl) | (simp only [wrap64_wl, wrap64_wr]; rfl)) ?_; (with_reducible refine (scan_Scan.calls (((⟨#[43]⟩ : ByteArray) ++ x8_2) ++ (strOfNums y336)) t339 t340 t341 _ (Aside0.mk (tabs_at hT.out (by repeat (first | (with_reducible first | exact HB.out | apply below_alloc | apply pw_below_drewN | apply below_drew1) | exact HB.out)))) A55.out).mono ?_); rintro e w61 ⟨v342, v344, rfl, ho0, ho1, hb⟩; refine ⟨_, rfl, ?_⟩; have n0_ := Aside0.mk (Kd.R_elder' (by (with_reducible repeat (first | apply Kd.R_alloc | apply Kd.R_drewN | apply Kd.R_drew)); exact HO303.out) (Kd.R_base ho0) hb); have n1_ := Aside0.mk (Kd.R_elder' (by (with_reducible repeat (first | apply Kd.R_alloc | apply Kd.R_drewN | apply Kd.R_drew)); exact HO305.out) (Kd.R_base ho1) hb); have n2_ := Aside0.mk (Kd.R_below (by (with_reducible repeat (first | apply Kd.R_alloc | apply Kd.R_drewN | apply Kd.R_drew)); exact HO338.out) hb); have n3_ := Aside0.mk (Kd.R_lower (Kd.R_new' ho0 (Kd.R_lt (by (with_reducible repeat (first | apply Kd.R_alloc | apply Kd.R_drewN | apply Kd.R_drew)); exact HO303.out))) (below_size (by repeat (first | (with_reducible first | exact HB.out | apply below_alloc | apply pw_below_drewN | apply below_drew1) | exact HB.out)))); have n4_ := Aside0.mk (Kd.R_lower (Kd.R_new' ho1 (Kd.R_lt (by (with_reducible repeat (first | apply Kd.R_alloc | apply Kd.R_drewN | apply Kd.R_drew)); exact HO305.out))) (below_size (by repeat (first | (with_reducible first | exact HB.out | apply below_alloc | apply pw_below_drewN | apply below_drew1) | exact HB.out)))); have n5_ := Aside0.mk (below_step (by repeat (first | (with_reducible first | exact HB.out | apply below_alloc | apply pw_below_drewN | apply below_drew1) | exact HB.out)) hb); clear HO303; clear HO305; clear HO338; clear HB; have HO303 := n0_; have HO305 := n1_; have HO338 := n2_; have HO343 := n3_; have HO345 := n4_; have HB := n5_; clear n0_ n1_ n2_ n3_ n4_ n5_; (try clear hb); (try clear hb2); (try clear hk); (try clear hi); (try clear ho0); (try clear ho1)))
             go_ret
             exact ⟨by first | rfl | (simp [errW_none, errW_some] <;> rfl) | (simp [*, errW_none, errW_some] <;> rfl), by repeat (first | (with_reducible first | exact HB.out | apply below_alloc | apply pw_below_drewN | apply below_drew1) | exact HB.out)⟩
            ·rw [if_neg c54] at H
             exact absurd H (by simp)
           ·rw [if_neg c53] at H
            exact absurd H (by simp)
          ·rw [if_neg c52] at H
           have c52b0 : (t301 == 0) = false := beq_eq_false_iff_ne.mpr c52
           have c52b1 : (t301 != 0) = true := bne_iff_ne.mpr c52
           exact absurd (H.trans (congrArg some hrt.out)) (by simp)
 ·replace c5 := Bool.eq_false_iff.mpr c5
  subst c5
  have H1 : (some false) = some r := by rw [if_neg (show ¬ (false = true) by decide)] at H; exact H
  clear H
  have H := H1
  clear H1
  exact absurd (H.trans (congrArg some hrt.out)) (by simp)

/-- THE ONE PURE STATEMENT of recensionlaw6_ScanNumbers: yours. -/
def recensionlaw6_ScanNumbers.Pure : Prop := ∀ (a0 : Int) (a1 : Int) (a2 : Int), (Lit.int .i64 a0).wf = true → (Lit.int .u8 a1).wf = true → (Lit.int .u8 a2).wf = true → ∃ k, recensionlaw6_ScanNumbers.f k a0 a1 a2 = some true
theorem recensionlaw6_ScanNumbers.walk (P : recensionlaw6_ScanNumbers.Pure) (a0 : Int) (a1 : Int) (a2 : Int) (w : World) (w0 : (Lit.int .i64 a0).wf = true) (w1 : (Lit.int .u8 a1).wf = true) (w2 : (Lit.int .u8 a2).wf = true) (hT : Tabs w) :
  Calls Tryd.prog 11 #[.int .i64 a0, .int .u8 a1, .int .u8 a2] w fun e w' => e = .returned (.bool true) ∧ Below w.heap.size w w' := by
 obtain ⟨k, h⟩ := P a0 a1 a2 w0 w1 w2
 refine (recensionlaw6_ScanNumbers.calls k a0 a1 a2 true w ⟨rfl⟩ ⟨hT⟩ h).mono ?_
 rintro e w' ⟨rfl, hd⟩
 exact ⟨rfl, hd⟩

/-! ### recensionlaw6_kinds: function 19 -/
def recensionlaw6_kinds.l0 : Nat → List (S29) → Int → ByteArray → Int → Option (ByteArray)
 | 0, _, _, _, _ => none
 | k + 1, x3, x5, x6, x7 => if x7 < (x3.length : Int) then (if x5 < 0 then (if 0 ≤ x7 then ((some (([(wrap64 (48 + ((rd_T29 x3 x7).f0))) % 256] : List Int) : List Int)).bind fun y354 => (if x6.size + (strOfNums y354).size ≤ 9223372036854775807 then (recensionlaw6_kinds.l0 k x3 x5 (x6 ++ (strOfNums y354)) (wrap64 (x7 + 1))) else (none))) else (none)) else (some x6)) else (some x6)
def recensionlaw6_kinds.f (k : Nat) (a0 : ByteArray) : Option (ByteArray) := (scan_Scan.f a0).bind fun bt346 => (recensionlaw6_kinds.l0 k bt346.1 bt346.2.2 (⟨#[]⟩ : ByteArray) 0)
theorem recensionlaw6_kinds.mono_l : ∀ k, (∀ y0 y1 y2 y3, LeO (recensionlaw6_kinds.l0 k y0 y1 y2 y3) (recensionlaw6_kinds.l0 (k + 1) y0 y1 y2 y3))
 | 0 => fun _ _ _ _ r h => by simp [recensionlaw6_kinds.l0] at h
 | k + 1 => by
  have ih0 := recensionlaw6_kinds.mono_l k
  ·intro y0 y1 y2 y3
   unfold recensionlaw6_kinds.l0
   repeat' first
   | (with_reducible exact ih0 _ _ _ _)
   | (with_reducible exact LeO.refl _)
   | (with_reducible exact LeO.none _)
   | (with_reducible refine LeO.ite ?_ ?_)
   | (with_reducible refine LeO.bind ?_ (fun _ => ?_))
   | exact ih0 _ _ _ _
   | exact LeO.none _
   | refine LeO.ite ?_ ?_
   | refine LeO.bind ?_ (fun _ => ?_)
theorem recensionlaw6_kinds.mono : ∀ a0 k, LeO (recensionlaw6_kinds.f k a0) (recensionlaw6_kinds.f (k + 1) a0) := by
 intro a0 k
 have ih0 := recensionlaw6_kinds.mono_l k
 unfold recensionlaw6_kinds.f
 repeat' first
   | (with_reducible exact ih0 _ _ _ _)
   | (with_reducible exact LeO.refl _)
   | (with_reducible exact LeO.none _)
   | (with_reducible refine LeO.ite ?_ ?_)
   | (with_reducible refine LeO.bind ?_ (fun _ => ?_))
   | exact ih0 _ _ _ _
   | exact LeO.none _
   | refine LeO.ite ?_ ?_
   | refine LeO.bind ?_ (fun _ => ?_)
set_option maxHeartbeats 8000000 in
set_option maxRecDepth 100000 in
theorem recensionlaw6_kinds.calls (k : Nat) (a0 : ByteArray) (r : ByteArray) (w : World) (hT : Aside0 (Tabs w)) (h : recensionlaw6_kinds.f k a0 = some r) :
  Calls Tryd.prog 19 #[.string a0] w fun e w' => e = .returned (.string r) ∧ Below w.heap.size w w' := by
 have HB := Aside0.mk (Below.refl w.heap.size w)
 have H : ((scan_Scan.f a0).bind fun bt346 => (recensionlaw6_kinds.l0 k bt346.1 bt346.2.2 (⟨#[]⟩ : ByteArray) 0)) = some r := h
 clear h
 replace H := Option.bind_eq_some_iff.mp H
 obtain ⟨⟨t346, t347, t348⟩, A20, H⟩ := H
 replace H : (recensionlaw6_kinds.l0 k t346 t348 (⟨#[]⟩ : ByteArray) 0) = some r := H
 have A2 := Aside0.mk A20
 clear A20
 have H' := Aside0.mk H
 clear H
 go_enter Tryd.func19, Tryd.ntmps19
 go_wp2_with (first | ((with_reducible refine gate_callee (f := 14) rfl ?_); refine goesL_ (some 10) rfl rfl Tryd.func14 (by kernel_rfl) rfl #[.string a0] rfl (by (try simp only [List.map_toArray, List.map_cons, List.map_nil]); first | done | rfl | (simp only [List.length_drop, List.length_take]; rfl) | (simp only [wrap64_wl, wrap64_wr]; rfl)) ?_; (with_reducible refine (scan_Scan.calls a0 t346 t347 t348 _ (Aside0.mk (tabs_at hT.out (by repeat (first | (with_reducible first | exact HB.out | apply below_alloc | apply pw_below_drewN | apply below_drew1) | exact HB.out)))) A2.out).mono ?_); rintro e w3 ⟨v349, v351, rfl, ho0, ho1, hb⟩; refine ⟨_, rfl, ?_⟩; have n0_ := Aside0.mk (Kd.R_lower ho0 (below_size (by repeat (first | (with_reducible first | exact HB.out | apply below_alloc | apply pw_below_drewN | apply below_drew1) | exact HB.out)))); have n1_ := Aside0.mk (Kd.R_lower ho1 (below_size (by repeat (first | (with_reducible first | exact HB.out | apply below_alloc | apply pw_below_drewN | apply below_drew1) | exact HB.out)))); have n2_ := Aside0.mk (below_step (by repeat (first | (with_reducible first | exact HB.out | apply below_alloc | apply pw_below_drewN | apply below_drew1) | exact HB.out)) hb); clear HB; have HO350 := n0_; have HO352 := n1_; have HB := n2_; clear n0_ n1_ n2_; (try clear hb); (try clear hb2); (try clear hk); (try clear hi); (try clear ho0); (try clear ho1)))
 go_loopg [6, 7] k (fun kq v6 v7 w' => ∃ (x6_1 : ByteArray) (x7_1 : Int), v6 = .string x6_1 ∧ v7 = .int .i64 x7_1 ∧ Aside0 (recensionlaw6_kinds.l0 kq t346 t348 x6_1 x7_1 = some r) ∧ Aside0 (kq ≤ k) ∧ Aside0 (Kd.R k29 29 w' w.heap.size (fun _ => True) v349 t346) ∧ Aside0 (Below w.heap.size w w'))
 case atStart => exact ⟨((⟨#[]⟩ : ByteArray)), (0), (by first | rfl | (simp; done) | (simp [*]; done)), (by first | rfl | (simp; done) | (simp [*]; done)), H', ⟨Nat.le_refl _⟩, ⟨by (with_reducible repeat (first | apply Kd.R_alloc | apply Kd.R_drewN | apply Kd.R_drew)); exact HO350.out⟩, ⟨by repeat (first | (with_reducible first | exact HB.out | apply below_alloc | apply pw_below_drewN | apply below_drew1) | exact HB.out)⟩⟩
 case round =>
  clear H'
  try clear c1
  try clear p2
  obtain ⟨x6_1, x7_1, rfl, rfl, HA, HK1, HO_3, HB⟩ := hrel
  cases gk with
  | zero => exact absurd HA.out (by simp [recensionlaw6_kinds.l0])
  | succ k1 =>
   have H := HA.out
   clear HA
   simp only [recensionlaw6_kinds.l0] at H
   by_cases c4 : x7_1 < (t346.length : Int)
   ·rw [if_pos c4] at H
    have c4b0 : decide (x7_1 < (t346.length : Int)) = true := decide_eq_true c4
    clear c4
    by_cases c5 : t348 < 0
    ·rw [if_pos c5] at H
     have c5b0 : decide (t348 < 0) = true := decide_eq_true c5
     clear c5
     by_cases c6 : 0 ≤ x7_1
     ·rw [if_pos c6] at H
      have c6b0 : decide (0 ≤ x7_1) = true := decide_eq_true c6
      clear c6
      obtain ⟨y354, hy354⟩ : ∃ y_ : List Int, y_ = (([(wrap64 (48 + ((rd_T29 t346 x7_1).f0))) % 256] : List Int)) := ⟨_, rfl⟩
      replace H : (if x6_1.size + (strOfNums y354).size ≤ 9223372036854775807 then (recensionlaw6_kinds.l0 k1 t346 t348 (x6_1 ++ (strOfNums y354)) (wrap64 (x7_1 + 1))) else (none)) = some r := by first | (rw [hy354]; with_reducible exact H) | (have H2_ := (Option.bind_some _ _).symm.trans H; rw [hy354]; with_reducible exact H2_) | (have H2_ := (Option.bind_some _ _).symm.trans H; with_reducible exact H2_) | with_reducible exact H | (rw [hy354]; exact H) | exact H
      have Ny354 := Aside0.mk hy354
      clear hy354
      by_cases c7 : x6_1.size + (strOfNums y354).size ≤ 9223372036854775807
      ·rw [if_pos c7] at H
       have c7b0 := eq_true c7
       have c7b1 : decide (x6_1.size + (strOfNums y354).size ≤ 9223372036854775807) = true := decide_eq_true c7
       try have c7b2 : (9223372036854775807 < x6_1.size + (strOfNums y354).size) = False := eq_false (Nat.not_lt.2 c7)
       have H' := Aside0.mk H
       clear H
       obtain ⟨Ao8, co8, eo8⟩ := Kd.R_slice HO_3.out
       subst eo8
       have p353 : 0 ≤ (x7_1 : Int) := of_decide_eq_true (by first | (with_reducible assumption) | assumption)
       have q353 : x7_1 < (t346.length : Int) := of_decide_eq_true (by first | (with_reducible assumption) | assumption)
       obtain ⟨ad353, e353, hx353_0, hx353_1, hx353_2, hx353_3, hx353_4⟩ := at_T29 (Kd.R_reads' HO_3.out).2.2 x7_1 p353 q353
       cases e353
       replace p353 := eq_true p353
       replace q353 := eq_true q353
       go_wp2_with (first | ((with_reducible refine gate_dst (N := 32) rfl ?_); refine Kd.R_lit (Kd.int .u8) _ 5 ?hg (N := 32) ?hd (xs := ([(wrap64 (48 + ((rd_T29 t346 x7_1).f0))) % 256] : List Int)) (inner := [.int .u8 ((wrap64 (48 + ((rd_T29 t346 x7_1).f0))) % 256)]) (ok := fun _ => True) (okp := fun _ => True) ?hr ?hp (fun _ hk => hk) trivial (Below.refl _ _) (Nat.le_refl _) (by simp) ?_; (case hd => rfl); (case hg => rfl); (case hr => first | (go_simp; done) | (go_simp; rfl)); (case hp => exact (Reps.one (show Kd.M (Kd.int .u8) _ _ _ ((wrap64 (48 + ((rd_T29 t346 x7_1).f0))) % 256) [.int .u8 ((wrap64 (48 + ((rd_T29 t346 x7_1).f0))) % 256)] from rfl) (Reps.none _ _))); intro v355 w9 ho10 hb hg_ hnew_; clear hg_ hnew_; (first | rw [← Ny354.out] at ho10 | (simp only [Int.reduceToNat] at ho10; rw [← Ny354.out] at ho10)); have n0_ := Aside0.mk (Kd.R_below (by (with_reducible repeat (first | apply Kd.R_alloc | apply Kd.R_drewN | apply Kd.R_drew)); exact HO_3.out) hb); have n1_ := Aside0.mk (Kd.R_lower ho10 (below_size (by repeat (first | (with_reducible first | exact HB.out | apply below_alloc | apply pw_below_drewN | apply below_drew1) | exact HB.out)))); have n2_ := Aside0.mk (below_step (by repeat (first | (with_reducible first | exact HB.out | apply below_alloc | apply pw_below_drewN | apply below_drew1) | exact HB.out)) hb); clear HO_3; clear HB; have HO_3 := n0_; have HO356 := n1_; have HB := n2_; clear n0_ n1_ n2_; clear hb ho10; have hcv11 := own_string (P := Tryd.prog) Tryd.underlying23 Tryd.underlying5 Tryd.underlying9 (Kd.own_of_R HO356.out); have hcv12 := fun nd_ : Nat => own_string (P := Tryd.prog) Tryd.underlying23 Tryd.underlying5 Tryd.underlying9 (Kd.own_of_R (Kd.R_drewN HO356.out nd_))))
       go_roundg k1
       case measure => have := HK1.out; omega
       case rel => exact ⟨(x6_1 ++ (strOfNums y354)), (wrap64 (x7_1 + 1)), (by first | rfl | (simp; done) | (simp [*]; done)), (by first | rfl | (simp; done) | (simp [*]; done)), H', ⟨by have := HK1.out; omega⟩, ⟨by (with_reducible repeat (first | apply Kd.R_alloc | apply Kd.R_drewN | apply Kd.R_drew)); exact HO_3.out⟩, ⟨by repeat (first | (with_reducible first | exact HB.out | apply below_alloc | apply pw_below_drewN | apply below_drew1) | exact HB.out)⟩⟩
      ·rw [if_neg c7] at H
       exact absurd H (by simp)
     ·rw [if_neg c6] at H
      exact absurd H (by simp)
    ·rw [if_neg c5] at H
     have c5b0 : decide (t348 < 0) = false := decide_eq_false c5
     clear c5
     obtain rfl := Option.some.inj H
     obtain ⟨Ao13, co13, eo13⟩ := Kd.R_slice HO_3.out
     subst eo13
     go_wp2
     go_ret
     exact ⟨by first | rfl | (simp [errW_none, errW_some] <;> rfl) | (simp [*, errW_none, errW_some] <;> rfl), by repeat (first | (with_reducible first | exact HB.out | apply below_alloc | apply pw_below_drewN | apply below_drew1) | exact HB.out)⟩
   ·rw [if_neg c4] at H
    have c4b0 : decide (x7_1 < (t346.length : Int)) = false := decide_eq_false c4
    clear c4
    obtain rfl := Option.some.inj H
    obtain ⟨Ao14, co14, eo14⟩ := Kd.R_slice HO_3.out
    subst eo14
    go_wp2
    go_ret
    exact ⟨by first | rfl | (simp [errW_none, errW_some] <;> rfl) | (simp [*, errW_none, errW_some] <;> rfl), by repeat (first | (with_reducible first | exact HB.out | apply below_alloc | apply pw_below_drewN | apply below_drew1) | exact HB.out)⟩

/-! ### recensionlaw6_ScanNames: function 12 -/
mutual
def recensionlaw6_ScanNames.j0 : Nat → Int → Int → Bool → Option (Bool)
 | 0, _, _, _ => none
 | k + 1, x0, x1, x19 => if x19 = true then (some true) else (recensionlaw6_ScanNames.l0 k x0 x1 (⟨#[]⟩ : ByteArray) 0)
def recensionlaw6_ScanNames.l0 : Nat → Int → Int → ByteArray → Int → Option (Bool)
 | 0, _, _, _, _ => none
 | k + 1, x0, x1, x6, x7 => if x7 < x0 then ((some (([97 + (((x1 + ((x7) % 256)) % 256) % 26)] : List Int) : List Int)).bind fun y358 => (if x6.size + (strOfNums y358).size ≤ 9223372036854775807 then (recensionlaw6_ScanNames.l0 k x0 x1 (x6 ++ (strOfNums y358)) (wrap64 (x7 + 1))) else (none))) else (if 2 + x6.size ≤ 9223372036854775807 then ((scan_Scan.f ((⟨#[32, 32]⟩ : ByteArray) ++ x6)).bind fun bt361 => (if ((bt361.2.2 == (-1)) == (decide (x0 ≤ 24))) = true then (if bt361.2.2 = (-1) then ((recensionlaw6_kinds.f k (⟨#[102, 111, 114, 120]⟩ : ByteArray)).bind fun t368 => (if t368.toList = ([49, 54, 55] : List UInt8) then ((recensionlaw6_kinds.f k (⟨#[102, 111, 114]⟩ : ByteArray)).bind fun t369 => (some (t369.toList == ([53, 55] : List UInt8)))) else (some false))) else (if bt361.2.2 = 2 then ((recensionlaw6_kinds.f k (⟨#[102, 111, 114, 120]⟩ : ByteArray)).bind fun t370 => (if t370.toList = ([49, 54, 55] : List UInt8) then ((recensionlaw6_kinds.f k (⟨#[102, 111, 114]⟩ : ByteArray)).bind fun t371 => (some (t371.toList == ([53, 55] : List UInt8)))) else (some false))) else (some false))) else (some false))) else (none))
end
def recensionlaw6_ScanNames.f (k : Nat) (a0 : Int) (a1 : Int) : Option (Bool) := (recensionlaw6_begun.f).bind fun t357 => (if t357 = true then (if a0 < 1 then (recensionlaw6_ScanNames.j0 k a0 a1 true) else (recensionlaw6_ScanNames.j0 k a0 a1 (decide (a0 > 40)))) else (some false))
theorem recensionlaw6_ScanNames.mono_l : ∀ k, (∀ y0 y1 y2, LeO (recensionlaw6_ScanNames.j0 k y0 y1 y2) (recensionlaw6_ScanNames.j0 (k + 1) y0 y1 y2)) ∧ (∀ y0 y1 y2 y3, LeO (recensionlaw6_ScanNames.l0 k y0 y1 y2 y3) (recensionlaw6_ScanNames.l0 (k + 1) y0 y1 y2 y3))
 | 0 => ⟨fun _ _ _ r h => by simp [recensionlaw6_ScanNames.j0] at h, fun _ _ _ _ r h => by simp [recensionlaw6_ScanNames.l0] at h⟩
 | k + 1 => by
  obtain ⟨ih0, ih1⟩ := recensionlaw6_ScanNames.mono_l k
  refine ⟨?_, ?_⟩
  ·intro y0 y1 y2
   unfold recensionlaw6_ScanNames.j0
   repeat' first
   | (with_reducible exact ih0 _ _ _)
   | (with_reducible exact ih1 _ _ _ _)
   | (with_reducible exact recensionlaw6_kinds.mono _ _)
   | (with_reducible exact LeO.refl _)
   | (with_reducible exact LeO.none _)
   | (with_reducible refine LeO.ite ?_ ?_)
   | (with_reducible refine LeO.bind ?_ (fun _ => ?_))
   | exact ih0 _ _ _
   | exact ih1 _ _ _ _
   | exact recensionlaw6_kinds.mono _ _
   | exact LeO.none _
   | refine LeO.ite ?_ ?_
   | refine LeO.bind ?_ (fun _ => ?_)
  ·intro y0 y1 y2 y3
   unfold recensionlaw6_ScanNames.l0
   repeat' first
   | (with_reducible exact ih0 _ _ _)
   | (with_reducible exact ih1 _ _ _ _)
   | (with_reducible exact recensionlaw6_kinds.mono _ _)
   | (with_reducible exact LeO.refl _)
   | (with_reducible exact LeO.none _)
   | (with_reducible refine LeO.ite ?_ ?_)
   | (with_reducible refine LeO.bind ?_ (fun _ => ?_))
   | exact ih0 _ _ _
   | exact ih1 _ _ _ _
   | exact recensionlaw6_kinds.mono _ _
   | exact LeO.none _
   | refine LeO.ite ?_ ?_
   | refine LeO.bind ?_ (fun _ => ?_)
theorem recensionlaw6_ScanNames.mono : ∀ a0 a1 k, LeO (recensionlaw6_ScanNames.f k a0 a1) (recensionlaw6_ScanNames.f (k + 1) a0 a1) := by
 intro a0 a1 k
 obtain ⟨ih0, ih1⟩ := recensionlaw6_ScanNames.mono_l k
 unfold recensionlaw6_ScanNames.f
 repeat' first
   | (with_reducible exact ih0 _ _ _)
   | (with_reducible exact ih1 _ _ _ _)
   | (with_reducible exact recensionlaw6_kinds.mono _ _)
   | (with_reducible exact LeO.refl _)
   | (with_reducible exact LeO.none _)
   | (with_reducible refine LeO.ite ?_ ?_)
   | (with_reducible refine LeO.bind ?_ (fun _ => ?_))
   | exact ih0 _ _ _
   | exact ih1 _ _ _ _
   | exact recensionlaw6_kinds.mono _ _
   | exact LeO.none _
   | refine LeO.ite ?_ ?_
   | refine LeO.bind ?_ (fun _ => ?_)
set_option maxHeartbeats 8000000 in
set_option maxRecDepth 100000 in
theorem recensionlaw6_ScanNames.calls (k : Nat) (a0 : Int) (a1 : Int) (r : Bool) (w : World) (hrt : Aside0 (r = true)) (hT : Aside0 (Tabs w)) (h : recensionlaw6_ScanNames.f k a0 a1 = some r) :
  Calls Tryd.prog 12 #[.int .i64 a0, .int .u8 a1] w fun e w' => e = .returned (.bool r) ∧ Below w.heap.size w w' := by
 have HB := Aside0.mk (Below.refl w.heap.size w)
 have H : ((recensionlaw6_begun.f).bind fun t357 => (if t357 = true then (if a0 < 1 then (recensionlaw6_ScanNames.j0 k a0 a1 true) else (recensionlaw6_ScanNames.j0 k a0 a1 (decide (a0 > 40)))) else (some false))) = some r := h
 clear h
 replace H := Option.bind_eq_some_iff.mp H
 obtain ⟨t357, A30, H⟩ := H
 replace H : (if t357 = true then (if a0 < 1 then (recensionlaw6_ScanNames.j0 k a0 a1 true) else (recensionlaw6_ScanNames.j0 k a0 a1 (decide (a0 > 40)))) else (some false)) = some r := H
 have A3 := Aside0.mk A30
 clear A30
 by_cases c4 : t357 = true
 ·subst c4
  have H1 : (if a0 < 1 then (recensionlaw6_ScanNames.j0 k a0 a1 true) else (recensionlaw6_ScanNames.j0 k a0 a1 (decide (a0 > 40)))) = some r := by rw [if_pos rfl] at H; exact H
  clear H
  have H := H1
  clear H1
  have HC5 := Aside0.mk H
  clear H
  go_enter Tryd.func12, Tryd.ntmps12
  go_upto_region 4 with (first | ((with_reducible refine gate_callee (f := 13) rfl ?_); refine goesL_ (some 11) rfl rfl Tryd.func13 (by kernel_rfl) rfl #[] rfl (by (try simp only [List.map_toArray, List.map_cons, List.map_nil]); first | done | rfl | (simp only [List.length_drop, List.length_take]; rfl) | (simp only [wrap64_wl, wrap64_wr]; rfl)) ?_; (with_reducible refine (recensionlaw6_begun.calls  true _ (Aside0.mk (tabs_at hT.out (by repeat (first | (with_reducible first | exact HB.out | apply below_alloc | apply pw_below_drewN | apply below_drew1) | exact HB.out)))) A3.out).mono ?_); rintro e w6 ⟨rfl, hb⟩; refine ⟨_, rfl, ?_⟩; have n0_ := Aside0.mk (below_step (by repeat (first | (with_reducible first | exact HB.out | apply below_alloc | apply pw_below_drewN | apply below_drew1) | exact HB.out)) hb); clear HB; have HB := n0_; clear n0_; (try clear hb); (try clear hb2); (try clear hk); (try clear hi)))
  (try simp only [Act.put, List.setIfInBounds_toArray, List.set_cons_zero, List.set_cons_succ])
  go_cut [19] (fun v19 wc => ∃ (kq : Nat) (x19_4 : Bool), v19 = .bool x19_4 ∧ Aside0 (recensionlaw6_ScanNames.j0 kq a0 a1 x19_4 = some r) ∧ Aside0 (kq ≤ k) ∧ Aside0 (Below w.heap.size w wc))
  case first =>
   have H := HC5.out
   clear HC5
   by_cases c7 : a0 < 1
   ·rw [if_pos c7] at H
    have c7b0 : decide (a0 < 1) = true := decide_eq_true c7
    clear c7
    (first | rw [c7b0] | (simp only [i64_w, i32_w]; rw [c7b0]) | skip)
    have H' := Aside0.mk H
    clear H
    go_wp2
    go_meet
    case rel => exact ⟨_, (true), (by first | rfl | (simp; done) | (simp [*]; done)), H', ⟨by first | omega | exact Nat.le_refl _⟩, ⟨by repeat (first | (with_reducible first | exact HB.out | apply below_alloc | apply pw_below_drewN | apply below_drew1) | exact HB.out)⟩⟩
   ·rw [if_neg c7] at H
    have c7b0 : decide (a0 < 1) = false := decide_eq_false c7
    clear c7
    (first | rw [c7b0] | (simp only [i64_w, i32_w]; rw [c7b0]) | skip)
    have H' := Aside0.mk H
    clear H
    go_wp2
    go_meet
    case rel => exact ⟨_, (decide (a0 > 40)), (by first | rfl | (simp; done) | (simp [*]; done)), H', ⟨by first | omega | exact Nat.le_refl _⟩, ⟨by repeat (first | (with_reducible first | exact HB.out | apply below_alloc | apply pw_below_drewN | apply below_drew1) | exact HB.out)⟩⟩
  case rest =>
   clear HC5
   try clear c1
   try clear p2
   try clear c4
   try clear p6
   try clear c7
   try clear c7b0
   obtain ⟨kq, x19_4, rfl, HA, HJ4, HB⟩ := hcut
   cases kq with
   | zero => exact absurd HA.out (by simp [recensionlaw6_ScanNames.j0])
   | succ kj4 =>
    have H := HA.out
    clear HA
    simp only [recensionlaw6_ScanNames.j0] at H
    by_cases c8 : x19_4 = true
    ·subst c8
     have H1 : (some true) = some r := by rw [if_pos rfl] at H; exact H
     clear H
     have H := H1
     clear H1
     obtain rfl := Option.some.inj H
     go_wp2
     go_ret
     exact ⟨by first | rfl | (simp [errW_none, errW_some] <;> rfl) | (simp [*, errW_none, errW_some] <;> rfl), by repeat (first | (with_reducible first | exact HB.out | apply below_alloc | apply pw_below_drewN | apply below_drew1) | exact HB.out)⟩
    ·replace c8 := Bool.eq_false_iff.mpr c8
     subst c8
     have H1 : (recensionlaw6_ScanNames.l0 kj4 a0 a1 (⟨#[]⟩ : ByteArray) 0) = some r := by rw [if_neg (show ¬ (false = true) by decide)] at H; exact H
     clear H
     have H := H1
     clear H1
     have H' := Aside0.mk H
     clear H
     go_wp2
     go_loopg [6, 7] kj4 (fun kq v6 v7 w' => ∃ (x6_2 : ByteArray) (x7_2 : Int), v6 = .string x6_2 ∧ v7 = .int .i64 x7_2 ∧ Aside0 (recensionlaw6_ScanNames.l0 kq a0 a1 x6_2 x7_2 = some r) ∧ Aside0 (kq ≤ kj4) ∧ Aside0 (Below w.heap.size w w'))
     case atStart => exact ⟨((⟨#[]⟩ : ByteArray)), (0), (by first | rfl | (simp; done) | (simp [*]; done)), (by first | rfl | (simp; done) | (simp [*]; done)), H', ⟨Nat.le_refl _⟩, ⟨by repeat (first | (with_reducible first | exact HB.out | apply below_alloc | apply pw_below_drewN | apply below_drew1) | exact HB.out)⟩⟩
     case round =>
      clear H'
      try clear c1
      try clear p2
      try clear c4
      try clear p6
      try clear c7
      try clear c7b0
      try clear c8
      try clear p2
      try clear p6
      obtain ⟨x6_2, x7_2, rfl, rfl, HA, HK2, HB⟩ := hrel
      cases gk with
      | zero => exact absurd HA.out (by simp [recensionlaw6_ScanNames.l0])
      | succ k2 =>
       have H := HA.out
       clear HA
       simp only [recensionlaw6_ScanNames.l0] at H
       by_cases c9 : x7_2 < a0
       ·rw [if_pos c9] at H
        have c9b0 : decide (x7_2 < a0) = true := decide_eq_true c9
        clear c9
        obtain ⟨y358, hy358⟩ : ∃ y_ : List Int, y_ = (([97 + (((a1 + ((x7_2) % 256)) % 256) % 26)] : List Int)) := ⟨_, rfl⟩
        replace H : (if x6_2.size + (strOfNums y358).size ≤ 9223372036854775807 then (recensionlaw6_ScanNames.l0 k2 a0 a1 (x6_2 ++ (strOfNums y358)) (wrap64 (x7_2 + 1))) else (none)) = some r := by first | (rw [hy358]; with_reducible exact H) | (have H2_ := (Option.bind_some _ _).symm.trans H; rw [hy358]; with_reducible exact H2_) | (have H2_ := (Option.bind_some _ _).symm.trans H; with_reducible exact H2_) | with_reducible exact H | (rw [hy358]; exact H) | exact H
        have Ny358 := Aside0.mk hy358
        clear hy358
        by_cases c10 : x6_2.size + (strOfNums y358).size ≤ 9223372036854775807
        ·rw [if_pos c10] at H
         have c10b0 := eq_true c10
         have c10b1 : decide (x6_2.size + (strOfNums y358).size ≤ 9223372036854775807) = true := decide_eq_true c10
         try have c10b2 : (9223372036854775807 < x6_2.size + (strOfNums y358).size) = False := eq_false (Nat.not_lt.2 c10)
         have H' := Aside0.mk H
         clear H
         go_wp2_with (first | ((with_reducible refine gate_dst (N := 32) rfl ?_); refine Kd.R_lit (Kd.int .u8) _ 5 ?hg (N := 32) ?hd (xs := ([97 + (((a1 + ((x7_2) % 256)) % 256) % 26)] : List Int)) (inner := [.int .u8 (97 + (((a1 + ((x7_2) % 256)) % 256) % 26))]) (ok := fun _ => True) (okp := fun _ => True) ?hr ?hp (fun _ hk => hk) trivial (Below.refl _ _) (Nat.le_refl _) (by simp) ?_; (case hd => rfl); (case hg => rfl); (case hr => first | (go_simp; done) | (go_simp; rfl)); (case hp => exact (Reps.one (show Kd.M (Kd.int .u8) _ _ _ (97 + (((a1 + ((x7_2) % 256)) % 256) % 26)) [.int .u8 (97 + (((a1 + ((x7_2) % 256)) % 256) % 26))] from rfl) (Reps.none _ _))); intro v359 w11 ho12 hb hg_ hnew_; clear hg_ hnew_; (first | rw [← Ny358.out] at ho12 | (simp only [Int.reduceToNat] at ho12; rw [← Ny358.out] at ho12)); have n0_ := Aside0.mk (Kd.R_lower ho12 (below_size (by repeat (first | (with_reducible first | exact HB.out | apply below_alloc | apply pw_below_drewN | apply below_drew1) | exact HB.out)))); have n1_ := Aside0.mk (below_step (by repeat (first | (with_reducible first | exact HB.out | apply below_alloc | apply pw_below_drewN | apply below_drew1) | exact HB.out)) hb); clear HB; have HO360 := n0_; have HB := n1_; clear n0_ n1_; clear hb ho12; have hcv13 := own_string (P := Tryd.prog) Tryd.underlying23 Tryd.underlying5 Tryd.underlying9 (Kd.own_of_R HO360.out); have hcv14 := fun nd_ : Nat => own_string (P := Tryd.prog) Tryd.underlying23 Tryd.underlying5 Tryd.underlying9 (Kd.own_of_R (Kd.R_drewN HO360.out nd_))))
         go_roundg k2
         case measure => have := HJ4.out; have := HK2.out; omega
         case rel => exact ⟨(x6_2 ++ (strOfNums y358)), (wrap64 (x7_2 + 1)), (by first | rfl | (simp; done) | (simp [*]; done)), (by first | rfl | (simp; done) | (simp [*]; done)), H', ⟨by have := HJ4.out; have := HK2.out; omega⟩, ⟨by repeat (first | (with_reducible first | exact HB.out | apply below_alloc | apply pw_below_drewN | apply below_drew1) | exact HB.out)⟩⟩
        ·rw [if_neg c10] at H
         exact absurd H (by simp)
       ·rw [if_neg c9] at H
        have c9b0 : decide (x7_2 < a0) = false := decide_eq_false c9
        clear c9
        by_cases c15 : 2 + x6_2.size ≤ 9223372036854775807
        ·rw [if_pos c15] at H
         have c15b0 := eq_true c15
         have c15b1 : decide (2 + x6_2.size ≤ 9223372036854775807) = true := decide_eq_true c15
         try have c15b2 : (9223372036854775807 < 2 + x6_2.size) = False := eq_false (Nat.not_lt.2 c15)
         replace H := Option.bind_eq_some_iff.mp H
         obtain ⟨⟨t361, t362, t363⟩, A160, H⟩ := H
         replace H : (if ((t363 == (-1)) == (decide (a0 ≤ 24))) = true then (if t363 = (-1) then ((recensionlaw6_kinds.f k2 (⟨#[102, 111, 114, 120]⟩ : ByteArray)).bind fun t368 => (if t368.toList = ([49, 54, 55] : List UInt8) then ((recensionlaw6_kinds.f k2 (⟨#[102, 111, 114]⟩ : ByteArray)).bind fun t369 => (some (t369.toList == ([53, 55] : List UInt8)))) else (some false))) else (if t363 = 2 then ((recensionlaw6_kinds.f k2 (⟨#[102, 111, 114, 120]⟩ : ByteArray)).bind fun t370 => (if t370.toList = ([49, 54, 55] : List UInt8) then ((recensionlaw6_kinds.f k2 (⟨#[102, 111, 114]⟩ : ByteArray)).bind fun t371 => (some (t371.toList == ([53, 55] : List UInt8)))) else (some false))) else (some false))) else (some false)) = some r := H
         have A16 := Aside0.mk A160
         clear A160
         by_cases c17 : ((t363 == (-1)) == (decide (a0 ≤ 24))) = true
         ·rw [if_pos c17] at H
          have c17b0 : ((t363 == (-1)) == (decide (a0 ≤ 24))) = true := c17
          (try (have c17b1 : decide ((t363 == (-1)) = (decide (a0 ≤ 24))) = true := by simpa using c17))
          (try (have c17b2 : ((t363 == (-1)) == (decide (a0 ≤ 24))) = true := by simpa using c17))
          clear c17
          by_cases c18 : t363 = (-1)
          ·rw [if_pos c18] at H
           have c18b0 : (t363 == (-1)) = true := beq_iff_eq.mpr c18
           (try (have zc18d : decide (a0 ≤ 24) = true := by have q_ := c17b0; rw [c18b0] at q_; simpa using q_))
           have c18b1 : (t363 != (-1)) = false := bne_eq_false_iff_eq.mpr c18
           clear c18
           replace H := Option.bind_eq_some_iff.mp H
           obtain ⟨t368, A190, H⟩ := H
           replace H : (if t368.toList = ([49, 54, 55] : List UInt8) then ((recensionlaw6_kinds.f k2 (⟨#[102, 111, 114]⟩ : ByteArray)).bind fun t369 => (some (t369.toList == ([53, 55] : List UInt8)))) else (some false)) = some r := H
           have A19 := Aside0.mk A190
           clear A190
           by_cases c20 : t368.toList = ([49, 54, 55] : List UInt8)
           ·rw [if_pos c20] at H
            have c20b0 : (t368.toList == ([49, 54, 55] : List UInt8)) = true := beq_iff_eq.mpr c20
            have c20b1 : (t368.toList != ([49, 54, 55] : List UInt8)) = false := bne_eq_false_iff_eq.mpr c20
            clear c20
            replace H := Option.bind_eq_some_iff.mp H
            obtain ⟨t369, A210, H⟩ := H
            replace H : (some (t369.toList == ([53, 55] : List UInt8))) = some r := H
            have A21 := Aside0.mk A210
            clear A210
            obtain rfl := Option.some.inj H
            go_wp2_with (first | ((with_reducible refine gate_callee (f := 14) rfl ?_); refine goesL_ (some 38) rfl rfl Tryd.func14 (by kernel_rfl) rfl #[.string ((⟨#[32, 32]⟩ : ByteArray) ++ x6_2)] rfl (by (try simp only [List.map_toArray, List.map_cons, List.map_nil]); first | done | rfl | (simp only [List.length_drop, List.length_take]; rfl) | (simp only [wrap64_wl, wrap64_wr]; rfl)) ?_; (with_reducible refine (scan_Scan.calls ((⟨#[32, 32]⟩ : ByteArray) ++ x6_2) t361 t362 t363 _ (Aside0.mk (tabs_at hT.out (by repeat (first | (with_reducible first | exact HB.out | apply below_alloc | apply pw_below_drewN | apply below_drew1) | exact HB.out)))) A16.out).mono ?_); rintro e w22 ⟨v364, v366, rfl, ho0, ho1, hb⟩; refine ⟨_, rfl, ?_⟩; have n0_ := Aside0.mk (Kd.R_lower ho0 (below_size (by repeat (first | (with_reducible first | exact HB.out | apply below_alloc | apply pw_below_drewN | apply below_drew1) | exact HB.out)))); have n1_ := Aside0.mk (Kd.R_lower ho1 (below_size (by repeat (first | (with_reducible first | exact HB.out | apply below_alloc | apply pw_below_drewN | apply below_drew1) | exact HB.out)))); have n2_ := Aside0.mk (below_step (by repeat (first | (with_reducible first | exact HB.out | apply below_alloc | apply pw_below_drewN | apply below_drew1) | exact HB.out)) hb); clear HB; have HO365 := n0_; have HO367 := n1_; have HB := n2_; clear n0_ n1_ n2_; (try clear hb); (try clear hb2); (try clear hk); (try clear hi); (try clear ho0); (try clear ho1)) | (go_at_call 19; (with_reducible refine (recensionlaw6_kinds.calls k2 (⟨#[102, 111, 114, 120]⟩ : ByteArray) t368 _ (Aside0.mk (tabs_at hT.out (by repeat (first | (with_reducible first | exact HB.out | apply below_alloc | apply pw_below_drewN | apply below_drew1) | exact HB.out)))) A19.out).mono ?_); rintro e w23 ⟨rfl, hb⟩; have n0_ := Aside0.mk (Kd.R_below (by (with_reducible repeat (first | apply Kd.R_alloc | apply Kd.R_drewN | apply Kd.R_drew)); exact HO365.out) hb); have n1_ := Aside0.mk (Kd.R_below (by (with_reducible repeat (first | apply Kd.R_alloc | apply Kd.R_drewN | apply Kd.R_drew)); exact HO367.out) hb); have n2_ := Aside0.mk (below_step (by repeat (first | (with_reducible first | exact HB.out | apply below_alloc | apply pw_below_drewN | apply below_drew1) | exact HB.out)) hb); clear HO365; clear HO367; clear HB; have HO365 := n0_; have HO367 := n1_; have HB := n2_; clear n0_ n1_ n2_; (try clear hb); (try clear hb2); (try clear hk); (try clear hi)) | (go_at_call 19; (with_reducible refine (recensionlaw6_kinds.calls k2 (⟨#[102, 111, 114]⟩ : ByteArray) t369 _ (Aside0.mk (tabs_at hT.out (by repeat (first | (with_reducible first | exact HB.out | apply below_alloc | apply pw_below_drewN | apply below_drew1) | exact HB.out)))) A21.out).mono ?_); rintro e w24 ⟨rfl, hb⟩; have n0_ := Aside0.mk (Kd.R_below (by (with_reducible repeat (first | apply Kd.R_alloc | apply Kd.R_drewN | apply Kd.R_drew)); exact HO365.out) hb); have n1_ := Aside0.mk (Kd.R_below (by (with_reducible repeat (first | apply Kd.R_alloc | apply Kd.R_drewN | apply Kd.R_drew)); exact HO367.out) hb); have n2_ := Aside0.mk (below_step (by repeat (first | (with_reducible first | exact HB.out | apply below_alloc | apply pw_below_drewN | apply below_drew1) | exact HB.out)) hb); clear HO365; clear HO367; clear HB; have HO365 := n0_; have HO367 := n1_; have HB := n2_; clear n0_ n1_ n2_; (try clear hb); (try clear hb2); (try clear hk); (try clear hi)))
            go_ret
            exact ⟨by first | rfl | (simp [errW_none, errW_some] <;> rfl) | (simp [*, errW_none, errW_some] <;> rfl), by repeat (first | (with_reducible first | exact HB.out | apply below_alloc | apply pw_below_drewN | apply below_drew1) | exact HB.out)⟩
           ·rw [if_neg c20] at H
            have c20b0 : (t368.toList == ([49, 54, 55] : List UInt8)) = false := beq_eq_false_iff_ne.mpr c20
            have c20b1 : (t368.toList != ([49, 54, 55] : List UInt8)) = true := bne_iff_ne.mpr c20
            exact absurd (H.trans (congrArg some hrt.out)) (by simp)
          ·rw [if_neg c18] at H
           have c18b0 : (t363 == (-1)) = false := beq_eq_false_iff_ne.mpr c18
           (try (have zc18d : decide (a0 ≤ 24) = false := by have q_ := c17b0; rw [c18b0] at q_; simpa using q_))
           have c18b1 : (t363 != (-1)) = true := bne_iff_ne.mpr c18
           by_cases c25 : t363 = 2
           ·rw [if_pos c25] at H
            have c25b0 : (t363 == 2) = true := beq_iff_eq.mpr c25
            have c25b1 : (t363 != 2) = false := bne_eq_false_iff_eq.mpr c25
            clear c25
            replace H := Option.bind_eq_some_iff.mp H
            obtain ⟨t370, A260, H⟩ := H
            replace H : (if t370.toList = ([49, 54, 55] : List UInt8) then ((recensionlaw6_kinds.f k2 (⟨#[102, 111, 114]⟩ : ByteArray)).bind fun t371 => (some (t371.toList == ([53, 55] : List UInt8)))) else (some false)) = some r := H
            have A26 := Aside0.mk A260
            clear A260
            by_cases c27 : t370.toList = ([49, 54, 55] : List UInt8)
            ·rw [if_pos c27] at H
             have c27b0 : (t370.toList == ([49, 54, 55] : List UInt8)) = true := beq_iff_eq.mpr c27
             have c27b1 : (t370.toList != ([49, 54, 55] : List UInt8)) = false := bne_eq_false_iff_eq.mpr c27
             clear c27
             replace H := Option.bind_eq_some_iff.mp H
             obtain ⟨t371, A280, H⟩ := H
             replace H : (some (t371.toList == ([53, 55] : List UInt8))) = some r := H
             have A28 := Aside0.mk A280
             clear A280
             obtain rfl := Option.some.inj H
             go_wp2_with (first | ((with_reducible refine gate_callee (f := 14) rfl ?_); refine goesL_ (some 38) rfl rfl Tryd.func14 (by kernel_rfl) rfl #[.string ((⟨#[32, 32]⟩ : ByteArray) ++ x6_2)] rfl (by (try simp only [List.map_toArray, List.map_cons, List.map_nil]); first | done | rfl | (simp only [List.length_drop, List.length_take]; rfl) | (simp only [wrap64_wl, wrap64_wr]; rfl)) ?_; (with_reducible refine (scan_Scan.calls ((⟨#[32, 32]⟩ : ByteArray) ++ x6_2) t361 t362 t363 _ (Aside0.mk (tabs_at hT.out (by repeat (first | (with_reducible first | exact HB.out | apply below_alloc | apply pw_below_drewN | apply below_drew1) | exact HB.out)))) A16.out).mono ?_); rintro e w29 ⟨v364, v366, rfl, ho0, ho1, hb⟩; refine ⟨_, rfl, ?_⟩; have n0_ := Aside0.mk (Kd.R_lower ho0 (below_size (by repeat (first | (with_reducible first | exact HB.out | apply below_alloc | apply pw_below_drewN | apply below_drew1) | exact HB.out)))); have n1_ := Aside0.mk (Kd.R_lower ho1 (below_size (by repeat (first | (with_reducible first | exact HB.out | apply below_alloc | apply pw_below_drewN | apply below_drew1) | exact HB.out)))); have n2_ := Aside0.mk (below_step (by repeat (first | (with_reducible first | exact HB.out | apply below_alloc | apply pw_below_drewN | apply below_drew1) | exact HB.out)) hb); clear HB; have HO365 := n0_; have HO367 := n1_; have HB := n2_; clear n0_ n1_ n2_; (try clear hb); (try clear hb2); (try clear hk); (try clear hi); (try clear ho0); (try clear ho1)) | (go_at_call 19; (with_reducible refine (recensionlaw6_kinds.calls k2 (⟨#[102, 111, 114, 120]⟩ : ByteArray) t370 _ (Aside0.mk (tabs_at hT.out (by repeat (first | (with_reducible first | exact HB.out | apply below_alloc | apply pw_below_drewN | apply below_drew1) | exact HB.out)))) A26.out).mono ?_); rintro e w30 ⟨rfl, hb⟩; have n0_ := Aside0.mk (Kd.R_below (by (with_reducible repeat (first | apply Kd.R_alloc | apply Kd.R_drewN | apply Kd.R_drew)); exact HO365.out) hb); have n1_ := Aside0.mk (Kd.R_below (by (with_reducible repeat (first | apply Kd.R_alloc | apply Kd.R_drewN | apply Kd.R_drew)); exact HO367.out) hb); have n2_ := Aside0.mk (below_step (by repeat (first | (with_reducible first | exact HB.out | apply below_alloc | apply pw_below_drewN | apply below_drew1) | exact HB.out)) hb); clear HO365; clear HO367; clear HB; have HO365 := n0_; have HO367 := n1_; have HB := n2_; clear n0_ n1_ n2_; (try clear hb); (try clear hb2); (try clear hk); (try clear hi)) | (go_at_call 19; (with_reducible refine (recensionlaw6_kinds.calls k2 (⟨#[102, 111, 114]⟩ : ByteArray) t371 _ (Aside0.mk (tabs_at hT.out (by repeat (first | (with_reducible first | exact HB.out | apply below_alloc | apply pw_below_drewN | apply below_drew1) | exact HB.out)))) A28.out).mono ?_); rintro e w31 ⟨rfl, hb⟩; have n0_ := Aside0.mk (Kd.R_below (by (with_reducible repeat (first | apply Kd.R_alloc | apply Kd.R_drewN | apply Kd.R_drew)); exact HO365.out) hb); have n1_ := Aside0.mk (Kd.R_below (by (with_reducible repeat (first | apply Kd.R_alloc | apply Kd.R_drewN | apply Kd.R_drew)); exact HO367.out) hb); have n2_ := Aside0.mk (below_step (by repeat (first | (with_reducible first | exact HB.out | apply below_alloc | apply pw_below_drewN | apply below_drew1) | exact HB.out)) hb); clear HO365; clear HO367; clear HB; have HO365 := n0_; have HO367 := n1_; have HB := n2_; clear n0_ n1_ n2_; (try clear hb); (try clear hb2); (try clear hk); (try clear hi)))
             go_ret
             exact ⟨by first | rfl | (simp [errW_none, errW_some] <;> rfl) | (simp [*, errW_none, errW_some] <;> rfl), by repeat (first | (with_reducible first | exact HB.out | apply below_alloc | apply pw_below_drewN | apply below_drew1) | exact HB.out)⟩
            ·rw [if_neg c27] at H
             have c27b0 : (t370.toList == ([49, 54, 55] : List UInt8)) = false := beq_eq_false_iff_ne.mpr c27
             have c27b1 : (t370.toList != ([49, 54, 55] : List UInt8)) = true := bne_iff_ne.mpr c27
             exact absurd (H.trans (congrArg some hrt.out)) (by simp)
           ·rw [if_neg c25] at H
            have c25b0 : (t363 == 2) = false := beq_eq_false_iff_ne.mpr c25
            have c25b1 : (t363 != 2) = true := bne_iff_ne.mpr c25
            exact absurd (H.trans (congrArg some hrt.out)) (by simp)
         ·rw [if_neg c17] at H
          have c17b0 : ((t363 == (-1)) == (decide (a0 ≤ 24))) = false := by simpa using c17
          (try (have c17b1 : decide ((t363 == (-1)) = (decide (a0 ≤ 24))) = false := by simpa using c17))
          (try (have c17b2 : ((t363 == (-1)) == (decide (a0 ≤ 24))) = false := by simpa using c17))
          (try (have c17b3 : ¬ ((t363 == (-1)) = (decide (a0 ≤ 24))) := by simpa using c17))
          clear c17
          exact absurd (H.trans (congrArg some hrt.out)) (by simp)
        ·rw [if_neg c15] at H
         exact absurd H (by simp)
 ·replace c4 := Bool.eq_false_iff.mpr c4
  subst c4
  have H1 : (some false) = some r := by rw [if_neg (show ¬ (false = true) by decide)] at H; exact H
  clear H
  have H := H1
  clear H1
  exact absurd (H.trans (congrArg some hrt.out)) (by simp)

/-- THE ONE PURE STATEMENT of recensionlaw6_ScanNames: yours. -/
def recensionlaw6_ScanNames.Pure : Prop := ∀ (a0 : Int) (a1 : Int), (Lit.int .i64 a0).wf = true → (Lit.int .u8 a1).wf = true → ∃ k, recensionlaw6_ScanNames.f k a0 a1 = some true
theorem recensionlaw6_ScanNames.walk (P : recensionlaw6_ScanNames.Pure) (a0 : Int) (a1 : Int) (w : World) (w0 : (Lit.int .i64 a0).wf = true) (w1 : (Lit.int .u8 a1).wf = true) (hT : Tabs w) :
  Calls Tryd.prog 12 #[.int .i64 a0, .int .u8 a1] w fun e w' => e = .returned (.bool true) ∧ Below w.heap.size w w' := by
 obtain ⟨k, h⟩ := P a0 a1 w0 w1
 refine (recensionlaw6_ScanNames.calls k a0 a1 true w ⟨rfl⟩ ⟨hT⟩ h).mono ?_
 rintro e w' ⟨rfl, hd⟩
 exact ⟨rfl, hd⟩

end Go.Proofs.YtohhnblaoihgbaaDoor.PScan
